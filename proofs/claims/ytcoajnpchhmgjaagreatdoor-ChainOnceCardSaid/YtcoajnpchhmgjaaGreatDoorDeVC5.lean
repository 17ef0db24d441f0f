/- The texts of this claim, put together. -/
import Derived.Test.YtcoajnpchhmgjaaGreatDoorDeVC4
import Derived.Lib.UnsafeStr
set_option linter.unusedSimpArgs false
set_option linter.unusedVariables false
set_option linter.unusedSectionVars false
set_option maxRecDepth 100000
open Go.Instr (loadAt fieldAt indexAt extract buildSlice build)
namespace Go.Proofs.YtcoajnpchhmgjaaGreatDoor
open Go
def P64:List Nat:=[2,3,5,7,11,13,17,19,23,29,31,37,41,43,47,53,59,61,67,71,73,79,83,89,97,101,103,107,109,113,127,131,137,139,149,151,157,163,167,173,179,181,191,193,197,199,211,223,227,229,233,239,241,251,257,263,269,271,277,281,283,293,307,311]
def RT:List Nat:=[5411319704,6194414737,7344290767,8215976869,9551921755,10098905585,11043570340,11460697813,12214315672,13195500289,13492127166,14311783875,14809980276,15046980094,15499789991,16133124468,16720292289,16907126662,17444216262,17784676812,17950125167,18429019306,18734950876,19175934170,19734090066,20001703533,20132865992,20390182855,20516441075,20764397895,21588763473,21813078375,22141143685,22248366392,22769593852,22871018771,23170020180,23461497531,23651862830,23931792517,24205322401,24295138891,24734567280,24820601251,24990902297,25075189284,25569408389,26045227120,26200031510,26276752392,26428864332,26653801653,26727943347,27092625994,27306805839,27517677555,27725365998,27793908591,27997534228,28131656200,28198240250,28526537963,28973835255,29099129074]
def RS:List Nat:=[6074000999,7439101573,9603838834,11363415354,14244795007,15485724812,17708603819,18721328409]
def H8:List W:=[1779033703,3144134277,1013904242,2773480762,1359893119,2600822924,528734635,1541459225]
theorem aX5:(List.range 64).all (λi=>decide ((RT.getD i 0)^3≤P64.getD i 0*4294967296^3)&&decide (P64.getD i 0*4294967296^3<(RT.getD i 0+1)^3)&&decide (RT.getD i 0%4294967296=(kT.getD i 0).toNat)&&decide (P64.getD i 0*4294967296^3<68719476736^3)&&decide (P64.getD i 0<4294967296))=true:=by kernel_rfl
theorem aX3:(List.range 8).all (λi=>decide ((RS.getD i 0)^2≤P64.getD i 0*4294967296^2)&&decide (P64.getD i 0*4294967296^2<(RS.getD i 0+1)^2)&&decide (RS.getD i 0%4294967296=(H8.getD i 0).toNat)&&decide (P64.getD i 0*4294967296^2<68719476736^2))=true:=by kernel_rfl
def aJd:Nat->List Nat->Nat->Option (List Nat)
 | 0,_,_=>none
 | f+1,out,x=>if out.length<64 then aJd f (if out.all (λd=>decide (x%d≠0)) then out++[x] else out) (x+1) else some out
theorem aRi:aJd 400 [] 2=some P64:=by kernel_rfl
theorem aPu{h:PH}{v:Value}{l:List Nat}(S:fY h 1 v (l.map oW))(i:Nat){k:cD}(hk:k (.int .u64 ((l.getD i 0:Nat):Int)) h):aT PG yG #[v,.int .i64 (i:Int)] h k:=by
 apply aBW.call
 unfold aBW
 have lv:=aJ1 S
 by_cases hl:i<l.length
 ·have g1:((i:Int)<(l.length:Int))=True:=eq_true (by omega)
  obtain⟨pa,p1,p2⟩:=aLX S (lS hl)
  simp only[lv,g1,p1,p2,cE,reduceIte]
  rw[aAM,lS hl] at hk
  exact hk
 ·have g1:((i:Int)<(l.length:Int))=False:=eq_false (by omega)
  simp only[lv,g1,cE,reduceIte]
  rw[aAM,List.getElem?_eq_none (by omega)] at hk
  exact hk
def aXm:List Value->PH->Nat:=λvs _=>match vs[2]? with
 | some (Value.int _ x)=>(x+1).toNat
 | _=>0
theorem aTt{h:PH}{v w:Value}{a b:List Nat}(S:fY h 1 v (a.map oW))(T:fY h 1 w (b.map oW))(ha:Dig a)(hb:Dig b)(hla:a.length≤1000)(hlb:b.length≤1000){k:cD}(hk:k (.bool (decide (jK b<jK a))) h):aT PG aCP #[v,w] h k:=by
 apply aBX.call
 unfold aBX
 have lv:=aJ1 S
 have lw:=aJ1 T
 have e1:IntKind.i64.wrap ((a.length:Int)+(b.length:Int))=((a.length+b.length+1:Nat):Int)-1:=by rw[eZ (by omega) (by omega)];omega
 simp only[lv,lw,e1,cE,reduceIte]
 have hA:jK a/4294967296^(a.length+b.length+1)=jK b/4294967296^(a.length+b.length+1):=by
  have h1:jK a<4294967296^(a.length+b.length+1):=aJw (aJU ha) (aJz (by decide) (by omega))
  have h2:jK b<4294967296^(a.length+b.length+1):=aJw (aJU hb) (aJz (by decide) (by omega))
  rw[Nat.div_eq_of_lt h1,Nat.div_eq_of_lt h2]
 refine⟨λvs h'=>∃m:Nat,m≤2001∧vs=[v,w,.int .i64 ((m:Int)-1)]∧h'=h∧jK a/4294967296^m=jK b/4294967296^m,aXm,⟨_,by omega,rfl,rfl,hA⟩,?_⟩
 rintro ρ h' ⟨m,hm,hvs,rfl,hq⟩
 simp only[iH,iU,lF,and_true] at hvs
 obtain⟨v0,v1,v5⟩:=hvs
 simp only[v0,v1,v5,iH,iU]
 unfold aFw
 cases m with
 | zero=>
  have g1:((0:Int)≤((0:Nat):Int)-1)=False:=eq_false (by decide)
  simp only[g1,cE,reduceIte]
  rw[Nat.pow_zero,Nat.div_one,Nat.div_one] at hq
  have:decide (jK b<jK a)=false:=by simp[hq]
  rw[this] at hk
  exact hk
 | succ m=>
  have g0:((m+1:Nat):Int)-1=(m:Int):=by omega
  have g1:((0:Int)≤(m:Int))=True:=eq_true (by omega)
  have g2:IntKind.i64.wrap ((m:Int)-1)=(m:Int)-1:=eZ (by omega) (by omega)
  rw[g0]
  simp only[g1,cE,reduceIte]
  refine aPu S m ?_
  refine aPu T m ?_
  have da:=aKI ha m
  have db:=aKI hb m
  have sa:jK a/4294967296^m/4294967296=jK a/4294967296^(m+1):=by rw[Nat.div_div_eq_div_mul,zLO]
  have sb:jK b/4294967296^m/4294967296=jK b/4294967296^(m+1):=by rw[Nat.div_div_eq_div_mul,zLO]
  have mono:∀{x y:Nat},x/4294967296^m<y/4294967296^m->x<y:=fun {x y} hxy=>by
   refine Nat.lt_of_not_le λhle=>?_
   have:=Nat.div_le_div_right (c:=4294967296^m) hle
   omega
  generalize a.getD m 0=p at *
  generalize b.getD m 0=q at *
  by_cases he:p=q
  ·subst he
   simp only[bne_self_eq_false,g2,cE,reduceIte]
   refine⟨⟨m,by omega,rfl,(by trivial),?_⟩,?_⟩
   ·omega
   ·simp only[aXm,sB,pI]
    omega
  ·have g3:((p:Int) !=(q:Int))=true:=by rw[bne_iff_ne];omega
   have g4:decide ((q:Int)<(p:Int))=decide (jK b<jK a):=by
    by_cases hlt:q<p
    ·have:jK b<jK a:=mono (by omega)
     have h2:(q:Int)<(p:Int):=by omega
     simp only[this,h2]
    ·have:jK a<jK b:=mono (by omega)
     have hn:¬jK b<jK a:=by omega
     have h2:¬(q:Int)<(p:Int):=by omega
     simp only[hn,h2]
   simp only[g3,aPZ,g4,cE,reduceIte]
   exact hk
theorem aUx{h:PH}(x n:Nat)(third:Bool)(hx:x≤68719476736)(hn:n<4294967296){k:cD}(hk:∀h',dC h h'->k (.bool (decide (x^(if third then 3 else 2)≤n*4294967296^(if third then 3 else 2)))) h'):
  aT PG aB7 #[.int .u64 (x:Int),.int .u64 (n:Int),.bool third] h k:=by
 apply aBB.call
 unfold aBB
 have b1:jS PG (buildSlice dY 1 #[(0,.int .u64 (x:Int))])=some (.cells #[.int .u64 (x:Int)] cA,λr=>pure (.slice (some ⟨r,0,none⟩) 1 1)):=by kernel_rfl
 simp only[b1,cE,reduceIte]
 intro r hr
 refine fT ?_
 try rw[cZ]
 have u1:dC h (h.set r (.cells #[.int .u64 (x:Int)] cA)):=cU.new hr
 have S1:fY (h.set r (.cells #[.int .u64 (x:Int)] cA)) 1 (.slice (some ⟨r,0,none⟩) 1 1) ([x].map oW):=(eS.lit (n:=1) (oW.rows [x]) dL (by simp) (by decide) rfl).slR
 generalize h.set r (.cells #[.int .u64 (x:Int)] cA)=h1 at *
 have key:∀t:Nat,1≤t->t≤2->(∀h',dC h h'->k (.bool (decide (x^(t+1)≤n*4294967296^(t+1)))) h')->xY k (.int .u64 (x:Int)) (.int .u64 (n:Int)) (.slice (some ⟨r,0,none⟩) 1 1) (.int .i64 (t:Int)) h1:=by
  intro t ht1 ht2 hkt
  unfold xY
  refine⟨λvs h'=>∃(j:Nat) (w:Value) (l:List Nat),j≤t∧vs=[.int .u64 (x:Int),.int .u64 (n:Int),w,.int .i64 (t:Int),.int .i64 (j:Int)]∧fY h' 1 w (l.map oW)∧(∀d∈l,d≤18446744069414584320)∧jK l<4294967296^(l.length+1)∧l.length≤1+4*j∧jK l=x^(j+1)∧(1≤j->Dig l)∧l≠[]∧dC h h',iE t 4,⟨0,_,[x],by omega,rfl,S1,by simp;omega,by simp only[jK,tT,zLK];omega,by simp,by simp[jK],by omega,by simp,u1⟩,?_⟩
  rintro ρ h' ⟨j,w,l,hj,hvs,S,hs,hd,hl,hv,hdg,hln,u⟩
  simp only[iH,iU,lF,and_true] at hvs
  obtain⟨v0,v1,v7,v8,v9⟩:=hvs
  simp only[v0,v1,v7,v8,v9,iH,iU]
  unfold aFn
  by_cases hlt:j<t
  ·have g1:((j:Int)<(t:Int))=True:=eq_true (by omega)
   have gi:=rA (i:=j) (by omega)
   simp only[g1,cE,reduceIte]
   refine aQj S hs hd (by omega) x (by omega) λh2 w2 l2 F2 O2 hd2 hl2 hv2 f2 u2=>?_
   simp only[gi,cE,reduceIte]
   refine⟨⟨j+1,w2,l2,by omega,rfl,O2.slR,λd hd=>by have:=hd2 d hd;omega,aJw (aJU hd2) (aJz (by decide) (by omega)),by omega,by rw[hv2,hv,←zLO],λ_=>hd2,aJL (by omega),u.trans u2⟩,?_⟩
   simp only[iE,sB,pI]
   omega
  ·have g1:((j:Int)<(t:Int))=False:=eq_false (by omega)
   have hjt:j=t:=by omega
   subst hjt
   have g2:IntKind.i64.wrap ((j:Int)+2)=((j+2:Nat):Int):=by rw[eZ (by omega) (by omega)];omega
   have g3:=rA (i:=j) (by omega)
   obtain⟨zs,m1,m2⟩:=aPS (h:=h) (n:=j+2) (by omega)
   simp only[g1,g2,g3,m1,cE,reduceIte]
   intro r2 hr2
   refine fT ?_
   try rw[cZ]
   have u2:dC h' (h'.set r2 (.cells zs cA (0,0))):=cU.new hr2
   have O2:aF3 (h'.set r2 (.cells zs cA (0,0))) (.slice (some ⟨r2,0,none⟩) (j+2) (j+2)) (List.replicate (j+2) 0) [r2]:=eS.lit (n:=j+2) (oW.rows _) dL (by simp) (by unfold rM;omega) m2
   generalize h'.set r2 (.cells zs cA (0,0))=h2 at *
   obtain⟨pb,q1,q2⟩:=O2.storeCell (t:=dY) (k:=.i64) (j:=j+1) dY.und cA.info cA.size cA.und rfl (by simp) (x:=.int .u64 (n:Int)) rfl
   simp only[q1,cE,reduceIte]
   refine q2 _ λh3 O3 u3=>?_
   have hrows:((List.replicate (j+2) 0).map oW).take (j+1)++[[(.int .u64 (n:Int):Value)]]++((List.replicate (j+2) 0).map oW).drop (j+1+1)=((List.replicate (j+2) 0).set (j+1) n).map oW:=by
    rw[List.set_eq_take_append_cons_drop,if_pos (by simp),qB,iH,aJG,aK4]
    simp[oW]
   rw[hrows] at O3
   have hdw:Dig ((List.replicate (j+2) 0).set (j+1) n):=λz hz=>by
    rcases List.mem_or_eq_of_mem_set hz with hz|rfl
    ·exact aK8 _ z hz
    ·exact hn
   have hvw:jK ((List.replicate (j+2) 0).set (j+1) n)=n*4294967296^(j+1):=by
    have:=aMm (List.replicate (j+2) 0) (j+1) n 0 (by rw[List.getElem?_replicate];simp)
    rw[aKD] at this
    omega
   have hr0:h r2=none:=u.none hr2
   have S3:=(S.ext u2).upd u3 (λa n' c e=>by
    simp only[fW]
    intro hh
    obtain⟨a0,c0,e0,_,_,hx0,_⟩:=S.here
    rw[e0] at e
    have hne:(l.map oW)≠[]:=by simpa using hln
    obtain⟨b,o,cs,e',fr,ha0,hb0,_⟩:=hx0 hne
    rw[ha0] at e
    simp only[Value.slice.injEq,zL5] at e
    rw[←e.1] at hh
    simp only at hh
    rw[hh,hr2] at hb0
    cases hb0)
   refine aTt S3 O3.slR (hdg ht1) hdw (by omega) (by simp;omega) ?_
   have hfin:=hkt h3 ((u.trans u2).fresh u3 (eP.one hr0))
   have e9:(!decide (jK ((List.replicate (j+2) 0).set (j+1) n)<jK l))=decide (x^(j+1)≤n*4294967296^(j+1)):=by
    rw[hvw,hv,zLl]
    simp
   simp only[e9,cE,reduceIte]
   exact hfin
 cases third with
 | true=>
  simp only[cE,reduceIte]
  exact key 2 (by omega) (by omega) hk
 | false=>
  simp only[cE,reduceIte]
  exact key 1 (by omega) (by omega) hk
def gap:List Value->PH->Nat:=λvs _=>match vs[2]? with
 | some (Value.int _ x)=>match vs[3]? with
  | some (Value.int _ y)=>(y-x).toNat
  | _=>0
 | _=>0
theorem aS1(x:Int):cV PG (convert cA cL (.int .u64 x))=some (.int .u32 (IntKind.u32.wrap x)):=by kernel_rfl
theorem aVA{k T r R:Nat}(h1:r^k≤T)(h2:T<(r+1)^k)(h3:R^k≤T)(h4:T<(R+1)^k):r=R:=by
 rcases Nat.lt_trichotomy r R with h|h|h
 ·have:=Nat.pow_le_pow_left (show r+1≤R by omega) k
  omega
 ·exact h
 ·have:=Nat.pow_le_pow_left (show R+1≤r by omega) k
  omega
theorem aQ3{h:PH}(n:Nat)(third:Bool)(hn:n<4294967296)(hT:n*4294967296^(if third then 3 else 2)<68719476736^(if third then 3 else 2))(R:Nat)(hR1:R^(if third then 3 else 2)≤n*4294967296^(if third then 3 else 2))(hR2:n*4294967296^(if third then 3 else 2)<(R+1)^(if third then 3 else 2))(w:W)(hw:R%4294967296=w.toNat){k:cD}(hk:∀h',dC h h'->k (wv w) h'):
  aT PG zO #[.int .u64 (n:Int),.bool third] h k:=by
 apply aBz.call
 unfold aBz
 have hpos:0<(if third then 3 else 2):=by cases third<;>decide
 refine⟨λvs h'=>∃lo hi:Nat,vs=[.int .u64 (n:Int),.bool third,.int .u64 (lo:Int),.int .u64 (hi:Int)]∧lo<hi∧hi≤68719476736∧lo^(if third then 3 else 2)≤n*4294967296^(if third then 3 else 2)∧n*4294967296^(if third then 3 else 2)<hi^(if third then 3 else 2)∧dC h h',gap,⟨0,68719476736,rfl,by omega,by omega,by rw[Nat.zero_pow hpos];omega,hT,cU.refl⟩,?_⟩
 rintro ρ h' ⟨lo,hi,hvs,hlh,hhi,h1,h2,u⟩
 simp only[iH,iU,lF,and_true] at hvs
 obtain⟨v0,v1,v5,v6⟩:=hvs
 simp only[v0,v1,v5,v6,iH,iU]
 unfold aGI
 have e1:IntKind.u64.wrap ((hi:Int)-(lo:Int))=((hi-lo:Nat):Int):=by rw[gG (by omega) (by omega)];omega
 by_cases hg:1<hi-lo
 ·have g1:((1:Int)<((hi-lo:Nat):Int))=True:=eq_true (by omega)
  have e2:IntKind.u64.wrap ((lo:Int)+(hi:Int))=((lo+hi:Nat):Int):=by rw[gG (by omega) (by omega)];omega
  have e3:Int.tdiv ((lo+hi:Nat):Int) 2=(((lo+hi)/2:Nat):Int):=rfl
  have e4:IntKind.u64.wrap (((lo+hi)/2:Nat):Int)=(((lo+hi)/2:Nat):Int):=gG (by omega) (by omega)
  have qu:∀(t:TypeId) (a:Int),cV PG (binOp .quo t (.int .u64 a) (.int .u64 2))=some (.int .u64 (IntKind.u64.wrap (a.tdiv 2))):=λt a=>aLK (by decide)
  simp only[e1,g1,e2,qu,e3,e4,cE,reduceIte]
  refine aUx ((lo+hi)/2) n third (by omega) hn λh3 u3=>?_
  by_cases hc:((lo+hi)/2)^(if third then 3 else 2)≤n*4294967296^(if third then 3 else 2)
  ·simp only[hc,cE,reduceIte]
   unfold yY
   refine⟨⟨_,_,rfl,by omega,hhi,hc,h2,u.trans u3⟩,?_⟩
   simp only[gap,sB,pI]
   omega
  ·simp only[hc,cE,reduceIte]
   unfold yY
   refine⟨⟨_,_,rfl,by omega,by omega,h1,by omega,u.trans u3⟩,?_⟩
   simp only[gap,sB,pI]
   omega
 ·have g1:((1:Int)<((hi-lo:Nat):Int))=False:=eq_false (by omega)
  simp only[e1,g1,aS1,cE,reduceIte]
  have hhl:hi=lo+1:=by omega
  subst hhl
  obtain rfl:lo=R:=aVA h1 h2 hR1 hR2
  have e:Value.int .u32 (IntKind.u32.wrap (lo:Int))=wv w:=by
   unfold wv
   rw[aFU,←hw]
   congr 1
  rw[e]
  exact hk _ u
theorem aYb{h:PH}{v x:Value}{l ys:List Nat}{F:List Nat}(O:aF3 h v l F)(S:fY h 1 x (ys.map oW))(hl:l.length+ys.length≤1000000){t:TypeId}{k:cD}
  (hk:∀v' h' F',aF3 h' v' (l++ys) F'->cU F h h'->(∀b∈F',b∈F∨h b=none)->k v' h'):cW PG (Builtin.append_ #[dY,dY] t #[v,x]) h k:=by
 refine jL dY.und dY.und cA.info cA.size cA.bytes cA.zero rfl (by decide) O S ?_ (by simp;omega) ?_
 ·intro r hr u hu
  obtain⟨y,hyy,rfl⟩:=lI.1 hr
  simp only[oW,fW] at hu
  subst hu
  rfl
 intro v' h' F' O' u' k' _
 rw[←qB] at O'
 exact hk v' h' F' O' u' k'
theorem aQK(f:Nat)(out:List Nat)(x:Nat):aJd (f+1) out x=if out.length<64 then aJd f (if out.all (λd=>decide (x%d≠0)) then out++[x] else out) (x+1) else some out:=rfl
theorem aS6{h:PH}{k:cD}(hk:∀h' v F,aF3 h' v P64 F->dC h h'->k v h'):aT PG aBg #[.int .i64 64] h k:=by
 apply rH.call
 unfold rH
 refine⟨λvs h'=>∃(x:Nat) (v:Value) (out F:List Nat),vs=[.int .i64 64,v,.int .u64 (x:Int)]∧2≤x∧x≤402∧aJd (402-x) out x=some P64∧(∀d∈out,0<d)∧aF3 h' v out F∧eP h F∧dC h h',iE 402 2,⟨2,_,[],[],rfl,by omega,by omega,aRi,by simp,eS.nil,(λb hb=>by cases hb),cU.refl⟩,?_⟩
 rintro ρ h' ⟨x,v,out,F,hvs,hx2,hx,hP,hd,O,fF,u⟩
 simp only[iH,iU,lF,and_true] at hvs
 obtain⟨v0,v3,v4⟩:=hvs
 simp only[v0,v3,v4,iH,iU]
 unfold aE8
 have lv:=aJ1 O.slR
 have hx':x<402:=by
  refine Nat.lt_of_le_of_ne hx λe=>?_
  subst e
  cases hP
 obtain⟨f,hf⟩:∃f,402-x=f+1:=⟨401-x,by omega⟩
 rw[hf,aQK] at hP
 by_cases hl:out.length<64
 ·rw[if_pos hl] at hP
  have g1:((out.length:Int)<64)=True:=eq_true (by omega)
  simp only[lv,g1,cE,reduceIte]
  refine⟨λvs h2=>∃(i:Nat),i≤out.length∧vs=[.int .i64 64,v,.int .u64 (x:Int),.bool ((out.take i).all (λd=>decide (x%d≠0))),.int .i64 (i:Int)]∧h2=h',iE out.length 4,⟨0,by omega,rfl,rfl⟩,?_⟩
  rintro ρ2 h2 ⟨i,hi,hvs,rfl⟩
  simp only[iH,iU,lF,and_true] at hvs
  obtain⟨w0,w3,w4,w5,w6⟩:=hvs
  simp only[w0,w3,w4,w5,w6,iH,iU]
  unfold aEx
  by_cases hil:i<out.length
  ·have g2:((i:Int)<(out.length:Int))=True:=eq_true (by omega)
   have gi:=rA (i:=i) (by omega)
   have hxi:out[i]? =some out[i]:=lS hil
   have hdp:=hd _ (aJ9 hil)
   have htk:out.take (i+1)=out.take i++[out[i]]:=zL8 hil
   generalize out[i]=d at *
   obtain⟨pa,p1,p2⟩:=aLX O.slR hxi
   have rm:cV PG (binOp .rem cA (.int .u64 (x:Int)) (.int .u64 (d:Int)))=some (.int .u64 ((x%d:Nat):Int)):=by
    rw[aHY (by omega)]
    congr 2
   have hall:(out.take (i+1)).all (λd=>decide (x%d≠0))=((out.take i).all (λd=>decide (x%d≠0))&&decide (x%d≠0)):=by
    rw[htk,List.all_append]
    simp
   by_cases hz:x%d=0
   ·have g3:(((x%d:Nat):Int)==0)=true:=by simp[hz]
    simp only[lv,g2,p1,p2,rm,g3,cE,reduceIte]
    unfold vO aAn
    simp only[gi,cE,reduceIte]
    refine⟨⟨i+1,by omega,?_,(by trivial)⟩,?_⟩
    ·rw[hall];simp[hz]
    ·simp only[iE,sB,pI]
     omega
   ·have g3:(((x%d:Nat):Int)==0)=false:=by simp;omega
    simp only[lv,g2,p1,p2,rm,g3,cE,reduceIte]
    unfold vO aAn
    simp only[gi,cE,reduceIte]
    refine⟨⟨i+1,by omega,?_,(by trivial)⟩,?_⟩
    ·rw[hall];simp[hz]
    ·simp only[iE,sB,pI]
     omega
  ·have g2:((i:Int)<(out.length:Int))=False:=eq_false (by omega)
   have gx:IntKind.u64.wrap ((x:Int)+1)=((x+1:Nat):Int):=by rw[gG (by omega) (by omega)];omega
   rw[mV (by omega)]
   have hfx:402-(x+1)=f:=by omega
   cases hok:out.all (λd=>decide (x%d≠0)) with
   | false=>
    rw[hok] at hP
    simp only[lv,g2,cE,reduceIte]
    unfold vN aAo
    simp only[gx,cE,reduceIte]
    refine⟨⟨x+1,v,out,F,rfl,by omega,by omega,by rw[hfx];simpa using hP,hd,O,fF,u⟩,?_⟩
    simp only[iE,sB,pI]
    omega
   | true=>
    rw[hok,if_pos rfl] at hP
    have b1:jS PG (buildSlice dY 1 #[(0,.int .u64 (x:Int))])=some (.cells #[.int .u64 (x:Int)] cA,λr=>pure (.slice (some ⟨r,0,none⟩) 1 1)):=by kernel_rfl
    simp only[lv,g2,b1,cE,reduceIte]
    intro r hr
    refine fT ?_
    try rw[cZ]
    have u1:dC h2 (h2.set r (.cells #[.int .u64 (x:Int)] cA)):=cU.new hr
    have S1:fY (h2.set r (.cells #[.int .u64 (x:Int)] cA)) 1 (.slice (some ⟨r,0,none⟩) 1 1) ([x].map oW):=(eS.lit (n:=1) (oW.rows [x]) dL (by simp) (by decide) rfl).slR
    generalize h2.set r (.cells #[.int .u64 (x:Int)] cA)=h3 at *
    refine aYb (O.ext u1) S1 (by simp;omega) λv' h4 F' O' u' k'=>?_
    unfold vN aAo
    simp only[gx,cE,reduceIte]
    have e1:=u.trans u1
    refine⟨⟨x+1,v',out++[x],F',rfl,by omega,by omega,by rw[hfx];exact hP,λd hdm=>?_,O',fF.grow e1 k',e1.fresh u' fF⟩,?_⟩
    ·rcases jJ.1 hdm with hdm|hdm
     ·exact hd d hdm
     ·simp only[fW] at hdm
      omega
    ·simp only[iE,sB,pI]
     omega
 ·rw[if_neg hl] at hP
  obtain rfl:out=P64:=aJJ hP
  have g1:((P64.length:Int)<64)=False:=eq_false (by decide)
  simp only[lv,g1,cE,reduceIte]
  exact hk _ v F O u
def aC4(w:W):List Value:=[wv w]
theorem aC4.rows(l:List W):Rows 1 (l.map aC4):=λr hr=>by
 obtain⟨p,-,rfl⟩:=lI.1 hr;rfl
theorem aC4.isCell(l:List W):∀r∈l.map aC4,∀u∈r,fK u=true:=λr hr u hu=>by
 obtain⟨y,hyy,rfl⟩:=lI.1 hr
 simp only[aC4,fW] at hu
 subst hu
 rfl
abbrev aEK(h:PH)(v:Value)(l:List W)(F:List Nat):Prop:=eS h cL 1 v (l.map aC4) F
abbrev WSl(h:PH)(v:Value)(l:List W):Prop:=fY h 1 v (l.map aC4)
theorem aD3{h:PH}{v:Value}{l:List W}(S:WSl h v l){i:Nat}{x:W}(hx:l[i]? =some x):∃a,cV PG (indexAt eW v (.int .i64 (i:Int)))=some (.pointer (some a))∧cG PG h (loadAt cL (.pointer (some a)))=some (wv x):=
 S.loadCell (t:=eW) (k:=.i64) (j:=(i:Int)) eW.und cL.info cL.size cL.und rfl (by omega) (by rw[qQ,sC,hx];rfl)
theorem aO9{h:PH}{v x:Value}{l ys:List W}{F:List Nat}(O:aEK h v l F)(S:WSl h x ys)(hl:l.length+ys.length≤1000000){t:TypeId}{k:cD}
  (hk:∀v' h' F',aEK h' v' (l++ys) F'->cU F h h'->(∀b∈F',b∈F∨h b=none)->k v' h'):cW PG (Builtin.append_ #[eW,eW] t #[v,x]) h k:=by
 refine jL eW.und eW.und cL.info cL.size cL.bytes cL.zero rfl (by decide) O S (aC4.isCell ys) (by simp;omega) ?_
 intro v' h' F' O' u' k' _
 rw[←qB] at O'
 exact hk v' h' F' O' u' k'
theorem aSF(a:W):jS PG (buildSlice eW 1 #[(0,wv a)])=some (.cells #[wv a] cL,λr=>pure (.slice (some ⟨r,0,none⟩) 1 1)):=by kernel_rfl
theorem aP7{h:PH}{k:cD}(hk:∀h' v w F G,aEK h' v kT F->aEK h' w H8 G->eP h F->eP h G->dC h h'->k (.tuple #[v,w]) h'):aT PG zA #[] h k:=by
 apply xC.call
 unfold xC
 refine aS6 λh1 p Fp Op u1=>?_
 refine⟨λvs h'=>∃(i:Nat) (v w:Value) (F G:List Nat),i≤64∧vs=[v,w,p,.int .i64 (i:Int)]∧aEK h' v (kT.take i) F∧aEK h' w (H8.take i) G∧(∀x∈F,x∉G)∧eP h1 F∧eP h1 G∧dC h1 h',iE 64 3,⟨0,_,_,[],[],by omega,rfl,eS.nil,eS.nil,by simp,(λb hb=>by cases hb),(λb hb=>by cases hb),cU.refl⟩,?_⟩
 rintro ρ h' ⟨i,v,w,F,G,hi,hvs,OF,OG,hFG,fF,fG,u⟩
 simp only[iH,iU,lF,and_true] at hvs
 obtain⟨v2,v3,v4,v5⟩:=hvs
 simp only[v2,v3,v4,v5,iH,iU]
 unfold aDx
 by_cases hl:i<64
 ·have g1:((i:Int)<64)=True:=eq_true (by omega)
  have gi:=rA (i:=i) (by omega)
  have hpi:P64[i]? =some (P64.getD i 0):=by
   rw[aAM,lS (show i<P64.length by show i<64;omega)];rfl
  have hki:kT.take (i+1)=kT.take i++[kT.getD i 0]:=by
   rw[zL8 (show i<kT.length by rw[aJl];omega),aAM,lS (show i<kT.length by rw[aJl];omega)];rfl
  have hrt:=aCD.1 aX5 i (aKH.2 hl)
  simp only[wP,decide_eq_true_eq] at hrt
  obtain⟨⟨⟨⟨r1,r2⟩,r3⟩,r4⟩,r5⟩:=hrt
  obtain⟨pa,p1,p2⟩:=aLX (Op.slR.ext u) hpi
  simp only[g1,p1,p2,cE,reduceIte]
  refine aQ3 _ true r5 r4 _ r1 r2 (kT.getD i 0) r3 λh2 u2=>?_
  have e2:=u.trans u2
  simp only[aSF,cE,reduceIte]
  intro r hr
  refine fT ?_
  try rw[cZ]
  have u3:dC h2 (h2.set r (.cells #[wv (kT.getD i 0)] cL)):=cU.new hr
  have S3:WSl (h2.set r (.cells #[wv (kT.getD i 0)] cL)) (.slice (some ⟨r,0,none⟩) 1 1) [kT.getD i 0]:=(eS.lit (n:=1) (aC4.rows [kT.getD i 0]) dL (by simp) (by decide) rfl).slR
  generalize h2.set r (.cells #[wv (kT.getD i 0)] cL)=h3 at *
  have e3:=e2.trans u3
  refine aO9 ((OF.ext u2).ext u3) S3 (by simp;omega) λv' h4 F' O4 u4 k4=>?_
  rw[←hki] at O4
  have e4:=e3.fresh u4 fF
  have f4:=fF.grow e3 k4
  have OG4:=((OG.ext u2).ext u3).upd u4 (λb hb hm=>hFG b hm hb)
  have hFG4:∀x∈F',x∉G:=λx hx hm=>by
   rcases k4 x hx with h0|h0
   ·exact hFG x h0 hm
   ·exact((OG.ext u2).ext u3).known x hm h0
  by_cases h8:i<8
  ·have g2:((i:Int)<8)=True:=eq_true (by omega)
   have hhi:H8.take (i+1)=H8.take i++[H8.getD i 0]:=by
    rw[zL8 (show i<H8.length by show i<8;omega),aAM,lS (show i<H8.length by show i<8;omega)];rfl
   have hrs:=aCD.1 aX3 i (aKH.2 h8)
   simp only[wP,decide_eq_true_eq] at hrs
   obtain⟨⟨⟨s1,s2⟩,s3⟩,s4⟩:=hrs
   obtain⟨pb,q1,q2⟩:=aLX (Op.slR.ext e4) hpi
   rw[p1] at q1
   obtain rfl:pa=pb:=by simpa using q1
   simp only[g2,p1,q2,cE,reduceIte]
   refine aQ3 _ false r5 s4 _ s1 s2 (H8.getD i 0) s3 λh5 u5=>?_
   have e5:=e4.trans u5
   simp only[aSF,cE,reduceIte]
   intro r' hr'
   refine fT ?_
   try rw[cZ]
   have u6:dC h5 (h5.set r' (.cells #[wv (H8.getD i 0)] cL)):=cU.new hr'
   have S6:WSl (h5.set r' (.cells #[wv (H8.getD i 0)] cL)) (.slice (some ⟨r',0,none⟩) 1 1) [H8.getD i 0]:=(eS.lit (n:=1) (aC4.rows [H8.getD i 0]) dL (by simp) (by decide) rfl).slR
   generalize h5.set r' (.cells #[wv (H8.getD i 0)] cL)=h6 at *
   have e6:=e5.trans u6
   refine aO9 ((OG4.ext u5).ext u6) S6 (by simp;omega) λw' h7 G' O7 u7 k7=>?_
   rw[←hhi] at O7
   unfold sA yP
   simp only[gi,cE,reduceIte]
   have O4':=((O4.ext u5).ext u6).upd u7 hFG4
   have hFG7:∀x∈F',x∉G':=λx hx hm=>by
    rcases k7 x hm with h0|h0
    ·exact hFG4 x hx h0
    ·exact((O4.ext u5).ext u6).known x hx h0
   refine⟨⟨i+1,v',w',F',G',by omega,rfl,O4',O7,hFG7,f4,fG.grow e6 k7,e6.fresh u7 fG⟩,?_⟩
   simp only[iE,sB,pI]
   omega
  ·have g2:((i:Int)<8)=False:=eq_false (by omega)
   have hhi:H8.take (i+1)=H8.take i:=by
    rw[mV (show H8.length≤i+1 by show 8≤i+1;omega),mV (show H8.length≤i by show 8≤i;omega)]
   simp only[g2,cE,reduceIte]
   unfold sA yP
   simp only[gi,cE,reduceIte]
   refine⟨⟨i+1,v',w,F',G,by omega,rfl,O4,by rw[hhi];exact OG4,hFG4,f4,fG,e4⟩,?_⟩
   simp only[iE,sB,pI]
   omega
 ·have g1:((i:Int)<64)=False:=eq_false (by omega)
  rw[mV (by rw[aJl];omega)] at OF
  rw[mV (show H8.length≤i by show 8≤i;omega)] at OG
  simp only[g1,cE,reduceIte]
  exact hk h' v w F G OF OG (fF.of u1) (fG.of u1) (u1.trans u)
theorem zP{h:PH}{x:W}{n:Nat}(h1:1≤n)(h2:n≤31){k:cD}(hk:k (wv (tn x n)) h):aT PG jV #[wv x,.int .i64 n] h k:=by
 apply sJ.call
 unfold sJ
 have e1:IntKind.i64.wrap (32-(n:Int))=((32-n:Nat):Int):=by rw[eZ (by omega) (by omega)];omega
 simp only[aI4 (show n≤32 by omega),e1,aND (show 32-n≤32 by omega),aU7,cE,reduceIte]
 rw[BitVec.or_comm]
 exact hk
theorem aYq{t:TypeId}{x:W}{c:Nat}:cV PG (binOp .mul t (wv x) (.int .u32 (c:Int)))=some (wv (x*BitVec.ofNat 32 c)):=by
 unfold wv
 rw[aPy,aFU,BitVec.toNat_mul,BitVec.toNat_ofNat,←Int.natCast_mul]
 congr 2
 have:x.toNat*(c%2^32)%2^32=x.toNat*c%4294967296:=by rw[Nat.mul_mod_mod]
 rw[this]
 rfl
theorem aP3{t:TypeId}{x:W}{c:Nat}{i:Int}{w:W}(hi:i=(c:Int))(hw:w=BitVec.ofNat 32 c):cV PG (binOp .mul t (wv x) (.int .u32 i))=some (wv (x*w)):=by
 subst hi hw
 exact aYq
theorem aWv{t:TypeId}{x:W}:cV PG (binOp .mul t (wv x) (.int .u32 16777216))=some (wv (x*16777216)):=aP3 (c:=16777216) (by decide) (by decide)
theorem aWB{t:TypeId}{x:W}:cV PG (binOp .mul t (wv x) (.int .u32 65536))=some (wv (x*65536)):=aP3 (c:=65536) (by decide) (by decide)
theorem aXY{t:TypeId}{x:W}:cV PG (binOp .mul t (wv x) (.int .u32 256))=some (wv (x*256)):=aP3 (c:=256) (by decide) (by decide)
theorem aYP{t:TypeId}{x:W}:cV PG (binOp .sub t (.int .u32 4294967295) (wv x))=some (wv (~~~x)):=by
 unfold wv
 rw[aNY,aFU,BitVec.toNat_not]
 have:=x.isLt
 congr 2
 omega
theorem aRf(i a b:Nat)(h:b<2^i):a*2^i ||| b=a*2^i+b:=by
 have:=Nat.shiftLeft_add_eq_or_of_lt (i:=i) (b:=b) h a
 rw[Nat.shiftLeft_eq] at this
 exact this.symm
theorem aY8(a b:Nat)(h:b<16777216):a*16777216 ||| b=a*16777216+b:=aRf 24 a b h
theorem aYw(a b:Nat)(h:b<65536):a*65536 ||| b=a*65536+b:=aRf 16 a b h
theorem or8(a b:Nat)(h:b<256):a*256 ||| b=a*256+b:=aRf 8 a b h
theorem aXU{a b c d:Nat}(hb:b<256)(hc:c<256)(hd:d<256):((a*16777216 ||| b*65536) ||| c*256) ||| d=a*16777216+b*65536+c*256+d:=by
 rw[aY8 a (b*65536) (by omega)]
 have e1:a*16777216+b*65536=(a*256+b)*65536:=by omega
 rw[e1,aYw _ (c*256) (by omega)]
 have e2:(a*256+b)*65536+c*256=(a*65536+b*256+c)*256:=by simp only[zLC,Nat.mul_assoc,Nat.reduceMul]
 rw[e2,or8 _ d hd]
theorem aYD{a b c d:Nat}(ha:a<256)(hb:b<256)(hc:c<256)(hd:d<256):
  (((a%4294967296*16777216%4294967296+b%4294967296*65536%4294967296)%4294967296+c%4294967296*256%4294967296)%4294967296+d%4294967296)%4294967296
   =a%4294967296*16777216%4294967296 ||| b%4294967296*65536%4294967296 ||| c%4294967296*256%4294967296 ||| d%4294967296:=by
 have lt:∀{x:Nat},x<256->x%4294967296=x:=λh=>aCK (by omega)
 rw[lt ha,lt hb,lt hc,lt hd,aCK (a:=a*16777216) (by omega),aCK (a:=b*65536) (by omega),aCK (a:=c*256) (by omega),aXU hb hc hd]
 rw[aCK (a:=a*16777216+b*65536) (by omega),aCK (a:=a*16777216+b*65536+c*256) (by omega)]
 exact aCK (by omega)
theorem w24:(16777216:W).toNat=16777216:=by simp
theorem w16:(65536:W).toNat=65536:=by simp
theorem aZB:(256:W).toNat=256:=by simp
theorem m24(a:Nat):(BitVec.ofNat 32 a*16777216).toNat=a%4294967296*16777216%4294967296:=by rw[BitVec.toNat_mul,BitVec.toNat_ofNat,w24]
theorem m16(a:Nat):(BitVec.ofNat 32 a*65536).toNat=a%4294967296*65536%4294967296:=by rw[BitVec.toNat_mul,BitVec.toNat_ofNat,w16]
theorem m8(a:Nat):(BitVec.ofNat 32 a*256).toNat=a%4294967296*256%4294967296:=by rw[BitVec.toNat_mul,BitVec.toNat_ofNat,aZB]
theorem s24(a:Nat):(BitVec.ofNat 32 a <<< 24).toNat=a%4294967296*16777216%4294967296:=by rw[BitVec.toNat_shiftLeft,BitVec.toNat_ofNat,Nat.shiftLeft_eq]
theorem s16(a:Nat):(BitVec.ofNat 32 a <<< 16).toNat=a%4294967296*65536%4294967296:=by rw[BitVec.toNat_shiftLeft,BitVec.toNat_ofNat,Nat.shiftLeft_eq]
theorem s8(a:Nat):(BitVec.ofNat 32 a <<< 8).toNat=a%4294967296*256%4294967296:=by rw[BitVec.toNat_shiftLeft,BitVec.toNat_ofNat,Nat.shiftLeft_eq]
theorem aTy(x y:W):(x+y).toNat=(x.toNat+y.toNat)%4294967296:=BitVec.toNat_add x y
theorem aTR(a b c d:UInt8):((BitVec.ofNat 32 a.toNat*16777216+BitVec.ofNat 32 b.toNat*65536)+BitVec.ofNat 32 c.toNat*256)+BitVec.ofNat 32 d.toNat=w4 a b c d:=by
 apply BitVec.eq_of_toNat_eq
 unfold w4
 rw[BitVec.toNat_or,BitVec.toNat_or,BitVec.toNat_or,aTy,aTy,aTy,s24,s16,s8,m24,m16,m8,BitVec.toNat_ofNat]
 exact aYD a.toNat_lt b.toNat_lt c.toNat_lt d.toNat_lt
def zK(l:List W):List W:=l++List.replicate (64-l.length) 0
theorem aI2{l:List W}{i:Nat}(hi:i<l.length):(zK l)[i]? =some (l.getD i 0):=by
 unfold zK
 rw[List.getElem?_append_left hi,aAM,lS hi];rfl
theorem aOd{l:List W}(hl:l.length≤64):(zK l).length=64:=by simp[zK];omega
theorem aRh{l:List W}(hl:l.length=64):zK l=l:=by simp[zK,hl]
theorem aSX{l:List W}(hl:l.length<64)(x:W):((zK l).map aC4).take l.length++[[wv x]]++((zK l).map aC4).drop (l.length+1)=(zK (l++[x])).map aC4:=by
 unfold zK
 rw[show 64-l.length=(64-(l.length+1))+1 by omega,List.replicate_succ]
 simp only[qB,iH,jE,zLQ]
 rw[zLE (by simp),mV (by simp)]
 have e:l.length+1=(l.map aC4).length+1:=by simp
 rw[e,←aG0]
 simp[aC4]
theorem aVh{h:PH}{v:Value}{l:List W}{F:List Nat}(O:aEK h v (zK l) F)(hl:l.length<64)(x:W):∃a,cV PG (indexAt eW v (.int .i64 (l.length:Int)))=some (.pointer (some a))∧
  ∀K:Value->PH->Prop,(∀h',aEK h' v (zK (l++[x])) F->cU F h h'->K undef h')->cW PG (dJ cL (.pointer (some a)) (wv x)) h K:=by
 obtain⟨a,q1,q2⟩:=eS.storeCell O (t:=eW) (k:=.i64) (j:=l.length) eW.und cL.info cL.size cL.und rfl (by rw[jC,aOd (by omega)];exact hl) (x:=wv x) rfl
 refine⟨a,q1,λK hK=>q2 K λh' O' u=>hK h' ?_ u⟩
 rw[aSX hl] at O'
 exact O'
theorem rb6{b:List UInt8}(hb:b.length=64){i:Nat}(hi:i<16){h:PH}{R:cD}{n5:gP}{kv v w:Value}{F:List Nat}(O:aEK h w (zK (xP b i)) F)
  (hn:∀h',aEK h' w (zK (xP b (i+1))) F->cU F h h'->n5 [.string (tx b),kv,v,w,.int .i64 ((i+1:Nat):Int)] h'):
  yD R n5 (.string (tx b)) kv v w (.int .i64 (i:Int)) h:=by
 unfold yD
 have e1:((i:Int)<16)=True:=eq_true (by omega)
 have e2:IntKind.i64.wrap (4*(i:Int))=((4*i:Nat):Int):=by rw[eZ (by omega) (by omega)];omega
 have e31:IntKind.i64.wrap (((4*i:Nat):Int)+1)=((4*i+1:Nat):Int):=by rw[eZ (by omega) (by omega)];omega
 have e32:IntKind.i64.wrap (((4*i:Nat):Int)+2)=((4*i+2:Nat):Int):=by rw[eZ (by omega) (by omega)];omega
 have e33:IntKind.i64.wrap (((4*i:Nat):Int)+3)=((4*i+3:Nat):Int):=by rw[eZ (by omega) (by omega)];omega
 have e4:=rA (i:=i) (by omega)
 have ix:∀j,j<64->b[j]? =some (b.getD j 0):=λj hj=>by
  rw[aAM,lS (by omega)];rfl
 have i0:cV PG (Instr.index bR (.string (tx b)) (.int .i64 ((4*i:Nat):Int)))=_:=aAJ (j:=4*i) bR.und (ix _ (by omega))
 have i1:cV PG (Instr.index bR (.string (tx b)) (.int .i64 ((4*i+1:Nat):Int)))=_:=aAJ (j:=4*i+1) bR.und (ix _ (by omega))
 have i2:cV PG (Instr.index bR (.string (tx b)) (.int .i64 ((4*i+2:Nat):Int)))=_:=aAJ (j:=4*i+2) bR.und (ix _ (by omega))
 have i3:cV PG (Instr.index bR (.string (tx b)) (.int .i64 ((4*i+3:Nat):Int)))=_:=aAJ (j:=4*i+3) bR.und (ix _ (by omega))
 have hl:(xP b i).length=i:=aF1 b i
 obtain⟨a,q1,q2⟩:=aVh O (by omega) (wat b i)
 rw[hl] at q1
 have hw:wat b i=w4 (b.getD (4*i) 0) (b.getD (4*i+1) 0) (b.getD (4*i+2) 0) (b.getD (4*i+3) 0):=rfl
 rw[hw,←aTR] at q2
 simp only[e1,e2,e31,e32,e33,e4,i0,i1,i2,i3,aQu,w8,aWv,aWB,aXY,aFF,q1,cE,reduceIte]
 refine q2 _ λh' O' u=>hn h' ?_ u
 rw[aTR,←hw,←aL4] at O'
 exact O'
theorem aY3{b:List UInt8}{i:Nat}(hi:i<48){h:PH}{R:cD}{n5:gP}{kv v w:Value}{F:List Nat}(O:aEK h w (zK (mN b i)) F)
  (hn:∀h',aEK h' w (zK (mN b (i+1))) F->cU F h h'->n5 [kv,v,w,.int .i64 ((i+1+16:Nat):Int)] h'):
  xA R n5 kv v w (.int .i64 ((i+16:Nat):Int)) h:=by
 unfold xA
 have hl:=aIx b i
 have S:=O.slR
 have e1:(((i+16:Nat):Int)<64)=True:=eq_true (by omega)
 have e2:IntKind.i64.wrap (((i+16:Nat):Int)-15)=((i+1:Nat):Int):=by rw[eZ (by omega) (by omega)];omega
 have e3:IntKind.i64.wrap (((i+16:Nat):Int)-2)=((i+14:Nat):Int):=by rw[eZ (by omega) (by omega)];omega
 have e4:IntKind.i64.wrap (((i+16:Nat):Int)-16)=((i:Nat):Int):=by rw[eZ (by omega) (by omega)];omega
 have e5:IntKind.i64.wrap (((i+16:Nat):Int)-7)=((i+9:Nat):Int):=by rw[eZ (by omega) (by omega)];omega
 have e6:IntKind.i64.wrap (((i+16:Nat):Int)+1)=((i+1+16:Nat):Int):=by rw[eZ (by omega) (by omega)];omega
 obtain⟨a1,p1,c1⟩:=aD3 S (aI2 (l:=mN b i) (i:=i+1) (by omega))
 obtain⟨a2,p2,c2⟩:=aD3 S (aI2 (l:=mN b i) (i:=i+14) (by omega))
 obtain⟨a3,p3,c3⟩:=aD3 S (aI2 (l:=mN b i) (i:=i) (by omega))
 obtain⟨a4,p4,c4⟩:=aD3 S (aI2 (l:=mN b i) (i:=i+9) (by omega))
 simp only[e1,e2,p1,c1,sr3,cE,reduceIte]
 refine zP (n:=7) (by decide) (by decide) ?_
 refine⟨c1,c1,?_⟩
 refine zP (n:=18) (by decide) (by decide) ?_
 refine⟨c1,?_⟩
 simp only[aDw,e3,p2,c2,aXo,cE,reduceIte]
 refine zP (n:=17) (by decide) (by decide) ?_
 refine⟨c2,c2,?_⟩
 refine zP (n:=19) (by decide) (by decide) ?_
 refine⟨c2,?_⟩
 obtain⟨a,q1,q2⟩:=aVh O (by omega) (aLy (mN b i) (i+16))
 rw[hl] at q1
 simp only[aDw,aFF,e4,e5,p3,c3,p4,c4,q1,e6,cE,reduceIte]
 have hx:((tn ((mN b i).getD (i+14) 0) 17 ^^^ tn ((mN b i).getD (i+14) 0) 19) ^^^ ((mN b i).getD (i+14) 0>>>10))+(mN b i).getD (i+9) 0+((tn ((mN b i).getD (i+1) 0) 7 ^^^ tn ((mN b i).getD (i+1) 0) 18) ^^^ ((mN b i).getD (i+1) 0>>>3))+(mN b i).getD i 0=aLy (mN b i) (i+16):=by
  unfold aLy
  rw[show i+16-15=i+1 by omega,show i+16-2=i+14 by omega,show i+16-16=i by omega,show i+16-7=i+9 by omega]
  simp only
  ac_rfl
 rw[hx]
 exact q2 _ λh' O' u=>hn h' O' u
theorem S8.l_get(s:S8){i:Nat}(hi:i<8):s.l[i]? =Option.some (s.l.getD i 0):=by
 rw[aAM,lS (show i<s.l.length from hi)];rfl
theorem aYL(a b c d e f g x:W):jS PG (buildSlice eW 8 #[(0,wv a),(1,wv b),(2,wv c),(3,wv d),(4,wv e),(5,wv f),(6,wv g),(7,wv x)])=some (.cells #[wv a,wv b,wv c,wv d,wv e,wv f,wv g,wv x] cL,λr=>pure (.slice (some ⟨r,0,none⟩) 8 8)):=by kernel_rfl
theorem aYv{ws:List W}(hws:ws.length=64){s:S8}{i:Nat}(hi:i<64){h:PH}{R:cD}{n:gP}{kv v w x:Value}(SK:WSl h kv kT)(SW:WSl h w ws)(SX:WSl h x s.l)
  (hn:∀x' h',WSl h' x' (rnd s (kT.getD i 0) (ws.getD i 0)).l->dC h h'->n [kv,v,w,x',.int .i64 ((i+1:Nat):Int)] h'):
  wS R n kv v w x (.int .i64 (i:Int)) h:=by
 unfold wS
 have e1:((i:Int)<64)=True:=eq_true (by omega)
 have e4:=rA (i:=i) (by omega)
 obtain⟨a0,p0,c0⟩:=aD3 SX (s.l_get (i:=0) (by decide))
 obtain⟨a1,p1,c1⟩:=aD3 SX (s.l_get (i:=1) (by decide))
 obtain⟨a2,p2,c2⟩:=aD3 SX (s.l_get (i:=2) (by decide))
 obtain⟨a3,p3,c3⟩:=aD3 SX (s.l_get (i:=3) (by decide))
 obtain⟨a4,p4,c4⟩:=aD3 SX (s.l_get (i:=4) (by decide))
 obtain⟨a5,p5,c5⟩:=aD3 SX (s.l_get (i:=5) (by decide))
 obtain⟨a6,p6,c6⟩:=aD3 SX (s.l_get (i:=6) (by decide))
 obtain⟨a7,p7,c7⟩:=aD3 SX (s.l_get (i:=7) (by decide))
 have z0:s.l.getD 0 0=s.a:=rfl
 have z1:s.l.getD 1 0=s.b:=rfl
 have z2:s.l.getD 2 0=s.c:=rfl
 have z3:s.l.getD 3 0=s.d:=rfl
 have z4:s.l.getD 4 0=s.e:=rfl
 have z5:s.l.getD 5 0=s.f:=rfl
 have z6:s.l.getD 6 0=s.g:=rfl
 have z7:s.l.getD 7 0=s.h:=rfl
 rw[z0] at c0
 rw[z1] at c1
 rw[z2] at c2
 rw[z3] at c3
 rw[z4] at c4
 rw[z5] at c5
 rw[z6] at c6
 rw[z7] at c7
 simp only[show((0:Nat):Int)=0 from rfl,show((1:Nat):Int)=1 from rfl,show((2:Nat):Int)=2 from rfl,show((3:Nat):Int)=3 from rfl,show((4:Nat):Int)=4 from rfl,show((5:Nat):Int)=5 from rfl,show((6:Nat):Int)=6 from rfl,show((7:Nat):Int)=7 from rfl] at p0 p1 p2 p3 p4 p5 p6 p7
 have hk:kT[i]? =some (kT.getD i 0):=by
  rw[aAM,lS (by rw[aJl];exact hi)];rfl
 have hw:ws[i]? =some (ws.getD i 0):=by
  rw[aAM,lS (by rw[hws];exact hi)];rfl
 obtain⟨ak,pk,ck⟩:=aD3 SK hk
 obtain⟨aw,pw,cw⟩:=aD3 SW hw
 simp only[e1,p0,p1,p2,p4,p5,p6,p7,c0,c1,c2,c4,c5,c6,c7,pk,ck,pw,cw,aPA,aYP,aDw,cE,reduceIte]
 refine zP (n:=6) (by decide) (by decide) ?_
 refine⟨cw,ck,c7,?_⟩
 refine zP (n:=11) (by decide) (by decide) ?_
 refine⟨cw,ck,c7,?_⟩
 simp only[aDw,cE,reduceIte]
 refine zP (n:=25) (by decide) (by decide) ?_
 refine⟨cw,ck,c7,?_⟩
 simp only[aDw,aFF,cE,reduceIte]
 refine zP (n:=2) (by decide) (by decide) ?_
 refine zP (n:=13) (by decide) (by decide) ?_
 simp only[aDw,cE,reduceIte]
 refine zP (n:=22) (by decide) (by decide) ?_
 simp only[aDw,aPA,aFF,p3,c3,aYL,e4,cE,reduceIte]
 intro r hr
 refine fT ?_
 try rw[cZ]
 refine hn _ _ ?_ (cU.new hr)
 exact(eS.lit (n:=8) (aC4.rows (rnd s (kT.getD i 0) (ws.getD i 0)).l) dL (by rfl) (by decide) rfl).slR
theorem aWX(s t:S8){i:Nat}(hi:i<8):(s.add t).l.take (i+1)=(s.add t).l.take i++[s.l.getD i 0+t.l.getD i 0]:=by
 have:i=0∨i=1∨i=2∨i=3∨i=4∨i=5∨i=6∨i=7:=by omega
 rcases this with rfl|rfl|rfl|rfl|rfl|rfl|rfl|rfl<;>rfl
theorem aT8{h:PH}{b:List UInt8}(hb:b.length=64){s:S8}{kv v:Value}(SK:WSl h kv kT)(SV:WSl h v s.l){k:cD}(hk:∀h' w,WSl h' w (aJM s b).l->dC h h'->k w h'):
  aT PG aCJ #[.string (tx b),kv,v] h k:=by
 apply sZ.call
 unfold sZ
 obtain⟨zs',hm,hz⟩:=aED (P:=PG) (n:=64) eW.und cL.info cL.size cL.bytes cL.zero rfl (by decide) (by omega) (by omega)
 simp only[show((64:Nat):Int)=64 from rfl] at hm
 simp only[hm,cE,reduceIte]
 intro r hr
 refine fT ?_
 try rw[cZ]
 have u1:dC h (h.set r (.cells zs' cL (0,0))):=cU.new hr
 have O1:aEK (h.set r (.cells zs' cL (0,0))) (.slice (some ⟨r,0,none⟩) 64 64) (zK (xP b 0)) [r]:=eS.lit (n:=64) (aC4.rows _) dL (by rw[jC,aOd (by simp[aF1])]) (by decide) (by
  rw[hz];rfl)
 generalize h.set r (.cells zs' cL (0,0))=h1 at *
 have fr:=eP.one hr
 refine⟨λvs h'=>∃i:Nat,i≤16∧vs=[.string (tx b),kv,v,.slice (some ⟨r,0,none⟩) 64 64,.int .i64 (i:Int)]∧aEK h' (.slice (some ⟨r,0,none⟩) 64 64) (zK (xP b i)) [r]∧dC h h',iE 16 4,⟨0,by omega,rfl,O1,u1⟩,?_⟩
 rintro ρ h' ⟨i,hi,hvs,O,u⟩
 simp only[iH,iU,lF,and_true] at hvs
 obtain⟨v0,v1,v2,v7,v8⟩:=hvs
 simp only[v0,v1,v2,v7,v8,iH,iU]
 by_cases hl:i<16
 ·refine rb6 hb hl O λh2 O2 u2=>⟨⟨i+1,by omega,rfl,O2,u.fresh u2 fr⟩,?_⟩
  simp only[iE,sB,pI]
  omega
 obtain rfl:i=16:=by omega
 unfold yD
 simp only[show(((16:Nat):Int)<16)=False from eq_false (by decide),cE,reduceIte]
 refine⟨λvs h2=>∃i:Nat,i≤48∧vs=[kv,v,.slice (some ⟨r,0,none⟩) 64 64,.int .i64 ((i+16:Nat):Int)]∧aEK h2 (.slice (some ⟨r,0,none⟩) 64 64) (zK (mN b i)) [r]∧dC h h2,iE 64 3,⟨0,by omega,rfl,O,u⟩,?_⟩
 rintro ρ2 h2 ⟨i,hi,hvs,O2,u2⟩
 simp only[iH,iU,lF,and_true] at hvs
 obtain⟨w1,w2,w7,w9⟩:=hvs
 simp only[w1,w2,w7,w9,iH,iU]
 by_cases hl:i<48
 ·refine aY3 hl O2 λh3 O3 u3=>⟨⟨i+1,by omega,rfl,O3,u2.fresh u3 fr⟩,?_⟩
  simp only[iE,sB,pI]
  omega
 obtain rfl:i=48:=by omega
 have hws:(mN b 48).length=64:=aKC b
 rw[aRh hws] at O2
 unfold xA
 have b0:jS PG (buildSlice eW 0 #[])=some (.cells #[] cL,λr=>pure (.slice (some ⟨r,0,none⟩) 0 0)):=by kernel_rfl
 simp only[show(((48+16:Nat):Int)<64)=False from eq_false (by decide),b0,cE,reduceIte]
 intro r3 hr3
 refine fT ?_
 try rw[cZ]
 have u3:dC h2 (h2.set r3 (.cells #[] cL)):=cU.new hr3
 have O3:aEK (h2.set r3 (.cells #[] cL)) (.slice (some ⟨r3,0,none⟩) 0 0) [] [r3]:=eS.lit (n:=0) (aC4.rows []) dL (by simp) (by decide) rfl
 generalize h2.set r3 (.cells #[] cL)=h3 at *
 have e3:=u2.trans u3
 refine aO9 O3 (SV.ext e3) (by simp[S8.l]) λx h4 F4 O4 u4 k4=>?_
 rw[wN] at O4
 have fr3:eP h [r3]:=eP.one (u2.none hr3)
 have e4:=e3.fresh u4 fr3
 have SW:WSl h4 (.slice (some ⟨r,0,none⟩) 64 64) (mN b 48):=((O2.ext u3).upd u4 (λy hy hm=>by
  simp only[fW] at hy hm
  subst hy
  exact(O2.known y (by simp)) (by rw[hm];exact hr3))).slR
 refine⟨λvs h5=>∃(i:Nat) (x:Value),i≤64∧vs=[kv,v,.slice (some ⟨r,0,none⟩) 64 64,x,.int .i64 (i:Int)]∧WSl h5 x (aHh (mN b 48) s i).l∧dC h4 h5,iE 64 4,⟨0,_,by omega,rfl,O4.slR,cU.refl⟩,?_⟩
 rintro ρ3 h5 ⟨i,x5,hi,hvs,S5,u5⟩
 simp only[iH,iU,lF,and_true] at hvs
 obtain⟨w1,w2,w7,w12,w13⟩:=hvs
 simp only[w1,w2,w7,w12,w13,iH,iU]
 have e5:=e4.trans u5
 by_cases hl:i<64
 ·refine aYv hws hl (SK.ext e5) (SW.ext u5) S5 λx' h6 S6 u6=>⟨⟨i+1,x',by omega,rfl,S6,u5.trans u6⟩,?_⟩
  simp only[iE,sB,pI]
  omega
 obtain rfl:i=64:=by omega
 unfold wS
 simp only[show(((64:Nat):Int)<64)=False from eq_false (by decide),cE,reduceIte]
 have hmix:(s.add (aHh (mN b 48) s 64))=aJM s b:=rfl
 generalize aHh (mN b 48) s 64=q at *
 refine⟨λvs h6=>∃(i:Nat) (z:Value) (F:List Nat),i≤8∧vs=[v,x5,z,.int .i64 (i:Int)]∧aEK h6 z ((s.add q).l.take i) F∧eP h5 F∧dC h5 h6,iE 8 3,⟨0,_,[],by omega,rfl,eS.nil,(λb hb=>by cases hb),cU.refl⟩,?_⟩
 rintro ρ4 h6 ⟨i,z,F6,hi,hvs,O6,f6,u6⟩
 simp only[iH,iU,lF,and_true] at hvs
 obtain⟨w2,w12,w22,w23⟩:=hvs
 simp only[w2,w12,w22,w23,iH,iU]
 unfold aEj
 by_cases hl:i<8
 ·have g1:((i:Int)<8)=True:=eq_true (by omega)
  have gi:=rA (i:=i) (by omega)
  obtain⟨a1,p1,c1⟩:=aD3 ((SV.ext e5).ext u6) (s.l_get hl)
  obtain⟨a2,p2,c2⟩:=aD3 (S5.ext u6) (q.l_get hl)
  simp only[g1,gi,p1,c1,p2,c2,aFF,aSF,cE,reduceIte]
  intro r7 hr7
  refine fT ?_
  try rw[cZ]
  have u7:dC h6 (h6.set r7 (.cells #[wv (s.l.getD i 0+q.l.getD i 0)] cL)):=cU.new hr7
  have S7:WSl (h6.set r7 (.cells #[wv (s.l.getD i 0+q.l.getD i 0)] cL)) (.slice (some ⟨r7,0,none⟩) 1 1) [s.l.getD i 0+q.l.getD i 0]:=(eS.lit (n:=1) (aC4.rows [_]) dL (by simp) (by decide) rfl).slR
  generalize h6.set r7 (.cells #[wv (s.l.getD i 0+q.l.getD i 0)] cL)=h7 at *
  refine aO9 (O6.ext u7) S7 (by simp[S8.l];omega) λz' h8 F8 O8 u8 k8=>?_
  rw[←aWX s q hl] at O8
  have e7:=u6.trans u7
  refine⟨⟨i+1,z',F8,by omega,rfl,O8,f6.grow e7 k8,e7.fresh u8 f6⟩,?_⟩
  simp only[iE,sB,pI]
  omega
 ·obtain rfl:i=8:=by omega
  have hfull:(s.add q).l.take 8=(aJM s b).l:=by rw[hmix];rfl
  rw[hfull] at O6
  simp only[show(((8:Nat):Int)<8)=False from eq_false (by decide),cE,reduceIte]
  exact hk _ _ O6.slR (e5.trans u6)
end Go.Proofs.YtcoajnpchhmgjaaGreatDoor
namespace Go.Proofs.YtcoajnpchhmgjaaGreatDoor
open Go Bld
def aSd(m:Nat)(i:Nat):List Value->PH->Nat:=λvs _=>match vs[i]? with
 | some (.string s)=>m-s.size
 | _=>0
def aMk(n:Nat):Nat:=(119-n%64)%64
theorem aN2(n:Nat):aIc n=128::(List.replicate (aMk n) 0++be (n*8%18446744073709551616) 8):=rfl
theorem aXd{m j:Nat}(hj:j<8)(x:UInt8)(hx:x=UInt8.ofNat (m/256^j%256)):
  ((List.replicate (8-j) 0++(be m 8).drop (8-j)).map jH).take (7-j)++[jH x]++((List.replicate (8-j) 0++(be m 8).drop (8-j)).map jH).drop (7-j+1)=(List.replicate (8-(j+1)) 0++(be m 8).drop (8-(j+1))).map jH:=by
 have e1:(List.replicate (8-j) (0:UInt8)++(be m 8).drop (8-j)).take (7-j)=List.replicate (8-(j+1)) 0:=by
  rw[zLE (by simp;omega),List.take_replicate]
  congr 1
  omega
 have e2:(List.replicate (8-j) (0:UInt8)++(be m 8).drop (8-j)).drop (7-j+1)=(be m 8).drop (8-j):=by
  rw[List.drop_append_of_le_length (by simp;omega)]
  have:(List.replicate (8-j) (0:UInt8)).drop (7-j+1)=[]:=aKV (by simp;omega)
  rw[this];rfl
 have e3:(be m 8).drop (8-(j+1))=x::(be m 8).drop (8-j):=by
  have hg:=aNX m 8 (8-(j+1)) (by omega)
  have:8-1-(8-(j+1))=j:=by omega
  rw[this] at hg
  obtain⟨hlt',hg'⟩:=zLx.1 hg
  rw[aJx hlt',hg',hx]
  have:8-(j+1)+1=8-j:=by omega
  rw[this]
 rw[←aJG,←aK4,e1,e2,e3]
 simp
theorem aYA{h:PH}{l:List UInt8}(hl:l.length≤1000000000){k:cD}(hk:∀h',dC h h'->k (.string (tx (l++aIc l.length))) h'):aT PG aDY #[.string (tx l)] h k:=by
 apply vZ.call
 unfold vZ
 have w1:IntKind.u64.wrap (l.length:Int)=(l.length:Int):=gG (by omega) (by omega)
 have w2:IntKind.u64.wrap ((l.length:Int)*8)=((l.length*8:Nat):Int):=by rw[gG (by omega) (by omega)];omega
 simp only[bR.len,iD,aBN,w1,w2,aK3,cE,reduceIte]
 intro r hr
 refine fT ?_
 try rw[cZ]
 have u1:dC h (h.set r (.cells #[.int .u8 128] dN)):=cU.new hr
 have S1:fY (h.set r (.cells #[.int .u8 128] dN)) 1 (.slice (some ⟨r,0,none⟩) 1 1) ([(128:UInt8)].map jH):=(eS.lit (jH.rows [128]) dL (by simp) (by decide) (by rfl)).slR
 generalize h.set r (.cells #[.int .u8 128] dN)=h1 at *
 have hcv:cG PG h1 (convert dA bR (.slice (some ⟨r,0,none⟩) 1 1))=some (.string (tx [128])):=aEQ dA.und dN.und bR.und S1
 have hadd:cV PG (binOp .add bR (.string (tx l)) (.string (tx [128])))=some (.string (tx (l++[128]))):=lQ (by simp;omega)
 simp only[hcv,hadd,cE,reduceIte]
 have hz64:aMk l.length<64:=zLy _ (by decide)
 have hzd:aMk l.length=(119-l.length%64)%64:=rfl
 generalize hpn:aMk l.length=z at *
 refine⟨λvs h'=>∃j:Nat,j≤z∧vs=[.string (tx (l++128::List.replicate j 0)),.int .u64 ((l.length*8:Nat):Int)]∧dC h h',aSd (l.length+1+z) 0,⟨0,by omega,rfl,u1⟩,?_⟩
 rintro ρ h' ⟨j,hj,hvs,u⟩
 simp only[iH,iU,lF,and_true] at hvs
 obtain⟨v0,v3⟩:=hvs
 simp only[v0,v3,iH,iU]
 unfold aGR
 have hlen:(l++128::List.replicate j (0:UInt8)).length=l.length+1+j:=by simp;omega
 have rm:cV PG (binOp .rem bT (.int .i64 ((l.length+1+j:Nat):Int)) (.int .i64 64))=some (.int .i64 (((l.length+1+j)%64:Nat):Int)):=by
  rw[aHY (by decide)]
  exact congrArg some (congrArg _ (Int.ofNat_tmod _ 64).symm)
 simp only[bR.len,iD,hlen,rm,kU,cE,reduceIte]
 by_cases hjz:j<z
 ·have g:((((l.length+1+j)%64:Nat):Int) !=56)=true:=by rw[bne_iff_ne];omega
  simp only[g,aK3,cE,reduceIte]
  intro r2 hr2
  refine fT ?_
  try rw[cZ]
  have u2:dC h' (h'.set r2 (.cells #[.int .u8 0] dN)):=cU.new hr2
  have S2:fY (h'.set r2 (.cells #[.int .u8 0] dN)) 1 (.slice (some ⟨r2,0,none⟩) 1 1) ([(0:UInt8)].map jH):=(eS.lit (jH.rows [0]) dL (by simp) (by decide) (by rfl)).slR
  generalize h'.set r2 (.cells #[.int .u8 0] dN)=h2 at *
  have hcv2:cG PG h2 (convert dA bR (.slice (some ⟨r2,0,none⟩) 1 1))=some (.string (tx [0])):=aEQ dA.und dN.und bR.und S2
  have hadd2:cV PG (binOp .add bR (.string (tx (l++128::List.replicate j 0))) (.string (tx [0])))=some (.string (tx (l++128::List.replicate (j+1) 0))):=by
   rw[lQ (by rw[hlen];simp;omega)]
   congr 3
   rw[List.replicate_succ',pH];rfl
  simp only[hcv2,hadd2,cE,reduceIte]
  refine⟨⟨j+1,by omega,rfl,u.trans u2⟩,?_⟩
  have hlen2:(l++128::List.replicate (j+1) (0:UInt8)).length=l.length+1+(j+1):=by simp;omega
  simp only[aSd,pI,iD,hlen,hlen2]
  omega
 ·obtain rfl:j=z:=by omega
  have g:((((l.length+1+j)%64:Nat):Int) !=56)=false:=by rw[bne_eq_false_iff_eq];omega
  obtain⟨zs',hm,hzz⟩:=aED (P:=PG) (n:=8) dA.und dN.info dN.size dN.bytes dN.zero rfl (by decide) (by omega) (by omega)
  simp only[show((8:Nat):Int)=8 from rfl] at hm
  simp only[g,hm,cE,reduceIte]
  intro r2 hr2
  refine fT ?_
  try rw[cZ]
  have u2:dC h' (h'.set r2 (.cells zs' dN (0,0))):=cU.new hr2
  have O2:eS (h'.set r2 (.cells zs' dN (0,0))) dN 1 (.slice (some ⟨r2,0,none⟩) 8 8) ((List.replicate (8-0) 0++(be (l.length*8) 8).drop (8-0)).map jH) [r2]:=
   eS.lit (n:=8) (jH.rows _) dL (by simp[iF]) (by decide) (by
    rw[hzz,aKV (by simp[iF])];rfl)
  generalize h'.set r2 (.cells zs' dN (0,0))=h2 at *
  have fr:eP h [r2]:=eP.one (u.none hr2)
  have e2:=u.trans u2
  generalize hm8:l.length*8=m at *
  refine⟨λvs h3=>∃i:Nat,i≤8∧vs=[.string (tx (l++128::List.replicate j 0)),.int .u64 ((m/256^i:Nat):Int),.slice (some ⟨r2,0,none⟩) 8 8,.int .i64 (7-(i:Int))]∧eS h3 dN 1 (.slice (some ⟨r2,0,none⟩) 8 8) ((List.replicate (8-i) 0++(be m 8).drop (8-i)).map jH) [r2]∧dC h h3,aNf 3,⟨0,by omega,by simp,O2,e2⟩,?_⟩
  rintro ρ2 h3 ⟨i,hi,hvs,O3,u3⟩
  simp only[iH,iU,lF,and_true] at hvs
  obtain⟨w0,w3,w4,w5⟩:=hvs
  simp only[w0,w3,w4,w5,iH,iU]
  unfold aGO
  by_cases hi8:i<8
  ·have g1:((0:Int)≤7-(i:Int))=True:=eq_true (by omega)
   have g2:7-(i:Int)=((7-i:Nat):Int):=by omega
   have g3:IntKind.i64.wrap (7-(i:Int)-1)=7-((i+1:Nat):Int):=by rw[eZ (by omega) (by omega)];omega
   have hle:m/256^i≤m:=Nat.div_le_self _ _
   have r1:cV PG (binOp .rem cA (.int .u64 ((m/256^i:Nat):Int)) (.int .u64 256))=some (.int .u64 ((m/256^i%256:Nat):Int)):=by
    rw[aHY (by decide)]
    exact congrArg some (congrArg _ (Int.ofNat_tmod _ 256).symm)
   have r2':IntKind.u8.wrap ((m/256^i%256:Nat):Int)=((UInt8.ofNat (m/256^i%256)).toNat:Int):=by rw[aIG];simp
   have r3:cV PG (binOp .quo cA (.int .u64 ((m/256^i:Nat):Int)) (.int .u64 256))=some (.int .u64 ((m/256^(i+1):Nat):Int)):=by
    rw[aLK (by decide)]
    have:Int.tdiv ((m/256^i:Nat):Int) 256=((m/256^i/256:Nat):Int):=rfl
    have hd2:m/256^i/256=m/256^(i+1):=by rw[Nat.div_div_eq_div_mul,zLO]
    rw[this,hd2,gG (Int.natCast_nonneg _) (by have:=Nat.div_le_self m (256^(i+1));omega)]
   obtain⟨a,q1,q2⟩:=O3.storeCell (t:=dA) (k:=.i64) (j:=7-i) dA.und dN.info dN.size dN.und rfl (by simp[iF];omega) (x:=.int .u8 ((UInt8.ofNat (m/256^i%256)).toNat:Int)) rfl
   rw[←g2] at q1
   simp only[g1,r1,aSv,r2',q1,cE,reduceIte]
   refine q2 _ λh4 O4 u4=>?_
   have hp:=aXd (m:=m) hi8 _ rfl
   simp only[jH] at hp O4
   rw[hp] at O4
   simp only[r3,g3,cE,reduceIte]
   refine⟨⟨i+1,by omega,rfl,O4,u3.fresh u4 fr⟩,?_⟩
   simp only[aNf,sB,pI]
   omega
  ·obtain rfl:i=8:=by omega
   have g1:((0:Int)≤7-((8:Nat):Int))=False:=eq_false (by omega)
   have O3':eS h3 dN 1 (.slice (some ⟨r2,0,none⟩) 8 8) ((be m 8).map jH) [r2]:=O3
   have hcv3:cG PG h3 (convert dA bR (.slice (some ⟨r2,0,none⟩) 8 8))=some (.string (tx (be m 8))):=aEQ dA.und dN.und bR.und O3'.slR
   have hadd3:cV PG (binOp .add bR (.string (tx (l++128::List.replicate j 0))) (.string (tx (be m 8))))=some (.string (tx ((l++128::List.replicate j 0)++be m 8))):=lQ (by rw[hlen,iF];omega)
   simp only[g1,hcv3,hadd3,cE,reduceIte]
   have hfin:=hk h3 u3
   rw[aN2,hpn,hm8,aCK (by omega)] at hfin
   rw[pH]
   exact hfin
structure vG(h:PH)(b m:Nat)(A:List Tx)(c:Bool)(K:List Nat):Prop where
 here:∃(kv hv:Value) (l:List (Tx×Tx)),h b=some (.cells #[kv,hv,.map (some m),.bool c] fS (0,0))∧WSl h kv kT∧WSl h hv S0.l∧aCx kv K∧aCx hv K∧iQ sG h m (l.map λp=>(p.1,sG p.2))∧(c=false->∀a∈A,(l.find? λp=>decide (oT a=p.1)).map (·.2)=some a)
 ne:b≠m
 out:∀x∈K,x≠b∧x≠m∧h x≠none
theorem vG.upd{h h':PH}{b m:Nat}{A:List Tx}{c:Bool}{K G:List Nat}(H:vG h b m A c K)(u:cU G h h')(hd:∀x∈b::m::K,x∉G):vG h' b m A c K:=by
 obtain⟨kv,hv,l,h1,h2,h3,h4,h5,h6,h7⟩:=H.here
 refine⟨⟨kv,hv,l,u.get h1 (hd _ (by simp)),fY.upd h2 u λa n c' e=>hd _ (by simp[h4 a n c' e]),fY.upd h3 u λa n c' e=>hd _ (by simp[h5 a n c' e]),h4,h5,iQ.upd h6 u (hd _ (by simp)),h7⟩,H.ne,λx hx=>⟨(H.out x hx).1,(H.out x hx).2.1,?_⟩⟩
 obtain⟨o,ho⟩:=aGu.1 (H.out x hx).2.2
 rw[u.get ho (hd x (by simp[hx]))];simp
theorem vG.ext{h h':PH}{b m:Nat}{A:List Tx}{c:Bool}{K:List Nat}(H:vG h b m A c K)(u:dC h h'):vG h' b m A c K:=H.upd u (by simp)
theorem vG.known{h:PH}{b m:Nat}{A:List Tx}{c:Bool}{K:List Nat}(H:vG h b m A c K):∀x∈b::m::K,h x≠none:=by
 obtain⟨kv,hv,l,h1,h2,h3,h4,h5,h6,h7⟩:=H.here
 intro x hx
 simp only[gZ] at hx
 rcases hx with rfl|rfl|hx
 ·rw[h1];simp
 ·exact iQ.known h6
 ·exact(H.out x hx).2.2
def wK(A:List Tx):Prop:=∀a∈A,∀b∈A,oT a=oT b->a=b
theorem vG.uniq{h:PH}{b m:Nat}{A:List Tx}{K:List Nat}(H:vG h b m A false K):wK A:=by
 obtain⟨kv,hv,l,h1,h2,h3,h4,h5,h6,h7⟩:=H.here
 intro x hx y hy e
 have a:=h7 rfl x hx
 rw[e,h7 rfl y hy] at a
 exact(aJJ a).symm
theorem vG.sub{h:PH}{b m:Nat}{A B:List Tx}{c:Bool}{K:List Nat}(H:vG h b m A c K)(hs:∀a∈B,a∈A):vG h b m B c K:=by
 obtain⟨kv,hv,l,h1,h2,h3,h4,h5,h6,h7⟩:=H.here
 exact⟨⟨kv,hv,l,h1,h2,h3,h4,h5,h6,λhc a ha=>h7 hc a (hs a ha)⟩,H.ne,H.out⟩
theorem aRb(s:S8):pZ s []=(s,[]):=aHf (by decide)
theorem aSw{h:PH}{b m:Nat}{A:List Tx}{c:Bool}{K:List Nat}(H:vG h b m A c K){s:Tx}(hs:s.length≤100000000){k:cD}(hk:∀h',dC h h'->k (.string (tx (oT s))) h'):
  aT PG xQ #[pT b 0,.string (tx s)] h k:=by
 apply nM.call
 unfold nM
 obtain⟨kv,hv,l,h1,h2,h3,-⟩:=H.here
 refine aYA (by omega) λh4 u4=>?_
 have hb:=u4.get h1
 have icv:fK hv=true:=by obtain⟨_,_,e,_⟩:=h3.here;rw[e];rfl
 have c1:dD h4 ⟨b,0+1,none⟩=some hv:=by simp[dD,hb]
 simp only[fS.f1,eW.load,c1,cE,reduceIte]
 have hP:∃n,(s++aIc s.length).length=64*n:=by
  have hz:aMk s.length=(119-s.length%64)%64:=rfl
  refine⟨(s.length+9+aMk s.length)/64,?_⟩
  rw[aN2]
  simp only[jE,tT,aKG,iF]
  omega
 have hshow:aIC (pZ S0 (s++aIc s.length)).1=oT s:=rfl
 have hplen:(s++aIc s.length).length≤100000200:=by
  have hz:aMk s.length<64:=zLy _ (by decide)
  rw[aN2]
  simp only[jE,tT,aKG,iF]
  omega
 generalize s++aIc s.length=p at *
 obtain⟨n,hn⟩:=hP
 refine⟨λvs h'=>∃(i:Nat) (v:Value) (t:S8),i≤n∧vs=[pT b 0,.string (tx p),v,.int .i64 ((64*i:Nat):Int)]∧WSl h' v t.l∧pZ t (p.drop (64*i))=pZ S0 p∧dC h h',iE (64*n) 3,⟨0,hv,S0,by omega,rfl,h3.ext u4,by simp,u4⟩,?_⟩
 rintro ρ h' ⟨i,v,t,hi,hvs,St,hab,u⟩
 simp only[iH,iU,lF,and_true] at hvs
 obtain⟨v0,v5,v6,v7⟩:=hvs
 simp only[v0,v5,v6,v7,iH,iU]
 unfold aCb
 have hb':=u.get h1
 by_cases hin:i<n
 ·have g1:(((64*i:Nat):Int)<(p.length:Int))=True:=eq_true (by omega)
  have g2:IntKind.i64.wrap (((64*i:Nat):Int)+64)=((64*(i+1):Nat):Int):=by rw[eZ (by omega) (by omega)];omega
  have c0:dD h' ⟨b,0,none⟩=some kv:=by simp[dD,hb']
  have ec:cV PG (Instr.sliceAt bR (.string (tx p)) (some (.int .i64 ((64*i:Nat):Int))) (some (.int .i64 ((64*(i+1):Nat):Int))) none)=some (.string (tx ((p.take (64*(i+1))).drop (64*i)))):=
   aHi bR.und (.inr ⟨_,rfl⟩) (.inr ⟨_,rfl⟩) (by omega) (by omega)
  simp only[bR.len,iD,g1,g2,ec,fS.f0,eW.load,c0,cE,reduceIte]
  refine aT8 (by rw[oU,rN];omega) (h2.ext u) St λh5 w S5 u5=>?_
  refine⟨⟨i+1,w,_,by omega,rfl,S5,?_,u.trans u5⟩,?_⟩
  ·rw[←hab]
   conv=>rhs;rw[aHV (by rw[oU];omega)]
   rw[aG0,zLv]
   congr 2
   ·congr 2
    omega
  ·simp only[iE,sB,pI]
   omega
 ·obtain rfl:i=n:=by omega
  have g1:(((64*i:Nat):Int)<(p.length:Int))=False:=eq_false (by omega)
  simp only[bR.len,iD,g1,cE,reduceIte]
  rw[aKV (by omega),aRb] at hab
  rw[←hshow,←hab] at hk
  refine⟨λvs h2=>∃(j:Nat) (z:Value) (F:List Nat),j≤8∧vs=[v,z,.int .i64 (j:Int)]∧eS h2 dN 1 z (((t.l.take j).flatMap wb).map jH) F∧eP h' F∧dC h' h2,iE 8 2,⟨0,_,[],by omega,rfl,eS.nil,(λb hb=>by cases hb),cU.refl⟩,?_⟩
  rintro ρ2 h2' ⟨j,z,F,hj,hvs,O,fF,u2⟩
  simp only[iH,iU,lF,and_true] at hvs
  obtain⟨w6,w8',w9⟩:=hvs
  simp only[w6,w8',w9,iH,iU]
  unfold aCG
  by_cases hj8:j<8
  ·have e1:((j:Int)<8)=True:=eq_true (by omega)
   have e2:=rA (i:=j) (by omega)
   obtain⟨a1,p1,c1⟩:=aD3 (St.ext u2) (t.l_get hj8)
   have s24':cV PG (binOp .shr cL (wv (t.l.getD j 0)) (.int .u64 24))=_:=aI4 (n:=24) (by decide)
   have s16':cV PG (binOp .shr cL (wv (t.l.getD j 0)) (.int .u64 16))=_:=aI4 (n:=16) (by decide)
   have s8':cV PG (binOp .shr cL (wv (t.l.getD j 0)) (.int .u64 8))=_:=aI4 (n:=8) (by decide)
   have b4:∀(a b c d:UInt8),jS PG (buildSlice dA 4 #[(0,.int .u8 (a.toNat:Int)),(1,.int .u8 (b.toNat:Int)),(2,.int .u8 (c.toNat:Int)),(3,.int .u8 (d.toNat:Int))])=some (.cells #[.int .u8 (a.toNat:Int),.int .u8 (b.toNat:Int),.int .u8 (c.toNat:Int),.int .u8 (d.toNat:Int)] dN,λr=>pure (.slice (some ⟨r,0,none⟩) 4 4)):=λa b c d=>by kernel_rfl
   simp only[e1,p1,c1,s24',s16',s8',aTK,b4,cE,reduceIte]
   intro r hr
   refine fT ?_
   try rw[cZ]
   have hdt:=aPk t hj8
   generalize hx:t.l.getD j 0=x at *
   have u3:dC h2' (h2'.set r (.cells #[.int .u8 ((UInt8.ofNat (x>>>24).toNat).toNat:Int),.int .u8 ((UInt8.ofNat (x>>>16).toNat).toNat:Int),.int .u8 ((UInt8.ofNat (x>>>8).toNat).toNat:Int),.int .u8 ((UInt8.ofNat x.toNat).toNat:Int)] dN)):=cU.new hr
   have S3:fY (h2'.set r (.cells #[.int .u8 ((UInt8.ofNat (x>>>24).toNat).toNat:Int),.int .u8 ((UInt8.ofNat (x>>>16).toNat).toNat:Int),.int .u8 ((UInt8.ofNat (x>>>8).toNat).toNat:Int),.int .u8 ((UInt8.ofNat x.toNat).toNat:Int)] dN)) 1 (.slice (some ⟨r,0,none⟩) 4 4) ((wb x).map jH):=(eS.lit (n:=4) (jH.rows (wb x)) dL (by rfl) (by decide) rfl).slR
   generalize h2'.set r (.cells #[.int .u8 ((UInt8.ofNat (x>>>24).toNat).toNat:Int),.int .u8 ((UInt8.ofNat (x>>>16).toNat).toNat:Int),.int .u8 ((UInt8.ofNat (x>>>8).toNat).toNat:Int),.int .u8 ((UInt8.ofNat x.toNat).toNat:Int)] dN)=h3' at *
   refine jL dA.und dA.und dN.info dN.size dN.bytes dN.zero rfl (by decide) (O.ext u3) S3 (jH.isCell _) (by
    have:=aQw t (show j≤8 by omega)
    simp only[jC,aSW]
    omega) ?_
   intro z' h4' F' O4 u4' k4 _
   rw[←qB,←hdt] at O4
   have e3:=u2.trans u3
   simp only[e2,cE,reduceIte]
   refine⟨⟨j+1,z',F',by omega,rfl,O4,fF.grow e3 k4,e3.fresh u4' fF⟩,?_⟩
   simp only[iE,sB,pI]
   omega
  ·obtain rfl:j=8:=by omega
   have hfull:(t.l.take 8).flatMap wb=aIC t:=rfl
   rw[hfull] at O
   have hcv:cG PG h2' (convert dA bR z)=some (.string (tx (aIC t))):=aEQ dA.und dN.und bR.und O.slR
   simp only[show(((8:Nat):Int)<8)=False from eq_false (by decide),hcv,cE,reduceIte]
   exact hk _ (u.trans u2)
theorem aVL(a b:Option Addr)(n c n' c' m:Nat):cV PG (build fS #[(0,.slice a n c),(1,.slice b n' c'),(2,.map (some m))])=some (.agg #[.slice a n c,.slice b n' c',.map (some m),.bool false]):=by kernel_rfl
theorem aWL{h:PH}{k:cD}(hk:∀h' b m K,vG h' b m [] false K->eP h (b::m::K)->dC h h'->k (pT b 0) h'):aT PG aDd #[] h k:=by
 apply aCk.call
 unfold aCk
 refine aP7 λh1 v w F G OF OG fF fG u1=>?_
 simp only[aEa,cE,reduceIte]
 intro m hm
 refine fT ?_
 try rw[cZ]
 have u2:dC h1 (h1.set m (.map #[] 0)):=cU.new hm
 have M2:iQ sG (h1.set m (.map #[] 0)) m []:=iQ.new
 generalize h1.set m (.map #[] 0)=h2 at *
 obtain⟨av,cv,ev,-⟩:=OF.slR.here
 obtain⟨aw,cw,ew,-⟩:=OG.slR.here
 have hb:cV PG (build fS #[(0,v),(1,w),(2,.map (some m))])=some (.agg #[v,w,.map (some m),.bool false]):=by rw[ev,ew];exact aVL ..
 simp only[hb,cE,reduceIte]
 intro b hbn
 try rw[cZ]
 have ec:Value.cells (.agg #[v,w,.map (some m),.bool false])= #[v,w,.map (some m),.bool false]:=rfl
 rw[ec]
 have u3:dC h2 (h2.set b (.cells #[v,w,.map (some m),.bool false] fS)):=cU.new hbn
 have a3:(h2.set b (.cells #[v,w,.map (some m),.bool false] fS)) b=some (.cells #[v,w,.map (some m),.bool false] fS (0,0)):=dL
 generalize h2.set b (.cells #[v,w,.map (some m),.bool false] fS)=h3 at *
 have e12:=u1.trans u2
 have hmb:b≠m:=λe=>by subst e;exact M2.known hbn
 have hb1:h1 b=none:=u2.none hbn
 refine hk h3 b m (F++G) ⟨⟨v,w,[],a3,((OF.ext u2).ext u3).slR,((OG.ext u2).ext u3).slR,λa n c e=>by simp[aFs OF a n c e],λa n c e=>by simp[aFs OG a n c e],M2.ext u3,λ_ a ha=>by cases ha⟩,hmb,λx hx=>?_⟩ (λx hx=>?_) (e12.trans u3)
 ·have hk1:h1 x≠none:=by
   rcases jJ.1 hx with hx|hx
   ·exact OF.known x hx
   ·exact OG.known x hx
  refine⟨λe=>hk1 (by rw[e];exact hb1),λe=>hk1 (by rw[e];exact hm),λe=>hk1 ((u2.trans u3).none e)⟩
 ·simp only[gZ,jJ] at hx
  rcases hx with rfl|rfl|hx|hx
  ·exact e12.none hbn
  ·exact u1.none hm
  ·exact fF x hx
  ·exact fG x hx
theorem aKT{h:PH}{b m:Nat}{A:List Tx}{c:Bool}{K:List Nat}(H:vG h b m A c K){s:Tx}(hs:s.length≤100000000){k:cD}
  (hk:∀h' c',vG h' b m (s::A) c' K->(c=true->c'=true)->cU [b,m] h h'->k (.string (tx (oT s))) h'):aT PG kA #[pT b 0,.string (tx s)] h k:=by
 apply xU.call
 unfold xU
 refine aSw H hs λh1 u1=>?_
 have H1:=H.ext u1
 obtain⟨kv,hv,l,h1b,h2,h3,h4,h5,h6,h7⟩:=H1.here
 have c2:dD h1 ⟨b,0+2,none⟩=some (.map (some m)):=by simp[dD,h1b]
 have c3:dD h1 ⟨b,0+3,none⟩=some (.bool c):=by simp[dD,h1b]
 have hlook:cG PG h1 (Instr.lookup dU (.map (some m)) (.string (tx (oT s))) true)=some (.tuple #[.string (tx (((l.find? λp=>decide (oT s=p.1)).map (·.2)).getD [])),.bool ((l.find? λp=>decide (oT s=p.1)).map (·.2)).isSome]):=by
  have:=aEe aIZ dU.und bR.info bR.zero h6 (oT s) true
  have e:rP (l.map λp=>(p.1,sG p.2)) (oT s)=((l.find? λp=>decide (oT s=p.1)).map (·.2)).map sG:=by
   unfold rP
   rw[List.find?_map,Option.map_map,Option.map_map]
   rfl
  rw[e] at this
  rw[show(.string (tx (oT s)):Value)=sG (oT s) from rfl,this]
  cases (l.find? λp=>decide (oT s=p.1)).map (·.2)<;>rfl
 generalize hw:(l.find? λp=>decide (oT s=p.1)).map (·.2)=was at *
 have fin:∀c':Bool,(c=true->c'=true)->(c'=false->c=false∧∀x,was=some x->x=s)->cW PG (dJ gF (pT b (0+3)) (.bool c')) h1 λv35 h36=>
   dZ (dD h36 ⟨b,0+2,none⟩) λv39=>
   cW PG (aGr dU v39 (.string (tx (oT s))) (.string (tx s))) h36 λv40 h41=>k (.string (tx (oT s))) h41:=by
  intro c' hc1 hc2
  refine iY gF.und rfl h1b (by simp) rfl gF.info gF.size ?_
  have es:(#[kv,hv,Value.map (some m),Value.bool c]:Array Value).setIfInBounds (0+3) (.bool c')= #[kv,hv,.map (some m),.bool c']:=rfl
  rw[es]
  have u2:cU [b] h1 (h1.set b (.cells #[kv,hv,.map (some m),.bool c'] fS (0,0))):=cU.set (by simp)
  have b2:(h1.set b (.cells #[kv,hv,.map (some m),.bool c'] fS (0,0))) b=some (.cells #[kv,hv,.map (some m),.bool c'] fS (0,0)):=dL
  generalize h1.set b (.cells #[kv,hv,.map (some m),.bool c'] fS (0,0))=h2' at *
  have c2':dD h2' ⟨b,0+2,none⟩=some (.map (some m)):=by simp[dD,b2]
  simp only[c2',cE,reduceIte]
  have M2:=h6.upd u2 (by simpa using H.ne.symm)
  refine aLg aIZ dU.und M2 (oT s) (.string (tx s)) λh3' M3 u3=>?_
  have hne:=H.ne
  have hu1:cU [b,m] h1 h3':=by
   have t1:cU [b,m] h1 h2':=u2.mono λx hx=>.inl (by simp only[fW] at hx;simp[hx])
   have t2:cU [b,m] h2' h3':=u3.mono λx hx=>.inl (by simp only[fW] at hx;simp[hx])
   exact t1.trans t2
  have hu:cU [b,m] h h3':=u1.upd.trans hu1
  have hK:∀x∈K,x∉[b,m]:=λx hx hm=>by
   have:=H1.out x hx
   simp only[gZ,kW,or_false] at hm
   rcases hm with e|e
   ·exact this.1 e
   ·exact this.2.1 e
  obtain⟨l',e1,e2⟩:∃l':List (Tx×Tx),yQ (l.map λp=>(p.1,sG p.2)) (oT s) (.string (tx s))=l'.map (λp=>(p.1,sG p.2))∧∀d,(l'.find? λp=>decide (d=p.1)).map (·.2)=if d=oT s then some s else(l.find? λp=>decide (d=p.1)).map (·.2):=by
   have hgen:∃l':List (Tx×Tx),yQ (l.map λp=>(p.1,sG p.2)) (oT s) (.string (tx s))=l'.map (λp=>(p.1,sG p.2)):=by
    unfold yQ
    split
    ·refine⟨l.map λp=>if p.1=oT s then(oT s,s) else p,?_⟩
     rw[zL0,zL0]
     apply zL1
     intro p _
     show(if p.1=oT s then(oT s,Value.string (tx s)) else(p.1,sG p.2))=(λp:Tx×Tx=>(p.1,sG p.2)) (if p.1=oT s then(oT s,s) else p)
     split<;>rfl
    ·exact⟨l++[(oT s,s)],by rw[qB];rfl⟩
   obtain⟨l',e⟩:=hgen
   refine⟨l',e,λd=>?_⟩
   have hg:=aPP (l.map λp=>(p.1,sG p.2)) (oT s) d (.string (tx s))
   rw[e] at hg
   have eg:∀L:List (Tx×Tx),rP (L.map λp=>(p.1,sG p.2)) d=((L.find? λp=>decide (d=p.1)).map (·.2)).map sG:=λL=>by
    unfold rP
    rw[List.find?_map,Option.map_map,Option.map_map]
    rfl
   rw[eg,eg] at hg
   have hinj:∀{x y:Option Tx},x.map sG=y.map sG->x=y:=fun {x y} hxy=>by
    cases x<;>cases y<;>simp[sG] at hxy ⊢
    exact aK7 hxy
   apply hinj
   rw[hg]
   split<;>rfl
  rw[e1] at M3
  refine hk h3' c' ⟨⟨kv,hv,l',u3.get b2 (by simpa using hne),h2.upd hu1 (λa n c e=>hK _ (h4 a n c e)),h3.upd hu1 (λa n c e=>hK _ (h5 a n c e)),h4,h5,M3,λhcf a ha=>?_⟩,hne,λx hx=>?_⟩ hc1 hu
  ·obtain⟨hcc,hws⟩:=hc2 hcf
   rw[e2]
   rcases gZ.1 ha with rfl|ha
   ·rw[if_pos rfl]
   ·have hold:=h7 hcc a ha
    by_cases hd:oT a=oT s
    ·rw[if_pos hd]
     rw[hd,hw] at hold
     rw[hws a hold]
    ·rw[if_neg hd];exact hold
  ·have:=H1.out x hx
   refine⟨this.1,this.2.1,?_⟩
   obtain⟨o,ho⟩:=aGu.1 this.2.2
   rw[hu1.get ho (hK x hx)];simp
 have yU:yV undef=none:=rfl
 have gN:∀{X:(Value->PH->Prop)->Prop} {h:PH} {kv:cD} {w:Bool},oK none w X h kv=kv undef h:=fun {X h kv w}=>by simp[oK]
 simp only[fS.f2,fS.f3,dU.load,gF.load,c2,c3,hlook,cE,reduceIte]
 cases c with
 | true=>
  simp only[yU,gN,cE,reduceIte]
  exact fin true (λ_=>rfl) (λh=>by cases h)
 | false=>
  cases was with
  | none=>
   simp only[zLs,yU,gN,cE,reduceIte]
   exact fin false (λh=>h) (λ_=>⟨rfl,λx hx=>by cases hx⟩)
  | some x=>
   simp only[Option.isSome_some,aGn,yU,gN,aEu,cE,reduceIte]
   refine fin (!decide (x=s)) (λh=>by cases h) λhf=>⟨rfl,λy hy=>?_⟩
   obtain rfl:=aJJ hy
   simpa using hf
def aAX(p:Pr):Tx:=0::UInt8.ofNat (p.k.length%256)::(p.k++UInt8.ofNat (p.v.length%256)::p.v)
def rY(l r:Tx):Tx:=1::(l++r)
def aG4(n:Nat)(d:Tx):Tx:=2::(be n 8++d)
theorem aML(l r:Tx):zD l r=oT (rY l r):=rfl
def aAL(l:List Pr):List Tx:=if h:2≤l.length then rY (lC (l.take (dR l.length))) (lC (l.drop (dR l.length)))::(aAL (l.drop (dR l.length))++aAL (l.take (dR l.length))) else [aAX (l.headD ⟨[],[]⟩)]
termination_by l.length
decreasing_by
 ·have:=lH h;simp;omega
 ·have:=lH h;simp;omega
def rQ(l:List Pr):List Tx:=aG4 l.length (if l=[] then [] else lC l)::(if l=[] then [] else aAL l)
theorem tx0:({data:=#[0]}:ByteArray)=tx [0]:=rfl
theorem tx1:({data:=#[1]}:ByteArray)=tx [1]:=rfl
theorem tx2:({data:=#[2]}:ByteArray)=tx [2]:=rfl
theorem be1(n:Nat):be n 1=[UInt8.ofNat (n%256)]:=rfl
theorem aPq{h:PH}{b m:Nat}{A:List Tx}{c:Bool}{K:List Nat}(H:vG h b m A c K){p:Pr}(hl:p.k.length+p.v.length≤10000000){k:cD}
  (hk:∀h' c',vG h' b m (aAX p::A) c' K->(c=true->c'=true)->cU [b,m] h h'->k (.string (tx (aFH p))) h'):aT PG uG #[pT b 0,p.val] h k:=by
 apply uX.call
 unfold uX
 rw[aL0]
 intro r hr
 try rw[cZ]
 have u1:dC h (h.set r (.cells #[.string (tx p.k),.string (tx p.v)] cM)):=cU.new hr
 have a1:(h.set r (.cells #[.string (tx p.k),.string (tx p.v)] cM)) r=some (.cells #[.string (tx p.k),.string (tx p.v)] cM (0,0)):=dL
 generalize h.set r (.cells #[.string (tx p.k),.string (tx p.v)] cM)=h1 at *
 have c0:dD h1 ⟨r,0,none⟩=some (.string (tx p.k)):=by simp[dD,a1]
 have c1:dD h1 ⟨r,0+1,none⟩=some (.string (tx p.v)):=by simp[dD,a1]
 have w1:IntKind.u64.wrap (p.k.length:Int)=(p.k.length:Int):=gG (by omega) (by omega)
 have w2:IntKind.u64.wrap (p.v.length:Int)=(p.v.length:Int):=gG (by omega) (by omega)
 simp only[cM.f0,cM.f1,bR.load,c0,c1,bR.len,iD,aBN,w1,w2,cE,reduceIte]
 refine sT (n:=p.k.length) (c:=1) (by omega) (by decide) λh2 u2=>?_
 have a2:=u2.get a1
 have c0':dD h2 ⟨r,0,none⟩=some (.string (tx p.k)):=by simp[dD,a2]
 have c1':dD h2 ⟨r,0+1,none⟩=some (.string (tx p.v)):=by simp[dD,a2]
 have s1:cV PG (binOp .add bR (.string (tx [0])) (.string (tx (be p.k.length 1))))=some (.string (tx ([0]++be p.k.length 1))):=lQ (by rw[iF];decide)
 have s2:cV PG (binOp .add bR (.string (tx ([0]++be p.k.length 1))) (.string (tx p.k)))=some (.string (tx (([0]++be p.k.length 1)++p.k))):=lQ (by simp[iF];omega)
 simp only[bR.load,c0',c1',true_and,tx0,s1,s2,cE,reduceIte]
 refine sT (n:=p.v.length) (c:=1) (by omega) (by decide) λh3 u3=>?_
 have a3:=u3.get a2
 have c0'':dD h3 ⟨r,0,none⟩=some (.string (tx p.k)):=by simp[dD,a3]
 have c1'':dD h3 ⟨r,0+1,none⟩=some (.string (tx p.v)):=by simp[dD,a3]
 have s3:cV PG (binOp .add bR (.string (tx (([0]++be p.k.length 1)++p.k))) (.string (tx (be p.v.length 1))))=some (.string (tx ((([0]++be p.k.length 1)++p.k)++be p.v.length 1))):=lQ (by simp[iF];omega)
 have s4:cV PG (binOp .add bR (.string (tx ((([0]++be p.k.length 1)++p.k)++be p.v.length 1))) (.string (tx p.v)))=some (.string (tx (aAX p))):=by
  rw[lQ (by simp[iF];omega)]
  congr 3
  simp[aAX,be1]
 have s1':=s1
 simp only[bR.load,c0'',c1'',true_and,s3,s4,cE,reduceIte]
 have u:=(u1.trans u2).trans u3
 refine aKT (H.ext u) (by simp[aAX];omega) λh' c' H' hc u'=>?_
 exact hk h' c' H' hc (u.upd.trans u')
theorem aUo{n j:Nat}(h2:2≤n)(h1:2^j<n)(h3:¬2^j*2<n):dR n=2^j:=by
 unfold dR
 congr 1
 refine(Nat.log2_eq_iff (by omega)).2 ⟨by omega,?_⟩
 rw[zLO]
 omega
theorem aI0{h:PH}{n:Nat}(h2:2≤n)(hn:n≤65536){k:cD}(hk:k (.int .i64 ((dR n:Nat):Int)) h):aT PG qM #[.int .i64 (n:Int)] h k:=by
 apply aB1.call
 unfold aB1
 refine⟨λvs h'=>∃j:Nat,2^j<n∧vs=[.int .i64 (n:Int),.int .i64 ((2^j:Nat):Int)]∧h'=h,iE n 1,⟨0,by omega,rfl,rfl⟩,?_⟩
 rintro ρ h' ⟨j,hj,hvs,rfl⟩
 simp only[iH,iU,lF,and_true] at hvs
 obtain⟨v0,v3⟩:=hvs
 simp only[v0,v3,iH,iU]
 unfold aGN
 have hp:0<2^j:=Nat.pow_pos (by decide)
 have e1:IntKind.i64.wrap (((2^j:Nat):Int)*2)=((2^(j+1):Nat):Int):=by rw[eZ (by omega) (by omega),zLO];omega
 by_cases hl:2^(j+1)<n
 ·have g1:(((2^(j+1):Nat):Int)<(n:Int))=True:=eq_true (by omega)
  simp only[e1,g1,cE,reduceIte]
  refine⟨⟨j+1,hl,rfl,by trivial⟩,?_⟩
  simp only[iE,sB,pI]
  rw[zLO]
  rw[zLO] at hl
  omega
 ·have g1:(((2^(j+1):Nat):Int)<(n:Int))=False:=eq_false (by omega)
  simp only[e1,g1,cE,reduceIte]
  rw[aUo h2 hj (by rw[zLO] at hl;exact hl)] at hk
  exact hk
theorem aH2:∀(n:Nat) {h:PH} {v:Value} {l:List Pr} {b m:Nat} {A:List Tx} {c:Bool} {K:List Nat},l.length≤n->l≠[]->l.length≤65536->vG h b m A c K->fY h 2 v (l.map Pr.cells)->(∀a n c,v= .slice (some a) n c->a.block∉[b,m])->aAH l->∀{k:cD},
  (∀h' c',vG h' b m (aAL l++A) c' K->(c=true->c'=true)->cU [b,m] h h'->k (.string (tx (lC l))) h')->aT PG lW #[pT b 0,v] h k
 | 0,_,_,l,_,_,_,_,_,h0,hne,_,_,_,_,_,_,_=>by
  have:l=[]:=zLL (by omega)
  exact absurd this hne
 | n+1,h,v,l,b,m,A,c,K,hn,hne,hl,H,S,hv,hs,k,hk=>by
  apply rE.call
  unfold rE
  have lv:=S.len (t':=bT) cJ.und
  rw[jC] at lv
  have hpos:0<l.length:=aG1.2 hne
  by_cases h1:l.length=1
  ·have e1:((l.length:Int)==1)=true:=by simp[h1]
   obtain⟨p,hp⟩:=List.length_eq_one_iff.1 h1
   obtain⟨x,o,e2,-,-,e3⟩:=S.pair (j:=0) (p:=p) (by rw[hp];rfl)
   rw[show((0:Nat):Int)=0 from rfl] at e2
   simp only[lv,e1,e2,e3,cE,reduceIte]
   have hd:lC l=aFH p:=by rw[lC,dif_neg (by omega),hp];rfl
   have ha:aAL l=[aAX p]:=by rw[aAL,dif_neg (by omega),hp];rfl
   rw[hd,ha] at hk
   refine aPq H (by have:=hs p (by rw[hp];simp);omega) λh' c' H' hc u=>hk h' c' H' hc u
  ·have e1:((l.length:Int)==1)=false:=by simp;omega
   have h2:2≤l.length:=by omega
   simp only[lv,e1,cE,reduceIte]
   refine aI0 h2 hl ?_
   have hlt:=lH h2
   obtain⟨v1,s1,t1,x1⟩:=S.cut (lo:=none) (hi:=some (.int .i64 ((dR l.length:Nat):Int))) (l:=0) (m:=dR l.length) cJ.und cM.info cM.size (.inl ⟨rfl,rfl⟩) (.inr ⟨_,rfl⟩) (by omega) (by simp;omega)
   obtain⟨v2,s2,t2,x2⟩:=S.cut (lo:=some (.int .i64 ((dR l.length:Nat):Int))) (hi:=none) (l:=dR l.length) (m:=l.length) cJ.und cM.info cM.size (.inr ⟨_,rfl⟩) (.inl ⟨rfl,by simp⟩) (by omega) (by simp)
   rw[zLa,←aJG] at t1
   rw[←aJG,←aK4,zLG] at t2
   have hv1:∀a n c,v1= .slice (some a) n c->a.block∉[b,m]:=λa n c e=>by
    obtain⟨x0,n0,c0,e0,e5⟩:=x1 a n c e
    rw[e5];exact hv _ _ _ e0
   have hv2:∀a n c,v2= .slice (some a) n c->a.block∉[b,m]:=λa n c e=>by
    obtain⟨x0,n0,c0,e0,e5⟩:=x2 a n c e
    rw[e5];exact hv _ _ _ e0
   simp only[s1,s2,cE,reduceIte]
   have hd:lC l=zD (lC (l.take (dR l.length))) (lC (l.drop (dR l.length))):=by rw[lC,dif_pos h2]
   have ha:aAL l=rY (lC (l.take (dR l.length))) (lC (l.drop (dR l.length)))::(aAL (l.drop (dR l.length))++aAL (l.take (dR l.length))):=by rw[aAL,dif_pos h2]
   rw[hd,ha] at hk
   refine aH2 n (by simp;omega) (aJL (by rw[rN];omega)) (by simp;omega) H t1 hv1 (λp hp=>hs p (aKA hp)) λh1 c1 H1 hc1 u1=>?_
   have a1:cV PG (binOp .add bR (.string (tx [1])) (.string (tx (lC (l.take (dR l.length))))))=some (.string (tx ([1]++lC (l.take (dR l.length))))):=lQ (by rw[uF];decide)
   simp only[tx1,a1,cE,reduceIte]
   refine aH2 n (by simp;omega) (aJL (by rw[oU];omega)) (by simp;omega) H1 (t2.upd u1 hv2) hv2 (λp hp=>hs p (aLB hp)) λh2 c2 H2 hc2 u2=>?_
   have a2:cV PG (binOp .add bR (.string (tx ([1]++lC (l.take (dR l.length))))) (.string (tx (lC (l.drop (dR l.length))))))=some (.string (tx (rY (lC (l.take (dR l.length))) (lC (l.drop (dR l.length)))))):=by
    rw[lQ (by rw[jE,uF,uF];decide)];rfl
   simp only[a2,cE,reduceIte]
   refine aKT H2 (by simp[rY,uF]) λh3 c3 H3 hc3 u3=>?_
   rw[aML] at hk
   refine hk h3 c3 ?_ (λh=>hc3 (hc2 (hc1 h))) ((u1.trans u2).trans u3)
   rw[zLT,pH]
   exact H3
theorem aNh{h:PH}{b m:Nat}{A:List Tx}{c:Bool}{K:List Nat}(H:vG h b m A c K){n:Nat}{d:Tx}(hn:n≤1000000)(hd:d.length≤1000000){k:cD}
  (hk:∀h' c',vG h' b m (aG4 n d::A) c' K->(c=true->c'=true)->cU [b,m] h h'->k (.string (tx (aIN n d))) h'):aT PG rG #[pT b 0,.int .i64 (n:Int),.string (tx d)] h k:=by
 apply aCo.call
 unfold aCo
 have g1:((n:Int)<0)=False:=eq_false (by omega)
 have w1:IntKind.u64.wrap (n:Int)=(n:Int):=gG (by omega) (by omega)
 simp only[g1,cE,reduceIte]
 unfold aDg
 simp only[aBN,w1,cE,reduceIte]
 refine sT (n:=n) (c:=8) (by omega) (by decide) λh1 u1=>?_
 have a1:cV PG (binOp .add bR (.string (tx [2])) (.string (tx (be n 8))))=some (.string (tx ([2]++be n 8))):=lQ (by rw[iF];decide)
 have a2:cV PG (binOp .add bR (.string (tx ([2]++be n 8))) (.string (tx d)))=some (.string (tx (aG4 n d))):=by
  rw[lQ (by simp[iF];omega)]
  congr 3
 simp only[tx2,a1,a2,cE,reduceIte]
 refine aKT (H.ext u1) (by simp[aG4,iF];omega) λh' c' H' hc u'=>?_
 exact hk h' c' H' hc (u1.upd.trans u')
theorem aQI{h:PH}{b m:Nat}{A:List Tx}{c:Bool}{K:List Nat}(H:vG h b m A c K){v:Value}{l:List Pr}(hl:l.length≤65536)(S:fY h 2 v (l.map Pr.cells))(hv:∀a n c,v= .slice (some a) n c->a.block∉[b,m])(hs:aAH l){k:cD}
  (hk:∀h' c',vG h' b m (rQ l++A) c' K->(c=true->c'=true)->cU [b,m] h h'->k (.string (tx (jX l))) h'):aT PG uH #[pT b 0,v] h k:=by
 apply aB4.call
 unfold aB4
 have lv:=S.len (t':=bT) cJ.und
 rw[jC] at lv
 by_cases h0:l=[]
 ·subst h0
  simp only[lv,zLK,show(((0:Nat):Int)==0)=true from rfl,cE,reduceIte]
  exact aNh H (n:=0) (d:=[]) (by decide) (by decide) hk
 ·have hpos:0<l.length:=aG1.2 h0
  have e1:((l.length:Int)==0)=false:=by simp;omega
  simp only[lv,e1,cE,reduceIte]
  refine aH2 l.length (qZ _) h0 hl H S hv hs λh1 c1 H1 hc1 u1=>?_
  refine aNh H1 (by omega) (by rw[uF];decide) λh2 c2 H2 hc2 u2=>?_
  unfold jX rQ at hk
  rw[if_neg h0] at hk
  exact hk h2 c2 (by rw[if_neg h0];exact H2) (λh=>hc2 (hc1 h)) (u1.trans u2)
def Bk(b m:Nat)(A:List Tx)(K:List Nat)(h:PH):Prop:=∃c A',vG h b m A' c K∧∀a∈A,a∈A'
theorem Bk.ext{b m:Nat}{A:List Tx}{K:List Nat}{h h':PH}(H:Bk b m A K h)(u:dC h h'):Bk b m A K h':=by
 obtain⟨c,A',B,hs⟩:=H
 exact⟨c,A',B.ext u,hs⟩
theorem Bk.upd{b m:Nat}{A:List Tx}{K G:List Nat}{h h':PH}(H:Bk b m A K h)(u:cU G h h')(hd:∀x∈b::m::K,x∉G):Bk b m A K h':=by
 obtain⟨c,A',B,hs⟩:=H
 exact⟨c,A',B.upd u hd,hs⟩
theorem Bk.mono{b m:Nat}{A B:List Tx}{K:List Nat}{h:PH}(H:Bk b m A K h)(hs:∀a∈B,a∈A):Bk b m B K h:=by
 obtain⟨c,A',B',h1⟩:=H
 exact⟨c,A',B',λa ha=>h1 a (hs a ha)⟩
theorem Bk.known{b m:Nat}{A:List Tx}{K:List Nat}{h:PH}(H:Bk b m A K h):∀x∈b::m::K,h x≠none:=by
 obtain⟨c,A',B,hs⟩:=H
 exact B.known
theorem aLt{h:PH}{b m:Nat}{A:List Tx}{K:List Nat}(H:Bk b m A K h){s:Tx}(hs:s.length≤100000000){k:cD}
  (hk:∀h',Bk b m (s::A) K h'->cU [b,m] h h'->k (.string (tx (oT s))) h'):aT PG kA #[pT b 0,.string (tx s)] h k:=by
 obtain⟨c,A',B,h1⟩:=H
 refine aKT B hs λh' c' B' _ u=>hk h' ⟨c',s::A',B',λa ha=>?_⟩ u
 rcases gZ.1 ha with rfl|ha
 ·simp
 ·simp[h1 a ha]
theorem aVG{h:PH}{b m:Nat}{A:List Tx}{K:List Nat}(H:Bk b m A K h){p:Pr}(hl:p.k.length+p.v.length≤10000000){k:cD}
  (hk:∀h',Bk b m (aAX p::A) K h'->cU [b,m] h h'->k (.string (tx (aFH p))) h'):aT PG uG #[pT b 0,p.val] h k:=by
 obtain⟨c,A',B,h1⟩:=H
 refine aPq B hl λh' c' B' _ u=>hk h' ⟨c',_,B',λa ha=>?_⟩ u
 rcases gZ.1 ha with rfl|ha
 ·simp
 ·simp[h1 a ha]
theorem aV5{h:PH}{b m:Nat}{A:List Tx}{K:List Nat}(H:Bk b m A K h){n:Nat}{d:Tx}(hn:n≤1000000)(hd:d.length≤1000000){k:cD}
  (hk:∀h',Bk b m (aG4 n d::A) K h'->cU [b,m] h h'->k (.string (tx (aIN n d))) h'):aT PG rG #[pT b 0,.int .i64 (n:Int),.string (tx d)] h k:=by
 obtain⟨c,A',B,h1⟩:=H
 refine aNh B hn hd λh' c' B' _ u=>hk h' ⟨c',_,B',λa ha=>?_⟩ u
 rcases gZ.1 ha with rfl|ha
 ·simp
 ·simp[h1 a ha]
def Off(b m:Nat)(v:Value):Prop:=∀a n c,v= .slice (some a) n c->a.block∉[b,m]
theorem aNT{h:PH}{v:Value}{l:List Pr}{b m:Nat}{A:List Tx}{K:List Nat}(hne:l≠[])(hl:l.length≤65536)(H:Bk b m A K h)(S:fY h 2 v (l.map Pr.cells))(hv:Off b m v)(hs:aAH l){k:cD}
  (hk:∀h',Bk b m (aAL l++A) K h'->cU [b,m] h h'->k (.string (tx (lC l))) h'):aT PG lW #[pT b 0,v] h k:=by
 obtain⟨c,A',B,h1⟩:=H
 refine aH2 l.length (qZ _) hne hl B S hv hs λh' c' B' _ u=>hk h' ⟨c',_,B',λa ha=>?_⟩ u
 rcases jJ.1 ha with ha|ha
 ·simp[ha]
 ·simp[h1 a ha]
theorem aUs{h:PH}{b m:Nat}{A:List Tx}{K:List Nat}(H:Bk b m A K h){v:Value}{l:List Pr}(hl:l.length≤65536)(S:fY h 2 v (l.map Pr.cells))(hv:Off b m v)(hs:aAH l){k:cD}
  (hk:∀h',Bk b m (rQ l++A) K h'->cU [b,m] h h'->k (.string (tx (jX l))) h'):aT PG uH #[pT b 0,v] h k:=by
 obtain⟨c,A',B,h1⟩:=H
 refine aQI B hl S hv hs λh' c' B' _ u=>hk h' ⟨c',_,B',λa ha=>?_⟩ u
 rcases jJ.1 ha with ha|ha
 ·simp[ha]
 ·simp[h1 a ha]
theorem eP.off{h:PH}{F:List Nat}(f:eP h F){b m:Nat}(hb:h b≠none)(hm:h m≠none):∀x∈F,x∉[b,m]:=λx hx hm'=>by
 simp only[gZ,kW,or_false] at hm'
 rcases hm' with rfl|rfl
 ·exact hb (f _ hx)
 ·exact hm (f _ hx)
theorem cU.grow2{h h1:PH}{b m:Nat}(u:cU [b,m] h h1)(hb:h1 b≠none)(hm:h1 m≠none){x:Nat}(hx:h1 x=none):h x=none:=by
 cases e:h x with
 | none=>rfl
 | some o=>
  exfalso
  by_cases c:x∈[b,m]
  ·simp only[gZ,kW,or_false] at c
   rcases c with rfl|rfl
   ·exact hb hx
   ·exact hm hx
  ·have:=u x o e c
   rw[hx] at this;cases this
theorem aMe:∀(n:Nat) {h:PH} {v:Value} {l:List Pr} {j:Nat} {b m:Nat} {A:List Tx} {K:List Nat},l.length≤n->j<l.length->l.length≤65536->Bk b m A K h->fY h 2 v (l.map Pr.cells)->Off b m v->aAH l->∀{k:cD},
  (∀h' v' F,Bk b m A K h'->eS h' bR 1 v' ((mL l j).map jA) F->eP h F->cU [b,m] h h'->k v' h')->aT PG tV #[pT b 0,v,.int .i64 (j:Int)] h k
 | 0,_,_,l,j,_,_,_,_,h0,hj,_,_,_,_,_,_,_=>by omega
 | n+1,h,v,l,j,b,m,A,K,hn,hj,hl,H,S,hv,hs,k,hk=>by
  apply uZ.call
  unfold uZ
  have lv:=S.len (t':=bT) cJ.und
  rw[jC] at lv
  have g1:((j:Int)<0)=False:=eq_false (by omega)
  have g2:((l.length:Int)≤(j:Int))=False:=eq_false (by omega)
  by_cases h1:l.length=1
  ·have e1:((l.length:Int)==1)=true:=by simp[h1]
   simp only[g1,lv,g2,hE,e1,cE,reduceIte,cT,Nat.reduceAdd]
   have hp:mL l j=[]:=by rw[mL,dif_neg (by omega)]
   rw[hp] at hk
   exact hk h _ [] H eS.nil (λb hb=>by cases hb) cU.refl
  ·have e1:((l.length:Int)==1)=false:=by simp;omega
   have h2:2≤l.length:=by omega
   have hlt:=lH h2
   have kb:=H.known b (by simp)
   have km:=H.known m (by simp)
   simp only[g1,lv,g2,hE,e1,cE,reduceIte,cT,Nat.reduceAdd]
   refine aI0 h2 hl ?_
   obtain⟨v1,s1,t1,x1⟩:=S.cut (lo:=none) (hi:=some (.int .i64 ((dR l.length:Nat):Int))) (l:=0) (m:=dR l.length) cJ.und cM.info cM.size (.inl ⟨rfl,rfl⟩) (.inr ⟨_,rfl⟩) (by omega) (by simp;omega)
   obtain⟨v2,s2,t2,x2⟩:=S.cut (lo:=some (.int .i64 ((dR l.length:Nat):Int))) (hi:=none) (l:=dR l.length) (m:=l.length) cJ.und cM.info cM.size (.inr ⟨_,rfl⟩) (.inl ⟨rfl,by simp⟩) (by omega) (by simp)
   rw[zLa,←aJG] at t1
   rw[←aJG,←aK4,zLG] at t2
   have hv1:Off b m v1:=λa n c e=>by
    obtain⟨x0,n0,c0,e0,e5⟩:=x1 a n c e
    rw[e5];exact hv _ _ _ e0
   have hv2:Off b m v2:=λa n c e=>by
    obtain⟨x0,n0,c0,e0,e5⟩:=x2 a n c e
    rw[e5];exact hv _ _ _ e0
   have fin:∀{h3:PH} {v3:Value} {F3:List Nat} {q:List Tx} {d:Tx},Bk b m A K h3->eS h3 bR 1 v3 (q.map jA) F3->eP h F3->cU [b,m] h h3->q.length≤20->mL l j=q++[d]->dZ (jS PG (buildSlice cP 1 #[(0,.string (tx d))])) λx40=>∀r39,h3 r39=none->dZ (cV PG (x40.2 r39)) λv41=>eV (PH.set h3 r39 x40.1) λh42=>cW PG (Builtin.append_ #[cP,cP] cP #[v3,v41]) h42 λv43 h44=>k v43 h44:=by
    intro h3 v3 F3 q d B3 O3 f3 u3 hq hp
    simp only[aLx,cE,reduceIte,cT,Nat.reduceAdd]
    intro r hr
    refine fT ?_
    try rw[cZ]
    have u4:dC h3 (h3.set r (.cells #[.string (tx d)] bR)):=cU.new hr
    have s4:fY (h3.set r (.cells #[.string (tx d)] bR)) 1 (.slice (some ⟨r,0,none⟩) 1 1) ([d].map jA):=(eS.lit (n:=1) (rows:=[d].map jA) (λr hr=>by simp only[iH,iU,fW] at hr;subst hr;rfl) dL (by simp) (by decide) rfl).slR
    generalize h3.set r (.cells #[.string (tx d)] bR)=h4 at *
    have k3b:=B3.known b (by simp)
    have k3m:=B3.known m (by simp)
    refine jL cP.und cP.und bR.info bR.size bR.bytes bR.zero rfl (by decide) (O3.ext u4) s4 (λr hr u hu=>by
     obtain⟨y,hy,rfl⟩:=lI.1 hr
     exact jA.isC y u hu) (by simp only[jC,zLQ];omega) ?_
    intro v5 h5 F5 O5 u5 k5 _
    rw[←qB,←hp] at O5
    refine hk h5 v5 F5 ((B3.ext u4).upd u5 (λx hx hm'=>?_)) O5 (λx hx=>?_) ((u3.trans u4.upd).then u5 (λx hx=>.inr (f3 x hx)))
    ·have:h x≠none:=H.known x hx
     exact this (f3 x hm')
    ·rcases k5 x hx with hx|hx
     ·exact f3 x hx
     ·exact u3.grow2 k3b k3m (u4.none hx)
   have deep:∀(l':List Pr) (j':Nat),l'.length≤65536->(mL l' j').length≤20:=λl' j' hl'=>by
    have:=aEW 16 l' j' hl'
    omega
   by_cases hjm:j<dR l.length
   ·have g3:((j:Int)<((dR l.length:Nat):Int))=True:=eq_true (by omega)
    simp only[g3,s1,s2,cE,reduceIte,cT,Nat.reduceAdd]
    refine aMe n (l:=l.take (dR l.length)) (by rw[rN];omega) (by rw[rN];omega) (by rw[rN];omega) H t1 hv1 (λp hp=>hs p (aKA hp)) λh3 v3 F3 B3 O3 f3 u3=>?_
    refine aNT (aJL (by rw[oU];omega)) (by rw[oU];omega) B3 (t2.upd u3 hv2) hv2 (λp hp=>hs p (aLB hp)) λh4 B4 u4=>?_
    refine fin (q:=mL (l.take (dR l.length)) j) (B4.mono λa ha=>by simp[ha]) (O3.upd u4 (f3.off kb km)) f3 (u3.trans u4) (deep _ _ (by rw[rN];omega)) ?_
    rw[mL,dif_pos h2,if_pos hjm]
   ·have g3:((j:Int)<((dR l.length:Nat):Int))=False:=eq_false (by omega)
    have w1:IntKind.i64.wrap ((j:Int)-((dR l.length:Nat):Int))=((j-dR l.length:Nat):Int):=by rw[eZ (by omega) (by omega)];omega
    simp only[g3,s1,s2,w1,cE,reduceIte,cT,Nat.reduceAdd]
    refine aMe n (l:=l.drop (dR l.length)) (by rw[oU];omega) (by rw[oU];omega) (by rw[oU];omega) H t2 hv2 (λp hp=>hs p (aLB hp)) λh3 v3 F3 B3 O3 f3 u3=>?_
    refine aNT (aJL (by rw[rN];omega)) (by rw[rN];omega) B3 (t1.upd u3 hv1) hv1 (λp hp=>hs p (aKA hp)) λh4 B4 u4=>?_
    refine fin (q:=mL (l.drop (dR l.length)) (j-dR l.length)) (B4.mono λa ha=>by simp[ha]) (O3.upd u4 (f3.off kb km)) f3 (u3.trans u4) (deep _ _ (by rw[oU];omega)) ?_
    rw[mL,dif_pos h2,if_neg hjm]
def gB(i n:Nat):Nat:=if h:2≤n then(if i<dR n then 1+gB i (dR n) else 1+gB (i-dR n) (n-dR n)) else 0
termination_by n
decreasing_by
 ·have:=lH h;omega
 ·have:=lH h;omega
def oM(p:Pr)(i n:Nat)(path:List Tx):Tx:=
 if h:2≤n then(if i<dR n then zD (oM p i (dR n) path) (path.getD (gB i n-1) []) else zD (path.getD (gB i n-1) []) (oM p (i-dR n) (n-dR n) path)) else aFH p
termination_by n
decreasing_by
 ·have:=lH h;omega
 ·have:=lH h;omega
def upA(p:Pr)(i n:Nat)(path:List Tx):List Tx:=
 if h:2≤n then(if i<dR n then rY (oM p i (dR n) path) (path.getD (gB i n-1) [])::upA p i (dR n) path else rY (path.getD (gB i n-1) []) (oM p (i-dR n) (n-dR n) path)::upA p (i-dR n) (n-dR n) path) else [aAX p]
termination_by n
decreasing_by
 ·have:=lH h;omega
 ·have:=lH h;omega
theorem aJE:∀(d i n:Nat),n≤2^d->gB i n≤d
 | 0,i,n,h=>by rw[gB,dif_neg (by simp at h;omega)];exact qZ _
 | d+1,i,n,h=>by
  by_cases h2:2≤n
  ·obtain⟨a,b⟩:=aEZ h2 h
   rw[gB,dif_pos h2]
   split
   ·have:=aJE d i (dR n) a;omega
   ·have:=aJE d (i-dR n) (n-dR n) b;omega
  ·rw[gB,dif_neg h2];omega
theorem aJs:∀(n:Nat) (p:Pr) (i:Nat) (q r:List Tx),gB i n≤q.length->oM p i n (q++r)=oM p i n q:=by
 intro n
 induction n using Nat.strongRecOn with
 | ind n ih=>
  intro p i q r hq
  by_cases h2:2≤n
  ·obtain⟨m1,m2⟩:=lH h2
   rw[gB,dif_pos h2] at hq
   rw[oM,dif_pos h2]
   conv=>rhs;rw[oM,dif_pos h2]
   have hg:(q++r).getD (gB i n-1) []=q.getD (gB i n-1) []:=by
    have hd:gB i n-1<q.length:=by
     by_cases hi:i<dR n
     ·rw[if_pos hi] at hq
      rw[gB,dif_pos h2,if_pos hi];omega
     ·rw[if_neg hi] at hq
      rw[gB,dif_pos h2,if_neg hi];omega
    rw[aAM,aAM,List.getElem?_append_left hd]
   rw[hg]
   by_cases hi:i<dR n
   ·rw[if_pos hi] at hq
    rw[if_pos hi,if_pos hi,ih (dR n) m2 p i q r (by omega)]
   ·rw[if_neg hi] at hq
    rw[if_neg hi,if_neg hi,ih (n-dR n) (by omega) p (i-dR n) q r (by omega)]
  ·rw[oM,dif_neg h2]
   conv=>rhs;rw[oM,dif_neg h2]
theorem aVk:∀(n:Nat) (p:Pr) (i:Nat) (path:List Tx),upP p i n path=if gB i n≤path.length∧∀d∈path.drop (path.length-gB i n),d.length=32 then some (oM p i n (path.drop (path.length-gB i n)),path.take (path.length-gB i n)) else none:=by
 intro n
 induction n using Nat.strongRecOn with
 | ind n ih=>
  intro p i path
  by_cases h2:2≤n
  ·obtain⟨m1,m2⟩:=lH h2
   rcases List.eq_nil_or_concat path with rfl|⟨q,x,rfl⟩
   ·rw[upP,dif_pos h2,if_neg]
    ·rfl
    ·rintro⟨h,-⟩
     rw[gB,dif_pos h2] at h
     split at h<;>simp at h<;>omega
   ·rw[List.concat_eq_append]
    have key:∀(d:Nat) (Y:Tx->Tx) (U:List Tx->Tx) (o:Option (Tx×List Tx)),gB i n=1+d->(∀z,d≤z.length->U (z++[x])=U z)->
      o=(if d≤q.length∧∀y∈q.drop (q.length-d),y.length=32 then some (U (q.drop (q.length-d)),q.take (q.length-d)) else none)->(∀z,z.length=d->oM p i n (z++[x])=Y (U z))->
      (if x.length≠32 then none else o.map λy=>(Y y.1,y.2))=if gB i n≤(q++[x]).length∧∀y∈(q++[x]).drop ((q++[x]).length-gB i n),y.length=32 then some (oM p i n ((q++[x]).drop ((q++[x]).length-gB i n)),(q++[x]).take ((q++[x]).length-gB i n)) else none:=by
     intro d Y U o hd hU ho hY
     have hl:(q++[x]).length-gB i n=q.length-d:=by rw[hd,jE,zLQ];omega
     rw[hl,hd]
     by_cases hdq:d≤q.length
     ·have e1:(q++[x]).drop (q.length-d)=q.drop (q.length-d)++[x]:=List.drop_append_of_le_length (by omega)
      have e2:(q++[x]).take (q.length-d)=q.take (q.length-d):=zLE (by omega)
      rw[e1,e2]
      by_cases hx:x.length=32
      ·rw[if_neg (by simpa using hx),ho]
       by_cases hall:∀y∈q.drop (q.length-d),y.length=32
       ·rw[if_pos ⟨hdq,hall⟩,if_pos ⟨by simp;omega,λy hy=>by
         rcases jJ.1 hy with hy|hy
         ·exact hall y hy
         ·simp only[fW] at hy;rw[hy];exact hx⟩,hY _ (by rw[oU];omega)]
        rfl
       ·rw[if_neg (λh=>hall h.2),if_neg (λh=>hall λy hy=>h.2 y (by simp[hy]))]
        rfl
      ·rw[if_pos hx,if_neg (λh=>hx (h.2 x (by simp)))]
     ·have ho':o=none:=by rw[ho,if_neg (λh=>hdq h.1)]
      have hno:¬(1+d≤(q++[x]).length∧∀y∈(q++[x]).drop (q.length-d),y.length=32):=λh=>hdq (by have:=h.1;rw[jE,zLQ] at this;omega)
      rw[ho',if_neg hno]
      split<;>rfl
    rw[upP,dif_pos h2,List.getLast?_concat,List.dropLast_concat]
    simp only
    by_cases hi:i<dR n
    ·have hd:gB i n=1+gB i (dR n):=by rw[gB,dif_pos h2,if_pos hi]
     simp only[hi,if_true]
     refine key (gB i (dR n)) (λy=>zD y x) (λz=>oM p i (dR n) z) _ hd (λz hz=>aJs _ _ _ _ _ hz) (ih (dR n) m2 p i q) (λz hz=>?_)
     conv=>lhs;rw[oM,dif_pos h2,if_pos hi]
     rw[aJs _ _ _ _ _ (by omega),hd,aAM,show 1+gB i (dR n)-1=z.length by omega,List.getElem?_concat_length]
     rfl
    ·have hd:gB i n=1+gB (i-dR n) (n-dR n):=by rw[gB,dif_pos h2,if_neg hi]
     simp only[hi,if_false]
     refine key (gB (i-dR n) (n-dR n)) (λy=>zD x y) (λz=>oM p (i-dR n) (n-dR n) z) _ hd (λz hz=>aJs _ _ _ _ _ hz) (ih (n-dR n) (by omega) p (i-dR n) q) (λz hz=>?_)
     conv=>lhs;rw[oM,dif_pos h2,if_neg hi]
     rw[aJs _ _ _ _ _ (by omega),hd,aAM,show 1+gB (i-dR n) (n-dR n)-1=z.length by omega,List.getElem?_concat_length]
     rfl
  ·have h0:gB i n=0:=by rw[gB,dif_neg h2]
   rw[upP,dif_neg h2,h0,Nat.sub_zero,if_pos ⟨Nat.zero_le _,λd hd=>by simp at hd⟩,zLG,oM,dif_neg h2]
structure OkC(f:Lf):Prop where
 n1:1≤f.n
 n2:f.n≤4096
 i1:0≤f.i
 i2:f.i<f.n
 len:f.path.length=gB f.i.toNat f.n.toNat
 all:∀d∈f.path,d.length=32
def aK5(f:Lf):Tx:=oM f.p f.i.toNat f.n.toNat f.path
def aF2(f:Lf):List Tx:=aG4 f.n.toNat (aK5 f)::upA f.p f.i.toNat f.n.toNat f.path
theorem aOX{f:Lf}(H:OkC f):nI f=some (aIN f.n.toNat (aK5 f)):=by
 have h1:=H.n1;have h2:=H.n2;have h3:=H.i1;have h4:=H.i2
 unfold nI
 rw[if_neg (by omega),aVk,←H.len,Nat.sub_self,zLa,List.take_zero,if_pos ⟨qZ _,H.all⟩]
 rfl
theorem aOB{f:Lf}(H:¬OkC f):nI f=none:=by
 unfold nI
 by_cases c:f.n<1∨4096<f.n∨f.i<0∨f.n≤f.i
 ·rw[if_pos c]
 ·rw[if_neg c,aVk]
  by_cases d:gB f.i.toNat f.n.toNat≤f.path.length∧∀d∈f.path.drop (f.path.length-gB f.i.toNat f.n.toNat),d.length=32
  ·rw[if_pos d]
   obtain⟨d1,d2⟩:=d
   by_cases e:f.path.length=gB f.i.toNat f.n.toNat
   ·exfalso
    rw[←e,Nat.sub_self,zLa] at d2
    exact H ⟨by omega,by omega,by omega,by omega,e,d2⟩
   ·have hne:f.path.take (f.path.length-gB f.i.toNat f.n.toNat)≠[]:=aJL (by rw[rN];omega)
    cases ht:f.path.take (f.path.length-gB f.i.toNat f.n.toNat) with
    | nil=>exact absurd ht hne
    | cons x xs=>rfl
  ·rw[if_neg d];rfl
theorem aI8:∀(d:Nat) {h:PH} {i n:Nat},n≤2^d->1≤n->n≤4096->i<n->∀{k:cD},k (.int .i64 ((gB i n:Nat):Int)) h->aT PG pN #[.int .i64 (i:Int),.int .i64 (n:Int)] h k
 | d,h,i,n,hd,h1,hn,hi,k,hk=>by
  apply aBI.call
  unfold aBI
  by_cases e1:n=1
  ·have q:((n:Int)==1)=true:=by simp[e1]
   simp only[hE,q,cE,reduceIte,cT,Nat.reduceAdd]
   have:gB i n=0:=by rw[gB,dif_neg (by omega)]
   rw[this] at hk
   exact hk
  ·have q:((n:Int)==1)=false:=by simp;omega
   have h2:2≤n:=by omega
   obtain⟨m1,m2⟩:=lH h2
   cases d with
   | zero=>simp at hd;omega
   | succ d=>
    obtain⟨a,b⟩:=aEZ h2 hd
    simp only[hE,q,cE,reduceIte,cT,Nat.reduceAdd]
    refine aI0 h2 (by omega) ?_
    have hdl:=aJE 12 i n (by omega)
    by_cases c:i<dR n
    ·have g:((i:Int)<((dR n:Nat):Int))=True:=eq_true (by omega)
     have he:gB i n=1+gB i (dR n):=by rw[gB,dif_pos h2,if_pos c]
     have w:IntKind.i64.wrap (1+((gB i (dR n):Nat):Int))=((gB i n:Nat):Int):=by rw[eZ (by omega) (by omega)];omega
     simp only[g,cE,reduceIte,cT,Nat.reduceAdd]
     refine aI8 d a (by omega) (by omega) c ?_
     simp only[w,cE,reduceIte,cT,Nat.reduceAdd]
     exact hk
    ·have g:((i:Int)<((dR n:Nat):Int))=False:=eq_false (by omega)
     have he:gB i n=1+gB (i-dR n) (n-dR n):=by rw[gB,dif_pos h2,if_neg c]
     have w:IntKind.i64.wrap (1+((gB (i-dR n) (n-dR n):Nat):Int))=((gB i n:Nat):Int):=by rw[eZ (by omega) (by omega)];omega
     have w1:IntKind.i64.wrap ((i:Int)-((dR n:Nat):Int))=((i-dR n:Nat):Int):=by rw[eZ (by omega) (by omega)];omega
     have w2:IntKind.i64.wrap ((n:Int)-((dR n:Nat):Int))=((n-dR n:Nat):Int):=by rw[eZ (by omega) (by omega)];omega
     simp only[g,w1,w2,cE,reduceIte,cT,Nat.reduceAdd]
     refine aI8 d b (by omega) (by omega) (by omega) ?_
     simp only[w,cE,reduceIte,cT,Nat.reduceAdd]
     exact hk
end Go.Proofs.YtcoajnpchhmgjaaGreatDoor
namespace Go.Proofs.YtcoajnpchhmgjaaGreatDoor
open Go
theorem aWm{hs:List Int}{l:List hZ}(R:vX hs l)(hpos:∀y∈yX l,0≤y){best:Int}(h1:best=0∨best∈yX l)(h2:∀y∈yX l,y≤best)(h0:0≤best):aJq hs=best:=by
 unfold aJq
 rcases List.eq_nil_or_concat hs with rfl|⟨ys,y,rfl⟩
 ·rcases h1 with h|h
  ·exact h.symm
  ·exact absurd (R.mem.2 h) (by simp)
 ·have hy:y∈yX l:=R.mem.1 (by simp)
  have e1:=h2 y hy
  have e0:=hpos y hy
  simp only[List.concat_eq_append,List.getLast?_append,List.getLast?_singleton,Option.some_or,aGn]
  rcases h1 with h|h
  ·omega
  ·have:=R.mem.2 h
   rcases jJ.1 (by simpa[List.concat_eq_append] using this:best∈ys++[y]) with hb|hb
   ·have hup:=R.up
    rw[List.concat_eq_append,List.pairwise_append] at hup
    have:=hup.2.2 best hb y (by simp)
    omega
   ·simp at hb;exact hb.symm
theorem fY.kn{h:PH}{x:Value}{xs:List hZ}(H:fY h 2 x (xs.map hZ.cells)){k:IntKind}{j:Nat}{m:hZ}(hm:xs[j]? =some m):
  ∃b o,cV PG (indexAt dQ x (.int k j))=some (pT b o)∧dD h ⟨b,o,none⟩=some (.int .u64 m.height)∧dD h ⟨b,o+1,none⟩=some (.string m.root)∧cG PG h (loadAt eI (pT b o))=some (.agg m.cells.toArray):=by
 obtain⟨b,o,h1,h2,h3⟩:=H.fields dQ.und eI.info eI.size (k:=k) (j:=j) (r:=m.cells) (by rw[sC,hm];rfl)
 exact⟨b,o,h1,h2 0 _ rfl,h2 1 _ rfl,h3 _ eI.und rfl⟩
structure xL(h:PH)(a:Nat)(l:List hZ)(F:List Nat):Prop where
 here:∃v G,h a=some (.cells #[v] gA (0,0))∧eS h eI 2 v (l.map hZ.cells) G∧F=a::G∧a∉G
theorem xL.known{h:PH}{a:Nat}{l:List hZ}{F:List Nat}(H:xL h a l F):∀b∈F,h b≠none:=by
 obtain⟨v,G,ha,hO,rfl,hn⟩:=H
 intro b hb
 rcases gZ.1 hb with rfl|hb
 ·rw[ha];simp
 ·exact hO.known b hb
theorem xL.upd{h h':PH}{a:Nat}{l:List hZ}{F G:List Nat}(H:xL h a l F)(u:cU G h h')(hd:∀b∈F,b∉G):xL h' a l F:=by
 obtain⟨v,G',ha,hO,rfl,hn⟩:=H
 exact⟨v,G',u.get ha (hd a (by simp)),hO.upd u (λb hb=>hd b (by simp[hb])),rfl,hn⟩
theorem xL.ext{h h':PH}{a:Nat}{l:List hZ}{F:List Nat}(H:xL h a l F)(u:dC h h'):xL h' a l F:=H.upd u (by simp)
theorem aKN{h:PH}{a:Nat}{l:List hZ}{F:List Nat}(hR:xL h a l F)(hl:l.length≤1000000)(x:Int){k:cD}
  (hk:k (.tuple #[.string ((kJ l x).getD ⟨#[]⟩),.bool (kJ l x).isSome]) h):aT PG mI #[pT a 0,.int .u64 x] h k:=by
 obtain⟨v,G,ha,hO,rfl,hn⟩:=hR
 have lv:=hO.slR.len (t':=bT) dQ.und
 rw[jC] at lv
 apply uC.call
 unfold uC
 refine⟨λvs h'=>∃i:Nat,i≤l.length∧vs=[pT a 0,.int .u64 x,.int .i64 i]∧h'=h∧kJ l x=kJ (l.drop i) x,iE l.length 2,⟨0,by omega,rfl,rfl,rfl⟩,?_⟩
 rintro ρ h' ⟨i,hi,hvs,rfl,hr⟩
 simp only[iH,iU,lF,and_true] at hvs
 obtain⟨e0,e1,e5⟩:=hvs
 rw[e0,e1,e5]
 unfold aCW
 by_cases hlt:i<l.length
 ·have hd:((i:Int)<(l.length:Int))=True:=by apply eq_true;omega
  obtain⟨m,hm⟩:∃m,l[i]? =some m:=⟨_,lS hlt⟩
  obtain⟨b,o,a1,a2,a3,-⟩:=hO.slR.kn (k:=.i64) hm
  have e2:=rA (i:=i) (by omega)
  have ha':dD h' ⟨a,0,none⟩=some v:=by simp[dD,ha]
  have hdr:l.drop i=m::l.drop (i+1):=by
   rw[aJx hlt]
   rw[lS hlt] at hm
   simp at hm;rw[hm]
  simp only[gA.f0,dQ.load,ha',lv,hd,a1,eI.f0,eI.f1,cA.load,bR.load,a2,a3,e2,cE,reduceIte]
  by_cases e:x=m.height
  ·have e3:(m.height==x)=true:=by simp[e]
   have e4:kJ l x=some m.root:=by rw[hr,hdr];simp[kJ,e]
   rw[e4] at hk
   simp only[e3,cE,reduceIte]
   exact hk
  ·have e3:(m.height==x)=false:=by simp;exact λh=>e h.symm
   simp only[e3,cE,reduceIte]
   refine⟨⟨i+1,by omega,rfl,by trivial,?_⟩,by simp[iE,e5];omega⟩
   rw[hr,hdr]
   simp[kJ,e]
 ·have hd:((i:Int)<(l.length:Int))=False:=by apply eq_false;omega
  have ha':dD h' ⟨a,0,none⟩=some v:=by simp[dD,ha]
  simp only[gA.f0,dQ.load,ha',lv,hd,cE,reduceIte]
  have e4:kJ l x=none:=by rw[hr,aKV (by omega)];rfl
  rw[e4] at hk
  exact hk
theorem aJ4{l:List hZ}{i:Nat}{m:hZ}(hm:l[i]? =some m):yX (l.take (i+1))=yX (l.take i)++[m.height]:=by
 rw[zLR,hm];simp[yX]
theorem aR6{h:PH}{a:Nat}{l:List hZ}{hs:List Int}{F:List Nat}(hR:xL h a l F)(hl:l.length≤1000000)(R:vX hs l)(hpos:∀y∈yX l,0≤y){k:cD}
  (hk:k (.int .u64 (aJq hs)) h):aT PG vD #[pT a 0] h k:=by
 obtain⟨v,G,ha,hO,rfl,hn⟩:=hR
 have lv:=hO.slR.len (t':=bT) dQ.und
 rw[jC] at lv
 apply rS.call
 unfold rS
 refine⟨λvs h'=>∃(i:Nat) (best:Int),i≤l.length∧vs=[pT a 0,.int .u64 best,.int .i64 i]∧h'=h∧(best=0∨best∈yX (l.take i))∧(∀y∈yX (l.take i),y≤best)∧0≤best,iE l.length 2,⟨0,0,by omega,rfl,rfl,.inl rfl,by simp[yX],by omega⟩,?_⟩
 rintro ρ h' ⟨i,best,hi,hvs,rfl,q1,q2,q3⟩
 simp only[iH,iU,lF,and_true] at hvs
 obtain⟨e0,e1,e5⟩:=hvs
 rw[e0,e1,e5]
 unfold aBn
 have ha':dD h' ⟨a,0,none⟩=some v:=by simp[dD,ha]
 by_cases hlt:i<l.length
 ·have hd:((i:Int)<(l.length:Int))=True:=by apply eq_true;omega
  obtain⟨m,hm⟩:∃m,l[i]? =some m:=⟨_,lS hlt⟩
  obtain⟨b,o,a1,a2,a3,-⟩:=hO.slR.kn (k:=.i64) hm
  have e2:=rA (i:=i) (by omega)
  have hmp:0≤m.height:=hpos _ (zL4 (sH hm))
  simp only[gA.f0,dQ.load,ha',lv,hd,a1,eI.f0,cA.load,a2,cE,reduceIte]
  by_cases e:best<m.height
  ·simp only[e,cE,reduceIte]
   unfold pK uL
   simp only[e2,cE,reduceIte]
   refine⟨⟨i+1,m.height,by omega,rfl,by trivial,.inr ?_,?_,hmp⟩,by simp[iE,e5];omega⟩
   ·rw[aJ4 hm];simp
   ·intro y hy
    rw[aJ4 hm] at hy
    rcases jJ.1 hy with hy|hy
    ·have:=q2 y hy;omega
    ·simp at hy;omega
  ·simp only[e,cE,reduceIte]
   unfold pK uL
   simp only[e2,cE,reduceIte]
   refine⟨⟨i+1,best,by omega,rfl,by trivial,?_,?_,q3⟩,by simp[iE,e5];omega⟩
   ·rw[aJ4 hm];simp;rcases q1 with h|h
    ·exact .inl h
    ·exact .inr (.inl h)
   ·intro y hy
    rw[aJ4 hm] at hy
    rcases jJ.1 hy with hy|hy
    ·exact q2 y hy
    ·simp at hy;omega
 ·have hd:((i:Int)<(l.length:Int))=False:=by apply eq_false;omega
  simp only[gA.f0,dQ.load,ha',lv,hd,cE,reduceIte]
  rw[mV (by omega)] at q1 q2
  rw[aWm R hpos q1 q2 q3] at hk
  exact hk
theorem aWd:jS PG (buildSlice dQ 0 #[])=some (.cells #[] eI,λr=>pure (.slice (some ⟨r,0,none⟩) 0 0)):=by kernel_rfl
theorem aWi(m:hZ):jS PG (buildSlice dQ 1 #[(0,.agg m.cells.toArray)])=some (.cells m.cells.toArray eI,λr=>pure (.slice (some ⟨r,0,none⟩) 1 1)):=by kernel_rfl
theorem aVB(m:hZ):cV PG (build eI #[(0,.int .u64 m.height),(1,.string m.root)])=some (.agg m.cells.toArray):=by kernel_rfl
theorem aVs{h:PH}{a:Nat}{l:List hZ}{F:List Nat}(hR:xL h a l F)(hl:l.length≤4096)(x:hZ){k:cD}
  (hk:∀h' F',xL h' a (yS l x).2 F'->cU [a] h h'->(∀b∈F',b∈F∨h b=none)->k (.int .i64 (yS l x).1) h'):aT PG rT #[pT a 0,.int .u64 x.height,.string x.root] h k:=by
 apply vR.call
 unfold vR
 unfold yS at hk
 simp only[bR.len,cE,reduceIte]
 by_cases c1:x.root.size=32
 ·have e1:((x.root.size:Int) !=32)=false:=by simp[c1]
  rw[if_neg (by simpa using c1)] at hk
  simp only[e1,cE,reduceIte]
  refine aKN hR (by omega) x.height ?_
  simp only[aNM,cE,reduceIte]
  by_cases c2:x.height∈yX l
  ·simp only[c2,cE,reduceIte]
   rw[if_pos c2] at hk
   exact hk _ _ hR cU.refl (λb hb=>.inl hb)
  ·rw[if_neg c2] at hk
   obtain⟨v,G,ha,hO,hF,hn⟩:=hR.here
   have lv:=hO.slR.len (t':=bT) dQ.und
   rw[jC] at lv
   have ha':dD h ⟨a,0,none⟩=some v:=by simp[dD,ha]
   simp only[c2,gA.f0,dQ.load,ha',lv,cE,reduceIte]
   by_cases c3:4096≤l.length
   ·have e3:((4096:Int)≤(l.length:Int))=True:=by apply eq_true;omega
    simp only[e3,cE,reduceIte]
    rw[if_pos c3] at hk
    exact hk _ _ hR cU.refl (λb hb=>.inl hb)
   ·have e3:((4096:Int)≤(l.length:Int))=False:=by apply eq_false;omega
    rw[if_neg c3] at hk
    simp only[e3,aWd,cE,reduceIte]
    intro r hr
    refine fT ?_
    have u1:dC h (h.set r (.cells #[] eI)):=cU.new hr
    have hN:eS (h.set r (.cells #[] eI)) eI 2 (.slice (some ⟨r,0,none⟩) 0 0) [] [r]:=eS.lit (by intro r hr;cases hr) dL rfl (by simp) rfl
    have f1:eP h [r]:=eP.one hr
    generalize h.set r (.cells #[] eI)=h1 at *
    have ha1:dD h1 ⟨a,0,none⟩=some v:=by simp[dD,u1.get ha]
    simp only[ha1,cE,reduceIte]
    refine jL dQ.und dQ.und eI.info eI.size eI.bytes eI.zero rfl (by decide) hN (hO.slR.ext u1) (hZ.isCell _) (by simp;omega) ?_
    intro v2 h2 F2 hO2 u2 k2 _
    have w2:=u1.fresh u2 f1
    have f2:=f1.grow u1 k2
    rw[wN] at hO2
    simp only[aVB,aWi,cE,reduceIte]
    intro r3 hr3
    refine fT ?_
    have u3:dC h2 (h2.set r3 (.cells x.cells.toArray eI)):=cU.new hr3
    have hx3:fY (h2.set r3 (.cells x.cells.toArray eI)) 2 (.slice (some ⟨r3,0,none⟩) 1 1) ([x].map hZ.cells):=(eS.lit (hZ.rows _) dL (by simp) (by decide) (by simp)).slR
    generalize h2.set r3 (.cells x.cells.toArray eI)=h3 at *
    refine jL dQ.und dQ.und eI.info eI.size eI.bytes eI.zero rfl (by decide) (hO2.ext u3) hx3 (hZ.isCell _) (by simp;omega) ?_
    intro v4 h4 F4 hO4 u4 k4 _
    have w4:=(w2.trans u3).fresh u4 f2
    have f4:=f2.grow (w2.trans u3) k4
    rw[←qB] at hO4
    have ha4:=w4.get ha
    have na4:a∉F4:=λhm'=>by have:=f4 a hm';rw[ha] at this;cases this
    refine iY dQ.und rfl ha4 (by simp) ?_ dQ.info dQ.size ?_
    ·obtain⟨_,_,rfl,-⟩:=hO4.slR.here;rfl
    refine hk _ (a::F4) ⟨v4,F4,by simpa using dL,hO4.upd (cU.set (F:=[a]) (by simp)) (λb hb=>by simp;rintro rfl;exact na4 hb),rfl,na4⟩ (w4.upd.trans (cU.set (by simp))) ?_
    intro b hb
    simp only[gZ] at hb
    rcases hb with rfl|hb
    ·exact .inl (by rw[hF];simp)
    ·exact .inr (f4 b hb)
 ·have e1:((x.root.size:Int) !=32)=true:=by simp;omega
  rw[if_pos (by simpa using c1)] at hk
  simp only[e1,cE,reduceIte]
  exact hk _ _ hR cU.refl (λb hb=>.inl hb)
section
variable{P:Program}{h:PH}{t kt et:TypeId}{α:Type}[DecidableEq α]{enc:α->Value}
def aJu(l:List (α×Value))(a:α)(z:Value):List (α×Value):=if a∈pL l then l else l++[(a,z)]
structure aLp(enc:α->Value)(h:PH)(r:Nat)(l:List (α×Value))(a:α)(st:Nat):Prop where
 nodup:(pL l).Nodup
 here:∃es c L v,h r=some (.map es c)∧es.toList=vC enc L∧l=L.map (λp=>(p.1,p.2.1))∧(L.map (·.2.2)).Nodup∧(∀p∈L,p.2.2<c)∧(a,v,st)∈L
theorem aLp.map{r:Nat}{l:List (α×Value)}{a:α}{st:Nat}(H:aLp enc h r l a st):iQ enc h r l:=by
 obtain⟨es,c,L,v,h1,h2,h3,h4,h5,-⟩:=H.here
 exact⟨H.nodup,es,c,L,h1,h2,h3,h4,h5⟩
theorem aS4{r:Nat}{l:List (α×Value)}(K:aHy P kt enc)(hu:P.underlying t=some (.map kt et)){i:TypeInfo}{z:Value}(hi:P.info? et=some i)(hz:i.zero=some z)(H:iQ enc h r l)(a:α){k:cD}
  (hk:∀h' (st:Nat),aLp enc h' r (aJu l a z) a st->cU [r] h h'->k (.tuple #[(rP l a).getD z,.int .i64 (st:Int)]) h'):cW P (Instr.mapEntry t (.map (some r)) (enc a)) h k:=by
 obtain⟨es,c,L,h1,h2,rfl,hb1,hb2⟩:=H.here
 have hnd:=H.nodup
 rw[qV] at hnd
 show cW P (underlying t >>= _) h k
 rw[pF hu]
 refine aBk h1 ?_
 refine iI (K.chk h false a) ?_
 rw[h2]
 refine iI (aIA K a L) ?_
 have hg:=aLN a L 0
 rcases aKF a L 0 with⟨q,w,e1,e2,e3⟩|⟨e1,e2⟩
 ·rw[e1,fL]
  rw[e1] at hg
  rw[sC] at e2
  obtain⟨p,hp,rfl⟩:=Option.map_eq_some_iff.1 e2
  have hq:es[q]? =some ⟨enc p.1,p.2.1,p.2.2⟩:=by
   rw[←aJQ,h2]
   simp[vC,sC,hp]
  show cW P (Instr.keyThatStays (((es[q]?).map (·.key)).getD (enc p.1)) (enc p.1) >>= _) h _
  rw[hq]
  unfold Instr.keyThatStays
  simp only[aGS,aGn,K.bits,if_true]
  show(∃u,h r=some u∧(∀c e f,u≠ .cells c e f))∧_
  refine⟨⟨_,h1,by intros;simp⟩,?_⟩
  have hw:(rP (L.map λp=>(p.1,p.2.1)) p.1).getD z=w:=by
   rw[←hg];rfl
  have:=hk (h.set r (.map (es.modify q λe=>{e with key:=enc p.1}) c)) p.2.2 ?_ (cU.set (by simp))
  ·rw[hw] at this
   exact this
  ·have he:aJu (L.map λp=>(p.1,p.2.1)) p.1 z=L.map λp=>(p.1,p.2.1):=by
    unfold aJu
    rw[qV,if_pos e3]
   rw[he]
   refine⟨by rw[qV];exact hnd,_,c,L,p.2.1,dL,?_,rfl,hb1,hb2,sH hp⟩
   rw[Array.toList_modify,h2]
   apply aMN
   intro j
   rw[List.getElem?_modify]
   simp only[vC,sC]
   cases hj:L[j]? with
   | none=>simp
   | some x=>
    by_cases hjq:q=j
    ·subst hjq
     rw[hp] at hj;cases hj
     simp
    ·simp[hjq]
 ·rw[e1]
  rw[e1] at hg
  refine iI (aOp hi hz) ?_
  show(∃u,h r=some u∧(∀c e f,u≠ .cells c e f))∧_
  refine⟨⟨_,h1,by intros;simp⟩,?_⟩
  have hw:(rP (L.map λp=>(p.1,p.2.1)) a).getD z=z:=by
   rw[←hg];rfl
  have:=hk (h.set r (.map (es.push ⟨enc a,z,c⟩) (c+1))) c ?_ (cU.set (by simp))
  ·rw[hw] at this
   exact this
  ·have he:aJu (L.map λp=>(p.1,p.2.1)) a z=(L++[(a,z,c)]).map λp=>(p.1,p.2.1):=by
    unfold aJu
    rw[qV,if_neg e2]
    simp
   rw[he]
   refine⟨?_,_,c+1,L++[(a,z,c)],z,dL,by rw[Array.toList_push,h2];simp[vC],rfl,?_,?_,by simp⟩
   ·rw[qV,qB,List.nodup_append]
    refine⟨hnd,by simp,?_⟩
    intro x hx y hy
    simp only[iH,iU,fW] at hy
    subst hy
    rintro rfl
    exact e2 hx
   ·rw[qB,List.nodup_append]
    refine⟨hb1,by simp,?_⟩
    intro x hx y hy
    simp only[iH,iU,fW] at hy
    subst hy
    obtain⟨p,hp,rfl⟩:=lI.1 hx
    have:=hb2 p hp
    omega
   ·intro p hp
    rcases jJ.1 hp with hp|hp
    ·have:=hb2 p hp;omega
    ·simp only[fW] at hp;subst hp;simp
theorem aRX{L:List (α×Value×Nat)}(hn:(L.map (·.2.2)).Nodup){a:α}{v:Value}{st:Nat}(hm:(a,v,st)∈L):∃q,L[q]? =some (a,v,st)∧(vC enc L).findIdx? (λe=>(e.born:Int)==(st:Int))=some q:=by
 induction L with
 | nil=>cases hm
 | cons x xs ih=>
  by_cases c:x.2.2=st
  ·have:x=(a,v,st):=by
    rcases gZ.1 hm with h|h
    ·exact h.symm
    ·simp only[iH,aIM] at hn
     exact absurd (lI.2 ⟨_,h,c.symm⟩) hn.1
   subst this
   exact⟨0,rfl,by simp[vC,List.findIdx?_cons]⟩
  ·have hm':(a,v,st)∈xs:=by
    rcases gZ.1 hm with h|h
    ·rw[←h] at c;exact absurd rfl c
    ·exact h
   simp only[iH,aIM] at hn
   obtain⟨q,h1,h2⟩:=ih hn.2 hm'
   refine⟨q+1,by simpa using h1,?_⟩
   have hb:(((x.2.2:Nat):Int)==(st:Int))=false:=by rw[beq_eq_false_iff_ne];omega
   show(List.findIdx? _ (_::vC enc xs))=_
   rw[List.findIdx?_cons]
   simp only[hb,zLr,if_false]
   rw[h2];rfl
theorem aWz(l:List (α×Value))(a:α)(z v:Value):yQ (aJu l a z) a v=yQ l a v:=by
 unfold yQ aJu
 by_cases c:a∈pL l
 ·rw[if_pos c,if_pos c]
 ·have:a∈pL (l++[(a,z)]):=by simp[pL]
  rw[if_neg c,if_neg c,if_pos this,qB]
  congr 1
  ·refine(zL1 (g:=id) ?_).trans (List.map_id l)
   intro x hx
   exact if_neg (by rintro rfl;exact c (zL4 hx))
  ·simp
theorem aQW{r:Nat}{l:List (α×Value)}{a:α}{st:Nat}(H:aLp enc h r l a st)(v:Value){k:cD}(hk:∀h',iQ enc h' r (yQ l a v)->cU [r] h h'->k undef h'):cW P (aE5 t (.map (some r)) (.int .i64 (st:Int)) v) h k:=by
 obtain⟨es,c,L,w,h1,h2,rfl,hb1,hb2,hm⟩:=H.here
 have hnd:=H.nodup
 rw[qV] at hnd
 obtain⟨q,hq,hf⟩:=aRX (enc:=enc) hb1 hm
 have hf':es.findIdx? (λe=>(e.born:Int)==(st:Int))=some q:=by
  rw[←hf,←h2]
  obtain⟨es⟩:=es
  simp[List.findIdx?_toArray]
 show cW P (Instr.entryStore t (.map (some r)) (.int .i64 (st:Int)) v >>= λ_=>pure undef) h k
 refine cW.bind (P:=P) (s:=Instr.entryStore t (.map (some r)) (.int .i64 (st:Int)) v) ?_
 refine aBk h1 ?_
 show cW P (match es.findIdx? (λe=>(e.born:Int)==(st:Int)) with|some i=>setObj r (.map (es.modify i λe=>{e with val:=v}) c)|none=>_) h _
 rw[hf']
 show(∃u,h r=some u∧(∀c e f,u≠ .cells c e f))∧_
 refine⟨⟨_,h1,by intros;simp⟩,?_⟩
 show k undef _
 have hak:a∈pL (L.map λp=>(p.1,p.2.1)):=by rw[qV];exact lI.2 ⟨_,hm,rfl⟩
 have hbm:(L.map (λp=>if p.1=a then(a,v,p.2.2) else p)).map (·.2.2)=L.map (·.2.2):=by
  rw[zL0];apply zL1;intro p _;simp only[Function.comp];split<;>rfl
 refine hk _ ⟨?_,_,c,L.map (λp=>if p.1=a then(a,v,p.2.2) else p),dL,?_,?_,by rw[hbm];exact hb1,λp hp=>?_⟩ (cU.set (by simp))
 ·have:pL (yQ (L.map λp=>(p.1,p.2.1)) a v)=L.map (·.1):=by
   unfold yQ
   rw[if_pos hak]
   simp only[pL,zL0]
   apply zL1
   intro p _
   simp only[Function.comp]
   split
   ·rename_i h;exact h.symm
   ·rfl
  rw[this];exact hnd
 ·rw[Array.toList_modify,h2]
  apply aMN
  intro j
  rw[List.getElem?_modify]
  simp only[vC,sC]
  cases hj:L[j]? with
  | none=>simp
  | some p=>
   by_cases hjq:q=j
   ·subst hjq
    rw[hq] at hj;cases hj
    simp
   ·have hne:p.1≠a:=by
     intro hpa
     have h3:(L.map (·.1))[j]? =(L.map (·.1))[q]?:=by rw[sC,sC,hj,hq,aGS,aGS,hpa]
     have hjl:j<(L.map (·.1)).length:=by rw[jC];exact(zLx.1 hj).1
     exact hjq ((List.getElem?_inj hjl hnd).1 h3).symm
    simp[hjq,hne]
 ·unfold yQ
  rw[if_pos hak]
  simp only[zL0]
  apply zL1
  intro p _
  simp only[Function.comp]
  split<;>rfl
 ·obtain⟨x,hx,rfl⟩:=lI.1 hp
  have:=hb2 x hx
  split<;>exact this
end
theorem neqPtrSelf{h:PH}{x y:Operand}(a:Addr):cG PG h (jQ .neq dV x y (.pointer (some a)) (.pointer (some a)))=some (.bool false):=by
 show cG PG h (Op.equalIn (9999+1) dV (.pointer (some a)) (.pointer (some a)) >>= λb=>(pure (Value.bool (!b)):Sem Value))=_
 rw[jZ]
 have:cG PG h (Op.equalIn (9999+1) dV (.pointer (some a)) (.pointer (some a)))=some true:=by
  rw[Op.equalIn,kE dV.und]
  simp only[kZ]
  rw[aCa dF.info]
  simp[dF.size,sameAddr,cG,pure]
 rw[this];rfl
theorem semE_viewAt{h:PH}{r:Nat}{x:TypeId×Nat}{α:Type}(hs:jY h r=some (some x))(f:Option (Addr×TypeId)->Sem α):cG PG h (viewAt r >>= f)=cG PG h (f none):=by
 rw[jZ]
 have:cG PG h (viewAt r)=some none:=by
  show(jY h r).bind _=_
  rw[hs];rfl
 rw[this];rfl
theorem semE_seenAt{h:PH}{a:Addr}{x:TypeId×Nat}{α:Type}(hs:jY h a.block=some (some x))(f:Addr->Sem α):cG PG h (Conv.seenAt a >>= f)=cG PG h (f a):=by
 rw[jZ]
 have:cG PG h (Conv.seenAt a)=some a:=by
  unfold Conv.seenAt
  rw[semE_viewAt hs];rfl
 rw[this];rfl
theorem semE_cellsIn{h:PH}{r:Nat}{x:TypeId×Nat}{α:Type}(hs:jY h r=some (some x))(f:Option Nat->Sem α):cG PG h (cellsIn r >>= f)=cG PG h (f (some x.2)):=by
 rw[jZ]
 have:cG PG h (cellsIn r)=some (some x.2):=by
  show(jY h r).bind _=_
  rw[hs];rfl
 rw[this];rfl
theorem to_unsafe{h:PH}{a:Nat}{c:Array Value}(ha:h a=some (.cells c fN (0,0)))(hc:1<c.size):cG PG h (convert dV iG (pT a 1))=some (pT a 1):=by
 have hs:jY h a=some (some (fN,c.size)):=by unfold jY;rw[ha]
 show cG PG h (underlying dV >>= _)=_
 rw[kE dV.und]
 show cG PG h (underlying iG >>= _)=_
 rw[kE iG.und]
 show cG PG h (underlying dV >>= _)=_
 rw[kE dV.und]
 show cG PG h (underlying iG >>= _)=_
 rw[kE iG.und]
 show cG PG h (Conv.seenAt ⟨a,1,none⟩ >>= _)=_
 rw[semE_seenAt (a:=⟨a,1,none⟩) hs]
 show cG PG h (cellsIn a >>= _)=_
 rw[semE_cellsIn hs]
 have h1:¬(1 ≥ c.size):=by omega
 simp only[kZ]
 rw[aCa dF.info]
 simp[dF.size,h1,cG,pure]
theorem from_unsafe{h:PH}{a:Nat}{c:Array Value}(ha:h a=some (.cells c fN (0,0)))(hc:c.size=3):cG PG h (convert iG dV (pT a 1))=some (pT a 1):=by
 have hs:jY h a=some (some (fN,c.size)):=by unfold jY;rw[ha]
 rw[hc] at hs
 show cG PG h (underlying iG >>= _)=_
 rw[kE iG.und]
 show cG PG h (underlying dV >>= _)=_
 rw[kE dV.und]
 show cG PG h (underlying iG >>= _)=_
 rw[kE iG.und]
 show cG PG h (underlying dV >>= _)=_
 rw[kE dV.und]
 show cG PG h (Conv.seenAt ⟨a,1,none⟩ >>= _)=_
 rw[semE_seenAt (a:=⟨a,1,none⟩) hs]
 have hv:cG PG h (variablesAt ⟨a,1,none⟩ dF 1)=some true:=by
  show(jY h a).bind _=_
  rw[hs]
  kernel_rfl
 simp only[kZ]
 rw[aCa dF.info]
 simp only[dF.size]
 rw[jZ,hv]
 simp[cG,pure]
theorem NoEscape_ok{h:PH}{v:Value}{k:cD}(hk:k v h):aT PG aAT #[v] h k:=
 aT.entry (v:=v) (by kernel_rfl) hk
structure WAt(h:PH)(a:Nat)(e:Int)(bs:List UInt8)(F:List Nat):Prop where
 here:∃p v G,h a=some (.cells #[.int .i64 e,p,v] fN (0,0))∧(p= .pointer none∨p=pT a 1)∧eS h dN 1 v (bs.map jH) G∧F=a::G∧a∉G
theorem WAt.known{h:PH}{a:Nat}{e:Int}{bs:List UInt8}{F:List Nat}(H:WAt h a e bs F):∀b∈F,h b≠none:=by
 obtain⟨p,v,G,ha,hp,hO,rfl,hn⟩:=H
 intro b hb
 rcases gZ.1 hb with rfl|hb
 ·rw[ha];simp
 ·exact hO.known b hb
theorem WAt.upd{h h':PH}{a:Nat}{e:Int}{bs:List UInt8}{F G:List Nat}(H:WAt h a e bs F)(u:cU G h h')(hd:∀b∈F,b∉G):WAt h' a e bs F:=by
 obtain⟨p,v,G',ha,hp,hO,rfl,hn⟩:=H
 exact⟨p,v,G',u.get ha (hd a (by simp)),hp,hO.upd u (λb hb=>hd b (by simp[hb])),rfl,hn⟩
theorem WAt.ext{h h':PH}{a:Nat}{e:Int}{bs:List UInt8}{F:List Nat}(H:WAt h a e bs F)(u:dC h h'):WAt h' a e bs F:=H.upd u (by simp)
def aGF(h:PH)(a:Nat)(F:List Nat)(e:Int)(bs:List UInt8)(k:PH->Prop):Prop:=∀h' F',WAt h' a e bs F'->cU F h h'->(∀b∈F',b∈F∨h b=none)->k h'
theorem copyCheck_ok{h:PH}{a:Nat}{m p v:Value}(ha:h a=some (.cells #[m,p,v] fN (0,0)))(hp:p= .pointer none∨p=pT a 1){k:cD}
  (hk:∀h',h' a=some (.cells #[m,pT a 1,v] fN (0,0))->cU [a] h h'->(∀b,b≠a->h' b=h b)->k (.tuple #[]) h'):aT PG lY #[pT a 1] h k:=by
 apply mW.call
 unfold mW
 have hc:dD h ⟨a,1,none⟩=some p:=by simp[dD,ha]
 simp only[dF.f0,dV.load,hc,cE,reduceIte]
 rcases hp with rfl|rfl
 ·simp only[aEH dV.und,Option.isNone_none,cE,reduceIte]
  refine cG.semH (to_unsafe ha (by simp)) ?_
  refine NoEscape_ok ?_
  refine cG.semH (from_unsafe ha (by simp)) ?_
  refine iY dV.und rfl ha (by simp) rfl dV.info dV.size ?_
  exact hk _ dL (cU.set (by simp)) (λb hb=>pX hb)
 ·simp only[aEH dV.und,Option.isNone_some,neqPtrSelf,dF.f0,dV.load,hc,cE,reduceIte]
  exact hk _ ha cU.refl (λ_ _=>rfl)
theorem byte_lit(x:Int):jS PG (buildSlice dA 1 #[(0,.int .u8 x)])=some (.cells #[.int .u8 x] dN,λr=>pure (.slice (some ⟨r,0,none⟩) 1 1)):=by kernel_rfl
theorem buf_app{h:PH}{a:Nat}{e:Int}{p v x:Value}{bs ys:List UInt8}{G:List Nat}{t2 e2:TypeId}(hu2:PG.underlying t2=some (.slice e2))(ha:h a=some (.cells #[.int .i64 e,p,v] fN (0,0)))(hp:p= .pointer none∨p=pT a 1)(hO:eS h dN 1 v (bs.map jH) G)(hn:a∉G)
  (hx:fY h 1 x (ys.map jH)) (hl:bs.length+ys.length≤140737488355328) {k:PH->Prop} (hk:aGF h a (a::G) e (bs++ys) k):
  cW PG (Builtin.append_ #[dA,t2] dA #[v,x]) h λv' h'=>cW PG (dJ dA (pT a 2) v') h' λ_ h''=>k h'':=by
 refine jL dA.und hu2 dN.info dN.size dN.bytes dN.zero rfl (by decide) hO hx (jH.isCell _) (by simp;omega) ?_
 intro v2 h2 F2 hO2 u2 k2 _
 rw[←qB] at hO2
 have ha2:=u2.get ha hn
 have hn2:a∉F2:=λhm=>by
  rcases k2 a hm with h1|h1
  ·exact hn h1
  ·rw[ha] at h1;cases h1
 refine iY dA.und rfl ha2 (by simp) ?_ dA.info dA.size ?_
 ·obtain⟨_,_,rfl,-⟩:=hO2.slR.here;rfl
 ·refine hk _ (a::F2) ⟨p,v2,F2,dL,hp,hO2.upd (cU.set (F:=[a]) (by simp)) (λb hb=>by simp;rintro rfl;exact hn2 hb),rfl,hn2⟩ ((u2.mono λb hb=>.inl (by simp[hb])).trans (cU.set (by simp))) (λb hb=>?_)
  rcases gZ.1 hb with rfl|hb
  ·exact .inl (by simp)
  ·rcases k2 b hb with h1|h1
   ·exact .inl (by simp[h1])
   ·exact .inr h1
theorem WriteByte_ok{h:PH}{a:Nat}{e:Int}{bs:List UInt8}{F:List Nat}(hW:WAt h a e bs F)(hl:bs.length+1≤140737488355328)(x:UInt8){k:cD}(hk:aGF h a F e (bs++[x]) (k .nilIface)):
  aT PG mA #[pT a 1,.int .u8 x.toNat] h k:=by
 obtain⟨p,v,G,ha,hp,hO,rfl,hn⟩:=hW
 apply nA.call
 unfold nA
 refine copyCheck_ok ha hp λh1 ha1 u1 o1=>?_
 have hc:dD h1 ⟨a,2,none⟩=some v:=by simp[dD,ha1]
 have hO1:=hO.upd u1 (λb hb hf=>by simp at hf;subst hf;exact hn hb)
 simp only[dF.f1,dA.load,hc,byte_lit,cE,reduceIte]
 intro r hr
 refine fT ?_
 have u2:dC h1 (h1.set r (.cells #[.int .u8 x.toNat] dN)):=cU.new hr
 have s2:fY (h1.set r (.cells #[.int .u8 x.toNat] dN)) 1 (.slice (some ⟨r,0,none⟩) 1 1) ([x].map jH):=(eS.lit (jH.rows [x]) dL (by simp) (by decide) (by simp[jH])).slR
 refine buf_app dA.und (u2.get ha1) (.inr rfl) (hO1.ext u2) hn s2 (by simpa using hl) ?_
 intro h3 F3 hW3 u3 k3
 refine hk _ F3 hW3 ((u1.mono λb hb=>.inl (by simp at hb;simp[hb])).trans (u2.upd.trans u3)) λb hb=>?_
 rcases k3 b hb with h'|h'
 ·exact .inl h'
 ·by_cases hba:b=a
  ·exact .inl (by simp[hba])
  ·have:=u2.none h'
   rw[o1 b hba] at this
   exact .inr this
theorem buf_str{h:PH}{a:Nat}{e:Int}{p v:Value}{bs ys:List UInt8}{G:List Nat}(ha:h a=some (.cells #[.int .i64 e,p,v] fN (0,0)))(hp:p= .pointer none∨p=pT a 1)(hO:eS h dN 1 v (bs.map jH) G)(hn:a∉G)
  (hl:bs.length+ys.length≤140737488355328) {k:PH->Prop} (hk:aGF h a (a::G) e (bs++ys) k):
  cW PG (Builtin.append_ #[dA,bR] dA #[v,.string (tx ys)]) h λv' h'=>cW PG (dJ dA (pT a 2) v') h' λ_ h''=>k h'':=by
 refine aM7 dA.und bR.und dN.info dN.size dN.bytes dN.zero rfl (by decide) hO (by simp;omega) ?_
 intro v2 h2 F2 hO2 u2 k2 _
 rw[←qB] at hO2
 have ha2:=u2.get ha hn
 have hn2:a∉F2:=λhm=>by
  rcases k2 a hm with h1|h1
  ·exact hn h1
  ·rw[ha] at h1;cases h1
 refine iY dA.und rfl ha2 (by simp) ?_ dA.info dA.size ?_
 ·obtain⟨_,_,rfl,-⟩:=hO2.slR.here;rfl
 ·refine hk _ (a::F2) ⟨p,v2,F2,dL,hp,hO2.upd (cU.set (F:=[a]) (by simp)) (λb hb=>by simp;rintro rfl;exact hn2 hb),rfl,hn2⟩ ((u2.mono λb hb=>.inl (by simp[hb])).trans (cU.set (by simp))) (λb hb=>?_)
  rcases gZ.1 hb with rfl|hb
  ·exact .inl (by simp)
  ·rcases k2 b hb with h1|h1
   ·exact .inl (by simp[h1])
   ·exact .inr h1
theorem WriteString_ok{h:PH}{a:Nat}{e:Int}{bs ys:List UInt8}{F:List Nat}(hW:WAt h a e bs F)(hl:bs.length+ys.length≤140737488355328){k:cD}(hk:aGF h a F e (bs++ys) (k (.tuple #[.int .i64 ys.length,.nilIface]))):
  aT PG kV #[pT a 1,.string (tx ys)] h k:=by
 obtain⟨p,v,G,ha,hp,hO,rfl,hn⟩:=hW
 apply kQ.call
 unfold kQ
 refine copyCheck_ok ha hp λh1 ha1 u1 o1=>?_
 have hc:dD h1 ⟨a,2,none⟩=some v:=by simp[dD,ha1]
 have hO1:=hO.upd u1 (λb hb hf=>by simp at hf;subst hf;exact hn hb)
 simp only[dF.f1,dA.load,hc,bR.len,iD,cE,reduceIte]
 refine buf_str ha1 (.inr rfl) hO1 hn hl ?_
 intro h3 F3 hW3 u3 k3
 refine hk _ F3 hW3 ((u1.mono λb hb=>.inl (by simp at hb;simp[hb])).trans u3) λb hb=>?_
 rcases k3 b hb with h'|h'
 ·exact .inl h'
 ·by_cases hba:b=a
  ·exact .inl (by simp[hba])
  ·rw[o1 b hba] at h'
   exact .inr h'
theorem semE_loadBytes{h:PH}:∀(l:List UInt8) (a:Addr) (acc:ByteArray),a.spot=none->(∀j x,l[j]? =some x->dD h (a.add j)=some (.int .u8 x.toNat))->cG PG h (loadBytes a acc l.length)=some ⟨acc.data++l.toArray⟩
 | [],a,acc,_,_=>by show some acc=_;simp
 | x::xs,a,acc,hsp,hc=>by
  have h0:=hc 0 x rfl
  have ha0:a.add 0=a:=by obtain⟨b,o,w⟩:=a;cases w<;>simp[Addr.add]
  rw[ha0] at h0
  show(dD h a).bind _=_
  rw[h0,aDf]
  show cG PG h (loadBytes (a.add 1) (acc.push ((x.toNat:Int).toNat.toUInt8)) xs.length)=_
  rw[semE_loadBytes xs (a.add 1) _ (by obtain⟨b,o,w⟩:=a;simp at hsp;subst hsp;rw[lR]) λj y hy=>?_]
  ·congr 1
   apply ByteArray.ext
   show(acc.push _).data++xs.toArray=_
   rw[ByteArray.data_push]
   apply zLt
   simp
  ·have:=hc (j+1) y (by simpa using hy)
   have e:(a.add 1).add j=a.add (j+1):=by
    obtain⟨b,o,w⟩:=a
    simp at hsp
    subst hsp
    rw[lR,lR,lR];congr 1;omega
   rw[e];exact this
theorem unsafeStr{h:PH}{g:Nat}{cs:Array Value}{bs:List UInt8}(hb:h g=some (.cells cs dN (0,0)))(hle:bs.length≤cs.size)(hcs:cs.toList.take bs.length=bs.map λb=>Value.int .u8 b.toNat)(hne:bs≠[])(hmax:bs.length≤rM){k:cD}
  (hk:∀h',cU [g] h h'->k (.string (tx bs)) h'):cW PG (Builtin.unsafeString_ #[nZ,bT] bR #[pT g 0,.int .i64 bs.length]) h k:=by
 have hl:bs.length≠0:=by simpa using hne
 have h63:¬((bs.length:Int)>IntKind.i64.max):=by
  have:IntKind.i64.max=9223372036854775807:=rfl
  unfold rM at hmax
  omega
 have hneg:¬(bs.length:Int)<0:=by omega
 have hz:¬(bs.length:Int)=0:=by omega
 have hdef:Builtin.unsafeString_ #[nZ,bT] bR #[pT g 0,.int .i64 bs.length]=
   (do
    let n ←asInt (.int .i64 bs.length)
    if n<0 then runtimePanic (.error "unsafe.String: len out of range")
    if n>IntKind.i64.max then unsupported (.unsafePointer "String: a length above the largest int")
    if n=0 then pure (.string .empty)
    else if ←variablesAt ⟨g,0,none⟩ (←elemOf nZ) n.toNat then do
     let s ←loadBytes ⟨g,0,none⟩ .empty n.toNat
     freeze ⟨g,0,none⟩ n.toNat
     pure (.string s)
    else unsupported (.unsafePointer "String: not so many bytes at ptr")):=rfl
 rw[hdef]
 have hs:jY h g=some (some (dN,cs.size)):=by unfold jY;rw[hb]
 have hv:cG PG h (variablesAt ⟨g,0,none⟩ dN bs.length)=some true:=by
  show(jY h g).bind _=_
  rw[hs]
  have hc1:PG.cellsOf dN=1:=by kernel_rfl
  have:=Go.Lib.liesAt_bytes (P:=PG) hc1 (cs.size/PG.cellsOf dN) bs.length (by rw[hc1];simpa using hle)
  show some (liesAt PG PG.depth dN (cs.size/PG.cellsOf dN) 0 dN bs.length)=some true
  rw[this]
 have hlb:=semE_loadBytes (h:=h) bs ⟨g,0,none⟩ .empty rfl (λj x hx=>by
  rw[lR]
  unfold dD
  simp only[hb,fL]
  have hj:j<bs.length:=(zLx.1 hx).1
  have:(cs.toList.take bs.length)[j]? =some (.int .u8 x.toNat):=by rw[hcs,sC,hx];rfl
  rw[aGt,if_pos hj] at this
  simpa using this)
 have helem:cG PG h (elemOf nZ)=some dN:=by kernel_rfl
 simp only[asInt,asIntOf,pure_bind,map_pure,hneg,h63,hz,if_false,qQ]
 refine iI helem ?_
 refine iI hv ?_
 simp only[if_true]
 refine iI hlb ?_
 show(∃o,h g=some o)∧_
 refine⟨⟨_,hb⟩,?_⟩
 have hfin:=hk (mO h ⟨g,0,none⟩ bs.length) (λb o hbo hn=>by
  unfold mO
  rw[if_neg hl,if_neg (by simpa using hn)]
  exact hbo)
 show k (.string _) _
 have e:(⟨ByteArray.empty.data++bs.toArray⟩:ByteArray)=tx bs:=by apply ByteArray.ext;simp[tx]
 rw[e]
 exact hfin
theorem unsafeNone{h:PH}{q:Option Addr}:cG PG h (Builtin.unsafeString_ #[nZ,bT] bR #[.pointer q,.int .i64 0])=some (.string (tx [])):=by
 cases q<;>rfl
theorem String_ok{h:PH}{a:Nat}{e:Int}{bs:List UInt8}{F:List Nat}(hW:WAt h a e bs F){k:cD}(hk:∀h',cU F h h'->k (.string (tx bs)) h'):
  aT PG kI #[pT a 1] h k:=by
 obtain⟨p,v,G,ha,hp,hO,rfl,hn⟩:=hW
 have hc:dD h ⟨a,2,none⟩=some v:=by simp[dD,ha]
 have lv:=hO.slR.len (t':=bT) dA.und
 rw[jC] at lv
 apply kR.call
 unfold kR
 simp only[dF.f1,dA.load,hc,lv,cE,reduceIte]
 have hload:∀h',dD h' ⟨a,2,none⟩=some v->cG PG h' (loadAt dA (pT a 2))=some v:=λh' h1=>by rw[dA.load];exact h1
 rcases hO.here with⟨rfl,hr,rfl⟩|⟨g,cap,cs,rfl,rfl,hb,hle,hmax,hsz,htk⟩
 ·have hnil:bs=[]:=by simpa using hr
  subst hnil
  refine cG.semH (a:=.pointer none) rfl ?_
  refine⟨hc,?_⟩
  refine cG.semH unsafeNone ?_
  exact hk _ cU.refl
 ·simp only[jC] at *
  by_cases hne:bs=[]
  ·subst hne
   by_cases hc0:cap=0
   ·subst hc0
    have hs:jY h g=some (some (dN,cs.size)):=by unfold jY;rw[hb]
    show cW PG (viewAt g >>= _) h _
    refine iI (a:=none) (by rw[show viewAt g=(viewAt g >>= λx=>pure x) by simp,semE_viewAt hs];rfl) ?_
    refine iI (a:=dN) (by kernel_rfl) ?_
    intro r hr
    have u:dC h (h.set r (.view ⟨g,0,none⟩ dN)):=cU.new hr
    refine⟨by rw[dD];simp[u.get ha],?_⟩
    refine cG.semH unsafeNone ?_
    exact hk _ u.upd
   ·refine cG.semH (a:=pT g 0) ?_ ?_
    ·show cG PG h (if cap≠0 then _ else _)=_
     rw[if_pos hc0];rfl
    ·refine⟨hc,?_⟩
     refine cG.semH unsafeNone ?_
     exact hk _ cU.refl
  ·have hpos:0<bs.length:=aG1.2 hne
   refine cG.semH (a:=pT g 0) ?_ ?_
   ·show cG PG h (if cap≠0 then _ else _)=_
    rw[if_pos (by omega)];rfl
   ·refine⟨hc,?_⟩
    rw[Nat.mul_one,jH.flat] at htk
    refine unsafeStr hb (by omega) htk hne (by omega) λh' u=>?_
    exact hk _ (u.mono λb hb=>.inl (by simp at hb;simp[hb]))
structure WS(h0:PH)(F0:List Nat)(h:PH)(a:Nat)(e:Int)(bs:List UInt8)(F:List Nat):Prop where
 at_:WAt h a e bs F
 upd:cU F0 h0 h
 grow:∀b∈F,b∈F0∨h0 b=none
theorem WS.refl{h:PH}{a:Nat}{e:Int}{bs:List UInt8}{F:List Nat}(H:WAt h a e bs F):WS h F h a e bs F:=⟨H,cU.refl,λb hb=>.inl hb⟩
theorem WS.step{h0 h h':PH}{F0 F F':List Nat}{a:Nat}{e e':Int}{bs bs':List UInt8}(S:WS h0 F0 h a e bs F)(H:WAt h' a e' bs' F')(u:cU F h h')(g:∀b∈F',b∈F∨h b=none):WS h0 F0 h' a e' bs' F':=
 ⟨H,S.upd.then u S.grow,λb hb=>by
  rcases g b hb with h1|h1
  ·exact S.grow b h1
  ·by_cases hF:b∈F0
   ·exact .inl hF
   ·right
    cases hh:h0 b with
    | none=>rfl
    | some o=>rw[S.upd.get hh hF] at h1;cases h1⟩
theorem WS.ext{h0 h h':PH}{F0 F:List Nat}{a:Nat}{e:Int}{bs:List UInt8}(S:WS h0 F0 h a e bs F)(u:dC h h'):WS h0 F0 h' a e bs F:=S.step (S.at_.ext u) u.upd (λb hb=>.inl hb)
theorem WS.next{h:PH}{a:Nat}{F:List Nat}{e:Int}{bs:List UInt8}{k:PH->Prop}(hk:aGF h a F e bs k){h':PH}{F':List Nat}(S:WS h F h' a e bs F'):k h':=hk h' F' S.at_ S.upd S.grow
theorem aRI(x:Int):cV PG (convert bT cA (.int .i64 x))=some (.int .u64 (IntKind.u64.wrap x)):=by kernel_rfl
theorem aV7(x:Int):cV PG (convert cA dN (.int .u64 x))=some (.int .u8 (IntKind.u8.wrap x)):=by kernel_rfl
theorem aIF(x:Int):cV PG (convert cA bT (.int .u64 x))=some (.int .i64 (IntKind.i64.wrap x)):=by kernel_rfl
theorem aQs(x:Int):cV PG (convert dN cA (.int .u8 x))=some (.int .u64 (IntKind.u64.wrap x)):=by kernel_rfl
theorem aUd{n k:Nat}(hk:k<8):((n:Int).fdiv (2^(min (((8*k:Nat):Int)).toNat IntKind.u64.bits)))=((n/256^k:Nat):Int):=by
 have e1:min (((8*k:Nat):Int)).toNat IntKind.u64.bits=8*k:=by
  have:IntKind.u64.bits=64:=rfl
  rw[this];omega
 have e2:(2:Nat)^(8*k)=256^k:=by rw[Nat.pow_mul]
 rw[e1]
 have e3:((2:Int)^(8*k))=((256^k:Nat):Int):=by
  rw[←e2];exact(Int.natCast_pow 2 (8*k)).symm
 rw[e3,Int.fdiv_eq_ediv_of_nonneg _ (Int.natCast_nonneg _)]
 exact(Int.natCast_ediv n (256^k)).symm
theorem aP5{h:PH}{a:Nat}{e:Int}{bs:List UInt8}{F:List Nat}(hW:WAt h a e bs F){n c:Nat}(hc:c≤8)(hn:n<18446744073709551616)(hl:bs.length≤140737488355000){k:cD}(hk:aGF h a F e (bs++be n c) (k (.tuple #[]))):
  aT PG xF #[pT a 0,.int .u64 n,.int .i64 c] h k:=by
 apply yE.call
 unfold yE
 have e0:IntKind.i64.wrap ((c:Int)-1)=(c:Int)-1:=eZ (by omega) (by omega)
 simp only[e0,cE,reduceIte]
 refine⟨λvs h'=>∃(i:Nat) (F':List Nat),i≤c∧vs=[pT a 0,.int .u64 n,.int .i64 ((c:Int)-1-i)]∧WS h F h' a e (bs++(be n c).take i) F',λvs _=>match vs with|[_,_,.int _ j]=>(j+1).toNat|_=>0,⟨0,F,by omega,by simp,by simpa using WS.refl hW⟩,?_⟩
 rintro ρ h' ⟨i,F',hi,hvs,S⟩
 simp only[iH,iU,lF,and_true] at hvs
 obtain⟨s0,s1,s2⟩:=hvs
 rw[s0,s1,s2]
 unfold aHM
 by_cases hlt:i<c
 ·have hd:(0≤(c:Int)-1-i)=True:=by apply eq_true;omega
  obtain⟨q,hq⟩:∃q:Nat,c-1-i=q:=⟨_,rfl⟩
  have hqi:(c:Int)-1-i=(q:Int):=by omega
  have e1:IntKind.i64.wrap (8*(q:Int))=((8*q:Nat):Int):=by rw[eZ (by omega) (by omega)];omega
  have e2:IntKind.i64.wrap ((q:Int)-1)=(c:Int)-1-((i+1:Nat):Int):=by rw[eZ (by omega) (by omega)];omega
  have h8:(0:Int)≤((8*q:Nat):Int):=by omega
  have e3:IntKind.u8.wrap (((n/256^q:Nat):Int))=((UInt8.ofNat (n/256^q%256)).toNat:Int):=by
   rw[aIG]
   simp
  rw[hqi] at hd ⊢
  simp only[hd,fN.f1,fL,e1,aIK h8,aUd (show q<8 by omega),aV7,e3,e2,cE,reduceIte]
  have hlen:(bs++(be n c).take i).length≤140737488355100:=by
   rw[jE,rN,iF];omega
  refine WriteByte_ok S.at_ (by omega) _ λh3 F3 hW3 u3 k3=>?_
  have ht:=aIa (n:=n) hlt
  rw[hq] at ht
  rw[pH,←ht] at hW3
  exact⟨⟨i+1,F3,by omega,rfl,S.step hW3 u3 k3⟩,by simp[s2];omega⟩
 ·have hd:(0≤(c:Int)-1-i)=False:=by apply eq_false;omega
  rw[mV (by rw[iF];omega)] at S
  simp only[hd,cE,reduceIte]
  exact S.next hk
theorem aQp{h:PH}{a:Nat}{e:Int}{bs:List UInt8}{F:List Nat}(hW:WAt h a e bs F)(x:Int){k:cD}(hk:aGF h a F (if e=0 then x else e) bs (k (.tuple #[]))):
  aT PG lD #[pT a 0,.int .i64 x] h k:=by
 have hW':=hW
 obtain⟨p,v,G,ha,hp,hO,rfl,hn⟩:=hW
 have hc:dD h ⟨a,0,none⟩=some (.int .i64 e):=by simp[dD,ha]
 apply qF.call
 unfold qF
 by_cases h0:e=0
 ·have q:(e==0)=true:=by simp[h0]
  rw[if_pos h0] at hk
  simp only[nL.f0,fX.load,hc,q,cE,reduceIte]
  refine iY fX.und rfl ha (by simp) rfl fX.info fX.size ?_
  refine hk _ (a::G) ⟨p,v,G,dL,hp,hO.upd (cU.set (F:=[a]) (by simp)) (λb hb=>by simp;rintro rfl;exact hn hb),rfl,hn⟩ (cU.set (by simp)) (λb hb=>.inl hb)
 ·have q:(e==0)=false:=by simp[h0]
  rw[if_neg h0] at hk
  simp only[nL.f0,fX.load,hc,q,cE,reduceIte]
  exact hk _ _ hW' cU.refl (λb hb=>.inl hb)
def aGZ(s:Int×List UInt8)(n:Int):Int×List UInt8:=if 0≤n∧n≤255 then(s.1,s.2++be n.toNat 1) else(if s.1=0 then 1 else s.1,s.2)
def aJD(s:Int×List UInt8)(l:List UInt8):Int×List UInt8:=if l.length≤65535 then(s.1,s.2++(be l.length 2++l)) else(if s.1=0 then 1 else s.1,s.2)
theorem aWs{h:PH}{a:Nat}{e:Int}{bs:List UInt8}{F:List Nat}(hW:WAt h a e bs F)(hl:bs.length≤140737488355000)(n:Int){k:cD}(hk:aGF h a F (aGZ (e,bs) n).1 (aGZ (e,bs) n).2 (k (.tuple #[]))):
  aT PG nK #[pT a 0,.int .i64 n] h k:=by
 apply aC0.call
 unfold aC0
 unfold aGZ at hk
 have bad:¬(0≤n∧n≤255)->aT PG lD #[pT a 0,.int .i64 1] h λv12 h13=>k (.tuple #[]) h13:=by
  intro hb
  rw[if_neg hb] at hk
  exact aQp hW 1 hk
 by_cases h1:n<0
 ·simp only[h1,fN.f0,cE,reduceIte]
  exact bad (by omega)
 ·by_cases h2:255<n
  ·simp only[h1,h2,fN.f0,cE,reduceIte]
   exact bad (by omega)
  ·rw[if_pos (by omega)] at hk
   obtain⟨m,rfl⟩:=zLm (a:=n) (by omega)
   have e1:IntKind.u64.wrap (m:Int)=(m:Int):=gG (by omega) (by omega)
   simp only[h1,h2,aRI,e1,cE,reduceIte]
   exact aP5 hW (c:=1) (by omega) (by omega) hl hk
theorem aTY{h:PH}{a:Nat}{e:Int}{bs:List UInt8}{F:List Nat}(hW:WAt h a e bs F)(hl:bs.length≤140737488355000){n:Nat}(hn:n<18446744073709551616){k:cD}(hk:aGF h a F e (bs++be n 8) (k (.tuple #[]))):
  aT PG mF #[pT a 0,.int .u64 n] h k:=by
 apply aBV.call
 unfold aBV
 exact aP5 hW (c:=8) (by omega) hn hl hk
theorem aQz{h:PH}{a:Nat}{e:Int}{bs ys:List UInt8}{F:List Nat}(hW:WAt h a e bs F)(hl:bs.length+ys.length≤140737488355328){k:cD}(hk:aGF h a F e (bs++ys) (k (.tuple #[]))):
  aT PG tK #[pT a 0,.string (tx ys)] h k:=by
 apply aDs.call
 unfold aDs
 simp only[fN.f1,fL,cE,reduceIte]
 exact WriteString_ok hW hl hk
theorem aWM{h:PH}{a:Nat}{e:Int}{bs ys:List UInt8}{F:List Nat}(hW:WAt h a e bs F)(hl:bs.length≤140737488200000){k:cD}(hk:aGF h a F (aJD (e,bs) ys).1 (aJD (e,bs) ys).2 (k (.tuple #[]))):
  aT PG rK #[pT a 0,.string (tx ys)] h k:=by
 apply aCh.call
 unfold aCh
 unfold aJD at hk
 by_cases h1:ys.length≤65535
 ·have q:((65535:Int)<(ys.length:Int))=False:=by apply eq_false;omega
  rw[if_pos h1] at hk
  have e1:IntKind.u64.wrap (ys.length:Int)=(ys.length:Int):=gG (by omega) (by omega)
  simp only[bR.len,iD,q,aRI,e1,cE,reduceIte]
  refine aP5 hW (c:=2) (by omega) (by omega) (by omega) λh2 F2 hW2 u2 k2=>?_
  have hl2:=iF ys.length 2
  refine aQz hW2 (by rw[jE,hl2];omega) λh3 F3 hW3 u3 k3=>?_
  rw[pH] at hW3
  exact WS.next hk (((WS.refl hW).step hW2 u2 k2).step hW3 u3 k3)
 ·have q:((65535:Int)<(ys.length:Int))=True:=by apply eq_true;omega
  rw[if_neg h1] at hk
  simp only[bR.len,iD,q,fN.f0,cE,reduceIte]
  exact aQp hW 1 hk
theorem aLz{h:PH}{a:Nat}{e:Int}{c:Array Value}{T:TypeId}{fr:Nat×Nat}(ha:h a=some (.cells c T fr))(hc:c[0]? =some (.int .i64 e)){k:cD}(hk:k (.int .i64 e) h):aT PG oC #[pT a 0] h k:=by
 apply aDz.call
 unfold aDz
 have hc':dD h ⟨a,0,none⟩=some (.int .i64 e):=by simp[dD,ha,hc]
 simp only[nL.f0,fX.load,hc',cE,reduceIte]
 exact hk
def aIi(s:Int×List UInt8):List UInt8×Int:=if s.1=0 then(s.2,0) else([],s.1)
theorem aMj{h:PH}{a:Nat}{e:Int}{bs:List UInt8}{F:List Nat}(hW:WAt h a e bs F){k:cD}(hk:∀h',cU F h h'->k (.tuple #[.string (tx (aIi (e,bs)).1),.int .i64 (aIi (e,bs)).2]) h'):
  aT PG tW #[pT a 0] h k:=by
 have hW':=hW
 obtain⟨p,v,G,ha,hp,hO,rfl,hn⟩:=hW
 apply aBx.call
 unfold aBx
 unfold aIi at hk
 simp only[fN.f0,fN.f1,fL,cE,reduceIte]
 refine aLz ha rfl ?_
 by_cases h0:e=0
 ·have q:(e !=0)=false:=by simp[h0]
  rw[if_pos h0] at hk
  simp only[q,cE,reduceIte]
  exact String_ok hW' hk
 ·have q:(e !=0)=true:=by simp[h0]
  rw[if_neg h0] at hk
  simp only[q,cE,reduceIte]
  exact hk _ cU.refl
theorem aYg{t:TypeId}{x b:Nat}(hx:x*256+255<18446744073709551616)(hb:b<256):cV PG (binOp .or t (.int .u64 ((x*256:Nat):Int)) (.int .u64 (b:Int)))=some (.int .u64 ((x*256+b:Nat):Int)):=by
 have e:cV PG (binOp .or t (.int .u64 ((x*256:Nat):Int)) (.int .u64 (b:Int)))=some (.int .u64 (IntKind.u64.wrap ((BitVec.ofInt IntKind.u64.bits ((x*256:Nat):Int) ||| BitVec.ofInt IntKind.u64.bits (b:Int)).toNat))):=rfl
 rw[e]
 congr 2
 have h64:IntKind.u64.bits=64:=rfl
 rw[h64,BitVec.toNat_or,BitVec.ofInt_natCast,BitVec.ofInt_natCast,BitVec.toNat_ofNat,BitVec.toNat_ofNat,aCK (by omega),aCK (by omega)]
 have:=Nat.shiftLeft_add_eq_or_of_lt (i:=8) (b:=b) (by omega) x
 rw[Nat.shiftLeft_eq] at this
 have e2:(x*256 ||| b)=x*256+b:=this.symm
 rw[e2,gG (by omega) (by omega)]
structure qW(h:PH)(a:Nat)(e:Int)(s:List UInt8):Prop where
 here:h a=some (.cells #[.int .i64 e,.string (tx s)] gK (0,0))
theorem qW.upd{h h':PH}{a:Nat}{e:Int}{s:List UInt8}{G:List Nat}(H:qW h a e s)(u:cU G h h')(hd:a∉G):qW h' a e s:=⟨u.get H.here hd⟩
theorem qW.ext{h h':PH}{a:Nat}{e:Int}{s:List UInt8}(H:qW h a e s)(u:dC h h'):qW h' a e s:=H.upd u (by simp)
theorem aQE{h:PH}(s:List UInt8){k:cD}(hk:∀a h',qW h' a 0 s->dC h h'->h a=none->k (pT a 0) h'):aT PG aEq #[.string (tx s)] h k:=by
 apply aEf.call
 unfold aEf
 have e1:cV PG (build gK #[(1,.string (tx s))])=some (.agg #[.int .i64 0,.string (tx s)]):=by kernel_rfl
 simp only[e1,cE,reduceIte]
 intro r hr
 exact hk r _ ⟨dL⟩ (cU.new hr) hr
def jN(st:Int×List UInt8)(n:Int):List UInt8×(Int×List UInt8):=
 if st.1=0∧0≤n∧n≤st.2.length then(st.2.take n.toNat,(0,st.2.drop n.toNat)) else([],(if st.1=0 then 6 else st.1,st.2))
theorem aPN{h:PH}{a:Nat}{e:Int}{s:List UInt8}(hR:qW h a e s)(n:Int){k:cD}(hk:∀h',qW h' a (jN (e,s) n).2.1 (jN (e,s) n).2.2->cU [a] h h'->k (.string (tx (jN (e,s) n).1)) h'):
  aT PG xO #[pT a 0,.int .i64 n] h k:=by
 have ha:=hR.here
 have c1:dD h ⟨a,1,none⟩=some (.string (tx s)):=by simp[dD,ha]
 have c0:dD h ⟨a,0,none⟩=some (.int .i64 e):=by simp[dD,ha]
 apply aDm.call
 unfold aDm
 have tail:∀(e':Int),(e'≠0->∀h',h' a=some (.cells #[.int .i64 e',.string (tx s)] gK (0,0))->cU [a] h h'->k (.string (tx [])) h')->(e'=0->0≤n∧n≤s.length)->(e'=0->e=0)->∀h',h' a=some (.cells #[.int .i64 e',.string (tx s)] gK (0,0))->cU [a] h h'->vW k (pT a 0) (.int .i64 n) h':=by
  intro e' hbad hgood he h' ha' u'
  unfold vW
  simp only[gK.f0,gK.f1,fL,cE,reduceIte]
  refine aLz ha' rfl ?_
  by_cases h0:e'=0
  ·have q:(e' !=0)=false:=by simp[h0]
   obtain⟨g1,g2⟩:=hgood h0
   have c1':dD h' ⟨a,1,none⟩=some (.string (tx s)):=by simp[dD,ha']
   obtain⟨m,rfl⟩:=zLm g1
   have hm:m≤s.length:=by omega
   simp only[q,gK.f1,fL,bR.load,c1',aHi (lo:=none) bR.und (.inl ⟨rfl,rfl⟩) (.inr ⟨.i64,rfl⟩) (Nat.zero_le m) hm,aHi (hi:=none) bR.und (.inr ⟨.i64,rfl⟩) (.inl ⟨rfl,rfl⟩) hm (qZ _),cE,reduceIte]
   refine iY bR.und rfl ha' (by simp) rfl bR.info bR.size ?_
   have hr:jN (e,s) (m:Int)=(s.take m,(0,s.drop m)):=by
    unfold jN
    rw[if_pos ⟨he h0,by omega,by simpa using hm⟩]
    simp
   rw[hr] at hk
   rw[zLa,mV (qZ _)]
   refine hk _ ⟨?_⟩ (u'.trans (cU.set (by simp)))
   rw[dL,h0]
   rfl
  ·have q:(e' !=0)=true:=by simp[h0]
   simp only[q,cE,reduceIte]
   exact hbad h0 h' ha' u'
 have hin:e=0->¬(0≤n∧n≤s.length)->jN (e,s) n=([],(6,s)):=λh0 hb=>by
  unfold jN
  rw[if_neg (by rintro⟨_,h2⟩;exact hb h2),if_pos h0]
 have hne:e≠0->jN (e,s) n=([],(e,s)):=λh0=>by
  unfold jN
  rw[if_neg (by rintro⟨h1,_⟩;exact h0 h1),if_neg h0]
 have fails:¬(0≤n∧n≤s.length)->aT PG lD #[pT a 0,.int .i64 6] h λv h'=>vW k (pT a 0) (.int .i64 n) h':=by
  intro hb
  apply qF.call
  unfold qF
  by_cases h0:e=0
  ·have q:(e==0)=true:=by simp[h0]
   simp only[nL.f0,fX.load,c0,q,cE,reduceIte]
   refine iY fX.und rfl ha (by simp) rfl fX.info fX.size ?_
   refine tail 6 (λ_ h' ha' u'=>?_) (λh=>absurd h (by decide)) (λh=>absurd h (by decide)) _ dL (cU.set (by simp))
   have:=hk h'
   rw[hin h0 hb] at this
   exact this ⟨ha'⟩ u'
  ·have q:(e==0)=false:=by simp[h0]
   simp only[nL.f0,fX.load,c0,q,cE,reduceIte]
   refine tail e (λ_ h' ha' u'=>?_) (λh1=>absurd h1 h0) (λh1=>h1) _ ha cU.refl
   have:=hk h'
   rw[hne h0] at this
   exact this ⟨ha'⟩ u'
 by_cases h1:n<0
 ·simp only[h1,gK.f0,cE,reduceIte]
  exact fails (by omega)
 ·by_cases h2:(s.length:Int)<n
  ·simp only[h1,gK.f0,gK.f1,fL,bR.load,c1,bR.len,iD,h2,cE,reduceIte]
   exact fails (by omega)
  ·simp only[h1,gK.f1,fL,bR.load,c1,bR.len,iD,h2,cE,reduceIte]
   refine tail e (λh0 h' ha' u'=>?_) (λ_=>by omega) (λh1=>h1) _ ha cU.refl
   have:=hk h'
   rw[hne h0] at this
   exact this ⟨ha'⟩ u'
def gU(st:Int×List UInt8)(c:Nat):Nat×(Int×List UInt8):=(val (jN st c).1,(jN st c).2)
theorem aIe(st:Int×List UInt8)(c:Nat):(jN st c).1.length≤c:=by
 unfold jN
 split
 ·simp;omega
 ·simp
theorem aPb{l:List UInt8}{i:Nat}{b:UInt8}(hb:l[i]? =some b):val (l.take (i+1))=val (l.take i)*256+b.toNat:=by
 rw[zLR,hb]
 exact aKE _ _
theorem aOO{l:List UInt8}{i:Nat}(hi:i<l.length)(hl:l.length≤8):val (l.take i)*256+255<18446744073709551616:=by
 have h1:=aNA (l.take i)
 rw[rN,aIQ (by omega)] at h1
 have h2:256^i≤256^7:=aJz (by decide) (by omega)
 have h3:(256:Nat)^7=72057594037927936:=by decide
 omega
theorem aQQ{h:PH}{a:Nat}{e:Int}{s:List UInt8}(hR:qW h a e s){c:Nat}(hc:c≤8){k:cD}(hk:∀h',qW h' a (gU (e,s) c).2.1 (gU (e,s) c).2.2->cU [a] h h'->k (.int .u64 (gU (e,s) c).1) h'):
  aT PG xN #[pT a 0,.int .i64 c] h k:=by
 apply aDv.call
 unfold aDv
 refine aPN hR c λh1 hR1 u1=>?_
 have hlen:=aIe (e,s) c
 unfold gU at hk
 generalize hrr:jN (e,s) (c:Int)=rr at *
 refine aUy bR.und dA.und dN.und (by omega) λv h2 hS u2=>?_
 have lv:=hS.len (t':=bT) dA.und
 rw[jC] at lv
 simp only[lv,cE,reduceIte]
 refine⟨λvs h'=>∃i:Nat,i≤rr.1.length∧vs=[.int .u64 (val (rr.1.take i)),v,.int .i64 rr.1.length,.int .i64 i]∧h'=h2,iE rr.1.length 3,⟨0,by omega,rfl,rfl⟩,?_⟩
 rintro ρ h' ⟨i,hi,hvs,rfl⟩
 simp only[iH,iU,lF,and_true] at hvs
 obtain⟨s0,s1,s2,s3⟩:=hvs
 rw[s0,s1,s2,s3]
 unfold aHX
 by_cases hlt:i<rr.1.length
 ·have hd:((i:Int)<(rr.1.length:Int))=True:=by apply eq_true;omega
  obtain⟨b,hb⟩:∃b,rr.1[i]? =some b:=⟨_,lS hlt⟩
  obtain⟨p,p1,p2⟩:=hS.loadCell dA.und dN.info dN.size dN.und rfl (k:=.i64) (j:=(i:Int)) (x:=.int .u8 b.toNat) (by omega) (by simp[sC,hb,jH])
  have hsm:=aOO hlt (by omega)
  have ei:=rA (i:=i) (by omega)
  have e1:min (8:Int).toNat IntKind.u64.bits=8:=by decide
  have e2:IntKind.u64.wrap ((val (rr.1.take i):Int)*2^8)=((val (rr.1.take i)*256:Nat):Int):=by rw[gG (by omega) (by omega)];omega
  have hb8:=b.toNat_lt
  have e3:IntKind.u64.wrap (b.toNat:Int)=(b.toNat:Int):=gG (by omega) (by omega)
  simp only[hd,p1,p2,aPo (show(0:Int)≤8 by decide),e1,e2,aQs,e3,aYg hsm hb8,ei,cE,reduceIte]
  exact⟨⟨i+1,by omega,by rw[aPb hb],by trivial⟩,by simp[iE,s3];omega⟩
 ·have hd:((i:Int)<(rr.1.length:Int))=False:=by apply eq_false;omega
  rw[mV (by omega)]
  simp only[hd,cE,reduceIte]
  exact hk _ (hR1.ext u2) (u1.trans u2.upd)
theorem aMK{h:PH}{a:Nat}{e:Int}{s:List UInt8}(hR:qW h a e s){k:cD}(hk:∀h',qW h' a (gU (e,s) 1).2.1 (gU (e,s) 1).2.2->cU [a] h h'->k (.int .i64 (gU (e,s) 1).1) h'):
  aT PG vY #[pT a 0] h k:=by
 apply aCq.call
 unfold aCq
 refine aQQ hR (c:=1) (by omega) λh1 hR1 u1=>?_
 have hlt:=aNA (jN (e,s) ((1:Nat):Int)).1
 have hlen:=aIe (e,s) 1
 have h2:256^(jN (e,s) ((1:Nat):Int)).1.length≤256^1:=aJz (by decide) hlen
 have e1:IntKind.i64.wrap ((gU (e,s) 1).1:Int)=((gU (e,s) 1).1:Int):=by unfold gU;rw[eZ (by omega) (by omega)]
 simp only[aIF,e1,cE,reduceIte]
 exact hk _ hR1 u1
theorem aSC{h:PH}{a:Nat}{e:Int}{s:List UInt8}(hR:qW h a e s){k:cD}(hk:∀h',qW h' a (gU (e,s) 8).2.1 (gU (e,s) 8).2.2->cU [a] h h'->k (.int .u64 (gU (e,s) 8).1) h'):
  aT PG aCA #[pT a 0] h k:=by
 apply aBF.call
 unfold aBF
 exact aQQ hR (c:=8) (by omega) hk
def mD(st:Int×List UInt8):List UInt8×(Int×List UInt8):=jN (gU st 2).2 (gU st 2).1
theorem aGx(st:Int×List UInt8)(c:Nat):(gU st c).1<256^c:=by
 unfold gU
 have hlt:=aNA (jN st (c:Int)).1
 exact aJw hlt (aJz (by decide) (aIe st c))
theorem aQR{h:PH}{a:Nat}{e:Int}{s:List UInt8}(hR:qW h a e s){k:cD}(hk:∀h',qW h' a (mD (e,s)).2.1 (mD (e,s)).2.2->cU [a] h h'->k (.string (tx (mD (e,s)).1)) h'):
  aT PG aAa #[pT a 0] h k:=by
 apply aCp.call
 unfold aCp
 refine aQQ hR (c:=2) (by omega) λh1 hR1 u1=>?_
 have hlt:=aGx (e,s) 2
 have e1:IntKind.i64.wrap ((gU (e,s) 2).1:Int)=((gU (e,s) 2).1:Int):=by rw[eZ (by omega) (by omega)]
 simp only[aIF,e1,cE,reduceIte]
 exact aPN hR1 _ λh2 hR2 u2=>hk _ hR2 (u1.trans u2)
theorem aUU{h:PH}{a:Nat}{e:Int}{s:List UInt8}(hR:qW h a e s){k:cD}(hk:k (.int .i64 (if e=0 then(s.length:Int) else 0)) h):
  aT PG aDW #[pT a 0] h k:=by
 have ha:=hR.here
 have c1:dD h ⟨a,1,none⟩=some (.string (tx s)):=by simp[dD,ha]
 apply aCy.call
 unfold aCy
 simp only[gK.f0,cE,reduceIte]
 refine aLz ha rfl ?_
 by_cases h0:e=0
 ·have q:(e !=0)=false:=by simp[h0]
  rw[if_pos h0] at hk
  simp only[q,gK.f1,fL,bR.load,c1,bR.len,iD,cE,reduceIte]
  exact hk
 ·have q:(e !=0)=true:=by simp[h0]
  rw[if_neg h0] at hk
  simp only[q,cE,reduceIte]
  exact hk
abbrev kO:=Int×List UInt8
def aHm(st:kO)(n:Nat):kO:=(st.1,st.2++be n 8)
theorem aSk(st:kO)(n:Int):(aGZ st n).2.length≤st.2.length+1:=by
 unfold aGZ;split<;>simp[iF]
theorem aPR(st:kO)(n:Nat):(aHm st n).2.length≤st.2.length+8:=by simp[aHm,iF]
abbrev WN(h0:PH)(h:PH)(a:Nat)(st:kO)(F:List Nat):Prop:=WS h0 [] h a st.1 st.2 F
theorem WN.upd{h0 h:PH}{a:Nat}{st:kO}{F:List Nat}(S:WN h0 h a st F):dC h0 h:=WS.upd S
theorem WN.fresh{h0 h:PH}{a:Nat}{st:kO}{F:List Nat}(S:WN h0 h a st F):eP h0 F:=λb hb=>by
 rcases S.grow b hb with h1|h1
 ·cases h1
 ·exact h1
def aD6(h:PH)(F:List Nat)(h':PH)(F':List Nat):Prop:=∀r o,h r=some o->r∉F->h' r=some o∧r∉F'
theorem aNN{h h':PH}{F F':List Nat}(u:cU F h h')(g:∀b∈F',b∈F∨h b=none):aD6 h F h' F':=λr o hr hn=>⟨u.get hr hn,λhm=>by
 rcases g r hm with h1|h1
 ·exact hn h1
 ·rw[h1] at hr;cases hr⟩
theorem aKu{h0 h:PH}{a:Nat}{st:kO}{F:List Nat}(S:WN h0 h a st F)(hl:st.2.length≤1000000000)(n:Int){k:cD}(hk:∀h' F' x,x=aGZ st n->WN h0 h' a x F'->aD6 h F h' F'->k (.tuple #[]) h'):aT PG nK #[pT a 0,.int .i64 n] h k:=
 aWs S.at_ (by omega) n λh' F' hW u g=>hk h' F' _ rfl (S.step hW u g) (aNN u g)
theorem aIh{h0 h:PH}{a:Nat}{st:kO}{F:List Nat}(S:WN h0 h a st F)(hl:st.2.length≤1000000000){n:Nat}(hn:n<18446744073709551616){k:cD}(hk:∀h' F' x,x=aHm st n->WN h0 h' a x F'->aD6 h F h' F'->k (.tuple #[]) h'):aT PG mF #[pT a 0,.int .u64 n] h k:=
 aTY S.at_ (by omega) hn λh' F' hW u g=>hk h' F' (aHm st n) rfl (S.step hW u g) (aNN u g)
theorem aPv{h0 h:PH}{a:Nat}{st:kO}{F:List Nat}(S:WN h0 h a st F)(hl:st.2.length≤1000000000)(ys:List UInt8){k:cD}(hk:∀h' F' x,x=aJD st ys->WN h0 h' a x F'->aD6 h F h' F'->k (.tuple #[]) h'):aT PG rK #[pT a 0,.string (tx ys)] h k:=
 aWM S.at_ (by omega) λh' F' hW u g=>hk h' F' _ rfl (S.step hW u g) (aNN u g)
theorem WN.box{h0 h:PH}{a:Nat}{st:kO}{F:List Nat}(S:WN h0 h a st F){r:Nat}(hr:h r=none):r∉F:=λhm=>S.at_.known r hm hr
theorem WN.new{h0 h:PH}{a:Nat}{st:kO}{F:List Nat}(S:WN h0 h a st F){r:Nat}(hr:h r=none)(o:Obj):WN h0 (h.set r o) a st F:=WS.ext S (cU.new hr)
theorem zW:dP PG fN= #[.int .i64 0,.pointer none,.slice none 0 0]:=by rw[fN.zc];rfl
theorem WN.start{h:PH}{r:Nat}(hr:h r=none):WN h (h.set r (.cells (dP PG fN) fN)) r (0,[]) [r]:=by
 have hW:WAt (h.set r (.cells (dP PG fN) fN)) r 0 [] [r]:=by
  rw[zW]
  exact⟨_,_,[],dL,.inl rfl,eS.nil,rfl,by simp⟩
 exact⟨hW,cU.new hr,λb hb=>.inr (by simp only[fW] at hb;subst hb;exact hr)⟩
theorem aVU{h0 h:PH}{a:Nat}{st:kO}{F:List Nat}(S:WN h0 h a st F)(hl:st.2.length≤1000000000){ys:List UInt8}(hy:ys.length≤1000000000){k:cD}(hk:∀h' F' x,x=(st.1,st.2++ys)->WN h0 h' a x F'->aD6 h F h' F'->k (.tuple #[]) h'):aT PG tK #[pT a 0,.string (tx ys)] h k:=
 aQz S.at_ (by omega) λh' F' hW u g=>hk h' F' (st.1,st.2++ys) rfl (S.step hW u g) (aNN u g)
def Pk.tx(p:Pk):Tx:=p.d.data.toList
def wPk(st:kO)(p:Pk):kO:=if p.right then aJD (aHm (aHm (aGZ st p.f) p.s.toNat) p.t.toNat) p.tx else aGZ st (-1)
structure Pl where
 h:Int
 i:Int
 deriving DecidableEq
def Pl.cells(q:Pl):List Value:=[.int .u64 q.h,.int .i64 q.i]
def Pl.zero:Pl:=⟨0,0⟩
def Pk.bs(p:Pk):Tx:=be p.f.toNat 1++(be p.s.toNat 8++(be p.t.toNat 8++(be p.tx.length 2++p.tx)))
theorem aPV(p:Pk):p.tx.length=p.d.size:=rfl
theorem Pk.right_iff{p:Pk}:p.right=true↔0≤p.f∧p.f≤1∧p.s≠0∧p.t≠0∧p.d.size≤64:=by
 unfold Pk.right
 simp only[wP,decide_eq_true_eq,and_assoc]
theorem aUm{p:Pk}(h:p.right=true)(b:Tx):wPk (0,b) p=(0,b++p.bs):=by
 obtain⟨h1,h2,-,-,h5⟩:=Pk.right_iff.1 h
 unfold wPk
 rw[if_pos h]
 unfold aGZ aHm aJD
 rw[if_pos (show p.tx.length≤65535 by rw[aPV];omega),if_pos (show 0≤p.f∧p.f≤255 from⟨h1,by omega⟩)]
 simp only[Pk.bs,pH]
theorem aSe{p:Pk}(h:p.right=false)(b:Tx):(wPk (0,b) p).1=1:=by
 unfold wPk
 rw[if_neg (by simp[h])]
 rfl
def aVa(x:Int×Pk):Prop:=0≤x.1∧x.1≤255∧x.2.right=true
instance (x:Int×Pk):Decidable (aVa x):=by unfold aVa;infer_instance
def aXs(q:Pl):Prop:=0≤q.i∧q.i≤65535
instance (q:Pl):Decidable (aXs q):=by unfold aXs;infer_instance
def Pl.bs(q:Pl):Tx:=be q.h.toNat 8++be q.i.toNat 8
def aKZ(st:kO)(e:Int):kO:=(if st.1=0 then e else st.1,st.2)
structure aHC{α:Type}(R:kO->α×kO)(bs:Tx)(v:α):Prop where
 all:∀rest,R (0,bs++rest)=(v,(0,rest))
 cut:∀n,n<bs.length->(R (0,bs.take n)).2.1=6
def aNC{α:Type}(R:kO->α×kO):Prop:=∀e s,e≠0->(R (e,s)).2.1=e
theorem aNC.keep{α:Type}{R:kO->α×kO}(h:aNC R){st:kO}{e:Int}(he:st.1=e)(h0:e≠0):(R st).2.1=e:=by
 obtain⟨a,b⟩:=st
 simp only at he
 subst he
 exact h _ _ h0
theorem aHC.bind{α β γ:Type}{R:kO->α×kO}{S:α->kO->β×kO}{f:α->β->γ}{bs cs:Tx}{v:α}{w:β}(h1:aHC R bs v)(h2:aHC (S v) cs w)(hs:∀x,aNC (S x)):
  aHC (λst=>(f (R st).1 (S (R st).1 (R st).2).1,(S (R st).1 (R st).2).2)) (bs++cs) (f v w):=by
 refine⟨λrest=>?_,λn hn=>?_⟩
 ·simp only[pH,h1.all,h2.all]
 ·simp only
  by_cases hb:n<bs.length
  ·have e:(bs++cs).take n=bs.take n:=by rw[zLE (by omega)]
   rw[e]
   exact(hs _).keep (h1.cut n hb) (by decide)
  ·have e:(bs++cs).take n=bs++cs.take (n-bs.length):=by
    rw[List.take_append,mV (by omega)]
   rw[e,h1.all]
   exact h2.cut _ (by rw[jE] at hn;omega)
theorem aH7(l:Tx):aHC (λst=>jN st (l.length:Int)) l l:=by
 refine⟨λrest=>?_,λn hn=>?_⟩
 ·unfold jN
  rw[if_pos ⟨rfl,by omega,by rw[jE];omega⟩]
  simp
 ·unfold jN
  rw[if_neg (by simp;omega)]
  rfl
theorem aQd(n:Int):aNC (λst=>jN st n):=λe s h=>by
 simp only[jN]
 rw[if_neg (by simp[h])]
 simp[h]
theorem wQ{n c:Nat}(h:n<256^c):aHC (λst=>gU st c) (be n c) n:=by
 have:=aH7 (be n c)
 rw[iF] at this
 refine⟨λrest=>?_,λm hm=>?_⟩
 ·unfold gU
  rw[this.all,aLR,aCK h]
 ·unfold gU
  exact this.cut m hm
theorem aG6{l:Tx}(h:l.length≤65535):aHC mD (be l.length 2++l) l:=
 aHC.bind (R:=λst=>gU st 2) (S:=λn st=>jN st (n:Int)) (f:=λ_ w=>w) (wQ (by omega)) (aH7 l) λx=>aQd _
def Pk.wf(p:Pk):Prop:=0≤p.s∧p.s<18446744073709551616∧0≤p.t∧p.t<18446744073709551616
theorem aVX(p:Pk):tx p.tx=p.d:=aID p.d
theorem aD6.refl{h:PH}{F:List Nat}:aD6 h F h F:=λr o hr hn=>⟨hr,hn⟩
theorem aD6.trans{h h1 h2:PH}{F F1 F2:List Nat}(a:aD6 h F h1 F1)(b:aD6 h1 F1 h2 F2):aD6 h F h2 F2:=λr o hr hn=>b r o (a r o hr hn).1 (a r o hr hn).2
theorem aD6.ext{h h1:PH}{F:List Nat}(u:dC h h1):aD6 h F h1 F:=λr o hr hn=>⟨u.get hr,hn⟩
structure BK(h:PH)(F:List Nat)(r:Nat)(cs:List Value):Prop where
 bx:Bx h r cs
 out:r∉F
theorem BK.keep{h h':PH}{F F':List Nat}{r:Nat}{cs:List Value}(H:BK h F r cs)(K:aD6 h F h' F'):BK h' F' r cs:=by
 obtain⟨e,h1⟩:=H.bx
 exact⟨⟨e,(K r _ h1 H.out).1⟩,(K r _ h1 H.out).2⟩
theorem BK.ext{h h':PH}{F:List Nat}{r:Nat}{cs:List Value}(H:BK h F r cs)(u:dC h h'):BK h' F r cs:=⟨H.bx.ext u,H.out⟩
theorem aYd{h0 h:PH}{a:Nat}{st:kO}{F:List Nat}(S:WN h0 h a st F)(hl:st.2.length≤900000000)(p:Pk)(w:p.wf){k:cD}(hk:∀h' F',WN h0 h' a (wPk st p) F'->aD6 h F h' F'->k (.tuple #[]) h'):
  aT PG aHj #[pT a 0,.agg p.cells.toArray] h k:=by
 apply aHx.call
 unfold aHx
 intro r hr
 try rw[cZ]
 have S1:=S.new hr (.cells (Value.cells (.agg p.cells.toArray)) aR)
 have u1:dC h (h.set r (.cells (Value.cells (.agg p.cells.toArray)) aR)):=cU.new hr
 have B1:BK (h.set r (.cells (Value.cells (.agg p.cells.toArray)) aR)) F r p.cells:=⟨Bx.new,S.box hr⟩
 generalize h.set r (.cells (Value.cells (.agg p.cells.toArray)) aR)=h1 at *
 have l1:cG PG h1 (loadAt aR (pT r 0))=some (.agg p.cells.toArray):=aR.agg B1.bx (by show 0+4≤4;decide)
 simp only[l1,cE,reduceIte]
 refine aMl p λh2 u2=>?_
 have S2:=WS.ext S1 u2
 have B2:=B1.ext u2
 have K2:aD6 h F h2 F:=aD6.ext (u1.trans u2)
 unfold wPk at hk
 obtain⟨w1,w2,w3,w4⟩:=w
 cases hp:p.right with
 | false=>
  rw[hp] at hk
  simp only[zLr,if_false,kU,show((1:Int) !=0)=true from rfl,cE,reduceIte] at hk ⊢
  exact aKu S2 (by omega) (-1) λh3 F3 x e S3 K3=>by subst e;exact hk _ _ S3 (K2.trans K3)
 | true=>
  rw[hp] at hk
  have n1:((p.s.toNat:Nat):Int)=p.s:=Int.toNat_of_nonneg w1
  have n2:((p.t.toNat:Nat):Int)=p.t:=Int.toNat_of_nonneg w3
  have n3:p.d=tx p.tx:=(aVX p).symm
  simp only[if_true,kU,show((0:Int) !=0)=false from rfl,aR.f0,bT.load,B2.bx.cell,Pk.cells,cE,reduceIte] at hk ⊢
  refine aKu S2 (by omega) p.f λh3 F3 x3 e3 S3 K3=>?_
  have B3:=B2.keep K3
  have b3:=aSk st p.f
  rw[←e3] at b3 hk
  simp only[aR.f1,cA.load,B3.bx.cell,Pk.cells,fL,cE,reduceIte]
  rw[←n1]
  refine aIh S3 (by omega) (n:=p.s.toNat) (by omega) λh4 F4 x4 e4 S4 K4=>?_
  have B4:=B3.keep K4
  have b4:=aPR x3 p.s.toNat
  rw[←e4] at b4 hk
  simp only[aR.f2,cA.load,B4.bx.cell,Pk.cells,fL,cE,reduceIte]
  rw[←n2]
  refine aIh S4 (by omega) (n:=p.t.toNat) (by omega) λh5 F5 x5 e5 S5 K5=>?_
  have B5:=B4.keep K5
  have b5:=aPR x4 p.t.toNat
  rw[←e5] at b5 hk
  simp only[aR.f3,bR.load,B5.bx.cell,Pk.cells,fL,cE,reduceIte]
  rw[n3]
  refine aPv S5 (by omega) p.tx λh6 F6 x6 e6 S6 K6=>?_
  subst e6
  exact hk _ _ S6 ((((K2.trans K3).trans K4).trans K5).trans K6)
theorem aIH(x:Int):cV PG (convert bT cA (.int .i64 x))=some (.int .u64 (IntKind.u64.wrap x)):=by kernel_rfl
theorem aNF{h:PH}{p:Pk}(w:p.wf)(hr:p.right=true){k:cD}(hk:∀h',dC h h'->k (.string (tx p.bs)) h'):aT PG yB #[.agg p.cells.toArray] h k:=by
 obtain⟨r1,r2,-,-,r5⟩:=Pk.right_iff.1 hr
 obtain⟨w1,w2,w3,w4⟩:=w
 have ed:=aVX p
 have el:=aPV p
 obtain⟨f,s,t,d⟩:=p
 obtain⟨f,rfl⟩:=zLm r1
 obtain⟨s,rfl⟩:=zLm w1
 obtain⟨t,rfl⟩:=zLm w3
 simp only at r2 w2 w4 r5
 unfold Pk.bs at hk
 simp only[qQ] at hk
 generalize Pk.tx ⟨(f:Int),(s:Int),(t:Int),d⟩=l at *
 subst ed
 simp only[iD] at el r5
 apply sY.call
 unfold sY
 intro r hr
 try rw[cZ]
 have u1:dC h (h.set r (.cells (Value.cells (.agg (Pk.cells ⟨(f:Int),(s:Int),(t:Int),tx l⟩).toArray)) aR)):=cU.new hr
 have B1:Bx (h.set r (.cells (Value.cells (.agg (Pk.cells ⟨(f:Int),(s:Int),(t:Int),tx l⟩).toArray)) aR)) r (Pk.cells ⟨(f:Int),(s:Int),(t:Int),tx l⟩):=Bx.new
 generalize h.set r (.cells (Value.cells (.agg (Pk.cells ⟨(f:Int),(s:Int),(t:Int),tx l⟩).toArray)) aR)=h1 at *
 have l0:∀{h':PH},dC h1 h'->cG PG h' (loadAt bT (pT r 0))=some (.int .i64 (f:Int)):=λu=>by rw[bT.load,(B1.ext u).cell];rfl
 have l1:∀{h':PH},dC h1 h'->cG PG h' (loadAt cA (pT r 1))=some (.int .u64 (s:Int)):=λu=>by rw[cA.load,(B1.ext u).cell];rfl
 have l2:∀{h':PH},dC h1 h'->cG PG h' (loadAt cA (pT r 2))=some (.int .u64 (t:Int)):=λu=>by rw[cA.load,(B1.ext u).cell];rfl
 have l3:∀{h':PH},dC h1 h'->cG PG h' (loadAt bR (pT r 3))=some (.string (tx l)):=λu=>by rw[bR.load,(B1.ext u).cell];rfl
 have c1:IntKind.u64.wrap (f:Int)=(f:Int):=gG (by omega) (by omega)
 have c2:IntKind.u64.wrap (l.length:Int)=(l.length:Int):=gG (by omega) (by omega)
 have ln:cV PG (Builtin.len_ #[bR] bT #[.string (tx l)])=some (.int .i64 (l.length:Int)):=by rw[lV bR.und,iD]
 simp only[aR.f0,aR.f1,aR.f2,aR.f3,l0 cU.refl,l1 cU.refl,l2 cU.refl,l3 cU.refl,ln,aIH,c1,c2,cE,reduceIte,cT,Nat.reduceAdd]
 refine sT (by omega) (by decide) λh2 u2=>?_
 simp only[fL,l1 u2,l2 u2,l3 u2,eq_self,true_and]
 refine sT (by omega) (by decide) λh3 u3=>?_
 have e3:=u2.trans u3
 have a1:cV PG (binOp .add bR (.string (tx (be f 1))) (.string (tx (be s 8))))=some (.string (tx (be f 1++be s 8))):=lQ (by simp only[iF];decide)
 simp only[l2 e3,l3 e3,a1,eq_self,true_and,cE,reduceIte,cT,Nat.reduceAdd]
 refine sT (by omega) (by decide) λh4 u4=>?_
 have e4:=e3.trans u4
 have a2:cV PG (binOp .add bR (.string (tx (be f 1++be s 8))) (.string (tx (be t 8))))=some (.string (tx ((be f 1++be s 8)++be t 8))):=lQ (by simp only[iF,jE];decide)
 simp only[l3 e4,a2,eq_self,true_and,cE,reduceIte,cT,Nat.reduceAdd]
 refine sT (by omega) (by decide) λh5 u5=>?_
 have e5:=e4.trans u5
 have a3:cV PG (binOp .add bR (.string (tx ((be f 1++be s 8)++be t 8))) (.string (tx (be l.length 2))))=some (.string (tx (((be f 1++be s 8)++be t 8)++be l.length 2))):=lQ (by simp only[iF,jE];decide)
 have a4:cV PG (binOp .add bR (.string (tx (((be f 1++be s 8)++be t 8)++be l.length 2))) (.string (tx l)))=some (.string (tx ((((be f 1++be s 8)++be t 8)++be l.length 2)++l))):=lQ (by simp only[iF,jE];omega)
 simp only[l3 e5,a3,a4,eq_self,true_and,cE,reduceIte,cT,Nat.reduceAdd]
 rw[pH,pH,pH]
 exact hk _ (u1.trans e5)
def Pk.v(p:Pk):Value:=.agg p.cells.toArray
def aFt(p:Pk):Tx×Int:=if p.right then(p.bs,0) else([],1)
theorem aRp(p:Pk):aIi (wPk (0,[]) p)=aFt p:=by
 unfold aFt
 cases hr:p.right with
 | true=>rw[aUm hr];rfl
 | false=>
  unfold aIi
  rw[aSe hr,if_neg (by decide)];rfl
theorem aR5{h:PH}{p:Pk}(w:p.wf){k:cD}(hk:∀h',dC h h'->k (.tuple #[.string (tx (aFt p).1),.int .i64 (aFt p).2]) h'):aT PG aGC #[p.v] h k:=by
 apply aGM.call
 unfold aGM
 intro r1 hr1
 try rw[cZ]
 have u1:dC h (h.set r1 (.cells (Value.cells p.v) aR)):=cU.new hr1
 have B1:Bx (h.set r1 (.cells (Value.cells p.v) aR)) r1 p.cells:=Bx.new
 generalize h.set r1 (.cells (Value.cells p.v) aR)=h1 at *
 intro r3 hr3
 try rw[cZ]
 have S0:=WN.start hr3
 have u3:dC h1 (h1.set r3 (.cells (dP PG fN) fN)):=cU.new hr3
 generalize h1.set r3 (.cells (dP PG fN) fN)=h3 at *
 have lp:cG PG h3 (loadAt aR (pT r1 0))=some (.agg p.cells.toArray):=(B1.ext u3).pk rfl
 simp only[lp,cE,reduceIte,cT,Nat.reduceAdd]
 refine aYd S0 (by simp) p w λh4 F4 S4 K4=>?_
 refine aMj S4.at_ λh5 u5=>?_
 simp only[cE,reduceIte,cT,Nat.reduceAdd]
 have:=hk h5 (u1.trans (S4.upd.fresh u5 S4.fresh))
 rw[←aRp] at this
 exact this
theorem Pk.eqD{h:PH}{d:Nat}(m m':Pk):cG PG h (Op.equalIn (d+1+1) aR m.v m'.v)=some (decide (m=m')):=by
 have:cG PG h (Op.equalIn (d+1+1) aR m.v m'.v)=some (m.f==m'.f&&(m.s==m'.s&&(m.t==m'.t&&(m.d==m'.d&&true)))):=by
  refine(aJO aR.und (by kernel_rfl) (λf=>match f.offset with|0=>m.f==m'.f|1=>m.s==m'.s|2=>m.t==m'.t|_=>m.d==m'.d) ?_)
  intro f hf
  simp only[gZ,kW,or_false] at hf
  rcases hf with rfl|rfl|rfl|rfl
  ·exact⟨by decide,_,_,mE bT.und rfl rfl,mE bT.und rfl rfl,aFf bT.und⟩
  ·exact⟨by decide,_,_,mE cA.und rfl rfl,mE cA.und rfl rfl,aFf cA.und⟩
  ·exact⟨by decide,_,_,mE cA.und rfl rfl,mE cA.und rfl rfl,aFf cA.und⟩
  ·exact⟨by decide,_,_,mE bR.und rfl rfl,mE bR.und rfl rfl,aEt bR.und⟩
 rw[this,aCf]
 congr 1
 rw[zLl]
 obtain⟨a,b,c,e⟩:=m
 obtain⟨a',b',c',e'⟩:=m'
 simp
theorem Pk.eql{h:PH}{x y:Operand}(m m':Pk):cG PG h (jQ .eql aR x y m.v m'.v)=some (.bool (decide (m=m'))):=aOs (by kernel_rfl) (Pk.eqD (d:=9998) m m')
theorem Pk.zb:cV PG (build aR #[])=some (Pk.v default):=by kernel_rfl
def aG2(ahead:List Tx)(p:Pk):Tx:=if p.right then oT (ahead.flatten++p.bs) else []
theorem aMU{p:Pk}(h:p.right=true):p.bs.length≤83:=by
 have:=(Pk.right_iff.1 h).2.2.2.2
 simp only[Pk.bs,jE,iF,aPV]
 omega
theorem aRE{h00 h:PH}{p:Pk}(w:p.wf)(hK:mK h00){ahead:List Tx}{v:Value}{F:List Nat}(O:eS h bR 1 v (ahead.map jA) F)(e0:dC h00 h)(f0:eP h00 F)(hl:ahead.flatten.length≤1000)(hl2:ahead.length≤10){k:cD}(hk:∀h',dC h00 h'->k (.string (tx (aG2 ahead p))) h'):aT PG aCr #[p.v,v] h k:=by
 apply aFG.call
 unfold aFG
 intro r1 hr1
 try rw[cZ]
 have u1:dC h (h.set r1 (.cells (Value.cells p.v) aR)):=cU.new hr1
 have B1:Bx (h.set r1 (.cells (Value.cells p.v) aR)) r1 p.cells:=Bx.new
 generalize h.set r1 (.cells (Value.cells p.v) aR)=h1 at *
 have lp:∀{h':PH},dC h1 h'->cG PG h' (loadAt aR (pT r1 0))=some p.v:=λu=>(B1.ext u).pk rfl
 simp only[lp cU.refl,cE,reduceIte,cT,Nat.reduceAdd]
 refine aR5 w λh2 u2=>?_
 have e2:=u1.trans u2
 cases hr:p.right with
 | false=>
  have n1:((1:Int) !=0)=true:=by decide
  have eb:aFt p=([],1):=by unfold aFt;rw[hr];rfl
  have ed:aG2 ahead p=[]:=by unfold aG2;rw[hr];rfl
  rw[ed] at hk
  simp only[eb,kU,n1,cE,reduceIte,cT,Nat.reduceAdd]
  exact hk _ (e0.trans e2)
 | true=>
  have eb:aFt p=(p.bs,0):=by unfold aFt;rw[hr];rfl
  have ed:aG2 ahead p=oT (ahead.flatten++p.bs):=by unfold aG2;rw[hr];rfl
  have ne:¬p=default:=λe=>by rw[e] at hr;exact absurd hr (by decide)
  have nd:=decide_eq_false ne
  have hb:=aMU hr
  rw[ed] at hk
  simp only[eb,kU,lp u2,Pk.zb,Pk.eql,nd,aLx,cE,reduceIte,cT,Nat.reduceAdd]
  intro r22 hr22
  refine fT ?_
  try rw[cZ]
  have u3:dC h2 (h2.set r22 (.cells #[.string (tx p.bs)] bR)):=cU.new hr22
  have s1:fY (h2.set r22 (.cells #[.string (tx p.bs)] bR)) 1 (.slice (some ⟨r22,0,none⟩) 1 1) ([p.bs].map jA):=(eS.lit (jA.rows [p.bs]) dL (by simp) (by decide) (by simp[jA])).slR
  generalize h2.set r22 (.cells #[.string (tx p.bs)] bR)=h3 at *
  have e3:=e2.trans u3
  refine jL cP.und cP.und bR.info bR.size bR.bytes bR.zero rfl (by decide) (O.ext e3) s1 (λr hr u hu=>by
   obtain⟨s,-,rfl⟩:=lI.1 hr
   exact jA.isC s u hu) (by simp;omega) ?_
  intro v4 h4 F4 O4 u4 g4 _
  rw[←qB] at O4
  have e4:dC h00 h4:=(e0.trans e3).fresh u4 f0
  refine aNO (hK.ext e4) O4.slR (by rw[zLD,jE,show [p.bs].flatten=p.bs by simp];omega) λh5 u5=>?_
  have:=hk h5 (e4.trans u5)
  rw[zLD,show [p.bs].flatten=p.bs by simp]
  exact this
def nR(p:Pk):Tx:=aG2 [] p
def aAq(p:Pk):Tx:=aG2 [[97,99,107]] p
theorem aHn{h:PH}{p:Pk}(w:p.wf)(hK:mK h){k:cD}(hk:∀h',dC h h'->k (.string (tx (nR p))) h'):aT PG tZ #[p.v] h k:=by
 apply aBy.call
 unfold aBy
 intro r1 hr1
 try rw[cZ]
 have u1:dC h (h.set r1 (.cells (Value.cells p.v) aR)):=cU.new hr1
 have B1:Bx (h.set r1 (.cells (Value.cells p.v) aR)) r1 p.cells:=Bx.new
 generalize h.set r1 (.cells (Value.cells p.v) aR)=h1 at *
 have lp:cG PG h1 (loadAt aR (pT r1 0))=some p.v:=B1.pk rfl
 simp only[lp,cE,reduceIte,cT,Nat.reduceAdd]
 exact aRE w hK (ahead:=[]) eS.nil u1 (λb hb=>by cases hb) (by simp) (by simp) hk
theorem aOF{h:PH}{p:Pk}(w:p.wf)(hK:mK h){k:cD}(hk:∀h',dC h h'->k (.string (tx (aAq p))) h'):aT PG aDB #[p.v] h k:=by
 apply aFS.call
 unfold aFS
 intro r1 hr1
 try rw[cZ]
 have u1:dC h (h.set r1 (.cells (Value.cells p.v) aR)):=cU.new hr1
 have B1:Bx (h.set r1 (.cells (Value.cells p.v) aR)) r1 p.cells:=Bx.new
 generalize h.set r1 (.cells (Value.cells p.v) aR)=h1 at *
 have lp:cG PG h1 (loadAt aR (pT r1 0))=some p.v:=B1.pk rfl
 have q:({data:=#[97,99,107]}:ByteArray)=tx [97,99,107]:=rfl
 simp only[lp,q,aLx,cE,reduceIte,cT,Nat.reduceAdd]
 intro r4 hr4
 refine fT ?_
 try rw[cZ]
 have u2:dC h1 (h1.set r4 (.cells #[.string (tx [97,99,107])] bR)):=cU.new hr4
 have O:eS (h1.set r4 (.cells #[.string (tx [97,99,107])] bR)) bR 1 (.slice (some ⟨r4,0,none⟩) 1 1) ([[97,99,107]].map jA) [r4]:=eS.lit (jA.rows [[97,99,107]]) dL (by simp) (by decide) (by simp[jA])
 exact aRE w hK (ahead:=[[97,99,107]]) O (u1.trans u2) (eP.one (u1.none hr4)) (by simp) (by simp) hk
def gH(c:UInt8)(n:Nat):Tx:=c::be n 8
theorem wB(c:UInt8)(n:Nat):(gH c n).length=9:=by simp[gH,iF]
theorem aPL{h:PH}{c:UInt8}{n:Nat}(hn:n<18446744073709551616){k:cD}(hk:∀h',dC h h'->k (.string (tx (gH c n))) h'):aT PG aDF #[.string (tx [c]),.int .u64 (n:Int)] h k:=by
 apply aH4.call
 unfold aH4
 intro r1 hr1
 try rw[cZ]
 have S0:=WN.start hr1
 generalize h.set r1 (.cells (dP PG fN) fN)=h1 at *
 refine aVU S0 (by simp) (by simp) λh2 F2 x2 e2 S2 K2=>?_
 refine aIh S2 (by rw[e2];simp) hn λh3 F3 x3 e3 S3 K3=>?_
 refine aMj S3.at_ λh4 u4=>?_
 have eb:aIi (x3.1,x3.2)=(gH c n,0):=by rw[e3,e2];rfl
 simp only[eb,cE,reduceIte,cT,Nat.reduceAdd]
 exact hk _ (S3.upd.fresh u4 S3.fresh)
theorem aLk{h:PH}{n:Nat}(hn:n<18446744073709551616){k:cD}(hk:∀h',dC h h'->k (.string (tx (gH 99 n))) h'):aT PG aAA #[.int .u64 (n:Int)] h k:=by
 apply aHE.call
 unfold aHE
 exact aPL (c:=99) hn hk
theorem aJR{h:PH}{n:Nat}(hn:n<18446744073709551616){k:cD}(hk:∀h',dC h h'->k (.string (tx (gH 114 n))) h'):aT PG xK #[.int .u64 (n:Int)] h k:=by
 apply aDt.call
 unfold aDt
 exact aPL (c:=114) hn hk
theorem aL5{h:PH}{n:Nat}(hn:n<18446744073709551616){k:cD}(hk:∀h',dC h h'->k (.string (tx (gH 97 n))) h'):aT PG aBY #[.int .u64 (n:Int)] h k:=by
 apply aDq.call
 unfold aDq
 exact aPL (c:=97) hn hk
theorem aAB{h:PH}{c:UInt8}{n:Nat}(hn:n<18446744073709551616){k:cD}(hk:∀h',dC h h'->k (.string (tx (gH c n))) h'):aT PG jI #[.string (tx [c]),.int .u64 (n:Int)] h k:=by
 apply aC2.call
 unfold aC2
 refine sT hn (by decide) λh2 u2=>?_
 simp only[zPP];rw[lQ (by simp[iF])]
 simp only[cE,reduceIte,cT,Nat.reduceAdd]
 exact hk _ u2
def aVj(i:Nat):List Value->PH->Nat:=λvs _=>match vs[i]? with
 | some (Value.int _ j)=>j.toNat
 | _=>0
theorem aNk{h:PH}{a:Nat}{st:kO}(R:qW h a st.1 st.2){k:cD}(hk:k (.int .i64 st.1) h):aT PG oC #[pT a 0] h k:=
 aLz R.here rfl hk
theorem aPO{h:PH}{a:Nat}{st:kO}(R:qW h a st.1 st.2)(x:Int){k:cD}(hk:∀h',qW h' a (aKZ st x).1 (aKZ st x).2->cU [a] h h'->k (.tuple #[]) h'):aT PG lD #[pT a 0,.int .i64 x] h k:=by
 apply qF.call
 unfold qF
 have ha:=R.here
 have c0:dD h ⟨a,0,none⟩=some (.int .i64 st.1):=by simp[dD,ha]
 unfold aKZ at hk
 by_cases h0:st.1=0
 ·have q:(st.1==0)=true:=by simp[h0]
  rw[if_pos h0] at hk
  simp only[nL.f0,fX.load,c0,hE,q,cE,reduceIte]
  refine iY fX.und rfl ha (by simp) rfl fX.info fX.size ?_
  exact hk _ ⟨dL⟩ (cU.set (by simp))
 ·have q:(st.1==0)=false:=by simp[h0]
  rw[if_neg h0] at hk
  simp only[nL.f0,fX.load,c0,hE,q,cE,reduceIte]
  exact hk h ⟨ha⟩ cU.refl
def aK6(st:kO):Int:=if st.1=0∧st.2≠[] then 7 else st.1
theorem aWT{h:PH}{a:Nat}{st:kO}(R:qW h a st.1 st.2){k:cD}(hk:k (.int .i64 (aK6 st)) h):aT PG aD7 #[pT a 0] h k:=by
 apply aD0.call
 unfold aD0
 refine aUU R ?_
 unfold aK6 at hk
 by_cases h0:st.1=0∧st.2≠[]
 ·rw[if_pos h0] at hk
  have hp:=aG1.2 h0.2
  have g:((0:Int)<(st.2.length:Int))=True:=eq_true (by omega)
  simp only[h0.1,if_true,g,cE,reduceIte]
  exact hk
 ·rw[if_neg h0] at hk
  have g:((0:Int)<(if st.1=0 then(st.2.length:Int) else 0))=False:=by
   apply eq_false
   split
   ·rename_i h1
    have:st.2=[]:=Classical.byContradiction λh2=>h0 ⟨h1,h2⟩
    rw[this];simp
   ·decide
  simp only[g,gK.f0,cE,reduceIte]
  exact aNk R hk
theorem cU.ext{F:List Nat}{h h1 h2:PH}(a:cU F h h1)(u:dC h1 h2):cU F h h2:=a.trans u.upd
def Nt.of(x:Int×Pk):Nt:=⟨x.1,x.2⟩
theorem aUS(x:Nt):jS PG (buildSlice dB 1 #[(0,.agg x.cells.toArray)])=some (.cells x.cells.toArray eQ (0,0),λr=>pure (.slice (some ⟨r,0,none⟩) 1 1)):=by kernel_rfl
theorem Nt.isC(l:List Nt):∀r∈l.map Nt.cells,∀u∈r,fK u=true:=λr hr u hu=>by
 obtain⟨m,_,rfl⟩:=lI.1 hr
 simp only[Nt.cells,gZ,kW,or_false] at hu
 rcases hu with rfl|rfl|rfl|rfl|rfl<;>rfl
def It.of(x:Int×Pk):It:=⟨x.2,x.1⟩
theorem It.isC(l:List It):∀r∈l.map It.cells,∀u∈r,fK u=true:=λr hr u hu=>by
 obtain⟨m,_,rfl⟩:=lI.1 hr
 simp only[It.cells,gZ,kW,or_false] at hu
 rcases hu with rfl|rfl|rfl|rfl|rfl<;>rfl
theorem aMQ{h:PH}{l:List UInt8}(hl:l.length≤8){k:cD}(hk:k (.int .u64 (val l)) h):aT PG tE #[.string (tx l)] h k:=by
 apply aA2.call
 unfold aA2
 refine⟨λvs h'=>∃i:Nat,i≤l.length∧vs=[.string (tx l),.int .u64 (val (l.take i)),.int .i64 i]∧h'=h,iE l.length 2,⟨0,by omega,rfl,rfl⟩,?_⟩
 rintro ρ h' ⟨i,hi,hvs,rfl⟩
 simp only[iH,iU,lF,and_true] at hvs
 obtain⟨s0,s1,s3⟩:=hvs
 rw[s0,s1,s3]
 unfold aFr
 by_cases hlt:i<l.length
 ·have hd:((i:Int)<(l.length:Int))=True:=by apply eq_true;omega
  obtain⟨b,hb⟩:∃b,l[i]? =some b:=⟨_,lS hlt⟩
  have hsm:=aOO hlt hl
  have hb8:=b.toNat_lt
  have ei:=rA (i:=i) (by omega)
  have e2:IntKind.u64.wrap ((val (l.take i):Int)*256)=((val (l.take i)*256:Nat):Int):=by rw[gG (by omega) (by omega)];omega
  have e3:IntKind.u64.wrap (b.toNat:Int)=(b.toNat:Int):=gG (by omega) (by omega)
  have e4:IntKind.u64.wrap (((val (l.take i)*256:Nat):Int)+(b.toNat:Int))=((val (l.take (i+1)):Nat):Int):=by rw[aPb hb,gG (by omega) (by omega)];omega
  simp only[bR.len,iD,hd,e2,aAJ bR.und hb,aQs,e3,e4,ei,cE,reduceIte]
  exact⟨⟨i+1,by omega,rfl,by trivial⟩,by simp[iE,s3];omega⟩
 ·have hd:((i:Int)<(l.length:Int))=False:=by apply eq_false;omega
  rw[mV (by omega)]
  simp only[bR.len,iD,hd,cE,reduceIte]
  exact hk
structure wD(h:PH)(a:Nat)(S:List UInt8)(e:Int)(s:List UInt8):Prop where
 here:h a=some (.cells #[.string (tx S),.int .i64 ((S.length-s.length:Nat):Int),.int .i64 e] eY (0,0))
 suf:s=S.drop (S.length-s.length)
 le:s.length≤S.length
theorem wD.upd{h h':PH}{a:Nat}{S:List UInt8}{e:Int}{s:List UInt8}{G:List Nat}(H:wD h a S e s)(u:cU G h h')(hd:a∉G):wD h' a S e s:=⟨u.get H.here hd,H.suf,H.le⟩
theorem wD.ext{h h':PH}{a:Nat}{S:List UInt8}{e:Int}{s:List UInt8}(H:wD h a S e s)(u:dC h h'):wD h' a S e s:=H.upd u (by simp)
theorem aJf{h:PH}{a:Nat}{S:List UInt8}{e:Int}{s:List UInt8}(hR:wD h a S e s)(hS:S.length≤1000000000000)(n:Int){k:cD}
  (hk:∀h',wD h' a S (jN (e,s) n).2.1 (jN (e,s) n).2.2->cU [a] h h'->k (.tuple #[.string (tx (jN (e,s) n).1),.bool (decide (e=0∧0≤n∧n≤s.length))]) h'):
  aT PG lN #[pT a 0,.int .i64 n] h k:=by
 have ha:=hR.here
 have hle:=hR.le
 have c0:dD h ⟨a,0,none⟩=some (.string (tx S)):=by simp[dD,ha]
 have c1:dD h ⟨a,1,none⟩=some (.int .i64 ((S.length-s.length:Nat):Int)):=by simp[dD,ha]
 have c2:dD h ⟨a,2,none⟩=some (.int .i64 e):=by simp[dD,ha]
 apply nN.call
 unfold nN
 unfold jN at hk
 by_cases h0:e=0
 ·have q:(e !=0)=false:=by simp[h0]
  have bad:¬(0≤n∧n≤(s.length:Int))->cW PG (dJ bT (pT a 2) (.int .i64 6)) h λv54 h55=>k (.tuple #[.string {data:=#[]},.bool false]) h55:=by
   intro hb
   rw[if_neg (by rintro⟨_,h2⟩;exact hb h2),if_pos h0] at hk
   have hdec:decide (e=0∧0≤n∧n≤(s.length:Int))=false:=by simp only[decide_eq_false_iff_not];rintro⟨_,h2⟩;exact hb h2
   rw[hdec] at hk
   refine iY bT.und rfl ha (by simp) rfl bT.info bT.size ?_
   exact hk _ ⟨by rw[dL];rfl,hR.suf,hR.le⟩ (cU.set (by simp))
  have esub:IntKind.i64.wrap ((S.length:Int)-((S.length-s.length:Nat):Int))=(s.length:Int):=by rw[eZ (by omega) (by omega)];omega
  by_cases h1:n<0
  ·simp only[eY.f2,fL,bT.load,c2,q,h1,cE,reduceIte]
   exact bad (by omega)
  ·by_cases h2:(s.length:Int)<n
   ·simp only[eY.f0,eY.f1,eY.f2,fL,bT.load,bR.load,c0,c1,c2,q,h1,bR.len,iD,esub,h2,cE,reduceIte]
    exact bad (by omega)
   ·obtain⟨m,rfl⟩:=zLm (a:=n) (by omega)
    have hm:m≤s.length:=by omega
    have eadd:IntKind.i64.wrap (((S.length-s.length:Nat):Int)+(m:Int))=((S.length-(s.length-m):Nat):Int):=by rw[eZ (by omega) (by omega)];omega
    have esub2:IntKind.i64.wrap (((S.length-(s.length-m):Nat):Int)-(m:Int))=((S.length-s.length:Nat):Int):=by rw[eZ (by omega) (by omega)];omega
    rw[if_pos ⟨h0,by omega,by simpa using hm⟩] at hk
    have hdec:decide (e=0∧0≤(m:Int)∧(m:Int)≤(s.length:Int))=true:=by simp only[decide_eq_true_eq];exact⟨h0,by omega,by omega⟩
    rw[hdec] at hk
    simp only[eY.f0,eY.f1,eY.f2,fL,bT.load,bR.load,c0,c1,c2,q,h1,bR.len,iD,esub,h2,eadd,cE,reduceIte]
    refine iY bT.und rfl ha (by simp) rfl bT.info bT.size ?_
    have hb:(h.set a (.cells (#[Value.string (tx S),.int .i64 ((S.length-s.length:Nat):Int),.int .i64 e].setIfInBounds 1 (.int .i64 ((S.length-(s.length-m):Nat):Int))) eY (0,0))) a=some (.cells #[.string (tx S),.int .i64 ((S.length-(s.length-m):Nat):Int),.int .i64 e] eY (0,0)):=dL
    have ub:cU [a] h (h.set a (.cells (#[Value.string (tx S),.int .i64 ((S.length-s.length:Nat):Int),.int .i64 e].setIfInBounds 1 (.int .i64 ((S.length-(s.length-m):Nat):Int))) eY (0,0))):=cU.set (by simp)
    generalize h.set a (.cells (#[Value.string (tx S),.int .i64 ((S.length-s.length:Nat):Int),.int .i64 e].setIfInBounds 1 (.int .i64 ((S.length-(s.length-m):Nat):Int))) eY (0,0))=h2 at *
    have d0:dD h2 ⟨a,0,none⟩=some (.string (tx S)):=by simp[dD,hb]
    have d1:dD h2 ⟨a,1,none⟩=some (.int .i64 ((S.length-(s.length-m):Nat):Int)):=by simp[dD,hb]
    have hcut:=aHi (P:=PG) (l:=S) (i:=S.length-s.length) (j:=S.length-(s.length-m)) (lo:=some (.int .i64 ((S.length-s.length:Nat):Int))) (hi:=some (.int .i64 ((S.length-(s.length-m):Nat):Int))) bR.und (.inr ⟨.i64,rfl⟩) (.inr ⟨.i64,rfl⟩) (by omega) (by omega)
    have hlist:(S.take (S.length-(s.length-m))).drop (S.length-s.length)=s.take m:=by
     conv=>rhs;rw[hR.suf]
     rw[zLv]
     congr 1
     omega
    rw[hlist] at hcut
    simp only[d0,d1,esub2,hcut,cE,reduceIte]
    rw[qQ,h0] at hk
    have hlen:(s.drop m).length=s.length-m:=oU
    refine hk _ ⟨?_,?_,by rw[hlen];omega⟩ ub
    ·rw[hlen,hb,h0]
    ·rw[hlen]
     have h1:S.drop (S.length-(s.length-m))=(S.drop (S.length-s.length)).drop m:=by
      rw[aG0]
      congr 1
      omega
     rw[h1,←hR.suf]
 ·have q:(e !=0)=true:=by simp[h0]
  rw[if_neg (by rintro⟨h1,_⟩;exact h0 h1),if_neg h0] at hk
  have hdec:decide (e=0∧0≤n∧n≤(s.length:Int))=false:=by simp only[decide_eq_false_iff_not];rintro⟨h1,_⟩;exact h0 h1
  rw[hdec] at hk
  simp only[eY.f2,fL,bT.load,c2,q,cE,reduceIte]
  exact hk _ hR cU.refl
end Go.Proofs.YtcoajnpchhmgjaaGreatDoor
