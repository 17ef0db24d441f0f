/- The texts of this claim, put together. -/
import Derived.Test.YtppgkeodaejgcaaGreatDoorRlKVC7
set_option linter.unusedSimpArgs false
set_option linter.unusedVariables false
set_option linter.unusedSectionVars false
set_option maxRecDepth 100000
open Go.Instr (loadAt fieldAt indexAt extract buildSlice build)
namespace Go.Proofs.YtppgkeodaejgcaaGreatDoor
open Go
theorem aPM{a b c d:Tx}(h:rW a b=rW c d)(hb:b.length=d.length):a=c∧b=d:=by
 unfold rW at h;simp only[kW,true_and] at h;exact List.append_inj' h hb
theorem aLy{n m:Nat}(hn:n<18446744073709551616)(hm:m<18446744073709551616)(h:be n 8=be m 8):n=m:=by
 have:=congrArg val h;rw[aLv,aLv,aCZ (show n<256^8 by omega),aCZ (show m<256^8 by omega)] at this;exact this
theorem aQd{n m:Nat}{d e:Tx}(hn:n<18446744073709551616)(hm:m<18446744073709551616)(h:aHF n d=aHF m e):n=m∧d=e:=by
 unfold aHF at h;simp only[kW,true_and] at h;obtain⟨h1,h2⟩:=List.append_inj h (by rw[iD,iD]);exact⟨aLy hn hm h1,h2⟩
theorem aX2{n m:Nat}(hn:n<256)(hm:m<256)(h:UInt8.ofNat (n%256)=UInt8.ofNat (m%256)):n=m:=by
 have:=congrArg UInt8.toNat h;simp at this;omega
theorem aT1{p q:Pr}(hk:q.k.length≤16)(hv:q.v.length≤64)(h:aAo p=aAo q):p=q:=by
 unfold aAo at h;simp only[kW,true_and] at h;obtain⟨h1,h2⟩:=h;have hl:=congrArg List.length h2;simp only[jR,uW] at hl;have hkl:p.k.length=q.k.length:=aX2 (by omega) (by omega) h1;obtain⟨e1,e2⟩:=List.append_inj h2 hkl;simp only[kW] at e2;obtain⟨pk,pv⟩:=p;obtain⟨qk,qv⟩:=q;simp only at e1 e2;rw[e1,e2.2]
theorem aY3{p:Pr}{i n:Nat}{path:List Tx}(h2:2≤n)(hi:i<dU n):oN p i n path=oQ (rW (oN p i (dU n) path) (path.getD (gE i n-1) [])):=by
 rw[oN,dif_pos h2,if_pos hi];rfl
theorem aYe{p:Pr}{i n:Nat}{path:List Tx}(h2:2≤n)(hi:¬i<dU n):oN p i n path=oQ (rW (path.getD (gE i n-1) []) (oN p (i-dU n) (n-dU n) path)):=by
 rw[oN,dif_pos h2,if_neg hi];rfl
theorem aY4{p:Pr}{i n:Nat}{path:List Tx}(h2:¬2≤n):oN p i n path=oQ (aAo p):=by
 rw[oN,dif_neg h2];rfl
theorem aV0{p:Pr}{i n:Nat}{path:List Tx}(h2:2≤n)(hi:i<dU n):upA p i n path=rW (oN p i (dU n) path) (path.getD (gE i n-1) [])::upA p i (dU n) path:=by
 rw[upA,dif_pos h2,if_pos hi]
theorem aVy{p:Pr}{i n:Nat}{path:List Tx}(h2:2≤n)(hi:¬i<dU n):upA p i n path=rW (path.getD (gE i n-1) []) (oN p (i-dU n) (n-dU n) path)::upA p (i-dU n) (n-dU n) path:=by
 rw[upA,dif_pos h2,if_neg hi]
theorem aY0{p:Pr}{i n:Nat}{path:List Tx}(h2:¬2≤n):upA p i n path=[aAo p]:=by
 rw[upA,dif_neg h2]
theorem aXF(n:Nat)(p:Pr)(i:Nat)(path:List Tx):∃t∈upA p i n path,oQ t=oN p i n path∧(if 2≤n then(if i<dU n then t=rW (oN p i (dU n) path) (path.getD (gE i n-1) []) else t=rW (path.getD (gE i n-1) []) (oN p (i-dU n) (n-dU n) path)) else t=aAo p):=by
 by_cases h2:2≤n
 ·by_cases hi:i<dU n
  ·exact⟨_,by rw[aV0 h2 hi];exact aIc,(aY3 h2 hi).symm,by rw[if_pos h2,if_pos hi]⟩
  ·exact⟨_,by rw[aVy h2 hi];exact aIc,(aYe h2 hi).symm,by rw[if_pos h2,if_neg hi]⟩
 ·exact⟨_,by rw[aY0 h2];exact aIc,(aY4 h2).symm,by rw[if_neg h2]⟩
theorem aQh{l:List Pr}(h2:2≤l.length):aAQ l=rW (lV (l.take (dU l.length))) (lV (l.drop (dU l.length)))::(aAQ (l.drop (dU l.length))++aAQ (l.take (dU l.length))):=by
 rw[aAQ,dif_pos h2]
theorem aXS{l:List Pr}(h2:¬2≤l.length):aAQ l=[aAo (l.headD ⟨[],[]⟩)]:=by
 rw[aAQ,dif_neg h2]
theorem aYG{l:List Pr}(h2:2≤l.length):lV l=oQ (rW (lV (l.take (dU l.length))) (lV (l.drop (dU l.length)))):=by
 rw[lV,dif_pos h2];rfl
theorem aX1{l:List Pr}(h2:¬2≤l.length):lV l=oQ (aAo (l.headD ⟨[],[]⟩)):=by
 rw[lV,dif_neg h2];rfl
theorem aUp(l:List Pr):∃t∈aAQ l,oQ t=lV l∧(if 2≤l.length then t=rW (lV (l.take (dU l.length))) (lV (l.drop (dU l.length))) else t=aAo (l.headD ⟨[],[]⟩)):=by
 by_cases h2:2≤l.length
 ·exact⟨_,by rw[aQh h2];exact aIc,(aYG h2).symm,by rw[if_pos h2]⟩
 ·exact⟨_,by rw[aXS h2];exact aIc,(aX1 h2).symm,by rw[if_neg h2]⟩
theorem aT6{p:Pr}{i n:Nat}{path:List Tx}(h2:2≤n)(hi:i<dU n):∀t∈upA p i (dU n) path,t∈upA p i n path:=λt ht=>by
 rw[aV0 h2 hi];exact aKr _ ht
theorem aTu{p:Pr}{i n:Nat}{path:List Tx}(h2:2≤n)(hi:¬i<dU n):∀t∈upA p (i-dU n) (n-dU n) path,t∈upA p i n path:=λt ht=>by
 rw[aVy h2 hi];exact aKr _ ht
theorem aS8{l:List Pr}(h2:2≤l.length):∀t∈aAQ (l.take (dU l.length)),t∈aAQ l:=λt ht=>by
 rw[aQh h2];simp[ht]
theorem aSe{l:List Pr}(h2:2≤l.length):∀t∈aAQ (l.drop (dU l.length)),t∈aAQ l:=λt ht=>by
 rw[aQh h2];simp[ht]
theorem aUh:∀(n:Nat) {l:List Pr} {p:Pr} {i:Nat} {path:List Tx},l.length=n->1≤n->i<n->(∀q∈l,q.k.length≤16∧q.v.length≤64)->gE i n≤path.length->(∀d∈path,d.length=32)->∀{A:List Tx},aG9 A->(∀t∈upA p i n path,t∈A)->(∀t∈aAQ l,t∈A)->oN p i n path=lV l->l[i]? =some p:=by
 intro n;induction n using Nat.strongRecOn with
 | ind n ih=>
  intro l p i path hl h1 hi hsm hdp hall A U hu hd e;obtain⟨t,ht,et,ct⟩:=aXF n p i path;obtain⟨s,hs,es,cs⟩:=aUp l;have ets:t=s:=U t (hu t ht) s (hd s hs) (by rw[et,es,e]);by_cases h2:2≤n
  ·obtain⟨m1,m2⟩:=lK h2;have h2l:2≤l.length:=by omega
   rw[if_pos h2] at ct;rw[if_pos h2l] at cs;have hg:(path.getD (gE i n-1) []).length=32:=by
    have h3:1≤gE i n:=by rw[gE,dif_pos h2];split<;>omega
    rw[aAT,lU (by omega)];exact hall _ (aLH _)
   have hdep:gE i n=if i<dU n then 1+gE i (dU n) else 1+gE (i-dU n) (n-dU n):=by rw[gE,dif_pos h2]
   rw[hl] at cs;by_cases hc:i<dU n
   ·rw[if_pos hc] at ct hdep;rw[ct,cs] at ets;obtain⟨e1,-⟩:=aPM ets (by rw[hg,yR]);have:=ih (dU n) m2 (l:=l.take (dU n)) (p:=p) (i:=i) (path:=path) (by rw[uX];omega) m1 hc (λq hq=>hsm q (aJf hq)) (by omega) hall U (λt ht=>hu t (aT6 h2 hc t ht)) (λt ht=>hd t (aS8 h2l t (by rw[hl];exact ht))) e1;rw[aHy,if_pos hc] at this;exact this
   ·rw[if_neg hc] at ct hdep;rw[ct,cs] at ets;obtain⟨-,e1⟩:=aPM ets (by rw[aG7,yR]);have:=ih (n-dU n) (by omega) (l:=l.drop (dU n)) (p:=p) (i:=i-dU n) (path:=path) (by rw[xD];omega) (by omega) (by omega) (λq hq=>hsm q (aLF hq)) (by omega) hall U (λt ht=>hu t (aTu h2 hc t ht)) (λt ht=>hd t (aSe h2l t (by rw[hl];exact ht))) e1;rw[aK2] at this;rw[←this];congr 1;omega
  ·rw[if_neg h2] at ct;rw[if_neg (by omega)] at cs;obtain⟨q,rfl⟩:=List.length_eq_one_iff.1 (show l.length=1 by omega);have i0:i=0:=by omega
   subst i0;rw[ct,cs] at ets;obtain⟨y1,y2⟩:=hsm q (by simp);have:=aT1 (p:=p) (q:=q) y1 y2 ets;rw[this];rfl
theorem aQy{f:Lf}{b:List Pr}(M:MOk b){A:List Tx}(U:aG9 A)(ha:∀t∈aGG f,t∈A)(hb:∀t∈rU b,t∈A)(h:oT f=some (lB b)):f.n=(b.length:Int)∧0≤f.i∧f.i<f.n∧b[f.i.toNat]? =some f.p:=by
 by_cases H:OkC f
 case neg=>rw[aO3 H] at h;cases h
 rw[aPE H] at h;simp only[zL8] at h;have hn1:=H.n1;have hn2:=H.n2;have hi1:=H.i1;have hi2:=H.i2;have hml:=M.len;have ht:aHF f.n.toNat (aLA f)=aHF b.length (if b=[] then [] else lV b):=U _ (ha _ (by unfold aGG;simp)) _ (hb _ (by unfold rU;simp)) h;obtain⟨e1,e2⟩:=aQd (by omega) (by omega) ht;have hne:b≠[]:=λe=>by rw[e] at e1;simp at e1;omega
 rw[if_neg hne] at e2;refine⟨by omega,hi1,hi2,?_⟩;unfold aLA at e2;refine aUh f.n.toNat e1.symm (by omega) (by omega) (λq hq=>⟨M.k q hq,M.v q hq⟩) (by rw[H.len];exact oM _) H.all U (λt ht=>ha t (by unfold aGG;exact aKr _ ht)) (λt ht=>hb t (by unfold rU;rw[if_neg hne,if_neg hne];exact aKr _ ht)) e2
theorem aMT:∀{l:List Lf} {f:Lf},f∈l->(oT f).isSome=true->∀t∈aGG f,t∈wB l
 | g::l,f,hf,hs,t,ht=>by
  rw[wB];rcases gL.1 hf with rfl|hf
  ·rw[if_pos hs];simp[ht]
  ·have:=aMT hf hs t ht;simp[this]
theorem aLn{l:List Lf}{b:List Pr}(M:MOk b){A:List Tx}(U:aG9 A)(ha:∀t∈wB l,t∈A)(hb:∀t∈rU b,t∈A)(h:mY (lB b) l=true):∀f∈l,f.n=(b.length:Int)∧0≤f.i∧f.i<f.n∧b[f.i.toNat]? =some f.p:=λf hf=>by
 unfold mY at h;rw[aDO] at h;have hc:=h f hf;simp only[beq_iff_eq] at hc;exact aQy M U (λt ht=>ha t (aMT hf (by rw[hc];rfl) t ht)) hb hc
theorem aO1{b:List Pr}(M:MOk b){s k v:Tx}{A:List Tx}(U:aG9 A)(ha:∀t∈aF9 s,t∈A)(hb:∀t∈rU b,t∈A)(h:aCH (lB b) s k v=true):(⟨k,v⟩:Pr)∈b:=by
 rw[aRU] at h;simp only[yB,beq_iff_eq,Bool.not_eq_true'] at h;obtain⟨⟨⟨h1,h2⟩,h3⟩,h4⟩:=h;unfold aF9 at ha
 match hl:(hZ s).1.lv,h3 with
 | [f],h3=>
  rw[hl] at h4 ha;have hp:f.p=⟨k,v⟩:=by simpa[aGP] using h3
  rw[if_pos ⟨h1,h2,rfl⟩] at ha;obtain⟨-,-,-,y⟩:=aLn M U ha hb h4 f (by simp);rw[←hp];exact rA y
 | [],h3=>simp[aGP] at h3
 | _::_::_,h3=>simp[aGP] at h3
theorem aPY{b:List Pr}(U:rN b){i j:Nat}{p q:Pr}(hi:b[i]? =some p)(hj:b[j]? =some q)(h:p.k<q.k):i<j:=by
 rcases Nat.lt_trichotomy i j with c|c|c
 ·exact c
 ·subst c;rw[hi] at hj;cases hj;exact absurd h (zL0 _)
 ·obtain⟨x1,x2⟩:=zLz.1 hi;obtain⟨y1,y2⟩:=zLz.1 hj;have:=List.pairwise_iff_getElem.1 U j i y1 x1 c;rw[x2,y2] at this;exact absurd h (List.lt_asymm this)
theorem aQ0{b:List Pr}(M:MOk b){s k:Tx}{A:List Tx}(U:aG9 A)(ha:∀t∈aIJ s k,t∈A)(hb:∀t∈rU b,t∈A)(h:aCY (lB b) s k=true):∀q∈b,q.k≠k:=by
 rw[aPG] at h;simp only[yB,beq_iff_eq,decide_eq_true_eq] at h;obtain⟨⟨⟨⟨⟨h1,h2⟩,h3⟩,h4⟩,h5⟩,h6⟩:=h;unfold aIJ at ha;rw[if_pos ⟨h1,h2,h3,h4⟩] at ha;have hcl:=aLn M U (λt ht=>ha t (zLk _ ht)) hb h5;intro q hq ek;obtain⟨j,hj⟩:=List.mem_iff_getElem?.1 hq;have hjl:=(zLz.1 hj).1;have hml:=M.len;generalize hL:(hZ s).1.lv=L at *
 match L,h6 with
 | [],h6=>
  have e:lB b=lB []:=by simpa[aAU] using h6
  rw[if_pos rfl] at ha;have ht:aHF b.length (if b=[] then [] else lV b)=aHF 0 []:=U _ (hb _ (by unfold rU;simp)) _ (ha _ (by unfold rU;simp)) e;obtain⟨e1,-⟩:=aQd (by omega) (by decide) ht;omega
 | [f],h6=>
  obtain⟨y1,y2,y3,y4⟩:=hcl f (by simp);simp only[aAU,Bool.or_eq_true,yB,beq_iff_eq,decide_eq_true_eq] at h6;rcases h6 with⟨z1,z2⟩|⟨z1,z2⟩
  ·have:=aPY M.up hj y4 (by rw[ek];exact z2);omega
  ·rw[eX (by omega) (by omega)] at z1;have:=aPY M.up y4 hj (by rw[ek];exact z2);omega
 | f::g::r,h6=>
  obtain⟨y1,y2,y3,y4⟩:=hcl f (by simp);obtain⟨w1,w2,w3,w4⟩:=hcl g (by simp);simp only[aAU,yB,beq_iff_eq,decide_eq_true_eq] at h6;obtain⟨⟨⟨z1,z2⟩,z3⟩,z4⟩:=h6;rw[eX (by omega) (by omega)] at z2;have a1:=aPY M.up y4 hj (by rw[ek];exact z3);have a2:=aPY M.up hj w4 (by rw[ek];exact z4);omega
theorem aPH{p q:Pk}(hp:p.right=true)(hq:q.right=true){A:List Tx}(U:aG9 A)(ha:∀t∈oX p,t∈A)(hb:∀t∈oX q,t∈A)(h:mL p=mL q):p.bs=q.bs:=by
 unfold oX at ha hb;unfold mL aG3 at h;rw[if_pos hp] at ha;rw[if_pos hq] at hb;simp only[hp,hq,if_true] at h;exact U _ (ha _ (by simp)) _ (hb _ (by simp)) h
theorem aU5{p q:Pk}(hp:p.right=true)(hq:q.right=true){A:List Tx}(U:aG9 A)(ha:∀t∈aFl p,t∈A)(hb:∀t∈aFl q,t∈A)(h:aBo p=aBo q):p.bs=q.bs:=by
 unfold aFl at ha hb;unfold aBo aG3 at h;rw[if_pos hp] at ha;rw[if_pos hq] at hb;simp only[hp,hq,if_true] at h;have:=U _ (ha _ (by simp)) _ (hb _ (by simp)) h;exact List.append_cancel_left this
theorem DC.mono{c b:Nat}{s:Ch}{n n':Nat}{h:PH}{F:List Nat}(H:DC c b s n h F)(hn:n≤n'):DC c b s n' h F:=by
 obtain⟨sp,cp,bv,nv,Fx,Fr,rfl,hx,⟨F1,F2,rfl,h1,⟨F3,F4,rfl,h3,⟨F5,F6,rfl,⟨rows,r1,r2,r3⟩,⟨ns,n1,n2⟩,d5⟩,d3⟩,d1⟩,dx⟩:=H;exact⟨sp,cp,bv,nv,Fx,_,rfl,hx,⟨F1,_,rfl,h1,⟨F3,_,rfl,h3,⟨F5,F6,rfl,⟨rows,r1,by omega,r3⟩,⟨ns,n1,by omega⟩,d5⟩,d3⟩,d1⟩,dx⟩
theorem aG4{b m:Nat}{A A':List Tx}{K:List Nat}{X:mF}(g:mA X){h h':PH}{F:List Nat}(H:eO (rC b m A K) X h F)(B:Bk b m A' K h')(u:cU [b,m] h h'):eO (rC b m A' K) X h' F∧iX h F h' F:=by
 obtain⟨Fa,Fb,rfl,⟨rfl,-⟩,HX,hd⟩:=H;refine⟨⟨_,Fb,rfl,⟨rfl,B⟩,g.upd HX u (λx hx hm=>?_),hd⟩,⟨u.mono λx hx=>.inl ?_,λx hx=>.inl hx⟩⟩
 ·simp only[gL,kJ,or_false] at hm;rcases hm with rfl|rfl
  ·exact hd _ (by simp) hx
  ·exact hd _ (by simp) hx
 ·simp only[gL,kJ,or_false] at hx;rcases hx with rfl|rfl<;>simp
theorem aOB{h:PH}{c b:Nat}{s:Ch}{n:Nat}{F:List Nat}{sp cp:Nat}{bv nv:Value}(P:mS c (s.dcells b sp cp bv nv) sp s.st cp s.cl bv nv n h F){k v:Tx}(h1:1≤k.length)(h2:k.length≤16)(h3:v.length≤64)(hr:¬(gI s.st.now k=none∧4096≤s.st.now.length)){kk:cD}
  (hk:∀h' F',mS c ((s.put k v).dcells b sp cp bv nv) sp (s.put k v).st cp (s.put k v).cl bv nv n h' F'->iX h F h' F'->kk (.int .i64 0) h'):aT PG nC #[pT sp 0,.string (tx k),.string (tx v)] h kk:=by
 obtain⟨Fs,⟨G,S,rfl⟩,hFs,back⟩:=P.fSt;have es:aCd s.st k v=({s.st with now:=mW s.st.now ⟨k,v⟩},0):=by
  unfold aCd;rw[if_neg (by omega),if_neg hr]
 refine aWz S k v λh5 G5 S5 u5 g5=>?_;rw[es] at S5 ⊢;obtain⟨F6,P6,s6⟩:=back (rsA sp {s.st with now:=mW s.st.now ⟨k,v⟩}) h5 (sp::G5) ⟨G5,S5,rfl⟩ ⟨u5.mono λx hx=>.inl (by simp only[fU] at hx;simp[hx]),λx hx=>by
  rcases gL.1 hx with rfl|hx
  ·exact .inl (by simp)
  ·rcases g5 x hx with hx|hx
   ·exact .inl (by simp[hx])
   ·exact .inr hx⟩
 exact hk h5 F6 P6 s6
theorem aRj{h:PH}{c b:Nat}{s:Ch}{n:Nat}{F:List Nat}{sp cp:Nat}{bv nv:Value}(P:mS c (s.dcells b sp cp bv nv) sp s.st cp s.cl bv nv n h F){k:Tx}(hr:(gI s.st.now k).isSome=true){kk:cD}
  (hk:∀h' F',mS c ((s.del k).dcells b sp cp bv nv) sp (s.del k).st cp (s.del k).cl bv nv n h' F'->iX h F h' F'->kk (.int .i64 0) h'):aT PG nQ #[pT sp 0,.string (tx k)] h kk:=by
 obtain⟨Fs,⟨G,S,rfl⟩,hFs,back⟩:=P.fSt;have es:aE5 s.st k=({s.st with now:=uI s.st.now k},0):=by
  unfold aE5;rw[if_neg (λh=>by rw[h] at hr;cases hr)]
 refine aWJ S k λh5 G5 S5 u5 g5=>?_;rw[es] at S5 ⊢;obtain⟨F6,P6,s6⟩:=back (rsA sp {s.st with now:=uI s.st.now k}) h5 (sp::G5) ⟨G5,S5,rfl⟩ ⟨u5.mono λx hx=>.inl (by simp only[fU] at hx;simp[hx]),λx hx=>by
  rcases gL.1 hx with rfl|hx
  ·exact .inl (by simp)
  ·rcases g5 x hx with hx|hx
   ·exact .inl (by simp[hx])
   ·exact .inr hx⟩
 exact hk h5 F6 P6 s6
theorem aUK(s:Ch)(d:Tx)(t:Nat):rD s d t=if s.st.height=18446744073709551615 then 12 else if ¬s.seq<18446744073709551615 then 12 else if (jW s d t).right=false then 1 else if ¬aJc s.cl<(t:Int) then 10 else if ¬s.st.now.length+1≤4096 then 2 else 0:=by
 unfold rD qZ;by_cases c0:s.st.height=18446744073709551615
 ·rw[if_pos c0,if_pos c0]
 ·rw[if_neg c0,if_neg c0];by_cases c1:s.seq<18446744073709551615<;>cases hr:(jW s d t).right<;>by_cases c2:aJc s.cl<(t:Int)<;>by_cases c3:s.st.now.length+1≤4096<;>simp[zD,c1,hr,c2,c3]
theorem aUP{h:PH}{c b m:Nat}{s:Ch}{n:Nat}{A:List Tx}{K F:List Nat}(H:eO (rC b m A K) (DC c b s n) h F)(w:s.DOk)(hn:n≤10000)(d:Tx)(hd:d.length≤1000000){t:Nat}(ht:t<18446744073709551616){k:cD}
  (hbad:rD s d t≠0->∀h',eO (rC b m A K) (DC c b s n) h' F->iX h F h' F->k (.tuple #[Pk.v default,.int .i64 (rD s d t)]) h')
  (hok:rD s d t=0->∀h' F',eO (rC b m (oX (jW s d t)++A) K) (DC c b (s.sent (jW s d t)) (n+1)) h' F'->iX h F h' F'->k (.tuple #[(jW s d t).v,.int .i64 0]) h'):
  aT PG yT #[pT c 0,.string (tx d),.int .u64 (t:Int)] h k:=by
 apply oF.call;unfold oF;have gW:mA (eO (rC b m A K) (DC c b s n)):=(rC.good _ _ _ _).star (DC.good _ _ _ _);obtain⟨Fb,Fd,eF,⟨efb,HB⟩,Hd,hdis⟩:=id H;obtain⟨sp,cp,bv,nv,P⟩:=id Hd;obtain⟨hs,R⟩:=w.rk;have hlat:=aN4 R;have hsq:=w.seq;intro r1 hr1
 try rw[cZ]
 have u1:dD h (h.set r1 (.cells (dL PG aR) aR)):=cU.new hr1;have X1:Bx (h.set r1 (.cells (dL PG aR) aR)) r1 (Pk.cells default):=aR.zbox;generalize h.set r1 (.cells (dL PG aR) aR)=h1 at *;have P1:=mS.good.ext P u1;simp only[cQ.f1,cQ.f4,fJ,dl1 P1.cell,dl4 P1.cell,aV1,cG,reduceIte,cT,Nat.reduceAdd];have ep:(Pk.v ⟨s.id,(s.seq:Int),(t:Int),tx d⟩)=(jW s d t).v:=rfl;rw[ep];obtain⟨p,hp⟩:∃p,p=jW s d t:=⟨_,rfl⟩;have pwf:p.wf:=by rw[hp];exact⟨by show(0:Int)≤(s.seq:Int);omega,by show(s.seq:Int)<_;omega,by show(0:Int)≤(t:Int);omega,by show(t:Int)<_;omega⟩
 intro r10 hr10
 try rw[cZ]
 have n110:r1≠r10:=X1.apart hr10;rw[←hp];refine aR.fill (vs:=p.cells) hr10 rfl (Pk.isC _) λh2 X2 u2=>?_;have e2:=u1.trans u2;have P2:=mS.good.ext P e2;have Y2:=X1.ext u2;have W2:=gW.ext H e2;have nr1:r1∉F:=λhm=>gW.known H _ hm hr1;have lp:∀{h':PH},dD h2 h'->cE PG h' (loadAt aR (pT r10 0))=some p.v:=λu=>(X2.ext u).pk rfl;obtain⟨Fs2,⟨G2,S2,-⟩,-,-⟩:=P2.fSt
 -- what is refused
 have no:∀{h3:PH} (e:Int),dD h2 h3->rD s d t=e->e≠0->dY (cV PG (build aR #[])) λv40=>cY PG (dJ aR (pT r1 0) v40) h3 λv41 h42=>dY (cE PG h42 (loadAt aR (pT r1 0))) λv43=>k (Value.tuple #[v43,(Value.int IntKind.i64 e)]) h42:=fun {h3} e u3 he hne=>by
  simp only[Pk.zb,cG,reduceIte,cT,Nat.reduceAdd];refine aR.put (Y2.ext u3) (o:=0) (vs:=Pk.cells default) rfl (by show 0+4≤4;decide) (Pk.isC _) λh4 Y4 u4=>?_;have Y4:Bx h4 r1 (Pk.cells default):=Y4;have l4:cE PG h4 (loadAt aR (pT r1 0))=some (Pk.v default):=Y4.pk rfl;simp only[l4,cG,reduceIte,cT,Nat.reduceAdd];have:=hbad (by rw[he];exact hne) h4 (gW.upd (gW.ext W2 u3) u4 (λx hx=>by simp only[fU];rintro rfl;exact nr1 hx)) ⟨((e2.trans u3).upd (F:=F)).then u4 (λx hx=>by simp only[fU] at hx;subst hx;exact .inr hr1),λx hx=>.inl hx⟩;rw[he] at this;exact this
 have hse:=aUK s d t;simp only[cQ.f2,fJ,dl2 P2.cell,cG,reduceIte,cT,Nat.reduceAdd];refine aCu S2 ?_;by_cases c0:s.st.height=18446744073709551615
 ·have q:((s.st.height:Int)==18446744073709551615)=true:=by rw[c0];rfl
  rw[if_pos c0] at hse;simp only[iA,q,cG,reduceIte,cT,Nat.reduceAdd];have:=no 12 cU.refl hse (by decide)
  try simp only[cG,reduceIte,cT,Nat.reduceAdd] at this
  exact this
 have q:((s.st.height:Int)==18446744073709551615)=false:=by rw[beq_eq_false_iff_ne];omega
 rw[if_neg c0] at hse;by_cases c1:s.seq<18446744073709551615
 case neg=>
  have q1:((s.seq:Int)==18446744073709551615)=true:=by rw[beq_iff_eq];omega
  rw[if_pos c1] at hse;simp only[iA,q,q1,cQ.f4,fJ,dl4 P2.cell,cG,reduceIte,cT,Nat.reduceAdd];have:=no 12 cU.refl hse (by decide)
  try simp only[cG,reduceIte,cT,Nat.reduceAdd] at this
  exact this
 have q1:((s.seq:Int)==18446744073709551615)=false:=by rw[beq_eq_false_iff_ne];omega
 rw[if_neg (by simpa using c1)] at hse;simp only[iA,q,q1,cQ.f4,fJ,dl4 P2.cell,lp cU.refl,cG,reduceIte,cT,Nat.reduceAdd];refine aHq p pwf.1 pwf.2.2.1 λh3 u3=>?_;have P3:=mS.good.ext P2 u3;rw[←hp] at hse;cases hr:p.right with
 | false=>
  rw[if_pos hr] at hse;simp only[cG,reduceIte,cT,Nat.reduceAdd];have:=no 1 u3 hse (by decide)
  try simp only[cG,reduceIte,cT,Nat.reduceAdd] at this
  exact this
 | true=>
  rw[if_neg (by rw[hr];decide)] at hse;obtain⟨Fc,KR,-,-⟩:=P3.fCl;simp only[cQ.f3,fJ,dl3 P3.cell,cG,reduceIte,cT,Nat.reduceAdd];refine aSn KR (by have:=w.few;omega) R (λy hy=>(w.pos y hy).1) ?_;by_cases c2:aJc s.cl<(t:Int)
  case neg=>
   have q2:((t:Int)≤aKO hs)=True:=eq_true (by rw[←hlat];omega);rw[if_pos c2] at hse;simp only[q2,cG,reduceIte,cT,Nat.reduceAdd];have:=no 10 u3 hse (by decide)
   try simp only[cG,reduceIte,cT,Nat.reduceAdd] at this
   exact this
  have q2:((t:Int)≤aKO hs)=False:=eq_false (by rw[←hlat];omega);rw[if_neg (by simpa using c2)] at hse;simp only[q2,cG,reduceIte,cT,Nat.reduceAdd];refine aQr (s:=s) (n:=n) (b:=b) ⟨sp,cp,bv,nv,P3⟩ 1 (by decide) ?_;by_cases c3:s.st.now.length+1≤4096
  case neg=>
   have q3:=decide_eq_false c3;rw[if_pos c3] at hse;simp only[q3,cG,reduceIte,cT,Nat.reduceAdd];have:=no 2 u3 hse (by decide)
   try simp only[cG,reduceIte,cT,Nat.reduceAdd] at this
   exact this
  have q3:=decide_eq_true c3;rw[if_neg (by simpa using c3)] at hse;have hok:=hok hse;rw[←hp] at hok;have ls:∀{h':PH},dD h2 h'->cE PG h' (loadAt cA (pT r10 1))=some (.int .u64 (s.seq:Int)):=λu=>by rw[cA.load,(X2.ext u).cell,hp];rfl
  have q99:({data:=#[99]}:ByteArray)=tx [99]:=rfl;simp only[q3,cQ.f0,cQ.f2,aR.f1,fJ,dl0 P3.cell,dl2 P3.cell,ls u3,lp u3,q99,cG,reduceIte,cT,Nat.reduceAdd];refine aAG (c:=99) (n:=s.seq) (by omega) λh4 u4=>?_;have u34:=u3.trans u4;have P4:=mS.good.ext P3 u4;refine⟨lp u34,dl0 P4.cell,dl2 P4.cell,?_⟩;refine aKN (HB.ext (e2.trans u34)) pwf λh5 B5 u5=>?_;obtain⟨W5,s5⟩:=aG4 (DC.good _ _ _ _) (gW.ext W2 u34) B5 u5;have offd:∀x∈Fd,x∉[b,m]:=λx hx hm=>by
   subst efb;simp only[gL,kJ,or_false] at hm;rcases hm with rfl|rfl
   ·exact hdis _ (by simp) hx
   ·exact hdis _ (by simp) hx
  have P5:=mS.good.upd P4 u5 offd;have n10:r10∉F:=λhm=>gW.known (gW.ext H u1) _ hm hr10;have n10b:r10∉[b,m]:=λhm=>by
   simp only[gL,kJ,or_false] at hm;rcases hm with rfl|rfl
   ·exact HB.known _ (by simp) (u1.none hr10)
   ·exact HB.known _ (by simp) (u1.none hr10)
  have n1b:r1∉[b,m]:=λhm=>by
   simp only[gL,kJ,or_false] at hm;rcases hm with rfl|rfl
   ·exact HB.known _ (by simp) hr1
   ·exact HB.known _ (by simp) hr1
  have X5:=(X2.ext u34).upd u5 n10b;have Y5:=(Y2.ext u34).upd u5 n1b;refine⟨dl2 P5.cell,?_⟩
  -- the chain alone
  obtain⟨Fb5,Fd5,eF5,⟨efb5,B5'⟩,Hd5,hdis5⟩:=id W5;have hFd5:Fd5=Fd:=by
   rw[eF,efb,efb5] at eF5;exact(List.append_cancel_left eF5).symm
  subst hFd5;have nX:r10∉Fd5:=λhm=>n10 (by rw[eF];simp[hm]);have nY:r1∉Fd5:=λhm=>nr1 (by rw[eF];simp[hm]);refine aOB P5 (by rw[wH];decide) (by rw[wH];decide) (aLa _) (λhh=>by omega) λh6 F6 P6 s6=>?_;obtain⟨X6,nX6⟩:=zC X5 nX s6;obtain⟨Y6,nY6⟩:=zC Y5 nY s6;have w1:IntKind.u64.wrap ((s.seq:Int)+1)=((s.seq+1:Nat):Int):=by rw[gJ (by omega) (by omega)];omega
  have l4:cE PG h6 (loadAt cA (pT c 4))=some (.int .u64 (s.seq:Int)):=dl4 P6.cell;simp only[cQ.f4,fJ,l4,w1,cG,reduceIte,cT,Nat.reduceAdd];obtain⟨Fx,⟨rfl,X⟩,hFx,back⟩:=P6.fBox;refine cA.put X (o:=4) (by show 4<7;decide) rfl λh7 X7 u7=>?_;have X7:Bx h7 c (((s.put (fS 99 s.seq) (mL p)).next).dcells b sp cp bv nv):=X7;obtain⟨F7,P7,s7⟩:=back (vT c (((s.put (fS 99 s.seq) (mL p)).next).dcells b sp cp bv nv)) h7 [c] ⟨rfl,X7⟩ ⟨u7,λx hx=>.inl hx⟩;obtain⟨Z7,nZ7⟩:=zC X6 nX6 s7;obtain⟨Y7,nY7⟩:=zC Y6 nY6 s7;have l7:cE PG h7 (loadAt aR (pT r10 0))=some p.v:=Z7.pk rfl;simp only[l7,cG,reduceIte,cT,Nat.reduceAdd];refine aJ9 (s:=(s.put (fS 99 s.seq) (mL p)).next) (n:=n) (b:=b) ⟨sp,cp,bv,nv,P7⟩ hn 1 p λh8 F8 P8 s8=>?_;obtain⟨Z8,nZ8⟩:=zC Z7 nZ7 s8;obtain⟨Y8,nY8⟩:=zC Y7 nY7 s8;have l8:cE PG h8 (loadAt aR (pT r10 0))=some p.v:=Z8.pk rfl;simp only[l8,cG,reduceIte,cT,Nat.reduceAdd];have sD:iX h5 Fd5 h8 F8:=(s6.trans s7).trans s8;have B8:Bk b m (oX p++A) K h8:=B5'.upd sD.upd (λx hx hm=>hdis5 x (by rw[efb5];exact hx) hm);have W8:eO (rC b m (oX p++A) K) (DC c b (s.sent p) (n+1)) h8 ((b::m::K)++F8):=eO.mk ⟨rfl,B8⟩ P8 (λx hx hx8=>by
   rcases sD.grow x hx8 with hh|hh
   ·exact hdis5 x (by rw[efb5];exact hx) hh
   ·exact B5'.known x hx hh)
  have sW:iX h F h8 ((b::m::K)++F8):=((iX.ext (F:=F) (e2.trans u34)).trans s5).trans ⟨sD.upd.mono λx hx=>.inl (by rw[eF];simp[hx]),λx hx=>by
   rcases jG.1 hx with hx|hx
   ·exact .inl (by rw[eF,efb];simp only[jG];exact .inl hx)
   ·rcases sD.grow x hx with hh|hh
    ·exact .inl (by rw[eF];simp[hh])
    ·exact .inr hh⟩
  have n8:r1∉(b::m::K)++F8:=λhm=>by
   rcases jG.1 hm with hm|hm
   ·exact HB.known _ hm hr1
   ·exact nY8 hm
  refine aR.put Y8 (o:=0) (vs:=p.cells) rfl (by show 0+4≤4;decide) (Pk.isC _) λh9 Y9 u9=>?_;have Y9:Bx h9 r1 p.cells:=Y9;have l9:cE PG h9 (loadAt aR (pT r1 0))=some p.v:=Y9.pk rfl;simp only[l9,cG,reduceIte,cT,Nat.reduceAdd];refine hok h9 _ (((rC.good _ _ _ _).star (DC.good _ _ _ _)).upd W8 u9 (λx hx=>by simp only[fU];rintro rfl;exact n8 hx)) ⟨sW.upd.then u9 (λx hx=>by simp only[fU] at hx;subst hx;exact .inr hr1),λx hx=>sW.grow x hx⟩
end Go.Proofs.YtppgkeodaejgcaaGreatDoor
namespace Go.Proofs.YtppgkeodaejgcaaGreatDoor
open Go Bld
structure aHN(h:PH)(a b:Nat)(s:St)(K:List Nat):Prop where
 here:∃F G,rZ h a s F∧vE h b s G∧(∀x∈F,x∉b::G)∧K=F++b::G
theorem aHN.upd{h h':PH}{a b:Nat}{s:St}{K J:List Nat}(H:aHN h a b s K)(u:cU J h h')(hd:∀x∈K,x∉J):aHN h' a b s K:=by
 obtain⟨F,G,h1,h2,h3,rfl⟩:=H.here;exact⟨F,G,h1.upd u (λx hx=>hd x (by simp[hx])),h2.upd u (hd b (by simp)) (λg hg=>hd g (by simp[hg])),h3,rfl⟩
theorem aHN.ext{h h':PH}{a b:Nat}{s:St}{K:List Nat}(H:aHN h a b s K)(u:dD h h'):aHN h' a b s K:=H.upd u (by simp)
theorem aHN.known{h:PH}{a b:Nat}{s:St}{K:List Nat}(H:aHN h a b s K):∀x∈K,h x≠none:=by
 obtain⟨F,G,h1,h2,h3,rfl⟩:=H.here;intro x hx;rcases jG.1 hx with hx|hx
 ·exact h1.known x hx
 ·exact h2.known x hx
theorem aHN.st{h:PH}{a b:Nat}{s:St}{K:List Nat}(H:aHN h a b s K):∃F,rZ h a s F∧∀x∈F,x∈K:=by
 obtain⟨F,G,h1,h2,h3,rfl⟩:=H.here;exact⟨F,h1,λx hx=>by simp[hx]⟩
theorem aQK{h:PH}{b:Nat}{s:St}{G:List Nat}(H:vE h b s G)(key:Tx){k:cD}(hk:k (.tuple #[.string (tx (((gI s.now key).map Pr.v).getD [])),.bool (gI s.now key).isSome]) h):
  aT PG tN #[pT b 0,.string (tx key)] h k:=by
 apply wR.call;unfold wR;obtain⟨A,M,B,c⟩:=H.ok.up.cut key;have hg:=c.get H.ok.up;refine aN9 H c ?_;have hok:=H.ok;obtain⟨nv,bv,bl,h1,h2,h3,h4,h5,h6,h7,h8,h9⟩:=H.here;rcases c.mid with e|⟨q,e,e2⟩
 ·subst e;have:gI s.now key=none:=by
   cases hx:gI s.now key with
   | none=>rfl
   | some y=>rw[hx] at hg;simp at hg
  rw[this] at hk;simp only[ne_eq,not_true_eq_false,cG,reduceIte];exact hk
 ·subst e;have hgs:gI s.now key=some q:=(zM hok.up).2 ⟨by rw[c.eq];simp,e2⟩;rw[hgs] at hk;have c0:dF h ⟨b,0,none⟩=some nv:=by simp[dF,h1]
  have hq:s.now[A.length]? =some q:=by rw[c.eq];simp
  obtain⟨bb,o,p1,-,p3,-⟩:=h2.pair hq;simp only[ne_eq,List.cons_ne_nil,not_false_eq_true,dN.f0,cJ.load,c0,p1,cM.f1,bR.load,p3,cG,reduceIte];exact hk
theorem aTI{h:PH}{b:Nat}{s:St}{G:List Nat}(H:vE h b s G)(x:Nat)(hx:x<18446744073709551616){k:cD}(hn:oO s x=none->k (.tuple #[.slice none 0 0,.int .i64 3]) h)
  (hk:∀l v,oO s x=some l->fR h 2 v (l.map Pr.cells)->aDF v G->k (.tuple #[v,.int .i64 0]) h):aT PG tY #[pT b 0,.int .u64 (x:Int)] h k:=by
 apply pO.call;unfold pO;have hok:=H.ok;have hok1:=hok.h1;have hok2:=hok.h2;have hok3:=hok.h3;have hok4:=hok.h4;have hnone:=aM0 hok1 (x:=x);have H0:=H;obtain⟨nv,bv,bl,h1,h2,h3,h4,h5,h6,h7,h8,h9⟩:=H.here;have c1:dF h ⟨b,0+1,none⟩=some (.int .u64 ((s.height-(s.blocks.length-1):Nat):Int)):=by simp[dF,h1]
 have c2:dF h ⟨b,0+2,none⟩=some bv:=by simp[dF,h1]
 by_cases d1:x<s.height-(s.blocks.length-1)
 ·have g1:((x:Int)<((s.height-(s.blocks.length-1):Nat):Int))=True:=eq_true (by omega);simp only[dN.f1,cA.load,c1,g1,aMt,aLV,cG,reduceIte];exact hn (hnone.2 (by omega))
 have g1:((x:Int)<((s.height-(s.blocks.length-1):Nat):Int))=False:=eq_false (by omega);simp only[dN.f1,cA.load,c1,g1,cG,reduceIte];refine aCu H0 ?_;by_cases d2:s.height<x
 ·have g2:((s.height:Int)<(x:Int))=True:=eq_true (by omega);simp only[g2,cG,reduceIte];exact hn (hnone.2 (by omega))
 have g2:((s.height:Int)<(x:Int))=False:=eq_false (by omega);have hs:∃l,oO s x=some l:=by
  cases e:oO s x with
  | none=>have:=hnone.1 e;omega
  | some l=>exact⟨l,rfl⟩
 obtain⟨l,hl⟩:=hs;obtain⟨-,hidx⟩:=aJx hl;have hi:s.blocks.length-1-(s.height-x)=x-(s.height-(s.blocks.length-1)):=by omega
 have w1:IntKind.u64.wrap ((x:Int)-((s.height-(s.blocks.length-1):Nat):Int))=((x-(s.height-(s.blocks.length-1)):Nat):Int):=by rw[gJ (by omega) (by omega)];omega
 rw[hi] at hidx;generalize x-(s.height-(s.blocks.length-1))=j at *;rw[←h5,wN] at hidx;obtain⟨⟨v,l'⟩,hy,e⟩:=Option.map_eq_some_iff.1 hidx;simp only at e;subst e;have hmem:=rA hy;obtain⟨pa,p1,p2⟩:=h3.loadCell (t:=fE) (k:=.u64) (j:=(j:Int)) (x:=v) fE.und cJ.info cJ.size cJ.und rfl (by omega) (by rw[qF,wN,hy];rfl);simp only[g2,dN.f1,dN.f2,cA.load,fE.load,c1,c2,w1,p1,p2,cG,reduceIte];exact hk _ v hl (h4 _ hmem).1 (h4 _ hmem).2
theorem aSx{h:PH}{b:Nat}{s:St}{G:List Nat}(H:vE h b s G){bk m:Nat}{A:List Tx}{c:Bool}{K:List Nat}(B:vA h bk m A c K)(hd:∀x∈G,x≠bk∧x≠m)(x:Nat)(hx:x<18446744073709551616){k:cD}(hn:oO s x=none->k (.tuple #[.string (tx []),.int .i64 3]) h)
  (hk:∀l h' c',oO s x=some l->vA h' bk m (rU l++A) c' K->(c=true->c'=true)->cU [bk,m] h h'->k (.tuple #[.string (tx (lB l)),.int .i64 0]) h'):aT PG yW #[pT b 0,pT bk 0,.int .u64 (x:Int)] h k:=by
 apply vR.call;unfold vR;refine aTI H x hx (λhs=>?_) (λl v hs S hv=>?_)
 ·simp only[show((3:Int) !=0)=true from rfl,cG,reduceIte];exact hn hs
 ·simp only[show((0:Int) !=0)=false from rfl,bne_self_eq_false,cG,reduceIte];have hb:=H.ok.blk l (by
   obtain⟨-,h2⟩:=aJx hs;exact rA h2)
  refine aPe B (by omega) S (λa n c e=>by
   have:=hd _ (hv a n c e);simp[this]) (λp hp=>by have:=hb.2.1 p hp;unfold aOM at this;omega) λh' c' B' hc u=>?_
  exact hk l h' c' hs B' hc u
end Go.Proofs.YtppgkeodaejgcaaGreatDoor
namespace Go.Proofs.YtppgkeodaejgcaaGreatDoor
open Go
theorem aEg{b m:Nat}{A:List Tx}{K:List Nat}{X:mF}{h:PH}{F:List Nat}(H:eO (rC b m A K) X h F):∃Fd,X h Fd∧Bk b m A K h∧F=(b::m::K)++Fd∧∀x∈b::m::K,x∉Fd:=by
 obtain⟨Fa,Fb,rfl,⟨rfl,B⟩,HX,hd⟩:=H;exact⟨Fb,HX,B,rfl,hd⟩
theorem aG6{b m:Nat}{A:List Tx}{K:List Nat}{X':mF}{h h':PH}{Fd Fd':List Nat}(B:Bk b m A K h)(hd:∀x∈b::m::K,x∉Fd)(HX:X' h' Fd')(s:iX h Fd h' Fd'):eO (rC b m A K) X' h' ((b::m::K)++Fd')∧iX h ((b::m::K)++Fd) h' ((b::m::K)++Fd'):=by
 refine⟨eO.mk ⟨rfl,B.upd s.upd (λx hx hm=>hd x hx hm)⟩ HX (λx hx hx8=>?_),⟨s.upd.mono λx hx=>.inl (by simp[hx]),λx hx=>?_⟩⟩
 ·rcases s.grow x hx8 with hh|hh
  ·exact hd x hx hh
  ·exact B.known x hx hh
 ·rcases jG.1 hx with hx|hx
  ·exact .inl (zLk _ hx)
  ·rcases s.grow x hx with hh|hh
   ·exact .inl (zLl _ hh)
   ·exact .inr hh
theorem rC.mono{b m:Nat}{A B:List Tx}{K:List Nat}{X:mF}{h:PH}{F:List Nat}(H:eO (rC b m A K) X h F)(hs:∀a∈B,a∈A):eO (rC b m B K) X h F:=by
 obtain⟨Fa,Fb,rfl,⟨rfl,B'⟩,HX,hd⟩:=H;exact⟨_,Fb,rfl,⟨rfl,B'.mono hs⟩,HX,hd⟩
theorem aLl{b m:Nat}{K Fd:List Nat}(hd:∀x∈b::m::K,x∉Fd):∀x∈Fd,x∉[b,m]:=λx hx hm=>by
 simp only[gL,kJ,or_false] at hm;rcases hm with rfl|rfl
 ·exact hd _ (by simp) hx
 ·exact hd _ (by simp) hx
theorem aYt{s:Ch}(w:s.DOk){p:Pk}(hr:p.right=true):(p.f==1-s.id)=!(p.f==s.id):=by
 obtain⟨h1,h2,-⟩:=Pk.right_iff.1 hr;have:=w.id;rw[zLm];simp only[beq_iff_eq,Bool.not_eq_true',beq_eq_false_iff_ne,ne_eq];omega
noncomputable def aJH(s:Ch)(p:Pk)(pf:Tx)(x:Int):Int:=qZ s (tM s p pf x)
theorem aUx(s:Ch)(p:Pk)(pf:Tx)(x:Int):aJH s p pf x=if s.st.height=18446744073709551615 then 12 else if (p.right&&(p.f==1-s.id))=false then 1 else if ¬IntKind.u64.wrap ((s.st.height:Int)+1)<p.t then 10 else if (gI s.st.now (fS 114 p.s.toNat)).isSome=true then 4 else if (kN s.cl x).isSome=false then 11 else if aCH (pS s.cl x) pf (fS 99 p.s.toNat) (mL p)=false then 9 else if ¬s.st.now.length+2≤4096 then 2 else 0:=by
 unfold aJH qZ tM;by_cases c0:s.st.height=18446744073709551615
 ·rw[if_pos c0,if_pos c0]
 ·rw[if_neg c0,if_neg c0];generalize (p.right&&(p.f==1-s.id))=b1;generalize aCH (pS s.cl x) pf (fS 99 p.s.toNat) (mL p)=b2;generalize (kN s.cl x).isSome=b3;generalize (gI s.st.now (fS 114 p.s.toNat)).isSome=b4;by_cases c2:IntKind.u64.wrap ((s.st.height:Int)+1)<p.t<;>by_cases c3:s.st.now.length+2≤4096<;>cases b1<;>cases b2<;>cases b3<;>cases b4<;>simp[zD,c2,c3]
theorem aMy(l:List gV)(x:Int):(kN l x).getD ⟨#[]⟩=tx (pS l x):=by
 unfold pS;exact(aIY _).symm
theorem aUb{h:PH}{c b m:Nat}{s:Ch}{n:Nat}{A:List Tx}{K F:List Nat}(H:eO (rC b m A K) (DC c b s n) h F)(w:s.DOk)(hn:n≤10000){p:Pk}(pw:p.wf){pf:Tx}(hpf:pf.length≤1000000){x:Nat}(hx:x<18446744073709551616){k:cD}
  (hbad:aJH s p pf (x:Int)≠0->∀h',eO (rC b m A K) (DC c b s n) h' F->iX h F h' F->k (.int .i64 (aJH s p pf (x:Int))) h')
  (hok:aJH s p pf (x:Int)=0->∀h' F',eO (rC b m ((aFl p++(aF9 pf++oX p))++A) K) (DC c b (s.received p) (n+1)) h' F'->iX h F h' F'->k (.int .i64 0) h'):
  aT PG yS #[pT c 0,p.v,.string (tx pf),.int .u64 (x:Int)] h k:=by
 apply oI.call;unfold oI;have gX:∀s n,mA (DC c b s n):=λ_ _=>DC.good _ _ _ _;have gW:mA (eO (rC b m A K) (DC c b s n)):=(rC.good _ _ _ _).star (gX _ _);obtain⟨Fd,Hd,HB,eF,hdis⟩:=aEg H;subst eF;obtain⟨sp,cp,bv,nv,P⟩:=id Hd;have offd:=aLl hdis;obtain⟨q,hq⟩:=zLn pw.1;have hq2:q<18446744073709551616:=by have:=pw.2.1;omega
 have hqn:p.s.toNat=q:=by omega
 intro r1 hr1
 try rw[cZ]
 have u1:dD h (h.set r1 (.cells (Value.cells p.v) aR)):=cU.new hr1;have X1:Bx (h.set r1 (.cells (Value.cells p.v) aR)) r1 p.cells:=Bx.new;generalize h.set r1 (.cells (Value.cells p.v) aR)=h1 at *;have P1:=mS.good.ext P u1;have lp:∀{h':PH},dD h1 h'->cE PG h' (loadAt aR (pT r1 0))=some p.v:=λu=>(X1.ext u).pk rfl;have lf:∀{h':PH},dD h1 h'->cE PG h' (loadAt bT (pT r1 0))=some (.int .i64 p.f):=λu=>by rw[bT.load,(X1.ext u).cell];rfl
 have ls:∀{h':PH},Bx h' r1 p.cells->cE PG h' (loadAt cA (pT r1 1))=some (.int .u64 (q:Int)):=λX=>by rw[cA.load,X.cell,←hq];rfl
 have lt:∀{h':PH},dD h1 h'->cE PG h' (loadAt cA (pT r1 2))=some (.int .u64 p.t):=λu=>by rw[cA.load,(X1.ext u).cell];rfl
 have no:∀{h3:PH} (e:Int),dD h1 h3->aJH s p pf (x:Int)=e->e≠0->k (.int .i64 e) h3:=fun {h3} e u3 he hne=>by
  have:=hbad (by rw[he];exact hne) h3 (gW.ext H (u1.trans u3)) (iX.ext (u1.trans u3));rw[he] at this;exact this
 have hse:=aUx s p pf (x:Int);obtain⟨Fs1,⟨G1,S1,-⟩,-,-⟩:=P1.fSt;simp only[cQ.f2,fJ,dl2 P1.cell,cG,reduceIte,cT,Nat.reduceAdd];refine aCu S1 ?_;by_cases c0:s.st.height=18446744073709551615
 ·have q0:((s.st.height:Int)==18446744073709551615)=true:=by rw[c0];rfl
  rw[if_pos c0] at hse;simp only[iA,q0,cG,reduceIte,cT,Nat.reduceAdd];exact no 12 cU.refl hse (by decide)
 have q0:((s.st.height:Int)==18446744073709551615)=false:=by rw[beq_eq_false_iff_ne];omega
 rw[if_neg c0] at hse;simp only[iA,q0,lp cU.refl,cG,reduceIte,cT,Nat.reduceAdd];refine aHq p pw.1 pw.2.2.1 λh2 u2=>?_;have P2:=mS.good.ext P1 u2;cases hr:p.right with
 | false=>
  rw[hr,wM,if_pos rfl] at hse;simp only[cG,reduceIte,cT,Nat.reduceAdd];exact no 1 u2 hse (by decide)
 | true=>
  rw[hr,zLp,aYt w hr] at hse;cases hf:p.f==s.id with
  | true=>
   rw[hf,Bool.not_true,if_pos rfl] at hse;simp only[aR.f0,cQ.f1,fJ,lf u2,dl1 P2.cell,iA,hf,cG,reduceIte,cT,Nat.reduceAdd];exact no 1 u2 hse (by decide)
  | false=>
   rw[hf,zLq,if_neg (by decide)] at hse;obtain⟨Fs2,⟨G2,S2,-⟩,-,-⟩:=P2.fSt;simp only[aR.f0,aR.f2,cQ.f1,cQ.f2,fJ,lf u2,lt u2,dl1 P2.cell,dl2 P2.cell,iA,hf,cG,reduceIte,cT,Nat.reduceAdd];refine aCu S2 ?_;refine⟨lt u2,?_⟩;by_cases c2:IntKind.u64.wrap ((s.st.height:Int)+1)<p.t
   case neg=>
    have g:(p.t≤IntKind.u64.wrap ((s.st.height:Int)+1))=True:=eq_true (by omega);rw[if_pos c2] at hse;simp only[g,cG,reduceIte,cT,Nat.reduceAdd];exact no 10 u2 hse (by decide)
   have g:(p.t≤IntKind.u64.wrap ((s.st.height:Int)+1))=False:=eq_false (by omega);rw[if_neg (by simpa using c2)] at hse;have q114:({data:=#[114]}:ByteArray)=tx [114]:=rfl;have q99:({data:=#[99]}:ByteArray)=tx [99]:=rfl;have q97:({data:=#[97]}:ByteArray)=tx [97]:=rfl;simp only[g,cQ.f2,aR.f1,fJ,dl2 P2.cell,ls (X1.ext u2),q114,cG,reduceIte,cT,Nat.reduceAdd];refine aAG (c:=114) (n:=q) hq2 λh3 u3=>?_;have u13:=u2.trans u3;have P3:=mS.good.ext P2 u3;obtain⟨Fs3,⟨G3,S3,-⟩,-,-⟩:=P3.fSt;refine⟨dl2 P3.cell,?_⟩;refine aQK S3 _ ?_;rw[hqn] at hse;cases hg:(gI s.st.now (fS 114 q)).isSome with
   | true=>
    rw[hg,if_pos rfl] at hse;simp only[cG,reduceIte,cT,Nat.reduceAdd];exact no 4 u13 hse (by decide)
   | false=>
    rw[hg,if_neg (by decide)] at hse;obtain⟨Fc,KR,-,-⟩:=P3.fCl;simp only[cQ.f3,fJ,dl3 P3.cell,cG,reduceIte,cT,Nat.reduceAdd];refine aKc KR (by have:=w.few;omega) (x:Int) ?_;rw[aMy];cases hro:(kN s.cl (x:Int)).isSome with
    | false=>
     rw[hro,if_pos rfl] at hse;simp only[cG,reduceIte,cT,Nat.reduceAdd];exact no 11 u13 hse (by decide)
    | true=>
     rw[hro,if_neg (by decide)] at hse;simp only[cQ.f0,aR.f1,fJ,dl0 P3.cell,ls (X1.ext u13),lp u13,q99,cG,reduceIte,cT,Nat.reduceAdd];refine aAG (c:=99) (n:=q) hq2 λh4 u4=>?_;have u14:=u13.trans u4;have P4:=mS.good.ext P3 u4;refine⟨lp u14,dl0 P4.cell,dl0 P4.cell,?_⟩;refine aKN (HB.ext (u1.trans u14)) pw λh5 B5 u5=>?_;have P5:=mS.good.upd P4 u5 offd;refine⟨dl0 P5.cell,?_⟩;refine aRm B5 (by omega) λh6 B6 u6=>?_;have P6:=mS.good.upd P5 u6 offd;have u46:cU [b,m] h4 h6:=u5.trans u6;have B6':Bk b m ((aF9 pf++oX p)++A) K h6:=B6.mono λa ha=>by
      simp only[jG] at ha ⊢;rcases ha with(ha|ha)|ha
      ·exact .inl ha
      ·exact .inr (.inl ha)
      ·exact .inr (.inr ha)
     obtain⟨W6,s6⟩:=aG4 (gX s n) (gW.ext H (u1.trans u14)) B6' u46;have sh6:=(iX.ext (F:=(b::m::K)++Fd) (u1.trans u14)).trans s6;have n1b:r1∉[b,m]:=(dZ.one hr1).off (HB.known b (by simp)) (HB.known m (by simp)) r1 (by simp);have X6:=(X1.ext u14).upd u46 n1b;have nX:r1∉Fd:=λhm=>(gX s n).known Hd _ hm hr1;have no2:∀(e:Int),aJH s p pf (x:Int)=e->e≠0->k (.int .i64 e) h6:=λe he hne=>by
      have:=hbad (by rw[he];exact hne) h6 (rC.mono W6 λa ha=>by simp[ha]) sh6;rw[he] at this;exact this
     cases hh:aCH (pS s.cl (x:Int)) pf (fS 99 q) (mL p) with
     | false=>
      rw[hh,if_pos rfl] at hse;simp only[cG,reduceIte,cT,Nat.reduceAdd];exact no2 9 hse (by decide)
     | true=>
      rw[hh,if_neg (by decide)] at hse;simp only[cG,reduceIte,cT,Nat.reduceAdd];refine aQr (s:=s) (n:=n) (b:=b) ⟨sp,cp,bv,nv,P6⟩ 2 (by decide) ?_;by_cases c3:s.st.now.length+2≤4096
      case neg=>
       have q3:=decide_eq_false c3;rw[if_pos c3] at hse;simp only[q3,cG,reduceIte,cT,Nat.reduceAdd];exact no2 2 hse (by decide)
      have q3:=decide_eq_true c3;rw[if_neg (by simpa using c3)] at hse;have hok:=hok hse;simp only[q3,cQ.f2,aR.f1,fJ,dl2 P6.cell,ls X6,q114,cG,reduceIte,cT,Nat.reduceAdd];refine aAG (c:=114) (n:=q) hq2 λh7 u7=>?_;have P7:=mS.good.ext P6 u7;refine⟨dl2 P7.cell,?_⟩;have t1:({data:=#[1]}:ByteArray)=tx [1]:=rfl;rw[t1];refine aOB P7 (by rw[wH];decide) (by rw[wH];decide) (by decide) (λhh=>by omega) λh8 F8 P8 s8=>?_;obtain⟨X8,nX8⟩:=zC (X6.ext u7) nX s8;have l8:cE PG h8 (loadAt aR (pT r1 0))=some p.v:=X8.pk rfl
      -- the book's turn
      obtain⟨W8,sW8⟩:=aG6 (X':=DC c b (s.put (fS 114 q) [1]) n) (B6'.ext u7) hdis ⟨sp,cp,bv,nv,P8⟩ s8;obtain⟨F8',Hd8,B8,eF8,hdis8⟩:=aEg W8;have eF8':F8'=F8:=(List.append_cancel_left eF8).symm;subst eF8';have hfit:(mW s.st.now ⟨fS 114 q,[1]⟩).length≤s.st.now.length+1:=by
       unfold mW;rw[jR,uW];have hpar:∀L:List Pr,(L.filter λq'=>decide (q'.k<fS 114 q)).length+(L.filter λq'=>decide (fS 114 q<q'.k)).length≤L.length:=λL=>by
        induction L with
        | nil=>simp
        | cons y L ih=>
         simp only[List.filter_cons];by_cases c1:y.k<fS 114 q
         ·have c2:¬fS 114 q<y.k:=List.lt_asymm c1;simp only[c1,c2,decide_true,decide_false,if_true,zLt,if_false,uW];omega
         ·by_cases c2:fS 114 q<y.k
          ·simp only[c1,c2,decide_true,decide_false,if_true,zLt,if_false,uW];omega
          ·simp only[c1,c2,decide_false,zLt,if_false,uW];omega
       have:=hpar s.st.now;show(s.st.now.filter λq'=>decide (q'.k<fS 114 q)).length+((s.st.now.filter λq'=>decide (fS 114 q<q'.k)).length+1)≤_;omega
      simp only[cQ.f0,cQ.f2,aR.f1,fJ,dl2 P8.cell,dl0 P8.cell,ls X8,l8,q97,cG,reduceIte,cT,Nat.reduceAdd];refine aAG (c:=97) (n:=q) hq2 λh9 u9=>?_;have P9:=mS.good.ext P8 u9;have X9:=X8.ext u9;have l9:cE PG h9 (loadAt aR (pT r1 0))=some p.v:=X9.pk rfl;refine⟨l9,dl0 P9.cell,dl2 P9.cell,?_⟩;refine aNP (B8.ext u9) pw λh10 B10 u10=>?_;have P10:=mS.good.upd P9 u10 (aLl hdis8);obtain⟨W10,s10⟩:=aG4 (gX _ n) (((rC.good _ _ _ _).star (gX _ n)).ext W8 u9) B10 u10;have X10:=X9.upd u10 n1b;refine⟨dl2 P10.cell,?_⟩;refine aOB (s:=s.put (fS 114 q) [1]) P10 (by rw[wH];decide) (by rw[wH];decide) (aQN _) (λhh=>?_) λh11 F11 P11 s11=>?_
      ·have h2:4096≤(mW s.st.now ⟨fS 114 q,[1]⟩).length:=hh.2;omega
      obtain⟨X11,nX11⟩:=zC X10 nX8 s11;have l11:cE PG h11 (loadAt aR (pT r1 0))=some p.v:=X11.pk rfl;simp only[l11,cG,reduceIte,cT,Nat.reduceAdd];refine aJ9 (s:=(s.put (fS 114 q) [1]).put (fS 97 q) (aBo p)) (n:=n) (b:=b) ⟨sp,cp,bv,nv,P11⟩ hn 2 p λh12 F12 P12 s12=>?_;have hdis10:=hdis8;obtain⟨W12,sW12⟩:=aG6 (X':=DC c b (s.received p) (n+1)) B10 hdis10 (by
       unfold Ch.received;rw[hqn];exact P12) (s11.trans s12)
      refine hok h12 _ (rC.mono W12 λa ha=>?_) ?_
      ·simp only[jG] at ha ⊢;rcases ha with(ha|ha|ha)|ha
       ·exact .inl ha
       ·exact .inr (.inl (.inl ha))
       ·exact .inr (.inl (.inr ha))
       ·exact .inr (.inr ha)
      ·exact(((sh6.trans (iX.ext u7)).trans sW8).trans (iX.ext u9)).trans (s10.trans sW12)
noncomputable def aC5(s:Ch)(p:Pk):Int:=qZ s [(1,p.right&&(p.f==s.id)),(3,oW s p)]
theorem aPn(s:Ch)(p:Pk):aC5 s p=if s.st.height=18446744073709551615 then 12 else if (p.right&&(p.f==s.id))=false then 1 else if oW s p=false then 3 else 0:=by
 unfold aC5 qZ;by_cases c0:s.st.height=18446744073709551615
 ·rw[if_pos c0,if_pos c0]
 ·rw[if_neg c0,if_neg c0];generalize (p.right&&(p.f==s.id))=b1;generalize oW s p=b2;cases b1<;>cases b2<;>simp[zD]
theorem aNh(s:Ch)(p:Pk)(l:List (Int×Bool)):jH s p l=if aC5 s p=0 then zD l else aC5 s p:=by
 unfold jH aC5 qZ;by_cases c0:s.st.height=18446744073709551615
 ·rw[if_pos c0,if_pos c0];rfl
 ·rw[if_neg c0,if_neg c0];generalize (p.right&&(p.f==s.id))=b1;generalize oW s p=b2;cases b1<;>cases b2<;>simp[zD]
theorem aPy{h:PH}{c b m:Nat}{s:Ch}{n:Nat}{A:List Tx}{K F:List Nat}{sp cp:Nat}{bv nv:Value}(HB:Bk b m A K h)(P:mS c (s.dcells b sp cp bv nv) sp s.st cp s.cl bv nv n h F){p:Pk}(pw:p.wf){k:cD}
  (hk:∀h',Bk b m ((if aC5 s p=0 then oX p else [])++A) K h'->cU [b,m] h h'->k (.int .i64 (aC5 s p)) h'):
  aT PG rQ #[pT c 0,p.v] h k:=by
 apply oJ.call;unfold oJ;obtain⟨q,hq⟩:=zLn pw.1;have hq2:q<18446744073709551616:=by have:=pw.2.1;omega
 have hqn:p.s.toNat=q:=by omega
 intro r1 hr1
 try rw[cZ]
 have u1:dD h (h.set r1 (.cells (Value.cells p.v) aR)):=cU.new hr1;have X1:Bx (h.set r1 (.cells (Value.cells p.v) aR)) r1 p.cells:=Bx.new;generalize h.set r1 (.cells (Value.cells p.v) aR)=h1 at *;have P1:=mS.good.ext P u1;have lp:∀{h':PH},dD h1 h'->cE PG h' (loadAt aR (pT r1 0))=some p.v:=λu=>(X1.ext u).pk rfl;have lf:∀{h':PH},dD h1 h'->cE PG h' (loadAt bT (pT r1 0))=some (.int .i64 p.f):=λu=>by rw[bT.load,(X1.ext u).cell];rfl
 have ls:∀{h':PH},dD h1 h'->cE PG h' (loadAt cA (pT r1 1))=some (.int .u64 (q:Int)):=λu=>by rw[cA.load,(X1.ext u).cell,←hq];rfl
 have hse:=aPn s p;have no:∀{h3:PH} (e:Int),dD h1 h3->aC5 s p=e->e≠0->k (.int .i64 e) h3:=fun {h3} e u3 he hne=>by
  have:=hk h3 (by rw[if_neg (by rw[he];exact hne)];exact HB.ext (u1.trans u3)) (u1.trans u3).upd;rw[he] at this;exact this
 obtain⟨Fs1,⟨G1,S1,-⟩,-,-⟩:=P1.fSt;simp only[cQ.f2,fJ,dl2 P1.cell,cG,reduceIte,cT,Nat.reduceAdd];refine aCu S1 ?_;by_cases c0:s.st.height=18446744073709551615
 ·have q0:((s.st.height:Int)==18446744073709551615)=true:=by rw[c0];rfl
  rw[if_pos c0] at hse;simp only[iA,q0,cG,reduceIte,cT,Nat.reduceAdd];exact no 12 cU.refl hse (by decide)
 have q0:((s.st.height:Int)==18446744073709551615)=false:=by rw[beq_eq_false_iff_ne];omega
 rw[if_neg c0] at hse;simp only[iA,q0,lp cU.refl,cG,reduceIte,cT,Nat.reduceAdd];refine aHq p pw.1 pw.2.2.1 λh2 u2=>?_;have P2:=mS.good.ext P1 u2;cases hr:p.right with
 | false=>
  rw[hr,wM,if_pos rfl] at hse;simp only[cG,reduceIte,cT,Nat.reduceAdd];exact no 1 u2 hse (by decide)
 | true=>
  rw[hr,zLp] at hse;cases hf:p.f==s.id with
  | false=>
   rw[hf,if_pos rfl] at hse;have hf':(p.f !=s.id)=true:=by rw[bne,hf];rfl
   simp only[aR.f0,cQ.f1,fJ,lf u2,dl1 P2.cell,kK,hf',cG,reduceIte,cT,Nat.reduceAdd];exact no 1 u2 hse (by decide)
  | true=>
   rw[hf,if_neg (by decide)] at hse;have hf':(p.f !=s.id)=false:=by rw[bne,hf];rfl
   have q99:({data:=#[99]}:ByteArray)=tx [99]:=rfl;simp only[aR.f0,aR.f1,cQ.f1,cQ.f2,fJ,lf u2,ls u2,dl1 P2.cell,dl2 P2.cell,kK,hf',q99,cG,reduceIte,cT,Nat.reduceAdd];refine aAG (c:=99) (n:=q) hq2 λh3 u3=>?_;have u13:=u2.trans u3;have P3:=mS.good.ext P2 u3;obtain⟨Fs3,⟨G3,S3,-⟩,-,-⟩:=P3.fSt;refine⟨dl2 P3.cell,?_⟩;refine aQK S3 _ ?_;have hsp:oW s p=match gI s.st.now (fS 99 q) with|some y=>decide (y.v=mL p)|none=>false:=by unfold oW;rw[hqn];rfl
   cases hg:gI s.st.now (fS 99 q) with
   | none=>
    rw[hg] at hsp;rw[hsp,if_pos rfl] at hse;simp only[zLu,cG,reduceIte,cT,Nat.reduceAdd];exact no 3 u13 hse (by decide)
   | some y=>
    rw[hg] at hsp;simp only[aMe,aH7,aH8,cQ.f0,fJ,dl0 P3.cell,lp u13,cG,reduceIte,cT,Nat.reduceAdd];refine aKN (HB.ext (u1.trans u13)) pw λh4 B4 u4=>?_;have hu:cU [b,m] h h4:=(u1.trans u13).upd.trans u4;by_cases he:y.v=mL p
    ·have hsp':oW s p=true:=by rw[hsp];exact decide_eq_true he
     rw[hsp',if_neg (by decide)] at hse;have d1:(!decide (y.v=mL p))=false:=by rw[decide_eq_true he];rfl
     simp only[aDS,d1,cG,reduceIte,cT,Nat.reduceAdd];have:=hk h4 (by rw[if_pos hse];exact B4) hu;rw[hse] at this;exact this
    ·have hsp':oW s p=false:=by rw[hsp];exact decide_eq_false he
     rw[hsp',if_pos rfl] at hse;have d1:(!decide (y.v=mL p))=true:=by rw[decide_eq_false he];rfl
     simp only[aDS,d1,cG,reduceIte,cT,Nat.reduceAdd];have:=hk h4 (by rw[if_neg (by rw[hse];decide)];exact B4.mono λa ha=>zLl _ ha) hu;rw[hse] at this;exact this
theorem aZI(s:Ch)(p:Pk)(pf:Tx)(x:Int):zD (xK s p pf x)=if (kN s.cl x).isSome=false then 11 else if aCH (pS s.cl x) pf (fS 97 p.s.toNat) (aBo p)=false then 9 else 0:=by
 unfold xK;generalize (kN s.cl x).isSome=b1;generalize aCH (pS s.cl x) pf (fS 97 p.s.toNat) (aBo p)=b2;cases b1<;>cases b2<;>simp[zD]
theorem aYy(s:Ch)(p:Pk)(pf:Tx)(x:Int):zD (qO s p pf x)=if (kN s.cl x).isSome=false then 11 else if ¬IntKind.u64.wrap (p.t-1)≤x then 11 else if aCY (pS s.cl x) pf (fS 114 p.s.toNat)=false then 9 else 0:=by
 unfold qO;generalize (kN s.cl x).isSome=b1;generalize aCY (pS s.cl x) pf (fS 114 p.s.toNat)=b2;by_cases c:IntKind.u64.wrap (p.t-1)≤x<;>cases b1<;>cases b2<;>simp[zD,c]
theorem aOw{s:Ch}{p:Pk}(h:oW s p=true):(gI s.st.now (fS 99 p.s.toNat)).isSome=true:=by
 unfold oW at h;cases hg:gI s.st.now (fS 99 p.s.toNat) with
 | none=>rw[hg] at h;cases h
 | some y=>rfl
theorem aOr{s:Ch}{p:Pk}(h:aC5 s p=0):oW s p=true∧p.right=true∧p.f=s.id:=by
 rw[aPn] at h;split at h
 ·simp at h
 ·split at h
  ·simp at h
  ·rename_i h1;split at h
   ·simp at h
   ·rename_i h2;simp only[Bool.not_eq_false,yB,beq_iff_eq] at h1 h2;exact⟨h2,h1⟩
theorem aWA{h:PH}{c b m:Nat}{s:Ch}{n:Nat}{A:List Tx}{K F:List Nat}(H:eO (rC b m A K) (DC c b s n) h F)(w:s.DOk)(hn:n≤10000){p:Pk}(pw:p.wf){pf:Tx}(hpf:pf.length≤1000000){x:Nat}(hx:x<18446744073709551616){k:cD}
  (hbad:jH s p (xK s p pf (x:Int))≠0->∀h',eO (rC b m A K) (DC c b s n) h' F->iX h F h' F->k (.int .i64 (jH s p (xK s p pf (x:Int)))) h')
  (hok:jH s p (xK s p pf (x:Int))=0->∀h' F',eO (rC b m ((aF9 pf++(aFl p++oX p))++A) K) (DC c b (s.settled 3 p) (n+1)) h' F'->iX h F h' F'->k (.int .i64 0) h'):
  aT PG zP #[pT c 0,p.v,.string (tx pf),.int .u64 (x:Int)] h k:=by
 apply pC.call;unfold pC;have gX:∀s n,mA (DC c b s n):=λ_ _=>DC.good _ _ _ _;have gW:mA (eO (rC b m A K) (DC c b s n)):=(rC.good _ _ _ _).star (gX _ _);obtain⟨Fd,Hd,HB,eF,hdis⟩:=aEg H;subst eF;obtain⟨sp,cp,bv,nv,P⟩:=id Hd;have offd:=aLl hdis;obtain⟨q,hq⟩:=zLn pw.1;have hq2:q<18446744073709551616:=by have:=pw.2.1;omega
 have hqn:p.s.toNat=q:=by omega
 intro r1 hr1
 try rw[cZ]
 have u1:dD h (h.set r1 (.cells (Value.cells p.v) aR)):=cU.new hr1;have X1:Bx (h.set r1 (.cells (Value.cells p.v) aR)) r1 p.cells:=Bx.new;generalize h.set r1 (.cells (Value.cells p.v) aR)=h1 at *;have P1:=mS.good.ext P u1;have n1b:r1∉[b,m]:=(dZ.one hr1).off (HB.known b (by simp)) (HB.known m (by simp)) r1 (by simp);have nX:r1∉Fd:=λhm=>(gX s n).known Hd _ hm hr1;have lp:∀{h':PH},Bx h' r1 p.cells->cE PG h' (loadAt aR (pT r1 0))=some p.v:=λX=>X.pk rfl;have ls:∀{h':PH},Bx h' r1 p.cells->cE PG h' (loadAt cA (pT r1 1))=some (.int .u64 (q:Int)):=λX=>by rw[cA.load,X.cell,←hq];rfl
 have hse:=aNh s p (xK s p pf (x:Int));have stepOf:∀{h3:PH} {A':List Tx},Bk b m A' K h3->cU [b,m] h1 h3->(∀a∈A,a∈A')->eO (rC b m A K) (DC c b s n) h3 ((b::m::K)++Fd)∧iX h ((b::m::K)++Fd) h3 ((b::m::K)++Fd):=fun {h3 A'} B3 u3 hs=>by
  obtain⟨W3,s3⟩:=aG4 (gX s n) (gW.ext H u1) B3 u3;exact⟨rC.mono W3 hs,(iX.ext u1).trans s3⟩
 have no:∀{h3:PH} {A':List Tx} (e:Int),Bk b m A' K h3->cU [b,m] h1 h3->(∀a∈A,a∈A')->jH s p (xK s p pf (x:Int))=e->e≠0->k (.int .i64 e) h3:=fun {h3 A'} e B3 u3 hs he hne=>by
  obtain⟨W3,s3⟩:=stepOf B3 u3 hs;have:=hbad (by rw[he];exact hne) h3 W3 s3;rw[he] at this;exact this
 simp only[lp X1,cG,reduceIte,cT,Nat.reduceAdd];refine aPy (s:=s) (n:=n) (HB.ext u1) P1 pw λh2 B2 u2=>?_;have P2:=mS.good.upd P1 u2 offd;have X2:=X1.upd u2 n1b;by_cases hm:aC5 s p=0
 case neg=>
  have q0:(aC5 s p !=0)=true:=by rw[bne_iff_ne];exact hm
  rw[if_neg hm] at hse;simp only[kK,q0,cG,reduceIte,cT,Nat.reduceAdd];exact no _ B2 u2 (λa ha=>zLl _ ha) hse hm
 have q0:(aC5 s p !=0)=false:=by rw[hm];rfl
 rw[if_pos hm] at B2 hse;rw[aZI,hqn] at hse;obtain⟨Fc,KR,-,-⟩:=P2.fCl;simp only[kK,q0,cQ.f3,fJ,dl3 P2.cell,cG,reduceIte,cT,Nat.reduceAdd];refine aKc KR (by have:=w.few;omega) (x:Int) ?_;rw[aMy];cases hro:(kN s.cl (x:Int)).isSome with
 | false=>
  rw[hro,if_pos rfl] at hse;simp only[cG,reduceIte,cT,Nat.reduceAdd];exact no 11 B2 u2 (λa ha=>zLl _ ha) hse (by decide)
 | true=>
  rw[hro,if_neg (by decide)] at hse;have q97:({data:=#[97]}:ByteArray)=tx [97]:=rfl;have q99:({data:=#[99]}:ByteArray)=tx [99]:=rfl;simp only[cQ.f0,aR.f1,fJ,dl0 P2.cell,ls X2,lp X2,q97,cG,reduceIte,cT,Nat.reduceAdd];refine aAG (c:=97) (n:=q) hq2 λh4 u4=>?_;have P4:=mS.good.ext P2 u4;have X4:=X2.ext u4;refine⟨lp X4,dl0 P4.cell,dl0 P4.cell,?_⟩;refine aNP (B2.ext u4) pw λh5 B5 u5=>?_;have P5:=mS.good.upd P4 u5 offd;refine⟨dl0 P5.cell,?_⟩;refine aRm B5 (by omega) λh6 B6 u6=>?_;have P6:=mS.good.upd P5 u6 offd;have u16:cU [b,m] h1 h6:=((u2.trans u4.upd).trans u5).trans u6;have X6:Bx h6 r1 p.cells:=X1.upd u16 n1b;have hsub:∀a∈A,a∈aF9 pf++(aFl p++(oX p++A)):=λa ha=>by simp[ha]
  cases hh:aCH (pS s.cl (x:Int)) pf (fS 97 q) (aBo p) with
  | false=>
   rw[hh,if_pos rfl] at hse;simp only[cG,reduceIte,cT,Nat.reduceAdd];exact no 9 B6 u16 hsub hse (by decide)
  | true=>
   rw[hh,if_neg (by decide)] at hse;have hok:=hok hse;obtain⟨-,sh6⟩:=stepOf B6 u16 hsub;simp only[cQ.f2,aR.f1,fJ,dl2 P6.cell,ls X6,q99,cG,reduceIte,cT,Nat.reduceAdd];refine aAG (c:=99) (n:=q) hq2 λh7 u7=>?_;have P7:=mS.good.ext P6 u7;refine⟨dl2 P7.cell,?_⟩;refine aRj P7 (by have:=aOw (aOr hm).1;rw[hqn] at this;exact this) λh8 F8 P8 s8=>?_;obtain⟨X8,nX8⟩:=zC (X6.ext u7) nX s8;simp only[lp X8,cG,reduceIte,cT,Nat.reduceAdd];refine aJ9 (s:=s.del (fS 99 q)) (n:=n) (b:=b) ⟨sp,cp,bv,nv,P8⟩ hn 3 p λh9 F9 P9 s9=>?_;obtain⟨W9,sW9⟩:=aG6 (X':=DC c b (s.settled 3 p) (n+1)) (B6.ext u7) hdis (by
    unfold Ch.settled;rw[hqn];exact P9) (s8.trans s9)
   refine hok h9 _ (rC.mono W9 λa ha=>?_) ((sh6.trans (iX.ext u7)).trans sW9);simp only[jG] at ha ⊢;rcases ha with(ha|ha|ha)|ha
   ·exact .inl ha
   ·exact .inr (.inl ha)
   ·exact .inr (.inr (.inl ha))
   ·exact .inr (.inr (.inr ha))
theorem aQv{h:PH}{c b m:Nat}{s:Ch}{n:Nat}{A:List Tx}{K F:List Nat}(H:eO (rC b m A K) (DC c b s n) h F)(w:s.DOk)(hn:n≤10000){p:Pk}(pw:p.wf){pf:Tx}(hpf:pf.length≤1000000){x:Nat}(hx:x<18446744073709551616){k:cD}
  (hbad:jH s p (qO s p pf (x:Int))≠0->∀h',eO (rC b m A K) (DC c b s n) h' F->iX h F h' F->k (.int .i64 (jH s p (qO s p pf (x:Int)))) h')
  (hok:jH s p (qO s p pf (x:Int))=0->∀h' F',eO (rC b m ((aIJ pf (fS 114 p.s.toNat)++oX p)++A) K) (DC c b (s.settled 4 p) (n+1)) h' F'->iX h F h' F'->k (.int .i64 0) h'):
  aT PG vG #[pT c 0,p.v,.string (tx pf),.int .u64 (x:Int)] h k:=by
 apply mQ.call;unfold mQ;have gX:∀s n,mA (DC c b s n):=λ_ _=>DC.good _ _ _ _;have gW:mA (eO (rC b m A K) (DC c b s n)):=(rC.good _ _ _ _).star (gX _ _);obtain⟨Fd,Hd,HB,eF,hdis⟩:=aEg H;subst eF;obtain⟨sp,cp,bv,nv,P⟩:=id Hd;have offd:=aLl hdis;obtain⟨q,hq⟩:=zLn pw.1;have hq2:q<18446744073709551616:=by have:=pw.2.1;omega
 have hqn:p.s.toNat=q:=by omega
 intro r1 hr1
 try rw[cZ]
 have u1:dD h (h.set r1 (.cells (Value.cells p.v) aR)):=cU.new hr1;have X1:Bx (h.set r1 (.cells (Value.cells p.v) aR)) r1 p.cells:=Bx.new;generalize h.set r1 (.cells (Value.cells p.v) aR)=h1 at *;have P1:=mS.good.ext P u1;have n1b:r1∉[b,m]:=(dZ.one hr1).off (HB.known b (by simp)) (HB.known m (by simp)) r1 (by simp);have nX:r1∉Fd:=λhm=>(gX s n).known Hd _ hm hr1;have lp:∀{h':PH},Bx h' r1 p.cells->cE PG h' (loadAt aR (pT r1 0))=some p.v:=λX=>X.pk rfl;have ls:∀{h':PH},Bx h' r1 p.cells->cE PG h' (loadAt cA (pT r1 1))=some (.int .u64 (q:Int)):=λX=>by rw[cA.load,X.cell,←hq];rfl
 have lt:∀{h':PH},Bx h' r1 p.cells->cE PG h' (loadAt cA (pT r1 2))=some (.int .u64 p.t):=λX=>by rw[cA.load,X.cell];rfl
 have hse:=aNh s p (qO s p pf (x:Int));have stepOf:∀{h3:PH} {A':List Tx},Bk b m A' K h3->cU [b,m] h1 h3->(∀a∈A,a∈A')->eO (rC b m A K) (DC c b s n) h3 ((b::m::K)++Fd)∧iX h ((b::m::K)++Fd) h3 ((b::m::K)++Fd):=fun {h3 A'} B3 u3 hs=>by
  obtain⟨W3,s3⟩:=aG4 (gX s n) (gW.ext H u1) B3 u3;exact⟨rC.mono W3 hs,(iX.ext u1).trans s3⟩
 have no:∀{h3:PH} {A':List Tx} (e:Int),Bk b m A' K h3->cU [b,m] h1 h3->(∀a∈A,a∈A')->jH s p (qO s p pf (x:Int))=e->e≠0->k (.int .i64 e) h3:=fun {h3 A'} e B3 u3 hs he hne=>by
  obtain⟨W3,s3⟩:=stepOf B3 u3 hs;have:=hbad (by rw[he];exact hne) h3 W3 s3;rw[he] at this;exact this
 simp only[lp X1,cG,reduceIte,cT,Nat.reduceAdd];refine aPy (s:=s) (n:=n) (HB.ext u1) P1 pw λh2 B2 u2=>?_;have P2:=mS.good.upd P1 u2 offd;have X2:=X1.upd u2 n1b;by_cases hm:aC5 s p=0
 case neg=>
  have q0:(aC5 s p !=0)=true:=by rw[bne_iff_ne];exact hm
  rw[if_neg hm] at hse;simp only[kK,q0,cG,reduceIte,cT,Nat.reduceAdd];exact no _ B2 u2 (λa ha=>zLl _ ha) hse hm
 have q0:(aC5 s p !=0)=false:=by rw[hm];rfl
 rw[if_pos hm] at B2 hse;rw[aYy,hqn] at hse;rw[hqn] at hok;obtain⟨Fc,KR,-,-⟩:=P2.fCl;simp only[kK,q0,cQ.f3,fJ,dl3 P2.cell,cG,reduceIte,cT,Nat.reduceAdd];refine aKc KR (by have:=w.few;omega) (x:Int) ?_;rw[aMy];cases hro:(kN s.cl (x:Int)).isSome with
 | false=>
  rw[hro,if_pos rfl] at hse;simp only[cG,reduceIte,cT,Nat.reduceAdd];exact no 11 B2 u2 (λa ha=>zLl _ ha) hse (by decide)
 | true=>
  rw[hro,if_neg (by decide)] at hse;by_cases c2:IntKind.u64.wrap (p.t-1)≤(x:Int)
  case neg=>
   have g:((x:Int)<IntKind.u64.wrap (p.t-1))=True:=eq_true (by omega);rw[if_pos c2] at hse;simp only[aR.f2,fJ,lt X2,g,cG,reduceIte,cT,Nat.reduceAdd];exact no 11 B2 u2 (λa ha=>zLl _ ha) hse (by decide)
  have g:((x:Int)<IntKind.u64.wrap (p.t-1))=False:=eq_false (by omega);rw[if_neg (by simpa using c2)] at hse;have q114:({data:=#[114]}:ByteArray)=tx [114]:=rfl;have q99:({data:=#[99]}:ByteArray)=tx [99]:=rfl;simp only[aR.f1,aR.f2,cQ.f0,fJ,lt X2,g,dl0 P2.cell,ls X2,q114,cG,reduceIte,cT,Nat.reduceAdd];refine aAG (c:=114) (n:=q) hq2 λh4 u4=>?_;have P4:=mS.good.ext P2 u4;refine⟨dl0 P4.cell,?_⟩;refine aSq (B2.ext u4) (by omega) λh6 B6 u6=>?_;have P6:=mS.good.upd P4 u6 offd;have u16:cU [b,m] h1 h6:=(u2.trans u4.upd).trans u6;have X6:Bx h6 r1 p.cells:=X1.upd u16 n1b;have hsub:∀a∈A,a∈aIJ pf (fS 114 q)++(oX p++A):=λa ha=>by simp[ha]
  cases hh:aCY (pS s.cl (x:Int)) pf (fS 114 q) with
  | false=>
   rw[hh,if_pos rfl] at hse;simp only[cG,reduceIte,cT,Nat.reduceAdd];exact no 9 B6 u16 hsub hse (by decide)
  | true=>
   rw[hh,if_neg (by decide)] at hse;have hok:=hok hse;obtain⟨-,sh6⟩:=stepOf B6 u16 hsub;simp only[cQ.f2,aR.f1,fJ,dl2 P6.cell,ls X6,q99,cG,reduceIte,cT,Nat.reduceAdd];refine aAG (c:=99) (n:=q) hq2 λh7 u7=>?_;have P7:=mS.good.ext P6 u7;refine⟨dl2 P7.cell,?_⟩;refine aRj P7 (by have:=aOw (aOr hm).1;rw[hqn] at this;exact this) λh8 F8 P8 s8=>?_;obtain⟨X8,nX8⟩:=zC (X6.ext u7) nX s8;simp only[lp X8,cG,reduceIte,cT,Nat.reduceAdd];refine aJ9 (s:=s.del (fS 99 q)) (n:=n) (b:=b) ⟨sp,cp,bv,nv,P8⟩ hn 4 p λh9 F9 P9 s9=>?_;obtain⟨W9,sW9⟩:=aG6 (X':=DC c b (s.settled 4 p) (n+1)) (B6.ext u7) hdis (by
    unfold Ch.settled;rw[hqn];exact P9) (s8.trans s9)
   refine hok h9 _ (rC.mono W9 λa ha=>?_) ((sh6.trans (iX.ext u7)).trans sW9);simp only[jG] at ha ⊢;rcases ha with(ha|ha)|ha
   ·exact .inl ha
   ·exact .inr (.inl ha)
   ·exact .inr (.inr ha)
theorem aYI:jM PG (buildSlice eR 0 #[])=some (.cells #[] dR,λr=>pure (.slice (some ⟨r,0,none⟩) 0 0)):=by kernel_rfl
theorem aUw:Rows 1 ([]:List (List Value)):=λr hr=>by cases hr
theorem aP7(v:Value):Rows 1 [[v]]:=λr hr=>by simp only[fU] at hr;subst hr;rfl
theorem aUA{h:PH}{c b:Nat}{s:Ch}{n:Nat}{F:List Nat}(H:DC c b s n h F)(hn:n≤10000){kk:cD}
  (hk:∀h' F',DC c b s.committed (n+1) h' F'->iX h F h' F'->kk (.tuple #[.int .u64 ((jV s.st).2.1:Int),.int .i64 (jV s.st).2.2]) h'):aT PG wA #[pT c 0] h kk:=by
 apply nH.call;unfold nH vD;obtain⟨sp,cp,bv,nv,P⟩:=H;simp only[cQ.f2,fJ,dl2 P.cell,cG,reduceIte,cT,Nat.reduceAdd];obtain⟨Fs,⟨G,S,rfl⟩,hFs,back⟩:=P.fSt;refine aWb S λh1 G1 S1 u1 g1=>?_;obtain⟨F2,P2,s2⟩:=back (rsA sp (jV s.st).1) h1 (sp::G1) ⟨G1,S1,rfl⟩ ⟨u1.mono λx hx=>.inl (by simp only[fU] at hx;simp[hx]),λx hx=>by
  rcases gL.1 hx with rfl|hx
  ·exact .inl (by simp)
  ·rcases g1 x hx with hx|hx
   ·exact .inl (by simp[hx])
   ·exact .inr hx⟩
 unfold Ch.committed at hk;by_cases he:(jV s.st).2.2=0
 case neg=>
  have q:((jV s.st).2.2==0)=false:=by simpa using he
  rw[if_neg he] at hk;simp only[iA,q,cG,reduceIte,cT,Nat.reduceAdd];refine hk h1 F2 (DC.mono (n:=n) ⟨sp,cp,bv,nv,?_⟩ (vF n)) s2;rw[aBl he] at P2;exact P2
 have q:((jV s.st).2.2==0)=true:=by simpa using he
 rw[if_pos he] at hk;have P2:mS c (s.dcells b sp cp bv nv) sp (jV s.st).1 cp s.cl bv nv n h1 F2:=P2;obtain⟨Ft,⟨Fb,Fn,rfl,⟨rows,Ob,lb,cb⟩,⟨ns,On,ln⟩,hd⟩,hFt,back2⟩:=P2.fTwo;obtain⟨na,nc,env,-⟩:=On.slR.here;rw[iU] at env;simp only[iA,q,cQ.f5,cQ.f6,fJ,dl5 P2.cell,dl6 P2.cell,aYI,cG,reduceIte,cT,Nat.reduceAdd];intro r15 hr15;refine fL ?_
 try rw[cZ]
 have u3:dD h1 (h1.set r15 (.cells #[] dR)):=cU.new hr15;have O3:eD (h1.set r15 (.cells #[] dR)) dR 1 (.slice (some ⟨r15,0,none⟩) 0 0) ([]:List (List Value)) [r15]:=eD.lit (n:=0) aUw dM (by simp) (by decide) rfl;have P3:=mS.good.ext P2 u3;generalize h1.set r15 (.cells #[] dR)=h3 at *;refine jF eR.und eR.und dR.info dR.size dR.bytes dR.zero rfl (by decide) O3 (Ob.ext u3).slR cb (by simp only[zLM];omega) ?_;intro v4 h4 F4 O4 u4 k4 _;rw[xZ] at O4;have e14:dD h1 h4:=u3.fresh u4 (dZ.one hr15);have f4:dZ h1 F4:=λx hx=>by
  rcases k4 x hx with hx|hx
  ·simp only[fU] at hx;subst hx;exact hr15
  ·exact u3.none hx
 have P4:=mS.good.ext P2 e14;refine⟨dl6 P4.cell,?_⟩;rw[env];simp only[aRZ,cG,reduceIte,cT,Nat.reduceAdd];rw[←env];intro r21 hr21;refine fL ?_
 try rw[cZ]
 have u5:dD h4 (h4.set r21 (.cells #[nv] dR)):=cU.new hr21;have s5:fR (h4.set r21 (.cells #[nv] dR)) 1 (.slice (some ⟨r21,0,none⟩) 1 1) [[nv]]:=(eD.lit (n:=1) (aP7 nv) dM (by simp) (by decide) (by simp)).slR;generalize h4.set r21 (.cells #[nv] dR)=h5 at *;refine jF eR.und eR.und dR.info dR.size dR.bytes dR.zero rfl (by decide) (O4.ext u5) s5 (λr hr u hu=>by
  simp only[fU] at hr;subst hr;simp only[fU] at hu;subst hu;exact On.slR.isc) (by simp only[zLS];omega) ?_
 intro v6 h6 F6 O6 u6 k6 _;have e16:dD h1 h6:=(e14.trans u5).fresh u6 f4;have f6:dZ h1 F6:=f4.grow (e14.trans u5) k6;have B6:boA v6 (n+1) h6 F6:=⟨rows++[[nv]],O6,by simp;omega,λr hr u hu=>by
  rcases jG.1 hr with hr|hr
  ·exact cb r hr u hu
  ·simp only[fU] at hr;subst hr;simp only[fU] at hu;subst hu;exact On.slR.isc⟩
 have W6:eO (boA v6 (n+1)) (noA nv (n+1)) h6 (F6++Fn):=eO.mk B6 ⟨ns,On.ext e16,by omega⟩ (λx hx hx5=>On.known x hx5 (f6 x hx));obtain⟨F7,P7,s7⟩:=back2 _ h6 _ W6 ⟨e16.upd,λx hx=>by
  rcases jG.1 hx with hx|hx
  ·exact .inr (f6 x hx)
  ·exact .inl (by simp[hx])⟩
 have P7:mS c (s.dcells b sp cp bv nv) sp (jV s.st).1 cp s.cl v6 nv (n+1) h6 F7:=P7;obtain⟨Fx,⟨rfl,X7⟩,hFx,back3⟩:=P7.fBox;refine eR.put X7 (o:=5) (by show 5<7;decide) O6.slR.isc λh8 X8 u8=>?_;have X8:Bx h8 c (s.dcells b sp cp v6 nv):=X8;refine dR.put X8 (o:=6) (by show 6<7;decide) rfl λh9 X9 u9=>?_;have X9:Bx h9 c (s.dcells b sp cp v6 (.slice none 0 0)):=X9;obtain⟨F10,P10,s10⟩:=back3 (vT c (s.dcells b sp cp v6 (.slice none 0 0))) h9 [c] ⟨rfl,X9⟩ ⟨u8.trans u9,λx hx=>.inl hx⟩;obtain⟨F11,Fr,eF,hx,⟨G1',G2',eG,y1,⟨G3,G4,eG2,y2,⟨G5,G6,eG3,y3,⟨ns',On',ln'⟩,d5⟩,d3⟩,d1⟩,dx⟩:=P10;refine hk h9 (F11++(G1'++(G3++(G5++[])))) ⟨sp,cp,v6,.slice none 0 0,F11,_,rfl,hx,⟨G1',_,rfl,y1,⟨G3,_,rfl,y2,⟨G5,[],rfl,y3,⟨[],eD.nil,by simp⟩,by simp⟩,?_⟩,?_⟩,?_⟩ ?_
 ·subst eG3;intro x hx1 hx2;exact d3 x hx1 (by simp at hx2;simp[hx2])
 ·subst eG2;subst eG3;intro x hx1 hx2;exact d1 x hx1 (by simp at hx2;rcases hx2 with hx2|hx2<;>simp[hx2])
 ·subst eG;subst eG2;subst eG3;intro x hx1 hx2;exact dx x hx1 (by simp at hx2;rcases hx2 with hx2|hx2|hx2<;>simp[hx2])
 ·have st:=(s2.trans s7).trans s10;refine⟨st.upd,λx hx=>st.grow x ?_⟩;rw[eF,eG,eG2,eG3];simp at hx ⊢;rcases hx with hx|hx|hx|hx<;>simp[hx]
theorem aTc{h:PH}{c b m:Nat}{s:Ch}{n:Nat}{A:List Tx}{K F:List Nat}{sp cp:Nat}{bv nv:Value}(HB:Bk b m A K h)(P:mS c (s.dcells b sp cp bv nv) sp s.st cp s.cl bv nv n h F)(offd:∀x∈F,x∉[b,m])(key:Tx){x:Nat}(hx:x<18446744073709551616){kk:cD}
  (hk:∀h',Bk b m A K h'->cU [b,m] h h'->kk (.tuple #[.string (tx (uE s.st key x).1),.int .i64 (uE s.st key x).2]) h'):aT PG xH #[pT c 0,.string (tx key),.int .u64 (x:Int)] h kk:=by
 apply tW.call;unfold tW;have hst:=P.okst;simp only[cQ.f2,fJ,dl2 P.cell,cG,reduceIte,cT,Nat.reduceAdd];obtain⟨Fs,⟨G,S,eFs⟩,hFs,-⟩:=P.fSt;have q0:({data:=#[]}:ByteArray)=tx []:=rfl;unfold uE at hk;have kb:=HB.known b (by simp);have km:=HB.known m (by simp);refine aTI S x hx (λe=>?_) (λl v e B1 hv=>?_)
 ·rw[e] at hk;have q:((3:Int) !=0)=true:=by decide
  simp only[kK,q,q0,cG,reduceIte,cT,Nat.reduceAdd];exact hk h HB cU.refl
 ·rw[e] at hk;simp only at hk;have M:=hst.mok e;have ov:Off b m v:=λa n c ev=>offd _ (hFs _ (by rw[eFs];simp[hv a n c ev]));simp only[kK,cQ.f0,fJ,dl0 P.cell,cG,reduceIte,cT,Nat.reduceAdd]
  -- the end
  have fin:∀{h4:PH} {ab:Bool} {v4:Value} {r:Nat},cU [b,m] h h4->Bk b m A K h4->Bx h4 r [.bool ab,v4]->nK h h4 v4 (jN l key).lv->ab=(jN l key).ab->(∀h',Bk b m A K h'->cU [b,m] h h'->kk (.tuple #[.string (tx (kY (jN l key)).1),.int .i64 (kY (jN l key)).2]) h')->mC kk (.int .i64 0) (pT r 0) h4:=by
   intro h4 ab v4 r u4 HB4 B4 L4 eab hk;unfold mC;have l4:cE PG h4 (loadAt cC (pT r 0))=some (Pf.val ab v4):=cC.agg B4 (by show 0+2≤2;decide);simp only[kK,l4,cG,reduceIte,cT,Nat.reduceAdd];obtain⟨l5,F',el,O,-,L⟩:=L4.here;have epf:(⟨ab,l5.map (·.1)⟩:Pf)=jN l key:=by rw[el,eab]
   have hpf:=aLO M key;refine aO0 O.slR L.lfs (by
    have:l5.length=(jN l key).lv.length:=by rw[←el];simp
    have:=hpf.1;omega) λh5 u5=>?_
   rw[epf];simp only[cG,reduceIte,cT,Nat.reduceAdd];exact hk h5 (HB4.ext u5) (u4.trans u5.upd)
  refine aQ5 HB M B1 ov (λhno h2 HB2 u2=>?_) (λhyes h2 v2 HB2 L2 u2=>?_)
  ·have hns:(gI l key).isSome=false:=by rw[hno];rfl
   rw[hns] at hk;simp only[zLt,if_false] at hk;simp only[cG,reduceIte,cT,Nat.reduceAdd];intro r14 hr14
   try rw[cZ]
   have n14:h r14=none:=u2.grow2 (HB2.known b (by simp)) (HB2.known m (by simp)) hr14;have n14b:r14∉[b,m]:=λhm=>by
    simp only[gL,kJ,or_false] at hm;rcases hm with rfl|rfl
    ·exact kb n14
    ·exact km n14
   refine cC.fill (vs:=[.bool false,.slice none 0 0]) hr14 rfl (by simp[eP]) λh3 B3 u3=>?_;have q:((3:Int) !=0)=true:=by decide
   have e3:=u2.trans u3.upd;have P3:=mS.good.upd P e3 offd;simp only[kK,q,cQ.f0,fJ,dl0 P3.cell,cG,reduceIte,cT,Nat.reduceAdd];have B13:=B1.upd e3 (λa n c ev=>ov a n c ev);have bad:∀{h4:PH} {e:Int},cU [b,m] h3 h4->Bk b m A K h4->e≠0->(∀h',Bk b m A K h'->cU [b,m] h h'->kk (.tuple #[.string (tx []),.int .i64 e]) h')->cY PG (dJ cC (pT r14 0) (Pf.val false (.slice none 0 0))) h4 λv23 h24=>mC kk (.int .i64 e) (pT r14 0) h24:=by
    intro h4 e u4 HB4 hne hk;refine cC.put (vs:=[.bool false,.slice none 0 0]) (B3.upd u4 n14b) (o:=0) rfl (by show 0+2≤2;decide) (by simp[eP]) λh5 B5 u5=>?_;unfold mC;have q:(e !=0)=true:=by simpa using hne
    simp only[kK,q,q0,cG,reduceIte,cT,Nat.reduceAdd];refine hk h5 (HB4.upd u5 λy hy hm=>?_) (cU.then (e3.trans u4) u5 (λy hy=>by simp only[fU] at hy;subst hy;exact .inr n14));simp only[fU] at hm;subst hm;exact HB.known _ hy n14
   refine aR9 (HB2.ext u3) M B13 ov (λhb h4 HB4 u4=>?_) (λ_ hs h4 HB4 u4=>?_) (λhb _ h4 v4 HB4 L4 u4=>?_)
   ·rw[if_neg hb] at hk;simp only[cG,reduceIte,cT,Nat.reduceAdd];exact bad u4 HB4 (by decide) hk
   ·rw[hns] at hs;cases hs
   ·rw[if_pos hb] at hk;simp only[cG,reduceIte,cT,Nat.reduceAdd];refine cC.put (vs:=[.bool true,v4]) (B3.upd u4 n14b) (o:=0) rfl (by show 0+2≤2;decide) (by
     have:=L4.isc;simp[eP];exact this) λh5 B5 u5=>?_
    have hab:(jN l key).ab=true:=by
     unfold jN;rw[if_neg (by rw[hns];decide)];split
     ·rfl
     ·split
      ·rfl
      ·split<;>rfl
    have L5:nK h3 h5 v4 (jN l key).lv:=L4.upd u5 (λb hb=>by simp only[fU] at hb;rw[hb];exact B3.known);have L5':nK h h5 v4 (jN l key).lv:=by
     obtain⟨l',F',el,O,f,L⟩:=L5.here;have HB3:=HB2.ext u3;refine⟨l',F',el,O,λy hy=>e3.grow2 (HB3.known b (by simp)) (HB3.known m (by simp)) (f y hy),λy hy=>?_⟩;obtain⟨G',y1,y2,y3⟩:=L y hy;exact⟨G',y1,λz hz=>e3.grow2 (HB3.known b (by simp)) (HB3.known m (by simp)) (y2 z hz),y3⟩
    refine fin (cU.then (e3.trans u4) u5 (λy hy=>by simp only[fU] at hy;subst hy;exact .inr n14)) (HB4.upd u5 λy hy hm=>?_) B5 L5' hab.symm hk;simp only[fU] at hm;subst hm;exact HB.known _ hy n14
  ·rw[hyes] at hk;simp only[if_true] at hk;simp only[cG,reduceIte,cT,Nat.reduceAdd];intro r14 hr14
   try rw[cZ]
   refine cC.fill (vs:=[.bool false,v2]) hr14 rfl (by
    have:=L2.isc;simp[eP];exact this) λh3 B3 u3=>?_
   have epf:jN l key=⟨false,[kD l (gT l key)]⟩:=by unfold jN;rw[if_pos hyes]
   exact fin (u2.trans u3.upd) (HB2.ext u3) B3 (by rw[epf];exact L2.upd u3 (λb hb=>by cases hb)) (by rw[epf]) hk
theorem aML(p:Pf):(kY p).1.length≤3000:=by
 unfold kY;split
 ·rename_i h;obtain⟨h1,h2⟩:=h;rw[aDO] at h2;show(aAt p).length≤3000;have hl:∀l:List Lf,(∀f∈l,f.okb=true)->(lF l).length≤1000*l.length:=λl=>by
   induction l with
   | nil=>intro _;simp[lF]
   | cons f l ih=>
    intro hh;have a:=aPr (Lf.ok_iff.1 (hh f (by simp)));have b:=ih λy hy=>hh y (by simp[hy]);simp only[lF,jR,uW];omega
  have:=hl p.lv h2;unfold aAt;simp only[jR,iD];omega
 ·simp
theorem aSO(s:St)(key:Tx)(x:Nat):(uE s key x).1.length≤3000:=by
 unfold uE;split
 ·simp
 ·split
  ·exact aML _
  ·split
   ·exact aML _
   ·simp
theorem aUB(o:Ch){a:jK}(h:a.d.length≤1000000):(lS o a).length≤1000000:=by
 unfold lS;split
 ·have:=aSO o.st (aIy a) a.h;omega
 ·exact h
noncomputable def doA(c o:Ch)(a:jK):List Tx:=
 if a.kind=0 then(if rD c a.d a.h=0 then oX (jW c a.d a.h) else [])
 else if a.kind=1 then(match oO o.st a.h with
  | none=>[]
  | some b=>rU b)
 else if a.kind=2 then(if qZ c (tM c a.p (lS o a) (a.h:Int))=0 then aFl a.p++(aF9 (lS o a)++oX a.p) else [])
 else if a.kind=3 then(if jH c a.p (xK c a.p (lS o a) (a.h:Int))=0 then aF9 (lS o a)++(aFl a.p++oX a.p) else [])
 else if a.kind=4 then(if jH c a.p (qO c a.p (lS o a) (a.h:Int))=0 then aIJ (lS o a) (fS 114 a.p.s.toNat)++oX a.p else [])
 else []
theorem aVd{h:PH}{c b:Nat}{s:Ch}{n:Nat}{F:List Nat}{sp cp:Nat}{bv nv:Value}(P:mS c (s.dcells b sp cp bv nv) sp s.st cp s.cl bv nv n h F)(w:s.cl.length≤4096)(x:Int)(root:Tx){kk:cD}
  (hk:∀h' F',mS c ((s.told x root).dcells b sp cp bv nv) sp (s.told x root).st cp (s.told x root).cl bv nv n h' F'->iX h F h' F'->kk (.int .i64 (aAS s.cl ⟨x,tx root⟩).1) h'):aT PG rS #[pT cp 0,.int .u64 x,.string (tx root)] h kk:=by
 obtain⟨Fc,C,hFc,back⟩:=P.fCl;have ea:cp∈Fc:=by
  obtain⟨v,G,-,-,eF,-⟩:=(C:xI h cp s.cl Fc);rw[eF];simp
 refine aWH C w ⟨x,tx root⟩ λh1 F1 C1 u1 g1=>?_;obtain⟨F2,P2,s2⟩:=back (krA cp (aAS s.cl ⟨x,tx root⟩).2) h1 F1 C1 ⟨u1.mono λy hy=>.inl (by
  simp only[fU] at hy;subst hy;exact ea),g1⟩
 exact hk h1 F2 P2 s2
theorem aXq{a b:ByteArray}(h:a.data.toList=b.data.toList):a=b:=by
 rw[←aIY a,←aIY b,h]
theorem Pk.bs_inj{p q:Pk}(hp:p.right=true)(hq:q.right=true)(wp:p.wf)(wq:q.wf)(h:p.bs=q.bs):p=q:=by
 obtain⟨a1,a2,-,-,a5⟩:=Pk.right_iff.1 hp;obtain⟨b1,b2,-,-,b5⟩:=Pk.right_iff.1 hq;unfold Pk.bs at h;obtain⟨h1,h⟩:=List.append_inj h (by rw[iD,iD]);obtain⟨h2,h⟩:=List.append_inj h (by rw[iD,iD]);obtain⟨h3,h⟩:=List.append_inj h (by rw[iD,iD]);obtain⟨h4,h5⟩:=List.append_inj h (by rw[iD,iD]);have e1:=congrArg val h1;rw[aLv,aLv,aCZ (show p.f.toNat<256^1 by omega),aCZ (show q.f.toNat<256^1 by omega)] at e1;have w1:=wp.1;have w2:=wp.2.1;have w3:=wp.2.2.1;have w4:=wp.2.2.2;have v1:=wq.1;have v2:=wq.2.1;have v3:=wq.2.2.1;have v4:=wq.2.2.2;have e2:=aLy (by omega) (by omega) h2;have e3:=aLy (by omega) (by omega) h3;obtain⟨pf,ps,pt,pd⟩:=p;obtain⟨qf,qs,qt,qd⟩:=q;have e5:pd=qd:=aXq h5;simp only at e1 e2 e3 w1 w3 v1 v3 a1 b1;rw[e5,show pf=qf by omega,show ps=qs by omega,show pt=qt by omega]
theorem aMc{c d:UInt8}{n m:Nat}(hn:n<18446744073709551616)(hm:m<18446744073709551616)(h:fS c n=fS d m):c=d∧n=m:=by
 unfold fS at h;simp only[kW] at h;exact⟨h.1,aLy hn hm h.2⟩
theorem aIS{c d:UInt8}{n m:Nat}(h:c≠d):fS c n≠fS d m:=λe=>by
 unfold fS at e;simp only[kW] at e;exact h e.1
def aFt(st:St)(P:Pr->Prop):Prop:=(∀q∈st.now,P q)∧∀b∈st.blocks,∀q∈b,P q
def aKo(st:St)(k v:Tx):St:={st with now:=mW st.now ⟨k,v⟩}
def aPa(st:St)(k:Tx):St:={st with now:=uI st.now k}
theorem aFt.mono{st:St}{P Q:Pr->Prop}(H:aFt st P)(h:∀q,P q->Q q):aFt st Q:=⟨λq hq=>h q (H.1 q hq),λb hb q hq=>h q (H.2 b hb q hq)⟩
theorem aFt.put{st:St}{P:Pr->Prop}(H:aFt st P){k v:Tx}(h:P ⟨k,v⟩):aFt (aKo st k v) P:=⟨λq hq=>by
 rcases sJ.1 hq with rfl|⟨hq,-⟩
 ·exact h
 ·exact H.1 q hq,H.2⟩
theorem aFt.del{st:St}{P:Pr->Prop}(H:aFt st P)(k:Tx):aFt (aPa st k) P:=⟨λq hq=>H.1 q (zL1.1 hq).1,H.2⟩
theorem aFt.com{st:St}{P:Pr->Prop}(H:aFt st P):aFt (jV st).1 P:=by
 by_cases he:(jV st).2.2=0
 ·rw[(aCl he).1];refine⟨H.1,λb hb=>?_⟩;rcases jG.1 hb with hb|hb
  ·exact H.2 b hb
  ·simp only[fU] at hb;subst hb;exact H.1
 ·rw[aBl he];exact H
theorem aRW{st:St}{x:Nat}{b:List Pr}(h:oO st x=some b):b∈st.blocks:=rA (aJx h).2
theorem aQM{st:St}{x:Nat}{b:List Pr}(h:oO st x=some b):x≤st.height:=by
 have:=(aJx h).1;omega
theorem aRF{st:St}(ok:st.Ok)(he:(jV st).2.2=0)(x:Nat):oO (jV st).1 x=if x=st.height+1 then some st.now else oO st x:=by
 rw[(aCl he).1];have h1:=ok.h1;have h3:=ok.h3;unfold oO;simp only[jR,zLS];by_cases c:x=st.height+1
 ·rw[if_pos c,if_neg (by omega),show st.blocks.length+1-1-(st.height+1-x)=st.blocks.length by omega];simp
 ·rw[if_neg c];by_cases d:st.height<x∨st.blocks.length≤st.height-x
  ·rw[if_pos d,if_pos (by omega)]
  ·rw[if_neg d,if_neg (by omega),show st.blocks.length+1-1-(st.height+1-x)=st.blocks.length-1-(st.height-x) by omega,List.getElem?_append_left (by omega)]
theorem aMm{st:St}(ok:st.Ok){x:Nat}{b:List Pr}(h:oO st x=some b):oO (jV st).1 x=some b:=by
 by_cases he:(jV st).2.2=0
 ·have:=aQM h;rw[aRF ok he,if_neg (by omega)];exact h
 ·rw[aBl he];exact h
theorem aRs(st:St):st.height≤(jV st).1.height:=by
 by_cases he:(jV st).2.2=0
 ·rw[(aCl he).1];exact vF _
 ·rw[aBl he];exact oM _
def aIm(st:St)(k:Tx)(t:Int):Prop:=(∃q∈st.now,q.k=k)∧∀x b,oO st x=some b->t≤(x:Int)+1->∃q∈b,q.k=k
theorem aIm.put{st:St}{k:Tx}{t:Int}(H:aIm st k t)(k' v:Tx):aIm (aKo st k' v) k t:=by
 obtain⟨q,hq,e⟩:=H.1;refine⟨?_,H.2⟩;by_cases c:q.k=k'
 ·exact⟨⟨k',v⟩,sJ.2 (.inl rfl),by rw[←c];exact e⟩
 ·exact⟨q,sJ.2 (.inr ⟨hq,c⟩),e⟩
theorem aIm.del{st:St}{k:Tx}{t:Int}(H:aIm st k t){k':Tx}(hk:k'≠k):aIm (aPa st k') k t:=by
 obtain⟨q,hq,e⟩:=H.1;exact⟨⟨q,zL1.2 ⟨hq,by simp only[ne_eq,decide_eq_true_eq];rw[e];exact hk.symm⟩,e⟩,H.2⟩
theorem aIm.com{st:St}(ok:st.Ok){k:Tx}{t:Int}(H:aIm st k t):aIm (jV st).1 k t:=by
 by_cases he:(jV st).2.2=0
 ·refine⟨by rw[(aCl he).1];exact H.1,λx b hx ht=>?_⟩;rw[aRF ok he] at hx;split at hx
  ·cases hx;exact H.1
  ·exact H.2 x b hx ht
 ·rw[aBl he];exact H
theorem aOE(c:Ch)(p:Pk):(c.sent p).st=aKo c.st (fS 99 c.seq) (mL p)∧(c.sent p).cl=c.cl∧(c.sent p).id=c.id:=⟨rfl,rfl,rfl⟩
theorem aJd(c:Ch)(p:Pk):(c.received p).st=aKo (aKo c.st (fS 114 p.s.toNat) [1]) (fS 97 p.s.toNat) (aBo p)∧(c.received p).cl=c.cl∧(c.received p).id=c.id:=⟨rfl,rfl,rfl⟩
theorem aGJ(c:Ch)(k:Int)(p:Pk):(c.settled k p).st=aPa c.st (fS 99 p.s.toNat)∧(c.settled k p).cl=c.cl∧(c.settled k p).id=c.id:=⟨rfl,rfl,rfl⟩
theorem uF(c:Ch):c.committed.st=(jV c.st).1∧c.committed.cl=c.cl∧c.committed.id=c.id:=by
 unfold Ch.committed;by_cases he:(jV c.st).2.2=0
 ·rw[if_pos he];exact⟨rfl,rfl,rfl⟩
 ·rw[if_neg he];exact⟨(aBl he).symm,rfl,rfl⟩
theorem aF7(c o:Ch)(a:jK):
  (a.kind=0∧rD c a.d a.h=0∧(kC c o a).1=c.sent (jW c a.d a.h)∧(kC c o a).2=(jW c a.d a.h,0,0)∧doA c o a=oX (jW c a.d a.h))∨
  (a.kind=1∧∃b,oO o.st a.h=some b∧(kC c o a).1=c.told (a.h:Int) (lB b)∧doA c o a=rU b)∨
  (a.kind=2∧qZ c (tM c a.p (lS o a) (a.h:Int))=0∧(kC c o a).1=c.received a.p∧(kC c o a).2.2.2=0∧doA c o a=aFl a.p++(aF9 (lS o a)++oX a.p))∨
  (a.kind=3∧jH c a.p (xK c a.p (lS o a) (a.h:Int))=0∧(kC c o a).1=c.settled 3 a.p∧(kC c o a).2.2.2=0∧doA c o a=aF9 (lS o a)++(aFl a.p++oX a.p))∨
  (a.kind=4∧jH c a.p (qO c a.p (lS o a) (a.h:Int))=0∧(kC c o a).1=c.settled 4 a.p∧(kC c o a).2.2.2=0∧doA c o a=aIJ (lS o a) (fS 114 a.p.s.toNat)++oX a.p)∨
  (a.kind=5∧(kC c o a).1=c.committed)∨
  ((kC c o a).1=c∧((kC c o a).2.2.2=0->a.kind<0∨5<a.kind)):=by
 unfold kC doA;by_cases k0:a.kind=0
 ·rw[if_pos k0,if_pos k0];by_cases e:rD c a.d a.h=0
  ·rw[if_pos e,if_pos e];exact .inl ⟨k0,e,rfl,rfl,rfl⟩
  ·rw[if_neg e];exact .inr (.inr (.inr (.inr (.inr (.inr ⟨rfl,λh=>absurd h e⟩)))))
 rw[if_neg k0,if_neg k0];by_cases k1:a.kind=1
 ·rw[if_pos k1,if_pos k1];cases hs:oO o.st a.h with
  | none=>exact .inr (.inr (.inr (.inr (.inr (.inr ⟨rfl,λh=>by simp at h⟩)))))
  | some b=>exact .inr (.inl ⟨k1,b,rfl,rfl,rfl⟩)
 rw[if_neg k1,if_neg k1];by_cases k2:a.kind=2
 ·rw[if_pos k2,if_pos k2];by_cases e:qZ c (tM c a.p (lS o a) (a.h:Int))=0
  ·rw[if_pos e,if_pos e];exact .inr (.inr (.inl ⟨k2,e,rfl,rfl,rfl⟩))
  ·rw[if_neg e];exact .inr (.inr (.inr (.inr (.inr (.inr ⟨rfl,λh=>absurd h e⟩)))))
 rw[if_neg k2,if_neg k2];by_cases k3:a.kind=3
 ·rw[if_pos k3,if_pos k3];by_cases e:jH c a.p (xK c a.p (lS o a) (a.h:Int))=0
  ·rw[if_pos e,if_pos e];exact .inr (.inr (.inr (.inl ⟨k3,e,rfl,rfl,rfl⟩)))
  ·rw[if_neg e];exact .inr (.inr (.inr (.inr (.inr (.inr ⟨rfl,λh=>absurd h e⟩)))))
 rw[if_neg k3,if_neg k3];by_cases k4:a.kind=4
 ·rw[if_pos k4,if_pos k4];by_cases e:jH c a.p (qO c a.p (lS o a) (a.h:Int))=0
  ·rw[if_pos e,if_pos e];exact .inr (.inr (.inr (.inr (.inl ⟨k4,e,rfl,rfl,rfl⟩))))
  ·rw[if_neg e];exact .inr (.inr (.inr (.inr (.inr (.inr ⟨rfl,λh=>absurd h e⟩)))))
 rw[if_neg k4,if_neg k4];by_cases k5:a.kind=5
 ·rw[if_pos k5];exact .inr (.inr (.inr (.inr (.inr (.inl ⟨k5,rfl⟩)))))
 ·rw[if_neg k5];exact .inr (.inr (.inr (.inr (.inr (.inr ⟨rfl,λ_=>by omega⟩)))))
def KOk(s:Ch):Prop:=s.cl.length≤4096∧∀y∈hts s.cl,0≤y∧y<18446744073709551616
theorem aMn{l:List gV}{x y:gV}(h:y∈(aAS l x).2):y∈l∨y=x:=by
 unfold aAS at h;split at h
 ·exact .inl h
 ·split at h
  ·exact .inl h
  ·split at h
   ·exact .inl h
   ·simpa using h
theorem aU2{l:List gV}{x:gV}(h:l.length≤4096):(aAS l x).2.length≤4096:=by
 unfold aAS;split
 ·exact h
 ·split
  ·exact h
  ·split
   ·exact h
   ·simp only[jR,zLS];omega
theorem KOk.doP{c:Ch}(H:KOk c)(o:Ch){a:jK}(w:a.wf):KOk (kC c o a).1:=by
 have same:∀{c':Ch},c'.cl=c.cl->KOk c':=λe=>by unfold KOk;rw[e];exact H
 rcases aF7 c o a with⟨-,-,e,-⟩|⟨-,b,-,e,-⟩|⟨-,-,e,-⟩|⟨-,-,e,-⟩|⟨-,-,e,-⟩|⟨-,e⟩|⟨e,-⟩<;>rw[e]
 ·exact same rfl
 ·refine⟨aU2 H.1,λy hy=>?_⟩;obtain⟨z,hz,rfl⟩:=lO.1 hy;rcases aMn hz with hz|rfl
  ·exact H.2 _ (lO.2 ⟨z,hz,rfl⟩)
  ·have:=w.h;exact⟨by show(0:Int)≤(a.h:Int);omega,by show(a.h:Int)<_;omega⟩
 ·exact same rfl
 ·exact same rfl
 ·exact same rfl
 ·exact same (uF c).2.1
 ·exact H
def aPX(id:Int)(A:List Tx)(G:Pk->Prop)(q:Pr):Prop:=∀n,n<18446744073709551616->q.k=fS 97 n->∃p,G p∧p.f=id∧p.s.toNat=n∧q.v=aBo p∧p.right=true∧p.wf∧∀t∈aFl p,t∈A
structure vC(c o:Ch)(A:List Tx)(G T:Pk->Prop):Prop where
 cl:∀y∈c.cl,∃(x:Nat) (b:List Pr),y.height=(x:Int)∧oO o.st x=some b∧y.root=tx (lB b)∧∀t∈rU b,t∈A
 rk:∀p,G p->p.f=c.id->aIm o.st (fS 114 p.s.toNat) p.t
 ak:aFt o.st (aPX c.id A G)
 tm:∀p,T p->p.f=c.id->p.t≤(o.st.height:Int)+1
section
variable{c o:Ch}{A:List Tx}{G T:Pk->Prop}(H:vC c o A G T)
include H
theorem vC.asked{A':List Tx}(hs:∀t∈A,t∈A'):vC c o A' G T:=
 ⟨λy hy=>by obtain⟨x,b,h1,h2,h3,h4⟩:=H.cl y hy;exact⟨x,b,h1,h2,h3,λt ht=>hs t (h4 t ht)⟩,H.rk,H.ak.mono λq hq n hn hk=>by obtain⟨p,h1,h2,h3,h4,h5,h6,h7⟩:=hq n hn hk;exact⟨p,h1,h2,h3,h4,h5,h6,λt ht=>hs t (h7 t ht)⟩,H.tm⟩
theorem vC.left{c':Ch}(hid:c'.id=c.id)(hcl:c'.cl=c.cl):vC c' o A G T:=
 ⟨λy hy=>H.cl y (hcl▸hy),λp hp hf=>H.rk p hp (hid▸hf),by rw[hid];exact H.ak,λp hp hf=>H.tm p hp (hid▸hf)⟩
theorem vC.right{o':Ch}(hst:o'.st=o.st):vC c o' A G T:=
 ⟨λy hy=>by rw[hst];exact H.cl y hy,λp hp hf=>by rw[hst];exact H.rk p hp hf,by rw[hst];exact H.ak,λp hp hf=>by rw[hst];exact H.tm p hp hf⟩
theorem vC.gt{G' T':Pk->Prop}(hG:∀p,p.f=c.id->(G' p↔G p))(hT:∀p,p.f=c.id->(T' p↔T p)):vC c o A G' T':=
 ⟨H.cl,λp hp hf=>H.rk p ((hG p hf).1 hp) hf,H.ak.mono λq hq n hn hk=>by obtain⟨p,h1,h2,h3⟩:=hq n hn hk;exact⟨p,(hG p h2).2 h1,h2,h3⟩,λp hp hf=>H.tm p ((hT p hf).1 hp) hf⟩
theorem vC.told(x:Nat){b:List Pr}(hx:oO o.st x=some b)(hA:∀t∈rU b,t∈A):vC (c.told (x:Int) (lB b)) o A G T:=
 ⟨λy hy=>by
  rcases aMn hy with hy|rfl
  ·exact H.cl y hy
  ·exact⟨x,b,rfl,hx,rfl,hA⟩,H.rk,H.ak,H.tm⟩
theorem vC.put{o':Ch}{k v:Tx}(hst:o'.st=aKo o.st k v)(hp:aPX c.id A G ⟨k,v⟩):vC c o' A G T:=
 ⟨λy hy=>by rw[hst];exact H.cl y hy,λp hp hf=>by rw[hst];exact(H.rk p hp hf).put _ _,by rw[hst];exact H.ak.put hp,λp hp hf=>by rw[hst];exact H.tm p hp hf⟩
theorem vC.del{o':Ch}{n:Nat}(hst:o'.st=aPa o.st (fS 99 n)):vC c o' A G T:=
 ⟨λy hy=>by rw[hst];exact H.cl y hy,λp hp hf=>by rw[hst];exact(H.rk p hp hf).del (aIS (by decide)),by rw[hst];exact H.ak.del _,λp hp hf=>by rw[hst];exact H.tm p hp hf⟩
theorem vC.com(ok:o.st.Ok):vC c o.committed A G T:=by
 obtain⟨e1,-,-⟩:=uF o;refine⟨λy hy=>?_,λp hp hf=>by rw[e1];exact(H.rk p hp hf).com ok,by rw[e1];exact H.ak.com,λp hp hf=>by
  have:=H.tm p hp hf;have:=aRs o.st;rw[e1];omega⟩
 obtain⟨x,b,h1,h2,h3,h4⟩:=H.cl y hy;exact⟨x,b,h1,by rw[e1];exact aMm ok h2,h3,h4⟩
theorem vC.root{x:Nat}(hr:(kN c.cl (x:Int)).isSome=true):∃b,oO o.st x=some b∧pS c.cl (x:Int)=lB b∧∀t∈rU b,t∈A:=by
 obtain⟨r,er⟩:=Option.isSome_iff_exists.1 hr;unfold pS;rw[er];unfold kN at er;cases hf:c.cl.find? λp=>decide ((x:Int)=p.height) with
 | none=>rw[hf] at er;cases er
 | some y=>
  rw[hf] at er;simp only[aH7,zL8] at er;have hm:=List.mem_of_find?_eq_some hf;have hk:=List.find?_some hf;simp only[decide_eq_true_eq] at hk;obtain⟨x',b,h1,h2,h3,h4⟩:=H.cl y hm;have ex:x'=x:=by omega
  subst ex;refine⟨b,h2,?_,h4⟩;show(Option.getD (some r) _).data.toList=_;rw[aH8,←er,h3];rfl
end
theorem aPA{id:Int}{A:List Tx}{G:Pk->Prop}{ch:UInt8}{n:Nat}{v:Tx}(h:ch≠97):aPX id A G ⟨fS ch n,v⟩:=λm _ e=>absurd e (aIS h)
theorem aWo{t:Int}(h0:0<t)(h1:t<18446744073709551616):IntKind.u64.wrap (t-1)=t-1:=by rw[gJ (by omega) (by omega)]
def xV(a:jK)(e:Int)(G:Pk->Prop):Pk->Prop:=λp=>G p∨(e=0∧a.kind=2∧p=a.p)
def aAe(a:jK)(e:Int)(T:Pk->Prop):Pk->Prop:=λp=>T p∨(e=0∧a.kind=4∧p=a.p)
structure aQY(c o:Ch)(a:jK)(A:List Tx)(G T:Pk->Prop):Prop where
 one:vC (kC c o a).1 o A (xV a (kC c o a).2.2.2 G) (aAe a (kC c o a).2.2.2 T)
 two:vC o (kC c o a).1 A (xV a (kC c o a).2.2.2 G) (aAe a (kC c o a).2.2.2 T)
 recv:(kC c o a).2.2.2=0->a.kind=2->a.p.f=o.id∧IntKind.u64.wrap (((kC c o a).1.st.height:Int)+1)<a.p.t∧¬T a.p
 ack:(kC c o a).2.2.2=0->a.kind=3->a.p.f=c.id∧G a.p
 tim:(kC c o a).2.2.2=0->a.kind=4->a.p.f=c.id∧¬G a.p
theorem aOv{c o:Ch}{a:jK}{A:List Tx}{G T:Pk->Prop}(D1:vC c o A G T)(D2:vC o c A G T)(U:aG9 (doA c o a++A))(hid:c.id≠o.id)(hco:1-c.id=o.id)(wa:a.wf)(okc:c.st.Ok)(oko:o.st.Ok)(hs1:c.seq<18446744073709551616):aQY c o a (doA c o a++A) G T:=by
 have sub:∀t∈A,t∈doA c o a++A:=λt ht=>zLl _ ht;have D1:=D1.asked sub;have D2:=D2.asked sub;have subA:∀t∈doA c o a,t∈doA c o a++A:=λt ht=>zLk _ ht;generalize doA c o a++A=A' at *;obtain⟨w1,w2,w3,w4⟩:=wa.p;rcases aF7 c o a with⟨k0,e,e1,e2,eA⟩|⟨k1,b,e,e1,eA⟩|⟨k2,e,e1,e2,eA⟩|⟨k3,e,e1,e2,eA⟩|⟨k4,e,e1,e2,eA⟩|⟨k5,e1⟩|⟨e1,e2⟩
 ·have gg:∀p,xV a (kC c o a).2.2.2 G p↔G p:=λp=>by unfold xV;rw[k0];simp
  have tt:∀p,aAe a (kC c o a).2.2.2 T p↔T p:=λp=>by unfold aAe;rw[k0];simp
  refine⟨?_,?_,λ_ h=>by omega,λ_ h=>by omega,λ_ h=>by omega⟩
  ·rw[e1];exact(D1.left (c':=c.sent (jW c a.d a.h)) rfl rfl).gt (λp _=>gg p) (λp _=>tt p)
  ·rw[e1];exact(D2.put (o':=c.sent (jW c a.d a.h)) (aOE c _).1 (aPA (by decide))).gt (λp _=>gg p) (λp _=>tt p)
 ·have gg:∀p,xV a (kC c o a).2.2.2 G p↔G p:=λp=>by unfold xV;rw[k1];simp
  have tt:∀p,aAe a (kC c o a).2.2.2 T p↔T p:=λp=>by unfold aAe;rw[k1];simp
  refine⟨?_,?_,λ_ h=>by omega,λ_ h=>by omega,λ_ h=>by omega⟩
  ·rw[e1];exact(D1.told a.h e (λt ht=>subA t (by rw[eA];exact ht))).gt (λp _=>gg p) (λp _=>tt p)
  ·rw[e1];exact(D2.right (o':=c.told (a.h:Int) (lB b)) rfl).gt (λp _=>gg p) (λp _=>tt p)
 ·obtain⟨r1,r2,r3,r4,r5,r6,r7⟩:=aLc e;have hf:a.p.f=o.id:=by rw[r2,hco]
  have hth:=okc.h4;have hw:IntKind.u64.wrap ((c.st.height:Int)+1)=(c.st.height:Int)+1:=by rw[gJ (by omega) (by omega)]
  have ht:(c.st.height:Int)+1<a.p.t:=by rw[←hw];exact r3
  have gg:∀p,xV a (kC c o a).2.2.2 G p↔(G p∨p=a.p):=λp=>by unfold xV;rw[k2,e2];simp
  have tt:∀p,aAe a (kC c o a).2.2.2 T p↔T p:=λp=>by unfold aAe;rw[k2];simp
  have nT:¬T a.p:=λh=>by
   have:=D2.tm a.p h hf;omega
  refine⟨?_,?_,λ_ _=>⟨hf,by rw[e1];exact r3,nT⟩,λ_ h=>by omega,λ_ h=>by omega⟩
  ·rw[e1];refine(D1.left (c':=c.received a.p) rfl rfl).gt (λp hp=>?_) (λp _=>tt p);rw[gg p];constructor
   ·rintro(h|rfl)
    ·exact h
    ·exact absurd (show c.id=o.id by rw[←hf];exact hp.symm) hid
   ·exact .inl
  ·rw[e1];obtain⟨s1,s2,s3⟩:=aJd c a.p;have hn:a.p.s.toNat<18446744073709551616:=by omega
   refine⟨λy hy=>D2.cl y hy |> λ⟨x,b,h1,h2,h3,h4⟩=>⟨x,b,h1,by rw[s1];exact h2,h3,h4⟩,λp hp hpf=>?_,?_,λp hp hpf=>by rw[s1];exact D2.tm p ((tt p).1 hp) hpf⟩
   ·rw[s1];rcases (gg p).1 hp with hp|rfl
    ·exact((D2.rk p hp hpf).put _ _).put _ _
    ·have h1:aIm (aKo c.st (fS 114 a.p.s.toNat) [1]) (fS 114 a.p.s.toNat) a.p.t:=⟨⟨⟨fS 114 a.p.s.toNat,[1]⟩,sJ.2 (.inl rfl),rfl⟩,λx b hx htx=>by
      have h2:=aQM hx;have h3:x≤c.st.height:=h2;omega⟩
     exact h1.put _ _
   ·rw[s1];have base:aFt c.st (aPX o.id A' (xV a (kC c o a).2.2.2 G)):=D2.ak.mono λq hq n hn hk=>by
     obtain⟨p,h1,h2,h3⟩:=hq n hn hk;exact⟨p,(gg p).2 (.inl h1),h2,h3⟩
    refine(base.put (aPA (by decide))).put λn hn' hk=>?_;obtain⟨-,en⟩:=aMc hn hn' hk;exact⟨a.p,(gg _).2 (.inr rfl),hf,en,rfl,r1,wa.p,λt ht=>subA t (by rw[eA];simp[ht])⟩
 ·obtain⟨r1,r2,r3,r4,r5⟩:=aDf (by unfold xK;simp) e;have q1:=r4 (11,(kN c.cl (a.h:Int)).isSome) (by unfold xK;simp);have q2:=r4 (9,aCH (pS c.cl (a.h:Int)) (lS o a) (fS 97 a.p.s.toNat) (aBo a.p)) (by unfold xK;simp);simp only at q1 q2;obtain⟨b,hb,eb,hbA⟩:=D1.root q1;rw[eb] at q2;have hm:=aO1 (oko.mok hb) U (λt ht=>subA t (by rw[eA];simp[ht])) hbA q2;have hn:a.p.s.toNat<18446744073709551616:=by omega
  obtain⟨p,g1,g2,g3,g4,g5,g6,g7⟩:=D1.ak.2 b (aRW hb) _ hm _ hn rfl;have ebs:=aU5 r1 g5 U (λt ht=>subA t (by rw[eA];simp[ht])) g7 g4;have ep:a.p=p:=Pk.bs_inj r1 g5 wa.p g6 ebs;have gg:∀p,xV a (kC c o a).2.2.2 G p↔G p:=λp=>by unfold xV;rw[k3];simp
  have tt:∀p,aAe a (kC c o a).2.2.2 T p↔T p:=λp=>by unfold aAe;rw[k3];simp
  refine⟨?_,?_,λ_ h=>by omega,λ_ _=>⟨r2,by rw[ep];exact g1⟩,λ_ h=>by omega⟩
  ·rw[e1];exact(D1.left (c':=c.settled 3 a.p) rfl rfl).gt (λp _=>gg p) (λp _=>tt p)
  ·rw[e1];exact(D2.del (o':=c.settled 3 a.p) (aGJ c 3 a.p).1).gt (λp _=>gg p) (λp _=>tt p)
 ·obtain⟨r1,r2,r3,r4,r5⟩:=aDf (by unfold qO;simp) e;have q0:=r4 (11,decide (IntKind.u64.wrap (a.p.t-1)≤(a.h:Int))) (by unfold qO;simp);have q1:=r4 (11,(kN c.cl (a.h:Int)).isSome) (by unfold qO;simp);have q2:=r4 (9,aCY (pS c.cl (a.h:Int)) (lS o a) (fS 114 a.p.s.toNat)) (by unfold qO;simp);simp only[decide_eq_true_eq] at q0 q1 q2;have ht0:0<a.p.t:=by
   have:=(Pk.right_iff.1 r1).2.2.2.1;omega
  rw[aWo ht0 w4] at q0;obtain⟨b,hb,eb,hbA⟩:=D1.root q1;rw[eb] at q2;have hl:=aQ0 (oko.mok hb) U (λt ht=>subA t (by rw[eA];simp[ht])) hbA q2;have nG:¬G a.p:=λh=>by
   obtain⟨q,hq,ek⟩:=(D1.rk a.p h r2).2 a.h b hb (by omega);exact hl q hq ek
  have hle:=aQM hb;have gg:∀p,xV a (kC c o a).2.2.2 G p↔G p:=λp=>by unfold xV;rw[k4];simp
  have tt:∀p,aAe a (kC c o a).2.2.2 T p↔(T p∨p=a.p):=λp=>by unfold aAe;rw[k4,e2];simp
  refine⟨?_,?_,λ_ h=>by omega,λ_ h=>by omega,λ_ _=>⟨r2,nG⟩⟩
  ·rw[e1];have D:=D1.left (c':=c.settled 4 a.p) rfl rfl;refine⟨D.cl,λp hp hf=>D.rk p ((gg p).1 hp) hf,D.ak.mono λq hq n hn hk=>?_,λp hp hf=>?_⟩
   ·obtain⟨p,h1,h2⟩:=hq n hn hk;exact⟨p,(gg p).2 h1,h2⟩
   ·rcases (tt p).1 hp with hp|rfl
    ·exact D.tm p hp hf
    ·omega
  ·rw[e1];refine(D2.del (o':=c.settled 4 a.p) (aGJ c 4 a.p).1).gt (λp _=>gg p) (λp hp=>?_);rw[tt p];constructor
   ·rintro(h|rfl)
    ·exact h
    ·exact absurd (show c.id=o.id by rw[←hp];exact r2.symm) hid
   ·exact .inl
 ·have gg:∀p,xV a (kC c o a).2.2.2 G p↔G p:=λp=>by unfold xV;rw[k5];simp
  have tt:∀p,aAe a (kC c o a).2.2.2 T p↔T p:=λp=>by unfold aAe;rw[k5];simp
  obtain⟨s1,s2,s3⟩:=uF c;refine⟨?_,?_,λ_ h=>by omega,λ_ h=>by omega,λ_ h=>by omega⟩
  ·rw[e1];exact(D1.left s3 s2).gt (λp _=>gg p) (λp _=>tt p)
  ·rw[e1];exact(D2.com okc).gt (λp _=>gg p) (λp _=>tt p)
 ·have gg:∀p,xV a (kC c o a).2.2.2 G p↔G p:=λp=>by
   unfold xV;constructor
   ·rintro(h|⟨h1,h2,-⟩)
    ·exact h
    ·have:=e2 h1;omega
   ·exact .inl
  have tt:∀p,aAe a (kC c o a).2.2.2 T p↔T p:=λp=>by
   unfold aAe;constructor
   ·rintro(h|⟨h1,h2,-⟩)
    ·exact h
    ·have:=e2 h1;omega
   ·exact .inl
  refine⟨?_,?_,λh1 h=>by have:=e2 h1;omega,λh1 h=>by have:=e2 h1;omega,λh1 h=>by have:=e2 h1;omega⟩
  ·rw[e1];exact D1.gt (λp _=>gg p) (λp _=>tt p)
  ·rw[e1];exact D2.gt (λp _=>gg p) (λp _=>tt p)
def Ch.all(c:Ch):List Nt:=c.blk.flatten++c.nts
def cS(l:List Nt)(p:Pk):Nat:=(l.filter λn=>decide (n.k=1∧n.p=p)).length
def cR(l:List Nt)(p:Pk):Nat:=(l.filter λn=>decide (n.k=2∧n.p=p)).length
def cO(l:List Nt)(p:Pk):Nat:=(l.filter λn=>decide ((n.k≠1∧n.k≠2)∧n.p=p)).length
theorem aOH(l:List Nt)(n:Nt)(p:Pk):cS (l++[n]) p=cS l p+if n.k=1∧n.p=p then 1 else 0:=by
 unfold cS;rw[aHE,jR];congr 1;by_cases c:n.k=1∧n.p=p<;>simp[c]
theorem aWt(l:List Nt)(n:Nt)(p:Pk):cR (l++[n]) p=cR l p+if n.k=2∧n.p=p then 1 else 0:=by
 unfold cR;rw[aHE,jR];congr 1;by_cases c:n.k=2∧n.p=p<;>simp[c]
theorem aWr(l:List Nt)(n:Nt)(p:Pk):cO (l++[n]) p=cO l p+if (n.k≠1∧n.k≠2)∧n.p=p then 1 else 0:=by
 unfold cO;rw[aHE,jR];congr 1;by_cases c:(n.k≠1∧n.k≠2)∧n.p=p<;>simp[c]
theorem aWh{l:List Nt}{p:Pk}(h:∀n∈l,n.k=1->n.p≠p):cS l p=0:=by
 unfold cS;rw[List.length_eq_zero_iff,List.filter_eq_nil_iff];intro n hn;simp only[decide_eq_true_eq];exact λe=>h n hn e.1 e.2
theorem aWB{l:List Nt}{p:Pk}(h:∀n∈l,n.k=2->n.p≠p):cR l p=0:=by
 unfold cR;rw[List.length_eq_zero_iff,List.filter_eq_nil_iff];intro n hn;simp only[decide_eq_true_eq];exact λe=>h n hn e.1 e.2
theorem aW1{l:List Nt}{p:Pk}(h:∀n∈l,n.k≠1->n.k≠2->n.p≠p):cO l p=0:=by
 unfold cO;rw[List.length_eq_zero_iff,List.filter_eq_nil_iff];intro n hn;simp only[decide_eq_true_eq];exact λe=>h n hn e.1.1 e.1.2 e.2
def aKj(id:Int)(l:List Nt)(n:Nt):Prop:=
 if n.k=1 then n.p.f=id∧cS l n.p=1 else if n.k=2 then n.p.f=1-id∧cR l n.p=1 else n.p.f=id∧cO l n.p=1∧cS l n.p=1
def aAF(id:Int)(l:List Nt):Prop:=∀i n,l[i]? =some n->aKj id (l.take (i+1)) n
theorem aAF.nil(id:Int):aAF id []:=λi n h=>by simp at h
theorem aAF.snoc{id:Int}{l:List Nt}{n:Nt}(H:aAF id l)(h:aKj id (l++[n]) n):aAF id (l++[n]):=λi m hm=>by
 by_cases c:i<l.length
 ·rw[List.getElem?_append_left c] at hm;rw[zLG (by omega)];exact H i m hm
 ·have hl:=(zLz.1 hm).1;rw[jR,zLS] at hl;have e:i=l.length:=by omega
  subst e;simp only[List.getElem?_concat_length,zL8] at hm;subst hm;rw[mU (by simp)];exact h
theorem aAF.init{id:Int}{l:List Nt}{n:Nt}(H:aAF id (l++[n])):aAF id l∧aKj id (l++[n]) n:=by
 refine⟨λi m hm=>?_,?_⟩
 ·have hl:=(zLz.1 hm).1;have:=H i m (by rw[List.getElem?_append_left hl];exact hm)
  rwa [zLG (by omega)] at this
 ·have:=H l.length n (by simp)
  rwa [mU (by simp)] at this
theorem aAF.one{id:Int}{p:Pk}(l:List Nt):aAF id l->(⟨1,p⟩:Nt)∈l->cS l p=1:=by
 refine aMq (p:=λl=>aAF id l->(⟨1,p⟩:Nt)∈l->cS l p=1) (λ_ h=>by cases h) (λl n ih H hm=>?_) l;obtain⟨h1,h2⟩:=H.init;by_cases c:n=⟨1,p⟩
 ·subst c;unfold aKj at h2;rw[if_pos rfl] at h2;exact h2.2
 ·have hm':(⟨1,p⟩:Nt)∈l:=by
   rcases jG.1 hm with hm|hm
   ·exact hm
   ·simp only[fU] at hm;exact absurd hm.symm c
  rw[aOH,ih h1 hm',if_neg];rintro⟨e1,e2⟩;obtain⟨nk,np⟩:=n;simp only at e1 e2;exact c (by rw[e1,e2])
def aLE(A:List Tx)(l:List Nt)(q:Pr):Prop:=∀n,n<18446744073709551616->q.k=fS 99 n->∃p:Pk,(⟨1,p⟩:Nt)∈l∧p.s.toNat=n∧q.v=mL p∧∀t∈oX p,t∈A
structure pI(c o:Ch)(A:List Tx):Prop where
 ok:aAF c.id c.all
 s1:∀p,(⟨1,p⟩:Nt)∈c.all->p.f=c.id∧p.right=true∧p.wf∧p.s<(c.seq:Int)
 s2:aFt c.st (aLE A c.all)
 s3:∀p,(⟨2,p⟩:Nt)∈c.all->∃q∈c.st.now,q.k=fS 114 p.s.toNat
 s4:∀n∈c.all,n.k≠1->n.k≠2->(0≤n.p.s∧n.p.s<(c.seq:Int))∧∀q∈c.st.now,q.k≠fS 99 n.p.s.toNat
 s5:∀p,(⟨2,p⟩:Nt)∈c.all->(⟨1,p⟩:Nt)∈o.all
 cl:∀y∈c.cl,∃(x:Nat) (b:List Pr),y.height=(x:Int)∧oO o.st x=some b∧y.root=tx (lB b)∧∀t∈rU b,t∈A
 mx:c.st.height=18446744073709551615->c.nts=[]
theorem aWw{c o:Ch}{A:List Tx}(cl:∀y∈c.cl,∃(x:Nat) (b:List Pr),y.height=(x:Int)∧oO o.st x=some b∧y.root=tx (lB b)∧∀t∈rU b,t∈A){x:Nat}(hr:(kN c.cl (x:Int)).isSome=true):∃b,oO o.st x=some b∧pS c.cl (x:Int)=lB b∧∀t∈rU b,t∈A:=by
 obtain⟨r,er⟩:=Option.isSome_iff_exists.1 hr;unfold pS;rw[er];unfold kN at er;cases hf:c.cl.find? λp=>decide ((x:Int)=p.height) with
 | none=>rw[hf] at er;cases er
 | some y=>
  rw[hf] at er;simp only[aH7,zL8] at er;have hm:=List.mem_of_find?_eq_some hf;have hk:=List.find?_some hf;simp only[decide_eq_true_eq] at hk;obtain⟨x',b,h1,h2,h3,h4⟩:=cl y hm;have ex:x'=x:=by omega
  subst ex;refine⟨b,h2,?_,h4⟩;show(Option.getD (some r) _).data.toList=_;rw[aH8,←er,h3];rfl
theorem pI.asked{c o:Ch}{A A':List Tx}(H:pI c o A)(hs:∀t∈A,t∈A'):pI c o A':=
 ⟨H.ok,H.s1,H.s2.mono λq hq n hn hk=>by obtain⟨p,h1,h2,h3,h4⟩:=hq n hn hk;exact⟨p,h1,h2,h3,λt ht=>hs t (h4 t ht)⟩,H.s3,H.s4,H.s5,λy hy=>by obtain⟨x,b,h1,h2,h3,h4⟩:=H.cl y hy;exact⟨x,b,h1,h2,h3,λt ht=>hs t (h4 t ht)⟩,H.mx⟩
theorem pI.other{c o o':Ch}{A:List Tx}(H:pI c o A)(h5:∀p,(⟨1,p⟩:Nt)∈o.all->(⟨1,p⟩:Nt)∈o'.all)(hat:∀x b,oO o.st x=some b->oO o'.st x=some b):pI c o' A:=
 ⟨H.ok,H.s1,H.s2,H.s3,H.s4,λp hp=>h5 p (H.s5 p hp),λy hy=>by obtain⟨x,b,h1,h2,h3⟩:=H.cl y hy;exact⟨x,b,h1,hat x b h2,h3⟩,H.mx⟩
theorem aOA(c:Ch)(n:Nt):(c.add n).all=c.all++[n]:=by
 unfold Ch.all Ch.add;exact(mR _ _ _).symm
theorem aN2(c:Ch):c.committed.all=c.all:=by
 unfold Ch.committed;by_cases he:(jV c.st).2.2=0
 ·rw[if_pos he];unfold Ch.all;simp
 ·rw[if_neg he]
theorem aXC{L:List Pr}{k:Tx}(h:(gI L k).isSome=false):∀q∈L,q.k≠k:=λq hq e=>by
 unfold gI at h;rw[Option.isSome_eq_false_iff,Option.isNone_iff_eq_none,List.find?_eq_none] at h;exact h q hq (by simp[e])
theorem aUN{s:Ch}{d:Tx}{t:Nat}(ht:t<18446744073709551616)(hs:s.seq<18446744073709551616):(jW s d t).wf:=⟨by show(0:Int)≤(s.seq:Int);omega,by show(s.seq:Int)<_;omega,by show(0:Int)≤(t:Int);omega,by show(t:Int)<_;omega⟩
theorem aFq(c:Ch)(p:Pk):(c.sent p).all=c.all++[⟨1,p⟩]:=aOA _ _
theorem aAM(c:Ch)(p:Pk):(c.received p).all=c.all++[⟨2,p⟩]:=aOA _ _
theorem aAC(c:Ch)(k:Int)(p:Pk):(c.settled k p).all=c.all++[⟨k,p⟩]:=aOA _ _
theorem pF{α:Type}{l:List α}{a b:α}:a∈l++[b]↔a∈l∨a=b:=by simp
theorem aLE.more{A:List Tx}{l:List Nt}{n:Nt}{q:Pr}(h:aLE A l q):aLE A (l++[n]) q:=λm hm hk=>by
 obtain⟨p,h1,h2⟩:=h m hm hk;exact⟨p,pF.2 (.inl h1),h2⟩
theorem aNn{A:List Tx}{l:List Nt}{ch:UInt8}{n:Nat}{v:Tx}(h:ch≠99):aLE A l ⟨fS ch n,v⟩:=λm _ e=>absurd e (aIS h)
theorem aVn{n:Nt}{k:Int}{p:Pk}(h1:n.k=k)(h2:n.p=p):n=⟨k,p⟩:=by
 obtain⟨a,b⟩:=n;simp only at h1 h2;rw[h1,h2]
theorem aOS{L:List Pr}{k v:Tx}{q:Pr}(h:q∈mW L ⟨k,v⟩):q=⟨k,v⟩∨q∈L:=by
 rcases sJ.1 h with h|h
 ·exact .inl h
 ·exact .inr h.1
theorem aL3{L:List Pr}{k k' v:Tx}(h:∃q∈L,q.k=k):∃q∈mW L ⟨k',v⟩,q.k=k:=by
 obtain⟨q,hq,e⟩:=h;by_cases c:q.k=k'
 ·exact⟨⟨k',v⟩,sJ.2 (.inl rfl),by rw[←c];exact e⟩
 ·exact⟨q,sJ.2 (.inr ⟨hq,c⟩),e⟩
section
variable{c o:Ch}{A:List Tx}(H:pI c o A)
include H
theorem pI.send{p:Pk}(hp:p.right=true)(wp:p.wf)(hf:p.f=c.id)(hs:p.s=(c.seq:Int))(hx:c.st.height≠18446744073709551615)(hA:∀t∈oX p,t∈A):pI (c.sent p) o A:=by
 obtain⟨e1,e2,e3⟩:=aOE c p;have hq:=wp.2.1;refine⟨?_,?_,?_,?_,?_,?_,H.cl,λh=>absurd h hx⟩
 ·rw[aFq,e3];refine H.ok.snoc ?_;unfold aKj;rw[if_pos rfl,aOH,if_pos ⟨rfl,rfl⟩,aWh λn hn e1 e2=>?_]
  ·exact⟨hf,rfl⟩
  ·have:=(H.s1 p (by rw[←aVn e1 e2];exact hn)).2.2.2;omega
 ·intro q hm;rw[aFq] at hm;show q.f=c.id∧q.right=true∧q.wf∧q.s<((c.seq+1:Nat):Int);rcases pF.1 hm with hm|hm
  ·obtain⟨h1,h2,h3,h4⟩:=H.s1 q hm;exact⟨h1,h2,h3,by omega⟩
  ·simp only[Nt.mk.injEq,true_and] at hm;subst hm;exact⟨hf,hp,wp,by omega⟩
 ·rw[e1,aFq];refine(H.s2.mono λq h=>h.more).put λn hn hk=>?_;obtain⟨-,en⟩:=aMc (by omega) hn hk;exact⟨p,pF.2 (.inr rfl),by omega,rfl,hA⟩
 ·intro q hm;rw[aFq] at hm;rcases pF.1 hm with hm|hm
  ·rw[e1];exact aL3 (H.s3 q hm)
  ·simp only[Nt.mk.injEq] at hm;omega
 ·intro n hm k1 k2;rw[aFq] at hm;rcases pF.1 hm with hm|hm
  ·obtain⟨h1,h2⟩:=H.s4 n hm k1 k2;refine⟨⟨h1.1,by show n.p.s<((c.seq+1:Nat):Int);omega⟩,λq hq=>?_⟩;rw[e1] at hq;rcases aOS hq with rfl|hq
   ·intro e;have e:fS 99 c.seq=fS 99 n.p.s.toNat:=e;obtain⟨-,en⟩:=aMc (by omega) (by omega) e;omega
   ·exact h2 q hq
  ·subst hm;exact absurd rfl k1
 ·intro q hm;rw[aFq] at hm;rcases pF.1 hm with hm|hm
  ·exact H.s5 q hm
  ·simp only[Nt.mk.injEq] at hm;omega
theorem pI.recv{p:Pk}(hf:p.f=1-c.id)(hno:(gI c.st.now (fS 114 p.s.toNat)).isSome=false)(hx:c.st.height≠18446744073709551615)(h5:(⟨1,p⟩:Nt)∈o.all):pI (c.received p) o A:=by
 obtain⟨e1,e2,e3⟩:=aJd c p;refine⟨?_,?_,?_,?_,?_,?_,H.cl,λh=>absurd h hx⟩
 ·rw[aAM,e3];refine H.ok.snoc ?_;unfold aKj;rw[if_neg (show ¬(2:Int)=1 by decide),if_pos rfl,aWt,if_pos ⟨rfl,rfl⟩,aWB λn hn e1 e2=>?_]
  ·exact⟨hf,rfl⟩
  ·obtain⟨q,hq,ek⟩:=H.s3 p (by rw[←aVn e1 e2];exact hn);exact aXC hno q hq ek
 ·intro q hm;rw[aAM] at hm;rcases pF.1 hm with hm|hm
  ·exact H.s1 q hm
  ·simp only[Nt.mk.injEq] at hm;omega
 ·rw[e1,aAM];exact((H.s2.mono λq h=>h.more).put (aNn (by decide))).put (aNn (by decide))
 ·intro q hm;rw[aAM] at hm;rw[e1];rcases pF.1 hm with hm|hm
  ·exact aL3 (aL3 (H.s3 q hm))
  ·simp only[Nt.mk.injEq,true_and] at hm;subst hm;exact aL3 ⟨⟨fS 114 q.s.toNat,[1]⟩,sJ.2 (.inl rfl),rfl⟩
 ·intro n hm k1 k2;rw[aAM] at hm;rcases pF.1 hm with hm|hm
  ·obtain⟨h1,h2⟩:=H.s4 n hm k1 k2;refine⟨h1,λq hq=>?_⟩;rw[e1] at hq;rcases aOS hq with rfl|hq
   ·exact aIS (by decide)
   ·rcases aOS hq with rfl|hq
    ·exact aIS (by decide)
    ·exact h2 q hq
  ·subst hm;exact absurd rfl k2
 ·intro q hm;rw[aAM] at hm;rcases pF.1 hm with hm|hm
  ·exact H.s5 q hm
  ·simp only[Nt.mk.injEq,true_and] at hm;subst hm;exact h5
theorem pI.settle{k:Int}(k1:k≠1)(k2:k≠2){p:Pk}(hp:p.right=true)(wp:p.wf)(hf:p.f=c.id)(hs:oW c p=true)(hx:c.st.height≠18446744073709551615)(U:aG9 A)(hA:∀t∈oX p,t∈A):pI (c.settled k p) o A:=by
 obtain⟨e1,e2,e3⟩:=aGJ c k p;have w1:=wp.1;have w2:=wp.2.1
 -- the packet was sent
 obtain⟨y,hy,hyv⟩:∃y,gI c.st.now (fS 99 p.s.toNat)=some y∧y.v=mL p:=by
  unfold oW at hs;cases hg:gI c.st.now (fS 99 p.s.toNat) with
  | none=>rw[hg] at hs;cases hs
  | some y=>rw[hg] at hs;exact⟨y,rfl,of_decide_eq_true hs⟩
 have hym:y∈c.st.now:=List.mem_of_find?_eq_some hy;have hyk:fS 99 p.s.toNat=y.k:=by
  have:=List.find?_some hy;simpa using this
 obtain⟨q,h1,h2,h3,h4⟩:=H.s2.1 y hym p.s.toNat (by omega) hyk.symm;obtain⟨g1,g2,g3,g4⟩:=H.s1 q h1;have epq:p=q:=Pk.bs_inj hp g2 wp g3 (aPH hp g2 U hA h4 (by rw[←hyv,h3]));rw[←epq] at h1 g4;refine⟨?_,?_,?_,?_,?_,?_,H.cl,λh=>absurd h hx⟩
 ·rw[aAC,e3];refine H.ok.snoc ?_;unfold aKj;rw[if_neg k1,if_neg k2,aWr,if_pos ⟨⟨k1,k2⟩,rfl⟩,aW1 λn hn e1 e2 e3=>?_]
  ·refine⟨hf,rfl,?_⟩;rw[aOH,if_neg (λh=>k1 h.1),H.ok.one _ h1]
  ·obtain⟨-,hno⟩:=H.s4 n hn e1 e2;exact hno y hym (by rw[e3];exact hyk.symm)
 ·intro r hm;rw[aAC] at hm;rcases pF.1 hm with hm|hm
  ·exact H.s1 r hm
  ·simp only[Nt.mk.injEq] at hm;exact absurd hm.1.symm k1
 ·rw[e1,aAC];exact(H.s2.mono λq h=>h.more).del _
 ·intro r hm;rw[aAC] at hm;rcases pF.1 hm with hm|hm
  ·obtain⟨z,hz,ez⟩:=H.s3 r hm;rw[e1];exact⟨z,zL1.2 ⟨hz,by simp only[ne_eq,decide_eq_true_eq];rw[ez];exact aIS (by decide)⟩,ez⟩
  ·simp only[Nt.mk.injEq] at hm;exact absurd hm.1.symm k2
 ·intro n hm j1 j2;rw[aAC] at hm;rw[e1];rcases pF.1 hm with hm|hm
  ·obtain⟨r1,r2⟩:=H.s4 n hm j1 j2;exact⟨r1,λz hz=>r2 z (zL1.1 hz).1⟩
  ·subst hm;refine⟨⟨w1,g4⟩,λz hz=>?_⟩;have:=(zL1.1 hz).2;simpa using this
 ·intro r hm;rw[aAC] at hm;rcases pF.1 hm with hm|hm
  ·exact H.s5 r hm
  ·simp only[Nt.mk.injEq] at hm;exact absurd hm.1.symm k2
theorem pI.told{x:Nat}{b:List Pr}(hx:oO o.st x=some b)(hA:∀t∈rU b,t∈A):pI (c.told (x:Int) (lB b)) o A:=
 ⟨H.ok,H.s1,H.s2,H.s3,H.s4,H.s5,λy hy=>by
  rcases aMn hy with hy|rfl
  ·exact H.cl y hy
  ·exact⟨x,b,rfl,hx,rfl,hA⟩,H.mx⟩
theorem pI.com:pI c.committed o A:=by
 obtain⟨e1,e2,e3⟩:=uF c;have eall:=aN2 c;have esq:c.committed.seq=c.seq:=by unfold Ch.committed;split<;>rfl
 have enow:c.committed.st.now=c.st.now:=by
  rw[e1];by_cases he:(jV c.st).2.2=0
  ·rw[(aCl he).1]
  ·rw[aBl he]
 refine⟨by rw[eall,e3];exact H.ok,by rw[eall,e3,esq];exact H.s1,by rw[eall,e1];exact H.s2.com,by rw[eall,enow];exact H.s3,by rw[eall,enow,esq];exact H.s4,by rw[eall];exact H.s5,by rw[e2];exact H.cl,λh=>?_⟩;unfold Ch.committed at h ⊢;by_cases he:(jV c.st).2.2=0
 ·rw[if_pos he]
 ·rw[if_neg he] at h ⊢;exact H.mx h
end
theorem aOg{c o:Ch}{a:jK}{A:List Tx}(O1:pI c o A)(O2:pI o c A)(U:aG9 (doA c o a++A))(hco:1-c.id=o.id)(wa:a.wf)(okc:c.st.Ok)(oko:o.st.Ok)(hsq:c.seq<18446744073709551616):pI (kC c o a).1 o (doA c o a++A)∧pI o (kC c o a).1 (doA c o a++A):=by
 have sub:∀t∈A,t∈doA c o a++A:=λt ht=>zLl _ ht;have O1:=O1.asked sub;have O2:=O2.asked sub;have subA:∀t∈doA c o a,t∈doA c o a++A:=λt ht=>zLk _ ht;generalize doA c o a++A=A' at *;obtain⟨w1,w2,w3,w4⟩:=wa.p;rcases aF7 c o a with⟨k0,e,e1,e2,eA⟩|⟨k1,b,e,e1,eA⟩|⟨k2,e,e1,e2,eA⟩|⟨k3,e,e1,e2,eA⟩|⟨k4,e,e1,e2,eA⟩|⟨k5,e1⟩|⟨e1,e2⟩
 ·obtain⟨r1,r2,r3,r4,r5⟩:=aPL e;rw[e1];refine⟨O1.send r2 (aUN wa.h hsq) rfl rfl r5 (λt ht=>subA t (by rw[eA];exact ht)),O2.other (λp hp=>?_) (λx b hx=>hx)⟩;rw[aFq];exact pF.2 (.inl hp)
 ·rw[e1];exact⟨O1.told e (λt ht=>subA t (by rw[eA];exact ht)),O2.other (λp hp=>hp) (λx b hx=>hx)⟩
 ·obtain⟨r1,r2,r3,r4,r5,r6,r7⟩:=aLc e;obtain⟨b,hb,eb,hbA⟩:=aWw O1.cl r5;rw[eb] at r6;have hm:=aO1 (oko.mok hb) U (λt ht=>subA t (by rw[eA];simp[ht])) hbA r6;obtain⟨q,h1,h2,h3,h4⟩:=O2.s2.2 b (aRW hb) _ hm a.p.s.toNat (by omega) rfl;obtain⟨g1,g2,g3,g4⟩:=O2.s1 q h1;have epq:a.p=q:=Pk.bs_inj r1 g2 wa.p g3 (aPH r1 g2 U (λt ht=>subA t (by rw[eA];simp[ht])) h4 h3);rw[e1];refine⟨O1.recv r2 r4 r7 (by rw[epq];exact h1),O2.other (λp hp=>?_) (λx b hx=>hx)⟩;rw[aAM];exact pF.2 (.inl hp)
 ·obtain⟨r1,r2,r3,r4,r5⟩:=aDf (by unfold xK;simp) e;rw[e1];refine⟨O1.settle (by decide) (by decide) r1 wa.p r2 r3 r5 U (λt ht=>subA t (by rw[eA];simp[ht])),O2.other (λp hp=>?_) (λx b hx=>hx)⟩;rw[aAC];exact pF.2 (.inl hp)
 ·obtain⟨r1,r2,r3,r4,r5⟩:=aDf (by unfold qO;simp) e;rw[e1];refine⟨O1.settle (by decide) (by decide) r1 wa.p r2 r3 r5 U (λt ht=>subA t (by rw[eA];simp[ht])),O2.other (λp hp=>?_) (λx b hx=>hx)⟩;rw[aAC];exact pF.2 (.inl hp)
 ·rw[e1];refine⟨O1.com,O2.other (λp hp=>by rw[aN2];exact hp) (λx b hx=>?_)⟩;rw[(uF c).1];exact aMm okc hx
 ·rw[e1];exact⟨O1,O2⟩
def aEh(d0 d1:Nat):List Value:=[pT d0 0,pT d1 0]
def dCh(b m:Nat)(A:List Tx)(K:List Nat)(c:Nat)(s:Ch)(n:Nat):mF:=eO (rC b m A K) (DC c b s n)
def dRe(t:Nat)(cs:List Value)(o b:Nat)(so:Ch)(n:Nat):mF:=eO (vT t cs) (DC o b so n)
theorem dCh.good(b m:Nat)(A:List Tx)(K:List Nat)(c:Nat)(s:Ch)(n:Nat):mA (dCh b m A K c s n):=(rC.good _ _ _ _).star (DC.good _ _ _ _)
theorem dRe.good(t:Nat)(cs:List Value)(o b:Nat)(so:Ch)(n:Nat):mA (dRe t cs o b so n):=(vT.good _ _).star (DC.good _ _ _ _)
theorem dRe.mono{t:Nat}{cs:List Value}{o b:Nat}{so:Ch}{n n':Nat}(hn:n≤n'){h:PH}{F:List Nat}(H:dRe t cs o b so n h F):dRe t cs o b so n' h F:=by
 obtain⟨Fa,Fb,rfl,hx,hy,hd⟩:=H;exact⟨Fa,Fb,rfl,hx,hy.mono hn,hd⟩
theorem dCh.mono{b m:Nat}{A:List Tx}{K:List Nat}{c:Nat}{s:Ch}{n n':Nat}(hn:n≤n'){h:PH}{F:List Nat}(H:dCh b m A K c s n h F):dCh b m A K c s n' h F:=by
 obtain⟨Fa,Fb,rfl,hx,hy,hd⟩:=H;exact⟨Fa,Fb,rfl,hx,hy.mono hn,hd⟩
theorem eO.imp{A B A' B':mF}{h:PH}{F:List Nat}(H:eO A B h F)(ha:∀G,A h G->A' h G)(hb:∀G,B h G->B' h G):eO A' B' h F:=by
 obtain⟨Fa,Fb,rfl,hx,hy,hd⟩:=H;exact⟨Fa,Fb,rfl,ha _ hx,hb _ hy,hd⟩
theorem aVQ{h:PH}{F:List Nat}{b m:Nat}{A:List Tx}{K:List Nat}{c o t:Nat}{cs2:List Value}{s so:Ch}{n:Nat}(H:eO (dCh b m A K c s n) (dRe t cs2 o b so n) h F)(w:s.DOk)(hn:n≤10000){a:jK}(wa:a.wf)(hd64:a.d.length≤1000000){r1 r3:Nat}(B1:Bx h r1 a.cells)(n1:r1∉F){cs:List Value}(hcs:cs.length=4)(B3:Bx h r3 cs)(n3:r3∉F){R:cD}
  (hR:∀h' F',eO (dCh b m (doA s so a++A) K c (kC s so a).1 (n+1)) (dRe t cs2 o b so (n+1)) h' F'->cU (r3::F) h h'->(∀b∈F',b∈F∨h b=none)->R (.tuple #[(kC s so a).2.1.v,.int .u64 ((kC s so a).2.2.1:Int),.int .i64 (kC s so a).2.2.2]) h'):
  oH R (pT r1 0) (pT r3 0) (pT c 0) (pT o 0) (.string (tx (lS so a))) h:=by
 unfold oH;have gC:=λA s n=>dCh.good b m A K c s n;have gR:=λn=>dRe.good t cs2 o b so n;have fin:∀{h1:PH} {F1:List Nat} {A':List Tx} {s':Ch} {n':Nat} {pk:Pk} {hh:Nat} {e:Int},eO (dCh b m A' K c s' n') (dRe t cs2 o b so n) h1 F1->n'≤n+1->(∀a'∈doA s so a++A,a'∈A')->iX h F h1 F1->kC s so a=(s',(pk,hh,e))->cY PG (dJ aR (pT r3 0) pk.v) h1 λ_ h80=>dY (cE PG h80 (loadAt aR (pT r3 0))) λv81=>R (.tuple #[v81,.int .u64 (hh:Int),.int .i64 e]) h80:=by
  intro h1 F1 A' s' n' pk hh e H1 hn' hA s1 ed;have B31:=B3.upd s1.upd n3;refine aR.put (vs:=pk.cells) B31 (o:=0) rfl (by omega) (Pk.isC _) λh2 B2 u2=>?_;have l2:cE PG h2 (loadAt aR (pT r3 0))=some pk.v:=B2.pk (by simp[Pk.cells]);simp only[l2,cG,reduceIte,cT,Nat.reduceAdd];have m3:r3∉F1:=λhm=>by
   rcases s1.grow _ hm with hx|hx
   ·exact n3 hx
   ·exact B3.known hx
  rw[ed] at hR;have H2:=((gC A' s' n').star (gR n)).upd H1 u2 (λb hb hb'=>by simp only[fU] at hb';exact m3 (hb'▸hb));exact hR h2 F1 (eO.imp H2 (λG hG=>dCh.mono hn' (rC.mono hG hA)) (λG hG=>dRe.mono (vF n) hG)) (λb ob hb hn=>by
   simp only[gL,not_or] at hn;exact u2 b ob (s1.upd b ob hb hn.2) (by simpa using hn.1)) s1.grow
 have lk:cE PG h (loadAt bT (pT r1 0))=some (.int .i64 a.kind):=by rw[bT.load,B1.cell];rfl
 have lh:∀{h':PH},Bx h' r1 a.cells->cE PG h' (loadAt cA (pT r1 2))=some (.int .u64 (a.h:Int)):=λB=>by rw[cA.load,B.cell];rfl
 have ld:cE PG h (loadAt bR (pT r1 3))=some (.string (tx a.d)):=by rw[bR.load,B1.cell];rfl
 have lp:cE PG h (loadAt aR (pT r1 4))=some a.p.v:=B1.pk rfl;have hpf:=aUB so hd64;obtain⟨Fa,HA,hFa,back⟩:=eO.left (gR n) H;have back:∀{A':List Tx} {s':Ch} {n':Nat} {h':PH} {Fa':List Nat},eO (rC b m A' K) (DC c b s' n') h' Fa'->iX h Fa h' Fa'->∃F',eO (dCh b m A' K c s' n') (dRe t cs2 o b so n) h' F'∧iX h F h' F':=fun {A' s' n' h' Fa'} HX st=>back (dCh b m A' K c s' n') h' Fa' HX st;have hdd:kC s so a=if a.kind=0 then(if rD s a.d a.h=0 then(s.sent (jW s a.d a.h),(jW s a.d a.h,0,0)) else(s,(default,0,rD s a.d a.h)))
   else if a.kind=1 then(match oO so.st a.h with
    | none=>(s,(default,0,3))
    | some b=>(s.told (a.h:Int) (lB b),(default,0,(aAS s.cl ⟨(a.h:Int),tx (lB b)⟩).1)))
   else if a.kind=2 then(if qZ s (tM s a.p (lS so a) (a.h:Int))=0 then(s.received a.p,(default,0,0)) else(s,(default,0,qZ s (tM s a.p (lS so a) (a.h:Int)))))
   else if a.kind=3 then(if jH s a.p (xK s a.p (lS so a) (a.h:Int))=0 then(s.settled 3 a.p,(default,0,0)) else(s,(default,0,jH s a.p (xK s a.p (lS so a) (a.h:Int)))))
   else if a.kind=4 then(if jH s a.p (qO s a.p (lS so a) (a.h:Int))=0 then(s.settled 4 a.p,(default,0,0)) else(s,(default,0,jH s a.p (qO s a.p (lS so a) (a.h:Int)))))
   else if a.kind=5 then(s.committed,(default,(jV s.st).2.1,(jV s.st).2.2))
   else(s,(default,0,0)):=rfl
 have hda:doA s so a=if a.kind=0 then(if rD s a.d a.h=0 then oX (jW s a.d a.h) else [])
  else if a.kind=1 then(match oO so.st a.h with
   | none=>[]
   | some b=>rU b)
  else if a.kind=2 then(if qZ s (tM s a.p (lS so a) (a.h:Int))=0 then aFl a.p++(aF9 (lS so a)++oX a.p) else [])
  else if a.kind=3 then(if jH s a.p (xK s a.p (lS so a) (a.h:Int))=0 then aF9 (lS so a)++(aFl a.p++oX a.p) else [])
  else if a.kind=4 then(if jH s a.p (qO s a.p (lS so a) (a.h:Int))=0 then aIJ (lS so a) (fS 114 a.p.s.toNat)++oX a.p else [])
  else []:=rfl
 by_cases k0:a.kind=0
 ·have q:(a.kind==0)=true:=by simp[k0]
  rw[if_pos k0] at hdd hda;simp only[cH.f0,cH.f2,cH.f3,fJ,lk,ld,lh B1,iA,q,cG,reduceIte,cT,Nat.reduceAdd];have last:∀{h1:PH} {F1:List Nat} {A':List Tx} {s':Ch} {n':Nat} {pk:Pk} {e:Int},eO (dCh b m A' K c s' n') (dRe t cs2 o b so n) h1 F1->n'≤n+1->(∀a'∈doA s so a++A,a'∈A')->iX h F h1 F1->kC s so a=(s',(pk,0,e))->∀r74,h1 r74=none->eJ (PH.set h1 r74 (.cells (dL PG aR) aR)) λh75=>
    cY PG (dJ aR (pT r74 0) pk.v) h75 λv76 h77=>
    dY (cE PG h77 (loadAt aR (pT r74 0))) λv78=>
    cY PG (dJ aR (pT r3 0) v78) h77 λv79 h80=>
    dY (cE PG h80 (loadAt aR (pT r3 0))) λv81=>
    R (.tuple #[v81,(Value.int IntKind.u64 0),.int .i64 e]) h80:=by
   intro h1 F1 A' s' n' pk e H1 hn' hA s1 ed r74 hr74
   try rw[cZ]
   refine aR.fill (vs:=pk.cells) hr74 rfl (Pk.isC _) λh2 B2 u2=>?_;have l2:cE PG h2 (loadAt aR (pT r74 0))=some pk.v:=B2.pk rfl;simp only[l2,cG,reduceIte,cT,Nat.reduceAdd];exact fin (hh:=0) (((gC A' s' n').star (gR n)).ext H1 u2) hn' hA (s1.trans (iX.ext u2)) ed
  refine aUP HA w hn a.d hd64 wa.h (λhe h1 H1 s1=>?_) (λhe h1 F1 H1 s1=>?_)
  ·rw[if_neg he] at hdd hda;obtain⟨F2,W2,s2⟩:=back H1 s1;have:=last W2 (vF n) (by rw[hda];exact λ_ h=>h) s2 hdd;simp only[cG,reduceIte,cT,Nat.reduceAdd] at this ⊢;exact this
  ·rw[if_pos he] at hdd hda;obtain⟨F2,W2,s2⟩:=back H1 s1;have:=last W2 (oM _) (by rw[hda];exact λ_ h=>h) s2 hdd;simp only[cG,reduceIte,cT,Nat.reduceAdd] at this ⊢;exact this
 have q0:(a.kind==0)=false:=by simp[k0]
 rw[if_neg k0] at hdd hda;by_cases k1:a.kind=1
 ·have q:(a.kind==1)=true:=by simp[k1]
  rw[if_pos k1] at hdd hda;obtain⟨Fcd,HCd,HB,eFa,hdis⟩:=aEg HA;obtain⟨sp,cp,bv,nv,PC⟩:=id HCd;obtain⟨Fo,HO,hFo⟩:∃Fo,DC o b so n h Fo∧∀x∈Fo,x≠b∧x≠m:=by
   obtain⟨Fc,Fr,eF,HC,⟨Ft,Fo,eFr,-,HO,dto⟩,dcr⟩:=id H;obtain⟨Fcd,-,-,eFc,-⟩:=aEg HC;refine⟨Fo,HO,λx hx=>?_⟩;have h1:x∈Fr:=by rw[eFr];exact zLl _ hx
   refine⟨λe=>?_,λe=>?_⟩
   ·exact dcr b (by rw[eFc];simp) (e▸h1)
   ·exact dcr m (by rw[eFc];simp) (e▸h1)
  obtain⟨osp,ocp,obv,onv,PO⟩:=id HO;obtain⟨Fs,⟨G,St,eFs⟩,hFs,-⟩:=PO.fSt;obtain⟨cc,A0,HBk,hAA⟩:=id HB;have hGb:∀x∈G,x≠b∧x≠m:=λx hx=>hFo x (hFs x (by rw[eFs];simp[hx]));have n1b:r1∉[b,m]:=λhm=>by
   simp only[gL,kJ,or_false] at hm;rcases hm with rfl|rfl
   ·exact n1 (hFa _ (by rw[eFa];simp))
   ·exact n1 (hFa _ (by rw[eFa];simp))
  simp only[cH.f0,cH.f2,cQ.f0,cQ.f2,fJ,lk,lh B1,dl0 PC.cell,dl2 PO.cell,iA,q0,q,cG,reduceIte,cT,Nat.reduceAdd];refine aSx St HBk hGb a.h wa.h (λe=>?_) (λl h1 c' e HB1 _ u1=>?_)
  ·rw[e] at hdd hda;obtain⟨F2,W2,s2⟩:=back HA iX.refl;have qe:((3:Int) !=0)=true:=by decide
   simp only[kK,qe,Pk.zb,cG,reduceIte,cT,Nat.reduceAdd];exact fin (hh:=0) W2 (vF n) (by rw[hda];exact λ_ h=>h) s2 hdd
  ·rw[e] at hdd hda;have HB2:Bk b m (rU l++A) K h1:=⟨c',_,HB1,λx hx=>by
    rcases jG.1 hx with hx|hx
    ·simp[hx]
    ·simp[hAA x hx]⟩
   obtain⟨-,s1⟩:=aG4 (DC.good c b s n) HA HB2 u1;have P1:=mS.good.upd PC u1 (aLl hdis);have C1:=B1.upd u1 n1b;simp only[kK,Pk.zb,cH.f2,cQ.f3,fJ,lh C1,dl3 P1.cell,cG,reduceIte,cT,Nat.reduceAdd];refine aVd P1 w.few (a.h:Int) (lB l) λh2 F2 P2 s2=>?_;obtain⟨W2,sW2⟩:=aG6 (X':=DC c b (s.told (a.h:Int) (lB l)) n) HB2 hdis ⟨sp,cp,bv,nv,P2⟩ s2;rw[←eFa] at sW2;obtain⟨F3,W3,s3⟩:=back W2 (s1.trans sW2);have:=fin (hh:=0) W3 (vF n) (by rw[hda];exact λ_ h=>h) s3 hdd;exact this
 have q1:(a.kind==1)=false:=by simp[k1]
 rw[if_neg k1] at hdd hda;by_cases k2:a.kind=2
 ·have q:(a.kind==2)=true:=by simp[k2]
  rw[if_pos k2] at hdd hda;simp only[cH.f0,cH.f2,cH.f4,fJ,lk,lh B1,lp,iA,q0,q1,q,Pk.zb,cG,reduceIte,cT,Nat.reduceAdd];have erc:aJH s a.p (lS so a) (a.h:Int)=qZ s (tM s a.p (lS so a) (a.h:Int)):=rfl;refine aUb HA w hn wa.p hpf wa.h (λhe h1 H1 s1=>?_) (λhe h1 F1 H1 s1=>?_)
  ·rw[erc] at he ⊢;rw[if_neg he] at hdd hda;obtain⟨F2,W2,s2⟩:=back H1 s1;exact fin (hh:=0) W2 (vF n) (by rw[hda];exact λ_ h=>h) s2 hdd
  ·rw[erc] at he;rw[if_pos he] at hdd hda;obtain⟨F2,W2,s2⟩:=back H1 s1;exact fin (hh:=0) W2 (oM _) (by rw[hda];exact λ_ h=>h) s2 hdd
 have q2:(a.kind==2)=false:=by simp[k2]
 rw[if_neg k2] at hdd hda;by_cases k3:a.kind=3
 ·have q:(a.kind==3)=true:=by simp[k3]
  rw[if_pos k3] at hdd hda;simp only[cH.f0,cH.f2,cH.f4,fJ,lk,lh B1,lp,iA,q0,q1,q2,q,Pk.zb,cG,reduceIte,cT,Nat.reduceAdd];refine aWA HA w hn wa.p hpf wa.h (λhe h1 H1 s1=>?_) (λhe h1 F1 H1 s1=>?_)
  ·rw[if_neg he] at hdd hda;obtain⟨F2,W2,s2⟩:=back H1 s1;exact fin (hh:=0) W2 (vF n) (by rw[hda];exact λ_ h=>h) s2 hdd
  ·rw[if_pos he] at hdd hda;obtain⟨F2,W2,s2⟩:=back H1 s1;exact fin (hh:=0) W2 (oM _) (by rw[hda];exact λ_ h=>h) s2 hdd
 have q3:(a.kind==3)=false:=by simp[k3]
 rw[if_neg k3] at hdd hda;by_cases k4:a.kind=4
 ·have q:(a.kind==4)=true:=by simp[k4]
  rw[if_pos k4] at hdd hda;simp only[cH.f0,cH.f2,cH.f4,fJ,lk,lh B1,lp,iA,q0,q1,q2,q3,q,Pk.zb,cG,reduceIte,cT,Nat.reduceAdd];refine aQv HA w hn wa.p hpf wa.h (λhe h1 H1 s1=>?_) (λhe h1 F1 H1 s1=>?_)
  ·rw[if_neg he] at hdd hda;obtain⟨F2,W2,s2⟩:=back H1 s1;exact fin (hh:=0) W2 (vF n) (by rw[hda];exact λ_ h=>h) s2 hdd
  ·rw[if_pos he] at hdd hda;obtain⟨F2,W2,s2⟩:=back H1 s1;exact fin (hh:=0) W2 (oM _) (by rw[hda];exact λ_ h=>h) s2 hdd
 have q4:(a.kind==4)=false:=by simp[k4]
 rw[if_neg k4] at hdd hda;by_cases k5:a.kind=5
 ·have q:(a.kind==5)=true:=by simp[k5]
  rw[if_pos k5] at hdd;simp only[cH.f0,fJ,lk,iA,q0,q1,q2,q3,q4,q,cG,reduceIte,cT,Nat.reduceAdd];obtain⟨Fcd,HCd,HB,eFa,hdis⟩:=aEg HA;refine aUA HCd hn λh1 F1 H1 s1=>?_;obtain⟨W1,sW1⟩:=aG6 HB hdis H1 s1;rw[←eFa] at sW1;obtain⟨F2,W2,s2⟩:=back W1 sW1;simp only[Pk.zb,cG,reduceIte,cT,Nat.reduceAdd];exact fin W2 (oM _) (by rw[hda];exact λ_ h=>h) s2 hdd
 ·have q:(a.kind==5)=false:=by simp[k5]
  rw[if_neg k5] at hdd;obtain⟨F2,W2,s2⟩:=back HA iX.refl;simp only[cH.f0,fJ,lk,iA,q0,q1,q2,q3,q4,q,Pk.zb,cG,reduceIte,cT,Nat.reduceAdd];exact fin (hh:=0) W2 (vF n) (by rw[hda];exact λ_ h=>h) s2 hdd
theorem eO.flip{A B C D:mF}{h:PH}{F:List Nat}(H:eO (eO A B) (eO C D) h F):∃F',eO (eO A D) (eO C B) h F'∧∀x,x∈F'↔x∈F:=by
 obtain⟨Fx,Fy,rfl,⟨Fa,Fb,rfl,ha,hb,d1⟩,⟨Fc,Fd,rfl,hc,hd,d2⟩,d3⟩:=H;refine⟨(Fa++Fd)++(Fc++Fb),⟨Fa++Fd,Fc++Fb,rfl,⟨Fa,Fd,rfl,ha,hd,λx hx hx'=>d3 x (by simp[hx]) (by simp[hx'])⟩,⟨Fc,Fb,rfl,hc,hb,λx hx hx'=>d3 x (by simp[hx']) (by simp[hx])⟩,λx hx hx'=>?_⟩,λx=>?_⟩
 ·rcases jG.1 hx with hx|hx
  ·rcases jG.1 hx' with hx'|hx'
   ·exact d3 x (by simp[hx]) (by simp[hx'])
   ·exact d1 x hx hx'
  ·rcases jG.1 hx' with hx'|hx'
   ·exact d2 x hx' hx
   ·exact d3 x (by simp[hx']) (by simp[hx])
 ·simp only[jG];constructor
  ·rintro((h|h)|(h|h))<;>simp[h]
  ·rintro((h|h)|(h|h))<;>simp[h]
def DTw(t d0 d1 b m:Nat)(A:List Tx)(K:List Nat)(s0 s1:Ch)(n:Nat):mF:=eO (dCh b m A K d0 s0 n) (dRe t (aEh d0 d1) d1 b s1 n)
theorem DTw.good(t d0 d1 b m:Nat)(A:List Tx)(K:List Nat)(s0 s1:Ch)(n:Nat):mA (DTw t d0 d1 b m A K s0 s1 n):=(dCh.good _ _ _ _ _ _ _).star (dRe.good _ _ _ _ _ _)
theorem aX4{r o i:Nat}(hi:i<2):cV PG (indexAt kU (pT r o) (.int .i64 (i:Int)))=some (pT r (o+i)):=by
 have ix:=uZ (P:=PG) (t:=kU) (b:=r) (o:=o) (k:=.i64) (j:=(i:Int)) kU.und iG.info iG.size (by omega) (by omega);rw[ix,qF,zL7]
noncomputable def twA(a b:Ch)(x:jK):List Tx:=if x.id=1 then doA b a x else doA a b x
theorem aUz{t d0 d1 b m:Nat}{A:List Tx}{K:List Nat}{s0 s1:Ch}{n:Nat}{h:PH}{F:List Nat}(H:DTw t d0 d1 b m A K s0 s1 n h F)(x:jK):∃(c o:Nat) (s so:Ch) (F1:List Nat),eO (dCh b m A K c s n) (dRe t (aEh d0 d1) o b so n) h F1∧(∀y,y∈F1↔y∈F)∧(aEh d0 d1)[lH x.id]? =some (pT c 0)∧(aEh d0 d1)[1-lH x.id]? =some (pT o 0)∧(s=s0∨s=s1)∧(kC s so x).2=(iZ s0 s1 x).2∧doA s so x=twA s0 s1 x∧
  ∀(A':List Tx) (n':Nat) (h':PH) (F':List Nat),eO (dCh b m A' K c (kC s so x).1 n') (dRe t (aEh d0 d1) o b so n') h' F'->∃F'',DTw t d0 d1 b m A' K (iZ s0 s1 x).1.1 (iZ s0 s1 x).1.2 n' h' F''∧∀y,y∈F''↔y∈F':=by
 by_cases e:x.id=1
 ·have e1:lH x.id=1:=by unfold lH;rw[if_pos e]
  obtain⟨F1,H1,hF⟩:=eO.flip H;refine⟨d1,d0,s1,s0,F1,H1,hF,by rw[e1];rfl,by rw[e1];rfl,.inr rfl,?_,?_,λA' n' h' F' H'=>?_⟩
  ·unfold iZ;rw[if_pos e]
  ·unfold twA;rw[if_pos e]
  ·obtain⟨F2,H2,hF2⟩:=eO.flip H';refine⟨F2,?_,hF2⟩;unfold iZ;rw[if_pos e];exact H2
 ·have e1:lH x.id=0:=by unfold lH;rw[if_neg e]
  refine⟨d0,d1,s0,s1,F,H,λy=>Iff.rfl,by rw[e1];rfl,by rw[e1];rfl,.inl rfl,?_,?_,λA' n' h' F' H'=>⟨F',?_,λy=>Iff.rfl⟩⟩
  ·unfold iZ;rw[if_neg e]
  ·unfold twA;rw[if_neg e]
  ·unfold iZ;rw[if_neg e];exact H'
theorem aXt{h:PH}{t d0 d1 b m:Nat}{A:List Tx}{K:List Nat}{s0 s1:Ch}{n:Nat}{F:List Nat}(H:DTw t d0 d1 b m A K s0 s1 n h F)(w0:s0.DOk)(w1:s1.DOk)(hn:n≤10000){x:jK}(wx:x.wf)(hd64:x.d.length≤1000000){kk:cD}
  (hk:∀h' F',DTw t d0 d1 b m (twA s0 s1 x++A) K (iZ s0 s1 x).1.1 (iZ s0 s1 x).1.2 (n+1) h' F'->iX h F h' F'->kk (.tuple #[(iZ s0 s1 x).2.1.v,.int .u64 ((iZ s0 s1 x).2.2.1:Int),.int .i64 (iZ s0 s1 x).2.2.2]) h'):
  aT PG aBf #[pT t 0,x.v] h kk:=by
 apply rK.call;unfold rK;obtain⟨c,o,s,so,F1,S,hF,hc,ho,hs,e2,eA,hW⟩:=aUz H x;have w:s.DOk:=by rcases hs with rfl|rfl<;>assumption
 have gC:=λA s n=>dCh.good b m A K c s n;have gR:=λn=>dRe.good t (aEh d0 d1) o b so n;have gS:=λA s n n'=>(gC A s n).star (gR n');intro r1 hr1
 try rw[cZ]
 have u1:dD h (h.set r1 (.cells (Value.cells x.v) cH)):=cU.new hr1;have B1:Bx (h.set r1 (.cells (Value.cells x.v) cH)) r1 x.cells:=Bx.new;generalize h.set r1 (.cells (Value.cells x.v) cH)=h1 at *;intro r3 hr3
 try rw[cZ]
 have u3:dD h1 (h1.set r3 (.cells (dL PG aR) aR)):=cU.new hr3;have Z3:=aR.zbox (h:=h1) (r:=r3);have C1:=B1.ext u3;generalize h1.set r3 (.cells (dL PG aR) aR)=h3 at *;have e3:=u1.trans u3;have k1:h r1=none:=hr1;have k3:h r3=none:=u1.none hr3;have kS:=(gS A s n n).known S;have n1:r1∉F1:=λhm=>kS _ hm k1;have n3:r3∉F1:=λhm=>kS _ hm k3;have li:∀{h'':PH},dD h3 h''->cE PG h'' (loadAt bT (pT r1 1))=some (.int .i64 x.id):=λv=>by rw[bT.load,(C1.ext v).cell];rfl
 have hsd:=aRq x.id;have w1:IntKind.i64.wrap (1-((lH x.id:Nat):Int))=((1-lH x.id:Nat):Int):=by rw[eX (by omega) (by omega)];omega
 have S3:=(gS A s n n).ext S e3;obtain⟨Fc,Fr,eF,HC,⟨Ft,Fo,eFr,⟨-,Bt⟩,HO,-⟩,dcr⟩:=id S3;have lc:cE PG h3 (loadAt iG (pT t (lH x.id)))=some (pT c 0):=by rw[iG.load,Bt.cell];exact hc
 have lo:cE PG h3 (loadAt iG (pT t (1-lH x.id)))=some (pT o 0):=by rw[iG.load,Bt.cell];exact ho
 have ix1:=aX4 (r:=t) (o:=0) (i:=lH x.id) hsd;have ix2:=aX4 (r:=t) (o:=0) (i:=1-lH x.id) (by omega);rw[fJ] at ix1 ix2;have lk:cE PG h3 (loadAt bT (pT r1 0))=some (.int .i64 x.kind):=by rw[bT.load,C1.cell];rfl
 have lh:∀{h'':PH},dD h3 h''->cE PG h'' (loadAt cA (pT r1 2))=some (.int .u64 (x.h:Int)):=λv=>by rw[cA.load,(C1.ext v).cell];rfl
 have ld:cE PG h3 (loadAt bR (pT r1 3))=some (.string (tx x.d)):=by rw[bR.load,C1.cell];rfl
 have lsp:cE PG h3 (loadAt fZ (pT r1 8))=some (.bool x.sp):=by rw[fZ.load,C1.cell];rfl
 have lx:cE PG h3 (loadAt cH (pT r1 0))=some x.v:=cH.agg C1 (by show 0+9≤9;decide)
 -- the second half
 have tail:∀{h5:PH},eO (dCh b m A K c s n) (dRe t (aEh d0 d1) o b so n) h5 F1->iX h3 F1 h5 F1->oH kk (pT r1 0) (pT r3 0) (pT c 0) (pT o 0) (.string (tx (lS so x))) h5:=by
  intro h5 S5 s5;refine aVQ S5 w hn wx hd64 (C1.upd s5.upd n1) n1 rfl (Z3.upd s5.upd n3) n3 λh6 F6 W6 u6 g6=>?_;rw[e2];rw[eA] at W6;obtain⟨F7,W7,hF7⟩:=hW _ _ _ _ W6;refine hk h6 F7 W7 ⟨λbk ob hb hn=>u6 bk ob (s5.upd bk ob (e3.get hb) (λhm=>hn ((hF bk).1 hm))) (λhm=>?_),λbk hb=>?_⟩
  ·rcases gL.1 hm with rfl|hm
   ·rw[k3] at hb;cases hb
   ·exact hn ((hF bk).1 hm)
  ·rcases g6 bk ((hF7 bk).1 hb) with hx|hx
   ·exact .inl ((hF bk).1 hx)
   ·refine .inr ?_;by_cases hm:bk∈F1
    ·exact absurd hx ((gS A s n n).known S5 bk hm)
    ·cases hh:h bk with
     | none=>rfl
     | some ob=>
      have:=s5.upd bk ob (e3.get hh) hm;rw[hx] at this;cases this
 simp only[cH.f1,lL.f0,fJ,li cU.refl,cG,reduceIte,cT,Nat.reduceAdd];refine aL6 x.id ?_;refine⟨li cU.refl,?_⟩;simp only[ix1,lc,cG,reduceIte,cT,Nat.reduceAdd];refine aL6 x.id ?_;refine⟨lc,?_⟩;simp only[w1,ix2,lo,cH.f0,cH.f2,cH.f3,cH.f5,fJ,ld,lsp,cG,reduceIte,cT,Nat.reduceAdd];have plain:¬(x.sp=false∧2≤x.kind∧x.kind≤4)->oH kk (pT r1 0) (pT r3 0) (pT c 0) (pT o 0) (.string (tx x.d)) h3:=λhn=>by
  have:=tail (h5:=h3) S3 iX.refl;unfold lS at this;rw[if_neg hn] at this;exact this
 cases hsp:x.sp with
 | true=>
  simp only[cG,reduceIte,cT,Nat.reduceAdd];exact plain (by rw[hsp];simp)
 | false=>
  by_cases k2:2≤x.kind
  ·have g1:=eq_true k2;by_cases k4:x.kind≤4
   ·have g2:=eq_true k4;simp only[cH.f0,cH.f2,fJ,lk,g1,g2,lx,lh cU.refl,cG,reduceIte,cT,Nat.reduceAdd];refine aPF wx λh4 u4=>?_;refine⟨lh u4,?_⟩;obtain⟨Fcd,HCd,HB,eFc,hdis⟩:=aEg HC;obtain⟨osp,ocp,obv,onv,PO⟩:=id HO;have hob:∀y∈Fo,y∉[b,m]:=λy hy hm=>by
     have h1:y∈Fr:=by rw[eFr];exact zLl _ hy
     simp only[gL,kJ,or_false] at hm;rcases hm with rfl|rfl
     ·exact dcr _ (by rw[eFc];simp) h1
     ·exact dcr _ (by rw[eFc];simp) h1
    refine aTc (s:=so) (n:=n) (HB.ext u4) (mS.good.ext PO u4) hob (aIy x) wx.h λh5 B5 u5=>?_;simp only[cG,reduceIte,cT,Nat.reduceAdd];have hbm:∀y∈[b,m],y∈F1:=λy hy=>by
     rw[eF,eFc];simp only[gL,kJ,or_false] at hy;rcases hy with rfl|rfl<;>simp
    have S5:eO (dCh b m A K c s n) (dRe t (aEh d0 d1) o b so n) h5 F1:=by
     have S4:=(gS A s n n).ext S3 u4;obtain⟨Gc,Gr,eG,HC4,HR4,dcr4⟩:=S4;obtain⟨HC5,-⟩:=aG4 (DC.good c b s n) HC4 B5 u5;refine⟨Gc,Gr,eG,HC5,(gR n).upd HR4 u5 (λy hy hm=>?_),dcr4⟩;obtain⟨Fz,_,_,eGc,_⟩:=aEg HC4;simp only[gL,kJ,or_false] at hm;rcases hm with rfl|rfl
     ·exact dcr4 _ (by rw[eGc];simp) hy
     ·exact dcr4 _ (by rw[eGc];simp) hy
    have:=tail S5 ⟨u4.upd.trans (u5.mono λy hy=>.inl (hbm y hy)),λy hy=>.inl hy⟩;unfold lS at this;rw[if_pos ⟨hsp,k2,k4⟩] at this;exact this
   ·have g2:=eq_false k4;simp only[cH.f0,lk,g1,g2,cG,reduceIte,cT,Nat.reduceAdd];exact plain (by simp[k4])
  ·have g1:=eq_false k2;simp only[cH.f0,lk,g1,cG,reduceIte,cT,Nat.reduceAdd];exact plain (by simp[k2])
theorem aVt(c o:Ch)(a:jK):(kC c o a).1.st.blocks.length≤c.st.blocks.length+1:=by
 rcases aF7 c o a with⟨-,-,e,-⟩|⟨-,b,-,e,-⟩|⟨-,-,e,-⟩|⟨-,-,e,-⟩|⟨-,-,e,-⟩|⟨-,e⟩|⟨e,-⟩<;>rw[e]
 ·exact vF _
 ·exact vF _
 ·exact vF _
 ·exact vF _
 ·exact vF _
 ·rw[(uF c).1];by_cases he:(jV c.st).2.2=0
  ·rw[(aCl he).1];simp
  ·rw[aBl he];omega
 ·omega
theorem aYj{a b:Ch}{i:Nat}(ha:a.st.blocks.length≤i)(hb:b.st.blocks.length≤i)(x:jK):(iZ a b x).1.1.st.blocks.length≤i+1∧(iZ a b x).1.2.st.blocks.length≤i+1:=by
 unfold iZ;split
 ·refine⟨by show a.st.blocks.length≤i+1;omega,?_⟩;show(kC b a x).1.st.blocks.length≤i+1;have:=aVt b a x;omega
 ·refine⟨?_,by show b.st.blocks.length≤i+1;omega⟩;show(kC a b x).1.st.blocks.length≤i+1;have:=aVt a b x;omega
structure TwI(s0 s1:Ch)(A:List Tx):Prop where
 a:pI s0 s1 A
 b:pI s1 s0 A
theorem pI.new{i j:Int}{a b s t:Nat}:pI (Ch.new i a s) (Ch.new j b t) [] where
 ok:=aAF.nil _
 s1:=λp hp=>by simp[Ch.all,Ch.new] at hp
 s2:=⟨λq hq=>by simp[Ch.new] at hq,λb hb q hq=>by
  simp only[Ch.new,fU] at hb;subst hb;cases hq⟩
 s3:=λp hp=>by simp[Ch.all,Ch.new] at hp
 s4:=λp hp=>by simp[Ch.all,Ch.new] at hp
 s5:=λp hp=>by simp[Ch.all,Ch.new] at hp
 cl:=λy hy=>by simp[Ch.new] at hy
 mx:=λ_=>rfl
theorem TwI.new{a b s t:Nat}:TwI (Ch.new 0 a s) (Ch.new 1 b t) []:=⟨pI.new,pI.new⟩
theorem TwI.step{s0 s1:Ch}{x:jK}{A:List Tx}(H:TwI s0 s1 A)(U:aG9 (twA s0 s1 x++A))(i0:s0.id=0)(i1:s1.id=1)(w:x.wf)(ok0:s0.st.Ok)(ok1:s1.st.Ok)(q0:s0.seq<18446744073709551616)(q1:s1.seq<18446744073709551616):TwI (iZ s0 s1 x).1.1 (iZ s0 s1 x).1.2 (twA s0 s1 x++A):=by
 unfold iZ twA at *;by_cases c:x.id=1
 ·rw[if_pos c] at U;rw[if_pos c,if_pos c];obtain⟨h1,h2⟩:=aOg H.b H.a U (by rw[i0,i1];decide) w ok1 ok0 q1;exact⟨h2,h1⟩
 ·rw[if_neg c] at U;rw[if_neg c,if_neg c];obtain⟨h1,h2⟩:=aOg H.a H.b U (by rw[i0,i1];decide) w ok0 ok1 q0;exact⟨h1,h2⟩
theorem TwI.com{s0 s1:Ch}{A:List Tx}(H:TwI s0 s1 A)(ok0:s0.st.Ok):TwI s0.committed s1 A:=by
 refine⟨H.a.com,H.b.other (λp hp=>by rw[aN2];exact hp) (λx b hx=>?_)⟩;rw[(uF s0).1];exact aMm ok0 hx
theorem pI.flat{c o:Ch}{A:List Tx}(H:pI c o A)(hb:c.st.blocks.length<4096):c.committed.blk.flatten=c.all:=by
 unfold Ch.committed;by_cases he:(jV c.st).2.2=0
 ·rw[if_pos he];unfold Ch.all;simp
 ·rw[if_neg he];have hm:c.st.height=18446744073709551615:=by
   unfold jV at he;by_cases h1:c.st.height=18446744073709551615
   ·exact h1
   ·rw[if_neg h1,if_neg (by omega)] at he;exact absurd rfl he
  unfold Ch.all;rw[H.mx hm,zLP]
theorem aXm(b s c r:Nat)(id n:Int):cV PG (build cQ #[(0,pT b 0),(1,.int .i64 id),(2,pT s 0),(3,pT c 0),(4,.int .u64 n),(5,.slice (some ⟨r,0,none⟩) 1 1)])=some (.agg #[pT b 0,.int .i64 id,pT s 0,pT c 0,.int .u64 n,.slice (some ⟨r,0,none⟩) 1 1,.slice none 0 0]):=by kernel_rfl
theorem aNT{h:PH}{b:Nat}(id:Int){n:Nat}(hn:n<18446744073709551616)(seq:Nat){k:cD}(hk:∀h' r F,DC r b (Ch.new id n seq) 1 h' F->dZ h F->dD h h'->k (pT r 0) h'):aT PG aAj #[pT b 0,.int .i64 id,.int .u64 (n:Int),.int .u64 (seq:Int)] h k:=by
 apply aC7.call;unfold aC7;refine aWp n hn λs h1 G S1 f1 u1=>?_;simp only[gA.build0,cG,reduceIte,cT,Nat.reduceAdd];intro r4 hr4
 try rw[cZ]
 have u2:dD h1 (h1.set r4 (.cells (Value.cells (.agg #[.slice none 0 0])) gA)):=cU.new hr4;have C2:xI (h1.set r4 (.cells (Value.cells (.agg #[.slice none 0 0])) gA)) r4 [] [r4]:=⟨.slice none 0 0,[],dM,eD.nil,rfl,by simp⟩;generalize h1.set r4 (.cells (Value.cells (.agg #[.slice none 0 0])) gA)=h2 at *;simp only[aXH,cG,reduceIte,cT,Nat.reduceAdd];intro r6 hr6;refine fL ?_
 try rw[cZ]
 have u3:dD h2 (h2.set r6 (.cells #[.slice none 0 0] dR)):=cU.new hr6;have O3:eD (h2.set r6 (.cells #[.slice none 0 0] dR)) dR 1 (.slice (some ⟨r6,0,none⟩) 1 1) [[.slice none 0 0]] [r6]:=eD.lit (n:=1) (aP7 (.slice none 0 0)) dM (by simp) (by decide) (by simp);have C3:=C2.ext u3;generalize h2.set r6 (.cells #[.slice none 0 0] dR)=h3 at *;simp only[aXm,cG,reduceIte,cT,Nat.reduceAdd];intro r11 hr11
 try rw[cZ]
 have u4:dD h3 (h3.set r11 (.cells (Value.cells (.agg #[pT b 0,.int .i64 id,pT s 0,pT r4 0,.int .u64 (seq:Int),.slice (some ⟨r6,0,none⟩) 1 1,.slice none 0 0])) cQ)):=cU.new hr11;have X4:Bx (h3.set r11 (.cells (Value.cells (.agg #[pT b 0,.int .i64 id,pT s 0,pT r4 0,.int .u64 (seq:Int),.slice (some ⟨r6,0,none⟩) 1 1,.slice none 0 0])) cQ)) r11 ((Ch.new id n seq).dcells b s r4 (.slice (some ⟨r6,0,none⟩) 1 1) (.slice none 0 0)):=Bx.new;generalize h3.set r11 (.cells (Value.cells (.agg #[pT b 0,.int .i64 id,pT s 0,pT r4 0,.int .u64 (seq:Int),.slice (some ⟨r6,0,none⟩) 1 1,.slice none 0 0])) cQ)=h4 at *;have e13:=u2.trans u3;have e14:=e13.trans u4;have kS:∀y∈s::G,h1 y≠none:=λy hy=>(rsA.good _ _).known (show rsA s ⟨[],[[]],n⟩ h1 (s::G) from⟨G,S1,rfl⟩) y hy;have D:DC r11 b (Ch.new id n seq) 1 h4 ([r11]++((s::G)++([r4]++([r6]++[])))):=by
  refine⟨s,r4,.slice (some ⟨r6,0,none⟩) 1 1,.slice none 0 0,eO.mk ⟨rfl,X4⟩ (eO.mk ((rsA.good _ _).ext (show rsA s ⟨[],[[]],n⟩ h1 (s::G) from⟨G,S1,rfl⟩) e14) (eO.mk (C3.ext u4) (eO.mk ⟨_,O3.ext u4,by simp,λr hr u hu=>?_⟩ ⟨[],eD.nil,by simp⟩ ?_) ?_) ?_) ?_⟩
  ·simp only[fU] at hr;subst hr;simp only[fU] at hu;subst hu;rfl
  ·simp
  ·intro y hy hm;simp only[fU,zLP] at hy hm;subst hy;subst hm;have:=C2.known y (by simp);exact this hr6
  ·intro y hy hm;have hk1:=kS y hy;simp only[zLP,zLV,xZ,gL,kJ,or_false] at hm;rcases hm with rfl|rfl
   ·exact hk1 hr4
   ·exact hk1 (u2.none hr6)
  ·intro y hy hm;simp only[fU] at hy;subst hy;simp only[zLP,zLV,xZ,gL,jG,kJ,or_false] at hm;rcases hm with rfl|hm|rfl|rfl
   ·exact kS _ (by simp) (e13.none hr11)
   ·exact kS _ (by simp[hm]) (e13.none hr11)
   ·exact C3.known _ (by simp) hr11
   ·exact O3.known _ (by simp) hr11
 refine hk _ r11 _ D (λy hy=>?_) (dD.trans u1 e14);simp only[zLP,zLV,xZ,gL,jG,kJ,or_false] at hy;rcases hy with rfl|rfl|hy|rfl|rfl
 ·exact(dD.trans u1 e13).none hr11
 ·exact f1 _ (by simp)
 ·exact f1 _ (by simp[hy])
 ·exact u1.none hr4
 ·exact(dD.trans u1 u2).none hr6
theorem aY1(a b:Nat):cV PG (build kU #[(0,pT a 0),(1,pT b 0)])=some (.agg #[pT a 0,pT b 0]):=by kernel_rfl
theorem aYk(a b:Nat):cV PG (build lL #[(0,.agg #[pT a 0,pT b 0])])=some (.agg #[pT a 0,pT b 0]):=by kernel_rfl
theorem aUU{h:PH}{bk mk:Nat}{Kk:List Nat}(HBk:Bk bk mk [] Kk h){a b s0 s1:Nat}(ha:a<18446744073709551616)(hb:b<18446744073709551616){k:cD}(hk:∀h' r d0 d1 F,DTw r d0 d1 bk mk [] Kk (Ch.new 0 a s0) (Ch.new 1 b s1) 1 h' F->(∀y∈F,y∈bk::mk::Kk∨h y=none)->dD h h'->k (pT r 0) h'):aT PG aCp #[pT bk 0,uY a b,uY s0 s1] h k:=by
 apply uM.call;unfold uM;intro r1 hr1
 try rw[cZ]
 have u1:dD h (h.set r1 (.cells (Value.cells (uY a b)) eK)):=cU.new hr1;have B1:Bx (h.set r1 (.cells (Value.cells (uY a b)) eK)) r1 (u2c a b):=Bx.new;generalize h.set r1 (.cells (Value.cells (uY a b)) eK)=h1 at *;intro r3 hr3
 try rw[cZ]
 have u3:dD h1 (h1.set r3 (.cells (Value.cells (uY s0 s1)) eK)):=cU.new hr3;have B3:Bx (h1.set r3 (.cells (Value.cells (uY s0 s1)) eK)) r3 (u2c s0 s1):=Bx.new;have C1:=B1.ext u3;generalize h1.set r3 (.cells (Value.cells (uY s0 s1)) eK)=h3 at *;have i0:∀{r:Nat},cV PG (indexAt eK (pT r 0) (.int .i64 0))=some (pT r 0):=aNs (i:=0) (by decide);have i1:∀{r:Nat},cV PG (indexAt eK (pT r 0) (.int .i64 1))=some (pT r 1):=fun {r}=>by have:=aNs (r:=r) (o:=0) (i:=1) (by decide);rw[fJ] at this;exact this
 have l10:∀{h'':PH},dD h3 h''->cE PG h'' (loadAt cA (pT r1 0))=some (.int .u64 (a:Int)):=λv=>by rw[cA.load,(C1.ext v).cell];rfl
 have l11:∀{h'':PH},dD h3 h''->cE PG h'' (loadAt cA (pT r1 1))=some (.int .u64 (b:Int)):=λv=>by rw[cA.load,(C1.ext v).cell];rfl
 have l30:∀{h'':PH},dD h3 h''->cE PG h'' (loadAt cA (pT r3 0))=some (.int .u64 (s0:Int)):=λv=>by rw[cA.load,(B3.ext v).cell];rfl
 have l31:∀{h'':PH},dD h3 h''->cE PG h'' (loadAt cA (pT r3 1))=some (.int .u64 (s1:Int)):=λv=>by rw[cA.load,(B3.ext v).cell];rfl
 simp only[i0,i1,l10 cU.refl,l11 cU.refl,l30 cU.refl,l31 cU.refl,cG,reduceIte,cT,Nat.reduceAdd];refine aNT 0 ha s0 λh4 p F4 D4 f4 u4=>?_;refine⟨l31 u4,l11 u4,?_⟩;refine aNT 1 hb s1 λh5 q F5 D5 f5 u5=>?_;simp only[aY1,aYk,cG,reduceIte,cT,Nat.reduceAdd];intro r19 hr19
 try rw[cZ]
 have u6:dD h5 (h5.set r19 (.cells (Value.cells (.agg #[pT p 0,pT q 0])) lL)):=cU.new hr19;have X6:Bx (h5.set r19 (.cells (Value.cells (.agg #[pT p 0,pT q 0])) lL)) r19 (aEh p q):=Bx.new;generalize h5.set r19 (.cells (Value.cells (.agg #[pT p 0,pT q 0])) lL)=h6 at *;have e3:dD h h3:=u1.trans u3;have e6:=((e3.trans u4).trans u5).trans u6;have D46:=(DC.good _ _ _ _).ext D4 (u5.trans u6);have D56:=(DC.good _ _ _ _).ext D5 u6;refine hk h6 r19 p q _ (eO.mk (eO.mk ⟨rfl,HBk.ext e6⟩ D46 ?_) (eO.mk ⟨rfl,X6⟩ D56 ?_) ?_) (λy hy=>?_) e6
 ·intro y hy hm;exact HBk.known y hy (e3.none (f4 y hm))
 ·intro y hy hm;simp only[fU] at hy;subst hy;exact(DC.good _ _ _ _).known D5 _ hm hr19
 ·intro y hy hm;rcases jG.1 hm with hm|hm
  ·simp only[fU] at hm;subst hm;rcases jG.1 hy with hy|hy
   ·exact(HBk.ext (((e3.trans u4).trans u5))).known _ hy hr19
   ·exact(DC.good _ _ _ _).known ((DC.good _ _ _ _).ext D4 u5) _ hy hr19
  ·rcases jG.1 hy with hy|hy
   ·exact(HBk.ext (e3.trans u4)).known _ hy (f5 _ hm)
   ·exact(DC.good _ _ _ _).known D4 _ hy (f5 _ hm)
 ·simp only[jG,fU] at hy;rcases hy with(hy|hy)|(rfl|hy)
  ·exact .inl hy
  ·exact .inr (e3.none (f4 y hy))
  ·exact .inr (((e3.trans u4).trans u5).none hr19)
  ·exact .inr ((e3.trans u4).none (f5 y hy))
def aVs(t:Nat)(A:List Tx)(s0 s1:Ch)(n:Nat):mF:=λh F=>∃c0 c1 m d0 d1 b mm K,eO (aQm t c0 c1 m s0 s1) (DTw m d0 d1 b mm A K s0 s1 n) h F
theorem aVs.good(t:Nat)(A:List Tx)(s0 s1:Ch)(n:Nat):mA (aVs t A s0 s1 n) where
 known:=λ⟨_,_,_,_,_,_,_,_,H⟩=>((aQm.good _ _ _ _ _ _).star (DTw.good _ _ _ _ _ _ _ _ _ _)).known H
 upd:=λ⟨c0,c1,m,d0,d1,b,mm,K,H⟩ u hK=>⟨c0,c1,m,d0,d1,b,mm,K,((aQm.good _ _ _ _ _ _).star (DTw.good _ _ _ _ _ _ _ _ _ _)).upd H u hK⟩
def pkE(m:Pk):Value:=.agg m.cells.toArray
def aUu(p:Pk):Pk×Value:=(p,.bool true)
def aUr(l:List Pk)(p:Pk):List Pk:=if p∈l then l else l++[p]
def aQF(b x y:Nat)(lx ly:List Pk):mF:=λh F=>F=[b,x,y]∧Bx h b [.map (some x),.map (some y)]∧jZ pkE h x (lx.map aUu)∧jZ pkE h y (ly.map aUu)∧b≠x∧b≠y∧x≠y
theorem aQF.good(b x y:Nat)(lx ly:List Pk):mA (aQF b x y lx ly) where
 known:=by
  rintro h F ⟨rfl,B,M1,M2,-⟩ z hz;simp only[gL,kJ,or_false] at hz;rcases hz with rfl|rfl|rfl
  ·exact B.known
  ·exact M1.known
  ·exact M2.known
 upd:=by
  rintro h F h' K ⟨rfl,B,M1,M2,hne⟩ u hK;exact⟨rfl,B.upd u (hK b (by simp)),M1.upd u (hK x (by simp)),M2.upd u (hK y (by simp)),hne⟩
def aZD(f:Int)(lx ly:List Pk):List Pk:=if f=1 then ly else lx
def atP(f:Int)(x y:Nat):Nat:=if f=1 then y else x
theorem aQF.put{b x y:Nat}{lx ly:List Pk}{h h':PH}{F:List Nat}(H:aQF b x y lx ly h F){f:Int}{p:Pk}(h0:0≤f)(h1:f≤1)(M:jZ pkE h' (atP f x y) ((aUr (aZD f lx ly) p).map aUu))(u:cU [atP f x y] h h'):aQF b x y (if f=1 then lx else aUr lx p) (if f=1 then aUr ly p else ly) h' F∧iX h F h' F:=by
 obtain⟨rfl,B,M1,M2,n1,n2,n3⟩:=H;have:f=0∨f=1:=by omega
 rcases this with rfl|rfl
 ·refine⟨⟨rfl,B.upd u (by simpa[atP] using n1),M,M2.upd u (by simpa[atP] using n3.symm),n1,n2,n3⟩,⟨u.mono λz hz=>.inl ?_,λz hz=>.inl hz⟩⟩;simp only[atP,fU] at hz;simp[hz]
 ·refine⟨⟨rfl,B.upd u (by simpa[atP] using n2),M1.upd u (by simpa[atP] using n3),M,n1,n2,n3⟩,⟨u.mono λz hz=>.inl ?_,λz hz=>.inl hz⟩⟩;simp only[atP,fU] at hz;simp[hz]
def aVi(a:jK)(e:Int)(K:Pk->Prop):Pk->Prop:=λp=>K p∨(e=0∧a.kind=3∧p=a.p)
structure SI(s0 s1:Ch)(A:List Tx)(G K T:Pk->Prop):Prop where
 d1:vC s0 s1 A G T
 d2:vC s1 s0 A G T
 ak:∀p,K p->G p
 no:∀p,T p->¬G p
theorem aTZ(c o:Ch)(a:jK):(kC c o a).1.id=c.id:=by
 rcases aF7 c o a with⟨-,-,e,-⟩|⟨-,b,-,e,-⟩|⟨-,-,e,-⟩|⟨-,-,e,-⟩|⟨-,-,e,-⟩|⟨-,e⟩|⟨e,-⟩<;>rw[e]
 ·rfl
 ·rfl
 ·rfl
 ·rfl
 ·rfl
 ·exact(uF c).2.2
theorem aXe(s0 s1:Ch)(x:jK):(iZ s0 s1 x).1.1.id=s0.id∧(iZ s0 s1 x).1.2.id=s1.id:=by
 unfold iZ;split
 ·exact⟨rfl,aTZ _ _ _⟩
 ·exact⟨aTZ _ _ _,rfl⟩
theorem aXc{s0 s1:Ch}(h0:KOk s0)(h1:KOk s1){x:jK}(w:x.wf):KOk (iZ s0 s1 x).1.1∧KOk (iZ s0 s1 x).1.2:=by
 unfold iZ;split
 ·exact⟨h0,h1.doP _ w⟩
 ·exact⟨h0.doP _ w,h1⟩
def aR2(s0 s1:Ch)(x:jK):Ch:=if x.id=1 then s1 else s0
theorem SI.mk2{c o:Ch}{x:jK}{A:List Tx}{G K T:Pk->Prop}(ak:∀p,K p->G p)(no:∀p,T p->¬G p)(S:aQY c o x A G T):(∀p,aVi x (kC c o x).2.2.2 K p->xV x (kC c o x).2.2.2 G p)∧∀p,aAe x (kC c o x).2.2.2 T p->¬xV x (kC c o x).2.2.2 G p:=by
 refine⟨λp hp=>?_,λp hp hg=>?_⟩
 ·rcases hp with hp|⟨e,k,rfl⟩
  ·exact .inl (ak p hp)
  ·exact .inl (S.ack e k).2
 ·rcases hp with hp|⟨e,k,rfl⟩
  ·rcases hg with hg|⟨e,k,rfl⟩
   ·exact no p hp hg
   ·exact(S.recv e k).2.2 hp
  ·rcases hg with hg|⟨-,k',-⟩
   ·exact(S.tim e k).2 hg
   ·omega
theorem SI.step{s0 s1:Ch}{x:jK}{A:List Tx}{G K T:Pk->Prop}(H:SI s0 s1 A G K T)(U:aG9 (twA s0 s1 x++A))(i0:s0.id=0)(i1:s1.id=1)(w:x.wf)(ok0:s0.st.Ok)(ok1:s1.st.Ok)(q0:s0.seq<18446744073709551616)(q1:s1.seq<18446744073709551616):
  SI (iZ s0 s1 x).1.1 (iZ s0 s1 x).1.2 (twA s0 s1 x++A) (xV x (iZ s0 s1 x).2.2.2 G) (aVi x (iZ s0 s1 x).2.2.2 K) (aAe x (iZ s0 s1 x).2.2.2 T)∧
  ((iZ s0 s1 x).2.2.2=0->x.kind=2->IntKind.u64.wrap (((aR2 (iZ s0 s1 x).1.1 (iZ s0 s1 x).1.2 x).st.height:Int)+1)<x.p.t∧¬T x.p)∧((iZ s0 s1 x).2.2.2=0->x.kind=3->G x.p)∧((iZ s0 s1 x).2.2.2=0->x.kind=4->¬G x.p):=by
 unfold iZ twA at *;by_cases c:x.id=1
 ·rw[if_pos c] at U;rw[if_pos c,if_pos c];have S:=aOv H.d2 H.d1 U (by rw[i0,i1];decide) (by rw[i0,i1];decide) w ok1 ok0 q1;obtain⟨m1,m2⟩:=SI.mk2 H.ak H.no S;refine⟨⟨S.two,S.one,m1,m2⟩,λe k=>?_,λe k=>(S.ack e k).2,λe k=>(S.tim e k).2⟩;unfold aR2;rw[if_pos c];exact⟨(S.recv e k).2.1,(S.recv e k).2.2⟩
 ·rw[if_neg c] at U;rw[if_neg c,if_neg c];have S:=aOv H.d1 H.d2 U (by rw[i0,i1];decide) (by rw[i0,i1];decide) w ok0 ok1 q0;obtain⟨m1,m2⟩:=SI.mk2 H.ak H.no S;refine⟨⟨S.one,S.two,m1,m2⟩,λe k=>?_,λe k=>(S.ack e k).2,λe k=>(S.tim e k).2⟩;unfold aR2;rw[if_neg c];exact⟨(S.recv e k).2.1,(S.recv e k).2.2⟩
theorem vC.new{i j:Int}{a b s t:Nat}:vC (Ch.new i a s) (Ch.new j b t) [] (λ_=>False) (λ_=>False):=
 ⟨(λy hy=>by cases hy),λp hp _=>False.elim hp,⟨(λq hq=>by cases hq),λbl hb q hq=>by
  simp only[Ch.new,fU] at hb;subst hb;cases hq⟩,λp hp _=>False.elim hp⟩
theorem SI.new{a b s t:Nat}:SI (Ch.new 0 a s) (Ch.new 1 b t) [] (λ_=>False) (λ_=>False) (λ_=>False):=⟨vC.new,vC.new,λ_ h=>h,λ_ h _=>h⟩
theorem aRD{c:Nat}{s:Ch}{h:PH}{F:List Nat}(H:iF c s h F)(k:KOk s):s.DOk∧s.st.Ok:=by
 obtain⟨sp,m,cp,nv,bv,lk,P,perm,ok⟩:=H;obtain⟨Fc,⟨hs,C⟩,-,-⟩:=P.fCli;exact⟨⟨ok.id,ok.seq,⟨hs,C.rank⟩,k.1,k.2⟩,P.okst⟩
theorem fR.tac4{h:PH}{v:Value}{l:List jK}(S:fR h 9 v (l.map jK.cells)){j:Nat}{x:jK}(hx:l[j]? =some x):
  ∃b o,cV PG (indexAt iK v (.int .i64 (j:Int)))=some (pT b o)∧∀h',dD h h'->dF h' ⟨b,o,none⟩=some (.int .i64 x.kind)∧cE PG h' (loadAt cH (pT b o))=some x.v∧cE PG h' (loadAt aR (pT b (o+4)))=some x.p.v:=by
 obtain⟨b,o,cs,e',fr,h1,hb,hle,hex⟩:=S.at iK.und cH.info cH.size (k:=.i64) (j:=(j:Int)) (r:=x.cells) (by omega) (by rw[wN,qF,hx];rfl);have hd:∀i n,i+n≤9->(cs.extract (o+i) (o+i+n)).toList=(x.cells.drop i).take n:=λi n hi=>by
  rw[←hex];simp only[zLC,zLw,aMz,zLx,aIn,List.take_take];congr 1;omega
 refine⟨b,o,h1,λh' u=>?_⟩;have hb':=u.get hb;refine⟨?_,?_,?_⟩
 ·unfold dF;simp only[hb'];have:=congrArg (λl:List Value=>l[0]?) (hd 0 1 (by decide));simp only[zLC,zLw,Nat.add_zero,aMz,aHy,aK2] at this;simpa[jK.cells] using this
 ·rw[cH.loadAgg hb' hle];congr 2;exact zLv (hd 0 9 (by decide))
 ·rw[aR.loadAgg hb' (by omega)];congr 2;exact zLv (hd 4 4 (by decide))
def gF.pk(m:gF):Pk:=⟨m.pfrom,m.pseq,m.ptimeout,m.pdata⟩
def mkM(k to h:Int)(p:Pk)(pf:ByteArray):gF:=⟨k,to,h,p.f,p.s,p.t,p.d,pf⟩
def uA(to h:Int):gF:=⟨1,to,h,0,0,0,⟨#[]⟩,⟨#[]⟩⟩
def gF.put(m:gF)(pf:ByteArray):gF:={m with proof:=pf}
def aEd(c:Ch)(key:Tx)(x:Nat)(m:gF):Option gF:=
 if (uE c.st key x).2=0∧(uE c.st key x).1.head? =some 1 then some (m.put (tx (uE c.st key x).1)) else none
def yY(c0 c1:Ch)(f:Int):Ch:=if f=1 then c1 else c0
noncomputable def rF(c0 c1:Ch)(p:Pk):Option gF:=
 if p.right=true∧oW (yY c0 c1 p.f) p=true then
  (if (gI (yY c0 c1 (1-p.f)).st.now (fS 114 p.s.toNat)).isSome then aEd (yY c0 c1 (1-p.f)) (fS 97 p.s.toNat) (yY c0 c1 (1-p.f)).st.height (mkM 3 p.f (yY c0 c1 (1-p.f)).st.height p ⟨#[]⟩)
  else if IntKind.u64.wrap (p.t-1)≤((yY c0 c1 (1-p.f)).st.height:Int)∨(yY c0 c1 (1-p.f)).st.height=18446744073709551615 then some (mkM 4 p.f (yY c0 c1 (1-p.f)).st.height p (tx (uE (yY c0 c1 (1-p.f)).st (fS 114 p.s.toNat) (yY c0 c1 (1-p.f)).st.height).1))
  else aEd (yY c0 c1 p.f) (fS 99 p.s.toNat) (yY c0 c1 p.f).st.height (mkM 2 (1-p.f) (yY c0 c1 p.f).st.height p ⟨#[]⟩))
 else none
def aBM(known:List Int)(l:List gF)(m:gF):List gF:=if uA m.dest m.height∈l∨m.height∈known then [m] else [uA m.dest m.height,m]
def zU(known:List Int)(batch:Int)(x:List gF×Bool)(m:gF):List gF×Bool:=
 if x.2=true∨batch<((x.1.length+(aBM known x.1 m).length:Nat):Int) then(x.1,true) else(x.1++aBM known x.1 m,false)
def aEc(known:List Int)(batch:Int)(x:List gF×Bool)(ms:List gF):List gF×Bool:=ms.foldl (zU known batch) x
theorem aVY(known:List Int)(l:List gF)(m:gF):1≤(aBM known l m).length∧(aBM known l m).length≤2:=by unfold aBM;split<;>simp
theorem aNw(known:List Int)(batch:Int)(x:List gF×Bool)(m:gF):x.1 <+:(zU known batch x m).1:=by
 unfold zU;split
 ·exact List.prefix_refl _
 ·exact List.prefix_append _ _
theorem aQC(known:List Int)(batch:Int):∀(ms:List gF) (x:List gF×Bool),x.1 <+:(aEc known batch x ms).1
 | [],x=>List.prefix_refl _
 | m::ms,x=>(aNw known batch x m).trans (aQC known batch ms _)
def aHr(x y:List gF×Bool):Prop:=x.1 <+:y.1∧(x.2=false->x=y)
theorem aHr.put{known:List Int}{b c:Int}(hb:b≤c){x y:List gF×Bool}(H:aHr x y)(m:gF):aHr (zU known b x m) (zU known c y m):=by
 obtain⟨h1,h2⟩:=H;cases hx:x.2 with
 | true=>
  have e:zU known b x m=(x.1,true):=by unfold zU;rw[if_pos (.inl hx)]
  rw[e];exact⟨h1.trans (aNw known c y m),λh=>by cases h⟩
 | false=>
  have e:=h2 hx;subst e;by_cases g:b<((x.1.length+(aBM known x.1 m).length:Nat):Int)
  ·have e:zU known b x m=(x.1,true):=by unfold zU;rw[if_pos (.inr g)]
   rw[e];exact⟨(aNw known c x m:x.1 <+:(zU known c x m).1),λh=>by cases h⟩
  ·have hn:¬(x.2=true∨b<((x.1.length+(aBM known x.1 m).length:Nat):Int)):=by rw[hx];simpa using g
   have hn2:¬(x.2=true∨c<((x.1.length+(aBM known x.1 m).length:Nat):Int)):=by rw[hx];simp;omega
   have e1:zU known b x m=(x.1++aBM known x.1 m,false):=by unfold zU;rw[if_neg hn]
   have e2:zU known c x m=(x.1++aBM known x.1 m,false):=by unfold zU;rw[if_neg hn2]
   rw[e1,e2];exact⟨List.prefix_refl _,λ_=>rfl⟩
theorem aHr.puts{known:List Int}{b c:Int}(hb:b≤c):∀(ms:List gF) {x y:List gF×Bool},aHr x y->aHr (aEc known b x ms) (aEc known c y ms)
 | [],x,y,H=>H
 | m::ms,x,y,H=>aHr.puts hb ms (H.put hb m)
theorem aOf{c:Ch}{key:Tx}{x:Nat}{m m':gF}(h:aEd c key x m=some m'):m'=m.put m'.proof∧m'.kind=m.kind∧m'.dest=m.dest∧m'.height=m.height∧m'.pk=m.pk:=by
 unfold aEd at h;split at h
 ·cases h;exact⟨rfl,rfl,rfl,rfl,rfl⟩
 ·cases h
theorem aTB{c0 c1:Ch}{p:Pk}{m:gF}(h:rF c0 c1 p=some m):p.right=true∧oW (yY c0 c1 p.f) p=true∧m.pk=p∧
  ((m.kind=3∧m.dest=p.f∧m.height=(yY c0 c1 (1-p.f)).st.height∧(gI (yY c0 c1 (1-p.f)).st.now (fS 114 p.s.toNat)).isSome=true)∨
   (m.kind=4∧m.dest=p.f∧m.height=(yY c0 c1 (1-p.f)).st.height∧(gI (yY c0 c1 (1-p.f)).st.now (fS 114 p.s.toNat)).isSome=false)∨
   (m.kind=2∧m.dest=1-p.f∧m.height=(yY c0 c1 p.f).st.height∧(gI (yY c0 c1 (1-p.f)).st.now (fS 114 p.s.toNat)).isSome=false)):=by
 unfold rF at h;split at h
 ·rename_i hc;refine⟨hc.1,hc.2,?_⟩;split at h
  ·rename_i hg;obtain⟨-,h1,h2,h3,h4⟩:=aOf h;exact⟨h4,.inl ⟨h1,h2,h3,hg⟩⟩
  ·rename_i hg;have hg:(gI (yY c0 c1 (1-p.f)).st.now (fS 114 p.s.toNat)).isSome=false:=by simpa using hg
   split at h
   ·cases h;exact⟨rfl,.inr (.inl ⟨rfl,rfl,rfl,hg⟩)⟩
   ·obtain⟨-,h1,h2,h3,h4⟩:=aOf h;exact⟨h4,.inr (.inr ⟨h1,h2,h3,hg⟩)⟩
 ·cases h
structure aHH(c c':Ch):Prop where
 id:c'.id=c.id
 bl:c'.st.blocks=c.st.blocks
 ht:c'.st.height=c.st.height
 cl:c.cl <+:c'.cl
 r:∀n,(∃q∈c.st.now,q.k=fS 114 n)->∃q∈c'.st.now,q.k=fS 114 n
 s:∀q∈c'.st.now,∀n,q.k=fS 99 n->q∈c.st.now
theorem aHH.refl(c:Ch):aHH c c:=⟨rfl,rfl,rfl,List.prefix_refl _,λ_ h=>h,λ_ h _ _=>h⟩
theorem aHH.trans{a b c:Ch}(x:aHH a b)(y:aHH b c):aHH a c:=⟨y.id.trans x.id,y.bl.trans x.bl,y.ht.trans x.ht,x.cl.trans y.cl,λn h=>y.r n (x.r n h),λq hq n hk=>x.s q (y.s q hq n hk) n hk⟩
theorem aHH.at{c c':Ch}(H:aHH c c')(x:Nat):oO c'.st x=oO c.st x:=by unfold oO;rw[H.bl,H.ht]
def aQS(s:Ch×Ch)(d:Int):Ch:=if d=1 then s.2 else s.1
structure aJJ(s t:Ch×Ch):Prop where
 a:aHH s.1 t.1
 b:aHH s.2 t.2
theorem aJJ.refl(s:Ch×Ch):aJJ s s:=⟨aHH.refl _,aHH.refl _⟩
theorem aJJ.trans{s t u:Ch×Ch}(x:aJJ s t)(y:aJJ t u):aJJ s u:=⟨x.a.trans y.a,x.b.trans y.b⟩
structure Bnd(c:Ch)(n:Nat):Prop where
 up:rN c.st.now
 now:c.st.now.length≤2*n
 cl:c.cl.length≤n
theorem Bnd.mono{c:Ch}{n m:Nat}(H:Bnd c n)(h:n≤m):Bnd c m:=⟨H.up,by have:=H.now;omega,by have:=H.cl;omega⟩
theorem aW0(l:List gV)(x:gV):(aAS l x).2.length≤l.length+1:=by
 unfold aAS;split
 ·exact vF _
 ·split
  ·exact vF _
  ·split
   ·exact vF _
   ·simp
theorem Bnd.step{c o:Ch}{n:Nat}(H:Bnd c n)(a:jK):Bnd (kC c o a).1 (n+1):=by
 rcases aF7 c o a with⟨-,-,e,-⟩|⟨-,b,-,e,-⟩|⟨-,-,e,-⟩|⟨-,-,e,-⟩|⟨-,-,e,-⟩|⟨-,e⟩|⟨e,-⟩<;>rw[e]
 ·obtain⟨e1,e2,-⟩:=aOE c (jW c a.d a.h);refine⟨by rw[e1];exact H.up.set _,?_,by rw[e2];have:=H.cl;omega⟩;rw[e1];have:=aJY c.st.now ⟨fS 99 c.seq,mL (jW c a.d a.h)⟩;have:=H.now;show(mW _ _).length≤_;omega
 ·exact⟨H.up,by have:=H.now;show c.st.now.length≤_;omega,by have:=aW0 c.cl ⟨(a.h:Int),tx (lB b)⟩;have:=H.cl;show(aAS _ _).2.length≤_;omega⟩
 ·obtain⟨e1,e2,-⟩:=aJd c a.p;refine⟨by rw[e1];exact(H.up.set _).set _,?_,by rw[e2];have:=H.cl;omega⟩;rw[e1];have h1:=aJY c.st.now ⟨fS 114 a.p.s.toNat,[1]⟩;have h2:=aJY (mW c.st.now ⟨fS 114 a.p.s.toNat,[1]⟩) ⟨fS 97 a.p.s.toNat,aBo a.p⟩;have:=H.now;show(mW (mW _ _) _).length≤_;omega
 ·obtain⟨e1,e2,-⟩:=aGJ c 3 a.p;refine⟨by rw[e1];exact H.up.del _,?_,by rw[e2];have:=H.cl;omega⟩;rw[e1];have:=aMb (λq=>decide (q.k≠fS 99 a.p.s.toNat)) c.st.now;have:=H.now;show(uI _ _).length≤_;unfold uI;omega
 ·obtain⟨e1,e2,-⟩:=aGJ c 4 a.p;refine⟨by rw[e1];exact H.up.del _,?_,by rw[e2];have:=H.cl;omega⟩;rw[e1];have:=aMb (λq=>decide (q.k≠fS 99 a.p.s.toNat)) c.st.now;have:=H.now;show(uI _ _).length≤_;unfold uI;omega
 ·obtain⟨e1,e2,-⟩:=uF c;have en:c.committed.st.now=c.st.now:=by
   rw[e1];by_cases he:(jV c.st).2.2=0
   ·rw[(aCl he).1]
   ·rw[aBl he]
  exact⟨by rw[en];exact H.up,by rw[en];have:=H.now;omega,by rw[e2];have:=H.cl;omega⟩
 ·exact H.mono (by omega)
structure aOG(s:Ch×Ch)(n:Nat):Prop where
 a:Bnd s.1 n
 b:Bnd s.2 n
theorem aOG.tw{a b:Ch}{n:Nat}(H:aOG (a,b) n)(x:jK):aOG (iZ a b x).1 (n+1):=by
 unfold iZ;split
 ·exact⟨H.a.mono (by omega),H.b.step x⟩
 ·exact⟨H.a.step x,H.b.mono (by omega)⟩
theorem aOG.one{s:Ch×Ch}{n:Nat}(H:aOG s n)(d:Int):Bnd (aQS s d) n:=by unfold aQS;split;exact H.b;exact H.a
theorem aJJ.one{s t:Ch×Ch}(H:aJJ s t)(d:Int):aHH (aQS s d) (aQS t d):=by unfold aQS;split;exact H.b;exact H.a
def aSY(known:List Int)(l:List gF):Prop:=∀i m,l[i]? =some m->m.kind≠1->m.height∈known∨uA m.dest m.height∈l.take i
theorem aSY.snoc{known:List Int}{l:List gF}{m:gF}(H:aSY known l)(h:m.kind≠1->m.height∈known∨uA m.dest m.height∈l):aSY known (l++[m]):=λi y hy hk=>by
 by_cases c:i<l.length
 ·rw[List.getElem?_append_left c] at hy;rw[zLG (by omega)];exact H i y hy hk
 ·have hl:=(zLz.1 hy).1;rw[jR,zLS] at hl;have e:i=l.length:=by omega
  subst e;simp only[List.getElem?_concat_length,zL8] at hy;subst hy;rw[zLG (oM _),zLI];exact h hk
def jK.clean(x:jK):jK:={x with sp:=false}
theorem jK.clean_wf{x:jK}(w:x.wf):x.clean.wf:=⟨w.h,w.p⟩
noncomputable def aGT(s:Ch×Ch)(x:jK):Ch×Ch:=(iZ s.1 s.2 x.clean).1
noncomputable def aH6(s:Ch×Ch)(l:List jK):Ch×Ch:=l.foldl aGT s
theorem aTq(s:Ch×Ch)(l:List jK)(x:jK):aH6 s (l++[x])=aGT (aH6 s l) x:=by
 unfold aH6;rw[List.foldl_append];rfl
structure aH3(s:Ch×Ch)(i:Nat):Prop where
 i0:s.1.id=0
 i1:s.2.id=1
 n0:s.1.nts.length≤i
 n1:s.2.nts.length≤i
 t0:s.1.tot≤i
 t1:s.2.tot≤i
 b0:s.1.st.blocks.length≤i+1
 b1:s.2.st.blocks.length≤i+1
 k0:KOk s.1
 k1:KOk s.2
 o0:tO s.1
 o1:tO s.2
 bd:aOG s i
theorem aV8{a b:Ch}{i:Nat}(ha:a.tot≤i)(hb:b.tot≤i)(x:jK):(iZ a b x).1.1.tot≤i+1∧(iZ a b x).1.2.tot≤i+1:=by
 unfold iZ;split
 ·obtain⟨-,h⟩:=aOn b a x;refine⟨by show a.tot≤i+1;omega,?_⟩;show(kC b a x).1.tot≤i+1;rw[h];split<;>omega
 ·obtain⟨-,h⟩:=aOn a b x;refine⟨?_,by show b.tot≤i+1;omega⟩;show(kC a b x).1.tot≤i+1;rw[h];split<;>omega
theorem aH3.new{a b s t:Nat}(hs:s<18446744073709551616)(ht:t<18446744073709551616):aH3 (Ch.new 0 a s,Ch.new 1 b t) 0 where
 i0:=rfl
 i1:=rfl
 n0:=oM _
 n1:=oM _
 t0:=oM _
 t1:=oM _
 b0:=oM _
 b1:=oM _
 k0:=⟨by simp[Ch.new],by simp[Ch.new,hts]⟩
 k1:=⟨by simp[Ch.new],by simp[Ch.new,hts]⟩
 o0:=tO.new
 o1:=tO.new
 bd:=⟨⟨List.Pairwise.nil,oM _,oM _⟩,⟨List.Pairwise.nil,oM _,oM _⟩⟩
theorem aH3.tw{s:Ch×Ch}{i:Nat}(H:aH3 s i){x:jK}(w:x.wf):aH3 (iZ s.1 s.2 x).1 (i+1):=by
 obtain⟨e0,e1⟩:=aXe s.1 s.2 x;obtain⟨y0,y1⟩:=aSl s.1 s.2 x H.n0 H.n1;obtain⟨z0,z1⟩:=aXc H.k0 H.k1 w;obtain⟨t0,t1⟩:=aV8 H.t0 H.t1 x;obtain⟨b0,b1⟩:=aYj H.b0 H.b1 x;obtain⟨o0,o1⟩:=H.o0.step H.o1 x;exact⟨by rw[e0];exact H.i0,by rw[e1];exact H.i1,y0,y1,t0,t1,b0,b1,z0,z1,o0,o1,H.bd.tw x⟩
theorem aH3.act{s:Ch×Ch}{i:Nat}(H:aH3 s i){x:jK}(w:x.wf):aH3 (aGT s x) (i+1):=H.tw (jK.clean_wf w)
theorem jK.isC(x:jK):∀u∈x.cells,eP u=true:=λu hu=>by
 simp only[jK.cells,gL,kJ,or_false] at hu;rcases hu with rfl|rfl|rfl|rfl|rfl|rfl|rfl|rfl|rfl<;>rfl
theorem aXB(c o:Ch)(a:jK):(kC c o a).1=if a.kind=0 then(if rD c a.d a.h=0 then c.sent (jW c a.d a.h) else c)
   else if a.kind=1 then(match oO o.st a.h with
    | none=>c
    | some b=>c.told (a.h:Int) (lB b))
   else if a.kind=2 then(if qZ c (tM c a.p (lS o a) (a.h:Int))=0 then c.received a.p else c)
   else if a.kind=3 then(if jH c a.p (xK c a.p (lS o a) (a.h:Int))=0 then c.settled 3 a.p else c)
   else if a.kind=4 then(if jH c a.p (qO c a.p (lS o a) (a.h:Int))=0 then c.settled 4 a.p else c)
   else if a.kind=5 then c.committed
   else c:=by
 unfold kC;split
 ·split<;>rfl
 ·split
  ·cases oO o.st a.h<;>rfl
  ·split
   ·split<;>rfl
   ·split
    ·split<;>rfl
    ·split
     ·split<;>rfl
     ·split<;>rfl
def aCq(c0 c1:Nat)(s:Ch×Ch):mF:=eO (iF c0 s.1) (iF c1 s.2)
theorem aCq.good(c0 c1:Nat)(s:Ch×Ch):mA (aCq c0 c1 s):=(iF.good _ _).star (iF.good _ _)
def aE9(c0 c1:Nat)(j:Nat):Nat:=if j=1 then c1 else c0
def aDg(s:Ch×Ch)(j:Nat):Ch:=if j=1 then s.2 else s.1
theorem aTS(c0 c1:Nat)(s:Ch×Ch)(x:jK):∃W:mF->mF,(∀s',mA (W (iF (aE9 c0 c1 (lH x.id)) s')))∧(kC (aDg s (lH x.id)) (aDg s (1-lH x.id)) x).2=(iZ s.1 s.2 x).2∧
  (∀{h F},W (iF (aE9 c0 c1 (lH x.id)) (kC (aDg s (lH x.id)) (aDg s (1-lH x.id)) x).1) h F->aCq c0 c1 (iZ s.1 s.2 x).1 h F)∧∀{h F},aCq c0 c1 s h F->aBB h F (iF (aE9 c0 c1 (lH x.id)) (aDg s (lH x.id))) W∧∃Fo,iF (aE9 c0 c1 (1-lH x.id)) (aDg s (1-lH x.id)) h Fo:=by
 unfold lH aE9 aDg iZ;by_cases e:x.id=1
 ·simp only[if_pos e,Nat.sub_self,if_true];exact⟨λX=>eO (iF c0 s.1) X,λs'=>(iF.good _ _).star (iF.good _ _),rfl,λH=>H,fun {h F} H=>⟨eO.right (iF.good _ _) H,by
   obtain⟨Fo,_,_,HO,_,_⟩:=H;exact⟨Fo,HO⟩⟩⟩
 ·simp only[if_neg e,Nat.sub_zero,if_true];exact⟨λX=>eO X (iF c1 s.2),λs'=>(iF.good _ _).star (iF.good _ _),rfl,λH=>H,fun {h F} H=>⟨eO.left (iF.good _ _) H,by
   obtain⟨_,Fo,_,_,HO,_⟩:=H;exact⟨Fo,HO⟩⟩⟩
theorem aT4{c0 c1:Nat}{s:Ch×Ch}{h:PH}{F:List Nat}(H:aCq c0 c1 s h F)(k0:KOk s.1)(k1:KOk s.2):(s.1.DOk∧s.1.st.Ok)∧s.2.DOk∧s.2.st.Ok:=by
 obtain⟨Fc,Fd,-,h0,h1,-⟩:=H;exact⟨aRD h0 k0,aRD h1 k1⟩
def arC(c0 c1:Nat):List Value:=[pT c0 0,pT c1 0]
def arV(c0 c1:Nat):Value:=.agg (arC c0 c1).toArray
theorem aNL(c0 c1:Nat){j:Nat}(hj:j<2):(arC c0 c1)[j]? =some (pT (aE9 c0 c1 j) 0):=by
 have:j=0∨j=1:=by omega
 rcases this with rfl|rfl<;>rfl
theorem aOI(c0 c1:Nat):∀u∈arC c0 c1,eP u=true:=λu hu=>by
 simp only[arC,gL,kJ,or_false] at hu;rcases hu with rfl|rfl<;>rfl
def aI5(c0 c1 m d0 d1 b mm:Nat)(K:List Nat)(s:Ch×Ch)(A:List Tx)(n:Nat):mF:=eO (aCq c0 c1 s) (DTw m d0 d1 b mm A K s.1 s.2 n)
theorem aI5.good(c0 c1 m d0 d1 b mm:Nat)(K:List Nat)(s:Ch×Ch)(A:List Tx)(n:Nat):mA (aI5 c0 c1 m d0 d1 b mm K s A n):=(aCq.good _ _ _).star (DTw.good _ _ _ _ _ _ _ _ _ _)
def gF.v(m:gF):Value:=.agg m.cells.toArray
def aR5(o:Option gF):gF:=o.getD gF.zero
theorem gF.isC(m:gF):∀u∈m.cells,eP u=true:=λu hu=>gF.isCell [m] m.cells (by simp) u hu
theorem gF.b0:cV PG (build cI #[])=some gF.zero.v:=by kernel_rfl
theorem gF.b3(to h:Int)(p:Pk):cV PG (build cI #[(1,.int .i64 to),(2,.int .u64 h),(3,p.v)])=some (mkM 0 to h p ⟨#[]⟩).v:=by kernel_rfl
theorem Bx.msg{h:PH}{r:Nat}{m:gF}(B:Bx h r m.cells):cE PG h (loadAt cI (pT r 0))=some m.v:=cI.agg B (by show 0+8≤8;decide)
theorem aQ8{c0 c1:Nat}{s:Ch×Ch}{h:PH}{F:List Nat}(H:aCq c0 c1 s h F){j:Nat}(hj:j<2):∃F',iF (aE9 c0 c1 j) (aDg s j) h F':=by
 obtain⟨F0,F1,-,h0,h1,-⟩:=H;have:j=0∨j=1:=by omega
 rcases this with rfl|rfl
 ·exact⟨F0,h0⟩
 ·exact⟨F1,h1⟩
theorem aOi{h:PH}{c:Nat}{s:Ch}{F:List Nat}(hK:nJ h)(H:iF c s h F)(m:gF){x:Nat}(hm:m.height=(x:Int))(hx:x<18446744073709551616)(key:Tx){kk:cD}
  (hk:∀h',dD h h'->kk (.tuple #[(aR5 (aEd s key x m)).v,.bool (aEd s key x m).isSome]) h'):aT PG aEF #[m.v,pT c 0,.string (tx key)] h kk:=by
 apply aGr.call;unfold aGr;intro r1 hr1
 try rw[cZ]
 have u1:dD h (h.set r1 (.cells (Value.cells m.v) cI)):=cU.new hr1;have B1:Bx (h.set r1 (.cells (Value.cells m.v) cI)) r1 m.cells:=Bx.new;generalize h.set r1 (.cells (Value.cells m.v) cI)=h1 at *;intro r3 hr3
 try rw[cZ]
 have u3:dD h1 (h1.set r3 (.cells (dL PG cI) cI)):=cU.new hr3;have B3:Bx (h1.set r3 (.cells (dL PG cI) cI)) r3 gF.zero.cells:=cI.zbox;have n13:r1≠r3:=B1.apart hr3;have B1:=B1.ext u3;generalize h1.set r3 (.cells (dL PG cI) cI)=h3 at *;have e3:=u1.trans u3;have k1:h r1=none:=hr1;have k3:h r3=none:=u1.none hr3;have lh:cE PG h3 (loadAt cA (pT r1 2))=some (.int .u64 (x:Int)):=by rw[cA.load,B1.cell,←hm];rfl
 simp only[cI.f2,fJ,lh,cG,reduceIte,cT,Nat.reduceAdd];refine aJX (hK.ext e3) ((iF.good _ _).ext H e3) key hx λh4 u4=>?_;have e4:=e3.trans u4;have C1:=B1.ext u4;have C3:=B3.ext u4;have no:aEd s key x m=none->cY PG (dJ cI (pT r3 0) gF.zero.v) h4 λ_ h34=>dY (cE PG h34 (loadAt cI (pT r3 0))) λv35=>kk (.tuple #[v35,.bool false]) h34:=λe=>by
  refine cI.put (vs:=gF.zero.cells) C3 (o:=0) rfl (by show 0+8≤8;decide) (gF.isC _) λh5 B5 u5=>?_;have B5:Bx h5 r3 gF.zero.cells:=B5;simp only[B5.msg,cG,reduceIte,cT,Nat.reduceAdd];have:=hk h5 (e4.fresh u5 (dZ.one k3));rw[e] at this;exact this
 unfold aEd at hk no;generalize uE s.st key x=q at *;obtain⟨pf,e⟩:=q;simp only at hk no ⊢;by_cases he:e=0
 ·have qe:(e !=0)=false:=by rw[he];rfl
  have z:({data:=#[]}:ByteArray)=tx []:=rfl;cases pf with
  | nil=>
   have q2:decide (([]:Tx)=[])=true:=rfl;simp only[kK,qe,z,aCK,q2,gF.b0,cG,reduceIte,cT,Nat.reduceAdd];exact no (by rw[if_neg (by simp)])
  | cons b pf=>
   have q2:decide ((b::pf:Tx)=[])=false:=rfl;have ix:cV PG (Instr.index bR (.string (tx (b::pf))) (.int .i64 0))=some (.int .u8 b.toNat):=zA (j:=0) bR.und rfl;by_cases hb:b=1
   ·have q3:((b.toNat:Int) !=1)=false:=by rw[hb];rfl
    simp only[kK,qe,z,aCK,q2,ix,q3,cI.f4,fJ,cG,reduceIte,cT,Nat.reduceAdd];refine bR.put C1 (o:=7) (by show 7<8;decide) rfl λh5 B5 u5=>?_;have B5:Bx h5 r1 (m.put (tx (b::pf))).cells:=B5;simp only[B5.msg,cG,reduceIte,cT,Nat.reduceAdd];have D3:=C3.upd u5 (by simp only[fU];exact n13.symm);refine cI.put (vs:=(m.put (tx (b::pf))).cells) D3 (o:=0) rfl (by show 0+8≤8;decide) (gF.isC _) λh6 B6 u6=>?_;have B6:Bx h6 r3 (m.put (tx (b::pf))).cells:=B6;simp only[B6.msg,cG,reduceIte,cT,Nat.reduceAdd];have:=hk h6 ((e4.fresh u5 (dZ.one k1)).fresh u6 (dZ.one k3));rw[if_pos ⟨he,by rw[hb];rfl⟩] at this;exact this
   ·have q3:((b.toNat:Int) !=1)=true:=by
     rw[bne_iff_ne];intro h;exact hb (UInt8.toNat_inj.1 (by rw[show(1:UInt8).toNat=1 from rfl];omega))
    simp only[kK,qe,z,aCK,q2,ix,q3,gF.b0,cG,reduceIte,cT,Nat.reduceAdd];exact no (by rw[if_neg (by rintro⟨-,h⟩;simp only[List.head?_cons,zL8] at h;exact hb h)])
 ·have qe:(e !=0)=true:=by rw[bne_iff_ne];exact he
  simp only[kK,qe,gF.b0,cG,reduceIte,cT,Nat.reduceAdd];exact no (by rw[if_neg (λh=>he h.1)])
theorem aUk{s:Ch×Ch}{f:Int}{j:Nat}(hf:f=(j:Int))(hj:j<2):yY s.1 s.2 f=aDg s j∧yY s.1 s.2 (1-f)=aDg s (1-j):=by
 have:j=0∨j=1:=by omega
 rcases this with rfl|rfl<;>rw[hf]<;>exact⟨rfl,rfl⟩
theorem aTz{h:PH}{c0 c1:Nat}{s:Ch×Ch}{F:List Nat}(hK:nJ h)(W:aCq c0 c1 s h F)(p:Pk)(w:p.wf)(stg:Int){kk:cD}
  (hk:∀h',dD h h'->kk (.tuple #[(aR5 (rF s.1 s.2 p)).v,.bool (rF s.1 s.2 p).isSome]) h'):aT PG aGR #[It.val ⟨p,stg⟩,arV c0 c1] h kk:=by
 apply aCF.call;unfold aCF;intro r1 hr1
 try rw[cZ]
 have u1:dD h (h.set r1 (.cells (Value.cells (It.val ⟨p,stg⟩)) eY)):=cU.new hr1;have B1:Bx (h.set r1 (.cells (Value.cells (It.val ⟨p,stg⟩)) eY)) r1 (It.cells ⟨p,stg⟩):=Bx.new;generalize h.set r1 (.cells (Value.cells (It.val ⟨p,stg⟩)) eY)=h1 at *;intro r3 hr3
 try rw[cZ]
 have u3:dD h1 (h1.set r3 (.cells (Value.cells (arV c0 c1)) dB)):=cU.new hr3;have B3:Bx (h1.set r3 (.cells (Value.cells (arV c0 c1)) dB)) r3 (arC c0 c1):=Bx.new;generalize h1.set r3 (.cells (Value.cells (arV c0 c1)) dB)=h3 at *;intro r5 hr5
 try rw[cZ]
 have u5:dD h3 (h3.set r5 (.cells (dL PG cI) cI)):=cU.new hr5;have B5:Bx (h3.set r5 (.cells (dL PG cI) cI)) r5 gF.zero.cells:=cI.zbox;generalize h3.set r5 (.cells (dL PG cI) cI)=h5 at *;have e5:=(u1.trans u3).trans u5;have k5:h r5=none:=(u1.trans u3).none hr5;have lp:cE PG h5 (loadAt aR (pT r1 0))=some p.v:=((B1.ext u3).ext u5).pk rfl;have B3:=B3.ext u5;simp only[eY.f0,lp,cG,reduceIte,cT,Nat.reduceAdd];intro r9 hr9
 try rw[cZ]
 refine aR.fill (vs:=p.cells) hr9 rfl (Pk.isC _) λh9 B9 u9=>?_;have n59:r5≠r9:=B5.apart hr9;have lq:cE PG h9 (loadAt aR (pT r9 0))=some (.agg p.cells.toArray):=B9.pk rfl;simp only[lq,cG,reduceIte,cT,Nat.reduceAdd];refine aKG p λh10 u10=>?_;have e10:=(e5.trans u9).trans u10;have C5:=(B5.ext u9).ext u10;have C3:=(B3.ext u9).ext u10;have C9:=B9.ext u10;have W10:=(aCq.good _ _ _).ext W e10;have K10:=hK.ext e10;have no:∀{h':PH},dD h10 h'->rF s.1 s.2 p=none->cY PG (dJ cI (pT r5 0) gF.zero.v) h' λ_ h34=>dY (cE PG h34 (loadAt cI (pT r5 0))) λv35=>kk (.tuple #[v35,.bool false]) h34:=fun {h'} u e=>by
  refine cI.put (vs:=gF.zero.cells) (C5.ext u) (o:=0) rfl (by show 0+8≤8;decide) (gF.isC _) λh11 B11 u11=>?_;have B11:Bx h11 r5 gF.zero.cells:=B11;simp only[B11.msg,cG,reduceIte,cT,Nat.reduceAdd];have:=hk h11 ((e10.trans u).fresh u11 (dZ.one k5));rw[e] at this;exact this
 have fin:∀{h':PH} {m:gF} {b:Bool},dD h h'->Bx h' r5 gF.zero.cells->kk (.tuple #[m.v,.bool b])=kk (.tuple #[(aR5 (rF s.1 s.2 p)).v,.bool (rF s.1 s.2 p).isSome])->cY PG (dJ cI (pT r5 0) m.v) h' λ_ h34=>dY (cE PG h34 (loadAt cI (pT r5 0))) λv35=>kk (.tuple #[v35,.bool b]) h34:=fun {h' m b} u D5 e=>by
  refine cI.put (vs:=m.cells) D5 (o:=0) rfl (by show 0+8≤8;decide) (gF.isC _) λh11 B11 u11=>?_;have B11:Bx h11 r5 m.cells:=B11;simp only[B11.msg,cG,reduceIte,cT,Nat.reduceAdd];rw[e];exact hk h11 (u.fresh u11 (dZ.one k5))
 unfold rF at no fin;by_cases hr:p.right=true
 case neg=>
  have hr:p.right=false:=by simpa using hr
  have q:((1:Int) !=0)=true:=rfl;simp only[hr,kK,q,gF.b0,cG,reduceIte,cT,Nat.reduceAdd];exact no cU.refl (by rw[if_neg (by rw[hr];simp)])
 obtain⟨f0,f1,-⟩:=Pk.right_iff.1 hr;obtain⟨n,hn⟩:=zLn w.1;have hn2:n<18446744073709551616:=by have:=w.2.1;omega
 have hnt:p.s.toNat=n:=by omega
 obtain⟨j,hj⟩:=zLn f0;have hj2:j<2:=by omega
 obtain⟨ej,ek⟩:=aUk (s:=s) hj hj2;rw[ej,ek,hnt] at no fin;obtain⟨F1,H1⟩:=aQ8 W10 hj2;obtain⟨F2,H2⟩:=aQ8 W10 (j:=1-j) (by omega);have sx:∀{c:Nat} {s:Ch} {h:PH} {F:List Nat},iF c s h F->∃sp,cE PG h (loadAt hQ (pT c 0))=some (pT sp 0)∧(∃Fs,rZ h sp s.st Fs)∧s.st.height<18446744073709551616:=λH=>by
  obtain⟨sp,m,cp,nv,bv,lk,P,perm,ok⟩:=H;obtain⟨Fs,St,-,-⟩:=P.fSt;exact⟨sp,Ch.load0 P.cell,⟨Fs,St⟩,P.okst.h4⟩
 have ix1:=aLg (r:=r3) (o:=0) hj2;have ix2:=aLg (r:=r3) (o:=0) (i:=1-j) (by omega);rw[fJ] at ix1 ix2;have w1:IntKind.i64.wrap (1-(j:Int))=((1-j:Nat):Int):=by rw[eX (by omega) (by omega)];omega
 have lx1:cE PG h10 (loadAt dG (pT r3 j))=some (pT (aE9 c0 c1 j) 0):=by rw[dG.load,C3.cell,aNL c0 c1 hj2]
 have lx2:cE PG h10 (loadAt dG (pT r3 (1-j)))=some (.pointer (some ⟨aE9 c0 c1 (1-j),0,none⟩)):=by rw[dG.load,C3.cell,aNL c0 c1 (by omega)]
 have lf:∀{h'':PH},dD h10 h''->cE PG h'' (loadAt bT (pT r9 0))=some (.int .i64 (j:Int)):=λu=>by rw[bT.load,(C9.ext u).cell,←hj];rfl
 have ls:∀{h'':PH},dD h10 h''->cE PG h'' (loadAt cA (pT r9 1))=some (.int .u64 (n:Int)):=λu=>by rw[cA.load,(C9.ext u).cell,←hn];rfl
 have lpk:∀{h'':PH},dD h10 h''->cE PG h'' (loadAt aR (pT r9 0))=some p.v:=λu=>(C9.ext u).pk rfl;generalize aDg s j=a at *;generalize aDg s (1-j)=b at *;generalize aE9 c0 c1 j=x at *;generalize aE9 c0 c1 (1-j)=y at *;rw[hj] at no fin;obtain⟨sa,la,⟨Fa,Sa⟩,ha64⟩:=sx H1;have la':∀{h'':PH},dD h10 h''->cE PG h'' (loadAt hQ (pT x 0))=some (pT sa 0):=λu=>by
  obtain⟨sp,m,cp,nv,bv,lk,P,perm,ok⟩:=id H1;have e1:=la;rw[Ch.load0 P.cell] at e1;rw[Ch.load0 (P.cell.ext u)];exact e1
 obtain⟨sb,lb,⟨Fb,Sb⟩,hb64⟩:=sx H2;have lb':∀{h'':PH},dD h10 h''->cE PG h'' (loadAt hQ (pT y 0))=some (pT sb 0):=λu=>by
  obtain⟨sp,m,cp,nv,bv,lk,P,perm,ok⟩:=id H2;have e1:=lb;rw[Ch.load0 P.cell] at e1;rw[Ch.load0 (P.cell.ext u)];exact e1
 have q0:((0:Int) !=0)=false:=rfl;simp only[hr,kK,q0,aR.f0,aR.f1,dX.f0,eZ.f0,fJ,lf cU.refl,ix1,lx1,w1,ix2,lx2,la,ls cU.refl,cG,reduceIte,cT,Nat.reduceAdd];refine aIZ hn2 λh11 u11=>?_;refine⟨la' u11,?_⟩;refine aME (Sa.ext u11) (fS 99 n) ?_;have hsx:oW a p=(match gI a.st.now (fS 99 n) with
  | some q=>decide (q.v=mL p)
  | none=>false):=by unfold oW;rw[hnt];rfl
 generalize hg:gI a.st.now (fS 99 n)=og at *;cases og with
 | none=>
  simp only[zLu,gF.b0,cG,reduceIte,cT,Nat.reduceAdd];exact no u11 (by rw[if_neg (by rw[hsx];simp)])
 | some q=>
  simp only[aMe,aH7,aH8,lpk u11,cG,reduceIte,cT,Nat.reduceAdd];refine aFd w (K10.ext u11) λh12 u12=>?_;have e12:=u11.trans u12;by_cases hv:q.v=mL p
  case neg=>
   have q1:(!decide (q.v=mL p))=true:=by simp[hv]
   simp only[aDS,q1,gF.b0,cG,reduceIte,cT,Nat.reduceAdd];exact no e12 (by rw[if_neg (by rw[hsx];simp[hv])])
  have hs:oW a p=true:=by rw[hsx];simp[hv]
  have q1:(!decide (q.v=mL p))=false:=by simp[hv]
  simp only[aDS,q1,lf e12,lb' e12,lpk e12,cG,reduceIte,cT,Nat.reduceAdd];refine aJN (Sb.ext e12) ?_;refine⟨lpk e12,lf e12,?_⟩;simp only[gF.b3,cG,reduceIte,cT,Nat.reduceAdd];intro r74 hr74
  try rw[cZ]
  refine cI.fill (vs:=(mkM 0 (j:Int) (b.st.height:Int) p ⟨#[]⟩).cells) hr74 rfl (gF.isC _) λh15 B15 u15=>?_;have e15:=e12.trans u15;have k74:h r74=none:=(e10.trans e12).none hr74;simp only[lb' e15,ls e15,cG,reduceIte,cT,Nat.reduceAdd];refine aDW hn2 λh16' u16=>?_;refine⟨lb' (e15.trans u16),?_⟩;refine aME ((Sb.ext e15).ext u16) (fS 114 n) ?_;have e16':=e15.trans u16;have e16:=e10.trans e16';have D74:=B15.ext u16;have D5:=C5.ext e16';have D9:=C9.ext e16';have n574:r5≠r74:=(C5.ext e12).apart hr74;have n974:r9≠r74:=(C9.ext e12).apart hr74;have G1:=(iF.good _ _).ext H1 e16';have G2:=(iF.good _ _).ext H2 e16';have m74b:r74∉F2:=λhm=>(iF.good _ _).known ((iF.good _ _).ext H2 e12) _ hm hr74;have m74a:r74∉F1:=λhm=>(iF.good _ _).known ((iF.good _ _).ext H1 e12) _ hm hr74;by_cases g2:(gI b.st.now (fS 114 n)).isSome=true
  ·simp only[g2,cI.f0,cG,reduceIte,cT,Nat.reduceAdd];refine bT.put D74 (o:=0) (by show 0<8;decide) rfl λh18 G18 u18=>?_;have G18:Bx h18 r74 (mkM 3 (j:Int) (b.st.height:Int) p ⟨#[]⟩).cells:=G18;have ls18:cE PG h18 (loadAt cA (pT r9 1))=some (.int .u64 (n:Int)):=by rw[cA.load,(D9.upd u18 (by simpa using n974)).cell,←hn];rfl
   have e18:=e16.fresh u18 (dZ.one k74);simp only[G18.msg,ls18,cG,reduceIte,cT,Nat.reduceAdd];refine aJi hn2 λh19 u19=>?_;refine⟨(G18.ext u19).msg,?_⟩;refine aOi (hK.ext (e18.trans u19)) ((iF.good _ _).ext ((iF.good _ _).upd G2 u18 (λz hz=>by simp only[fU];rintro rfl;exact m74b hz)) u19) (mkM 3 (j:Int) (b.st.height:Int) p ⟨#[]⟩) rfl hb64 (fS 97 n) λh20 u20=>?_;simp only[cG,reduceIte,cT,Nat.reduceAdd];refine fin ((e18.trans u19).trans u20) (((D5.upd u18 (by simpa using n574)).ext u19).ext u20) ?_;rw[if_pos ⟨hr,hs⟩,if_pos g2]
  have g2:(gI b.st.now (fS 114 n)).isSome=false:=by simpa using g2
  have lt:cE PG h16' (loadAt cA (pT r9 2))=some (.int .u64 p.t):=by rw[cA.load,D9.cell];rfl
  have lh:cE PG h16' (loadAt cA (pT r74 2))=some (.int .u64 (b.st.height:Int)):=by rw[cA.load,D74.cell];rfl
  by_cases hA:IntKind.u64.wrap (p.t-1)≤(b.st.height:Int)
  ·have pA:=eq_true hA;simp only[g2,cI.f2,aR.f2,lh,lt,aK3,pA,cI.f0,cG,reduceIte,cT,Nat.reduceAdd];refine bT.put D74 (o:=0) (by show 0<8;decide) rfl λh18 G18 u18=>?_;have G18:Bx h18 r74 (mkM 4 (j:Int) (b.st.height:Int) p ⟨#[]⟩).cells:=G18;have ls18:cE PG h18 (loadAt cA (pT r9 1))=some (.int .u64 (n:Int)):=by rw[cA.load,(D9.upd u18 (by simpa using n974)).cell,←hn];rfl
   have lt18:∀{h'':PH},dD h18 h''->cE PG h'' (loadAt cA (pT r74 2))=some (.int .u64 (b.st.height:Int)):=λu=>by rw[cA.load,(G18.ext u).cell];rfl
   have e18:=e16.fresh u18 (dZ.one k74);simp only[aR.f1,cI.f2,fJ,ls18,lt18 cU.refl,cG,reduceIte,cT,Nat.reduceAdd];refine aDW hn2 λh19 u19=>?_;refine⟨lt18 u19,?_⟩;refine aJX (hK.ext (e18.trans u19)) ((iF.good _ _).ext ((iF.good _ _).upd G2 u18 (λz hz=>by simp only[fU];rintro rfl;exact m74b hz)) u19) (fS 114 n) hb64 λh20 u20=>?_;simp only[cI.f4,fJ,cG,reduceIte,cT,Nat.reduceAdd];refine bR.put ((G18.ext u19).ext u20) (o:=7) (by show 7<8;decide) rfl λh21 G21 u21=>?_;have G21:Bx h21 r74 (mkM 4 (j:Int) (b.st.height:Int) p (tx (uE b.st (fS 114 n) b.st.height).1)).cells:=G21;simp only[G21.msg,cG,reduceIte,cT,Nat.reduceAdd];refine fin (((e18.trans u19).trans u20).fresh u21 (dZ.one k74)) ((((D5.upd u18 (by simpa using n574)).ext u19).ext u20).upd u21 (by simpa using n574)) ?_;rw[if_pos ⟨hr,hs⟩,if_neg (by rw[g2];simp),if_pos (.inl hA)];rfl
  have pA:=eq_false hA;by_cases hB:b.st.height=18446744073709551615
  ·have pB:((b.st.height:Int)==18446744073709551615)=true:=by rw[hB];rfl
   simp only[g2,cI.f2,aR.f2,lh,lt,aK3,pA,iA,pB,cI.f0,cG,reduceIte,cT,Nat.reduceAdd];refine bT.put D74 (o:=0) (by show 0<8;decide) rfl λh18 G18 u18=>?_;have G18:Bx h18 r74 (mkM 4 (j:Int) (b.st.height:Int) p ⟨#[]⟩).cells:=G18;have ls18:cE PG h18 (loadAt cA (pT r9 1))=some (.int .u64 (n:Int)):=by rw[cA.load,(D9.upd u18 (by simpa using n974)).cell,←hn];rfl
   have lt18:∀{h'':PH},dD h18 h''->cE PG h'' (loadAt cA (pT r74 2))=some (.int .u64 (b.st.height:Int)):=λu=>by rw[cA.load,(G18.ext u).cell];rfl
   have e18:=e16.fresh u18 (dZ.one k74);simp only[aR.f1,cI.f2,fJ,ls18,lt18 cU.refl,cG,reduceIte,cT,Nat.reduceAdd];refine aDW hn2 λh19 u19=>?_;refine⟨lt18 u19,?_⟩;refine aJX (hK.ext (e18.trans u19)) ((iF.good _ _).ext ((iF.good _ _).upd G2 u18 (λz hz=>by simp only[fU];rintro rfl;exact m74b hz)) u19) (fS 114 n) hb64 λh20 u20=>?_;simp only[cI.f4,fJ,cG,reduceIte,cT,Nat.reduceAdd];refine bR.put ((G18.ext u19).ext u20) (o:=7) (by show 7<8;decide) rfl λh21 G21 u21=>?_;have G21:Bx h21 r74 (mkM 4 (j:Int) (b.st.height:Int) p (tx (uE b.st (fS 114 n) b.st.height).1)).cells:=G21;simp only[G21.msg,cG,reduceIte,cT,Nat.reduceAdd];refine fin (((e18.trans u19).trans u20).fresh u21 (dZ.one k74)) ((((D5.upd u18 (by simpa using n574)).ext u19).ext u20).upd u21 (by simpa using n574)) ?_;rw[if_pos ⟨hr,hs⟩,if_neg (by rw[g2];simp),if_pos (.inr hB)];rfl
  have pB:((b.st.height:Int)==18446744073709551615)=false:=by rw[beq_eq_false_iff_ne];omega
  simp only[g2,cI.f2,aR.f2,lh,lt,aK3,pA,iA,pB,cI.f0,cI.f1,lf e16',w1,la' e16',cG,reduceIte,cT,Nat.reduceAdd];refine aJN (Sa.ext e16') ?_;refine⟨lf e16',?_⟩;refine bT.put D74 (o:=0) (by show 0<8;decide) rfl λh18 G18 u18=>?_;have D9':=D9.upd u18 (by simpa using n974);refine⟨by rw[bT.load,D9'.cell,←hj];rfl,?_⟩;refine bT.put G18 (o:=1) (by show 1<8;decide) rfl λh19 G19 u19=>?_;refine cA.put G19 (o:=2) (by show 2<8;decide) rfl λh20 G20 u20=>?_;have G20:Bx h20 r74 (mkM 2 ((1-j:Nat):Int) (a.st.height:Int) p ⟨#[]⟩).cells:=G20;have u3:cU [r74] h16' h20:=(u18.trans u19).trans u20;have ls20:cE PG h20 (loadAt cA (pT r9 1))=some (.int .u64 (n:Int)):=by rw[cA.load,(D9.upd u3 (by simpa using n974)).cell,←hn];rfl
  have e20:=e16.fresh u3 (dZ.one k74);simp only[G20.msg,ls20,cG,reduceIte,cT,Nat.reduceAdd];refine aIZ hn2 λh21 u21=>?_;refine⟨(G20.ext u21).msg,?_⟩;refine aOi (hK.ext (e20.trans u21)) ((iF.good _ _).ext ((iF.good _ _).upd G1 u3 (λz hz=>by simp only[fU];rintro rfl;exact m74a hz)) u21) (mkM 2 ((1-j:Nat):Int) (a.st.height:Int) p ⟨#[]⟩) rfl ha64 (fS 99 n) λh22 u22=>?_;simp only[cG,reduceIte,cT,Nat.reduceAdd];refine fin ((e20.trans u21).trans u22) (((D5.upd u3 (by simpa using n574)).ext u21).ext u22) ?_;rw[if_pos ⟨hr,hs⟩,if_neg (by rw[g2];simp),if_neg (by rintro(h|h);exact hA h;exact hB h),show(1-(j:Int))=((1-j:Nat):Int) by omega]
theorem aWF{h:PH}{x fv:Value}{xs:List gF}{f:gF->Bool}(hx:fR h 8 x (xs.map gF.cells))(hl:xs.length≤1000000)
  (hf:∀p∈xs,∀h',dD h h'->∀k':Value->PH->Prop,(∀h'',dD h' h''->k' (.bool (f p)) h'')->yP PG fv #[.agg p.cells.toArray] h' k') {k:cD}
  (hk:∀h',dD h h'->k (.bool (xs.any f)) h'):aT PG mD #[x,fv] h k:=by
 have lx:=hx.len (t':=bT) cX.und;rw[iU] at lx;apply kZ.call;unfold kZ;apply lM.call;unfold lM;simp only[lx,cG,reduceIte];refine⟨λvs h'=>∃i:Nat,i≤xs.length∧vs=[x,fv,.int .i64 xs.length,.int .i64 i]∧dD h h'∧∀p∈xs.take i,f p=false,gY xs.length 3,⟨0,by omega,rfl,cU.refl,by simp⟩,?_⟩;rintro ρ h' ⟨i,hi,hvs,w,hq⟩;simp only[iJ,iV,kW,and_true] at hvs;obtain⟨e0,e1,e2,e5⟩:=hvs;rw[e0,e1,e2,e5];unfold qU;by_cases hlt:i<xs.length
 ·have hd:((i:Int)<(xs.length:Int))=True:=by apply eq_true;omega
  obtain⟨m,hm⟩:∃m,xs[i]? =some m:=⟨_,lU hlt⟩;obtain⟨a,a1,a2⟩:=(hx.ext w).msg (k:=.i64) (j:=(i:Int)) (by omega) (by rw[qF];exact hm);have ei:=qG (i:=i) (by omega);simp only[hd,a1,a2,cG,reduceIte];refine hf m (rA hm) _ w _ λh2 u2=>?_;cases c:f m with
  | true=>
   have h0:(0≤(i:Int))=True:=by apply eq_true;omega
   have hin:xs.any f=true:=List.any_eq_true.2 ⟨m,rA hm,c⟩;have:=hk _ (w.trans u2);rw[hin] at this;simp only[h0,cG,reduceIte];exact this
  | false=>
   simp only[ei,cG,reduceIte];refine⟨⟨i+1,by omega,rfl,w.trans u2,?_⟩,by simp[gY,e5];omega⟩;intro p hp;rw[zLT,hm] at hp;rcases jG.1 hp with hp|hp
   ·exact hq p hp
   ·simp at hp;subst hp;exact c
 ·have hd:((i:Int)<(xs.length:Int))=False:=by apply eq_false;omega
  have h0:(0≤(-1:Int))=False:=by apply eq_false;omega
  rw[mU (by omega)] at hq;have hin:xs.any f=false:=by
   rw[List.any_eq_false];intro p hp;simp[hq p hp]
  have:=hk _ w;rw[hin] at this;simp only[hd,h0,cG,reduceIte];exact this
theorem aW4{h:PH}{x:Value}{xs:List Int}(hx:fR h 1 x (xs.map vM))(y:Int){k:cD}(hk:k (.bool (decide (y∈xs))) h):aT PG qP #[x,.int .u64 y] h k:=by
 have hsm:=hx.small;simp only[qN,iU] at hsm;have lx:=hx.len (t':=bT) dP.und;rw[iU] at lx;apply oK.call;unfold oK;apply pU.call;unfold pU;simp only[lx,cG,reduceIte];refine⟨λvs h'=>∃i:Nat,i≤xs.length∧vs=[x,.int .u64 y,.int .i64 xs.length,.int .i64 i]∧h'=h∧y∉xs.take i,gY xs.length 3,⟨0,by omega,rfl,rfl,by simp⟩,?_⟩;rintro ρ h' ⟨i,hi,hvs,rfl,hq⟩;simp only[iJ,iV,kW,and_true] at hvs;obtain⟨e0,e1,e2,e5⟩:=hvs;rw[e0,e1,e2,e5];unfold aAV;by_cases hlt:i<xs.length
 ·have hd:((i:Int)<(xs.length:Int))=True:=by apply eq_true;omega
  obtain⟨m,hm⟩:∃m,xs[i]? =some m:=⟨_,lU hlt⟩;obtain⟨a,a1,a2⟩:=hx.loadCell dP.und cA.info cA.size cA.und rfl (k:=.i64) (j:=(i:Int)) (x:=.int .u64 m) (by omega) (by rw[qF,wN,hm];rfl);have ei:=qG (i:=i) (by omega);by_cases c:y=m
  ·have q:(y==m)=true:=by simp[c]
   have h0:(0≤(i:Int))=True:=by apply eq_true;omega
   have hin:decide (y∈xs)=true:=decide_eq_true (c▸rA hm);rw[hin] at hk;simp only[hd,a1,a2,iA,q,h0,cG,reduceIte];exact hk
  ·have q:(y==m)=false:=by simp[c]
   simp only[hd,a1,a2,iA,q,ei,cG,reduceIte];refine⟨⟨i+1,by omega,rfl,by first|rfl|trivial,?_⟩,by simp[gY,e5];omega⟩;rw[zLT,hm];intro hp;rcases jG.1 hp with hp|hp
   ·exact hq hp
   ·simp at hp;exact c hp
 ·have hd:((i:Int)<(xs.length:Int))=False:=by apply eq_false;omega
  have h0:(0≤(-1:Int))=False:=by apply eq_false;omega
  rw[mU (by omega)] at hq;have hin:decide (y∈xs)=false:=decide_eq_false hq;rw[hin] at hk;simp only[hd,h0,cG,reduceIte];exact hk
theorem gF.bu(to h:Int):cV PG (build cI #[(0,.int .i64 1),(1,.int .i64 to),(2,.int .u64 h)])=some (uA to h).v:=by kernel_rfl
theorem gF.lit2v(m m':gF):jM PG (buildSlice cX 2 #[(0,m.v),(1,m'.v)])=some (.cells (m.cells++m'.cells).toArray cI,λr=>pure (.slice (some ⟨r,0,none⟩) 2 2)):=by kernel_rfl
theorem gF.lit1v(m:gF):jM PG (buildSlice cX 1 #[(0,m.v)])=some (.cells m.cells.toArray cI,λr=>pure (.slice (some ⟨r,0,none⟩) 1 1)):=by kernel_rfl
def aEJ(batch:Int)(x:List gF×Bool)(more:List gF):List gF×Bool:=if x.2=true∨batch<((x.1.length+more.length:Nat):Int) then(x.1,true) else(x.1++more,false)
theorem aTf{h:PH}{r o:Nat}{cs:List Value}{v:Value}{x:List gF×Bool}{G:List Nat}(B:Bx h r cs)(h1:cs[o]? =some v)(h2:cs[o+1]? =some (.bool x.2))(O:eD h cI 8 v (x.1.map gF.cells) G)(nr:r∉G){v9:Value}{more:List gF}(S:fR h 8 v9 (more.map gF.cells))(n9:∀a n c,v9= .slice (some a) n c->a.block≠r)(hl:x.1.length+more.length≤100000){batch:Int}{R:cD}
  (hk:∀h' v' G',Bx h' r ((cs.set (o+1) (.bool (aEJ batch x more).2)).set o v')->eD h' cI 8 v' ((aEJ batch x more).1.map gF.cells) G'->r∉G'->cU (r::G) h h'->(∀y∈G',y∈G∨h y=none)->R (.tuple #[]) h'):
  xE R (pT r o) (.int .i64 batch) v9 h:=by
 unfold xE;have hol:o+1<cs.length:=(zLz.1 h2).1;have lv:∀{h':PH} {c':List Value},Bx h' r c'->c'[o]? =some v->cE PG h' (loadAt cX (pT r o))=some v:=λB e=>by rw[cX.load,B.cell];exact e
 have lb:cE PG h (loadAt fZ (pT r (o+1)))=some (.bool x.2):=by rw[fZ.load,B.cell];exact h2
 have l1:cV PG (Builtin.len_ #[cX] bT #[v])=some (.int .i64 (x.1.length:Int)):=by
  have:=O.slR.len (t':=bT) cX.und;rw[iU] at this;exact this
 have l2:cV PG (Builtin.len_ #[cX] bT #[v9])=some (.int .i64 (more.length:Int)):=by
  have:=S.len (t':=bT) cX.und;rw[iU] at this;exact this
 have wl:IntKind.i64.wrap ((x.1.length:Int)+(more.length:Int))=((x.1.length+more.length:Nat):Int):=by rw[eX (by omega) (by omega)];omega
 have vc:eP v=true:=by
  obtain⟨a,c,e,-⟩:=O.slR.here;rw[e];rfl
 -- full, or not
 have full:aEJ batch x more=(x.1,true)->cY PG (dJ fZ (pT r (o+1)) (.bool true)) h λ_ h96=>dY (cE PG h96 (loadAt fZ (pT r (o+1)))) λv99=>dY (cV PG (Op.unary UnOp.not v99)) λv100=>dI v100
   (dY (cE PG h96 (loadAt cX (pT r o))) λv103=>
    cY PG (Builtin.append_ #[cX,cX] cX #[v103,v9]) h96 λv104 h105=>
    cY PG (dJ cX (pT r o) v104) h105 λ_ h109=>R (.tuple #[]) h109) (R (.tuple #[]) h96):=λe=>by
  refine fZ.put B hol rfl λh3 B3 u3=>?_;have l3:cE PG h3 (loadAt fZ (pT r (o+1)))=some (.bool true):=by rw[fZ.load,B3.cell];simp[hol]
  simp only[l3,cG,reduceIte,cT,Nat.reduceAdd];rw[e] at hk;refine hk h3 v G ?_ (O.upd u3 (λy hy hm=>by simp only[fU] at hm;exact nr (hm▸hy))) nr (u3.mono λy hy=>.inl (by simp only[fU] at hy;simp[hy])) (λy hy=>.inl hy);have:(cs.set (o+1) (.bool true)).set o v=cs.set (o+1) (.bool true):=by
   apply List.ext_getElem?;intro i;by_cases hi:i=o
   ·subst hi;rw[List.getElem?_set_self (by simp;omega),List.getElem?_set_ne (by omega),h1]
   ·rw[List.getElem?_set_ne (Ne.symm hi)]
  rw[this];exact B3
 have room:aEJ batch x more=(x.1++more,false)->cY PG (dJ fZ (pT r (o+1)) (.bool false)) h λ_ h96=>dY (cE PG h96 (loadAt fZ (pT r (o+1)))) λv99=>dY (cV PG (Op.unary UnOp.not v99)) λv100=>dI v100
   (dY (cE PG h96 (loadAt cX (pT r o))) λv103=>
    cY PG (Builtin.append_ #[cX,cX] cX #[v103,v9]) h96 λv104 h105=>
    cY PG (dJ cX (pT r o) v104) h105 λ_ h109=>R (.tuple #[]) h109) (R (.tuple #[]) h96):=λe=>by
  refine fZ.put B hol rfl λh3 B3 u3=>?_;have l3:cE PG h3 (loadAt fZ (pT r (o+1)))=some (.bool false):=by rw[fZ.load,B3.cell];simp[hol]
  have h3v:(cs.set (o+1) (.bool false))[o]? =some v:=by rw[List.getElem?_set_ne (by omega)];exact h1
  have O3:=O.upd u3 (λy hy hm=>by simp only[fU] at hm;exact nr (hm▸hy));have k3:h r≠none:=B.known
  -- the slice's cells stay
  have S3:fR h3 8 v9 (more.map gF.cells):=S.upd u3 (λa c e hne hm=>n9 a c e hne (by simpa using hm));simp only[l3,lv B3 h3v,cG,reduceIte,cT,Nat.reduceAdd];refine jF cX.und cX.und cI.info cI.size cI.bytes cI.zero rfl (by decide) O3 S3 (gF.isCell more) (by simp only[iU];omega) ?_;intro v4 h4 G4 O4 u4 k4 _;have B4:=B3.upd u4 nr;have nr4:r∉G4:=λhm=>by
   rcases k4 r hm with hx|hx
   ·exact nr hx
   ·exact B3.known hx
  have v4c:eP v4=true:=by
   obtain⟨a,c,e,-⟩:=O4.slR.here;rw[e];rfl
  refine cX.put B4 (o:=o) (by simp;omega) v4c λh5 B5 u5=>?_;rw[←qX] at O4;rw[e] at hk;refine hk h5 v4 G4 B5 (O4.upd u5 (λy hy hm=>by simp only[fU] at hm;exact nr4 (hm▸hy))) nr4 (((u3.mono λy hy=>.inl (by simp only[fU] at hy;simp[hy])).trans (u4.mono λy hy=>.inl (by simp[hy]))).trans (u5.mono λy hy=>.inl (by simp only[fU] at hy;simp[hy]))) (λy hy=>?_);rcases k4 y hy with hx|hx
  ·exact .inl hx
  ·by_cases hy2:y=r
   ·exact absurd hx (by rw[hy2];exact B3.known)
   ·cases e9:h y with
    | none=>exact .inr rfl
    | some ob=>
     have:=u3 y ob e9 (by simpa using hy2);rw[hx] at this;cases this
 cases hx:x.2 with
 | true=>
  rw[hx] at lb;have e:aEJ batch x more=(x.1,true):=by unfold aEJ;rw[if_pos (.inl hx)]
  have:=full e;simp only[jA.f1,jA.f0,lb,cG,reduceIte,cT,Nat.reduceAdd] at this ⊢;exact this
 | false=>
  rw[hx] at lb;by_cases g:batch<((x.1.length+more.length:Nat):Int)
  ·have e:aEJ batch x more=(x.1,true):=by unfold aEJ;rw[if_pos (.inr g)]
   have g':=eq_true g;have:=full e;simp only[jA.f1,jA.f0,lb,lv B h1,l1,l2,wl,g',cG,reduceIte,cT,Nat.reduceAdd] at this ⊢;exact this
  ·have e:aEJ batch x more=(x.1++more,false):=by unfold aEJ;rw[if_neg (by rw[hx];simpa using g)]
   have g':=eq_false g;have:=room e;simp only[jA.f1,jA.f0,lb,lv B h1,l1,l2,wl,g',cG,reduceIte,cT,Nat.reduceAdd] at this ⊢;exact this
theorem aNF(known:List Int)(batch:Int)(x:List gF×Bool)(m:gF):aEJ batch x (aBM known x.1 m)=zU known batch x m:=rfl
theorem aRL{h:PH}{r o:Nat}{cs:List Value}{v:Value}{x:List gF×Bool}{G:List Nat}(B:Bx h r cs)(h1:cs[o]? =some v)(h2:cs[o+1]? =some (.bool x.2))(O:eD h cI 8 v (x.1.map gF.cells) G)(nr:r∉G){m:gF}{kv:Value}{known:List Int}(S:fR h 1 kv (known.map vM))(hl:x.1.length≤10000){batch:Int}{R:cD}
  (hk:∀h' v' G',Bx h' r ((cs.set (o+1) (.bool (zU known batch x m).2)).set o v')->eD h' cI 8 v' ((zU known batch x m).1.map gF.cells) G'->r∉G'->cU (r::G) h h'->(∀y∈G',y∈G∨h y=none)->R (.tuple #[]) h'):
  aT PG aB0 #[pT r o,m.v,kv,.int .i64 batch] h R:=by
 apply aEq.call;unfold aEq;intro r1 hr1
 try rw[cZ]
 have u1:dD h (h.set r1 (.cells (Value.cells m.v) cI)):=cU.new hr1;have B1:Bx (h.set r1 (.cells (Value.cells m.v) cI)) r1 m.cells:=Bx.new;generalize h.set r1 (.cells (Value.cells m.v) cI)=h1' at *;have lt:cE PG h1' (loadAt bT (pT r1 1))=some (.int .i64 m.dest):=by rw[bT.load,B1.cell];rfl
 have lh:cE PG h1' (loadAt cA (pT r1 2))=some (.int .u64 m.height):=by rw[cA.load,B1.cell];rfl
 simp only[cI.f1,cI.f2,lt,lh,gF.bu,cG,reduceIte,cT,Nat.reduceAdd];intro r8 hr8
 try rw[cZ]
 refine cI.fill (vs:=(uA m.dest m.height).cells) hr8 rfl (gF.isC _) λh3 B8 u3=>?_;have C1:=B1.ext u3;simp only[C1.msg,gF.lit1v,cG,reduceIte,cT,Nat.reduceAdd];intro r13 hr13
 try rw[cZ]
 have u4:dD h3 (h3.set r13 (.cells m.cells.toArray cI)):=cU.new hr13;have S13:fR (h3.set r13 (.cells m.cells.toArray cI)) 8 (.slice (some ⟨r13,0,none⟩) 1 1) ([m].map gF.cells):=(eD.lit (n:=1) (gF.rows [m]) dM (by simp) (by decide) (by simp)).slR;generalize h3.set r13 (.cells m.cells.toArray cI)=h4 at *;have e4:=(u1.trans u3).trans u4;have k13:h r13=none:=(u1.trans u3).none hr13;have kr:h r≠none:=B.known;have vv:∀{h':PH},dD h h'->cE PG h' (loadAt cX (pT r o))=some v:=λu=>by rw[cX.load,(B.ext u).cell];exact h1
 refine fL ?_;simp only[jA.f0,vv e4,mV,cG,reduceIte,cT,Nat.reduceAdd];refine aWF (O.ext e4).slR (by omega) (f:=λy=>decide (y=uA m.dest m.height)) (λy hy h' w k' hk'=>?_) λh5 u5=>?_
 ·show aT PG aDq #[y.v,pT r8 0] h' k';apply aDM.call;unfold aDM;intro q1 hq1
  try rw[cZ]
  have w1:dD h' (h'.set q1 (.cells (Value.cells y.v) cI)):=cU.new hq1;have Y1:Bx (h'.set q1 (.cells (Value.cells y.v) cI)) q1 y.cells:=Bx.new;generalize h'.set q1 (.cells (Value.cells y.v) cI)=h'' at *;have Y8:cE PG h'' (loadAt cI (pT r8 0))=some (uA m.dest m.height).v:=(((B8.ext u4).ext w).ext w1).msg;have eq:=gF.eql (h:=h'') (x:=.tmp 4) (y:=.tmp 5) y (uA m.dest m.height);simp only[Y1.msg,Y8,gF.v,eq,cG,reduceIte,cT,Nat.reduceAdd];exact hk' h'' w1
 have e5:=e4.trans u5;have any:(x.1.any λy=>decide (y=uA m.dest m.height))=decide (uA m.dest m.height∈x.1):=by
  rw[zLm,List.any_eq_true,decide_eq_true_iff];constructor
  ·rintro⟨y,hy,e⟩;exact of_decide_eq_true e▸hy
  ·exact λh=>⟨_,h,decide_eq_true rfl⟩
 rw[any];have lh5:cE PG h5 (loadAt cA (pT r1 2))=some (.int .u64 m.height):=by rw[cA.load,((C1.ext u4).ext u5).cell];rfl
 have one:aBM known x.1 m=[m]->∀{h':PH},dD h5 h'->xE R (pT r o) (.int .i64 batch) (.slice (some ⟨r13,0,none⟩) 1 1) h':=λe {h'} u=>by
  have u':=e5.trans u;refine aTf (x:=x) (B.ext u') h1 h2 (O.ext u') nr ((S13.ext u5).ext u) (λa n c e=>?_) (by simp;omega) λh9 v' G' B9 O9 n9 u9 g9=>?_
  ·cases e;exact λe=>kr (e▸k13)
  ·rw[←e,aNF] at B9 O9;exact hk h9 v' G' B9 O9 n9 (u'.upd.trans u9) (λy hy=>(g9 y hy).imp id u'.none)
 by_cases hA:uA m.dest m.height∈x.1
 ·rw[decide_eq_true hA];simp only[cI.f2,lh5,cG,reduceIte,cT,Nat.reduceAdd];exact one (by unfold aBM;rw[if_pos (.inl hA)]) cU.refl
 rw[decide_eq_false hA];simp only[cI.f2,lh5,cG,reduceIte,cT,Nat.reduceAdd];refine aW4 (S.ext e5) m.height ?_;by_cases hB:m.height∈known
 ·rw[decide_eq_true hB];simp only[cG,reduceIte,cT,Nat.reduceAdd];exact one (by unfold aBM;rw[if_pos (.inr hB)]) cU.refl
 rw[decide_eq_false hB];have lu:cE PG h5 (loadAt cI (pT r8 0))=some (uA m.dest m.height).v:=((B8.ext u4).ext u5).msg;have lm:cE PG h5 (loadAt cI (pT r1 0))=some m.v:=((C1.ext u4).ext u5).msg;simp only[lu,lm,gF.lit2v,cG,reduceIte,cT,Nat.reduceAdd];intro r47 hr47;refine fL ?_
 try rw[cZ]
 have u6:dD h5 (h5.set r47 (.cells ((uA m.dest m.height).cells++m.cells).toArray cI)):=cU.new hr47;have S47:fR (h5.set r47 (.cells ((uA m.dest m.height).cells++m.cells).toArray cI)) 8 (.slice (some ⟨r47,0,none⟩) 2 2) ([uA m.dest m.height,m].map gF.cells):=(eD.lit (n:=2) (gF.rows _) dM (by simp) (by decide) (by simp)).slR;generalize h5.set r47 (.cells ((uA m.dest m.height).cells++m.cells).toArray cI)=h6 at *;have e6:=e5.trans u6;have em:aBM known x.1 m=[uA m.dest m.height,m]:=by unfold aBM;rw[if_neg (by rintro(h|h);exact hA h;exact hB h)]
 refine aTf (x:=x) (B.ext e6) h1 h2 (O.ext e6) nr S47 (λa n c e=>?_) (by simp;omega) λh9 v' G' B9 O9 n9 u9 g9=>?_
 ·cases e;exact λe=>kr (e▸e5.none hr47)
 ·rw[←em,aNF] at B9 O9;exact hk h9 v' G' B9 O9 n9 (e6.upd.trans u9) (λy hy=>(g9 y hy).imp id e6.none)
noncomputable def aKb(s:Ch×Ch)(ps:List Pk):List gF:=ps.filterMap (rF s.1 s.2)
def aN8(k:Int)(ms:List gF):List gF:=ms.filter λm=>decide (m.dest=k)
noncomputable def oL(s:Ch×Ch)(known:List Int)(batch:Int)(ps:List Pk)(k:Int):List gF×Bool:=aEc known batch ([],false) (aN8 k (aKb s ps))
theorem aQu{c0 c1:Ch}{p:Pk}{m:gF}(h:rF c0 c1 p=some m):m.dest=0∨m.dest=1:=by
 obtain⟨hr,-,-,hc⟩:=aTB h;obtain⟨f0,f1,-⟩:=Pk.right_iff.1 hr;rcases hc with⟨-,h,-⟩|⟨-,h,-⟩|⟨-,h,-⟩<;>omega
theorem aRB(known:List Int)(batch:Int):∀(ms:List gF) (x:List gF×Bool),(aEc known batch x ms).1.length≤x.1.length+2*ms.length
 | [],x=>oM _
 | m::ms,x=>by
  have h:=aRB known batch ms (zU known batch x m);have h1:(zU known batch x m).1.length≤x.1.length+2:=by
   unfold zU;split
   ·show x.1.length≤_;omega
   ·have:=(aVY known x.1 m).2;show(x.1++aBM known x.1 m).length≤_;rw[jR];omega
  show(aEc known batch (zU known batch x m) ms).1.length≤_;rw[uW];omega
theorem aWe(s:Ch×Ch)(ps:List Pk):(aKb s ps).length≤ps.length:=List.length_filterMap_le _ _
theorem aWY(k:Int)(ms:List gF):(aN8 k ms).length≤ms.length:=aMb _ _
theorem aW8(s:Ch×Ch)(known:List Int)(batch:Int)(ps:List Pk)(k:Int):(oL s known batch ps k).1.length≤2*ps.length:=by
 have h1:=aRB known batch (aN8 k (aKb s ps)) ([],false);have h2:=aWY k (aKb s ps);have h3:=aWe s ps;unfold oL;simp only[zLM] at h1;omega
def It.pr(i:It):Ky×Value:=(i.key,i.val)
abbrev MAt(h:PH)(m:Nat)(l:List It):Prop:=jZ aYO h m (l.map It.pr)
theorem It.isCell(l:List It):∀r∈l.map It.cells,∀u∈r,eP u=true:=λr hr u hu=>by
 obtain⟨m,_,rfl⟩:=lO.1 hr;exact m.allCell u (by simpa using hu)
end Go.Proofs.YtppgkeodaejgcaaGreatDoor
namespace Go.Proofs.YtppgkeodaejgcaaGreatDoor
open Go Go.Shelf
end Go.Proofs.YtppgkeodaejgcaaGreatDoor
namespace Go.Proofs.YtppgkeodaejgcaaGreatDoor
open Go Go.Sort Go.Shelf
end Go.Proofs.YtppgkeodaejgcaaGreatDoor
namespace Go.Proofs.YtppgkeodaejgcaaGreatDoor
open Go
def kl(a b:Ky):Prop:=a.1<b.1∨a.1=b.1∧a.2<b.2
instance (a b:Ky):Decidable (kl a b):=by unfold kl;exact inferInstance
theorem aSt(a:Ky):¬kl a a:=by unfold kl;omega
theorem aVW{a b c:Ky}(h1:kl a b)(h2:kl b c):kl a c:=by unfold kl at *;omega
theorem aYi{a b:Ky}(h:kl a b):a≠b:=by rintro rfl;exact aSt _ h
def Srt(L:List It):Prop:=L.Pairwise λa b=>kl a.key b.key
def aUL(L:List It)(k:Ky):Option It:=L.find? λi=>decide (k=i.key)
def aVM(L:List It)(k:Ky):List It:=L.filter λi=>decide (i.key≠k)
def aSE(L:List It)(i:It):List It:=(L.filter λj=>decide (kl j.key i.key))++i::(L.filter λj=>decide (kl i.key j.key))
theorem Srt.filter{L:List It}(h:Srt L)(p:It->Bool):Srt (L.filter p):=List.Pairwise.filter p h
theorem Srt.del{L:List It}(h:Srt L)(k:Ky):Srt (aVM L k):=h.filter _
theorem Srt.ins{L:List It}(h:Srt L)(i:It):Srt (aSE L i):=by
 unfold aSE Srt;rw[List.pairwise_append];refine⟨h.filter _,?_,?_⟩
 ·rw[List.pairwise_cons];exact⟨λx hx=>by simpa using(zL1.1 hx).2,h.filter _⟩
 ·intro x hx y hy;have h1:kl x.key i.key:=by simpa using(zL1.1 hx).2
  rcases gL.1 hy with rfl|hy
  ·exact h1
  ·exact aVW h1 (by simpa using(zL1.1 hy).2)
theorem Srt.nodup{L:List It}(h:Srt L):(L.map It.key).Nodup:=by
 unfold List.Nodup;rw[List.pairwise_map];exact h.imp λh=>aYi h
def aRv(L:List It)(room:Int)(i:It):List It:=if aUL L i.key=none∧room≤L.length then L else aSE L i
def aVD(L:List It)(room:Int)(n:Nt):List It:=
 if n.right=false then L
 else if n.k=1 then(if (aUL L n.p.key).isSome then L else aRv L room ⟨n.p,1⟩)
 else if n.k=2 then(match aUL L n.p.key with
  | some x=>aSE L ⟨x.p,2⟩
  | none=>aRv L room ⟨n.p,2⟩)
 else aVM L n.p.key
def aYS(L:List It)(room:Int)(a:Ac):List It:=if a.dr then aVM L a.n.p.key else aVD L room a.n
theorem Srt.put{L:List It}(h:Srt L)(room:Int)(i:It):Srt (aRv L room i):=by
 unfold aRv;split
 ·exact h
 ·exact h.ins i
theorem Srt.app{L:List It}(h:Srt L)(room:Int)(n:Nt):Srt (aVD L room n):=by
 unfold aVD;split
 ·exact h
 ·split
  ·split
   ·exact h
   ·exact h.put room _
  ·split
   ·split
    ·exact h.ins _
    ·exact h.put room _
   ·exact h.del _
theorem Srt.act{L:List It}(h:Srt L)(room:Int)(a:Ac):Srt (aYS L room a):=by
 unfold aYS;split
 ·exact h.del _
 ·exact h.app room _
structure TAt(h:PH)(a:Nat)(L:List It)(room:Int)(F:List Nat):Prop where
 here:∃m l,h a=some (.cells #[.map (some m),.int .i64 room] aPQ (0,0))∧MAt h m l∧l.Perm L∧F=[a,m]∧a≠m
 srt:Srt L
theorem TAt.upd{h h':PH}{a:Nat}{L:List It}{room:Int}{F G:List Nat}(H:TAt h a L room F)(u:cU G h h')(hd:∀b∈F,b∉G):TAt h' a L room F:=by
 obtain⟨m,l,ha,hm,hp,rfl,hn⟩:=H.here;exact⟨⟨m,l,u.get ha (hd a (by simp)),jZ.upd hm u (hd m (by simp)),hp,rfl,hn⟩,H.srt⟩
theorem TAt.ext{h h':PH}{a:Nat}{L:List It}{room:Int}{F:List Nat}(H:TAt h a L room F)(u:dD h h'):TAt h' a L room F:=H.upd u (by simp)
theorem TAt.known{h:PH}{a:Nat}{L:List It}{room:Int}{F:List Nat}(H:TAt h a L room F):∀b∈F,h b≠none:=by
 obtain⟨m,l,ha,hm,hp,rfl,hn⟩:=H.here;intro b hb;simp only[gL,kJ,or_false] at hb;rcases hb with rfl|rfl
 ·rw[ha];simp
 ·exact jZ.known hm
theorem Pk.eqIn{h:PH}{d:Nat}(m m':Pk):cE PG h (Op.equalIn (d+1+1) aR (.agg m.cells.toArray) (.agg m'.cells.toArray))=some (m.f==m'.f&&(m.s==m'.s&&(m.t==m'.t&&(m.d==m'.d&&true)))):=by
 refine(aDa aR.und (by kernel_rfl) (λf=>match f.offset with|0=>m.f==m'.f|1=>m.s==m'.s|2=>m.t==m'.t|_=>m.d==m'.d) ?_);intro f hf;simp only[gL,kJ,or_false] at hf;rcases hf with rfl|rfl|rfl|rfl
 ·exact⟨by decide,_,_,iR bT.und rfl rfl,iR bT.und rfl rfl,tR bT.und⟩
 ·exact⟨by decide,_,_,iR cA.und rfl rfl,iR cA.und rfl rfl,tR cA.und⟩
 ·exact⟨by decide,_,_,iR cA.und rfl rfl,iR cA.und rfl rfl,tR cA.und⟩
 ·exact⟨by decide,_,_,iR bR.und rfl rfl,iR bR.und rfl rfl,aBj bR.und⟩
theorem It.eqIn{h:PH}(m m':It):cE PG h (Op.equalIn (9999+1) eY m.val m'.val)=some (decide (m=m')):=by
 have hm:cE PG h (Op.equalIn (9999+1) eY (.agg m.cells.toArray) (.agg m'.cells.toArray))=some ((m.p.f==m'.p.f&&(m.p.s==m'.p.s&&(m.p.t==m'.p.t&&(m.p.d==m'.p.d&&true))))&&(m.g==m'.g&&true)):=by
  refine(aDa eY.und (by kernel_rfl) (λf=>match f.offset with|0=>(m.p.f==m'.p.f&&(m.p.s==m'.p.s&&(m.p.t==m'.p.t&&(m.p.d==m'.p.d&&true))))|_=>m.g==m'.g) ?_);intro f hf;simp only[gL,kJ,or_false] at hf;rcases hf with rfl|rfl
  ·exact⟨by decide,_,_,aKg aR.und rfl aR.info aR.size,aKg aR.und rfl aR.info aR.size,Pk.eqIn (d:=9997) m.p m'.p⟩
  ·exact⟨by decide,_,_,iR bT.und rfl rfl,iR bT.und rfl rfl,tR bT.und⟩
 show cE PG h (Op.equalIn (9999+1) eY (.agg m.cells.toArray) (.agg m'.cells.toArray))=_;rw[hm];congr 1;simp only[aCk];rw[zLm];obtain⟨⟨a,b,c,d⟩,g⟩:=m;obtain⟨⟨a',b',c',d'⟩,g'⟩:=m';simp[and_assoc]
theorem It.neq{h:PH}{x y:Operand}(m m':It):cE PG h (kB .neq eY x y m.val m'.val)=some (.bool (!decide (m=m'))):=aOU (by kernel_rfl) (It.eqIn m m')
theorem fR.it{h:PH}{x:Value}{xs:List It}(H:fR h 5 x (xs.map It.cells)){k:IntKind}{j:Nat}{m:It}(hm:xs[j]? =some m):
  ∃a,cV PG (indexAt jD x (.int k j))=some (.pointer (some a))∧cE PG h (loadAt eY (.pointer (some a)))=some m.val:=
 H.loadAgg jD.und eY.info eY.size eY.und rfl (by omega) (by rw[wN,qF,hm];rfl)
theorem aZJ(a0 a1:Option Addr)(n0 c0 n1 c1:Nat):cV PG (build jO #[(0,.slice a0 n0 c0),(1,.slice a1 n1 c1)])=some (.agg #[.slice a0 n0 c0,.slice a1 n1 c1]):=by kernel_rfl
theorem aZV(a0 a1:Option Addr)(n0 c0 n1 c1:Nat):cV PG (build dA #[(0,.slice a0 n0 c0),(1,.slice a1 n1 c1)])=some (.agg #[.slice a0 n0 c0,.slice a1 n1 c1]):=by kernel_rfl
theorem aU0{r j:Nat}(hj:j<2):cV PG (indexAt jB (pT r 0) (.int .i64 (j:Int)))=some (pT r (2*j)):=by
 have ix:=uZ (P:=PG) (t:=jB) (b:=r) (o:=0) (k:=.i64) (j:=(j:Int)) jB.und jA.info jA.size (by omega) (by omega);rw[ix,qF,fJ,zLR]
theorem aZM{r j:Nat}(hj:j<2):cV PG (indexAt jO (pT r 0) (.int .i64 (j:Int)))=some (pT r j):=by
 have ix:=uZ (P:=PG) (t:=jO) (b:=r) (o:=0) (k:=.i64) (j:=(j:Int)) jO.und dP.info dP.size (by omega) (by omega);rw[ix,qF,fJ,zL7]
theorem slv{h:PH}{e:TypeId}{n:Nat}{v:Value}{rows:List (List Value)}{G:List Nat}(O:eD h e n v rows G):∃a m c,v= .slice a m c:=by
 obtain⟨a,c,e,-⟩:=O.slR.here;exact⟨a,_,c,e⟩
structure PlB(h:PH)(r:Nat)(x0 x1:List gF×Bool)(F:List Nat):Prop where
 here:∃v0 v1 G0 G1,F=r::(G0++G1)∧Bx h r [v0,.bool x0.2,v1,.bool x1.2]∧eD h cI 8 v0 (x0.1.map gF.cells) G0∧eD h cI 8 v1 (x1.1.map gF.cells) G1∧r∉G0∧r∉G1∧∀y∈G0,y∉G1
theorem PlB.known{h:PH}{r:Nat}{x0 x1:List gF×Bool}{F:List Nat}(H:PlB h r x0 x1 F):∀y∈F,h y≠none:=by
 obtain⟨v0,v1,G0,G1,rfl,B,O0,O1,-⟩:=H.here;intro y hy;simp only[gL,jG] at hy;rcases hy with rfl|hy|hy
 ·exact B.known
 ·exact O0.known y hy
 ·exact O1.known y hy
theorem PlB.ext{h h':PH}{r:Nat}{x0 x1:List gF×Bool}{F:List Nat}(H:PlB h r x0 x1 F)(u:dD h h'):PlB h' r x0 x1 F:=by
 obtain⟨v0,v1,G0,G1,e,B,O0,O1,hd⟩:=H.here;exact⟨v0,v1,G0,G1,e,B.ext u,O0.ext u,O1.ext u,hd⟩
theorem PlB.put{h:PH}{r:Nat}{x0 x1:List gF×Bool}{F:List Nat}(H:PlB h r x0 x1 F){j:Nat}(hj:j<2){m:gF}{kv:Value}{known:List Int}(S:fR h 1 kv (known.map vM))(l0:x0.1.length≤10000)(l1:x1.1.length≤10000){batch:Int}{R:cD}
  (hk:∀h' F',PlB h' r (if j=1 then x0 else zU known batch x0 m) (if j=1 then zU known batch x1 m else x1) F'->iX h F h' F'->R (.tuple #[]) h'):
  aT PG aB0 #[pT r (2*j),m.v,kv,.int .i64 batch] h R:=by
 obtain⟨v0,v1,G0,G1,rfl,B,O0,O1,n0,n1,hd⟩:=H.here;have:j=0∨j=1:=by omega
 rcases this with rfl|rfl
 ·refine aRL (x:=x0) B rfl rfl O0 n0 S l0 λh' v' G' B' O' n' u g=>?_;have d':∀y∈G',y∉G1:=λy hy hm=>by
   rcases g y hy with h1|h1
   ·exact hd y h1 hm
   ·exact O1.known y hm h1
  refine hk h' (r::(G'++G1)) ⟨v',v1,G',G1,rfl,B',O',O1.upd u (λy hy hm=>?_),n',n1,d'⟩ ⟨u.mono λy hy=>.inl ?_,λy hy=>?_⟩
  ·rcases gL.1 hm with rfl|hm
   ·exact n1 hy
   ·exact hd y hm hy
  ·simp only[gL,jG] at hy ⊢;rcases hy with rfl|hy
   ·exact .inl rfl
   ·exact .inr (.inl hy)
  ·simp only[gL,jG] at hy ⊢;rcases hy with rfl|hy|hy
   ·exact .inl (.inl rfl)
   ·rcases g y hy with h1|h1
    ·exact .inl (.inr (.inl h1))
    ·exact .inr h1
   ·exact .inl (.inr (.inr hy))
 ·refine aRL (x:=x1) B rfl rfl O1 n1 S l1 λh' v' G' B' O' n' u g=>?_;have d':∀y∈G0,y∉G':=λy hy hm=>by
   rcases g y hm with h1|h1
   ·exact hd y hy h1
   ·exact O0.known y hy h1
  refine hk h' (r::(G0++G')) ⟨v0,v',G0,G',rfl,B',O0.upd u (λy hy hm=>?_),O',n0,n',d'⟩ ⟨u.mono λy hy=>.inl ?_,λy hy=>?_⟩
  ·rcases gL.1 hm with rfl|hm
   ·exact n0 hy
   ·exact hd y hy hm
  ·simp only[gL,jG] at hy ⊢;rcases hy with rfl|hy
   ·exact .inl rfl
   ·exact .inr (.inr hy)
  ·simp only[gL,jG] at hy ⊢;rcases hy with rfl|hy|hy
   ·exact .inl (.inl rfl)
   ·exact .inl (.inr (.inl hy))
   ·rcases g y hy with h1|h1
    ·exact .inl (.inr (.inr h1))
    ·exact .inr h1
theorem aQi(known:List Int)(batch:Int)(x:List gF×Bool)(a b:List gF):aEc known batch x (a++b)=aEc known batch (aEc known batch x a) b:=List.foldl_append
theorem aFz(s:Ch×Ch)(known:List Int)(batch:Int)(ps:List Pk)(p:Pk)(k:Int):oL s known batch (ps++[p]) k=(match rF s.1 s.2 p with
  | some m=>if m.dest=k then zU known batch (oL s known batch ps k) m else oL s known batch ps k
  | none=>oL s known batch ps k):=by
 unfold oL aKb aN8;rw[List.filterMap_append,aHE,aQi];cases h:rF s.1 s.2 p with
 | none=>simp[h,aEc]
 | some m=>
  by_cases c:m.dest=k
  ·simp[h,c,aEc]
  ·simp[h,c,aEc]
end Go.Proofs.YtppgkeodaejgcaaGreatDoor
