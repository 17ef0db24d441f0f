import Derived.Test.YtppgkeodaejgcaaGreatDoorRlNVC7
set_option linter.all false
set_option maxRecDepth 100000
open Go.Instr (loadAt fieldAt indexAt extract buildSlice build)
namespace Go.Proofs.YtppgkeodaejgcaaGreatDoor
section
open Go
theorem aPu{a b c d:Tx}(h:sM a b=sM c d)(hb:b.length=d.length):a=c∧b=d:=by
 unfold sM at h;simp only[kR,true_and] at h;exact List.append_inj' h hb
theorem aMx{n m:Nat}(hn:n<18446744073709551616)(hm:m<18446744073709551616)(h:be n 8=be m 8):n=m:=by
 have:=congrArg val h;rw[aLy,aLy,aCl (show n<256^8 by omega),aCl (show m<256^8 by omega)] at this;exact this
theorem aQ6{n m:Nat}{d e:Tx}(hn:n<18446744073709551616)(hm:m<18446744073709551616)(h:aHt n d=aHt m e):n=m∧d=e:=by
 unfold aHt at h;simp only[kR,true_and] at h;obtain⟨h1,h2⟩:=List.append_inj h (by rw[iE,iE]);exact⟨aMx hn hm h1,h2⟩
theorem aZC{n m:Nat}(hn:n<256)(hm:m<256)(h:UInt8.ofNat (n%256)=UInt8.ofNat (m%256)):n=m:=by
 have:=congrArg UInt8.toNat h;simp at this;omega
theorem aUq{p q:Pr}(hk:q.k.length≤16)(hv:q.v.length≤64)(h:aA4 p=aA4 q):p=q:=by
 unfold aA4 at h;simp only[kR,true_and] at h;obtain⟨h1,h2⟩:=h;have hl:=congrArg List.length h2;simp only[jS,tM] at hl;have hkl:p.k.length=q.k.length:=aZC (by omega) (by omega) h1;obtain⟨e1,e2⟩:=List.append_inj h2 hkl;simp only[kR] at e2;obtain⟨pk,pv⟩:=p;obtain⟨qk,qv⟩:=q;simp only at e1 e2;rw[e1,e2.2]
theorem bAN{p:Pr}{i n:Nat}{path:List Tx}(h2:2≤n)(hi:i<dU n):oZ p i n path=pJ (sM (oZ p i (dU n) path) (path.getD (gB i n-1) [])):=by
 rw[oZ,dif_pos h2,if_pos hi];rfl
theorem aZ3{p:Pr}{i n:Nat}{path:List Tx}(h2:2≤n)(hi:¬i<dU n):oZ p i n path=pJ (sM (path.getD (gB i n-1) []) (oZ p (i-dU n) (n-dU n) path)):=by
 rw[oZ,dif_pos h2,if_neg hi];rfl
theorem aZu{p:Pr}{i n:Nat}{path:List Tx}(h2:¬2≤n):oZ p i n path=pJ (aA4 p):=by
 rw[oZ,dif_neg h2];rfl
theorem aW3{p:Pr}{i n:Nat}{path:List Tx}(h2:2≤n)(hi:i<dU n):upA p i n path=sM (oZ p i (dU n) path) (path.getD (gB i n-1) [])::upA p i (dU n) path:=by
 rw[upA,dif_pos h2,if_pos hi]
theorem aXA{p:Pr}{i n:Nat}{path:List Tx}(h2:2≤n)(hi:¬i<dU n):upA p i n path=sM (path.getD (gB i n-1) []) (oZ p (i-dU n) (n-dU n) path)::upA p (i-dU n) (n-dU n) path:=by
 rw[upA,dif_pos h2,if_neg hi]
theorem bAO{p:Pr}{i n:Nat}{path:List Tx}(h2:¬2≤n):upA p i n path=[aA4 p]:=by
 rw[upA,dif_neg h2]
theorem aXn(n:Nat)(p:Pr)(i:Nat)(path:List Tx):∃t∈upA p i n path,pJ t=oZ p i n path∧(if 2≤n then(if i<dU n then t=sM (oZ p i (dU n) path) (path.getD (gB i n-1) []) else t=sM (path.getD (gB i n-1) []) (oZ p (i-dU n) (n-dU n) path)) else t=aA4 p):=by
 by_cases h2:2≤n
 ·by_cases hi:i<dU n
  ·exact⟨_,by rw[aW3 h2 hi];exact aJf,(bAN h2 hi).symm,by rw[if_pos h2,if_pos hi]⟩
  ·exact⟨_,by rw[aXA h2 hi];exact aJf,(aZ3 h2 hi).symm,by rw[if_pos h2,if_neg hi]⟩
 ·exact⟨_,by rw[bAO h2];exact aJf,(aZu h2).symm,by rw[if_neg h2]⟩
theorem aRe{l:List Pr}(h2:2≤l.length):aAg l=sM (mC (l.take (dU l.length))) (mC (l.drop (dU l.length)))::(aAg (l.drop (dU l.length))++aAg (l.take (dU l.length))):=by
 rw[aAg,dif_pos h2]
theorem aYe{l:List Pr}(h2:¬2≤l.length):aAg l=[aA4 (l.headD ⟨[],[]⟩)]:=by
 rw[aAg,dif_neg h2]
theorem aYu{l:List Pr}(h2:2≤l.length):mC l=pJ (sM (mC (l.take (dU l.length))) (mC (l.drop (dU l.length)))):=by
 rw[mC,dif_pos h2];rfl
theorem aZF{l:List Pr}(h2:¬2≤l.length):mC l=pJ (aA4 (l.headD ⟨[],[]⟩)):=by
 rw[mC,dif_neg h2];rfl
theorem aVU(l:List Pr):∃t∈aAg l,pJ t=mC l∧(if 2≤l.length then t=sM (mC (l.take (dU l.length))) (mC (l.drop (dU l.length))) else t=aA4 (l.headD ⟨[],[]⟩)):=by
 by_cases h2:2≤l.length
 ·exact⟨_,by rw[aRe h2];exact aJf,(aYu h2).symm,by rw[if_pos h2]⟩
 ·exact⟨_,by rw[aYe h2];exact aJf,(aZF h2).symm,by rw[if_neg h2]⟩
theorem aWQ{p:Pr}{i n:Nat}{path:List Tx}(h2:2≤n)(hi:i<dU n):∀t∈upA p i (dU n) path,t∈upA p i n path:=λt ht=>by
 rw[aW3 h2 hi];exact aLR _ ht
theorem aUa{p:Pr}{i n:Nat}{path:List Tx}(h2:2≤n)(hi:¬i<dU n):∀t∈upA p (i-dU n) (n-dU n) path,t∈upA p i n path:=λt ht=>by
 rw[aXA h2 hi];exact aLR _ ht
theorem aUk{l:List Pr}(h2:2≤l.length):∀t∈aAg (l.take (dU l.length)),t∈aAg l:=λt ht=>by
 rw[aRe h2];simp[ht]
theorem aT6{l:List Pr}(h2:2≤l.length):∀t∈aAg (l.drop (dU l.length)),t∈aAg l:=λt ht=>by
 rw[aRe h2];simp[ht]
theorem aWA:∀(n:Nat) {l:List Pr} {p:Pr} {i:Nat} {path:List Tx},l.length=n->1≤n->i<n->(∀q∈l,q.k.length≤16∧q.v.length≤64)->gB i n≤path.length->(∀d∈path,d.length=32)->∀{A:List Tx},aHr A->(∀t∈upA p i n path,t∈A)->(∀t∈aAg l,t∈A)->oZ p i n path=mC l->l[i]? =some p:=by
 intro n;induction n using Nat.strongRecOn with
 | ind n ih=>
  intro l p i path hl h1 hi hsm hdp hall A U hu hd e;obtain⟨t,ht,et,ct⟩:=aXn n p i path;obtain⟨s,hs,es,cs⟩:=aVU l;have ets:t=s:=U t (hu t ht) s (hd s hs) (by rw[et,es,e]);by_cases h2:2≤n
  ·obtain⟨m1,m2⟩:=lR h2;have h2l:2≤l.length:=by omega
   rw[if_pos h2] at ct;rw[if_pos h2l] at cs;have hg:(path.getD (gB i n-1) []).length=32:=by
    have h3:1≤gB i n:=by rw[gB,dif_pos h2];split<;>omega
    rw[aAo,mB (by omega)];exact hall _ (aMG _)
   have hdep:gB i n=if i<dU n then 1+gB i (dU n) else 1+gB (i-dU n) (n-dU n):=by rw[gB,dif_pos h2]
   rw[hl] at cs;by_cases hc:i<dU n
   ·rw[if_pos hc] at ct hdep;rw[ct,cs] at ets;obtain⟨e1,-⟩:=aPu ets (by rw[hg,aAA]);have:=ih (dU n) m2 (l:=l.take (dU n)) (p:=p) (i:=i) (path:=path) (by rw[wO];omega) m1 hc (λq hq=>hsm q (aKw hq)) (by omega) hall U (λt ht=>hu t (aWQ h2 hc t ht)) (λt ht=>hd t (aUk h2l t (by rw[hl];exact ht))) e1;rw[aIk,if_pos hc] at this;exact this
   ·rw[if_neg hc] at ct hdep;rw[ct,cs] at ets;obtain⟨-,e1⟩:=aPu ets (by rw[aHk,aAA]);have:=ih (n-dU n) (by omega) (l:=l.drop (dU n)) (p:=p) (i:=i-dU n) (path:=path) (by rw[yR];omega) (by omega) (by omega) (λq hq=>hsm q (aL3 hq)) (by omega) hall U (λt ht=>hu t (aUa h2 hc t ht)) (λt ht=>hd t (aT6 h2l t (by rw[hl];exact ht))) e1;rw[aMW] at this;rw[←this];congr 1;omega
  ·rw[if_neg h2] at ct;rw[if_neg (by omega)] at cs;obtain⟨q,rfl⟩:=List.length_eq_one_iff.1 (show l.length=1 by omega);have i0:i=0:=by omega
   subst i0;rw[ct,cs] at ets;obtain⟨y1,y2⟩:=hsm q (by simp);have:=aUq (p:=p) (q:=q) y1 y2 ets;rw[this];rfl
theorem aSA{f:Lf}{b:List Pr}(M:MOk b){A:List Tx}(U:aHr A)(ha:∀t∈aHG f,t∈A)(hb:∀t∈sQ b,t∈A)(h:pH f=some (kE b)):f.n=(b.length:Int)∧0≤f.i∧f.i<f.n∧b[f.i.toNat]? =some f.p:=by
 by_cases H:OkC f
 case neg=>rw[aPl H] at h;cases h
 rw[aPn H] at h;simp only[zL8] at h;have hn1:=H.n1;have hn2:=H.n2;have hi1:=H.i1;have hi2:=H.i2;have hml:=M.len;have ht:aHt f.n.toNat (aMo f)=aHt b.length (if b=[] then [] else mC b):=U _ (ha _ (by unfold aHG;simp)) _ (hb _ (by unfold sQ;simp)) h;obtain⟨e1,e2⟩:=aQ6 (by omega) (by omega) ht;have hne:b≠[]:=λe=>by rw[e] at e1;simp at e1;omega
 rw[if_neg hne] at e2;refine⟨by omega,hi1,hi2,?_⟩;unfold aMo at e2;refine aWA f.n.toNat e1.symm (by omega) (by omega) (λq hq=>⟨M.k q hq,M.v q hq⟩) (by rw[H.len];exact pC _) H.all U (λt ht=>ha t (by unfold aHG;exact aLR _ ht)) (λt ht=>hb t (by unfold sQ;rw[if_neg hne,if_neg hne];exact aLR _ ht)) e2
theorem aNM:∀{l:List Lf} {f:Lf},f∈l->(pH f).isSome=true->∀t∈aHG f,t∈wV l
 | g::l,f,hf,hs,t,ht=>by
  rw[wV];rcases gE.1 hf with rfl|hf
  ·rw[if_pos hs];simp[ht]
  ·have:=aNM hf hs t ht;simp[this]
theorem aL5{l:List Lf}{b:List Pr}(M:MOk b){A:List Tx}(U:aHr A)(ha:∀t∈wV l,t∈A)(hb:∀t∈sQ b,t∈A)(h:nI (kE b) l=true):∀f∈l,f.n=(b.length:Int)∧0≤f.i∧f.i<f.n∧b[f.i.toNat]? =some f.p:=λf hf=>by
 unfold nI at h;rw[aDZ] at h;have hc:=h f hf;simp only[beq_iff_eq] at hc;exact aSA M U (λt ht=>ha t (aNM hf (by rw[hc];rfl) t ht)) hb hc
theorem aPw{b:List Pr}(M:MOk b){s k v:Tx}{A:List Tx}(U:aHr A)(ha:∀t∈aGs s,t∈A)(hb:∀t∈sQ b,t∈A)(h:aCr (kE b) s k v=true):(⟨k,v⟩:Pr)∈b:=by
 rw[aSZ] at h;simp only[wN,beq_iff_eq,Bool.not_eq_true'] at h;obtain⟨⟨⟨h1,h2⟩,h3⟩,h4⟩:=h;unfold aGs at ha
 match hl:(iA s).1.lv,h3 with
 | [f],h3=>
  rw[hl] at h4 ha;have hp:f.p=⟨k,v⟩:=by simpa[aHA] using h3
  rw[if_pos ⟨h1,h2,rfl⟩] at ha;obtain⟨-,-,-,y⟩:=aL5 M U ha hb h4 f (by simp);rw[←hp];exact qB y
 | [],h3=>simp[aHA] at h3
 | _::_::_,h3=>simp[aHA] at h3
theorem aQY{b:List Pr}(U:qX b){i j:Nat}{p q:Pr}(hi:b[i]? =some p)(hj:b[j]? =some q)(h:p.k<q.k):i<j:=by
 rcases Nat.lt_trichotomy i j with c|c|c
 ·exact c
 ·subst c;rw[hi] at hj;cases hj;exact absurd h (zL0 _)
 ·obtain⟨x1,x2⟩:=zLz.1 hi;obtain⟨y1,y2⟩:=zLz.1 hj;have:=List.pairwise_iff_getElem.1 U j i y1 x1 c;rw[x2,y2] at this;exact absurd h (List.lt_asymm this)
theorem aR4{b:List Pr}(M:MOk b){s k:Tx}{A:List Tx}(U:aHr A)(ha:∀t∈aI9 s k,t∈A)(hb:∀t∈sQ b,t∈A)(h:aDB (kE b) s k=true):∀q∈b,q.k≠k:=by
 rw[aP0] at h;simp only[wN,beq_iff_eq,decide_eq_true_eq] at h;obtain⟨⟨⟨⟨⟨h1,h2⟩,h3⟩,h4⟩,h5⟩,h6⟩:=h;unfold aI9 at ha;rw[if_pos ⟨h1,h2,h3,h4⟩] at ha;have hcl:=aL5 M U (λt ht=>ha t (zLk _ ht)) hb h5;intro q hq ek;obtain⟨j,hj⟩:=List.mem_iff_getElem?.1 hq;have hjl:=(zLz.1 hj).1;have hml:=M.len;generalize hL:(iA s).1.lv=L at *
 match L,h6 with
 | [],h6=>
  have e:kE b=kE []:=by simpa[aAt] using h6
  rw[if_pos rfl] at ha;have ht:aHt b.length (if b=[] then [] else mC b)=aHt 0 []:=U _ (hb _ (by unfold sQ;simp)) _ (ha _ (by unfold sQ;simp)) e;obtain⟨e1,-⟩:=aQ6 (by omega) (by decide) ht;omega
 | [f],h6=>
  obtain⟨y1,y2,y3,y4⟩:=hcl f (by simp);simp only[aAt,Bool.or_eq_true,wN,beq_iff_eq,decide_eq_true_eq] at h6;rcases h6 with⟨z1,z2⟩|⟨z1,z2⟩
  ·have:=aQY M.up hj y4 (by rw[ek];exact z2);omega
  ·rw[eX (by omega) (by omega)] at z1;have:=aQY M.up y4 hj (by rw[ek];exact z2);omega
 | f::g::r,h6=>
  obtain⟨y1,y2,y3,y4⟩:=hcl f (by simp);obtain⟨w1,w2,w3,w4⟩:=hcl g (by simp);simp only[aAt,wN,beq_iff_eq,decide_eq_true_eq] at h6;obtain⟨⟨⟨z1,z2⟩,z3⟩,z4⟩:=h6;rw[eX (by omega) (by omega)] at z2;have a1:=aQY M.up y4 hj (by rw[ek];exact z3);have a2:=aQY M.up hj w4 (by rw[ek];exact z4);omega
theorem aQD{p q:Pk}(hp:p.right=true)(hq:q.right=true){A:List Tx}(U:aHr A)(ha:∀t∈pL p,t∈A)(hb:∀t∈pL q,t∈A)(h:mL p=mL q):p.bs=q.bs:=by
 unfold pL at ha hb;unfold mL aHq at h;rw[if_pos hp] at ha;rw[if_pos hq] at hb;simp only[hp,hq,if_true] at h;exact U _ (ha _ (by simp)) _ (hb _ (by simp)) h
theorem aVT{p q:Pk}(hp:p.right=true)(hq:q.right=true){A:List Tx}(U:aHr A)(ha:∀t∈aGJ p,t∈A)(hb:∀t∈aGJ q,t∈A)(h:aCF p=aCF q):p.bs=q.bs:=by
 unfold aGJ at ha hb;unfold aCF aHq at h;rw[if_pos hp] at ha;rw[if_pos hq] at hb;simp only[hp,hq,if_true] at h;have:=U _ (ha _ (by simp)) _ (hb _ (by simp)) h;exact List.append_cancel_left this
theorem DC.mono{c b:Nat}{s:Ch}{n n':Nat}{h:PH}{F:List Nat}(H:DC c b s n h F)(hn:n≤n'):DC c b s n' h F:=by
 obtain⟨sp,cp,bv,nv,Fx,Fr,rfl,hx,⟨F1,F2,rfl,h1,⟨F3,F4,rfl,h3,⟨F5,F6,rfl,⟨rows,r1,r2,r3⟩,⟨ns,n1,n2⟩,d5⟩,d3⟩,d1⟩,dx⟩:=H;exact⟨sp,cp,bv,nv,Fx,_,rfl,hx,⟨F1,_,rfl,h1,⟨F3,_,rfl,h3,⟨F5,F6,rfl,⟨rows,r1,by omega,r3⟩,⟨ns,n1,by omega⟩,d5⟩,d3⟩,d1⟩,dx⟩
theorem aHh{b m:Nat}{A A':List Tx}{K:List Nat}{X:lU}(g:lW X){h h':PH}{F:List Nat}(H:eH (rU b m A K) X h F)(B:Bk b m A' K h')(u:cV [b,m] h h'):eH (rU b m A' K) X h' F∧iO h F h' F:=by
 obtain⟨Fa,Fb,rfl,⟨rfl,-⟩,HX,hd⟩:=H;refine⟨⟨_,Fb,rfl,⟨rfl,B⟩,g.upd HX u (λx hx hm=>?_),hd⟩,⟨u.mono λx hx=>.inl ?_,λx hx=>.inl hx⟩⟩
 ·simp only[gE,kD,or_false] at hm;rcases hm with rfl|rfl
  ·exact hd _ (by simp) hx
  ·exact hd _ (by simp) hx
 ·simp only[gE,kD,or_false] at hx;rcases hx with rfl|rfl<;>simp
theorem aPA{h:PH}{c b:Nat}{s:Ch}{n:Nat}{F:List Nat}{sp cp:Nat}{bv nv:Value}(P:nC c (s.dcells b sp cp bv nv) sp s.st cp s.cl bv nv n h F){k v:Tx}(h1:1≤k.length)(h2:k.length≤16)(h3:v.length≤64)(hr:¬(gF s.st.now k=none∧4096≤s.st.now.length)){kk:cD}
  (hk:∀h' F',nC c ((s.put k v).dcells b sp cp bv nv) sp (s.put k v).st cp (s.put k v).cl bv nv n h' F'->iO h F h' F'->kk (.int .i64 0) h'):aT PG nJ #[pT sp 0,.string (tx k),.string (tx v)] h kk:=by
 obtain⟨Fs,⟨G,S,rfl⟩,hFs,back⟩:=P.fSt;have es:aCq s.st k v=({s.st with now:=nR s.st.now ⟨k,v⟩},0):=by
  unfold aCq;rw[if_neg (by omega),if_neg hr]
 refine aXx S k v λh5 G5 S5 u5 g5=>?_;rw[es] at S5 ⊢;obtain⟨F6,P6,s6⟩:=back (rsA sp {s.st with now:=nR s.st.now ⟨k,v⟩}) h5 (sp::G5) ⟨G5,S5,rfl⟩ ⟨u5.mono λx hx=>.inl (by simp only[fW] at hx;simp[hx]),λx hx=>by
  rcases gE.1 hx with rfl|hx
  ·exact .inl (by simp)
  ·rcases g5 x hx with hx|hx
   ·exact .inl (by simp[hx])
   ·exact .inr hx⟩
 exact hk h5 F6 P6 s6
theorem aSI{h:PH}{c b:Nat}{s:Ch}{n:Nat}{F:List Nat}{sp cp:Nat}{bv nv:Value}(P:nC c (s.dcells b sp cp bv nv) sp s.st cp s.cl bv nv n h F){k:Tx}(hr:(gF s.st.now k).isSome=true){kk:cD}
  (hk:∀h' F',nC c ((s.del k).dcells b sp cp bv nv) sp (s.del k).st cp (s.del k).cl bv nv n h' F'->iO h F h' F'->kk (.int .i64 0) h'):aT PG oE #[pT sp 0,.string (tx k)] h kk:=by
 obtain⟨Fs,⟨G,S,rfl⟩,hFs,back⟩:=P.fSt;have es:aFi s.st k=({s.st with now:=uL s.st.now k},0):=by
  unfold aFi;rw[if_neg (λh=>by rw[h] at hr;cases hr)]
 refine aYM S k λh5 G5 S5 u5 g5=>?_;rw[es] at S5 ⊢;obtain⟨F6,P6,s6⟩:=back (rsA sp {s.st with now:=uL s.st.now k}) h5 (sp::G5) ⟨G5,S5,rfl⟩ ⟨u5.mono λx hx=>.inl (by simp only[fW] at hx;simp[hx]),λx hx=>by
  rcases gE.1 hx with rfl|hx
  ·exact .inl (by simp)
  ·rcases g5 x hx with hx|hx
   ·exact .inl (by simp[hx])
   ·exact .inr hx⟩
 exact hk h5 F6 P6 s6
theorem aWL(s:Ch)(d:Tx)(t:Nat):rT s d t=if s.st.height=18446744073709551615 then 12 else if ¬s.seq<18446744073709551615 then 12 else if (jY s d t).right=false then 1 else if ¬aKP s.cl<(t:Int) then 10 else if ¬s.st.now.length+1≤4096 then 2 else 0:=by
 unfold rT pF;by_cases c0:s.st.height=18446744073709551615
 ·rw[if_pos c0,if_pos c0]
 ·rw[if_neg c0,if_neg c0];by_cases c1:s.seq<18446744073709551615<;>cases hr:(jY s d t).right<;>by_cases c2:aKP s.cl<(t:Int)<;>by_cases c3:s.st.now.length+1≤4096<;>simp[yH,c1,hr,c2,c3]
theorem aWt{h:PH}{c b m:Nat}{s:Ch}{n:Nat}{A:List Tx}{K F:List Nat}(H:eH (rU b m A K) (DC c b s n) h F)(w:s.DOk)(hn:n≤10000)(d:Tx)(hd:d.length≤1000000){t:Nat}(ht:t<18446744073709551616){k:cD}
  (hbad:rT s d t≠0->∀h',eH (rU b m A K) (DC c b s n) h' F->iO h F h' F->k (.tuple #[Pk.v default,.int .i64 (rT s d t)]) h')
  (hok:rT s d t=0->∀h' F',eH (rU b m (pL (jY s d t)++A) K) (DC c b (s.sent (jY s d t)) (n+1)) h' F'->iO h F h' F'->k (.tuple #[(jY s d t).v,.int .i64 0]) h'):
  aT PG zU #[pT c 0,.string (tx d),.int .u64 (t:Int)] h k:=by
 apply oR.call;unfold oR;have gW:lW (eH (rU b m A K) (DC c b s n)):=(rU.good _ _ _ _).star (DC.good _ _ _ _);obtain⟨Fb,Fd,eF,⟨efb,HB⟩,Hd,hdis⟩:=id H;obtain⟨sp,cp,bv,nv,P⟩:=id Hd;obtain⟨hs,R⟩:=w.rk;have hlat:=aO3 R;have hsq:=w.seq;intro r1 hr1
 try rw[cY]
 have u1:dB h (h.set r1 (.cells (dN PG aR) aR)):=cV.new hr1;have X1:Bx (h.set r1 (.cells (dN PG aR) aR)) r1 (Pk.cells default):=aR.zbox;generalize h.set r1 (.cells (dN PG aR) aR)=h1 at *;have P1:=nC.good.ext P u1;simp only[cQ.f1,cQ.f4,fC,dl1 P1.cell,dl4 P1.cell,aXE,cE,reduceIte,cT,Nat.reduceAdd];have ep:(Pk.v ⟨s.id,(s.seq:Int),(t:Int),tx d⟩)=(jY s d t).v:=rfl;rw[ep];obtain⟨p,hp⟩:∃p,p=jY s d t:=⟨_,rfl⟩;have pwf:p.wf:=by rw[hp];exact⟨by show(0:Int)≤(s.seq:Int);omega,by show(s.seq:Int)<_;omega,by show(0:Int)≤(t:Int);omega,by show(t:Int)<_;omega⟩
 intro r10 hr10
 try rw[cY]
 have n110:r1≠r10:=X1.apart hr10;rw[←hp];refine aR.fill (vs:=p.cells) hr10 rfl (Pk.isC _) λh2 X2 u2=>?_;have e2:=u1.trans u2;have P2:=nC.good.ext P e2;have Y2:=X1.ext u2;have W2:=gW.ext H e2;have nr1:r1∉F:=λhm=>gW.known H _ hm hr1;have lp:∀{h':PH},dB h2 h'->cG PG h' (loadAt aR (pT r10 0))=some p.v:=λu=>(X2.ext u).pk rfl;obtain⟨Fs2,⟨G2,S2,-⟩,-,-⟩:=P2.fSt
 -- what is refused
 have no:∀{h3:PH} (e:Int),dB h2 h3->rT s d t=e->e≠0->dY (dD PG (build aR #[])) λv40=>cZ PG (dM aR (pT r1 0) v40) h3 λv41 h42=>dY (cG PG h42 (loadAt aR (pT r1 0))) λv43=>k (Value.tuple #[v43,(Value.int IntKind.i64 e)]) h42:=fun {h3} e u3 he hne=>by
  simp only[Pk.zb,cE,reduceIte,cT,Nat.reduceAdd];refine aR.put (Y2.ext u3) (o:=0) (vs:=Pk.cells default) rfl (by show 0+4≤4;decide) (Pk.isC _) λh4 Y4 u4=>?_;have Y4:Bx h4 r1 (Pk.cells default):=Y4;have l4:cG PG h4 (loadAt aR (pT r1 0))=some (Pk.v default):=Y4.pk rfl;simp only[l4,cE,reduceIte,cT,Nat.reduceAdd];have:=hbad (by rw[he];exact hne) h4 (gW.upd (gW.ext W2 u3) u4 (λx hx=>by simp only[fW];rintro rfl;exact nr1 hx)) ⟨((e2.trans u3).upd (F:=F)).then u4 (λx hx=>by simp only[fW] at hx;subst hx;exact .inr hr1),λx hx=>.inl hx⟩;rw[he] at this;exact this
 have hse:=aWL s d t;simp only[cQ.f2,fC,dl2 P2.cell,cE,reduceIte,cT,Nat.reduceAdd];refine aDW S2 ?_;by_cases c0:s.st.height=18446744073709551615
 ·have q:((s.st.height:Int)==18446744073709551615)=true:=by rw[c0];rfl
  rw[if_pos c0] at hse;simp only[iB,q,cE,reduceIte,cT,Nat.reduceAdd];have:=no 12 cV.refl hse (by decide)
  try simp only[cE,reduceIte,cT,Nat.reduceAdd] at this
  exact this
 have q:((s.st.height:Int)==18446744073709551615)=false:=by rw[beq_eq_false_iff_ne];omega
 rw[if_neg c0] at hse;by_cases c1:s.seq<18446744073709551615
 case neg=>
  have q1:((s.seq:Int)==18446744073709551615)=true:=by rw[beq_iff_eq];omega
  rw[if_pos c1] at hse;simp only[iB,q,q1,cQ.f4,fC,dl4 P2.cell,cE,reduceIte,cT,Nat.reduceAdd];have:=no 12 cV.refl hse (by decide)
  try simp only[cE,reduceIte,cT,Nat.reduceAdd] at this
  exact this
 have q1:((s.seq:Int)==18446744073709551615)=false:=by rw[beq_eq_false_iff_ne];omega
 rw[if_neg (by simpa using c1)] at hse;simp only[iB,q,q1,cQ.f4,fC,dl4 P2.cell,lp cV.refl,cE,reduceIte,cT,Nat.reduceAdd];refine aId p pwf.1 pwf.2.2.1 λh3 u3=>?_;have P3:=nC.good.ext P2 u3;rw[←hp] at hse;cases hr:p.right with
 | false=>
  rw[if_pos hr] at hse;simp only[cE,reduceIte,cT,Nat.reduceAdd];have:=no 1 u3 hse (by decide)
  try simp only[cE,reduceIte,cT,Nat.reduceAdd] at this
  exact this
 | true=>
  rw[if_neg (by rw[hr];decide)] at hse;obtain⟨Fc,KR,-,-⟩:=P3.fCl;simp only[cQ.f3,fC,dl3 P3.cell,cE,reduceIte,cT,Nat.reduceAdd];refine aTa KR (by have:=w.few;omega) R (λy hy=>(w.pos y hy).1) ?_;by_cases c2:aKP s.cl<(t:Int)
  case neg=>
   have q2:((t:Int)≤aLU hs)=True:=eq_true (by rw[←hlat];omega);rw[if_pos c2] at hse;simp only[q2,cE,reduceIte,cT,Nat.reduceAdd];have:=no 10 u3 hse (by decide)
   try simp only[cE,reduceIte,cT,Nat.reduceAdd] at this
   exact this
  have q2:((t:Int)≤aLU hs)=False:=eq_false (by rw[←hlat];omega);rw[if_neg (by simpa using c2)] at hse;simp only[q2,cE,reduceIte,cT,Nat.reduceAdd];refine aRU (s:=s) (n:=n) (b:=b) ⟨sp,cp,bv,nv,P3⟩ 1 (by decide) ?_;by_cases c3:s.st.now.length+1≤4096
  case neg=>
   have q3:=decide_eq_false c3;rw[if_pos c3] at hse;simp only[q3,cE,reduceIte,cT,Nat.reduceAdd];have:=no 2 u3 hse (by decide)
   try simp only[cE,reduceIte,cT,Nat.reduceAdd] at this
   exact this
  have q3:=decide_eq_true c3;rw[if_neg (by simpa using c3)] at hse;have hok:=hok hse;rw[←hp] at hok;have ls:∀{h':PH},dB h2 h'->cG PG h' (loadAt cA (pT r10 1))=some (.int .u64 (s.seq:Int)):=λu=>by rw[cA.load,(X2.ext u).cell,hp];rfl
  have q99:({data:=#[99]}:ByteArray)=tx [99]:=rfl;simp only[q3,cQ.f0,cQ.f2,aR.f1,fC,dl0 P3.cell,dl2 P3.cell,ls u3,lp u3,q99,cE,reduceIte,cT,Nat.reduceAdd];refine aAc (c:=99) (n:=s.seq) (by omega) λh4 u4=>?_;have u34:=u3.trans u4;have P4:=nC.good.ext P3 u4;refine⟨lp u34,dl0 P4.cell,dl2 P4.cell,?_⟩;refine aLf (HB.ext (e2.trans u34)) pwf λh5 B5 u5=>?_;obtain⟨W5,s5⟩:=aHh (DC.good _ _ _ _) (gW.ext W2 u34) B5 u5;have offd:∀x∈Fd,x∉[b,m]:=λx hx hm=>by
   subst efb;simp only[gE,kD,or_false] at hm;rcases hm with rfl|rfl
   ·exact hdis _ (by simp) hx
   ·exact hdis _ (by simp) hx
  have P5:=nC.good.upd P4 u5 offd;have n10:r10∉F:=λhm=>gW.known (gW.ext H u1) _ hm hr10;have n10b:r10∉[b,m]:=λhm=>by
   simp only[gE,kD,or_false] at hm;rcases hm with rfl|rfl
   ·exact HB.known _ (by simp) (u1.none hr10)
   ·exact HB.known _ (by simp) (u1.none hr10)
  have n1b:r1∉[b,m]:=λhm=>by
   simp only[gE,kD,or_false] at hm;rcases hm with rfl|rfl
   ·exact HB.known _ (by simp) hr1
   ·exact HB.known _ (by simp) hr1
  have X5:=(X2.ext u34).upd u5 n10b;have Y5:=(Y2.ext u34).upd u5 n1b;refine⟨dl2 P5.cell,?_⟩
  -- the chain alone
  obtain⟨Fb5,Fd5,eF5,⟨efb5,B5'⟩,Hd5,hdis5⟩:=id W5;have hFd5:Fd5=Fd:=by
   rw[eF,efb,efb5] at eF5;exact(List.append_cancel_left eF5).symm
  subst hFd5;have nX:r10∉Fd5:=λhm=>n10 (by rw[eF];simp[hm]);have nY:r1∉Fd5:=λhm=>nr1 (by rw[eF];simp[hm]);refine aPA P5 (by rw[xF];decide) (by rw[xF];decide) (aMM _) (λhh=>by omega) λh6 F6 P6 s6=>?_;obtain⟨X6,nX6⟩:=aAD X5 nX s6;obtain⟨Y6,nY6⟩:=aAD Y5 nY s6;have w1:IntKind.u64.wrap ((s.seq:Int)+1)=((s.seq+1:Nat):Int):=by rw[gL (by omega) (by omega)];omega
  have l4:cG PG h6 (loadAt cA (pT c 4))=some (.int .u64 (s.seq:Int)):=dl4 P6.cell;simp only[cQ.f4,fC,l4,w1,cE,reduceIte,cT,Nat.reduceAdd];obtain⟨Fx,⟨rfl,X⟩,hFx,back⟩:=P6.fBox;refine cA.put X (o:=4) (by show 4<7;decide) rfl λh7 X7 u7=>?_;have X7:Bx h7 c (((s.put (fR 99 s.seq) (mL p)).next).dcells b sp cp bv nv):=X7;obtain⟨F7,P7,s7⟩:=back (wK c (((s.put (fR 99 s.seq) (mL p)).next).dcells b sp cp bv nv)) h7 [c] ⟨rfl,X7⟩ ⟨u7,λx hx=>.inl hx⟩;obtain⟨Z7,nZ7⟩:=aAD X6 nX6 s7;obtain⟨Y7,nY7⟩:=aAD Y6 nY6 s7;have l7:cG PG h7 (loadAt aR (pT r10 0))=some p.v:=Z7.pk rfl;simp only[l7,cE,reduceIte,cT,Nat.reduceAdd];refine aLP (s:=(s.put (fR 99 s.seq) (mL p)).next) (n:=n) (b:=b) ⟨sp,cp,bv,nv,P7⟩ hn 1 p λh8 F8 P8 s8=>?_;obtain⟨Z8,nZ8⟩:=aAD Z7 nZ7 s8;obtain⟨Y8,nY8⟩:=aAD Y7 nY7 s8;have l8:cG PG h8 (loadAt aR (pT r10 0))=some p.v:=Z8.pk rfl;simp only[l8,cE,reduceIte,cT,Nat.reduceAdd];have sD:iO h5 Fd5 h8 F8:=(s6.trans s7).trans s8;have B8:Bk b m (pL p++A) K h8:=B5'.upd sD.upd (λx hx hm=>hdis5 x (by rw[efb5];exact hx) hm);have W8:eH (rU b m (pL p++A) K) (DC c b (s.sent p) (n+1)) h8 ((b::m::K)++F8):=eH.mk ⟨rfl,B8⟩ P8 (λx hx hx8=>by
   rcases sD.grow x hx8 with hh|hh
   ·exact hdis5 x (by rw[efb5];exact hx) hh
   ·exact B5'.known x hx hh)
  have sW:iO h F h8 ((b::m::K)++F8):=((iO.ext (F:=F) (e2.trans u34)).trans s5).trans ⟨sD.upd.mono λx hx=>.inl (by rw[eF];simp[hx]),λx hx=>by
   rcases jB.1 hx with hx|hx
   ·exact .inl (by rw[eF,efb];simp only[jB];exact .inl hx)
   ·rcases sD.grow x hx with hh|hh
    ·exact .inl (by rw[eF];simp[hh])
    ·exact .inr hh⟩
  have n8:r1∉(b::m::K)++F8:=λhm=>by
   rcases jB.1 hm with hm|hm
   ·exact HB.known _ hm hr1
   ·exact nY8 hm
  refine aR.put Y8 (o:=0) (vs:=p.cells) rfl (by show 0+4≤4;decide) (Pk.isC _) λh9 Y9 u9=>?_;have Y9:Bx h9 r1 p.cells:=Y9;have l9:cG PG h9 (loadAt aR (pT r1 0))=some p.v:=Y9.pk rfl;simp only[l9,cE,reduceIte,cT,Nat.reduceAdd];refine hok h9 _ (((rU.good _ _ _ _).star (DC.good _ _ _ _)).upd W8 u9 (λx hx=>by simp only[fW];rintro rfl;exact n8 hx)) ⟨sW.upd.then u9 (λx hx=>by simp only[fW] at hx;subst hx;exact .inr hr1),λx hx=>sW.grow x hx⟩
end
section
open Go Bld
structure aH8(h:PH)(a b:Nat)(s:St)(K:List Nat):Prop where
 here:∃F G,sX h a s F∧vT h b s G∧(∀x∈F,x∉b::G)∧K=F++b::G
theorem aH8.upd{h h':PH}{a b:Nat}{s:St}{K J:List Nat}(H:aH8 h a b s K)(u:cV J h h')(hd:∀x∈K,x∉J):aH8 h' a b s K:=by
 obtain⟨F,G,h1,h2,h3,rfl⟩:=H.here;exact⟨F,G,h1.upd u (λx hx=>hd x (by simp[hx])),h2.upd u (hd b (by simp)) (λg hg=>hd g (by simp[hg])),h3,rfl⟩
theorem aH8.ext{h h':PH}{a b:Nat}{s:St}{K:List Nat}(H:aH8 h a b s K)(u:dB h h'):aH8 h' a b s K:=H.upd u (by simp)
theorem aH8.known{h:PH}{a b:Nat}{s:St}{K:List Nat}(H:aH8 h a b s K):∀x∈K,h x≠none:=by
 obtain⟨F,G,h1,h2,h3,rfl⟩:=H.here;intro x hx;rcases jB.1 hx with hx|hx
 ·exact h1.known x hx
 ·exact h2.known x hx
theorem aH8.st{h:PH}{a b:Nat}{s:St}{K:List Nat}(H:aH8 h a b s K):∃F,sX h a s F∧∀x∈F,x∈K:=by
 obtain⟨F,G,h1,h2,h3,rfl⟩:=H.here;exact⟨F,h1,λx hx=>by simp[hx]⟩
theorem aRt{h:PH}{b:Nat}{s:St}{G:List Nat}(H:vT h b s G)(key:Tx){k:cD}(hk:k (.tuple #[.string (tx (((gF s.now key).map Pr.v).getD [])),.bool (gF s.now key).isSome]) h):
  aT PG uJ #[pT b 0,.string (tx key)] h k:=by
 apply xM.call;unfold xM;obtain⟨A,M,B,c⟩:=H.ok.up.cut key;have hg:=c.get H.ok.up;refine aOv H c ?_;have hok:=H.ok;obtain⟨nv,bv,bl,h1,h2,h3,h4,h5,h6,h7,h8,h9⟩:=H.here;rcases c.mid with e|⟨q,e,e2⟩
 ·subst e;have:gF s.now key=none:=by
   cases hx:gF s.now key with
   | none=>rfl
   | some y=>rw[hx] at hg;simp at hg
  rw[this] at hk;simp only[ne_eq,not_true_eq_false,cE,reduceIte];exact hk
 ·subst e;have hgs:gF s.now key=some q:=(vB hok.up).2 ⟨by rw[c.eq];simp,e2⟩;rw[hgs] at hk;have c0:dE h ⟨b,0,none⟩=some nv:=by simp[dE,h1]
  have hq:s.now[A.length]? =some q:=by rw[c.eq];simp
  obtain⟨bb,o,p1,-,p3,-⟩:=h2.pair hq;simp only[ne_eq,List.cons_ne_nil,not_false_eq_true,dL.f0,cJ.load,c0,p1,cK.f1,bR.load,p3,cE,reduceIte];exact hk
theorem aVM{h:PH}{b:Nat}{s:St}{G:List Nat}(H:vT h b s G)(x:Nat)(hx:x<18446744073709551616){k:cD}(hn:mR s x=none->k (.tuple #[.slice none 0 0,.int .i64 3]) h)
  (hk:∀l v,mR s x=some l->fQ h 2 v (l.map Pr.cells)->aDR v G->k (.tuple #[v,.int .i64 0]) h):aT PG uT #[pT b 0,.int .u64 (x:Int)] h k:=by
 apply qJ.call;unfold qJ;have hok:=H.ok;have hok1:=hok.h1;have hok2:=hok.h2;have hok3:=hok.h3;have hok4:=hok.h4;have hnone:=aLj hok1 (x:=x);have H0:=H;obtain⟨nv,bv,bl,h1,h2,h3,h4,h5,h6,h7,h8,h9⟩:=H.here;have c1:dE h ⟨b,0+1,none⟩=some (.int .u64 ((s.height-(s.blocks.length-1):Nat):Int)):=by simp[dE,h1]
 have c2:dE h ⟨b,0+2,none⟩=some bv:=by simp[dE,h1]
 by_cases d1:x<s.height-(s.blocks.length-1)
 ·have g1:((x:Int)<((s.height-(s.blocks.length-1):Nat):Int))=True:=eq_true (by omega);simp only[dL.f1,cA.load,c1,g1,aNd,aME,cE,reduceIte];exact hn (hnone.2 (by omega))
 have g1:((x:Int)<((s.height-(s.blocks.length-1):Nat):Int))=False:=eq_false (by omega);simp only[dL.f1,cA.load,c1,g1,cE,reduceIte];refine aDW H0 ?_;by_cases d2:s.height<x
 ·have g2:((s.height:Int)<(x:Int))=True:=eq_true (by omega);simp only[g2,cE,reduceIte];exact hn (hnone.2 (by omega))
 have g2:((s.height:Int)<(x:Int))=False:=eq_false (by omega);have hs:∃l,mR s x=some l:=by
  cases e:mR s x with
  | none=>have:=hnone.1 e;omega
  | some l=>exact⟨l,rfl⟩
 obtain⟨l,hl⟩:=hs;obtain⟨-,hidx⟩:=aKj hl;have hi:s.blocks.length-1-(s.height-x)=x-(s.height-(s.blocks.length-1)):=by omega
 have w1:IntKind.u64.wrap ((x:Int)-((s.height-(s.blocks.length-1):Nat):Int))=((x-(s.height-(s.blocks.length-1)):Nat):Int):=by rw[gL (by omega) (by omega)];omega
 rw[hi] at hidx;generalize x-(s.height-(s.blocks.length-1))=j at *;rw[←h5,wL] at hidx;obtain⟨⟨v,l'⟩,hy,e⟩:=Option.map_eq_some_iff.1 hidx;simp only at e;subst e;have hmem:=qB hy;obtain⟨pa,p1,p2⟩:=h3.loadCell (t:=eY) (k:=.u64) (j:=(j:Int)) (x:=v) eY.und cJ.info cJ.size cJ.und rfl (by omega) (by rw[pK,wL,hy];rfl);simp only[g2,dL.f1,dL.f2,cA.load,eY.load,c1,c2,w1,p1,p2,cE,reduceIte];exact hk _ v hl (h4 _ hmem).1 (h4 _ hmem).2
theorem aUh{h:PH}{b:Nat}{s:St}{G:List Nat}(H:vT h b s G){bk m:Nat}{A:List Tx}{c:Bool}{K:List Nat}(B:vW h bk m A c K)(hd:∀x∈G,x≠bk∧x≠m)(x:Nat)(hx:x<18446744073709551616){k:cD}(hn:mR s x=none->k (.tuple #[.string (tx []),.int .i64 3]) h)
  (hk:∀l h' c',mR s x=some l->vW h' bk m (sQ l++A) c' K->(c=true->c'=true)->cV [bk,m] h h'->k (.tuple #[.string (tx (kE l)),.int .i64 0]) h'):aT PG zV #[pT b 0,pT bk 0,.int .u64 (x:Int)] h k:=by
 apply wD.call;unfold wD;refine aVM H x hx (λhs=>?_) (λl v hs S hv=>?_)
 ·simp only[show((3:Int) !=0)=true from rfl,cE,reduceIte];exact hn hs
 ·simp only[show((0:Int) !=0)=false from rfl,bne_self_eq_false,cE,reduceIte];have hb:=H.ok.blk l (by
   obtain⟨-,h2⟩:=aKj hs;exact qB h2)
  refine aQo B (by omega) S (λa n c e=>by
   have:=hd _ (hv a n c e);simp[this]) (λp hp=>by have:=hb.2.1 p hp;unfold aPJ at this;omega) λh' c' B' hc u=>?_
  exact hk l h' c' hs B' hc u
end
section
open Go
theorem aFW{b m:Nat}{A:List Tx}{K:List Nat}{X:lU}{h:PH}{F:List Nat}(H:eH (rU b m A K) X h F):∃Fd,X h Fd∧Bk b m A K h∧F=(b::m::K)++Fd∧∀x∈b::m::K,x∉Fd:=by
 obtain⟨Fa,Fb,rfl,⟨rfl,B⟩,HX,hd⟩:=H;exact⟨Fb,HX,B,rfl,hd⟩
theorem aHp{b m:Nat}{A:List Tx}{K:List Nat}{X':lU}{h h':PH}{Fd Fd':List Nat}(B:Bk b m A K h)(hd:∀x∈b::m::K,x∉Fd)(HX:X' h' Fd')(s:iO h Fd h' Fd'):eH (rU b m A K) X' h' ((b::m::K)++Fd')∧iO h ((b::m::K)++Fd) h' ((b::m::K)++Fd'):=by
 refine⟨eH.mk ⟨rfl,B.upd s.upd (λx hx hm=>hd x hx hm)⟩ HX (λx hx hx8=>?_),⟨s.upd.mono λx hx=>.inl (by simp[hx]),λx hx=>?_⟩⟩
 ·rcases s.grow x hx8 with hh|hh
  ·exact hd x hx hh
  ·exact B.known x hx hh
 ·rcases jB.1 hx with hx|hx
  ·exact .inl (zLk _ hx)
  ·rcases s.grow x hx with hh|hh
   ·exact .inl (zLl _ hh)
   ·exact .inr hh
theorem rU.mono{b m:Nat}{A B:List Tx}{K:List Nat}{X:lU}{h:PH}{F:List Nat}(H:eH (rU b m A K) X h F)(hs:∀a∈B,a∈A):eH (rU b m B K) X h F:=by
 obtain⟨Fa,Fb,rfl,⟨rfl,B'⟩,HX,hd⟩:=H;exact⟨_,Fb,rfl,⟨rfl,B'.mono hs⟩,HX,hd⟩
theorem aMS{b m:Nat}{K Fd:List Nat}(hd:∀x∈b::m::K,x∉Fd):∀x∈Fd,x∉[b,m]:=λx hx hm=>by
 simp only[gE,kD,or_false] at hm;rcases hm with rfl|rfl
 ·exact hd _ (by simp) hx
 ·exact hd _ (by simp) hx
theorem aZw{s:Ch}(w:s.DOk){p:Pk}(hr:p.right=true):(p.f==1-s.id)=!(p.f==s.id):=by
 obtain⟨h1,h2,-⟩:=Pk.right_iff.1 hr;have:=w.id;rw[zLm];simp only[beq_iff_eq,Bool.not_eq_true',beq_eq_false_iff_ne,ne_eq];omega
noncomputable def aKG(s:Ch)(p:Pk)(pf:Tx)(x:Int):Int:=pF s (qM s p pf x)
theorem aV9(s:Ch)(p:Pk)(pf:Tx)(x:Int):aKG s p pf x=if s.st.height=18446744073709551615 then 12 else if (p.right&&(p.f==1-s.id))=false then 1 else if ¬IntKind.u64.wrap ((s.st.height:Int)+1)<p.t then 10 else if (gF s.st.now (fR 114 p.s.toNat)).isSome=true then 4 else if (jK s.cl x).isSome=false then 11 else if aCr (oY s.cl x) pf (fR 99 p.s.toNat) (mL p)=false then 9 else if ¬s.st.now.length+2≤4096 then 2 else 0:=by
 unfold aKG pF qM;by_cases c0:s.st.height=18446744073709551615
 ·rw[if_pos c0,if_pos c0]
 ·rw[if_neg c0,if_neg c0];generalize (p.right&&(p.f==1-s.id))=b1;generalize aCr (oY s.cl x) pf (fR 99 p.s.toNat) (mL p)=b2;generalize (jK s.cl x).isSome=b3;generalize (gF s.st.now (fR 114 p.s.toNat)).isSome=b4;by_cases c2:IntKind.u64.wrap ((s.st.height:Int)+1)<p.t<;>by_cases c3:s.st.now.length+2≤4096<;>cases b1<;>cases b2<;>cases b3<;>cases b4<;>simp[yH,c2,c3]
theorem aNi(l:List gO)(x:Int):(jK l x).getD ⟨#[]⟩=tx (oY l x):=by
 unfold oY;exact(aHu _).symm
theorem aWp{h:PH}{c b m:Nat}{s:Ch}{n:Nat}{A:List Tx}{K F:List Nat}(H:eH (rU b m A K) (DC c b s n) h F)(w:s.DOk)(hn:n≤10000){p:Pk}(pw:p.wf){pf:Tx}(hpf:pf.length≤1000000){x:Nat}(hx:x<18446744073709551616){k:cD}
  (hbad:aKG s p pf (x:Int)≠0->∀h',eH (rU b m A K) (DC c b s n) h' F->iO h F h' F->k (.int .i64 (aKG s p pf (x:Int))) h')
  (hok:aKG s p pf (x:Int)=0->∀h' F',eH (rU b m ((aGJ p++(aGs pf++pL p))++A) K) (DC c b (s.received p) (n+1)) h' F'->iO h F h' F'->k (.int .i64 0) h'):
  aT PG aAB #[pT c 0,p.v,.string (tx pf),.int .u64 (x:Int)] h k:=by
 apply oW.call;unfold oW;have gX:∀s n,lW (DC c b s n):=λ_ _=>DC.good _ _ _ _;have gW:lW (eH (rU b m A K) (DC c b s n)):=(rU.good _ _ _ _).star (gX _ _);obtain⟨Fd,Hd,HB,eF,hdis⟩:=aFW H;subst eF;obtain⟨sp,cp,bv,nv,P⟩:=id Hd;have offd:=aMS hdis;obtain⟨q,hq⟩:=zLn pw.1;have hq2:q<18446744073709551616:=by have:=pw.2.1;omega
 have hqn:p.s.toNat=q:=by omega
 intro r1 hr1
 try rw[cY]
 have u1:dB h (h.set r1 (.cells (Value.cells p.v) aR)):=cV.new hr1;have X1:Bx (h.set r1 (.cells (Value.cells p.v) aR)) r1 p.cells:=Bx.new;generalize h.set r1 (.cells (Value.cells p.v) aR)=h1 at *;have P1:=nC.good.ext P u1;have lp:∀{h':PH},dB h1 h'->cG PG h' (loadAt aR (pT r1 0))=some p.v:=λu=>(X1.ext u).pk rfl;have lf:∀{h':PH},dB h1 h'->cG PG h' (loadAt bT (pT r1 0))=some (.int .i64 p.f):=λu=>by rw[bT.load,(X1.ext u).cell];rfl
 have ls:∀{h':PH},Bx h' r1 p.cells->cG PG h' (loadAt cA (pT r1 1))=some (.int .u64 (q:Int)):=λX=>by rw[cA.load,X.cell,←hq];rfl
 have lt:∀{h':PH},dB h1 h'->cG PG h' (loadAt cA (pT r1 2))=some (.int .u64 p.t):=λu=>by rw[cA.load,(X1.ext u).cell];rfl
 have no:∀{h3:PH} (e:Int),dB h1 h3->aKG s p pf (x:Int)=e->e≠0->k (.int .i64 e) h3:=fun {h3} e u3 he hne=>by
  have:=hbad (by rw[he];exact hne) h3 (gW.ext H (u1.trans u3)) (iO.ext (u1.trans u3));rw[he] at this;exact this
 have hse:=aV9 s p pf (x:Int);obtain⟨Fs1,⟨G1,S1,-⟩,-,-⟩:=P1.fSt;simp only[cQ.f2,fC,dl2 P1.cell,cE,reduceIte,cT,Nat.reduceAdd];refine aDW S1 ?_;by_cases c0:s.st.height=18446744073709551615
 ·have q0:((s.st.height:Int)==18446744073709551615)=true:=by rw[c0];rfl
  rw[if_pos c0] at hse;simp only[iB,q0,cE,reduceIte,cT,Nat.reduceAdd];exact no 12 cV.refl hse (by decide)
 have q0:((s.st.height:Int)==18446744073709551615)=false:=by rw[beq_eq_false_iff_ne];omega
 rw[if_neg c0] at hse;simp only[iB,q0,lp cV.refl,cE,reduceIte,cT,Nat.reduceAdd];refine aId p pw.1 pw.2.2.1 λh2 u2=>?_;have P2:=nC.good.ext P1 u2;cases hr:p.right with
 | false=>
  rw[hr,xI,if_pos rfl] at hse;simp only[cE,reduceIte,cT,Nat.reduceAdd];exact no 1 u2 hse (by decide)
 | true=>
  rw[hr,zLp,aZw w hr] at hse;cases hf:p.f==s.id with
  | true=>
   rw[hf,Bool.not_true,if_pos rfl] at hse;simp only[aR.f0,cQ.f1,fC,lf u2,dl1 P2.cell,iB,hf,cE,reduceIte,cT,Nat.reduceAdd];exact no 1 u2 hse (by decide)
  | false=>
   rw[hf,zLq,if_neg (by decide)] at hse;obtain⟨Fs2,⟨G2,S2,-⟩,-,-⟩:=P2.fSt;simp only[aR.f0,aR.f2,cQ.f1,cQ.f2,fC,lf u2,lt u2,dl1 P2.cell,dl2 P2.cell,iB,hf,cE,reduceIte,cT,Nat.reduceAdd];refine aDW S2 ?_;refine⟨lt u2,?_⟩;by_cases c2:IntKind.u64.wrap ((s.st.height:Int)+1)<p.t
   case neg=>
    have g:(p.t≤IntKind.u64.wrap ((s.st.height:Int)+1))=True:=eq_true (by omega);rw[if_pos c2] at hse;simp only[g,cE,reduceIte,cT,Nat.reduceAdd];exact no 10 u2 hse (by decide)
   have g:(p.t≤IntKind.u64.wrap ((s.st.height:Int)+1))=False:=eq_false (by omega);rw[if_neg (by simpa using c2)] at hse;have q114:({data:=#[114]}:ByteArray)=tx [114]:=rfl;have q99:({data:=#[99]}:ByteArray)=tx [99]:=rfl;have q97:({data:=#[97]}:ByteArray)=tx [97]:=rfl;simp only[g,cQ.f2,aR.f1,fC,dl2 P2.cell,ls (X1.ext u2),q114,cE,reduceIte,cT,Nat.reduceAdd];refine aAc (c:=114) (n:=q) hq2 λh3 u3=>?_;have u13:=u2.trans u3;have P3:=nC.good.ext P2 u3;obtain⟨Fs3,⟨G3,S3,-⟩,-,-⟩:=P3.fSt;refine⟨dl2 P3.cell,?_⟩;refine aRt S3 _ ?_;rw[hqn] at hse;cases hg:(gF s.st.now (fR 114 q)).isSome with
   | true=>
    rw[hg,if_pos rfl] at hse;simp only[cE,reduceIte,cT,Nat.reduceAdd];exact no 4 u13 hse (by decide)
   | false=>
    rw[hg,if_neg (by decide)] at hse;obtain⟨Fc,KR,-,-⟩:=P3.fCl;simp only[cQ.f3,fC,dl3 P3.cell,cE,reduceIte,cT,Nat.reduceAdd];refine aLg KR (by have:=w.few;omega) (x:Int) ?_;rw[aNi];cases hro:(jK s.cl (x:Int)).isSome with
    | false=>
     rw[hro,if_pos rfl] at hse;simp only[cE,reduceIte,cT,Nat.reduceAdd];exact no 11 u13 hse (by decide)
    | true=>
     rw[hro,if_neg (by decide)] at hse;simp only[cQ.f0,aR.f1,fC,dl0 P3.cell,ls (X1.ext u13),lp u13,q99,cE,reduceIte,cT,Nat.reduceAdd];refine aAc (c:=99) (n:=q) hq2 λh4 u4=>?_;have u14:=u13.trans u4;have P4:=nC.good.ext P3 u4;refine⟨lp u14,dl0 P4.cell,dl0 P4.cell,?_⟩;refine aLf (HB.ext (u1.trans u14)) pw λh5 B5 u5=>?_;have P5:=nC.good.upd P4 u5 offd;refine⟨dl0 P5.cell,?_⟩;refine aSb B5 (by omega) λh6 B6 u6=>?_;have P6:=nC.good.upd P5 u6 offd;have u46:cV [b,m] h4 h6:=u5.trans u6;have B6':Bk b m ((aGs pf++pL p)++A) K h6:=B6.mono λa ha=>by
      simp only[jB] at ha ⊢;rcases ha with(ha|ha)|ha
      ·exact .inl ha
      ·exact .inr (.inl ha)
      ·exact .inr (.inr ha)
     obtain⟨W6,s6⟩:=aHh (gX s n) (gW.ext H (u1.trans u14)) B6' u46;have sh6:=(iO.ext (F:=(b::m::K)++Fd) (u1.trans u14)).trans s6;have n1b:r1∉[b,m]:=(dZ.one hr1).off (HB.known b (by simp)) (HB.known m (by simp)) r1 (by simp);have X6:=(X1.ext u14).upd u46 n1b;have nX:r1∉Fd:=λhm=>(gX s n).known Hd _ hm hr1;have no2:∀(e:Int),aKG s p pf (x:Int)=e->e≠0->k (.int .i64 e) h6:=λe he hne=>by
      have:=hbad (by rw[he];exact hne) h6 (rU.mono W6 λa ha=>by simp[ha]) sh6;rw[he] at this;exact this
     cases hh:aCr (oY s.cl (x:Int)) pf (fR 99 q) (mL p) with
     | false=>
      rw[hh,if_pos rfl] at hse;simp only[cE,reduceIte,cT,Nat.reduceAdd];exact no2 9 hse (by decide)
     | true=>
      rw[hh,if_neg (by decide)] at hse;simp only[cE,reduceIte,cT,Nat.reduceAdd];refine aRU (s:=s) (n:=n) (b:=b) ⟨sp,cp,bv,nv,P6⟩ 2 (by decide) ?_;by_cases c3:s.st.now.length+2≤4096
      case neg=>
       have q3:=decide_eq_false c3;rw[if_pos c3] at hse;simp only[q3,cE,reduceIte,cT,Nat.reduceAdd];exact no2 2 hse (by decide)
      have q3:=decide_eq_true c3;rw[if_neg (by simpa using c3)] at hse;have hok:=hok hse;simp only[q3,cQ.f2,aR.f1,fC,dl2 P6.cell,ls X6,q114,cE,reduceIte,cT,Nat.reduceAdd];refine aAc (c:=114) (n:=q) hq2 λh7 u7=>?_;have P7:=nC.good.ext P6 u7;refine⟨dl2 P7.cell,?_⟩;have t1:({data:=#[1]}:ByteArray)=tx [1]:=rfl;rw[t1];refine aPA P7 (by rw[xF];decide) (by rw[xF];decide) (by decide) (λhh=>by omega) λh8 F8 P8 s8=>?_;obtain⟨X8,nX8⟩:=aAD (X6.ext u7) nX s8;have l8:cG PG h8 (loadAt aR (pT r1 0))=some p.v:=X8.pk rfl
      -- the book's turn
      obtain⟨W8,sW8⟩:=aHp (X':=DC c b (s.put (fR 114 q) [1]) n) (B6'.ext u7) hdis ⟨sp,cp,bv,nv,P8⟩ s8;obtain⟨F8',Hd8,B8,eF8,hdis8⟩:=aFW W8;have eF8':F8'=F8:=(List.append_cancel_left eF8).symm;subst eF8';have hfit:(nR s.st.now ⟨fR 114 q,[1]⟩).length≤s.st.now.length+1:=by
       unfold nR;rw[jS,tM];have hpar:∀L:List Pr,(L.filter λq'=>decide (q'.k<fR 114 q)).length+(L.filter λq'=>decide (fR 114 q<q'.k)).length≤L.length:=λL=>by
        induction L with
        | nil=>simp
        | cons y L ih=>
         simp only[List.filter_cons];by_cases c1:y.k<fR 114 q
         ·have c2:¬fR 114 q<y.k:=List.lt_asymm c1;simp only[c1,c2,decide_true,decide_false,if_true,zLt,if_false,tM];omega
         ·by_cases c2:fR 114 q<y.k
          ·simp only[c1,c2,decide_true,decide_false,if_true,zLt,if_false,tM];omega
          ·simp only[c1,c2,decide_false,zLt,if_false,tM];omega
       have:=hpar s.st.now;show(s.st.now.filter λq'=>decide (q'.k<fR 114 q)).length+((s.st.now.filter λq'=>decide (fR 114 q<q'.k)).length+1)≤_;omega
      simp only[cQ.f0,cQ.f2,aR.f1,fC,dl2 P8.cell,dl0 P8.cell,ls X8,l8,q97,cE,reduceIte,cT,Nat.reduceAdd];refine aAc (c:=97) (n:=q) hq2 λh9 u9=>?_;have P9:=nC.good.ext P8 u9;have X9:=X8.ext u9;have l9:cG PG h9 (loadAt aR (pT r1 0))=some p.v:=X9.pk rfl;refine⟨l9,dl0 P9.cell,dl2 P9.cell,?_⟩;refine aOF (B8.ext u9) pw λh10 B10 u10=>?_;have P10:=nC.good.upd P9 u10 (aMS hdis8);obtain⟨W10,s10⟩:=aHh (gX _ n) (((rU.good _ _ _ _).star (gX _ n)).ext W8 u9) B10 u10;have X10:=X9.upd u10 n1b;refine⟨dl2 P10.cell,?_⟩;refine aPA (s:=s.put (fR 114 q) [1]) P10 (by rw[xF];decide) (by rw[xF];decide) (aQv _) (λhh=>?_) λh11 F11 P11 s11=>?_
      ·have h2:4096≤(nR s.st.now ⟨fR 114 q,[1]⟩).length:=hh.2;omega
      obtain⟨X11,nX11⟩:=aAD X10 nX8 s11;have l11:cG PG h11 (loadAt aR (pT r1 0))=some p.v:=X11.pk rfl;simp only[l11,cE,reduceIte,cT,Nat.reduceAdd];refine aLP (s:=(s.put (fR 114 q) [1]).put (fR 97 q) (aCF p)) (n:=n) (b:=b) ⟨sp,cp,bv,nv,P11⟩ hn 2 p λh12 F12 P12 s12=>?_;have hdis10:=hdis8;obtain⟨W12,sW12⟩:=aHp (X':=DC c b (s.received p) (n+1)) B10 hdis10 (by
       unfold Ch.received;rw[hqn];exact P12) (s11.trans s12)
      refine hok h12 _ (rU.mono W12 λa ha=>?_) ?_
      ·simp only[jB] at ha ⊢;rcases ha with(ha|ha|ha)|ha
       ·exact .inl ha
       ·exact .inr (.inl (.inl ha))
       ·exact .inr (.inl (.inr ha))
       ·exact .inr (.inr ha)
      ·exact(((sh6.trans (iO.ext u7)).trans sW8).trans (iO.ext u9)).trans (s10.trans sW12)
noncomputable def aDP(s:Ch)(p:Pk):Int:=pF s [(1,p.right&&(p.f==s.id)),(3,nO s p)]
theorem aQx(s:Ch)(p:Pk):aDP s p=if s.st.height=18446744073709551615 then 12 else if (p.right&&(p.f==s.id))=false then 1 else if nO s p=false then 3 else 0:=by
 unfold aDP pF;by_cases c0:s.st.height=18446744073709551615
 ·rw[if_pos c0,if_pos c0]
 ·rw[if_neg c0,if_neg c0];generalize (p.right&&(p.f==s.id))=b1;generalize nO s p=b2;cases b1<;>cases b2<;>simp[yH]
theorem aOZ(s:Ch)(p:Pk)(l:List (Int×Bool)):iW s p l=if aDP s p=0 then yH l else aDP s p:=by
 unfold iW aDP pF;by_cases c0:s.st.height=18446744073709551615
 ·rw[if_pos c0,if_pos c0];rfl
 ·rw[if_neg c0,if_neg c0];generalize (p.right&&(p.f==s.id))=b1;generalize nO s p=b2;cases b1<;>cases b2<;>simp[yH]
theorem aRx{h:PH}{c b m:Nat}{s:Ch}{n:Nat}{A:List Tx}{K F:List Nat}{sp cp:Nat}{bv nv:Value}(HB:Bk b m A K h)(P:nC c (s.dcells b sp cp bv nv) sp s.st cp s.cl bv nv n h F){p:Pk}(pw:p.wf){k:cD}
  (hk:∀h',Bk b m ((if aDP s p=0 then pL p else [])++A) K h'->cV [b,m] h h'->k (.int .i64 (aDP s p)) h'):
  aT PG sG #[pT c 0,p.v] h k:=by
 apply oU.call;unfold oU;obtain⟨q,hq⟩:=zLn pw.1;have hq2:q<18446744073709551616:=by have:=pw.2.1;omega
 have hqn:p.s.toNat=q:=by omega
 intro r1 hr1
 try rw[cY]
 have u1:dB h (h.set r1 (.cells (Value.cells p.v) aR)):=cV.new hr1;have X1:Bx (h.set r1 (.cells (Value.cells p.v) aR)) r1 p.cells:=Bx.new;generalize h.set r1 (.cells (Value.cells p.v) aR)=h1 at *;have P1:=nC.good.ext P u1;have lp:∀{h':PH},dB h1 h'->cG PG h' (loadAt aR (pT r1 0))=some p.v:=λu=>(X1.ext u).pk rfl;have lf:∀{h':PH},dB h1 h'->cG PG h' (loadAt bT (pT r1 0))=some (.int .i64 p.f):=λu=>by rw[bT.load,(X1.ext u).cell];rfl
 have ls:∀{h':PH},dB h1 h'->cG PG h' (loadAt cA (pT r1 1))=some (.int .u64 (q:Int)):=λu=>by rw[cA.load,(X1.ext u).cell,←hq];rfl
 have hse:=aQx s p;have no:∀{h3:PH} (e:Int),dB h1 h3->aDP s p=e->e≠0->k (.int .i64 e) h3:=fun {h3} e u3 he hne=>by
  have:=hk h3 (by rw[if_neg (by rw[he];exact hne)];exact HB.ext (u1.trans u3)) (u1.trans u3).upd;rw[he] at this;exact this
 obtain⟨Fs1,⟨G1,S1,-⟩,-,-⟩:=P1.fSt;simp only[cQ.f2,fC,dl2 P1.cell,cE,reduceIte,cT,Nat.reduceAdd];refine aDW S1 ?_;by_cases c0:s.st.height=18446744073709551615
 ·have q0:((s.st.height:Int)==18446744073709551615)=true:=by rw[c0];rfl
  rw[if_pos c0] at hse;simp only[iB,q0,cE,reduceIte,cT,Nat.reduceAdd];exact no 12 cV.refl hse (by decide)
 have q0:((s.st.height:Int)==18446744073709551615)=false:=by rw[beq_eq_false_iff_ne];omega
 rw[if_neg c0] at hse;simp only[iB,q0,lp cV.refl,cE,reduceIte,cT,Nat.reduceAdd];refine aId p pw.1 pw.2.2.1 λh2 u2=>?_;have P2:=nC.good.ext P1 u2;cases hr:p.right with
 | false=>
  rw[hr,xI,if_pos rfl] at hse;simp only[cE,reduceIte,cT,Nat.reduceAdd];exact no 1 u2 hse (by decide)
 | true=>
  rw[hr,zLp] at hse;cases hf:p.f==s.id with
  | false=>
   rw[hf,if_pos rfl] at hse;have hf':(p.f !=s.id)=true:=by rw[bne,hf];rfl
   simp only[aR.f0,cQ.f1,fC,lf u2,dl1 P2.cell,kI,hf',cE,reduceIte,cT,Nat.reduceAdd];exact no 1 u2 hse (by decide)
  | true=>
   rw[hf,if_neg (by decide)] at hse;have hf':(p.f !=s.id)=false:=by rw[bne,hf];rfl
   have q99:({data:=#[99]}:ByteArray)=tx [99]:=rfl;simp only[aR.f0,aR.f1,cQ.f1,cQ.f2,fC,lf u2,ls u2,dl1 P2.cell,dl2 P2.cell,kI,hf',q99,cE,reduceIte,cT,Nat.reduceAdd];refine aAc (c:=99) (n:=q) hq2 λh3 u3=>?_;have u13:=u2.trans u3;have P3:=nC.good.ext P2 u3;obtain⟨Fs3,⟨G3,S3,-⟩,-,-⟩:=P3.fSt;refine⟨dl2 P3.cell,?_⟩;refine aRt S3 _ ?_;have hsp:nO s p=match gF s.st.now (fR 99 q) with|some y=>decide (y.v=mL p)|none=>false:=by unfold nO;rw[hqn];rfl
   cases hg:gF s.st.now (fR 99 q) with
   | none=>
    rw[hg] at hsp;rw[hsp,if_pos rfl] at hse;simp only[zLu,cE,reduceIte,cT,Nat.reduceAdd];exact no 3 u13 hse (by decide)
   | some y=>
    rw[hg] at hsp;simp only[aNv,aIg,aIr,cQ.f0,fC,dl0 P3.cell,lp u13,cE,reduceIte,cT,Nat.reduceAdd];refine aLf (HB.ext (u1.trans u13)) pw λh4 B4 u4=>?_;have hu:cV [b,m] h h4:=(u1.trans u13).upd.trans u4;by_cases he:y.v=mL p
    ·have hsp':nO s p=true:=by rw[hsp];exact decide_eq_true he
     rw[hsp',if_neg (by decide)] at hse;have d1:(!decide (y.v=mL p))=false:=by rw[decide_eq_true he];rfl
     simp only[aDy,d1,cE,reduceIte,cT,Nat.reduceAdd];have:=hk h4 (by rw[if_pos hse];exact B4) hu;rw[hse] at this;exact this
    ·have hsp':nO s p=false:=by rw[hsp];exact decide_eq_false he
     rw[hsp',if_pos rfl] at hse;have d1:(!decide (y.v=mL p))=true:=by rw[decide_eq_false he];rfl
     simp only[aDy,d1,cE,reduceIte,cT,Nat.reduceAdd];have:=hk h4 (by rw[if_neg (by rw[hse];decide)];exact B4.mono λa ha=>zLl _ ha) hu;rw[hse] at this;exact this
theorem bAc(s:Ch)(p:Pk)(pf:Tx)(x:Int):yH (sV s p pf x)=if (jK s.cl x).isSome=false then 11 else if aCr (oY s.cl x) pf (fR 97 p.s.toNat) (aCF p)=false then 9 else 0:=by
 unfold sV;generalize (jK s.cl x).isSome=b1;generalize aCr (oY s.cl x) pf (fR 97 p.s.toNat) (aCF p)=b2;cases b1<;>cases b2<;>simp[yH]
theorem aZz(s:Ch)(p:Pk)(pf:Tx)(x:Int):yH (oG s p pf x)=if (jK s.cl x).isSome=false then 11 else if ¬IntKind.u64.wrap (p.t-1)≤x then 11 else if aDB (oY s.cl x) pf (fR 114 p.s.toNat)=false then 9 else 0:=by
 unfold oG;generalize (jK s.cl x).isSome=b1;generalize aDB (oY s.cl x) pf (fR 114 p.s.toNat)=b2;by_cases c:IntKind.u64.wrap (p.t-1)≤x<;>cases b1<;>cases b2<;>simp[yH,c]
theorem aPd{s:Ch}{p:Pk}(h:nO s p=true):(gF s.st.now (fR 99 p.s.toNat)).isSome=true:=by
 unfold nO at h;cases hg:gF s.st.now (fR 99 p.s.toNat) with
 | none=>rw[hg] at h;cases h
 | some y=>rfl
theorem aQC{s:Ch}{p:Pk}(h:aDP s p=0):nO s p=true∧p.right=true∧p.f=s.id:=by
 rw[aQx] at h;split at h
 ·simp at h
 ·split at h
  ·simp at h
  ·rename_i h1;split at h
   ·simp at h
   ·rename_i h2;simp only[Bool.not_eq_false,wN,beq_iff_eq] at h1 h2;exact⟨h2,h1⟩
theorem aXw{h:PH}{c b m:Nat}{s:Ch}{n:Nat}{A:List Tx}{K F:List Nat}(H:eH (rU b m A K) (DC c b s n) h F)(w:s.DOk)(hn:n≤10000){p:Pk}(pw:p.wf){pf:Tx}(hpf:pf.length≤1000000){x:Nat}(hx:x<18446744073709551616){k:cD}
  (hbad:iW s p (sV s p pf (x:Int))≠0->∀h',eH (rU b m A K) (DC c b s n) h' F->iO h F h' F->k (.int .i64 (iW s p (sV s p pf (x:Int)))) h')
  (hok:iW s p (sV s p pf (x:Int))=0->∀h' F',eH (rU b m ((aGs pf++(aGJ p++pL p))++A) K) (DC c b (s.settled 3 p) (n+1)) h' F'->iO h F h' F'->k (.int .i64 0) h'):
  aT PG aAJ #[pT c 0,p.v,.string (tx pf),.int .u64 (x:Int)] h k:=by
 apply pQ.call;unfold pQ;have gX:∀s n,lW (DC c b s n):=λ_ _=>DC.good _ _ _ _;have gW:lW (eH (rU b m A K) (DC c b s n)):=(rU.good _ _ _ _).star (gX _ _);obtain⟨Fd,Hd,HB,eF,hdis⟩:=aFW H;subst eF;obtain⟨sp,cp,bv,nv,P⟩:=id Hd;have offd:=aMS hdis;obtain⟨q,hq⟩:=zLn pw.1;have hq2:q<18446744073709551616:=by have:=pw.2.1;omega
 have hqn:p.s.toNat=q:=by omega
 intro r1 hr1
 try rw[cY]
 have u1:dB h (h.set r1 (.cells (Value.cells p.v) aR)):=cV.new hr1;have X1:Bx (h.set r1 (.cells (Value.cells p.v) aR)) r1 p.cells:=Bx.new;generalize h.set r1 (.cells (Value.cells p.v) aR)=h1 at *;have P1:=nC.good.ext P u1;have n1b:r1∉[b,m]:=(dZ.one hr1).off (HB.known b (by simp)) (HB.known m (by simp)) r1 (by simp);have nX:r1∉Fd:=λhm=>(gX s n).known Hd _ hm hr1;have lp:∀{h':PH},Bx h' r1 p.cells->cG PG h' (loadAt aR (pT r1 0))=some p.v:=λX=>X.pk rfl;have ls:∀{h':PH},Bx h' r1 p.cells->cG PG h' (loadAt cA (pT r1 1))=some (.int .u64 (q:Int)):=λX=>by rw[cA.load,X.cell,←hq];rfl
 have hse:=aOZ s p (sV s p pf (x:Int));have stepOf:∀{h3:PH} {A':List Tx},Bk b m A' K h3->cV [b,m] h1 h3->(∀a∈A,a∈A')->eH (rU b m A K) (DC c b s n) h3 ((b::m::K)++Fd)∧iO h ((b::m::K)++Fd) h3 ((b::m::K)++Fd):=fun {h3 A'} B3 u3 hs=>by
  obtain⟨W3,s3⟩:=aHh (gX s n) (gW.ext H u1) B3 u3;exact⟨rU.mono W3 hs,(iO.ext u1).trans s3⟩
 have no:∀{h3:PH} {A':List Tx} (e:Int),Bk b m A' K h3->cV [b,m] h1 h3->(∀a∈A,a∈A')->iW s p (sV s p pf (x:Int))=e->e≠0->k (.int .i64 e) h3:=fun {h3 A'} e B3 u3 hs he hne=>by
  obtain⟨W3,s3⟩:=stepOf B3 u3 hs;have:=hbad (by rw[he];exact hne) h3 W3 s3;rw[he] at this;exact this
 simp only[lp X1,cE,reduceIte,cT,Nat.reduceAdd];refine aRx (s:=s) (n:=n) (HB.ext u1) P1 pw λh2 B2 u2=>?_;have P2:=nC.good.upd P1 u2 offd;have X2:=X1.upd u2 n1b;by_cases hm:aDP s p=0
 case neg=>
  have q0:(aDP s p !=0)=true:=by rw[bne_iff_ne];exact hm
  rw[if_neg hm] at hse;simp only[kI,q0,cE,reduceIte,cT,Nat.reduceAdd];exact no _ B2 u2 (λa ha=>zLl _ ha) hse hm
 have q0:(aDP s p !=0)=false:=by rw[hm];rfl
 rw[if_pos hm] at B2 hse;rw[bAc,hqn] at hse;obtain⟨Fc,KR,-,-⟩:=P2.fCl;simp only[kI,q0,cQ.f3,fC,dl3 P2.cell,cE,reduceIte,cT,Nat.reduceAdd];refine aLg KR (by have:=w.few;omega) (x:Int) ?_;rw[aNi];cases hro:(jK s.cl (x:Int)).isSome with
 | false=>
  rw[hro,if_pos rfl] at hse;simp only[cE,reduceIte,cT,Nat.reduceAdd];exact no 11 B2 u2 (λa ha=>zLl _ ha) hse (by decide)
 | true=>
  rw[hro,if_neg (by decide)] at hse;have q97:({data:=#[97]}:ByteArray)=tx [97]:=rfl;have q99:({data:=#[99]}:ByteArray)=tx [99]:=rfl;simp only[cQ.f0,aR.f1,fC,dl0 P2.cell,ls X2,lp X2,q97,cE,reduceIte,cT,Nat.reduceAdd];refine aAc (c:=97) (n:=q) hq2 λh4 u4=>?_;have P4:=nC.good.ext P2 u4;have X4:=X2.ext u4;refine⟨lp X4,dl0 P4.cell,dl0 P4.cell,?_⟩;refine aOF (B2.ext u4) pw λh5 B5 u5=>?_;have P5:=nC.good.upd P4 u5 offd;refine⟨dl0 P5.cell,?_⟩;refine aSb B5 (by omega) λh6 B6 u6=>?_;have P6:=nC.good.upd P5 u6 offd;have u16:cV [b,m] h1 h6:=((u2.trans u4.upd).trans u5).trans u6;have X6:Bx h6 r1 p.cells:=X1.upd u16 n1b;have hsub:∀a∈A,a∈aGs pf++(aGJ p++(pL p++A)):=λa ha=>by simp[ha]
  cases hh:aCr (oY s.cl (x:Int)) pf (fR 97 q) (aCF p) with
  | false=>
   rw[hh,if_pos rfl] at hse;simp only[cE,reduceIte,cT,Nat.reduceAdd];exact no 9 B6 u16 hsub hse (by decide)
  | true=>
   rw[hh,if_neg (by decide)] at hse;have hok:=hok hse;obtain⟨-,sh6⟩:=stepOf B6 u16 hsub;simp only[cQ.f2,aR.f1,fC,dl2 P6.cell,ls X6,q99,cE,reduceIte,cT,Nat.reduceAdd];refine aAc (c:=99) (n:=q) hq2 λh7 u7=>?_;have P7:=nC.good.ext P6 u7;refine⟨dl2 P7.cell,?_⟩;refine aSI P7 (by have:=aPd (aQC hm).1;rw[hqn] at this;exact this) λh8 F8 P8 s8=>?_;obtain⟨X8,nX8⟩:=aAD (X6.ext u7) nX s8;simp only[lp X8,cE,reduceIte,cT,Nat.reduceAdd];refine aLP (s:=s.del (fR 99 q)) (n:=n) (b:=b) ⟨sp,cp,bv,nv,P8⟩ hn 3 p λh9 F9 P9 s9=>?_;obtain⟨W9,sW9⟩:=aHp (X':=DC c b (s.settled 3 p) (n+1)) (B6.ext u7) hdis (by
    unfold Ch.settled;rw[hqn];exact P9) (s8.trans s9)
   refine hok h9 _ (rU.mono W9 λa ha=>?_) ((sh6.trans (iO.ext u7)).trans sW9);simp only[jB] at ha ⊢;rcases ha with(ha|ha|ha)|ha
   ·exact .inl ha
   ·exact .inr (.inl ha)
   ·exact .inr (.inr (.inl ha))
   ·exact .inr (.inr (.inr ha))
theorem aSD{h:PH}{c b m:Nat}{s:Ch}{n:Nat}{A:List Tx}{K F:List Nat}(H:eH (rU b m A K) (DC c b s n) h F)(w:s.DOk)(hn:n≤10000){p:Pk}(pw:p.wf){pf:Tx}(hpf:pf.length≤1000000){x:Nat}(hx:x<18446744073709551616){k:cD}
  (hbad:iW s p (oG s p pf (x:Int))≠0->∀h',eH (rU b m A K) (DC c b s n) h' F->iO h F h' F->k (.int .i64 (iW s p (oG s p pf (x:Int)))) h')
  (hok:iW s p (oG s p pf (x:Int))=0->∀h' F',eH (rU b m ((aI9 pf (fR 114 p.s.toNat)++pL p)++A) K) (DC c b (s.settled 4 p) (n+1)) h' F'->iO h F h' F'->k (.int .i64 0) h'):
  aT PG vQ #[pT c 0,p.v,.string (tx pf),.int .u64 (x:Int)] h k:=by
 apply mX.call;unfold mX;have gX:∀s n,lW (DC c b s n):=λ_ _=>DC.good _ _ _ _;have gW:lW (eH (rU b m A K) (DC c b s n)):=(rU.good _ _ _ _).star (gX _ _);obtain⟨Fd,Hd,HB,eF,hdis⟩:=aFW H;subst eF;obtain⟨sp,cp,bv,nv,P⟩:=id Hd;have offd:=aMS hdis;obtain⟨q,hq⟩:=zLn pw.1;have hq2:q<18446744073709551616:=by have:=pw.2.1;omega
 have hqn:p.s.toNat=q:=by omega
 intro r1 hr1
 try rw[cY]
 have u1:dB h (h.set r1 (.cells (Value.cells p.v) aR)):=cV.new hr1;have X1:Bx (h.set r1 (.cells (Value.cells p.v) aR)) r1 p.cells:=Bx.new;generalize h.set r1 (.cells (Value.cells p.v) aR)=h1 at *;have P1:=nC.good.ext P u1;have n1b:r1∉[b,m]:=(dZ.one hr1).off (HB.known b (by simp)) (HB.known m (by simp)) r1 (by simp);have nX:r1∉Fd:=λhm=>(gX s n).known Hd _ hm hr1;have lp:∀{h':PH},Bx h' r1 p.cells->cG PG h' (loadAt aR (pT r1 0))=some p.v:=λX=>X.pk rfl;have ls:∀{h':PH},Bx h' r1 p.cells->cG PG h' (loadAt cA (pT r1 1))=some (.int .u64 (q:Int)):=λX=>by rw[cA.load,X.cell,←hq];rfl
 have lt:∀{h':PH},Bx h' r1 p.cells->cG PG h' (loadAt cA (pT r1 2))=some (.int .u64 p.t):=λX=>by rw[cA.load,X.cell];rfl
 have hse:=aOZ s p (oG s p pf (x:Int));have stepOf:∀{h3:PH} {A':List Tx},Bk b m A' K h3->cV [b,m] h1 h3->(∀a∈A,a∈A')->eH (rU b m A K) (DC c b s n) h3 ((b::m::K)++Fd)∧iO h ((b::m::K)++Fd) h3 ((b::m::K)++Fd):=fun {h3 A'} B3 u3 hs=>by
  obtain⟨W3,s3⟩:=aHh (gX s n) (gW.ext H u1) B3 u3;exact⟨rU.mono W3 hs,(iO.ext u1).trans s3⟩
 have no:∀{h3:PH} {A':List Tx} (e:Int),Bk b m A' K h3->cV [b,m] h1 h3->(∀a∈A,a∈A')->iW s p (oG s p pf (x:Int))=e->e≠0->k (.int .i64 e) h3:=fun {h3 A'} e B3 u3 hs he hne=>by
  obtain⟨W3,s3⟩:=stepOf B3 u3 hs;have:=hbad (by rw[he];exact hne) h3 W3 s3;rw[he] at this;exact this
 simp only[lp X1,cE,reduceIte,cT,Nat.reduceAdd];refine aRx (s:=s) (n:=n) (HB.ext u1) P1 pw λh2 B2 u2=>?_;have P2:=nC.good.upd P1 u2 offd;have X2:=X1.upd u2 n1b;by_cases hm:aDP s p=0
 case neg=>
  have q0:(aDP s p !=0)=true:=by rw[bne_iff_ne];exact hm
  rw[if_neg hm] at hse;simp only[kI,q0,cE,reduceIte,cT,Nat.reduceAdd];exact no _ B2 u2 (λa ha=>zLl _ ha) hse hm
 have q0:(aDP s p !=0)=false:=by rw[hm];rfl
 rw[if_pos hm] at B2 hse;rw[aZz,hqn] at hse;rw[hqn] at hok;obtain⟨Fc,KR,-,-⟩:=P2.fCl;simp only[kI,q0,cQ.f3,fC,dl3 P2.cell,cE,reduceIte,cT,Nat.reduceAdd];refine aLg KR (by have:=w.few;omega) (x:Int) ?_;rw[aNi];cases hro:(jK s.cl (x:Int)).isSome with
 | false=>
  rw[hro,if_pos rfl] at hse;simp only[cE,reduceIte,cT,Nat.reduceAdd];exact no 11 B2 u2 (λa ha=>zLl _ ha) hse (by decide)
 | true=>
  rw[hro,if_neg (by decide)] at hse;by_cases c2:IntKind.u64.wrap (p.t-1)≤(x:Int)
  case neg=>
   have g:((x:Int)<IntKind.u64.wrap (p.t-1))=True:=eq_true (by omega);rw[if_pos c2] at hse;simp only[aR.f2,fC,lt X2,g,cE,reduceIte,cT,Nat.reduceAdd];exact no 11 B2 u2 (λa ha=>zLl _ ha) hse (by decide)
  have g:((x:Int)<IntKind.u64.wrap (p.t-1))=False:=eq_false (by omega);rw[if_neg (by simpa using c2)] at hse;have q114:({data:=#[114]}:ByteArray)=tx [114]:=rfl;have q99:({data:=#[99]}:ByteArray)=tx [99]:=rfl;simp only[aR.f1,aR.f2,cQ.f0,fC,lt X2,g,dl0 P2.cell,ls X2,q114,cE,reduceIte,cT,Nat.reduceAdd];refine aAc (c:=114) (n:=q) hq2 λh4 u4=>?_;have P4:=nC.good.ext P2 u4;refine⟨dl0 P4.cell,?_⟩;refine aUX (B2.ext u4) (by omega) λh6 B6 u6=>?_;have P6:=nC.good.upd P4 u6 offd;have u16:cV [b,m] h1 h6:=(u2.trans u4.upd).trans u6;have X6:Bx h6 r1 p.cells:=X1.upd u16 n1b;have hsub:∀a∈A,a∈aI9 pf (fR 114 q)++(pL p++A):=λa ha=>by simp[ha]
  cases hh:aDB (oY s.cl (x:Int)) pf (fR 114 q) with
  | false=>
   rw[hh,if_pos rfl] at hse;simp only[cE,reduceIte,cT,Nat.reduceAdd];exact no 9 B6 u16 hsub hse (by decide)
  | true=>
   rw[hh,if_neg (by decide)] at hse;have hok:=hok hse;obtain⟨-,sh6⟩:=stepOf B6 u16 hsub;simp only[cQ.f2,aR.f1,fC,dl2 P6.cell,ls X6,q99,cE,reduceIte,cT,Nat.reduceAdd];refine aAc (c:=99) (n:=q) hq2 λh7 u7=>?_;have P7:=nC.good.ext P6 u7;refine⟨dl2 P7.cell,?_⟩;refine aSI P7 (by have:=aPd (aQC hm).1;rw[hqn] at this;exact this) λh8 F8 P8 s8=>?_;obtain⟨X8,nX8⟩:=aAD (X6.ext u7) nX s8;simp only[lp X8,cE,reduceIte,cT,Nat.reduceAdd];refine aLP (s:=s.del (fR 99 q)) (n:=n) (b:=b) ⟨sp,cp,bv,nv,P8⟩ hn 4 p λh9 F9 P9 s9=>?_;obtain⟨W9,sW9⟩:=aHp (X':=DC c b (s.settled 4 p) (n+1)) (B6.ext u7) hdis (by
    unfold Ch.settled;rw[hqn];exact P9) (s8.trans s9)
   refine hok h9 _ (rU.mono W9 λa ha=>?_) ((sh6.trans (iO.ext u7)).trans sW9);simp only[jB] at ha ⊢;rcases ha with(ha|ha)|ha
   ·exact .inl ha
   ·exact .inr (.inl ha)
   ·exact .inr (.inr ha)
theorem aYt:jP PG (buildSlice eQ 0 #[])=some (.cells #[] dQ,λr=>pure (.slice (some ⟨r,0,none⟩) 0 0)):=by kernel_rfl
theorem aWE:Rows 1 ([]:List (List Value)):=λr hr=>by cases hr
theorem aRn(v:Value):Rows 1 [[v]]:=λr hr=>by simp only[fW] at hr;subst hr;rfl
theorem aWu{h:PH}{c b:Nat}{s:Ch}{n:Nat}{F:List Nat}(H:DC c b s n h F)(hn:n≤10000){kk:cD}
  (hk:∀h' F',DC c b s.committed (n+1) h' F'->iO h F h' F'->kk (.tuple #[.int .u64 ((jW s.st).2.1:Int),.int .i64 (jW s.st).2.2]) h'):aT PG xC #[pT c 0] h kk:=by
 apply nK.call;unfold nK vR;obtain⟨sp,cp,bv,nv,P⟩:=H;simp only[cQ.f2,fC,dl2 P.cell,cE,reduceIte,cT,Nat.reduceAdd];obtain⟨Fs,⟨G,S,rfl⟩,hFs,back⟩:=P.fSt;refine aXU S λh1 G1 S1 u1 g1=>?_;obtain⟨F2,P2,s2⟩:=back (rsA sp (jW s.st).1) h1 (sp::G1) ⟨G1,S1,rfl⟩ ⟨u1.mono λx hx=>.inl (by simp only[fW] at hx;simp[hx]),λx hx=>by
  rcases gE.1 hx with rfl|hx
  ·exact .inl (by simp)
  ·rcases g1 x hx with hx|hx
   ·exact .inl (by simp[hx])
   ·exact .inr hx⟩
 unfold Ch.committed at hk;by_cases he:(jW s.st).2.2=0
 case neg=>
  have q:((jW s.st).2.2==0)=false:=by simpa using he
  rw[if_neg he] at hk;simp only[iB,q,cE,reduceIte,cT,Nat.reduceAdd];refine hk h1 F2 (DC.mono (n:=n) ⟨sp,cp,bv,nv,?_⟩ (vU n)) s2;rw[aCK he] at P2;exact P2
 have q:((jW s.st).2.2==0)=true:=by simpa using he
 rw[if_pos he] at hk;have P2:nC c (s.dcells b sp cp bv nv) sp (jW s.st).1 cp s.cl bv nv n h1 F2:=P2;obtain⟨Ft,⟨Fb,Fn,rfl,⟨rows,Ob,lb,cb⟩,⟨ns,On,ln⟩,hd⟩,hFt,back2⟩:=P2.fTwo;obtain⟨na,nc,env,-⟩:=On.slR.here;rw[iV] at env;simp only[iB,q,cQ.f5,cQ.f6,fC,dl5 P2.cell,dl6 P2.cell,aYt,cE,reduceIte,cT,Nat.reduceAdd];intro r15 hr15;refine fH ?_
 try rw[cY]
 have u3:dB h1 (h1.set r15 (.cells #[] dQ)):=cV.new hr15;have O3:eD (h1.set r15 (.cells #[] dQ)) dQ 1 (.slice (some ⟨r15,0,none⟩) 0 0) ([]:List (List Value)) [r15]:=eD.lit (n:=0) aWE dK (by simp) (by decide) rfl;have P3:=nC.good.ext P2 u3;generalize h1.set r15 (.cells #[] dQ)=h3 at *;refine jG eQ.und eQ.und dQ.info dQ.size dQ.bytes dQ.zero rfl (by decide) O3 (Ob.ext u3).slR cb (by simp only[zLM];omega) ?_;intro v4 h4 F4 O4 u4 k4 _;rw[xH] at O4;have e14:dB h1 h4:=u3.fresh u4 (dZ.one hr15);have f4:dZ h1 F4:=λx hx=>by
  rcases k4 x hx with hx|hx
  ·simp only[fW] at hx;subst hx;exact hr15
  ·exact u3.none hx
 have P4:=nC.good.ext P2 e14;refine⟨dl6 P4.cell,?_⟩;rw[env];simp only[aSl,cE,reduceIte,cT,Nat.reduceAdd];rw[←env];intro r21 hr21;refine fH ?_
 try rw[cY]
 have u5:dB h4 (h4.set r21 (.cells #[nv] dQ)):=cV.new hr21;have s5:fQ (h4.set r21 (.cells #[nv] dQ)) 1 (.slice (some ⟨r21,0,none⟩) 1 1) [[nv]]:=(eD.lit (n:=1) (aRn nv) dK (by simp) (by decide) (by simp)).slR;generalize h4.set r21 (.cells #[nv] dQ)=h5 at *;refine jG eQ.und eQ.und dQ.info dQ.size dQ.bytes dQ.zero rfl (by decide) (O4.ext u5) s5 (λr hr u hu=>by
  simp only[fW] at hr;subst hr;simp only[fW] at hu;subst hu;exact On.slR.isc) (by simp only[zLS];omega) ?_
 intro v6 h6 F6 O6 u6 k6 _;have e16:dB h1 h6:=(e14.trans u5).fresh u6 f4;have f6:dZ h1 F6:=f4.grow (e14.trans u5) k6;have B6:boA v6 (n+1) h6 F6:=⟨rows++[[nv]],O6,by simp;omega,λr hr u hu=>by
  rcases jB.1 hr with hr|hr
  ·exact cb r hr u hu
  ·simp only[fW] at hr;subst hr;simp only[fW] at hu;subst hu;exact On.slR.isc⟩
 have W6:eH (boA v6 (n+1)) (noA nv (n+1)) h6 (F6++Fn):=eH.mk B6 ⟨ns,On.ext e16,by omega⟩ (λx hx hx5=>On.known x hx5 (f6 x hx));obtain⟨F7,P7,s7⟩:=back2 _ h6 _ W6 ⟨e16.upd,λx hx=>by
  rcases jB.1 hx with hx|hx
  ·exact .inr (f6 x hx)
  ·exact .inl (by simp[hx])⟩
 have P7:nC c (s.dcells b sp cp bv nv) sp (jW s.st).1 cp s.cl v6 nv (n+1) h6 F7:=P7;obtain⟨Fx,⟨rfl,X7⟩,hFx,back3⟩:=P7.fBox;refine eQ.put X7 (o:=5) (by show 5<7;decide) O6.slR.isc λh8 X8 u8=>?_;have X8:Bx h8 c (s.dcells b sp cp v6 nv):=X8;refine dQ.put X8 (o:=6) (by show 6<7;decide) rfl λh9 X9 u9=>?_;have X9:Bx h9 c (s.dcells b sp cp v6 (.slice none 0 0)):=X9;obtain⟨F10,P10,s10⟩:=back3 (wK c (s.dcells b sp cp v6 (.slice none 0 0))) h9 [c] ⟨rfl,X9⟩ ⟨u8.trans u9,λx hx=>.inl hx⟩;obtain⟨F11,Fr,eF,hx,⟨G1',G2',eG,y1,⟨G3,G4,eG2,y2,⟨G5,G6,eG3,y3,⟨ns',On',ln'⟩,d5⟩,d3⟩,d1⟩,dx⟩:=P10;refine hk h9 (F11++(G1'++(G3++(G5++[])))) ⟨sp,cp,v6,.slice none 0 0,F11,_,rfl,hx,⟨G1',_,rfl,y1,⟨G3,_,rfl,y2,⟨G5,[],rfl,y3,⟨[],eD.nil,by simp⟩,by simp⟩,?_⟩,?_⟩,?_⟩ ?_
 ·subst eG3;intro x hx1 hx2;exact d3 x hx1 (by simp at hx2;simp[hx2])
 ·subst eG2;subst eG3;intro x hx1 hx2;exact d1 x hx1 (by simp at hx2;rcases hx2 with hx2|hx2<;>simp[hx2])
 ·subst eG;subst eG2;subst eG3;intro x hx1 hx2;exact dx x hx1 (by simp at hx2;rcases hx2 with hx2|hx2|hx2<;>simp[hx2])
 ·have st:=(s2.trans s7).trans s10;refine⟨st.upd,λx hx=>st.grow x ?_⟩;rw[eF,eG,eG2,eG3];simp at hx ⊢;rcases hx with hx|hx|hx|hx<;>simp[hx]
theorem aUe{h:PH}{c b m:Nat}{s:Ch}{n:Nat}{A:List Tx}{K F:List Nat}{sp cp:Nat}{bv nv:Value}(HB:Bk b m A K h)(P:nC c (s.dcells b sp cp bv nv) sp s.st cp s.cl bv nv n h F)(offd:∀x∈F,x∉[b,m])(key:Tx){x:Nat}(hx:x<18446744073709551616){kk:cD}
  (hk:∀h',Bk b m A K h'->cV [b,m] h h'->kk (.tuple #[.string (tx (uZ s.st key x).1),.int .i64 (uZ s.st key x).2]) h'):aT PG yA #[pT c 0,.string (tx key),.int .u64 (x:Int)] h kk:=by
 apply vE.call;unfold vE;have hst:=P.okst;simp only[cQ.f2,fC,dl2 P.cell,cE,reduceIte,cT,Nat.reduceAdd];obtain⟨Fs,⟨G,S,eFs⟩,hFs,-⟩:=P.fSt;have q0:({data:=#[]}:ByteArray)=tx []:=rfl;unfold uZ at hk;have kb:=HB.known b (by simp);have km:=HB.known m (by simp);refine aVM S x hx (λe=>?_) (λl v e B1 hv=>?_)
 ·rw[e] at hk;have q:((3:Int) !=0)=true:=by decide
  simp only[kI,q,q0,cE,reduceIte,cT,Nat.reduceAdd];exact hk h HB cV.refl
 ·rw[e] at hk;simp only at hk;have M:=hst.mok e;have ov:Off b m v:=λa n c ev=>offd _ (hFs _ (by rw[eFs];simp[hv a n c ev]));simp only[kI,cQ.f0,fC,dl0 P.cell,cE,reduceIte,cT,Nat.reduceAdd]
  -- the end
  have fin:∀{h4:PH} {ab:Bool} {v4:Value} {r:Nat},cV [b,m] h h4->Bk b m A K h4->Bx h4 r [.bool ab,v4]->nW h h4 v4 (jO l key).lv->ab=(jO l key).ab->(∀h',Bk b m A K h'->cV [b,m] h h'->kk (.tuple #[.string (tx (lD (jO l key)).1),.int .i64 (lD (jO l key)).2]) h')->mJ kk (.int .i64 0) (pT r 0) h4:=by
   intro h4 ab v4 r u4 HB4 B4 L4 eab hk;unfold mJ;have l4:cG PG h4 (loadAt cC (pT r 0))=some (Pf.val ab v4):=cC.agg B4 (by show 0+2≤2;decide);simp only[kI,l4,cE,reduceIte,cT,Nat.reduceAdd];obtain⟨l5,F',el,O,-,L⟩:=L4.here;have epf:(⟨ab,l5.map (·.1)⟩:Pf)=jO l key:=by rw[el,eab]
   have hpf:=aMJ M key;refine aPm O.slR L.lfs (by
    have:l5.length=(jO l key).lv.length:=by rw[←el];simp
    have:=hpf.1;omega) λh5 u5=>?_
   rw[epf];simp only[cE,reduceIte,cT,Nat.reduceAdd];exact hk h5 (HB4.ext u5) (u4.trans u5.upd)
  refine aR9 HB M B1 ov (λhno h2 HB2 u2=>?_) (λhyes h2 v2 HB2 L2 u2=>?_)
  ·have hns:(gF l key).isSome=false:=by rw[hno];rfl
   rw[hns] at hk;simp only[zLt,if_false] at hk;simp only[cE,reduceIte,cT,Nat.reduceAdd];intro r14 hr14
   try rw[cY]
   have n14:h r14=none:=u2.grow2 (HB2.known b (by simp)) (HB2.known m (by simp)) hr14;have n14b:r14∉[b,m]:=λhm=>by
    simp only[gE,kD,or_false] at hm;rcases hm with rfl|rfl
    ·exact kb n14
    ·exact km n14
   refine cC.fill (vs:=[.bool false,.slice none 0 0]) hr14 rfl (by simp[fO]) λh3 B3 u3=>?_;have q:((3:Int) !=0)=true:=by decide
   have e3:=u2.trans u3.upd;have P3:=nC.good.upd P e3 offd;simp only[kI,q,cQ.f0,fC,dl0 P3.cell,cE,reduceIte,cT,Nat.reduceAdd];have B13:=B1.upd e3 (λa n c ev=>ov a n c ev);have bad:∀{h4:PH} {e:Int},cV [b,m] h3 h4->Bk b m A K h4->e≠0->(∀h',Bk b m A K h'->cV [b,m] h h'->kk (.tuple #[.string (tx []),.int .i64 e]) h')->cZ PG (dM cC (pT r14 0) (Pf.val false (.slice none 0 0))) h4 λv23 h24=>mJ kk (.int .i64 e) (pT r14 0) h24:=by
    intro h4 e u4 HB4 hne hk;refine cC.put (vs:=[.bool false,.slice none 0 0]) (B3.upd u4 n14b) (o:=0) rfl (by show 0+2≤2;decide) (by simp[fO]) λh5 B5 u5=>?_;unfold mJ;have q:(e !=0)=true:=by simpa using hne
    simp only[kI,q,q0,cE,reduceIte,cT,Nat.reduceAdd];refine hk h5 (HB4.upd u5 λy hy hm=>?_) (cV.then (e3.trans u4) u5 (λy hy=>by simp only[fW] at hy;subst hy;exact .inr n14));simp only[fW] at hm;subst hm;exact HB.known _ hy n14
   refine aTb (HB2.ext u3) M B13 ov (λhb h4 HB4 u4=>?_) (λ_ hs h4 HB4 u4=>?_) (λhb _ h4 v4 HB4 L4 u4=>?_)
   ·rw[if_neg hb] at hk;simp only[cE,reduceIte,cT,Nat.reduceAdd];exact bad u4 HB4 (by decide) hk
   ·rw[hns] at hs;cases hs
   ·rw[if_pos hb] at hk;simp only[cE,reduceIte,cT,Nat.reduceAdd];refine cC.put (vs:=[.bool true,v4]) (B3.upd u4 n14b) (o:=0) rfl (by show 0+2≤2;decide) (by
     have:=L4.isc;simp[fO];exact this) λh5 B5 u5=>?_
    have hab:(jO l key).ab=true:=by
     unfold jO;rw[if_neg (by rw[hns];decide)];split
     ·rfl
     ·split
      ·rfl
      ·split<;>rfl
    have L5:nW h3 h5 v4 (jO l key).lv:=L4.upd u5 (λb hb=>by simp only[fW] at hb;rw[hb];exact B3.known);have L5':nW h h5 v4 (jO l key).lv:=by
     obtain⟨l',F',el,O,f,L⟩:=L5.here;have HB3:=HB2.ext u3;refine⟨l',F',el,O,λy hy=>e3.grow2 (HB3.known b (by simp)) (HB3.known m (by simp)) (f y hy),λy hy=>?_⟩;obtain⟨G',y1,y2,y3⟩:=L y hy;exact⟨G',y1,λz hz=>e3.grow2 (HB3.known b (by simp)) (HB3.known m (by simp)) (y2 z hz),y3⟩
    refine fin (cV.then (e3.trans u4) u5 (λy hy=>by simp only[fW] at hy;subst hy;exact .inr n14)) (HB4.upd u5 λy hy hm=>?_) B5 L5' hab.symm hk;simp only[fW] at hm;subst hm;exact HB.known _ hy n14
  ·rw[hyes] at hk;simp only[if_true] at hk;simp only[cE,reduceIte,cT,Nat.reduceAdd];intro r14 hr14
   try rw[cY]
   refine cC.fill (vs:=[.bool false,v2]) hr14 rfl (by
    have:=L2.isc;simp[fO];exact this) λh3 B3 u3=>?_
   have epf:jO l key=⟨false,[kK l (gU l key)]⟩:=by unfold jO;rw[if_pos hyes]
   exact fin (u2.trans u3.upd) (HB2.ext u3) B3 (by rw[epf];exact L2.upd u3 (λb hb=>by cases hb)) (by rw[epf]) hk
theorem aNZ(p:Pf):(lD p).1.length≤3000:=by
 unfold lD;split
 ·rename_i h;obtain⟨h1,h2⟩:=h;rw[aDZ] at h2;show(aBN p).length≤3000;have hl:∀l:List Lf,(∀f∈l,f.okb=true)->(lK l).length≤1000*l.length:=λl=>by
   induction l with
   | nil=>intro _;simp[lK]
   | cons f l ih=>
    intro hh;have a:=aQ4 (Lf.ok_iff.1 (hh f (by simp)));have b:=ih λy hy=>hh y (by simp[hy]);simp only[lK,jS,tM];omega
  have:=hl p.lv h2;unfold aBN;simp only[jS,iE];omega
 ·simp
theorem aTk(s:St)(key:Tx)(x:Nat):(uZ s key x).1.length≤3000:=by
 unfold uZ;split
 ·simp
 ·split
  ·exact aNZ _
  ·split
   ·exact aNZ _
   ·simp
theorem aVr(o:Ch){a:jI}(h:a.d.length≤1000000):(lI o a).length≤1000000:=by
 unfold lI;split
 ·have:=aTk o.st (aJc a) a.h;omega
 ·exact h
noncomputable def doA(c o:Ch)(a:jI):List Tx:=
 if a.kind=0 then(if rT c a.d a.h=0 then pL (jY c a.d a.h) else [])
 else if a.kind=1 then(match mR o.st a.h with
  | none=>[]
  | some b=>sQ b)
 else if a.kind=2 then(if pF c (qM c a.p (lI o a) (a.h:Int))=0 then aGJ a.p++(aGs (lI o a)++pL a.p) else [])
 else if a.kind=3 then(if iW c a.p (sV c a.p (lI o a) (a.h:Int))=0 then aGs (lI o a)++(aGJ a.p++pL a.p) else [])
 else if a.kind=4 then(if iW c a.p (oG c a.p (lI o a) (a.h:Int))=0 then aI9 (lI o a) (fR 114 a.p.s.toNat)++pL a.p else [])
 else []
theorem aWK{h:PH}{c b:Nat}{s:Ch}{n:Nat}{F:List Nat}{sp cp:Nat}{bv nv:Value}(P:nC c (s.dcells b sp cp bv nv) sp s.st cp s.cl bv nv n h F)(w:s.cl.length≤4096)(x:Int)(root:Tx){kk:cD}
  (hk:∀h' F',nC c ((s.told x root).dcells b sp cp bv nv) sp (s.told x root).st cp (s.told x root).cl bv nv n h' F'->iO h F h' F'->kk (.int .i64 (sF s.cl ⟨x,tx root⟩).1) h'):aT PG sK #[pT cp 0,.int .u64 x,.string (tx root)] h kk:=by
 obtain⟨Fc,C,hFc,back⟩:=P.fCl;have ea:cp∈Fc:=by
  obtain⟨v,G,-,-,eF,-⟩:=(C:yM h cp s.cl Fc);rw[eF];simp
 refine aYR C w ⟨x,tx root⟩ λh1 F1 C1 u1 g1=>?_;obtain⟨F2,P2,s2⟩:=back (krA cp (sF s.cl ⟨x,tx root⟩).2) h1 F1 C1 ⟨u1.mono λy hy=>.inl (by
  simp only[fW] at hy;subst hy;exact ea),g1⟩
 exact hk h1 F2 P2 s2
theorem aZM{a b:ByteArray}(h:a.data.toList=b.data.toList):a=b:=by
 rw[←aHu a,←aHu b,h]
theorem Pk.bs_inj{p q:Pk}(hp:p.right=true)(hq:q.right=true)(wp:p.wf)(wq:q.wf)(h:p.bs=q.bs):p=q:=by
 obtain⟨a1,a2,-,-,a5⟩:=Pk.right_iff.1 hp;obtain⟨b1,b2,-,-,b5⟩:=Pk.right_iff.1 hq;unfold Pk.bs at h;obtain⟨h1,h⟩:=List.append_inj h (by rw[iE,iE]);obtain⟨h2,h⟩:=List.append_inj h (by rw[iE,iE]);obtain⟨h3,h⟩:=List.append_inj h (by rw[iE,iE]);obtain⟨h4,h5⟩:=List.append_inj h (by rw[iE,iE]);have e1:=congrArg val h1;rw[aLy,aLy,aCl (show p.f.toNat<256^1 by omega),aCl (show q.f.toNat<256^1 by omega)] at e1;have w1:=wp.1;have w2:=wp.2.1;have w3:=wp.2.2.1;have w4:=wp.2.2.2;have v1:=wq.1;have v2:=wq.2.1;have v3:=wq.2.2.1;have v4:=wq.2.2.2;have e2:=aMx (by omega) (by omega) h2;have e3:=aMx (by omega) (by omega) h3;obtain⟨pf,ps,pt,pd⟩:=p;obtain⟨qf,qs,qt,qd⟩:=q;have e5:pd=qd:=aZM h5;simp only at e1 e2 e3 w1 w3 v1 v3 a1 b1;rw[e5,show pf=qf by omega,show ps=qs by omega,show pt=qt by omega]
theorem aNc{c d:UInt8}{n m:Nat}(hn:n<18446744073709551616)(hm:m<18446744073709551616)(h:fR c n=fR d m):c=d∧n=m:=by
 unfold fR at h;simp only[kR] at h;exact⟨h.1,aMx hn hm h.2⟩
theorem aE9{c d:UInt8}{n m:Nat}(h:c≠d):fR c n≠fR d m:=λe=>by
 unfold fR at e;simp only[kR] at e;exact h e.1
def aGK(st:St)(P:Pr->Prop):Prop:=(∀q∈st.now,P q)∧∀b∈st.blocks,∀q∈b,P q
def aK7(st:St)(k v:Tx):St:={st with now:=nR st.now ⟨k,v⟩}
def aQZ(st:St)(k:Tx):St:={st with now:=uL st.now k}
theorem aGK.mono{st:St}{P Q:Pr->Prop}(H:aGK st P)(h:∀q,P q->Q q):aGK st Q:=⟨λq hq=>h q (H.1 q hq),λb hb q hq=>h q (H.2 b hb q hq)⟩
theorem aGK.put{st:St}{P:Pr->Prop}(H:aGK st P){k v:Tx}(h:P ⟨k,v⟩):aGK (aK7 st k v) P:=⟨λq hq=>by
 rcases rR.1 hq with rfl|⟨hq,-⟩
 ·exact h
 ·exact H.1 q hq,H.2⟩
theorem aGK.del{st:St}{P:Pr->Prop}(H:aGK st P)(k:Tx):aGK (aQZ st k) P:=⟨λq hq=>H.1 q (zL1.1 hq).1,H.2⟩
theorem aGK.com{st:St}{P:Pr->Prop}(H:aGK st P):aGK (jW st).1 P:=by
 by_cases he:(jW st).2.2=0
 ·rw[(aDI he).1];refine⟨H.1,λb hb=>?_⟩;rcases jB.1 hb with hb|hb
  ·exact H.2 b hb
  ·simp only[fW] at hb;subst hb;exact H.1
 ·rw[aCK he];exact H
theorem aSw{st:St}{x:Nat}{b:List Pr}(h:mR st x=some b):b∈st.blocks:=qB (aKj h).2
theorem aQh{st:St}{x:Nat}{b:List Pr}(h:mR st x=some b):x≤st.height:=by
 have:=(aKj h).1;omega
theorem aSy{st:St}(ok:st.Ok)(he:(jW st).2.2=0)(x:Nat):mR (jW st).1 x=if x=st.height+1 then some st.now else mR st x:=by
 rw[(aDI he).1];have h1:=ok.h1;have h3:=ok.h3;unfold mR;simp only[jS,zLS];by_cases c:x=st.height+1
 ·rw[if_pos c,if_neg (by omega),show st.blocks.length+1-1-(st.height+1-x)=st.blocks.length by omega];simp
 ·rw[if_neg c];by_cases d:st.height<x∨st.blocks.length≤st.height-x
  ·rw[if_pos d,if_pos (by omega)]
  ·rw[if_neg d,if_neg (by omega),show st.blocks.length+1-1-(st.height+1-x)=st.blocks.length-1-(st.height-x) by omega,List.getElem?_append_left (by omega)]
theorem aNk{st:St}(ok:st.Ok){x:Nat}{b:List Pr}(h:mR st x=some b):mR (jW st).1 x=some b:=by
 by_cases he:(jW st).2.2=0
 ·have:=aQh h;rw[aSy ok he,if_neg (by omega)];exact h
 ·rw[aCK he];exact h
theorem aTd(st:St):st.height≤(jW st).1.height:=by
 by_cases he:(jW st).2.2=0
 ·rw[(aDI he).1];exact vU _
 ·rw[aCK he];exact pC _
def aJg(st:St)(k:Tx)(t:Int):Prop:=(∃q∈st.now,q.k=k)∧∀x b,mR st x=some b->t≤(x:Int)+1->∃q∈b,q.k=k
theorem aJg.put{st:St}{k:Tx}{t:Int}(H:aJg st k t)(k' v:Tx):aJg (aK7 st k' v) k t:=by
 obtain⟨q,hq,e⟩:=H.1;refine⟨?_,H.2⟩;by_cases c:q.k=k'
 ·exact⟨⟨k',v⟩,rR.2 (.inl rfl),by rw[←c];exact e⟩
 ·exact⟨q,rR.2 (.inr ⟨hq,c⟩),e⟩
theorem aJg.del{st:St}{k:Tx}{t:Int}(H:aJg st k t){k':Tx}(hk:k'≠k):aJg (aQZ st k') k t:=by
 obtain⟨q,hq,e⟩:=H.1;exact⟨⟨q,zL1.2 ⟨hq,by simp only[ne_eq,decide_eq_true_eq];rw[e];exact hk.symm⟩,e⟩,H.2⟩
theorem aJg.com{st:St}(ok:st.Ok){k:Tx}{t:Int}(H:aJg st k t):aJg (jW st).1 k t:=by
 by_cases he:(jW st).2.2=0
 ·refine⟨by rw[(aDI he).1];exact H.1,λx b hx ht=>?_⟩;rw[aSy ok he] at hx;split at hx
  ·cases hx;exact H.1
  ·exact H.2 x b hx ht
 ·rw[aCK he];exact H
theorem aPF(c:Ch)(p:Pk):(c.sent p).st=aK7 c.st (fR 99 c.seq) (mL p)∧(c.sent p).cl=c.cl∧(c.sent p).id=c.id:=⟨rfl,rfl,rfl⟩
theorem aFx(c:Ch)(p:Pk):(c.received p).st=aK7 (aK7 c.st (fR 114 p.s.toNat) [1]) (fR 97 p.s.toNat) (aCF p)∧(c.received p).cl=c.cl∧(c.received p).id=c.id:=⟨rfl,rfl,rfl⟩
theorem aBu(c:Ch)(k:Int)(p:Pk):(c.settled k p).st=aQZ c.st (fR 99 p.s.toNat)∧(c.settled k p).cl=c.cl∧(c.settled k p).id=c.id:=⟨rfl,rfl,rfl⟩
theorem uM(c:Ch):c.committed.st=(jW c.st).1∧c.committed.cl=c.cl∧c.committed.id=c.id:=by
 unfold Ch.committed;by_cases he:(jW c.st).2.2=0
 ·rw[if_pos he];exact⟨rfl,rfl,rfl⟩
 ·rw[if_neg he];exact⟨(aCK he).symm,rfl,rfl⟩
theorem aDL(c o:Ch)(a:jI):
  (a.kind=0∧rT c a.d a.h=0∧(jD c o a).1=c.sent (jY c a.d a.h)∧(jD c o a).2=(jY c a.d a.h,0,0)∧doA c o a=pL (jY c a.d a.h))∨
  (a.kind=1∧∃b,mR o.st a.h=some b∧(jD c o a).1=c.told (a.h:Int) (kE b)∧doA c o a=sQ b)∨
  (a.kind=2∧pF c (qM c a.p (lI o a) (a.h:Int))=0∧(jD c o a).1=c.received a.p∧(jD c o a).2.2.2=0∧doA c o a=aGJ a.p++(aGs (lI o a)++pL a.p))∨
  (a.kind=3∧iW c a.p (sV c a.p (lI o a) (a.h:Int))=0∧(jD c o a).1=c.settled 3 a.p∧(jD c o a).2.2.2=0∧doA c o a=aGs (lI o a)++(aGJ a.p++pL a.p))∨
  (a.kind=4∧iW c a.p (oG c a.p (lI o a) (a.h:Int))=0∧(jD c o a).1=c.settled 4 a.p∧(jD c o a).2.2.2=0∧doA c o a=aI9 (lI o a) (fR 114 a.p.s.toNat)++pL a.p)∨
  (a.kind=5∧(jD c o a).1=c.committed)∨
  ((jD c o a).1=c∧((jD c o a).2.2.2=0->a.kind<0∨5<a.kind)):=by
 unfold jD doA;by_cases k0:a.kind=0
 ·rw[if_pos k0,if_pos k0];by_cases e:rT c a.d a.h=0
  ·rw[if_pos e,if_pos e];exact .inl ⟨k0,e,rfl,rfl,rfl⟩
  ·rw[if_neg e];exact .inr (.inr (.inr (.inr (.inr (.inr ⟨rfl,λh=>absurd h e⟩)))))
 rw[if_neg k0,if_neg k0];by_cases k1:a.kind=1
 ·rw[if_pos k1,if_pos k1];cases hs:mR o.st a.h with
  | none=>exact .inr (.inr (.inr (.inr (.inr (.inr ⟨rfl,λh=>by simp at h⟩)))))
  | some b=>exact .inr (.inl ⟨k1,b,rfl,rfl,rfl⟩)
 rw[if_neg k1,if_neg k1];by_cases k2:a.kind=2
 ·rw[if_pos k2,if_pos k2];by_cases e:pF c (qM c a.p (lI o a) (a.h:Int))=0
  ·rw[if_pos e,if_pos e];exact .inr (.inr (.inl ⟨k2,e,rfl,rfl,rfl⟩))
  ·rw[if_neg e];exact .inr (.inr (.inr (.inr (.inr (.inr ⟨rfl,λh=>absurd h e⟩)))))
 rw[if_neg k2,if_neg k2];by_cases k3:a.kind=3
 ·rw[if_pos k3,if_pos k3];by_cases e:iW c a.p (sV c a.p (lI o a) (a.h:Int))=0
  ·rw[if_pos e,if_pos e];exact .inr (.inr (.inr (.inl ⟨k3,e,rfl,rfl,rfl⟩)))
  ·rw[if_neg e];exact .inr (.inr (.inr (.inr (.inr (.inr ⟨rfl,λh=>absurd h e⟩)))))
 rw[if_neg k3,if_neg k3];by_cases k4:a.kind=4
 ·rw[if_pos k4,if_pos k4];by_cases e:iW c a.p (oG c a.p (lI o a) (a.h:Int))=0
  ·rw[if_pos e,if_pos e];exact .inr (.inr (.inr (.inr (.inl ⟨k4,e,rfl,rfl,rfl⟩))))
  ·rw[if_neg e];exact .inr (.inr (.inr (.inr (.inr (.inr ⟨rfl,λh=>absurd h e⟩)))))
 rw[if_neg k4,if_neg k4];by_cases k5:a.kind=5
 ·rw[if_pos k5];exact .inr (.inr (.inr (.inr (.inr (.inl ⟨k5,rfl⟩)))))
 ·rw[if_neg k5];exact .inr (.inr (.inr (.inr (.inr (.inr ⟨rfl,λ_=>by omega⟩)))))
def KOk(s:Ch):Prop:=s.cl.length≤4096∧∀y∈qF s.cl,0≤y∧y<18446744073709551616
theorem aNt{l:List gO}{x y:gO}(h:y∈(sF l x).2):y∈l∨y=x:=by
 unfold sF at h;split at h
 ·exact .inl h
 ·split at h
  ·exact .inl h
  ·split at h
   ·exact .inl h
   ·simpa using h
theorem aVY{l:List gO}{x:gO}(h:l.length≤4096):(sF l x).2.length≤4096:=by
 unfold sF;split
 ·exact h
 ·split
  ·exact h
  ·split
   ·exact h
   ·simp only[jS,zLS];omega
theorem KOk.doP{c:Ch}(H:KOk c)(o:Ch){a:jI}(w:a.wf):KOk (jD c o a).1:=by
 have same:∀{c':Ch},c'.cl=c.cl->KOk c':=λe=>by unfold KOk;rw[e];exact H
 rcases aDL c o a with⟨-,-,e,-⟩|⟨-,b,-,e,-⟩|⟨-,-,e,-⟩|⟨-,-,e,-⟩|⟨-,-,e,-⟩|⟨-,e⟩|⟨e,-⟩<;>rw[e]
 ·exact same rfl
 ·refine⟨aVY H.1,λy hy=>?_⟩;obtain⟨z,hz,rfl⟩:=lL.1 hy;rcases aNt hz with hz|rfl
  ·exact H.2 _ (lL.2 ⟨z,hz,rfl⟩)
  ·have:=w.h;exact⟨by show(0:Int)≤(a.h:Int);omega,by show(a.h:Int)<_;omega⟩
 ·exact same rfl
 ·exact same rfl
 ·exact same rfl
 ·exact same (uM c).2.1
 ·exact H
def aQb(id:Int)(A:List Tx)(G:Pk->Prop)(q:Pr):Prop:=∀n,n<18446744073709551616->q.k=fR 97 n->∃p,G p∧p.f=id∧p.s.toNat=n∧q.v=aCF p∧p.right=true∧p.wf∧∀t∈aGJ p,t∈A
structure vV(c o:Ch)(A:List Tx)(G T:Pk->Prop):Prop where
 cl:∀y∈c.cl,∃(x:Nat) (b:List Pr),y.height=(x:Int)∧mR o.st x=some b∧y.root=tx (kE b)∧∀t∈sQ b,t∈A
 rk:∀p,G p->p.f=c.id->aJg o.st (fR 114 p.s.toNat) p.t
 ak:aGK o.st (aQb c.id A G)
 tm:∀p,T p->p.f=c.id->p.t≤(o.st.height:Int)+1
section
variable{c o:Ch}{A:List Tx}{G T:Pk->Prop}(H:vV c o A G T)
include H
theorem vV.asked{A':List Tx}(hs:∀t∈A,t∈A'):vV c o A' G T:=
 ⟨λy hy=>by obtain⟨x,b,h1,h2,h3,h4⟩:=H.cl y hy;exact⟨x,b,h1,h2,h3,λt ht=>hs t (h4 t ht)⟩,H.rk,H.ak.mono λq hq n hn hk=>by obtain⟨p,h1,h2,h3,h4,h5,h6,h7⟩:=hq n hn hk;exact⟨p,h1,h2,h3,h4,h5,h6,λt ht=>hs t (h7 t ht)⟩,H.tm⟩
theorem vV.left{c':Ch}(hid:c'.id=c.id)(hcl:c'.cl=c.cl):vV c' o A G T:=
 ⟨λy hy=>H.cl y (hcl▸hy),λp hp hf=>H.rk p hp (hid▸hf),by rw[hid];exact H.ak,λp hp hf=>H.tm p hp (hid▸hf)⟩
theorem vV.right{o':Ch}(hst:o'.st=o.st):vV c o' A G T:=
 ⟨λy hy=>by rw[hst];exact H.cl y hy,λp hp hf=>by rw[hst];exact H.rk p hp hf,by rw[hst];exact H.ak,λp hp hf=>by rw[hst];exact H.tm p hp hf⟩
theorem vV.gt{G' T':Pk->Prop}(hG:∀p,p.f=c.id->(G' p↔G p))(hT:∀p,p.f=c.id->(T' p↔T p)):vV c o A G' T':=
 ⟨H.cl,λp hp hf=>H.rk p ((hG p hf).1 hp) hf,H.ak.mono λq hq n hn hk=>by obtain⟨p,h1,h2,h3⟩:=hq n hn hk;exact⟨p,(hG p h2).2 h1,h2,h3⟩,λp hp hf=>H.tm p ((hT p hf).1 hp) hf⟩
theorem vV.told(x:Nat){b:List Pr}(hx:mR o.st x=some b)(hA:∀t∈sQ b,t∈A):vV (c.told (x:Int) (kE b)) o A G T:=
 ⟨λy hy=>by
  rcases aNt hy with hy|rfl
  ·exact H.cl y hy
  ·exact⟨x,b,rfl,hx,rfl,hA⟩,H.rk,H.ak,H.tm⟩
theorem vV.put{o':Ch}{k v:Tx}(hst:o'.st=aK7 o.st k v)(hp:aQb c.id A G ⟨k,v⟩):vV c o' A G T:=
 ⟨λy hy=>by rw[hst];exact H.cl y hy,λp hp hf=>by rw[hst];exact(H.rk p hp hf).put _ _,by rw[hst];exact H.ak.put hp,λp hp hf=>by rw[hst];exact H.tm p hp hf⟩
theorem vV.del{o':Ch}{n:Nat}(hst:o'.st=aQZ o.st (fR 99 n)):vV c o' A G T:=
 ⟨λy hy=>by rw[hst];exact H.cl y hy,λp hp hf=>by rw[hst];exact(H.rk p hp hf).del (aE9 (by decide)),by rw[hst];exact H.ak.del _,λp hp hf=>by rw[hst];exact H.tm p hp hf⟩
theorem vV.com(ok:o.st.Ok):vV c o.committed A G T:=by
 obtain⟨e1,-,-⟩:=uM o;refine⟨λy hy=>?_,λp hp hf=>by rw[e1];exact(H.rk p hp hf).com ok,by rw[e1];exact H.ak.com,λp hp hf=>by
  have:=H.tm p hp hf;have:=aTd o.st;rw[e1];omega⟩
 obtain⟨x,b,h1,h2,h3,h4⟩:=H.cl y hy;exact⟨x,b,h1,by rw[e1];exact aNk ok h2,h3,h4⟩
theorem vV.root{x:Nat}(hr:(jK c.cl (x:Int)).isSome=true):∃b,mR o.st x=some b∧oY c.cl (x:Int)=kE b∧∀t∈sQ b,t∈A:=by
 obtain⟨r,er⟩:=Option.isSome_iff_exists.1 hr;unfold oY;rw[er];unfold jK at er;cases hf:c.cl.find? λp=>decide ((x:Int)=p.height) with
 | none=>rw[hf] at er;cases er
 | some y=>
  rw[hf] at er;simp only[aIg,zL8] at er;have hm:=List.mem_of_find?_eq_some hf;have hk:=List.find?_some hf;simp only[decide_eq_true_eq] at hk;obtain⟨x',b,h1,h2,h3,h4⟩:=H.cl y hm;have ex:x'=x:=by omega
  subst ex;refine⟨b,h2,?_,h4⟩;show(Option.getD (some r) _).data.toList=_;rw[aIr,←er,h3];rfl
end
theorem aP4{id:Int}{A:List Tx}{G:Pk->Prop}{ch:UInt8}{n:Nat}{v:Tx}(h:ch≠97):aQb id A G ⟨fR ch n,v⟩:=λm _ e=>absurd e (aE9 h)
theorem aXo{t:Int}(h0:0<t)(h1:t<18446744073709551616):IntKind.u64.wrap (t-1)=t-1:=by rw[gL (by omega) (by omega)]
def zO(a:jI)(e:Int)(G:Pk->Prop):Pk->Prop:=λp=>G p∨(e=0∧a.kind=2∧p=a.p)
def aAz(a:jI)(e:Int)(T:Pk->Prop):Pk->Prop:=λp=>T p∨(e=0∧a.kind=4∧p=a.p)
structure aRE(c o:Ch)(a:jI)(A:List Tx)(G T:Pk->Prop):Prop where
 one:vV (jD c o a).1 o A (zO a (jD c o a).2.2.2 G) (aAz a (jD c o a).2.2.2 T)
 two:vV o (jD c o a).1 A (zO a (jD c o a).2.2.2 G) (aAz a (jD c o a).2.2.2 T)
 recv:(jD c o a).2.2.2=0->a.kind=2->a.p.f=o.id∧IntKind.u64.wrap (((jD c o a).1.st.height:Int)+1)<a.p.t∧¬T a.p
 ack:(jD c o a).2.2.2=0->a.kind=3->a.p.f=c.id∧G a.p
 tim:(jD c o a).2.2.2=0->a.kind=4->a.p.f=c.id∧¬G a.p
theorem aPa{c o:Ch}{a:jI}{A:List Tx}{G T:Pk->Prop}(D1:vV c o A G T)(D2:vV o c A G T)(U:aHr (doA c o a++A))(hid:c.id≠o.id)(hco:1-c.id=o.id)(wa:a.wf)(okc:c.st.Ok)(oko:o.st.Ok)(hs1:c.seq<18446744073709551616):aRE c o a (doA c o a++A) G T:=by
 have sub:∀t∈A,t∈doA c o a++A:=λt ht=>zLl _ ht;have D1:=D1.asked sub;have D2:=D2.asked sub;have subA:∀t∈doA c o a,t∈doA c o a++A:=λt ht=>zLk _ ht;generalize doA c o a++A=A' at *;obtain⟨w1,w2,w3,w4⟩:=wa.p;rcases aDL c o a with⟨k0,e,e1,e2,eA⟩|⟨k1,b,e,e1,eA⟩|⟨k2,e,e1,e2,eA⟩|⟨k3,e,e1,e2,eA⟩|⟨k4,e,e1,e2,eA⟩|⟨k5,e1⟩|⟨e1,e2⟩
 ·have gg:∀p,zO a (jD c o a).2.2.2 G p↔G p:=λp=>by unfold zO;rw[k0];simp
  have tt:∀p,aAz a (jD c o a).2.2.2 T p↔T p:=λp=>by unfold aAz;rw[k0];simp
  refine⟨?_,?_,λ_ h=>by omega,λ_ h=>by omega,λ_ h=>by omega⟩
  ·rw[e1];exact(D1.left (c':=c.sent (jY c a.d a.h)) rfl rfl).gt (λp _=>gg p) (λp _=>tt p)
  ·rw[e1];exact(D2.put (o':=c.sent (jY c a.d a.h)) (aPF c _).1 (aP4 (by decide))).gt (λp _=>gg p) (λp _=>tt p)
 ·have gg:∀p,zO a (jD c o a).2.2.2 G p↔G p:=λp=>by unfold zO;rw[k1];simp
  have tt:∀p,aAz a (jD c o a).2.2.2 T p↔T p:=λp=>by unfold aAz;rw[k1];simp
  refine⟨?_,?_,λ_ h=>by omega,λ_ h=>by omega,λ_ h=>by omega⟩
  ·rw[e1];exact(D1.told a.h e (λt ht=>subA t (by rw[eA];exact ht))).gt (λp _=>gg p) (λp _=>tt p)
  ·rw[e1];exact(D2.right (o':=c.told (a.h:Int) (kE b)) rfl).gt (λp _=>gg p) (λp _=>tt p)
 ·obtain⟨r1,r2,r3,r4,r5,r6,r7⟩:=aJx e;have hf:a.p.f=o.id:=by rw[r2,hco]
  have hth:=okc.h4;have hw:IntKind.u64.wrap ((c.st.height:Int)+1)=(c.st.height:Int)+1:=by rw[gL (by omega) (by omega)]
  have ht:(c.st.height:Int)+1<a.p.t:=by rw[←hw];exact r3
  have gg:∀p,zO a (jD c o a).2.2.2 G p↔(G p∨p=a.p):=λp=>by unfold zO;rw[k2,e2];simp
  have tt:∀p,aAz a (jD c o a).2.2.2 T p↔T p:=λp=>by unfold aAz;rw[k2];simp
  have nT:¬T a.p:=λh=>by
   have:=D2.tm a.p h hf;omega
  refine⟨?_,?_,λ_ _=>⟨hf,by rw[e1];exact r3,nT⟩,λ_ h=>by omega,λ_ h=>by omega⟩
  ·rw[e1];refine(D1.left (c':=c.received a.p) rfl rfl).gt (λp hp=>?_) (λp _=>tt p);rw[gg p];constructor
   ·rintro(h|rfl)
    ·exact h
    ·exact absurd (show c.id=o.id by rw[←hf];exact hp.symm) hid
   ·exact .inl
  ·rw[e1];obtain⟨s1,s2,s3⟩:=aFx c a.p;have hn:a.p.s.toNat<18446744073709551616:=by omega
   refine⟨λy hy=>D2.cl y hy |> λ⟨x,b,h1,h2,h3,h4⟩=>⟨x,b,h1,by rw[s1];exact h2,h3,h4⟩,λp hp hpf=>?_,?_,λp hp hpf=>by rw[s1];exact D2.tm p ((tt p).1 hp) hpf⟩
   ·rw[s1];rcases (gg p).1 hp with hp|rfl
    ·exact((D2.rk p hp hpf).put _ _).put _ _
    ·have h1:aJg (aK7 c.st (fR 114 a.p.s.toNat) [1]) (fR 114 a.p.s.toNat) a.p.t:=⟨⟨⟨fR 114 a.p.s.toNat,[1]⟩,rR.2 (.inl rfl),rfl⟩,λx b hx htx=>by
      have h2:=aQh hx;have h3:x≤c.st.height:=h2;omega⟩
     exact h1.put _ _
   ·rw[s1];have base:aGK c.st (aQb o.id A' (zO a (jD c o a).2.2.2 G)):=D2.ak.mono λq hq n hn hk=>by
     obtain⟨p,h1,h2,h3⟩:=hq n hn hk;exact⟨p,(gg p).2 (.inl h1),h2,h3⟩
    refine(base.put (aP4 (by decide))).put λn hn' hk=>?_;obtain⟨-,en⟩:=aNc hn hn' hk;exact⟨a.p,(gg _).2 (.inr rfl),hf,en,rfl,r1,wa.p,λt ht=>subA t (by rw[eA];simp[ht])⟩
 ·obtain⟨r1,r2,r3,r4,r5⟩:=aAT (by unfold sV;simp) e;have q1:=r4 (11,(jK c.cl (a.h:Int)).isSome) (by unfold sV;simp);have q2:=r4 (9,aCr (oY c.cl (a.h:Int)) (lI o a) (fR 97 a.p.s.toNat) (aCF a.p)) (by unfold sV;simp);simp only at q1 q2;obtain⟨b,hb,eb,hbA⟩:=D1.root q1;rw[eb] at q2;have hm:=aPw (oko.mok hb) U (λt ht=>subA t (by rw[eA];simp[ht])) hbA q2;have hn:a.p.s.toNat<18446744073709551616:=by omega
  obtain⟨p,g1,g2,g3,g4,g5,g6,g7⟩:=D1.ak.2 b (aSw hb) _ hm _ hn rfl;have ebs:=aVT r1 g5 U (λt ht=>subA t (by rw[eA];simp[ht])) g7 g4;have ep:a.p=p:=Pk.bs_inj r1 g5 wa.p g6 ebs;have gg:∀p,zO a (jD c o a).2.2.2 G p↔G p:=λp=>by unfold zO;rw[k3];simp
  have tt:∀p,aAz a (jD c o a).2.2.2 T p↔T p:=λp=>by unfold aAz;rw[k3];simp
  refine⟨?_,?_,λ_ h=>by omega,λ_ _=>⟨r2,by rw[ep];exact g1⟩,λ_ h=>by omega⟩
  ·rw[e1];exact(D1.left (c':=c.settled 3 a.p) rfl rfl).gt (λp _=>gg p) (λp _=>tt p)
  ·rw[e1];exact(D2.del (o':=c.settled 3 a.p) (aBu c 3 a.p).1).gt (λp _=>gg p) (λp _=>tt p)
 ·obtain⟨r1,r2,r3,r4,r5⟩:=aAT (by unfold oG;simp) e;have q0:=r4 (11,decide (IntKind.u64.wrap (a.p.t-1)≤(a.h:Int))) (by unfold oG;simp);have q1:=r4 (11,(jK c.cl (a.h:Int)).isSome) (by unfold oG;simp);have q2:=r4 (9,aDB (oY c.cl (a.h:Int)) (lI o a) (fR 114 a.p.s.toNat)) (by unfold oG;simp);simp only[decide_eq_true_eq] at q0 q1 q2;have ht0:0<a.p.t:=by
   have:=(Pk.right_iff.1 r1).2.2.2.1;omega
  rw[aXo ht0 w4] at q0;obtain⟨b,hb,eb,hbA⟩:=D1.root q1;rw[eb] at q2;have hl:=aR4 (oko.mok hb) U (λt ht=>subA t (by rw[eA];simp[ht])) hbA q2;have nG:¬G a.p:=λh=>by
   obtain⟨q,hq,ek⟩:=(D1.rk a.p h r2).2 a.h b hb (by omega);exact hl q hq ek
  have hle:=aQh hb;have gg:∀p,zO a (jD c o a).2.2.2 G p↔G p:=λp=>by unfold zO;rw[k4];simp
  have tt:∀p,aAz a (jD c o a).2.2.2 T p↔(T p∨p=a.p):=λp=>by unfold aAz;rw[k4,e2];simp
  refine⟨?_,?_,λ_ h=>by omega,λ_ h=>by omega,λ_ _=>⟨r2,nG⟩⟩
  ·rw[e1];have D:=D1.left (c':=c.settled 4 a.p) rfl rfl;refine⟨D.cl,λp hp hf=>D.rk p ((gg p).1 hp) hf,D.ak.mono λq hq n hn hk=>?_,λp hp hf=>?_⟩
   ·obtain⟨p,h1,h2⟩:=hq n hn hk;exact⟨p,(gg p).2 h1,h2⟩
   ·rcases (tt p).1 hp with hp|rfl
    ·exact D.tm p hp hf
    ·omega
  ·rw[e1];refine(D2.del (o':=c.settled 4 a.p) (aBu c 4 a.p).1).gt (λp _=>gg p) (λp hp=>?_);rw[tt p];constructor
   ·rintro(h|rfl)
    ·exact h
    ·exact absurd (show c.id=o.id by rw[←hp];exact r2.symm) hid
   ·exact .inl
 ·have gg:∀p,zO a (jD c o a).2.2.2 G p↔G p:=λp=>by unfold zO;rw[k5];simp
  have tt:∀p,aAz a (jD c o a).2.2.2 T p↔T p:=λp=>by unfold aAz;rw[k5];simp
  obtain⟨s1,s2,s3⟩:=uM c;refine⟨?_,?_,λ_ h=>by omega,λ_ h=>by omega,λ_ h=>by omega⟩
  ·rw[e1];exact(D1.left s3 s2).gt (λp _=>gg p) (λp _=>tt p)
  ·rw[e1];exact(D2.com okc).gt (λp _=>gg p) (λp _=>tt p)
 ·have gg:∀p,zO a (jD c o a).2.2.2 G p↔G p:=λp=>by
   unfold zO;constructor
   ·rintro(h|⟨h1,h2,-⟩)
    ·exact h
    ·have:=e2 h1;omega
   ·exact .inl
  have tt:∀p,aAz a (jD c o a).2.2.2 T p↔T p:=λp=>by
   unfold aAz;constructor
   ·rintro(h|⟨h1,h2,-⟩)
    ·exact h
    ·have:=e2 h1;omega
   ·exact .inl
  refine⟨?_,?_,λh1 h=>by have:=e2 h1;omega,λh1 h=>by have:=e2 h1;omega,λh1 h=>by have:=e2 h1;omega⟩
  ·rw[e1];exact D1.gt (λp _=>gg p) (λp _=>tt p)
  ·rw[e1];exact D2.gt (λp _=>gg p) (λp _=>tt p)
def Ch.all(c:Ch):List Nt:=c.blk.flatten++c.nts
def cS(l:List Nt)(p:Pk):Nat:=(l.filter λn=>decide (n.k=1∧n.p=p)).length
def cR(l:List Nt)(p:Pk):Nat:=(l.filter λn=>decide (n.k=2∧n.p=p)).length
def cO(l:List Nt)(p:Pk):Nat:=(l.filter λn=>decide ((n.k≠1∧n.k≠2)∧n.p=p)).length
theorem aPL(l:List Nt)(n:Nt)(p:Pk):cS (l++[n]) p=cS l p+if n.k=1∧n.p=p then 1 else 0:=by
 unfold cS;rw[aIn,jS];congr 1;by_cases c:n.k=1∧n.p=p<;>simp[c]
theorem aXy(l:List Nt)(n:Nt)(p:Pk):cR (l++[n]) p=cR l p+if n.k=2∧n.p=p then 1 else 0:=by
 unfold cR;rw[aIn,jS];congr 1;by_cases c:n.k=2∧n.p=p<;>simp[c]
theorem aX9(l:List Nt)(n:Nt)(p:Pk):cO (l++[n]) p=cO l p+if (n.k≠1∧n.k≠2)∧n.p=p then 1 else 0:=by
 unfold cO;rw[aIn,jS];congr 1;by_cases c:(n.k≠1∧n.k≠2)∧n.p=p<;>simp[c]
theorem aXW{l:List Nt}{p:Pk}(h:∀n∈l,n.k=1->n.p≠p):cS l p=0:=by
 unfold cS;rw[List.length_eq_zero_iff,List.filter_eq_nil_iff];intro n hn;simp only[decide_eq_true_eq];exact λe=>h n hn e.1 e.2
theorem aXd{l:List Nt}{p:Pk}(h:∀n∈l,n.k=2->n.p≠p):cR l p=0:=by
 unfold cR;rw[List.length_eq_zero_iff,List.filter_eq_nil_iff];intro n hn;simp only[decide_eq_true_eq];exact λe=>h n hn e.1 e.2
theorem aX0{l:List Nt}{p:Pk}(h:∀n∈l,n.k≠1->n.k≠2->n.p≠p):cO l p=0:=by
 unfold cO;rw[List.length_eq_zero_iff,List.filter_eq_nil_iff];intro n hn;simp only[decide_eq_true_eq];exact λe=>h n hn e.1.1 e.1.2 e.2
def aLJ(id:Int)(l:List Nt)(n:Nt):Prop:=
 if n.k=1 then n.p.f=id∧cS l n.p=1 else if n.k=2 then n.p.f=1-id∧cR l n.p=1 else n.p.f=id∧cO l n.p=1∧cS l n.p=1
def aAb(id:Int)(l:List Nt):Prop:=∀i n,l[i]? =some n->aLJ id (l.take (i+1)) n
theorem aAb.nil(id:Int):aAb id []:=λi n h=>by simp at h
theorem aAb.snoc{id:Int}{l:List Nt}{n:Nt}(H:aAb id l)(h:aLJ id (l++[n]) n):aAb id (l++[n]):=λi m hm=>by
 by_cases c:i<l.length
 ·rw[List.getElem?_append_left c] at hm;rw[zLG (by omega)];exact H i m hm
 ·have hl:=(zLz.1 hm).1;rw[jS,zLS] at hl;have e:i=l.length:=by omega
  subst e;simp only[List.getElem?_concat_length,zL8] at hm;subst hm;rw[nU (by simp)];exact h
theorem aAb.init{id:Int}{l:List Nt}{n:Nt}(H:aAb id (l++[n])):aAb id l∧aLJ id (l++[n]) n:=by
 refine⟨λi m hm=>?_,?_⟩
 ·have hl:=(zLz.1 hm).1;have:=H i m (by rw[List.getElem?_append_left hl];exact hm)
  rwa [zLG (by omega)] at this
 ·have:=H l.length n (by simp)
  rwa [nU (by simp)] at this
theorem aAb.one{id:Int}{p:Pk}(l:List Nt):aAb id l->(⟨1,p⟩:Nt)∈l->cS l p=1:=by
 refine aNe (p:=λl=>aAb id l->(⟨1,p⟩:Nt)∈l->cS l p=1) (λ_ h=>by cases h) (λl n ih H hm=>?_) l;obtain⟨h1,h2⟩:=H.init;by_cases c:n=⟨1,p⟩
 ·subst c;unfold aLJ at h2;rw[if_pos rfl] at h2;exact h2.2
 ·have hm':(⟨1,p⟩:Nt)∈l:=by
   rcases jB.1 hm with hm|hm
   ·exact hm
   ·simp only[fW] at hm;exact absurd hm.symm c
  rw[aPL,ih h1 hm',if_neg];rintro⟨e1,e2⟩;obtain⟨nk,np⟩:=n;simp only at e1 e2;exact c (by rw[e1,e2])
def aMX(A:List Tx)(l:List Nt)(q:Pr):Prop:=∀n,n<18446744073709551616->q.k=fR 99 n->∃p:Pk,(⟨1,p⟩:Nt)∈l∧p.s.toNat=n∧q.v=mL p∧∀t∈pL p,t∈A
structure pZ(c o:Ch)(A:List Tx):Prop where
 ok:aAb c.id c.all
 s1:∀p,(⟨1,p⟩:Nt)∈c.all->p.f=c.id∧p.right=true∧p.wf∧p.s<(c.seq:Int)
 s2:aGK c.st (aMX A c.all)
 s3:∀p,(⟨2,p⟩:Nt)∈c.all->∃q∈c.st.now,q.k=fR 114 p.s.toNat
 s4:∀n∈c.all,n.k≠1->n.k≠2->(0≤n.p.s∧n.p.s<(c.seq:Int))∧∀q∈c.st.now,q.k≠fR 99 n.p.s.toNat
 s5:∀p,(⟨2,p⟩:Nt)∈c.all->(⟨1,p⟩:Nt)∈o.all
 cl:∀y∈c.cl,∃(x:Nat) (b:List Pr),y.height=(x:Int)∧mR o.st x=some b∧y.root=tx (kE b)∧∀t∈sQ b,t∈A
 mx:c.st.height=18446744073709551615->c.nts=[]
theorem aX5{c o:Ch}{A:List Tx}(cl:∀y∈c.cl,∃(x:Nat) (b:List Pr),y.height=(x:Int)∧mR o.st x=some b∧y.root=tx (kE b)∧∀t∈sQ b,t∈A){x:Nat}(hr:(jK c.cl (x:Int)).isSome=true):∃b,mR o.st x=some b∧oY c.cl (x:Int)=kE b∧∀t∈sQ b,t∈A:=by
 obtain⟨r,er⟩:=Option.isSome_iff_exists.1 hr;unfold oY;rw[er];unfold jK at er;cases hf:c.cl.find? λp=>decide ((x:Int)=p.height) with
 | none=>rw[hf] at er;cases er
 | some y=>
  rw[hf] at er;simp only[aIg,zL8] at er;have hm:=List.mem_of_find?_eq_some hf;have hk:=List.find?_some hf;simp only[decide_eq_true_eq] at hk;obtain⟨x',b,h1,h2,h3,h4⟩:=cl y hm;have ex:x'=x:=by omega
  subst ex;refine⟨b,h2,?_,h4⟩;show(Option.getD (some r) _).data.toList=_;rw[aIr,←er,h3];rfl
theorem pZ.asked{c o:Ch}{A A':List Tx}(H:pZ c o A)(hs:∀t∈A,t∈A'):pZ c o A':=
 ⟨H.ok,H.s1,H.s2.mono λq hq n hn hk=>by obtain⟨p,h1,h2,h3,h4⟩:=hq n hn hk;exact⟨p,h1,h2,h3,λt ht=>hs t (h4 t ht)⟩,H.s3,H.s4,H.s5,λy hy=>by obtain⟨x,b,h1,h2,h3,h4⟩:=H.cl y hy;exact⟨x,b,h1,h2,h3,λt ht=>hs t (h4 t ht)⟩,H.mx⟩
theorem pZ.other{c o o':Ch}{A:List Tx}(H:pZ c o A)(h5:∀p,(⟨1,p⟩:Nt)∈o.all->(⟨1,p⟩:Nt)∈o'.all)(hat:∀x b,mR o.st x=some b->mR o'.st x=some b):pZ c o' A:=
 ⟨H.ok,H.s1,H.s2,H.s3,H.s4,λp hp=>h5 p (H.s5 p hp),λy hy=>by obtain⟨x,b,h1,h2,h3⟩:=H.cl y hy;exact⟨x,b,h1,hat x b h2,h3⟩,H.mx⟩
theorem aOu(c:Ch)(n:Nt):(c.add n).all=c.all++[n]:=by
 unfold Ch.all Ch.add;exact(mZ _ _ _).symm
theorem aO5(c:Ch):c.committed.all=c.all:=by
 unfold Ch.committed;by_cases he:(jW c.st).2.2=0
 ·rw[if_pos he];unfold Ch.all;simp
 ·rw[if_neg he]
theorem aXV{L:List Pr}{k:Tx}(h:(gF L k).isSome=false):∀q∈L,q.k≠k:=λq hq e=>by
 unfold gF at h;rw[Option.isSome_eq_false_iff,Option.isNone_iff_eq_none,List.find?_eq_none] at h;exact h q hq (by simp[e])
theorem aWa{s:Ch}{d:Tx}{t:Nat}(ht:t<18446744073709551616)(hs:s.seq<18446744073709551616):(jY s d t).wf:=⟨by show(0:Int)≤(s.seq:Int);omega,by show(s.seq:Int)<_;omega,by show(0:Int)≤(t:Int);omega,by show(t:Int)<_;omega⟩
theorem aGQ(c:Ch)(p:Pk):(c.sent p).all=c.all++[⟨1,p⟩]:=aOu _ _
theorem aAm(c:Ch)(p:Pk):(c.received p).all=c.all++[⟨2,p⟩]:=aOu _ _
theorem aAW(c:Ch)(k:Int)(p:Pk):(c.settled k p).all=c.all++[⟨k,p⟩]:=aOu _ _
theorem pU{α:Type}{l:List α}{a b:α}:a∈l++[b]↔a∈l∨a=b:=by simp
theorem aMX.more{A:List Tx}{l:List Nt}{n:Nt}{q:Pr}(h:aMX A l q):aMX A (l++[n]) q:=λm hm hk=>by
 obtain⟨p,h1,h2⟩:=h m hm hk;exact⟨p,pU.2 (.inl h1),h2⟩
theorem aOg{A:List Tx}{l:List Nt}{ch:UInt8}{n:Nat}{v:Tx}(h:ch≠99):aMX A l ⟨fR ch n,v⟩:=λm _ e=>absurd e (aE9 h)
theorem aXI{n:Nt}{k:Int}{p:Pk}(h1:n.k=k)(h2:n.p=p):n=⟨k,p⟩:=by
 obtain⟨a,b⟩:=n;simp only at h1 h2;rw[h1,h2]
theorem aKc{L:List Pr}{k v:Tx}{q:Pr}(h:q∈nR L ⟨k,v⟩):q=⟨k,v⟩∨q∈L:=by
 rcases rR.1 h with h|h
 ·exact .inl h
 ·exact .inr h.1
theorem aHo{L:List Pr}{k k' v:Tx}(h:∃q∈L,q.k=k):∃q∈nR L ⟨k',v⟩,q.k=k:=by
 obtain⟨q,hq,e⟩:=h;by_cases c:q.k=k'
 ·exact⟨⟨k',v⟩,rR.2 (.inl rfl),by rw[←c];exact e⟩
 ·exact⟨q,rR.2 (.inr ⟨hq,c⟩),e⟩
section
variable{c o:Ch}{A:List Tx}(H:pZ c o A)
include H
theorem pZ.send{p:Pk}(hp:p.right=true)(wp:p.wf)(hf:p.f=c.id)(hs:p.s=(c.seq:Int))(hx:c.st.height≠18446744073709551615)(hA:∀t∈pL p,t∈A):pZ (c.sent p) o A:=by
 obtain⟨e1,e2,e3⟩:=aPF c p;have hq:=wp.2.1;refine⟨?_,?_,?_,?_,?_,?_,H.cl,λh=>absurd h hx⟩
 ·rw[aGQ,e3];refine H.ok.snoc ?_;unfold aLJ;rw[if_pos rfl,aPL,if_pos ⟨rfl,rfl⟩,aXW λn hn e1 e2=>?_]
  ·exact⟨hf,rfl⟩
  ·have:=(H.s1 p (by rw[←aXI e1 e2];exact hn)).2.2.2;omega
 ·intro q hm;rw[aGQ] at hm;show q.f=c.id∧q.right=true∧q.wf∧q.s<((c.seq+1:Nat):Int);rcases pU.1 hm with hm|hm
  ·obtain⟨h1,h2,h3,h4⟩:=H.s1 q hm;exact⟨h1,h2,h3,by omega⟩
  ·simp only[Nt.mk.injEq,true_and] at hm;subst hm;exact⟨hf,hp,wp,by omega⟩
 ·rw[e1,aGQ];refine(H.s2.mono λq h=>h.more).put λn hn hk=>?_;obtain⟨-,en⟩:=aNc (by omega) hn hk;exact⟨p,pU.2 (.inr rfl),by omega,rfl,hA⟩
 ·intro q hm;rw[aGQ] at hm;rcases pU.1 hm with hm|hm
  ·rw[e1];exact aHo (H.s3 q hm)
  ·simp only[Nt.mk.injEq] at hm;omega
 ·intro n hm k1 k2;rw[aGQ] at hm;rcases pU.1 hm with hm|hm
  ·obtain⟨h1,h2⟩:=H.s4 n hm k1 k2;refine⟨⟨h1.1,by show n.p.s<((c.seq+1:Nat):Int);omega⟩,λq hq=>?_⟩;rw[e1] at hq;rcases aKc hq with rfl|hq
   ·intro e;have e:fR 99 c.seq=fR 99 n.p.s.toNat:=e;obtain⟨-,en⟩:=aNc (by omega) (by omega) e;omega
   ·exact h2 q hq
  ·subst hm;exact absurd rfl k1
 ·intro q hm;rw[aGQ] at hm;rcases pU.1 hm with hm|hm
  ·exact H.s5 q hm
  ·simp only[Nt.mk.injEq] at hm;omega
theorem pZ.recv{p:Pk}(hf:p.f=1-c.id)(hno:(gF c.st.now (fR 114 p.s.toNat)).isSome=false)(hx:c.st.height≠18446744073709551615)(h5:(⟨1,p⟩:Nt)∈o.all):pZ (c.received p) o A:=by
 obtain⟨e1,e2,e3⟩:=aFx c p;refine⟨?_,?_,?_,?_,?_,?_,H.cl,λh=>absurd h hx⟩
 ·rw[aAm,e3];refine H.ok.snoc ?_;unfold aLJ;rw[if_neg (show ¬(2:Int)=1 by decide),if_pos rfl,aXy,if_pos ⟨rfl,rfl⟩,aXd λn hn e1 e2=>?_]
  ·exact⟨hf,rfl⟩
  ·obtain⟨q,hq,ek⟩:=H.s3 p (by rw[←aXI e1 e2];exact hn);exact aXV hno q hq ek
 ·intro q hm;rw[aAm] at hm;rcases pU.1 hm with hm|hm
  ·exact H.s1 q hm
  ·simp only[Nt.mk.injEq] at hm;omega
 ·rw[e1,aAm];exact((H.s2.mono λq h=>h.more).put (aOg (by decide))).put (aOg (by decide))
 ·intro q hm;rw[aAm] at hm;rw[e1];rcases pU.1 hm with hm|hm
  ·exact aHo (aHo (H.s3 q hm))
  ·simp only[Nt.mk.injEq,true_and] at hm;subst hm;exact aHo ⟨⟨fR 114 q.s.toNat,[1]⟩,rR.2 (.inl rfl),rfl⟩
 ·intro n hm k1 k2;rw[aAm] at hm;rcases pU.1 hm with hm|hm
  ·obtain⟨h1,h2⟩:=H.s4 n hm k1 k2;refine⟨h1,λq hq=>?_⟩;rw[e1] at hq;rcases aKc hq with rfl|hq
   ·exact aE9 (by decide)
   ·rcases aKc hq with rfl|hq
    ·exact aE9 (by decide)
    ·exact h2 q hq
  ·subst hm;exact absurd rfl k2
 ·intro q hm;rw[aAm] at hm;rcases pU.1 hm with hm|hm
  ·exact H.s5 q hm
  ·simp only[Nt.mk.injEq,true_and] at hm;subst hm;exact h5
theorem pZ.settle{k:Int}(k1:k≠1)(k2:k≠2){p:Pk}(hp:p.right=true)(wp:p.wf)(hf:p.f=c.id)(hs:nO c p=true)(hx:c.st.height≠18446744073709551615)(U:aHr A)(hA:∀t∈pL p,t∈A):pZ (c.settled k p) o A:=by
 obtain⟨e1,e2,e3⟩:=aBu c k p;have w1:=wp.1;have w2:=wp.2.1
 -- the packet was sent
 obtain⟨y,hy,hyv⟩:∃y,gF c.st.now (fR 99 p.s.toNat)=some y∧y.v=mL p:=by
  unfold nO at hs;cases hg:gF c.st.now (fR 99 p.s.toNat) with
  | none=>rw[hg] at hs;cases hs
  | some y=>rw[hg] at hs;exact⟨y,rfl,of_decide_eq_true hs⟩
 have hym:y∈c.st.now:=List.mem_of_find?_eq_some hy;have hyk:fR 99 p.s.toNat=y.k:=by
  have:=List.find?_some hy;simpa using this
 obtain⟨q,h1,h2,h3,h4⟩:=H.s2.1 y hym p.s.toNat (by omega) hyk.symm;obtain⟨g1,g2,g3,g4⟩:=H.s1 q h1;have epq:p=q:=Pk.bs_inj hp g2 wp g3 (aQD hp g2 U hA h4 (by rw[←hyv,h3]));rw[←epq] at h1 g4;refine⟨?_,?_,?_,?_,?_,?_,H.cl,λh=>absurd h hx⟩
 ·rw[aAW,e3];refine H.ok.snoc ?_;unfold aLJ;rw[if_neg k1,if_neg k2,aX9,if_pos ⟨⟨k1,k2⟩,rfl⟩,aX0 λn hn e1 e2 e3=>?_]
  ·refine⟨hf,rfl,?_⟩;rw[aPL,if_neg (λh=>k1 h.1),H.ok.one _ h1]
  ·obtain⟨-,hno⟩:=H.s4 n hn e1 e2;exact hno y hym (by rw[e3];exact hyk.symm)
 ·intro r hm;rw[aAW] at hm;rcases pU.1 hm with hm|hm
  ·exact H.s1 r hm
  ·simp only[Nt.mk.injEq] at hm;exact absurd hm.1.symm k1
 ·rw[e1,aAW];exact(H.s2.mono λq h=>h.more).del _
 ·intro r hm;rw[aAW] at hm;rcases pU.1 hm with hm|hm
  ·obtain⟨z,hz,ez⟩:=H.s3 r hm;rw[e1];exact⟨z,zL1.2 ⟨hz,by simp only[ne_eq,decide_eq_true_eq];rw[ez];exact aE9 (by decide)⟩,ez⟩
  ·simp only[Nt.mk.injEq] at hm;exact absurd hm.1.symm k2
 ·intro n hm j1 j2;rw[aAW] at hm;rw[e1];rcases pU.1 hm with hm|hm
  ·obtain⟨r1,r2⟩:=H.s4 n hm j1 j2;exact⟨r1,λz hz=>r2 z (zL1.1 hz).1⟩
  ·subst hm;refine⟨⟨w1,g4⟩,λz hz=>?_⟩;have:=(zL1.1 hz).2;simpa using this
 ·intro r hm;rw[aAW] at hm;rcases pU.1 hm with hm|hm
  ·exact H.s5 r hm
  ·simp only[Nt.mk.injEq] at hm;exact absurd hm.1.symm k2
theorem pZ.told{x:Nat}{b:List Pr}(hx:mR o.st x=some b)(hA:∀t∈sQ b,t∈A):pZ (c.told (x:Int) (kE b)) o A:=
 ⟨H.ok,H.s1,H.s2,H.s3,H.s4,H.s5,λy hy=>by
  rcases aNt hy with hy|rfl
  ·exact H.cl y hy
  ·exact⟨x,b,rfl,hx,rfl,hA⟩,H.mx⟩
theorem pZ.com:pZ c.committed o A:=by
 obtain⟨e1,e2,e3⟩:=uM c;have eall:=aO5 c;have esq:c.committed.seq=c.seq:=by unfold Ch.committed;split<;>rfl
 have enow:c.committed.st.now=c.st.now:=by
  rw[e1];by_cases he:(jW c.st).2.2=0
  ·rw[(aDI he).1]
  ·rw[aCK he]
 refine⟨by rw[eall,e3];exact H.ok,by rw[eall,e3,esq];exact H.s1,by rw[eall,e1];exact H.s2.com,by rw[eall,enow];exact H.s3,by rw[eall,enow,esq];exact H.s4,by rw[eall];exact H.s5,by rw[e2];exact H.cl,λh=>?_⟩;unfold Ch.committed at h ⊢;by_cases he:(jW c.st).2.2=0
 ·rw[if_pos he]
 ·rw[if_neg he] at h ⊢;exact H.mx h
end
theorem aPr{c o:Ch}{a:jI}{A:List Tx}(O1:pZ c o A)(O2:pZ o c A)(U:aHr (doA c o a++A))(hco:1-c.id=o.id)(wa:a.wf)(okc:c.st.Ok)(oko:o.st.Ok)(hsq:c.seq<18446744073709551616):pZ (jD c o a).1 o (doA c o a++A)∧pZ o (jD c o a).1 (doA c o a++A):=by
 have sub:∀t∈A,t∈doA c o a++A:=λt ht=>zLl _ ht;have O1:=O1.asked sub;have O2:=O2.asked sub;have subA:∀t∈doA c o a,t∈doA c o a++A:=λt ht=>zLk _ ht;generalize doA c o a++A=A' at *;obtain⟨w1,w2,w3,w4⟩:=wa.p;rcases aDL c o a with⟨k0,e,e1,e2,eA⟩|⟨k1,b,e,e1,eA⟩|⟨k2,e,e1,e2,eA⟩|⟨k3,e,e1,e2,eA⟩|⟨k4,e,e1,e2,eA⟩|⟨k5,e1⟩|⟨e1,e2⟩
 ·obtain⟨r1,r2,r3,r4,r5⟩:=aPh e;rw[e1];refine⟨O1.send r2 (aWa wa.h hsq) rfl rfl r5 (λt ht=>subA t (by rw[eA];exact ht)),O2.other (λp hp=>?_) (λx b hx=>hx)⟩;rw[aGQ];exact pU.2 (.inl hp)
 ·rw[e1];exact⟨O1.told e (λt ht=>subA t (by rw[eA];exact ht)),O2.other (λp hp=>hp) (λx b hx=>hx)⟩
 ·obtain⟨r1,r2,r3,r4,r5,r6,r7⟩:=aJx e;obtain⟨b,hb,eb,hbA⟩:=aX5 O1.cl r5;rw[eb] at r6;have hm:=aPw (oko.mok hb) U (λt ht=>subA t (by rw[eA];simp[ht])) hbA r6;obtain⟨q,h1,h2,h3,h4⟩:=O2.s2.2 b (aSw hb) _ hm a.p.s.toNat (by omega) rfl;obtain⟨g1,g2,g3,g4⟩:=O2.s1 q h1;have epq:a.p=q:=Pk.bs_inj r1 g2 wa.p g3 (aQD r1 g2 U (λt ht=>subA t (by rw[eA];simp[ht])) h4 h3);rw[e1];refine⟨O1.recv r2 r4 r7 (by rw[epq];exact h1),O2.other (λp hp=>?_) (λx b hx=>hx)⟩;rw[aAm];exact pU.2 (.inl hp)
 ·obtain⟨r1,r2,r3,r4,r5⟩:=aAT (by unfold sV;simp) e;rw[e1];refine⟨O1.settle (by decide) (by decide) r1 wa.p r2 r3 r5 U (λt ht=>subA t (by rw[eA];simp[ht])),O2.other (λp hp=>?_) (λx b hx=>hx)⟩;rw[aAW];exact pU.2 (.inl hp)
 ·obtain⟨r1,r2,r3,r4,r5⟩:=aAT (by unfold oG;simp) e;rw[e1];refine⟨O1.settle (by decide) (by decide) r1 wa.p r2 r3 r5 U (λt ht=>subA t (by rw[eA];simp[ht])),O2.other (λp hp=>?_) (λx b hx=>hx)⟩;rw[aAW];exact pU.2 (.inl hp)
 ·rw[e1];refine⟨O1.com,O2.other (λp hp=>by rw[aO5];exact hp) (λx b hx=>?_)⟩;rw[(uM c).1];exact aNk okc hx
 ·rw[e1];exact⟨O1,O2⟩
def aFM(d0 d1:Nat):List Value:=[pT d0 0,pT d1 0]
def dCh(b m:Nat)(A:List Tx)(K:List Nat)(c:Nat)(s:Ch)(n:Nat):lU:=eH (rU b m A K) (DC c b s n)
def dRe(t:Nat)(cs:List Value)(o b:Nat)(so:Ch)(n:Nat):lU:=eH (wK t cs) (DC o b so n)
theorem dCh.good(b m:Nat)(A:List Tx)(K:List Nat)(c:Nat)(s:Ch)(n:Nat):lW (dCh b m A K c s n):=(rU.good _ _ _ _).star (DC.good _ _ _ _)
theorem dRe.good(t:Nat)(cs:List Value)(o b:Nat)(so:Ch)(n:Nat):lW (dRe t cs o b so n):=(wK.good _ _).star (DC.good _ _ _ _)
theorem dRe.mono{t:Nat}{cs:List Value}{o b:Nat}{so:Ch}{n n':Nat}(hn:n≤n'){h:PH}{F:List Nat}(H:dRe t cs o b so n h F):dRe t cs o b so n' h F:=by
 obtain⟨Fa,Fb,rfl,hx,hy,hd⟩:=H;exact⟨Fa,Fb,rfl,hx,hy.mono hn,hd⟩
theorem dCh.mono{b m:Nat}{A:List Tx}{K:List Nat}{c:Nat}{s:Ch}{n n':Nat}(hn:n≤n'){h:PH}{F:List Nat}(H:dCh b m A K c s n h F):dCh b m A K c s n' h F:=by
 obtain⟨Fa,Fb,rfl,hx,hy,hd⟩:=H;exact⟨Fa,Fb,rfl,hx,hy.mono hn,hd⟩
theorem eH.imp{A B A' B':lU}{h:PH}{F:List Nat}(H:eH A B h F)(ha:∀G,A h G->A' h G)(hb:∀G,B h G->B' h G):eH A' B' h F:=by
 obtain⟨Fa,Fb,rfl,hx,hy,hd⟩:=H;exact⟨Fa,Fb,rfl,ha _ hx,hb _ hy,hd⟩
theorem aVX{h:PH}{F:List Nat}{b m:Nat}{A:List Tx}{K:List Nat}{c o t:Nat}{cs2:List Value}{s so:Ch}{n:Nat}(H:eH (dCh b m A K c s n) (dRe t cs2 o b so n) h F)(w:s.DOk)(hn:n≤10000){a:jI}(wa:a.wf)(hd64:a.d.length≤1000000){r1 r3:Nat}(B1:Bx h r1 a.cells)(n1:r1∉F){cs:List Value}(hcs:cs.length=4)(B3:Bx h r3 cs)(n3:r3∉F){R:cD}
  (hR:∀h' F',eH (dCh b m (doA s so a++A) K c (jD s so a).1 (n+1)) (dRe t cs2 o b so (n+1)) h' F'->cV (r3::F) h h'->(∀b∈F',b∈F∨h b=none)->R (.tuple #[(jD s so a).2.1.v,.int .u64 ((jD s so a).2.2.1:Int),.int .i64 (jD s so a).2.2.2]) h'):
  oS R (pT r1 0) (pT r3 0) (pT c 0) (pT o 0) (.string (tx (lI so a))) h:=by
 unfold oS;have gC:=λA s n=>dCh.good b m A K c s n;have gR:=λn=>dRe.good t cs2 o b so n;have fin:∀{h1:PH} {F1:List Nat} {A':List Tx} {s':Ch} {n':Nat} {pk:Pk} {hh:Nat} {e:Int},eH (dCh b m A' K c s' n') (dRe t cs2 o b so n) h1 F1->n'≤n+1->(∀a'∈doA s so a++A,a'∈A')->iO h F h1 F1->jD s so a=(s',(pk,hh,e))->cZ PG (dM aR (pT r3 0) pk.v) h1 λ_ h80=>dY (cG PG h80 (loadAt aR (pT r3 0))) λv81=>R (.tuple #[v81,.int .u64 (hh:Int),.int .i64 e]) h80:=by
  intro h1 F1 A' s' n' pk hh e H1 hn' hA s1 ed;have B31:=B3.upd s1.upd n3;refine aR.put (vs:=pk.cells) B31 (o:=0) rfl (by omega) (Pk.isC _) λh2 B2 u2=>?_;have l2:cG PG h2 (loadAt aR (pT r3 0))=some pk.v:=B2.pk (by simp[Pk.cells]);simp only[l2,cE,reduceIte,cT,Nat.reduceAdd];have m3:r3∉F1:=λhm=>by
   rcases s1.grow _ hm with hx|hx
   ·exact n3 hx
   ·exact B3.known hx
  rw[ed] at hR;have H2:=((gC A' s' n').star (gR n)).upd H1 u2 (λb hb hb'=>by simp only[fW] at hb';exact m3 (hb'▸hb));exact hR h2 F1 (eH.imp H2 (λG hG=>dCh.mono hn' (rU.mono hG hA)) (λG hG=>dRe.mono (vU n) hG)) (λb ob hb hn=>by
   simp only[gE,not_or] at hn;exact u2 b ob (s1.upd b ob hb hn.2) (by simpa using hn.1)) s1.grow
 have lk:cG PG h (loadAt bT (pT r1 0))=some (.int .i64 a.kind):=by rw[bT.load,B1.cell];rfl
 have lh:∀{h':PH},Bx h' r1 a.cells->cG PG h' (loadAt cA (pT r1 2))=some (.int .u64 (a.h:Int)):=λB=>by rw[cA.load,B.cell];rfl
 have ld:cG PG h (loadAt bR (pT r1 3))=some (.string (tx a.d)):=by rw[bR.load,B1.cell];rfl
 have lp:cG PG h (loadAt aR (pT r1 4))=some a.p.v:=B1.pk rfl;have hpf:=aVr so hd64;obtain⟨Fa,HA,hFa,back⟩:=eH.left (gR n) H;have back:∀{A':List Tx} {s':Ch} {n':Nat} {h':PH} {Fa':List Nat},eH (rU b m A' K) (DC c b s' n') h' Fa'->iO h Fa h' Fa'->∃F',eH (dCh b m A' K c s' n') (dRe t cs2 o b so n) h' F'∧iO h F h' F':=fun {A' s' n' h' Fa'} HX st=>back (dCh b m A' K c s' n') h' Fa' HX st;have hdd:jD s so a=if a.kind=0 then(if rT s a.d a.h=0 then(s.sent (jY s a.d a.h),(jY s a.d a.h,0,0)) else(s,(default,0,rT s a.d a.h)))
   else if a.kind=1 then(match mR so.st a.h with
    | none=>(s,(default,0,3))
    | some b=>(s.told (a.h:Int) (kE b),(default,0,(sF s.cl ⟨(a.h:Int),tx (kE b)⟩).1)))
   else if a.kind=2 then(if pF s (qM s a.p (lI so a) (a.h:Int))=0 then(s.received a.p,(default,0,0)) else(s,(default,0,pF s (qM s a.p (lI so a) (a.h:Int)))))
   else if a.kind=3 then(if iW s a.p (sV s a.p (lI so a) (a.h:Int))=0 then(s.settled 3 a.p,(default,0,0)) else(s,(default,0,iW s a.p (sV s a.p (lI so a) (a.h:Int)))))
   else if a.kind=4 then(if iW s a.p (oG s a.p (lI so a) (a.h:Int))=0 then(s.settled 4 a.p,(default,0,0)) else(s,(default,0,iW s a.p (oG s a.p (lI so a) (a.h:Int)))))
   else if a.kind=5 then(s.committed,(default,(jW s.st).2.1,(jW s.st).2.2))
   else(s,(default,0,0)):=rfl
 have hda:doA s so a=if a.kind=0 then(if rT s a.d a.h=0 then pL (jY s a.d a.h) else [])
  else if a.kind=1 then(match mR so.st a.h with
   | none=>[]
   | some b=>sQ b)
  else if a.kind=2 then(if pF s (qM s a.p (lI so a) (a.h:Int))=0 then aGJ a.p++(aGs (lI so a)++pL a.p) else [])
  else if a.kind=3 then(if iW s a.p (sV s a.p (lI so a) (a.h:Int))=0 then aGs (lI so a)++(aGJ a.p++pL a.p) else [])
  else if a.kind=4 then(if iW s a.p (oG s a.p (lI so a) (a.h:Int))=0 then aI9 (lI so a) (fR 114 a.p.s.toNat)++pL a.p else [])
  else []:=rfl
 by_cases k0:a.kind=0
 ·have q:(a.kind==0)=true:=by simp[k0]
  rw[if_pos k0] at hdd hda;simp only[cI.f0,cI.f2,cI.f3,fC,lk,ld,lh B1,iB,q,cE,reduceIte,cT,Nat.reduceAdd];have last:∀{h1:PH} {F1:List Nat} {A':List Tx} {s':Ch} {n':Nat} {pk:Pk} {e:Int},eH (dCh b m A' K c s' n') (dRe t cs2 o b so n) h1 F1->n'≤n+1->(∀a'∈doA s so a++A,a'∈A')->iO h F h1 F1->jD s so a=(s',(pk,0,e))->∀r74,h1 r74=none->eI (PH.set h1 r74 (.cells (dN PG aR) aR)) λh75=>
    cZ PG (dM aR (pT r74 0) pk.v) h75 λv76 h77=>
    dY (cG PG h77 (loadAt aR (pT r74 0))) λv78=>
    cZ PG (dM aR (pT r3 0) v78) h77 λv79 h80=>
    dY (cG PG h80 (loadAt aR (pT r3 0))) λv81=>
    R (.tuple #[v81,(Value.int IntKind.u64 0),.int .i64 e]) h80:=by
   intro h1 F1 A' s' n' pk e H1 hn' hA s1 ed r74 hr74
   try rw[cY]
   refine aR.fill (vs:=pk.cells) hr74 rfl (Pk.isC _) λh2 B2 u2=>?_;have l2:cG PG h2 (loadAt aR (pT r74 0))=some pk.v:=B2.pk rfl;simp only[l2,cE,reduceIte,cT,Nat.reduceAdd];exact fin (hh:=0) (((gC A' s' n').star (gR n)).ext H1 u2) hn' hA (s1.trans (iO.ext u2)) ed
  refine aWt HA w hn a.d hd64 wa.h (λhe h1 H1 s1=>?_) (λhe h1 F1 H1 s1=>?_)
  ·rw[if_neg he] at hdd hda;obtain⟨F2,W2,s2⟩:=back H1 s1;have:=last W2 (vU n) (by rw[hda];exact λ_ h=>h) s2 hdd;simp only[cE,reduceIte,cT,Nat.reduceAdd] at this ⊢;exact this
  ·rw[if_pos he] at hdd hda;obtain⟨F2,W2,s2⟩:=back H1 s1;have:=last W2 (pC _) (by rw[hda];exact λ_ h=>h) s2 hdd;simp only[cE,reduceIte,cT,Nat.reduceAdd] at this ⊢;exact this
 have q0:(a.kind==0)=false:=by simp[k0]
 rw[if_neg k0] at hdd hda;by_cases k1:a.kind=1
 ·have q:(a.kind==1)=true:=by simp[k1]
  rw[if_pos k1] at hdd hda;obtain⟨Fcd,HCd,HB,eFa,hdis⟩:=aFW HA;obtain⟨sp,cp,bv,nv,PC⟩:=id HCd;obtain⟨Fo,HO,hFo⟩:∃Fo,DC o b so n h Fo∧∀x∈Fo,x≠b∧x≠m:=by
   obtain⟨Fc,Fr,eF,HC,⟨Ft,Fo,eFr,-,HO,dto⟩,dcr⟩:=id H;obtain⟨Fcd,-,-,eFc,-⟩:=aFW HC;refine⟨Fo,HO,λx hx=>?_⟩;have h1:x∈Fr:=by rw[eFr];exact zLl _ hx
   refine⟨λe=>?_,λe=>?_⟩
   ·exact dcr b (by rw[eFc];simp) (e▸h1)
   ·exact dcr m (by rw[eFc];simp) (e▸h1)
  obtain⟨osp,ocp,obv,onv,PO⟩:=id HO;obtain⟨Fs,⟨G,St,eFs⟩,hFs,-⟩:=PO.fSt;obtain⟨cc,A0,HBk,hAA⟩:=id HB;have hGb:∀x∈G,x≠b∧x≠m:=λx hx=>hFo x (hFs x (by rw[eFs];simp[hx]));have n1b:r1∉[b,m]:=λhm=>by
   simp only[gE,kD,or_false] at hm;rcases hm with rfl|rfl
   ·exact n1 (hFa _ (by rw[eFa];simp))
   ·exact n1 (hFa _ (by rw[eFa];simp))
  simp only[cI.f0,cI.f2,cQ.f0,cQ.f2,fC,lk,lh B1,dl0 PC.cell,dl2 PO.cell,iB,q0,q,cE,reduceIte,cT,Nat.reduceAdd];refine aUh St HBk hGb a.h wa.h (λe=>?_) (λl h1 c' e HB1 _ u1=>?_)
  ·rw[e] at hdd hda;obtain⟨F2,W2,s2⟩:=back HA iO.refl;have qe:((3:Int) !=0)=true:=by decide
   simp only[kI,qe,Pk.zb,cE,reduceIte,cT,Nat.reduceAdd];exact fin (hh:=0) W2 (vU n) (by rw[hda];exact λ_ h=>h) s2 hdd
  ·rw[e] at hdd hda;have HB2:Bk b m (sQ l++A) K h1:=⟨c',_,HB1,λx hx=>by
    rcases jB.1 hx with hx|hx
    ·simp[hx]
    ·simp[hAA x hx]⟩
   obtain⟨-,s1⟩:=aHh (DC.good c b s n) HA HB2 u1;have P1:=nC.good.upd PC u1 (aMS hdis);have C1:=B1.upd u1 n1b;simp only[kI,Pk.zb,cI.f2,cQ.f3,fC,lh C1,dl3 P1.cell,cE,reduceIte,cT,Nat.reduceAdd];refine aWK P1 w.few (a.h:Int) (kE l) λh2 F2 P2 s2=>?_;obtain⟨W2,sW2⟩:=aHp (X':=DC c b (s.told (a.h:Int) (kE l)) n) HB2 hdis ⟨sp,cp,bv,nv,P2⟩ s2;rw[←eFa] at sW2;obtain⟨F3,W3,s3⟩:=back W2 (s1.trans sW2);have:=fin (hh:=0) W3 (vU n) (by rw[hda];exact λ_ h=>h) s3 hdd;exact this
 have q1:(a.kind==1)=false:=by simp[k1]
 rw[if_neg k1] at hdd hda;by_cases k2:a.kind=2
 ·have q:(a.kind==2)=true:=by simp[k2]
  rw[if_pos k2] at hdd hda;simp only[cI.f0,cI.f2,cI.f4,fC,lk,lh B1,lp,iB,q0,q1,q,Pk.zb,cE,reduceIte,cT,Nat.reduceAdd];have erc:aKG s a.p (lI so a) (a.h:Int)=pF s (qM s a.p (lI so a) (a.h:Int)):=rfl;refine aWp HA w hn wa.p hpf wa.h (λhe h1 H1 s1=>?_) (λhe h1 F1 H1 s1=>?_)
  ·rw[erc] at he ⊢;rw[if_neg he] at hdd hda;obtain⟨F2,W2,s2⟩:=back H1 s1;exact fin (hh:=0) W2 (vU n) (by rw[hda];exact λ_ h=>h) s2 hdd
  ·rw[erc] at he;rw[if_pos he] at hdd hda;obtain⟨F2,W2,s2⟩:=back H1 s1;exact fin (hh:=0) W2 (pC _) (by rw[hda];exact λ_ h=>h) s2 hdd
 have q2:(a.kind==2)=false:=by simp[k2]
 rw[if_neg k2] at hdd hda;by_cases k3:a.kind=3
 ·have q:(a.kind==3)=true:=by simp[k3]
  rw[if_pos k3] at hdd hda;simp only[cI.f0,cI.f2,cI.f4,fC,lk,lh B1,lp,iB,q0,q1,q2,q,Pk.zb,cE,reduceIte,cT,Nat.reduceAdd];refine aXw HA w hn wa.p hpf wa.h (λhe h1 H1 s1=>?_) (λhe h1 F1 H1 s1=>?_)
  ·rw[if_neg he] at hdd hda;obtain⟨F2,W2,s2⟩:=back H1 s1;exact fin (hh:=0) W2 (vU n) (by rw[hda];exact λ_ h=>h) s2 hdd
  ·rw[if_pos he] at hdd hda;obtain⟨F2,W2,s2⟩:=back H1 s1;exact fin (hh:=0) W2 (pC _) (by rw[hda];exact λ_ h=>h) s2 hdd
 have q3:(a.kind==3)=false:=by simp[k3]
 rw[if_neg k3] at hdd hda;by_cases k4:a.kind=4
 ·have q:(a.kind==4)=true:=by simp[k4]
  rw[if_pos k4] at hdd hda;simp only[cI.f0,cI.f2,cI.f4,fC,lk,lh B1,lp,iB,q0,q1,q2,q3,q,Pk.zb,cE,reduceIte,cT,Nat.reduceAdd];refine aSD HA w hn wa.p hpf wa.h (λhe h1 H1 s1=>?_) (λhe h1 F1 H1 s1=>?_)
  ·rw[if_neg he] at hdd hda;obtain⟨F2,W2,s2⟩:=back H1 s1;exact fin (hh:=0) W2 (vU n) (by rw[hda];exact λ_ h=>h) s2 hdd
  ·rw[if_pos he] at hdd hda;obtain⟨F2,W2,s2⟩:=back H1 s1;exact fin (hh:=0) W2 (pC _) (by rw[hda];exact λ_ h=>h) s2 hdd
 have q4:(a.kind==4)=false:=by simp[k4]
 rw[if_neg k4] at hdd hda;by_cases k5:a.kind=5
 ·have q:(a.kind==5)=true:=by simp[k5]
  rw[if_pos k5] at hdd;simp only[cI.f0,fC,lk,iB,q0,q1,q2,q3,q4,q,cE,reduceIte,cT,Nat.reduceAdd];obtain⟨Fcd,HCd,HB,eFa,hdis⟩:=aFW HA;refine aWu HCd hn λh1 F1 H1 s1=>?_;obtain⟨W1,sW1⟩:=aHp HB hdis H1 s1;rw[←eFa] at sW1;obtain⟨F2,W2,s2⟩:=back W1 sW1;simp only[Pk.zb,cE,reduceIte,cT,Nat.reduceAdd];exact fin W2 (pC _) (by rw[hda];exact λ_ h=>h) s2 hdd
 ·have q:(a.kind==5)=false:=by simp[k5]
  rw[if_neg k5] at hdd;obtain⟨F2,W2,s2⟩:=back HA iO.refl;simp only[cI.f0,fC,lk,iB,q0,q1,q2,q3,q4,q,Pk.zb,cE,reduceIte,cT,Nat.reduceAdd];exact fin (hh:=0) W2 (vU n) (by rw[hda];exact λ_ h=>h) s2 hdd
theorem eH.flip{A B C D:lU}{h:PH}{F:List Nat}(H:eH (eH A B) (eH C D) h F):∃F',eH (eH A D) (eH C B) h F'∧∀x,x∈F'↔x∈F:=by
 obtain⟨Fx,Fy,rfl,⟨Fa,Fb,rfl,ha,hb,d1⟩,⟨Fc,Fd,rfl,hc,hd,d2⟩,d3⟩:=H;refine⟨(Fa++Fd)++(Fc++Fb),⟨Fa++Fd,Fc++Fb,rfl,⟨Fa,Fd,rfl,ha,hd,λx hx hx'=>d3 x (by simp[hx]) (by simp[hx'])⟩,⟨Fc,Fb,rfl,hc,hb,λx hx hx'=>d3 x (by simp[hx']) (by simp[hx])⟩,λx hx hx'=>?_⟩,λx=>?_⟩
 ·rcases jB.1 hx with hx|hx
  ·rcases jB.1 hx' with hx'|hx'
   ·exact d3 x (by simp[hx]) (by simp[hx'])
   ·exact d1 x hx hx'
  ·rcases jB.1 hx' with hx'|hx'
   ·exact d2 x hx' hx
   ·exact d3 x (by simp[hx']) (by simp[hx])
 ·simp only[jB];constructor
  ·rintro((h|h)|(h|h))<;>simp[h]
  ·rintro((h|h)|(h|h))<;>simp[h]
def DTw(t d0 d1 b m:Nat)(A:List Tx)(K:List Nat)(s0 s1:Ch)(n:Nat):lU:=eH (dCh b m A K d0 s0 n) (dRe t (aFM d0 d1) d1 b s1 n)
theorem DTw.good(t d0 d1 b m:Nat)(A:List Tx)(K:List Nat)(s0 s1:Ch)(n:Nat):lW (DTw t d0 d1 b m A K s0 s1 n):=(dCh.good _ _ _ _ _ _ _).star (dRe.good _ _ _ _ _ _)
theorem aYs{r o i:Nat}(hi:i<2):dD PG (indexAt kY (pT r o) (.int .i64 (i:Int)))=some (pT r (o+i)):=by
 have ix:=sH (P:=PG) (t:=kY) (b:=r) (o:=o) (k:=.i64) (j:=(i:Int)) kY.und iH.info iH.size (by omega) (by omega);rw[ix,pK,zL7]
noncomputable def twA(a b:Ch)(x:jI):List Tx:=if x.id=1 then doA b a x else doA a b x
theorem aV4{t d0 d1 b m:Nat}{A:List Tx}{K:List Nat}{s0 s1:Ch}{n:Nat}{h:PH}{F:List Nat}(H:DTw t d0 d1 b m A K s0 s1 n h F)(x:jI):∃(c o:Nat) (s so:Ch) (F1:List Nat),eH (dCh b m A K c s n) (dRe t (aFM d0 d1) o b so n) h F1∧(∀y,y∈F1↔y∈F)∧(aFM d0 d1)[lH x.id]? =some (pT c 0)∧(aFM d0 d1)[1-lH x.id]? =some (pT o 0)∧(s=s0∨s=s1)∧(jD s so x).2=(iK s0 s1 x).2∧doA s so x=twA s0 s1 x∧
  ∀(A':List Tx) (n':Nat) (h':PH) (F':List Nat),eH (dCh b m A' K c (jD s so x).1 n') (dRe t (aFM d0 d1) o b so n') h' F'->∃F'',DTw t d0 d1 b m A' K (iK s0 s1 x).1.1 (iK s0 s1 x).1.2 n' h' F''∧∀y,y∈F''↔y∈F':=by
 by_cases e:x.id=1
 ·have e1:lH x.id=1:=by unfold lH;rw[if_pos e]
  obtain⟨F1,H1,hF⟩:=eH.flip H;refine⟨d1,d0,s1,s0,F1,H1,hF,by rw[e1];rfl,by rw[e1];rfl,.inr rfl,?_,?_,λA' n' h' F' H'=>?_⟩
  ·unfold iK;rw[if_pos e]
  ·unfold twA;rw[if_pos e]
  ·obtain⟨F2,H2,hF2⟩:=eH.flip H';refine⟨F2,?_,hF2⟩;unfold iK;rw[if_pos e];exact H2
 ·have e1:lH x.id=0:=by unfold lH;rw[if_neg e]
  refine⟨d0,d1,s0,s1,F,H,λy=>Iff.rfl,by rw[e1];rfl,by rw[e1];rfl,.inl rfl,?_,?_,λA' n' h' F' H'=>⟨F',?_,λy=>Iff.rfl⟩⟩
  ·unfold iK;rw[if_neg e]
  ·unfold twA;rw[if_neg e]
  ·unfold iK;rw[if_neg e];exact H'
theorem aY7{h:PH}{t d0 d1 b m:Nat}{A:List Tx}{K:List Nat}{s0 s1:Ch}{n:Nat}{F:List Nat}(H:DTw t d0 d1 b m A K s0 s1 n h F)(w0:s0.DOk)(w1:s1.DOk)(hn:n≤10000){x:jI}(wx:x.wf)(hd64:x.d.length≤1000000){kk:cD}
  (hk:∀h' F',DTw t d0 d1 b m (twA s0 s1 x++A) K (iK s0 s1 x).1.1 (iK s0 s1 x).1.2 (n+1) h' F'->iO h F h' F'->kk (.tuple #[(iK s0 s1 x).2.1.v,.int .u64 ((iK s0 s1 x).2.2.1:Int),.int .i64 (iK s0 s1 x).2.2.2]) h'):
  aT PG aCA #[pT t 0,x.v] h kk:=by
 apply rZ.call;unfold rZ;obtain⟨c,o,s,so,F1,S,hF,hc,ho,hs,e2,eA,hW⟩:=aV4 H x;have w:s.DOk:=by rcases hs with rfl|rfl<;>assumption
 have gC:=λA s n=>dCh.good b m A K c s n;have gR:=λn=>dRe.good t (aFM d0 d1) o b so n;have gS:=λA s n n'=>(gC A s n).star (gR n');intro r1 hr1
 try rw[cY]
 have u1:dB h (h.set r1 (.cells (Value.cells x.v) cI)):=cV.new hr1;have B1:Bx (h.set r1 (.cells (Value.cells x.v) cI)) r1 x.cells:=Bx.new;generalize h.set r1 (.cells (Value.cells x.v) cI)=h1 at *;intro r3 hr3
 try rw[cY]
 have u3:dB h1 (h1.set r3 (.cells (dN PG aR) aR)):=cV.new hr3;have Z3:=aR.zbox (h:=h1) (r:=r3);have C1:=B1.ext u3;generalize h1.set r3 (.cells (dN PG aR) aR)=h3 at *;have e3:=u1.trans u3;have k1:h r1=none:=hr1;have k3:h r3=none:=u1.none hr3;have kS:=(gS A s n n).known S;have n1:r1∉F1:=λhm=>kS _ hm k1;have n3:r3∉F1:=λhm=>kS _ hm k3;have li:∀{h'':PH},dB h3 h''->cG PG h'' (loadAt bT (pT r1 1))=some (.int .i64 x.id):=λv=>by rw[bT.load,(C1.ext v).cell];rfl
 have hsd:=aST x.id;have w1:IntKind.i64.wrap (1-((lH x.id:Nat):Int))=((1-lH x.id:Nat):Int):=by rw[eX (by omega) (by omega)];omega
 have S3:=(gS A s n n).ext S e3;obtain⟨Fc,Fr,eF,HC,⟨Ft,Fo,eFr,⟨-,Bt⟩,HO,-⟩,dcr⟩:=id S3;have lc:cG PG h3 (loadAt iH (pT t (lH x.id)))=some (pT c 0):=by rw[iH.load,Bt.cell];exact hc
 have lo:cG PG h3 (loadAt iH (pT t (1-lH x.id)))=some (pT o 0):=by rw[iH.load,Bt.cell];exact ho
 have ix1:=aYs (r:=t) (o:=0) (i:=lH x.id) hsd;have ix2:=aYs (r:=t) (o:=0) (i:=1-lH x.id) (by omega);rw[fC] at ix1 ix2;have lk:cG PG h3 (loadAt bT (pT r1 0))=some (.int .i64 x.kind):=by rw[bT.load,C1.cell];rfl
 have lh:∀{h'':PH},dB h3 h''->cG PG h'' (loadAt cA (pT r1 2))=some (.int .u64 (x.h:Int)):=λv=>by rw[cA.load,(C1.ext v).cell];rfl
 have ld:cG PG h3 (loadAt bR (pT r1 3))=some (.string (tx x.d)):=by rw[bR.load,C1.cell];rfl
 have lsp:cG PG h3 (loadAt fY (pT r1 8))=some (.bool x.sp):=by rw[fY.load,C1.cell];rfl
 have lx:cG PG h3 (loadAt cI (pT r1 0))=some x.v:=cI.agg C1 (by show 0+9≤9;decide)
 -- the second half
 have tail:∀{h5:PH},eH (dCh b m A K c s n) (dRe t (aFM d0 d1) o b so n) h5 F1->iO h3 F1 h5 F1->oS kk (pT r1 0) (pT r3 0) (pT c 0) (pT o 0) (.string (tx (lI so x))) h5:=by
  intro h5 S5 s5;refine aVX S5 w hn wx hd64 (C1.upd s5.upd n1) n1 rfl (Z3.upd s5.upd n3) n3 λh6 F6 W6 u6 g6=>?_;rw[e2];rw[eA] at W6;obtain⟨F7,W7,hF7⟩:=hW _ _ _ _ W6;refine hk h6 F7 W7 ⟨λbk ob hb hn=>u6 bk ob (s5.upd bk ob (e3.get hb) (λhm=>hn ((hF bk).1 hm))) (λhm=>?_),λbk hb=>?_⟩
  ·rcases gE.1 hm with rfl|hm
   ·rw[k3] at hb;cases hb
   ·exact hn ((hF bk).1 hm)
  ·rcases g6 bk ((hF7 bk).1 hb) with hx|hx
   ·exact .inl ((hF bk).1 hx)
   ·refine .inr ?_;by_cases hm:bk∈F1
    ·exact absurd hx ((gS A s n n).known S5 bk hm)
    ·cases hh:h bk with
     | none=>rfl
     | some ob=>
      have:=s5.upd bk ob (e3.get hh) hm;rw[hx] at this;cases this
 simp only[cI.f1,lO.f0,fC,li cV.refl,cE,reduceIte,cT,Nat.reduceAdd];refine aM0 x.id ?_;refine⟨li cV.refl,?_⟩;simp only[ix1,lc,cE,reduceIte,cT,Nat.reduceAdd];refine aM0 x.id ?_;refine⟨lc,?_⟩;simp only[w1,ix2,lo,cI.f0,cI.f2,cI.f3,cI.f5,fC,ld,lsp,cE,reduceIte,cT,Nat.reduceAdd];have plain:¬(x.sp=false∧2≤x.kind∧x.kind≤4)->oS kk (pT r1 0) (pT r3 0) (pT c 0) (pT o 0) (.string (tx x.d)) h3:=λhn=>by
  have:=tail (h5:=h3) S3 iO.refl;unfold lI at this;rw[if_neg hn] at this;exact this
 cases hsp:x.sp with
 | true=>
  simp only[cE,reduceIte,cT,Nat.reduceAdd];exact plain (by rw[hsp];simp)
 | false=>
  by_cases k2:2≤x.kind
  ·have g1:=eq_true k2;by_cases k4:x.kind≤4
   ·have g2:=eq_true k4;simp only[cI.f0,cI.f2,fC,lk,g1,g2,lx,lh cV.refl,cE,reduceIte,cT,Nat.reduceAdd];refine aPp wx λh4 u4=>?_;refine⟨lh u4,?_⟩;obtain⟨Fcd,HCd,HB,eFc,hdis⟩:=aFW HC;obtain⟨osp,ocp,obv,onv,PO⟩:=id HO;have hob:∀y∈Fo,y∉[b,m]:=λy hy hm=>by
     have h1:y∈Fr:=by rw[eFr];exact zLl _ hy
     simp only[gE,kD,or_false] at hm;rcases hm with rfl|rfl
     ·exact dcr _ (by rw[eFc];simp) h1
     ·exact dcr _ (by rw[eFc];simp) h1
    refine aUe (s:=so) (n:=n) (HB.ext u4) (nC.good.ext PO u4) hob (aJc x) wx.h λh5 B5 u5=>?_;simp only[cE,reduceIte,cT,Nat.reduceAdd];have hbm:∀y∈[b,m],y∈F1:=λy hy=>by
     rw[eF,eFc];simp only[gE,kD,or_false] at hy;rcases hy with rfl|rfl<;>simp
    have S5:eH (dCh b m A K c s n) (dRe t (aFM d0 d1) o b so n) h5 F1:=by
     have S4:=(gS A s n n).ext S3 u4;obtain⟨Gc,Gr,eG,HC4,HR4,dcr4⟩:=S4;obtain⟨HC5,-⟩:=aHh (DC.good c b s n) HC4 B5 u5;refine⟨Gc,Gr,eG,HC5,(gR n).upd HR4 u5 (λy hy hm=>?_),dcr4⟩;obtain⟨Fz,_,_,eGc,_⟩:=aFW HC4;simp only[gE,kD,or_false] at hm;rcases hm with rfl|rfl
     ·exact dcr4 _ (by rw[eGc];simp) hy
     ·exact dcr4 _ (by rw[eGc];simp) hy
    have:=tail S5 ⟨u4.upd.trans (u5.mono λy hy=>.inl (hbm y hy)),λy hy=>.inl hy⟩;unfold lI at this;rw[if_pos ⟨hsp,k2,k4⟩] at this;exact this
   ·have g2:=eq_false k4;simp only[cI.f0,lk,g1,g2,cE,reduceIte,cT,Nat.reduceAdd];exact plain (by simp[k4])
  ·have g1:=eq_false k2;simp only[cI.f0,lk,g1,cE,reduceIte,cT,Nat.reduceAdd];exact plain (by simp[k2])
theorem aXK(c o:Ch)(a:jI):(jD c o a).1.st.blocks.length≤c.st.blocks.length+1:=by
 rcases aDL c o a with⟨-,-,e,-⟩|⟨-,b,-,e,-⟩|⟨-,-,e,-⟩|⟨-,-,e,-⟩|⟨-,-,e,-⟩|⟨-,e⟩|⟨e,-⟩<;>rw[e]
 ·exact vU _
 ·exact vU _
 ·exact vU _
 ·exact vU _
 ·exact vU _
 ·rw[(uM c).1];by_cases he:(jW c.st).2.2=0
  ·rw[(aDI he).1];simp
  ·rw[aCK he];omega
 ·omega
theorem bAJ{a b:Ch}{i:Nat}(ha:a.st.blocks.length≤i)(hb:b.st.blocks.length≤i)(x:jI):(iK a b x).1.1.st.blocks.length≤i+1∧(iK a b x).1.2.st.blocks.length≤i+1:=by
 unfold iK;split
 ·refine⟨by show a.st.blocks.length≤i+1;omega,?_⟩;show(jD b a x).1.st.blocks.length≤i+1;have:=aXK b a x;omega
 ·refine⟨?_,by show b.st.blocks.length≤i+1;omega⟩;show(jD a b x).1.st.blocks.length≤i+1;have:=aXK a b x;omega
structure TwI(s0 s1:Ch)(A:List Tx):Prop where
 a:pZ s0 s1 A
 b:pZ s1 s0 A
theorem pZ.new{i j:Int}{a b s t:Nat}:pZ (Ch.new i a s) (Ch.new j b t) [] where
 ok:=aAb.nil _
 s1:=λp hp=>by simp[Ch.all,Ch.new] at hp
 s2:=⟨λq hq=>by simp[Ch.new] at hq,λb hb q hq=>by
  simp only[Ch.new,fW] at hb;subst hb;cases hq⟩
 s3:=λp hp=>by simp[Ch.all,Ch.new] at hp
 s4:=λp hp=>by simp[Ch.all,Ch.new] at hp
 s5:=λp hp=>by simp[Ch.all,Ch.new] at hp
 cl:=λy hy=>by simp[Ch.new] at hy
 mx:=λ_=>rfl
theorem TwI.new{a b s t:Nat}:TwI (Ch.new 0 a s) (Ch.new 1 b t) []:=⟨pZ.new,pZ.new⟩
theorem TwI.step{s0 s1:Ch}{x:jI}{A:List Tx}(H:TwI s0 s1 A)(U:aHr (twA s0 s1 x++A))(i0:s0.id=0)(i1:s1.id=1)(w:x.wf)(ok0:s0.st.Ok)(ok1:s1.st.Ok)(q0:s0.seq<18446744073709551616)(q1:s1.seq<18446744073709551616):TwI (iK s0 s1 x).1.1 (iK s0 s1 x).1.2 (twA s0 s1 x++A):=by
 unfold iK twA at *;by_cases c:x.id=1
 ·rw[if_pos c] at U;rw[if_pos c,if_pos c];obtain⟨h1,h2⟩:=aPr H.b H.a U (by rw[i0,i1];decide) w ok1 ok0 q1;exact⟨h2,h1⟩
 ·rw[if_neg c] at U;rw[if_neg c,if_neg c];obtain⟨h1,h2⟩:=aPr H.a H.b U (by rw[i0,i1];decide) w ok0 ok1 q0;exact⟨h1,h2⟩
theorem TwI.com{s0 s1:Ch}{A:List Tx}(H:TwI s0 s1 A)(ok0:s0.st.Ok):TwI s0.committed s1 A:=by
 refine⟨H.a.com,H.b.other (λp hp=>by rw[aO5];exact hp) (λx b hx=>?_)⟩;rw[(uM s0).1];exact aNk ok0 hx
theorem pZ.flat{c o:Ch}{A:List Tx}(H:pZ c o A)(hb:c.st.blocks.length<4096):c.committed.blk.flatten=c.all:=by
 unfold Ch.committed;by_cases he:(jW c.st).2.2=0
 ·rw[if_pos he];unfold Ch.all;simp
 ·rw[if_neg he];have hm:c.st.height=18446744073709551615:=by
   unfold jW at he;by_cases h1:c.st.height=18446744073709551615
   ·exact h1
   ·rw[if_neg h1,if_neg (by omega)] at he;exact absurd rfl he
  unfold Ch.all;rw[H.mx hm,zLP]
theorem aZd(b s c r:Nat)(id n:Int):dD PG (build cQ #[(0,pT b 0),(1,.int .i64 id),(2,pT s 0),(3,pT c 0),(4,.int .u64 n),(5,.slice (some ⟨r,0,none⟩) 1 1)])=some (.agg #[pT b 0,.int .i64 id,pT s 0,pT c 0,.int .u64 n,.slice (some ⟨r,0,none⟩) 1 1,.slice none 0 0]):=by kernel_rfl
theorem aOI{h:PH}{b:Nat}(id:Int){n:Nat}(hn:n<18446744073709551616)(seq:Nat){k:cD}(hk:∀h' r F,DC r b (Ch.new id n seq) 1 h' F->dZ h F->dB h h'->k (pT r 0) h'):aT PG aBA #[pT b 0,.int .i64 id,.int .u64 (n:Int),.int .u64 (seq:Int)] h k:=by
 apply aDb.call;unfold aDb;refine aXZ n hn λs h1 G S1 f1 u1=>?_;simp only[gA.build0,cE,reduceIte,cT,Nat.reduceAdd];intro r4 hr4
 try rw[cY]
 have u2:dB h1 (h1.set r4 (.cells (Value.cells (.agg #[.slice none 0 0])) gA)):=cV.new hr4;have C2:yM (h1.set r4 (.cells (Value.cells (.agg #[.slice none 0 0])) gA)) r4 [] [r4]:=⟨.slice none 0 0,[],dK,eD.nil,rfl,by simp⟩;generalize h1.set r4 (.cells (Value.cells (.agg #[.slice none 0 0])) gA)=h2 at *;simp only[aXX,cE,reduceIte,cT,Nat.reduceAdd];intro r6 hr6;refine fH ?_
 try rw[cY]
 have u3:dB h2 (h2.set r6 (.cells #[.slice none 0 0] dQ)):=cV.new hr6;have O3:eD (h2.set r6 (.cells #[.slice none 0 0] dQ)) dQ 1 (.slice (some ⟨r6,0,none⟩) 1 1) [[.slice none 0 0]] [r6]:=eD.lit (n:=1) (aRn (.slice none 0 0)) dK (by simp) (by decide) (by simp);have C3:=C2.ext u3;generalize h2.set r6 (.cells #[.slice none 0 0] dQ)=h3 at *;simp only[aZd,cE,reduceIte,cT,Nat.reduceAdd];intro r11 hr11
 try rw[cY]
 have u4:dB h3 (h3.set r11 (.cells (Value.cells (.agg #[pT b 0,.int .i64 id,pT s 0,pT r4 0,.int .u64 (seq:Int),.slice (some ⟨r6,0,none⟩) 1 1,.slice none 0 0])) cQ)):=cV.new hr11;have X4:Bx (h3.set r11 (.cells (Value.cells (.agg #[pT b 0,.int .i64 id,pT s 0,pT r4 0,.int .u64 (seq:Int),.slice (some ⟨r6,0,none⟩) 1 1,.slice none 0 0])) cQ)) r11 ((Ch.new id n seq).dcells b s r4 (.slice (some ⟨r6,0,none⟩) 1 1) (.slice none 0 0)):=Bx.new;generalize h3.set r11 (.cells (Value.cells (.agg #[pT b 0,.int .i64 id,pT s 0,pT r4 0,.int .u64 (seq:Int),.slice (some ⟨r6,0,none⟩) 1 1,.slice none 0 0])) cQ)=h4 at *;have e13:=u2.trans u3;have e14:=e13.trans u4;have kS:∀y∈s::G,h1 y≠none:=λy hy=>(rsA.good _ _).known (show rsA s ⟨[],[[]],n⟩ h1 (s::G) from⟨G,S1,rfl⟩) y hy;have D:DC r11 b (Ch.new id n seq) 1 h4 ([r11]++((s::G)++([r4]++([r6]++[])))):=by
  refine⟨s,r4,.slice (some ⟨r6,0,none⟩) 1 1,.slice none 0 0,eH.mk ⟨rfl,X4⟩ (eH.mk ((rsA.good _ _).ext (show rsA s ⟨[],[[]],n⟩ h1 (s::G) from⟨G,S1,rfl⟩) e14) (eH.mk (C3.ext u4) (eH.mk ⟨_,O3.ext u4,by simp,λr hr u hu=>?_⟩ ⟨[],eD.nil,by simp⟩ ?_) ?_) ?_) ?_⟩
  ·simp only[fW] at hr;subst hr;simp only[fW] at hu;subst hu;rfl
  ·simp
  ·intro y hy hm;simp only[fW,zLP] at hy hm;subst hy;subst hm;have:=C2.known y (by simp);exact this hr6
  ·intro y hy hm;have hk1:=kS y hy;simp only[zLP,zLV,xH,gE,kD,or_false] at hm;rcases hm with rfl|rfl
   ·exact hk1 hr4
   ·exact hk1 (u2.none hr6)
  ·intro y hy hm;simp only[fW] at hy;subst hy;simp only[zLP,zLV,xH,gE,jB,kD,or_false] at hm;rcases hm with rfl|hm|rfl|rfl
   ·exact kS _ (by simp) (e13.none hr11)
   ·exact kS _ (by simp[hm]) (e13.none hr11)
   ·exact C3.known _ (by simp) hr11
   ·exact O3.known _ (by simp) hr11
 refine hk _ r11 _ D (λy hy=>?_) (dB.trans u1 e14);simp only[zLP,zLV,xH,gE,jB,kD,or_false] at hy;rcases hy with rfl|rfl|hy|rfl|rfl
 ·exact(dB.trans u1 e13).none hr11
 ·exact f1 _ (by simp)
 ·exact f1 _ (by simp[hy])
 ·exact u1.none hr4
 ·exact(dB.trans u1 u2).none hr6
theorem bAQ(a b:Nat):dD PG (build kY #[(0,pT a 0),(1,pT b 0)])=some (.agg #[pT a 0,pT b 0]):=by kernel_rfl
theorem aZ7(a b:Nat):dD PG (build lO #[(0,.agg #[pT a 0,pT b 0])])=some (.agg #[pT a 0,pT b 0]):=by kernel_rfl
theorem aV2{h:PH}{bk mk:Nat}{Kk:List Nat}(HBk:Bk bk mk [] Kk h){a b s0 s1:Nat}(ha:a<18446744073709551616)(hb:b<18446744073709551616){k:cD}(hk:∀h' r d0 d1 F,DTw r d0 d1 bk mk [] Kk (Ch.new 0 a s0) (Ch.new 1 b s1) 1 h' F->(∀y∈F,y∈bk::mk::Kk∨h y=none)->dB h h'->k (pT r 0) h'):aT PG aDM #[pT bk 0,vP a b,vP s0 s1] h k:=by
 apply vO.call;unfold vO;intro r1 hr1
 try rw[cY]
 have u1:dB h (h.set r1 (.cells (Value.cells (vP a b)) eK)):=cV.new hr1;have B1:Bx (h.set r1 (.cells (Value.cells (vP a b)) eK)) r1 (u2c a b):=Bx.new;generalize h.set r1 (.cells (Value.cells (vP a b)) eK)=h1 at *;intro r3 hr3
 try rw[cY]
 have u3:dB h1 (h1.set r3 (.cells (Value.cells (vP s0 s1)) eK)):=cV.new hr3;have B3:Bx (h1.set r3 (.cells (Value.cells (vP s0 s1)) eK)) r3 (u2c s0 s1):=Bx.new;have C1:=B1.ext u3;generalize h1.set r3 (.cells (Value.cells (vP s0 s1)) eK)=h3 at *;have i0:∀{r:Nat},dD PG (indexAt eK (pT r 0) (.int .i64 0))=some (pT r 0):=aPM (i:=0) (by decide);have i1:∀{r:Nat},dD PG (indexAt eK (pT r 0) (.int .i64 1))=some (pT r 1):=fun {r}=>by have:=aPM (r:=r) (o:=0) (i:=1) (by decide);rw[fC] at this;exact this
 have l10:∀{h'':PH},dB h3 h''->cG PG h'' (loadAt cA (pT r1 0))=some (.int .u64 (a:Int)):=λv=>by rw[cA.load,(C1.ext v).cell];rfl
 have l11:∀{h'':PH},dB h3 h''->cG PG h'' (loadAt cA (pT r1 1))=some (.int .u64 (b:Int)):=λv=>by rw[cA.load,(C1.ext v).cell];rfl
 have l30:∀{h'':PH},dB h3 h''->cG PG h'' (loadAt cA (pT r3 0))=some (.int .u64 (s0:Int)):=λv=>by rw[cA.load,(B3.ext v).cell];rfl
 have l31:∀{h'':PH},dB h3 h''->cG PG h'' (loadAt cA (pT r3 1))=some (.int .u64 (s1:Int)):=λv=>by rw[cA.load,(B3.ext v).cell];rfl
 simp only[i0,i1,l10 cV.refl,l11 cV.refl,l30 cV.refl,l31 cV.refl,cE,reduceIte,cT,Nat.reduceAdd];refine aOI 0 ha s0 λh4 p F4 D4 f4 u4=>?_;refine⟨l31 u4,l11 u4,?_⟩;refine aOI 1 hb s1 λh5 q F5 D5 f5 u5=>?_;simp only[bAQ,aZ7,cE,reduceIte,cT,Nat.reduceAdd];intro r19 hr19
 try rw[cY]
 have u6:dB h5 (h5.set r19 (.cells (Value.cells (.agg #[pT p 0,pT q 0])) lO)):=cV.new hr19;have X6:Bx (h5.set r19 (.cells (Value.cells (.agg #[pT p 0,pT q 0])) lO)) r19 (aFM p q):=Bx.new;generalize h5.set r19 (.cells (Value.cells (.agg #[pT p 0,pT q 0])) lO)=h6 at *;have e3:dB h h3:=u1.trans u3;have e6:=((e3.trans u4).trans u5).trans u6;have D46:=(DC.good _ _ _ _).ext D4 (u5.trans u6);have D56:=(DC.good _ _ _ _).ext D5 u6;refine hk h6 r19 p q _ (eH.mk (eH.mk ⟨rfl,HBk.ext e6⟩ D46 ?_) (eH.mk ⟨rfl,X6⟩ D56 ?_) ?_) (λy hy=>?_) e6
 ·intro y hy hm;exact HBk.known y hy (e3.none (f4 y hm))
 ·intro y hy hm;simp only[fW] at hy;subst hy;exact(DC.good _ _ _ _).known D5 _ hm hr19
 ·intro y hy hm;rcases jB.1 hm with hm|hm
  ·simp only[fW] at hm;subst hm;rcases jB.1 hy with hy|hy
   ·exact(HBk.ext (((e3.trans u4).trans u5))).known _ hy hr19
   ·exact(DC.good _ _ _ _).known ((DC.good _ _ _ _).ext D4 u5) _ hy hr19
  ·rcases jB.1 hy with hy|hy
   ·exact(HBk.ext (e3.trans u4)).known _ hy (f5 _ hm)
   ·exact(DC.good _ _ _ _).known D4 _ hy (f5 _ hm)
 ·simp only[jB,fW] at hy;rcases hy with(hy|hy)|(rfl|hy)
  ·exact .inl hy
  ·exact .inr (e3.none (f4 y hy))
  ·exact .inr (((e3.trans u4).trans u5).none hr19)
  ·exact .inr ((e3.trans u4).none (f5 y hy))
def aXC(t:Nat)(A:List Tx)(s0 s1:Ch)(n:Nat):lU:=λh F=>∃c0 c1 m d0 d1 b mm K,eH (aRd t c0 c1 m s0 s1) (DTw m d0 d1 b mm A K s0 s1 n) h F
theorem aXC.good(t:Nat)(A:List Tx)(s0 s1:Ch)(n:Nat):lW (aXC t A s0 s1 n) where
 known:=λ⟨_,_,_,_,_,_,_,_,H⟩=>((aRd.good _ _ _ _ _ _).star (DTw.good _ _ _ _ _ _ _ _ _ _)).known H
 upd:=λ⟨c0,c1,m,d0,d1,b,mm,K,H⟩ u hK=>⟨c0,c1,m,d0,d1,b,mm,K,((aRd.good _ _ _ _ _ _).star (DTw.good _ _ _ _ _ _ _ _ _ _)).upd H u hK⟩
def pkE(m:Pk):Value:=.agg m.cells.toArray
def aWM(p:Pk):Pk×Value:=(p,.bool true)
def aVl(l:List Pk)(p:Pk):List Pk:=if p∈l then l else l++[p]
def aR0(b x y:Nat)(lx ly:List Pk):lU:=λh F=>F=[b,x,y]∧Bx h b [.map (some x),.map (some y)]∧jX pkE h x (lx.map aWM)∧jX pkE h y (ly.map aWM)∧b≠x∧b≠y∧x≠y
theorem aR0.good(b x y:Nat)(lx ly:List Pk):lW (aR0 b x y lx ly) where
 known:=by
  rintro h F ⟨rfl,B,M1,M2,-⟩ z hz;simp only[gE,kD,or_false] at hz;rcases hz with rfl|rfl|rfl
  ·exact B.known
  ·exact M1.known
  ·exact M2.known
 upd:=by
  rintro h F h' K ⟨rfl,B,M1,M2,hne⟩ u hK;exact⟨rfl,B.upd u (hK b (by simp)),M1.upd u (hK x (by simp)),M2.upd u (hK y (by simp)),hne⟩
def bAa(f:Int)(lx ly:List Pk):List Pk:=if f=1 then ly else lx
def atP(f:Int)(x y:Nat):Nat:=if f=1 then y else x
theorem aR0.put{b x y:Nat}{lx ly:List Pk}{h h':PH}{F:List Nat}(H:aR0 b x y lx ly h F){f:Int}{p:Pk}(h0:0≤f)(h1:f≤1)(M:jX pkE h' (atP f x y) ((aVl (bAa f lx ly) p).map aWM))(u:cV [atP f x y] h h'):aR0 b x y (if f=1 then lx else aVl lx p) (if f=1 then aVl ly p else ly) h' F∧iO h F h' F:=by
 obtain⟨rfl,B,M1,M2,n1,n2,n3⟩:=H;have:f=0∨f=1:=by omega
 rcases this with rfl|rfl
 ·refine⟨⟨rfl,B.upd u (by simpa[atP] using n1),M,M2.upd u (by simpa[atP] using n3.symm),n1,n2,n3⟩,⟨u.mono λz hz=>.inl ?_,λz hz=>.inl hz⟩⟩;simp only[atP,fW] at hz;simp[hz]
 ·refine⟨⟨rfl,B.upd u (by simpa[atP] using n2),M1.upd u (by simpa[atP] using n3),M,n1,n2,n3⟩,⟨u.mono λz hz=>.inl ?_,λz hz=>.inl hz⟩⟩;simp only[atP,fW] at hz;simp[hz]
def aW8(a:jI)(e:Int)(K:Pk->Prop):Pk->Prop:=λp=>K p∨(e=0∧a.kind=3∧p=a.p)
structure SI(s0 s1:Ch)(A:List Tx)(G K T:Pk->Prop):Prop where
 d1:vV s0 s1 A G T
 d2:vV s1 s0 A G T
 ak:∀p,K p->G p
 no:∀p,T p->¬G p
theorem aUQ(c o:Ch)(a:jI):(jD c o a).1.id=c.id:=by
 rcases aDL c o a with⟨-,-,e,-⟩|⟨-,b,-,e,-⟩|⟨-,-,e,-⟩|⟨-,-,e,-⟩|⟨-,-,e,-⟩|⟨-,e⟩|⟨e,-⟩<;>rw[e]
 ·rfl
 ·rfl
 ·rfl
 ·rfl
 ·rfl
 ·exact(uM c).2.2
theorem aZP(s0 s1:Ch)(x:jI):(iK s0 s1 x).1.1.id=s0.id∧(iK s0 s1 x).1.2.id=s1.id:=by
 unfold iK;split
 ·exact⟨rfl,aUQ _ _ _⟩
 ·exact⟨aUQ _ _ _,rfl⟩
theorem aY6{s0 s1:Ch}(h0:KOk s0)(h1:KOk s1){x:jI}(w:x.wf):KOk (iK s0 s1 x).1.1∧KOk (iK s0 s1 x).1.2:=by
 unfold iK;split
 ·exact⟨h0,h1.doP _ w⟩
 ·exact⟨h0.doP _ w,h1⟩
def aTN(s0 s1:Ch)(x:jI):Ch:=if x.id=1 then s1 else s0
theorem SI.mk2{c o:Ch}{x:jI}{A:List Tx}{G K T:Pk->Prop}(ak:∀p,K p->G p)(no:∀p,T p->¬G p)(S:aRE c o x A G T):(∀p,aW8 x (jD c o x).2.2.2 K p->zO x (jD c o x).2.2.2 G p)∧∀p,aAz x (jD c o x).2.2.2 T p->¬zO x (jD c o x).2.2.2 G p:=by
 refine⟨λp hp=>?_,λp hp hg=>?_⟩
 ·rcases hp with hp|⟨e,k,rfl⟩
  ·exact .inl (ak p hp)
  ·exact .inl (S.ack e k).2
 ·rcases hp with hp|⟨e,k,rfl⟩
  ·rcases hg with hg|⟨e,k,rfl⟩
   ·exact no p hp hg
   ·exact(S.recv e k).2.2 hp
  ·rcases hg with hg|⟨-,k',-⟩
   ·exact(S.tim e k).2 hg
   ·omega
theorem SI.step{s0 s1:Ch}{x:jI}{A:List Tx}{G K T:Pk->Prop}(H:SI s0 s1 A G K T)(U:aHr (twA s0 s1 x++A))(i0:s0.id=0)(i1:s1.id=1)(w:x.wf)(ok0:s0.st.Ok)(ok1:s1.st.Ok)(q0:s0.seq<18446744073709551616)(q1:s1.seq<18446744073709551616):
  SI (iK s0 s1 x).1.1 (iK s0 s1 x).1.2 (twA s0 s1 x++A) (zO x (iK s0 s1 x).2.2.2 G) (aW8 x (iK s0 s1 x).2.2.2 K) (aAz x (iK s0 s1 x).2.2.2 T)∧
  ((iK s0 s1 x).2.2.2=0->x.kind=2->IntKind.u64.wrap (((aTN (iK s0 s1 x).1.1 (iK s0 s1 x).1.2 x).st.height:Int)+1)<x.p.t∧¬T x.p)∧((iK s0 s1 x).2.2.2=0->x.kind=3->G x.p)∧((iK s0 s1 x).2.2.2=0->x.kind=4->¬G x.p):=by
 unfold iK twA at *;by_cases c:x.id=1
 ·rw[if_pos c] at U;rw[if_pos c,if_pos c];have S:=aPa H.d2 H.d1 U (by rw[i0,i1];decide) (by rw[i0,i1];decide) w ok1 ok0 q1;obtain⟨m1,m2⟩:=SI.mk2 H.ak H.no S;refine⟨⟨S.two,S.one,m1,m2⟩,λe k=>?_,λe k=>(S.ack e k).2,λe k=>(S.tim e k).2⟩;unfold aTN;rw[if_pos c];exact⟨(S.recv e k).2.1,(S.recv e k).2.2⟩
 ·rw[if_neg c] at U;rw[if_neg c,if_neg c];have S:=aPa H.d1 H.d2 U (by rw[i0,i1];decide) (by rw[i0,i1];decide) w ok0 ok1 q0;obtain⟨m1,m2⟩:=SI.mk2 H.ak H.no S;refine⟨⟨S.one,S.two,m1,m2⟩,λe k=>?_,λe k=>(S.ack e k).2,λe k=>(S.tim e k).2⟩;unfold aTN;rw[if_neg c];exact⟨(S.recv e k).2.1,(S.recv e k).2.2⟩
theorem vV.new{i j:Int}{a b s t:Nat}:vV (Ch.new i a s) (Ch.new j b t) [] (λ_=>False) (λ_=>False):=
 ⟨(λy hy=>by cases hy),λp hp _=>False.elim hp,⟨(λq hq=>by cases hq),λbl hb q hq=>by
  simp only[Ch.new,fW] at hb;subst hb;cases hq⟩,λp hp _=>False.elim hp⟩
theorem SI.new{a b s t:Nat}:SI (Ch.new 0 a s) (Ch.new 1 b t) [] (λ_=>False) (λ_=>False) (λ_=>False):=⟨vV.new,vV.new,λ_ h=>h,λ_ h _=>h⟩
theorem aSv{c:Nat}{s:Ch}{h:PH}{F:List Nat}(H:iD c s h F)(k:KOk s):s.DOk∧s.st.Ok:=by
 obtain⟨sp,m,cp,nv,bv,lk,P,perm,ok⟩:=H;obtain⟨Fc,⟨hs,C⟩,-,-⟩:=P.fCli;exact⟨⟨ok.id,ok.seq,⟨hs,C.rank⟩,k.1,k.2⟩,P.okst⟩
theorem fQ.tac4{h:PH}{v:Value}{l:List jI}(S:fQ h 9 v (l.map jI.cells)){j:Nat}{x:jI}(hx:l[j]? =some x):
  ∃b o,dD PG (indexAt iM v (.int .i64 (j:Int)))=some (pT b o)∧∀h',dB h h'->dE h' ⟨b,o,none⟩=some (.int .i64 x.kind)∧cG PG h' (loadAt cI (pT b o))=some x.v∧cG PG h' (loadAt aR (pT b (o+4)))=some x.p.v:=by
 obtain⟨b,o,cs,e',fr,h1,hb,hle,hex⟩:=S.at iM.und cI.info cI.size (k:=.i64) (j:=(j:Int)) (r:=x.cells) (by omega) (by rw[wL,pK,hx];rfl);have hd:∀i n,i+n≤9->(cs.extract (o+i) (o+i+n)).toList=(x.cells.drop i).take n:=λi n hi=>by
  rw[←hex];simp only[zLC,zLw,aN2,zLx,aJW,List.take_take];congr 1;omega
 refine⟨b,o,h1,λh' u=>?_⟩;have hb':=u.get hb;refine⟨?_,?_,?_⟩
 ·unfold dE;simp only[hb'];have:=congrArg (λl:List Value=>l[0]?) (hd 0 1 (by decide));simp only[zLC,zLw,Nat.add_zero,aN2,aIk,aMW] at this;simpa[jI.cells] using this
 ·rw[cI.loadAgg hb' hle];congr 2;exact zLv (hd 0 9 (by decide))
 ·rw[aR.loadAgg hb' (by omega)];congr 2;exact zLv (hd 4 4 (by decide))
def fU.pk(m:fU):Pk:=⟨m.pfrom,m.pseq,m.ptimeout,m.pdata⟩
def mkM(k to h:Int)(p:Pk)(pf:ByteArray):fU:=⟨k,to,h,p.f,p.s,p.t,p.d,pf⟩
def nE(to h:Int):fU:=⟨1,to,h,0,0,0,⟨#[]⟩,⟨#[]⟩⟩
def fU.put(m:fU)(pf:ByteArray):fU:={m with proof:=pf}
def aFA(c:Ch)(key:Tx)(x:Nat)(m:fU):Option fU:=
 if (uZ c.st key x).2=0∧(uZ c.st key x).1.head? =some 1 then some (m.put (tx (uZ c.st key x).1)) else none
def zX(c0 c1:Ch)(f:Int):Ch:=if f=1 then c1 else c0
noncomputable def qD(c0 c1:Ch)(p:Pk):Option fU:=
 if p.right=true∧nO (zX c0 c1 p.f) p=true then
  (if (gF (zX c0 c1 (1-p.f)).st.now (fR 114 p.s.toNat)).isSome then aFA (zX c0 c1 (1-p.f)) (fR 97 p.s.toNat) (zX c0 c1 (1-p.f)).st.height (mkM 3 p.f (zX c0 c1 (1-p.f)).st.height p ⟨#[]⟩)
  else if IntKind.u64.wrap (p.t-1)≤((zX c0 c1 (1-p.f)).st.height:Int)∨(zX c0 c1 (1-p.f)).st.height=18446744073709551615 then some (mkM 4 p.f (zX c0 c1 (1-p.f)).st.height p (tx (uZ (zX c0 c1 (1-p.f)).st (fR 114 p.s.toNat) (zX c0 c1 (1-p.f)).st.height).1))
  else aFA (zX c0 c1 p.f) (fR 99 p.s.toNat) (zX c0 c1 p.f).st.height (mkM 2 (1-p.f) (zX c0 c1 p.f).st.height p ⟨#[]⟩))
 else none
def aAR(known:List Int)(l:List fU)(m:fU):List fU:=if nE m.dest m.height∈l∨m.height∈known then [m] else [nE m.dest m.height,m]
def vS(known:List Int)(batch:Int)(x:List fU×Bool)(m:fU):List fU×Bool:=
 if x.2=true∨batch<((x.1.length+(aAR known x.1 m).length:Nat):Int) then(x.1,true) else(x.1++aAR known x.1 m,false)
def aHT(known:List Int)(batch:Int)(x:List fU×Bool)(ms:List fU):List fU×Bool:=ms.foldl (vS known batch) x
theorem aWw(known:List Int)(l:List fU)(m:fU):1≤(aAR known l m).length∧(aAR known l m).length≤2:=by unfold aAR;split<;>simp
theorem aSh(known:List Int)(batch:Int)(x:List fU×Bool)(m:fU):x.1 <+:(vS known batch x m).1:=by
 unfold vS;split
 ·exact List.prefix_refl _
 ·exact List.prefix_append _ _
def aR2(x y:List fU×Bool):Prop:=x.1 <+:y.1∧(x.2=false->x=y)
theorem aR2.put{known:List Int}{b c:Int}(hb:b≤c){x y:List fU×Bool}(H:aR2 x y)(m:fU):aR2 (vS known b x m) (vS known c y m):=by
 obtain⟨h1,h2⟩:=H;cases hx:x.2 with
 | true=>
  have e:vS known b x m=(x.1,true):=by unfold vS;rw[if_pos (.inl hx)]
  rw[e];exact⟨h1.trans (aSh known c y m),λh=>by cases h⟩
 | false=>
  have e:=h2 hx;subst e;by_cases g:b<((x.1.length+(aAR known x.1 m).length:Nat):Int)
  ·have e:vS known b x m=(x.1,true):=by unfold vS;rw[if_pos (.inr g)]
   rw[e];exact⟨(aSh known c x m:x.1 <+:(vS known c x m).1),λh=>by cases h⟩
  ·have hn:¬(x.2=true∨b<((x.1.length+(aAR known x.1 m).length:Nat):Int)):=by rw[hx];simpa using g
   have hn2:¬(x.2=true∨c<((x.1.length+(aAR known x.1 m).length:Nat):Int)):=by rw[hx];simp;omega
   have e1:vS known b x m=(x.1++aAR known x.1 m,false):=by unfold vS;rw[if_neg hn]
   have e2:vS known c x m=(x.1++aAR known x.1 m,false):=by unfold vS;rw[if_neg hn2]
   rw[e1,e2];exact⟨List.prefix_refl _,λ_=>rfl⟩
theorem aPY{c:Ch}{key:Tx}{x:Nat}{m m':fU}(h:aFA c key x m=some m'):m'=m.put m'.proof∧m'.kind=m.kind∧m'.dest=m.dest∧m'.height=m.height∧m'.pk=m.pk:=by
 unfold aFA at h;split at h
 ·cases h;exact⟨rfl,rfl,rfl,rfl,rfl⟩
 ·cases h
theorem aKL{c0 c1:Ch}{p:Pk}{m:fU}(h:qD c0 c1 p=some m):p.right=true∧nO (zX c0 c1 p.f) p=true∧m.pk=p∧
  ((m.kind=3∧m.dest=p.f∧m.height=(zX c0 c1 (1-p.f)).st.height∧(gF (zX c0 c1 (1-p.f)).st.now (fR 114 p.s.toNat)).isSome=true)∨
   (m.kind=4∧m.dest=p.f∧m.height=(zX c0 c1 (1-p.f)).st.height∧(gF (zX c0 c1 (1-p.f)).st.now (fR 114 p.s.toNat)).isSome=false)∨
   (m.kind=2∧m.dest=1-p.f∧m.height=(zX c0 c1 p.f).st.height∧(gF (zX c0 c1 (1-p.f)).st.now (fR 114 p.s.toNat)).isSome=false)):=by
 unfold qD at h;split at h
 ·rename_i hc;refine⟨hc.1,hc.2,?_⟩;split at h
  ·rename_i hg;obtain⟨-,h1,h2,h3,h4⟩:=aPY h;exact⟨h4,.inl ⟨h1,h2,h3,hg⟩⟩
  ·rename_i hg;have hg:(gF (zX c0 c1 (1-p.f)).st.now (fR 114 p.s.toNat)).isSome=false:=by simpa using hg
   split at h
   ·cases h;exact⟨rfl,.inr (.inl ⟨rfl,rfl,rfl,hg⟩)⟩
   ·obtain⟨-,h1,h2,h3,h4⟩:=aPY h;exact⟨h4,.inr (.inr ⟨h1,h2,h3,hg⟩)⟩
 ·cases h
def lP(m:fU):jI:=⟨m.kind,m.dest,m.height.toNat,m.proof.data.toList,m.pk,true⟩
noncomputable def aMj(a b:Ch)(m:fU):Ch×Ch:=(iK a b (lP m)).1
noncomputable def aIj(a b:Ch)(m:fU):Int:=(iK a b (lP m)).2.2.2
structure aCM(c c':Ch):Prop where
 id:c'.id=c.id
 bl:c'.st.blocks=c.st.blocks
 ht:c'.st.height=c.st.height
 cl:c.cl <+:c'.cl
 r:∀n,(∃q∈c.st.now,q.k=fR 114 n)->∃q∈c'.st.now,q.k=fR 114 n
 s:∀q∈c'.st.now,∀n,q.k=fR 99 n->q∈c.st.now
theorem aCM.refl(c:Ch):aCM c c:=⟨rfl,rfl,rfl,List.prefix_refl _,λ_ h=>h,λ_ h _ _=>h⟩
theorem aCM.trans{a b c:Ch}(x:aCM a b)(y:aCM b c):aCM a c:=⟨y.id.trans x.id,y.bl.trans x.bl,y.ht.trans x.ht,x.cl.trans y.cl,λn h=>y.r n (x.r n h),λq hq n hk=>x.s q (y.s q hq n hk) n hk⟩
theorem aCM.at{c c':Ch}(H:aCM c c')(x:Nat):mR c'.st x=mR c.st x:=by unfold mR;rw[H.bl,H.ht]
theorem aV0(l:List gO)(x:gO):l <+:(sF l x).2:=by
 unfold sF;split
 ·exact List.prefix_refl _
 ·split
  ·exact List.prefix_refl _
  ·split
   ·exact List.prefix_refl _
   ·exact List.prefix_append _ _
theorem aPB{c o:Ch}{a:jI}(h0:a.kind≠0)(h5:a.kind≠5):aCM c (jD c o a).1:=by
 rcases aDL c o a with⟨k0,-⟩|⟨-,b,-,e,-⟩|⟨-,-,e,-⟩|⟨-,-,e,-⟩|⟨-,-,e,-⟩|⟨k5,-⟩|⟨e,-⟩
 ·exact absurd k0 h0
 ·rw[e];exact⟨rfl,rfl,rfl,aV0 _ _,λ_ h=>h,λ_ h _ _=>h⟩
 ·rw[e];obtain⟨e1,e2,e3⟩:=aFx c a.p;refine⟨e3,by rw[e1];rfl,by rw[e1];rfl,by rw[e2];exact List.prefix_refl _,λn h=>by rw[e1];exact aHo (aHo h),λq hq n hk=>?_⟩;rw[e1] at hq;rcases aKc hq with rfl|hq
  ·exact absurd hk (aE9 (by decide))
  ·rcases aKc hq with rfl|hq
   ·exact absurd hk (aE9 (by decide))
   ·exact hq
 all_goals try
  rw[e];obtain⟨e1,e2,e3⟩:=aBu c _ a.p;refine⟨e3,by rw[e1];rfl,by rw[e1];rfl,by rw[e2];exact List.prefix_refl _,λn h=>?_,λq hq n hk=>?_⟩
  ·obtain⟨q,hq,ek⟩:=h;rw[e1];exact⟨q,zL1.2 ⟨hq,by simp only[ne_eq,decide_eq_true_eq];rw[ek];exact aE9 (by decide)⟩,ek⟩
  ·rw[e1] at hq;exact(zL1.1 hq).1
 ·exact absurd k5 h5
 ·rw[e];exact aCM.refl c
theorem aMw{l l':List gO}(h:l <+:l'){x:Int}(hx:x∈qF l):x∈qF l':=by
 obtain⟨t,rfl⟩:=h;unfold qF at *;rw[qI];exact zLk _ hx
theorem aMk{l l':List gO}(h:l <+:l'){x:Int}(hx:(jK l x).isSome=true):jK l' x=jK l x:=by
 obtain⟨t,rfl⟩:=h;unfold jK at *;rw[List.find?_append];cases e:l.find? λp=>decide (x=p.height) with
 | none=>rw[e] at hx;cases hx
 | some y=>rfl
theorem aTT{l l':List gO}{x:gO}(h:(sF l x).2 <+:l'):(sF l' x).1≠0:=by
 unfold sF at h ⊢;by_cases h1:x.root.size≠32
 ·rw[if_pos h1];exact(by decide:(1:Int)≠0)
 ·rw[if_neg h1] at h ⊢;by_cases h2:x.height∈qF l'
  ·rw[if_pos h2];exact(by decide:(4:Int)≠0)
  ·rw[if_neg h2];by_cases h3:x.height∈qF l
   ·rw[if_pos h3] at h;exact absurd (aMw h h3) h2
   ·rw[if_neg h3] at h;by_cases h4:4096≤l.length
    ·rw[if_pos h4] at h;have:=h.length_le;rw[if_pos (by simp only at this;omega)];exact(by decide:(2:Int)≠0)
    ·rw[if_neg h4] at h;exact absurd (aMw h (by unfold qF;simp)) h2
theorem aKv{L:List Pr}{k:Tx}:(gF L k).isSome=true↔∃q∈L,q.k=k:=by
 constructor
 ·intro h;obtain⟨q,e⟩:=Option.isSome_iff_exists.1 h;have h1:=List.mem_of_find?_eq_some e;have h2:=List.find?_some e;exact⟨q,h1,by simpa using(by simpa using h2:k=q.k).symm⟩
 ·rintro⟨q,hq,e⟩;cases h:gF L k with
  | some _=>rfl
  | none=>exact absurd e (aDv.1 h q hq)
theorem aRq{c:Ch}(ok:qX c.st.now){p:Pk}:nO c p=true↔∃q∈c.st.now,q.k=fR 99 p.s.toNat∧q.v=mL p:=by
 unfold nO;constructor
 ·intro h;cases e:gF c.st.now (fR 99 p.s.toNat) with
  | none=>rw[e] at h;cases h
  | some q=>
   rw[e] at h;have:=(vB ok).1 e;exact⟨q,this.1,this.2,of_decide_eq_true h⟩
 ·rintro⟨q,h1,h2,h3⟩;rw[(vB ok).2 ⟨h1,h2⟩];exact decide_eq_true h3
theorem aRr{c:Ch}{p:Pk}(h:nO c p=true):∃q∈c.st.now,q.k=fR 99 p.s.toNat∧q.v=mL p:=by
 unfold nO at h;cases e:gF c.st.now (fR 99 p.s.toNat) with
 | none=>rw[e] at h;cases h
 | some q=>
  rw[e] at h;have h1:=List.mem_of_find?_eq_some e;have h2:=List.find?_some e;exact⟨q,h1,(by simpa using h2:fR 99 p.s.toNat=q.k).symm,of_decide_eq_true h⟩
theorem aPD{s:Ch}{l:List (Int×Bool)}(hh:s.st.height≠18446744073709551615)(h:∀x∈l,x.2=true):pF s l=0:=by
 unfold pF;rw[if_neg hh];induction l with
 | nil=>rfl
 | cons a l ih=>
  rw[yH,if_pos (h a (by simp))];exact ih λx hx=>h x (by simp[hx])
theorem aSS{c o c' o':Ch}{a:jI}(h1:1≤a.kind)(h4:a.kind≤4)(hsp:a.sp=true)(ok:qX c.st.now)(room:c.st.now.length+2≤4096)(hk:a.kind≠1->(jK c.cl (a.h:Int)).isSome=true)(M:aCM (jD c o a).1 c')(N:aCM o o'):(jD c' o' a).2.2.2≠0:=by
 have M0:aCM c c':=(aPB (by omega) (by omega)).trans M;have hpf:∀o,lI o a=a.d:=λo=>by unfold lI;rw[if_neg (by rw[hsp];simp)]
 intro he;rcases aDL c' o' a with⟨k,-⟩|⟨k,b,e,-⟩|⟨k,e,-⟩|⟨k,e,-⟩|⟨k,e,-⟩|⟨k,-⟩|⟨-,e⟩
 ·omega
 ·have ed:∀c o:Ch,mR o.st a.h=some b->jD c o a=(c.told (a.h:Int) (kE b),(default,0,(sF c.cl ⟨(a.h:Int),tx (kE b)⟩).1)):=λc o e=>by
   unfold jD;rw[if_neg (by omega),if_pos k,e]
  rw[ed _ _ e] at he;rw[N.at] at e;rw[ed _ _ e] at M;exact aTT M.cl he
 ·obtain⟨r1,r2,r3,r4,r5,r6,r7⟩:=aJx e;have hk:=hk (by omega);have e0:pF c (qM c a.p (lI o a) (a.h:Int))=0:=by
   refine aPD (by rw[←M0.ht];exact r7) ?_;unfold qM;simp only[gE,kD,or_false,forall_eq_or_imp,forall_eq,wN,beq_iff_eq,decide_eq_true_eq,Bool.not_eq_true'];have er:jK c'.cl (a.h:Int)=jK c.cl (a.h:Int):=aMk M0.cl hk;refine⟨⟨r1,by rw[←M0.id];exact r2⟩,by rw[←M0.ht];exact r3,?_,hk,?_,room⟩
   ·cases h:(gF c.st.now (fR 114 a.p.s.toNat)).isSome with
    | false=>rfl
    | true=>
     have:=aKv.2 (M0.r _ (aKv.1 h));rw[r4] at this;cases this
   ·rw[hpf] at r6 ⊢;unfold oY at r6 ⊢;rw[←er];exact r6
  have ed:jD c o a=(c.received a.p,(default,0,0)):=by
   unfold jD;rw[if_neg (by omega),if_neg (by omega),if_pos k,if_pos e0]
  rw[ed] at M;have:=aKv.2 (M.r a.p.s.toNat (by
   rw[(aFx c a.p).1];exact aHo ⟨⟨fR 114 a.p.s.toNat,[1]⟩,rR.2 (.inl rfl),rfl⟩))
  rw[r4] at this;cases this
 ·have hk:=hk (by omega);have er:jK c'.cl (a.h:Int)=jK c.cl (a.h:Int):=aMk M0.cl hk;obtain⟨r1,r2,r3,r4,r5⟩:=aAT (by unfold sV;simp) e;obtain⟨q,q1,q2,q3⟩:=aRr r3;have e0:iW c a.p (sV c a.p (lI o a) (a.h:Int))=0:=by
   refine aPD (by rw[←M0.ht];exact r5) ?_;unfold sV at r4 ⊢;simp only[zLV,xH,gE,kD,or_false,forall_eq_or_imp,forall_eq,wN,beq_iff_eq] at r4 ⊢;refine⟨⟨r1,by rw[←M0.id];exact r2⟩,(aRq ok).2 ⟨q,M0.s q q1 _ q2,q2,q3⟩,hk,?_⟩;have:=r4.2;rw[hpf] at this ⊢;unfold oY at this ⊢;rw[←er];exact this
  have ed:jD c o a=(c.settled 3 a.p,(default,0,0)):=by
   unfold jD;rw[if_neg (by omega),if_neg (by omega),if_neg (by omega),if_pos k,if_pos e0]
  rw[ed] at M;have:=M.s q q1 _ q2;rw[(aBu c 3 a.p).1] at this;exact(aJp.1 this).2 q2
 ·have hk:=hk (by omega);have er:jK c'.cl (a.h:Int)=jK c.cl (a.h:Int):=aMk M0.cl hk;obtain⟨r1,r2,r3,r4,r5⟩:=aAT (by unfold oG;simp) e;obtain⟨q,q1,q2,q3⟩:=aRr r3;have e0:iW c a.p (oG c a.p (lI o a) (a.h:Int))=0:=by
   refine aPD (by rw[←M0.ht];exact r5) ?_;unfold oG at r4 ⊢;simp only[zLV,xH,gE,kD,or_false,forall_eq_or_imp,forall_eq,wN,beq_iff_eq] at r4 ⊢;refine⟨⟨r1,by rw[←M0.id];exact r2⟩,(aRq ok).2 ⟨q,M0.s q q1 _ q2,q2,q3⟩,r4.1,hk,?_⟩;have:=r4.2.2;rw[hpf] at this ⊢;unfold oY at this ⊢;rw[←er];exact this
  have ed:jD c o a=(c.settled 4 a.p,(default,0,0)):=by
   unfold jD;rw[if_neg (by omega),if_neg (by omega),if_neg (by omega),if_neg (by omega),if_pos k,if_pos e0]
  rw[ed] at M;have:=M.s q q1 _ q2;rw[(aBu c 4 a.p).1] at this;exact(aJp.1 this).2 q2
 ·omega
 ·rcases e he with h|h<;>omega
def aHz(s:Ch×Ch)(d:Int):Ch:=if d=1 then s.2 else s.1
def aIp(s:Ch×Ch)(d:Int):Ch:=if d=1 then s.1 else s.2
noncomputable def aEN(s:Ch×Ch)(m:fU):Ch×Ch:=aMj s.1 s.2 m
noncomputable def nA(s:Ch×Ch)(ms:List fU):Ch×Ch:=ms.foldl aEN s
structure aCS(s t:Ch×Ch):Prop where
 a:aCM s.1 t.1
 b:aCM s.2 t.2
theorem aCS.refl(s:Ch×Ch):aCS s s:=⟨aCM.refl _,aCM.refl _⟩
theorem aCS.trans{s t u:Ch×Ch}(x:aCS s t)(y:aCS t u):aCS s u:=⟨x.a.trans y.a,x.b.trans y.b⟩
theorem aQn(s:Ch×Ch){m:fU}(h1:1≤m.kind)(h4:m.kind≤4):aCS s (aEN s m):=by
 unfold aEN aMj iK;have k0:(lP m).kind≠0:=by show m.kind≠0;omega
 have k5:(lP m).kind≠5:=by show m.kind≠5;omega
 split
 ·exact⟨aCM.refl _,aPB k0 k5⟩
 ·exact⟨aPB k0 k5,aCM.refl _⟩
theorem aJo:∀(ms:List fU) (s:Ch×Ch),(∀m∈ms,1≤m.kind∧m.kind≤4)->aCS s (nA s ms)
 | [],s,_=>aCS.refl s
 | m::ms,s,h=>(aQn s (h m (by simp)).1 (h m (by simp)).2).trans (aJo ms _ λx hx=>h x (by simp[hx]))
theorem aWk{s t:Ch×Ch}{m:fU}(h1:1≤m.kind)(h4:m.kind≤4)(hh:0≤m.height)(ok:qX (aHz s m.dest).st.now)(room:(aHz s m.dest).st.now.length+2≤4096)(hk:m.kind≠1->(jK (aHz s m.dest).cl m.height).isSome=true)(M:aCS (aEN s m) t):aIj t.1 t.2 m≠0:=by
 have e:((lP m).h:Int)=m.height:=by show((m.height.toNat:Nat):Int)=_;omega
 unfold aIj iK;unfold aHz at ok room hk;by_cases c:(lP m).id=1
 ·have c':m.dest=1:=c;rw[if_pos c'] at ok room hk;rw[if_pos c];refine aSS (c:=s.2) (o:=s.1) h1 h4 rfl ok room (by rw[e];exact hk) ?_ ?_
  ·have:=M.b;unfold aEN aMj iK at this;rw[if_pos c] at this;exact this
  ·have:=M.a;unfold aEN aMj iK at this;rw[if_pos c] at this;exact this
 ·have c':¬m.dest=1:=c;rw[if_neg c'] at ok room hk;rw[if_neg c];refine aSS (c:=s.1) (o:=s.2) h1 h4 rfl ok room (by rw[e];exact hk) ?_ ?_
  ·have:=M.a;unfold aEN aMj iK at this;rw[if_neg c] at this;exact this
  ·have:=M.b;unfold aEN aMj iK at this;rw[if_neg c] at this;exact this
structure Bnd(c:Ch)(n:Nat):Prop where
 up:qX c.st.now
 now:c.st.now.length≤2*n
 cl:c.cl.length≤n
theorem Bnd.mono{c:Ch}{n m:Nat}(H:Bnd c n)(h:n≤m):Bnd c m:=⟨H.up,by have:=H.now;omega,by have:=H.cl;omega⟩
theorem aXT(l:List gO)(x:gO):(sF l x).2.length≤l.length+1:=by
 unfold sF;split
 ·exact vU _
 ·split
  ·exact vU _
  ·split
   ·exact vU _
   ·simp
theorem Bnd.step{c o:Ch}{n:Nat}(H:Bnd c n)(a:jI):Bnd (jD c o a).1 (n+1):=by
 rcases aDL c o a with⟨-,-,e,-⟩|⟨-,b,-,e,-⟩|⟨-,-,e,-⟩|⟨-,-,e,-⟩|⟨-,-,e,-⟩|⟨-,e⟩|⟨e,-⟩<;>rw[e]
 ·obtain⟨e1,e2,-⟩:=aPF c (jY c a.d a.h);refine⟨by rw[e1];exact H.up.set _,?_,by rw[e2];have:=H.cl;omega⟩;rw[e1];have:=aKK c.st.now ⟨fR 99 c.seq,mL (jY c a.d a.h)⟩;have:=H.now;show(nR _ _).length≤_;omega
 ·exact⟨H.up,by have:=H.now;show c.st.now.length≤_;omega,by have:=aXT c.cl ⟨(a.h:Int),tx (kE b)⟩;have:=H.cl;show(sF _ _).2.length≤_;omega⟩
 ·obtain⟨e1,e2,-⟩:=aFx c a.p;refine⟨by rw[e1];exact(H.up.set _).set _,?_,by rw[e2];have:=H.cl;omega⟩;rw[e1];have h1:=aKK c.st.now ⟨fR 114 a.p.s.toNat,[1]⟩;have h2:=aKK (nR c.st.now ⟨fR 114 a.p.s.toNat,[1]⟩) ⟨fR 97 a.p.s.toNat,aCF a.p⟩;have:=H.now;show(nR (nR _ _) _).length≤_;omega
 ·obtain⟨e1,e2,-⟩:=aBu c 3 a.p;refine⟨by rw[e1];exact H.up.del _,?_,by rw[e2];have:=H.cl;omega⟩;rw[e1];have:=aNb (λq=>decide (q.k≠fR 99 a.p.s.toNat)) c.st.now;have:=H.now;show(uL _ _).length≤_;unfold uL;omega
 ·obtain⟨e1,e2,-⟩:=aBu c 4 a.p;refine⟨by rw[e1];exact H.up.del _,?_,by rw[e2];have:=H.cl;omega⟩;rw[e1];have:=aNb (λq=>decide (q.k≠fR 99 a.p.s.toNat)) c.st.now;have:=H.now;show(uL _ _).length≤_;unfold uL;omega
 ·obtain⟨e1,e2,-⟩:=uM c;have en:c.committed.st.now=c.st.now:=by
   rw[e1];by_cases he:(jW c.st).2.2=0
   ·rw[(aDI he).1]
   ·rw[aCK he]
  exact⟨by rw[en];exact H.up,by rw[en];have:=H.now;omega,by rw[e2];have:=H.cl;omega⟩
 ·exact H.mono (by omega)
structure aE5(s:Ch×Ch)(n:Nat):Prop where
 a:Bnd s.1 n
 b:Bnd s.2 n
theorem aE5.tw{a b:Ch}{n:Nat}(H:aE5 (a,b) n)(x:jI):aE5 (iK a b x).1 (n+1):=by
 unfold iK;split
 ·exact⟨H.a.mono (by omega),H.b.step x⟩
 ·exact⟨H.a.step x,H.b.mono (by omega)⟩
theorem aE5.dlv{s:Ch×Ch}{n:Nat}(H:aE5 s n)(m:fU):aE5 (aEN s m) (n+1):=aE5.tw (a:=s.1) (b:=s.2) H (lP m)
theorem aE5.one{s:Ch×Ch}{n:Nat}(H:aE5 s n)(d:Int):Bnd (aHz s d) n:=by unfold aHz;split;exact H.b;exact H.a
theorem aCS.one{s t:Ch×Ch}(H:aCS s t)(d:Int):aCM (aHz s d) (aHz t d):=by unfold aHz;split;exact H.b;exact H.a
theorem aCS.oth{s t:Ch×Ch}(H:aCS s t)(d:Int):aCM (aIp s d) (aIp t d):=by unfold aIp;split;exact H.a;exact H.b
theorem aUn{s:Ch×Ch}{d x:Int}{n:Nat}(H:aE5 s n)(hn:n<4096)(hx:0≤x)(hb:∃b,mR (aIp s d).st x.toNat=some b):x∈qF (aHz (aEN s (nE d x)) d).cl:=by
 obtain⟨b,hb⟩:=hb;have key:∀c o:Ch,c.cl.length≤n->mR o.st x.toNat=some b->x∈qF (jD c o (lP (nE d x))).1.cl:=λc o hl hs=>by
  have e:(jD c o (lP (nE d x))).1=c.told (((x.toNat:Nat)):Int) (kE b):=by
   unfold jD;rw[if_neg (show ¬(lP (nE d x)).kind=0 from(by decide:¬(1:Int)=0)),if_pos (show(lP (nE d x)).kind=1 from rfl)];rw[show mR o.st (lP (nE d x)).h=some b from hs];rfl
  rw[e];show x∈qF (sF c.cl ⟨((x.toNat:Nat):Int),tx (kE b)⟩).2;rw[show((x.toNat:Nat):Int)=x by omega];unfold sF;rw[if_neg (by simp[hZ,aUr])];by_cases h:x∈qF c.cl
  ·rw[if_pos h];exact h
  ·rw[if_neg h,if_neg (by omega)];unfold qF;simp
 unfold aEN aMj iK aHz;unfold aIp at hb;by_cases e:d=1
 ·rw[if_pos e] at hb;rw[if_pos (show(lP (nE d x)).id=1 from e),if_pos e];exact key _ _ H.b.cl hb
 ·rw[if_neg e] at hb;rw[if_neg (show ¬(lP (nE d x)).id=1 from e),if_neg e];exact key _ _ H.a.cl hb
def aRN(m:fU):Prop:=1≤m.kind∧m.kind≤4∧0≤m.height
def aZI(s:Ch×Ch)(ms:List fU):Prop:=∀m∈ms,m.kind=1->m=nE m.dest m.height∧∃b,mR (aIp s m.dest).st m.height.toNat=some b
def aXP(s:Ch×Ch)(ms:List fU):Prop:=∀i m,ms[i]? =some m->m.kind≠1->m.height∈qF (aHz s m.dest).cl∨nE m.dest m.height∈ms.take i
theorem aMl:∀(ms:List fU) (s:Ch×Ch) (n:Nat),aE5 s n->n+ms.length<2000->(∀m∈ms,aRN m)->aZI s ms->aXP s ms->∀m∈ms,∀t,aCS (nA s ms) t->aIj t.1 t.2 m≠0
 | [],s,n,_,_,_,_,_,m,hm,_,_=>by cases hm
 | x::ms,s,n,B,hn,hg,hh,ha,m,hm,t,M=>by
  simp only[tM] at hn;obtain⟨x1,x4,x0⟩:=hg x (by simp);have B1:=B.dlv x;have hg':∀m∈ms,aRN m:=λm hm=>hg m (by simp[hm]);have M1:=aQn s x1 x4;have M2:=aJo ms (aEN s x) λm hm=>⟨(hg' m hm).1,(hg' m hm).2.1⟩;rcases gE.1 hm with rfl|hm
  ·refine aWk x1 x4 x0 (B.one _).up (by have:=(B.one m.dest).now;omega) (λhk=>?_) (M2.trans M);rcases ha 0 m rfl hk with h|h
   ·rw[aLQ];exact decide_eq_true h
   ·cases h
  ·refine aMl ms (aEN s x) (n+1) B1 (by omega) hg' (λy hy hk=>?_) (λi y hy hk=>?_) m hm t M
   ·obtain⟨h1,b,h2⟩:=hh y (by simp[hy]) hk;exact⟨h1,b,by rw[(M1.oth y.dest).at];exact h2⟩
   ·rcases ha (i+1) y hy hk with h|h
    ·exact .inl (aMw (M1.one y.dest).cl h)
    ·rw[zLc] at h;rcases gE.1 h with h|h
     ·refine .inl ?_;have hk1:x.kind=1:=by rw[←h];rfl
      obtain⟨h1,b,h2⟩:=hh x (by simp) hk1;have hd:x.dest=y.dest:=by rw[←h];rfl
      have hx:x.height=y.height:=by rw[←h];rfl
      rw[hd,hx] at h2;rw[←h];exact aUn B (by omega) (by rw[←hx];exact x0) ⟨b,h2⟩
     ·exact .inr h
theorem aNo{known:List Int}{batch:Int}:∀(ms:List fU) (x:List fU×Bool) (P:fU->Prop),(∀m∈x.1,P m)->(∀m∈ms,P m∧P (nE m.dest m.height))->∀m∈(aHT known batch x ms).1,P m
 | [],x,P,h,_=>h
 | y::ms,x,P,h,h2=>by
  refine aNo ms (vS known batch x y) P (λm hm=>?_) (λm hm=>h2 m (by simp[hm]));unfold vS at hm;split at hm
  ·exact h m hm
  ·rcases jB.1 hm with hm|hm
   ·exact h m hm
   ·unfold aAR at hm;split at hm
    ·simp only[fW] at hm;subst hm;exact(h2 _ (by simp)).1
    ·simp only[gE,kD,or_false] at hm;rcases hm with rfl|rfl
     ·exact(h2 y (by simp)).2
     ·exact(h2 _ (by simp)).1
def aM4(known:List Int)(l:List fU):Prop:=∀i m,l[i]? =some m->m.kind≠1->m.height∈known∨nE m.dest m.height∈l.take i
theorem aM4.snoc{known:List Int}{l:List fU}{m:fU}(H:aM4 known l)(h:m.kind≠1->m.height∈known∨nE m.dest m.height∈l):aM4 known (l++[m]):=λi y hy hk=>by
 by_cases c:i<l.length
 ·rw[List.getElem?_append_left c] at hy;rw[zLG (by omega)];exact H i y hy hk
 ·have hl:=(zLz.1 hy).1;rw[jS,zLS] at hl;have e:i=l.length:=by omega
  subst e;simp only[List.getElem?_concat_length,zL8] at hy;subst hy;rw[zLG (pC _),zLI];exact h hk
theorem aN5{known:List Int}{batch:Int}:∀(ms:List fU) (x:List fU×Bool),aM4 known x.1->aM4 known (aHT known batch x ms).1
 | [],x,h=>h
 | y::ms,x,h=>by
  refine aN5 ms (vS known batch x y) ?_;unfold vS;split
  ·exact h
  ·unfold aAR;split
   ·rename_i hc;exact h.snoc λ_=>hc.symm
   ·show aM4 known (x.1++[nE y.dest y.height,y]);rw[show x.1++[nE y.dest y.height,y]=(x.1++[nE y.dest y.height])++[y] by simp];exact(h.snoc λhk=>absurd rfl hk).snoc λ_=>.inr (by simp)
def jI.clean(x:jI):jI:={x with sp:=false}
theorem jI.clean_wf{x:jI}(w:x.wf):x.clean.wf:=⟨w.h,w.p⟩
noncomputable def aGw(s:Ch×Ch)(x:jI):Ch×Ch:=(iK s.1 s.2 x.clean).1
noncomputable def aIf(s:Ch×Ch)(l:List jI):Ch×Ch:=l.foldl aGw s
theorem aUC(s:Ch×Ch)(l:List jI)(x:jI):aIf s (l++[x])=aGw (aIf s l) x:=by
 unfold aIf;rw[List.foldl_append];rfl
structure aIm(s:Ch×Ch)(i:Nat):Prop where
 i0:s.1.id=0
 i1:s.2.id=1
 n0:s.1.nts.length≤i
 n1:s.2.nts.length≤i
 t0:s.1.tot≤i
 t1:s.2.tot≤i
 b0:s.1.st.blocks.length≤i+1
 b1:s.2.st.blocks.length≤i+1
 k0:KOk s.1
 k1:KOk s.2
 o0:uK s.1
 o1:uK s.2
 bd:aE5 s i
theorem aXj{a b:Ch}{i:Nat}(ha:a.tot≤i)(hb:b.tot≤i)(x:jI):(iK a b x).1.1.tot≤i+1∧(iK a b x).1.2.tot≤i+1:=by
 unfold iK;split
 ·obtain⟨-,h⟩:=aKC b a x;refine⟨by show a.tot≤i+1;omega,?_⟩;show(jD b a x).1.tot≤i+1;rw[h];split<;>omega
 ·obtain⟨-,h⟩:=aKC a b x;refine⟨?_,by show b.tot≤i+1;omega⟩;show(jD a b x).1.tot≤i+1;rw[h];split<;>omega
theorem aIm.new{a b s t:Nat}(hs:s<18446744073709551616)(ht:t<18446744073709551616):aIm (Ch.new 0 a s,Ch.new 1 b t) 0 where
 i0:=rfl
 i1:=rfl
 n0:=pC _
 n1:=pC _
 t0:=pC _
 t1:=pC _
 b0:=pC _
 b1:=pC _
 k0:=⟨by simp[Ch.new],by simp[Ch.new,qF]⟩
 k1:=⟨by simp[Ch.new],by simp[Ch.new,qF]⟩
 o0:=uK.new
 o1:=uK.new
 bd:=⟨⟨List.Pairwise.nil,pC _,pC _⟩,⟨List.Pairwise.nil,pC _,pC _⟩⟩
theorem aIm.tw{s:Ch×Ch}{i:Nat}(H:aIm s i){x:jI}(w:x.wf):aIm (iK s.1 s.2 x).1 (i+1):=by
 obtain⟨e0,e1⟩:=aZP s.1 s.2 x;obtain⟨y0,y1⟩:=aN6 s.1 s.2 x H.n0 H.n1;obtain⟨z0,z1⟩:=aY6 H.k0 H.k1 w;obtain⟨t0,t1⟩:=aXj H.t0 H.t1 x;obtain⟨b0,b1⟩:=bAJ H.b0 H.b1 x;obtain⟨o0,o1⟩:=H.o0.step H.o1 x;exact⟨by rw[e0];exact H.i0,by rw[e1];exact H.i1,y0,y1,t0,t1,b0,b1,z0,z1,o0,o1,H.bd.tw x⟩
theorem aIm.act{s:Ch×Ch}{i:Nat}(H:aIm s i){x:jI}(w:x.wf):aIm (aGw s x) (i+1):=H.tw (jI.clean_wf w)
theorem jI.isC(x:jI):∀u∈x.cells,fO u=true:=λu hu=>by
 simp only[jI.cells,gE,kD,or_false] at hu;rcases hu with rfl|rfl|rfl|rfl|rfl|rfl|rfl|rfl|rfl<;>rfl
theorem aXi(c o:Ch)(a:jI):(jD c o a).1=if a.kind=0 then(if rT c a.d a.h=0 then c.sent (jY c a.d a.h) else c)
   else if a.kind=1 then(match mR o.st a.h with
    | none=>c
    | some b=>c.told (a.h:Int) (kE b))
   else if a.kind=2 then(if pF c (qM c a.p (lI o a) (a.h:Int))=0 then c.received a.p else c)
   else if a.kind=3 then(if iW c a.p (sV c a.p (lI o a) (a.h:Int))=0 then c.settled 3 a.p else c)
   else if a.kind=4 then(if iW c a.p (oG c a.p (lI o a) (a.h:Int))=0 then c.settled 4 a.p else c)
   else if a.kind=5 then c.committed
   else c:=by
 unfold jD;split
 ·split<;>rfl
 ·split
  ·cases mR o.st a.h<;>rfl
  ·split
   ·split<;>rfl
   ·split
    ·split<;>rfl
    ·split
     ·split<;>rfl
     ·split<;>rfl
def nV(c0 c1:Nat)(s:Ch×Ch):lU:=eH (iD c0 s.1) (iD c1 s.2)
theorem nV.good(c0 c1:Nat)(s:Ch×Ch):lW (nV c0 c1 s):=(iD.good _ _).star (iD.good _ _)
def aBI(c0 c1:Nat)(j:Nat):Nat:=if j=1 then c1 else c0
def lV(s:Ch×Ch)(j:Nat):Ch:=if j=1 then s.2 else s.1
theorem aQF(c0 c1:Nat)(s:Ch×Ch)(x:jI):∃W:lU->lU,(∀s',lW (W (iD (aBI c0 c1 (lH x.id)) s')))∧(jD (lV s (lH x.id)) (lV s (1-lH x.id)) x).2=(iK s.1 s.2 x).2∧
  (∀{h F},W (iD (aBI c0 c1 (lH x.id)) (jD (lV s (lH x.id)) (lV s (1-lH x.id)) x).1) h F->nV c0 c1 (iK s.1 s.2 x).1 h F)∧∀{h F},nV c0 c1 s h F->aBm h F (iD (aBI c0 c1 (lH x.id)) (lV s (lH x.id))) W∧∃Fo,iD (aBI c0 c1 (1-lH x.id)) (lV s (1-lH x.id)) h Fo:=by
 unfold lH aBI lV iK;by_cases e:x.id=1
 ·simp only[if_pos e,Nat.sub_self,if_true];exact⟨λX=>eH (iD c0 s.1) X,λs'=>(iD.good _ _).star (iD.good _ _),rfl,λH=>H,fun {h F} H=>⟨eH.right (iD.good _ _) H,by
   obtain⟨Fo,_,_,HO,_,_⟩:=H;exact⟨Fo,HO⟩⟩⟩
 ·simp only[if_neg e,Nat.sub_zero,if_true];exact⟨λX=>eH X (iD c1 s.2),λs'=>(iD.good _ _).star (iD.good _ _),rfl,λH=>H,fun {h F} H=>⟨eH.left (iD.good _ _) H,by
   obtain⟨_,Fo,_,_,HO,_⟩:=H;exact⟨Fo,HO⟩⟩⟩
theorem aRc{c0 c1:Nat}{s:Ch×Ch}{h:PH}{F:List Nat}(H:nV c0 c1 s h F)(k0:KOk s.1)(k1:KOk s.2):(s.1.DOk∧s.1.st.Ok)∧s.2.DOk∧s.2.st.Ok:=by
 obtain⟨Fc,Fd,-,h0,h1,-⟩:=H;exact⟨aSv h0 k0,aSv h1 k1⟩
def arC(c0 c1:Nat):List Value:=[pT c0 0,pT c1 0]
def arV(c0 c1:Nat):Value:=.agg (arC c0 c1).toArray
theorem aKk(c0 c1:Nat){j:Nat}(hj:j<2):(arC c0 c1)[j]? =some (pT (aBI c0 c1 j) 0):=by
 have:j=0∨j=1:=by omega
 rcases this with rfl|rfl<;>rfl
theorem aPI(c0 c1:Nat):∀u∈arC c0 c1,fO u=true:=λu hu=>by
 simp only[arC,gE,kD,or_false] at hu;rcases hu with rfl|rfl<;>rfl
def aJT(c0 c1 m d0 d1 b mm:Nat)(K:List Nat)(s:Ch×Ch)(A:List Tx)(n:Nat):lU:=eH (nV c0 c1 s) (DTw m d0 d1 b mm A K s.1 s.2 n)
theorem aJT.good(c0 c1 m d0 d1 b mm:Nat)(K:List Nat)(s:Ch×Ch)(A:List Tx)(n:Nat):lW (aJT c0 c1 m d0 d1 b mm K s A n):=(nV.good _ _ _).star (DTw.good _ _ _ _ _ _ _ _ _ _)
def fU.v(m:fU):Value:=.agg m.cells.toArray
def aTL(o:Option fU):fU:=o.getD fU.zero
theorem fU.isC(m:fU):∀u∈m.cells,fO u=true:=λu hu=>fU.isCell [m] m.cells (by simp) u hu
theorem fU.b0:dD PG (build cH #[])=some fU.zero.v:=by kernel_rfl
theorem fU.b3(to h:Int)(p:Pk):dD PG (build cH #[(1,.int .i64 to),(2,.int .u64 h),(3,p.v)])=some (mkM 0 to h p ⟨#[]⟩).v:=by kernel_rfl
theorem Bx.msg{h:PH}{r:Nat}{m:fU}(B:Bx h r m.cells):cG PG h (loadAt cH (pT r 0))=some m.v:=cH.agg B (by show 0+8≤8;decide)
theorem aSf{c0 c1:Nat}{s:Ch×Ch}{h:PH}{F:List Nat}(H:nV c0 c1 s h F){j:Nat}(hj:j<2):∃F',iD (aBI c0 c1 j) (lV s j) h F':=by
 obtain⟨F0,F1,-,h0,h1,-⟩:=H;have:j=0∨j=1:=by omega
 rcases this with rfl|rfl
 ·exact⟨F0,h0⟩
 ·exact⟨F1,h1⟩
theorem aP3{h:PH}{c:Nat}{s:Ch}{F:List Nat}(hK:mQ h)(H:iD c s h F)(m:fU){x:Nat}(hm:m.height=(x:Int))(hx:x<18446744073709551616)(key:Tx){kk:cD}
  (hk:∀h',dB h h'->kk (.tuple #[(aTL (aFA s key x m)).v,.bool (aFA s key x m).isSome]) h'):aT PG aES #[m.v,pT c 0,.string (tx key)] h kk:=by
 apply aG6.call;unfold aG6;intro r1 hr1
 try rw[cY]
 have u1:dB h (h.set r1 (.cells (Value.cells m.v) cH)):=cV.new hr1;have B1:Bx (h.set r1 (.cells (Value.cells m.v) cH)) r1 m.cells:=Bx.new;generalize h.set r1 (.cells (Value.cells m.v) cH)=h1 at *;intro r3 hr3
 try rw[cY]
 have u3:dB h1 (h1.set r3 (.cells (dN PG cH) cH)):=cV.new hr3;have B3:Bx (h1.set r3 (.cells (dN PG cH) cH)) r3 fU.zero.cells:=cH.zbox;have n13:r1≠r3:=B1.apart hr3;have B1:=B1.ext u3;generalize h1.set r3 (.cells (dN PG cH) cH)=h3 at *;have e3:=u1.trans u3;have k1:h r1=none:=hr1;have k3:h r3=none:=u1.none hr3;have lh:cG PG h3 (loadAt cA (pT r1 2))=some (.int .u64 (x:Int)):=by rw[cA.load,B1.cell,←hm];rfl
 simp only[cH.f2,fC,lh,cE,reduceIte,cT,Nat.reduceAdd];refine aJ4 (hK.ext e3) ((iD.good _ _).ext H e3) key hx λh4 u4=>?_;have e4:=e3.trans u4;have C1:=B1.ext u4;have C3:=B3.ext u4;have no:aFA s key x m=none->cZ PG (dM cH (pT r3 0) fU.zero.v) h4 λ_ h34=>dY (cG PG h34 (loadAt cH (pT r3 0))) λv35=>kk (.tuple #[v35,.bool false]) h34:=λe=>by
  refine cH.put (vs:=fU.zero.cells) C3 (o:=0) rfl (by show 0+8≤8;decide) (fU.isC _) λh5 B5 u5=>?_;have B5:Bx h5 r3 fU.zero.cells:=B5;simp only[B5.msg,cE,reduceIte,cT,Nat.reduceAdd];have:=hk h5 (e4.fresh u5 (dZ.one k3));rw[e] at this;exact this
 unfold aFA at hk no;generalize uZ s.st key x=q at *;obtain⟨pf,e⟩:=q;simp only at hk no ⊢;by_cases he:e=0
 ·have qe:(e !=0)=false:=by rw[he];rfl
  have z:({data:=#[]}:ByteArray)=tx []:=rfl;cases pf with
  | nil=>
   have q2:decide (([]:Tx)=[])=true:=rfl;simp only[kI,qe,z,aC6,q2,fU.b0,cE,reduceIte,cT,Nat.reduceAdd];exact no (by rw[if_neg (by simp)])
  | cons b pf=>
   have q2:decide ((b::pf:Tx)=[])=false:=rfl;have ix:dD PG (Instr.index bR (.string (tx (b::pf))) (.int .i64 0))=some (.int .u8 b.toNat):=zY (j:=0) bR.und rfl;by_cases hb:b=1
   ·have q3:((b.toNat:Int) !=1)=false:=by rw[hb];rfl
    simp only[kI,qe,z,aC6,q2,ix,q3,cH.f4,fC,cE,reduceIte,cT,Nat.reduceAdd];refine bR.put C1 (o:=7) (by show 7<8;decide) rfl λh5 B5 u5=>?_;have B5:Bx h5 r1 (m.put (tx (b::pf))).cells:=B5;simp only[B5.msg,cE,reduceIte,cT,Nat.reduceAdd];have D3:=C3.upd u5 (by simp only[fW];exact n13.symm);refine cH.put (vs:=(m.put (tx (b::pf))).cells) D3 (o:=0) rfl (by show 0+8≤8;decide) (fU.isC _) λh6 B6 u6=>?_;have B6:Bx h6 r3 (m.put (tx (b::pf))).cells:=B6;simp only[B6.msg,cE,reduceIte,cT,Nat.reduceAdd];have:=hk h6 ((e4.fresh u5 (dZ.one k1)).fresh u6 (dZ.one k3));rw[if_pos ⟨he,by rw[hb];rfl⟩] at this;exact this
   ·have q3:((b.toNat:Int) !=1)=true:=by
     rw[bne_iff_ne];intro h;exact hb (UInt8.toNat_inj.1 (by rw[show(1:UInt8).toNat=1 from rfl];omega))
    simp only[kI,qe,z,aC6,q2,ix,q3,fU.b0,cE,reduceIte,cT,Nat.reduceAdd];exact no (by rw[if_neg (by rintro⟨-,h⟩;simp only[List.head?_cons,zL8] at h;exact hb h)])
 ·have qe:(e !=0)=true:=by rw[bne_iff_ne];exact he
  simp only[kI,qe,fU.b0,cE,reduceIte,cT,Nat.reduceAdd];exact no (by rw[if_neg (λh=>he h.1)])
theorem aVP{s:Ch×Ch}{f:Int}{j:Nat}(hf:f=(j:Int))(hj:j<2):zX s.1 s.2 f=lV s j∧zX s.1 s.2 (1-f)=lV s (1-j):=by
 have:j=0∨j=1:=by omega
 rcases this with rfl|rfl<;>rw[hf]<;>exact⟨rfl,rfl⟩
theorem aUA{h:PH}{c0 c1:Nat}{s:Ch×Ch}{F:List Nat}(hK:mQ h)(W:nV c0 c1 s h F)(p:Pk)(w:p.wf)(stg:Int){kk:cD}
  (hk:∀h',dB h h'->kk (.tuple #[(aTL (qD s.1 s.2 p)).v,.bool (qD s.1 s.2 p).isSome]) h'):aT PG aHF #[It.val ⟨p,stg⟩,arV c0 c1] h kk:=by
 apply aDD.call;unfold aDD;intro r1 hr1
 try rw[cY]
 have u1:dB h (h.set r1 (.cells (Value.cells (It.val ⟨p,stg⟩)) fE)):=cV.new hr1;have B1:Bx (h.set r1 (.cells (Value.cells (It.val ⟨p,stg⟩)) fE)) r1 (It.cells ⟨p,stg⟩):=Bx.new;generalize h.set r1 (.cells (Value.cells (It.val ⟨p,stg⟩)) fE)=h1 at *;intro r3 hr3
 try rw[cY]
 have u3:dB h1 (h1.set r3 (.cells (Value.cells (arV c0 c1)) cX)):=cV.new hr3;have B3:Bx (h1.set r3 (.cells (Value.cells (arV c0 c1)) cX)) r3 (arC c0 c1):=Bx.new;generalize h1.set r3 (.cells (Value.cells (arV c0 c1)) cX)=h3 at *;intro r5 hr5
 try rw[cY]
 have u5:dB h3 (h3.set r5 (.cells (dN PG cH) cH)):=cV.new hr5;have B5:Bx (h3.set r5 (.cells (dN PG cH) cH)) r5 fU.zero.cells:=cH.zbox;generalize h3.set r5 (.cells (dN PG cH) cH)=h5 at *;have e5:=(u1.trans u3).trans u5;have k5:h r5=none:=(u1.trans u3).none hr5;have lp:cG PG h5 (loadAt aR (pT r1 0))=some p.v:=((B1.ext u3).ext u5).pk rfl;have B3:=B3.ext u5;simp only[fE.f0,lp,cE,reduceIte,cT,Nat.reduceAdd];intro r9 hr9
 try rw[cY]
 refine aR.fill (vs:=p.cells) hr9 rfl (Pk.isC _) λh9 B9 u9=>?_;have n59:r5≠r9:=B5.apart hr9;have lq:cG PG h9 (loadAt aR (pT r9 0))=some (.agg p.cells.toArray):=B9.pk rfl;simp only[lq,cE,reduceIte,cT,Nat.reduceAdd];refine aLC p λh10 u10=>?_;have e10:=(e5.trans u9).trans u10;have C5:=(B5.ext u9).ext u10;have C3:=(B3.ext u9).ext u10;have C9:=B9.ext u10;have W10:=(nV.good _ _ _).ext W e10;have K10:=hK.ext e10;have no:∀{h':PH},dB h10 h'->qD s.1 s.2 p=none->cZ PG (dM cH (pT r5 0) fU.zero.v) h' λ_ h34=>dY (cG PG h34 (loadAt cH (pT r5 0))) λv35=>kk (.tuple #[v35,.bool false]) h34:=fun {h'} u e=>by
  refine cH.put (vs:=fU.zero.cells) (C5.ext u) (o:=0) rfl (by show 0+8≤8;decide) (fU.isC _) λh11 B11 u11=>?_;have B11:Bx h11 r5 fU.zero.cells:=B11;simp only[B11.msg,cE,reduceIte,cT,Nat.reduceAdd];have:=hk h11 ((e10.trans u).fresh u11 (dZ.one k5));rw[e] at this;exact this
 have fin:∀{h':PH} {m:fU} {b:Bool},dB h h'->Bx h' r5 fU.zero.cells->kk (.tuple #[m.v,.bool b])=kk (.tuple #[(aTL (qD s.1 s.2 p)).v,.bool (qD s.1 s.2 p).isSome])->cZ PG (dM cH (pT r5 0) m.v) h' λ_ h34=>dY (cG PG h34 (loadAt cH (pT r5 0))) λv35=>kk (.tuple #[v35,.bool b]) h34:=fun {h' m b} u D5 e=>by
  refine cH.put (vs:=m.cells) D5 (o:=0) rfl (by show 0+8≤8;decide) (fU.isC _) λh11 B11 u11=>?_;have B11:Bx h11 r5 m.cells:=B11;simp only[B11.msg,cE,reduceIte,cT,Nat.reduceAdd];rw[e];exact hk h11 (u.fresh u11 (dZ.one k5))
 unfold qD at no fin;by_cases hr:p.right=true
 case neg=>
  have hr:p.right=false:=by simpa using hr
  have q:((1:Int) !=0)=true:=rfl;simp only[hr,kI,q,fU.b0,cE,reduceIte,cT,Nat.reduceAdd];exact no cV.refl (by rw[if_neg (by rw[hr];simp)])
 obtain⟨f0,f1,-⟩:=Pk.right_iff.1 hr;obtain⟨n,hn⟩:=zLn w.1;have hn2:n<18446744073709551616:=by have:=w.2.1;omega
 have hnt:p.s.toNat=n:=by omega
 obtain⟨j,hj⟩:=zLn f0;have hj2:j<2:=by omega
 obtain⟨ej,ek⟩:=aVP (s:=s) hj hj2;rw[ej,ek,hnt] at no fin;obtain⟨F1,H1⟩:=aSf W10 hj2;obtain⟨F2,H2⟩:=aSf W10 (j:=1-j) (by omega);have sx:∀{c:Nat} {s:Ch} {h:PH} {F:List Nat},iD c s h F->∃sp,cG PG h (loadAt gV (pT c 0))=some (pT sp 0)∧(∃Fs,sX h sp s.st Fs)∧s.st.height<18446744073709551616:=λH=>by
  obtain⟨sp,m,cp,nv,bv,lk,P,perm,ok⟩:=H;obtain⟨Fs,St,-,-⟩:=P.fSt;exact⟨sp,Ch.load0 P.cell,⟨Fs,St⟩,P.okst.h4⟩
 have ix1:=aIl (r:=r3) (o:=0) hj2;have ix2:=aIl (r:=r3) (o:=0) (i:=1-j) (by omega);rw[fC] at ix1 ix2;have w1:IntKind.i64.wrap (1-(j:Int))=((1-j:Nat):Int):=by rw[eX (by omega) (by omega)];omega
 have lx1:cG PG h10 (loadAt cU (pT r3 j))=some (pT (aBI c0 c1 j) 0):=by rw[cU.load,C3.cell,aKk c0 c1 hj2]
 have lx2:cG PG h10 (loadAt cU (pT r3 (1-j)))=some (.pointer (some ⟨aBI c0 c1 (1-j),0,none⟩)):=by rw[cU.load,C3.cell,aKk c0 c1 (by omega)]
 have lf:∀{h'':PH},dB h10 h''->cG PG h'' (loadAt bT (pT r9 0))=some (.int .i64 (j:Int)):=λu=>by rw[bT.load,(C9.ext u).cell,←hj];rfl
 have ls:∀{h'':PH},dB h10 h''->cG PG h'' (loadAt cA (pT r9 1))=some (.int .u64 (n:Int)):=λu=>by rw[cA.load,(C9.ext u).cell,←hn];rfl
 have lpk:∀{h'':PH},dB h10 h''->cG PG h'' (loadAt aR (pT r9 0))=some p.v:=λu=>(C9.ext u).pk rfl;generalize lV s j=a at *;generalize lV s (1-j)=b at *;generalize aBI c0 c1 j=x at *;generalize aBI c0 c1 (1-j)=y at *;rw[hj] at no fin;obtain⟨sa,la,⟨Fa,Sa⟩,ha64⟩:=sx H1;have la':∀{h'':PH},dB h10 h''->cG PG h'' (loadAt gV (pT x 0))=some (pT sa 0):=λu=>by
  obtain⟨sp,m,cp,nv,bv,lk,P,perm,ok⟩:=id H1;have e1:=la;rw[Ch.load0 P.cell] at e1;rw[Ch.load0 (P.cell.ext u)];exact e1
 obtain⟨sb,lb,⟨Fb,Sb⟩,hb64⟩:=sx H2;have lb':∀{h'':PH},dB h10 h''->cG PG h'' (loadAt gV (pT y 0))=some (pT sb 0):=λu=>by
  obtain⟨sp,m,cp,nv,bv,lk,P,perm,ok⟩:=id H2;have e1:=lb;rw[Ch.load0 P.cell] at e1;rw[Ch.load0 (P.cell.ext u)];exact e1
 have q0:((0:Int) !=0)=false:=rfl;simp only[hr,kI,q0,aR.f0,aR.f1,dV.f0,eS.f0,fC,lf cV.refl,ix1,lx1,w1,ix2,lx2,la,ls cV.refl,cE,reduceIte,cT,Nat.reduceAdd];refine aJG hn2 λh11 u11=>?_;refine⟨la' u11,?_⟩;refine aMv (Sa.ext u11) (fR 99 n) ?_;have hsx:nO a p=(match gF a.st.now (fR 99 n) with
  | some q=>decide (q.v=mL p)
  | none=>false):=by unfold nO;rw[hnt];rfl
 generalize hg:gF a.st.now (fR 99 n)=og at *;cases og with
 | none=>
  simp only[zLu,fU.b0,cE,reduceIte,cT,Nat.reduceAdd];exact no u11 (by rw[if_neg (by rw[hsx];simp)])
 | some q=>
  simp only[aNv,aIg,aIr,lpk u11,cE,reduceIte,cT,Nat.reduceAdd];refine aGB w (K10.ext u11) λh12 u12=>?_;have e12:=u11.trans u12;by_cases hv:q.v=mL p
  case neg=>
   have q1:(!decide (q.v=mL p))=true:=by simp[hv]
   simp only[aDy,q1,fU.b0,cE,reduceIte,cT,Nat.reduceAdd];exact no e12 (by rw[if_neg (by rw[hsx];simp[hv])])
  have hs:nO a p=true:=by rw[hsx];simp[hv]
  have q1:(!decide (q.v=mL p))=false:=by simp[hv]
  simp only[aDy,q1,lf e12,lb' e12,lpk e12,cE,reduceIte,cT,Nat.reduceAdd];refine aJ8 (Sb.ext e12) ?_;refine⟨lpk e12,lf e12,?_⟩;simp only[fU.b3,cE,reduceIte,cT,Nat.reduceAdd];intro r74 hr74
  try rw[cY]
  refine cH.fill (vs:=(mkM 0 (j:Int) (b.st.height:Int) p ⟨#[]⟩).cells) hr74 rfl (fU.isC _) λh15 B15 u15=>?_;have e15:=e12.trans u15;have k74:h r74=none:=(e10.trans e12).none hr74;simp only[lb' e15,ls e15,cE,reduceIte,cT,Nat.reduceAdd];refine aEA hn2 λh16' u16=>?_;refine⟨lb' (e15.trans u16),?_⟩;refine aMv ((Sb.ext e15).ext u16) (fR 114 n) ?_;have e16':=e15.trans u16;have e16:=e10.trans e16';have D74:=B15.ext u16;have D5:=C5.ext e16';have D9:=C9.ext e16';have n574:r5≠r74:=(C5.ext e12).apart hr74;have n974:r9≠r74:=(C9.ext e12).apart hr74;have G1:=(iD.good _ _).ext H1 e16';have G2:=(iD.good _ _).ext H2 e16';have m74b:r74∉F2:=λhm=>(iD.good _ _).known ((iD.good _ _).ext H2 e12) _ hm hr74;have m74a:r74∉F1:=λhm=>(iD.good _ _).known ((iD.good _ _).ext H1 e12) _ hm hr74;by_cases g2:(gF b.st.now (fR 114 n)).isSome=true
  ·simp only[g2,cH.f0,cE,reduceIte,cT,Nat.reduceAdd];refine bT.put D74 (o:=0) (by show 0<8;decide) rfl λh18 G18 u18=>?_;have G18:Bx h18 r74 (mkM 3 (j:Int) (b.st.height:Int) p ⟨#[]⟩).cells:=G18;have ls18:cG PG h18 (loadAt cA (pT r9 1))=some (.int .u64 (n:Int)):=by rw[cA.load,(D9.upd u18 (by simpa using n974)).cell,←hn];rfl
   have e18:=e16.fresh u18 (dZ.one k74);simp only[G18.msg,ls18,cE,reduceIte,cT,Nat.reduceAdd];refine aKR hn2 λh19 u19=>?_;refine⟨(G18.ext u19).msg,?_⟩;refine aP3 (hK.ext (e18.trans u19)) ((iD.good _ _).ext ((iD.good _ _).upd G2 u18 (λz hz=>by simp only[fW];rintro rfl;exact m74b hz)) u19) (mkM 3 (j:Int) (b.st.height:Int) p ⟨#[]⟩) rfl hb64 (fR 97 n) λh20 u20=>?_;simp only[cE,reduceIte,cT,Nat.reduceAdd];refine fin ((e18.trans u19).trans u20) (((D5.upd u18 (by simpa using n574)).ext u19).ext u20) ?_;rw[if_pos ⟨hr,hs⟩,if_pos g2]
  have g2:(gF b.st.now (fR 114 n)).isSome=false:=by simpa using g2
  have lt:cG PG h16' (loadAt cA (pT r9 2))=some (.int .u64 p.t):=by rw[cA.load,D9.cell];rfl
  have lh:cG PG h16' (loadAt cA (pT r74 2))=some (.int .u64 (b.st.height:Int)):=by rw[cA.load,D74.cell];rfl
  by_cases hA:IntKind.u64.wrap (p.t-1)≤(b.st.height:Int)
  ·have pA:=eq_true hA;simp only[g2,cH.f2,aR.f2,lh,lt,aMQ,pA,cH.f0,cE,reduceIte,cT,Nat.reduceAdd];refine bT.put D74 (o:=0) (by show 0<8;decide) rfl λh18 G18 u18=>?_;have G18:Bx h18 r74 (mkM 4 (j:Int) (b.st.height:Int) p ⟨#[]⟩).cells:=G18;have ls18:cG PG h18 (loadAt cA (pT r9 1))=some (.int .u64 (n:Int)):=by rw[cA.load,(D9.upd u18 (by simpa using n974)).cell,←hn];rfl
   have lt18:∀{h'':PH},dB h18 h''->cG PG h'' (loadAt cA (pT r74 2))=some (.int .u64 (b.st.height:Int)):=λu=>by rw[cA.load,(G18.ext u).cell];rfl
   have e18:=e16.fresh u18 (dZ.one k74);simp only[aR.f1,cH.f2,fC,ls18,lt18 cV.refl,cE,reduceIte,cT,Nat.reduceAdd];refine aEA hn2 λh19 u19=>?_;refine⟨lt18 u19,?_⟩;refine aJ4 (hK.ext (e18.trans u19)) ((iD.good _ _).ext ((iD.good _ _).upd G2 u18 (λz hz=>by simp only[fW];rintro rfl;exact m74b hz)) u19) (fR 114 n) hb64 λh20 u20=>?_;simp only[cH.f4,fC,cE,reduceIte,cT,Nat.reduceAdd];refine bR.put ((G18.ext u19).ext u20) (o:=7) (by show 7<8;decide) rfl λh21 G21 u21=>?_;have G21:Bx h21 r74 (mkM 4 (j:Int) (b.st.height:Int) p (tx (uZ b.st (fR 114 n) b.st.height).1)).cells:=G21;simp only[G21.msg,cE,reduceIte,cT,Nat.reduceAdd];refine fin (((e18.trans u19).trans u20).fresh u21 (dZ.one k74)) ((((D5.upd u18 (by simpa using n574)).ext u19).ext u20).upd u21 (by simpa using n574)) ?_;rw[if_pos ⟨hr,hs⟩,if_neg (by rw[g2];simp),if_pos (.inl hA)];rfl
  have pA:=eq_false hA;by_cases hB:b.st.height=18446744073709551615
  ·have pB:((b.st.height:Int)==18446744073709551615)=true:=by rw[hB];rfl
   simp only[g2,cH.f2,aR.f2,lh,lt,aMQ,pA,iB,pB,cH.f0,cE,reduceIte,cT,Nat.reduceAdd];refine bT.put D74 (o:=0) (by show 0<8;decide) rfl λh18 G18 u18=>?_;have G18:Bx h18 r74 (mkM 4 (j:Int) (b.st.height:Int) p ⟨#[]⟩).cells:=G18;have ls18:cG PG h18 (loadAt cA (pT r9 1))=some (.int .u64 (n:Int)):=by rw[cA.load,(D9.upd u18 (by simpa using n974)).cell,←hn];rfl
   have lt18:∀{h'':PH},dB h18 h''->cG PG h'' (loadAt cA (pT r74 2))=some (.int .u64 (b.st.height:Int)):=λu=>by rw[cA.load,(G18.ext u).cell];rfl
   have e18:=e16.fresh u18 (dZ.one k74);simp only[aR.f1,cH.f2,fC,ls18,lt18 cV.refl,cE,reduceIte,cT,Nat.reduceAdd];refine aEA hn2 λh19 u19=>?_;refine⟨lt18 u19,?_⟩;refine aJ4 (hK.ext (e18.trans u19)) ((iD.good _ _).ext ((iD.good _ _).upd G2 u18 (λz hz=>by simp only[fW];rintro rfl;exact m74b hz)) u19) (fR 114 n) hb64 λh20 u20=>?_;simp only[cH.f4,fC,cE,reduceIte,cT,Nat.reduceAdd];refine bR.put ((G18.ext u19).ext u20) (o:=7) (by show 7<8;decide) rfl λh21 G21 u21=>?_;have G21:Bx h21 r74 (mkM 4 (j:Int) (b.st.height:Int) p (tx (uZ b.st (fR 114 n) b.st.height).1)).cells:=G21;simp only[G21.msg,cE,reduceIte,cT,Nat.reduceAdd];refine fin (((e18.trans u19).trans u20).fresh u21 (dZ.one k74)) ((((D5.upd u18 (by simpa using n574)).ext u19).ext u20).upd u21 (by simpa using n574)) ?_;rw[if_pos ⟨hr,hs⟩,if_neg (by rw[g2];simp),if_pos (.inr hB)];rfl
  have pB:((b.st.height:Int)==18446744073709551615)=false:=by rw[beq_eq_false_iff_ne];omega
  simp only[g2,cH.f2,aR.f2,lh,lt,aMQ,pA,iB,pB,cH.f0,cH.f1,lf e16',w1,la' e16',cE,reduceIte,cT,Nat.reduceAdd];refine aJ8 (Sa.ext e16') ?_;refine⟨lf e16',?_⟩;refine bT.put D74 (o:=0) (by show 0<8;decide) rfl λh18 G18 u18=>?_;have D9':=D9.upd u18 (by simpa using n974);refine⟨by rw[bT.load,D9'.cell,←hj];rfl,?_⟩;refine bT.put G18 (o:=1) (by show 1<8;decide) rfl λh19 G19 u19=>?_;refine cA.put G19 (o:=2) (by show 2<8;decide) rfl λh20 G20 u20=>?_;have G20:Bx h20 r74 (mkM 2 ((1-j:Nat):Int) (a.st.height:Int) p ⟨#[]⟩).cells:=G20;have u3:cV [r74] h16' h20:=(u18.trans u19).trans u20;have ls20:cG PG h20 (loadAt cA (pT r9 1))=some (.int .u64 (n:Int)):=by rw[cA.load,(D9.upd u3 (by simpa using n974)).cell,←hn];rfl
  have e20:=e16.fresh u3 (dZ.one k74);simp only[G20.msg,ls20,cE,reduceIte,cT,Nat.reduceAdd];refine aJG hn2 λh21 u21=>?_;refine⟨(G20.ext u21).msg,?_⟩;refine aP3 (hK.ext (e20.trans u21)) ((iD.good _ _).ext ((iD.good _ _).upd G1 u3 (λz hz=>by simp only[fW];rintro rfl;exact m74a hz)) u21) (mkM 2 ((1-j:Nat):Int) (a.st.height:Int) p ⟨#[]⟩) rfl ha64 (fR 99 n) λh22 u22=>?_;simp only[cE,reduceIte,cT,Nat.reduceAdd];refine fin ((e20.trans u21).trans u22) (((D5.upd u3 (by simpa using n574)).ext u21).ext u22) ?_;rw[if_pos ⟨hr,hs⟩,if_neg (by rw[g2];simp),if_neg (by rintro(h|h);exact hA h;exact hB h),show(1-(j:Int))=((1-j:Nat):Int) by omega]
theorem aX7{h:PH}{x fv:Value}{xs:List fU}{f:fU->Bool}(hx:fQ h 8 x (xs.map fU.cells))(hl:xs.length≤1000000)
  (hf:∀p∈xs,∀h',dB h h'->∀k':Value->PH->Prop,(∀h'',dB h' h''->k' (.bool (f p)) h'')->vZ PG fv #[.agg p.cells.toArray] h' k') {k:cD}
  (hk:∀h',dB h h'->k (.bool (xs.any f)) h'):aT PG mH #[x,fv] h k:=by
 have lx:=hx.len (t':=bT) dG.und;rw[iV] at lx;apply lG.call;unfold lG;apply lS.call;unfold lS;simp only[lx,cE,reduceIte];refine⟨λvs h'=>∃i:Nat,i≤xs.length∧vs=[x,fv,.int .i64 xs.length,.int .i64 i]∧dB h h'∧∀p∈xs.take i,f p=false,gP xs.length 3,⟨0,by omega,rfl,cV.refl,by simp⟩,?_⟩;rintro ρ h' ⟨i,hi,hvs,w,hq⟩;simp only[iI,iU,kR,and_true] at hvs;obtain⟨e0,e1,e2,e5⟩:=hvs;rw[e0,e1,e2,e5];unfold rL;by_cases hlt:i<xs.length
 ·have hd:((i:Int)<(xs.length:Int))=True:=by apply eq_true;omega
  obtain⟨m,hm⟩:∃m,xs[i]? =some m:=⟨_,mB hlt⟩;obtain⟨a,a1,a2⟩:=(hx.ext w).msg (k:=.i64) (j:=(i:Int)) (by omega) (by rw[pK];exact hm);have ei:=pY (i:=i) (by omega);simp only[hd,a1,a2,cE,reduceIte];refine hf m (qB hm) _ w _ λh2 u2=>?_;cases c:f m with
  | true=>
   have h0:(0≤(i:Int))=True:=by apply eq_true;omega
   have hin:xs.any f=true:=List.any_eq_true.2 ⟨m,qB hm,c⟩;have:=hk _ (w.trans u2);rw[hin] at this;simp only[h0,cE,reduceIte];exact this
  | false=>
   simp only[ei,cE,reduceIte];refine⟨⟨i+1,by omega,rfl,w.trans u2,?_⟩,by simp[gP,e5];omega⟩;intro p hp;rw[zLT,hm] at hp;rcases jB.1 hp with hp|hp
   ·exact hq p hp
   ·simp at hp;subst hp;exact c
 ·have hd:((i:Int)<(xs.length:Int))=False:=by apply eq_false;omega
  have h0:(0≤(-1:Int))=False:=by apply eq_false;omega
  rw[nU (by omega)] at hq;have hin:xs.any f=false:=by
   rw[List.any_eq_false];intro p hp;simp[hq p hp]
  have:=hk _ w;rw[hin] at this;simp only[hd,h0,cE,reduceIte];exact this
theorem aXm{h:PH}{x:Value}{xs:List Int}(hx:fQ h 1 x (xs.map wI))(y:Int){k:cD}(hk:k (.bool (decide (y∈xs))) h):aT PG rC #[x,.int .u64 y] h k:=by
 have hsm:=hx.small;simp only[rQ,iV] at hsm;have lx:=hx.len (t':=bT) dO.und;rw[iV] at lx;apply oX.call;unfold oX;apply qN.call;unfold qN;simp only[lx,cE,reduceIte];refine⟨λvs h'=>∃i:Nat,i≤xs.length∧vs=[x,.int .u64 y,.int .i64 xs.length,.int .i64 i]∧h'=h∧y∉xs.take i,gP xs.length 3,⟨0,by omega,rfl,rfl,by simp⟩,?_⟩;rintro ρ h' ⟨i,hi,hvs,rfl,hq⟩;simp only[iI,iU,kR,and_true] at hvs;obtain⟨e0,e1,e2,e5⟩:=hvs;rw[e0,e1,e2,e5];unfold aAh;by_cases hlt:i<xs.length
 ·have hd:((i:Int)<(xs.length:Int))=True:=by apply eq_true;omega
  obtain⟨m,hm⟩:∃m,xs[i]? =some m:=⟨_,mB hlt⟩;obtain⟨a,a1,a2⟩:=hx.loadCell dO.und cA.info cA.size cA.und rfl (k:=.i64) (j:=(i:Int)) (x:=.int .u64 m) (by omega) (by rw[pK,wL,hm];rfl);have ei:=pY (i:=i) (by omega);by_cases c:y=m
  ·have q:(y==m)=true:=by simp[c]
   have h0:(0≤(i:Int))=True:=by apply eq_true;omega
   have hin:decide (y∈xs)=true:=decide_eq_true (c▸qB hm);rw[hin] at hk;simp only[hd,a1,a2,iB,q,h0,cE,reduceIte];exact hk
  ·have q:(y==m)=false:=by simp[c]
   simp only[hd,a1,a2,iB,q,ei,cE,reduceIte];refine⟨⟨i+1,by omega,rfl,by first|rfl|trivial,?_⟩,by simp[gP,e5];omega⟩;rw[zLT,hm];intro hp;rcases jB.1 hp with hp|hp
   ·exact hq hp
   ·simp at hp;exact c hp
 ·have hd:((i:Int)<(xs.length:Int))=False:=by apply eq_false;omega
  have h0:(0≤(-1:Int))=False:=by apply eq_false;omega
  rw[nU (by omega)] at hq;have hin:decide (y∈xs)=false:=decide_eq_false hq;rw[hin] at hk;simp only[hd,h0,cE,reduceIte];exact hk
theorem fU.bu(to h:Int):dD PG (build cH #[(0,.int .i64 1),(1,.int .i64 to),(2,.int .u64 h)])=some (nE to h).v:=by kernel_rfl
theorem fU.lit2v(m m':fU):jP PG (buildSlice dG 2 #[(0,m.v),(1,m'.v)])=some (.cells (m.cells++m'.cells).toArray cH,λr=>pure (.slice (some ⟨r,0,none⟩) 2 2)):=by kernel_rfl
theorem fU.lit1v(m:fU):jP PG (buildSlice dG 1 #[(0,m.v)])=some (.cells m.cells.toArray cH,λr=>pure (.slice (some ⟨r,0,none⟩) 1 1)):=by kernel_rfl
def aEr(batch:Int)(x:List fU×Bool)(more:List fU):List fU×Bool:=if x.2=true∨batch<((x.1.length+more.length:Nat):Int) then(x.1,true) else(x.1++more,false)
theorem aU5{h:PH}{r o:Nat}{cs:List Value}{v:Value}{x:List fU×Bool}{G:List Nat}(B:Bx h r cs)(h1:cs[o]? =some v)(h2:cs[o+1]? =some (.bool x.2))(O:eD h cH 8 v (x.1.map fU.cells) G)(nr:r∉G){v9:Value}{more:List fU}(S:fQ h 8 v9 (more.map fU.cells))(n9:∀a n c,v9= .slice (some a) n c->a.block≠r)(hl:x.1.length+more.length≤100000){batch:Int}{R:cD}
  (hk:∀h' v' G',Bx h' r ((cs.set (o+1) (.bool (aEr batch x more).2)).set o v')->eD h' cH 8 v' ((aEr batch x more).1.map fU.cells) G'->r∉G'->cV (r::G) h h'->(∀y∈G',y∈G∨h y=none)->R (.tuple #[]) h'):
  yL R (pT r o) (.int .i64 batch) v9 h:=by
 unfold yL;have hol:o+1<cs.length:=(zLz.1 h2).1;have lv:∀{h':PH} {c':List Value},Bx h' r c'->c'[o]? =some v->cG PG h' (loadAt dG (pT r o))=some v:=λB e=>by rw[dG.load,B.cell];exact e
 have lb:cG PG h (loadAt fY (pT r (o+1)))=some (.bool x.2):=by rw[fY.load,B.cell];exact h2
 have l1:dD PG (Builtin.len_ #[dG] bT #[v])=some (.int .i64 (x.1.length:Int)):=by
  have:=O.slR.len (t':=bT) dG.und;rw[iV] at this;exact this
 have l2:dD PG (Builtin.len_ #[dG] bT #[v9])=some (.int .i64 (more.length:Int)):=by
  have:=S.len (t':=bT) dG.und;rw[iV] at this;exact this
 have wl:IntKind.i64.wrap ((x.1.length:Int)+(more.length:Int))=((x.1.length+more.length:Nat):Int):=by rw[eX (by omega) (by omega)];omega
 have vc:fO v=true:=by
  obtain⟨a,c,e,-⟩:=O.slR.here;rw[e];rfl
 -- full, or not
 have full:aEr batch x more=(x.1,true)->cZ PG (dM fY (pT r (o+1)) (.bool true)) h λ_ h96=>dY (cG PG h96 (loadAt fY (pT r (o+1)))) λv99=>dY (dD PG (Op.unary UnOp.not v99)) λv100=>dF v100
   (dY (cG PG h96 (loadAt dG (pT r o))) λv103=>
    cZ PG (Builtin.append_ #[dG,dG] dG #[v103,v9]) h96 λv104 h105=>
    cZ PG (dM dG (pT r o) v104) h105 λ_ h109=>R (.tuple #[]) h109) (R (.tuple #[]) h96):=λe=>by
  refine fY.put B hol rfl λh3 B3 u3=>?_;have l3:cG PG h3 (loadAt fY (pT r (o+1)))=some (.bool true):=by rw[fY.load,B3.cell];simp[hol]
  simp only[l3,cE,reduceIte,cT,Nat.reduceAdd];rw[e] at hk;refine hk h3 v G ?_ (O.upd u3 (λy hy hm=>by simp only[fW] at hm;exact nr (hm▸hy))) nr (u3.mono λy hy=>.inl (by simp only[fW] at hy;simp[hy])) (λy hy=>.inl hy);have:(cs.set (o+1) (.bool true)).set o v=cs.set (o+1) (.bool true):=by
   apply List.ext_getElem?;intro i;by_cases hi:i=o
   ·subst hi;rw[List.getElem?_set_self (by simp;omega),List.getElem?_set_ne (by omega),h1]
   ·rw[List.getElem?_set_ne (Ne.symm hi)]
  rw[this];exact B3
 have room:aEr batch x more=(x.1++more,false)->cZ PG (dM fY (pT r (o+1)) (.bool false)) h λ_ h96=>dY (cG PG h96 (loadAt fY (pT r (o+1)))) λv99=>dY (dD PG (Op.unary UnOp.not v99)) λv100=>dF v100
   (dY (cG PG h96 (loadAt dG (pT r o))) λv103=>
    cZ PG (Builtin.append_ #[dG,dG] dG #[v103,v9]) h96 λv104 h105=>
    cZ PG (dM dG (pT r o) v104) h105 λ_ h109=>R (.tuple #[]) h109) (R (.tuple #[]) h96):=λe=>by
  refine fY.put B hol rfl λh3 B3 u3=>?_;have l3:cG PG h3 (loadAt fY (pT r (o+1)))=some (.bool false):=by rw[fY.load,B3.cell];simp[hol]
  have h3v:(cs.set (o+1) (.bool false))[o]? =some v:=by rw[List.getElem?_set_ne (by omega)];exact h1
  have O3:=O.upd u3 (λy hy hm=>by simp only[fW] at hm;exact nr (hm▸hy));have k3:h r≠none:=B.known
  -- the slice's cells stay
  have S3:fQ h3 8 v9 (more.map fU.cells):=S.upd u3 (λa c e hne hm=>n9 a c e hne (by simpa using hm));simp only[l3,lv B3 h3v,cE,reduceIte,cT,Nat.reduceAdd];refine jG dG.und dG.und cH.info cH.size cH.bytes cH.zero rfl (by decide) O3 S3 (fU.isCell more) (by simp only[iV];omega) ?_;intro v4 h4 G4 O4 u4 k4 _;have B4:=B3.upd u4 nr;have nr4:r∉G4:=λhm=>by
   rcases k4 r hm with hx|hx
   ·exact nr hx
   ·exact B3.known hx
  have v4c:fO v4=true:=by
   obtain⟨a,c,e,-⟩:=O4.slR.here;rw[e];rfl
  refine dG.put B4 (o:=o) (by simp;omega) v4c λh5 B5 u5=>?_;rw[←qI] at O4;rw[e] at hk;refine hk h5 v4 G4 B5 (O4.upd u5 (λy hy hm=>by simp only[fW] at hm;exact nr4 (hm▸hy))) nr4 (((u3.mono λy hy=>.inl (by simp only[fW] at hy;simp[hy])).trans (u4.mono λy hy=>.inl (by simp[hy]))).trans (u5.mono λy hy=>.inl (by simp only[fW] at hy;simp[hy]))) (λy hy=>?_);rcases k4 y hy with hx|hx
  ·exact .inl hx
  ·by_cases hy2:y=r
   ·exact absurd hx (by rw[hy2];exact B3.known)
   ·cases e9:h y with
    | none=>exact .inr rfl
    | some ob=>
     have:=u3 y ob e9 (by simpa using hy2);rw[hx] at this;cases this
 cases hx:x.2 with
 | true=>
  rw[hx] at lb;have e:aEr batch x more=(x.1,true):=by unfold aEr;rw[if_pos (.inl hx)]
  have:=full e;simp only[jE.f1,jE.f0,lb,cE,reduceIte,cT,Nat.reduceAdd] at this ⊢;exact this
 | false=>
  rw[hx] at lb;by_cases g:batch<((x.1.length+more.length:Nat):Int)
  ·have e:aEr batch x more=(x.1,true):=by unfold aEr;rw[if_pos (.inr g)]
   have g':=eq_true g;have:=full e;simp only[jE.f1,jE.f0,lb,lv B h1,l1,l2,wl,g',cE,reduceIte,cT,Nat.reduceAdd] at this ⊢;exact this
  ·have e:aEr batch x more=(x.1++more,false):=by unfold aEr;rw[if_neg (by rw[hx];simpa using g)]
   have g':=eq_false g;have:=room e;simp only[jE.f1,jE.f0,lb,lv B h1,l1,l2,wl,g',cE,reduceIte,cT,Nat.reduceAdd] at this ⊢;exact this
theorem aOR(known:List Int)(batch:Int)(x:List fU×Bool)(m:fU):aEr batch x (aAR known x.1 m)=vS known batch x m:=rfl
theorem aSr{h:PH}{r o:Nat}{cs:List Value}{v:Value}{x:List fU×Bool}{G:List Nat}(B:Bx h r cs)(h1:cs[o]? =some v)(h2:cs[o+1]? =some (.bool x.2))(O:eD h cH 8 v (x.1.map fU.cells) G)(nr:r∉G){m:fU}{kv:Value}{known:List Int}(S:fQ h 1 kv (known.map wI))(hl:x.1.length≤10000){batch:Int}{R:cD}
  (hk:∀h' v' G',Bx h' r ((cs.set (o+1) (.bool (vS known batch x m).2)).set o v')->eD h' cH 8 v' ((vS known batch x m).1.map fU.cells) G'->r∉G'->cV (r::G) h h'->(∀y∈G',y∈G∨h y=none)->R (.tuple #[]) h'):
  aT PG aCT #[pT r o,m.v,kv,.int .i64 batch] h R:=by
 apply aFH.call;unfold aFH;intro r1 hr1
 try rw[cY]
 have u1:dB h (h.set r1 (.cells (Value.cells m.v) cH)):=cV.new hr1;have B1:Bx (h.set r1 (.cells (Value.cells m.v) cH)) r1 m.cells:=Bx.new;generalize h.set r1 (.cells (Value.cells m.v) cH)=h1' at *;have lt:cG PG h1' (loadAt bT (pT r1 1))=some (.int .i64 m.dest):=by rw[bT.load,B1.cell];rfl
 have lh:cG PG h1' (loadAt cA (pT r1 2))=some (.int .u64 m.height):=by rw[cA.load,B1.cell];rfl
 simp only[cH.f1,cH.f2,lt,lh,fU.bu,cE,reduceIte,cT,Nat.reduceAdd];intro r8 hr8
 try rw[cY]
 refine cH.fill (vs:=(nE m.dest m.height).cells) hr8 rfl (fU.isC _) λh3 B8 u3=>?_;have C1:=B1.ext u3;simp only[C1.msg,fU.lit1v,cE,reduceIte,cT,Nat.reduceAdd];intro r13 hr13
 try rw[cY]
 have u4:dB h3 (h3.set r13 (.cells m.cells.toArray cH)):=cV.new hr13;have S13:fQ (h3.set r13 (.cells m.cells.toArray cH)) 8 (.slice (some ⟨r13,0,none⟩) 1 1) ([m].map fU.cells):=(eD.lit (n:=1) (fU.rows [m]) dK (by simp) (by decide) (by simp)).slR;generalize h3.set r13 (.cells m.cells.toArray cH)=h4 at *;have e4:=(u1.trans u3).trans u4;have k13:h r13=none:=(u1.trans u3).none hr13;have kr:h r≠none:=B.known;have vv:∀{h':PH},dB h h'->cG PG h' (loadAt dG (pT r o))=some v:=λu=>by rw[dG.load,(B.ext u).cell];exact h1
 refine fH ?_;simp only[jE.f0,vv e4,nH,cE,reduceIte,cT,Nat.reduceAdd];refine aX7 (O.ext e4).slR (by omega) (f:=λy=>decide (y=nE m.dest m.height)) (λy hy h' w k' hk'=>?_) λh5 u5=>?_
 ·show aT PG aEL #[y.v,pT r8 0] h' k';apply aDx.call;unfold aDx;intro q1 hq1
  try rw[cY]
  have w1:dB h' (h'.set q1 (.cells (Value.cells y.v) cH)):=cV.new hq1;have Y1:Bx (h'.set q1 (.cells (Value.cells y.v) cH)) q1 y.cells:=Bx.new;generalize h'.set q1 (.cells (Value.cells y.v) cH)=h'' at *;have Y8:cG PG h'' (loadAt cH (pT r8 0))=some (nE m.dest m.height).v:=(((B8.ext u4).ext w).ext w1).msg;have eq:=fU.eql (h:=h'') (x:=.tmp 4) (y:=.tmp 5) y (nE m.dest m.height);simp only[Y1.msg,Y8,fU.v,eq,cE,reduceIte,cT,Nat.reduceAdd];exact hk' h'' w1
 have e5:=e4.trans u5;have any:(x.1.any λy=>decide (y=nE m.dest m.height))=decide (nE m.dest m.height∈x.1):=by
  rw[zLm,List.any_eq_true,decide_eq_true_iff];constructor
  ·rintro⟨y,hy,e⟩;exact of_decide_eq_true e▸hy
  ·exact λh=>⟨_,h,decide_eq_true rfl⟩
 rw[any];have lh5:cG PG h5 (loadAt cA (pT r1 2))=some (.int .u64 m.height):=by rw[cA.load,((C1.ext u4).ext u5).cell];rfl
 have one:aAR known x.1 m=[m]->∀{h':PH},dB h5 h'->yL R (pT r o) (.int .i64 batch) (.slice (some ⟨r13,0,none⟩) 1 1) h':=λe {h'} u=>by
  have u':=e5.trans u;refine aU5 (x:=x) (B.ext u') h1 h2 (O.ext u') nr ((S13.ext u5).ext u) (λa n c e=>?_) (by simp;omega) λh9 v' G' B9 O9 n9 u9 g9=>?_
  ·cases e;exact λe=>kr (e▸k13)
  ·rw[←e,aOR] at B9 O9;exact hk h9 v' G' B9 O9 n9 (u'.upd.trans u9) (λy hy=>(g9 y hy).imp id u'.none)
 by_cases hA:nE m.dest m.height∈x.1
 ·rw[decide_eq_true hA];simp only[cH.f2,lh5,cE,reduceIte,cT,Nat.reduceAdd];exact one (by unfold aAR;rw[if_pos (.inl hA)]) cV.refl
 rw[decide_eq_false hA];simp only[cH.f2,lh5,cE,reduceIte,cT,Nat.reduceAdd];refine aXm (S.ext e5) m.height ?_;by_cases hB:m.height∈known
 ·rw[decide_eq_true hB];simp only[cE,reduceIte,cT,Nat.reduceAdd];exact one (by unfold aAR;rw[if_pos (.inr hB)]) cV.refl
 rw[decide_eq_false hB];have lu:cG PG h5 (loadAt cH (pT r8 0))=some (nE m.dest m.height).v:=((B8.ext u4).ext u5).msg;have lm:cG PG h5 (loadAt cH (pT r1 0))=some m.v:=((C1.ext u4).ext u5).msg;simp only[lu,lm,fU.lit2v,cE,reduceIte,cT,Nat.reduceAdd];intro r47 hr47;refine fH ?_
 try rw[cY]
 have u6:dB h5 (h5.set r47 (.cells ((nE m.dest m.height).cells++m.cells).toArray cH)):=cV.new hr47;have S47:fQ (h5.set r47 (.cells ((nE m.dest m.height).cells++m.cells).toArray cH)) 8 (.slice (some ⟨r47,0,none⟩) 2 2) ([nE m.dest m.height,m].map fU.cells):=(eD.lit (n:=2) (fU.rows _) dK (by simp) (by decide) (by simp)).slR;generalize h5.set r47 (.cells ((nE m.dest m.height).cells++m.cells).toArray cH)=h6 at *;have e6:=e5.trans u6;have em:aAR known x.1 m=[nE m.dest m.height,m]:=by unfold aAR;rw[if_neg (by rintro(h|h);exact hA h;exact hB h)]
 refine aU5 (x:=x) (B.ext e6) h1 h2 (O.ext e6) nr S47 (λa n c e=>?_) (by simp;omega) λh9 v' G' B9 O9 n9 u9 g9=>?_
 ·cases e;exact λe=>kr (e▸e5.none hr47)
 ·rw[←em,aOR] at B9 O9;exact hk h9 v' G' B9 O9 n9 (e6.upd.trans u9) (λy hy=>(g9 y hy).imp id e6.none)
noncomputable def aM8(s:Ch×Ch)(ps:List Pk):List fU:=ps.filterMap (qD s.1 s.2)
def aRL(k:Int)(ms:List fU):List fU:=ms.filter λm=>decide (m.dest=k)
noncomputable def oK(s:Ch×Ch)(known:List Int)(batch:Int)(ps:List Pk)(k:Int):List fU×Bool:=aHT known batch ([],false) (aRL k (aM8 s ps))
theorem aNH{c0 c1:Ch}{p:Pk}{m:fU}(h:qD c0 c1 p=some m):m.dest=0∨m.dest=1:=by
 obtain⟨hr,-,-,hc⟩:=aKL h;obtain⟨f0,f1,-⟩:=Pk.right_iff.1 hr;rcases hc with⟨-,h,-⟩|⟨-,h,-⟩|⟨-,h,-⟩<;>omega
theorem aSL{st:St}(ok:st.Ok):∃b,mR st st.height=some b:=by
 cases h:mR st st.height with
 | some b=>exact⟨b,rfl⟩
 | none=>
  have:=(aLj ok.h1).1 h;have:=ok.h1;omega
theorem aMY{s:Ch×Ch}{p:Pk}{m:fU}(h:qD s.1 s.2 p=some m):m.height=((aIp s m.dest).st.height:Int):=by
 obtain⟨hr,-,-,hc⟩:=aKL h;obtain⟨f0,f1,-⟩:=Pk.right_iff.1 hr;have hf:p.f=0∨p.f=1:=by omega
 unfold aIp;rcases hc with⟨-,h1,h2,-⟩|⟨-,h1,h2,-⟩|⟨-,h1,h2,-⟩<;>rw[h1,h2]<;>rcases hf with e|e<;>rw[e]<;>rfl
theorem aNK{s:Ch×Ch}{p:Pk}{m:fU}(h:qD s.1 s.2 p=some m):aRN m∧m.kind≠1:=by
 have h0:=aMY h;obtain⟨-,-,-,hc⟩:=aKL h;unfold aRN;omega
structure bAL(s:Ch×Ch)(k:Int)(m:fU):Prop where
 goes:aRN m
 dest:m.dest=k
 upd:m.kind=1->m=nE m.dest m.height
 blk:∃b,mR (aIp s m.dest).st m.height.toNat=some b
theorem aOL{s:Ch×Ch}(ok0:s.1.st.Ok)(ok1:s.2.st.Ok){known:List Int}{batch:Int}{ps:List Pk}{k:Int}:∀m∈(oK s known batch ps k).1,bAL s k m:=by
 refine aNo _ _ _ (λm hm=>by cases hm) λm hm=>?_;obtain⟨hm,hd⟩:=zL1.1 hm;have hd:m.dest=k:=of_decide_eq_true hd;obtain⟨p,-,hp⟩:=List.mem_filterMap.1 hm;have hat:=aMY hp;obtain⟨hg,hk⟩:=aNK hp;have hb:∃b,mR (aIp s m.dest).st m.height.toNat=some b:=by
  rw[hat,pK];unfold aIp;split
  ·exact aSL ok0
  ·exact aSL ok1
 exact⟨⟨hg,hd,λh=>absurd h hk,hb⟩,⟨⟨(by decide:(1:Int)≤1),(by decide:(1:Int)≤4),hg.2.2⟩,hd,λ_=>rfl,hb⟩⟩
theorem aSJ(known:List Int)(batch:Int):∀(ms:List fU) (x:List fU×Bool),(aHT known batch x ms).1.length≤x.1.length+2*ms.length
 | [],x=>pC _
 | m::ms,x=>by
  have h:=aSJ known batch ms (vS known batch x m);have h1:(vS known batch x m).1.length≤x.1.length+2:=by
   unfold vS;split
   ·show x.1.length≤_;omega
   ·have:=(aWw known x.1 m).2;show(x.1++aAR known x.1 m).length≤_;rw[jS];omega
  show(aHT known batch (vS known batch x m) ms).1.length≤_;rw[tM];omega
theorem aX6(s:Ch×Ch)(ps:List Pk):(aM8 s ps).length≤ps.length:=List.length_filterMap_le _ _
theorem aXr(k:Int)(ms:List fU):(aRL k ms).length≤ms.length:=aNb _ _
theorem aKe(s:Ch×Ch)(known:List Int)(batch:Int)(ps:List Pk)(k:Int):(oK s known batch ps k).1.length≤2*ps.length:=by
 have h1:=aSJ known batch (aRL k (aM8 s ps)) ([],false);have h2:=aXr k (aM8 s ps);have h3:=aX6 s ps;unfold oK;simp only[zLM] at h1;omega
theorem aN8{s:Ch×Ch}(ok0:s.1.st.Ok)(ok1:s.2.st.Ok){known:List Int}{batch:Int}{ps:List Pk}{k:Int}(hk:∀x∈known,x∈qF (aHz s k).cl):aXP s (oK s known batch ps k).1:=λi m hm h1=>by
 have hd:=(aOL ok0 ok1 m (qB hm)).dest;rcases aN5 (known:=known) (batch:=batch) (aRL k (aM8 s ps)) ([],false) (λi m h=>by simp at h) i m hm h1 with h|h
 ·exact .inl (by rw[hd];exact hk _ h)
 ·exact .inr h
theorem aR1{s:Ch×Ch}(ok0:s.1.st.Ok)(ok1:s.2.st.Ok){known:List Int}{batch:Int}{ps:List Pk}{k:Int}:aZI s (oK s known batch ps k).1:=λm hm h1=>by
 have h:=aOL ok0 ok1 m hm;exact⟨h.upd h1,h.blk⟩
theorem aE5.pass:∀(ms:List fU) {s:Ch×Ch} {n:Nat},aE5 s n->aE5 (nA s ms) (n+ms.length)
 | [],_,_,H=>H
 | m::ms,_,n,H=>by
  have:=aE5.pass ms (H.dlv m);rw[tM,show n+(ms.length+1)=n+1+ms.length by omega];exact this
theorem aNu(s:Ch×Ch)(a b:List fU):nA s (a++b)=nA (nA s a) b:=List.foldl_append
theorem aTG{s:Ch×Ch}{n:Nat}(B:aE5 s n)(hn:n≤60)(ok0:s.1.st.Ok)(ok1:s.2.st.Ok){k0 k1:List Int}(h0:∀x∈k0,x∈qF s.1.cl)(h1:∀x∈k1,x∈qF s.2.cl){batch:Int}{ps:List Pk}(hl:ps.length≤60):
  ∀m∈(oK s k0 batch ps 0).1++(oK s k1 batch ps 1).1,aIj (nA s ((oK s k0 batch ps 0).1++(oK s k1 batch ps 1).1)).1 (nA s ((oK s k0 batch ps 0).1++(oK s k1 batch ps 1).1)).2 m≠0:=by
 have m0:=aOL ok0 ok1 (known:=k0) (batch:=batch) (ps:=ps) (k:=0);have m1:=aOL ok0 ok1 (known:=k1) (batch:=batch) (ps:=ps) (k:=1);have l0:=aKe s k0 batch ps 0;have l1:=aKe s k1 batch ps 1;have a0:=aN8 ok0 ok1 (known:=k0) (batch:=batch) (ps:=ps) (k:=0) h0;have a1:=aN8 ok0 ok1 (known:=k1) (batch:=batch) (ps:=ps) (k:=1) h1;have q0:=aR1 ok0 ok1 (known:=k0) (batch:=batch) (ps:=ps) (k:=0);have q1:=aR1 ok0 ok1 (known:=k1) (batch:=batch) (ps:=ps) (k:=1);generalize (oK s k0 batch ps 0).1=L0 at *;generalize (oK s k1 batch ps 1).1=L1 at *;have M0:=aJo L0 s λm hm=>⟨(m0 m hm).goes.1,(m0 m hm).goes.2.1⟩;have M1:=aJo L1 (nA s L0) λm hm=>⟨(m1 m hm).goes.1,(m1 m hm).goes.2.1⟩;intro m hm;rw[aNu];rcases jB.1 hm with hm|hm
 ·exact aMl L0 s n B (by omega) (λm hm=>(m0 m hm).goes) q0 a0 m hm _ M1
 ·refine aMl L1 (nA s L0) (n+L0.length) (B.pass L0) (by omega) (λm hm=>(m1 m hm).goes) (λy hy hk=>?_) (λi y hy hk=>?_) m hm _ (aCS.refl _)
  ·obtain⟨e,b,hb⟩:=q1 y hy hk;exact⟨e,b,by rw[(M0.oth y.dest).at];exact hb⟩
  ·rcases a1 i y hy hk with h|h
   ·exact .inl (aMw (M0.one y.dest).cl h)
   ·exact .inr h
theorem aRD{s:Ch×Ch}{m:fU}(h:aIj s.1 s.2 m≠0):aEN s m=s:=by
 unfold aIj iK at h;unfold aEN aMj iK;split
 ·rename_i e;rw[if_pos e] at h;have:=(aKC s.2 s.1 (lP m)).1 h;rw[this]
 ·rename_i e;rw[if_neg e] at h;have:=(aKC s.1 s.2 (lP m)).1 h;rw[this]
def It.pr(i:It):Ky×Value:=(i.key,i.val)
abbrev MAt(h:PH)(m:Nat)(l:List It):Prop:=jX aZU h m (l.map It.pr)
theorem It.isCell(l:List It):∀r∈l.map It.cells,∀u∈r,fO u=true:=λr hr u hu=>by
 obtain⟨m,_,rfl⟩:=lL.1 hr;exact m.allCell u (by simpa using hu)
end
section
open Go Go.Shelf
end
section
open Go Go.Sort Go.Shelf
end
end Go.Proofs.YtppgkeodaejgcaaGreatDoor
