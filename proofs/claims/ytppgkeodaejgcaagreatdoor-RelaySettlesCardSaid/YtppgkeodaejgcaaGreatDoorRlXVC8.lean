/- The texts of this claim, put together. -/
import Derived.Test.YtppgkeodaejgcaaGreatDoorRlXVC7
set_option linter.all false
set_option maxRecDepth 100000
open Go.Instr (loadAt fieldAt indexAt extract buildSlice build)
namespace Go.Proofs.YtppgkeodaejgcaaGreatDoor
section
open Go
theorem DC.mono{c b:Nat}{s:Ch}{n n':Nat}{h:PH}{F:List Nat}(H:DC c b s n h F)(hn:n≤n'):DC c b s n' h F:=by
 obtain⟨sp,cp,bv,nv,Fx,Fr,rfl,hx,⟨F1,F2,rfl,h1,⟨F3,F4,rfl,h3,⟨F5,F6,rfl,⟨rows,r1,r2,r3⟩,⟨ns,n1,n2⟩,d5⟩,d3⟩,d1⟩,dx⟩:=H;exact⟨sp,cp,bv,nv,Fx,_,rfl,hx,⟨F1,_,rfl,h1,⟨F3,_,rfl,h3,⟨F5,F6,rfl,⟨rows,r1,by omega,r3⟩,⟨ns,n1,by omega⟩,d5⟩,d3⟩,d1⟩,dx⟩
theorem aHS{b m:Nat}{A A':List Tx}{K:List Nat}{X:mC}(g:lX X){h h':PH}{F:List Nat}(H:eO (rF b m A K) X h F)(B:Bk b m A' K h')(u:cU [b,m] h h'):eO (rF b m A' K) X h' F∧iX h F h' F:=by
 obtain⟨Fa,Fb,rfl,⟨rfl,-⟩,HX,hd⟩:=H;refine⟨⟨_,Fb,rfl,⟨rfl,B⟩,g.upd HX u (λx hx hm=>?_),hd⟩,⟨u.mono λx hx=>.inl ?_,λx hx=>.inl hx⟩⟩
 ·simp only[gP,kL,or_false] at hm;rcases hm with rfl|rfl
  ·exact hd _ (by simp) hx
  ·exact hd _ (by simp) hx
 ·simp only[gP,kL,or_false] at hx;rcases hx with rfl|rfl<;>simp
theorem aOQ{h:PH}{c b:Nat}{s:Ch}{n:Nat}{F:List Nat}{sp cp:Nat}{bv nv:Value}(P:lV c (s.dcells b sp cp bv nv) sp s.st cp s.cl bv nv n h F){k v:Tx}(h1:1≤k.length)(h2:k.length≤16)(h3:v.length≤64)(hr:¬(gG s.st.now k=none∧4096≤s.st.now.length)){kk:cE}
  (hk:∀h' F',lV c ((s.put k v).dcells b sp cp bv nv) sp (s.put k v).st cp (s.put k v).cl bv nv n h' F'->iX h F h' F'->kk (.int .i64 0) h'):aT PG nC #[pT sp 0,.string (tx k),.string (tx v)] h kk:=by
 obtain⟨Fs,⟨G,S,rfl⟩,hFs,back⟩:=P.fSt;have es:aCY s.st k v=({s.st with now:=nH s.st.now ⟨k,v⟩},0):=by
  unfold aCY;rw[if_neg (by omega),if_neg hr]
 refine aXV S k v λh5 G5 S5 u5 g5=>?_;rw[es] at S5 ⊢;obtain⟨F6,P6,s6⟩:=back (rsA sp {s.st with now:=nH s.st.now ⟨k,v⟩}) h5 (sp::G5) ⟨G5,S5,rfl⟩ ⟨u5.mono λx hx=>.inl (by simp only[fV] at hx;simp[hx]),λx hx=>by
  rcases gP.1 hx with rfl|hx
  ·exact .inl (by simp)
  ·rcases g5 x hx with hx|hx
   ·exact .inl (by simp[hx])
   ·exact .inr hx⟩
 exact hk h5 F6 P6 s6
theorem aRi{h:PH}{c b:Nat}{s:Ch}{n:Nat}{F:List Nat}{sp cp:Nat}{bv nv:Value}(P:lV c (s.dcells b sp cp bv nv) sp s.st cp s.cl bv nv n h F){k:Tx}(hr:(gG s.st.now k).isSome=true){kk:cE}
  (hk:∀h' F',lV c ((s.del k).dcells b sp cp bv nv) sp (s.del k).st cp (s.del k).cl bv nv n h' F'->iX h F h' F'->kk (.int .i64 0) h'):aT PG nQ #[pT sp 0,.string (tx k)] h kk:=by
 obtain⟨Fs,⟨G,S,rfl⟩,hFs,back⟩:=P.fSt;have es:aFA s.st k=({s.st with now:=tU s.st.now k},0):=by
  unfold aFA;rw[if_neg (λh=>by rw[h] at hr;cases hr)]
 refine aWr S k λh5 G5 S5 u5 g5=>?_;rw[es] at S5 ⊢;obtain⟨F6,P6,s6⟩:=back (rsA sp {s.st with now:=tU s.st.now k}) h5 (sp::G5) ⟨G5,S5,rfl⟩ ⟨u5.mono λx hx=>.inl (by simp only[fV] at hx;simp[hx]),λx hx=>by
  rcases gP.1 hx with rfl|hx
  ·exact .inl (by simp)
  ·rcases g5 x hx with hx|hx
   ·exact .inl (by simp[hx])
   ·exact .inr hx⟩
 exact hk h5 F6 P6 s6
theorem aV6(s:Ch)(d:Tx)(t:Nat):rD s d t=if s.st.height=18446744073709551615 then 12 else if ¬s.seq<18446744073709551615 then 12 else if (jX s d t).right=false then 1 else if ¬aJu s.cl<(t:Int) then 10 else if ¬s.st.now.length+1≤4096 then 2 else 0:=by
 unfold rD rB;by_cases c0:s.st.height=18446744073709551615
 ·rw[if_pos c0,if_pos c0]
 ·rw[if_neg c0,if_neg c0];by_cases c1:s.seq<18446744073709551615<;>cases hr:(jX s d t).right<;>by_cases c2:aJu s.cl<(t:Int)<;>by_cases c3:s.st.now.length+1≤4096<;>simp[zL,c1,hr,c2,c3]
theorem aVs{h:PH}{c b m:Nat}{s:Ch}{n:Nat}{A:List Tx}{K F:List Nat}(H:eO (rF b m A K) (DC c b s n) h F)(w:s.DOk)(hn:n≤10000)(d:Tx)(hd:d.length≤1000000){t:Nat}(ht:t<18446744073709551616){k:cE}
  (hbad:rD s d t≠0->∀h',eO (rF b m A K) (DC c b s n) h' F->iX h F h' F->k (.tuple #[Pk.v default,.int .i64 (rD s d t)]) h')
  (hok:rD s d t=0->∀h' F',eO (rF b m (oT (jX s d t)++A) K) (DC c b (s.sent (jX s d t)) (n+1)) h' F'->iX h F h' F'->k (.tuple #[(jX s d t).v,.int .i64 0]) h'):
  aT PG zH #[pT c 0,.string (tx d),.int .u64 (t:Int)] h k:=by
 apply oG.call;unfold oG;have gW:lX (eO (rF b m A K) (DC c b s n)):=(rF.good _ _ _ _).star (DC.good _ _ _ _);obtain⟨Fb,Fd,eF,⟨efb,HB⟩,Hd,hdis⟩:=id H;obtain⟨sp,cp,bv,nv,P⟩:=id Hd;obtain⟨hs,R⟩:=w.rk;have hlat:=aOB R;have hsq:=w.seq;intro r1 hr1
 try rw[cW]
 have u1:cZ h (h.set r1 (.cells (dP PG aR) aR)):=cU.new hr1;have X1:Bx (h.set r1 (.cells (dP PG aR) aR)) r1 (Pk.cells default):=aR.zbox;generalize h.set r1 (.cells (dP PG aR) aR)=h1 at *;have P1:=lV.good.ext P u1;simp only[cQ.f1,cQ.f4,fE,dl1 P1.cell,dl4 P1.cell,aWW,cG,reduceIte,cT,Nat.reduceAdd];have ep:(Pk.v ⟨s.id,(s.seq:Int),(t:Int),tx d⟩)=(jX s d t).v:=rfl;rw[ep];obtain⟨p,hp⟩:∃p,p=jX s d t:=⟨_,rfl⟩;have pwf:p.wf:=by rw[hp];exact⟨by show(0:Int)≤(s.seq:Int);omega,by show(s.seq:Int)<_;omega,by show(0:Int)≤(t:Int);omega,by show(t:Int)<_;omega⟩
 intro r10 hr10
 try rw[cW]
 have n110:r1≠r10:=X1.apart hr10;rw[←hp];refine aR.fill (vs:=p.cells) hr10 rfl (Pk.isC _) λh2 X2 u2=>?_;have e2:=u1.trans u2;have P2:=lV.good.ext P e2;have Y2:=X1.ext u2;have W2:=gW.ext H e2;have nr1:r1∉F:=λhm=>gW.known H _ hm hr1;have lp:∀{h':PH},cZ h2 h'->cD PG h' (loadAt aR (pT r10 0))=some p.v:=λu=>(X2.ext u).pk rfl;obtain⟨Fs2,⟨G2,S2,-⟩,-,-⟩:=P2.fSt
 -- what is refused
 have no:∀{h3:PH} (e:Int),cZ h2 h3->rD s d t=e->e≠0->dY (dA PG (build aR #[])) λv40=>cY PG (dN aR (pT r1 0) v40) h3 λv41 h42=>dY (cD PG h42 (loadAt aR (pT r1 0))) λv43=>k (Value.tuple #[v43,(Value.int IntKind.i64 e)]) h42:=fun {h3} e u3 he hne=>by
  simp only[Pk.zb,cG,reduceIte,cT,Nat.reduceAdd];refine aR.put (Y2.ext u3) (o:=0) (vs:=Pk.cells default) rfl (by show 0+4≤4;decide) (Pk.isC _) λh4 Y4 u4=>?_;have Y4:Bx h4 r1 (Pk.cells default):=Y4;have l4:cD PG h4 (loadAt aR (pT r1 0))=some (Pk.v default):=Y4.pk rfl;simp only[l4,cG,reduceIte,cT,Nat.reduceAdd];have:=hbad (by rw[he];exact hne) h4 (gW.upd (gW.ext W2 u3) u4 (λx hx=>by simp only[fV];rintro rfl;exact nr1 hx)) ⟨((e2.trans u3).upd (F:=F)).then u4 (λx hx=>by simp only[fV] at hx;subst hx;exact .inr hr1),λx hx=>.inl hx⟩;rw[he] at this;exact this
 have hse:=aV6 s d t;simp only[cQ.f2,fE,dl2 P2.cell,cG,reduceIte,cT,Nat.reduceAdd];refine aBj S2 ?_;by_cases c0:s.st.height=18446744073709551615
 ·have q:((s.st.height:Int)==18446744073709551615)=true:=by rw[c0];rfl
  rw[if_pos c0] at hse;simp only[hQ,q,cG,reduceIte,cT,Nat.reduceAdd];have:=no 12 cU.refl hse (by decide)
  try simp only[cG,reduceIte,cT,Nat.reduceAdd] at this
  exact this
 have q:((s.st.height:Int)==18446744073709551615)=false:=by rw[beq_eq_false_iff_ne];omega
 rw[if_neg c0] at hse;by_cases c1:s.seq<18446744073709551615
 case neg=>
  have q1:((s.seq:Int)==18446744073709551615)=true:=by rw[beq_iff_eq];omega
  rw[if_pos c1] at hse;simp only[hQ,q,q1,cQ.f4,fE,dl4 P2.cell,cG,reduceIte,cT,Nat.reduceAdd];have:=no 12 cU.refl hse (by decide)
  try simp only[cG,reduceIte,cT,Nat.reduceAdd] at this
  exact this
 have q1:((s.seq:Int)==18446744073709551615)=false:=by rw[beq_eq_false_iff_ne];omega
 rw[if_neg (by simpa using c1)] at hse;simp only[hQ,q,q1,cQ.f4,fE,dl4 P2.cell,lp cU.refl,cG,reduceIte,cT,Nat.reduceAdd];refine aHy p pwf.1 pwf.2.2.1 λh3 u3=>?_;have P3:=lV.good.ext P2 u3;rw[←hp] at hse;cases hr:p.right with
 | false=>
  rw[if_pos hr] at hse;simp only[cG,reduceIte,cT,Nat.reduceAdd];have:=no 1 u3 hse (by decide)
  try simp only[cG,reduceIte,cT,Nat.reduceAdd] at this
  exact this
 | true=>
  rw[if_neg (by rw[hr];decide)] at hse;obtain⟨Fc,KR,-,-⟩:=P3.fCl;simp only[cQ.f3,fE,dl3 P3.cell,cG,reduceIte,cT,Nat.reduceAdd];refine aSh KR (by have:=w.few;omega) R (λy hy=>(w.pos y hy).1) ?_;by_cases c2:aJu s.cl<(t:Int)
  case neg=>
   have q2:((t:Int)≤aKj hs)=True:=eq_true (by rw[←hlat];omega);rw[if_pos c2] at hse;simp only[q2,cG,reduceIte,cT,Nat.reduceAdd];have:=no 10 u3 hse (by decide)
   try simp only[cG,reduceIte,cT,Nat.reduceAdd] at this
   exact this
  have q2:((t:Int)≤aKj hs)=False:=eq_false (by rw[←hlat];omega);rw[if_neg (by simpa using c2)] at hse;simp only[q2,cG,reduceIte,cT,Nat.reduceAdd];refine aQP (s:=s) (n:=n) (b:=b) ⟨sp,cp,bv,nv,P3⟩ 1 (by decide) ?_;by_cases c3:s.st.now.length+1≤4096
  case neg=>
   have q3:=decide_eq_false c3;rw[if_pos c3] at hse;simp only[q3,cG,reduceIte,cT,Nat.reduceAdd];have:=no 2 u3 hse (by decide)
   try simp only[cG,reduceIte,cT,Nat.reduceAdd] at this
   exact this
  have q3:=decide_eq_true c3;rw[if_neg (by simpa using c3)] at hse;have hok:=hok hse;rw[←hp] at hok;have ls:∀{h':PH},cZ h2 h'->cD PG h' (loadAt cA (pT r10 1))=some (.int .u64 (s.seq:Int)):=λu=>by rw[cA.load,(X2.ext u).cell,hp];rfl
  have q99:({data:=#[99]}:ByteArray)=tx [99]:=rfl;simp only[q3,cQ.f0,cQ.f2,aR.f1,fE,dl0 P3.cell,dl2 P3.cell,ls u3,lp u3,q99,cG,reduceIte,cT,Nat.reduceAdd];refine aAL (c:=99) (n:=s.seq) (by omega) λh4 u4=>?_;have u34:=u3.trans u4;have P4:=lV.good.ext P3 u4;refine⟨lp u34,dl0 P4.cell,dl2 P4.cell,?_⟩;refine aKe (HB.ext (e2.trans u34)) pwf λh5 B5 u5=>?_;obtain⟨W5,s5⟩:=aHS (DC.good _ _ _ _) (gW.ext W2 u34) B5 u5;have offd:∀x∈Fd,x∉[b,m]:=λx hx hm=>by
   subst efb;simp only[gP,kL,or_false] at hm;rcases hm with rfl|rfl
   ·exact hdis _ (by simp) hx
   ·exact hdis _ (by simp) hx
  have P5:=lV.good.upd P4 u5 offd;have n10:r10∉F:=λhm=>gW.known (gW.ext H u1) _ hm hr10;have n10b:r10∉[b,m]:=λhm=>by
   simp only[gP,kL,or_false] at hm;rcases hm with rfl|rfl
   ·exact HB.known _ (by simp) (u1.none hr10)
   ·exact HB.known _ (by simp) (u1.none hr10)
  have n1b:r1∉[b,m]:=λhm=>by
   simp only[gP,kL,or_false] at hm;rcases hm with rfl|rfl
   ·exact HB.known _ (by simp) hr1
   ·exact HB.known _ (by simp) hr1
  have X5:=(X2.ext u34).upd u5 n10b;have Y5:=(Y2.ext u34).upd u5 n1b;refine⟨dl2 P5.cell,?_⟩
  -- the chain alone
  obtain⟨Fb5,Fd5,eF5,⟨efb5,B5'⟩,Hd5,hdis5⟩:=id W5;have hFd5:Fd5=Fd:=by
   rw[eF,efb,efb5] at eF5;exact(List.append_cancel_left eF5).symm
  subst hFd5;have nX:r10∉Fd5:=λhm=>n10 (by rw[eF];simp[hm]);have nY:r1∉Fd5:=λhm=>nr1 (by rw[eF];simp[hm]);refine aOQ P5 (by rw[wJ];decide) (by rw[wJ];decide) (aLU _) (λhh=>by omega) λh6 F6 P6 s6=>?_;obtain⟨X6,nX6⟩:=zK X5 nX s6;obtain⟨Y6,nY6⟩:=zK Y5 nY s6;have w1:IntKind.u64.wrap ((s.seq:Int)+1)=((s.seq+1:Nat):Int):=by rw[gL (by omega) (by omega)];omega
  have l4:cD PG h6 (loadAt cA (pT c 4))=some (.int .u64 (s.seq:Int)):=dl4 P6.cell;simp only[cQ.f4,fE,l4,w1,cG,reduceIte,cT,Nat.reduceAdd];obtain⟨Fx,⟨rfl,X⟩,hFx,back⟩:=P6.fBox;refine cA.put X (o:=4) (by show 4<7;decide) rfl λh7 X7 u7=>?_;have X7:Bx h7 c (((s.put (fS 99 s.seq) (mN p)).next).dcells b sp cp bv nv):=X7;obtain⟨F7,P7,s7⟩:=back (wD c (((s.put (fS 99 s.seq) (mN p)).next).dcells b sp cp bv nv)) h7 [c] ⟨rfl,X7⟩ ⟨u7,λx hx=>.inl hx⟩;obtain⟨Z7,nZ7⟩:=zK X6 nX6 s7;obtain⟨Y7,nY7⟩:=zK Y6 nY6 s7;have l7:cD PG h7 (loadAt aR (pT r10 0))=some p.v:=Z7.pk rfl;simp only[l7,cG,reduceIte,cT,Nat.reduceAdd];refine aKi (s:=(s.put (fS 99 s.seq) (mN p)).next) (n:=n) (b:=b) ⟨sp,cp,bv,nv,P7⟩ hn 1 p λh8 F8 P8 s8=>?_;obtain⟨Z8,nZ8⟩:=zK Z7 nZ7 s8;obtain⟨Y8,nY8⟩:=zK Y7 nY7 s8;have l8:cD PG h8 (loadAt aR (pT r10 0))=some p.v:=Z8.pk rfl;simp only[l8,cG,reduceIte,cT,Nat.reduceAdd];have sD:iX h5 Fd5 h8 F8:=(s6.trans s7).trans s8;have B8:Bk b m (oT p++A) K h8:=B5'.upd sD.upd (λx hx hm=>hdis5 x (by rw[efb5];exact hx) hm);have W8:eO (rF b m (oT p++A) K) (DC c b (s.sent p) (n+1)) h8 ((b::m::K)++F8):=eO.mk ⟨rfl,B8⟩ P8 (λx hx hx8=>by
   rcases sD.grow x hx8 with hh|hh
   ·exact hdis5 x (by rw[efb5];exact hx) hh
   ·exact B5'.known x hx hh)
  have sW:iX h F h8 ((b::m::K)++F8):=((iX.ext (F:=F) (e2.trans u34)).trans s5).trans ⟨sD.upd.mono λx hx=>.inl (by rw[eF];simp[hx]),λx hx=>by
   rcases jG.1 hx with hx|hx
   ·exact .inl (by rw[eF,efb];simp only[jG];exact .inl hx)
   ·rcases sD.grow x hx with hh|hh
    ·exact .inl (by rw[eF];simp[hh])
    ·exact .inr hh⟩
  have n8:r1∉(b::m::K)++F8:=λhm=>by
   rcases jG.1 hm with hm|hm
   ·exact HB.known _ hm hr1
   ·exact nY8 hm
  refine aR.put Y8 (o:=0) (vs:=p.cells) rfl (by show 0+4≤4;decide) (Pk.isC _) λh9 Y9 u9=>?_;have Y9:Bx h9 r1 p.cells:=Y9;have l9:cD PG h9 (loadAt aR (pT r1 0))=some p.v:=Y9.pk rfl;simp only[l9,cG,reduceIte,cT,Nat.reduceAdd];refine hok h9 _ (((rF.good _ _ _ _).star (DC.good _ _ _ _)).upd W8 u9 (λx hx=>by simp only[fV];rintro rfl;exact n8 hx)) ⟨sW.upd.then u9 (λx hx=>by simp only[fV] at hx;subst hx;exact .inr hr1),λx hx=>sW.grow x hx⟩
end
section
open Go Bld
structure aHb(h:PH)(a b:Nat)(s:St)(K:List Nat):Prop where
 here:∃F G,sF h a s F∧uR h b s G∧(∀x∈F,x∉b::G)∧K=F++b::G
theorem aHb.upd{h h':PH}{a b:Nat}{s:St}{K J:List Nat}(H:aHb h a b s K)(u:cU J h h')(hd:∀x∈K,x∉J):aHb h' a b s K:=by
 obtain⟨F,G,h1,h2,h3,rfl⟩:=H.here;exact⟨F,G,h1.upd u (λx hx=>hd x (by simp[hx])),h2.upd u (hd b (by simp)) (λg hg=>hd g (by simp[hg])),h3,rfl⟩
theorem aHb.ext{h h':PH}{a b:Nat}{s:St}{K:List Nat}(H:aHb h a b s K)(u:cZ h h'):aHb h' a b s K:=H.upd u (by simp)
theorem aHb.known{h:PH}{a b:Nat}{s:St}{K:List Nat}(H:aHb h a b s K):∀x∈K,h x≠none:=by
 obtain⟨F,G,h1,h2,h3,rfl⟩:=H.here;intro x hx;rcases jG.1 hx with hx|hx
 ·exact h1.known x hx
 ·exact h2.known x hx
theorem aHb.st{h:PH}{a b:Nat}{s:St}{K:List Nat}(H:aHb h a b s K):∃F,sF h a s F∧∀x∈F,x∈K:=by
 obtain⟨F,G,h1,h2,h3,rfl⟩:=H.here;exact⟨F,h1,λx hx=>by simp[hx]⟩
theorem aMq{h:PH}{b:Nat}{s:St}{G:List Nat}(H:uR h b s G)(key:Tx){k:cE}(hk:k (.tuple #[.string (tx (((gG s.now key).map Pr.v).getD [])),.bool (gG s.now key).isSome]) h):
  aT PG pF #[pT b 0,.string (tx key)] h k:=by
 apply wV.call;unfold wV;obtain⟨A,M,B,c⟩:=H.ok.up.cut key;have hg:=c.get H.ok.up;refine aOE H c ?_;have hok:=H.ok;obtain⟨nv,bv,bl,h1,h2,h3,h4,h5,h6,h7,h8,h9⟩:=H.here;rcases c.mid with e|⟨q,e,e2⟩
 ·subst e;have:gG s.now key=none:=by
   cases hx:gG s.now key with
   | none=>rfl
   | some y=>rw[hx] at hg;simp at hg
  rw[this] at hk;simp only[ne_eq,not_true_eq_false,cG,reduceIte];exact hk
 ·subst e;have hgs:gG s.now key=some q:=(zX hok.up).2 ⟨by rw[c.eq];simp,e2⟩;rw[hgs] at hk;have c0:dD h ⟨b,0,none⟩=some nv:=by simp[dD,h1]
  have hq:s.now[A.length]? =some q:=by rw[c.eq];simp
  obtain⟨bb,o,p1,-,p3,-⟩:=h2.pair hq;simp only[ne_eq,List.cons_ne_nil,not_false_eq_true,dM.f0,cJ.load,c0,p1,cM.f1,bR.load,p3,cG,reduceIte];exact hk
theorem aT6{h:PH}{b:Nat}{s:St}{G:List Nat}(H:uR h b s G)(x:Nat)(hx:x<18446744073709551616){k:cE}(hn:oK s x=none->k (.tuple #[.slice none 0 0,.int .i64 3]) h)
  (hk:∀l v,oK s x=some l->fR h 2 v (l.map Pr.cells)->aC9 v G->k (.tuple #[v,.int .i64 0]) h):aT PG uA #[pT b 0,.int .u64 (x:Int)] h k:=by
 apply pN.call;unfold pN;have hok:=H.ok;have hok1:=hok.h1;have hok2:=hok.h2;have hok3:=hok.h3;have hok4:=hok.h4;have hnone:=aNB hok1 (x:=x);have H0:=H;obtain⟨nv,bv,bl,h1,h2,h3,h4,h5,h6,h7,h8,h9⟩:=H.here;have c1:dD h ⟨b,0+1,none⟩=some (.int .u64 ((s.height-(s.blocks.length-1):Nat):Int)):=by simp[dD,h1]
 have c2:dD h ⟨b,0+2,none⟩=some bv:=by simp[dD,h1]
 by_cases d1:x<s.height-(s.blocks.length-1)
 ·have g1:((x:Int)<((s.height-(s.blocks.length-1):Nat):Int))=True:=eq_true (by omega);simp only[dM.f1,cA.load,c1,g1,aMu,aLp,cG,reduceIte];exact hn (hnone.2 (by omega))
 have g1:((x:Int)<((s.height-(s.blocks.length-1):Nat):Int))=False:=eq_false (by omega);simp only[dM.f1,cA.load,c1,g1,cG,reduceIte];refine aBj H0 ?_;by_cases d2:s.height<x
 ·have g2:((s.height:Int)<(x:Int))=True:=eq_true (by omega);simp only[g2,cG,reduceIte];exact hn (hnone.2 (by omega))
 have g2:((s.height:Int)<(x:Int))=False:=eq_false (by omega);have hs:∃l,oK s x=some l:=by
  cases e:oK s x with
  | none=>have:=hnone.1 e;omega
  | some l=>exact⟨l,rfl⟩
 obtain⟨l,hl⟩:=hs;obtain⟨-,hidx⟩:=aJ0 hl;have hi:s.blocks.length-1-(s.height-x)=x-(s.height-(s.blocks.length-1)):=by omega
 have w1:IntKind.u64.wrap ((x:Int)-((s.height-(s.blocks.length-1):Nat):Int))=((x-(s.height-(s.blocks.length-1)):Nat):Int):=by rw[gL (by omega) (by omega)];omega
 rw[hi] at hidx;generalize x-(s.height-(s.blocks.length-1))=j at *;rw[←h5,vD] at hidx;obtain⟨⟨v,l'⟩,hy,e⟩:=Option.map_eq_some_iff.1 hidx;simp only at e;subst e;have hmem:=rC hy;obtain⟨pa,p1,p2⟩:=h3.loadCell (t:=fC) (k:=.u64) (j:=(j:Int)) (x:=v) fC.und cJ.info cJ.size cJ.und rfl (by omega) (by rw[pQ,vD,hy];rfl);simp only[g2,dM.f1,dM.f2,cA.load,fC.load,c1,c2,w1,p1,p2,cG,reduceIte];exact hk _ v hl (h4 _ hmem).1 (h4 _ hmem).2
theorem aUU{h:PH}{b:Nat}{s:St}{G:List Nat}(H:uR h b s G){bk m:Nat}{A:List Tx}{c:Bool}{K:List Nat}(B:vF h bk m A c K)(hd:∀x∈G,x≠bk∧x≠m)(x:Nat)(hx:x<18446744073709551616){k:cE}(hn:oK s x=none->k (.tuple #[.string (tx []),.int .i64 3]) h)
  (hk:∀l h' c',oK s x=some l->vF h' bk m (rR l++A) c' K->(c=true->c'=true)->cU [bk,m] h h'->k (.tuple #[.string (tx (lB l)),.int .i64 0]) h'):aT PG zG #[pT b 0,pT bk 0,.int .u64 (x:Int)] h k:=by
 apply vU.call;unfold vU;refine aT6 H x hx (λhs=>?_) (λl v hs S hv=>?_)
 ·simp only[show((3:Int) !=0)=true from rfl,cG,reduceIte];exact hn hs
 ·simp only[show((0:Int) !=0)=false from rfl,bne_self_eq_false,cG,reduceIte];have hb:=H.ok.blk l (by
   obtain⟨-,h2⟩:=aJ0 hs;exact rC h2)
  refine aPr B (by omega) S (λa n c e=>by
   have:=hd _ (hv a n c e);simp[this]) (λp hp=>by have:=hb.2.1 p hp;unfold aN3 at this;omega) λh' c' B' hc u=>?_
  exact hk l h' c' hs B' hc u
end
section
open Go
theorem aEq{b m:Nat}{A:List Tx}{K:List Nat}{X:mC}{h:PH}{F:List Nat}(H:eO (rF b m A K) X h F):∃Fd,X h Fd∧Bk b m A K h∧F=(b::m::K)++Fd∧∀x∈b::m::K,x∉Fd:=by
 obtain⟨Fa,Fb,rfl,⟨rfl,B⟩,HX,hd⟩:=H;exact⟨Fb,HX,B,rfl,hd⟩
theorem aHJ{b m:Nat}{A:List Tx}{K:List Nat}{X':mC}{h h':PH}{Fd Fd':List Nat}(B:Bk b m A K h)(hd:∀x∈b::m::K,x∉Fd)(HX:X' h' Fd')(s:iX h Fd h' Fd'):eO (rF b m A K) X' h' ((b::m::K)++Fd')∧iX h ((b::m::K)++Fd) h' ((b::m::K)++Fd'):=by
 refine⟨eO.mk ⟨rfl,B.upd s.upd (λx hx hm=>hd x hx hm)⟩ HX (λx hx hx8=>?_),⟨s.upd.mono λx hx=>.inl (by simp[hx]),λx hx=>?_⟩⟩
 ·rcases s.grow x hx8 with hh|hh
  ·exact hd x hx hh
  ·exact B.known x hx hh
 ·rcases jG.1 hx with hx|hx
  ·exact .inl (zLk _ hx)
  ·rcases s.grow x hx with hh|hh
   ·exact .inl (zLl _ hh)
   ·exact .inr hh
theorem rF.mono{b m:Nat}{A B:List Tx}{K:List Nat}{X:mC}{h:PH}{F:List Nat}(H:eO (rF b m A K) X h F)(hs:∀a∈B,a∈A):eO (rF b m B K) X h F:=by
 obtain⟨Fa,Fb,rfl,⟨rfl,B'⟩,HX,hd⟩:=H;exact⟨_,Fb,rfl,⟨rfl,B'.mono hs⟩,HX,hd⟩
theorem aLb{b m:Nat}{K Fd:List Nat}(hd:∀x∈b::m::K,x∉Fd):∀x∈Fd,x∉[b,m]:=λx hx hm=>by
 simp only[gP,kL,or_false] at hm;rcases hm with rfl|rfl
 ·exact hd _ (by simp) hx
 ·exact hd _ (by simp) hx
theorem aZP{s:Ch}(w:s.DOk){p:Pk}(hr:p.right=true):(p.f==1-s.id)=!(p.f==s.id):=by
 obtain⟨h1,h2,-⟩:=Pk.right_iff.1 hr;have:=w.id;rw[zLm];simp only[beq_iff_eq,Bool.not_eq_true',beq_eq_false_iff_ne,ne_eq];omega
noncomputable def aJZ(s:Ch)(p:Pk)(pf:Tx)(x:Int):Int:=rB s (tO s p pf x)
theorem aUz(s:Ch)(p:Pk)(pf:Tx)(x:Int):aJZ s p pf x=if s.st.height=18446744073709551615 then 12 else if (p.right&&(p.f==1-s.id))=false then 1 else if ¬IntKind.u64.wrap ((s.st.height:Int)+1)<p.t then 10 else if (gG s.st.now (fS 114 p.s.toNat)).isSome=true then 4 else if (kO s.cl x).isSome=false then 11 else if aCd (pX s.cl x) pf (fS 99 p.s.toNat) (mN p)=false then 9 else if ¬s.st.now.length+2≤4096 then 2 else 0:=by
 unfold aJZ rB tO;by_cases c0:s.st.height=18446744073709551615
 ·rw[if_pos c0,if_pos c0]
 ·rw[if_neg c0,if_neg c0];generalize (p.right&&(p.f==1-s.id))=b1;generalize aCd (pX s.cl x) pf (fS 99 p.s.toNat) (mN p)=b2;generalize (kO s.cl x).isSome=b3;generalize (gG s.st.now (fS 114 p.s.toNat)).isSome=b4;by_cases c2:IntKind.u64.wrap ((s.st.height:Int)+1)<p.t<;>by_cases c3:s.st.now.length+2≤4096<;>cases b1<;>cases b2<;>cases b3<;>cases b4<;>simp[zL,c2,c3]
theorem aMv(l:List gY)(x:Int):(kO l x).getD ⟨#[]⟩=tx (pX l x):=by
 unfold pX;exact(aIh _).symm
theorem aUY{h:PH}{c b m:Nat}{s:Ch}{n:Nat}{A:List Tx}{K F:List Nat}(H:eO (rF b m A K) (DC c b s n) h F)(w:s.DOk)(hn:n≤10000){p:Pk}(pw:p.wf){pf:Tx}(hpf:pf.length≤1000000){x:Nat}(hx:x<18446744073709551616){k:cE}
  (hbad:aJZ s p pf (x:Int)≠0->∀h',eO (rF b m A K) (DC c b s n) h' F->iX h F h' F->k (.int .i64 (aJZ s p pf (x:Int))) h')
  (hok:aJZ s p pf (x:Int)=0->∀h' F',eO (rF b m ((aFw p++(aGc pf++oT p))++A) K) (DC c b (s.received p) (n+1)) h' F'->iX h F h' F'->k (.int .i64 0) h'):
  aT PG zD #[pT c 0,p.v,.string (tx pf),.int .u64 (x:Int)] h k:=by
 apply oF.call;unfold oF;have gX:∀s n,lX (DC c b s n):=λ_ _=>DC.good _ _ _ _;have gW:lX (eO (rF b m A K) (DC c b s n)):=(rF.good _ _ _ _).star (gX _ _);obtain⟨Fd,Hd,HB,eF,hdis⟩:=aEq H;subst eF;obtain⟨sp,cp,bv,nv,P⟩:=id Hd;have offd:=aLb hdis;obtain⟨q,hq⟩:=zLn pw.1;have hq2:q<18446744073709551616:=by have:=pw.2.1;omega
 have hqn:p.s.toNat=q:=by omega
 intro r1 hr1
 try rw[cW]
 have u1:cZ h (h.set r1 (.cells (Value.cells p.v) aR)):=cU.new hr1;have X1:Bx (h.set r1 (.cells (Value.cells p.v) aR)) r1 p.cells:=Bx.new;generalize h.set r1 (.cells (Value.cells p.v) aR)=h1 at *;have P1:=lV.good.ext P u1;have lp:∀{h':PH},cZ h1 h'->cD PG h' (loadAt aR (pT r1 0))=some p.v:=λu=>(X1.ext u).pk rfl;have lf:∀{h':PH},cZ h1 h'->cD PG h' (loadAt bT (pT r1 0))=some (.int .i64 p.f):=λu=>by rw[bT.load,(X1.ext u).cell];rfl
 have ls:∀{h':PH},Bx h' r1 p.cells->cD PG h' (loadAt cA (pT r1 1))=some (.int .u64 (q:Int)):=λX=>by rw[cA.load,X.cell,←hq];rfl
 have lt:∀{h':PH},cZ h1 h'->cD PG h' (loadAt cA (pT r1 2))=some (.int .u64 p.t):=λu=>by rw[cA.load,(X1.ext u).cell];rfl
 have no:∀{h3:PH} (e:Int),cZ h1 h3->aJZ s p pf (x:Int)=e->e≠0->k (.int .i64 e) h3:=fun {h3} e u3 he hne=>by
  have:=hbad (by rw[he];exact hne) h3 (gW.ext H (u1.trans u3)) (iX.ext (u1.trans u3));rw[he] at this;exact this
 have hse:=aUz s p pf (x:Int);obtain⟨Fs1,⟨G1,S1,-⟩,-,-⟩:=P1.fSt;simp only[cQ.f2,fE,dl2 P1.cell,cG,reduceIte,cT,Nat.reduceAdd];refine aBj S1 ?_;by_cases c0:s.st.height=18446744073709551615
 ·have q0:((s.st.height:Int)==18446744073709551615)=true:=by rw[c0];rfl
  rw[if_pos c0] at hse;simp only[hQ,q0,cG,reduceIte,cT,Nat.reduceAdd];exact no 12 cU.refl hse (by decide)
 have q0:((s.st.height:Int)==18446744073709551615)=false:=by rw[beq_eq_false_iff_ne];omega
 rw[if_neg c0] at hse;simp only[hQ,q0,lp cU.refl,cG,reduceIte,cT,Nat.reduceAdd];refine aHy p pw.1 pw.2.2.1 λh2 u2=>?_;have P2:=lV.good.ext P1 u2;cases hr:p.right with
 | false=>
  rw[hr,wT,if_pos rfl] at hse;simp only[cG,reduceIte,cT,Nat.reduceAdd];exact no 1 u2 hse (by decide)
 | true=>
  rw[hr,zLp,aZP w hr] at hse;cases hf:p.f==s.id with
  | true=>
   rw[hf,Bool.not_true,if_pos rfl] at hse;simp only[aR.f0,cQ.f1,fE,lf u2,dl1 P2.cell,hQ,hf,cG,reduceIte,cT,Nat.reduceAdd];exact no 1 u2 hse (by decide)
  | false=>
   rw[hf,zLq,if_neg (by decide)] at hse;obtain⟨Fs2,⟨G2,S2,-⟩,-,-⟩:=P2.fSt;simp only[aR.f0,aR.f2,cQ.f1,cQ.f2,fE,lf u2,lt u2,dl1 P2.cell,dl2 P2.cell,hQ,hf,cG,reduceIte,cT,Nat.reduceAdd];refine aBj S2 ?_;refine⟨lt u2,?_⟩;by_cases c2:IntKind.u64.wrap ((s.st.height:Int)+1)<p.t
   case neg=>
    have g:(p.t≤IntKind.u64.wrap ((s.st.height:Int)+1))=True:=eq_true (by omega);rw[if_pos c2] at hse;simp only[g,cG,reduceIte,cT,Nat.reduceAdd];exact no 10 u2 hse (by decide)
   have g:(p.t≤IntKind.u64.wrap ((s.st.height:Int)+1))=False:=eq_false (by omega);rw[if_neg (by simpa using c2)] at hse;have q114:({data:=#[114]}:ByteArray)=tx [114]:=rfl;have q99:({data:=#[99]}:ByteArray)=tx [99]:=rfl;have q97:({data:=#[97]}:ByteArray)=tx [97]:=rfl;simp only[g,cQ.f2,aR.f1,fE,dl2 P2.cell,ls (X1.ext u2),q114,cG,reduceIte,cT,Nat.reduceAdd];refine aAL (c:=114) (n:=q) hq2 λh3 u3=>?_;have u13:=u2.trans u3;have P3:=lV.good.ext P2 u3;obtain⟨Fs3,⟨G3,S3,-⟩,-,-⟩:=P3.fSt;refine⟨dl2 P3.cell,?_⟩;refine aMq S3 _ ?_;rw[hqn] at hse;cases hg:(gG s.st.now (fS 114 q)).isSome with
   | true=>
    rw[hg,if_pos rfl] at hse;simp only[cG,reduceIte,cT,Nat.reduceAdd];exact no 4 u13 hse (by decide)
   | false=>
    rw[hg,if_neg (by decide)] at hse;obtain⟨Fc,KR,-,-⟩:=P3.fCl;simp only[cQ.f3,fE,dl3 P3.cell,cG,reduceIte,cT,Nat.reduceAdd];refine aKT KR (by have:=w.few;omega) (x:Int) ?_;rw[aMv];cases hro:(kO s.cl (x:Int)).isSome with
    | false=>
     rw[hro,if_pos rfl] at hse;simp only[cG,reduceIte,cT,Nat.reduceAdd];exact no 11 u13 hse (by decide)
    | true=>
     rw[hro,if_neg (by decide)] at hse;simp only[cQ.f0,aR.f1,fE,dl0 P3.cell,ls (X1.ext u13),lp u13,q99,cG,reduceIte,cT,Nat.reduceAdd];refine aAL (c:=99) (n:=q) hq2 λh4 u4=>?_;have u14:=u13.trans u4;have P4:=lV.good.ext P3 u4;refine⟨lp u14,dl0 P4.cell,dl0 P4.cell,?_⟩;refine aKe (HB.ext (u1.trans u14)) pw λh5 B5 u5=>?_;have P5:=lV.good.upd P4 u5 offd;refine⟨dl0 P5.cell,?_⟩;refine aR4 B5 (by omega) λh6 B6 u6=>?_;have P6:=lV.good.upd P5 u6 offd;have u46:cU [b,m] h4 h6:=u5.trans u6;have B6':Bk b m ((aGc pf++oT p)++A) K h6:=B6.mono λa ha=>by
      simp only[jG] at ha ⊢;rcases ha with(ha|ha)|ha
      ·exact .inl ha
      ·exact .inr (.inl ha)
      ·exact .inr (.inr ha)
     obtain⟨W6,s6⟩:=aHS (gX s n) (gW.ext H (u1.trans u14)) B6' u46;have sh6:=(iX.ext (F:=(b::m::K)++Fd) (u1.trans u14)).trans s6;have n1b:r1∉[b,m]:=(eD.one hr1).off (HB.known b (by simp)) (HB.known m (by simp)) r1 (by simp);have X6:=(X1.ext u14).upd u46 n1b;have nX:r1∉Fd:=λhm=>(gX s n).known Hd _ hm hr1;have no2:∀(e:Int),aJZ s p pf (x:Int)=e->e≠0->k (.int .i64 e) h6:=λe he hne=>by
      have:=hbad (by rw[he];exact hne) h6 (rF.mono W6 λa ha=>by simp[ha]) sh6;rw[he] at this;exact this
     cases hh:aCd (pX s.cl (x:Int)) pf (fS 99 q) (mN p) with
     | false=>
      rw[hh,if_pos rfl] at hse;simp only[cG,reduceIte,cT,Nat.reduceAdd];exact no2 9 hse (by decide)
     | true=>
      rw[hh,if_neg (by decide)] at hse;simp only[cG,reduceIte,cT,Nat.reduceAdd];refine aQP (s:=s) (n:=n) (b:=b) ⟨sp,cp,bv,nv,P6⟩ 2 (by decide) ?_;by_cases c3:s.st.now.length+2≤4096
      case neg=>
       have q3:=decide_eq_false c3;rw[if_pos c3] at hse;simp only[q3,cG,reduceIte,cT,Nat.reduceAdd];exact no2 2 hse (by decide)
      have q3:=decide_eq_true c3;rw[if_neg (by simpa using c3)] at hse;have hok:=hok hse;simp only[q3,cQ.f2,aR.f1,fE,dl2 P6.cell,ls X6,q114,cG,reduceIte,cT,Nat.reduceAdd];refine aAL (c:=114) (n:=q) hq2 λh7 u7=>?_;have P7:=lV.good.ext P6 u7;refine⟨dl2 P7.cell,?_⟩;have t1:({data:=#[1]}:ByteArray)=tx [1]:=rfl;rw[t1];refine aOQ P7 (by rw[wJ];decide) (by rw[wJ];decide) (by decide) (λhh=>by omega) λh8 F8 P8 s8=>?_;obtain⟨X8,nX8⟩:=zK (X6.ext u7) nX s8;have l8:cD PG h8 (loadAt aR (pT r1 0))=some p.v:=X8.pk rfl
      -- the book's turn
      obtain⟨W8,sW8⟩:=aHJ (X':=DC c b (s.put (fS 114 q) [1]) n) (B6'.ext u7) hdis ⟨sp,cp,bv,nv,P8⟩ s8;obtain⟨F8',Hd8,B8,eF8,hdis8⟩:=aEq W8;have eF8':F8'=F8:=(List.append_cancel_left eF8).symm;subst eF8';have hfit:(nH s.st.now ⟨fS 114 q,[1]⟩).length≤s.st.now.length+1:=by
       unfold nH;rw[jP,rN];have hpar:∀L:List Pr,(L.filter λq'=>decide (q'.k<fS 114 q)).length+(L.filter λq'=>decide (fS 114 q<q'.k)).length≤L.length:=λL=>by
        induction L with
        | nil=>simp
        | cons y L ih=>
         simp only[List.filter_cons];by_cases c1:y.k<fS 114 q
         ·have c2:¬fS 114 q<y.k:=List.lt_asymm c1;simp only[c1,c2,decide_true,decide_false,if_true,zLt,if_false,rN];omega
         ·by_cases c2:fS 114 q<y.k
          ·simp only[c1,c2,decide_true,decide_false,if_true,zLt,if_false,rN];omega
          ·simp only[c1,c2,decide_false,zLt,if_false,rN];omega
       have:=hpar s.st.now;show(s.st.now.filter λq'=>decide (q'.k<fS 114 q)).length+((s.st.now.filter λq'=>decide (fS 114 q<q'.k)).length+1)≤_;omega
      simp only[cQ.f0,cQ.f2,aR.f1,fE,dl2 P8.cell,dl0 P8.cell,ls X8,l8,q97,cG,reduceIte,cT,Nat.reduceAdd];refine aAL (c:=97) (n:=q) hq2 λh9 u9=>?_;have P9:=lV.good.ext P8 u9;have X9:=X8.ext u9;have l9:cD PG h9 (loadAt aR (pT r1 0))=some p.v:=X9.pk rfl;refine⟨l9,dl0 P9.cell,dl2 P9.cell,?_⟩;refine aNG (B8.ext u9) pw λh10 B10 u10=>?_;have P10:=lV.good.upd P9 u10 (aLb hdis8);obtain⟨W10,s10⟩:=aHS (gX _ n) (((rF.good _ _ _ _).star (gX _ n)).ext W8 u9) B10 u10;have X10:=X9.upd u10 n1b;refine⟨dl2 P10.cell,?_⟩;refine aOQ (s:=s.put (fS 114 q) [1]) P10 (by rw[wJ];decide) (by rw[wJ];decide) (aQA _) (λhh=>?_) λh11 F11 P11 s11=>?_
      ·have h2:4096≤(nH s.st.now ⟨fS 114 q,[1]⟩).length:=hh.2;omega
      obtain⟨X11,nX11⟩:=zK X10 nX8 s11;have l11:cD PG h11 (loadAt aR (pT r1 0))=some p.v:=X11.pk rfl;simp only[l11,cG,reduceIte,cT,Nat.reduceAdd];refine aKi (s:=(s.put (fS 114 q) [1]).put (fS 97 q) (aBs p)) (n:=n) (b:=b) ⟨sp,cp,bv,nv,P11⟩ hn 2 p λh12 F12 P12 s12=>?_;have hdis10:=hdis8;obtain⟨W12,sW12⟩:=aHJ (X':=DC c b (s.received p) (n+1)) B10 hdis10 (by
       unfold Ch.received;rw[hqn];exact P12) (s11.trans s12)
      refine hok h12 _ (rF.mono W12 λa ha=>?_) ?_
      ·simp only[jG] at ha ⊢;rcases ha with(ha|ha|ha)|ha
       ·exact .inl ha
       ·exact .inr (.inl (.inl ha))
       ·exact .inr (.inl (.inr ha))
       ·exact .inr (.inr ha)
      ·exact(((sh6.trans (iX.ext u7)).trans sW8).trans (iX.ext u9)).trans (s10.trans sW12)
noncomputable def aDU(s:Ch)(p:Pk):Int:=rB s [(1,p.right&&(p.f==s.id)),(3,oV s p)]
theorem aQL(s:Ch)(p:Pk):aDU s p=if s.st.height=18446744073709551615 then 12 else if (p.right&&(p.f==s.id))=false then 1 else if oV s p=false then 3 else 0:=by
 unfold aDU rB;by_cases c0:s.st.height=18446744073709551615
 ·rw[if_pos c0,if_pos c0]
 ·rw[if_neg c0,if_neg c0];generalize (p.right&&(p.f==s.id))=b1;generalize oV s p=b2;cases b1<;>cases b2<;>simp[zL]
theorem aNF(s:Ch)(p:Pk)(l:List (Int×Bool)):jI s p l=if aDU s p=0 then zL l else aDU s p:=by
 unfold jI aDU rB;by_cases c0:s.st.height=18446744073709551615
 ·rw[if_pos c0,if_pos c0];rfl
 ·rw[if_neg c0,if_neg c0];generalize (p.right&&(p.f==s.id))=b1;generalize oV s p=b2;cases b1<;>cases b2<;>simp[zL]
theorem aQC{h:PH}{c b m:Nat}{s:Ch}{n:Nat}{A:List Tx}{K F:List Nat}{sp cp:Nat}{bv nv:Value}(HB:Bk b m A K h)(P:lV c (s.dcells b sp cp bv nv) sp s.st cp s.cl bv nv n h F){p:Pk}(pw:p.wf){k:cE}
  (hk:∀h',Bk b m ((if aDU s p=0 then oT p else [])++A) K h'->cU [b,m] h h'->k (.int .i64 (aDU s p)) h'):
  aT PG rU #[pT c 0,p.v] h k:=by
 apply oI.call;unfold oI;obtain⟨q,hq⟩:=zLn pw.1;have hq2:q<18446744073709551616:=by have:=pw.2.1;omega
 have hqn:p.s.toNat=q:=by omega
 intro r1 hr1
 try rw[cW]
 have u1:cZ h (h.set r1 (.cells (Value.cells p.v) aR)):=cU.new hr1;have X1:Bx (h.set r1 (.cells (Value.cells p.v) aR)) r1 p.cells:=Bx.new;generalize h.set r1 (.cells (Value.cells p.v) aR)=h1 at *;have P1:=lV.good.ext P u1;have lp:∀{h':PH},cZ h1 h'->cD PG h' (loadAt aR (pT r1 0))=some p.v:=λu=>(X1.ext u).pk rfl;have lf:∀{h':PH},cZ h1 h'->cD PG h' (loadAt bT (pT r1 0))=some (.int .i64 p.f):=λu=>by rw[bT.load,(X1.ext u).cell];rfl
 have ls:∀{h':PH},cZ h1 h'->cD PG h' (loadAt cA (pT r1 1))=some (.int .u64 (q:Int)):=λu=>by rw[cA.load,(X1.ext u).cell,←hq];rfl
 have hse:=aQL s p;have no:∀{h3:PH} (e:Int),cZ h1 h3->aDU s p=e->e≠0->k (.int .i64 e) h3:=fun {h3} e u3 he hne=>by
  have:=hk h3 (by rw[if_neg (by rw[he];exact hne)];exact HB.ext (u1.trans u3)) (u1.trans u3).upd;rw[he] at this;exact this
 obtain⟨Fs1,⟨G1,S1,-⟩,-,-⟩:=P1.fSt;simp only[cQ.f2,fE,dl2 P1.cell,cG,reduceIte,cT,Nat.reduceAdd];refine aBj S1 ?_;by_cases c0:s.st.height=18446744073709551615
 ·have q0:((s.st.height:Int)==18446744073709551615)=true:=by rw[c0];rfl
  rw[if_pos c0] at hse;simp only[hQ,q0,cG,reduceIte,cT,Nat.reduceAdd];exact no 12 cU.refl hse (by decide)
 have q0:((s.st.height:Int)==18446744073709551615)=false:=by rw[beq_eq_false_iff_ne];omega
 rw[if_neg c0] at hse;simp only[hQ,q0,lp cU.refl,cG,reduceIte,cT,Nat.reduceAdd];refine aHy p pw.1 pw.2.2.1 λh2 u2=>?_;have P2:=lV.good.ext P1 u2;cases hr:p.right with
 | false=>
  rw[hr,wT,if_pos rfl] at hse;simp only[cG,reduceIte,cT,Nat.reduceAdd];exact no 1 u2 hse (by decide)
 | true=>
  rw[hr,zLp] at hse;cases hf:p.f==s.id with
  | false=>
   rw[hf,if_pos rfl] at hse;have hf':(p.f !=s.id)=true:=by rw[bne,hf];rfl
   simp only[aR.f0,cQ.f1,fE,lf u2,dl1 P2.cell,kE,hf',cG,reduceIte,cT,Nat.reduceAdd];exact no 1 u2 hse (by decide)
  | true=>
   rw[hf,if_neg (by decide)] at hse;have hf':(p.f !=s.id)=false:=by rw[bne,hf];rfl
   have q99:({data:=#[99]}:ByteArray)=tx [99]:=rfl;simp only[aR.f0,aR.f1,cQ.f1,cQ.f2,fE,lf u2,ls u2,dl1 P2.cell,dl2 P2.cell,kE,hf',q99,cG,reduceIte,cT,Nat.reduceAdd];refine aAL (c:=99) (n:=q) hq2 λh3 u3=>?_;have u13:=u2.trans u3;have P3:=lV.good.ext P2 u3;obtain⟨Fs3,⟨G3,S3,-⟩,-,-⟩:=P3.fSt;refine⟨dl2 P3.cell,?_⟩;refine aMq S3 _ ?_;have hsp:oV s p=match gG s.st.now (fS 99 q) with|some y=>decide (y.v=mN p)|none=>false:=by unfold oV;rw[hqn];rfl
   cases hg:gG s.st.now (fS 99 q) with
   | none=>
    rw[hg] at hsp;rw[hsp,if_pos rfl] at hse;simp only[zLu,cG,reduceIte,cT,Nat.reduceAdd];exact no 3 u13 hse (by decide)
   | some y=>
    rw[hg] at hsp;simp only[aLv,aII,aIA,cQ.f0,fE,dl0 P3.cell,lp u13,cG,reduceIte,cT,Nat.reduceAdd];refine aKe (HB.ext (u1.trans u13)) pw λh4 B4 u4=>?_;have hu:cU [b,m] h h4:=(u1.trans u13).upd.trans u4;by_cases he:y.v=mN p
    ·have hsp':oV s p=true:=by rw[hsp];exact decide_eq_true he
     rw[hsp',if_neg (by decide)] at hse;have d1:(!decide (y.v=mN p))=false:=by rw[decide_eq_true he];rfl
     simp only[aDY,d1,cG,reduceIte,cT,Nat.reduceAdd];have:=hk h4 (by rw[if_pos hse];exact B4) hu;rw[hse] at this;exact this
    ·have hsp':oV s p=false:=by rw[hsp];exact decide_eq_false he
     rw[hsp',if_pos rfl] at hse;have d1:(!decide (y.v=mN p))=true:=by rw[decide_eq_false he];rfl
     simp only[aDY,d1,cG,reduceIte,cT,Nat.reduceAdd];have:=hk h4 (by rw[if_neg (by rw[hse];decide)];exact B4.mono λa ha=>zLl _ ha) hu;rw[hse] at this;exact this
theorem aZf(s:Ch)(p:Pk)(pf:Tx)(x:Int):zL (xS s p pf x)=if (kO s.cl x).isSome=false then 11 else if aCd (pX s.cl x) pf (fS 97 p.s.toNat) (aBs p)=false then 9 else 0:=by
 unfold xS;generalize (kO s.cl x).isSome=b1;generalize aCd (pX s.cl x) pf (fS 97 p.s.toNat) (aBs p)=b2;cases b1<;>cases b2<;>simp[zL]
theorem aY6(s:Ch)(p:Pk)(pf:Tx)(x:Int):zL (qQ s p pf x)=if (kO s.cl x).isSome=false then 11 else if ¬IntKind.u64.wrap (p.t-1)≤x then 11 else if aCX (pX s.cl x) pf (fS 114 p.s.toNat)=false then 9 else 0:=by
 unfold qQ;generalize (kO s.cl x).isSome=b1;generalize aCX (pX s.cl x) pf (fS 114 p.s.toNat)=b2;by_cases c:IntKind.u64.wrap (p.t-1)≤x<;>cases b1<;>cases b2<;>simp[zL,c]
theorem aPI{s:Ch}{p:Pk}(h:oV s p=true):(gG s.st.now (fS 99 p.s.toNat)).isSome=true:=by
 unfold oV at h;cases hg:gG s.st.now (fS 99 p.s.toNat) with
 | none=>rw[hg] at h;cases h
 | some y=>rfl
theorem aO4{s:Ch}{p:Pk}(h:aDU s p=0):oV s p=true∧p.right=true∧p.f=s.id:=by
 rw[aQL] at h;split at h
 ·simp at h
 ·split at h
  ·simp at h
  ·rename_i h1;split at h
   ·simp at h
   ·rename_i h2;simp only[Bool.not_eq_false,yE,beq_iff_eq] at h1 h2;exact⟨h2,h1⟩
theorem aW6{h:PH}{c b m:Nat}{s:Ch}{n:Nat}{A:List Tx}{K F:List Nat}(H:eO (rF b m A K) (DC c b s n) h F)(w:s.DOk)(hn:n≤10000){p:Pk}(pw:p.wf){pf:Tx}(hpf:pf.length≤1000000){x:Nat}(hx:x<18446744073709551616){k:cE}
  (hbad:jI s p (xS s p pf (x:Int))≠0->∀h',eO (rF b m A K) (DC c b s n) h' F->iX h F h' F->k (.int .i64 (jI s p (xS s p pf (x:Int)))) h')
  (hok:jI s p (xS s p pf (x:Int))=0->∀h' F',eO (rF b m ((aGc pf++(aFw p++oT p))++A) K) (DC c b (s.settled 3 p) (n+1)) h' F'->iX h F h' F'->k (.int .i64 0) h'):
  aT PG zR #[pT c 0,p.v,.string (tx pf),.int .u64 (x:Int)] h k:=by
 apply oY.call;unfold oY;have gX:∀s n,lX (DC c b s n):=λ_ _=>DC.good _ _ _ _;have gW:lX (eO (rF b m A K) (DC c b s n)):=(rF.good _ _ _ _).star (gX _ _);obtain⟨Fd,Hd,HB,eF,hdis⟩:=aEq H;subst eF;obtain⟨sp,cp,bv,nv,P⟩:=id Hd;have offd:=aLb hdis;obtain⟨q,hq⟩:=zLn pw.1;have hq2:q<18446744073709551616:=by have:=pw.2.1;omega
 have hqn:p.s.toNat=q:=by omega
 intro r1 hr1
 try rw[cW]
 have u1:cZ h (h.set r1 (.cells (Value.cells p.v) aR)):=cU.new hr1;have X1:Bx (h.set r1 (.cells (Value.cells p.v) aR)) r1 p.cells:=Bx.new;generalize h.set r1 (.cells (Value.cells p.v) aR)=h1 at *;have P1:=lV.good.ext P u1;have n1b:r1∉[b,m]:=(eD.one hr1).off (HB.known b (by simp)) (HB.known m (by simp)) r1 (by simp);have nX:r1∉Fd:=λhm=>(gX s n).known Hd _ hm hr1;have lp:∀{h':PH},Bx h' r1 p.cells->cD PG h' (loadAt aR (pT r1 0))=some p.v:=λX=>X.pk rfl;have ls:∀{h':PH},Bx h' r1 p.cells->cD PG h' (loadAt cA (pT r1 1))=some (.int .u64 (q:Int)):=λX=>by rw[cA.load,X.cell,←hq];rfl
 have hse:=aNF s p (xS s p pf (x:Int));have stepOf:∀{h3:PH} {A':List Tx},Bk b m A' K h3->cU [b,m] h1 h3->(∀a∈A,a∈A')->eO (rF b m A K) (DC c b s n) h3 ((b::m::K)++Fd)∧iX h ((b::m::K)++Fd) h3 ((b::m::K)++Fd):=fun {h3 A'} B3 u3 hs=>by
  obtain⟨W3,s3⟩:=aHS (gX s n) (gW.ext H u1) B3 u3;exact⟨rF.mono W3 hs,(iX.ext u1).trans s3⟩
 have no:∀{h3:PH} {A':List Tx} (e:Int),Bk b m A' K h3->cU [b,m] h1 h3->(∀a∈A,a∈A')->jI s p (xS s p pf (x:Int))=e->e≠0->k (.int .i64 e) h3:=fun {h3 A'} e B3 u3 hs he hne=>by
  obtain⟨W3,s3⟩:=stepOf B3 u3 hs;have:=hbad (by rw[he];exact hne) h3 W3 s3;rw[he] at this;exact this
 simp only[lp X1,cG,reduceIte,cT,Nat.reduceAdd];refine aQC (s:=s) (n:=n) (HB.ext u1) P1 pw λh2 B2 u2=>?_;have P2:=lV.good.upd P1 u2 offd;have X2:=X1.upd u2 n1b;by_cases hm:aDU s p=0
 case neg=>
  have q0:(aDU s p !=0)=true:=by rw[bne_iff_ne];exact hm
  rw[if_neg hm] at hse;simp only[kE,q0,cG,reduceIte,cT,Nat.reduceAdd];exact no _ B2 u2 (λa ha=>zLl _ ha) hse hm
 have q0:(aDU s p !=0)=false:=by rw[hm];rfl
 rw[if_pos hm] at B2 hse;rw[aZf,hqn] at hse;obtain⟨Fc,KR,-,-⟩:=P2.fCl;simp only[kE,q0,cQ.f3,fE,dl3 P2.cell,cG,reduceIte,cT,Nat.reduceAdd];refine aKT KR (by have:=w.few;omega) (x:Int) ?_;rw[aMv];cases hro:(kO s.cl (x:Int)).isSome with
 | false=>
  rw[hro,if_pos rfl] at hse;simp only[cG,reduceIte,cT,Nat.reduceAdd];exact no 11 B2 u2 (λa ha=>zLl _ ha) hse (by decide)
 | true=>
  rw[hro,if_neg (by decide)] at hse;have q97:({data:=#[97]}:ByteArray)=tx [97]:=rfl;have q99:({data:=#[99]}:ByteArray)=tx [99]:=rfl;simp only[cQ.f0,aR.f1,fE,dl0 P2.cell,ls X2,lp X2,q97,cG,reduceIte,cT,Nat.reduceAdd];refine aAL (c:=97) (n:=q) hq2 λh4 u4=>?_;have P4:=lV.good.ext P2 u4;have X4:=X2.ext u4;refine⟨lp X4,dl0 P4.cell,dl0 P4.cell,?_⟩;refine aNG (B2.ext u4) pw λh5 B5 u5=>?_;have P5:=lV.good.upd P4 u5 offd;refine⟨dl0 P5.cell,?_⟩;refine aR4 B5 (by omega) λh6 B6 u6=>?_;have P6:=lV.good.upd P5 u6 offd;have u16:cU [b,m] h1 h6:=((u2.trans u4.upd).trans u5).trans u6;have X6:Bx h6 r1 p.cells:=X1.upd u16 n1b;have hsub:∀a∈A,a∈aGc pf++(aFw p++(oT p++A)):=λa ha=>by simp[ha]
  cases hh:aCd (pX s.cl (x:Int)) pf (fS 97 q) (aBs p) with
  | false=>
   rw[hh,if_pos rfl] at hse;simp only[cG,reduceIte,cT,Nat.reduceAdd];exact no 9 B6 u16 hsub hse (by decide)
  | true=>
   rw[hh,if_neg (by decide)] at hse;have hok:=hok hse;obtain⟨-,sh6⟩:=stepOf B6 u16 hsub;simp only[cQ.f2,aR.f1,fE,dl2 P6.cell,ls X6,q99,cG,reduceIte,cT,Nat.reduceAdd];refine aAL (c:=99) (n:=q) hq2 λh7 u7=>?_;have P7:=lV.good.ext P6 u7;refine⟨dl2 P7.cell,?_⟩;refine aRi P7 (by have:=aPI (aO4 hm).1;rw[hqn] at this;exact this) λh8 F8 P8 s8=>?_;obtain⟨X8,nX8⟩:=zK (X6.ext u7) nX s8;simp only[lp X8,cG,reduceIte,cT,Nat.reduceAdd];refine aKi (s:=s.del (fS 99 q)) (n:=n) (b:=b) ⟨sp,cp,bv,nv,P8⟩ hn 3 p λh9 F9 P9 s9=>?_;obtain⟨W9,sW9⟩:=aHJ (X':=DC c b (s.settled 3 p) (n+1)) (B6.ext u7) hdis (by
    unfold Ch.settled;rw[hqn];exact P9) (s8.trans s9)
   refine hok h9 _ (rF.mono W9 λa ha=>?_) ((sh6.trans (iX.ext u7)).trans sW9);simp only[jG] at ha ⊢;rcases ha with(ha|ha|ha)|ha
   ·exact .inl ha
   ·exact .inr (.inl ha)
   ·exact .inr (.inr (.inl ha))
   ·exact .inr (.inr (.inr ha))
theorem aRQ{h:PH}{c b m:Nat}{s:Ch}{n:Nat}{A:List Tx}{K F:List Nat}(H:eO (rF b m A K) (DC c b s n) h F)(w:s.DOk)(hn:n≤10000){p:Pk}(pw:p.wf){pf:Tx}(hpf:pf.length≤1000000){x:Nat}(hx:x<18446744073709551616){k:cE}
  (hbad:jI s p (qQ s p pf (x:Int))≠0->∀h',eO (rF b m A K) (DC c b s n) h' F->iX h F h' F->k (.int .i64 (jI s p (qQ s p pf (x:Int)))) h')
  (hok:jI s p (qQ s p pf (x:Int))=0->∀h' F',eO (rF b m ((aIX pf (fS 114 p.s.toNat)++oT p)++A) K) (DC c b (s.settled 4 p) (n+1)) h' F'->iX h F h' F'->k (.int .i64 0) h'):
  aT PG vI #[pT c 0,p.v,.string (tx pf),.int .u64 (x:Int)] h k:=by
 apply mQ.call;unfold mQ;have gX:∀s n,lX (DC c b s n):=λ_ _=>DC.good _ _ _ _;have gW:lX (eO (rF b m A K) (DC c b s n)):=(rF.good _ _ _ _).star (gX _ _);obtain⟨Fd,Hd,HB,eF,hdis⟩:=aEq H;subst eF;obtain⟨sp,cp,bv,nv,P⟩:=id Hd;have offd:=aLb hdis;obtain⟨q,hq⟩:=zLn pw.1;have hq2:q<18446744073709551616:=by have:=pw.2.1;omega
 have hqn:p.s.toNat=q:=by omega
 intro r1 hr1
 try rw[cW]
 have u1:cZ h (h.set r1 (.cells (Value.cells p.v) aR)):=cU.new hr1;have X1:Bx (h.set r1 (.cells (Value.cells p.v) aR)) r1 p.cells:=Bx.new;generalize h.set r1 (.cells (Value.cells p.v) aR)=h1 at *;have P1:=lV.good.ext P u1;have n1b:r1∉[b,m]:=(eD.one hr1).off (HB.known b (by simp)) (HB.known m (by simp)) r1 (by simp);have nX:r1∉Fd:=λhm=>(gX s n).known Hd _ hm hr1;have lp:∀{h':PH},Bx h' r1 p.cells->cD PG h' (loadAt aR (pT r1 0))=some p.v:=λX=>X.pk rfl;have ls:∀{h':PH},Bx h' r1 p.cells->cD PG h' (loadAt cA (pT r1 1))=some (.int .u64 (q:Int)):=λX=>by rw[cA.load,X.cell,←hq];rfl
 have lt:∀{h':PH},Bx h' r1 p.cells->cD PG h' (loadAt cA (pT r1 2))=some (.int .u64 p.t):=λX=>by rw[cA.load,X.cell];rfl
 have hse:=aNF s p (qQ s p pf (x:Int));have stepOf:∀{h3:PH} {A':List Tx},Bk b m A' K h3->cU [b,m] h1 h3->(∀a∈A,a∈A')->eO (rF b m A K) (DC c b s n) h3 ((b::m::K)++Fd)∧iX h ((b::m::K)++Fd) h3 ((b::m::K)++Fd):=fun {h3 A'} B3 u3 hs=>by
  obtain⟨W3,s3⟩:=aHS (gX s n) (gW.ext H u1) B3 u3;exact⟨rF.mono W3 hs,(iX.ext u1).trans s3⟩
 have no:∀{h3:PH} {A':List Tx} (e:Int),Bk b m A' K h3->cU [b,m] h1 h3->(∀a∈A,a∈A')->jI s p (qQ s p pf (x:Int))=e->e≠0->k (.int .i64 e) h3:=fun {h3 A'} e B3 u3 hs he hne=>by
  obtain⟨W3,s3⟩:=stepOf B3 u3 hs;have:=hbad (by rw[he];exact hne) h3 W3 s3;rw[he] at this;exact this
 simp only[lp X1,cG,reduceIte,cT,Nat.reduceAdd];refine aQC (s:=s) (n:=n) (HB.ext u1) P1 pw λh2 B2 u2=>?_;have P2:=lV.good.upd P1 u2 offd;have X2:=X1.upd u2 n1b;by_cases hm:aDU s p=0
 case neg=>
  have q0:(aDU s p !=0)=true:=by rw[bne_iff_ne];exact hm
  rw[if_neg hm] at hse;simp only[kE,q0,cG,reduceIte,cT,Nat.reduceAdd];exact no _ B2 u2 (λa ha=>zLl _ ha) hse hm
 have q0:(aDU s p !=0)=false:=by rw[hm];rfl
 rw[if_pos hm] at B2 hse;rw[aY6,hqn] at hse;rw[hqn] at hok;obtain⟨Fc,KR,-,-⟩:=P2.fCl;simp only[kE,q0,cQ.f3,fE,dl3 P2.cell,cG,reduceIte,cT,Nat.reduceAdd];refine aKT KR (by have:=w.few;omega) (x:Int) ?_;rw[aMv];cases hro:(kO s.cl (x:Int)).isSome with
 | false=>
  rw[hro,if_pos rfl] at hse;simp only[cG,reduceIte,cT,Nat.reduceAdd];exact no 11 B2 u2 (λa ha=>zLl _ ha) hse (by decide)
 | true=>
  rw[hro,if_neg (by decide)] at hse;by_cases c2:IntKind.u64.wrap (p.t-1)≤(x:Int)
  case neg=>
   have g:((x:Int)<IntKind.u64.wrap (p.t-1))=True:=eq_true (by omega);rw[if_pos c2] at hse;simp only[aR.f2,fE,lt X2,g,cG,reduceIte,cT,Nat.reduceAdd];exact no 11 B2 u2 (λa ha=>zLl _ ha) hse (by decide)
  have g:((x:Int)<IntKind.u64.wrap (p.t-1))=False:=eq_false (by omega);rw[if_neg (by simpa using c2)] at hse;have q114:({data:=#[114]}:ByteArray)=tx [114]:=rfl;have q99:({data:=#[99]}:ByteArray)=tx [99]:=rfl;simp only[aR.f1,aR.f2,cQ.f0,fE,lt X2,g,dl0 P2.cell,ls X2,q114,cG,reduceIte,cT,Nat.reduceAdd];refine aAL (c:=114) (n:=q) hq2 λh4 u4=>?_;have P4:=lV.good.ext P2 u4;refine⟨dl0 P4.cell,?_⟩;refine aTj (B2.ext u4) (by omega) λh6 B6 u6=>?_;have P6:=lV.good.upd P4 u6 offd;have u16:cU [b,m] h1 h6:=(u2.trans u4.upd).trans u6;have X6:Bx h6 r1 p.cells:=X1.upd u16 n1b;have hsub:∀a∈A,a∈aIX pf (fS 114 q)++(oT p++A):=λa ha=>by simp[ha]
  cases hh:aCX (pX s.cl (x:Int)) pf (fS 114 q) with
  | false=>
   rw[hh,if_pos rfl] at hse;simp only[cG,reduceIte,cT,Nat.reduceAdd];exact no 9 B6 u16 hsub hse (by decide)
  | true=>
   rw[hh,if_neg (by decide)] at hse;have hok:=hok hse;obtain⟨-,sh6⟩:=stepOf B6 u16 hsub;simp only[cQ.f2,aR.f1,fE,dl2 P6.cell,ls X6,q99,cG,reduceIte,cT,Nat.reduceAdd];refine aAL (c:=99) (n:=q) hq2 λh7 u7=>?_;have P7:=lV.good.ext P6 u7;refine⟨dl2 P7.cell,?_⟩;refine aRi P7 (by have:=aPI (aO4 hm).1;rw[hqn] at this;exact this) λh8 F8 P8 s8=>?_;obtain⟨X8,nX8⟩:=zK (X6.ext u7) nX s8;simp only[lp X8,cG,reduceIte,cT,Nat.reduceAdd];refine aKi (s:=s.del (fS 99 q)) (n:=n) (b:=b) ⟨sp,cp,bv,nv,P8⟩ hn 4 p λh9 F9 P9 s9=>?_;obtain⟨W9,sW9⟩:=aHJ (X':=DC c b (s.settled 4 p) (n+1)) (B6.ext u7) hdis (by
    unfold Ch.settled;rw[hqn];exact P9) (s8.trans s9)
   refine hok h9 _ (rF.mono W9 λa ha=>?_) ((sh6.trans (iX.ext u7)).trans sW9);simp only[jG] at ha ⊢;rcases ha with(ha|ha)|ha
   ·exact .inl ha
   ·exact .inr (.inl ha)
   ·exact .inr (.inr ha)
theorem aX0:jK PG (buildSlice eQ 0 #[])=some (.cells #[] dQ,λr=>pure (.slice (some ⟨r,0,none⟩) 0 0)):=by kernel_rfl
theorem aVk:Rows 1 ([]:List (List Value)):=λr hr=>by cases hr
theorem aQX(v:Value):Rows 1 [[v]]:=λr hr=>by simp only[fV] at hr;subst hr;rfl
theorem aUw{h:PH}{c b:Nat}{s:Ch}{n:Nat}{F:List Nat}(H:DC c b s n h F)(hn:n≤10000){kk:cE}
  (hk:∀h' F',DC c b s.committed (n+1) h' F'->iX h F h' F'->kk (.tuple #[.int .u64 ((jW s.st).2.1:Int),.int .i64 (jW s.st).2.2]) h'):aT PG wQ #[pT c 0] h kk:=by
 apply nE.call;unfold nE vG;obtain⟨sp,cp,bv,nv,P⟩:=H;simp only[cQ.f2,fE,dl2 P.cell,cG,reduceIte,cT,Nat.reduceAdd];obtain⟨Fs,⟨G,S,rfl⟩,hFs,back⟩:=P.fSt;refine aW8 S λh1 G1 S1 u1 g1=>?_;obtain⟨F2,P2,s2⟩:=back (rsA sp (jW s.st).1) h1 (sp::G1) ⟨G1,S1,rfl⟩ ⟨u1.mono λx hx=>.inl (by simp only[fV] at hx;simp[hx]),λx hx=>by
  rcases gP.1 hx with rfl|hx
  ·exact .inl (by simp)
  ·rcases g1 x hx with hx|hx
   ·exact .inl (by simp[hx])
   ·exact .inr hx⟩
 unfold Ch.committed at hk;by_cases he:(jW s.st).2.2=0
 case neg=>
  have q:((jW s.st).2.2==0)=false:=by simpa using he
  rw[if_neg he] at hk;simp only[hQ,q,cG,reduceIte,cT,Nat.reduceAdd];refine hk h1 F2 (DC.mono (n:=n) ⟨sp,cp,bv,nv,?_⟩ (vL n)) s2;rw[aBx he] at P2;exact P2
 have q:((jW s.st).2.2==0)=true:=by simpa using he
 rw[if_pos he] at hk;have P2:lV c (s.dcells b sp cp bv nv) sp (jW s.st).1 cp s.cl bv nv n h1 F2:=P2;obtain⟨Ft,⟨Fb,Fn,rfl,⟨rows,Ob,lb,cb⟩,⟨ns,On,ln⟩,hd⟩,hFt,back2⟩:=P2.fTwo;obtain⟨na,nc,env,-⟩:=On.slR.here;rw[iS] at env;simp only[hQ,q,cQ.f5,cQ.f6,fE,dl5 P2.cell,dl6 P2.cell,aX0,cG,reduceIte,cT,Nat.reduceAdd];intro r15 hr15;refine fI ?_
 try rw[cW]
 have u3:cZ h1 (h1.set r15 (.cells #[] dQ)):=cU.new hr15;have O3:dZ (h1.set r15 (.cells #[] dQ)) dQ 1 (.slice (some ⟨r15,0,none⟩) 0 0) ([]:List (List Value)) [r15]:=dZ.lit (n:=0) aVk dL (by simp) (by decide) rfl;have P3:=lV.good.ext P2 u3;generalize h1.set r15 (.cells #[] dQ)=h3 at *;refine jF eQ.und eQ.und dQ.info dQ.size dQ.bytes dQ.zero rfl (by decide) O3 (Ob.ext u3).slR cb (by simp only[zLM];omega) ?_;intro v4 h4 F4 O4 u4 k4 _;rw[yF] at O4;have e14:cZ h1 h4:=u3.fresh u4 (eD.one hr15);have f4:eD h1 F4:=λx hx=>by
  rcases k4 x hx with hx|hx
  ·simp only[fV] at hx;subst hx;exact hr15
  ·exact u3.none hx
 have P4:=lV.good.ext P2 e14;refine⟨dl6 P4.cell,?_⟩;rw[env];simp only[aR6,cG,reduceIte,cT,Nat.reduceAdd];rw[←env];intro r21 hr21;refine fI ?_
 try rw[cW]
 have u5:cZ h4 (h4.set r21 (.cells #[nv] dQ)):=cU.new hr21;have s5:fR (h4.set r21 (.cells #[nv] dQ)) 1 (.slice (some ⟨r21,0,none⟩) 1 1) [[nv]]:=(dZ.lit (n:=1) (aQX nv) dL (by simp) (by decide) (by simp)).slR;generalize h4.set r21 (.cells #[nv] dQ)=h5 at *;refine jF eQ.und eQ.und dQ.info dQ.size dQ.bytes dQ.zero rfl (by decide) (O4.ext u5) s5 (λr hr u hu=>by
  simp only[fV] at hr;subst hr;simp only[fV] at hu;subst hu;exact On.slR.isc) (by simp only[zLS];omega) ?_
 intro v6 h6 F6 O6 u6 k6 _;have e16:cZ h1 h6:=(e14.trans u5).fresh u6 f4;have f6:eD h1 F6:=f4.grow (e14.trans u5) k6;have B6:boA v6 (n+1) h6 F6:=⟨rows++[[nv]],O6,by simp;omega,λr hr u hu=>by
  rcases jG.1 hr with hr|hr
  ·exact cb r hr u hu
  ·simp only[fV] at hr;subst hr;simp only[fV] at hu;subst hu;exact On.slR.isc⟩
 have W6:eO (boA v6 (n+1)) (noA nv (n+1)) h6 (F6++Fn):=eO.mk B6 ⟨ns,On.ext e16,by omega⟩ (λx hx hx5=>On.known x hx5 (f6 x hx));obtain⟨F7,P7,s7⟩:=back2 _ h6 _ W6 ⟨e16.upd,λx hx=>by
  rcases jG.1 hx with hx|hx
  ·exact .inr (f6 x hx)
  ·exact .inl (by simp[hx])⟩
 have P7:lV c (s.dcells b sp cp bv nv) sp (jW s.st).1 cp s.cl v6 nv (n+1) h6 F7:=P7;obtain⟨Fx,⟨rfl,X7⟩,hFx,back3⟩:=P7.fBox;refine eQ.put X7 (o:=5) (by show 5<7;decide) O6.slR.isc λh8 X8 u8=>?_;have X8:Bx h8 c (s.dcells b sp cp v6 nv):=X8;refine dQ.put X8 (o:=6) (by show 6<7;decide) rfl λh9 X9 u9=>?_;have X9:Bx h9 c (s.dcells b sp cp v6 (.slice none 0 0)):=X9;obtain⟨F10,P10,s10⟩:=back3 (wD c (s.dcells b sp cp v6 (.slice none 0 0))) h9 [c] ⟨rfl,X9⟩ ⟨u8.trans u9,λx hx=>.inl hx⟩;obtain⟨F11,Fr,eF,hx,⟨G1',G2',eG,y1,⟨G3,G4,eG2,y2,⟨G5,G6,eG3,y3,⟨ns',On',ln'⟩,d5⟩,d3⟩,d1⟩,dx⟩:=P10;refine hk h9 (F11++(G1'++(G3++(G5++[])))) ⟨sp,cp,v6,.slice none 0 0,F11,_,rfl,hx,⟨G1',_,rfl,y1,⟨G3,_,rfl,y2,⟨G5,[],rfl,y3,⟨[],dZ.nil,by simp⟩,by simp⟩,?_⟩,?_⟩,?_⟩ ?_
 ·subst eG3;intro x hx1 hx2;exact d3 x hx1 (by simp at hx2;simp[hx2])
 ·subst eG2;subst eG3;intro x hx1 hx2;exact d1 x hx1 (by simp at hx2;rcases hx2 with hx2|hx2<;>simp[hx2])
 ·subst eG;subst eG2;subst eG3;intro x hx1 hx2;exact dx x hx1 (by simp at hx2;rcases hx2 with hx2|hx2|hx2<;>simp[hx2])
 ·have st:=(s2.trans s7).trans s10;refine⟨st.upd,λx hx=>st.grow x ?_⟩;rw[eF,eG,eG2,eG3];simp at hx ⊢;rcases hx with hx|hx|hx|hx<;>simp[hx]
theorem aT5{h:PH}{c b m:Nat}{s:Ch}{n:Nat}{A:List Tx}{K F:List Nat}{sp cp:Nat}{bv nv:Value}(HB:Bk b m A K h)(P:lV c (s.dcells b sp cp bv nv) sp s.st cp s.cl bv nv n h F)(offd:∀x∈F,x∉[b,m])(key:Tx){x:Nat}(hx:x<18446744073709551616){kk:cE}
  (hk:∀h',Bk b m A K h'->cU [b,m] h h'->kk (.tuple #[.string (tx (uE s.st key x).1),.int .i64 (uE s.st key x).2]) h'):aT PG xU #[pT c 0,.string (tx key),.int .u64 (x:Int)] h kk:=by
 apply uD.call;unfold uD;have hst:=P.okst;simp only[cQ.f2,fE,dl2 P.cell,cG,reduceIte,cT,Nat.reduceAdd];obtain⟨Fs,⟨G,S,eFs⟩,hFs,-⟩:=P.fSt;have q0:({data:=#[]}:ByteArray)=tx []:=rfl;unfold uE at hk;have kb:=HB.known b (by simp);have km:=HB.known m (by simp);refine aT6 S x hx (λe=>?_) (λl v e B1 hv=>?_)
 ·rw[e] at hk;have q:((3:Int) !=0)=true:=by decide
  simp only[kE,q,q0,cG,reduceIte,cT,Nat.reduceAdd];exact hk h HB cU.refl
 ·rw[e] at hk;simp only at hk;have M:=hst.mok e;have ov:Off b m v:=λa n c ev=>offd _ (hFs _ (by rw[eFs];simp[hv a n c ev]));simp only[kE,cQ.f0,fE,dl0 P.cell,cG,reduceIte,cT,Nat.reduceAdd]
  -- the end
  have fin:∀{h4:PH} {ab:Bool} {v4:Value} {r:Nat},cU [b,m] h h4->Bk b m A K h4->Bx h4 r [.bool ab,v4]->nL h h4 v4 (jN l key).lv->ab=(jN l key).ab->(∀h',Bk b m A K h'->cU [b,m] h h'->kk (.tuple #[.string (tx (kZ (jN l key)).1),.int .i64 (kZ (jN l key)).2]) h')->mA kk (.int .i64 0) (pT r 0) h4:=by
   intro h4 ab v4 r u4 HB4 B4 L4 eab hk;unfold mA;have l4:cD PG h4 (loadAt cC (pT r 0))=some (Pf.val ab v4):=cC.agg B4 (by show 0+2≤2;decide);simp only[kE,l4,cG,reduceIte,cT,Nat.reduceAdd];obtain⟨l5,F',el,O,-,L⟩:=L4.here;have epf:(⟨ab,l5.map (·.1)⟩:Pf)=jN l key:=by rw[el,eab]
   have hpf:=aLs M key;refine aOx O.slR L.lfs (by
    have:l5.length=(jN l key).lv.length:=by rw[←el];simp
    have:=hpf.1;omega) λh5 u5=>?_
   rw[epf];simp only[cG,reduceIte,cT,Nat.reduceAdd];exact hk h5 (HB4.ext u5) (u4.trans u5.upd)
  refine aRF HB M B1 ov (λhno h2 HB2 u2=>?_) (λhyes h2 v2 HB2 L2 u2=>?_)
  ·have hns:(gG l key).isSome=false:=by rw[hno];rfl
   rw[hns] at hk;simp only[zLt,if_false] at hk;simp only[cG,reduceIte,cT,Nat.reduceAdd];intro r14 hr14
   try rw[cW]
   have n14:h r14=none:=u2.grow2 (HB2.known b (by simp)) (HB2.known m (by simp)) hr14;have n14b:r14∉[b,m]:=λhm=>by
    simp only[gP,kL,or_false] at hm;rcases hm with rfl|rfl
    ·exact kb n14
    ·exact km n14
   refine cC.fill (vs:=[.bool false,.slice none 0 0]) hr14 rfl (by simp[fP]) λh3 B3 u3=>?_;have q:((3:Int) !=0)=true:=by decide
   have e3:=u2.trans u3.upd;have P3:=lV.good.upd P e3 offd;simp only[kE,q,cQ.f0,fE,dl0 P3.cell,cG,reduceIte,cT,Nat.reduceAdd];have B13:=B1.upd e3 (λa n c ev=>ov a n c ev);have bad:∀{h4:PH} {e:Int},cU [b,m] h3 h4->Bk b m A K h4->e≠0->(∀h',Bk b m A K h'->cU [b,m] h h'->kk (.tuple #[.string (tx []),.int .i64 e]) h')->cY PG (dN cC (pT r14 0) (Pf.val false (.slice none 0 0))) h4 λv23 h24=>mA kk (.int .i64 e) (pT r14 0) h24:=by
    intro h4 e u4 HB4 hne hk;refine cC.put (vs:=[.bool false,.slice none 0 0]) (B3.upd u4 n14b) (o:=0) rfl (by show 0+2≤2;decide) (by simp[fP]) λh5 B5 u5=>?_;unfold mA;have q:(e !=0)=true:=by simpa using hne
    simp only[kE,q,q0,cG,reduceIte,cT,Nat.reduceAdd];refine hk h5 (HB4.upd u5 λy hy hm=>?_) (cU.then (e3.trans u4) u5 (λy hy=>by simp only[fV] at hy;subst hy;exact .inr n14));simp only[fV] at hm;subst hm;exact HB.known _ hy n14
   refine aSl (HB2.ext u3) M B13 ov (λhb h4 HB4 u4=>?_) (λ_ hs h4 HB4 u4=>?_) (λhb _ h4 v4 HB4 L4 u4=>?_)
   ·rw[if_neg hb] at hk;simp only[cG,reduceIte,cT,Nat.reduceAdd];exact bad u4 HB4 (by decide) hk
   ·rw[hns] at hs;cases hs
   ·rw[if_pos hb] at hk;simp only[cG,reduceIte,cT,Nat.reduceAdd];refine cC.put (vs:=[.bool true,v4]) (B3.upd u4 n14b) (o:=0) rfl (by show 0+2≤2;decide) (by
     have:=L4.isc;simp[fP];exact this) λh5 B5 u5=>?_
    have hab:(jN l key).ab=true:=by
     unfold jN;rw[if_neg (by rw[hns];decide)];split
     ·rfl
     ·split
      ·rfl
      ·split<;>rfl
    have L5:nL h3 h5 v4 (jN l key).lv:=L4.upd u5 (λb hb=>by simp only[fV] at hb;rw[hb];exact B3.known);have L5':nL h h5 v4 (jN l key).lv:=by
     obtain⟨l',F',el,O,f,L⟩:=L5.here;have HB3:=HB2.ext u3;refine⟨l',F',el,O,λy hy=>e3.grow2 (HB3.known b (by simp)) (HB3.known m (by simp)) (f y hy),λy hy=>?_⟩;obtain⟨G',y1,y2,y3⟩:=L y hy;exact⟨G',y1,λz hz=>e3.grow2 (HB3.known b (by simp)) (HB3.known m (by simp)) (y2 z hz),y3⟩
    refine fin (cU.then (e3.trans u4) u5 (λy hy=>by simp only[fV] at hy;subst hy;exact .inr n14)) (HB4.upd u5 λy hy hm=>?_) B5 L5' hab.symm hk;simp only[fV] at hm;subst hm;exact HB.known _ hy n14
  ·rw[hyes] at hk;simp only[if_true] at hk;simp only[cG,reduceIte,cT,Nat.reduceAdd];intro r14 hr14
   try rw[cW]
   refine cC.fill (vs:=[.bool false,v2]) hr14 rfl (by
    have:=L2.isc;simp[fP];exact this) λh3 B3 u3=>?_
   have epf:jN l key=⟨false,[kG l (gV l key)]⟩:=by unfold jN;rw[if_pos hyes]
   exact fin (u2.trans u3.upd) (HB2.ext u3) B3 (by rw[epf];exact L2.upd u3 (λb hb=>by cases hb)) (by rw[epf]) hk
theorem aMn(p:Pf):(kZ p).1.length≤3000:=by
 unfold kZ;split
 ·rename_i h;obtain⟨h1,h2⟩:=h;rw[aDC] at h2;show(aAy p).length≤3000;have hl:∀l:List Lf,(∀f∈l,f.okb=true)->(lF l).length≤1000*l.length:=λl=>by
   induction l with
   | nil=>intro _;simp[lF]
   | cons f l ih=>
    intro hh;have a:=aQi (Lf.ok_iff.1 (hh f (by simp)));have b:=ih λy hy=>hh y (by simp[hy]);simp only[lF,jP,rN];omega
  have:=hl p.lv h2;unfold aAy;simp only[jP,iC];omega
 ·simp
theorem aSX(s:St)(key:Tx)(x:Nat):(uE s key x).1.length≤3000:=by
 unfold uE;split
 ·simp
 ·split
  ·exact aMn _
  ·split
   ·exact aMn _
   ·simp
theorem aVZ(o:Ch){a:jL}(h:a.d.length≤1000000):(lS o a).length≤1000000:=by
 unfold lS;split
 ·have:=aSX o.st (aI7 a) a.h;omega
 ·exact h
noncomputable def doA(c o:Ch)(a:jL):List Tx:=
 if a.kind=0 then(if rD c a.d a.h=0 then oT (jX c a.d a.h) else [])
 else if a.kind=1 then(match oK o.st a.h with
  | none=>[]
  | some b=>rR b)
 else if a.kind=2 then(if rB c (tO c a.p (lS o a) (a.h:Int))=0 then aFw a.p++(aGc (lS o a)++oT a.p) else [])
 else if a.kind=3 then(if jI c a.p (xS c a.p (lS o a) (a.h:Int))=0 then aGc (lS o a)++(aFw a.p++oT a.p) else [])
 else if a.kind=4 then(if jI c a.p (qQ c a.p (lS o a) (a.h:Int))=0 then aIX (lS o a) (fS 114 a.p.s.toNat)++oT a.p else [])
 else []
theorem aVM{h:PH}{c b:Nat}{s:Ch}{n:Nat}{F:List Nat}{sp cp:Nat}{bv nv:Value}(P:lV c (s.dcells b sp cp bv nv) sp s.st cp s.cl bv nv n h F)(w:s.cl.length≤4096)(x:Int)(root:Tx){kk:cE}
  (hk:∀h' F',lV c ((s.told x root).dcells b sp cp bv nv) sp (s.told x root).st cp (s.told x root).cl bv nv n h' F'->iX h F h' F'->kk (.int .i64 (aAa s.cl ⟨x,tx root⟩).1) h'):aT PG rV #[pT cp 0,.int .u64 x,.string (tx root)] h kk:=by
 obtain⟨Fc,C,hFc,back⟩:=P.fCl;have ea:cp∈Fc:=by
  obtain⟨v,G,-,-,eF,-⟩:=(C:xI h cp s.cl Fc);rw[eF];simp
 refine aXk C w ⟨x,tx root⟩ λh1 F1 C1 u1 g1=>?_;obtain⟨F2,P2,s2⟩:=back (krA cp (aAa s.cl ⟨x,tx root⟩).2) h1 F1 C1 ⟨u1.mono λy hy=>.inl (by
  simp only[fV] at hy;subst hy;exact ea),g1⟩
 exact hk h1 F2 P2 s2
theorem aXy{a b:ByteArray}(h:a.data.toList=b.data.toList):a=b:=by
 rw[←aIh a,←aIh b,h]
theorem Pk.bs_inj{p q:Pk}(hp:p.right=true)(hq:q.right=true)(wp:p.wf)(wq:q.wf)(h:p.bs=q.bs):p=q:=by
 obtain⟨a1,a2,-,-,a5⟩:=Pk.right_iff.1 hp;obtain⟨b1,b2,-,-,b5⟩:=Pk.right_iff.1 hq;unfold Pk.bs at h;obtain⟨h1,h⟩:=List.append_inj h (by rw[iC,iC]);obtain⟨h2,h⟩:=List.append_inj h (by rw[iC,iC]);obtain⟨h3,h⟩:=List.append_inj h (by rw[iC,iC]);obtain⟨h4,h5⟩:=List.append_inj h (by rw[iC,iC]);have e1:=congrArg val h1;rw[aL7,aL7,aCk (show p.f.toNat<256^1 by omega),aCk (show q.f.toNat<256^1 by omega)] at e1;have w1:=wp.1;have w2:=wp.2.1;have w3:=wp.2.2.1;have w4:=wp.2.2.2;have v1:=wq.1;have v2:=wq.2.1;have v3:=wq.2.2.1;have v4:=wq.2.2.2;have e2:=aMP (by omega) (by omega) h2;have e3:=aMP (by omega) (by omega) h3;obtain⟨pf,ps,pt,pd⟩:=p;obtain⟨qf,qs,qt,qd⟩:=q;have e5:pd=qd:=aXy h5;simp only at e1 e2 e3 w1 w3 v1 v3 a1 b1;rw[e5,show pf=qf by omega,show ps=qs by omega,show pt=qt by omega]
theorem aM6{c d:UInt8}{n m:Nat}(hn:n<18446744073709551616)(hm:m<18446744073709551616)(h:fS c n=fS d m):c=d∧n=m:=by
 unfold fS at h;simp only[kV] at h;exact⟨h.1,aMP hn hm h.2⟩
theorem aIg{c d:UInt8}{n m:Nat}(h:c≠d):fS c n≠fS d m:=λe=>by
 unfold fS at e;simp only[kV] at e;exact h e.1
def aFp(st:St)(P:Pr->Prop):Prop:=(∀q∈st.now,P q)∧∀b∈st.blocks,∀q∈b,P q
def aKo(st:St)(k v:Tx):St:={st with now:=nH st.now ⟨k,v⟩}
def aPo(st:St)(k:Tx):St:={st with now:=tU st.now k}
theorem aFp.mono{st:St}{P Q:Pr->Prop}(H:aFp st P)(h:∀q,P q->Q q):aFp st Q:=⟨λq hq=>h q (H.1 q hq),λb hb q hq=>h q (H.2 b hb q hq)⟩
theorem aFp.put{st:St}{P:Pr->Prop}(H:aFp st P){k v:Tx}(h:P ⟨k,v⟩):aFp (aKo st k v) P:=⟨λq hq=>by
 rcases tA.1 hq with rfl|⟨hq,-⟩
 ·exact h
 ·exact H.1 q hq,H.2⟩
theorem aFp.del{st:St}{P:Pr->Prop}(H:aFp st P)(k:Tx):aFp (aPo st k) P:=⟨λq hq=>H.1 q (zL1.1 hq).1,H.2⟩
theorem aFp.com{st:St}{P:Pr->Prop}(H:aFp st P):aFp (jW st).1 P:=by
 by_cases he:(jW st).2.2=0
 ·rw[(aCt he).1];refine⟨H.1,λb hb=>?_⟩;rcases jG.1 hb with hb|hb
  ·exact H.2 b hb
  ·simp only[fV] at hb;subst hb;exact H.1
 ·rw[aBx he];exact H
theorem aRs{st:St}{x:Nat}{b:List Pr}(h:oK st x=some b):b∈st.blocks:=rC (aJ0 h).2
theorem aQO{st:St}{x:Nat}{b:List Pr}(h:oK st x=some b):x≤st.height:=by
 have:=(aJ0 h).1;omega
theorem aSF{st:St}(ok:st.Ok)(he:(jW st).2.2=0)(x:Nat):oK (jW st).1 x=if x=st.height+1 then some st.now else oK st x:=by
 rw[(aCt he).1];have h1:=ok.h1;have h3:=ok.h3;unfold oK;simp only[jP,zLS];by_cases c:x=st.height+1
 ·rw[if_pos c,if_neg (by omega),show st.blocks.length+1-1-(st.height+1-x)=st.blocks.length by omega];simp
 ·rw[if_neg c];by_cases d:st.height<x∨st.blocks.length≤st.height-x
  ·rw[if_pos d,if_pos (by omega)]
  ·rw[if_neg d,if_neg (by omega),show st.blocks.length+1-1-(st.height+1-x)=st.blocks.length-1-(st.height-x) by omega,List.getElem?_append_left (by omega)]
theorem aM9{st:St}(ok:st.Ok){x:Nat}{b:List Pr}(h:oK st x=some b):oK (jW st).1 x=some b:=by
 by_cases he:(jW st).2.2=0
 ·have:=aQO h;rw[aSF ok he,if_neg (by omega)];exact h
 ·rw[aBx he];exact h
theorem aSK(st:St):st.height≤(jW st).1.height:=by
 by_cases he:(jW st).2.2=0
 ·rw[(aCt he).1];exact vL _
 ·rw[aBx he];exact oL _
def aI9(st:St)(k:Tx)(t:Int):Prop:=(∃q∈st.now,q.k=k)∧∀x b,oK st x=some b->t≤(x:Int)+1->∃q∈b,q.k=k
theorem aI9.put{st:St}{k:Tx}{t:Int}(H:aI9 st k t)(k' v:Tx):aI9 (aKo st k' v) k t:=by
 obtain⟨q,hq,e⟩:=H.1;refine⟨?_,H.2⟩;by_cases c:q.k=k'
 ·exact⟨⟨k',v⟩,tA.2 (.inl rfl),by rw[←c];exact e⟩
 ·exact⟨q,tA.2 (.inr ⟨hq,c⟩),e⟩
theorem aI9.del{st:St}{k:Tx}{t:Int}(H:aI9 st k t){k':Tx}(hk:k'≠k):aI9 (aPo st k') k t:=by
 obtain⟨q,hq,e⟩:=H.1;exact⟨⟨q,zL1.2 ⟨hq,by simp only[ne_eq,decide_eq_true_eq];rw[e];exact hk.symm⟩,e⟩,H.2⟩
theorem aI9.com{st:St}(ok:st.Ok){k:Tx}{t:Int}(H:aI9 st k t):aI9 (jW st).1 k t:=by
 by_cases he:(jW st).2.2=0
 ·refine⟨by rw[(aCt he).1];exact H.1,λx b hx ht=>?_⟩;rw[aSF ok he] at hx;split at hx
  ·cases hx;exact H.1
  ·exact H.2 x b hx ht
 ·rw[aBx he];exact H
theorem aOF(c:Ch)(p:Pk):(c.sent p).st=aKo c.st (fS 99 c.seq) (mN p)∧(c.sent p).cl=c.cl∧(c.sent p).id=c.id:=⟨rfl,rfl,rfl⟩
theorem aJv(c:Ch)(p:Pk):(c.received p).st=aKo (aKo c.st (fS 114 p.s.toNat) [1]) (fS 97 p.s.toNat) (aBs p)∧(c.received p).cl=c.cl∧(c.received p).id=c.id:=⟨rfl,rfl,rfl⟩
theorem aGt(c:Ch)(k:Int)(p:Pk):(c.settled k p).st=aPo c.st (fS 99 p.s.toNat)∧(c.settled k p).cl=c.cl∧(c.settled k p).id=c.id:=⟨rfl,rfl,rfl⟩
theorem uQ(c:Ch):c.committed.st=(jW c.st).1∧c.committed.cl=c.cl∧c.committed.id=c.id:=by
 unfold Ch.committed;by_cases he:(jW c.st).2.2=0
 ·rw[if_pos he];exact⟨rfl,rfl,rfl⟩
 ·rw[if_neg he];exact⟨(aBx he).symm,rfl,rfl⟩
theorem aF4(c o:Ch)(a:jL):
  (a.kind=0∧rD c a.d a.h=0∧(kF c o a).1=c.sent (jX c a.d a.h)∧(kF c o a).2=(jX c a.d a.h,0,0)∧doA c o a=oT (jX c a.d a.h))∨
  (a.kind=1∧∃b,oK o.st a.h=some b∧(kF c o a).1=c.told (a.h:Int) (lB b)∧doA c o a=rR b)∨
  (a.kind=2∧rB c (tO c a.p (lS o a) (a.h:Int))=0∧(kF c o a).1=c.received a.p∧(kF c o a).2.2.2=0∧doA c o a=aFw a.p++(aGc (lS o a)++oT a.p))∨
  (a.kind=3∧jI c a.p (xS c a.p (lS o a) (a.h:Int))=0∧(kF c o a).1=c.settled 3 a.p∧(kF c o a).2.2.2=0∧doA c o a=aGc (lS o a)++(aFw a.p++oT a.p))∨
  (a.kind=4∧jI c a.p (qQ c a.p (lS o a) (a.h:Int))=0∧(kF c o a).1=c.settled 4 a.p∧(kF c o a).2.2.2=0∧doA c o a=aIX (lS o a) (fS 114 a.p.s.toNat)++oT a.p)∨
  (a.kind=5∧(kF c o a).1=c.committed)∨
  ((kF c o a).1=c∧((kF c o a).2.2.2=0->a.kind<0∨5<a.kind)):=by
 unfold kF doA;by_cases k0:a.kind=0
 ·rw[if_pos k0,if_pos k0];by_cases e:rD c a.d a.h=0
  ·rw[if_pos e,if_pos e];exact .inl ⟨k0,e,rfl,rfl,rfl⟩
  ·rw[if_neg e];exact .inr (.inr (.inr (.inr (.inr (.inr ⟨rfl,λh=>absurd h e⟩)))))
 rw[if_neg k0,if_neg k0];by_cases k1:a.kind=1
 ·rw[if_pos k1,if_pos k1];cases hs:oK o.st a.h with
  | none=>exact .inr (.inr (.inr (.inr (.inr (.inr ⟨rfl,λh=>by simp at h⟩)))))
  | some b=>exact .inr (.inl ⟨k1,b,rfl,rfl,rfl⟩)
 rw[if_neg k1,if_neg k1];by_cases k2:a.kind=2
 ·rw[if_pos k2,if_pos k2];by_cases e:rB c (tO c a.p (lS o a) (a.h:Int))=0
  ·rw[if_pos e,if_pos e];exact .inr (.inr (.inl ⟨k2,e,rfl,rfl,rfl⟩))
  ·rw[if_neg e];exact .inr (.inr (.inr (.inr (.inr (.inr ⟨rfl,λh=>absurd h e⟩)))))
 rw[if_neg k2,if_neg k2];by_cases k3:a.kind=3
 ·rw[if_pos k3,if_pos k3];by_cases e:jI c a.p (xS c a.p (lS o a) (a.h:Int))=0
  ·rw[if_pos e,if_pos e];exact .inr (.inr (.inr (.inl ⟨k3,e,rfl,rfl,rfl⟩)))
  ·rw[if_neg e];exact .inr (.inr (.inr (.inr (.inr (.inr ⟨rfl,λh=>absurd h e⟩)))))
 rw[if_neg k3,if_neg k3];by_cases k4:a.kind=4
 ·rw[if_pos k4,if_pos k4];by_cases e:jI c a.p (qQ c a.p (lS o a) (a.h:Int))=0
  ·rw[if_pos e,if_pos e];exact .inr (.inr (.inr (.inr (.inl ⟨k4,e,rfl,rfl,rfl⟩))))
  ·rw[if_neg e];exact .inr (.inr (.inr (.inr (.inr (.inr ⟨rfl,λh=>absurd h e⟩)))))
 rw[if_neg k4,if_neg k4];by_cases k5:a.kind=5
 ·rw[if_pos k5];exact .inr (.inr (.inr (.inr (.inr (.inl ⟨k5,rfl⟩)))))
 ·rw[if_neg k5];exact .inr (.inr (.inr (.inr (.inr (.inr ⟨rfl,λ_=>by omega⟩)))))
def KOk(s:Ch):Prop:=s.cl.length≤4096∧∀y∈hts s.cl,0≤y∧y<18446744073709551616
theorem aNC{l:List gY}{x y:gY}(h:y∈(aAa l x).2):y∈l∨y=x:=by
 unfold aAa at h;split at h
 ·exact .inl h
 ·split at h
  ·exact .inl h
  ·split at h
   ·exact .inl h
   ·simpa using h
theorem aUq{l:List gY}{x:gY}(h:l.length≤4096):(aAa l x).2.length≤4096:=by
 unfold aAa;split
 ·exact h
 ·split
  ·exact h
  ·split
   ·exact h
   ·simp only[jP,zLS];omega
theorem KOk.doP{c:Ch}(H:KOk c)(o:Ch){a:jL}(w:a.wf):KOk (kF c o a).1:=by
 have same:∀{c':Ch},c'.cl=c.cl->KOk c':=λe=>by unfold KOk;rw[e];exact H
 rcases aF4 c o a with⟨-,-,e,-⟩|⟨-,b,-,e,-⟩|⟨-,-,e,-⟩|⟨-,-,e,-⟩|⟨-,-,e,-⟩|⟨-,e⟩|⟨e,-⟩<;>rw[e]
 ·exact same rfl
 ·refine⟨aUq H.1,λy hy=>?_⟩;obtain⟨z,hz,rfl⟩:=lO.1 hy;rcases aNC hz with hz|rfl
  ·exact H.2 _ (lO.2 ⟨z,hz,rfl⟩)
  ·have:=w.h;exact⟨by show(0:Int)≤(a.h:Int);omega,by show(a.h:Int)<_;omega⟩
 ·exact same rfl
 ·exact same rfl
 ·exact same rfl
 ·exact same (uQ c).2.1
 ·exact H
def aPp(id:Int)(A:List Tx)(G:Pk->Prop)(q:Pr):Prop:=∀n,n<18446744073709551616->q.k=fS 97 n->∃p,G p∧p.f=id∧p.s.toNat=n∧q.v=aBs p∧p.right=true∧p.wf∧∀t∈aFw p,t∈A
structure vJ(c o:Ch)(A:List Tx)(G T:Pk->Prop):Prop where
 cl:∀y∈c.cl,∃(x:Nat) (b:List Pr),y.height=(x:Int)∧oK o.st x=some b∧y.root=tx (lB b)∧∀t∈rR b,t∈A
 rk:∀p,G p->p.f=c.id->aI9 o.st (fS 114 p.s.toNat) p.t
 ak:aFp o.st (aPp c.id A G)
 tm:∀p,T p->p.f=c.id->p.t≤(o.st.height:Int)+1
section
variable{c o:Ch}{A:List Tx}{G T:Pk->Prop}(H:vJ c o A G T)
include H
theorem vJ.asked{A':List Tx}(hs:∀t∈A,t∈A'):vJ c o A' G T:=
 ⟨λy hy=>by obtain⟨x,b,h1,h2,h3,h4⟩:=H.cl y hy;exact⟨x,b,h1,h2,h3,λt ht=>hs t (h4 t ht)⟩,H.rk,H.ak.mono λq hq n hn hk=>by obtain⟨p,h1,h2,h3,h4,h5,h6,h7⟩:=hq n hn hk;exact⟨p,h1,h2,h3,h4,h5,h6,λt ht=>hs t (h7 t ht)⟩,H.tm⟩
theorem vJ.left{c':Ch}(hid:c'.id=c.id)(hcl:c'.cl=c.cl):vJ c' o A G T:=
 ⟨λy hy=>H.cl y (hcl▸hy),λp hp hf=>H.rk p hp (hid▸hf),by rw[hid];exact H.ak,λp hp hf=>H.tm p hp (hid▸hf)⟩
theorem vJ.right{o':Ch}(hst:o'.st=o.st):vJ c o' A G T:=
 ⟨λy hy=>by rw[hst];exact H.cl y hy,λp hp hf=>by rw[hst];exact H.rk p hp hf,by rw[hst];exact H.ak,λp hp hf=>by rw[hst];exact H.tm p hp hf⟩
theorem vJ.gt{G' T':Pk->Prop}(hG:∀p,p.f=c.id->(G' p↔G p))(hT:∀p,p.f=c.id->(T' p↔T p)):vJ c o A G' T':=
 ⟨H.cl,λp hp hf=>H.rk p ((hG p hf).1 hp) hf,H.ak.mono λq hq n hn hk=>by obtain⟨p,h1,h2,h3⟩:=hq n hn hk;exact⟨p,(hG p h2).2 h1,h2,h3⟩,λp hp hf=>H.tm p ((hT p hf).1 hp) hf⟩
theorem vJ.told(x:Nat){b:List Pr}(hx:oK o.st x=some b)(hA:∀t∈rR b,t∈A):vJ (c.told (x:Int) (lB b)) o A G T:=
 ⟨λy hy=>by
  rcases aNC hy with hy|rfl
  ·exact H.cl y hy
  ·exact⟨x,b,rfl,hx,rfl,hA⟩,H.rk,H.ak,H.tm⟩
theorem vJ.put{o':Ch}{k v:Tx}(hst:o'.st=aKo o.st k v)(hp:aPp c.id A G ⟨k,v⟩):vJ c o' A G T:=
 ⟨λy hy=>by rw[hst];exact H.cl y hy,λp hp hf=>by rw[hst];exact(H.rk p hp hf).put _ _,by rw[hst];exact H.ak.put hp,λp hp hf=>by rw[hst];exact H.tm p hp hf⟩
theorem vJ.del{o':Ch}{n:Nat}(hst:o'.st=aPo o.st (fS 99 n)):vJ c o' A G T:=
 ⟨λy hy=>by rw[hst];exact H.cl y hy,λp hp hf=>by rw[hst];exact(H.rk p hp hf).del (aIg (by decide)),by rw[hst];exact H.ak.del _,λp hp hf=>by rw[hst];exact H.tm p hp hf⟩
theorem vJ.com(ok:o.st.Ok):vJ c o.committed A G T:=by
 obtain⟨e1,-,-⟩:=uQ o;refine⟨λy hy=>?_,λp hp hf=>by rw[e1];exact(H.rk p hp hf).com ok,by rw[e1];exact H.ak.com,λp hp hf=>by
  have:=H.tm p hp hf;have:=aSK o.st;rw[e1];omega⟩
 obtain⟨x,b,h1,h2,h3,h4⟩:=H.cl y hy;exact⟨x,b,h1,by rw[e1];exact aM9 ok h2,h3,h4⟩
theorem vJ.root{x:Nat}(hr:(kO c.cl (x:Int)).isSome=true):∃b,oK o.st x=some b∧pX c.cl (x:Int)=lB b∧∀t∈rR b,t∈A:=by
 obtain⟨r,er⟩:=Option.isSome_iff_exists.1 hr;unfold pX;rw[er];unfold kO at er;cases hf:c.cl.find? λp=>decide ((x:Int)=p.height) with
 | none=>rw[hf] at er;cases er
 | some y=>
  rw[hf] at er;simp only[aII,zL8] at er;have hm:=List.mem_of_find?_eq_some hf;have hk:=List.find?_some hf;simp only[decide_eq_true_eq] at hk;obtain⟨x',b,h1,h2,h3,h4⟩:=H.cl y hm;have ex:x'=x:=by omega
  subst ex;refine⟨b,h2,?_,h4⟩;show(Option.getD (some r) _).data.toList=_;rw[aIA,←er,h3];rfl
end
theorem aPE{id:Int}{A:List Tx}{G:Pk->Prop}{ch:UInt8}{n:Nat}{v:Tx}(h:ch≠97):aPp id A G ⟨fS ch n,v⟩:=λm _ e=>absurd e (aIg h)
theorem aWg{t:Int}(h0:0<t)(h1:t<18446744073709551616):IntKind.u64.wrap (t-1)=t-1:=by rw[gL (by omega) (by omega)]
def yY(a:jL)(e:Int)(G:Pk->Prop):Pk->Prop:=λp=>G p∨(e=0∧a.kind=2∧p=a.p)
def aAi(a:jL)(e:Int)(T:Pk->Prop):Pk->Prop:=λp=>T p∨(e=0∧a.kind=4∧p=a.p)
structure aQy(c o:Ch)(a:jL)(A:List Tx)(G T:Pk->Prop):Prop where
 one:vJ (kF c o a).1 o A (yY a (kF c o a).2.2.2 G) (aAi a (kF c o a).2.2.2 T)
 two:vJ o (kF c o a).1 A (yY a (kF c o a).2.2.2 G) (aAi a (kF c o a).2.2.2 T)
 recv:(kF c o a).2.2.2=0->a.kind=2->a.p.f=o.id∧IntKind.u64.wrap (((kF c o a).1.st.height:Int)+1)<a.p.t∧¬T a.p
 ack:(kF c o a).2.2.2=0->a.kind=3->a.p.f=c.id∧G a.p
 tim:(kF c o a).2.2.2=0->a.kind=4->a.p.f=c.id∧¬G a.p
theorem aOy{c o:Ch}{a:jL}{A:List Tx}{G T:Pk->Prop}(D1:vJ c o A G T)(D2:vJ o c A G T)(U:aHM (doA c o a++A))(hid:c.id≠o.id)(hco:1-c.id=o.id)(wa:a.wf)(okc:c.st.Ok)(oko:o.st.Ok)(hs1:c.seq<18446744073709551616):aQy c o a (doA c o a++A) G T:=by
 have sub:∀t∈A,t∈doA c o a++A:=λt ht=>zLl _ ht;have D1:=D1.asked sub;have D2:=D2.asked sub;have subA:∀t∈doA c o a,t∈doA c o a++A:=λt ht=>zLk _ ht;generalize doA c o a++A=A' at *;obtain⟨w1,w2,w3,w4⟩:=wa.p;rcases aF4 c o a with⟨k0,e,e1,e2,eA⟩|⟨k1,b,e,e1,eA⟩|⟨k2,e,e1,e2,eA⟩|⟨k3,e,e1,e2,eA⟩|⟨k4,e,e1,e2,eA⟩|⟨k5,e1⟩|⟨e1,e2⟩
 ·have gg:∀p,yY a (kF c o a).2.2.2 G p↔G p:=λp=>by unfold yY;rw[k0];simp
  have tt:∀p,aAi a (kF c o a).2.2.2 T p↔T p:=λp=>by unfold aAi;rw[k0];simp
  refine⟨?_,?_,λ_ h=>by omega,λ_ h=>by omega,λ_ h=>by omega⟩
  ·rw[e1];exact(D1.left (c':=c.sent (jX c a.d a.h)) rfl rfl).gt (λp _=>gg p) (λp _=>tt p)
  ·rw[e1];exact(D2.put (o':=c.sent (jX c a.d a.h)) (aOF c _).1 (aPE (by decide))).gt (λp _=>gg p) (λp _=>tt p)
 ·have gg:∀p,yY a (kF c o a).2.2.2 G p↔G p:=λp=>by unfold yY;rw[k1];simp
  have tt:∀p,aAi a (kF c o a).2.2.2 T p↔T p:=λp=>by unfold aAi;rw[k1];simp
  refine⟨?_,?_,λ_ h=>by omega,λ_ h=>by omega,λ_ h=>by omega⟩
  ·rw[e1];exact(D1.told a.h e (λt ht=>subA t (by rw[eA];exact ht))).gt (λp _=>gg p) (λp _=>tt p)
  ·rw[e1];exact(D2.right (o':=c.told (a.h:Int) (lB b)) rfl).gt (λp _=>gg p) (λp _=>tt p)
 ·obtain⟨r1,r2,r3,r4,r5,r6,r7⟩:=aL4 e;have hf:a.p.f=o.id:=by rw[r2,hco]
  have hth:=okc.h4;have hw:IntKind.u64.wrap ((c.st.height:Int)+1)=(c.st.height:Int)+1:=by rw[gL (by omega) (by omega)]
  have ht:(c.st.height:Int)+1<a.p.t:=by rw[←hw];exact r3
  have gg:∀p,yY a (kF c o a).2.2.2 G p↔(G p∨p=a.p):=λp=>by unfold yY;rw[k2,e2];simp
  have tt:∀p,aAi a (kF c o a).2.2.2 T p↔T p:=λp=>by unfold aAi;rw[k2];simp
  have nT:¬T a.p:=λh=>by
   have:=D2.tm a.p h hf;omega
  refine⟨?_,?_,λ_ _=>⟨hf,by rw[e1];exact r3,nT⟩,λ_ h=>by omega,λ_ h=>by omega⟩
  ·rw[e1];refine(D1.left (c':=c.received a.p) rfl rfl).gt (λp hp=>?_) (λp _=>tt p);rw[gg p];constructor
   ·rintro(h|rfl)
    ·exact h
    ·exact absurd (show c.id=o.id by rw[←hf];exact hp.symm) hid
   ·exact .inl
  ·rw[e1];obtain⟨s1,s2,s3⟩:=aJv c a.p;have hn:a.p.s.toNat<18446744073709551616:=by omega
   refine⟨λy hy=>D2.cl y hy |> λ⟨x,b,h1,h2,h3,h4⟩=>⟨x,b,h1,by rw[s1];exact h2,h3,h4⟩,λp hp hpf=>?_,?_,λp hp hpf=>by rw[s1];exact D2.tm p ((tt p).1 hp) hpf⟩
   ·rw[s1];rcases (gg p).1 hp with hp|rfl
    ·exact((D2.rk p hp hpf).put _ _).put _ _
    ·have h1:aI9 (aKo c.st (fS 114 a.p.s.toNat) [1]) (fS 114 a.p.s.toNat) a.p.t:=⟨⟨⟨fS 114 a.p.s.toNat,[1]⟩,tA.2 (.inl rfl),rfl⟩,λx b hx htx=>by
      have h2:=aQO hx;have h3:x≤c.st.height:=h2;omega⟩
     exact h1.put _ _
   ·rw[s1];have base:aFp c.st (aPp o.id A' (yY a (kF c o a).2.2.2 G)):=D2.ak.mono λq hq n hn hk=>by
     obtain⟨p,h1,h2,h3⟩:=hq n hn hk;exact⟨p,(gg p).2 (.inl h1),h2,h3⟩
    refine(base.put (aPE (by decide))).put λn hn' hk=>?_;obtain⟨-,en⟩:=aM6 hn hn' hk;exact⟨a.p,(gg _).2 (.inr rfl),hf,en,rfl,r1,wa.p,λt ht=>subA t (by rw[eA];simp[ht])⟩
 ·obtain⟨r1,r2,r3,r4,r5⟩:=aDh (by unfold xS;simp) e;have q1:=r4 (11,(kO c.cl (a.h:Int)).isSome) (by unfold xS;simp);have q2:=r4 (9,aCd (pX c.cl (a.h:Int)) (lS o a) (fS 97 a.p.s.toNat) (aBs a.p)) (by unfold xS;simp);simp only at q1 q2;obtain⟨b,hb,eb,hbA⟩:=D1.root q1;rw[eb] at q2;have hm:=aPH (oko.mok hb) U (λt ht=>subA t (by rw[eA];simp[ht])) hbA q2;have hn:a.p.s.toNat<18446744073709551616:=by omega
  obtain⟨p,g1,g2,g3,g4,g5,g6,g7⟩:=D1.ak.2 b (aRs hb) _ hm _ hn rfl;have ebs:=aV0 r1 g5 U (λt ht=>subA t (by rw[eA];simp[ht])) g7 g4;have ep:a.p=p:=Pk.bs_inj r1 g5 wa.p g6 ebs;have gg:∀p,yY a (kF c o a).2.2.2 G p↔G p:=λp=>by unfold yY;rw[k3];simp
  have tt:∀p,aAi a (kF c o a).2.2.2 T p↔T p:=λp=>by unfold aAi;rw[k3];simp
  refine⟨?_,?_,λ_ h=>by omega,λ_ _=>⟨r2,by rw[ep];exact g1⟩,λ_ h=>by omega⟩
  ·rw[e1];exact(D1.left (c':=c.settled 3 a.p) rfl rfl).gt (λp _=>gg p) (λp _=>tt p)
  ·rw[e1];exact(D2.del (o':=c.settled 3 a.p) (aGt c 3 a.p).1).gt (λp _=>gg p) (λp _=>tt p)
 ·obtain⟨r1,r2,r3,r4,r5⟩:=aDh (by unfold qQ;simp) e;have q0:=r4 (11,decide (IntKind.u64.wrap (a.p.t-1)≤(a.h:Int))) (by unfold qQ;simp);have q1:=r4 (11,(kO c.cl (a.h:Int)).isSome) (by unfold qQ;simp);have q2:=r4 (9,aCX (pX c.cl (a.h:Int)) (lS o a) (fS 114 a.p.s.toNat)) (by unfold qQ;simp);simp only[decide_eq_true_eq] at q0 q1 q2;have ht0:0<a.p.t:=by
   have:=(Pk.right_iff.1 r1).2.2.2.1;omega
  rw[aWg ht0 w4] at q0;obtain⟨b,hb,eb,hbA⟩:=D1.root q1;rw[eb] at q2;have hl:=aRL (oko.mok hb) U (λt ht=>subA t (by rw[eA];simp[ht])) hbA q2;have nG:¬G a.p:=λh=>by
   obtain⟨q,hq,ek⟩:=(D1.rk a.p h r2).2 a.h b hb (by omega);exact hl q hq ek
  have hle:=aQO hb;have gg:∀p,yY a (kF c o a).2.2.2 G p↔G p:=λp=>by unfold yY;rw[k4];simp
  have tt:∀p,aAi a (kF c o a).2.2.2 T p↔(T p∨p=a.p):=λp=>by unfold aAi;rw[k4,e2];simp
  refine⟨?_,?_,λ_ h=>by omega,λ_ h=>by omega,λ_ _=>⟨r2,nG⟩⟩
  ·rw[e1];have D:=D1.left (c':=c.settled 4 a.p) rfl rfl;refine⟨D.cl,λp hp hf=>D.rk p ((gg p).1 hp) hf,D.ak.mono λq hq n hn hk=>?_,λp hp hf=>?_⟩
   ·obtain⟨p,h1,h2⟩:=hq n hn hk;exact⟨p,(gg p).2 h1,h2⟩
   ·rcases (tt p).1 hp with hp|rfl
    ·exact D.tm p hp hf
    ·omega
  ·rw[e1];refine(D2.del (o':=c.settled 4 a.p) (aGt c 4 a.p).1).gt (λp _=>gg p) (λp hp=>?_);rw[tt p];constructor
   ·rintro(h|rfl)
    ·exact h
    ·exact absurd (show c.id=o.id by rw[←hp];exact r2.symm) hid
   ·exact .inl
 ·have gg:∀p,yY a (kF c o a).2.2.2 G p↔G p:=λp=>by unfold yY;rw[k5];simp
  have tt:∀p,aAi a (kF c o a).2.2.2 T p↔T p:=λp=>by unfold aAi;rw[k5];simp
  obtain⟨s1,s2,s3⟩:=uQ c;refine⟨?_,?_,λ_ h=>by omega,λ_ h=>by omega,λ_ h=>by omega⟩
  ·rw[e1];exact(D1.left s3 s2).gt (λp _=>gg p) (λp _=>tt p)
  ·rw[e1];exact(D2.com okc).gt (λp _=>gg p) (λp _=>tt p)
 ·have gg:∀p,yY a (kF c o a).2.2.2 G p↔G p:=λp=>by
   unfold yY;constructor
   ·rintro(h|⟨h1,h2,-⟩)
    ·exact h
    ·have:=e2 h1;omega
   ·exact .inl
  have tt:∀p,aAi a (kF c o a).2.2.2 T p↔T p:=λp=>by
   unfold aAi;constructor
   ·rintro(h|⟨h1,h2,-⟩)
    ·exact h
    ·have:=e2 h1;omega
   ·exact .inl
  refine⟨?_,?_,λh1 h=>by have:=e2 h1;omega,λh1 h=>by have:=e2 h1;omega,λh1 h=>by have:=e2 h1;omega⟩
  ·rw[e1];exact D1.gt (λp _=>gg p) (λp _=>tt p)
  ·rw[e1];exact D2.gt (λp _=>gg p) (λp _=>tt p)
def Ch.all(c:Ch):List Nt:=c.blk.flatten++c.nts
def cS(l:List Nt)(p:Pk):Nat:=(l.filter λn=>decide (n.k=1∧n.p=p)).length
def cR(l:List Nt)(p:Pk):Nat:=(l.filter λn=>decide (n.k=2∧n.p=p)).length
def cO(l:List Nt)(p:Pk):Nat:=(l.filter λn=>decide ((n.k≠1∧n.k≠2)∧n.p=p)).length
theorem aOO(l:List Nt)(n:Nt)(p:Pk):cS (l++[n]) p=cS l p+if n.k=1∧n.p=p then 1 else 0:=by
 unfold cS;rw[aHK,jP];congr 1;by_cases c:n.k=1∧n.p=p<;>simp[c]
theorem aWl(l:List Nt)(n:Nt)(p:Pk):cR (l++[n]) p=cR l p+if n.k=2∧n.p=p then 1 else 0:=by
 unfold cR;rw[aHK,jP];congr 1;by_cases c:n.k=2∧n.p=p<;>simp[c]
theorem aXj(l:List Nt)(n:Nt)(p:Pk):cO (l++[n]) p=cO l p+if (n.k≠1∧n.k≠2)∧n.p=p then 1 else 0:=by
 unfold cO;rw[aHK,jP];congr 1;by_cases c:(n.k≠1∧n.k≠2)∧n.p=p<;>simp[c]
theorem aWu{l:List Nt}{p:Pk}(h:∀n∈l,n.k=1->n.p≠p):cS l p=0:=by
 unfold cS;rw[List.length_eq_zero_iff,List.filter_eq_nil_iff];intro n hn;simp only[decide_eq_true_eq];exact λe=>h n hn e.1 e.2
theorem aXS{l:List Nt}{p:Pk}(h:∀n∈l,n.k=2->n.p≠p):cR l p=0:=by
 unfold cR;rw[List.length_eq_zero_iff,List.filter_eq_nil_iff];intro n hn;simp only[decide_eq_true_eq];exact λe=>h n hn e.1 e.2
theorem aWn{l:List Nt}{p:Pk}(h:∀n∈l,n.k≠1->n.k≠2->n.p≠p):cO l p=0:=by
 unfold cO;rw[List.length_eq_zero_iff,List.filter_eq_nil_iff];intro n hn;simp only[decide_eq_true_eq];exact λe=>h n hn e.1.1 e.1.2 e.2
def aKU(id:Int)(l:List Nt)(n:Nt):Prop:=
 if n.k=1 then n.p.f=id∧cS l n.p=1 else if n.k=2 then n.p.f=1-id∧cR l n.p=1 else n.p.f=id∧cO l n.p=1∧cS l n.p=1
def aAK(id:Int)(l:List Nt):Prop:=∀i n,l[i]? =some n->aKU id (l.take (i+1)) n
theorem aAK.nil(id:Int):aAK id []:=λi n h=>by simp at h
theorem aAK.snoc{id:Int}{l:List Nt}{n:Nt}(H:aAK id l)(h:aKU id (l++[n]) n):aAK id (l++[n]):=λi m hm=>by
 by_cases c:i<l.length
 ·rw[List.getElem?_append_left c] at hm;rw[zLG (by omega)];exact H i m hm
 ·have hl:=(zLz.1 hm).1;rw[jP,zLS] at hl;have e:i=l.length:=by omega
  subst e;simp only[List.getElem?_concat_length,zL8] at hm;subst hm;rw[mW (by simp)];exact h
theorem aAK.init{id:Int}{l:List Nt}{n:Nt}(H:aAK id (l++[n])):aAK id l∧aKU id (l++[n]) n:=by
 refine⟨λi m hm=>?_,?_⟩
 ·have hl:=(zLz.1 hm).1;have:=H i m (by rw[List.getElem?_append_left hl];exact hm)
  rwa [zLG (by omega)] at this
 ·have:=H l.length n (by simp)
  rwa [mW (by simp)] at this
theorem aAK.one{id:Int}{p:Pk}(l:List Nt):aAK id l->(⟨1,p⟩:Nt)∈l->cS l p=1:=by
 refine aNE (p:=λl=>aAK id l->(⟨1,p⟩:Nt)∈l->cS l p=1) (λ_ h=>by cases h) (λl n ih H hm=>?_) l;obtain⟨h1,h2⟩:=H.init;by_cases c:n=⟨1,p⟩
 ·subst c;unfold aKU at h2;rw[if_pos rfl] at h2;exact h2.2
 ·have hm':(⟨1,p⟩:Nt)∈l:=by
   rcases jG.1 hm with hm|hm
   ·exact hm
   ·simp only[fV] at hm;exact absurd hm.symm c
  rw[aOO,ih h1 hm',if_neg];rintro⟨e1,e2⟩;obtain⟨nk,np⟩:=n;simp only at e1 e2;exact c (by rw[e1,e2])
def aLT(A:List Tx)(l:List Nt)(q:Pr):Prop:=∀n,n<18446744073709551616->q.k=fS 99 n->∃p:Pk,(⟨1,p⟩:Nt)∈l∧p.s.toNat=n∧q.v=mN p∧∀t∈oT p,t∈A
structure pI(c o:Ch)(A:List Tx):Prop where
 ok:aAK c.id c.all
 s1:∀p,(⟨1,p⟩:Nt)∈c.all->p.f=c.id∧p.right=true∧p.wf∧p.s<(c.seq:Int)
 s2:aFp c.st (aLT A c.all)
 s3:∀p,(⟨2,p⟩:Nt)∈c.all->∃q∈c.st.now,q.k=fS 114 p.s.toNat
 s4:∀n∈c.all,n.k≠1->n.k≠2->(0≤n.p.s∧n.p.s<(c.seq:Int))∧∀q∈c.st.now,q.k≠fS 99 n.p.s.toNat
 s5:∀p,(⟨2,p⟩:Nt)∈c.all->(⟨1,p⟩:Nt)∈o.all
 cl:∀y∈c.cl,∃(x:Nat) (b:List Pr),y.height=(x:Int)∧oK o.st x=some b∧y.root=tx (lB b)∧∀t∈rR b,t∈A
 mx:c.st.height=18446744073709551615->c.nts=[]
theorem aWw{c o:Ch}{A:List Tx}(cl:∀y∈c.cl,∃(x:Nat) (b:List Pr),y.height=(x:Int)∧oK o.st x=some b∧y.root=tx (lB b)∧∀t∈rR b,t∈A){x:Nat}(hr:(kO c.cl (x:Int)).isSome=true):∃b,oK o.st x=some b∧pX c.cl (x:Int)=lB b∧∀t∈rR b,t∈A:=by
 obtain⟨r,er⟩:=Option.isSome_iff_exists.1 hr;unfold pX;rw[er];unfold kO at er;cases hf:c.cl.find? λp=>decide ((x:Int)=p.height) with
 | none=>rw[hf] at er;cases er
 | some y=>
  rw[hf] at er;simp only[aII,zL8] at er;have hm:=List.mem_of_find?_eq_some hf;have hk:=List.find?_some hf;simp only[decide_eq_true_eq] at hk;obtain⟨x',b,h1,h2,h3,h4⟩:=cl y hm;have ex:x'=x:=by omega
  subst ex;refine⟨b,h2,?_,h4⟩;show(Option.getD (some r) _).data.toList=_;rw[aIA,←er,h3];rfl
theorem pI.asked{c o:Ch}{A A':List Tx}(H:pI c o A)(hs:∀t∈A,t∈A'):pI c o A':=
 ⟨H.ok,H.s1,H.s2.mono λq hq n hn hk=>by obtain⟨p,h1,h2,h3,h4⟩:=hq n hn hk;exact⟨p,h1,h2,h3,λt ht=>hs t (h4 t ht)⟩,H.s3,H.s4,H.s5,λy hy=>by obtain⟨x,b,h1,h2,h3,h4⟩:=H.cl y hy;exact⟨x,b,h1,h2,h3,λt ht=>hs t (h4 t ht)⟩,H.mx⟩
theorem pI.other{c o o':Ch}{A:List Tx}(H:pI c o A)(h5:∀p,(⟨1,p⟩:Nt)∈o.all->(⟨1,p⟩:Nt)∈o'.all)(hat:∀x b,oK o.st x=some b->oK o'.st x=some b):pI c o' A:=
 ⟨H.ok,H.s1,H.s2,H.s3,H.s4,λp hp=>h5 p (H.s5 p hp),λy hy=>by obtain⟨x,b,h1,h2,h3⟩:=H.cl y hy;exact⟨x,b,h1,hat x b h2,h3⟩,H.mx⟩
theorem aOY(c:Ch)(n:Nt):(c.add n).all=c.all++[n]:=by
 unfold Ch.all Ch.add;exact(mT _ _ _).symm
theorem aOM(c:Ch):c.committed.all=c.all:=by
 unfold Ch.committed;by_cases he:(jW c.st).2.2=0
 ·rw[if_pos he];unfold Ch.all;simp
 ·rw[if_neg he]
theorem aXl{L:List Pr}{k:Tx}(h:(gG L k).isSome=false):∀q∈L,q.k≠k:=λq hq e=>by
 unfold gG at h;rw[Option.isSome_eq_false_iff,Option.isNone_iff_eq_none,List.find?_eq_none] at h;exact h q hq (by simp[e])
theorem aUr{s:Ch}{d:Tx}{t:Nat}(ht:t<18446744073709551616)(hs:s.seq<18446744073709551616):(jX s d t).wf:=⟨by show(0:Int)≤(s.seq:Int);omega,by show(s.seq:Int)<_;omega,by show(0:Int)≤(t:Int);omega,by show(t:Int)<_;omega⟩
theorem aFs(c:Ch)(p:Pk):(c.sent p).all=c.all++[⟨1,p⟩]:=aOY _ _
theorem aAW(c:Ch)(p:Pk):(c.received p).all=c.all++[⟨2,p⟩]:=aOY _ _
theorem aAE(c:Ch)(k:Int)(p:Pk):(c.settled k p).all=c.all++[⟨k,p⟩]:=aOY _ _
theorem pC{α:Type}{l:List α}{a b:α}:a∈l++[b]↔a∈l∨a=b:=by simp
theorem aLT.more{A:List Tx}{l:List Nt}{n:Nt}{q:Pr}(h:aLT A l q):aLT A (l++[n]) q:=λm hm hk=>by
 obtain⟨p,h1,h2⟩:=h m hm hk;exact⟨p,pC.2 (.inl h1),h2⟩
theorem aNg{A:List Tx}{l:List Nt}{ch:UInt8}{n:Nat}{v:Tx}(h:ch≠99):aLT A l ⟨fS ch n,v⟩:=λm _ e=>absurd e (aIg h)
theorem aWS{n:Nt}{k:Int}{p:Pk}(h1:n.k=k)(h2:n.p=p):n=⟨k,p⟩:=by
 obtain⟨a,b⟩:=n;simp only at h1 h2;rw[h1,h2]
theorem aOT{L:List Pr}{k v:Tx}{q:Pr}(h:q∈nH L ⟨k,v⟩):q=⟨k,v⟩∨q∈L:=by
 rcases tA.1 h with h|h
 ·exact .inl h
 ·exact .inr h.1
theorem aMR{L:List Pr}{k k' v:Tx}(h:∃q∈L,q.k=k):∃q∈nH L ⟨k',v⟩,q.k=k:=by
 obtain⟨q,hq,e⟩:=h;by_cases c:q.k=k'
 ·exact⟨⟨k',v⟩,tA.2 (.inl rfl),by rw[←c];exact e⟩
 ·exact⟨q,tA.2 (.inr ⟨hq,c⟩),e⟩
section
variable{c o:Ch}{A:List Tx}(H:pI c o A)
include H
theorem pI.send{p:Pk}(hp:p.right=true)(wp:p.wf)(hf:p.f=c.id)(hs:p.s=(c.seq:Int))(hx:c.st.height≠18446744073709551615)(hA:∀t∈oT p,t∈A):pI (c.sent p) o A:=by
 obtain⟨e1,e2,e3⟩:=aOF c p;have hq:=wp.2.1;refine⟨?_,?_,?_,?_,?_,?_,H.cl,λh=>absurd h hx⟩
 ·rw[aFs,e3];refine H.ok.snoc ?_;unfold aKU;rw[if_pos rfl,aOO,if_pos ⟨rfl,rfl⟩,aWu λn hn e1 e2=>?_]
  ·exact⟨hf,rfl⟩
  ·have:=(H.s1 p (by rw[←aWS e1 e2];exact hn)).2.2.2;omega
 ·intro q hm;rw[aFs] at hm;show q.f=c.id∧q.right=true∧q.wf∧q.s<((c.seq+1:Nat):Int);rcases pC.1 hm with hm|hm
  ·obtain⟨h1,h2,h3,h4⟩:=H.s1 q hm;exact⟨h1,h2,h3,by omega⟩
  ·simp only[Nt.mk.injEq,true_and] at hm;subst hm;exact⟨hf,hp,wp,by omega⟩
 ·rw[e1,aFs];refine(H.s2.mono λq h=>h.more).put λn hn hk=>?_;obtain⟨-,en⟩:=aM6 (by omega) hn hk;exact⟨p,pC.2 (.inr rfl),by omega,rfl,hA⟩
 ·intro q hm;rw[aFs] at hm;rcases pC.1 hm with hm|hm
  ·rw[e1];exact aMR (H.s3 q hm)
  ·simp only[Nt.mk.injEq] at hm;omega
 ·intro n hm k1 k2;rw[aFs] at hm;rcases pC.1 hm with hm|hm
  ·obtain⟨h1,h2⟩:=H.s4 n hm k1 k2;refine⟨⟨h1.1,by show n.p.s<((c.seq+1:Nat):Int);omega⟩,λq hq=>?_⟩;rw[e1] at hq;rcases aOT hq with rfl|hq
   ·intro e;have e:fS 99 c.seq=fS 99 n.p.s.toNat:=e;obtain⟨-,en⟩:=aM6 (by omega) (by omega) e;omega
   ·exact h2 q hq
  ·subst hm;exact absurd rfl k1
 ·intro q hm;rw[aFs] at hm;rcases pC.1 hm with hm|hm
  ·exact H.s5 q hm
  ·simp only[Nt.mk.injEq] at hm;omega
theorem pI.recv{p:Pk}(hf:p.f=1-c.id)(hno:(gG c.st.now (fS 114 p.s.toNat)).isSome=false)(hx:c.st.height≠18446744073709551615)(h5:(⟨1,p⟩:Nt)∈o.all):pI (c.received p) o A:=by
 obtain⟨e1,e2,e3⟩:=aJv c p;refine⟨?_,?_,?_,?_,?_,?_,H.cl,λh=>absurd h hx⟩
 ·rw[aAW,e3];refine H.ok.snoc ?_;unfold aKU;rw[if_neg (show ¬(2:Int)=1 by decide),if_pos rfl,aWl,if_pos ⟨rfl,rfl⟩,aXS λn hn e1 e2=>?_]
  ·exact⟨hf,rfl⟩
  ·obtain⟨q,hq,ek⟩:=H.s3 p (by rw[←aWS e1 e2];exact hn);exact aXl hno q hq ek
 ·intro q hm;rw[aAW] at hm;rcases pC.1 hm with hm|hm
  ·exact H.s1 q hm
  ·simp only[Nt.mk.injEq] at hm;omega
 ·rw[e1,aAW];exact((H.s2.mono λq h=>h.more).put (aNg (by decide))).put (aNg (by decide))
 ·intro q hm;rw[aAW] at hm;rw[e1];rcases pC.1 hm with hm|hm
  ·exact aMR (aMR (H.s3 q hm))
  ·simp only[Nt.mk.injEq,true_and] at hm;subst hm;exact aMR ⟨⟨fS 114 q.s.toNat,[1]⟩,tA.2 (.inl rfl),rfl⟩
 ·intro n hm k1 k2;rw[aAW] at hm;rcases pC.1 hm with hm|hm
  ·obtain⟨h1,h2⟩:=H.s4 n hm k1 k2;refine⟨h1,λq hq=>?_⟩;rw[e1] at hq;rcases aOT hq with rfl|hq
   ·exact aIg (by decide)
   ·rcases aOT hq with rfl|hq
    ·exact aIg (by decide)
    ·exact h2 q hq
  ·subst hm;exact absurd rfl k2
 ·intro q hm;rw[aAW] at hm;rcases pC.1 hm with hm|hm
  ·exact H.s5 q hm
  ·simp only[Nt.mk.injEq,true_and] at hm;subst hm;exact h5
theorem pI.settle{k:Int}(k1:k≠1)(k2:k≠2){p:Pk}(hp:p.right=true)(wp:p.wf)(hf:p.f=c.id)(hs:oV c p=true)(hx:c.st.height≠18446744073709551615)(U:aHM A)(hA:∀t∈oT p,t∈A):pI (c.settled k p) o A:=by
 obtain⟨e1,e2,e3⟩:=aGt c k p;have w1:=wp.1;have w2:=wp.2.1
 -- the packet was sent
 obtain⟨y,hy,hyv⟩:∃y,gG c.st.now (fS 99 p.s.toNat)=some y∧y.v=mN p:=by
  unfold oV at hs;cases hg:gG c.st.now (fS 99 p.s.toNat) with
  | none=>rw[hg] at hs;cases hs
  | some y=>rw[hg] at hs;exact⟨y,rfl,of_decide_eq_true hs⟩
 have hym:y∈c.st.now:=List.mem_of_find?_eq_some hy;have hyk:fS 99 p.s.toNat=y.k:=by
  have:=List.find?_some hy;simpa using this
 obtain⟨q,h1,h2,h3,h4⟩:=H.s2.1 y hym p.s.toNat (by omega) hyk.symm;obtain⟨g1,g2,g3,g4⟩:=H.s1 q h1;have epq:p=q:=Pk.bs_inj hp g2 wp g3 (aOv hp g2 U hA h4 (by rw[←hyv,h3]));rw[←epq] at h1 g4;refine⟨?_,?_,?_,?_,?_,?_,H.cl,λh=>absurd h hx⟩
 ·rw[aAE,e3];refine H.ok.snoc ?_;unfold aKU;rw[if_neg k1,if_neg k2,aXj,if_pos ⟨⟨k1,k2⟩,rfl⟩,aWn λn hn e1 e2 e3=>?_]
  ·refine⟨hf,rfl,?_⟩;rw[aOO,if_neg (λh=>k1 h.1),H.ok.one _ h1]
  ·obtain⟨-,hno⟩:=H.s4 n hn e1 e2;exact hno y hym (by rw[e3];exact hyk.symm)
 ·intro r hm;rw[aAE] at hm;rcases pC.1 hm with hm|hm
  ·exact H.s1 r hm
  ·simp only[Nt.mk.injEq] at hm;exact absurd hm.1.symm k1
 ·rw[e1,aAE];exact(H.s2.mono λq h=>h.more).del _
 ·intro r hm;rw[aAE] at hm;rcases pC.1 hm with hm|hm
  ·obtain⟨z,hz,ez⟩:=H.s3 r hm;rw[e1];exact⟨z,zL1.2 ⟨hz,by simp only[ne_eq,decide_eq_true_eq];rw[ez];exact aIg (by decide)⟩,ez⟩
  ·simp only[Nt.mk.injEq] at hm;exact absurd hm.1.symm k2
 ·intro n hm j1 j2;rw[aAE] at hm;rw[e1];rcases pC.1 hm with hm|hm
  ·obtain⟨r1,r2⟩:=H.s4 n hm j1 j2;exact⟨r1,λz hz=>r2 z (zL1.1 hz).1⟩
  ·subst hm;refine⟨⟨w1,g4⟩,λz hz=>?_⟩;have:=(zL1.1 hz).2;simpa using this
 ·intro r hm;rw[aAE] at hm;rcases pC.1 hm with hm|hm
  ·exact H.s5 r hm
  ·simp only[Nt.mk.injEq] at hm;exact absurd hm.1.symm k2
theorem pI.told{x:Nat}{b:List Pr}(hx:oK o.st x=some b)(hA:∀t∈rR b,t∈A):pI (c.told (x:Int) (lB b)) o A:=
 ⟨H.ok,H.s1,H.s2,H.s3,H.s4,H.s5,λy hy=>by
  rcases aNC hy with hy|rfl
  ·exact H.cl y hy
  ·exact⟨x,b,rfl,hx,rfl,hA⟩,H.mx⟩
theorem pI.com:pI c.committed o A:=by
 obtain⟨e1,e2,e3⟩:=uQ c;have eall:=aOM c;have esq:c.committed.seq=c.seq:=by unfold Ch.committed;split<;>rfl
 have enow:c.committed.st.now=c.st.now:=by
  rw[e1];by_cases he:(jW c.st).2.2=0
  ·rw[(aCt he).1]
  ·rw[aBx he]
 refine⟨by rw[eall,e3];exact H.ok,by rw[eall,e3,esq];exact H.s1,by rw[eall,e1];exact H.s2.com,by rw[eall,enow];exact H.s3,by rw[eall,enow,esq];exact H.s4,by rw[eall];exact H.s5,by rw[e2];exact H.cl,λh=>?_⟩;unfold Ch.committed at h ⊢;by_cases he:(jW c.st).2.2=0
 ·rw[if_pos he]
 ·rw[if_neg he] at h ⊢;exact H.mx h
end
theorem aOq{c o:Ch}{a:jL}{A:List Tx}(O1:pI c o A)(O2:pI o c A)(U:aHM (doA c o a++A))(hco:1-c.id=o.id)(wa:a.wf)(okc:c.st.Ok)(oko:o.st.Ok)(hsq:c.seq<18446744073709551616):pI (kF c o a).1 o (doA c o a++A)∧pI o (kF c o a).1 (doA c o a++A):=by
 have sub:∀t∈A,t∈doA c o a++A:=λt ht=>zLl _ ht;have O1:=O1.asked sub;have O2:=O2.asked sub;have subA:∀t∈doA c o a,t∈doA c o a++A:=λt ht=>zLk _ ht;generalize doA c o a++A=A' at *;obtain⟨w1,w2,w3,w4⟩:=wa.p;rcases aF4 c o a with⟨k0,e,e1,e2,eA⟩|⟨k1,b,e,e1,eA⟩|⟨k2,e,e1,e2,eA⟩|⟨k3,e,e1,e2,eA⟩|⟨k4,e,e1,e2,eA⟩|⟨k5,e1⟩|⟨e1,e2⟩
 ·obtain⟨r1,r2,r3,r4,r5⟩:=aOo e;rw[e1];refine⟨O1.send r2 (aUr wa.h hsq) rfl rfl r5 (λt ht=>subA t (by rw[eA];exact ht)),O2.other (λp hp=>?_) (λx b hx=>hx)⟩;rw[aFs];exact pC.2 (.inl hp)
 ·rw[e1];exact⟨O1.told e (λt ht=>subA t (by rw[eA];exact ht)),O2.other (λp hp=>hp) (λx b hx=>hx)⟩
 ·obtain⟨r1,r2,r3,r4,r5,r6,r7⟩:=aL4 e;obtain⟨b,hb,eb,hbA⟩:=aWw O1.cl r5;rw[eb] at r6;have hm:=aPH (oko.mok hb) U (λt ht=>subA t (by rw[eA];simp[ht])) hbA r6;obtain⟨q,h1,h2,h3,h4⟩:=O2.s2.2 b (aRs hb) _ hm a.p.s.toNat (by omega) rfl;obtain⟨g1,g2,g3,g4⟩:=O2.s1 q h1;have epq:a.p=q:=Pk.bs_inj r1 g2 wa.p g3 (aOv r1 g2 U (λt ht=>subA t (by rw[eA];simp[ht])) h4 h3);rw[e1];refine⟨O1.recv r2 r4 r7 (by rw[epq];exact h1),O2.other (λp hp=>?_) (λx b hx=>hx)⟩;rw[aAW];exact pC.2 (.inl hp)
 ·obtain⟨r1,r2,r3,r4,r5⟩:=aDh (by unfold xS;simp) e;rw[e1];refine⟨O1.settle (by decide) (by decide) r1 wa.p r2 r3 r5 U (λt ht=>subA t (by rw[eA];simp[ht])),O2.other (λp hp=>?_) (λx b hx=>hx)⟩;rw[aAE];exact pC.2 (.inl hp)
 ·obtain⟨r1,r2,r3,r4,r5⟩:=aDh (by unfold qQ;simp) e;rw[e1];refine⟨O1.settle (by decide) (by decide) r1 wa.p r2 r3 r5 U (λt ht=>subA t (by rw[eA];simp[ht])),O2.other (λp hp=>?_) (λx b hx=>hx)⟩;rw[aAE];exact pC.2 (.inl hp)
 ·rw[e1];refine⟨O1.com,O2.other (λp hp=>by rw[aOM];exact hp) (λx b hx=>?_)⟩;rw[(uQ c).1];exact aM9 okc hx
 ·rw[e1];exact⟨O1,O2⟩
def aEp(d0 d1:Nat):List Value:=[pT d0 0,pT d1 0]
def dCh(b m:Nat)(A:List Tx)(K:List Nat)(c:Nat)(s:Ch)(n:Nat):mC:=eO (rF b m A K) (DC c b s n)
def dRe(t:Nat)(cs:List Value)(o b:Nat)(so:Ch)(n:Nat):mC:=eO (wD t cs) (DC o b so n)
theorem dCh.good(b m:Nat)(A:List Tx)(K:List Nat)(c:Nat)(s:Ch)(n:Nat):lX (dCh b m A K c s n):=(rF.good _ _ _ _).star (DC.good _ _ _ _)
theorem dRe.good(t:Nat)(cs:List Value)(o b:Nat)(so:Ch)(n:Nat):lX (dRe t cs o b so n):=(wD.good _ _).star (DC.good _ _ _ _)
theorem dRe.mono{t:Nat}{cs:List Value}{o b:Nat}{so:Ch}{n n':Nat}(hn:n≤n'){h:PH}{F:List Nat}(H:dRe t cs o b so n h F):dRe t cs o b so n' h F:=by
 obtain⟨Fa,Fb,rfl,hx,hy,hd⟩:=H;exact⟨Fa,Fb,rfl,hx,hy.mono hn,hd⟩
theorem dCh.mono{b m:Nat}{A:List Tx}{K:List Nat}{c:Nat}{s:Ch}{n n':Nat}(hn:n≤n'){h:PH}{F:List Nat}(H:dCh b m A K c s n h F):dCh b m A K c s n' h F:=by
 obtain⟨Fa,Fb,rfl,hx,hy,hd⟩:=H;exact⟨Fa,Fb,rfl,hx,hy.mono hn,hd⟩
theorem eO.imp{A B A' B':mC}{h:PH}{F:List Nat}(H:eO A B h F)(ha:∀G,A h G->A' h G)(hb:∀G,B h G->B' h G):eO A' B' h F:=by
 obtain⟨Fa,Fb,rfl,hx,hy,hd⟩:=H;exact⟨Fa,Fb,rfl,ha _ hx,hb _ hy,hd⟩
theorem aVT{h:PH}{F:List Nat}{b m:Nat}{A:List Tx}{K:List Nat}{c o t:Nat}{cs2:List Value}{s so:Ch}{n:Nat}(H:eO (dCh b m A K c s n) (dRe t cs2 o b so n) h F)(w:s.DOk)(hn:n≤10000){a:jL}(wa:a.wf)(hd64:a.d.length≤1000000){r1 r3:Nat}(B1:Bx h r1 a.cells)(n1:r1∉F){cs:List Value}(hcs:cs.length=4)(B3:Bx h r3 cs)(n3:r3∉F){R:cE}
  (hR:∀h' F',eO (dCh b m (doA s so a++A) K c (kF s so a).1 (n+1)) (dRe t cs2 o b so (n+1)) h' F'->cU (r3::F) h h'->(∀b∈F',b∈F∨h b=none)->R (.tuple #[(kF s so a).2.1.v,.int .u64 ((kF s so a).2.2.1:Int),.int .i64 (kF s so a).2.2.2]) h'):
  oE R (pT r1 0) (pT r3 0) (pT c 0) (pT o 0) (.string (tx (lS so a))) h:=by
 unfold oE;have gC:=λA s n=>dCh.good b m A K c s n;have gR:=λn=>dRe.good t cs2 o b so n;have fin:∀{h1:PH} {F1:List Nat} {A':List Tx} {s':Ch} {n':Nat} {pk:Pk} {hh:Nat} {e:Int},eO (dCh b m A' K c s' n') (dRe t cs2 o b so n) h1 F1->n'≤n+1->(∀a'∈doA s so a++A,a'∈A')->iX h F h1 F1->kF s so a=(s',(pk,hh,e))->cY PG (dN aR (pT r3 0) pk.v) h1 λ_ h80=>dY (cD PG h80 (loadAt aR (pT r3 0))) λv81=>R (.tuple #[v81,.int .u64 (hh:Int),.int .i64 e]) h80:=by
  intro h1 F1 A' s' n' pk hh e H1 hn' hA s1 ed;have B31:=B3.upd s1.upd n3;refine aR.put (vs:=pk.cells) B31 (o:=0) rfl (by omega) (Pk.isC _) λh2 B2 u2=>?_;have l2:cD PG h2 (loadAt aR (pT r3 0))=some pk.v:=B2.pk (by simp[Pk.cells]);simp only[l2,cG,reduceIte,cT,Nat.reduceAdd];have m3:r3∉F1:=λhm=>by
   rcases s1.grow _ hm with hx|hx
   ·exact n3 hx
   ·exact B3.known hx
  rw[ed] at hR;have H2:=((gC A' s' n').star (gR n)).upd H1 u2 (λb hb hb'=>by simp only[fV] at hb';exact m3 (hb'▸hb));exact hR h2 F1 (eO.imp H2 (λG hG=>dCh.mono hn' (rF.mono hG hA)) (λG hG=>dRe.mono (vL n) hG)) (λb ob hb hn=>by
   simp only[gP,not_or] at hn;exact u2 b ob (s1.upd b ob hb hn.2) (by simpa using hn.1)) s1.grow
 have lk:cD PG h (loadAt bT (pT r1 0))=some (.int .i64 a.kind):=by rw[bT.load,B1.cell];rfl
 have lh:∀{h':PH},Bx h' r1 a.cells->cD PG h' (loadAt cA (pT r1 2))=some (.int .u64 (a.h:Int)):=λB=>by rw[cA.load,B.cell];rfl
 have ld:cD PG h (loadAt bR (pT r1 3))=some (.string (tx a.d)):=by rw[bR.load,B1.cell];rfl
 have lp:cD PG h (loadAt aR (pT r1 4))=some a.p.v:=B1.pk rfl;have hpf:=aVZ so hd64;obtain⟨Fa,HA,hFa,back⟩:=eO.left (gR n) H;have back:∀{A':List Tx} {s':Ch} {n':Nat} {h':PH} {Fa':List Nat},eO (rF b m A' K) (DC c b s' n') h' Fa'->iX h Fa h' Fa'->∃F',eO (dCh b m A' K c s' n') (dRe t cs2 o b so n) h' F'∧iX h F h' F':=fun {A' s' n' h' Fa'} HX st=>back (dCh b m A' K c s' n') h' Fa' HX st;have hdd:kF s so a=if a.kind=0 then(if rD s a.d a.h=0 then(s.sent (jX s a.d a.h),(jX s a.d a.h,0,0)) else(s,(default,0,rD s a.d a.h)))
   else if a.kind=1 then(match oK so.st a.h with
    | none=>(s,(default,0,3))
    | some b=>(s.told (a.h:Int) (lB b),(default,0,(aAa s.cl ⟨(a.h:Int),tx (lB b)⟩).1)))
   else if a.kind=2 then(if rB s (tO s a.p (lS so a) (a.h:Int))=0 then(s.received a.p,(default,0,0)) else(s,(default,0,rB s (tO s a.p (lS so a) (a.h:Int)))))
   else if a.kind=3 then(if jI s a.p (xS s a.p (lS so a) (a.h:Int))=0 then(s.settled 3 a.p,(default,0,0)) else(s,(default,0,jI s a.p (xS s a.p (lS so a) (a.h:Int)))))
   else if a.kind=4 then(if jI s a.p (qQ s a.p (lS so a) (a.h:Int))=0 then(s.settled 4 a.p,(default,0,0)) else(s,(default,0,jI s a.p (qQ s a.p (lS so a) (a.h:Int)))))
   else if a.kind=5 then(s.committed,(default,(jW s.st).2.1,(jW s.st).2.2))
   else(s,(default,0,0)):=rfl
 have hda:doA s so a=if a.kind=0 then(if rD s a.d a.h=0 then oT (jX s a.d a.h) else [])
  else if a.kind=1 then(match oK so.st a.h with
   | none=>[]
   | some b=>rR b)
  else if a.kind=2 then(if rB s (tO s a.p (lS so a) (a.h:Int))=0 then aFw a.p++(aGc (lS so a)++oT a.p) else [])
  else if a.kind=3 then(if jI s a.p (xS s a.p (lS so a) (a.h:Int))=0 then aGc (lS so a)++(aFw a.p++oT a.p) else [])
  else if a.kind=4 then(if jI s a.p (qQ s a.p (lS so a) (a.h:Int))=0 then aIX (lS so a) (fS 114 a.p.s.toNat)++oT a.p else [])
  else []:=rfl
 by_cases k0:a.kind=0
 ·have q:(a.kind==0)=true:=by simp[k0]
  rw[if_pos k0] at hdd hda;simp only[cH.f0,cH.f2,cH.f3,fE,lk,ld,lh B1,hQ,q,cG,reduceIte,cT,Nat.reduceAdd];have last:∀{h1:PH} {F1:List Nat} {A':List Tx} {s':Ch} {n':Nat} {pk:Pk} {e:Int},eO (dCh b m A' K c s' n') (dRe t cs2 o b so n) h1 F1->n'≤n+1->(∀a'∈doA s so a++A,a'∈A')->iX h F h1 F1->kF s so a=(s',(pk,0,e))->∀r74,h1 r74=none->eJ (PH.set h1 r74 (.cells (dP PG aR) aR)) λh75=>
    cY PG (dN aR (pT r74 0) pk.v) h75 λv76 h77=>
    dY (cD PG h77 (loadAt aR (pT r74 0))) λv78=>
    cY PG (dN aR (pT r3 0) v78) h77 λv79 h80=>
    dY (cD PG h80 (loadAt aR (pT r3 0))) λv81=>
    R (.tuple #[v81,(Value.int IntKind.u64 0),.int .i64 e]) h80:=by
   intro h1 F1 A' s' n' pk e H1 hn' hA s1 ed r74 hr74
   try rw[cW]
   refine aR.fill (vs:=pk.cells) hr74 rfl (Pk.isC _) λh2 B2 u2=>?_;have l2:cD PG h2 (loadAt aR (pT r74 0))=some pk.v:=B2.pk rfl;simp only[l2,cG,reduceIte,cT,Nat.reduceAdd];exact fin (hh:=0) (((gC A' s' n').star (gR n)).ext H1 u2) hn' hA (s1.trans (iX.ext u2)) ed
  refine aVs HA w hn a.d hd64 wa.h (λhe h1 H1 s1=>?_) (λhe h1 F1 H1 s1=>?_)
  ·rw[if_neg he] at hdd hda;obtain⟨F2,W2,s2⟩:=back H1 s1;have:=last W2 (vL n) (by rw[hda];exact λ_ h=>h) s2 hdd;simp only[cG,reduceIte,cT,Nat.reduceAdd] at this ⊢;exact this
  ·rw[if_pos he] at hdd hda;obtain⟨F2,W2,s2⟩:=back H1 s1;have:=last W2 (oL _) (by rw[hda];exact λ_ h=>h) s2 hdd;simp only[cG,reduceIte,cT,Nat.reduceAdd] at this ⊢;exact this
 have q0:(a.kind==0)=false:=by simp[k0]
 rw[if_neg k0] at hdd hda;by_cases k1:a.kind=1
 ·have q:(a.kind==1)=true:=by simp[k1]
  rw[if_pos k1] at hdd hda;obtain⟨Fcd,HCd,HB,eFa,hdis⟩:=aEq HA;obtain⟨sp,cp,bv,nv,PC⟩:=id HCd;obtain⟨Fo,HO,hFo⟩:∃Fo,DC o b so n h Fo∧∀x∈Fo,x≠b∧x≠m:=by
   obtain⟨Fc,Fr,eF,HC,⟨Ft,Fo,eFr,-,HO,dto⟩,dcr⟩:=id H;obtain⟨Fcd,-,-,eFc,-⟩:=aEq HC;refine⟨Fo,HO,λx hx=>?_⟩;have h1:x∈Fr:=by rw[eFr];exact zLl _ hx
   refine⟨λe=>?_,λe=>?_⟩
   ·exact dcr b (by rw[eFc];simp) (e▸h1)
   ·exact dcr m (by rw[eFc];simp) (e▸h1)
  obtain⟨osp,ocp,obv,onv,PO⟩:=id HO;obtain⟨Fs,⟨G,St,eFs⟩,hFs,-⟩:=PO.fSt;obtain⟨cc,A0,HBk,hAA⟩:=id HB;have hGb:∀x∈G,x≠b∧x≠m:=λx hx=>hFo x (hFs x (by rw[eFs];simp[hx]));have n1b:r1∉[b,m]:=λhm=>by
   simp only[gP,kL,or_false] at hm;rcases hm with rfl|rfl
   ·exact n1 (hFa _ (by rw[eFa];simp))
   ·exact n1 (hFa _ (by rw[eFa];simp))
  simp only[cH.f0,cH.f2,cQ.f0,cQ.f2,fE,lk,lh B1,dl0 PC.cell,dl2 PO.cell,hQ,q0,q,cG,reduceIte,cT,Nat.reduceAdd];refine aUU St HBk hGb a.h wa.h (λe=>?_) (λl h1 c' e HB1 _ u1=>?_)
  ·rw[e] at hdd hda;obtain⟨F2,W2,s2⟩:=back HA iX.refl;have qe:((3:Int) !=0)=true:=by decide
   simp only[kE,qe,Pk.zb,cG,reduceIte,cT,Nat.reduceAdd];exact fin (hh:=0) W2 (vL n) (by rw[hda];exact λ_ h=>h) s2 hdd
  ·rw[e] at hdd hda;have HB2:Bk b m (rR l++A) K h1:=⟨c',_,HB1,λx hx=>by
    rcases jG.1 hx with hx|hx
    ·simp[hx]
    ·simp[hAA x hx]⟩
   obtain⟨-,s1⟩:=aHS (DC.good c b s n) HA HB2 u1;have P1:=lV.good.upd PC u1 (aLb hdis);have C1:=B1.upd u1 n1b;simp only[kE,Pk.zb,cH.f2,cQ.f3,fE,lh C1,dl3 P1.cell,cG,reduceIte,cT,Nat.reduceAdd];refine aVM P1 w.few (a.h:Int) (lB l) λh2 F2 P2 s2=>?_;obtain⟨W2,sW2⟩:=aHJ (X':=DC c b (s.told (a.h:Int) (lB l)) n) HB2 hdis ⟨sp,cp,bv,nv,P2⟩ s2;rw[←eFa] at sW2;obtain⟨F3,W3,s3⟩:=back W2 (s1.trans sW2);have:=fin (hh:=0) W3 (vL n) (by rw[hda];exact λ_ h=>h) s3 hdd;exact this
 have q1:(a.kind==1)=false:=by simp[k1]
 rw[if_neg k1] at hdd hda;by_cases k2:a.kind=2
 ·have q:(a.kind==2)=true:=by simp[k2]
  rw[if_pos k2] at hdd hda;simp only[cH.f0,cH.f2,cH.f4,fE,lk,lh B1,lp,hQ,q0,q1,q,Pk.zb,cG,reduceIte,cT,Nat.reduceAdd];have erc:aJZ s a.p (lS so a) (a.h:Int)=rB s (tO s a.p (lS so a) (a.h:Int)):=rfl;refine aUY HA w hn wa.p hpf wa.h (λhe h1 H1 s1=>?_) (λhe h1 F1 H1 s1=>?_)
  ·rw[erc] at he ⊢;rw[if_neg he] at hdd hda;obtain⟨F2,W2,s2⟩:=back H1 s1;exact fin (hh:=0) W2 (vL n) (by rw[hda];exact λ_ h=>h) s2 hdd
  ·rw[erc] at he;rw[if_pos he] at hdd hda;obtain⟨F2,W2,s2⟩:=back H1 s1;exact fin (hh:=0) W2 (oL _) (by rw[hda];exact λ_ h=>h) s2 hdd
 have q2:(a.kind==2)=false:=by simp[k2]
 rw[if_neg k2] at hdd hda;by_cases k3:a.kind=3
 ·have q:(a.kind==3)=true:=by simp[k3]
  rw[if_pos k3] at hdd hda;simp only[cH.f0,cH.f2,cH.f4,fE,lk,lh B1,lp,hQ,q0,q1,q2,q,Pk.zb,cG,reduceIte,cT,Nat.reduceAdd];refine aW6 HA w hn wa.p hpf wa.h (λhe h1 H1 s1=>?_) (λhe h1 F1 H1 s1=>?_)
  ·rw[if_neg he] at hdd hda;obtain⟨F2,W2,s2⟩:=back H1 s1;exact fin (hh:=0) W2 (vL n) (by rw[hda];exact λ_ h=>h) s2 hdd
  ·rw[if_pos he] at hdd hda;obtain⟨F2,W2,s2⟩:=back H1 s1;exact fin (hh:=0) W2 (oL _) (by rw[hda];exact λ_ h=>h) s2 hdd
 have q3:(a.kind==3)=false:=by simp[k3]
 rw[if_neg k3] at hdd hda;by_cases k4:a.kind=4
 ·have q:(a.kind==4)=true:=by simp[k4]
  rw[if_pos k4] at hdd hda;simp only[cH.f0,cH.f2,cH.f4,fE,lk,lh B1,lp,hQ,q0,q1,q2,q3,q,Pk.zb,cG,reduceIte,cT,Nat.reduceAdd];refine aRQ HA w hn wa.p hpf wa.h (λhe h1 H1 s1=>?_) (λhe h1 F1 H1 s1=>?_)
  ·rw[if_neg he] at hdd hda;obtain⟨F2,W2,s2⟩:=back H1 s1;exact fin (hh:=0) W2 (vL n) (by rw[hda];exact λ_ h=>h) s2 hdd
  ·rw[if_pos he] at hdd hda;obtain⟨F2,W2,s2⟩:=back H1 s1;exact fin (hh:=0) W2 (oL _) (by rw[hda];exact λ_ h=>h) s2 hdd
 have q4:(a.kind==4)=false:=by simp[k4]
 rw[if_neg k4] at hdd hda;by_cases k5:a.kind=5
 ·have q:(a.kind==5)=true:=by simp[k5]
  rw[if_pos k5] at hdd;simp only[cH.f0,fE,lk,hQ,q0,q1,q2,q3,q4,q,cG,reduceIte,cT,Nat.reduceAdd];obtain⟨Fcd,HCd,HB,eFa,hdis⟩:=aEq HA;refine aUw HCd hn λh1 F1 H1 s1=>?_;obtain⟨W1,sW1⟩:=aHJ HB hdis H1 s1;rw[←eFa] at sW1;obtain⟨F2,W2,s2⟩:=back W1 sW1;simp only[Pk.zb,cG,reduceIte,cT,Nat.reduceAdd];exact fin W2 (oL _) (by rw[hda];exact λ_ h=>h) s2 hdd
 ·have q:(a.kind==5)=false:=by simp[k5]
  rw[if_neg k5] at hdd;obtain⟨F2,W2,s2⟩:=back HA iX.refl;simp only[cH.f0,fE,lk,hQ,q0,q1,q2,q3,q4,q,Pk.zb,cG,reduceIte,cT,Nat.reduceAdd];exact fin (hh:=0) W2 (vL n) (by rw[hda];exact λ_ h=>h) s2 hdd
theorem eO.flip{A B C D:mC}{h:PH}{F:List Nat}(H:eO (eO A B) (eO C D) h F):∃F',eO (eO A D) (eO C B) h F'∧∀x,x∈F'↔x∈F:=by
 obtain⟨Fx,Fy,rfl,⟨Fa,Fb,rfl,ha,hb,d1⟩,⟨Fc,Fd,rfl,hc,hd,d2⟩,d3⟩:=H;refine⟨(Fa++Fd)++(Fc++Fb),⟨Fa++Fd,Fc++Fb,rfl,⟨Fa,Fd,rfl,ha,hd,λx hx hx'=>d3 x (by simp[hx]) (by simp[hx'])⟩,⟨Fc,Fb,rfl,hc,hb,λx hx hx'=>d3 x (by simp[hx']) (by simp[hx])⟩,λx hx hx'=>?_⟩,λx=>?_⟩
 ·rcases jG.1 hx with hx|hx
  ·rcases jG.1 hx' with hx'|hx'
   ·exact d3 x (by simp[hx]) (by simp[hx'])
   ·exact d1 x hx hx'
  ·rcases jG.1 hx' with hx'|hx'
   ·exact d2 x hx' hx
   ·exact d3 x (by simp[hx']) (by simp[hx])
 ·simp only[jG];constructor
  ·rintro((h|h)|(h|h))<;>simp[h]
  ·rintro((h|h)|(h|h))<;>simp[h]
def DTw(t d0 d1 b m:Nat)(A:List Tx)(K:List Nat)(s0 s1:Ch)(n:Nat):mC:=eO (dCh b m A K d0 s0 n) (dRe t (aEp d0 d1) d1 b s1 n)
theorem DTw.good(t d0 d1 b m:Nat)(A:List Tx)(K:List Nat)(s0 s1:Ch)(n:Nat):lX (DTw t d0 d1 b m A K s0 s1 n):=(dCh.good _ _ _ _ _ _ _).star (dRe.good _ _ _ _ _ _)
theorem aSP{r o i:Nat}(hi:i<2):dA PG (indexAt jT (pT r o) (.int .i64 (i:Int)))=some (pT r (o+i)):=by
 have ix:=vB (P:=PG) (t:=jT) (b:=r) (o:=o) (k:=.i64) (j:=(i:Int)) jT.und fW.info fW.size (by omega) (by omega);rw[ix,pQ,zL7]
noncomputable def twA(a b:Ch)(x:jL):List Tx:=if x.id=1 then doA b a x else doA a b x
theorem aUh{t d0 d1 b m:Nat}{A:List Tx}{K:List Nat}{s0 s1:Ch}{n:Nat}{h:PH}{F:List Nat}(H:DTw t d0 d1 b m A K s0 s1 n h F)(x:jL):∃(c o:Nat) (s so:Ch) (F1:List Nat),eO (dCh b m A K c s n) (dRe t (aEp d0 d1) o b so n) h F1∧(∀y,y∈F1↔y∈F)∧(aEp d0 d1)[lG x.id]? =some (pT c 0)∧(aEp d0 d1)[1-lG x.id]? =some (pT o 0)∧(s=s0∨s=s1)∧(kF s so x).2=(iZ s0 s1 x).2∧doA s so x=twA s0 s1 x∧
  ∀(A':List Tx) (n':Nat) (h':PH) (F':List Nat),eO (dCh b m A' K c (kF s so x).1 n') (dRe t (aEp d0 d1) o b so n') h' F'->∃F'',DTw t d0 d1 b m A' K (iZ s0 s1 x).1.1 (iZ s0 s1 x).1.2 n' h' F''∧∀y,y∈F''↔y∈F':=by
 by_cases e:x.id=1
 ·have e1:lG x.id=1:=by unfold lG;rw[if_pos e]
  obtain⟨F1,H1,hF⟩:=eO.flip H;refine⟨d1,d0,s1,s0,F1,H1,hF,by rw[e1];rfl,by rw[e1];rfl,.inr rfl,?_,?_,λA' n' h' F' H'=>?_⟩
  ·unfold iZ;rw[if_pos e]
  ·unfold twA;rw[if_pos e]
  ·obtain⟨F2,H2,hF2⟩:=eO.flip H';refine⟨F2,?_,hF2⟩;unfold iZ;rw[if_pos e];exact H2
 ·have e1:lG x.id=0:=by unfold lG;rw[if_neg e]
  refine⟨d0,d1,s0,s1,F,H,λy=>Iff.rfl,by rw[e1];rfl,by rw[e1];rfl,.inl rfl,?_,?_,λA' n' h' F' H'=>⟨F',?_,λy=>Iff.rfl⟩⟩
  ·unfold iZ;rw[if_neg e]
  ·unfold twA;rw[if_neg e]
  ·unfold iZ;rw[if_neg e];exact H'
theorem aYE{h:PH}{t d0 d1 b m:Nat}{A:List Tx}{K:List Nat}{s0 s1:Ch}{n:Nat}{F:List Nat}(H:DTw t d0 d1 b m A K s0 s1 n h F)(w0:s0.DOk)(w1:s1.DOk)(hn:n≤10000){x:jL}(wx:x.wf)(hd64:x.d.length≤1000000){kk:cE}
  (hk:∀h' F',DTw t d0 d1 b m (twA s0 s1 x++A) K (iZ s0 s1 x).1.1 (iZ s0 s1 x).1.2 (n+1) h' F'->iX h F h' F'->kk (.tuple #[(iZ s0 s1 x).2.1.v,.int .u64 ((iZ s0 s1 x).2.2.1:Int),.int .i64 (iZ s0 s1 x).2.2.2]) h'):
  aT PG aBk #[pT t 0,x.v] h kk:=by
 apply rL.call;unfold rL;obtain⟨c,o,s,so,F1,S,hF,hc,ho,hs,e2,eA,hW⟩:=aUh H x;have w:s.DOk:=by rcases hs with rfl|rfl<;>assumption
 have gC:=λA s n=>dCh.good b m A K c s n;have gR:=λn=>dRe.good t (aEp d0 d1) o b so n;have gS:=λA s n n'=>(gC A s n).star (gR n');intro r1 hr1
 try rw[cW]
 have u1:cZ h (h.set r1 (.cells (Value.cells x.v) cH)):=cU.new hr1;have B1:Bx (h.set r1 (.cells (Value.cells x.v) cH)) r1 x.cells:=Bx.new;generalize h.set r1 (.cells (Value.cells x.v) cH)=h1 at *;intro r3 hr3
 try rw[cW]
 have u3:cZ h1 (h1.set r3 (.cells (dP PG aR) aR)):=cU.new hr3;have Z3:=aR.zbox (h:=h1) (r:=r3);have C1:=B1.ext u3;generalize h1.set r3 (.cells (dP PG aR) aR)=h3 at *;have e3:=u1.trans u3;have k1:h r1=none:=hr1;have k3:h r3=none:=u1.none hr3;have kS:=(gS A s n n).known S;have n1:r1∉F1:=λhm=>kS _ hm k1;have n3:r3∉F1:=λhm=>kS _ hm k3;have li:∀{h'':PH},cZ h3 h''->cD PG h'' (loadAt bT (pT r1 1))=some (.int .i64 x.id):=λv=>by rw[bT.load,(C1.ext v).cell];rfl
 have hsd:=aRj x.id;have w1:IntKind.i64.wrap (1-((lG x.id:Nat):Int))=((1-lG x.id:Nat):Int):=by rw[eV (by omega) (by omega)];omega
 have S3:=(gS A s n n).ext S e3;obtain⟨Fc,Fr,eF,HC,⟨Ft,Fo,eFr,⟨-,Bt⟩,HO,-⟩,dcr⟩:=id S3;have lc:cD PG h3 (loadAt fW (pT t (lG x.id)))=some (pT c 0):=by rw[fW.load,Bt.cell];exact hc
 have lo:cD PG h3 (loadAt fW (pT t (1-lG x.id)))=some (pT o 0):=by rw[fW.load,Bt.cell];exact ho
 have ix1:=aSP (r:=t) (o:=0) (i:=lG x.id) hsd;have ix2:=aSP (r:=t) (o:=0) (i:=1-lG x.id) (by omega);rw[fE] at ix1 ix2;have lk:cD PG h3 (loadAt bT (pT r1 0))=some (.int .i64 x.kind):=by rw[bT.load,C1.cell];rfl
 have lh:∀{h'':PH},cZ h3 h''->cD PG h'' (loadAt cA (pT r1 2))=some (.int .u64 (x.h:Int)):=λv=>by rw[cA.load,(C1.ext v).cell];rfl
 have ld:cD PG h3 (loadAt bR (pT r1 3))=some (.string (tx x.d)):=by rw[bR.load,C1.cell];rfl
 have lsp:cD PG h3 (loadAt fU (pT r1 8))=some (.bool x.sp):=by rw[fU.load,C1.cell];rfl
 have lx:cD PG h3 (loadAt cH (pT r1 0))=some x.v:=cH.agg C1 (by show 0+9≤9;decide)
 -- the second half
 have tail:∀{h5:PH},eO (dCh b m A K c s n) (dRe t (aEp d0 d1) o b so n) h5 F1->iX h3 F1 h5 F1->oE kk (pT r1 0) (pT r3 0) (pT c 0) (pT o 0) (.string (tx (lS so x))) h5:=by
  intro h5 S5 s5;refine aVT S5 w hn wx hd64 (C1.upd s5.upd n1) n1 rfl (Z3.upd s5.upd n3) n3 λh6 F6 W6 u6 g6=>?_;rw[e2];rw[eA] at W6;obtain⟨F7,W7,hF7⟩:=hW _ _ _ _ W6;refine hk h6 F7 W7 ⟨λbk ob hb hn=>u6 bk ob (s5.upd bk ob (e3.get hb) (λhm=>hn ((hF bk).1 hm))) (λhm=>?_),λbk hb=>?_⟩
  ·rcases gP.1 hm with rfl|hm
   ·rw[k3] at hb;cases hb
   ·exact hn ((hF bk).1 hm)
  ·rcases g6 bk ((hF7 bk).1 hb) with hx|hx
   ·exact .inl ((hF bk).1 hx)
   ·refine .inr ?_;by_cases hm:bk∈F1
    ·exact absurd hx ((gS A s n n).known S5 bk hm)
    ·cases hh:h bk with
     | none=>rfl
     | some ob=>
      have:=s5.upd bk ob (e3.get hh) hm;rw[hx] at this;cases this
 simp only[cH.f1,jU.f0,fE,li cU.refl,cG,reduceIte,cT,Nat.reduceAdd];refine aMJ x.id ?_;refine⟨li cU.refl,?_⟩;simp only[ix1,lc,cG,reduceIte,cT,Nat.reduceAdd];refine aMJ x.id ?_;refine⟨lc,?_⟩;simp only[w1,ix2,lo,cH.f0,cH.f2,cH.f3,cH.f5,fE,ld,lsp,cG,reduceIte,cT,Nat.reduceAdd];have plain:¬(x.sp=false∧2≤x.kind∧x.kind≤4)->oE kk (pT r1 0) (pT r3 0) (pT c 0) (pT o 0) (.string (tx x.d)) h3:=λhn=>by
  have:=tail (h5:=h3) S3 iX.refl;unfold lS at this;rw[if_neg hn] at this;exact this
 cases hsp:x.sp with
 | true=>
  simp only[cG,reduceIte,cT,Nat.reduceAdd];exact plain (by rw[hsp];simp)
 | false=>
  by_cases k2:2≤x.kind
  ·have g1:=eq_true k2;by_cases k4:x.kind≤4
   ·have g2:=eq_true k4;simp only[cH.f0,cH.f2,fE,lk,g1,g2,lx,lh cU.refl,cG,reduceIte,cT,Nat.reduceAdd];refine aPN wx λh4 u4=>?_;refine⟨lh u4,?_⟩;obtain⟨Fcd,HCd,HB,eFc,hdis⟩:=aEq HC;obtain⟨osp,ocp,obv,onv,PO⟩:=id HO;have hob:∀y∈Fo,y∉[b,m]:=λy hy hm=>by
     have h1:y∈Fr:=by rw[eFr];exact zLl _ hy
     simp only[gP,kL,or_false] at hm;rcases hm with rfl|rfl
     ·exact dcr _ (by rw[eFc];simp) h1
     ·exact dcr _ (by rw[eFc];simp) h1
    refine aT5 (s:=so) (n:=n) (HB.ext u4) (lV.good.ext PO u4) hob (aI7 x) wx.h λh5 B5 u5=>?_;simp only[cG,reduceIte,cT,Nat.reduceAdd];have hbm:∀y∈[b,m],y∈F1:=λy hy=>by
     rw[eF,eFc];simp only[gP,kL,or_false] at hy;rcases hy with rfl|rfl<;>simp
    have S5:eO (dCh b m A K c s n) (dRe t (aEp d0 d1) o b so n) h5 F1:=by
     have S4:=(gS A s n n).ext S3 u4;obtain⟨Gc,Gr,eG,HC4,HR4,dcr4⟩:=S4;obtain⟨HC5,-⟩:=aHS (DC.good c b s n) HC4 B5 u5;refine⟨Gc,Gr,eG,HC5,(gR n).upd HR4 u5 (λy hy hm=>?_),dcr4⟩;obtain⟨Fz,_,_,eGc,_⟩:=aEq HC4;simp only[gP,kL,or_false] at hm;rcases hm with rfl|rfl
     ·exact dcr4 _ (by rw[eGc];simp) hy
     ·exact dcr4 _ (by rw[eGc];simp) hy
    have:=tail S5 ⟨u4.upd.trans (u5.mono λy hy=>.inl (hbm y hy)),λy hy=>.inl hy⟩;unfold lS at this;rw[if_pos ⟨hsp,k2,k4⟩] at this;exact this
   ·have g2:=eq_false k4;simp only[cH.f0,lk,g1,g2,cG,reduceIte,cT,Nat.reduceAdd];exact plain (by simp[k4])
  ·have g1:=eq_false k2;simp only[cH.f0,lk,g1,cG,reduceIte,cT,Nat.reduceAdd];exact plain (by simp[k2])
theorem aWN(c o:Ch)(a:jL):(kF c o a).1.st.blocks.length≤c.st.blocks.length+1:=by
 rcases aF4 c o a with⟨-,-,e,-⟩|⟨-,b,-,e,-⟩|⟨-,-,e,-⟩|⟨-,-,e,-⟩|⟨-,-,e,-⟩|⟨-,e⟩|⟨e,-⟩<;>rw[e]
 ·exact vL _
 ·exact vL _
 ·exact vL _
 ·exact vL _
 ·exact vL _
 ·rw[(uQ c).1];by_cases he:(jW c.st).2.2=0
  ·rw[(aCt he).1];simp
  ·rw[aBx he];omega
 ·omega
theorem aZX{a b:Ch}{i:Nat}(ha:a.st.blocks.length≤i)(hb:b.st.blocks.length≤i)(x:jL):(iZ a b x).1.1.st.blocks.length≤i+1∧(iZ a b x).1.2.st.blocks.length≤i+1:=by
 unfold iZ;split
 ·refine⟨by show a.st.blocks.length≤i+1;omega,?_⟩;show(kF b a x).1.st.blocks.length≤i+1;have:=aWN b a x;omega
 ·refine⟨?_,by show b.st.blocks.length≤i+1;omega⟩;show(kF a b x).1.st.blocks.length≤i+1;have:=aWN a b x;omega
structure TwI(s0 s1:Ch)(A:List Tx):Prop where
 a:pI s0 s1 A
 b:pI s1 s0 A
theorem pI.new{i j:Int}{a b s t:Nat}:pI (Ch.new i a s) (Ch.new j b t) [] where
 ok:=aAK.nil _
 s1:=λp hp=>by simp[Ch.all,Ch.new] at hp
 s2:=⟨λq hq=>by simp[Ch.new] at hq,λb hb q hq=>by
  simp only[Ch.new,fV] at hb;subst hb;cases hq⟩
 s3:=λp hp=>by simp[Ch.all,Ch.new] at hp
 s4:=λp hp=>by simp[Ch.all,Ch.new] at hp
 s5:=λp hp=>by simp[Ch.all,Ch.new] at hp
 cl:=λy hy=>by simp[Ch.new] at hy
 mx:=λ_=>rfl
theorem TwI.new{a b s t:Nat}:TwI (Ch.new 0 a s) (Ch.new 1 b t) []:=⟨pI.new,pI.new⟩
theorem TwI.step{s0 s1:Ch}{x:jL}{A:List Tx}(H:TwI s0 s1 A)(U:aHM (twA s0 s1 x++A))(i0:s0.id=0)(i1:s1.id=1)(w:x.wf)(ok0:s0.st.Ok)(ok1:s1.st.Ok)(q0:s0.seq<18446744073709551616)(q1:s1.seq<18446744073709551616):TwI (iZ s0 s1 x).1.1 (iZ s0 s1 x).1.2 (twA s0 s1 x++A):=by
 unfold iZ twA at *;by_cases c:x.id=1
 ·rw[if_pos c] at U;rw[if_pos c,if_pos c];obtain⟨h1,h2⟩:=aOq H.b H.a U (by rw[i0,i1];decide) w ok1 ok0 q1;exact⟨h2,h1⟩
 ·rw[if_neg c] at U;rw[if_neg c,if_neg c];obtain⟨h1,h2⟩:=aOq H.a H.b U (by rw[i0,i1];decide) w ok0 ok1 q0;exact⟨h1,h2⟩
theorem TwI.com{s0 s1:Ch}{A:List Tx}(H:TwI s0 s1 A)(ok0:s0.st.Ok):TwI s0.committed s1 A:=by
 refine⟨H.a.com,H.b.other (λp hp=>by rw[aOM];exact hp) (λx b hx=>?_)⟩;rw[(uQ s0).1];exact aM9 ok0 hx
theorem pI.flat{c o:Ch}{A:List Tx}(H:pI c o A)(hb:c.st.blocks.length<4096):c.committed.blk.flatten=c.all:=by
 unfold Ch.committed;by_cases he:(jW c.st).2.2=0
 ·rw[if_pos he];unfold Ch.all;simp
 ·rw[if_neg he];have hm:c.st.height=18446744073709551615:=by
   unfold jW at he;by_cases h1:c.st.height=18446744073709551615
   ·exact h1
   ·rw[if_neg h1,if_neg (by omega)] at he;exact absurd rfl he
  unfold Ch.all;rw[H.mx hm,zLP]
theorem aXp(b s c r:Nat)(id n:Int):dA PG (build cQ #[(0,pT b 0),(1,.int .i64 id),(2,pT s 0),(3,pT c 0),(4,.int .u64 n),(5,.slice (some ⟨r,0,none⟩) 1 1)])=some (.agg #[pT b 0,.int .i64 id,pT s 0,pT c 0,.int .u64 n,.slice (some ⟨r,0,none⟩) 1 1,.slice none 0 0]):=by kernel_rfl
theorem aNa{h:PH}{b:Nat}(id:Int){n:Nat}(hn:n<18446744073709551616)(seq:Nat){k:cE}(hk:∀h' r F,DC r b (Ch.new id n seq) 1 h' F->eD h F->cZ h h'->k (pT r 0) h'):aT PG aAt #[pT b 0,.int .i64 id,.int .u64 (n:Int),.int .u64 (seq:Int)] h k:=by
 apply aDD.call;unfold aDD;refine aXD n hn λs h1 G S1 f1 u1=>?_;simp only[gE.build0,cG,reduceIte,cT,Nat.reduceAdd];intro r4 hr4
 try rw[cW]
 have u2:cZ h1 (h1.set r4 (.cells (Value.cells (.agg #[.slice none 0 0])) gE)):=cU.new hr4;have C2:xI (h1.set r4 (.cells (Value.cells (.agg #[.slice none 0 0])) gE)) r4 [] [r4]:=⟨.slice none 0 0,[],dL,dZ.nil,rfl,by simp⟩;generalize h1.set r4 (.cells (Value.cells (.agg #[.slice none 0 0])) gE)=h2 at *;simp only[aXi,cG,reduceIte,cT,Nat.reduceAdd];intro r6 hr6;refine fI ?_
 try rw[cW]
 have u3:cZ h2 (h2.set r6 (.cells #[.slice none 0 0] dQ)):=cU.new hr6;have O3:dZ (h2.set r6 (.cells #[.slice none 0 0] dQ)) dQ 1 (.slice (some ⟨r6,0,none⟩) 1 1) [[.slice none 0 0]] [r6]:=dZ.lit (n:=1) (aQX (.slice none 0 0)) dL (by simp) (by decide) (by simp);have C3:=C2.ext u3;generalize h2.set r6 (.cells #[.slice none 0 0] dQ)=h3 at *;simp only[aXp,cG,reduceIte,cT,Nat.reduceAdd];intro r11 hr11
 try rw[cW]
 have u4:cZ h3 (h3.set r11 (.cells (Value.cells (.agg #[pT b 0,.int .i64 id,pT s 0,pT r4 0,.int .u64 (seq:Int),.slice (some ⟨r6,0,none⟩) 1 1,.slice none 0 0])) cQ)):=cU.new hr11;have X4:Bx (h3.set r11 (.cells (Value.cells (.agg #[pT b 0,.int .i64 id,pT s 0,pT r4 0,.int .u64 (seq:Int),.slice (some ⟨r6,0,none⟩) 1 1,.slice none 0 0])) cQ)) r11 ((Ch.new id n seq).dcells b s r4 (.slice (some ⟨r6,0,none⟩) 1 1) (.slice none 0 0)):=Bx.new;generalize h3.set r11 (.cells (Value.cells (.agg #[pT b 0,.int .i64 id,pT s 0,pT r4 0,.int .u64 (seq:Int),.slice (some ⟨r6,0,none⟩) 1 1,.slice none 0 0])) cQ)=h4 at *;have e13:=u2.trans u3;have e14:=e13.trans u4;have kS:∀y∈s::G,h1 y≠none:=λy hy=>(rsA.good _ _).known (show rsA s ⟨[],[[]],n⟩ h1 (s::G) from⟨G,S1,rfl⟩) y hy;have D:DC r11 b (Ch.new id n seq) 1 h4 ([r11]++((s::G)++([r4]++([r6]++[])))):=by
  refine⟨s,r4,.slice (some ⟨r6,0,none⟩) 1 1,.slice none 0 0,eO.mk ⟨rfl,X4⟩ (eO.mk ((rsA.good _ _).ext (show rsA s ⟨[],[[]],n⟩ h1 (s::G) from⟨G,S1,rfl⟩) e14) (eO.mk (C3.ext u4) (eO.mk ⟨_,O3.ext u4,by simp,λr hr u hu=>?_⟩ ⟨[],dZ.nil,by simp⟩ ?_) ?_) ?_) ?_⟩
  ·simp only[fV] at hr;subst hr;simp only[fV] at hu;subst hu;rfl
  ·simp
  ·intro y hy hm;simp only[fV,zLP] at hy hm;subst hy;subst hm;have:=C2.known y (by simp);exact this hr6
  ·intro y hy hm;have hk1:=kS y hy;simp only[zLP,zLV,yF,gP,kL,or_false] at hm;rcases hm with rfl|rfl
   ·exact hk1 hr4
   ·exact hk1 (u2.none hr6)
  ·intro y hy hm;simp only[fV] at hy;subst hy;simp only[zLP,zLV,yF,gP,jG,kL,or_false] at hm;rcases hm with rfl|hm|rfl|rfl
   ·exact kS _ (by simp) (e13.none hr11)
   ·exact kS _ (by simp[hm]) (e13.none hr11)
   ·exact C3.known _ (by simp) hr11
   ·exact O3.known _ (by simp) hr11
 refine hk _ r11 _ D (λy hy=>?_) (cZ.trans u1 e14);simp only[zLP,zLV,yF,gP,jG,kL,or_false] at hy;rcases hy with rfl|rfl|hy|rfl|rfl
 ·exact(cZ.trans u1 e13).none hr11
 ·exact f1 _ (by simp)
 ·exact f1 _ (by simp[hy])
 ·exact u1.none hr4
 ·exact(cZ.trans u1 u2).none hr6
theorem aZG(a b:Nat):dA PG (build jT #[(0,pT a 0),(1,pT b 0)])=some (.agg #[pT a 0,pT b 0]):=by kernel_rfl
theorem aZR(a b:Nat):dA PG (build jU #[(0,.agg #[pT a 0,pT b 0])])=some (.agg #[pT a 0,pT b 0]):=by kernel_rfl
theorem aVo{h:PH}{bk mk:Nat}{Kk:List Nat}(HBk:Bk bk mk [] Kk h){a b s0 s1:Nat}(ha:a<18446744073709551616)(hb:b<18446744073709551616){k:cE}(hk:∀h' r d0 d1 F,DTw r d0 d1 bk mk [] Kk (Ch.new 0 a s0) (Ch.new 1 b s1) 1 h' F->(∀y∈F,y∈bk::mk::Kk∨h y=none)->cZ h h'->k (pT r 0) h'):aT PG aDA #[pT bk 0,vC a b,vC s0 s1] h k:=by
 apply uZ.call;unfold uZ;intro r1 hr1
 try rw[cW]
 have u1:cZ h (h.set r1 (.cells (Value.cells (vC a b)) eK)):=cU.new hr1;have B1:Bx (h.set r1 (.cells (Value.cells (vC a b)) eK)) r1 (u2c a b):=Bx.new;generalize h.set r1 (.cells (Value.cells (vC a b)) eK)=h1 at *;intro r3 hr3
 try rw[cW]
 have u3:cZ h1 (h1.set r3 (.cells (Value.cells (vC s0 s1)) eK)):=cU.new hr3;have B3:Bx (h1.set r3 (.cells (Value.cells (vC s0 s1)) eK)) r3 (u2c s0 s1):=Bx.new;have C1:=B1.ext u3;generalize h1.set r3 (.cells (Value.cells (vC s0 s1)) eK)=h3 at *;have i0:∀{r:Nat},dA PG (indexAt eK (pT r 0) (.int .i64 0))=some (pT r 0):=aOA (i:=0) (by decide);have i1:∀{r:Nat},dA PG (indexAt eK (pT r 0) (.int .i64 1))=some (pT r 1):=fun {r}=>by have:=aOA (r:=r) (o:=0) (i:=1) (by decide);rw[fE] at this;exact this
 have l10:∀{h'':PH},cZ h3 h''->cD PG h'' (loadAt cA (pT r1 0))=some (.int .u64 (a:Int)):=λv=>by rw[cA.load,(C1.ext v).cell];rfl
 have l11:∀{h'':PH},cZ h3 h''->cD PG h'' (loadAt cA (pT r1 1))=some (.int .u64 (b:Int)):=λv=>by rw[cA.load,(C1.ext v).cell];rfl
 have l30:∀{h'':PH},cZ h3 h''->cD PG h'' (loadAt cA (pT r3 0))=some (.int .u64 (s0:Int)):=λv=>by rw[cA.load,(B3.ext v).cell];rfl
 have l31:∀{h'':PH},cZ h3 h''->cD PG h'' (loadAt cA (pT r3 1))=some (.int .u64 (s1:Int)):=λv=>by rw[cA.load,(B3.ext v).cell];rfl
 simp only[i0,i1,l10 cU.refl,l11 cU.refl,l30 cU.refl,l31 cU.refl,cG,reduceIte,cT,Nat.reduceAdd];refine aNa 0 ha s0 λh4 p F4 D4 f4 u4=>?_;refine⟨l31 u4,l11 u4,?_⟩;refine aNa 1 hb s1 λh5 q F5 D5 f5 u5=>?_;simp only[aZG,aZR,cG,reduceIte,cT,Nat.reduceAdd];intro r19 hr19
 try rw[cW]
 have u6:cZ h5 (h5.set r19 (.cells (Value.cells (.agg #[pT p 0,pT q 0])) jU)):=cU.new hr19;have X6:Bx (h5.set r19 (.cells (Value.cells (.agg #[pT p 0,pT q 0])) jU)) r19 (aEp p q):=Bx.new;generalize h5.set r19 (.cells (Value.cells (.agg #[pT p 0,pT q 0])) jU)=h6 at *;have e3:cZ h h3:=u1.trans u3;have e6:=((e3.trans u4).trans u5).trans u6;have D46:=(DC.good _ _ _ _).ext D4 (u5.trans u6);have D56:=(DC.good _ _ _ _).ext D5 u6;refine hk h6 r19 p q _ (eO.mk (eO.mk ⟨rfl,HBk.ext e6⟩ D46 ?_) (eO.mk ⟨rfl,X6⟩ D56 ?_) ?_) (λy hy=>?_) e6
 ·intro y hy hm;exact HBk.known y hy (e3.none (f4 y hm))
 ·intro y hy hm;simp only[fV] at hy;subst hy;exact(DC.good _ _ _ _).known D5 _ hm hr19
 ·intro y hy hm;rcases jG.1 hm with hm|hm
  ·simp only[fV] at hm;subst hm;rcases jG.1 hy with hy|hy
   ·exact(HBk.ext (((e3.trans u4).trans u5))).known _ hy hr19
   ·exact(DC.good _ _ _ _).known ((DC.good _ _ _ _).ext D4 u5) _ hy hr19
  ·rcases jG.1 hy with hy|hy
   ·exact(HBk.ext (e3.trans u4)).known _ hy (f5 _ hm)
   ·exact(DC.good _ _ _ _).known D4 _ hy (f5 _ hm)
 ·simp only[jG,fV] at hy;rcases hy with(hy|hy)|(rfl|hy)
  ·exact .inl hy
  ·exact .inr (e3.none (f4 y hy))
  ·exact .inr (((e3.trans u4).trans u5).none hr19)
  ·exact .inr ((e3.trans u4).none (f5 y hy))
def aWI(t:Nat)(A:List Tx)(s0 s1:Ch)(n:Nat):mC:=λh F=>∃c0 c1 m d0 d1 b mm K,eO (aQ6 t c0 c1 m s0 s1) (DTw m d0 d1 b mm A K s0 s1 n) h F
theorem aWI.good(t:Nat)(A:List Tx)(s0 s1:Ch)(n:Nat):lX (aWI t A s0 s1 n) where
 known:=λ⟨_,_,_,_,_,_,_,_,H⟩=>((aQ6.good _ _ _ _ _ _).star (DTw.good _ _ _ _ _ _ _ _ _ _)).known H
 upd:=λ⟨c0,c1,m,d0,d1,b,mm,K,H⟩ u hK=>⟨c0,c1,m,d0,d1,b,mm,K,((aQ6.good _ _ _ _ _ _).star (DTw.good _ _ _ _ _ _ _ _ _ _)).upd H u hK⟩
def pkE(m:Pk):Value:=.agg m.cells.toArray
def aU3(p:Pk):Pk×Value:=(p,.bool true)
def aVS(l:List Pk)(p:Pk):List Pk:=if p∈l then l else l++[p]
def aQs(b x y:Nat)(lx ly:List Pk):mC:=λh F=>F=[b,x,y]∧Bx h b [.map (some x),.map (some y)]∧kB pkE h x (lx.map aU3)∧kB pkE h y (ly.map aU3)∧b≠x∧b≠y∧x≠y
theorem aQs.good(b x y:Nat)(lx ly:List Pk):lX (aQs b x y lx ly) where
 known:=by
  rintro h F ⟨rfl,B,M1,M2,-⟩ z hz;simp only[gP,kL,or_false] at hz;rcases hz with rfl|rfl|rfl
  ·exact B.known
  ·exact M1.known
  ·exact M2.known
 upd:=by
  rintro h F h' K ⟨rfl,B,M1,M2,hne⟩ u hK;exact⟨rfl,B.upd u (hK b (by simp)),M1.upd u (hK x (by simp)),M2.upd u (hK y (by simp)),hne⟩
def aZ2(f:Int)(lx ly:List Pk):List Pk:=if f=1 then ly else lx
def atP(f:Int)(x y:Nat):Nat:=if f=1 then y else x
theorem aQs.put{b x y:Nat}{lx ly:List Pk}{h h':PH}{F:List Nat}(H:aQs b x y lx ly h F){f:Int}{p:Pk}(h0:0≤f)(h1:f≤1)(M:kB pkE h' (atP f x y) ((aVS (aZ2 f lx ly) p).map aU3))(u:cU [atP f x y] h h'):aQs b x y (if f=1 then lx else aVS lx p) (if f=1 then aVS ly p else ly) h' F∧iX h F h' F:=by
 obtain⟨rfl,B,M1,M2,n1,n2,n3⟩:=H;have:f=0∨f=1:=by omega
 rcases this with rfl|rfl
 ·refine⟨⟨rfl,B.upd u (by simpa[atP] using n1),M,M2.upd u (by simpa[atP] using n3.symm),n1,n2,n3⟩,⟨u.mono λz hz=>.inl ?_,λz hz=>.inl hz⟩⟩;simp only[atP,fV] at hz;simp[hz]
 ·refine⟨⟨rfl,B.upd u (by simpa[atP] using n2),M1.upd u (by simpa[atP] using n3),M,n1,n2,n3⟩,⟨u.mono λz hz=>.inl ?_,λz hz=>.inl hz⟩⟩;simp only[atP,fV] at hz;simp[hz]
def aWZ(a:jL)(e:Int)(K:Pk->Prop):Pk->Prop:=λp=>K p∨(e=0∧a.kind=3∧p=a.p)
structure SI(s0 s1:Ch)(A:List Tx)(G K T:Pk->Prop):Prop where
 d1:vJ s0 s1 A G T
 d2:vJ s1 s0 A G T
 ak:∀p,K p->G p
 no:∀p,T p->¬G p
theorem aUI(c o:Ch)(a:jL):(kF c o a).1.id=c.id:=by
 rcases aF4 c o a with⟨-,-,e,-⟩|⟨-,b,-,e,-⟩|⟨-,-,e,-⟩|⟨-,-,e,-⟩|⟨-,-,e,-⟩|⟨-,e⟩|⟨e,-⟩<;>rw[e]
 ·rfl
 ·rfl
 ·rfl
 ·rfl
 ·rfl
 ·exact(uQ c).2.2
theorem aYR(s0 s1:Ch)(x:jL):(iZ s0 s1 x).1.1.id=s0.id∧(iZ s0 s1 x).1.2.id=s1.id:=by
 unfold iZ;split
 ·exact⟨rfl,aUI _ _ _⟩
 ·exact⟨aUI _ _ _,rfl⟩
theorem aYn{s0 s1:Ch}(h0:KOk s0)(h1:KOk s1){x:jL}(w:x.wf):KOk (iZ s0 s1 x).1.1∧KOk (iZ s0 s1 x).1.2:=by
 unfold iZ;split
 ·exact⟨h0,h1.doP _ w⟩
 ·exact⟨h0.doP _ w,h1⟩
def aSY(s0 s1:Ch)(x:jL):Ch:=if x.id=1 then s1 else s0
theorem SI.mk2{c o:Ch}{x:jL}{A:List Tx}{G K T:Pk->Prop}(ak:∀p,K p->G p)(no:∀p,T p->¬G p)(S:aQy c o x A G T):(∀p,aWZ x (kF c o x).2.2.2 K p->yY x (kF c o x).2.2.2 G p)∧∀p,aAi x (kF c o x).2.2.2 T p->¬yY x (kF c o x).2.2.2 G p:=by
 refine⟨λp hp=>?_,λp hp hg=>?_⟩
 ·rcases hp with hp|⟨e,k,rfl⟩
  ·exact .inl (ak p hp)
  ·exact .inl (S.ack e k).2
 ·rcases hp with hp|⟨e,k,rfl⟩
  ·rcases hg with hg|⟨e,k,rfl⟩
   ·exact no p hp hg
   ·exact(S.recv e k).2.2 hp
  ·rcases hg with hg|⟨-,k',-⟩
   ·exact(S.tim e k).2 hg
   ·omega
theorem SI.step{s0 s1:Ch}{x:jL}{A:List Tx}{G K T:Pk->Prop}(H:SI s0 s1 A G K T)(U:aHM (twA s0 s1 x++A))(i0:s0.id=0)(i1:s1.id=1)(w:x.wf)(ok0:s0.st.Ok)(ok1:s1.st.Ok)(q0:s0.seq<18446744073709551616)(q1:s1.seq<18446744073709551616):
  SI (iZ s0 s1 x).1.1 (iZ s0 s1 x).1.2 (twA s0 s1 x++A) (yY x (iZ s0 s1 x).2.2.2 G) (aWZ x (iZ s0 s1 x).2.2.2 K) (aAi x (iZ s0 s1 x).2.2.2 T)∧
  ((iZ s0 s1 x).2.2.2=0->x.kind=2->IntKind.u64.wrap (((aSY (iZ s0 s1 x).1.1 (iZ s0 s1 x).1.2 x).st.height:Int)+1)<x.p.t∧¬T x.p)∧((iZ s0 s1 x).2.2.2=0->x.kind=3->G x.p)∧((iZ s0 s1 x).2.2.2=0->x.kind=4->¬G x.p):=by
 unfold iZ twA at *;by_cases c:x.id=1
 ·rw[if_pos c] at U;rw[if_pos c,if_pos c];have S:=aOy H.d2 H.d1 U (by rw[i0,i1];decide) (by rw[i0,i1];decide) w ok1 ok0 q1;obtain⟨m1,m2⟩:=SI.mk2 H.ak H.no S;refine⟨⟨S.two,S.one,m1,m2⟩,λe k=>?_,λe k=>(S.ack e k).2,λe k=>(S.tim e k).2⟩;unfold aSY;rw[if_pos c];exact⟨(S.recv e k).2.1,(S.recv e k).2.2⟩
 ·rw[if_neg c] at U;rw[if_neg c,if_neg c];have S:=aOy H.d1 H.d2 U (by rw[i0,i1];decide) (by rw[i0,i1];decide) w ok0 ok1 q0;obtain⟨m1,m2⟩:=SI.mk2 H.ak H.no S;refine⟨⟨S.one,S.two,m1,m2⟩,λe k=>?_,λe k=>(S.ack e k).2,λe k=>(S.tim e k).2⟩;unfold aSY;rw[if_neg c];exact⟨(S.recv e k).2.1,(S.recv e k).2.2⟩
theorem vJ.new{i j:Int}{a b s t:Nat}:vJ (Ch.new i a s) (Ch.new j b t) [] (λ_=>False) (λ_=>False):=
 ⟨(λy hy=>by cases hy),λp hp _=>False.elim hp,⟨(λq hq=>by cases hq),λbl hb q hq=>by
  simp only[Ch.new,fV] at hb;subst hb;cases hq⟩,λp hp _=>False.elim hp⟩
theorem SI.new{a b s t:Nat}:SI (Ch.new 0 a s) (Ch.new 1 b t) [] (λ_=>False) (λ_=>False) (λ_=>False):=⟨vJ.new,vJ.new,λ_ h=>h,λ_ h _=>h⟩
theorem aRW{c:Nat}{s:Ch}{h:PH}{F:List Nat}(H:iF c s h F)(k:KOk s):s.DOk∧s.st.Ok:=by
 obtain⟨sp,m,cp,nv,bv,lk,P,perm,ok⟩:=H;obtain⟨Fc,⟨hs,C⟩,-,-⟩:=P.fCli;exact⟨⟨ok.id,ok.seq,⟨hs,C.rank⟩,k.1,k.2⟩,P.okst⟩
theorem fR.tac4{h:PH}{v:Value}{l:List jL}(S:fR h 9 v (l.map jL.cells)){j:Nat}{x:jL}(hx:l[j]? =some x):
  ∃b o,dA PG (indexAt iI v (.int .i64 (j:Int)))=some (pT b o)∧∀h',cZ h h'->dD h' ⟨b,o,none⟩=some (.int .i64 x.kind)∧cD PG h' (loadAt cH (pT b o))=some x.v∧cD PG h' (loadAt aR (pT b (o+4)))=some x.p.v:=by
 obtain⟨b,o,cs,e',fr,h1,hb,hle,hex⟩:=S.at iI.und cH.info cH.size (k:=.i64) (j:=(j:Int)) (r:=x.cells) (by omega) (by rw[vD,pQ,hx];rfl);have hd:∀i n,i+n≤9->(cs.extract (o+i) (o+i+n)).toList=(x.cells.drop i).take n:=λi n hi=>by
  rw[←hex];simp only[zLC,zLw,aLG,zLx,aI5,List.take_take];congr 1;omega
 refine⟨b,o,h1,λh' u=>?_⟩;have hb':=u.get hb;refine⟨?_,?_,?_⟩
 ·unfold dD;simp only[hb'];have:=congrArg (λl:List Value=>l[0]?) (hd 0 1 (by decide));simp only[zLC,zLw,Nat.add_zero,aLG,aH9,aMB] at this;simpa[jL.cells] using this
 ·rw[cH.loadAgg hb' hle];congr 2;exact zLv (hd 0 9 (by decide))
 ·rw[aR.loadAgg hb' (by omega)];congr 2;exact zLv (hd 4 4 (by decide))
def gB.pk(m:gB):Pk:=⟨m.pfrom,m.pseq,m.ptimeout,m.pdata⟩
def mkM(k to h:Int)(p:Pk)(pf:ByteArray):gB:=⟨k,to,h,p.f,p.s,p.t,p.d,pf⟩
def tQ(to h:Int):gB:=⟨1,to,h,0,0,0,⟨#[]⟩,⟨#[]⟩⟩
def gB.put(m:gB)(pf:ByteArray):gB:={m with proof:=pf}
def aEz(c:Ch)(key:Tx)(x:Nat)(m:gB):Option gB:=
 if (uE c.st key x).2=0∧(uE c.st key x).1.head? =some 1 then some (m.put (tx (uE c.st key x).1)) else none
def wP(c0 c1:Ch)(f:Int):Ch:=if f=1 then c1 else c0
noncomputable def mO(c0 c1:Ch)(p:Pk):Option gB:=
 if p.right=true∧oV (wP c0 c1 p.f) p=true then
  (if (gG (wP c0 c1 (1-p.f)).st.now (fS 114 p.s.toNat)).isSome then aEz (wP c0 c1 (1-p.f)) (fS 97 p.s.toNat) (wP c0 c1 (1-p.f)).st.height (mkM 3 p.f (wP c0 c1 (1-p.f)).st.height p ⟨#[]⟩)
  else if IntKind.u64.wrap (p.t-1)≤((wP c0 c1 (1-p.f)).st.height:Int)∨(wP c0 c1 (1-p.f)).st.height=18446744073709551615 then some (mkM 4 p.f (wP c0 c1 (1-p.f)).st.height p (tx (uE (wP c0 c1 (1-p.f)).st (fS 114 p.s.toNat) (wP c0 c1 (1-p.f)).st.height).1))
  else aEz (wP c0 c1 p.f) (fS 99 p.s.toNat) (wP c0 c1 p.f).st.height (mkM 2 (1-p.f) (wP c0 c1 p.f).st.height p ⟨#[]⟩))
 else none
def yD(known:List Int)(l:List gB)(m:gB):List gB:=if tQ m.dest m.height∈l∨m.height∈known then [m] else [tQ m.dest m.height,m]
def vK(known:List Int)(batch:Int)(x:List gB×Bool)(m:gB):List gB×Bool:=
 if x.2=true∨batch<((x.1.length+(yD known x.1 m).length:Nat):Int) then(x.1,true) else(x.1++yD known x.1 m,false)
def aFb(known:List Int)(batch:Int)(x:List gB×Bool)(ms:List gB):List gB×Bool:=ms.foldl (vK known batch) x
theorem aQD(known:List Int)(l:List gB)(m:gB):1≤(yD known l m).length∧(yD known l m).length≤2:=by unfold yD;split<;>simp
theorem aRw(known:List Int)(batch:Int)(x:List gB×Bool)(m:gB):x.1 <+:(vK known batch x m).1:=by
 unfold vK;split
 ·exact List.prefix_refl _
 ·exact List.prefix_append _ _
def aQn(x y:List gB×Bool):Prop:=x.1 <+:y.1∧(x.2=false->x=y)
theorem aQn.put{known:List Int}{b c:Int}(hb:b≤c){x y:List gB×Bool}(H:aQn x y)(m:gB):aQn (vK known b x m) (vK known c y m):=by
 obtain⟨h1,h2⟩:=H;cases hx:x.2 with
 | true=>
  have e:vK known b x m=(x.1,true):=by unfold vK;rw[if_pos (.inl hx)]
  rw[e];exact⟨h1.trans (aRw known c y m),λh=>by cases h⟩
 | false=>
  have e:=h2 hx;subst e;by_cases g:b<((x.1.length+(yD known x.1 m).length:Nat):Int)
  ·have e:vK known b x m=(x.1,true):=by unfold vK;rw[if_pos (.inr g)]
   rw[e];exact⟨(aRw known c x m:x.1 <+:(vK known c x m).1),λh=>by cases h⟩
  ·have hn:¬(x.2=true∨b<((x.1.length+(yD known x.1 m).length:Nat):Int)):=by rw[hx];simpa using g
   have hn2:¬(x.2=true∨c<((x.1.length+(yD known x.1 m).length:Nat):Int)):=by rw[hx];simp;omega
   have e1:vK known b x m=(x.1++yD known x.1 m,false):=by unfold vK;rw[if_neg hn]
   have e2:vK known c x m=(x.1++yD known x.1 m,false):=by unfold vK;rw[if_neg hn2]
   rw[e1,e2];exact⟨List.prefix_refl _,λ_=>rfl⟩
def uN(l:List gB):Nat:=(l.filter λm=>decide (m.kind≠1)).length
theorem aQ1(a b:List gB):uN (a++b)=uN a+uN b:=by unfold uN;rw[aHK,jP]
theorem aTp(known:List Int)(l:List gB){m:gB}(hm:m.kind≠1):uN (yD known l m)=1:=by
 unfold yD uN;split<;>simp[tQ,hm]
theorem aO2{known:List Int}{batch:Int}:∀(ms:List gB) {x:List gB×Bool},(∀m∈ms,m.kind≠1)->x.2=false->(((x.1.length+2*ms.length:Nat):Int))≤batch->(aFb known batch x ms).2=false∧uN (aFb known batch x ms).1=uN x.1+ms.length
 | [],x,_,h2,_=>⟨h2,rfl⟩
 | m::ms,x,hk,h2,hl=>by
  have hm:=aQD known x.1 m;simp only[rN] at hl;have e:vK known batch x m=(x.1++yD known x.1 m,false):=by
   unfold vK;rw[if_neg];rw[h2];simp;omega
  have:=aO2 ms (known:=known) (batch:=batch) (x:=vK known batch x m) (λy hy=>hk y (by simp[hy])) (by rw[e]) (by rw[e];simp only[jP];omega);refine⟨this.1,?_⟩;have h3:=this.2;rw[e] at h3;simp only[aQ1,aTp known x.1 (hk m (by simp))] at h3;show uN (aFb known batch (vK known batch x m) ms).1=_;rw[e,h3];simp only[rN];omega
theorem aOz{c:Ch}{key:Tx}{x:Nat}{m m':gB}(h:aEz c key x m=some m'):m'=m.put m'.proof∧m'.kind=m.kind∧m'.dest=m.dest∧m'.height=m.height∧m'.pk=m.pk:=by
 unfold aEz at h;split at h
 ·cases h;exact⟨rfl,rfl,rfl,rfl,rfl⟩
 ·cases h
theorem aLL{c0 c1:Ch}{p:Pk}{m:gB}(h:mO c0 c1 p=some m):p.right=true∧oV (wP c0 c1 p.f) p=true∧m.pk=p∧
  ((m.kind=3∧m.dest=p.f∧m.height=(wP c0 c1 (1-p.f)).st.height∧(gG (wP c0 c1 (1-p.f)).st.now (fS 114 p.s.toNat)).isSome=true)∨
   (m.kind=4∧m.dest=p.f∧m.height=(wP c0 c1 (1-p.f)).st.height∧(gG (wP c0 c1 (1-p.f)).st.now (fS 114 p.s.toNat)).isSome=false)∨
   (m.kind=2∧m.dest=1-p.f∧m.height=(wP c0 c1 p.f).st.height∧(gG (wP c0 c1 (1-p.f)).st.now (fS 114 p.s.toNat)).isSome=false)):=by
 unfold mO at h;split at h
 ·rename_i hc;refine⟨hc.1,hc.2,?_⟩;split at h
  ·rename_i hg;obtain⟨-,h1,h2,h3,h4⟩:=aOz h;exact⟨h4,.inl ⟨h1,h2,h3,hg⟩⟩
  ·rename_i hg;have hg:(gG (wP c0 c1 (1-p.f)).st.now (fS 114 p.s.toNat)).isSome=false:=by simpa using hg
   split at h
   ·cases h;exact⟨rfl,.inr (.inl ⟨rfl,rfl,rfl,hg⟩)⟩
   ·obtain⟨-,h1,h2,h3,h4⟩:=aOz h;exact⟨h4,.inr (.inr ⟨h1,h2,h3,hg⟩)⟩
 ·cases h
theorem aRN{c0 c1:Ch}{p:Pk}{m:gB}(h:mO c0 c1 p=some m):m.kind≠1:=by
 obtain⟨-,-,-,h|h|h⟩:=aLL h<;>omega
structure aG8(c c':Ch):Prop where
 id:c'.id=c.id
 bl:c'.st.blocks=c.st.blocks
 ht:c'.st.height=c.st.height
 cl:c.cl <+:c'.cl
 r:∀n,(∃q∈c.st.now,q.k=fS 114 n)->∃q∈c'.st.now,q.k=fS 114 n
 s:∀q∈c'.st.now,∀n,q.k=fS 99 n->q∈c.st.now
theorem aG8.refl(c:Ch):aG8 c c:=⟨rfl,rfl,rfl,List.prefix_refl _,λ_ h=>h,λ_ h _ _=>h⟩
theorem aG8.trans{a b c:Ch}(x:aG8 a b)(y:aG8 b c):aG8 a c:=⟨y.id.trans x.id,y.bl.trans x.bl,y.ht.trans x.ht,x.cl.trans y.cl,λn h=>y.r n (x.r n h),λq hq n hk=>x.s q (y.s q hq n hk) n hk⟩
theorem aG8.at{c c':Ch}(H:aG8 c c')(x:Nat):oK c'.st x=oK c.st x:=by unfold oK;rw[H.bl,H.ht]
def aQI(s:Ch×Ch)(d:Int):Ch:=if d=1 then s.2 else s.1
structure aJU(s t:Ch×Ch):Prop where
 a:aG8 s.1 t.1
 b:aG8 s.2 t.2
theorem aJU.refl(s:Ch×Ch):aJU s s:=⟨aG8.refl _,aG8.refl _⟩
theorem aJU.trans{s t u:Ch×Ch}(x:aJU s t)(y:aJU t u):aJU s u:=⟨x.a.trans y.a,x.b.trans y.b⟩
structure Bnd(c:Ch)(n:Nat):Prop where
 up:rM c.st.now
 now:c.st.now.length≤2*n
 cl:c.cl.length≤n
theorem Bnd.mono{c:Ch}{n m:Nat}(H:Bnd c n)(h:n≤m):Bnd c m:=⟨H.up,by have:=H.now;omega,by have:=H.cl;omega⟩
theorem aXP(l:List gY)(x:gY):(aAa l x).2.length≤l.length+1:=by
 unfold aAa;split
 ·exact vL _
 ·split
  ·exact vL _
  ·split
   ·exact vL _
   ·simp
theorem Bnd.step{c o:Ch}{n:Nat}(H:Bnd c n)(a:jL):Bnd (kF c o a).1 (n+1):=by
 rcases aF4 c o a with⟨-,-,e,-⟩|⟨-,b,-,e,-⟩|⟨-,-,e,-⟩|⟨-,-,e,-⟩|⟨-,-,e,-⟩|⟨-,e⟩|⟨e,-⟩<;>rw[e]
 ·obtain⟨e1,e2,-⟩:=aOF c (jX c a.d a.h);refine⟨by rw[e1];exact H.up.set _,?_,by rw[e2];have:=H.cl;omega⟩;rw[e1];have:=aJd c.st.now ⟨fS 99 c.seq,mN (jX c a.d a.h)⟩;have:=H.now;show(nH _ _).length≤_;omega
 ·exact⟨H.up,by have:=H.now;show c.st.now.length≤_;omega,by have:=aXP c.cl ⟨(a.h:Int),tx (lB b)⟩;have:=H.cl;show(aAa _ _).2.length≤_;omega⟩
 ·obtain⟨e1,e2,-⟩:=aJv c a.p;refine⟨by rw[e1];exact(H.up.set _).set _,?_,by rw[e2];have:=H.cl;omega⟩;rw[e1];have h1:=aJd c.st.now ⟨fS 114 a.p.s.toNat,[1]⟩;have h2:=aJd (nH c.st.now ⟨fS 114 a.p.s.toNat,[1]⟩) ⟨fS 97 a.p.s.toNat,aBs a.p⟩;have:=H.now;show(nH (nH _ _) _).length≤_;omega
 ·obtain⟨e1,e2,-⟩:=aGt c 3 a.p;refine⟨by rw[e1];exact H.up.del _,?_,by rw[e2];have:=H.cl;omega⟩;rw[e1];have:=aLy (λq=>decide (q.k≠fS 99 a.p.s.toNat)) c.st.now;have:=H.now;show(tU _ _).length≤_;unfold tU;omega
 ·obtain⟨e1,e2,-⟩:=aGt c 4 a.p;refine⟨by rw[e1];exact H.up.del _,?_,by rw[e2];have:=H.cl;omega⟩;rw[e1];have:=aLy (λq=>decide (q.k≠fS 99 a.p.s.toNat)) c.st.now;have:=H.now;show(tU _ _).length≤_;unfold tU;omega
 ·obtain⟨e1,e2,-⟩:=uQ c;have en:c.committed.st.now=c.st.now:=by
   rw[e1];by_cases he:(jW c.st).2.2=0
   ·rw[(aCt he).1]
   ·rw[aBx he]
  exact⟨by rw[en];exact H.up,by rw[en];have:=H.now;omega,by rw[e2];have:=H.cl;omega⟩
 ·exact H.mono (by omega)
structure aOZ(s:Ch×Ch)(n:Nat):Prop where
 a:Bnd s.1 n
 b:Bnd s.2 n
theorem aOZ.tw{a b:Ch}{n:Nat}(H:aOZ (a,b) n)(x:jL):aOZ (iZ a b x).1 (n+1):=by
 unfold iZ;split
 ·exact⟨H.a.mono (by omega),H.b.step x⟩
 ·exact⟨H.a.step x,H.b.mono (by omega)⟩
theorem aOZ.one{s:Ch×Ch}{n:Nat}(H:aOZ s n)(d:Int):Bnd (aQI s d) n:=by unfold aQI;split;exact H.b;exact H.a
theorem aJU.one{s t:Ch×Ch}(H:aJU s t)(d:Int):aG8 (aQI s d) (aQI t d):=by unfold aQI;split;exact H.b;exact H.a
def aSt(known:List Int)(l:List gB):Prop:=∀i m,l[i]? =some m->m.kind≠1->m.height∈known∨tQ m.dest m.height∈l.take i
theorem aSt.snoc{known:List Int}{l:List gB}{m:gB}(H:aSt known l)(h:m.kind≠1->m.height∈known∨tQ m.dest m.height∈l):aSt known (l++[m]):=λi y hy hk=>by
 by_cases c:i<l.length
 ·rw[List.getElem?_append_left c] at hy;rw[zLG (by omega)];exact H i y hy hk
 ·have hl:=(zLz.1 hy).1;rw[jP,zLS] at hl;have e:i=l.length:=by omega
  subst e;simp only[List.getElem?_concat_length,zL8] at hy;subst hy;rw[zLG (oL _),zLI];exact h hk
def jL.clean(x:jL):jL:={x with sp:=false}
theorem jL.clean_wf{x:jL}(w:x.wf):x.clean.wf:=⟨w.h,w.p⟩
noncomputable def aGu(s:Ch×Ch)(x:jL):Ch×Ch:=(iZ s.1 s.2 x.clean).1
noncomputable def aIH(s:Ch×Ch)(l:List jL):Ch×Ch:=l.foldl aGu s
theorem aTw(s:Ch×Ch)(l:List jL)(x:jL):aIH s (l++[x])=aGu (aIH s l) x:=by
 unfold aIH;rw[List.foldl_append];rfl
structure aIF(s:Ch×Ch)(i:Nat):Prop where
 i0:s.1.id=0
 i1:s.2.id=1
 n0:s.1.nts.length≤i
 n1:s.2.nts.length≤i
 t0:s.1.tot≤i
 t1:s.2.tot≤i
 b0:s.1.st.blocks.length≤i+1
 b1:s.2.st.blocks.length≤i+1
 k0:KOk s.1
 k1:KOk s.2
 o0:tP s.1
 o1:tP s.2
 bd:aOZ s i
theorem aW1{a b:Ch}{i:Nat}(ha:a.tot≤i)(hb:b.tot≤i)(x:jL):(iZ a b x).1.1.tot≤i+1∧(iZ a b x).1.2.tot≤i+1:=by
 unfold iZ;split
 ·obtain⟨-,h⟩:=aPG b a x;refine⟨by show a.tot≤i+1;omega,?_⟩;show(kF b a x).1.tot≤i+1;rw[h];split<;>omega
 ·obtain⟨-,h⟩:=aPG a b x;refine⟨?_,by show b.tot≤i+1;omega⟩;show(kF a b x).1.tot≤i+1;rw[h];split<;>omega
theorem aIF.new{a b s t:Nat}(hs:s<18446744073709551616)(ht:t<18446744073709551616):aIF (Ch.new 0 a s,Ch.new 1 b t) 0 where
 i0:=rfl
 i1:=rfl
 n0:=oL _
 n1:=oL _
 t0:=oL _
 t1:=oL _
 b0:=oL _
 b1:=oL _
 k0:=⟨by simp[Ch.new],by simp[Ch.new,hts]⟩
 k1:=⟨by simp[Ch.new],by simp[Ch.new,hts]⟩
 o0:=tP.new
 o1:=tP.new
 bd:=⟨⟨List.Pairwise.nil,oL _,oL _⟩,⟨List.Pairwise.nil,oL _,oL _⟩⟩
theorem aIF.tw{s:Ch×Ch}{i:Nat}(H:aIF s i){x:jL}(w:x.wf):aIF (iZ s.1 s.2 x).1 (i+1):=by
 obtain⟨e0,e1⟩:=aYR s.1 s.2 x;obtain⟨y0,y1⟩:=aSw s.1 s.2 x H.n0 H.n1;obtain⟨z0,z1⟩:=aYn H.k0 H.k1 w;obtain⟨t0,t1⟩:=aW1 H.t0 H.t1 x;obtain⟨b0,b1⟩:=aZX H.b0 H.b1 x;obtain⟨o0,o1⟩:=H.o0.step H.o1 x;exact⟨by rw[e0];exact H.i0,by rw[e1];exact H.i1,y0,y1,t0,t1,b0,b1,z0,z1,o0,o1,H.bd.tw x⟩
theorem aIF.act{s:Ch×Ch}{i:Nat}(H:aIF s i){x:jL}(w:x.wf):aIF (aGu s x) (i+1):=H.tw (jL.clean_wf w)
theorem jL.isC(x:jL):∀u∈x.cells,fP u=true:=λu hu=>by
 simp only[jL.cells,gP,kL,or_false] at hu;rcases hu with rfl|rfl|rfl|rfl|rfl|rfl|rfl|rfl|rfl<;>rfl
theorem aXL(c o:Ch)(a:jL):(kF c o a).1=if a.kind=0 then(if rD c a.d a.h=0 then c.sent (jX c a.d a.h) else c)
   else if a.kind=1 then(match oK o.st a.h with
    | none=>c
    | some b=>c.told (a.h:Int) (lB b))
   else if a.kind=2 then(if rB c (tO c a.p (lS o a) (a.h:Int))=0 then c.received a.p else c)
   else if a.kind=3 then(if jI c a.p (xS c a.p (lS o a) (a.h:Int))=0 then c.settled 3 a.p else c)
   else if a.kind=4 then(if jI c a.p (qQ c a.p (lS o a) (a.h:Int))=0 then c.settled 4 a.p else c)
   else if a.kind=5 then c.committed
   else c:=by
 unfold kF;split
 ·split<;>rfl
 ·split
  ·cases oK o.st a.h<;>rfl
  ·split
   ·split<;>rfl
   ·split
    ·split<;>rfl
    ·split
     ·split<;>rfl
     ·split<;>rfl
def aFF(c0 c1:Nat)(s:Ch×Ch):mC:=eO (iF c0 s.1) (iF c1 s.2)
theorem aFF.good(c0 c1:Nat)(s:Ch×Ch):lX (aFF c0 c1 s):=(iF.good _ _).star (iF.good _ _)
def aFD(c0 c1:Nat)(j:Nat):Nat:=if j=1 then c1 else c0
def xM(s:Ch×Ch)(j:Nat):Ch:=if j=1 then s.2 else s.1
theorem aUH(c0 c1:Nat)(s:Ch×Ch)(x:jL):∃W:mC->mC,(∀s',lX (W (iF (aFD c0 c1 (lG x.id)) s')))∧(kF (xM s (lG x.id)) (xM s (1-lG x.id)) x).2=(iZ s.1 s.2 x).2∧
  (∀{h F},W (iF (aFD c0 c1 (lG x.id)) (kF (xM s (lG x.id)) (xM s (1-lG x.id)) x).1) h F->aFF c0 c1 (iZ s.1 s.2 x).1 h F)∧∀{h F},aFF c0 c1 s h F->aBK h F (iF (aFD c0 c1 (lG x.id)) (xM s (lG x.id))) W∧∃Fo,iF (aFD c0 c1 (1-lG x.id)) (xM s (1-lG x.id)) h Fo:=by
 unfold lG aFD xM iZ;by_cases e:x.id=1
 ·simp only[if_pos e,Nat.sub_self,if_true];exact⟨λX=>eO (iF c0 s.1) X,λs'=>(iF.good _ _).star (iF.good _ _),rfl,λH=>H,fun {h F} H=>⟨eO.right (iF.good _ _) H,by
   obtain⟨Fo,_,_,HO,_,_⟩:=H;exact⟨Fo,HO⟩⟩⟩
 ·simp only[if_neg e,Nat.sub_zero,if_true];exact⟨λX=>eO X (iF c1 s.2),λs'=>(iF.good _ _).star (iF.good _ _),rfl,λH=>H,fun {h F} H=>⟨eO.left (iF.good _ _) H,by
   obtain⟨_,Fo,_,_,HO,_⟩:=H;exact⟨Fo,HO⟩⟩⟩
theorem aU9{c0 c1:Nat}{s:Ch×Ch}{h:PH}{F:List Nat}(H:aFF c0 c1 s h F)(k0:KOk s.1)(k1:KOk s.2):(s.1.DOk∧s.1.st.Ok)∧s.2.DOk∧s.2.st.Ok:=by
 obtain⟨Fc,Fd,-,h0,h1,-⟩:=H;exact⟨aRW h0 k0,aRW h1 k1⟩
def arC(c0 c1:Nat):List Value:=[pT c0 0,pT c1 0]
def arV(c0 c1:Nat):Value:=.agg (arC c0 c1).toArray
theorem aNv(c0 c1:Nat){j:Nat}(hj:j<2):(arC c0 c1)[j]? =some (pT (aFD c0 c1 j) 0):=by
 have:j=0∨j=1:=by omega
 rcases this with rfl|rfl<;>rfl
theorem aOI(c0 c1:Nat):∀u∈arC c0 c1,fP u=true:=λu hu=>by
 simp only[arC,gP,kL,or_false] at hu;rcases hu with rfl|rfl<;>rfl
def aHI(c0 c1 m d0 d1 b mm:Nat)(K:List Nat)(s:Ch×Ch)(A:List Tx)(n:Nat):mC:=eO (aFF c0 c1 s) (DTw m d0 d1 b mm A K s.1 s.2 n)
theorem aHI.good(c0 c1 m d0 d1 b mm:Nat)(K:List Nat)(s:Ch×Ch)(A:List Tx)(n:Nat):lX (aHI c0 c1 m d0 d1 b mm K s A n):=(aFF.good _ _ _).star (DTw.good _ _ _ _ _ _ _ _ _ _)
def gB.v(m:gB):Value:=.agg m.cells.toArray
def aP5(o:Option gB):gB:=o.getD gB.zero
theorem gB.isC(m:gB):∀u∈m.cells,fP u=true:=λu hu=>gB.isCell [m] m.cells (by simp) u hu
theorem gB.b0:dA PG (build cI #[])=some gB.zero.v:=by kernel_rfl
theorem gB.b3(to h:Int)(p:Pk):dA PG (build cI #[(1,.int .i64 to),(2,.int .u64 h),(3,p.v)])=some (mkM 0 to h p ⟨#[]⟩).v:=by kernel_rfl
theorem Bx.msg{h:PH}{r:Nat}{m:gB}(B:Bx h r m.cells):cD PG h (loadAt cI (pT r 0))=some m.v:=cI.agg B (by show 0+8≤8;decide)
theorem aSD{c0 c1:Nat}{s:Ch×Ch}{h:PH}{F:List Nat}(H:aFF c0 c1 s h F){j:Nat}(hj:j<2):∃F',iF (aFD c0 c1 j) (xM s j) h F':=by
 obtain⟨F0,F1,-,h0,h1,-⟩:=H;have:j=0∨j=1:=by omega
 rcases this with rfl|rfl
 ·exact⟨F0,h0⟩
 ·exact⟨F1,h1⟩
theorem aPb{h:PH}{c:Nat}{s:Ch}{F:List Nat}(hK:mU h)(H:iF c s h F)(m:gB){x:Nat}(hm:m.height=(x:Int))(hx:x<18446744073709551616)(key:Tx){kk:cE}
  (hk:∀h',cZ h h'->kk (.tuple #[(aP5 (aEz s key x m)).v,.bool (aEz s key x m).isSome]) h'):aT PG aD7 #[m.v,pT c 0,.string (tx key)] h kk:=by
 apply aGQ.call;unfold aGQ;intro r1 hr1
 try rw[cW]
 have u1:cZ h (h.set r1 (.cells (Value.cells m.v) cI)):=cU.new hr1;have B1:Bx (h.set r1 (.cells (Value.cells m.v) cI)) r1 m.cells:=Bx.new;generalize h.set r1 (.cells (Value.cells m.v) cI)=h1 at *;intro r3 hr3
 try rw[cW]
 have u3:cZ h1 (h1.set r3 (.cells (dP PG cI) cI)):=cU.new hr3;have B3:Bx (h1.set r3 (.cells (dP PG cI) cI)) r3 gB.zero.cells:=cI.zbox;have n13:r1≠r3:=B1.apart hr3;have B1:=B1.ext u3;generalize h1.set r3 (.cells (dP PG cI) cI)=h3 at *;have e3:=u1.trans u3;have k1:h r1=none:=hr1;have k3:h r3=none:=u1.none hr3;have lh:cD PG h3 (loadAt cA (pT r1 2))=some (.int .u64 (x:Int)):=by rw[cA.load,B1.cell,←hm];rfl
 simp only[cI.f2,fE,lh,cG,reduceIte,cT,Nat.reduceAdd];refine aJK (hK.ext e3) ((iF.good _ _).ext H e3) key hx λh4 u4=>?_;have e4:=e3.trans u4;have C1:=B1.ext u4;have C3:=B3.ext u4;have no:aEz s key x m=none->cY PG (dN cI (pT r3 0) gB.zero.v) h4 λ_ h34=>dY (cD PG h34 (loadAt cI (pT r3 0))) λv35=>kk (.tuple #[v35,.bool false]) h34:=λe=>by
  refine cI.put (vs:=gB.zero.cells) C3 (o:=0) rfl (by show 0+8≤8;decide) (gB.isC _) λh5 B5 u5=>?_;have B5:Bx h5 r3 gB.zero.cells:=B5;simp only[B5.msg,cG,reduceIte,cT,Nat.reduceAdd];have:=hk h5 (e4.fresh u5 (eD.one k3));rw[e] at this;exact this
 unfold aEz at hk no;generalize uE s.st key x=q at *;obtain⟨pf,e⟩:=q;simp only at hk no ⊢;by_cases he:e=0
 ·have qe:(e !=0)=false:=by rw[he];rfl
  have z:({data:=#[]}:ByteArray)=tx []:=rfl;cases pf with
  | nil=>
   have q2:decide (([]:Tx)=[])=true:=rfl;simp only[kE,qe,z,aCQ,q2,gB.b0,cG,reduceIte,cT,Nat.reduceAdd];exact no (by rw[if_neg (by simp)])
  | cons b pf=>
   have q2:decide ((b::pf:Tx)=[])=false:=rfl;have ix:dA PG (Instr.index bR (.string (tx (b::pf))) (.int .i64 0))=some (.int .u8 b.toNat):=zF (j:=0) bR.und rfl;by_cases hb:b=1
   ·have q3:((b.toNat:Int) !=1)=false:=by rw[hb];rfl
    simp only[kE,qe,z,aCQ,q2,ix,q3,cI.f4,fE,cG,reduceIte,cT,Nat.reduceAdd];refine bR.put C1 (o:=7) (by show 7<8;decide) rfl λh5 B5 u5=>?_;have B5:Bx h5 r1 (m.put (tx (b::pf))).cells:=B5;simp only[B5.msg,cG,reduceIte,cT,Nat.reduceAdd];have D3:=C3.upd u5 (by simp only[fV];exact n13.symm);refine cI.put (vs:=(m.put (tx (b::pf))).cells) D3 (o:=0) rfl (by show 0+8≤8;decide) (gB.isC _) λh6 B6 u6=>?_;have B6:Bx h6 r3 (m.put (tx (b::pf))).cells:=B6;simp only[B6.msg,cG,reduceIte,cT,Nat.reduceAdd];have:=hk h6 ((e4.fresh u5 (eD.one k1)).fresh u6 (eD.one k3));rw[if_pos ⟨he,by rw[hb];rfl⟩] at this;exact this
   ·have q3:((b.toNat:Int) !=1)=true:=by
     rw[bne_iff_ne];intro h;exact hb (UInt8.toNat_inj.1 (by rw[show(1:UInt8).toNat=1 from rfl];omega))
    simp only[kE,qe,z,aCQ,q2,ix,q3,gB.b0,cG,reduceIte,cT,Nat.reduceAdd];exact no (by rw[if_neg (by rintro⟨-,h⟩;simp only[List.head?_cons,zL8] at h;exact hb h)])
 ·have qe:(e !=0)=true:=by rw[bne_iff_ne];exact he
  simp only[kE,qe,gB.b0,cG,reduceIte,cT,Nat.reduceAdd];exact no (by rw[if_neg (λh=>he h.1)])
theorem aP3{s:Ch×Ch}{f:Int}{j:Nat}(hf:f=(j:Int))(hj:j<2):wP s.1 s.2 f=xM s j∧wP s.1 s.2 (1-f)=xM s (1-j):=by
 have:j=0∨j=1:=by omega
 rcases this with rfl|rfl<;>rw[hf]<;>exact⟨rfl,rfl⟩
theorem aPY{h:PH}{c0 c1:Nat}{s:Ch×Ch}{F:List Nat}(hK:mU h)(W:aFF c0 c1 s h F)(p:Pk)(w:p.wf)(stg:Int){kk:cE}
  (hk:∀h',cZ h h'->kk (.tuple #[(aP5 (mO s.1 s.2 p)).v,.bool (mO s.1 s.2 p).isSome]) h'):aT PG aD9 #[It.val ⟨p,stg⟩,arV c0 c1] h kk:=by
 apply aCZ.call;unfold aCZ;intro r1 hr1
 try rw[cW]
 have u1:cZ h (h.set r1 (.cells (Value.cells (It.val ⟨p,stg⟩)) eW)):=cU.new hr1;have B1:Bx (h.set r1 (.cells (Value.cells (It.val ⟨p,stg⟩)) eW)) r1 (It.cells ⟨p,stg⟩):=Bx.new;generalize h.set r1 (.cells (Value.cells (It.val ⟨p,stg⟩)) eW)=h1 at *;intro r3 hr3
 try rw[cW]
 have u3:cZ h1 (h1.set r3 (.cells (Value.cells (arV c0 c1)) dB)):=cU.new hr3;have B3:Bx (h1.set r3 (.cells (Value.cells (arV c0 c1)) dB)) r3 (arC c0 c1):=Bx.new;generalize h1.set r3 (.cells (Value.cells (arV c0 c1)) dB)=h3 at *;intro r5 hr5
 try rw[cW]
 have u5:cZ h3 (h3.set r5 (.cells (dP PG cI) cI)):=cU.new hr5;have B5:Bx (h3.set r5 (.cells (dP PG cI) cI)) r5 gB.zero.cells:=cI.zbox;generalize h3.set r5 (.cells (dP PG cI) cI)=h5 at *;have e5:=(u1.trans u3).trans u5;have k5:h r5=none:=(u1.trans u3).none hr5;have lp:cD PG h5 (loadAt aR (pT r1 0))=some p.v:=((B1.ext u3).ext u5).pk rfl;have B3:=B3.ext u5;simp only[eW.f0,lp,cG,reduceIte,cT,Nat.reduceAdd];intro r9 hr9
 try rw[cW]
 refine aR.fill (vs:=p.cells) hr9 rfl (Pk.isC _) λh9 B9 u9=>?_;have n59:r5≠r9:=B5.apart hr9;have lq:cD PG h9 (loadAt aR (pT r9 0))=some (.agg p.cells.toArray):=B9.pk rfl;simp only[lq,cG,reduceIte,cT,Nat.reduceAdd];refine aK1 p λh10 u10=>?_;have e10:=(e5.trans u9).trans u10;have C5:=(B5.ext u9).ext u10;have C3:=(B3.ext u9).ext u10;have C9:=B9.ext u10;have W10:=(aFF.good _ _ _).ext W e10;have K10:=hK.ext e10;have no:∀{h':PH},cZ h10 h'->mO s.1 s.2 p=none->cY PG (dN cI (pT r5 0) gB.zero.v) h' λ_ h34=>dY (cD PG h34 (loadAt cI (pT r5 0))) λv35=>kk (.tuple #[v35,.bool false]) h34:=fun {h'} u e=>by
  refine cI.put (vs:=gB.zero.cells) (C5.ext u) (o:=0) rfl (by show 0+8≤8;decide) (gB.isC _) λh11 B11 u11=>?_;have B11:Bx h11 r5 gB.zero.cells:=B11;simp only[B11.msg,cG,reduceIte,cT,Nat.reduceAdd];have:=hk h11 ((e10.trans u).fresh u11 (eD.one k5));rw[e] at this;exact this
 have fin:∀{h':PH} {m:gB} {b:Bool},cZ h h'->Bx h' r5 gB.zero.cells->kk (.tuple #[m.v,.bool b])=kk (.tuple #[(aP5 (mO s.1 s.2 p)).v,.bool (mO s.1 s.2 p).isSome])->cY PG (dN cI (pT r5 0) m.v) h' λ_ h34=>dY (cD PG h34 (loadAt cI (pT r5 0))) λv35=>kk (.tuple #[v35,.bool b]) h34:=fun {h' m b} u D5 e=>by
  refine cI.put (vs:=m.cells) D5 (o:=0) rfl (by show 0+8≤8;decide) (gB.isC _) λh11 B11 u11=>?_;have B11:Bx h11 r5 m.cells:=B11;simp only[B11.msg,cG,reduceIte,cT,Nat.reduceAdd];rw[e];exact hk h11 (u.fresh u11 (eD.one k5))
 unfold mO at no fin;by_cases hr:p.right=true
 case neg=>
  have hr:p.right=false:=by simpa using hr
  have q:((1:Int) !=0)=true:=rfl;simp only[hr,kE,q,gB.b0,cG,reduceIte,cT,Nat.reduceAdd];exact no cU.refl (by rw[if_neg (by rw[hr];simp)])
 obtain⟨f0,f1,-⟩:=Pk.right_iff.1 hr;obtain⟨n,hn⟩:=zLn w.1;have hn2:n<18446744073709551616:=by have:=w.2.1;omega
 have hnt:p.s.toNat=n:=by omega
 obtain⟨j,hj⟩:=zLn f0;have hj2:j<2:=by omega
 obtain⟨ej,ek⟩:=aP3 (s:=s) hj hj2;rw[ej,ek,hnt] at no fin;obtain⟨F1,H1⟩:=aSD W10 hj2;obtain⟨F2,H2⟩:=aSD W10 (j:=1-j) (by omega);have sx:∀{c:Nat} {s:Ch} {h:PH} {F:List Nat},iF c s h F->∃sp,cD PG h (loadAt hZ (pT c 0))=some (pT sp 0)∧(∃Fs,sF h sp s.st Fs)∧s.st.height<18446744073709551616:=λH=>by
  obtain⟨sp,m,cp,nv,bv,lk,P,perm,ok⟩:=H;obtain⟨Fs,St,-,-⟩:=P.fSt;exact⟨sp,Ch.load0 P.cell,⟨Fs,St⟩,P.okst.h4⟩
 have ix1:=aMD (r:=r3) (o:=0) hj2;have ix2:=aMD (r:=r3) (o:=0) (i:=1-j) (by omega);rw[fE] at ix1 ix2;have w1:IntKind.i64.wrap (1-(j:Int))=((1-j:Nat):Int):=by rw[eV (by omega) (by omega)];omega
 have lx1:cD PG h10 (loadAt dE (pT r3 j))=some (pT (aFD c0 c1 j) 0):=by rw[dE.load,C3.cell,aNv c0 c1 hj2]
 have lx2:cD PG h10 (loadAt dE (pT r3 (1-j)))=some (.pointer (some ⟨aFD c0 c1 (1-j),0,none⟩)):=by rw[dE.load,C3.cell,aNv c0 c1 (by omega)]
 have lf:∀{h'':PH},cZ h10 h''->cD PG h'' (loadAt bT (pT r9 0))=some (.int .i64 (j:Int)):=λu=>by rw[bT.load,(C9.ext u).cell,←hj];rfl
 have ls:∀{h'':PH},cZ h10 h''->cD PG h'' (loadAt cA (pT r9 1))=some (.int .u64 (n:Int)):=λu=>by rw[cA.load,(C9.ext u).cell,←hn];rfl
 have lpk:∀{h'':PH},cZ h10 h''->cD PG h'' (loadAt aR (pT r9 0))=some p.v:=λu=>(C9.ext u).pk rfl;generalize xM s j=a at *;generalize xM s (1-j)=b at *;generalize aFD c0 c1 j=x at *;generalize aFD c0 c1 (1-j)=y at *;rw[hj] at no fin;obtain⟨sa,la,⟨Fa,Sa⟩,ha64⟩:=sx H1;have la':∀{h'':PH},cZ h10 h''->cD PG h'' (loadAt hZ (pT x 0))=some (pT sa 0):=λu=>by
  obtain⟨sp,m,cp,nv,bv,lk,P,perm,ok⟩:=id H1;have e1:=la;rw[Ch.load0 P.cell] at e1;rw[Ch.load0 (P.cell.ext u)];exact e1
 obtain⟨sb,lb,⟨Fb,Sb⟩,hb64⟩:=sx H2;have lb':∀{h'':PH},cZ h10 h''->cD PG h'' (loadAt hZ (pT y 0))=some (pT sb 0):=λu=>by
  obtain⟨sp,m,cp,nv,bv,lk,P,perm,ok⟩:=id H2;have e1:=lb;rw[Ch.load0 P.cell] at e1;rw[Ch.load0 (P.cell.ext u)];exact e1
 have q0:((0:Int) !=0)=false:=rfl;simp only[hr,kE,q0,aR.f0,aR.f1,dX.f0,eZ.f0,fE,lf cU.refl,ix1,lx1,w1,ix2,lx2,la,ls cU.refl,cG,reduceIte,cT,Nat.reduceAdd];refine aIf hn2 λh11 u11=>?_;refine⟨la' u11,?_⟩;refine aML (Sa.ext u11) (fS 99 n) ?_;have hsx:oV a p=(match gG a.st.now (fS 99 n) with
  | some q=>decide (q.v=mN p)
  | none=>false):=by unfold oV;rw[hnt];rfl
 generalize hg:gG a.st.now (fS 99 n)=og at *;cases og with
 | none=>
  simp only[zLu,gB.b0,cG,reduceIte,cT,Nat.reduceAdd];exact no u11 (by rw[if_neg (by rw[hsx];simp)])
 | some q=>
  simp only[aLv,aII,aIA,lpk u11,cG,reduceIte,cT,Nat.reduceAdd];refine aFd w (K10.ext u11) λh12 u12=>?_;have e12:=u11.trans u12;by_cases hv:q.v=mN p
  case neg=>
   have q1:(!decide (q.v=mN p))=true:=by simp[hv]
   simp only[aDY,q1,gB.b0,cG,reduceIte,cT,Nat.reduceAdd];exact no e12 (by rw[if_neg (by rw[hsx];simp[hv])])
  have hs:oV a p=true:=by rw[hsx];simp[hv]
  have q1:(!decide (q.v=mN p))=false:=by simp[hv]
  simp only[aDY,q1,lf e12,lb' e12,lpk e12,cG,reduceIte,cT,Nat.reduceAdd];refine aJN (Sb.ext e12) ?_;refine⟨lpk e12,lf e12,?_⟩;simp only[gB.b3,cG,reduceIte,cT,Nat.reduceAdd];intro r74 hr74
  try rw[cW]
  refine cI.fill (vs:=(mkM 0 (j:Int) (b.st.height:Int) p ⟨#[]⟩).cells) hr74 rfl (gB.isC _) λh15 B15 u15=>?_;have e15:=e12.trans u15;have k74:h r74=none:=(e10.trans e12).none hr74;simp only[lb' e15,ls e15,cG,reduceIte,cT,Nat.reduceAdd];refine aDg hn2 λh16' u16=>?_;refine⟨lb' (e15.trans u16),?_⟩;refine aML ((Sb.ext e15).ext u16) (fS 114 n) ?_;have e16':=e15.trans u16;have e16:=e10.trans e16';have D74:=B15.ext u16;have D5:=C5.ext e16';have D9:=C9.ext e16';have n574:r5≠r74:=(C5.ext e12).apart hr74;have n974:r9≠r74:=(C9.ext e12).apart hr74;have G1:=(iF.good _ _).ext H1 e16';have G2:=(iF.good _ _).ext H2 e16';have m74b:r74∉F2:=λhm=>(iF.good _ _).known ((iF.good _ _).ext H2 e12) _ hm hr74;have m74a:r74∉F1:=λhm=>(iF.good _ _).known ((iF.good _ _).ext H1 e12) _ hm hr74;by_cases g2:(gG b.st.now (fS 114 n)).isSome=true
  ·simp only[g2,cI.f0,cG,reduceIte,cT,Nat.reduceAdd];refine bT.put D74 (o:=0) (by show 0<8;decide) rfl λh18 G18 u18=>?_;have G18:Bx h18 r74 (mkM 3 (j:Int) (b.st.height:Int) p ⟨#[]⟩).cells:=G18;have ls18:cD PG h18 (loadAt cA (pT r9 1))=some (.int .u64 (n:Int)):=by rw[cA.load,(D9.upd u18 (by simpa using n974)).cell,←hn];rfl
   have e18:=e16.fresh u18 (eD.one k74);simp only[G18.msg,ls18,cG,reduceIte,cT,Nat.reduceAdd];refine aJt hn2 λh19 u19=>?_;refine⟨(G18.ext u19).msg,?_⟩;refine aPb (hK.ext (e18.trans u19)) ((iF.good _ _).ext ((iF.good _ _).upd G2 u18 (λz hz=>by simp only[fV];rintro rfl;exact m74b hz)) u19) (mkM 3 (j:Int) (b.st.height:Int) p ⟨#[]⟩) rfl hb64 (fS 97 n) λh20 u20=>?_;simp only[cG,reduceIte,cT,Nat.reduceAdd];refine fin ((e18.trans u19).trans u20) (((D5.upd u18 (by simpa using n574)).ext u19).ext u20) ?_;rw[if_pos ⟨hr,hs⟩,if_pos g2]
  have g2:(gG b.st.now (fS 114 n)).isSome=false:=by simpa using g2
  have lt:cD PG h16' (loadAt cA (pT r9 2))=some (.int .u64 p.t):=by rw[cA.load,D9.cell];rfl
  have lh:cD PG h16' (loadAt cA (pT r74 2))=some (.int .u64 (b.st.height:Int)):=by rw[cA.load,D74.cell];rfl
  by_cases hA:IntKind.u64.wrap (p.t-1)≤(b.st.height:Int)
  ·have pA:=eq_true hA;simp only[g2,cI.f2,aR.f2,lh,lt,aLP,pA,cI.f0,cG,reduceIte,cT,Nat.reduceAdd];refine bT.put D74 (o:=0) (by show 0<8;decide) rfl λh18 G18 u18=>?_;have G18:Bx h18 r74 (mkM 4 (j:Int) (b.st.height:Int) p ⟨#[]⟩).cells:=G18;have ls18:cD PG h18 (loadAt cA (pT r9 1))=some (.int .u64 (n:Int)):=by rw[cA.load,(D9.upd u18 (by simpa using n974)).cell,←hn];rfl
   have lt18:∀{h'':PH},cZ h18 h''->cD PG h'' (loadAt cA (pT r74 2))=some (.int .u64 (b.st.height:Int)):=λu=>by rw[cA.load,(G18.ext u).cell];rfl
   have e18:=e16.fresh u18 (eD.one k74);simp only[aR.f1,cI.f2,fE,ls18,lt18 cU.refl,cG,reduceIte,cT,Nat.reduceAdd];refine aDg hn2 λh19 u19=>?_;refine⟨lt18 u19,?_⟩;refine aJK (hK.ext (e18.trans u19)) ((iF.good _ _).ext ((iF.good _ _).upd G2 u18 (λz hz=>by simp only[fV];rintro rfl;exact m74b hz)) u19) (fS 114 n) hb64 λh20 u20=>?_;simp only[cI.f4,fE,cG,reduceIte,cT,Nat.reduceAdd];refine bR.put ((G18.ext u19).ext u20) (o:=7) (by show 7<8;decide) rfl λh21 G21 u21=>?_;have G21:Bx h21 r74 (mkM 4 (j:Int) (b.st.height:Int) p (tx (uE b.st (fS 114 n) b.st.height).1)).cells:=G21;simp only[G21.msg,cG,reduceIte,cT,Nat.reduceAdd];refine fin (((e18.trans u19).trans u20).fresh u21 (eD.one k74)) ((((D5.upd u18 (by simpa using n574)).ext u19).ext u20).upd u21 (by simpa using n574)) ?_;rw[if_pos ⟨hr,hs⟩,if_neg (by rw[g2];simp),if_pos (.inl hA)];rfl
  have pA:=eq_false hA;by_cases hB:b.st.height=18446744073709551615
  ·have pB:((b.st.height:Int)==18446744073709551615)=true:=by rw[hB];rfl
   simp only[g2,cI.f2,aR.f2,lh,lt,aLP,pA,hQ,pB,cI.f0,cG,reduceIte,cT,Nat.reduceAdd];refine bT.put D74 (o:=0) (by show 0<8;decide) rfl λh18 G18 u18=>?_;have G18:Bx h18 r74 (mkM 4 (j:Int) (b.st.height:Int) p ⟨#[]⟩).cells:=G18;have ls18:cD PG h18 (loadAt cA (pT r9 1))=some (.int .u64 (n:Int)):=by rw[cA.load,(D9.upd u18 (by simpa using n974)).cell,←hn];rfl
   have lt18:∀{h'':PH},cZ h18 h''->cD PG h'' (loadAt cA (pT r74 2))=some (.int .u64 (b.st.height:Int)):=λu=>by rw[cA.load,(G18.ext u).cell];rfl
   have e18:=e16.fresh u18 (eD.one k74);simp only[aR.f1,cI.f2,fE,ls18,lt18 cU.refl,cG,reduceIte,cT,Nat.reduceAdd];refine aDg hn2 λh19 u19=>?_;refine⟨lt18 u19,?_⟩;refine aJK (hK.ext (e18.trans u19)) ((iF.good _ _).ext ((iF.good _ _).upd G2 u18 (λz hz=>by simp only[fV];rintro rfl;exact m74b hz)) u19) (fS 114 n) hb64 λh20 u20=>?_;simp only[cI.f4,fE,cG,reduceIte,cT,Nat.reduceAdd];refine bR.put ((G18.ext u19).ext u20) (o:=7) (by show 7<8;decide) rfl λh21 G21 u21=>?_;have G21:Bx h21 r74 (mkM 4 (j:Int) (b.st.height:Int) p (tx (uE b.st (fS 114 n) b.st.height).1)).cells:=G21;simp only[G21.msg,cG,reduceIte,cT,Nat.reduceAdd];refine fin (((e18.trans u19).trans u20).fresh u21 (eD.one k74)) ((((D5.upd u18 (by simpa using n574)).ext u19).ext u20).upd u21 (by simpa using n574)) ?_;rw[if_pos ⟨hr,hs⟩,if_neg (by rw[g2];simp),if_pos (.inr hB)];rfl
  have pB:((b.st.height:Int)==18446744073709551615)=false:=by rw[beq_eq_false_iff_ne];omega
  simp only[g2,cI.f2,aR.f2,lh,lt,aLP,pA,hQ,pB,cI.f0,cI.f1,lf e16',w1,la' e16',cG,reduceIte,cT,Nat.reduceAdd];refine aJN (Sa.ext e16') ?_;refine⟨lf e16',?_⟩;refine bT.put D74 (o:=0) (by show 0<8;decide) rfl λh18 G18 u18=>?_;have D9':=D9.upd u18 (by simpa using n974);refine⟨by rw[bT.load,D9'.cell,←hj];rfl,?_⟩;refine bT.put G18 (o:=1) (by show 1<8;decide) rfl λh19 G19 u19=>?_;refine cA.put G19 (o:=2) (by show 2<8;decide) rfl λh20 G20 u20=>?_;have G20:Bx h20 r74 (mkM 2 ((1-j:Nat):Int) (a.st.height:Int) p ⟨#[]⟩).cells:=G20;have u3:cU [r74] h16' h20:=(u18.trans u19).trans u20;have ls20:cD PG h20 (loadAt cA (pT r9 1))=some (.int .u64 (n:Int)):=by rw[cA.load,(D9.upd u3 (by simpa using n974)).cell,←hn];rfl
  have e20:=e16.fresh u3 (eD.one k74);simp only[G20.msg,ls20,cG,reduceIte,cT,Nat.reduceAdd];refine aIf hn2 λh21 u21=>?_;refine⟨(G20.ext u21).msg,?_⟩;refine aPb (hK.ext (e20.trans u21)) ((iF.good _ _).ext ((iF.good _ _).upd G1 u3 (λz hz=>by simp only[fV];rintro rfl;exact m74a hz)) u21) (mkM 2 ((1-j:Nat):Int) (a.st.height:Int) p ⟨#[]⟩) rfl ha64 (fS 99 n) λh22 u22=>?_;simp only[cG,reduceIte,cT,Nat.reduceAdd];refine fin ((e20.trans u21).trans u22) (((D5.upd u3 (by simpa using n574)).ext u21).ext u22) ?_;rw[if_pos ⟨hr,hs⟩,if_neg (by rw[g2];simp),if_neg (by rintro(h|h);exact hA h;exact hB h),show(1-(j:Int))=((1-j:Nat):Int) by omega]
theorem aW3{h:PH}{x fv:Value}{xs:List gB}{f:gB->Bool}(hx:fR h 8 x (xs.map gB.cells))(hl:xs.length≤1000000)
  (hf:∀p∈xs,∀h',cZ h h'->∀k':Value->PH->Prop,(∀h'',cZ h' h''->k' (.bool (f p)) h'')->zA PG fv #[.agg p.cells.toArray] h' k') {k:cE}
  (hk:∀h',cZ h h'->k (.bool (xs.any f)) h'):aT PG mB #[x,fv] h k:=by
 have lx:=hx.len (t':=bT) dI.und;rw[iS] at lx;apply lC.call;unfold lC;apply lM.call;unfold lM;simp only[lx,cG,reduceIte];refine⟨λvs h'=>∃i:Nat,i≤xs.length∧vs=[x,fv,.int .i64 xs.length,.int .i64 i]∧cZ h h'∧∀p∈xs.take i,f p=false,gU xs.length 3,⟨0,by omega,rfl,cU.refl,by simp⟩,?_⟩;rintro ρ h' ⟨i,hi,hvs,w,hq⟩;simp only[iH,iT,kV,and_true] at hvs;obtain⟨e0,e1,e2,e5⟩:=hvs;rw[e0,e1,e2,e5];unfold qW;by_cases hlt:i<xs.length
 ·have hd:((i:Int)<(xs.length:Int))=True:=by apply eq_true;omega
  obtain⟨m,hm⟩:∃m,xs[i]? =some m:=⟨_,lQ hlt⟩;obtain⟨a,a1,a2⟩:=(hx.ext w).msg (k:=.i64) (j:=(i:Int)) (by omega) (by rw[pQ];exact hm);have ei:=pR (i:=i) (by omega);simp only[hd,a1,a2,cG,reduceIte];refine hf m (rC hm) _ w _ λh2 u2=>?_;cases c:f m with
  | true=>
   have h0:(0≤(i:Int))=True:=by apply eq_true;omega
   have hin:xs.any f=true:=List.any_eq_true.2 ⟨m,rC hm,c⟩;have:=hk _ (w.trans u2);rw[hin] at this;simp only[h0,cG,reduceIte];exact this
  | false=>
   simp only[ei,cG,reduceIte];refine⟨⟨i+1,by omega,rfl,w.trans u2,?_⟩,by simp[gU,e5];omega⟩;intro p hp;rw[zLT,hm] at hp;rcases jG.1 hp with hp|hp
   ·exact hq p hp
   ·simp at hp;subst hp;exact c
 ·have hd:((i:Int)<(xs.length:Int))=False:=by apply eq_false;omega
  have h0:(0≤(-1:Int))=False:=by apply eq_false;omega
  rw[mW (by omega)] at hq;have hin:xs.any f=false:=by
   rw[List.any_eq_false];intro p hp;simp[hq p hp]
  have:=hk _ w;rw[hin] at this;simp only[hd,h0,cG,reduceIte];exact this
theorem aW9{h:PH}{x:Value}{xs:List Int}(hx:fR h 1 x (xs.map vS))(y:Int){k:cE}(hk:k (.bool (decide (y∈xs))) h):aT PG qK #[x,.int .u64 y] h k:=by
 have hsm:=hx.small;simp only[qZ,iS] at hsm;have lx:=hx.len (t':=bT) dO.und;rw[iS] at lx;apply oJ.call;unfold oJ;apply pV.call;unfold pV;simp only[lx,cG,reduceIte];refine⟨λvs h'=>∃i:Nat,i≤xs.length∧vs=[x,.int .u64 y,.int .i64 xs.length,.int .i64 i]∧h'=h∧y∉xs.take i,gU xs.length 3,⟨0,by omega,rfl,rfl,by simp⟩,?_⟩;rintro ρ h' ⟨i,hi,hvs,rfl,hq⟩;simp only[iH,iT,kV,and_true] at hvs;obtain⟨e0,e1,e2,e5⟩:=hvs;rw[e0,e1,e2,e5];unfold aAQ;by_cases hlt:i<xs.length
 ·have hd:((i:Int)<(xs.length:Int))=True:=by apply eq_true;omega
  obtain⟨m,hm⟩:∃m,xs[i]? =some m:=⟨_,lQ hlt⟩;obtain⟨a,a1,a2⟩:=hx.loadCell dO.und cA.info cA.size cA.und rfl (k:=.i64) (j:=(i:Int)) (x:=.int .u64 m) (by omega) (by rw[pQ,vD,hm];rfl);have ei:=pR (i:=i) (by omega);by_cases c:y=m
  ·have q:(y==m)=true:=by simp[c]
   have h0:(0≤(i:Int))=True:=by apply eq_true;omega
   have hin:decide (y∈xs)=true:=decide_eq_true (c▸rC hm);rw[hin] at hk;simp only[hd,a1,a2,hQ,q,h0,cG,reduceIte];exact hk
  ·have q:(y==m)=false:=by simp[c]
   simp only[hd,a1,a2,hQ,q,ei,cG,reduceIte];refine⟨⟨i+1,by omega,rfl,by first|rfl|trivial,?_⟩,by simp[gU,e5];omega⟩;rw[zLT,hm];intro hp;rcases jG.1 hp with hp|hp
   ·exact hq hp
   ·simp at hp;exact c hp
 ·have hd:((i:Int)<(xs.length:Int))=False:=by apply eq_false;omega
  have h0:(0≤(-1:Int))=False:=by apply eq_false;omega
  rw[mW (by omega)] at hq;have hin:decide (y∈xs)=false:=decide_eq_false hq;rw[hin] at hk;simp only[hd,h0,cG,reduceIte];exact hk
theorem gB.bu(to h:Int):dA PG (build cI #[(0,.int .i64 1),(1,.int .i64 to),(2,.int .u64 h)])=some (tQ to h).v:=by kernel_rfl
theorem gB.lit2v(m m':gB):jK PG (buildSlice dI 2 #[(0,m.v),(1,m'.v)])=some (.cells (m.cells++m'.cells).toArray cI,λr=>pure (.slice (some ⟨r,0,none⟩) 2 2)):=by kernel_rfl
theorem gB.lit1v(m:gB):jK PG (buildSlice dI 1 #[(0,m.v)])=some (.cells m.cells.toArray cI,λr=>pure (.slice (some ⟨r,0,none⟩) 1 1)):=by kernel_rfl
def aEW(batch:Int)(x:List gB×Bool)(more:List gB):List gB×Bool:=if x.2=true∨batch<((x.1.length+more.length:Nat):Int) then(x.1,true) else(x.1++more,false)
theorem aTH{h:PH}{r o:Nat}{cs:List Value}{v:Value}{x:List gB×Bool}{G:List Nat}(B:Bx h r cs)(h1:cs[o]? =some v)(h2:cs[o+1]? =some (.bool x.2))(O:dZ h cI 8 v (x.1.map gB.cells) G)(nr:r∉G){v9:Value}{more:List gB}(S:fR h 8 v9 (more.map gB.cells))(n9:∀a n c,v9= .slice (some a) n c->a.block≠r)(hl:x.1.length+more.length≤100000){batch:Int}{R:cE}
  (hk:∀h' v' G',Bx h' r ((cs.set (o+1) (.bool (aEW batch x more).2)).set o v')->dZ h' cI 8 v' ((aEW batch x more).1.map gB.cells) G'->r∉G'->cU (r::G) h h'->(∀y∈G',y∈G∨h y=none)->R (.tuple #[]) h'):
  xL R (pT r o) (.int .i64 batch) v9 h:=by
 unfold xL;have hol:o+1<cs.length:=(zLz.1 h2).1;have lv:∀{h':PH} {c':List Value},Bx h' r c'->c'[o]? =some v->cD PG h' (loadAt dI (pT r o))=some v:=λB e=>by rw[dI.load,B.cell];exact e
 have lb:cD PG h (loadAt fU (pT r (o+1)))=some (.bool x.2):=by rw[fU.load,B.cell];exact h2
 have l1:dA PG (Builtin.len_ #[dI] bT #[v])=some (.int .i64 (x.1.length:Int)):=by
  have:=O.slR.len (t':=bT) dI.und;rw[iS] at this;exact this
 have l2:dA PG (Builtin.len_ #[dI] bT #[v9])=some (.int .i64 (more.length:Int)):=by
  have:=S.len (t':=bT) dI.und;rw[iS] at this;exact this
 have wl:IntKind.i64.wrap ((x.1.length:Int)+(more.length:Int))=((x.1.length+more.length:Nat):Int):=by rw[eV (by omega) (by omega)];omega
 have vc:fP v=true:=by
  obtain⟨a,c,e,-⟩:=O.slR.here;rw[e];rfl
 -- full, or not
 have full:aEW batch x more=(x.1,true)->cY PG (dN fU (pT r (o+1)) (.bool true)) h λ_ h96=>dY (cD PG h96 (loadAt fU (pT r (o+1)))) λv99=>dY (dA PG (Op.unary UnOp.not v99)) λv100=>dF v100
   (dY (cD PG h96 (loadAt dI (pT r o))) λv103=>
    cY PG (Builtin.append_ #[dI,dI] dI #[v103,v9]) h96 λv104 h105=>
    cY PG (dN dI (pT r o) v104) h105 λ_ h109=>R (.tuple #[]) h109) (R (.tuple #[]) h96):=λe=>by
  refine fU.put B hol rfl λh3 B3 u3=>?_;have l3:cD PG h3 (loadAt fU (pT r (o+1)))=some (.bool true):=by rw[fU.load,B3.cell];simp[hol]
  simp only[l3,cG,reduceIte,cT,Nat.reduceAdd];rw[e] at hk;refine hk h3 v G ?_ (O.upd u3 (λy hy hm=>by simp only[fV] at hm;exact nr (hm▸hy))) nr (u3.mono λy hy=>.inl (by simp only[fV] at hy;simp[hy])) (λy hy=>.inl hy);have:(cs.set (o+1) (.bool true)).set o v=cs.set (o+1) (.bool true):=by
   apply List.ext_getElem?;intro i;by_cases hi:i=o
   ·subst hi;rw[List.getElem?_set_self (by simp;omega),List.getElem?_set_ne (by omega),h1]
   ·rw[List.getElem?_set_ne (Ne.symm hi)]
  rw[this];exact B3
 have room:aEW batch x more=(x.1++more,false)->cY PG (dN fU (pT r (o+1)) (.bool false)) h λ_ h96=>dY (cD PG h96 (loadAt fU (pT r (o+1)))) λv99=>dY (dA PG (Op.unary UnOp.not v99)) λv100=>dF v100
   (dY (cD PG h96 (loadAt dI (pT r o))) λv103=>
    cY PG (Builtin.append_ #[dI,dI] dI #[v103,v9]) h96 λv104 h105=>
    cY PG (dN dI (pT r o) v104) h105 λ_ h109=>R (.tuple #[]) h109) (R (.tuple #[]) h96):=λe=>by
  refine fU.put B hol rfl λh3 B3 u3=>?_;have l3:cD PG h3 (loadAt fU (pT r (o+1)))=some (.bool false):=by rw[fU.load,B3.cell];simp[hol]
  have h3v:(cs.set (o+1) (.bool false))[o]? =some v:=by rw[List.getElem?_set_ne (by omega)];exact h1
  have O3:=O.upd u3 (λy hy hm=>by simp only[fV] at hm;exact nr (hm▸hy));have k3:h r≠none:=B.known
  -- the slice's cells stay
  have S3:fR h3 8 v9 (more.map gB.cells):=S.upd u3 (λa c e hne hm=>n9 a c e hne (by simpa using hm));simp only[l3,lv B3 h3v,cG,reduceIte,cT,Nat.reduceAdd];refine jF dI.und dI.und cI.info cI.size cI.bytes cI.zero rfl (by decide) O3 S3 (gB.isCell more) (by simp only[iS];omega) ?_;intro v4 h4 G4 O4 u4 k4 _;have B4:=B3.upd u4 nr;have nr4:r∉G4:=λhm=>by
   rcases k4 r hm with hx|hx
   ·exact nr hx
   ·exact B3.known hx
  have v4c:fP v4=true:=by
   obtain⟨a,c,e,-⟩:=O4.slR.here;rw[e];rfl
  refine dI.put B4 (o:=o) (by simp;omega) v4c λh5 B5 u5=>?_;rw[←qI] at O4;rw[e] at hk;refine hk h5 v4 G4 B5 (O4.upd u5 (λy hy hm=>by simp only[fV] at hm;exact nr4 (hm▸hy))) nr4 (((u3.mono λy hy=>.inl (by simp only[fV] at hy;simp[hy])).trans (u4.mono λy hy=>.inl (by simp[hy]))).trans (u5.mono λy hy=>.inl (by simp only[fV] at hy;simp[hy]))) (λy hy=>?_);rcases k4 y hy with hx|hx
  ·exact .inl hx
  ·by_cases hy2:y=r
   ·exact absurd hx (by rw[hy2];exact B3.known)
   ·cases e9:h y with
    | none=>exact .inr rfl
    | some ob=>
     have:=u3 y ob e9 (by simpa using hy2);rw[hx] at this;cases this
 cases hx:x.2 with
 | true=>
  rw[hx] at lb;have e:aEW batch x more=(x.1,true):=by unfold aEW;rw[if_pos (.inl hx)]
  have:=full e;simp only[jA.f1,jA.f0,lb,cG,reduceIte,cT,Nat.reduceAdd] at this ⊢;exact this
 | false=>
  rw[hx] at lb;by_cases g:batch<((x.1.length+more.length:Nat):Int)
  ·have e:aEW batch x more=(x.1,true):=by unfold aEW;rw[if_pos (.inr g)]
   have g':=eq_true g;have:=full e;simp only[jA.f1,jA.f0,lb,lv B h1,l1,l2,wl,g',cG,reduceIte,cT,Nat.reduceAdd] at this ⊢;exact this
  ·have e:aEW batch x more=(x.1++more,false):=by unfold aEW;rw[if_neg (by rw[hx];simpa using g)]
   have g':=eq_false g;have:=room e;simp only[jA.f1,jA.f0,lb,lv B h1,l1,l2,wl,g',cG,reduceIte,cT,Nat.reduceAdd] at this ⊢;exact this
theorem aNq(known:List Int)(batch:Int)(x:List gB×Bool)(m:gB):aEW batch x (yD known x.1 m)=vK known batch x m:=rfl
theorem aR2{h:PH}{r o:Nat}{cs:List Value}{v:Value}{x:List gB×Bool}{G:List Nat}(B:Bx h r cs)(h1:cs[o]? =some v)(h2:cs[o+1]? =some (.bool x.2))(O:dZ h cI 8 v (x.1.map gB.cells) G)(nr:r∉G){m:gB}{kv:Value}{known:List Int}(S:fR h 1 kv (known.map vS))(hl:x.1.length≤10000){batch:Int}{R:cE}
  (hk:∀h' v' G',Bx h' r ((cs.set (o+1) (.bool (vK known batch x m).2)).set o v')->dZ h' cI 8 v' ((vK known batch x m).1.map gB.cells) G'->r∉G'->cU (r::G) h h'->(∀y∈G',y∈G∨h y=none)->R (.tuple #[]) h'):
  aT PG aCF #[pT r o,m.v,kv,.int .i64 batch] h R:=by
 apply aEm.call;unfold aEm;intro r1 hr1
 try rw[cW]
 have u1:cZ h (h.set r1 (.cells (Value.cells m.v) cI)):=cU.new hr1;have B1:Bx (h.set r1 (.cells (Value.cells m.v) cI)) r1 m.cells:=Bx.new;generalize h.set r1 (.cells (Value.cells m.v) cI)=h1' at *;have lt:cD PG h1' (loadAt bT (pT r1 1))=some (.int .i64 m.dest):=by rw[bT.load,B1.cell];rfl
 have lh:cD PG h1' (loadAt cA (pT r1 2))=some (.int .u64 m.height):=by rw[cA.load,B1.cell];rfl
 simp only[cI.f1,cI.f2,lt,lh,gB.bu,cG,reduceIte,cT,Nat.reduceAdd];intro r8 hr8
 try rw[cW]
 refine cI.fill (vs:=(tQ m.dest m.height).cells) hr8 rfl (gB.isC _) λh3 B8 u3=>?_;have C1:=B1.ext u3;simp only[C1.msg,gB.lit1v,cG,reduceIte,cT,Nat.reduceAdd];intro r13 hr13
 try rw[cW]
 have u4:cZ h3 (h3.set r13 (.cells m.cells.toArray cI)):=cU.new hr13;have S13:fR (h3.set r13 (.cells m.cells.toArray cI)) 8 (.slice (some ⟨r13,0,none⟩) 1 1) ([m].map gB.cells):=(dZ.lit (n:=1) (gB.rows [m]) dL (by simp) (by decide) (by simp)).slR;generalize h3.set r13 (.cells m.cells.toArray cI)=h4 at *;have e4:=(u1.trans u3).trans u4;have k13:h r13=none:=(u1.trans u3).none hr13;have kr:h r≠none:=B.known;have vv:∀{h':PH},cZ h h'->cD PG h' (loadAt dI (pT r o))=some v:=λu=>by rw[dI.load,(B.ext u).cell];exact h1
 refine fI ?_;simp only[jA.f0,vv e4,mV,cG,reduceIte,cT,Nat.reduceAdd];refine aW3 (O.ext e4).slR (by omega) (f:=λy=>decide (y=tQ m.dest m.height)) (λy hy h' w k' hk'=>?_) λh5 u5=>?_
 ·show aT PG aDv #[y.v,pT r8 0] h' k';apply aDP.call;unfold aDP;intro q1 hq1
  try rw[cW]
  have w1:cZ h' (h'.set q1 (.cells (Value.cells y.v) cI)):=cU.new hq1;have Y1:Bx (h'.set q1 (.cells (Value.cells y.v) cI)) q1 y.cells:=Bx.new;generalize h'.set q1 (.cells (Value.cells y.v) cI)=h'' at *;have Y8:cD PG h'' (loadAt cI (pT r8 0))=some (tQ m.dest m.height).v:=(((B8.ext u4).ext w).ext w1).msg;have eq:=gB.eql (h:=h'') (x:=.tmp 4) (y:=.tmp 5) y (tQ m.dest m.height);simp only[Y1.msg,Y8,gB.v,eq,cG,reduceIte,cT,Nat.reduceAdd];exact hk' h'' w1
 have e5:=e4.trans u5;have any:(x.1.any λy=>decide (y=tQ m.dest m.height))=decide (tQ m.dest m.height∈x.1):=by
  rw[zLm,List.any_eq_true,decide_eq_true_iff];constructor
  ·rintro⟨y,hy,e⟩;exact of_decide_eq_true e▸hy
  ·exact λh=>⟨_,h,decide_eq_true rfl⟩
 rw[any];have lh5:cD PG h5 (loadAt cA (pT r1 2))=some (.int .u64 m.height):=by rw[cA.load,((C1.ext u4).ext u5).cell];rfl
 have one:yD known x.1 m=[m]->∀{h':PH},cZ h5 h'->xL R (pT r o) (.int .i64 batch) (.slice (some ⟨r13,0,none⟩) 1 1) h':=λe {h'} u=>by
  have u':=e5.trans u;refine aTH (x:=x) (B.ext u') h1 h2 (O.ext u') nr ((S13.ext u5).ext u) (λa n c e=>?_) (by simp;omega) λh9 v' G' B9 O9 n9 u9 g9=>?_
  ·cases e;exact λe=>kr (e▸k13)
  ·rw[←e,aNq] at B9 O9;exact hk h9 v' G' B9 O9 n9 (u'.upd.trans u9) (λy hy=>(g9 y hy).imp id u'.none)
 by_cases hA:tQ m.dest m.height∈x.1
 ·rw[decide_eq_true hA];simp only[cI.f2,lh5,cG,reduceIte,cT,Nat.reduceAdd];exact one (by unfold yD;rw[if_pos (.inl hA)]) cU.refl
 rw[decide_eq_false hA];simp only[cI.f2,lh5,cG,reduceIte,cT,Nat.reduceAdd];refine aW9 (S.ext e5) m.height ?_;by_cases hB:m.height∈known
 ·rw[decide_eq_true hB];simp only[cG,reduceIte,cT,Nat.reduceAdd];exact one (by unfold yD;rw[if_pos (.inr hB)]) cU.refl
 rw[decide_eq_false hB];have lu:cD PG h5 (loadAt cI (pT r8 0))=some (tQ m.dest m.height).v:=((B8.ext u4).ext u5).msg;have lm:cD PG h5 (loadAt cI (pT r1 0))=some m.v:=((C1.ext u4).ext u5).msg;simp only[lu,lm,gB.lit2v,cG,reduceIte,cT,Nat.reduceAdd];intro r47 hr47;refine fI ?_
 try rw[cW]
 have u6:cZ h5 (h5.set r47 (.cells ((tQ m.dest m.height).cells++m.cells).toArray cI)):=cU.new hr47;have S47:fR (h5.set r47 (.cells ((tQ m.dest m.height).cells++m.cells).toArray cI)) 8 (.slice (some ⟨r47,0,none⟩) 2 2) ([tQ m.dest m.height,m].map gB.cells):=(dZ.lit (n:=2) (gB.rows _) dL (by simp) (by decide) (by simp)).slR;generalize h5.set r47 (.cells ((tQ m.dest m.height).cells++m.cells).toArray cI)=h6 at *;have e6:=e5.trans u6;have em:yD known x.1 m=[tQ m.dest m.height,m]:=by unfold yD;rw[if_neg (by rintro(h|h);exact hA h;exact hB h)]
 refine aTH (x:=x) (B.ext e6) h1 h2 (O.ext e6) nr S47 (λa n c e=>?_) (by simp;omega) λh9 v' G' B9 O9 n9 u9 g9=>?_
 ·cases e;exact λe=>kr (e▸e5.none hr47)
 ·rw[←em,aNq] at B9 O9;exact hk h9 v' G' B9 O9 n9 (e6.upd.trans u9) (λy hy=>(g9 y hy).imp id e6.none)
noncomputable def aCM(s:Ch×Ch)(ps:List Pk):List gB:=ps.filterMap (mO s.1 s.2)
def aJo(k:Int)(ms:List gB):List gB:=ms.filter λm=>decide (m.dest=k)
noncomputable def xE(s:Ch×Ch)(known:List Int)(batch:Int)(ps:List Pk)(k:Int):List gB×Bool:=aFb known batch ([],false) (aJo k (aCM s ps))
theorem aMm{c0 c1:Ch}{p:Pk}{m:gB}(h:mO c0 c1 p=some m):m.dest=0∨m.dest=1:=by
 obtain⟨hr,-,-,hc⟩:=aLL h;obtain⟨f0,f1,-⟩:=Pk.right_iff.1 hr;rcases hc with⟨-,h,-⟩|⟨-,h,-⟩|⟨-,h,-⟩<;>omega
theorem aR9(known:List Int)(batch:Int):∀(ms:List gB) (x:List gB×Bool),(aFb known batch x ms).1.length≤x.1.length+2*ms.length
 | [],x=>oL _
 | m::ms,x=>by
  have h:=aR9 known batch ms (vK known batch x m);have h1:(vK known batch x m).1.length≤x.1.length+2:=by
   unfold vK;split
   ·show x.1.length≤_;omega
   ·have:=(aQD known x.1 m).2;show(x.1++yD known x.1 m).length≤_;rw[jP];omega
  show(aFb known batch (vK known batch x m) ms).1.length≤_;rw[rN];omega
theorem aN6(s:Ch×Ch)(ps:List Pk):(aCM s ps).length≤ps.length:=List.length_filterMap_le _ _
theorem aRy(k:Int)(ms:List gB):(aJo k ms).length≤ms.length:=aLy _ _
theorem aOG(s:Ch×Ch)(known:List Int)(batch:Int)(ps:List Pk)(k:Int):(xE s known batch ps k).1.length≤2*ps.length:=by
 have h1:=aR9 known batch (aJo k (aCM s ps)) ([],false);have h2:=aRy k (aCM s ps);have h3:=aN6 s ps;unfold xE;simp only[zLM] at h1;omega
def It.pr(i:It):Ky×Value:=(i.key,i.val)
abbrev MAt(h:PH)(m:Nat)(l:List It):Prop:=kB aYo h m (l.map It.pr)
theorem It.isCell(l:List It):∀r∈l.map It.cells,∀u∈r,fP u=true:=λr hr u hu=>by
 obtain⟨m,_,rfl⟩:=lO.1 hr;exact m.allCell u (by simpa using hu)
end
section
open Go Go.Shelf
end
section
open Go Go.Sort Go.Shelf
end
section
open Go
def kl(a b:Ky):Prop:=a.1<b.1∨a.1=b.1∧a.2<b.2
instance (a b:Ky):Decidable (kl a b):=by unfold kl;exact inferInstance
theorem aUS(a:Ky):¬kl a a:=by unfold kl;omega
theorem aUs{a b c:Ky}(h1:kl a b)(h2:kl b c):kl a c:=by unfold kl at *;omega
theorem aZF{a b:Ky}(h:kl a b):a≠b:=by rintro rfl;exact aUS _ h
def Srt(L:List It):Prop:=L.Pairwise λa b=>kl a.key b.key
def aU6(L:List It)(k:Ky):Option It:=L.find? λi=>decide (k=i.key)
def aVJ(L:List It)(k:Ky):List It:=L.filter λi=>decide (i.key≠k)
def aSp(L:List It)(i:It):List It:=(L.filter λj=>decide (kl j.key i.key))++i::(L.filter λj=>decide (kl i.key j.key))
theorem Srt.filter{L:List It}(h:Srt L)(p:It->Bool):Srt (L.filter p):=List.Pairwise.filter p h
theorem Srt.del{L:List It}(h:Srt L)(k:Ky):Srt (aVJ L k):=h.filter _
theorem Srt.ins{L:List It}(h:Srt L)(i:It):Srt (aSp L i):=by
 unfold aSp Srt;rw[List.pairwise_append];refine⟨h.filter _,?_,?_⟩
 ·rw[List.pairwise_cons];exact⟨λx hx=>by simpa using(zL1.1 hx).2,h.filter _⟩
 ·intro x hx y hy;have h1:kl x.key i.key:=by simpa using(zL1.1 hx).2
  rcases gP.1 hy with rfl|hy
  ·exact h1
  ·exact aUs h1 (by simpa using(zL1.1 hy).2)
theorem Srt.nodup{L:List It}(h:Srt L):(L.map It.key).Nodup:=by
 unfold List.Nodup;rw[List.pairwise_map];exact h.imp λh=>aZF h
def aSi(L:List It)(room:Int)(i:It):List It:=if aU6 L i.key=none∧room≤L.length then L else aSp L i
def aVh(L:List It)(room:Int)(n:Nt):List It:=
 if n.right=false then L
 else if n.k=1 then(if (aU6 L n.p.key).isSome then L else aSi L room ⟨n.p,1⟩)
 else if n.k=2 then(match aU6 L n.p.key with
  | some x=>aSp L ⟨x.p,2⟩
  | none=>aSi L room ⟨n.p,2⟩)
 else aVJ L n.p.key
def aYh(L:List It)(room:Int)(a:Ac):List It:=if a.dr then aVJ L a.n.p.key else aVh L room a.n
theorem Srt.put{L:List It}(h:Srt L)(room:Int)(i:It):Srt (aSi L room i):=by
 unfold aSi;split
 ·exact h
 ·exact h.ins i
theorem Srt.app{L:List It}(h:Srt L)(room:Int)(n:Nt):Srt (aVh L room n):=by
 unfold aVh;split
 ·exact h
 ·split
  ·split
   ·exact h
   ·exact h.put room _
  ·split
   ·split
    ·exact h.ins _
    ·exact h.put room _
   ·exact h.del _
theorem Srt.act{L:List It}(h:Srt L)(room:Int)(a:Ac):Srt (aYh L room a):=by
 unfold aYh;split
 ·exact h.del _
 ·exact h.app room _
structure TAt(h:PH)(a:Nat)(L:List It)(room:Int)(F:List Nat):Prop where
 here:∃m l,h a=some (.cells #[.map (some m),.int .i64 room] aPf (0,0))∧MAt h m l∧l.Perm L∧F=[a,m]∧a≠m
 srt:Srt L
theorem TAt.upd{h h':PH}{a:Nat}{L:List It}{room:Int}{F G:List Nat}(H:TAt h a L room F)(u:cU G h h')(hd:∀b∈F,b∉G):TAt h' a L room F:=by
 obtain⟨m,l,ha,hm,hp,rfl,hn⟩:=H.here;exact⟨⟨m,l,u.get ha (hd a (by simp)),kB.upd hm u (hd m (by simp)),hp,rfl,hn⟩,H.srt⟩
theorem TAt.ext{h h':PH}{a:Nat}{L:List It}{room:Int}{F:List Nat}(H:TAt h a L room F)(u:cZ h h'):TAt h' a L room F:=H.upd u (by simp)
theorem TAt.known{h:PH}{a:Nat}{L:List It}{room:Int}{F:List Nat}(H:TAt h a L room F):∀b∈F,h b≠none:=by
 obtain⟨m,l,ha,hm,hp,rfl,hn⟩:=H.here;intro b hb;simp only[gP,kL,or_false] at hb;rcases hb with rfl|rfl
 ·rw[ha];simp
 ·exact kB.known hm
theorem Pk.eqIn{h:PH}{d:Nat}(m m':Pk):cD PG h (Op.equalIn (d+1+1) aR (.agg m.cells.toArray) (.agg m'.cells.toArray))=some (m.f==m'.f&&(m.s==m'.s&&(m.t==m'.t&&(m.d==m'.d&&true)))):=by
 refine(aDf aR.und (by kernel_rfl) (λf=>match f.offset with|0=>m.f==m'.f|1=>m.s==m'.s|2=>m.t==m'.t|_=>m.d==m'.d) ?_);intro f hf;simp only[gP,kL,or_false] at hf;rcases hf with rfl|rfl|rfl|rfl
 ·exact⟨by decide,_,_,iP bT.und rfl rfl,iP bT.und rfl rfl,uO bT.und⟩
 ·exact⟨by decide,_,_,iP cA.und rfl rfl,iP cA.und rfl rfl,uO cA.und⟩
 ·exact⟨by decide,_,_,iP cA.und rfl rfl,iP cA.und rfl rfl,uO cA.und⟩
 ·exact⟨by decide,_,_,iP bR.und rfl rfl,iP bR.und rfl rfl,aBq bR.und⟩
theorem It.eqIn{h:PH}(m m':It):cD PG h (Op.equalIn (9999+1) eW m.val m'.val)=some (decide (m=m')):=by
 have hm:cD PG h (Op.equalIn (9999+1) eW (.agg m.cells.toArray) (.agg m'.cells.toArray))=some ((m.p.f==m'.p.f&&(m.p.s==m'.p.s&&(m.p.t==m'.p.t&&(m.p.d==m'.p.d&&true))))&&(m.g==m'.g&&true)):=by
  refine(aDf eW.und (by kernel_rfl) (λf=>match f.offset with|0=>(m.p.f==m'.p.f&&(m.p.s==m'.p.s&&(m.p.t==m'.p.t&&(m.p.d==m'.p.d&&true))))|_=>m.g==m'.g) ?_);intro f hf;simp only[gP,kL,or_false] at hf;rcases hf with rfl|rfl
  ·exact⟨by decide,_,_,aKf aR.und rfl aR.info aR.size,aKf aR.und rfl aR.info aR.size,Pk.eqIn (d:=9997) m.p m'.p⟩
  ·exact⟨by decide,_,_,iP bT.und rfl rfl,iP bT.und rfl rfl,uO bT.und⟩
 show cD PG h (Op.equalIn (9999+1) eW (.agg m.cells.toArray) (.agg m'.cells.toArray))=_;rw[hm];congr 1;simp only[aCr];rw[zLm];obtain⟨⟨a,b,c,d⟩,g⟩:=m;obtain⟨⟨a',b',c',d'⟩,g'⟩:=m';simp[and_assoc]
theorem It.neq{h:PH}{x y:Operand}(m m':It):cD PG h (jS .neq eW x y m.val m'.val)=some (.bool (!decide (m=m'))):=aLS (by kernel_rfl) (It.eqIn m m')
theorem fR.it{h:PH}{x:Value}{xs:List It}(H:fR h 5 x (xs.map It.cells)){k:IntKind}{j:Nat}{m:It}(hm:xs[j]? =some m):
  ∃a,dA PG (indexAt iQ x (.int k j))=some (.pointer (some a))∧cD PG h (loadAt eW (.pointer (some a)))=some m.val:=
 H.loadAgg iQ.und eW.info eW.size eW.und rfl (by omega) (by rw[vD,pQ,hm];rfl)
theorem aZt(a0 a1:Option Addr)(n0 c0 n1 c1:Nat):dA PG (build jY #[(0,.slice a0 n0 c0),(1,.slice a1 n1 c1)])=some (.agg #[.slice a0 n0 c0,.slice a1 n1 c1]):=by kernel_rfl
theorem aZq(a0 a1:Option Addr)(n0 c0 n1 c1:Nat):dA PG (build dW #[(0,.slice a0 n0 c0),(1,.slice a1 n1 c1)])=some (.agg #[.slice a0 n0 c0,.slice a1 n1 c1]):=by kernel_rfl
theorem aUp{r j:Nat}(hj:j<2):dA PG (indexAt jB (pT r 0) (.int .i64 (j:Int)))=some (pT r (2*j)):=by
 have ix:=vB (P:=PG) (t:=jB) (b:=r) (o:=0) (k:=.i64) (j:=(j:Int)) jB.und jA.info jA.size (by omega) (by omega);rw[ix,pQ,fE,zLR]
theorem aZr{r j:Nat}(hj:j<2):dA PG (indexAt jY (pT r 0) (.int .i64 (j:Int)))=some (pT r j):=by
 have ix:=vB (P:=PG) (t:=jY) (b:=r) (o:=0) (k:=.i64) (j:=(j:Int)) jY.und dO.info dO.size (by omega) (by omega);rw[ix,pQ,fE,zL7]
theorem slv{h:PH}{e:TypeId}{n:Nat}{v:Value}{rows:List (List Value)}{G:List Nat}(O:dZ h e n v rows G):∃a m c,v= .slice a m c:=by
 obtain⟨a,c,e,-⟩:=O.slR.here;exact⟨a,_,c,e⟩
structure PlB(h:PH)(r:Nat)(x0 x1:List gB×Bool)(F:List Nat):Prop where
 here:∃v0 v1 G0 G1,F=r::(G0++G1)∧Bx h r [v0,.bool x0.2,v1,.bool x1.2]∧dZ h cI 8 v0 (x0.1.map gB.cells) G0∧dZ h cI 8 v1 (x1.1.map gB.cells) G1∧r∉G0∧r∉G1∧∀y∈G0,y∉G1
theorem PlB.known{h:PH}{r:Nat}{x0 x1:List gB×Bool}{F:List Nat}(H:PlB h r x0 x1 F):∀y∈F,h y≠none:=by
 obtain⟨v0,v1,G0,G1,rfl,B,O0,O1,-⟩:=H.here;intro y hy;simp only[gP,jG] at hy;rcases hy with rfl|hy|hy
 ·exact B.known
 ·exact O0.known y hy
 ·exact O1.known y hy
theorem PlB.ext{h h':PH}{r:Nat}{x0 x1:List gB×Bool}{F:List Nat}(H:PlB h r x0 x1 F)(u:cZ h h'):PlB h' r x0 x1 F:=by
 obtain⟨v0,v1,G0,G1,e,B,O0,O1,hd⟩:=H.here;exact⟨v0,v1,G0,G1,e,B.ext u,O0.ext u,O1.ext u,hd⟩
theorem PlB.put{h:PH}{r:Nat}{x0 x1:List gB×Bool}{F:List Nat}(H:PlB h r x0 x1 F){j:Nat}(hj:j<2){m:gB}{kv:Value}{known:List Int}(S:fR h 1 kv (known.map vS))(l0:x0.1.length≤10000)(l1:x1.1.length≤10000){batch:Int}{R:cE}
  (hk:∀h' F',PlB h' r (if j=1 then x0 else vK known batch x0 m) (if j=1 then vK known batch x1 m else x1) F'->iX h F h' F'->R (.tuple #[]) h'):
  aT PG aCF #[pT r (2*j),m.v,kv,.int .i64 batch] h R:=by
 obtain⟨v0,v1,G0,G1,rfl,B,O0,O1,n0,n1,hd⟩:=H.here;have:j=0∨j=1:=by omega
 rcases this with rfl|rfl
 ·refine aR2 (x:=x0) B rfl rfl O0 n0 S l0 λh' v' G' B' O' n' u g=>?_;have d':∀y∈G',y∉G1:=λy hy hm=>by
   rcases g y hy with h1|h1
   ·exact hd y h1 hm
   ·exact O1.known y hm h1
  refine hk h' (r::(G'++G1)) ⟨v',v1,G',G1,rfl,B',O',O1.upd u (λy hy hm=>?_),n',n1,d'⟩ ⟨u.mono λy hy=>.inl ?_,λy hy=>?_⟩
  ·rcases gP.1 hm with rfl|hm
   ·exact n1 hy
   ·exact hd y hm hy
  ·simp only[gP,jG] at hy ⊢;rcases hy with rfl|hy
   ·exact .inl rfl
   ·exact .inr (.inl hy)
  ·simp only[gP,jG] at hy ⊢;rcases hy with rfl|hy|hy
   ·exact .inl (.inl rfl)
   ·rcases g y hy with h1|h1
    ·exact .inl (.inr (.inl h1))
    ·exact .inr h1
   ·exact .inl (.inr (.inr hy))
 ·refine aR2 (x:=x1) B rfl rfl O1 n1 S l1 λh' v' G' B' O' n' u g=>?_;have d':∀y∈G0,y∉G':=λy hy hm=>by
   rcases g y hm with h1|h1
   ·exact hd y hy h1
   ·exact O0.known y hy h1
  refine hk h' (r::(G0++G')) ⟨v0,v',G0,G',rfl,B',O0.upd u (λy hy hm=>?_),O',n0,n',d'⟩ ⟨u.mono λy hy=>.inl ?_,λy hy=>?_⟩
  ·rcases gP.1 hm with rfl|hm
   ·exact n0 hy
   ·exact hd y hy hm
  ·simp only[gP,jG] at hy ⊢;rcases hy with rfl|hy
   ·exact .inl rfl
   ·exact .inr (.inr hy)
  ·simp only[gP,jG] at hy ⊢;rcases hy with rfl|hy|hy
   ·exact .inl (.inl rfl)
   ·exact .inl (.inr (.inl hy))
   ·rcases g y hy with h1|h1
    ·exact .inl (.inr (.inr h1))
    ·exact .inr h1
theorem aU2(known:List Int)(batch:Int)(x:List gB×Bool)(a b:List gB):aFb known batch x (a++b)=aFb known batch (aFb known batch x a) b:=List.foldl_append
theorem aGB(s:Ch×Ch)(known:List Int)(batch:Int)(ps:List Pk)(p:Pk)(k:Int):xE s known batch (ps++[p]) k=(match mO s.1 s.2 p with
  | some m=>if m.dest=k then vK known batch (xE s known batch ps k) m else xE s known batch ps k
  | none=>xE s known batch ps k):=by
 unfold xE aCM aJo;rw[List.filterMap_append,aHK,aU2];cases h:mO s.1 s.2 p with
 | none=>simp[h,aFb]
 | some m=>
  by_cases c:m.dest=k
  ·simp[h,c,aFb]
  ·simp[h,c,aFb]
theorem aRk{h:PH}{c0 c1:Nat}{s:Ch×Ch}{F:List Nat}(hK:mU h)(W:aFF c0 c1 s h F){x:Value}{l:List It}(S:fR h 5 x (l.map It.cells))(w:∀i∈l,i.p.wf)(hl:l.length≤60)(batch:Int){kk:cE}
  (hk:∀h' hs0 hs1 v0 v1 G0 G1,qY hs0 s.1.cl->qY hs1 s.2.cl->dZ h' cI 8 v0 ((xE s hs0 batch (l.map It.p) 0).1.map gB.cells) G0->dZ h' cI 8 v1 ((xE s hs1 batch (l.map It.p) 1).1.map gB.cells) G1->eD h G0->eD h G1->cZ h h'->kk (.agg #[v0,v1]) h'):
  aT PG aFl #[x,arV c0 c1,.int .i64 batch] h kk:=by
 apply aE2.call;unfold aE2;intro r1 hr1
 try rw[cW]
 have u1:cZ h (h.set r1 (.cells (Value.cells (arV c0 c1)) dB)):=cU.new hr1;have B1:Bx (h.set r1 (.cells (Value.cells (arV c0 c1)) dB)) r1 (arC c0 c1):=Bx.new;generalize h.set r1 (.cells (Value.cells (arV c0 c1)) dB)=h1 at *;intro r3 hr3
 try rw[cW]
 have n13:r1≠r3:=B1.apart hr3;have u3:cZ h1 (h1.set r3 (.cells (dP PG dW) dW)):=cU.new hr3;have B3:Bx (h1.set r3 (.cells (dP PG dW) dW)) r3 [.slice none 0 0,.slice none 0 0]:=dW.zbox;have B1:=B1.ext u3;generalize h1.set r3 (.cells (dP PG dW) dW)=h3 at *;intro r5 hr5
 try rw[cW]
 have n15:r1≠r5:=B1.apart hr5;have n35:r3≠r5:=B3.apart hr5;have u5:cZ h3 (h3.set r5 (.cells (dP PG jB) jB)):=cU.new hr5;have B5:Bx (h3.set r5 (.cells (dP PG jB) jB)) r5 [.slice none 0 0,.bool false,.slice none 0 0,.bool false]:=jB.zbox;have B1:=B1.ext u5;have B3:=B3.ext u5;generalize h3.set r5 (.cells (dP PG jB) jB)=h5 at *;have e5:=(u1.trans u3).trans u5;have k3:h r3=none:=u1.none hr3;have k5:h r5=none:=(u1.trans u3).none hr5;have j0:dA PG (indexAt dB (pT r1 0) (.int .i64 0))=some (pT r1 0):=aMD (i:=0) (by decide);have j1:dA PG (indexAt dB (pT r1 0) (.int .i64 1))=some (pT r1 1):=by have:=aMD (r:=r1) (o:=0) (i:=1) (by decide);rw[fE] at this;exact this
 have l0:cD PG h5 (loadAt dE (pT r1 0))=some (pT c0 0):=by rw[dE.load,B1.cell];rfl
 have l1:∀{h':PH},cZ h5 h'->cD PG h' (loadAt dE (pT r1 1))=some (pT c1 0):=λu=>by rw[dE.load,(B1.ext u).cell];rfl
 obtain⟨F0,F1,-,H0,H1,-⟩:=id W;simp only[j0,j1,l0,l1 cU.refl,cG,reduceIte,cT,Nat.reduceAdd];refine aO5 ((iF.good _ _).ext H0 e5) λh7 hs0 kv0 Fk0 R0 O0 u7 f7=>?_;refine⟨l1 u7,?_⟩;refine aO5 ((iF.good _ _).ext H1 (e5.trans u7)) λh9 hs1 kv1 Fk1 R1 O1 u9 f9=>?_;have S0:=(O0.ext u9).slR;have S1:=O1.slR;obtain⟨a0,n0,d0,rfl⟩:=slv O0;obtain⟨a1,n1,d1,rfl⟩:=slv O1;have e9:=(e5.trans u7).trans u9;simp only[aZt,cG,reduceIte,cT,Nat.reduceAdd];intro r16 hr16
 try rw[cW]
 refine jY.fill (vs:=[.slice a0 n0 d0,.slice a1 n1 d1]) hr16 rfl (λu hu=>by
  simp only[gP,kL,or_false] at hu;rcases hu with rfl|rfl<;>rfl) λh10 B16 u10=>?_
 have e10:=e9.trans u10;have e510:=(u7.trans u9).trans u10;have ll:dA PG (Builtin.len_ #[iQ] bT #[x])=some (.int .i64 (l.length:Int)):=by
  have:=S.len (t':=bT) iQ.und;rw[iS] at this;exact this
 have n165:r16≠r5:=λe=>(B5.ext (u7.trans u9)).known (e▸hr16);simp only[ll,cG,reduceIte,cT,Nat.reduceAdd];refine⟨λvs h'=>∃(i:Nat) (G:List Nat),i≤l.length∧vs=[.int .i64 batch,pT r1 0,pT r3 0,pT r5 0,pT r16 0,x,.int .i64 (l.length:Int),.int .i64 (i:Int)]∧Now h h' G∧PlB h' r5 (xE s hs0 batch ((l.take i).map It.p) 0) (xE s hs1 batch ((l.take i).map It.p) 1) G∧cU G h10 h'∧(r1∉G∧r3∉G∧r16∉G)∧(∀y∈G,y=r5∨h10 y=none),gU l.length 7,⟨0,[r5],by omega,rfl,⟨e10,eD.one k5⟩,⟨_,_,[],[],rfl,B5.ext e510,dZ.nil,dZ.nil,by simp,by simp,λy hy=>by cases hy⟩,cU.refl,⟨by simpa using n15,by simpa using n35,by simpa using n165⟩,λy hy=>.inl (by simpa using hy)⟩,?_⟩;rintro ρ h' ⟨i,G,hi,hvs,N,P,U,⟨g1,g3,g16⟩,gr⟩;simp only[iH,iT,kV,and_true] at hvs;obtain⟨v0,v1,v2,v3,v4,v5,v6,v7⟩:=hvs;unfold aJx aHC aKA;rw[v0,v1,v2,v3,v4,v5,v6,v7];have D1:Bx h' r1 (arC c0 c1):=(B1.ext e510).upd U g1;have D3:Bx h' r3 [.slice none 0 0,.slice none 0 0]:=(B3.ext e510).upd U g3;have D16:Bx h' r16 [.slice a0 n0 d0,.slice a1 n1 d1]:=B16.upd U g16;have hle:∀k known,(xE s known batch ((l.take i).map It.p) k).1.length≤10000:=λk known=>by
  have:=aOG s known batch ((l.take i).map It.p) k;rw[iS,uF] at this;omega
 by_cases hlt:i<l.length
 ·have g:((i:Int)<(l.length:Int))=True:=eq_true (by omega);have gi:=pR (i:=i) (by omega);obtain⟨y,hy⟩:∃y,l[i]? =some y:=⟨_,lQ hlt⟩;obtain⟨a,i1,i2⟩:=(S.ext N.ext).it (k:=.i64) hy;have etake:(l.take (i+1)).map It.p=(l.take i).map It.p++[y.p]:=by rw[zLT,hy,qI];rfl
  simp only[g,i1,i2,cG,reduceIte,cT,Nat.reduceAdd];intro r26 hr26
  try rw[cW]
  refine eW.fill (vs:=y.cells) hr26 rfl (λu hu=>It.allCell y u (by simpa using hu)) λh12 B26 u12=>?_;have ly:cD PG h12 (loadAt eW (pT r26 0))=some y.val:=eW.agg B26 (by show 0+5≤5;decide);have lc:cD PG h12 (loadAt dB (pT r1 0))=some (arV c0 c1):=dB.agg (D1.ext u12) (by show 0+2≤2;decide);have N12:=N.more u12;simp only[ly,lc,cG,reduceIte,cT,Nat.reduceAdd];refine aPY (N12.k hK) ((aFF.good _ _ _).ext W N12.ext) y.p (w y (rC hy)) y.g λh13 u13=>?_;have e13:=u12.trans u13;have N13:=N.more e13;have P13:=P.ext e13;simp only[cG,reduceIte,cT,Nat.reduceAdd];intro r36 hr36
  try rw[cW]
  refine cI.fill (vs:=(aP5 (mO s.1 s.2 y.p)).cells) hr36 rfl (gB.isC _) λh14 B36 u14=>?_;have e14:=e13.trans u14;have N14:=N.more e14;have P14:=P.ext e14;have D16':=D16.ext e14;have U14:cU G h10 h14:=U.trans e14.upd;cases hsub:mO s.1 s.2 y.p with
  | none=>
   simp only[zLu,gi,cG,reduceIte,cT,Nat.reduceAdd];refine⟨⟨i+1,G,by omega,rfl,N14,?_,U14,⟨g1,g3,g16⟩,gr⟩,by simp[gU,v7];omega⟩;rw[etake,aGB,aGB,hsub];exact P14
  | some m=>
   rw[hsub] at B36;have hd:=aMm hsub;obtain⟨j,hj⟩:∃j:Nat,m.dest=(j:Int)∧j<2:=by rcases hd with h|h;exact⟨0,h,by decide⟩;exact⟨1,h,by decide⟩
   obtain⟨hj,hj2⟩:=hj;have ld:cD PG h14 (loadAt bT (pT r36 1))=some (.int .i64 (j:Int)):=by rw[bT.load,B36.cell,←hj];rfl
   have lm:cD PG h14 (loadAt cI (pT r36 0))=some m.v:=B36.msg;have lk:∃kv known,cD PG h14 (loadAt dO (pT r16 j))=some kv∧fR h14 1 kv (known.map vS)∧known=(if j=1 then hs1 else hs0):=by
    have d0:∀y∈Fk0,y∉G:=λy hy hm=>by
     rcases gr y hm with rfl|h
     ·exact B5.known (f7 _ hy)
     ·exact(O0.ext (u9.trans u10)).known y hy h
    have d1:∀y∈Fk1,y∉G:=λy hy hm=>by
     rcases gr y hm with rfl|h
     ·exact(B5.ext u7).known (f9 _ hy)
     ·exact(O1.ext u10).known y hy h
    have:j=0∨j=1:=by omega
    rcases this with rfl|rfl
    ·exact⟨_,hs0,by rw[dO.load,D16'.cell];rfl,((O0.ext (u9.trans u10)).upd U14 d0).slR,rfl⟩
    ·exact⟨_,hs1,by rw[dO.load,D16'.cell];rfl,((O1.ext u10).upd U14 d1).slR,rfl⟩
   obtain⟨kv,known,lk1,lk2,lk3⟩:=lk;simp only[aLv,cI.f1,ld,lm,aUp hj2,aZr hj2,lk1,cG,reduceIte,cT,Nat.reduceAdd];refine PlB.put P14 hj2 lk2 (hle _ _) (hle _ _) λh15 G15 P15 s15=>?_;simp only[gi,cG,reduceIte,cT,Nat.reduceAdd];obtain⟨X1,m1⟩:=zK (D1.ext e14) g1 s15;obtain⟨X3,m3⟩:=zK (D3.ext e14) g3 s15;obtain⟨X16,m16⟩:=zK D16' g16 s15;refine⟨⟨i+1,G15,by omega,rfl,N14.step s15,?_,U14.then s15.upd (λy hy=>.inl hy) |>.mono ?_,⟨m1,m3,m16⟩,?_⟩,by simp[gU,v7];omega⟩
   ·rw[etake,aGB,aGB,hsub];rcases hd with h|h
    ·have j0:j=0:=by omega
     subst j0;rw[if_neg (by decide)] at lk3;rw[if_neg (by decide),if_neg (by decide),lk3] at P15;simp only[h];exact P15
    ·have j1:j=1:=by omega
     subst j1;rw[if_pos rfl] at lk3;rw[if_pos rfl,if_pos rfl,lk3] at P15;simp only[h];exact P15
   ·intro y hy;rcases gr y hy with rfl|h
    ·obtain⟨_,_,_,_,e,-⟩:=P15.here;exact .inl (by rw[e];simp)
    ·exact .inr h
   ·intro y hy;by_cases hm:y∈G
    ·exact gr y hm
    ·rcases s15.grow y hy with h|h
     ·exact absurd h hm
     ·cases e:h10 y with
      | none=>exact .inr rfl
      | some ob=>
       have:=U14 y ob e hm;rw[h] at this;cases this
 ·have g:((i:Int)<(l.length:Int))=False:=eq_false (by omega);obtain⟨x0,x1,G0,G1,rfl,B,O0',O1',n0',n1',hd'⟩:=P.here;rw[mW (by omega)] at O0' O1';obtain⟨b0,q0,w0,rfl⟩:=slv O0';obtain⟨b1,q1,w1,rfl⟩:=slv O1';have t0:=aUp (r:=r5) (j:=0) (by decide);have t1:=aUp (r:=r5) (j:=1) (by decide);have la:cD PG h' (loadAt dI (pT r5 0))=some (.slice b0 q0 w0):=by rw[dI.load,B.cell];rfl
  have lb:cD PG h' (loadAt dI (pT r5 2))=some (.slice b1 q1 w1):=by rw[dI.load,B.cell];rfl
  have t0:dA PG (indexAt jB (pT r5 0) (.int .i64 0))=some (pT r5 0):=t0;have t1:dA PG (indexAt jB (pT r5 0) (.int .i64 1))=some (pT r5 2):=t1;simp only[g,t0,t1,jA.f0,la,lb,aZq,cG,reduceIte,cT,Nat.reduceAdd];refine dW.put (vs:=[.slice b0 q0 w0,.slice b1 q1 w1]) D3 (o:=0) rfl (by show 0+2≤2;decide) (λu hu=>by
   simp only[gP,kL,or_false] at hu;rcases hu with rfl|rfl<;>rfl) λh12 X3 u12=>?_
  have l3:cD PG h12 (loadAt dW (pT r3 0))=some (.agg #[.slice b0 q0 w0,.slice b1 q1 w1]):=dW.agg X3 (by show 0+2≤2;decide);simp only[l3,cG,reduceIte,cT,Nat.reduceAdd];simp only[gP,jG,not_or] at g3;refine hk h12 hs0 hs1 _ _ G0 G1 R0 R1 (O0'.upd u12 (λy hy hm=>?_)) (O1'.upd u12 (λy hy hm=>?_)) (λy hy=>N.fr y (by simp[hy])) (λy hy=>N.fr y (by simp[hy])) (N.ext.fresh u12 (eD.one k3))
  ·simp only[fV] at hm;exact g3.2.1 (hm▸hy)
  ·simp only[fV] at hm;exact g3.2.2 (hm▸hy)
def ya:Ch:=Ch.new 0 5 1
def yb:Ch:=Ch.new 1 5 1
def yp:Pk:=jX ya [] 9
def yq:Pr:=⟨fS 99 1,mN yp⟩
def ya1:Ch:=ya.sent yp
def ya2:Ch:=ya1.committed
def y1:jL:=⟨0,0,9,[],default,false⟩
def y2:jL:=⟨5,0,0,[],default,false⟩
theorem aQm:yp.right=true:=by decide
theorem aYe:rD ya [] 9=0:=by
 have h1:decide (aJu ya.cl<((9:Nat):Int))=true:=by
  rw[show ya.cl=[] from rfl,aUv];decide
 have h2:(jX ya [] 9).right=true:=aQm;unfold rD rB;rw[if_neg (by decide),h1,h2];rfl
theorem aYH:aGu (ya,yb) y1=(ya1,yb):=by
 unfold aGu iZ;rw[if_neg (show ¬y1.clean.id=1 by decide)];have:kF ya yb y1.clean=(ya1,(yp,0,0)):=by
  unfold kF;rw[if_pos (show y1.clean.kind=0 from rfl),show y1.clean.d=[] from rfl,show y1.clean.h=9 from rfl,if_pos aYe];rfl
 show((kF ya yb y1.clean).1,yb)=_;rw[this]
theorem aYY:aGu (ya1,yb) y2=(ya2,yb):=by
 unfold aGu iZ;rw[if_neg (show ¬y2.clean.id=1 by decide)];rfl
theorem aZB:aIH (ya,yb) [y1,y2]=(ya2,yb):=by
 show aGu (aGu (ya,yb) y1) y2=_;rw[aYH,aYY]
theorem aZi:oK ya2.st 6=some [yq]:=rfl
theorem aZM:MOk [yq]:=⟨List.pairwise_singleton _ _,by decide,λp hp=>by
 simp only[fV] at hp;subst hp;show(fS 99 1).length≤16;rw[wJ];decide,λp hp=>by
 simp only[fV] at hp;subst hp;exact aLU yp⟩
theorem aSU:gG [yq] (fS 99 1)=some yq:=by
 rw[zX (List.pairwise_singleton _ _)];exact⟨by simp,rfl⟩
def ym:gB:=mkM 2 1 6 yp (tx (aAy (jN [yq] (fS 99 1))))
theorem aWH:mO ya2 yb yp=some ym:=by
 have hs:oV ya2 yp=true:=by
  unfold oV;rw[show fS 99 yp.s.toNat=fS 99 1 from rfl,show ya2.st.now=[yq] from rfl,aSU];exact decide_eq_true rfl
 have hp:uE ya2.st (fS 99 1) 6=(aAy (jN [yq] (fS 99 1)),0):=by
  unfold uE;rw[aZi];simp only;rw[if_pos (by rw[aSU];rfl),(aPy aZM _).1]
 have hh:(aAy (jN [yq] (fS 99 1))).head? =some 1:=by
  have e:jN [yq] (fS 99 1)=⟨false,[kG [yq] (gV [yq] (fS 99 1))]⟩:=by
   unfold jN;rw[if_pos (by rw[aSU];rfl)]
  rw[e];rfl
 unfold mO;rw[if_pos ⟨aQm,hs⟩];rw[show wP ya2 yb (1-yp.f)=yb from rfl,show wP ya2 yb yp.f=ya2 from rfl];rw[if_neg (show ¬(gG yb.st.now (fS 114 yp.s.toNat)).isSome=true from(by decide:¬(false=true)))];rw[if_neg (show ¬(IntKind.u64.wrap (yp.t-1)≤(yb.st.height:Int)∨yb.st.height=18446744073709551615) by decide)];unfold aEz;rw[show ya2.st.height=6 from rfl,show fS 99 yp.s.toNat=fS 99 1 from rfl,hp,if_pos ⟨rfl,hh⟩];rfl
theorem aXE(known:List Int):xE (ya2,yb) known 9 [yp] 0=([],false):=by
 have:mO (ya2,yb).1 (ya2,yb).2 yp=some ym:=aWH;show xE (ya2,yb) known 9 ([]++[yp]) 0=_;rw[aGB,this];rfl
theorem aXA{known:List Int}(hk:known=[]):xE (ya2,yb) known 9 [yp] 1=([tQ 1 6,ym],false):=by
 have:mO (ya2,yb).1 (ya2,yb).2 yp=some ym:=aWH;show xE (ya2,yb) known 9 ([]++[yp]) 1=_;rw[aGB,this,hk];rfl
end
end Go.Proofs.YtppgkeodaejgcaaGreatDoor
