/- relay: the card of RelaySettles: what is submitted is an acknowledgement just when the other side has received, and a plan with room holds what goes. -/
import Derived.Test.YtppgkeodaejgcaaGreatDoorRlXVC8
import Derived.Test.YtppgkeodaejgcaaGreatDoorCards
import Derived.Test.YtppgkeodaejgcaaGreatDoorTie
import Derived.WalkKit
import Derived.ProofKit
set_option linter.all false
set_option maxRecDepth 100000
open Go.Instr (loadAt fieldAt indexAt extract buildSlice build)
namespace Go.Proofs.YtppgkeodaejgcaaGreatDoor
section
open Go
theorem aXX{h0 h:PH}{F:List Nat}{c0 c1 m d0 d1 bk mm:Nat}{K:List Nat}{s:Ch×Ch}{A:List Tx}{n i:Nat}(hK:mU h0)(N:Now h0 h F)(W:aHI c0 c1 m d0 d1 bk mm K s A n h F)(M:aIF s i)(hn:n≤i+1){r9:Nat}(B9:Bx h r9 (arC c0 c1))(n9:r9∉F){v t6:Value}{l:List jL}(S:fR h0 9 v (l.map jL.cells))(hl:l.length≤50){x:jL}(hx:l[i]? =some x)(wx:x.wf)(hd:x.d.length≤2000){R:cE}{n37:gI}
  (hk:∀h' F' A',aHI c0 c1 m d0 d1 bk mm K (aGu s x) A' (n+1) h' F'->iX h F h' F'->n37 [v,t6,pT r9 0,pT m 0,.int .i64 ((i+1:Nat):Int)] h'):
  zC R n37 v t6 (pT r9 0) (pT m 0) (.int .i64 (i:Int)) h:=by
 unfold zC;have hlt:i<l.length:=(zLz.1 hx).1;have g:((i:Int)<(l.length:Int))=True:=eq_true (by omega);have gi:=pR (i:=i) (by omega);obtain⟨bb,o,a1,a2⟩:=S.tac4 hx;obtain⟨-,la,-⟩:=a2 h N.ext;have gD:lX (DTw m d0 d1 bk mm A K s.1 s.2 n):=DTw.good _ _ _ _ _ _ _ _ _ _;have key:=aUH c0 c1 s x.clean;rw[show x.clean.id=x.id from rfl] at key;obtain⟨Wc,gW,e2,hW,get⟩:=key;have hsd:=aRj x.id;have w1:IntKind.i64.wrap (1-((lG x.id:Nat):Int))=((1-lG x.id:Nat):Int):=by rw[eV (by omega) (by omega)];omega
 have wc:=jL.clean_wf wx;simp only[aOV S,g,a1,la,cG,reduceIte,cT,Nat.reduceAdd];intro r43 hr43
 try rw[cW]
 refine cH.fill (vs:=x.cells) hr43 rfl (jL.isC x) λh1 B1 u1=>?_;have v8:dA PG (fieldAt cH (pT r43 0) 5)=some (pT r43 8):=by rw[cH.f5]
 refine aR3 v8 ?_;refine fU.put B1 (o:=8) (by show 8<9;decide) rfl λh2 B2 u2=>?_;have B2:Bx h2 r43 x.clean.cells:=B2;have e2':cZ h h2:=u1.fresh u2 (eD.one hr43);have C9:∀{h'':PH},cZ h h''->Bx h'' r9 (arC c0 c1):=λu=>B9.ext u;have W2:=(aHI.good _ _ _ _ _ _ _ _ _ _ _).ext W e2';have n43:r43∉F:=λhm=>(aHI.good _ _ _ _ _ _ _ _ _ _ _).known W _ hm hr43;have li:∀{h'':PH},cZ h2 h''->cD PG h'' (loadAt bT (pT r43 1))=some (.int .i64 x.id):=λu=>by rw[bT.load,(B2.ext u).cell];rfl
 have lh:∀{h'':PH},cZ h2 h''->cD PG h'' (loadAt cA (pT r43 2))=some (.int .u64 (x.h:Int)):=λu=>by rw[cA.load,(B2.ext u).cell];rfl
 have lx:cD PG h2 (loadAt cH (pT r43 0))=some x.clean.v:=cH.agg B2 (by show 0+9≤9;decide);have lc:∀{h'':PH},cZ h2 h''->cD PG h'' (loadAt dE (pT r9 (lG x.id)))=some (.pointer (some ⟨aFD c0 c1 (lG x.id),0,none⟩)):=λu=>by rw[dE.load,(C9 (e2'.trans u)).cell,aNv c0 c1 hsd]
 have lo:∀{h'':PH},cZ h2 h''->cD PG h'' (loadAt dE (pT r9 (1-lG x.id)))=some (.pointer (some ⟨aFD c0 c1 (1-lG x.id),0,none⟩)):=λu=>by rw[dE.load,(C9 (e2'.trans u)).cell,aNv c0 c1 (by omega)]
 have ix1:=aMD (r:=r9) (o:=0) (i:=lG x.id) hsd;have ix2:=aMD (r:=r9) (o:=0) (i:=1-lG x.id) (by omega);rw[fE] at ix1 ix2;simp only[cH.f1,fE,li cU.refl,cG,reduceIte,cT,Nat.reduceAdd];refine aMJ x.id ?_;refine⟨li cU.refl,?_⟩;simp only[ix1,lc cU.refl,cG,reduceIte,cT,Nat.reduceAdd];refine aMJ x.id ?_;refine⟨lc cU.refl,?_⟩;simp only[w1,ix2,lo cU.refl,lx,cH.f2,fE,lh cU.refl,cG,reduceIte,cT,Nat.reduceAdd];refine aPN (a:=x.clean) wc λh3 u3=>?_;refine⟨lh u3,?_⟩;obtain⟨Fa2,HT2,-,-⟩:=eO.left gD W2;obtain⟨-,Fo2,HO2⟩:=get HT2;refine aJK (N.k hK |>.ext (e2'.trans u3)) ((iF.good _ _).ext HO2 u3) (aI7 x.clean) wx.h λh4 u4=>?_;have e4:cZ h2 h4:=u3.trans u4;have e04:=e2'.trans e4;have W4:=(aHI.good _ _ _ _ _ _ _ _ _ _ _).ext W2 e4;have K4:=(N.k hK).ext e04;have N4:=N.more e04;have h0F:=N4.z hK;have B4:=B2.ext e4;obtain⟨Fa,HT,hFa,back0⟩:=eO.left gD W4;obtain⟨⟨Fc,HA,hFc,back⟩,Fo,HO⟩:=get HT;have h0a:0∉Fc:=λhm=>h0F (hFa _ (hFc _ hm));obtain⟨⟨w0,o0⟩,w1',o1⟩:=aU9 HT M.k0 M.k1;have hl1:(xM s (lG x.id)).nts.length<1000000:=by
  have:=M.n0;have:=M.n1;unfold xM;split<;>omega
 -- behind the call
 have fin:∀{h5:PH} {F5:List Nat} {s':Ch},Wc (iF (aFD c0 c1 (lG x.id)) s') h5 F5->iX h4 Fa h5 F5->(kF (xM s (lG x.id)) (xM s (1-lG x.id)) x.clean).1=s'->kY R n37 v t6 (pT r9 0) (pT m 0) (.int .i64 (i:Int)) (pT r43 0) h5:=fun {h5 F5 s'} H5 s5 ed=>by
  rw[←ed] at H5;have T5:=hW H5;obtain⟨F6,W6,s6⟩:=back0 (aFF c0 c1 (aGu s x)) h5 F5 T5 s5;obtain⟨B5,n5⟩:=zK B4 n43 s6;unfold kY aGA;have B6:=B5;have W7:=W6;generalize hh:h5=h6 at *;have l5:cD PG h6 (loadAt cH (pT r43 0))=some x.clean.v:=cH.agg B6 (by show 0+9≤9;decide);simp only[l5,cG,reduceIte,cT,Nat.reduceAdd];obtain⟨Fd,HD,hFd,backD⟩:=eO.right (aFF.good _ _ _) W7;refine aYE HD w0 w1' (by omega) wc (by show x.d.length≤1000000;omega) λh7 F7 D7 s7=>?_;obtain⟨F8,W8,s8⟩:=backD (DTw m d0 d1 bk mm (twA s.1 s.2 x.clean++A) K (aGu s x).1 (aGu s x).2 (n+1)) h7 F7 D7 s7;simp only[gi,cG,reduceIte,cT,Nat.reduceAdd];exact hk h7 F8 _ W8 (((iX.ext e04).trans s6).trans s8)
 have lk:cD PG h4 (loadAt bT (pT r43 0))=some (.int .i64 x.kind):=by rw[bT.load,B4.cell];rfl
 have ld:cD PG h4 (loadAt bR (pT r43 3))=some (.string (tx x.d)):=by rw[bR.load,B4.cell];rfl
 have lp:cD PG h4 (loadAt aR (pT r43 4))=some x.p.v:=B4.pk rfl;have lh4:=lh e4;generalize hs:xM s (lG x.id)=cs at *;generalize hso:xM s (1-lG x.id)=so at *;generalize aFD c0 c1 (lG x.id)=cc at *;generalize aFD c0 c1 (1-lG x.id)=co at *;have hd:(kF cs so x.clean).1=if x.kind=0 then(if rD cs x.d x.h=0 then cs.sent (jX cs x.d x.h) else cs)
   else if x.kind=1 then(match oK so.st x.h with
    | none=>cs
    | some b=>cs.told (x.h:Int) (lB b))
   else if x.kind=2 then(if rB cs (tO cs x.p (lS so x.clean) (x.h:Int))=0 then cs.received x.p else cs)
   else if x.kind=3 then(if jI cs x.p (xS cs x.p (lS so x.clean) (x.h:Int))=0 then cs.settled 3 x.p else cs)
   else if x.kind=4 then(if jI cs x.p (qQ cs x.p (lS so x.clean) (x.h:Int))=0 then cs.settled 4 x.p else cs)
   else if x.kind=5 then cs.committed
   else cs:=aXL cs so x.clean
 have hpf:2≤x.kind->x.kind≤4->lS so x.clean=(uE so.st (aI7 x.clean) x.h).1:=λh2 h4=>by unfold lS;rw[if_pos ⟨rfl,h2,h4⟩];rfl
 by_cases k0:x.kind=0
 ·have q:(x.kind==0)=true:=by simp[k0]
  rw[if_pos k0] at hd;simp only[cH.f0,cH.f2,cH.f3,fE,lk,ld,lh4,hQ,q,cG,reduceIte,cT,Nat.reduceAdd];refine aVY K4 HA x.d wx.h hl1 (λhe h1 F1 H1 s1 _=>?_) (λhe h1 F1 H1 s1=>?_)
  ·rw[if_neg he] at hd;obtain⟨F2,W2,s2⟩:=back _ h1 F1 H1 s1;exact fin W2 s2 hd
  ·rw[if_pos he] at hd;obtain⟨F2,W2,s2⟩:=back _ h1 F1 H1 s1;exact fin W2 s2 hd
 have q0:(x.kind==0)=false:=by simp[k0]
 rw[if_neg k0] at hd;by_cases k1:x.kind=1
 ·have q:(x.kind==1)=true:=by simp[k1]
  rw[if_pos k1] at hd;obtain⟨sp,m',cp,nv,bv,lk',P,perm,ok⟩:=HO;obtain⟨Fs,St,-,-⟩:=P.fSt;simp only[cH.f0,cH.f2,dX.f0,eZ.f0,fE,lk,lh4,Ch.load0 P.cell,hQ,q0,q,cG,reduceIte,cT,Nat.reduceAdd];refine aTs St x.h wx.h (λe h1 u1=>?_) (λb h1 e u1=>?_)
  ·rw[e] at hd;obtain⟨F2,W2,s2⟩:=back _ h1 Fc ((iF.good _ _).ext HA u1) (iX.ext u1);have qe:((3:Int)==0)=false:=by decide
   simp only[hQ,qe,cG,reduceIte,cT,Nat.reduceAdd];exact fin W2 s2 hd
  ·rw[e] at hd;have lh1:=lh (e4.trans u1);have qe:((0:Int)==0)=true:=by decide
   simp only[hQ,qe,cH.f2,fE,lh1,cG,reduceIte,cT,Nat.reduceAdd];refine aSN ((iF.good _ _).ext HA u1) (x.h:Int) (lB b) λh2 F2 H2 s2=>?_;obtain⟨F3,W3,s3⟩:=back _ h2 F2 H2 ((iX.ext u1).trans s2);exact fin W3 s3 hd
 have q1:(x.kind==1)=false:=by simp[k1]
 rw[if_neg k1] at hd;by_cases k2:x.kind=2
 ·have q:(x.kind==2)=true:=by simp[k2]
  rw[if_pos k2,hpf (by omega) (by omega)] at hd;simp only[cH.f0,cH.f2,cH.f4,fE,lk,lh4,lp,hQ,q0,q1,q,cG,reduceIte,cT,Nat.reduceAdd];refine aUy K4 HA h0a wx.p hl1 (λhe h1 H1 u1=>?_) (λhe h1 F1 H1 s1=>?_)
  ·rw[if_neg he] at hd;obtain⟨F2,W2,s2⟩:=back _ h1 Fc H1 (iX.ext u1);exact fin W2 s2 hd
  ·rw[if_pos he] at hd;obtain⟨F2,W2,s2⟩:=back _ h1 F1 H1 s1;exact fin W2 s2 hd
 have q2:(x.kind==2)=false:=by simp[k2]
 rw[if_neg k2] at hd;by_cases k3:x.kind=3
 ·have q:(x.kind==3)=true:=by simp[k3]
  rw[if_pos k3,hpf (by omega) (by omega)] at hd;simp only[cH.f0,cH.f2,cH.f4,fE,lk,lh4,lp,hQ,q0,q1,q2,q,cG,reduceIte,cT,Nat.reduceAdd];refine aWh K4 HA wx.p hl1 (λhe h1 H1 u1=>?_) (λhe h1 F1 H1 s1=>?_)
  ·rw[if_neg he] at hd;obtain⟨F2,W2,s2⟩:=back _ h1 Fc H1 (iX.ext u1);exact fin W2 s2 hd
  ·rw[if_pos he] at hd;obtain⟨F2,W2,s2⟩:=back _ h1 F1 H1 s1;exact fin W2 s2 hd
 have q3:(x.kind==3)=false:=by simp[k3]
 rw[if_neg k3] at hd;by_cases k4:x.kind=4
 ·have q:(x.kind==4)=true:=by simp[k4]
  rw[if_pos k4,hpf (by omega) (by omega)] at hd;simp only[cH.f0,cH.f2,cH.f4,fE,lk,lh4,lp,hQ,q0,q1,q2,q3,q,cG,reduceIte,cT,Nat.reduceAdd];refine aRP K4 HA wx.p hl1 (λhe h1 H1 u1=>?_) (λhe h1 F1 H1 s1=>?_)
  ·rw[if_neg he] at hd;obtain⟨F2,W2,s2⟩:=back _ h1 Fc H1 (iX.ext u1);exact fin W2 s2 hd
  ·rw[if_pos he] at hd;obtain⟨F2,W2,s2⟩:=back _ h1 F1 H1 s1;exact fin W2 s2 hd
 have q4:(x.kind==4)=false:=by simp[k4]
 rw[if_neg k4] at hd;by_cases k5:x.kind=5
 ·have q:(x.kind==5)=true:=by simp[k5]
  rw[if_pos k5] at hd;simp only[cH.f0,fE,lk,hQ,q0,q1,q2,q3,q4,q,cG,reduceIte,cT,Nat.reduceAdd];refine aSV K4 HA λh1 F1 H1 s1=>?_;obtain⟨F2,W2,s2⟩:=back _ h1 F1 H1 s1;exact fin W2 s2 hd
 ·have q:(x.kind==5)=false:=by simp[k5]
  rw[if_neg k5] at hd;obtain⟨F2,W2,s2⟩:=back _ h4 Fc HA iX.refl;simp only[cH.f0,fE,lk,hQ,q0,q1,q2,q3,q4,q,cG,reduceIte,cT,Nat.reduceAdd];exact fin W2 s2 hd
theorem aPR{h:PH}(hK:mU h){a b s0 s1:Nat}(ha:a<18446744073709551616)(hb:b<18446744073709551616)(hs0:s0<18446744073709551616)(hs1:s1<18446744073709551616)(z0:s0≠0)(z1:s1≠0){v:Value}{l:List jL}(S:fR h 9 v (l.map jL.cells))(w:∀x∈l,x.wf)(hl:l.length≤50)(hd:∀x∈l,x.d.length≤2000){k:cE}
  (hk:∀h' c0 c1 m d0 d1 bk mm K A n F,aHI c0 c1 m d0 d1 bk mm K (aIH (Ch.new 0 a s0,Ch.new 1 b s1) l) A n h' F->eD h F->cZ h h'->aIF (aIH (Ch.new 0 a s0,Ch.new 1 b s1) l) l.length->k (.tuple #[arV c0 c1,pT m 0,.bool true]) h'):
  aT PG zO #[vC a b,vC s0 s1,v] h k:=by
 apply uT.call;unfold uT;intro r1 hr1
 try rw[cW]
 have u1:cZ h (h.set r1 (.cells (Value.cells (vC a b)) eK)):=cU.new hr1;have B1:Bx (h.set r1 (.cells (Value.cells (vC a b)) eK)) r1 (u2c a b):=Bx.new;generalize h.set r1 (.cells (Value.cells (vC a b)) eK)=h1 at *;intro r3 hr3
 try rw[cW]
 have u3:cZ h1 (h1.set r3 (.cells (Value.cells (vC s0 s1)) eK)):=cU.new hr3;have B3:Bx (h1.set r3 (.cells (Value.cells (vC s0 s1)) eK)) r3 (u2c s0 s1):=Bx.new;generalize h1.set r3 (.cells (Value.cells (vC s0 s1)) eK)=h3 at *;intro r5 hr5
 try rw[cW]
 have u5:cZ h3 (h3.set r5 (.cells (dP PG dB) dB)):=cU.new hr5;have B5:Bx (h3.set r5 (.cells (dP PG dB) dB)) r5 [.pointer none,.pointer none]:=dB.zbox;generalize h3.set r5 (.cells (dP PG dB) dB)=h5 at *;intro r7 hr7
 try rw[cW]
 have n57:r5≠r7:=B5.apart hr7;have u7:cZ h5 (h5.set r7 (.cells (dP PG dB) dB)):=cU.new hr7;have B7:Bx (h5.set r7 (.cells (dP PG dB) dB)) r7 [.pointer none,.pointer none]:=dB.zbox;have B5:=B5.ext u7;generalize h5.set r7 (.cells (dP PG dB) dB)=h7 at *;have e17:=((u3.trans u5).trans u7);have e7:cZ h h7:=u1.trans e17;have k5:h r5=none:=(u1.trans u3).none hr5;have k7:h r7=none:=((u1.trans u3).trans u5).none hr7;have C1:=B1.ext e17;have C3:=B3.ext (u5.trans u7);have la:∀{h'':PH},cZ h7 h''->cD PG h'' (loadAt eK (pT r1 0))=some (vC a b):=λv=>eK.agg (C1.ext v) (by show 0+2≤2;decide);have ls:∀{h'':PH},cZ h7 h''->cD PG h'' (loadAt eK (pT r3 0))=some (vC s0 s1):=λv=>eK.agg (C3.ext v) (by show 0+2≤2;decide);simp only[la cU.refl,ls cU.refl,cG,reduceIte,cT,Nat.reduceAdd];refine aXK λh8 bk mk Kk HBk fBk u8=>?_;refine⟨ls u8,la u8,?_⟩;have HBk:Bk bk mk [] Kk h8:=⟨false,[],HBk,λx hx=>hx⟩;refine aVo HBk ha hb λh9 m d0 d1 FD HD fD u9=>?_;have e79:=u8.trans u9;have e9:=e7.trans e79;have fD9:eD h FD:=λy hy=>by
  rcases fD y hy with hy|hy
  ·exact e7.none (fBk y hy)
  ·exact(e7.trans u8).none hy
 -- what stands behind i chains
 refine⟨λvs h'=>∃i:Nat,vs=[v,pT r1 0,pT r3 0,pT r5 0,pT r7 0,pT m 0,.int .i64 (i:Int)]∧cU [r7] h9 h'∧((i=0∧Bx h' r7 [.pointer none,.pointer none])∨(i=1∧∃c0 F0,Bx h' r7 [pT c0 0,.pointer none]∧iF c0 (Ch.new 0 a s0) h' F0∧eD h9 F0)∨(i=2∧∃c0 c1 F,Bx h' r7 (arC c0 c1)∧aFF c0 c1 (Ch.new 0 a s0,Ch.new 1 b s1) h' F∧eD h9 F)),gU 2 6,⟨0,rfl,cU.refl,.inl ⟨rfl,B7.ext e79⟩⟩,?_⟩;rintro ρ h' ⟨i,hvs,u',hc⟩;simp only[iH,iT,kV,and_true] at hvs;obtain⟨v0,v1,v2,v3,v4,v5,v6⟩:=hvs;unfold aF7;rw[v0,v1,v2,v3,v4,v5,v6];have E':cZ h h':=e9.fresh u' (eD.one k7);have k79:h9 r7≠none:=(B7.ext e79).known;have n71:r7≠r1:=λe=>B1.known (e▸(u3.trans u5).none hr7);have n73:r7≠r3:=λe=>B3.known (e▸u5.none hr7);have D1:=(C1.ext e79).upd u' (by simp only[fV];exact n71.symm);have D3:=(C3.ext e79).upd u' (by simp only[fV];exact n73.symm);have D5:=(B5.ext e79).upd u' (by simp only[fV];exact n57);have i0:∀{r:Nat},dA PG (indexAt eK (pT r 0) (.int .i64 0))=some (pT r 0):=aOA (i:=0) (by decide);have i1:∀{r:Nat},dA PG (indexAt eK (pT r 0) (.int .i64 1))=some (pT r 1):=fun {r}=>by have:=aOA (r:=r) (o:=0) (i:=1) (by decide);rw[fE] at this;exact this
 have j0:∀{r:Nat},dA PG (indexAt dB (pT r 0) (.int .i64 0))=some (pT r 0):=aMD (i:=0) (by decide);have j1:∀{r:Nat},dA PG (indexAt dB (pT r 0) (.int .i64 1))=some (pT r 1):=fun {r}=>by have:=aMD (r:=r) (o:=0) (i:=1) (by decide);rw[fE] at this;exact this
 have l10:cD PG h' (loadAt cA (pT r1 0))=some (.int .u64 (a:Int)):=by rw[cA.load,D1.cell];rfl
 have l11:cD PG h' (loadAt cA (pT r1 1))=some (.int .u64 (b:Int)):=by rw[cA.load,D1.cell];rfl
 have l30:cD PG h' (loadAt cA (pT r3 0))=some (.int .u64 (s0:Int)):=by rw[cA.load,D3.cell];rfl
 have l31:cD PG h' (loadAt cA (pT r3 1))=some (.int .u64 (s1:Int)):=by rw[cA.load,D3.cell];rfl
 have nilN:∀{h'':PH} {x y:Operand} {c:Nat},cD PG h'' (jS .eql dE x y (pT c 0) (.pointer none))=some (.bool false):=aHu dE.und;have K':mU h':=hK.ext E';have nF:∀{F:List Nat},eD h9 F->r7∉F:=λf hm=>k79 (f _ hm);have back:∀{F:List Nat},eD h' F->eD h9 F:=λf y hy=>by
  cases e:h9 y with
  | none=>rfl
  | some ob=>
   by_cases hy7:y=r7
   ·exact absurd (f y hy) (by rw[hy7];rcases hc with⟨-,B⟩|⟨-,_,_,B,-⟩|⟨-,_,_,_,B,-⟩<;>exact B.known)
   ·have:=u' y ob e (by simpa using hy7);rw[f y hy] at this;cases this
 rcases hc with⟨rfl,B⟩|⟨rfl,c0,F0,B,A0,f0⟩|⟨rfl,c0,c1,F,B,T,f⟩
 ·have g:(((0:Nat):Int)<2)=True:=eq_true (by decide);simp only[g,show((0:Nat):Int)=0 from rfl,i0,l10,l30,cG,reduceIte,cT,Nat.reduceAdd];refine aOn K' 0 ha hs0 (λhb=>absurd hb (by omega)) λ_ h10 c F A f u10=>?_;have f:=back f;simp only[j0,cG,reduceIte,cT,Nat.reduceAdd];refine dE.put (B.ext u10) (o:=0) (by show 0<2;decide) rfl λh11 B11 u11=>?_;have ei:IntKind.i64.wrap ((0:Int)+1)=((1:Nat):Int):=rfl;have lq:cD PG h11 (loadAt dE (pT r7 0))=some (pT c 0):=by rw[dE.load,B11.cell];rfl
  simp only[j0,lq,nilN,cG,reduceIte,cT,Nat.reduceAdd];simp only[ei,cG,reduceIte,cT,Nat.reduceAdd];exact⟨⟨1,rfl,(u'.trans u10.upd).trans u11,.inr (.inl ⟨rfl,c,F,B11,(iF.good _ _).upd A u11 (λb hb=>by simp only[fV];rintro rfl;exact nF f hb),f⟩)⟩,by simp[gU,v6]⟩
 ·have g:(((1:Nat):Int)<2)=True:=eq_true (by decide);simp only[g,show((1:Nat):Int)=1 from rfl,i1,l11,l31,cG,reduceIte,cT,Nat.reduceAdd];refine aOn K' 1 hb hs1 (λhb=>absurd hb (by omega)) λ_ h10 c F A f u10=>?_;have d0:∀b∈F0,b∉F:=λb hb hm=>(iF.good _ _).known A0 b hb (f b hm);have f:=back f;simp only[j1,cG,reduceIte,cT,Nat.reduceAdd];refine dE.put (B.ext u10) (o:=1) (by show 1<2;decide) rfl λh11 B11 u11=>?_;have ei:IntKind.i64.wrap ((1:Int)+1)=((2:Nat):Int):=rfl;have lq:cD PG h11 (loadAt dE (pT r7 1))=some (pT c 0):=by rw[dE.load,B11.cell];rfl
  simp only[j1,lq,nilN,cG,reduceIte,cT,Nat.reduceAdd];simp only[ei,cG,reduceIte,cT,Nat.reduceAdd];have A08:=(iF.good _ _).upd ((iF.good _ _).ext A0 u10) u11 (λb hb=>by simp only[fV];rintro rfl;exact nF f0 hb);have A8:=(iF.good _ _).upd A u11 (λb hb=>by simp only[fV];rintro rfl;exact nF f hb);exact⟨⟨2,rfl,(u'.trans u10.upd).trans u11,.inr (.inr ⟨rfl,c0,c,F0++F,B11,eO.mk A08 A8 d0,λy hy=>by
   rcases jG.1 hy with hy|hy
   ·exact f0 y hy
   ·exact f y hy⟩)⟩,by simp[gU,v6]⟩
 ·have g:(((2:Nat):Int)<2)=False:=eq_false (by decide);simp only[g,cG,reduceIte,cT,Nat.reduceAdd];have gD:lX (DTw m d0 d1 bk mk [] Kk (Ch.new 0 a s0) (Ch.new 1 b s1) 1):=DTw.good _ _ _ _ _ _ _ _ _ _;have f7:∀y∈FD,y≠r7:=λy hy e=>by
   rcases fD y hy with hy|hy
   ·exact B7.known (e▸fBk y hy)
   ·exact(B7.ext u8).known (e▸hy)
  have HD':=gD.upd HD u' (λy hy hm=>by simp only[fV] at hm;exact f7 y hy hm);have W0:aHI c0 c1 m d0 d1 bk mk Kk (Ch.new 0 a s0,Ch.new 1 b s1) [] 1 h' (F++FD):=eO.mk T HD' (λy hy hm=>gD.known HD y hm (f y hy));have N0:Now h h' (F++FD):=⟨E',λy hy=>by
   rcases jG.1 hy with hy|hy
   ·exact e9.none (f y hy)
   ·exact fD9 y hy⟩
  have n7:r7∉F++FD:=λhm=>by
   rcases jG.1 hm with hm|hm
   ·exact nF f hm
   ·exact f7 _ hm rfl
  have n5:r5∉F++FD:=λhm=>by
   rcases jG.1 hm with hm|hm
   ·exact(B5.ext e79).known (f _ hm)
   ·rcases fD _ hm with hy|hy
    ·exact B5.known (fBk _ hy)
    ·exact(B5.ext u8).known hy
  refine⟨λvs h2=>∃(j:Nat) (A:List Tx) (n:Nat) (F':List Nat),j≤l.length∧vs=[v,pT r5 0,pT r7 0,pT m 0,.int .i64 (j:Int)]∧n≤j+1∧Now h h2 F'∧aHI c0 c1 m d0 d1 bk mk Kk (aIH (Ch.new 0 a s0,Ch.new 1 b s1) (l.take j)) A n h2 F'∧aIF (aIH (Ch.new 0 a s0,Ch.new 1 b s1) (l.take j)) j∧Bx h2 r7 (arC c0 c1)∧r7∉F'∧Bx h2 r5 [.pointer none,.pointer none]∧r5∉F',gU l.length 4,⟨0,[],1,F++FD,by omega,rfl,by omega,N0,W0,aIF.new hs0 hs1,B,n7,D5,n5⟩,?_⟩;rintro ρ2 h2 ⟨j,A,n,F',hj,hvs2,hn,N,W,M,X7,m7,X5,m5⟩;simp only[iH,iT,kV,and_true] at hvs2;obtain⟨w0,w1,w2,w3,w4⟩:=hvs2;rw[w0,w1,w2,w3,w4];by_cases hlt:j<l.length
  ·have hx:l[j]? =some l[j]:=lQ hlt;have hm:=rC hx;refine aXX hK N W M hn X7 m7 S hl hx (w _ hm) (hd _ hm) λh3 F3 A3 W3 s3=>?_;obtain⟨Y7,m7'⟩:=zK X7 m7 s3;obtain⟨Y5,m5'⟩:=zK X5 m5 s3;have er:aIH (Ch.new 0 a s0,Ch.new 1 b s1) (l.take (j+1))=aGu (aIH (Ch.new 0 a s0,Ch.new 1 b s1) (l.take j)) l[j]:=by
    rw[zLT,hx];exact aTw _ _ _
   exact⟨⟨j+1,A3,n+1,F3,by omega,rfl,by omega,N.step s3,by rw[er];exact W3,by rw[er];exact M.act (w _ hm),Y7,m7',Y5,m5'⟩,by simp[gU,w4];omega⟩
  ·unfold zC;have g2:((j:Int)<(l.length:Int))=False:=eq_false (by omega);have lc:cD PG h2 (loadAt dB (pT r7 0))=some (arV c0 c1):=dB.agg X7 (by show 0+2≤2;decide);simp only[aOV S,g2,lc,cG,reduceIte,cT,Nat.reduceAdd];refine dB.put (vs:=arC c0 c1) X5 (o:=0) rfl (by show 0+2≤2;decide) (aOI c0 c1) λh3 X3 u3=>?_;have l3:cD PG h3 (loadAt dB (pT r5 0))=some (arV c0 c1):=dB.agg X3 (by show 0+2≤2;decide);simp only[l3,cG,reduceIte,cT,Nat.reduceAdd];have ej:l.take j=l:=mW (by omega);have ejl:j=l.length:=by omega
   rw[ej] at W M;rw[ejl] at M;refine hk h3 c0 c1 m d0 d1 bk mk Kk A n F' ((aHI.good _ _ _ _ _ _ _ _ _ _ _).upd W u3 (λy hy hm=>by simp only[fV] at hm;exact m5 (hm▸hy))) N.fr (N.ext.fresh u3 (eD.one k5)) M
theorem b55:dA PG (build eK #[(0,(Value.int IntKind.u64 5)),(1,(Value.int IntKind.u64 5))])=some (vC 5 5):=by kernel_rfl
theorem b11:dA PG (build eK #[(0,(Value.int IntKind.u64 1)),(1,(Value.int IntKind.u64 1))])=some (vC 1 1):=by kernel_rfl
theorem aZz:dA PG (build cH #[(2,(Value.int IntKind.u64 9))])=some y1.v:=by kernel_rfl
theorem aZx:dA PG (build cH #[(0,(Value.int IntKind.i64 5))])=some y2.v:=by kernel_rfl
theorem aU0(x y:jL):jK PG (buildSlice iI 2 #[(0,x.v),(1,y.v)])=some (.cells (x.cells++y.cells).toArray cH,λr=>pure (.slice (some ⟨r,0,none⟩) 2 2)):=by kernel_rfl
theorem aZn:dA PG (build aR #[(1,(Value.int IntKind.u64 1)),(2,(Value.int IntKind.u64 9))])=some yp.v:=by kernel_rfl
theorem aZl:dA PG (build eW #[(1,(Value.int IntKind.i64 1)),(0,yp.v)])=some (It.val ⟨yp,1⟩):=by kernel_rfl
theorem aTd(x:It):jK PG (buildSlice iQ 1 #[(0,x.val)])=some (.cells x.cells.toArray eW,λr=>pure (.slice (some ⟨r,0,none⟩) 1 1)):=by kernel_rfl
theorem aYt:dA PG (build cI #[(0,(Value.int IntKind.i64 1)),(1,(Value.int IntKind.i64 1)),(2,(Value.int IntKind.u64 6))])=some (tQ 1 6).v:=by kernel_rfl
theorem aQ4{r j:Nat}(hj:j<2):dA PG (indexAt dW (pT r 0) (.int .i64 (j:Int)))=some (pT r j):=by
 have ix:=vB (P:=PG) (t:=dW) (b:=r) (o:=0) (k:=.i64) (j:=(j:Int)) dW.und dI.info dI.size (by omega) (by omega);rw[ix,pQ,fE,zL7]
theorem aS9{hs:List Int}(R:qY hs []):hs=[]:=by
 have:=R.len;simpa using this
theorem slc{h:PH}{e:TypeId}{n:Nat}{v:Value}{rows:List (List Value)}{G:List Nat}(O:dZ h e n v rows G):fP v=true:=by
 obtain⟨a,m,c,rfl⟩:=slv O;rfl
theorem aOa{h:PH}{v:Value}{l:List gB}{G:List Nat}(O:dZ h cI 8 v (l.map gB.cells) G){t':TypeId}:dA PG (Builtin.len_ #[dI] t' #[v])=some (.int .i64 (l.length:Int)):=by
 have:=O.slR.len (t':=t') dI.und;rw[iS] at this;exact this
theorem aS0{h:PH}(hK:mU h){k:cE}(hk:∀h',cZ h h'->k (.bool true) h'):aT PG aCj #[] h k:=by
 apply aBN.call;unfold aBN;simp only[b55,b11,aZz,aZx,aU0,cG,reduceIte,cT,Nat.reduceAdd];intro r5 hr5;refine fI ?_
 try rw[cW]
 have u1:cZ h (h.set r5 (.cells (y1.cells++y2.cells).toArray cH)):=cU.new hr5;have S1:fR (h.set r5 (.cells (y1.cells++y2.cells).toArray cH)) 9 (.slice (some ⟨r5,0,none⟩) 2 2) ([y1,y2].map jL.cells):=(dZ.lit (n:=2) (jL.rows _) dL (by simp) (by decide) (by simp)).slR;generalize h.set r5 (.cells (y1.cells++y2.cells).toArray cH)=h1 at *;refine aPR (a:=5) (b:=5) (s0:=1) (s1:=1) (hK.ext u1) (by decide) (by decide) (by decide) (by decide) (by decide) (by decide) S1 (λx hx=>?_) (by decide) (λx hx=>?_) λh2 c0 c1 m d0 d1 bk mm K A n F W f2 u2 M=>?_
 ·simp only[gP,kL,or_false] at hx;rcases hx with rfl|rfl<;>exact⟨by decide,⟨by decide,by decide,by decide,by decide⟩⟩
 ·simp only[gP,kL,or_false] at hx;rcases hx with rfl|rfl<;>decide
 have er:aIH (Ch.new 0 5 1,Ch.new 1 5 1) [y1,y2]=(ya2,yb):=aZB;rw[er] at W M;have e2:=u1.trans u2;have K2:=hK.ext e2;simp only[cG,reduceIte,cT,Nat.reduceAdd];intro r14 hr14
 try rw[cW]
 refine dB.fill (vs:=arC c0 c1) hr14 rfl (aOI c0 c1) λh3 B3 u3=>?_;simp only[aZn,aZl,aTd,cG,reduceIte,cT,Nat.reduceAdd];intro r21 hr21;refine fI ?_
 try rw[cW]
 have u4:cZ h3 (h3.set r21 (.cells (It.cells ⟨yp,1⟩).toArray eW)):=cU.new hr21;have S4:fR (h3.set r21 (.cells (It.cells ⟨yp,1⟩).toArray eW)) 5 (.slice (some ⟨r21,0,none⟩) 1 1) ([(⟨yp,1⟩:It)].map It.cells):=(dZ.lit (n:=1) (It.rows _) dL (by simp) (by decide) (by simp)).slR;generalize h3.set r21 (.cells (It.cells ⟨yp,1⟩).toArray eW)=h4 at *;have lc:cD PG h4 (loadAt dB (pT r14 0))=some (arV c0 c1):=dB.agg (B3.ext u4) (by show 0+2≤2;decide);have e24:=u3.trans u4;obtain⟨Fa,HT,-,-⟩:=eO.left (DTw.good _ _ _ _ _ _ _ _ _ _) W;simp only[lc,cG,reduceIte,cT,Nat.reduceAdd];refine aRk (K2.ext e24) ((aFF.good _ _ _).ext HT e24) S4 (λi hi=>?_) (by decide) 9 λh5 hs0 hs1 v0 v1 G0 G1 R0 R1 O0 O1 _ _ u5=>?_
 ·simp only[fV] at hi;subst hi;exact⟨by decide,by decide,by decide,by decide⟩
 have p0:xE (ya2,yb) hs0 9 ([(⟨yp,1⟩:It)].map It.p) 0=([],false):=aXE hs0;have p1:xE (ya2,yb) hs1 9 ([(⟨yp,1⟩:It)].map It.p) 1=([tQ 1 6,ym],false):=aXA (aS9 R1);rw[p0] at O0;rw[p1] at O1;intro r28 hr28
 try rw[cW]
 refine dW.fill (vs:=[v0,v1]) hr28 rfl (λu hu=>by
  simp only[gP,kL,or_false] at hu;rcases hu with rfl|rfl
  ·exact slc O0
  ·exact slc O1) λh6 B6 u6=>?_
 have S6:=(O1.ext u6).slR;have t0:dA PG (indexAt dW (pT r28 0) (.int .i64 0))=some (pT r28 0):=aQ4 (j:=0) (by decide);have t1:dA PG (indexAt dW (pT r28 0) (.int .i64 1))=some (pT r28 1):=aQ4 (j:=1) (by decide);have l0:cD PG h6 (loadAt dI (pT r28 0))=some v0:=by rw[dI.load,B6.cell];rfl
 have l1:cD PG h6 (loadAt dI (pT r28 1))=some v1:=by rw[dI.load,B6.cell];rfl
 obtain⟨a0,i0,j0⟩:=S6.msg (k:=.i64) (j:=0) (m:=tQ 1 6) (by decide) rfl;obtain⟨b,o,q1,q2,-⟩:=S6.fields dI.und cI.info cI.size (k:=.i64) (j:=1) (r:=ym.cells) rfl;have f0:cD PG h6 (loadAt bT (pT b o))=some (.int .i64 2):=by rw[bT.load];exact q2 0 _ rfl
 have q1:dA PG (indexAt dI v1 (.int .i64 1))=some (pT b o):=q1;have e0:=λx y=>gB.eql (h:=h6) (x:=x) (y:=y) (tQ 1 6) (tQ 1 6);have dd:decide (tQ 1 6=tQ 1 6)=true:=decide_eq_true rfl;have z0:(((([]:List gB).length:Nat):Int)==0)=true:=rfl;have z1:((([tQ 1 6,ym].length:Nat):Int)==2)=true:=rfl;have z2:((2:Int)==2)=true:=rfl;rw[dd] at e0;have mv:(tQ 1 6).v= .agg (tQ 1 6).cells.toArray:=rfl;simp only[t0,t1,l0,l1,aOa O0,aOa O1,hQ,z0,z1,z2,i0,j0,aYt,mv,e0,q1,cI.f0,f0,cG,reduceIte,cT,Nat.reduceAdd];exact hk h6 ((e2.trans e24).trans (u5.trans u6))
theorem aVQ{h:PH}{s0 s1:Nat}{v:Value}{l:List jL}(S:fR h 9 v (l.map jL.cells)){x:Value}{li:List It}(S2:fR h 5 x (li.map It.cells)){k:cE}(hk:∀h' b,(b=true->s0≠0∧s1≠0∧l.length≤50∧li.length≤60∧∀x∈l,x.d.length≤2000)->cZ h h'->k (.bool b) h'):aT PG aDs #[vC s0 s1,v,x] h k:=by
 apply wM.call;unfold wM;intro r1 hr1
 try rw[cW]
 have u1:cZ h (h.set r1 (.cells (Value.cells (vC s0 s1)) eK)):=cU.new hr1;have B1:Bx (h.set r1 (.cells (Value.cells (vC s0 s1)) eK)) r1 (u2c s0 s1):=Bx.new;generalize h.set r1 (.cells (Value.cells (vC s0 s1)) eK)=h1 at *;have i0:dA PG (indexAt eK (pT r1 0) (.int .i64 0))=some (pT r1 0):=aOA (i:=0) (by decide);have i1:dA PG (indexAt eK (pT r1 0) (.int .i64 1))=some (pT r1 1):=by have:=aOA (r:=r1) (o:=0) (i:=1) (by decide);rw[fE] at this;exact this
 have l0:cD PG h1 (loadAt cA (pT r1 0))=some (.int .u64 (s0:Int)):=by rw[cA.load,B1.cell];rfl
 have l1:cD PG h1 (loadAt cA (pT r1 1))=some (.int .u64 (s1:Int)):=by rw[cA.load,B1.cell];rfl
 have ll:=aOV S;have no:k (.bool false) h1:=hk h1 false (λe=>by cases e) u1;by_cases z0:s0=0
 ·have q:((s0:Int)==0)=true:=by rw[z0];rfl
  simp only[i0,l0,hQ,q,cG,reduceIte,cT,Nat.reduceAdd];exact no
 have q0:((s0:Int)==0)=false:=by rw[beq_eq_false_iff_ne];omega
 by_cases z1:s1=0
 ·have q:((s1:Int)==0)=true:=by rw[z1];rfl
  simp only[i0,l0,i1,l1,hQ,q0,q,cG,reduceIte,cT,Nat.reduceAdd];exact no
 have q1:((s1:Int)==0)=false:=by rw[beq_eq_false_iff_ne];omega
 by_cases z2:50<l.length
 ·have g:((50:Int)<(l.length:Int))=True:=eq_true (by omega);simp only[i0,l0,i1,l1,hQ,q0,q1,ll,g,cG,reduceIte,cT,Nat.reduceAdd];exact no
 have g:((50:Int)<(l.length:Int))=False:=eq_false (by omega);have li2:dA PG (Builtin.len_ #[iQ] bT #[x])=some (.int .i64 (li.length:Int)):=by
  have:=S2.len (t':=bT) iQ.und;rw[iS] at this;exact this
 by_cases z3:60<li.length
 ·have g3:((60:Int)<(li.length:Int))=True:=eq_true (by omega);simp only[i0,l0,i1,l1,hQ,q0,q1,ll,g,li2,g3,cG,reduceIte,cT,Nat.reduceAdd];exact no
 have g3:((60:Int)<(li.length:Int))=False:=eq_false (by omega);simp only[i0,l0,i1,l1,hQ,q0,q1,ll,g,li2,g3,cG,reduceIte,cT,Nat.reduceAdd];refine⟨λvs h'=>∃i:Nat,i≤l.length∧vs=[v,x,.int .i64 (i:Int)]∧h'=h1∧∀x∈l.take i,x.d.length≤2000,gU l.length 2,⟨0,by omega,rfl,rfl,by simp⟩,?_⟩;rintro ρ h' ⟨i,hi,hvs,rfl,hall⟩;simp only[iH,iT,kV,and_true] at hvs;obtain⟨v0,v1,v2⟩:=hvs;unfold aGJ;rw[v0,v1,v2];by_cases hlt:i<l.length
 ·have g1:((i:Int)<(l.length:Int))=True:=eq_true (by omega);have gi:=pR (i:=i) (by omega);obtain⟨y,hx⟩:∃y,l[i]? =some y:=⟨_,lQ hlt⟩;obtain⟨b,o,a1,a2,a3,-⟩:=(S.ext u1).tac hx;have ld:dA PG (Builtin.len_ #[bR] bT #[.string (tx y.d)])=some (.int .i64 (y.d.length:Int)):=by rw[lP bR.und,iB]
  have lp:dA PG (Builtin.len_ #[bR] bT #[.string y.p.d])=some (.int .i64 (y.p.d.size:Int)):=lP bR.und;by_cases y1:2000<y.d.length
  ·have g2:((2000:Int)<(y.d.length:Int))=True:=eq_true (by omega);simp only[ll,g1,a1,cH.f3,bR.load,a2,ld,g2,cG,reduceIte,cT,Nat.reduceAdd];exact no
  have g2:((2000:Int)<(y.d.length:Int))=False:=eq_false (by omega);by_cases y2:300<y.p.d.size
  ·have g3:((300:Int)<(y.p.d.size:Int))=True:=eq_true (by omega);simp only[ll,g1,a1,cH.f3,cH.f4,aR.f3,Nat.add_assoc,Nat.reduceAdd,bR.load,a2,a3,ld,lp,g2,g3,cG,reduceIte,cT,Nat.reduceAdd];exact no
  have g3:((300:Int)<(y.p.d.size:Int))=False:=eq_false (by omega);simp only[ll,g1,a1,cH.f3,cH.f4,aR.f3,Nat.add_assoc,Nat.reduceAdd,bR.load,a2,a3,ld,lp,g2,g3,gi,cG,reduceIte,cT,Nat.reduceAdd];refine⟨⟨i+1,by omega,rfl,by first|rfl|trivial,λz hz=>?_⟩,by simp[gU,v2];omega⟩;rw[zLT,hx] at hz;rcases jG.1 hz with hz|hz
  ·exact hall z hz
  ·simp only[Option.toList_some,fV] at hz;subst hz;omega
 ·have g1:((i:Int)<(l.length:Int))=False:=eq_false (by omega);simp only[ll,g1,cG,reduceIte,cT,Nat.reduceAdd];rw[mW (by omega)] at hall;refine⟨λvs hh=>∃j:Nat,j≤li.length∧vs=[x,.int .i64 (j:Int)]∧hh=h',gU li.length 1,⟨0,by omega,rfl,rfl⟩,?_⟩;rintro ρ2 h2 ⟨j,hj,hvs2,rfl⟩;simp only[iH,iT,kV,and_true] at hvs2;obtain⟨w0,w1⟩:=hvs2;unfold aGg;rw[w0,w1];by_cases hlt2:j<li.length
  ·have g4:((j:Int)<(li.length:Int))=True:=eq_true (by omega);have gj:=pR (i:=j) (by omega);obtain⟨b,o,a1,a2,-⟩:=(S2.ext u1).fields iQ.und eW.info eW.size (k:=.i64) (j:=j) (r:=li[j].cells) (by rw[vD,lQ hlt2];rfl);have c3:cD PG h2 (loadAt bR (pT b (o+3)))=some (.string li[j].p.d):=by rw[bR.load];exact a2 3 _ rfl
   have lp:dA PG (Builtin.len_ #[bR] bT #[.string li[j].p.d])=some (.int .i64 (li[j].p.d.size:Int)):=lP bR.und;by_cases y2:300<li[j].p.d.size
   ·have g5:((300:Int)<(li[j].p.d.size:Int))=True:=eq_true (by omega);simp only[li2,g4,a1,eW.f0,aR.f3,c3,lp,g5,cG,reduceIte,cT,Nat.reduceAdd];exact no
   ·have g5:((300:Int)<(li[j].p.d.size:Int))=False:=eq_false (by omega);simp only[li2,g4,a1,eW.f0,aR.f3,c3,lp,g5,gj,cG,reduceIte,cT,Nat.reduceAdd];exact⟨⟨j+1,by omega,rfl,by first|rfl|trivial⟩,by simp[gU,w1];omega⟩
  ·have g4:((j:Int)<(li.length:Int))=False:=eq_false (by omega);simp only[li2,g4,cG,reduceIte,cT,Nat.reduceAdd];exact hk _ true (λ_=>⟨z0,z1,by omega,by omega,hall⟩) u1
section
variable{X:mC}(gX:lX X){c0 c1 r19 r27:Nat}{v0 v1:Value}{L0 L1:List gB}(ax:∀{h F},X h F->Bx h r19 (arC c0 c1)∧Bx h r27 [v0,v1]∧fR h 8 v0 (L0.map gB.cells)∧fR h 8 v1 (L1.map gB.cells))
include gX ax
end
theorem aO0{s:Ch×Ch}{known:List Int}{ps:List Pk}{k:Int}(hl:ps.length≤60):uN (xE s known 200 ps k).1=(aJo k (aCM s ps)).length:=by
 have h1:=aRy k (aCM s ps);have h2:=aN6 s ps;have h:=(aO2 (known:=known) (batch:=200) (aJo k (aCM s ps)) (x:=([],false)) (λm hm=>by
  obtain⟨hm,-⟩:=zL1.1 hm;obtain⟨p,-,hp⟩:=List.mem_filterMap.1 hm;exact aRN hp) rfl (by show(((0+2*(aJo k (aCM s ps)).length:Nat)):Int)≤200;omega)).2
 have z:uN ([]:List gB)=0:=rfl;rw[z,fE] at h;exact h
theorem aQw:∀(ms:List gB),(∀m∈ms,m.dest=0∨m.dest=1)->(aJo 0 ms).length+(aJo 1 ms).length=ms.length
 | [],_=>rfl
 | m::ms,h=>by
  have ih:=aQw ms λx hx=>h x (by simp[hx]);unfold aJo at ih ⊢;rw[List.filter_cons,List.filter_cons,rN];rcases h m (by simp) with e|e
  ·rw[if_pos (by simp[e]),if_neg (by simp[e]),rN];omega
  ·rw[if_neg (by simp[e]),if_pos (by simp[e]),rN];omega
theorem aVA{s:Ch×Ch}{k0 k1:List Int}{ps:List Pk}(hl:ps.length≤60):uN (xE s k0 200 ps 0).1+uN (xE s k1 200 ps 1).1=(aCM s ps).length:=by
 rw[aO0 hl,aO0 hl];refine aQw _ λm hm=>?_;obtain⟨p,-,hp⟩:=List.mem_filterMap.1 hm;exact aMm hp
theorem aTl(a:List gB)(m:gB):uN (a++[m])=uN a+if m.kind≠1 then 1 else 0:=by
 rw[aQ1];congr 1;unfold uN;by_cases h:m.kind=1<;>simp[h]
theorem aOU(a:List gB):uN a≤a.length:=aLy _ _
theorem aTM(s:Ch×Ch)(ps:List Pk)(p:Pk):(aCM s (ps++[p])).length=(aCM s ps).length+if (mO s.1 s.2 p).isSome then 1 else 0:=by
 unfold aCM;rw[List.filterMap_append,jP];congr 1;cases h:mO s.1 s.2 p<;>simp[h]
theorem aKS{n k:Nat}(hk:k<8){c:Int}(hc:c=((8*k:Nat):Int)):dA PG (binOp .shr cA (.int .u64 (n:Int)) (.int .u64 c))=some (.int .u64 ((n/256^k:Nat):Int)):=by
 subst hc;rw[aHt (by omega),aQG hk]
theorem aY4(m:Nat):dA PG (convert cA dJ (.int .u64 (m:Int)))=some (.int .u8 ((UInt8.ofNat (m%256)).toNat:Int)):=by
 rw[aRn,aHG];simp
theorem aVj(n:Nat):be n 8=[UInt8.ofNat (n/256^7%256),UInt8.ofNat (n/256^6%256),UInt8.ofNat (n/256^5%256),UInt8.ofNat (n/256^4%256),UInt8.ofNat (n/256^3%256),UInt8.ofNat (n/256^2%256),UInt8.ofNat (n/256^1%256),UInt8.ofNat (n%256)]:=by
 simp[be,Nat.div_div_eq_div_mul]
theorem aTG(a b c d e f g i:Int):jK PG (buildSlice cX 8 #[(0,.int .u8 a),(1,.int .u8 b),(2,.int .u8 c),(3,.int .u8 d),(4,.int .u8 e),(5,.int .u8 f),(6,.int .u8 g),(7,.int .u8 i)])=some (.cells #[.int .u8 a,.int .u8 b,.int .u8 c,.int .u8 d,.int .u8 e,.int .u8 f,.int .u8 g,.int .u8 i] dJ,λr=>pure (.slice (some ⟨r,0,none⟩) 8 8)):=by kernel_rfl
theorem bzM:dA PG (build cI #[])=some gB.zero.v:=by kernel_rfl
theorem Pk.neqS{h:PH}{x y:Operand}(m:Pk):cD PG h (jS .neq aR x y m.v m.v)=some (.bool false):=by
 have:=aLS (P:=PG) (h:=h) (t:=aR) (x:=x) (y:=y) (by kernel_rfl) (Pk.eqD (d:=9998) m m);rw[decide_eq_true rfl] at this;exact this
theorem aQa{t d0 d1 b m:Nat}{A:List Tx}{K:List Nat}{s:Ch×Ch}{n:Nat}{h:PH}{F:List Nat}(H:DTw t d0 d1 b m A K s.1 s.2 n h F){j:Nat}(hj:j<2):
  ∃c sp G,cD PG h (loadAt fW (pT t j))=some (pT c 0)∧cD PG h (loadAt eS (pT c 2))=some (pT sp 0)∧uR h sp (xM s j).st G:=by
 obtain⟨_,_,-,⟨_,_,-,-,⟨sp0,cp0,bv0,nv0,P0⟩,-⟩,⟨_,_,-,⟨-,Bt⟩,⟨sp1,cp1,bv1,nv1,P1⟩,-⟩,-⟩:=H;obtain⟨_,⟨G0,S0,-⟩,-,-⟩:=lV.fSt P0;obtain⟨_,⟨G1,S1,-⟩,-,-⟩:=lV.fSt P1;have:j=0∨j=1:=by omega
 rcases this with rfl|rfl
 ·exact⟨d0,sp0,G0,by rw[fW.load,Bt.cell];rfl,dl2 (lV.cell P0),S0⟩
 ·exact⟨d1,sp1,G1,by rw[fW.load,Bt.cell];rfl,dl2 (lV.cell P1),S1⟩
theorem aVB(s:Ch×Ch){f:Int}{j:Nat}(hf:f=(j:Int))(hj:j<2):wP s.1 s.2 f=xM s j∧wP s.1 s.2 (1-f)=xM s (1-j):=aP3 hf hj
theorem aSL{s:Ch×Ch}{p:Pk}{m:gB}(hs:mO s.1 s.2 p=some m):∃jf jd:Nat,jf<2∧jd<2∧p.f=(jf:Int)∧m.dest=(jd:Int)∧m.pk=p∧2≤m.kind∧m.kind≤4∧((gG (xM s (1-jf)).st.now (fS 114 p.s.toNat)).isSome !=(m.kind==3))=false∧(((jd:Int)==(jf:Int)) !=(m.kind !=2))=false∧m.height=((xM s (1-jd)).st.height:Int):=by
 obtain⟨hr,-,hp,hc⟩:=aLL hs;obtain⟨f0,f1,-⟩:=Pk.right_iff.1 hr;obtain⟨jf,hf⟩:∃jf:Nat,p.f=(jf:Int):=⟨p.f.toNat,by omega⟩;have hj:jf<2:=by omega
 obtain⟨o1,o2⟩:=aVB s hf hj;rw[o1,o2] at hc;rcases hc with⟨k,d,h,g⟩|⟨k,d,h,g⟩|⟨k,d,h,g⟩
 ·exact⟨jf,jf,hj,hj,hf,by omega,hp,by omega,by omega,by rw[g,k];rfl,by rw[k];simp,h⟩
 ·exact⟨jf,jf,hj,hj,hf,by omega,hp,by omega,by omega,by rw[g,k];rfl,by rw[k];simp,h⟩
 ·have hne:((1-jf:Nat):Int)≠(jf:Int):=by omega
  refine⟨jf,1-jf,hj,by omega,hf,by omega,hp,by omega,by omega,by rw[g,k];rfl,by rw[k];simp[hne],?_⟩;rw[h];have:1-(1-jf)=jf:=by omega
  rw[this]
theorem aXM{n:Nat}:dA PG (binOp .add bR (.string {data:=#[114]}) (.string (tx (be n 8))))=some (.string (tx (fS 114 n))):=by
 have q:({data:=#[114]}:ByteArray)=tx [114]:=rfl;rw[q];exact lJ (by rw[iC];decide)
theorem aV5{h:PH}{r:Nat}{v0 v1:Value}{L0 L1:List gB}{A0 A1:List Nat}(B:Bx h r [v0,v1])(O0:dZ h cI 8 v0 (L0.map gB.cells) A0)(O1:dZ h cI 8 v1 (L1.map gB.cells) A1)(l0:L0.length≤100000)(l1:L1.length≤100000){goes:Nat}(hg:uN L0+uN L1=goes){R:cE}(hk:R (.bool true) h):
  iJ [12,19,20,21] (λn273 ρ h=>tX R n273 (ρ 12) (ρ 19) (ρ 20) (ρ 21) h) [.int .i64 (goes:Int),pT r 0,.int .i64 0,.int .i64 0] h:=by
 have e0:cD PG h (loadAt dI (pT r 0))=some v0:=by rw[dI.load,B.cell];rfl
 have e1:cD PG h (loadAt dI (pT r 1))=some v1:=by rw[dI.load,B.cell];rfl
 have z0:=aOU L0;have z1:=aOU L1;refine⟨λvs h'=>∃(j n:Nat),h'=h∧vs=[.int .i64 (goes:Int),pT r 0,.int .i64 (n:Int),.int .i64 (j:Int)]∧((j=0∧n=0)∨(j=1∧n=uN L0)∨(j=2∧n=goes)),gU 2 3,⟨0,0,rfl,rfl,.inl ⟨rfl,rfl⟩⟩,?_⟩;rintro ρ h' ⟨j,n,rfl,hvs,hc⟩;simp only[iH,iT,kV,and_true] at hvs;obtain⟨x0,x1,x2,x3⟩:=hvs;unfold tX;rw[x0,x1,x2,x3];by_cases hlt:j<2
 ·have g:((j:Int)<2)=True:=eq_true (by omega);simp only[g,cG,reduceIte,cT,Nat.reduceAdd];obtain⟨v,L,A,ev,O,hl,hn,hz⟩:∃v L A,cD PG h' (loadAt dI (pT r j))=some v∧dZ h' cI 8 v (L.map gB.cells) A∧L.length≤100000∧((j+1=1∧n+uN L=uN L0)∨(j+1=2∧n+uN L=goes))∧n≤100000:=by
   rcases hc with⟨rfl,rfl⟩|⟨rfl,rfl⟩|⟨rfl,-⟩
   ·exact⟨v0,L0,A0,e0,O0,l0,.inl ⟨rfl,by omega⟩,by omega⟩
   ·exact⟨v1,L1,A1,e1,O1,l1,.inr ⟨rfl,hg⟩,by omega⟩
   ·omega
  have ll:=aOa O (t':=bT);refine⟨λvs h2=>∃i:Nat,h2=h'∧i≤L.length∧vs=[.int .i64 (goes:Int),pT r 0,.int .i64 ((n+uN (L.take i):Nat):Int),.int .i64 (j:Int),.int .i64 (i:Int)],gU L.length 4,⟨0,rfl,by omega,by rw[List.take_zero];rfl⟩,?_⟩;rintro ρ2 h2 ⟨i,rfl,hi,hvs⟩;simp only[iH,iT,kV,and_true] at hvs;obtain⟨y0,y1,y2,y3,y4⟩:=hvs;unfold aBG uM aBC;rw[y0,y1,y2,y3,y4];by_cases hlt2:i<L.length
  ·have g2:((i:Int)<(L.length:Int))=True:=eq_true (by omega);have gi:=pR (i:=i) (by omega);obtain⟨b,o,a1,a2,-⟩:=O.slR.fields dI.und cI.info cI.size (k:=.i64) (j:=i) (r:=L[i].cells) (by rw[vD,lQ hlt2];rfl);have lk:cD PG h2 (loadAt bT (pT b o))=some (.int .i64 L[i].kind):=by rw[bT.load];exact a2 0 _ rfl
   have zt:=aOU (L.take i);rw[uF] at zt;have gn:IntKind.i64.wrap (((n+uN (L.take i):Nat):Int)+1)=((n+(uN (L.take i)+1):Nat):Int):=by rw[eV (by omega) (by omega)];omega
   have ts:uN (L.take (i+1))=uN (L.take i)+if L[i].kind≠1 then 1 else 0:=by
    rw[zLT,lQ hlt2];exact aTl _ _
   by_cases hq:L[i].kind=1
   ·have q:(L[i].kind !=1)=false:=by simp[hq]
    rw[if_neg (by simp[hq])] at ts;simp only[aQ4 hlt,ev,ll,g2,a1,cI.f0,lk,kE,q,gi,cG,reduceIte,cT,Nat.reduceAdd];exact⟨⟨i+1,by first|rfl|trivial,by omega,by rw[ts];rfl⟩,by simp[gU,y4];omega⟩
   ·have q:(L[i].kind !=1)=true:=by simp[hq]
    rw[if_pos hq] at ts;simp only[aQ4 hlt,ev,ll,g2,a1,cI.f0,lk,kE,q,gn,gi,cG,reduceIte,cT,Nat.reduceAdd];exact⟨⟨i+1,by first|rfl|trivial,by omega,by rw[ts]⟩,by simp[gU,y4];omega⟩
  ·have g2:((i:Int)<(L.length:Int))=False:=eq_false (by omega);have gj:=pR (i:=j) (by omega);rw[mW (by omega)];simp only[aQ4 hlt,ev,ll,g2,gj,cG,reduceIte,cT,Nat.reduceAdd];exact⟨⟨j+1,n+uN L,by first|rfl|trivial,rfl,.inr hn⟩,by simp[gU,x3];omega⟩
 ·have g:((j:Int)<2)=False:=eq_false (by omega);rcases hc with⟨rfl,-⟩|⟨rfl,-⟩|⟨rfl,rfl⟩
  ·omega
  ·omega
  ·have q:((n:Int)==(n:Int))=true:=by simp
   simp only[g,hQ,q,cG,reduceIte,cT,Nat.reduceAdd];exact hk
theorem aWx(n:Nat):(be n 8).map jC=[[.int .u8 ((UInt8.ofNat (n/256^7%256)).toNat:Int)],[.int .u8 ((UInt8.ofNat (n/256^6%256)).toNat:Int)],[.int .u8 ((UInt8.ofNat (n/256^5%256)).toNat:Int)],[.int .u8 ((UInt8.ofNat (n/256^4%256)).toNat:Int)],[.int .u8 ((UInt8.ofNat (n/256^3%256)).toNat:Int)],[.int .u8 ((UInt8.ofNat (n/256^2%256)).toNat:Int)],[.int .u8 ((UInt8.ofNat (n/256^1%256)).toNat:Int)],[.int .u8 ((UInt8.ofNat (n%256)).toNat:Int)]]:=by
 rw[aVj];rfl
theorem aRO{h:PH}(hK:mU h){c0 c1 m d0 d1 bk mm:Nat}{K:List Nat}{s:Ch×Ch}{A:List Tx}{nn:Nat}{F:List Nat}(W:aHI c0 c1 m d0 d1 bk mm K s A nn h F){r19:Nat}(B19:Bx h r19 (arC c0 c1)){y:Value}{li:List It}(S2:fR h 5 y (li.map It.cells))(hli:li.length≤60){i:Nat}(hi:i<li.length)(w:li[i].p.wf){goes:Nat}(hgo:goes≤1000){R:cE}{n24:gI}
  (hk:∀h',cZ h h'->n24 [y,pT r19 0,pT m 0,.int .i64 ((goes+(if (mO s.1 s.2 li[i].p).isSome then 1 else 0):Nat):Int),.int .i64 ((i+1:Nat):Int)] h'):
  pY R n24 y (pT r19 0) (pT m 0) (.int .i64 (goes:Int)) (.int .i64 (i:Int)) h:=by
 unfold pY vH aBz;have ll:dA PG (Builtin.len_ #[iQ] bT #[y])=some (.int .i64 (li.length:Int)):=by
  have:=S2.len (t':=bT) iQ.und;rw[iS] at this;exact this
 have g:((i:Int)<(li.length:Int))=True:=eq_true (by omega);have gi:=pR (i:=i) (by omega);have gg:=pR (i:=goes) (by omega);have lc:∀{h':PH},cZ h h'->cD PG h' (loadAt dB (pT r19 0))=some (arV c0 c1):=λu=>dB.agg (B19.ext u) (by show 0+2≤2;decide);have fld:∀{h':PH},cZ h h'->∃b o,dA PG (indexAt iQ y (.int .i64 (i:Int)))=some (pT b o)∧cD PG h' (loadAt eW (pT b o))=some (It.val ⟨li[i].p,li[i].g⟩)∧cD PG h' (loadAt aR (pT b o))=some li[i].p.v:=fun {h'} u=>by
  obtain⟨b,o,cs,e',fr,h1,hb,hle,hex⟩:=(S2.ext u).at iQ.und eW.info eW.size (k:=.i64) (j:=(i:Int)) (r:=li[i].cells) (by omega) (by rw[pQ,vD,lQ hi];rfl);refine⟨b,o,h1,?_,?_⟩
  ·rw[eW.loadAgg hb hle];congr 2;exact zLv hex
  ·rw[aR.loadAgg hb (by omega)];congr 2;refine zLv ?_;have e4:(cs.extract o (o+4)).toList=((cs.extract o (o+5)).toList).take 4:=by
    simp only[zLC,zLw,aLG,List.take_take];rfl
   rw[e4,hex];rfl
 obtain⟨b0,o0,i1,i2,-⟩:=fld cU.refl;simp only[ll,g,i1,i2,lc cU.refl,cG,reduceIte,cT,Nat.reduceAdd];obtain⟨Fa,Fb,eF,HT,HD,dab⟩:=id W;refine aPY hK HT li[i].p w li[i].g λh13 u13=>?_;simp only[cG,reduceIte,cT,Nat.reduceAdd];intro r35 hr35
 try rw[cW]
 refine cI.fill (vs:=(aP5 (mO s.1 s.2 li[i].p)).cells) hr35 rfl (gB.isC _) λh14 B35 u14=>?_;have e14:=u13.trans u14;cases hsub:mO s.1 s.2 li[i].p with
 | none=>
  rw[hsub] at B35 hk;have lm:cD PG h14 (loadAt cI (pT r35 0))=some gB.zero.v:=B35.msg;have nz:∀{x y:Operand},cD PG h14 (jS .neq cI x y gB.zero.v gB.zero.v)=some (.bool false):=fun {x y}=>by
   have:=gB.neq (h:=h14) (x:=x) (y:=y) gB.zero gB.zero;rw[decide_eq_true rfl] at this;exact this
  simp only[zLu,lm,bzM,nz,gi,cG,reduceIte,cT,Nat.reduceAdd];exact hk h14 e14
 | some q=>
  rw[hsub] at B35 hk;have B35:Bx h14 r35 q.cells:=B35;obtain⟨jf,jd,hjf,hjd,ef,ed,ep,k2,k4,c1',c2',hh⟩:=aSL hsub;obtain⟨b1,o1,i3,-,i4⟩:=fld e14;rw[i1] at i3;cases i3;simp only[aLv,gg,eW.f0,i4,cG,reduceIte,cT,Nat.reduceAdd];intro r50 hr50
  try rw[cW]
  refine aR.fill (vs:=li[i].p.cells) hr50 rfl (Pk.isC _) λh15 B50 u15=>?_;have e15:=e14.trans u15;have B35:=B35.ext u15;obtain⟨ns,hns,hn64⟩:∃ns:Nat,li[i].p.s=(ns:Int)∧ns<18446744073709551616:=⟨li[i].p.s.toNat,by have:=w.1;omega,by have:=w.2.1;omega⟩;have lf:cD PG h15 (loadAt bT (pT r50 0))=some (.int .i64 (jf:Int)):=by rw[bT.load,B50.cell,←ef];rfl
  have lp:cD PG h15 (loadAt aR (pT r50 0))=some li[i].p.v:=B50.pk rfl;have lq:cD PG h15 (loadAt aR (pT r35 3))=some li[i].p.v:=by rw[←ep];exact B35.pk rfl
  have lk:∀{h':PH},cZ h15 h'->cD PG h' (loadAt bT (pT r35 0))=some (.int .i64 q.kind):=λu=>by rw[bT.load,(B35.ext u).cell];rfl
  have ld:∀{h':PH},cZ h15 h'->cD PG h' (loadAt bT (pT r35 1))=some (.int .i64 (jd:Int)):=λu=>by rw[bT.load,(B35.ext u).cell,←ed];rfl
  have lh:∀{h':PH},cZ h15 h'->cD PG h' (loadAt cA (pT r35 2))=some (.int .u64 ((xM s (1-jd)).st.height:Int)):=λu=>by rw[cA.load,(B35.ext u).cell,←hh];rfl
  have ls:∀{h':PH},cZ h15 h'->cD PG h' (loadAt cA (pT r50 1))=some (.int .u64 (ns:Int)):=λu=>by rw[cA.load,(B50.ext u).cell,←hns];rfl
  have lf':∀{h':PH},cZ h15 h'->cD PG h' (loadAt bT (pT r50 0))=some (.int .i64 (jf:Int)):=λu=>by rw[bT.load,(B50.ext u).cell,←ef];rfl
  have g1:((jf:Int)<0)=False:=eq_false (by omega);have g2:((1:Int)<(jf:Int))=False:=eq_false (by omega);have g3:(q.kind<2)=False:=eq_false (by omega);have g4:(4<q.kind)=False:=eq_false (by omega);have w1:IntKind.i64.wrap (1-(jf:Int))=((1-jf:Nat):Int):=by rw[eV (by omega) (by omega)];omega
  have w2:IntKind.i64.wrap (1-(jd:Int))=((1-jd:Nat):Int):=by rw[eV (by omega) (by omega)];omega
  have ix1:=aSP (r:=m) (o:=0) (i:=1-jf) (by omega);have ix2:=aSP (r:=m) (o:=0) (i:=1-jd) (by omega);rw[fE] at ix1 ix2;have gD:=DTw.good m d0 d1 bk mm A K s.1 s.2 nn;obtain⟨ca,sa,Ga,qa1,qa2,-⟩:=aQa (gD.ext HD e15) (j:=1-jf) (by omega);have s7:=aKS (n:=ns) (k:=7) (by decide) (c:=56) rfl;have s6:=aKS (n:=ns) (k:=6) (by decide) (c:=48) rfl;have s5:=aKS (n:=ns) (k:=5) (by decide) (c:=40) rfl;have s4:=aKS (n:=ns) (k:=4) (by decide) (c:=32) rfl;have s3:=aKS (n:=ns) (k:=3) (by decide) (c:=24) rfl;have s2:=aKS (n:=ns) (k:=2) (by decide) (c:=16) rfl;have s1:=aKS (n:=ns) (k:=1) (by decide) (c:=8) rfl;simp only[aR.f0,aR.f1,lf,g1,g2,cI.f3,lq,lp,Pk.neqS,cI.f0,lk cU.refl,g3,g4,w1,jU.f0,ix1,qa1,cQ.f2,fE,qa2,ls cU.refl,s7,s6,s5,s4,s3,s2,s1,aY4,aTG,cG,reduceIte,cT,Nat.reduceAdd];intro r54 hr54;refine fI ?_
  try rw[cW]
  have u16:cZ h15 (h15.set r54 (.cells #[.int .u8 ((UInt8.ofNat (ns/256^7%256)).toNat:Int),.int .u8 ((UInt8.ofNat (ns/256^6%256)).toNat:Int),.int .u8 ((UInt8.ofNat (ns/256^5%256)).toNat:Int),.int .u8 ((UInt8.ofNat (ns/256^4%256)).toNat:Int),.int .u8 ((UInt8.ofNat (ns/256^3%256)).toNat:Int),.int .u8 ((UInt8.ofNat (ns/256^2%256)).toNat:Int),.int .u8 ((UInt8.ofNat (ns/256^1%256)).toNat:Int),.int .u8 ((UInt8.ofNat (ns%256)).toNat:Int)] dJ)):=cU.new hr54;have O54:fR (h15.set r54 (.cells #[.int .u8 ((UInt8.ofNat (ns/256^7%256)).toNat:Int),.int .u8 ((UInt8.ofNat (ns/256^6%256)).toNat:Int),.int .u8 ((UInt8.ofNat (ns/256^5%256)).toNat:Int),.int .u8 ((UInt8.ofNat (ns/256^4%256)).toNat:Int),.int .u8 ((UInt8.ofNat (ns/256^3%256)).toNat:Int),.int .u8 ((UInt8.ofNat (ns/256^2%256)).toNat:Int),.int .u8 ((UInt8.ofNat (ns/256^1%256)).toNat:Int),.int .u8 ((UInt8.ofNat (ns%256)).toNat:Int)] dJ)) 1 (.slice (some ⟨r54,0,none⟩) 8 8) ((be ns 8).map jC):=(dZ.lit (jC.rows (be ns 8)) dL (by rw[iS,iC]) (by decide) (by rw[aWx];rfl)).slR;generalize h15.set r54 _=h16 at *;have hcv:cD PG h16 (convert cX bR (.slice (some ⟨r54,0,none⟩) 8 8))=some (.string (tx (be ns 8))):=aDH cX.und dJ.und bR.und O54;have e16:=e15.trans u16;obtain⟨cb,sb,Gb,qb1,qb2,Sb⟩:=aQa (gD.ext HD e16) (j:=1-jf) (by omega);have eab:sb=sa:=by
   have h1:=gD.ext HD e16;obtain⟨_,_,-,⟨_,_,-,-,⟨sp0,cp0,bv0,nv0,P0⟩,-⟩,⟨_,_,-,⟨-,Bt⟩,⟨sp1,cp1,bv1,nv1,P1⟩,-⟩,-⟩:=gD.ext HD e15;have:1-jf=0∨1-jf=1:=by omega
   rcases this with e|e<;>rw[e] at qa1 qb1
   ·rw[fW.load,Bt.cell] at qa1;rw[fW.load,(Bt.ext u16).cell] at qb1;cases qa1;cases qb1;rw[dl2 (lV.cell P0)] at qa2;rw[dl2 ((lV.cell P0).ext u16)] at qb2;cases qa2;cases qb2;rfl
   ·rw[fW.load,Bt.cell] at qa1;rw[fW.load,(Bt.ext u16).cell] at qb1;cases qa1;cases qb1;rw[dl2 (lV.cell P1)] at qa2;rw[dl2 ((lV.cell P1).ext u16)] at qb2;cases qa2;cases qb2;rfl
  subst eab;simp only[hcv,aXM,cG,reduceIte,cT,Nat.reduceAdd];refine aMq Sb (fS 114 ns) ?_;have en:li[i].p.s.toNat=ns:=by rw[hns,pQ]
  rw[en] at c1';obtain⟨cc,sc,Gc,qc1,qc2,Sc⟩:=aQa (gD.ext HD e16) (j:=1-jd) (by omega);have c3:(((xM s (1-jd)).st.height:Int) !=((xM s (1-jd)).st.height:Int))=false:=by simp
  simp only[cI.f0,lk u16,hQ,aZU,c1',cI.f1,ld u16,lf' u16,kE,c2',cI.f2,lh u16,w2,jU.f0,ix2,qc1,cQ.f2,fE,qc2,cG,reduceIte,cT,Nat.reduceAdd];refine aBj Sc ?_;refine⟨λ_=>lh u16,?_⟩;simp only[kE,c3,gi,cG,reduceIte,cT,Nat.reduceAdd];exact hk h16 e16
theorem aVH(s:Ch×Ch)(ps:List Pk):(aCM s ps).length≤ps.length:=aN6 s ps
theorem aNo{h:PH}(hK:mU h){a b s0 s1:Nat}(ha:a<18446744073709551616)(hb:b<18446744073709551616)(hs0:s0<18446744073709551616)(hs1:s1<18446744073709551616){v:Value}{l:List jL}(S:fR h 9 v (l.map jL.cells))(w:∀x∈l,x.wf){y:Value}{li:List It}(S2:fR h 5 y (li.map It.cells))(w2:∀i∈li,i.p.wf){k:cE}(hk:∀h',cZ h h'->k (.bool true) h'):
  aT PG wL #[vC a b,vC s0 s1,v,y] h k:=by
 apply nI.call;unfold nI;intro r1 hr1
 try rw[cW]
 have u1:cZ h (h.set r1 (.cells (Value.cells (vC a b)) eK)):=cU.new hr1;have B1:Bx (h.set r1 (.cells (Value.cells (vC a b)) eK)) r1 (u2c a b):=Bx.new;generalize h.set r1 (.cells (Value.cells (vC a b)) eK)=h1 at *;intro r3 hr3
 try rw[cW]
 have u3:cZ h1 (h1.set r3 (.cells (Value.cells (vC s0 s1)) eK)):=cU.new hr3;have B3:Bx (h1.set r3 (.cells (Value.cells (vC s0 s1)) eK)) r3 (u2c s0 s1):=Bx.new;have C1:=B1.ext u3;generalize h1.set r3 (.cells (Value.cells (vC s0 s1)) eK)=h3 at *;have e3:=u1.trans u3;have la:∀{h'':PH},cZ h3 h''->cD PG h'' (loadAt eK (pT r1 0))=some (vC a b):=λv=>eK.agg (C1.ext v) (by show 0+2≤2;decide);have ls:∀{h'':PH},cZ h3 h''->cD PG h'' (loadAt eK (pT r3 0))=some (vC s0 s1):=λv=>eK.agg (B3.ext v) (by show 0+2≤2;decide);refine aS0 (hK.ext e3) λh4 u4=>?_;simp only[ls u4,cG,reduceIte,cT,Nat.reduceAdd];refine aVQ (S.ext (e3.trans u4)) (S2.ext (e3.trans u4)) λh5 bb hbb u5=>?_;have e35:=u4.trans u5;have e5:=e3.trans e35;cases bb with
 | false=>
  simp only[cG,reduceIte,cT,Nat.reduceAdd];exact hk h5 e5
 | true=>
  obtain⟨z0,z1,hl,hli,hdat⟩:=hbb rfl;simp only[la e35,ls e35,cG,reduceIte,cT,Nat.reduceAdd];refine aPR (hK.ext e5) ha hb hs0 hs1 z0 z1 (S.ext e5) w hl hdat λh6 c0 c1 m d0 d1 bk mm K A nn F W f6 u6 M=>?_;generalize hs:aIH (Ch.new 0 a s0,Ch.new 1 b s1) l=s at *;simp only[cG,reduceIte,cT,Nat.reduceAdd];intro r19 hr19
  try rw[cW]
  refine dB.fill (vs:=arC c0 c1) hr19 rfl (aOI c0 c1) λh7 B7 u7=>?_;have e7:=(e5.trans u6).trans u7;have gA:=aHI.good c0 c1 m d0 d1 bk mm K s A nn;have W7:=gA.ext W u7;refine⟨λvs h'=>∃i:Nat,i≤li.length∧vs=[y,pT r19 0,pT m 0,.int .i64 (((aCM s ((li.take i).map It.p)).length:Nat):Int),.int .i64 (i:Int)]∧cZ h7 h',gU li.length 4,⟨0,by omega,rfl,cU.refl⟩,?_⟩;rintro ρ h' ⟨i,hi,hvs,u⟩;simp only[iH,iT,kV,and_true] at hvs;obtain⟨x0,x1,x2,x3,x4⟩:=hvs;rw[x0,x1,x2,x3,x4];have e':=e7.trans u;have W':=gA.ext W7 u;by_cases hlt:i<li.length
  ·have hle:=aVH s ((li.take i).map It.p);rw[iS,uF] at hle;refine aRO (hK.ext e') W' (B7.ext u) (S2.ext e') hli hlt (w2 _ (aKW hlt)) (by omega) λh'' u''=>?_;refine⟨⟨i+1,by omega,?_,u.trans u''⟩,by simp[gU,x4];omega⟩;rw[zLT,lQ hlt,qI];have:=aTM s ((li.take i).map It.p) li[i].p;show _=[y,_,_,Value.int .i64 (((aCM s ((li.take i).map It.p++[li[i].p])).length:Nat):Int),_];rw[this]
  ·unfold pY;have g:((i:Int)<(li.length:Int))=False:=eq_false (by omega);have ll:dA PG (Builtin.len_ #[iQ] bT #[y])=some (.int .i64 (li.length:Int)):=by
    have:=S2.len (t':=bT) iQ.und;rw[iS] at this;exact this
   have lc:cD PG h' (loadAt dB (pT r19 0))=some (arV c0 c1):=dB.agg (B7.ext u) (by show 0+2≤2;decide);obtain⟨Fa,Fb,-,HT,-,-⟩:=id W';rw[mW (by omega)];simp only[ll,g,lc,cG,reduceIte,cT,Nat.reduceAdd];refine aRk (hK.ext e') HT (S2.ext e') w2 hli 200 λh8 p0 p1 a0 a1 A0 A1 R0 R1 P0 P1 fA0 fA1 u8=>?_;intro r269 hr269
   try rw[cW]
   refine dW.fill (vs:=[a0,a1]) hr269 rfl (λu hu=>by
    simp only[gP,kL,or_false] at hu;rcases hu with rfl|rfl
    ·exact slc P0
    ·exact slc P1) λh9 B9 u9=>?_
   have hall:=aVA (s:=s) (k0:=p0) (k1:=p1) (ps:=li.map It.p) (by rw[iS];exact hli);have le0:=aOG s p0 200 (li.map It.p) 0;have le1:=aOG s p1 200 (li.map It.p) 1;rw[iS] at le0 le1;exact aV5 B9 (P0.ext u9) (P1.ext u9) (by omega) (by omega) hall (hk h9 ((e'.trans u8).trans u9))
theorem aMx{h:PH}(hK:mU h){v y:Value}{rows rows2:List (List Value)}(S:fR h 9 v rows)(S2:fR h 5 y rows2){a b s0 s1:Nat}(ha:a<18446744073709551616)(hb:b<18446744073709551616)(hs0:s0<18446744073709551616)(hs1:s1<18446744073709551616)(e:∃l:List jL,rows=l.map jL.cells∧∀x∈l,x.wf)(e2:∃l:List It,rows2=l.map It.cells∧∀x∈l,x.p.wf){k:cE}(hk:∀h',cZ h h'->k (.bool true) h'):
  aT PG wL #[vC a b,vC s0 s1,v,y] h k:=by
 obtain⟨l,rfl,w⟩:=e;obtain⟨li,rfl,w2⟩:=e2;exact aNo hK ha hb hs0 hs1 S w S2 w2 hk
end
section
open Go Go.RowKit Go.ChangeShapes
theorem bT.cells:PG.cellsOf bT=1:=by kernel_rfl
theorem cA.cells:PG.cellsOf cA=1:=by kernel_rfl
theorem bR.cells:PG.cellsOf bR=1:=by kernel_rfl
theorem fU.cells:PG.cellsOf fU=1:=by kernel_rfl
theorem aR.cells:PG.cellsOf aR=4:=by kernel_rfl
theorem eK.cells:PG.cellsOf eK=2:=by kernel_rfl
theorem cH.cells:PG.cellsOf cH=9:=by kernel_rfl
section
variable{H:Type}{enc:TypeId×Value->H}{w:World}{spare:Nat->Bool}{held:Bool}
theorem Pk.rd{cs:List Value}(h:Rd enc PG w spare held aR cs):∃p:Pk,cs=p.cells∧p.wf:=by
 obtain⟨hl,hf⟩:=aL2 aR.und h;rw[aR.cells] at hl
 match cs,hl with
 | [c0,c1,c2,c3],_=>
  have f0:Rd enc PG w spare held bT (([c0,c1,c2,c3].drop 0).take (PG.cellsOf bT)):=hf 0 _ rfl;rw[bT.cells] at f0;have f1:Rd enc PG w spare held cA (([c0,c1,c2,c3].drop 1).take (PG.cellsOf cA)):=hf 1 _ rfl;rw[cA.cells] at f1;have f2:Rd enc PG w spare held cA (([c0,c1,c2,c3].drop 2).take (PG.cellsOf cA)):=hf 2 _ rfl;rw[cA.cells] at f2;have f3:Rd enc PG w spare held bR (([c0,c1,c2,c3].drop 3).take (PG.cellsOf bR)):=hf 3 _ rfl;rw[bR.cells] at f3;obtain⟨n0,e0,-⟩:=aGm bT.und f0;obtain⟨n1,e1,w1⟩:=aGm cA.und f1;have w1:=aLc w1;obtain⟨n2,e2,w2⟩:=aGm cA.und f2;have w2:=aLc w2;obtain⟨n3,e3,-⟩:=aPK bR.und f3;simp only[zLa,zLb,zLc,List.take_zero,kV,and_true] at e0 e1 e2 e3;subst e0 e1 e2 e3;exact⟨⟨n0,n1,n2,n3⟩,rfl,w1.1,by show n1<_;omega,w2.1,by show n2<_;omega⟩
theorem jL.rd{cs:List Value}(h:Rd enc PG w spare held cH cs):∃p:jL,cs=p.cells∧p.wf:=by
 obtain⟨hl,hf⟩:=aL2 cH.und h;rw[cH.cells] at hl
 match cs,hl with
 | [c0,c1,c2,c3,c4,c5,c6,c7,c8],_=>
  have f0:Rd enc PG w spare held bT (([c0,c1,c2,c3,c4,c5,c6,c7,c8].drop 0).take (PG.cellsOf bT)):=hf 0 _ rfl;rw[bT.cells] at f0;have f1:Rd enc PG w spare held bT (([c0,c1,c2,c3,c4,c5,c6,c7,c8].drop 1).take (PG.cellsOf bT)):=hf 1 _ rfl;rw[bT.cells] at f1;have f2:Rd enc PG w spare held cA (([c0,c1,c2,c3,c4,c5,c6,c7,c8].drop 2).take (PG.cellsOf cA)):=hf 2 _ rfl;rw[cA.cells] at f2;have f3:Rd enc PG w spare held bR (([c0,c1,c2,c3,c4,c5,c6,c7,c8].drop 3).take (PG.cellsOf bR)):=hf 3 _ rfl;rw[bR.cells] at f3;have f4:Rd enc PG w spare held aR (([c0,c1,c2,c3,c4,c5,c6,c7,c8].drop 4).take (PG.cellsOf aR)):=hf 4 _ rfl;rw[aR.cells] at f4;have f5:Rd enc PG w spare held fU (([c0,c1,c2,c3,c4,c5,c6,c7,c8].drop 8).take (PG.cellsOf fU)):=hf 5 _ rfl;rw[fU.cells] at f5;obtain⟨n0,e0,-⟩:=aGm bT.und f0;obtain⟨n1,e1,-⟩:=aGm bT.und f1;obtain⟨n2,e2,w2⟩:=aGm cA.und f2;have w2:=aLc w2;obtain⟨n3,e3,-⟩:=aPK bR.und f3;obtain⟨n4,e4,w4⟩:=Pk.rd f4;obtain⟨n5,e5⟩:=aXa fU.und f5;simp only[zLa,zLb,zLc,List.take_zero,kV,and_true,Pk.cells] at e0 e1 e2 e3 e4 e5;obtain⟨rfl,rfl,rfl,rfl⟩:=e4;subst e0 e1 e2 e3 e5;exact by
   obtain⟨m,rfl⟩:=zLn w2.1;exact⟨⟨n0,n1,m,n3.data.toList,n4,n5⟩,by rw[jL.cells,aIh],by show m<_;omega,w4⟩
theorem jL.rds:∀{rows:List (List Value)},(∀r∈rows,Rd enc PG w spare held cH r)->∃xs:List jL,rows=xs.map jL.cells∧∀x∈xs,x.wf
 | [],_=>⟨[],rfl,by simp⟩
 | r::rs,h=>by
  obtain⟨m,rfl,hm⟩:=jL.rd (h r (by simp));obtain⟨xs,rfl,hx⟩:=jL.rds (rows:=rs) (λx hx=>h x (by simp[hx]));exact⟨m::xs,rfl,λx hx'=>by rcases gP.1 hx' with rfl|h;exact hm;exact hx x h⟩
theorem u2c.rd{cs:List Value}(h:Rd enc PG w spare held eK cs):∃a b:Nat,cs=u2c a b∧a<18446744073709551616∧b<18446744073709551616:=by
 obtain⟨hl,hf⟩:=aVw eK.und h;rw[eK.cells] at hl
 match cs,hl with
 | [c0,c1],_=>
  have f0:Rd enc PG w spare held cA (([c0,c1].drop (0*PG.cellsOf cA)).take (PG.cellsOf cA)):=hf 0 (by decide);have f1:Rd enc PG w spare held cA (([c0,c1].drop (1*PG.cellsOf cA)).take (PG.cellsOf cA)):=hf 1 (by decide);rw[cA.cells] at f0 f1;obtain⟨m0,q0,w0⟩:=aGm cA.und f0;obtain⟨m1,q1,w1⟩:=aGm cA.und f1;have w0:=aLc w0;have w1:=aLc w1;simp only[Nat.zero_mul,Nat.one_mul,zLa,zLb,zLc,List.take_zero,kV,and_true] at q0 q1;subst q0 q1;obtain⟨n0,rfl⟩:=zLn w0.1;obtain⟨n1,rfl⟩:=zLn w1.1;exact⟨n0,n1,rfl,by omega,by omega⟩
theorem aR1{r:Reach}{base:Nat}{v:Value}{d:DataW H}{p:List MemPlace}(hval:Value.okWide PG w r base eK v)(hd:DataW.Trod enc PG w 0 spare held eK v d p):
  ∃a b:Nat,v=vC a b∧a<18446744073709551616∧b<18446744073709551616:=by
 have hu:PG.underlying eK=some (.array 2 cA):=eK.und;simp only[Value.okWide,hu] at hval;obtain⟨cs,rfl,_⟩:=hval;obtain⟨a,b,e,ha,hb⟩:=u2c.rd (aVr hd);refine⟨a,b,?_,ha,hb⟩;rw[vC];congr 1;exact Array.toList_inj.1 e
end
def aNn:List (String×DataW Unit):=[("carrack/sha.k",Rows.laid_carrack_sha_k)]
theorem aUj(os:Os)(args:Array Value):laidMetH Tryz.prog aNn ((World.doorLaid Tryz.prog 400 os).forCall (λ_ _=>0) ⟨#[],args,[]⟩).memory:=
 laidMetH_of_parts3 (fuel:=8) (laidMet_of_run' 8 (by kernel_rfl) (by kernel_rfl)) (by kernel_rfl) (by kernel_rfl)
theorem kOf{W:World}(h:laidMetH Tryz.prog aNn W):mU (aKC W):=by
 rw[MakeChecks.laidMetH_plain _ _ _ (by kernel_rfl)] at h;obtain⟨ps,h1,_⟩:=h;obtain⟨e,fr,hh⟩:=aN2 (m:=3) (g:=0) (t:=eX) h1 (aIv ..) (by kernel_rfl) (by kernel_rfl) (by kernel_rfl);have hk:(aME (Rows.laid_carrack_sha_k:DataW Unit)).toArray=(kT.map wv).toArray:=by kernel_rfl
 rw[hk] at hh;exact⟨e,fr,hh⟩
theorem eW.cells:PG.cellsOf eW=5:=by kernel_rfl
section
variable{H:Type}{enc:TypeId×Value->H}{w:World}{spare:Nat->Bool}{held:Bool}
theorem It.rd{cs:List Value}(h:Rd enc PG w spare held eW cs):∃p:It,cs=p.cells∧p.p.wf:=by
 obtain⟨hl,hf⟩:=aL2 eW.und h;rw[eW.cells] at hl
 match cs,hl with
 | [c0,c1,c2,c3,c4],_=>
  have f0:Rd enc PG w spare held aR (([c0,c1,c2,c3,c4].drop 0).take (PG.cellsOf aR)):=hf 0 _ rfl;rw[aR.cells] at f0;have f1:Rd enc PG w spare held bT (([c0,c1,c2,c3,c4].drop 4).take (PG.cellsOf bT)):=hf 1 _ rfl;rw[bT.cells] at f1;obtain⟨n0,e0,w0⟩:=Pk.rd f0;obtain⟨n1,e1,-⟩:=aGm bT.und f1;simp only[zLa,zLb,zLc,List.take_zero,kV,and_true,Pk.cells] at e0 e1;obtain⟨rfl,rfl,rfl,rfl⟩:=e0;subst e1;exact⟨⟨n0,n1⟩,rfl,w0⟩
theorem It.rds:∀{rows:List (List Value)},(∀r∈rows,Rd enc PG w spare held eW r)->∃xs:List It,rows=xs.map It.cells∧∀x∈xs,x.p.wf
 | [],_=>⟨[],rfl,by simp⟩
 | r::rs,h=>by
  obtain⟨m,rfl,hm⟩:=It.rd (h r (by simp));obtain⟨xs,rfl,hx⟩:=It.rds (rows:=rs) (λx hx=>h x (by simp[hx]));exact⟨m::xs,rfl,λx hx'=>by rcases gP.1 hx' with rfl|h;exact hm;exact hx x h⟩
end
end
section
open Go
end
end Go.Proofs.YtppgkeodaejgcaaGreatDoor
namespace Go.Proofs.YtppgkeodaejgcaaGreatDoor.relaySettles
open Go Go.ChangeShapes Go.WideShapes Go.ChangeAt Go.WideMaps Go.WideElems Go.RowKit
theorem own:ownKnob Tryz.prog.godebug=none:=by kernel_rfl
theorem lifted(os:Os)(started:os.Started)(H:Type)(enc:TypeId×Value->H):
  ReturnsInHanded {} Tryz.checked os 3 .any (λw args=>(Rows.relaySettlesSpec.pre enc Tryz.prog Tryz.f3 [] false w args∧laidMetH Tryz.prog aNn w)∧sizedMet enc Tryz.prog Tryz.f3 (OpenSpec.ofChange Rows.relaySettlesSpec) false w args)
   (Rows.relaySettlesSpec.post enc Tryz.prog Tryz.f3 false true false false):=by
 refine returnsInHanded_of_change_and (C:=Tryz.checked) (X:=λw _=>laidMetH Tryz.prog aNn w) (λ_ _ _ hh h=>h.of_heap hh) own started (by kernel_rfl) Tryz.func3
  (ChangeSpec.witness_shaped (enc:=enc) (C:=Tryz.checked) (os:=os) (X:=λw _=>laidMetH Tryz.prog aNn w) false (World.doorLaid Tryz.prog 400 os) #[.agg #[.int .u64 0,.int .u64 0],.agg #[.int .u64 0,.int .u64 0],.slice none 0 0,.slice none 0 0] 8 rfl (World.shaped_of_RefB (by kernel_rfl) (by kernel_rfl)) (by kernel_rfl) (by kernel_rfl) (by kernel_rfl) (aUj os _)) ?_
 intro W base args ds gs before hval0 hW _ _ hL _;have hval:∀(j:Nat) t v,Tryz.f3.params[j]? =some t->args[j]? =some v->Value.okWide Tryz.prog W .any base t v:=hval0;have hW':=hW;obtain⟨p,q,hA0,hV,rfl,hfz,hnd⟩:=hW;have hA:DataW.TrodAll enc Tryz.prog W 0 (λ_=>true) true Tryz.f3.params.toList args.toList ds p:=hA0;rw[Tryz.params3] at hA hval;obtain⟨v0,vs0,d0,ds0,p0,q0,hargs,rfl,rfl,h0,r0⟩:=trodAll_cons hA;obtain⟨v1,vs1,d1,ds1,p1,q1,rfl,rfl,rfl,h1,r1⟩:=trodAll_cons r0;obtain⟨v2,vs2,d2,ds2,p2,q2,rfl,rfl,rfl,h2,r2⟩:=trodAll_cons r1;obtain⟨v3,vs3,d3,ds3,p3,q3,rfl,rfl,rfl,h3,r3⟩:=trodAll_cons r2;obtain⟨rfl,rfl,rfl⟩:=trodAll_nil r3;obtain rfl:args= #[v0,v1,v2,v3]:=by cases args;simp_all
 obtain⟨rfl,rfl⟩:=trodVars_none hV;obtain⟨x0,y0,rfl,m0,n0⟩:=aR1 (hval 0 23 v0 rfl rfl) h0;obtain⟨x1,y1,rfl,m1,n1⟩:=aR1 (hval 1 23 v1 rfl rfl) h1;obtain⟨rows2,s2,o2⟩:=aR7 iI.und (by rw[cH.cells];decide) (hval 2 _ v2 rfl rfl) h2;rw[cH.cells] at s2;have e2:=jL.rds o2;obtain⟨rows3,s3,o3⟩:=aR7 iQ.und (by rw[eW.cells];decide) (hval 3 _ v3 rfl rfl) h3;rw[eW.cells] at s3;have e3:=It.rds o3;refine(aS8 (aMx (kOf hL) s2 s3 m0 n0 m1 n1 e2 e3 λh' hx=>⟨rfl,hx⟩)).mono λe W' ⟨he,hk⟩=>?_;subst he;exact⟨_,rfl,aQ7 aYI aX4 (by rw[Tryz.params3];decide +kernel) Tryz.underlying4 (by kernel_rfl) rfl hW' hk rfl rfl rfl⟩
theorem j0:(Rows.relaySettlesRow.wf (OpenSpec.ofChange Rows.relaySettlesSpec))=true:=by kernel_rfl
theorem j1:(laidOutB Tryz.pinned.checked.prog)=true:=by kernel_rfl
theorem j2:(mapsRowed Tryz.pinned.checked.prog)=true:=by kernel_rfl
theorem j3:(Tryz.f3.params.all (Tryz.pinned.checked.prog.readableRec ·))=true:=by kernel_rfl
theorem j4:(namedTie Tryz.pinned.checked.prog Rows.relaySettlesRow.named Rows.relaySettlesSpec.vars)=true:=by kernel_rfl
theorem j5:((Rows.relaySettlesRow.stops==[]))=true:=by kernel_rfl
theorem j6:((Tryz.pinned.checked.prog.stops==[]))=true:=by kernel_rfl
theorem j7:((Rows.relaySettlesRow.knobs==[]))=true:=by kernel_rfl
theorem j8:((Tryz.pinned.checked.prog.stopKnobs==[]))=true:=by kernel_rfl
theorem j9:((Rows.relaySettlesRow.inPlace==Tryz.pinned.checked.prog.inPlace 3))=true:=by kernel_rfl
theorem j10:((Rows.relaySettlesRow.unfollowed==Tryz.pinned.checked.prog.unfollowed 3))=true:=by kernel_rfl
theorem j11:((Rows.relaySettlesRow.recurses==Tryz.pinned.checked.prog.recurses 3))=true:=by kernel_rfl
theorem j12:((Rows.relaySettlesRow.named==Tryz.pinned.checked.prog.varsNamed 3))=true:=by kernel_rfl
theorem j13:((Rows.relaySettlesRow.maps==(Tryz.f3.params.toList++Rows.relaySettlesSpec.plain.varTypes Tryz.pinned.checked.prog).any (Tryz.pinned.checked.prog.mapsRec ·)))=true:=by kernel_rfl
theorem j14:((Rows.relaySettlesRow.ifaces==(Tryz.f3.params.toList++Rows.relaySettlesSpec.plain.varTypes Tryz.pinned.checked.prog).any (Tryz.pinned.checked.prog.ifacesRec ·)))=true:=by kernel_rfl
theorem j15:((Rows.relaySettlesRow.mapsOut==Tryz.pinned.checked.prog.mapsAmong Tryz.f3.resultTypes.toList))=true:=by kernel_rfl
theorem j16:((Rows.relaySettlesRow.loops==(Tryz.f3.params.toList++Rows.relaySettlesSpec.plain.varTypes Tryz.pinned.checked.prog).any (Tryz.pinned.checked.prog.loopsFrom ·)))=true:=by kernel_rfl
theorem j17:((Rows.relaySettlesRow.wideKeys==(Tryz.f3.params.toList++Rows.relaySettlesSpec.plain.varTypes Tryz.pinned.checked.prog++Tryz.f3.resultTypes.toList).any (Tryz.pinned.checked.prog.wideKeysFrom ·)))=true:=by kernel_rfl
theorem j18:(Rows.relaySettlesSpec.vars.all (Tryz.pinned.checked.prog.varReadable ·))=true:=by kernel_rfl
theorem j19:(Tryz.f3.resultTypes.all (λt=>Tryz.pinned.checked.prog.readableRec t&&decide (t<Tryz.pinned.checked.prog.types.size)))=true:=by kernel_rfl
theorem j20:((Rows.relaySettlesRow.ifacesOut==Tryz.f3.resultTypes.toList.any (Tryz.pinned.checked.prog.ifacesRec ·)))=true:=by kernel_rfl
theorem j21:((Rows.relaySettlesRow.loopsOut==Tryz.f3.resultTypes.toList.any (Tryz.pinned.checked.prog.loopsFrom ·)))=true:=by kernel_rfl
theorem j22:((Rows.relaySettlesRow.plainKeys==Tryz.pinned.checked.prog.plainKeys))=true:=by kernel_rfl
theorem j23:(Rows.relaySettlesRow.shortTexts.isNone)=true:=by kernel_rfl
theorem j24:(Tryz.pinned.checked.prog.stopsHeard)=true:=by kernel_rfl
theorem j25:(Tryz.pinned.checked.prog.mayEnter)=true:=by kernel_rfl
theorem j26:((Rows.relaySettlesRow.lifted==Tryz.pinned.checked.prog.liftsFinal))=true:=by kernel_rfl
theorem j27:((Tryz.pinned.checked.prog.make==some Rows.relaySettlesRow.make))=true:=by kernel_rfl
theorem j28:((Rows.relaySettlesRow.kinds==(if Rows.relaySettlesRow.domain.isEmpty then [] else Tryz.f3.params.toList.map λt=>match Tryz.pinned.checked.prog.underlying t with|some (.int k)=>some k|_=>none)))=true:=by kernel_rfl
theorem j29:((Rows.relaySettlesRow.pinned==Rows.relaySettlesRow.pinnedBy))=true:=by kernel_rfl
theorem j30:((Rows.relaySettlesRow.veiled==(Tryz.f3.params.toList++Rows.relaySettlesSpec.plain.varTypes Tryz.pinned.checked.prog++Tryz.f3.resultTypes.toList).any (Tryz.pinned.checked.prog.veiledRec ·)))=true:=by kernel_rfl
theorem j31:(Rows.relaySettlesRow.veiledFits Tryz.pinned.checked.prog Tryz.f3.params.toList (Tryz.f3.params.toList++Rows.relaySettlesSpec.plain.varTypes Tryz.pinned.checked.prog++Tryz.f3.resultTypes.toList))=true:=by kernel_rfl
theorem closed:joinedFacts Tryz.pinned.checked.prog 3 Tryz.f3 Rows.relaySettlesSpec Rows.relaySettlesRow=true:=by
 unfold joinedFacts;simp only[yE];exact⟨⟨⟨⟨⟨⟨⟨⟨⟨⟨⟨⟨⟨⟨⟨⟨⟨⟨⟨⟨⟨⟨⟨⟨⟨⟨⟨⟨⟨⟨⟨j0,j1⟩,j2⟩,j3⟩,j4⟩,j5⟩,j6⟩,j7⟩,j8⟩,j9⟩,j10⟩,j11⟩,j12⟩,j13⟩,j14⟩,j15⟩,j16⟩,j17⟩,j18⟩,j19⟩,j20⟩,j21⟩,j22⟩,j23⟩,j24⟩,j25⟩,j26⟩,j27⟩,j28⟩,j29⟩,j30⟩,j31⟩
theorem over:Rows.relaySettlesRow.holds Tryz.pinned (OpenSpec.ofChange Rows.relaySettlesSpec):=
 OpenClaim.holds_of_wide 3 Tryz.f3 rfl rfl rfl rfl rfl rfl rfl ⟨rfl,rfl,rfl,rfl,rfl⟩ rfl rfl rfl rfl rfl (by kernel_rfl) Tryz.func3 closed
  (of_decide_eq_true (by kernel_rfl)) (by unfold Func.isWrapper;first|(rw[if_pos (by decide +kernel)];kernel_rfl)|(rw[if_neg (by decide +kernel)];exact⟨rfl,rfl⟩))
  (λos started H enc _=>lifted os started H enc)
theorem proved:Rows.RelaySettlesCardSaid:=
 Claim7.holds_tied_plain_at .later [] [.data] true (true,"12e170d1944b94b951b0328fcf00c140d74f7b04ee2d5a4f0f8bea72198918bd") true
  over (λ_ h=>by cases h) (by kernel_rfl) (λ_ h=>by cases h) relaySettles_row_tie rfl ⟨rfl,rfl⟩ (by kernel_rfl) rfl
  (λf fn hf hfn=>by
   obtain rfl:f=3:=aKh ((show Tryz.prog.funcNamed Rows.relaySettlesRow.func=some 3 by kernel_rfl).symm.trans hf) |>.symm;obtain rfl:fn=Tryz.f3:=(aKh (Tryz.func3.symm.trans hfn)).symm;exact⟨by kernel_rfl,λj t ht=>by
    have hall:(Tryz.f3.params.toList.all λu=>!Tryz.prog.wantsStandIn u)=true:=by kernel_rfl
    have hm:t∈Tryz.f3.params.toList:=by simpa using Array.mem_of_getElem? ht
    exact(show Tryz.prog.wantsStandIn t=false by simpa using aDC.1 hall t hm)⟩)
  (by kernel_rfl)
#print axioms proved
end Go.Proofs.YtppgkeodaejgcaaGreatDoor.relaySettles
