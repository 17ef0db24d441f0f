/- The texts of this claim, put together. -/
import Derived.Test.YtppgkeodaejgcaaGreatDoorSnLVC8
set_option linter.all false
set_option maxRecDepth 100000
open Go.Instr (loadAt fieldAt indexAt extract buildSlice build)
namespace Go.Proofs.YtppgkeodaejgcaaGreatDoor
section
open Go
def fZ.lfc{h:PH}{v:Value}{l:List LV}(S:fZ h 5 v (l.map qT)){j:Nat}{y:LV}(hy:l[j]? =some y):
  ∃b o,dH PG (indexAt cN v (.int .i64 (j:Int)))=some (pT b o)∧dB h ⟨b,o,none⟩=some (.int .i64 y.1.i)∧dB h ⟨b,o+1,none⟩=some (.int .i64 y.1.n)∧dB h ⟨b,o+2,none⟩=some (.string (tx y.1.p.k))∧dB h ⟨b,o+2+1,none⟩=some (.string (tx y.1.p.v)):=by
 obtain⟨b,o,h1,h2,-⟩:=S.fields cN.und cB.info cB.size (k:=.i64) (j:=j) (r:=qT y) (by rw[wA,hy];rfl);exact⟨b,o,h1,h2 0 _ rfl,h2 1 _ rfl,h2 2 _ rfl,h2 3 _ rfl⟩
def oB.offs{h0 h:PH}{v:Value}{fs:List Lf}(H:oB h0 h v fs){b m:Nat}(kb:h0 b≠none)(km:h0 m≠none):∃l:List LV,l.map (·.1)=fs∧fZ h 5 v (l.map qT)∧LfS h l∧Off b m v∧∀y∈l,Off b m y.2:=by
 obtain⟨l,F,e,O,f,L⟩:=H.here;refine⟨l,e,O.slR,L.lfs,λa n c ev=>f.off kb km _ (aGn O a n c ev),λy hy a n c ev=>?_⟩;obtain⟨G,OG,fG,-⟩:=L y hy;exact fG.off kb km _ (aGn OG a n c ev)
def aBU:List Lf->List Tx
 | []=>[]
 | f::l=>(if (qU f).isSome then aMa f else [])++aBU l
def aQ0(l:List Lf)(f:Lf):aBU (l++[f])=aBU l++(if (qU f).isSome then aMa f else []):=by
 induction l with
 | nil=>simp[aBU]
 | cons a l ih=>simp[aBU,ih]
def aRI(root:Tx)(l:List Lf)(f:Lf):pH root (l++[f])=(pH root l&&(qU f==some root)):=by
 unfold pH;simp
def aOj{h:PH}{root:Tx}{ab:Bool}{v:Value}{l:List LV}{b m:Nat}{A:List Tx}{K:List Nat}(H:Bk b m A K h)(S:fZ h 5 v (l.map qT))(HS:LfS h l)(ov:Off b m v)(oy:∀y∈l,Off b m y.2)(hl:l.length≤1000)(hb:∀y∈l,y.1.Bd){k:cD}
  (hk:∀h',Bk b m (aBU (l.map (·.1))++A) K h'->cQ [b,m] h h'->k (.bool (pH root (l.map (·.1)))) h'):
  aT PG xX #[pT b 0,.string (tx root),Pf.val ab v] h k:=by
 apply aA6.call;unfold aA6;intro r1 hr1
 try rw[cW]
 have hr1b:r1∉[b,m]:=(eK.one hr1).off (H.known b (by simp)) (H.known m (by simp)) r1 (by simp);have u1:dD h (h.set r1 (.cells (Value.cells (Pf.val ab v)) cC)):=cQ.new hr1;have X1:Bx (h.set r1 (.cells (Value.cells (Pf.val ab v)) cC)) r1 [.bool ab,v]:=Bx.new;generalize h.set r1 (.cells (Value.cells (Pf.val ab v)) cC)=h1 at *;refine⟨λvs h'=>∃i:Nat,i≤l.length∧vs=[pT b 0,.string (tx root),pT r1 0,.bool (pH root ((l.take i).map (·.1))),.int .i64 (i:Int)]∧Bk b m (aBU ((l.take i).map (·.1))++A) K h'∧cQ [b,m] h1 h',gQ l.length 4,⟨0,by omega,rfl,H.ext u1,cQ.refl⟩,?_⟩;rintro ρ h' ⟨i,hi,hvs,B,u⟩;simp only[iH,jA,lN,and_true] at hvs;obtain⟨v0,v1,v2,v3,v4⟩:=hvs;unfold aFw;rw[v0,v1,v2,v3,v4];have X:=X1.upd u hr1b;have lv:cG PG h' (loadAt cN (pT r1 1))=some v:=by rw[cN.load,X.cell];rfl
 have ll:=aJY S;by_cases hlt:i<l.length
 ·have g:((i:Int)<(l.length:Int))=True:=eq_true (by omega);have gi:=qN (i:=i) (by omega);obtain⟨y,hy⟩:∃y,l[i]? =some y:=⟨_,lJ hlt⟩;have hym:=tA hy;obtain⟨pa,e1,e2⟩:=((S.ext u1).upd u ov).lf hy;have hbd:=hb y hym;have et:(l.take (i+1)).map (·.1)=(l.take i).map (·.1)++[y.1]:=by rw[zLU,hy];simp
  have key:∀(t:Tx) (o:Bool) {h2:PH},Bk b m ((if (qU y.1).isSome then aMa y.1 else [])++(aBU ((l.take i).map (·.1))++A)) K h2->cQ [b,m] h' h2->(o&&decide (t=root))=(qU y.1==some root)->
    (∃i':Nat,i'≤l.length∧([pT b 0,.string (tx root),pT r1 0,.bool (pH root ((l.take i).map (·.1))&&(o&&decide (t=root))),.int .i64 ((i+1:Nat):Int)]:List Value)=[pT b 0,.string (tx root),pT r1 0,.bool (pH root ((l.take i').map (·.1))),.int .i64 (i':Int)]∧Bk b m (aBU ((l.take i').map (·.1))++A) K h2∧cQ [b,m] h1 h2):=by
   intro t o h2 B2 u2 ho;refine⟨i+1,by omega,?_,B2.mono λa ha=>?_,u.trans u2⟩
   ·rw[et,aRI,ho]
   ·rw[et,aQ0] at ha;simp only[kB] at ha ⊢;rcases ha with(ha|ha)|ha
    ·exact .inr (.inl ha)
    ·exact .inl ha
    ·exact .inr (.inr ha)
  simp only[cC.f1,fQ,lv,ll,g,e1,e2,cE,reduceIte,cZ,Nat.reduceAdd];refine aUP B (((HS y hym).ext u1).upd u (oy y hym)) (oy y hym) (by have:=hbd.m;omega) (by have:=hbd.k;have:=hbd.v;omega) (λhno h2 B2 u2=>?_) (λhok h2 B2 u2=>?_)
  ·have hc:=aUC hno;have hfin:=key [] false (B2.mono λa ha=>by rw[hc] at ha;simpa using ha) u2 (by rw[hc];rfl);simp only[sJ,aDL] at hfin;cases hcl:pH root ((l.take i).map (·.1)) with
   | true=>
    simp only[gi,cE,reduceIte,cZ,Nat.reduceAdd];exact⟨hfin,by simp[gQ,v4];omega⟩
   | false=>
    simp only[gi,cE,reduceIte,cZ,Nat.reduceAdd];exact⟨hfin,by simp[gQ,v4];omega⟩
  ·have hc:=aUL hok;have hfin:=key (aJ4 y.1.n.toNat (aPf y.1)) true (B2.mono λa ha=>by rw[hc] at ha;simpa using ha) u2 (by
    rw[hc,zLp];by_cases c:aJ4 y.1.n.toNat (aPf y.1)=root
    ·simp[c]
    ·simp[c])
   simp only[zLp] at hfin;cases hcl:pH root ((l.take i).map (·.1)) with
   | true=>
    rw[hcl] at hfin;simp only[zLp] at hfin;simp only[aF5,gi,cE,reduceIte,cZ,Nat.reduceAdd];exact⟨hfin,by simp[gQ,v4];omega⟩
   | false=>
    rw[hcl] at hfin;simp only[sJ] at hfin;simp only[gi,cE,reduceIte,cZ,Nat.reduceAdd];exact⟨hfin,by simp[gQ,v4];omega⟩
 ·have g:((i:Int)<(l.length:Int))=False:=eq_false (by omega);rw[lY (by omega)] at B;rw[lY (by omega)];simp only[cC.f1,fQ,lv,ll,g,cE,reduceIte,cZ,Nat.reduceAdd];exact hk h' B (u1.upd.trans u)
def aK1(l:List Lf)(q:Pr):Bool:=match l with
 | [f]=>f.p==q
 | _=>false
def aUH{l:List Lf}(h:l.length≠1)(q:Pr):aK1 l q=false:=by
 match l,h with
 | [],_=>rfl
 | [f],h=>exact absurd rfl h
 | _::_::_,_=>rfl
def aYe(root s k v:Tx):aEG root s k v=((iI s).2==0 && !(iI s).1.ab&&aK1 (iI s).1.lv ⟨k,v⟩&&pH root (iI s).1.lv):=by
 unfold aEG aK1;rfl
def aI0(s:Tx):List Tx:=if (iI s).2=0∧(iI s).1.ab=false∧(iI s).1.lv.length=1 then aBU (iI s).1.lv else []
def aSr{h:PH}{root s key value:Tx}{b m:Nat}{A:List Tx}{K:List Nat}(H:Bk b m A K h)(hs:s.length≤1000000000){k:cD}(hk:∀h',Bk b m (aI0 s++A) K h'->cQ [b,m] h h'->k (.bool (aEG root s key value)) h'):
  aT PG aA3 #[pT b 0,.string (tx root),.string (tx s),.string (tx key),.string (tx value)] h k:=by
 apply aDM.call;unfold aDM;have kb:=H.known b (by simp);have km:=H.known m (by simp);refine aQU hs λh1 v L1 u1=>?_;have hbd:=aL1 s;have hl2:=aKJ s;rw[aYe] at hk;unfold aI0 at hk;generalize iI s=P at *;obtain⟨⟨ab,fs⟩,e⟩:=P;simp only at L1 hbd hl2 hk ⊢;simp only[cE,reduceIte,cZ,Nat.reduceAdd];intro r5 hr5
 try rw[cW]
 have hr5h:h r5=none:=u1.none hr5;refine cC.fill (vs:=[.bool ab,v]) hr5 rfl (by
  have:=L1.isc;simp[fW];exact this) λh2 X2 u2=>?_
 have e2:=u1.trans u2;have L2:=L1.upd u2 (by simp);obtain⟨l,el,S2,HS2,ov,oy⟩:=L2.offs kb km;have hll:l.length=fs.length:=by rw[←el,iV]
 have B2:=H.ext e2;have la:cG PG h2 (loadAt gT (pT r5 0))=some (.bool ab):=by rw[gT.load,X2.cell];rfl
 have lv:cG PG h2 (loadAt cN (pT r5 1))=some v:=by rw[cN.load,X2.cell];rfl
 have ll:=aJY S2;have bad:¬(e=0∧ab=false∧fs.length=1)->k (.bool false) h2:=λhn=>by
  have:=hk h2;rw[if_neg hn] at this;have hf:(e==0 && !ab&&aK1 fs ⟨key,value⟩&&pH root fs)=false:=by
   by_cases c0:e=0
   ·cases ab with
    | true=>simp
    | false=>rw[aUH (λh=>hn ⟨c0,rfl,h⟩)];simp
   ·simp[c0]
  rw[hf] at this;exact this B2 e2.upd
 by_cases c0:e=0
 case neg=>
  have q:(e !=0)=true:=by simpa using c0
  simp only[kW,q,cE,reduceIte,cZ,Nat.reduceAdd];exact bad λh=>c0 h.1
 have q:(e !=0)=false:=by simp[c0]
 cases ab with
 | true=>
  simp only[kW,q,cC.f0,la,cE,reduceIte,cZ,Nat.reduceAdd];exact bad λh=>by cases h.2.1
 | false=>
  by_cases c1:fs.length=1
  case neg=>
   have q1:((l.length:Int) !=1)=true:=by simp;omega
   simp only[kW,q,q1,cC.f0,cC.f1,fQ,la,lv,ll,cE,reduceIte,cZ,Nat.reduceAdd];exact bad λh=>c1 h.2.2
  have q1:((l.length:Int) !=1)=false:=by simp;omega
  obtain⟨y,rfl⟩:=List.length_eq_one_iff.1 (show l.length=1 by omega);simp only[iH,jA] at el;subst el;simp only[kW,q,q1,cC.f0,cC.f1,fQ,la,lv,ll,Pf.boxC X2,cE,reduceIte,cZ,Nat.reduceAdd];refine aOj B2 S2 HS2 ov oy (by simp) (λz hz=>hbd z.1 (by simp only[gB] at hz;subst hz;simp)) λh3 B3 u3=>?_;have U3:cQ [b,m] h h3:=e2.upd.trans u3;have hk:=hk h3;rw[if_pos ⟨c0,rfl,c1⟩] at hk;have hk:=hk B3 U3;have X3:=X2.upd u3 (λhm=>by
   have:=(eK.one hr5h).off kb km r5 (by simp);exact this hm)
  have lv3:cG PG h3 (loadAt cN (pT r5 1))=some v:=by rw[cN.load,X3.cell];rfl
  obtain⟨x,o,i1,-,-,i4,i5⟩:=(S2.upd u3 ov).lfc (j:=0) (y:=y) rfl;rw[show((0:Nat):Int)=0 from rfl] at i1;simp only[c0,beq_self_eq_true,zLq,zLp] at hk;have hpe:aK1 [y.1] ⟨key,value⟩=(decide (y.1.p.k=key)&&decide (y.1.p.v=value)):=by
   rw[zLm];obtain⟨⟨_,_,⟨pk,pv⟩,_⟩,_⟩:=y;simp[aK1]
  rw[hpe] at hk;simp only[iH,jA];cases hc:pH root [y.1] with
  | false=>
   rw[hc,aDL] at hk;simp only[cE,reduceIte,cZ,Nat.reduceAdd];exact hk
  | true=>
   rw[hc,Bool.and_true] at hk;by_cases ck:y.1.p.k=key
   ·have d:=decide_eq_true ck;rw[d,zLp] at hk;simp only[lv3,i1,cC.f1,cB.f2,cM.f0,cM.f1,fQ,bT.load,i4,i5,aF5,d,cE,reduceIte,cZ,Nat.reduceAdd];exact hk
   ·have d:=decide_eq_false ck;rw[d,sJ] at hk;simp only[lv3,i1,cC.f1,cB.f2,cM.f0,fQ,bT.load,i4,aF5,d,cE,reduceIte,cZ,Nat.reduceAdd];exact hk
def aFB(root:Tx)(l:List Lf)(k:Tx):Bool:=match l with
 | []=>root==oD []
 | [f]=>(f.i==0&&decide (k<f.p.k))||(f.i==IntKind.i64.wrap (f.n-1)&&decide (f.p.k<k))
 | f::g::_=>f.n==g.n&&(IntKind.i64.wrap (f.i+1)==g.i)&&decide (f.p.k<k)&&decide (k<g.p.k)
def aUg(root s k:Tx):aE5 root s k=((iI s).2==0&&(iI s).1.ab&&decide (1≤k.length)&&decide (k.length≤16)&&pH root (iI s).1.lv&&aFB root (iI s).1.lv k):=by
 unfold aE5 aFB;rfl
def aLK(s k:Tx):List Tx:=if (iI s).2=0∧(iI s).1.ab=true∧1≤k.length∧k.length≤16 then aBU (iI s).1.lv++(if (iI s).1.lv=[] then aGH [] else []) else []
def aUU{h:PH}{root s key:Tx}{b m:Nat}{A:List Tx}{K:List Nat}(H:Bk b m A K h)(hs:s.length≤1000000000){k:cD}(hk:∀h',Bk b m (aLK s key++A) K h'->cQ [b,m] h h'->k (.bool (aE5 root s key)) h'):
  aT PG aCy #[pT b 0,.string (tx root),.string (tx s),.string (tx key)] h k:=by
 apply uG.call;unfold uG;have kb:=H.known b (by simp);have km:=H.known m (by simp);have lk:dH PG (Builtin.len_ #[bT] bR #[.string (tx key)])=some (.int .i64 (key.length:Int)):=by rw[lS bT.und,iF]
 refine aQU hs λh1 v L1 u1=>?_;have hbd:=aL1 s;have hl2:=aKJ s;rw[aUg] at hk;unfold aLK at hk;generalize iI s=P at *;obtain⟨⟨ab,fs⟩,e⟩:=P;simp only at L1 hbd hl2 hk ⊢;simp only[cE,reduceIte,cZ,Nat.reduceAdd];intro r5 hr5
 try rw[cW]
 have hr5h:h r5=none:=u1.none hr5;refine cC.fill (vs:=[.bool ab,v]) hr5 rfl (by
  have:=L1.isc;simp[fW];exact this) λh2 X2 u2=>?_
 have e2:=u1.trans u2;have L2:=L1.upd u2 (by simp);obtain⟨l,el,S2,HS2,ov,oy⟩:=L2.offs kb km;have hll:l.length=fs.length:=by rw[←el,iV]
 have B2:=H.ext e2;have la:cG PG h2 (loadAt gT (pT r5 0))=some (.bool ab):=by rw[gT.load,X2.cell];rfl
 have ll:=aJY S2;have bad:¬(e=0∧ab=true∧1≤key.length∧key.length≤16)->k (.bool false) h2:=λhn=>by
  have:=hk h2;rw[if_neg hn] at this;have hf:(e==0&&ab&&decide (1≤key.length)&&decide (key.length≤16)&&pH root fs&&aFB root fs key)=false:=by
   by_cases c0:e=0
   ·cases ab with
    | false=>simp
    | true=>
     by_cases c1:1≤key.length
     ·have c2:¬key.length≤16:=λh=>hn ⟨c0,rfl,c1,h⟩;simp[c2]
     ·simp[c1]
   ·simp[c0]
  rw[hf] at this;exact this B2 e2.upd
 by_cases c0:e=0
 case neg=>
  have q:(e !=0)=true:=by simpa using c0
  simp only[kW,q,cE,reduceIte,cZ,Nat.reduceAdd];exact bad λh=>c0 h.1
 have q:(e !=0)=false:=by simp[c0]
 cases ab with
 | false=>
  simp only[kW,q,cC.f0,la,cE,reduceIte,cZ,Nat.reduceAdd];exact bad λh=>by cases h.2.1
 | true=>
  by_cases d1:key.length<1
  ·have g1:((key.length:Int)<1)=True:=eq_true (by omega);simp only[kW,q,cC.f0,la,lk,g1,cE,reduceIte,cZ,Nat.reduceAdd];exact bad λh=>by omega
  have g1:((key.length:Int)<1)=False:=eq_false (by omega);by_cases d2:16<key.length
  ·have g2:((16:Int)<(key.length:Int))=True:=eq_true (by omega);simp only[kW,q,cC.f0,la,lk,g1,g2,cE,reduceIte,cZ,Nat.reduceAdd];exact bad λh=>by omega
  have g2:((16:Int)<(key.length:Int))=False:=eq_false (by omega);have f1:decide (1≤key.length)=true:=decide_eq_true (by omega);have f2:decide (key.length≤16)=true:=decide_eq_true (by omega);simp only[kW,q,cC.f0,la,lk,g1,g2,Pf.boxC X2,cE,reduceIte,cZ,Nat.reduceAdd];refine aOj B2 S2 HS2 ov oy (by omega) (λz hz=>hbd z.1 (by rw[←el];exact zL8 hz)) λh3 B3 u3=>?_;rw[el] at B3 ⊢;have U3:cQ [b,m] h h3:=e2.upd.trans u3;have X3:=X2.upd u3 (λhm=>by
   have:=(eK.one hr5h).off kb km r5 (by simp);exact this hm)
  have lv3:cG PG h3 (loadAt cN (pT r5 1))=some v:=by rw[cN.load,X3.cell];rfl
  have S3:=S2.upd u3 ov;have hk:∀h',Bk b m ((aBU fs++(if fs=[] then aGH [] else []))++A) K h'->cQ [b,m] h h'->k (.bool (pH root fs&&aFB root fs key)) h':=λh' hB hU=>by
   have:=hk h';rw[if_pos ⟨c0,rfl,by omega,by omega⟩,f1,f2,c0] at this;simp only[beq_self_eq_true,zLp,Bool.and_self] at this;exact this hB hU
  cases hc:pH root fs with
  | false=>
   rw[hc] at hk;simp only[sJ] at hk;simp only[cE,reduceIte,cZ,Nat.reduceAdd];have hne:fs≠[]:=λh=>by rw[h] at hc;cases hc
   rw[if_neg hne,zLQ] at hk;exact hk h3 B3 U3
  | true=>
   rw[hc] at hk;simp only[zLp] at hk;subst el
   match l,S3,ll,hl2,hk,B3 with
   | [],S3,ll,hl2,hk,B3=>
    have q0:(((([]:List LV).length:Nat):Int)==0)=true:=rfl;simp only[lv3,ll,iG,q0,cC.f1,fQ,cE,reduceIte,cZ,Nat.reduceAdd];refine aVz B3 (l:=[]) (by simp) (eM.nil (e:=cM) (size:=2)).slR (λa n c e=>by cases e) (λp hp=>by cases hp) λh4 B4 u4=>?_;have:=hk h4 (B4.mono λa ha=>by
     simp only[jA,if_true,kB] at ha ⊢;rcases ha with(ha|ha)|ha
     ·cases ha
     ·exact .inl ha
     ·exact .inr (.inr ha)) (U3.trans u4)
    simp only[aF5,cE,reduceIte,cZ,Nat.reduceAdd];have ht:aFB root (([]:List LV).map (·.1)) key=decide (root=oD []):=by
     rw[zLm];simp[aFB]
    rw[ht] at this;exact this
   | [y],S3,ll,hl2,hk,B3=>
    have q0:((([y].length:Nat):Int)==0)=false:=rfl;have q1:((([y].length:Nat):Int)==1)=true:=rfl;obtain⟨x,o,i1,i2,i3,i4,-⟩:=S3.lfc (j:=0) (y:=y) rfl;rw[show((0:Nat):Int)=0 from rfl] at i1;have hk:=hk h3 (B3.mono λa ha=>by simpa using ha) U3;have ht:aFB root ([y].map (·.1)) key=((y.1.i==0&&decide (key<y.1.p.k))||(y.1.i==IntKind.i64.wrap (y.1.n-1)&&decide (y.1.p.k<key))):=rfl;rw[ht] at hk;simp only[lv3,ll,iG,q0,q1,i1,cC.f1,cB.f0,cB.f1,cB.f2,cM.f0,fQ,bR.load,bT.load,i2,i3,i4,cE,reduceIte,cZ,Nat.reduceAdd];cases hi:y.1.i==0 with
    | true=>
     rw[hi] at hk;simp only[zLp] at hk;simp only[i1,cB.f0,cB.f1,cB.f2,cM.f0,bR.load,bT.load,i2,i3,i4,aO5,iG,cE,reduceIte,cZ,Nat.reduceAdd];cases hj:y.1.i==IntKind.i64.wrap (y.1.n-1) with
     | true=>
      rw[hj] at hk;simp only[zLp] at hk;by_cases ck:key<y.1.p.k
      ·have d:=decide_eq_true ck;rw[d] at hk;simp only[Bool.true_or] at hk;simp only[i1,cB.f2,cM.f0,bT.load,i4,yM,d,cE,reduceIte,cZ,Nat.reduceAdd];exact hk
      ·have d:=decide_eq_false ck;rw[d] at hk;simp only[aKk] at hk;simp only[i1,cB.f2,cM.f0,bT.load,i4,yM,d,cE,reduceIte,cZ,Nat.reduceAdd];exact hk
     | false=>
      rw[hj] at hk;simp only[sJ,Bool.or_false] at hk;by_cases ck:key<y.1.p.k
      ·have d:=decide_eq_true ck;rw[d] at hk;simp only[d,cE,reduceIte,cZ,Nat.reduceAdd];exact hk
      ·have d:=decide_eq_false ck;rw[d] at hk;simp only[d,cE,reduceIte,cZ,Nat.reduceAdd];exact hk
    | false=>
     rw[hi] at hk;simp only[sJ,aKk] at hk;simp only[i1,cB.f0,cB.f1,bR.load,i2,i3,iG,cE,reduceIte,cZ,Nat.reduceAdd];cases hj:y.1.i==IntKind.i64.wrap (y.1.n-1) with
     | true=>
      rw[hj] at hk;simp only[zLp] at hk;simp only[i1,cB.f2,cM.f0,bT.load,i4,yM,cE,reduceIte,cZ,Nat.reduceAdd];exact hk
     | false=>
      rw[hj] at hk;simp only[sJ] at hk;simp only[cE,reduceIte,cZ,Nat.reduceAdd];exact hk
   | y::z::r,S3,ll,hl2,hk,B3=>
    have q0:((((y::z::r).length:Nat):Int)==0)=false:=by simp;omega
    have q1:((((y::z::r).length:Nat):Int)==1)=false:=by simp;omega
    obtain⟨x,o,i1,i2,i3,i4,-⟩:=S3.lfc (j:=0) (y:=y) rfl;obtain⟨x',o',j1,j2,j3,j4,-⟩:=S3.lfc (j:=1) (y:=z) rfl;rw[show((0:Nat):Int)=0 from rfl] at i1;rw[show((1:Nat):Int)=1 from rfl] at j1;have hk:=hk h3 (B3.mono λa ha=>by simpa using ha) U3;have ht:aFB root ((y::z::r).map (·.1)) key=(y.1.n==z.1.n&&(IntKind.i64.wrap (y.1.i+1)==z.1.i)&&decide (y.1.p.k<key)&&decide (key<z.1.p.k)):=rfl;rw[ht] at hk;have hsw:(z.1.i==IntKind.i64.wrap (y.1.i+1))=(IntKind.i64.wrap (y.1.i+1)==z.1.i):=by
     rw[zLm];simp only[beq_iff_eq];exact eq_comm
    simp only[lv3,ll,iG,q0,q1,i1,j1,cC.f1,cB.f0,cB.f1,cB.f2,cM.f0,fQ,bR.load,bT.load,i2,i3,i4,j2,j3,j4,cE,reduceIte,cZ,Nat.reduceAdd];cases h1':y.1.n==z.1.n with
    | false=>
     rw[h1'] at hk;simp only[sJ] at hk;simp only[cE,reduceIte,cZ,Nat.reduceAdd];exact hk
    | true=>
     rw[h1'] at hk;simp only[zLp] at hk;simp only[i1,j1,cB.f0,bR.load,i2,j2,iG,hsw,cE,reduceIte,cZ,Nat.reduceAdd];cases h2':IntKind.i64.wrap (y.1.i+1)==z.1.i with
     | false=>
      rw[h2'] at hk;simp only[sJ] at hk;simp only[cE,reduceIte,cZ,Nat.reduceAdd];exact hk
     | true=>
      rw[h2'] at hk;simp only[zLp] at hk;simp only[i1,cB.f2,cM.f0,bT.load,i4,yM,cE,reduceIte,cZ,Nat.reduceAdd];by_cases c3:y.1.p.k<key
      ·have d:=decide_eq_true c3;rw[d] at hk;simp only[zLp] at hk;simp only[j1,cB.f2,cM.f0,bT.load,j4,aO5,d,cE,reduceIte,cZ,Nat.reduceAdd];exact hk
      ·have d:=decide_eq_false c3;rw[d] at hk;simp only[sJ] at hk;simp only[d,cE,reduceIte,cZ,Nat.reduceAdd];exact hk
end
section
open Go Bld
def aVG:jV PG (buildSlice cJ 0 #[])=some (.cells #[] cM,λr=>pure (.slice (some ⟨r,0,none⟩) 0 0)):=by kernel_rfl
def aM4{h:PH}{v x:Value}{l ys:List Pr}{F:List Nat}(O:eM h cM 2 v (l.map Pr.cells) F)(S:fZ h 2 x (ys.map Pr.cells))(hl:l.length+ys.length≤1000000){t:TypeId}{k:cD}
  (hk:∀v' h' F',eM h' cM 2 v' ((l++ys).map Pr.cells) F'->cQ F h h'->(∀b∈F',b∈F∨h b=none)->k v' h'):dC PG (Builtin.append_ #[cJ,cJ] t #[v,x]) h k:=by
 refine jK cJ.und cJ.und cM.info cM.size cM.bytes cM.zero rfl (by decide) O S (Pr.isCell ys) (by simp;omega) ?_;intro v' h' F' O' u' k' _;rw[←pO] at O';exact hk v' h' F' O' u' k'
def aAP.now{h h1 h':PH}{b:Nat}{s:St}{G F:List Nat}{n:List Pr}{nv bv v:Value}(H:aAP h b s G)(hb:h b=some (.cells #[nv,.int .u64 ((s.height-(s.blocks.length-1):Nat):Int),bv] dP (0,0)))(u:dD h h1)(O:eM h1 cM 2 v (n.map Pr.cells) F)(fF:eK h F)(hok:St.Ok {s with now:=n})
  (e:h'=h1.set b (.cells #[v,.int .u64 ((s.height-(s.blocks.length-1):Nat):Int),bv] dP (0,0))):aAP h' b {s with now:=n} (G++F)∧cQ [b] h h'∧(∀g∈G++F,g∈G∨h g=none):=by
 subst e;obtain⟨nv',bv',bl,h1',h2,h3,h4,h5,h6,h7,h8,h9⟩:=H.here;rw[hb] at h1';simp only[zL9,Obj.cells.injEq,Array.mk.injEq,lN,and_true,true_and] at h1';obtain⟨rfl,rfl⟩:=h1';have uu:cQ [b] h (h1.set b (.cells #[v,.int .u64 ((s.height-(s.blocks.length-1):Nat):Int),bv] dP (0,0))):=u.upd.trans (cQ.set (by simp));have hG:∀g∈G,g∉[b]:=λg hg=>by simp only[gB];rintro rfl;exact h8 hg
 have hF:∀g∈F,g∉[b]:=λg hg=>by
  simp only[gB];rintro rfl;have:=fF _ hg;rw[hb] at this;cases this
 have O':=O.upd (cQ.set (F:=[b]) (r:=b) (o:=(.cells #[v,.int .u64 ((s.height-(s.blocks.length-1):Nat):Int),bv] dP (0,0))) (by simp)) hF;refine⟨⟨⟨v,bv,bl,dL,O'.slR,h3.upd uu λa n c e=>hG _ (h7 a n c e),λx hx=>⟨(h4 x hx).1.upd uu λa n c e=>hG _ ((h4 x hx).2 a n c e),λa n c e=>zLk _ ((h4 x hx).2 a n c e)⟩,h5,λa n c e=>zLl _ (aGn O' a n c e),λa n c e=>zLk _ (h7 a n c e),?_,λg hg=>?_⟩,hok⟩,uu,λg hg=>?_⟩
 ·intro hm;rcases kB.1 hm with hm|hm
  ·exact h8 hm
  ·exact hF _ hm (by simp)
 ·rcases kB.1 hg with hg|hg
  ·obtain⟨o,ho⟩:=aH1.1 (h9 g hg);rw[uu.get ho (hG g hg)];simp
  ·exact O'.known g hg
 ·rcases kB.1 hg with hg|hg
  ·exact .inl hg
  ·exact .inr (fF g hg)
def aXc{h:PH}{b:Nat}{s:St}{G:List Nat}(H:aAP h b s G)(k v:Tx){kk:cD}(hk:∀h' G',aAP h' b (aCo s k v).1 G'->cQ [b] h h'->(∀g∈G',g∈G∨h g=none)->kk (.int .i64 (aCo s k v).2) h'):
  aT PG nR #[pT b 0,.string (tx k),.string (tx v)] h kk:=by
 apply yA.call;unfold yA;have fin1:(k.length<1∨16<k.length∨64<v.length)->kk (.int .i64 1) h:=λhb=>by
  have:=hk h G (by unfold aCo;rw[if_pos hb];exact H) cQ.refl (λg hg=>.inl hg);unfold aCo at this;rw[if_pos hb] at this;exact this
 by_cases d1:k.length<1
 ·have g1:((k.length:Int)==0)=true:=by simp;exact zLO (by omega)
  simp only[bT.len,iF,g1,cE,reduceIte];exact fin1 (.inl d1)
 have g1:((k.length:Int)==0)=false:=by simp;rintro rfl;simp at d1
 by_cases d2:16<k.length
 ·have g2:((16:Int)<(k.length:Int))=True:=eq_true (by omega);simp only[bT.len,iF,g1,g2,cE,reduceIte];exact fin1 (.inr (.inl d2))
 have g2:((16:Int)<(k.length:Int))=False:=eq_false (by omega);by_cases d3:64<v.length
 ·have g3:((64:Int)<(v.length:Int))=True:=eq_true (by omega);simp only[bT.len,iF,g1,g2,g3,cE,reduceIte];exact fin1 (.inr (.inr d3))
 have g3:((64:Int)<(v.length:Int))=False:=eq_false (by omega);have hr:¬(k.length<1∨16<k.length∨64<v.length):=by omega
 have hok:=H.ok;have hH:=H;obtain⟨A,M,B,c⟩:=hok.up.cut k;obtain⟨nv,bv,bl,h1,h2,h3,h4,h5,h6,h7,h8,h9⟩:=H.here;have c0:dB h ⟨b,0,none⟩=some nv:=by simp[dB,h1]
 have hlen:s.now.length=A.length+(M.length+B.length):=by rw[c.eq];simp
 have hfew:=hok.few;have hget:=c.get hok.up;simp only[bT.len,iF,g1,g2,g3,cE,reduceIte];refine aPb H c ?_;obtain⟨w1,x1,x2⟩:=h2.cutP (lo:=some (.int .i64 (A.length:Int))) (hi:=none) (a:=A.length) (m:=s.now.length) (.inr ⟨_,rfl⟩) (.inl ⟨rfl,rfl⟩) (by omega) (nC _);rw[zLJ] at x2;simp only[dP.f0,cJ.load,c0,x1,cE,reduceIte]
 -- what is left, laid
 have fin:∀t9,fZ h 2 t9 (B.map Pr.cells)->¬(iJ s.now k=none∧4096≤s.now.length)->sP kk (pT b 0) (.string (tx k)) (.string (tx v)) (.int .i64 (A.length:Int)) t9 h:=by
  intro t9 S9 hc;unfold sP;simp only[aVG,cE,reduceIte];intro r hr';refine fP ?_
  try rw[cW]
  have u1:dD h (h.set r (.cells #[] cM)):=cQ.new hr';have O1:eM (h.set r (.cells #[] cM)) cM 2 (.slice (some ⟨r,0,none⟩) 0 0) (([]:List Pr).map Pr.cells) [r]:=eM.lit (n:=0) (Pr.rows []) dL (by simp) (by decide) rfl;generalize h.set r (.cells #[] cM)=h1' at *;have f1:eK h [r]:=eK.one hr';have hb1:=u1.get h1;have c0:dB h1' ⟨b,0,none⟩=some nv:=by simp[dB,hb1]
  obtain⟨w2,y1,y2⟩:=(h2.ext u1).cutP (lo:=none) (hi:=some (.int .i64 (A.length:Int))) (a:=0) (m:=A.length) (.inl ⟨rfl,rfl⟩) (.inr ⟨_,rfl⟩) (by omega) (by omega);have eA:(s.now.take A.length).drop 0=A:=by rw[zLb,c.eq,List.take_left]
  rw[eA] at y2;simp only[dP.f0,cJ.load,c0,y1,cE,reduceIte];refine aM4 O1 y2 (by simp;omega) λv2 h2' F2 O2 u2 k2=>?_;rw[sK] at O2;have e2:dD h h2':=u1.fresh u2 f1;have f2:eK h F2:=f1.grow u1 k2;have hpb:dH PG (build cM #[(0,.string (tx k)),(1,.string (tx v))])=some (Pr.val ⟨k,v⟩):=aRt ⟨k,v⟩;have hpl:=aUb ⟨k,v⟩;simp only[hpb,hpl,cE,reduceIte];intro r3 hr3;refine fP ?_
  try rw[cW]
  have u3:dD h2' (h2'.set r3 (.cells #[.string (tx k),.string (tx v)] cM)):=cQ.new hr3;have s3:fZ (h2'.set r3 (.cells #[.string (tx k),.string (tx v)] cM)) 2 (.slice (some ⟨r3,0,none⟩) 1 1) ([(⟨k,v⟩:Pr)].map Pr.cells):=(eM.lit (n:=1) (Pr.rows [⟨k,v⟩]) dL (by simp) (by decide) rfl).slR;generalize h2'.set r3 (.cells #[.string (tx k),.string (tx v)] cM)=h3' at *;have e3:dD h h3':=e2.trans u3;refine aM4 (O2.ext u3) s3 (by simp;omega) λv4 h4' F4 O4 u4 k4=>?_;have e4:dD h h4':=e3.fresh u4 f2;have f4:eK h F4:=f2.grow e3 k4;refine aM4 O4 (S9.ext e4) (by simp;omega) λv5 h5' F5 O5 u5 k5=>?_;have e5:dD h h5':=e4.fresh u5 f4;have f5:eK h F5:=f4.grow e4 k5;have eL:(A++[(⟨k,v⟩:Pr)])++B=oO s.now ⟨k,v⟩:=by rw[c.set hok.up];simp
  rw[eL] at O5;have hb5:=e5.get h1;have hvc:fW v5=true:=by obtain⟨_,_,e,_⟩:=O5.slR.here;rw[e];rfl
  try simp only[dP.f0,cE,reduceIte]
  refine iT cJ.und rfl hb5 (by simp) hvc cJ.info cJ.size ?_;have hs:aCo s k v=({s with now:=oO s.now ⟨k,v⟩},0):=by unfold aCo;rw[if_neg hr,if_neg hc]
  rw[hs] at hk;obtain⟨q1,q2,q3⟩:=aAP.now hH h1 e5 O5 f5 (hok.setOk hr hc) rfl;exact hk _ _ q1 q2 q3
 rcases c.mid with e|⟨q,e,e2⟩
 ·have gM:decide (M≠[])=false:=by simp[e]
  have hgn:iJ s.now k=none:=by rw[gM] at hget;simpa using hget
  have eB:s.now.drop A.length=B:=by rw[c.eq,List.drop_left,e,sK]
  rw[eB] at x2;have ln:=h2.len (t':=bR) cJ.und;rw[iV] at ln;by_cases d4:4096≤s.now.length
  ·have g4:((4096:Int)≤(s.now.length:Int))=True:=eq_true (by omega);simp only[gM,dP.f0,cJ.load,c0,ln,g4,cE,reduceIte];have hs:aCo s k v=(s,2):=by unfold aCo;rw[if_neg hr,if_pos ⟨hgn,d4⟩]
   rw[hs] at hk;exact hk h G hH cQ.refl (λg hg=>.inl hg)
  ·have g4:((4096:Int)≤(s.now.length:Int))=False:=eq_false (by omega);simp only[gM,dP.f0,cJ.load,c0,ln,g4,cE,reduceIte];exact fin w1 x2 (λh=>d4 h.2)
 ·have gM:decide (M≠[])=true:=by simp[e]
  have hgn:¬iJ s.now k=none:=λh=>by rw[h,gM] at hget;simp at hget
  have gi:IntKind.i64.wrap ((A.length:Int)+1)=((A.length+1:Nat):Int):=by rw[fH (by omega) (by omega)];omega
  have hM1:M.length=1:=by rw[e];rfl
  obtain⟨w3,z1,z2⟩:=h2.cutP (lo:=some (.int .i64 ((A.length+1:Nat):Int))) (hi:=none) (a:=A.length+1) (m:=s.now.length) (.inr ⟨_,rfl⟩) (.inl ⟨rfl,rfl⟩) (by omega) (nC _);have eB:(s.now.take s.now.length).drop (A.length+1)=B:=by
   rw[zLJ,c.eq,←nM];have:A.length+1=(A++M).length:=by rw[jM,hM1]
   rw[this,List.drop_left]
  rw[eB] at z2;simp only[gM,dP.f0,cJ.load,c0,gi,z1,cE,reduceIte];exact fin w3 z2 (λh=>hgn h.1)
def aYR{h:PH}{b:Nat}{s:St}{G:List Nat}(H:aAP h b s G)(k:Tx){kk:cD}(hk:∀h' G',aAP h' b (aFo s k).1 G'->cQ [b] h h'->(∀g∈G',g∈G∨h g=none)->kk (.int .i64 (aFo s k).2) h'):
  aT PG oN #[pT b 0,.string (tx k)] h kk:=by
 apply nT.call;unfold nT;have hok:=H.ok;have hH:=H;obtain⟨A,M,B,c⟩:=hok.up.cut k;obtain⟨nv,bv,bl,h1,h2,h3,h4,h5,h6,h7,h8,h9⟩:=H.here;have c0:dB h ⟨b,0,none⟩=some nv:=by simp[dB,h1]
 have hlen:s.now.length=A.length+(M.length+B.length):=by rw[c.eq];simp
 have hfew:=hok.few;have hget:=c.get hok.up;refine aPb H c ?_;rcases c.mid with e|⟨q,e,e2⟩
 ·have gM:decide (M≠[])=false:=by simp[e]
  have hgn:iJ s.now k=none:=by rw[gM] at hget;simpa using hget
  simp only[gM,cE,reduceIte];have hs:aFo s k=(s,3):=by unfold aFo;rw[if_pos hgn]
  rw[hs] at hk;exact hk h G hH cQ.refl (λg hg=>.inl hg)
 ·have gM:decide (M≠[])=true:=by simp[e]
  have hgn:¬iJ s.now k=none:=λh=>by rw[h,gM] at hget;simp at hget
  have gi:IntKind.i64.wrap ((A.length:Int)+1)=((A.length+1:Nat):Int):=by rw[fH (by omega) (by omega)];omega
  have hM1:M.length=1:=by rw[e];rfl
  obtain⟨w3,z1,z2⟩:=h2.cutP (lo:=some (.int .i64 ((A.length+1:Nat):Int))) (hi:=none) (a:=A.length+1) (m:=s.now.length) (.inr ⟨_,rfl⟩) (.inl ⟨rfl,rfl⟩) (by omega) (nC _);have eB:(s.now.take s.now.length).drop (A.length+1)=B:=by
   rw[zLJ,c.eq,←nM];have:A.length+1=(A++M).length:=by rw[jM,hM1]
   rw[this,List.drop_left]
  rw[eB] at z2;obtain⟨w2,y1,y2⟩:=h2.cutP (lo:=none) (hi:=some (.int .i64 (A.length:Int))) (a:=0) (m:=A.length) (.inl ⟨rfl,rfl⟩) (.inr ⟨_,rfl⟩) (by omega) (by omega);have eA:(s.now.take A.length).drop 0=A:=by rw[zLb,c.eq,List.take_left]
  rw[eA] at y2;simp only[gM,dP.f0,cJ.load,c0,gi,y1,z1,aVG,cE,reduceIte];intro r hr';refine fP ?_
  try rw[cW]
  have u1:dD h (h.set r (.cells #[] cM)):=cQ.new hr';have O1:eM (h.set r (.cells #[] cM)) cM 2 (.slice (some ⟨r,0,none⟩) 0 0) (([]:List Pr).map Pr.cells) [r]:=eM.lit (n:=0) (Pr.rows []) dL (by simp) (by decide) rfl;generalize h.set r (.cells #[] cM)=h1' at *;have f1:eK h [r]:=eK.one hr';refine aM4 O1 (y2.ext u1) (by simp;omega) λv2 h2' F2 O2 u2 k2=>?_;rw[sK] at O2;have e2:dD h h2':=u1.fresh u2 f1;have f2:eK h F2:=f1.grow u1 k2;have hb2:=e2.get h1;refine⟨by simp[dB,hb2],?_⟩;refine aM4 O2 (z2.ext e2) (by omega) λv5 h5' F5 O5 u5 k5=>?_;have e5:dD h h5':=e2.fresh u5 f2;have f5:eK h F5:=f2.grow e2 k5;rw[←c.del] at O5;have hb5:=e5.get h1;have hvc:fW v5=true:=by obtain⟨_,_,e,_⟩:=O5.slR.here;rw[e];rfl
  try simp only[dP.f0,cE,reduceIte]
  refine iT cJ.und rfl hb5 (by simp) hvc cJ.info cJ.size ?_;have hs:aFo s k=({s with now:=vJ s.now k},0):=by unfold aFo;rw[if_neg hgn]
  rw[hs] at hk;obtain⟨q1,q2,q3⟩:=aAP.now hH h1 e5 O5 f5 ⟨hok.up.del _,λp hp=>hok.fit p (aP6.1 hp).1,zLE (aMz _ _) hok.few,hok.blk,hok.h1,hok.h2,hok.h3,hok.h4⟩ rfl;exact hk _ _ q1 q2 q3
def aDp{h:PH}{b:Nat}{s:St}{G:List Nat}(H:aAP h b s G){kk:cD}(hk:kk (.int .u64 s.height) h):aT PG kF #[pT b 0] h kk:=by
 apply nZ.call;unfold nZ;have hok:=H.ok;obtain⟨nv,bv,bl,h1,h2,h3,h4,h5,h6,h7,h8,h9⟩:=H.here;have c1:dB h ⟨b,0+1,none⟩=some (.int .u64 ((s.height-(s.blocks.length-1):Nat):Int)):=by simp[dB,h1]
 have c2:dB h ⟨b,0+2,none⟩=some bv:=by simp[dB,h1]
 have ln:=h3.len (t':=bR) fO.und;rw[iV,show bl.length=s.blocks.length by rw[←h5,iV]] at ln;have a1:=hok.h1;have a2:=hok.h2;have a3:=hok.h3;have a4:=hok.h4;have e1:IntKind.i64.wrap ((s.blocks.length:Int)-1)=((s.blocks.length-1:Nat):Int):=by rw[fH (by omega) (by omega)];omega
 have e2:IntKind.u64.wrap ((s.blocks.length-1:Nat):Int)=((s.blocks.length-1:Nat):Int):=gO (by omega) (by omega);have e3:IntKind.u64.wrap (((s.height-(s.blocks.length-1):Nat):Int)+((s.blocks.length-1:Nat):Int))=(s.height:Int):=by rw[gO (by omega) (by omega)];omega
 simp only[dP.f1,dP.f2,cA.load,fO.load,c1,c2,ln,e1,aB1,e2,e3,cE,reduceIte];exact hk
def aXC{h:PH}{v x:Value}{l ys:List (Value×List Pr)}{F:List Nat}(O:eM h cJ 1 v (l.map aFO) F)(S:fZ h 1 x (ys.map aFO))(hy:∀y∈ys,fW y.1=true)(hl:l.length+ys.length≤1000000){t:TypeId}{k:cD}
  (hk:∀v' h' F',eM h' cJ 1 v' ((l++ys).map aFO) F'->cQ F h h'->(∀b∈F',b∈F∨h b=none)->k v' h'):dC PG (Builtin.append_ #[fO,fO] t #[v,x]) h k:=by
 refine jK fO.und fO.und cJ.info cJ.size cJ.bytes cJ.zero rfl (by decide) O S ?_ (by simp;omega) ?_
 ·intro r hr u hu;obtain⟨y,hyy,rfl⟩:=mJ.1 hr;simp only[aFO,gB] at hu;subst hu;exact hy y hyy
 intro v' h' F' O' u' k' _;rw[←pO] at O';exact hk v' h' F' O' u' k'
def aXp{h:PH}{b:Nat}{s:St}{G:List Nat}(H:aAP h b s G){kk:cD}(hk:∀h' G',aAP h' b (lV s).1 G'->cQ [b] h h'->(∀g∈G',g∈G∨h g=none)->kk (.tuple #[.int .u64 ((lV s).2.1:Int),.int .i64 (lV s).2.2]) h'):
  aT PG xQ #[pT b 0] h kk:=by
 apply nS.call;unfold nS;refine aDp H ?_;have hok:=H.ok;have hH:=H;have a1:=hok.h1;have a2:=hok.h2;have a3:=hok.h3;have a4:=hok.h4;by_cases d1:s.height=18446744073709551615
 ·have e1:IntKind.u64.wrap ((s.height:Int)+1)=0:=by
   rw[d1];rfl
  simp only[e1,show((0:Int)==0)=true from rfl,cE,reduceIte];have hs:lV s=(s,(0,12)):=by unfold lV;rw[if_pos d1]
  rw[hs] at hk;exact hk h G hH cQ.refl (λg hg=>.inl hg)
 have e1:IntKind.u64.wrap ((s.height:Int)+1)=((s.height+1:Nat):Int):=by rw[gO (by omega) (by omega)];omega
 have g1:(((s.height+1:Nat):Int)==0)=false:=by simp;omega
 obtain⟨nv,bv,bl,h1,h2,h3,h4,h5,h6,h7,h8,h9⟩:=H.here;have c0:dB h ⟨b,0,none⟩=some nv:=by simp[dB,h1]
 have c2:dB h ⟨b,0+2,none⟩=some bv:=by simp[dB,h1]
 have ln:=h3.len (t':=bR) fO.und;have hbn:bl.length=s.blocks.length:=by rw[←h5,iV]
 rw[iV,hbn] at ln;by_cases d2:4096≤s.blocks.length
 ·have g2:((4096:Int)≤(s.blocks.length:Int))=True:=eq_true (by omega);simp only[e1,g1,dP.f2,fO.load,c2,ln,g2,cE,reduceIte];have hs:lV s=(s,(0,2)):=by unfold lV;rw[if_neg d1,if_pos d2]
  rw[hs] at hk;exact hk h G hH cQ.refl (λg hg=>.inl hg)
 have g2:((4096:Int)≤(s.blocks.length:Int))=False:=eq_false (by omega);have l0:jV PG (buildSlice fO 0 #[])=some (.cells #[] cJ,λr=>pure (.slice (some ⟨r,0,none⟩) 0 0)):=by kernel_rfl
 simp only[e1,g1,dP.f0,dP.f2,cJ.load,fO.load,c0,c2,ln,g2,l0,cE,reduceIte];intro r hr';refine fP ?_
 try rw[cW]
 have u1:dD h (h.set r (.cells #[] cJ)):=cQ.new hr';have O1:eM (h.set r (.cells #[] cJ)) cJ 1 (.slice (some ⟨r,0,none⟩) 0 0) (([]:List (Value×List Pr)).map aFO) [r]:=eM.lit (n:=0) (aFO.rows []) dL (by simp) (by decide) rfl;generalize h.set r (.cells #[] cJ)=h1' at *;have f1:eK h [r]:=eK.one hr';refine aXC O1 (h3.ext u1) (λy hy=>(h4 y hy).1.isc) (by simp;omega) λv2 h2' F2 O2 u2 k2=>?_;rw[sK] at O2;have e2:dD h h2':=u1.fresh u2 f1;have f2:eK h F2:=f1.grow u1 k2;have hb2:=e2.get h1;refine⟨by simp[dB,hb2],?_⟩;have hnl:∃a n c,nv= .slice a n c:=by obtain⟨a,c,e,_⟩:=h2.here;exact⟨a,_,c,e⟩
 have l1:jV PG (buildSlice fO 1 #[(0,nv)])=some (.cells #[nv] cJ,λr=>pure (.slice (some ⟨r,0,none⟩) 1 1)):=by
  obtain⟨a,n,c,rfl⟩:=hnl
  kernel_rfl
 simp only[l1,cE,reduceIte];intro r3 hr3;refine fP ?_
 try rw[cW]
 have u3:dD h2' (h2'.set r3 (.cells #[nv] cJ)):=cQ.new hr3;have s3:fZ (h2'.set r3 (.cells #[nv] cJ)) 1 (.slice (some ⟨r3,0,none⟩) 1 1) ([((nv:Value),s.now)].map aFO):=(eM.lit (n:=1) (aFO.rows [(nv,s.now)]) dL (by simp) (by decide) rfl).slR;generalize h2'.set r3 (.cells #[nv] cJ)=h3' at *;have e3:dD h h3':=e2.trans u3;refine aXC (O2.ext u3) s3 (λy hy=>by simp only[gB] at hy;subst hy;exact h2.isc) (by simp;omega) λv5 h5' F5 O5 u5 k5=>?_;have e5:dD h h5':=e3.fresh u5 f2;have f5:eK h F5:=f2.grow e3 k5;have hb5:=e5.get h1
 try simp only[dP.f2,cE,reduceIte]
 refine iT fO.und rfl hb5 (by simp) O5.slR.isc fO.info fO.size ?_;have ew:(#[nv,.int .u64 ((s.height-(s.blocks.length-1):Nat):Int),bv]:Array Value).setIfInBounds (0+2) v5= #[nv,.int .u64 ((s.height-(s.blocks.length-1):Nat):Int),v5]:=rfl;rw[ew];have u6:cQ [b] h5' (h5'.set b (.cells #[nv,.int .u64 ((s.height-(s.blocks.length-1):Nat):Int),v5] dP (0,0))):=cQ.set (by simp);have b6:(h5'.set b (.cells #[nv,.int .u64 ((s.height-(s.blocks.length-1):Nat):Int),v5] dP (0,0))) b=some (.cells #[nv,.int .u64 ((s.height-(s.blocks.length-1):Nat):Int),v5] dP (0,0)):=dL;generalize h5'.set b (.cells #[nv,.int .u64 ((s.height-(s.blocks.length-1):Nat):Int),v5] dP (0,0))=h6' at *;have hs:lV s=({s with blocks:=s.blocks++[s.now],height:=s.height+1},(s.height+1,0)):=by unfold lV;rw[if_neg d1,if_neg d2]
 rw[hs] at hk;have uu:cQ [b] h h6':=e5.upd.trans u6;have hG:∀g∈G,g∉[b]:=λg hg=>by simp only[gB];rintro rfl;exact h8 hg
 have hF:∀g∈F5,g∉[b]:=λg hg=>by
  simp only[gB];rintro rfl;have:=f5 _ hg;rw[h1] at this;cases this
 have O6:=O5.upd u6 hF;have hnew:aAP h6' b {s with blocks:=s.blocks++[s.now],height:=s.height+1} (G++F5):=by
  refine⟨⟨nv,v5,bl++[(nv,s.now)],?_,h2.upd uu λa n c e=>hG _ (h6 a n c e),O6.slR,λx hx=>?_,by rw[pO,h5];rfl,λa n c e=>zLk _ (h6 a n c e),λa n c e=>zLl _ (aGn O6 a n c e),?_,λg hg=>?_⟩,?_⟩
  ·have eh:s.height+1-((s.blocks++[s.now]).length-1)=s.height-(s.blocks.length-1):=by
    simp only[jM,zLT];omega
   show h6' b=some (.cells #[nv,.int .u64 ((s.height+1-((s.blocks++[s.now]).length-1):Nat):Int),v5] dP (0,0));rw[eh];exact b6
  ·rw[kB] at hx;rcases hx with hx|hx
   ·exact⟨(h4 x hx).1.upd uu λa n c e=>hG _ ((h4 x hx).2 a n c e),λa n c e=>zLk _ ((h4 x hx).2 a n c e)⟩
   ·simp only[gB] at hx;subst hx;exact⟨h2.upd uu λa n c e=>hG _ (h6 a n c e),λa n c e=>zLk _ (h6 a n c e)⟩
  ·intro hm;rcases kB.1 hm with hm|hm
   ·exact h8 hm
   ·exact hF _ hm (by simp)
  ·rcases kB.1 hg with hg|hg
   ·obtain⟨o,ho⟩:=aH1.1 (h9 g hg);rw[uu.get ho (hG g hg)];simp
   ·exact O6.known g hg
  ·refine⟨hok.up,hok.fit,hok.few,λb hb=>?_,?_,?_,?_,?_⟩
   ·simp only[kB,gB] at hb;rcases hb with hb|rfl
    ·exact hok.blk b hb
    ·exact⟨hok.up,hok.fit,hok.few⟩
   ·simp
   ·simp only[jM,zLT];omega
   ·simp only[jM,zLT];omega
   ·show s.height+1<18446744073709551616;omega
 refine aDp hnew ?_;refine hk h6' (G++F5) hnew uu λg hg=>?_;rcases kB.1 hg with hg|hg
 ·exact .inl hg
 ·exact .inr (f5 g hg)
end
section
open Go
def aIT{h:PH}(p:Pk)(hs0:0≤p.s)(ht0:0≤p.t){k:cD}(hk:∀h',dD h h'->k (.bool p.right) h'):aT PG mE #[.agg p.cells.toArray] h k:=by
 apply uN.call;unfold uN;intro r hr;rw[cW];have u:dD h (h.set r (.cells (Value.cells (.agg p.cells.toArray)) aR)):=cQ.new hr;have b:Bx (h.set r (.cells (Value.cells (.agg p.cells.toArray)) aR)) r p.cells:=Bx.new;generalize h.set r (.cells (Value.cells (.agg p.cells.toArray)) aR)=h1 at *;have c0:dB h1 ⟨r,0,none⟩=some (.int .i64 p.f):=b.cell 0;have c1:dB h1 ⟨r,0+1,none⟩=some (.int .u64 p.s):=b.cell 1;have c2:dB h1 ⟨r,0+2,none⟩=some (.int .u64 p.t):=b.cell 2;have c3:dB h1 ⟨r,0+3,none⟩=some (.string p.d):=b.cell 3;have hk:=hk h1 u;unfold Pk.right at hk;have hf:(p.f=0∨p.f=1)∨(p.f<0∨1<p.f):=by omega
 rcases hf with hf|hf
 ·have g1:(0≤p.f)=True:=by apply eq_true;omega
  have g2:(p.f≤1)=True:=by apply eq_true;omega
  have go:cG PG h1 (loadAt bR (pT r 0))=some (.int .i64 p.f):=by rw[bR.load,c0]
  have first:∀X:Prop,X->X:=λ_ x=>x
  by_cases h3:p.s=0
  ·have e3:((0:Int)<p.s)=False:=by apply eq_false;omega
   have e3':(p.s≠0)=False:=by simp[h3]
   simp only[g1,g2,e3',decide_false,sJ,aDL,cE,reduceIte] at hk;rcases hf with hf|hf
   ·have d0:(p.f==0)=true:=by simp[hf]
    simp only[aR.f0,aR.f1,aR.f2,aR.f3,bR.load,cA.load,bT.load,c0,d0,c1,e3,cE,reduceIte];exact hk
   ·have d0:(p.f==0)=false:=by simp[hf]
    have d1:(p.f==1)=true:=by simp[hf]
    simp only[aR.f0,aR.f1,aR.f2,aR.f3,bR.load,cA.load,bT.load,c0,d0,d1,c1,e3,cE,reduceIte];exact hk
  ·have e3:((0:Int)<p.s)=True:=by apply eq_true;omega
   have e3':(p.s≠0)=True:=by simp[h3]
   by_cases h4:p.t=0
   ·have e4:((0:Int)<p.t)=False:=by apply eq_false;omega
    have e4':(p.t≠0)=False:=by simp[h4]
    simp only[g1,g2,e3',e4',decide_false,sJ,aDL,cE,reduceIte] at hk;rcases hf with hf|hf
    ·have d0:(p.f==0)=true:=by simp[hf]
     simp only[aR.f0,aR.f1,aR.f2,aR.f3,bR.load,cA.load,bT.load,c0,d0,c1,e3,c2,e4,cE,reduceIte];exact hk
    ·have d0:(p.f==0)=false:=by simp[hf]
     have d1:(p.f==1)=true:=by simp[hf]
     simp only[aR.f0,aR.f1,aR.f2,aR.f3,bR.load,cA.load,bT.load,c0,d0,d1,c1,e3,c2,e4,cE,reduceIte];exact hk
   ·have e4:((0:Int)<p.t)=True:=by apply eq_true;omega
    have e4':(p.t≠0)=True:=by simp[h4]
    have e5:decide ((p.d.size:Int)≤64)=decide (p.d.size≤64):=by
     rw[zLm];simp only[decide_eq_true_eq];omega
    simp only[g1,g2,e3',e4',Bool.and_self,zLp,cE,reduceIte] at hk;rcases hf with hf|hf
    ·have d0:(p.f==0)=true:=by simp[hf]
     simp only[aR.f0,aR.f1,aR.f2,aR.f3,bR.load,cA.load,bT.load,c0,d0,c1,e3,c2,e4,c3,lS bT.und,e5,cE,reduceIte];exact hk
    ·have d0:(p.f==0)=false:=by simp[hf]
     have d1:(p.f==1)=true:=by simp[hf]
     simp only[aR.f0,aR.f1,aR.f2,aR.f3,bR.load,cA.load,bT.load,c0,d0,d1,c1,e3,c2,e4,c3,lS bT.und,e5,cE,reduceIte];exact hk
 ·have d0:(p.f==0)=false:=by simp;omega
  have d1:(p.f==1)=false:=by simp;omega
  have g:(decide (0≤p.f)&&decide (p.f≤1))=false:=by
   rw[Bool.and_eq_false_iff];simp only[decide_eq_false_iff_not];omega
  simp only[g,sJ] at hk;simp only[aR.f0,bR.load,c0,d0,d1,cE,reduceIte];exact hk
def sR(p:Pk):List Tx:=if p.right then [p.bs] else []
def aI2(p:Pk):List Tx:=if p.right then [[97,99,107]++p.bs] else []
def aLQ{h:PH}{b m:Nat}{A:List Tx}{K:List Nat}(H:Bk b m A K h){p:Pk}(w:p.wf){k:cD}(hk:∀h',Bk b m (sR p++A) K h'->cQ [b,m] h h'->k (.string (tx (rJ p))) h'):
  aT PG pQ #[pT b 0,p.v] h k:=by
 apply wQ.call;unfold wQ;intro r1 hr1
 try rw[cW]
 have u1:dD h (h.set r1 (.cells (Value.cells p.v) aR)):=cQ.new hr1;have B1:Bx (h.set r1 (.cells (Value.cells p.v) aR)) r1 p.cells:=Bx.new;generalize h.set r1 (.cells (Value.cells p.v) aR)=h1 at *;have lp:∀{h':PH},dD h1 h'->cG PG h' (loadAt aR (pT r1 0))=some (.agg p.cells.toArray):=λu=>(B1.ext u).pk rfl;simp only[lp cQ.refl,cE,reduceIte,cZ,Nat.reduceAdd];refine aIT p w.1 w.2.2.1 λh2 u2=>?_;unfold sR rJ aJ5 at hk;cases hr:p.right with
 | false=>
  simp only[hr,zLu,if_false,sK] at hk;simp only[aBw,cE,reduceIte,cZ,Nat.reduceAdd];exact hk h2 (H.ext (u1.trans u2)) (u1.trans u2).upd
 | true=>
  simp only[hr,if_true] at hk;simp only[lp u2,cE,reduceIte,cZ,Nat.reduceAdd];refine aOR w hr λh3 u3=>?_;have e3:=(u1.trans u2).trans u3;have hb:=aN7 hr;refine aNK (H.ext e3) (by omega) λh4 B4 u4=>?_;exact hk h4 B4 (e3.upd.trans u4)
def aOY{h:PH}{b m:Nat}{A:List Tx}{K:List Nat}(H:Bk b m A K h){p:Pk}(w:p.wf){k:cD}(hk:∀h',Bk b m (aI2 p++A) K h'->cQ [b,m] h h'->k (.string (tx (aEv p))) h'):
  aT PG xW #[pT b 0,p.v] h k:=by
 apply aBC.call;unfold aBC;intro r1 hr1
 try rw[cW]
 have u1:dD h (h.set r1 (.cells (Value.cells p.v) aR)):=cQ.new hr1;have B1:Bx (h.set r1 (.cells (Value.cells p.v) aR)) r1 p.cells:=Bx.new;generalize h.set r1 (.cells (Value.cells p.v) aR)=h1 at *;have lp:∀{h':PH},dD h1 h'->cG PG h' (loadAt aR (pT r1 0))=some (.agg p.cells.toArray):=λu=>(B1.ext u).pk rfl;simp only[lp cQ.refl,cE,reduceIte,cZ,Nat.reduceAdd];refine aIT p w.1 w.2.2.1 λh2 u2=>?_;unfold aI2 aEv aJ5 at hk;cases hr:p.right with
 | false=>
  simp only[hr,zLu,if_false,sK] at hk;simp only[aBw,cE,reduceIte,cZ,Nat.reduceAdd];exact hk h2 (H.ext (u1.trans u2)) (u1.trans u2).upd
 | true=>
  simp only[hr,if_true] at hk;simp only[lp u2,cE,reduceIte,cZ,Nat.reduceAdd];refine aOR w hr λh3 u3=>?_;have e3:=(u1.trans u2).trans u3;have hb:=aN7 hr;have qa:({data:=#[97,99,107]}:ByteArray)=tx [97,99,107]:=rfl;have s1:dH PG (binOp .add bT (.string (tx [97,99,107])) (.string (tx p.bs)))=some (.string (tx ([97,99,107]++p.bs))):=mG (by simp;omega);simp only[qa,s1,cE,reduceIte,cZ,Nat.reduceAdd];refine aNK (H.ext e3) (by simp;omega) λh4 B4 u4=>?_;exact hk h4 B4 (e3.upd.trans u4)
structure Ch.DOk(s:Ch):Prop where
 id:s.id=0∨s.id=1
 seq:s.seq<18446744073709551616
 rk:∃hs,wV hs s.cl
 few:s.cl.length≤4096
 pos:∀y∈hts s.cl,0≤y∧y<18446744073709551616
def rU(b m:Nat)(A:List Tx)(K:List Nat):nA:=λh F=>F=b::m::K∧Bk b m A K h
def rU.good(b m:Nat)(A:List Tx)(K:List Nat):mK (rU b m A K):=⟨λ⟨e,H⟩ x hx=>H.known x (e▸hx),λ⟨e,H⟩ u hK=>⟨e,H.upd u (λx hx=>hK x (e▸hx))⟩⟩
def rsA(sp:Nat)(s:St):nA:=λh F=>∃G,aAP h sp s G∧F=sp::G
def rsA.good(sp:Nat)(s:St):mK (rsA sp s):=⟨λ⟨G,H,e⟩ x hx=>H.known x (e▸hx),λ⟨G,H,e⟩ u hK=>⟨G,H.upd u (hK _ (by rw[e];simp)) (λg hg=>hK g (by rw[e];simp[hg])),e⟩⟩
def krA(cp:Nat)(l:List hZ):nA:=λh F=>yS h cp l F
def krA.good(cp:Nat)(l:List hZ):mK (krA cp l):=⟨λH=>yS.known H,λH u hK=>yS.upd H u hK⟩
def noA(w:Value)(n:Nat):nA:=λh F=>∃ns:List Nt,eM h dA 5 w (ns.map Nt.cells) F∧ns.length≤n
def noA.good(w:Value)(n:Nat):mK (noA w n):=⟨λ⟨_,O,_⟩=>O.known,λ⟨ns,O,l⟩ u hK=>⟨ns,O.upd u hK,l⟩⟩
def boA(v:Value)(n:Nat):nA:=λh F=>∃rows:List (List Value),eM h cU 1 v rows F∧rows.length≤n∧∀r∈rows,∀u∈r,fW u=true
def boA.good(v:Value)(n:Nat):mK (boA v n):=⟨λ⟨_,O,_⟩=>O.known,λ⟨ns,O,l⟩ u hK=>⟨ns,O.upd u hK,l⟩⟩
def Ch.dcells(s:Ch)(b sp cp:Nat)(bv nv:Value):List Value:=[pT b 0,.int .i64 s.id,pT sp 0,pT cp 0,.int .u64 (s.seq:Int),bv,nv]
def nN(c:Nat)(cs:List Value)(sp:Nat)(st:St)(cp:Nat)(cl:List hZ)(bv nv:Value)(n:Nat):nA:=eP (qL c cs) (eP (rsA sp st) (eP (krA cp cl) (eP (boA bv n) (noA nv n))))
def DC(c b:Nat)(s:Ch)(n:Nat):nA:=λh F=>∃sp cp bv nv,nN c (s.dcells b sp cp bv nv) sp s.st cp s.cl bv nv n h F
def nN.good{c:Nat}{cs:List Value}{sp:Nat}{st:St}{cp:Nat}{cl:List hZ}{bv nv:Value}{n:Nat}:mK (nN c cs sp st cp cl bv nv n):=(qL.good _ _).star ((rsA.good _ _).star ((krA.good _ _).star ((boA.good _ _).star (noA.good _ _))))
def DC.good(c b:Nat)(s:Ch)(n:Nat):mK (DC c b s n):=⟨λ⟨_,_,_,_,H⟩=>nN.good.known H,λ⟨a,b,c,d,H⟩ u hK=>⟨a,b,c,d,nN.good.upd H u hK⟩⟩
section
variable{c:Nat}{cs:List Value}{sp:Nat}{st:St}{cp:Nat}{cl:List hZ}{bv nv:Value}{n:Nat}{h:PH}{F:List Nat}(H:nN c cs sp st cp cl bv nv n h F)
include H
def nN.fBox:zJ h F (qL c cs) (λX=>eP X (eP (rsA sp st) (eP (krA cp cl) (eP (boA bv n) (noA nv n))))):=eP.left ((rsA.good _ _).star ((krA.good _ _).star ((boA.good _ _).star (noA.good _ _)))) H
def nN.fSt:zJ h F (rsA sp st) (λX=>eP (qL c cs) (eP X (eP (krA cp cl) (eP (boA bv n) (noA nv n))))):=(eP.right (qL.good _ _) H).comp λ_ H=>eP.left ((krA.good _ _).star ((boA.good _ _).star (noA.good _ _))) H
def nN.fCl:zJ h F (krA cp cl) (λX=>eP (qL c cs) (eP (rsA sp st) (eP X (eP (boA bv n) (noA nv n))))):=(eP.right (qL.good _ _) H).comp λ_ H=>(eP.right (rsA.good _ _) H).comp λ_ H=>eP.left ((boA.good _ _).star (noA.good _ _)) H
def nN.fTwo:zJ h F (eP (boA bv n) (noA nv n)) (λX=>eP (qL c cs) (eP (rsA sp st) (eP (krA cp cl) X))):=(eP.right (qL.good _ _) H).comp λ_ H=>(eP.right (rsA.good _ _) H).comp λ_ H=>eP.right (krA.good _ _) H
def nN.cell:Bx h c cs:=by
 obtain⟨Fa,⟨-,B⟩,-,-⟩:=nN.fBox H;exact B
def nN.okst:st.Ok:=by
 obtain⟨Fs,⟨G,S,-⟩,-,-⟩:=nN.fSt H;exact S.ok
end
section
variable{h:PH}{c:Nat}{s:Ch}{b sp cp:Nat}{bv nv:Value}(B:Bx h c (s.dcells b sp cp bv nv))
include B
def dl0:cG PG h (loadAt gE (pT c 0))=some (pT b 0):=by rw[gE.load,B.cell];rfl
def dl1:cG PG h (loadAt bR (pT c 1))=some (.int .i64 s.id):=by rw[bR.load,B.cell];rfl
def dl2:cG PG h (loadAt fN (pT c 2))=some (pT sp 0):=by rw[fN.load,B.cell];rfl
def dl3:cG PG h (loadAt jW (pT c 3))=some (pT cp 0):=by rw[jW.load,B.cell];rfl
def dl4:cG PG h (loadAt cA (pT c 4))=some (.int .u64 (s.seq:Int)):=by rw[cA.load,B.cell];rfl
def dl5:cG PG h (loadAt eS (pT c 5))=some bv:=by rw[eS.load,B.cell];rfl
def dl6:cG PG h (loadAt cU (pT c 6))=some nv:=by rw[cU.load,B.cell];rfl
end
def aYr(k:Int)(p:Pk):dH PG (build dA #[(0,.int .i64 k),(1,.agg p.cells.toArray)])=some (.agg (Nt.cells ⟨k,p⟩).toArray):=by kernel_rfl
def bAX:jV PG (buildSlice cU 0 #[])=some (.cells #[] dA,λr=>pure (.slice (some ⟨r,0,none⟩) 0 0)):=by kernel_rfl
def aQ8{h:PH}{c b:Nat}{s:Ch}{n:Nat}{F:List Nat}(H:DC c b s n h F)(m:Nat)(hm:m≤10){k:cD}(hk:k (.bool (decide (s.st.now.length+m≤4096))) h):aT PG sU #[pT c 0,.int .i64 (m:Int)] h k:=by
 apply wL.call;unfold wL;obtain⟨sp,cp,bv,nv,P⟩:=H;have hfew:=P.okst.few;obtain⟨Fs,⟨G,S,-⟩,-,-⟩:=P.fSt;obtain⟨nv',bv',bl,h1,h2,-⟩:=S.here;have l0:cG PG h (loadAt cJ (pT sp 0))=some nv':=by rw[cJ.load];simp[dB,h1]
 have ll:=h2.len (t':=bR) cJ.und;rw[iV] at ll;have w:IntKind.i64.wrap ((s.st.now.length:Int)+(m:Int))=((s.st.now.length+m:Nat):Int):=by rw[fH (by omega) (by omega)];omega
 have d:decide (((s.st.now.length+m:Nat):Int)≤4096)=decide (s.st.now.length+m≤4096):=by
  rw[zLm];simp only[decide_eq_true_eq];omega
 simp only[cT.f2,dP.f0,fQ,dl2 P.cell,l0,ll,w,d,cE,reduceIte,cZ,Nat.reduceAdd];exact hk
def aL3{h:PH}{c b:Nat}{s:Ch}{n:Nat}{F:List Nat}(H:DC c b s n h F)(hn:n≤10000)(kind:Int)(p:Pk){k:cD}(hk:∀h' F',DC c b s (n+1) h' F'->jI h F h' F'->k (.tuple #[]) h'):
  aT PG nL #[pT c 0,.int .i64 kind,p.v] h k:=by
 apply pG.call;unfold pG;obtain⟨sp,cp,bv,nv,P⟩:=H;intro r1 hr1
 try rw[cW]
 have u1:dD h (h.set r1 (.cells (Value.cells p.v) aR)):=cQ.new hr1;have B1:Bx (h.set r1 (.cells (Value.cells p.v) aR)) r1 p.cells:=Bx.new;generalize h.set r1 (.cells (Value.cells p.v) aR)=h1 at *;have P1:=nN.good.ext P u1;have lp:∀{h':PH},dD h1 h'->cG PG h' (loadAt aR (pT r1 0))=some (.agg p.cells.toArray):=λu=>(B1.ext u).pk rfl;obtain⟨Ft,⟨Fb,Fn,rfl,⟨rows,Ob,lb,cb⟩,⟨ns,On,ln⟩,hd⟩,hFt,back⟩:=P1.fTwo;simp only[cT.f6,fQ,dl6 P1.cell,lp cQ.refl,aYr,bAX,cE,reduceIte,cZ,Nat.reduceAdd];intro r8 hr8;refine fP ?_
 try rw[cW]
 have u2:dD h1 (h1.set r8 (.cells #[] dA)):=cQ.new hr8;have O2:eM (h1.set r8 (.cells #[] dA)) dA 5 (.slice (some ⟨r8,0,none⟩) 0 0) (([]:List Nt).map Nt.cells) [r8]:=eM.lit (n:=0) (Nt.rows []) dL (by simp) (by decide) rfl;generalize h1.set r8 (.cells #[] dA)=h2 at *;refine jK cU.und cU.und dA.info dA.size dA.bytes dA.zero rfl (by decide) O2 (On.ext u2).slR (Nt.isC _) (by simp only[iV,zLN];omega) ?_;intro v3 h3 F3 O3 u3 k3 _;rw[jA,sK] at O3;have e13:dD h1 h3:=u2.fresh u3 (eK.one hr8);have f3:eK h1 F3:=λx hx=>by
  rcases k3 x hx with hx|hx
  ·simp only[gB] at hx;subst hx;exact hr8
  ·exact u2.none hx
 refine⟨lp e13,?_⟩;simp only[aV7,cE,reduceIte,cZ,Nat.reduceAdd];intro r14 hr14;refine fP ?_
 try rw[cW]
 have u4:dD h3 (h3.set r14 (.cells (Nt.cells ⟨kind,p⟩).toArray dA (0,0))):=cQ.new hr14;have S4:fZ (h3.set r14 (.cells (Nt.cells ⟨kind,p⟩).toArray dA (0,0))) 5 (.slice (some ⟨r14,0,none⟩) 1 1) ([(⟨kind,p⟩:Nt)].map Nt.cells):=(eM.lit (n:=1) (Nt.rows [⟨kind,p⟩]) dL (by simp) (by decide) (by simp)).slR;generalize h3.set r14 (.cells (Nt.cells ⟨kind,p⟩).toArray dA (0,0))=h4 at *;refine jK cU.und cU.und dA.info dA.size dA.bytes dA.zero rfl (by decide) (O3.ext u4) S4 (Nt.isC _) (by simp only[iV,zLT];omega) ?_;intro v5 h5 F5 O5 u5 k5 _;rw[←pO] at O5;have e15:dD h1 h5:=(e13.trans u4).fresh u5 f3;have f5:eK h1 F5:=f3.grow (e13.trans u4) k5;have N5:noA v5 (n+1) h5 F5:=⟨ns++[⟨kind,p⟩],O5,by simp;omega⟩;have W5:eP (boA bv (n+1)) (noA v5 (n+1)) h5 (Fb++F5):=eP.mk ⟨rows,Ob.ext e15,by omega,cb⟩ N5 (λx hx hx5=>Ob.known x hx (f5 x hx5));obtain⟨F6,P6,s6⟩:=back _ h5 _ W5 ⟨e15.upd,λx hx=>by
  rcases kB.1 hx with hx|hx
  ·exact .inl (by simp[hx])
  ·exact .inr (f5 x hx)⟩
 have P6:nN c (s.dcells b sp cp bv nv) sp s.st cp s.cl bv v5 (n+1) h5 F6:=P6;obtain⟨Fx,⟨rfl,X6⟩,hFx,back2⟩:=P6.fBox;refine cU.put X6 (o:=6) (by show 6<7;decide) O5.slR.isc λh7 X7 u7=>?_;have X7:Bx h7 c (s.dcells b sp cp bv v5):=X7;obtain⟨F8,P8,s8⟩:=back2 (qL c (s.dcells b sp cp bv v5)) h7 [c] ⟨rfl,X7⟩ ⟨u7,λx hx=>.inl hx⟩;refine hk h7 F8 ⟨sp,cp,bv,v5,P8⟩ ?_;exact((jI.ext u1).trans s6).trans s8
def DC.mono{c b:Nat}{s:Ch}{n n':Nat}{h:PH}{F:List Nat}(H:DC c b s n h F)(hn:n≤n'):DC c b s n' h F:=by
 obtain⟨sp,cp,bv,nv,Fx,Fr,rfl,hx,⟨F1,F2,rfl,h1,⟨F3,F4,rfl,h3,⟨F5,F6,rfl,⟨rows,r1,r2,r3⟩,⟨ns,n1,n2⟩,d5⟩,d3⟩,d1⟩,dx⟩:=H;exact⟨sp,cp,bv,nv,Fx,_,rfl,hx,⟨F1,_,rfl,h1,⟨F3,_,rfl,h3,⟨F5,F6,rfl,⟨rows,r1,by omega,r3⟩,⟨ns,n1,by omega⟩,d5⟩,d3⟩,d1⟩,dx⟩
def aH0{b m:Nat}{A A':List Tx}{K:List Nat}{X:nA}(g:mK X){h h':PH}{F:List Nat}(H:eP (rU b m A K) X h F)(B:Bk b m A' K h')(u:cQ [b,m] h h'):eP (rU b m A' K) X h' F∧jI h F h' F:=by
 obtain⟨Fa,Fb,rfl,⟨rfl,-⟩,HX,hd⟩:=H;refine⟨⟨_,Fb,rfl,⟨rfl,B⟩,g.upd HX u (λx hx hm=>?_),hd⟩,⟨u.mono λx hx=>.inl ?_,λx hx=>.inl hx⟩⟩
 ·simp only[gU,lH,or_false] at hm;rcases hm with rfl|rfl
  ·exact hd _ (by simp) hx
  ·exact hd _ (by simp) hx
 ·simp only[gU,lH,or_false] at hx;rcases hx with rfl|rfl<;>simp
def aPU{h:PH}{c b:Nat}{s:Ch}{n:Nat}{F:List Nat}{sp cp:Nat}{bv nv:Value}(P:nN c (s.dcells b sp cp bv nv) sp s.st cp s.cl bv nv n h F){k v:Tx}(h1:1≤k.length)(h2:k.length≤16)(h3:v.length≤64)(hr:¬(iJ s.st.now k=none∧4096≤s.st.now.length)){kk:cD}
  (hk:∀h' F',nN c ((s.put k v).dcells b sp cp bv nv) sp (s.put k v).st cp (s.put k v).cl bv nv n h' F'->jI h F h' F'->kk (.int .i64 0) h'):aT PG nR #[pT sp 0,.string (tx k),.string (tx v)] h kk:=by
 obtain⟨Fs,⟨G,S,rfl⟩,hFs,back⟩:=P.fSt;have es:aCo s.st k v=({s.st with now:=oO s.st.now ⟨k,v⟩},0):=by
  unfold aCo;rw[if_neg (by omega),if_neg hr]
 refine aXc S k v λh5 G5 S5 u5 g5=>?_;rw[es] at S5 ⊢;obtain⟨F6,P6,s6⟩:=back (rsA sp {s.st with now:=oO s.st.now ⟨k,v⟩}) h5 (sp::G5) ⟨G5,S5,rfl⟩ ⟨u5.mono λx hx=>.inl (by simp only[gB] at hx;simp[hx]),λx hx=>by
  rcases gU.1 hx with rfl|hx
  ·exact .inl (by simp)
  ·rcases g5 x hx with hx|hx
   ·exact .inl (by simp[hx])
   ·exact .inr hx⟩
 exact hk h5 F6 P6 s6
def aSg{h:PH}{c b:Nat}{s:Ch}{n:Nat}{F:List Nat}{sp cp:Nat}{bv nv:Value}(P:nN c (s.dcells b sp cp bv nv) sp s.st cp s.cl bv nv n h F){k:Tx}(hr:(iJ s.st.now k).isSome=true){kk:cD}
  (hk:∀h' F',nN c ((s.del k).dcells b sp cp bv nv) sp (s.del k).st cp (s.del k).cl bv nv n h' F'->jI h F h' F'->kk (.int .i64 0) h'):aT PG oN #[pT sp 0,.string (tx k)] h kk:=by
 obtain⟨Fs,⟨G,S,rfl⟩,hFs,back⟩:=P.fSt;have es:aFo s.st k=({s.st with now:=vJ s.st.now k},0):=by
  unfold aFo;rw[if_neg (λh=>by rw[h] at hr;cases hr)]
 refine aYR S k λh5 G5 S5 u5 g5=>?_;rw[es] at S5 ⊢;obtain⟨F6,P6,s6⟩:=back (rsA sp {s.st with now:=vJ s.st.now k}) h5 (sp::G5) ⟨G5,S5,rfl⟩ ⟨u5.mono λx hx=>.inl (by simp only[gB] at hx;simp[hx]),λx hx=>by
  rcases gU.1 hx with rfl|hx
  ·exact .inl (by simp)
  ·rcases g5 x hx with hx|hx
   ·exact .inl (by simp[hx])
   ·exact .inr hx⟩
 exact hk h5 F6 P6 s6
def aWf(s:Ch)(d:Tx)(t:Nat):qR s d t=if s.st.height=18446744073709551615 then 12 else if ¬s.seq<18446744073709551615 then 12 else if (kE s d t).right=false then 1 else if ¬aJz s.cl<(t:Int) then 10 else if ¬s.st.now.length+1≤4096 then 2 else 0:=by
 unfold qR rG;by_cases c0:s.st.height=18446744073709551615
 ·rw[if_pos c0,if_pos c0]
 ·rw[if_neg c0,if_neg c0];by_cases c1:s.seq<18446744073709551615<;>cases hr:(kE s d t).right<;>by_cases c2:aJz s.cl<(t:Int)<;>by_cases c3:s.st.now.length+1≤4096<;>simp[aAH,c1,hr,c2,c3]
def aWV{h:PH}{c b m:Nat}{s:Ch}{n:Nat}{A:List Tx}{K F:List Nat}(H:eP (rU b m A K) (DC c b s n) h F)(w:s.DOk)(hn:n≤10000)(d:Tx)(hd:d.length≤1000000){t:Nat}(ht:t<18446744073709551616){k:cD}
  (hbad:qR s d t≠0->∀h',eP (rU b m A K) (DC c b s n) h' F->jI h F h' F->k (.tuple #[Pk.v default,.int .i64 (qR s d t)]) h')
  (hok:qR s d t=0->∀h' F',eP (rU b m (sR (kE s d t)++A) K) (DC c b (s.sent (kE s d t)) (n+1)) h' F'->jI h F h' F'->k (.tuple #[(kE s d t).v,.int .i64 0]) h'):
  aT PG aAF #[pT c 0,.string (tx d),.int .u64 (t:Int)] h k:=by
 apply pD.call;unfold pD;have gW:mK (eP (rU b m A K) (DC c b s n)):=(rU.good _ _ _ _).star (DC.good _ _ _ _);obtain⟨Fb,Fd,eF,⟨efb,HB⟩,Hd,hdis⟩:=id H;obtain⟨sp,cp,bv,nv,P⟩:=id Hd;obtain⟨hs,R⟩:=w.rk;have hlat:=aPS R;have hsq:=w.seq;intro r1 hr1
 try rw[cW]
 have u1:dD h (h.set r1 (.cells (dV PG aR) aR)):=cQ.new hr1;have X1:Bx (h.set r1 (.cells (dV PG aR) aR)) r1 (Pk.cells default):=aR.zbox;generalize h.set r1 (.cells (dV PG aR) aR)=h1 at *;have P1:=nN.good.ext P u1;simp only[cT.f1,cT.f4,fQ,dl1 P1.cell,dl4 P1.cell,aXE,cE,reduceIte,cZ,Nat.reduceAdd];have ep:(Pk.v ⟨s.id,(s.seq:Int),(t:Int),tx d⟩)=(kE s d t).v:=rfl;rw[ep];obtain⟨p,hp⟩:∃p,p=kE s d t:=⟨_,rfl⟩;have pwf:p.wf:=by rw[hp];exact⟨by show(0:Int)≤(s.seq:Int);omega,by show(s.seq:Int)<_;omega,by show(0:Int)≤(t:Int);omega,by show(t:Int)<_;omega⟩
 intro r10 hr10
 try rw[cW]
 have n110:r1≠r10:=X1.apart hr10;rw[←hp];refine aR.fill (vs:=p.cells) hr10 rfl (Pk.isC _) λh2 X2 u2=>?_;have e2:=u1.trans u2;have P2:=nN.good.ext P e2;have Y2:=X1.ext u2;have W2:=gW.ext H e2;have nr1:r1∉F:=λhm=>gW.known H _ hm hr1;have lp:∀{h':PH},dD h2 h'->cG PG h' (loadAt aR (pT r10 0))=some p.v:=λu=>(X2.ext u).pk rfl;obtain⟨Fs2,⟨G2,S2,-⟩,-,-⟩:=P2.fSt
 -- what is refused
 have no:∀{h3:PH} (e:Int),dD h2 h3->qR s d t=e->e≠0->dY (dH PG (build aR #[])) λv40=>dC PG (dT aR (pT r1 0) v40) h3 λv41 h42=>dY (cG PG h42 (loadAt aR (pT r1 0))) λv43=>k (Value.tuple #[v43,(Value.int IntKind.i64 e)]) h42:=fun {h3} e u3 he hne=>by
  simp only[Pk.zb,cE,reduceIte,cZ,Nat.reduceAdd];refine aR.put (Y2.ext u3) (o:=0) (vs:=Pk.cells default) rfl (by show 0+4≤4;decide) (Pk.isC _) λh4 Y4 u4=>?_;have Y4:Bx h4 r1 (Pk.cells default):=Y4;have l4:cG PG h4 (loadAt aR (pT r1 0))=some (Pk.v default):=Y4.pk rfl;simp only[l4,cE,reduceIte,cZ,Nat.reduceAdd];have:=hbad (by rw[he];exact hne) h4 (gW.upd (gW.ext W2 u3) u4 (λx hx=>by simp only[gB];rintro rfl;exact nr1 hx)) ⟨((e2.trans u3).upd (F:=F)).then u4 (λx hx=>by simp only[gB] at hx;subst hx;exact .inr hr1),λx hx=>.inl hx⟩;rw[he] at this;exact this
 have hse:=aWf s d t;simp only[cT.f2,fQ,dl2 P2.cell,cE,reduceIte,cZ,Nat.reduceAdd];refine aDp S2 ?_;by_cases c0:s.st.height=18446744073709551615
 ·have q:((s.st.height:Int)==18446744073709551615)=true:=by rw[c0];rfl
  rw[if_pos c0] at hse;simp only[iG,q,cE,reduceIte,cZ,Nat.reduceAdd];have:=no 12 cQ.refl hse (by decide)
  try simp only[cE,reduceIte,cZ,Nat.reduceAdd] at this
  exact this
 have q:((s.st.height:Int)==18446744073709551615)=false:=by rw[beq_eq_false_iff_ne];omega
 rw[if_neg c0] at hse;by_cases c1:s.seq<18446744073709551615
 case neg=>
  have q1:((s.seq:Int)==18446744073709551615)=true:=by rw[beq_iff_eq];omega
  rw[if_pos c1] at hse;simp only[iG,q,q1,cT.f4,fQ,dl4 P2.cell,cE,reduceIte,cZ,Nat.reduceAdd];have:=no 12 cQ.refl hse (by decide)
  try simp only[cE,reduceIte,cZ,Nat.reduceAdd] at this
  exact this
 have q1:((s.seq:Int)==18446744073709551615)=false:=by rw[beq_eq_false_iff_ne];omega
 rw[if_neg (by simpa using c1)] at hse;simp only[iG,q,q1,cT.f4,fQ,dl4 P2.cell,lp cQ.refl,cE,reduceIte,cZ,Nat.reduceAdd];refine aIT p pwf.1 pwf.2.2.1 λh3 u3=>?_;have P3:=nN.good.ext P2 u3;rw[←hp] at hse;cases hr:p.right with
 | false=>
  rw[if_pos hr] at hse;simp only[cE,reduceIte,cZ,Nat.reduceAdd];have:=no 1 u3 hse (by decide)
  try simp only[cE,reduceIte,cZ,Nat.reduceAdd] at this
  exact this
 | true=>
  rw[if_neg (by rw[hr];decide)] at hse;obtain⟨Fc,KR,-,-⟩:=P3.fCl;simp only[cT.f3,fQ,dl3 P3.cell,cE,reduceIte,cZ,Nat.reduceAdd];refine aTY KR (by have:=w.few;omega) R (λy hy=>(w.pos y hy).1) ?_;by_cases c2:aJz s.cl<(t:Int)
  case neg=>
   have q2:((t:Int)≤aLT hs)=True:=eq_true (by rw[←hlat];omega);rw[if_pos c2] at hse;simp only[q2,cE,reduceIte,cZ,Nat.reduceAdd];have:=no 10 u3 hse (by decide)
   try simp only[cE,reduceIte,cZ,Nat.reduceAdd] at this
   exact this
  have q2:((t:Int)≤aLT hs)=False:=eq_false (by rw[←hlat];omega);rw[if_neg (by simpa using c2)] at hse;simp only[q2,cE,reduceIte,cZ,Nat.reduceAdd];refine aQ8 (s:=s) (n:=n) (b:=b) ⟨sp,cp,bv,nv,P3⟩ 1 (by decide) ?_;by_cases c3:s.st.now.length+1≤4096
  case neg=>
   have q3:=decide_eq_false c3;rw[if_pos c3] at hse;simp only[q3,cE,reduceIte,cZ,Nat.reduceAdd];have:=no 2 u3 hse (by decide)
   try simp only[cE,reduceIte,cZ,Nat.reduceAdd] at this
   exact this
  have q3:=decide_eq_true c3;rw[if_neg (by simpa using c3)] at hse;have hok:=hok hse;rw[←hp] at hok;have ls:∀{h':PH},dD h2 h'->cG PG h' (loadAt cA (pT r10 1))=some (.int .u64 (s.seq:Int)):=λu=>by rw[cA.load,(X2.ext u).cell,hp];rfl
  have q99:({data:=#[99]}:ByteArray)=tx [99]:=rfl;simp only[q3,cT.f0,cT.f2,aR.f1,fQ,dl0 P3.cell,dl2 P3.cell,ls u3,lp u3,q99,cE,reduceIte,cZ,Nat.reduceAdd];refine aAk (c:=99) (n:=s.seq) (by omega) λh4 u4=>?_;have u34:=u3.trans u4;have P4:=nN.good.ext P3 u4;refine⟨lp u34,dl0 P4.cell,dl2 P4.cell,?_⟩;refine aLQ (HB.ext (e2.trans u34)) pwf λh5 B5 u5=>?_;obtain⟨W5,s5⟩:=aH0 (DC.good _ _ _ _) (gW.ext W2 u34) B5 u5;have offd:∀x∈Fd,x∉[b,m]:=λx hx hm=>by
   subst efb;simp only[gU,lH,or_false] at hm;rcases hm with rfl|rfl
   ·exact hdis _ (by simp) hx
   ·exact hdis _ (by simp) hx
  have P5:=nN.good.upd P4 u5 offd;have n10:r10∉F:=λhm=>gW.known (gW.ext H u1) _ hm hr10;have n10b:r10∉[b,m]:=λhm=>by
   simp only[gU,lH,or_false] at hm;rcases hm with rfl|rfl
   ·exact HB.known _ (by simp) (u1.none hr10)
   ·exact HB.known _ (by simp) (u1.none hr10)
  have n1b:r1∉[b,m]:=λhm=>by
   simp only[gU,lH,or_false] at hm;rcases hm with rfl|rfl
   ·exact HB.known _ (by simp) hr1
   ·exact HB.known _ (by simp) hr1
  have X5:=(X2.ext u34).upd u5 n10b;have Y5:=(Y2.ext u34).upd u5 n1b;refine⟨dl2 P5.cell,?_⟩
  -- the chain alone
  obtain⟨Fb5,Fd5,eF5,⟨efb5,B5'⟩,Hd5,hdis5⟩:=id W5;have hFd5:Fd5=Fd:=by
   rw[eF,efb,efb5] at eF5;exact(List.append_cancel_left eF5).symm
  subst hFd5;have nX:r10∉Fd5:=λhm=>n10 (by rw[eF];simp[hm]);have nY:r1∉Fd5:=λhm=>nr1 (by rw[eF];simp[hm]);refine aPU P5 (by rw[aAA];decide) (by rw[aAA];decide) (aQH _) (λhh=>by omega) λh6 F6 P6 s6=>?_;obtain⟨X6,nX6⟩:=aCm X5 nX s6;obtain⟨Y6,nY6⟩:=aCm Y5 nY s6;have w1:IntKind.u64.wrap ((s.seq:Int)+1)=((s.seq+1:Nat):Int):=by rw[gO (by omega) (by omega)];omega
  have l4:cG PG h6 (loadAt cA (pT c 4))=some (.int .u64 (s.seq:Int)):=dl4 P6.cell;simp only[cT.f4,fQ,l4,w1,cE,reduceIte,cZ,Nat.reduceAdd];obtain⟨Fx,⟨rfl,X⟩,hFx,back⟩:=P6.fBox;refine cA.put X (o:=4) (by show 4<7;decide) rfl λh7 X7 u7=>?_;have X7:Bx h7 c (((s.put (iZ 99 s.seq) (rJ p)).next).dcells b sp cp bv nv):=X7;obtain⟨F7,P7,s7⟩:=back (qL c (((s.put (iZ 99 s.seq) (rJ p)).next).dcells b sp cp bv nv)) h7 [c] ⟨rfl,X7⟩ ⟨u7,λx hx=>.inl hx⟩;obtain⟨Z7,nZ7⟩:=aCm X6 nX6 s7;obtain⟨Y7,nY7⟩:=aCm Y6 nY6 s7;have l7:cG PG h7 (loadAt aR (pT r10 0))=some p.v:=Z7.pk rfl;simp only[l7,cE,reduceIte,cZ,Nat.reduceAdd];refine aL3 (s:=(s.put (iZ 99 s.seq) (rJ p)).next) (n:=n) (b:=b) ⟨sp,cp,bv,nv,P7⟩ hn 1 p λh8 F8 P8 s8=>?_;obtain⟨Z8,nZ8⟩:=aCm Z7 nZ7 s8;obtain⟨Y8,nY8⟩:=aCm Y7 nY7 s8;have l8:cG PG h8 (loadAt aR (pT r10 0))=some p.v:=Z8.pk rfl;simp only[l8,cE,reduceIte,cZ,Nat.reduceAdd];have sD:jI h5 Fd5 h8 F8:=(s6.trans s7).trans s8;have B8:Bk b m (sR p++A) K h8:=B5'.upd sD.upd (λx hx hm=>hdis5 x (by rw[efb5];exact hx) hm);have W8:eP (rU b m (sR p++A) K) (DC c b (s.sent p) (n+1)) h8 ((b::m::K)++F8):=eP.mk ⟨rfl,B8⟩ P8 (λx hx hx8=>by
   rcases sD.grow x hx8 with hh|hh
   ·exact hdis5 x (by rw[efb5];exact hx) hh
   ·exact B5'.known x hx hh)
  have sW:jI h F h8 ((b::m::K)++F8):=((jI.ext (F:=F) (e2.trans u34)).trans s5).trans ⟨sD.upd.mono λx hx=>.inl (by rw[eF];simp[hx]),λx hx=>by
   rcases kB.1 hx with hx|hx
   ·exact .inl (by rw[eF,efb];simp only[kB];exact .inl hx)
   ·rcases sD.grow x hx with hh|hh
    ·exact .inl (by rw[eF];simp[hh])
    ·exact .inr hh⟩
  have n8:r1∉(b::m::K)++F8:=λhm=>by
   rcases kB.1 hm with hm|hm
   ·exact HB.known _ hm hr1
   ·exact nY8 hm
  refine aR.put Y8 (o:=0) (vs:=p.cells) rfl (by show 0+4≤4;decide) (Pk.isC _) λh9 Y9 u9=>?_;have Y9:Bx h9 r1 p.cells:=Y9;have l9:cG PG h9 (loadAt aR (pT r1 0))=some p.v:=Y9.pk rfl;simp only[l9,cE,reduceIte,cZ,Nat.reduceAdd];refine hok h9 _ (((rU.good _ _ _ _).star (DC.good _ _ _ _)).upd W8 u9 (λx hx=>by simp only[gB];rintro rfl;exact n8 hx)) ⟨sW.upd.then u9 (λx hx=>by simp only[gB] at hx;subst hx;exact .inr hr1),λx hx=>sW.grow x hx⟩
end
section
open Go Bld
def aRj{h:PH}{b:Nat}{s:St}{G:List Nat}(H:aAP h b s G)(key:Tx){k:cD}(hk:k (.tuple #[.string (tx (((iJ s.now key).map Pr.v).getD [])),.bool (iJ s.now key).isSome]) h):
  aT PG uP #[pT b 0,.string (tx key)] h k:=by
 apply xT.call;unfold xT;obtain⟨A,M,B,c⟩:=H.ok.up.cut key;have hg:=c.get H.ok.up;refine aPb H c ?_;have hok:=H.ok;obtain⟨nv,bv,bl,h1,h2,h3,h4,h5,h6,h7,h8,h9⟩:=H.here;rcases c.mid with e|⟨q,e,e2⟩
 ·subst e;have:iJ s.now key=none:=by
   cases hx:iJ s.now key with
   | none=>rfl
   | some y=>rw[hx] at hg;simp at hg
  rw[this] at hk;simp only[ne_eq,not_true_eq_false,cE,reduceIte];exact hk
 ·subst e;have hgs:iJ s.now key=some q:=(aBj hok.up).2 ⟨by rw[c.eq];simp,e2⟩;rw[hgs] at hk;have c0:dB h ⟨b,0,none⟩=some nv:=by simp[dB,h1]
  have hq:s.now[A.length]? =some q:=by rw[c.eq];simp
  obtain⟨bb,o,p1,-,p3,-⟩:=h2.pair hq;simp only[ne_eq,List.cons_ne_nil,not_false_eq_true,dP.f0,cJ.load,c0,p1,cM.f1,bT.load,p3,cE,reduceIte];exact hk
def aUE{h:PH}{b:Nat}{s:St}{G:List Nat}(H:aAP h b s G)(x:Nat)(hx:x<18446744073709551616){k:cD}(hn:zH s x=none->k (.tuple #[.slice none 0 0,.int .i64 3]) h)
  (hk:∀l v,zH s x=some l->fZ h 2 v (l.map Pr.cells)->aDG v G->k (.tuple #[v,.int .i64 0]) h):aT PG uV #[pT b 0,.int .u64 (x:Int)] h k:=by
 apply qP.call;unfold qP;have hok:=H.ok;have hok1:=hok.h1;have hok2:=hok.h2;have hok3:=hok.h3;have hok4:=hok.h4;have hnone:=aOA hok1 (x:=x);have H0:=H;obtain⟨nv,bv,bl,h1,h2,h3,h4,h5,h6,h7,h8,h9⟩:=H.here;have c1:dB h ⟨b,0+1,none⟩=some (.int .u64 ((s.height-(s.blocks.length-1):Nat):Int)):=by simp[dB,h1]
 have c2:dB h ⟨b,0+2,none⟩=some bv:=by simp[dB,h1]
 by_cases d1:x<s.height-(s.blocks.length-1)
 ·have g1:((x:Int)<((s.height-(s.blocks.length-1):Nat):Int))=True:=eq_true (by omega);simp only[dP.f1,cA.load,c1,g1,aLo,aKI,cE,reduceIte];exact hn (hnone.2 (by omega))
 have g1:((x:Int)<((s.height-(s.blocks.length-1):Nat):Int))=False:=eq_false (by omega);simp only[dP.f1,cA.load,c1,g1,cE,reduceIte];refine aDp H0 ?_;by_cases d2:s.height<x
 ·have g2:((s.height:Int)<(x:Int))=True:=eq_true (by omega);simp only[g2,cE,reduceIte];exact hn (hnone.2 (by omega))
 have g2:((s.height:Int)<(x:Int))=False:=eq_false (by omega);have hs:∃l,zH s x=some l:=by
  cases e:zH s x with
  | none=>have:=hnone.1 e;omega
  | some l=>exact⟨l,rfl⟩
 obtain⟨l,hl⟩:=hs;obtain⟨-,hidx⟩:=aOm hl;have hi:s.blocks.length-1-(s.height-x)=x-(s.height-(s.blocks.length-1)):=by omega
 have w1:IntKind.u64.wrap ((x:Int)-((s.height-(s.blocks.length-1):Nat):Int))=((x-(s.height-(s.blocks.length-1)):Nat):Int):=by rw[gO (by omega) (by omega)];omega
 rw[hi] at hidx;generalize x-(s.height-(s.blocks.length-1))=j at *;rw[←h5,wA] at hidx;obtain⟨⟨v,l'⟩,hy,e⟩:=Option.map_eq_some_iff.1 hidx;simp only at e;subst e;have hmem:=tA hy;obtain⟨pa,p1,p2⟩:=h3.loadCell (t:=fO) (k:=.u64) (j:=(j:Int)) (x:=v) fO.und cJ.info cJ.size cJ.und rfl (by omega) (by rw[rA,wA,hy];rfl);simp only[g2,dP.f1,dP.f2,cA.load,fO.load,c1,c2,w1,p1,p2,cE,reduceIte];exact hk _ v hl (h4 _ hmem).1 (h4 _ hmem).2
def aUd{h:PH}{b:Nat}{s:St}{G:List Nat}(H:aAP h b s G){bk m:Nat}{A:List Tx}{c:Bool}{K:List Nat}(B:aAo h bk m A c K)(hd:∀x∈G,x≠bk∧x≠m)(x:Nat)(hx:x<18446744073709551616){k:cD}(hn:zH s x=none->k (.tuple #[.string (tx []),.int .i64 3]) h)
  (hk:∀l h' c',zH s x=some l->aAo h' bk m (aGH l++A) c' K->(c=true->c'=true)->cQ [bk,m] h h'->k (.tuple #[.string (tx (oD l)),.int .i64 0]) h'):aT PG aAB #[pT b 0,pT bk 0,.int .u64 (x:Int)] h k:=by
 apply wO.call;unfold wO;refine aUE H x hx (λhs=>?_) (λl v hs S hv=>?_)
 ·simp only[show((3:Int) !=0)=true from rfl,cE,reduceIte];exact hn hs
 ·simp only[show((0:Int) !=0)=false from rfl,bne_self_eq_false,cE,reduceIte];have hb:=H.ok.blk l (by
   obtain⟨-,h2⟩:=aOm hs;exact tA h2)
  refine aQ4 B (by omega) S (λa n c e=>by
   have:=hd _ (hv a n c e);simp[this]) (λp hp=>by have:=hb.2.1 p hp;unfold aPd at this;omega) λh' c' B' hc u=>?_
  exact hk l h' c' hs B' hc u
end
section
open Go
def aFJ{b m:Nat}{A:List Tx}{K:List Nat}{X:nA}{h:PH}{F:List Nat}(H:eP (rU b m A K) X h F):∃Fd,X h Fd∧Bk b m A K h∧F=(b::m::K)++Fd∧∀x∈b::m::K,x∉Fd:=by
 obtain⟨Fa,Fb,rfl,⟨rfl,B⟩,HX,hd⟩:=H;exact⟨Fb,HX,B,rfl,hd⟩
def aH3{b m:Nat}{A:List Tx}{K:List Nat}{X':nA}{h h':PH}{Fd Fd':List Nat}(B:Bk b m A K h)(hd:∀x∈b::m::K,x∉Fd)(HX:X' h' Fd')(s:jI h Fd h' Fd'):eP (rU b m A K) X' h' ((b::m::K)++Fd')∧jI h ((b::m::K)++Fd) h' ((b::m::K)++Fd'):=by
 refine⟨eP.mk ⟨rfl,B.upd s.upd (λx hx hm=>hd x hx hm)⟩ HX (λx hx hx8=>?_),⟨s.upd.mono λx hx=>.inl (by simp[hx]),λx hx=>?_⟩⟩
 ·rcases s.grow x hx8 with hh|hh
  ·exact hd x hx hh
  ·exact B.known x hx hh
 ·rcases kB.1 hx with hx|hx
  ·exact .inl (zLk _ hx)
  ·rcases s.grow x hx with hh|hh
   ·exact .inl (zLl _ hh)
   ·exact .inr hh
def rU.mono{b m:Nat}{A B:List Tx}{K:List Nat}{X:nA}{h:PH}{F:List Nat}(H:eP (rU b m A K) X h F)(hs:∀a∈B,a∈A):eP (rU b m B K) X h F:=by
 obtain⟨Fa,Fb,rfl,⟨rfl,B'⟩,HX,hd⟩:=H;exact⟨_,Fb,rfl,⟨rfl,B'.mono hs⟩,HX,hd⟩
def aMT{b m:Nat}{K Fd:List Nat}(hd:∀x∈b::m::K,x∉Fd):∀x∈Fd,x∉[b,m]:=λx hx hm=>by
 simp only[gU,lH,or_false] at hm;rcases hm with rfl|rfl
 ·exact hd _ (by simp) hx
 ·exact hd _ (by simp) hx
def bAE{s:Ch}(w:s.DOk){p:Pk}(hr:p.right=true):(p.f==1-s.id)=!(p.f==s.id):=by
 obtain⟨h1,h2,-⟩:=Pk.right_iff.1 hr;have:=w.id;rw[zLm];simp only[beq_iff_eq,Bool.not_eq_true',beq_eq_false_iff_ne,ne_eq];omega
noncomputable def aKM(s:Ch)(p:Pk)(pf:Tx)(x:Int):Int:=rG s (uO s p pf x)
def aVl(s:Ch)(p:Pk)(pf:Tx)(x:Int):aKM s p pf x=if s.st.height=18446744073709551615 then 12 else if (p.right&&(p.f==1-s.id))=false then 1 else if ¬IntKind.u64.wrap ((s.st.height:Int)+1)<p.t then 10 else if (iJ s.st.now (iZ 114 p.s.toNat)).isSome=true then 4 else if (mC s.cl x).isSome=false then 11 else if aEG (wR s.cl x) pf (iZ 99 p.s.toNat) (rJ p)=false then 9 else if ¬s.st.now.length+2≤4096 then 2 else 0:=by
 unfold aKM rG uO;by_cases c0:s.st.height=18446744073709551615
 ·rw[if_pos c0,if_pos c0]
 ·rw[if_neg c0,if_neg c0];generalize (p.right&&(p.f==1-s.id))=b1;generalize aEG (wR s.cl x) pf (iZ 99 p.s.toNat) (rJ p)=b2;generalize (mC s.cl x).isSome=b3;generalize (iJ s.st.now (iZ 114 p.s.toNat)).isSome=b4;by_cases c2:IntKind.u64.wrap ((s.st.height:Int)+1)<p.t<;>by_cases c3:s.st.now.length+2≤4096<;>cases b1<;>cases b2<;>cases b3<;>cases b4<;>simp[aAH,c2,c3]
def aN2(l:List hZ)(x:Int):(mC l x).getD ⟨#[]⟩=tx (wR l x):=by
 unfold wR;exact(aNI _).symm
def aVR{h:PH}{c b m:Nat}{s:Ch}{n:Nat}{A:List Tx}{K F:List Nat}(H:eP (rU b m A K) (DC c b s n) h F)(w:s.DOk)(hn:n≤10000){p:Pk}(pw:p.wf){pf:Tx}(hpf:pf.length≤1000000){x:Nat}(hx:x<18446744073709551616){k:cD}
  (hbad:aKM s p pf (x:Int)≠0->∀h',eP (rU b m A K) (DC c b s n) h' F->jI h F h' F->k (.int .i64 (aKM s p pf (x:Int))) h')
  (hok:aKM s p pf (x:Int)=0->∀h' F',eP (rU b m ((aI2 p++(aI0 pf++sR p))++A) K) (DC c b (s.received p) (n+1)) h' F'->jI h F h' F'->k (.int .i64 0) h'):
  aT PG aAG #[pT c 0,p.v,.string (tx pf),.int .u64 (x:Int)] h k:=by
 apply pF.call;unfold pF;have gX:∀s n,mK (DC c b s n):=λ_ _=>DC.good _ _ _ _;have gW:mK (eP (rU b m A K) (DC c b s n)):=(rU.good _ _ _ _).star (gX _ _);obtain⟨Fd,Hd,HB,eF,hdis⟩:=aFJ H;subst eF;obtain⟨sp,cp,bv,nv,P⟩:=id Hd;have offd:=aMT hdis;obtain⟨q,hq⟩:=zLn pw.1;have hq2:q<18446744073709551616:=by have:=pw.2.1;omega
 have hqn:p.s.toNat=q:=by omega
 intro r1 hr1
 try rw[cW]
 have u1:dD h (h.set r1 (.cells (Value.cells p.v) aR)):=cQ.new hr1;have X1:Bx (h.set r1 (.cells (Value.cells p.v) aR)) r1 p.cells:=Bx.new;generalize h.set r1 (.cells (Value.cells p.v) aR)=h1 at *;have P1:=nN.good.ext P u1;have lp:∀{h':PH},dD h1 h'->cG PG h' (loadAt aR (pT r1 0))=some p.v:=λu=>(X1.ext u).pk rfl;have lf:∀{h':PH},dD h1 h'->cG PG h' (loadAt bR (pT r1 0))=some (.int .i64 p.f):=λu=>by rw[bR.load,(X1.ext u).cell];rfl
 have ls:∀{h':PH},Bx h' r1 p.cells->cG PG h' (loadAt cA (pT r1 1))=some (.int .u64 (q:Int)):=λX=>by rw[cA.load,X.cell,←hq];rfl
 have lt:∀{h':PH},dD h1 h'->cG PG h' (loadAt cA (pT r1 2))=some (.int .u64 p.t):=λu=>by rw[cA.load,(X1.ext u).cell];rfl
 have no:∀{h3:PH} (e:Int),dD h1 h3->aKM s p pf (x:Int)=e->e≠0->k (.int .i64 e) h3:=fun {h3} e u3 he hne=>by
  have:=hbad (by rw[he];exact hne) h3 (gW.ext H (u1.trans u3)) (jI.ext (u1.trans u3));rw[he] at this;exact this
 have hse:=aVl s p pf (x:Int);obtain⟨Fs1,⟨G1,S1,-⟩,-,-⟩:=P1.fSt;simp only[cT.f2,fQ,dl2 P1.cell,cE,reduceIte,cZ,Nat.reduceAdd];refine aDp S1 ?_;by_cases c0:s.st.height=18446744073709551615
 ·have q0:((s.st.height:Int)==18446744073709551615)=true:=by rw[c0];rfl
  rw[if_pos c0] at hse;simp only[iG,q0,cE,reduceIte,cZ,Nat.reduceAdd];exact no 12 cQ.refl hse (by decide)
 have q0:((s.st.height:Int)==18446744073709551615)=false:=by rw[beq_eq_false_iff_ne];omega
 rw[if_neg c0] at hse;simp only[iG,q0,lp cQ.refl,cE,reduceIte,cZ,Nat.reduceAdd];refine aIT p pw.1 pw.2.2.1 λh2 u2=>?_;have P2:=nN.good.ext P1 u2;cases hr:p.right with
 | false=>
  rw[hr,sJ,if_pos rfl] at hse;simp only[cE,reduceIte,cZ,Nat.reduceAdd];exact no 1 u2 hse (by decide)
 | true=>
  rw[hr,zLp,bAE w hr] at hse;cases hf:p.f==s.id with
  | true=>
   rw[hf,Bool.not_true,if_pos rfl] at hse;simp only[aR.f0,cT.f1,fQ,lf u2,dl1 P2.cell,iG,hf,cE,reduceIte,cZ,Nat.reduceAdd];exact no 1 u2 hse (by decide)
  | false=>
   rw[hf,zLq,if_neg (by decide)] at hse;obtain⟨Fs2,⟨G2,S2,-⟩,-,-⟩:=P2.fSt;simp only[aR.f0,aR.f2,cT.f1,cT.f2,fQ,lf u2,lt u2,dl1 P2.cell,dl2 P2.cell,iG,hf,cE,reduceIte,cZ,Nat.reduceAdd];refine aDp S2 ?_;refine⟨lt u2,?_⟩;by_cases c2:IntKind.u64.wrap ((s.st.height:Int)+1)<p.t
   case neg=>
    have g:(p.t≤IntKind.u64.wrap ((s.st.height:Int)+1))=True:=eq_true (by omega);rw[if_pos c2] at hse;simp only[g,cE,reduceIte,cZ,Nat.reduceAdd];exact no 10 u2 hse (by decide)
   have g:(p.t≤IntKind.u64.wrap ((s.st.height:Int)+1))=False:=eq_false (by omega);rw[if_neg (by simpa using c2)] at hse;have q114:({data:=#[114]}:ByteArray)=tx [114]:=rfl;have q99:({data:=#[99]}:ByteArray)=tx [99]:=rfl;have q97:({data:=#[97]}:ByteArray)=tx [97]:=rfl;simp only[g,cT.f2,aR.f1,fQ,dl2 P2.cell,ls (X1.ext u2),q114,cE,reduceIte,cZ,Nat.reduceAdd];refine aAk (c:=114) (n:=q) hq2 λh3 u3=>?_;have u13:=u2.trans u3;have P3:=nN.good.ext P2 u3;obtain⟨Fs3,⟨G3,S3,-⟩,-,-⟩:=P3.fSt;refine⟨dl2 P3.cell,?_⟩;refine aRj S3 _ ?_;rw[hqn] at hse;cases hg:(iJ s.st.now (iZ 114 q)).isSome with
   | true=>
    rw[hg,if_pos rfl] at hse;simp only[cE,reduceIte,cZ,Nat.reduceAdd];exact no 4 u13 hse (by decide)
   | false=>
    rw[hg,if_neg (by decide)] at hse;obtain⟨Fc,KR,-,-⟩:=P3.fCl;simp only[cT.f3,fQ,dl3 P3.cell,cE,reduceIte,cZ,Nat.reduceAdd];refine aLg KR (by have:=w.few;omega) (x:Int) ?_;rw[aN2];cases hro:(mC s.cl (x:Int)).isSome with
    | false=>
     rw[hro,if_pos rfl] at hse;simp only[cE,reduceIte,cZ,Nat.reduceAdd];exact no 11 u13 hse (by decide)
    | true=>
     rw[hro,if_neg (by decide)] at hse;simp only[cT.f0,aR.f1,fQ,dl0 P3.cell,ls (X1.ext u13),lp u13,q99,cE,reduceIte,cZ,Nat.reduceAdd];refine aAk (c:=99) (n:=q) hq2 λh4 u4=>?_;have u14:=u13.trans u4;have P4:=nN.good.ext P3 u4;refine⟨lp u14,dl0 P4.cell,dl0 P4.cell,?_⟩;refine aLQ (HB.ext (u1.trans u14)) pw λh5 B5 u5=>?_;have P5:=nN.good.upd P4 u5 offd;refine⟨dl0 P5.cell,?_⟩;refine aSr B5 (by omega) λh6 B6 u6=>?_;have P6:=nN.good.upd P5 u6 offd;have u46:cQ [b,m] h4 h6:=u5.trans u6;have B6':Bk b m ((aI0 pf++sR p)++A) K h6:=B6.mono λa ha=>by
      simp only[kB] at ha ⊢;rcases ha with(ha|ha)|ha
      ·exact .inl ha
      ·exact .inr (.inl ha)
      ·exact .inr (.inr ha)
     obtain⟨W6,s6⟩:=aH0 (gX s n) (gW.ext H (u1.trans u14)) B6' u46;have sh6:=(jI.ext (F:=(b::m::K)++Fd) (u1.trans u14)).trans s6;have n1b:r1∉[b,m]:=(eK.one hr1).off (HB.known b (by simp)) (HB.known m (by simp)) r1 (by simp);have X6:=(X1.ext u14).upd u46 n1b;have nX:r1∉Fd:=λhm=>(gX s n).known Hd _ hm hr1;have no2:∀(e:Int),aKM s p pf (x:Int)=e->e≠0->k (.int .i64 e) h6:=λe he hne=>by
      have:=hbad (by rw[he];exact hne) h6 (rU.mono W6 λa ha=>by simp[ha]) sh6;rw[he] at this;exact this
     cases hh:aEG (wR s.cl (x:Int)) pf (iZ 99 q) (rJ p) with
     | false=>
      rw[hh,if_pos rfl] at hse;simp only[cE,reduceIte,cZ,Nat.reduceAdd];exact no2 9 hse (by decide)
     | true=>
      rw[hh,if_neg (by decide)] at hse;simp only[cE,reduceIte,cZ,Nat.reduceAdd];refine aQ8 (s:=s) (n:=n) (b:=b) ⟨sp,cp,bv,nv,P6⟩ 2 (by decide) ?_;by_cases c3:s.st.now.length+2≤4096
      case neg=>
       have q3:=decide_eq_false c3;rw[if_pos c3] at hse;simp only[q3,cE,reduceIte,cZ,Nat.reduceAdd];exact no2 2 hse (by decide)
      have q3:=decide_eq_true c3;rw[if_neg (by simpa using c3)] at hse;have hok:=hok hse;simp only[q3,cT.f2,aR.f1,fQ,dl2 P6.cell,ls X6,q114,cE,reduceIte,cZ,Nat.reduceAdd];refine aAk (c:=114) (n:=q) hq2 λh7 u7=>?_;have P7:=nN.good.ext P6 u7;refine⟨dl2 P7.cell,?_⟩;have t1:({data:=#[1]}:ByteArray)=tx [1]:=rfl;rw[t1];refine aPU P7 (by rw[aAA];decide) (by rw[aAA];decide) (by decide) (λhh=>by omega) λh8 F8 P8 s8=>?_;obtain⟨X8,nX8⟩:=aCm (X6.ext u7) nX s8;have l8:cG PG h8 (loadAt aR (pT r1 0))=some p.v:=X8.pk rfl
      -- the book's turn
      obtain⟨W8,sW8⟩:=aH3 (X':=DC c b (s.put (iZ 114 q) [1]) n) (B6'.ext u7) hdis ⟨sp,cp,bv,nv,P8⟩ s8;obtain⟨F8',Hd8,B8,eF8,hdis8⟩:=aFJ W8;have eF8':F8'=F8:=(List.append_cancel_left eF8).symm;subst eF8';have hfit:(oO s.st.now ⟨iZ 114 q,[1]⟩).length≤s.st.now.length+1:=by
       unfold oO;rw[jM,qE];have hpar:∀L:List Pr,(L.filter λq'=>decide (q'.k<iZ 114 q)).length+(L.filter λq'=>decide (iZ 114 q<q'.k)).length≤L.length:=λL=>by
        induction L with
        | nil=>simp
        | cons y L ih=>
         simp only[zLt];by_cases c1:y.k<iZ 114 q
         ·have c2:¬iZ 114 q<y.k:=List.lt_asymm c1;simp only[c1,c2,decide_true,decide_false,if_true,zLu,if_false,qE];omega
         ·by_cases c2:iZ 114 q<y.k
          ·simp only[c1,c2,decide_true,decide_false,if_true,zLu,if_false,qE];omega
          ·simp only[c1,c2,decide_false,zLu,if_false,qE];omega
       have:=hpar s.st.now;show(s.st.now.filter λq'=>decide (q'.k<iZ 114 q)).length+((s.st.now.filter λq'=>decide (iZ 114 q<q'.k)).length+1)≤_;omega
      simp only[cT.f0,cT.f2,aR.f1,fQ,dl2 P8.cell,dl0 P8.cell,ls X8,l8,q97,cE,reduceIte,cZ,Nat.reduceAdd];refine aAk (c:=97) (n:=q) hq2 λh9 u9=>?_;have P9:=nN.good.ext P8 u9;have X9:=X8.ext u9;have l9:cG PG h9 (loadAt aR (pT r1 0))=some p.v:=X9.pk rfl;refine⟨l9,dl0 P9.cell,dl2 P9.cell,?_⟩;refine aOY (B8.ext u9) pw λh10 B10 u10=>?_;have P10:=nN.good.upd P9 u10 (aMT hdis8);obtain⟨W10,s10⟩:=aH0 (gX _ n) (((rU.good _ _ _ _).star (gX _ n)).ext W8 u9) B10 u10;have X10:=X9.upd u10 n1b;refine⟨dl2 P10.cell,?_⟩;refine aPU (s:=s.put (iZ 114 q) [1]) P10 (by rw[aAA];decide) (by rw[aAA];decide) (aQl _) (λhh=>?_) λh11 F11 P11 s11=>?_
      ·have h2:4096≤(oO s.st.now ⟨iZ 114 q,[1]⟩).length:=hh.2;omega
      obtain⟨X11,nX11⟩:=aCm X10 nX8 s11;have l11:cG PG h11 (loadAt aR (pT r1 0))=some p.v:=X11.pk rfl;simp only[l11,cE,reduceIte,cZ,Nat.reduceAdd];refine aL3 (s:=(s.put (iZ 114 q) [1]).put (iZ 97 q) (aEv p)) (n:=n) (b:=b) ⟨sp,cp,bv,nv,P11⟩ hn 2 p λh12 F12 P12 s12=>?_;have hdis10:=hdis8;obtain⟨W12,sW12⟩:=aH3 (X':=DC c b (s.received p) (n+1)) B10 hdis10 (by
       unfold Ch.received;rw[hqn];exact P12) (s11.trans s12)
      refine hok h12 _ (rU.mono W12 λa ha=>?_) ?_
      ·simp only[kB] at ha ⊢;rcases ha with(ha|ha|ha)|ha
       ·exact .inl ha
       ·exact .inr (.inl (.inl ha))
       ·exact .inr (.inl (.inr ha))
       ·exact .inr (.inr ha)
      ·exact(((sh6.trans (jI.ext u7)).trans sW8).trans (jI.ext u9)).trans (s10.trans sW12)
noncomputable def aDj(s:Ch)(p:Pk):Int:=rG s [(1,p.right&&(p.f==s.id)),(3,yF s p)]
def aRc(s:Ch)(p:Pk):aDj s p=if s.st.height=18446744073709551615 then 12 else if (p.right&&(p.f==s.id))=false then 1 else if yF s p=false then 3 else 0:=by
 unfold aDj rG;by_cases c0:s.st.height=18446744073709551615
 ·rw[if_pos c0,if_pos c0]
 ·rw[if_neg c0,if_neg c0];generalize (p.right&&(p.f==s.id))=b1;generalize yF s p=b2;cases b1<;>cases b2<;>simp[aAH]
def aOW(s:Ch)(p:Pk)(l:List (Int×Bool)):jP s p l=if aDj s p=0 then aAH l else aDj s p:=by
 unfold jP aDj rG;by_cases c0:s.st.height=18446744073709551615
 ·rw[if_pos c0,if_pos c0];rfl
 ·rw[if_neg c0,if_neg c0];generalize (p.right&&(p.f==s.id))=b1;generalize yF s p=b2;cases b1<;>cases b2<;>simp[aAH]
def aQu{h:PH}{c b m:Nat}{s:Ch}{n:Nat}{A:List Tx}{K F:List Nat}{sp cp:Nat}{bv nv:Value}(HB:Bk b m A K h)(P:nN c (s.dcells b sp cp bv nv) sp s.st cp s.cl bv nv n h F){p:Pk}(pw:p.wf){k:cD}
  (hk:∀h',Bk b m ((if aDj s p=0 then sR p else [])++A) K h'->cQ [b,m] h h'->k (.int .i64 (aDj s p)) h'):
  aT PG sS #[pT c 0,p.v] h k:=by
 apply oZ.call;unfold oZ;obtain⟨q,hq⟩:=zLn pw.1;have hq2:q<18446744073709551616:=by have:=pw.2.1;omega
 have hqn:p.s.toNat=q:=by omega
 intro r1 hr1
 try rw[cW]
 have u1:dD h (h.set r1 (.cells (Value.cells p.v) aR)):=cQ.new hr1;have X1:Bx (h.set r1 (.cells (Value.cells p.v) aR)) r1 p.cells:=Bx.new;generalize h.set r1 (.cells (Value.cells p.v) aR)=h1 at *;have P1:=nN.good.ext P u1;have lp:∀{h':PH},dD h1 h'->cG PG h' (loadAt aR (pT r1 0))=some p.v:=λu=>(X1.ext u).pk rfl;have lf:∀{h':PH},dD h1 h'->cG PG h' (loadAt bR (pT r1 0))=some (.int .i64 p.f):=λu=>by rw[bR.load,(X1.ext u).cell];rfl
 have ls:∀{h':PH},dD h1 h'->cG PG h' (loadAt cA (pT r1 1))=some (.int .u64 (q:Int)):=λu=>by rw[cA.load,(X1.ext u).cell,←hq];rfl
 have hse:=aRc s p;have no:∀{h3:PH} (e:Int),dD h1 h3->aDj s p=e->e≠0->k (.int .i64 e) h3:=fun {h3} e u3 he hne=>by
  have:=hk h3 (by rw[if_neg (by rw[he];exact hne)];exact HB.ext (u1.trans u3)) (u1.trans u3).upd;rw[he] at this;exact this
 obtain⟨Fs1,⟨G1,S1,-⟩,-,-⟩:=P1.fSt;simp only[cT.f2,fQ,dl2 P1.cell,cE,reduceIte,cZ,Nat.reduceAdd];refine aDp S1 ?_;by_cases c0:s.st.height=18446744073709551615
 ·have q0:((s.st.height:Int)==18446744073709551615)=true:=by rw[c0];rfl
  rw[if_pos c0] at hse;simp only[iG,q0,cE,reduceIte,cZ,Nat.reduceAdd];exact no 12 cQ.refl hse (by decide)
 have q0:((s.st.height:Int)==18446744073709551615)=false:=by rw[beq_eq_false_iff_ne];omega
 rw[if_neg c0] at hse;simp only[iG,q0,lp cQ.refl,cE,reduceIte,cZ,Nat.reduceAdd];refine aIT p pw.1 pw.2.2.1 λh2 u2=>?_;have P2:=nN.good.ext P1 u2;cases hr:p.right with
 | false=>
  rw[hr,sJ,if_pos rfl] at hse;simp only[cE,reduceIte,cZ,Nat.reduceAdd];exact no 1 u2 hse (by decide)
 | true=>
  rw[hr,zLp] at hse;cases hf:p.f==s.id with
  | false=>
   rw[hf,if_pos rfl] at hse;have hf':(p.f !=s.id)=true:=by rw[bne,hf];rfl
   simp only[aR.f0,cT.f1,fQ,lf u2,dl1 P2.cell,kW,hf',cE,reduceIte,cZ,Nat.reduceAdd];exact no 1 u2 hse (by decide)
  | true=>
   rw[hf,if_neg (by decide)] at hse;have hf':(p.f !=s.id)=false:=by rw[bne,hf];rfl
   have q99:({data:=#[99]}:ByteArray)=tx [99]:=rfl;simp only[aR.f0,aR.f1,cT.f1,cT.f2,fQ,lf u2,ls u2,dl1 P2.cell,dl2 P2.cell,kW,hf',q99,cE,reduceIte,cZ,Nat.reduceAdd];refine aAk (c:=99) (n:=q) hq2 λh3 u3=>?_;have u13:=u2.trans u3;have P3:=nN.good.ext P2 u3;obtain⟨Fs3,⟨G3,S3,-⟩,-,-⟩:=P3.fSt;refine⟨dl2 P3.cell,?_⟩;refine aRj S3 _ ?_;have hsp:yF s p=match iJ s.st.now (iZ 99 q) with|some y=>decide (y.v=rJ p)|none=>false:=by unfold yF;rw[hqn];rfl
   cases hg:iJ s.st.now (iZ 99 q) with
   | none=>
    rw[hg] at hsp;rw[hsp,if_pos rfl] at hse;simp only[zLv,cE,reduceIte,cZ,Nat.reduceAdd];exact no 3 u13 hse (by decide)
   | some y=>
    rw[hg] at hsp;simp only[aKs,aKm,aIu,cT.f0,fQ,dl0 P3.cell,lp u13,cE,reduceIte,cZ,Nat.reduceAdd];refine aLQ (HB.ext (u1.trans u13)) pw λh4 B4 u4=>?_;have hu:cQ [b,m] h h4:=(u1.trans u13).upd.trans u4;by_cases he:y.v=rJ p
    ·have hsp':yF s p=true:=by rw[hsp];exact decide_eq_true he
     rw[hsp',if_neg (by decide)] at hse;have d1:(!decide (y.v=rJ p))=false:=by rw[decide_eq_true he];rfl
     simp only[aGC,d1,cE,reduceIte,cZ,Nat.reduceAdd];have:=hk h4 (by rw[if_pos hse];exact B4) hu;rw[hse] at this;exact this
    ·have hsp':yF s p=false:=by rw[hsp];exact decide_eq_false he
     rw[hsp',if_pos rfl] at hse;have d1:(!decide (y.v=rJ p))=true:=by rw[decide_eq_false he];rfl
     simp only[aGC,d1,cE,reduceIte,cZ,Nat.reduceAdd];have:=hk h4 (by rw[if_neg (by rw[hse];decide)];exact B4.mono λa ha=>zLl _ ha) hu;rw[hse] at this;exact this
def bAu(s:Ch)(p:Pk)(pf:Tx)(x:Int):aAH (aBO s p pf x)=if (mC s.cl x).isSome=false then 11 else if aEG (wR s.cl x) pf (iZ 97 p.s.toNat) (aEv p)=false then 9 else 0:=by
 unfold aBO;generalize (mC s.cl x).isSome=b1;generalize aEG (wR s.cl x) pf (iZ 97 p.s.toNat) (aEv p)=b2;cases b1<;>cases b2<;>simp[aAH]
def bAf(s:Ch)(p:Pk)(pf:Tx)(x:Int):aAH (wS s p pf x)=if (mC s.cl x).isSome=false then 11 else if ¬IntKind.u64.wrap (p.t-1)≤x then 11 else if aE5 (wR s.cl x) pf (iZ 114 p.s.toNat)=false then 9 else 0:=by
 unfold wS;generalize (mC s.cl x).isSome=b1;generalize aE5 (wR s.cl x) pf (iZ 114 p.s.toNat)=b2;by_cases c:IntKind.u64.wrap (p.t-1)≤x<;>cases b1<;>cases b2<;>simp[aAH,c]
def aQN{s:Ch}{p:Pk}(h:yF s p=true):(iJ s.st.now (iZ 99 p.s.toNat)).isSome=true:=by
 unfold yF at h;cases hg:iJ s.st.now (iZ 99 p.s.toNat) with
 | none=>rw[hg] at h;cases h
 | some y=>rfl
def aQQ{s:Ch}{p:Pk}(h:aDj s p=0):yF s p=true∧p.right=true∧p.f=s.id:=by
 rw[aRc] at h;split at h
 ·simp at h
 ·split at h
  ·simp at h
  ·rename_i h1;split at h
   ·simp at h
   ·rename_i h2;simp only[Bool.not_eq_false,yH,beq_iff_eq] at h1 h2;exact⟨h2,h1⟩
def aXT{h:PH}{c b m:Nat}{s:Ch}{n:Nat}{A:List Tx}{K F:List Nat}(H:eP (rU b m A K) (DC c b s n) h F)(w:s.DOk)(hn:n≤10000){p:Pk}(pw:p.wf){pf:Tx}(hpf:pf.length≤1000000){x:Nat}(hx:x<18446744073709551616){k:cD}
  (hbad:jP s p (aBO s p pf (x:Int))≠0->∀h',eP (rU b m A K) (DC c b s n) h' F->jI h F h' F->k (.int .i64 (jP s p (aBO s p pf (x:Int)))) h')
  (hok:jP s p (aBO s p pf (x:Int))=0->∀h' F',eP (rU b m ((aI0 pf++(aI2 p++sR p))++A) K) (DC c b (s.settled 3 p) (n+1)) h' F'->jI h F h' F'->k (.int .i64 0) h'):
  aT PG aAX #[pT c 0,p.v,.string (tx pf),.int .u64 (x:Int)] h k:=by
 apply pU.call;unfold pU;have gX:∀s n,mK (DC c b s n):=λ_ _=>DC.good _ _ _ _;have gW:mK (eP (rU b m A K) (DC c b s n)):=(rU.good _ _ _ _).star (gX _ _);obtain⟨Fd,Hd,HB,eF,hdis⟩:=aFJ H;subst eF;obtain⟨sp,cp,bv,nv,P⟩:=id Hd;have offd:=aMT hdis;obtain⟨q,hq⟩:=zLn pw.1;have hq2:q<18446744073709551616:=by have:=pw.2.1;omega
 have hqn:p.s.toNat=q:=by omega
 intro r1 hr1
 try rw[cW]
 have u1:dD h (h.set r1 (.cells (Value.cells p.v) aR)):=cQ.new hr1;have X1:Bx (h.set r1 (.cells (Value.cells p.v) aR)) r1 p.cells:=Bx.new;generalize h.set r1 (.cells (Value.cells p.v) aR)=h1 at *;have P1:=nN.good.ext P u1;have n1b:r1∉[b,m]:=(eK.one hr1).off (HB.known b (by simp)) (HB.known m (by simp)) r1 (by simp);have nX:r1∉Fd:=λhm=>(gX s n).known Hd _ hm hr1;have lp:∀{h':PH},Bx h' r1 p.cells->cG PG h' (loadAt aR (pT r1 0))=some p.v:=λX=>X.pk rfl;have ls:∀{h':PH},Bx h' r1 p.cells->cG PG h' (loadAt cA (pT r1 1))=some (.int .u64 (q:Int)):=λX=>by rw[cA.load,X.cell,←hq];rfl
 have hse:=aOW s p (aBO s p pf (x:Int));have stepOf:∀{h3:PH} {A':List Tx},Bk b m A' K h3->cQ [b,m] h1 h3->(∀a∈A,a∈A')->eP (rU b m A K) (DC c b s n) h3 ((b::m::K)++Fd)∧jI h ((b::m::K)++Fd) h3 ((b::m::K)++Fd):=fun {h3 A'} B3 u3 hs=>by
  obtain⟨W3,s3⟩:=aH0 (gX s n) (gW.ext H u1) B3 u3;exact⟨rU.mono W3 hs,(jI.ext u1).trans s3⟩
 have no:∀{h3:PH} {A':List Tx} (e:Int),Bk b m A' K h3->cQ [b,m] h1 h3->(∀a∈A,a∈A')->jP s p (aBO s p pf (x:Int))=e->e≠0->k (.int .i64 e) h3:=fun {h3 A'} e B3 u3 hs he hne=>by
  obtain⟨W3,s3⟩:=stepOf B3 u3 hs;have:=hbad (by rw[he];exact hne) h3 W3 s3;rw[he] at this;exact this
 simp only[lp X1,cE,reduceIte,cZ,Nat.reduceAdd];refine aQu (s:=s) (n:=n) (HB.ext u1) P1 pw λh2 B2 u2=>?_;have P2:=nN.good.upd P1 u2 offd;have X2:=X1.upd u2 n1b;by_cases hm:aDj s p=0
 case neg=>
  have q0:(aDj s p !=0)=true:=by rw[bne_iff_ne];exact hm
  rw[if_neg hm] at hse;simp only[kW,q0,cE,reduceIte,cZ,Nat.reduceAdd];exact no _ B2 u2 (λa ha=>zLl _ ha) hse hm
 have q0:(aDj s p !=0)=false:=by rw[hm];rfl
 rw[if_pos hm] at B2 hse;rw[bAu,hqn] at hse;obtain⟨Fc,KR,-,-⟩:=P2.fCl;simp only[kW,q0,cT.f3,fQ,dl3 P2.cell,cE,reduceIte,cZ,Nat.reduceAdd];refine aLg KR (by have:=w.few;omega) (x:Int) ?_;rw[aN2];cases hro:(mC s.cl (x:Int)).isSome with
 | false=>
  rw[hro,if_pos rfl] at hse;simp only[cE,reduceIte,cZ,Nat.reduceAdd];exact no 11 B2 u2 (λa ha=>zLl _ ha) hse (by decide)
 | true=>
  rw[hro,if_neg (by decide)] at hse;have q97:({data:=#[97]}:ByteArray)=tx [97]:=rfl;have q99:({data:=#[99]}:ByteArray)=tx [99]:=rfl;simp only[cT.f0,aR.f1,fQ,dl0 P2.cell,ls X2,lp X2,q97,cE,reduceIte,cZ,Nat.reduceAdd];refine aAk (c:=97) (n:=q) hq2 λh4 u4=>?_;have P4:=nN.good.ext P2 u4;have X4:=X2.ext u4;refine⟨lp X4,dl0 P4.cell,dl0 P4.cell,?_⟩;refine aOY (B2.ext u4) pw λh5 B5 u5=>?_;have P5:=nN.good.upd P4 u5 offd;refine⟨dl0 P5.cell,?_⟩;refine aSr B5 (by omega) λh6 B6 u6=>?_;have P6:=nN.good.upd P5 u6 offd;have u16:cQ [b,m] h1 h6:=((u2.trans u4.upd).trans u5).trans u6;have X6:Bx h6 r1 p.cells:=X1.upd u16 n1b;have hsub:∀a∈A,a∈aI0 pf++(aI2 p++(sR p++A)):=λa ha=>by simp[ha]
  cases hh:aEG (wR s.cl (x:Int)) pf (iZ 97 q) (aEv p) with
  | false=>
   rw[hh,if_pos rfl] at hse;simp only[cE,reduceIte,cZ,Nat.reduceAdd];exact no 9 B6 u16 hsub hse (by decide)
  | true=>
   rw[hh,if_neg (by decide)] at hse;have hok:=hok hse;obtain⟨-,sh6⟩:=stepOf B6 u16 hsub;simp only[cT.f2,aR.f1,fQ,dl2 P6.cell,ls X6,q99,cE,reduceIte,cZ,Nat.reduceAdd];refine aAk (c:=99) (n:=q) hq2 λh7 u7=>?_;have P7:=nN.good.ext P6 u7;refine⟨dl2 P7.cell,?_⟩;refine aSg P7 (by have:=aQN (aQQ hm).1;rw[hqn] at this;exact this) λh8 F8 P8 s8=>?_;obtain⟨X8,nX8⟩:=aCm (X6.ext u7) nX s8;simp only[lp X8,cE,reduceIte,cZ,Nat.reduceAdd];refine aL3 (s:=s.del (iZ 99 q)) (n:=n) (b:=b) ⟨sp,cp,bv,nv,P8⟩ hn 3 p λh9 F9 P9 s9=>?_;obtain⟨W9,sW9⟩:=aH3 (X':=DC c b (s.settled 3 p) (n+1)) (B6.ext u7) hdis (by
    unfold Ch.settled;rw[hqn];exact P9) (s8.trans s9)
   refine hok h9 _ (rU.mono W9 λa ha=>?_) ((sh6.trans (jI.ext u7)).trans sW9);simp only[kB] at ha ⊢;rcases ha with(ha|ha|ha)|ha
   ·exact .inl ha
   ·exact .inr (.inl ha)
   ·exact .inr (.inr (.inl ha))
   ·exact .inr (.inr (.inr ha))
def aSG{h:PH}{c b m:Nat}{s:Ch}{n:Nat}{A:List Tx}{K F:List Nat}(H:eP (rU b m A K) (DC c b s n) h F)(w:s.DOk)(hn:n≤10000){p:Pk}(pw:p.wf){pf:Tx}(hpf:pf.length≤1000000){x:Nat}(hx:x<18446744073709551616){k:cD}
  (hbad:jP s p (wS s p pf (x:Int))≠0->∀h',eP (rU b m A K) (DC c b s n) h' F->jI h F h' F->k (.int .i64 (jP s p (wS s p pf (x:Int)))) h')
  (hok:jP s p (wS s p pf (x:Int))=0->∀h' F',eP (rU b m ((aLK pf (iZ 114 p.s.toNat)++sR p)++A) K) (DC c b (s.settled 4 p) (n+1)) h' F'->jI h F h' F'->k (.int .i64 0) h'):
  aT PG wG #[pT c 0,p.v,.string (tx pf),.int .u64 (x:Int)] h k:=by
 apply nK.call;unfold nK;have gX:∀s n,mK (DC c b s n):=λ_ _=>DC.good _ _ _ _;have gW:mK (eP (rU b m A K) (DC c b s n)):=(rU.good _ _ _ _).star (gX _ _);obtain⟨Fd,Hd,HB,eF,hdis⟩:=aFJ H;subst eF;obtain⟨sp,cp,bv,nv,P⟩:=id Hd;have offd:=aMT hdis;obtain⟨q,hq⟩:=zLn pw.1;have hq2:q<18446744073709551616:=by have:=pw.2.1;omega
 have hqn:p.s.toNat=q:=by omega
 intro r1 hr1
 try rw[cW]
 have u1:dD h (h.set r1 (.cells (Value.cells p.v) aR)):=cQ.new hr1;have X1:Bx (h.set r1 (.cells (Value.cells p.v) aR)) r1 p.cells:=Bx.new;generalize h.set r1 (.cells (Value.cells p.v) aR)=h1 at *;have P1:=nN.good.ext P u1;have n1b:r1∉[b,m]:=(eK.one hr1).off (HB.known b (by simp)) (HB.known m (by simp)) r1 (by simp);have nX:r1∉Fd:=λhm=>(gX s n).known Hd _ hm hr1;have lp:∀{h':PH},Bx h' r1 p.cells->cG PG h' (loadAt aR (pT r1 0))=some p.v:=λX=>X.pk rfl;have ls:∀{h':PH},Bx h' r1 p.cells->cG PG h' (loadAt cA (pT r1 1))=some (.int .u64 (q:Int)):=λX=>by rw[cA.load,X.cell,←hq];rfl
 have lt:∀{h':PH},Bx h' r1 p.cells->cG PG h' (loadAt cA (pT r1 2))=some (.int .u64 p.t):=λX=>by rw[cA.load,X.cell];rfl
 have hse:=aOW s p (wS s p pf (x:Int));have stepOf:∀{h3:PH} {A':List Tx},Bk b m A' K h3->cQ [b,m] h1 h3->(∀a∈A,a∈A')->eP (rU b m A K) (DC c b s n) h3 ((b::m::K)++Fd)∧jI h ((b::m::K)++Fd) h3 ((b::m::K)++Fd):=fun {h3 A'} B3 u3 hs=>by
  obtain⟨W3,s3⟩:=aH0 (gX s n) (gW.ext H u1) B3 u3;exact⟨rU.mono W3 hs,(jI.ext u1).trans s3⟩
 have no:∀{h3:PH} {A':List Tx} (e:Int),Bk b m A' K h3->cQ [b,m] h1 h3->(∀a∈A,a∈A')->jP s p (wS s p pf (x:Int))=e->e≠0->k (.int .i64 e) h3:=fun {h3 A'} e B3 u3 hs he hne=>by
  obtain⟨W3,s3⟩:=stepOf B3 u3 hs;have:=hbad (by rw[he];exact hne) h3 W3 s3;rw[he] at this;exact this
 simp only[lp X1,cE,reduceIte,cZ,Nat.reduceAdd];refine aQu (s:=s) (n:=n) (HB.ext u1) P1 pw λh2 B2 u2=>?_;have P2:=nN.good.upd P1 u2 offd;have X2:=X1.upd u2 n1b;by_cases hm:aDj s p=0
 case neg=>
  have q0:(aDj s p !=0)=true:=by rw[bne_iff_ne];exact hm
  rw[if_neg hm] at hse;simp only[kW,q0,cE,reduceIte,cZ,Nat.reduceAdd];exact no _ B2 u2 (λa ha=>zLl _ ha) hse hm
 have q0:(aDj s p !=0)=false:=by rw[hm];rfl
 rw[if_pos hm] at B2 hse;rw[bAf,hqn] at hse;rw[hqn] at hok;obtain⟨Fc,KR,-,-⟩:=P2.fCl;simp only[kW,q0,cT.f3,fQ,dl3 P2.cell,cE,reduceIte,cZ,Nat.reduceAdd];refine aLg KR (by have:=w.few;omega) (x:Int) ?_;rw[aN2];cases hro:(mC s.cl (x:Int)).isSome with
 | false=>
  rw[hro,if_pos rfl] at hse;simp only[cE,reduceIte,cZ,Nat.reduceAdd];exact no 11 B2 u2 (λa ha=>zLl _ ha) hse (by decide)
 | true=>
  rw[hro,if_neg (by decide)] at hse;by_cases c2:IntKind.u64.wrap (p.t-1)≤(x:Int)
  case neg=>
   have g:((x:Int)<IntKind.u64.wrap (p.t-1))=True:=eq_true (by omega);rw[if_pos c2] at hse;simp only[aR.f2,fQ,lt X2,g,cE,reduceIte,cZ,Nat.reduceAdd];exact no 11 B2 u2 (λa ha=>zLl _ ha) hse (by decide)
  have g:((x:Int)<IntKind.u64.wrap (p.t-1))=False:=eq_false (by omega);rw[if_neg (by simpa using c2)] at hse;have q114:({data:=#[114]}:ByteArray)=tx [114]:=rfl;have q99:({data:=#[99]}:ByteArray)=tx [99]:=rfl;simp only[aR.f1,aR.f2,cT.f0,fQ,lt X2,g,dl0 P2.cell,ls X2,q114,cE,reduceIte,cZ,Nat.reduceAdd];refine aAk (c:=114) (n:=q) hq2 λh4 u4=>?_;have P4:=nN.good.ext P2 u4;refine⟨dl0 P4.cell,?_⟩;refine aUU (B2.ext u4) (by omega) λh6 B6 u6=>?_;have P6:=nN.good.upd P4 u6 offd;have u16:cQ [b,m] h1 h6:=(u2.trans u4.upd).trans u6;have X6:Bx h6 r1 p.cells:=X1.upd u16 n1b;have hsub:∀a∈A,a∈aLK pf (iZ 114 q)++(sR p++A):=λa ha=>by simp[ha]
  cases hh:aE5 (wR s.cl (x:Int)) pf (iZ 114 q) with
  | false=>
   rw[hh,if_pos rfl] at hse;simp only[cE,reduceIte,cZ,Nat.reduceAdd];exact no 9 B6 u16 hsub hse (by decide)
  | true=>
   rw[hh,if_neg (by decide)] at hse;have hok:=hok hse;obtain⟨-,sh6⟩:=stepOf B6 u16 hsub;simp only[cT.f2,aR.f1,fQ,dl2 P6.cell,ls X6,q99,cE,reduceIte,cZ,Nat.reduceAdd];refine aAk (c:=99) (n:=q) hq2 λh7 u7=>?_;have P7:=nN.good.ext P6 u7;refine⟨dl2 P7.cell,?_⟩;refine aSg P7 (by have:=aQN (aQQ hm).1;rw[hqn] at this;exact this) λh8 F8 P8 s8=>?_;obtain⟨X8,nX8⟩:=aCm (X6.ext u7) nX s8;simp only[lp X8,cE,reduceIte,cZ,Nat.reduceAdd];refine aL3 (s:=s.del (iZ 99 q)) (n:=n) (b:=b) ⟨sp,cp,bv,nv,P8⟩ hn 4 p λh9 F9 P9 s9=>?_;obtain⟨W9,sW9⟩:=aH3 (X':=DC c b (s.settled 4 p) (n+1)) (B6.ext u7) hdis (by
    unfold Ch.settled;rw[hqn];exact P9) (s8.trans s9)
   refine hok h9 _ (rU.mono W9 λa ha=>?_) ((sh6.trans (jI.ext u7)).trans sW9);simp only[kB] at ha ⊢;rcases ha with(ha|ha)|ha
   ·exact .inl ha
   ·exact .inr (.inl ha)
   ·exact .inr (.inr ha)
def aZX:jV PG (buildSlice eS 0 #[])=some (.cells #[] cU,λr=>pure (.slice (some ⟨r,0,none⟩) 0 0)):=by kernel_rfl
def aVW:Rows 1 ([]:List (List Value)):=λr hr=>by cases hr
def aQz(v:Value):Rows 1 [[v]]:=λr hr=>by simp only[gB] at hr;subst hr;rfl
def aWI{h:PH}{c b:Nat}{s:Ch}{n:Nat}{F:List Nat}(H:DC c b s n h F)(hn:n≤10000){kk:cD}
  (hk:∀h' F',DC c b s.committed (n+1) h' F'->jI h F h' F'->kk (.tuple #[.int .u64 ((lV s.st).2.1:Int),.int .i64 (lV s.st).2.2]) h'):aT PG xJ #[pT c 0] h kk:=by
 apply nV.call;unfold nV wH;obtain⟨sp,cp,bv,nv,P⟩:=H;simp only[cT.f2,fQ,dl2 P.cell,cE,reduceIte,cZ,Nat.reduceAdd];obtain⟨Fs,⟨G,S,rfl⟩,hFs,back⟩:=P.fSt;refine aXp S λh1 G1 S1 u1 g1=>?_;obtain⟨F2,P2,s2⟩:=back (rsA sp (lV s.st).1) h1 (sp::G1) ⟨G1,S1,rfl⟩ ⟨u1.mono λx hx=>.inl (by simp only[gB] at hx;simp[hx]),λx hx=>by
  rcases gU.1 hx with rfl|hx
  ·exact .inl (by simp)
  ·rcases g1 x hx with hx|hx
   ·exact .inl (by simp[hx])
   ·exact .inr hx⟩
 unfold Ch.committed at hk;by_cases he:(lV s.st).2.2=0
 case neg=>
  have q:((lV s.st).2.2==0)=false:=by simpa using he
  rw[if_neg he] at hk;simp only[iG,q,cE,reduceIte,cZ,Nat.reduceAdd];refine hk h1 F2 (DC.mono (n:=n) ⟨sp,cp,bv,nv,?_⟩ (xS n)) s2;rw[aJb he] at P2;exact P2
 have q:((lV s.st).2.2==0)=true:=by simpa using he
 rw[if_pos he] at hk;have P2:nN c (s.dcells b sp cp bv nv) sp (lV s.st).1 cp s.cl bv nv n h1 F2:=P2;obtain⟨Ft,⟨Fb,Fn,rfl,⟨rows,Ob,lb,cb⟩,⟨ns,On,ln⟩,hd⟩,hFt,back2⟩:=P2.fTwo;obtain⟨na,nc,env,-⟩:=On.slR.here;rw[iV] at env;simp only[iG,q,cT.f5,cT.f6,fQ,dl5 P2.cell,dl6 P2.cell,aZX,cE,reduceIte,cZ,Nat.reduceAdd];intro r15 hr15;refine fP ?_
 try rw[cW]
 have u3:dD h1 (h1.set r15 (.cells #[] cU)):=cQ.new hr15;have O3:eM (h1.set r15 (.cells #[] cU)) cU 1 (.slice (some ⟨r15,0,none⟩) 0 0) ([]:List (List Value)) [r15]:=eM.lit (n:=0) aVW dL (by simp) (by decide) rfl;have P3:=nN.good.ext P2 u3;generalize h1.set r15 (.cells #[] cU)=h3 at *;refine jK eS.und eS.und cU.info cU.size cU.bytes cU.zero rfl (by decide) O3 (Ob.ext u3).slR cb (by simp only[zLN];omega) ?_;intro v4 h4 F4 O4 u4 k4 _;rw[sK] at O4;have e14:dD h1 h4:=u3.fresh u4 (eK.one hr15);have f4:eK h1 F4:=λx hx=>by
  rcases k4 x hx with hx|hx
  ·simp only[gB] at hx;subst hx;exact hr15
  ·exact u3.none hx
 have P4:=nN.good.ext P2 e14;refine⟨dl6 P4.cell,?_⟩;rw[env];simp only[aSw,cE,reduceIte,cZ,Nat.reduceAdd];rw[←env];intro r21 hr21;refine fP ?_
 try rw[cW]
 have u5:dD h4 (h4.set r21 (.cells #[nv] cU)):=cQ.new hr21;have s5:fZ (h4.set r21 (.cells #[nv] cU)) 1 (.slice (some ⟨r21,0,none⟩) 1 1) [[nv]]:=(eM.lit (n:=1) (aQz nv) dL (by simp) (by decide) (by simp)).slR;generalize h4.set r21 (.cells #[nv] cU)=h5 at *;refine jK eS.und eS.und cU.info cU.size cU.bytes cU.zero rfl (by decide) (O4.ext u5) s5 (λr hr u hu=>by
  simp only[gB] at hr;subst hr;simp only[gB] at hu;subst hu;exact On.slR.isc) (by simp only[zLT];omega) ?_
 intro v6 h6 F6 O6 u6 k6 _;have e16:dD h1 h6:=(e14.trans u5).fresh u6 f4;have f6:eK h1 F6:=f4.grow (e14.trans u5) k6;have B6:boA v6 (n+1) h6 F6:=⟨rows++[[nv]],O6,by simp;omega,λr hr u hu=>by
  rcases kB.1 hr with hr|hr
  ·exact cb r hr u hu
  ·simp only[gB] at hr;subst hr;simp only[gB] at hu;subst hu;exact On.slR.isc⟩
 have W6:eP (boA v6 (n+1)) (noA nv (n+1)) h6 (F6++Fn):=eP.mk B6 ⟨ns,On.ext e16,by omega⟩ (λx hx hx5=>On.known x hx5 (f6 x hx));obtain⟨F7,P7,s7⟩:=back2 _ h6 _ W6 ⟨e16.upd,λx hx=>by
  rcases kB.1 hx with hx|hx
  ·exact .inr (f6 x hx)
  ·exact .inl (by simp[hx])⟩
 have P7:nN c (s.dcells b sp cp bv nv) sp (lV s.st).1 cp s.cl v6 nv (n+1) h6 F7:=P7;obtain⟨Fx,⟨rfl,X7⟩,hFx,back3⟩:=P7.fBox;refine eS.put X7 (o:=5) (by show 5<7;decide) O6.slR.isc λh8 X8 u8=>?_;have X8:Bx h8 c (s.dcells b sp cp v6 nv):=X8;refine cU.put X8 (o:=6) (by show 6<7;decide) rfl λh9 X9 u9=>?_;have X9:Bx h9 c (s.dcells b sp cp v6 (.slice none 0 0)):=X9;obtain⟨F10,P10,s10⟩:=back3 (qL c (s.dcells b sp cp v6 (.slice none 0 0))) h9 [c] ⟨rfl,X9⟩ ⟨u8.trans u9,λx hx=>.inl hx⟩;obtain⟨F11,Fr,eF,hx,⟨G1',G2',eG,y1,⟨G3,G4,eG2,y2,⟨G5,G6,eG3,y3,⟨ns',On',ln'⟩,d5⟩,d3⟩,d1⟩,dx⟩:=P10;refine hk h9 (F11++(G1'++(G3++(G5++[])))) ⟨sp,cp,v6,.slice none 0 0,F11,_,rfl,hx,⟨G1',_,rfl,y1,⟨G3,_,rfl,y2,⟨G5,[],rfl,y3,⟨[],eM.nil,by simp⟩,by simp⟩,?_⟩,?_⟩,?_⟩ ?_
 ·subst eG3;intro x hx1 hx2;exact d3 x hx1 (by simp at hx2;simp[hx2])
 ·subst eG2;subst eG3;intro x hx1 hx2;exact d1 x hx1 (by simp at hx2;rcases hx2 with hx2|hx2<;>simp[hx2])
 ·subst eG;subst eG2;subst eG3;intro x hx1 hx2;exact dx x hx1 (by simp at hx2;rcases hx2 with hx2|hx2|hx2<;>simp[hx2])
 ·have st:=(s2.trans s7).trans s10;refine⟨st.upd,λx hx=>st.grow x ?_⟩;rw[eF,eG,eG2,eG3];simp at hx ⊢;rcases hx with hx|hx|hx|hx<;>simp[hx]
def aUR{h:PH}{c b m:Nat}{s:Ch}{n:Nat}{A:List Tx}{K F:List Nat}{sp cp:Nat}{bv nv:Value}(HB:Bk b m A K h)(P:nN c (s.dcells b sp cp bv nv) sp s.st cp s.cl bv nv n h F)(offd:∀x∈F,x∉[b,m])(key:Tx){x:Nat}(hx:x<18446744073709551616){kk:cD}
  (hk:∀h',Bk b m A K h'->cQ [b,m] h h'->kk (.tuple #[.string (tx (aF0 s.st key x).1),.int .i64 (aF0 s.st key x).2]) h'):aT PG yN #[pT c 0,.string (tx key),.int .u64 (x:Int)] h kk:=by
 apply vO.call;unfold vO;have hst:=P.okst;simp only[cT.f2,fQ,dl2 P.cell,cE,reduceIte,cZ,Nat.reduceAdd];obtain⟨Fs,⟨G,S,eFs⟩,hFs,-⟩:=P.fSt;have q0:({data:=#[]}:ByteArray)=tx []:=rfl;unfold aF0 at hk;have kb:=HB.known b (by simp);have km:=HB.known m (by simp);refine aUE S x hx (λe=>?_) (λl v e B1 hv=>?_)
 ·rw[e] at hk;have q:((3:Int) !=0)=true:=by decide
  simp only[kW,q,q0,cE,reduceIte,cZ,Nat.reduceAdd];exact hk h HB cQ.refl
 ·rw[e] at hk;simp only at hk;have M:=hst.mok e;have ov:Off b m v:=λa n c ev=>offd _ (hFs _ (by rw[eFs];simp[hv a n c ev]));simp only[kW,cT.f0,fQ,dl0 P.cell,cE,reduceIte,cZ,Nat.reduceAdd]
  -- the end
  have fin:∀{h4:PH} {ab:Bool} {v4:Value} {r:Nat},cQ [b,m] h h4->Bk b m A K h4->Bx h4 r [.bool ab,v4]->oB h h4 v4 (lD l key).lv->ab=(lD l key).ab->(∀h',Bk b m A K h'->cQ [b,m] h h'->kk (.tuple #[.string (tx (lW (lD l key)).1),.int .i64 (lW (lD l key)).2]) h')->mT kk (.int .i64 0) (pT r 0) h4:=by
   intro h4 ab v4 r u4 HB4 B4 L4 eab hk;unfold mT;have l4:cG PG h4 (loadAt cC (pT r 0))=some (Pf.val ab v4):=cC.agg B4 (by show 0+2≤2;decide);simp only[kW,l4,cE,reduceIte,cZ,Nat.reduceAdd];obtain⟨l5,F',el,O,-,L⟩:=L4.here;have epf:(⟨ab,l5.map (·.1)⟩:Pf)=lD l key:=by rw[el,eab]
   have hpf:=aQP M key;refine aQK O.slR L.lfs (by
    have:l5.length=(lD l key).lv.length:=by rw[←el];simp
    have:=hpf.1;omega) λh5 u5=>?_
   rw[epf];simp only[cE,reduceIte,cZ,Nat.reduceAdd];exact hk h5 (HB4.ext u5) (u4.trans u5.upd)
  refine aR9 HB M B1 ov (λhno h2 HB2 u2=>?_) (λhyes h2 v2 HB2 L2 u2=>?_)
  ·have hns:(iJ l key).isSome=false:=by rw[hno];rfl
   rw[hns] at hk;simp only[zLu,if_false] at hk;simp only[cE,reduceIte,cZ,Nat.reduceAdd];intro r14 hr14
   try rw[cW]
   have n14:h r14=none:=u2.grow2 (HB2.known b (by simp)) (HB2.known m (by simp)) hr14;have n14b:r14∉[b,m]:=λhm=>by
    simp only[gU,lH,or_false] at hm;rcases hm with rfl|rfl
    ·exact kb n14
    ·exact km n14
   refine cC.fill (vs:=[.bool false,.slice none 0 0]) hr14 rfl (by simp[fW]) λh3 B3 u3=>?_;have q:((3:Int) !=0)=true:=by decide
   have e3:=u2.trans u3.upd;have P3:=nN.good.upd P e3 offd;simp only[kW,q,cT.f0,fQ,dl0 P3.cell,cE,reduceIte,cZ,Nat.reduceAdd];have B13:=B1.upd e3 (λa n c ev=>ov a n c ev);have bad:∀{h4:PH} {e:Int},cQ [b,m] h3 h4->Bk b m A K h4->e≠0->(∀h',Bk b m A K h'->cQ [b,m] h h'->kk (.tuple #[.string (tx []),.int .i64 e]) h')->dC PG (dT cC (pT r14 0) (Pf.val false (.slice none 0 0))) h4 λv23 h24=>mT kk (.int .i64 e) (pT r14 0) h24:=by
    intro h4 e u4 HB4 hne hk;refine cC.put (vs:=[.bool false,.slice none 0 0]) (B3.upd u4 n14b) (o:=0) rfl (by show 0+2≤2;decide) (by simp[fW]) λh5 B5 u5=>?_;unfold mT;have q:(e !=0)=true:=by simpa using hne
    simp only[kW,q,q0,cE,reduceIte,cZ,Nat.reduceAdd];refine hk h5 (HB4.upd u5 λy hy hm=>?_) (cQ.then (e3.trans u4) u5 (λy hy=>by simp only[gB] at hy;subst hy;exact .inr n14));simp only[gB] at hm;subst hm;exact HB.known _ hy n14
   refine aS8 (HB2.ext u3) M B13 ov (λhb h4 HB4 u4=>?_) (λ_ hs h4 HB4 u4=>?_) (λhb _ h4 v4 HB4 L4 u4=>?_)
   ·rw[if_neg hb] at hk;simp only[cE,reduceIte,cZ,Nat.reduceAdd];exact bad u4 HB4 (by decide) hk
   ·rw[hns] at hs;cases hs
   ·rw[if_pos hb] at hk;simp only[cE,reduceIte,cZ,Nat.reduceAdd];refine cC.put (vs:=[.bool true,v4]) (B3.upd u4 n14b) (o:=0) rfl (by show 0+2≤2;decide) (by
     have:=L4.isc;simp[fW];exact this) λh5 B5 u5=>?_
    have hab:(lD l key).ab=true:=by
     unfold lD;rw[if_neg (by rw[hns];decide)];split
     ·rfl
     ·split
      ·rfl
      ·split<;>rfl
    have L5:oB h3 h5 v4 (lD l key).lv:=L4.upd u5 (λb hb=>by simp only[gB] at hb;rw[hb];exact B3.known);have L5':oB h h5 v4 (lD l key).lv:=by
     obtain⟨l',F',el,O,f,L⟩:=L5.here;have HB3:=HB2.ext u3;refine⟨l',F',el,O,λy hy=>e3.grow2 (HB3.known b (by simp)) (HB3.known m (by simp)) (f y hy),λy hy=>?_⟩;obtain⟨G',y1,y2,y3⟩:=L y hy;exact⟨G',y1,λz hz=>e3.grow2 (HB3.known b (by simp)) (HB3.known m (by simp)) (y2 z hz),y3⟩
    refine fin (cQ.then (e3.trans u4) u5 (λy hy=>by simp only[gB] at hy;subst hy;exact .inr n14)) (HB4.upd u5 λy hy hm=>?_) B5 L5' hab.symm hk;simp only[gB] at hm;subst hm;exact HB.known _ hy n14
  ·rw[hyes] at hk;simp only[if_true] at hk;simp only[cE,reduceIte,cZ,Nat.reduceAdd];intro r14 hr14
   try rw[cW]
   refine cC.fill (vs:=[.bool false,v2]) hr14 rfl (by
    have:=L2.isc;simp[fW];exact this) λh3 B3 u3=>?_
   have epf:lD l key=⟨false,[kQ l (hQ l key)]⟩:=by unfold lD;rw[if_pos hyes]
   exact fin (u2.trans u3.upd) (HB2.ext u3) B3 (by rw[epf];exact L2.upd u3 (λb hb=>by cases hb)) (by rw[epf]) hk
def aNg(p:Pf):(lW p).1.length≤3000:=by
 unfold lW;split
 ·rename_i h;obtain⟨h1,h2⟩:=h;rw[aE6] at h2;show(aEu p).length≤3000;have hl:∀l:List Lf,(∀f∈l,f.okb=true)->(lQ l).length≤1000*l.length:=λl=>by
   induction l with
   | nil=>intro _;simp[lQ]
   | cons f l ih=>
    intro hh;have a:=aRz (Lf.ok_iff.1 (hh f (by simp)));have b:=ih λy hy=>hh y (by simp[hy]);simp only[lQ,jM,qE];omega
  have:=hl p.lv h2;unfold aEu;simp only[jM,jF];omega
 ·simp
def aTI(s:St)(key:Tx)(x:Nat):(aF0 s key x).1.length≤3000:=by
 unfold aF0;split
 ·simp
 ·split
  ·exact aNg _
  ·split
   ·exact aNg _
   ·simp
def aVe(o:Ch){a:kD}(h:a.d.length≤1000000):(mN o a).length≤1000000:=by
 unfold mN;split
 ·have:=aTI o.st (aJp a) a.h;omega
 ·exact h
noncomputable def doA(c o:Ch)(a:kD):List Tx:=
 if a.kind=0 then(if qR c a.d a.h=0 then sR (kE c a.d a.h) else [])
 else if a.kind=1 then(match zH o.st a.h with
  | none=>[]
  | some b=>aGH b)
 else if a.kind=2 then(if rG c (uO c a.p (mN o a) (a.h:Int))=0 then aI2 a.p++(aI0 (mN o a)++sR a.p) else [])
 else if a.kind=3 then(if jP c a.p (aBO c a.p (mN o a) (a.h:Int))=0 then aI0 (mN o a)++(aI2 a.p++sR a.p) else [])
 else if a.kind=4 then(if jP c a.p (wS c a.p (mN o a) (a.h:Int))=0 then aLK (mN o a) (iZ 114 a.p.s.toNat)++sR a.p else [])
 else []
def aWe{h:PH}{c b:Nat}{s:Ch}{n:Nat}{F:List Nat}{sp cp:Nat}{bv nv:Value}(P:nN c (s.dcells b sp cp bv nv) sp s.st cp s.cl bv nv n h F)(w:s.cl.length≤4096)(x:Int)(root:Tx){kk:cD}
  (hk:∀h' F',nN c ((s.told x root).dcells b sp cp bv nv) sp (s.told x root).st cp (s.told x root).cl bv nv n h' F'->jI h F h' F'->kk (.int .i64 (aAq s.cl ⟨x,tx root⟩).1) h'):aT PG sX #[pT cp 0,.int .u64 x,.string (tx root)] h kk:=by
 obtain⟨Fc,C,hFc,back⟩:=P.fCl;have ea:cp∈Fc:=by
  obtain⟨v,G,-,-,eF,-⟩:=(C:yS h cp s.cl Fc);rw[eF];simp
 refine aXf C w ⟨x,tx root⟩ λh1 F1 C1 u1 g1=>?_;obtain⟨F2,P2,s2⟩:=back (krA cp (aAq s.cl ⟨x,tx root⟩).2) h1 F1 C1 ⟨u1.mono λy hy=>.inl (by
  simp only[gB] at hy;subst hy;exact ea),g1⟩
 exact hk h1 F2 P2 s2
def aZv(st:St)(P:Pr->Prop):Prop:=(∀q∈st.now,P q)∧∀b∈st.blocks,∀q∈b,P q
def aTT(st:St)(k v:Tx):St:={st with now:=oO st.now ⟨k,v⟩}
def bAe(st:St)(k:Tx):St:={st with now:=vJ st.now k}
def bAx(st:St)(k:Tx)(t:Int):Prop:=(∃q∈st.now,q.k=k)∧∀x b,zH st x=some b->t≤(x:Int)+1->∃q∈b,q.k=k
def aX1(c:Ch)(p:Pk):(c.sent p).st=aTT c.st (iZ 99 c.seq) (rJ p)∧(c.sent p).cl=c.cl∧(c.sent p).id=c.id:=⟨rfl,rfl,rfl⟩
def aR8(c:Ch)(p:Pk):(c.received p).st=aTT (aTT c.st (iZ 114 p.s.toNat) [1]) (iZ 97 p.s.toNat) (aEv p)∧(c.received p).cl=c.cl∧(c.received p).id=c.id:=⟨rfl,rfl,rfl⟩
def aOz(c:Ch)(k:Int)(p:Pk):(c.settled k p).st=bAe c.st (iZ 99 p.s.toNat)∧(c.settled k p).cl=c.cl∧(c.settled k p).id=c.id:=⟨rfl,rfl,rfl⟩
def aHb(c:Ch):c.committed.st=(lV c.st).1∧c.committed.cl=c.cl∧c.committed.id=c.id:=by
 unfold Ch.committed;by_cases he:(lV c.st).2.2=0
 ·rw[if_pos he];exact⟨rfl,rfl,rfl⟩
 ·rw[if_neg he];exact⟨(aJb he).symm,rfl,rfl⟩
def aKH(c o:Ch)(a:kD):
  (a.kind=0∧qR c a.d a.h=0∧(nP c o a).1=c.sent (kE c a.d a.h)∧(nP c o a).2=(kE c a.d a.h,0,0)∧doA c o a=sR (kE c a.d a.h))∨
  (a.kind=1∧∃b,zH o.st a.h=some b∧(nP c o a).1=c.told (a.h:Int) (oD b)∧doA c o a=aGH b)∨
  (a.kind=2∧rG c (uO c a.p (mN o a) (a.h:Int))=0∧(nP c o a).1=c.received a.p∧(nP c o a).2.2.2=0∧doA c o a=aI2 a.p++(aI0 (mN o a)++sR a.p))∨
  (a.kind=3∧jP c a.p (aBO c a.p (mN o a) (a.h:Int))=0∧(nP c o a).1=c.settled 3 a.p∧(nP c o a).2.2.2=0∧doA c o a=aI0 (mN o a)++(aI2 a.p++sR a.p))∨
  (a.kind=4∧jP c a.p (wS c a.p (mN o a) (a.h:Int))=0∧(nP c o a).1=c.settled 4 a.p∧(nP c o a).2.2.2=0∧doA c o a=aLK (mN o a) (iZ 114 a.p.s.toNat)++sR a.p)∨
  (a.kind=5∧(nP c o a).1=c.committed)∨
  ((nP c o a).1=c∧((nP c o a).2.2.2=0->a.kind<0∨5<a.kind)):=by
 unfold nP doA;by_cases k0:a.kind=0
 ·rw[if_pos k0,if_pos k0];by_cases e:qR c a.d a.h=0
  ·rw[if_pos e,if_pos e];exact .inl ⟨k0,e,rfl,rfl,rfl⟩
  ·rw[if_neg e];exact .inr (.inr (.inr (.inr (.inr (.inr ⟨rfl,λh=>absurd h e⟩)))))
 rw[if_neg k0,if_neg k0];by_cases k1:a.kind=1
 ·rw[if_pos k1,if_pos k1];cases hs:zH o.st a.h with
  | none=>exact .inr (.inr (.inr (.inr (.inr (.inr ⟨rfl,λh=>by simp at h⟩)))))
  | some b=>exact .inr (.inl ⟨k1,b,rfl,rfl,rfl⟩)
 rw[if_neg k1,if_neg k1];by_cases k2:a.kind=2
 ·rw[if_pos k2,if_pos k2];by_cases e:rG c (uO c a.p (mN o a) (a.h:Int))=0
  ·rw[if_pos e,if_pos e];exact .inr (.inr (.inl ⟨k2,e,rfl,rfl,rfl⟩))
  ·rw[if_neg e];exact .inr (.inr (.inr (.inr (.inr (.inr ⟨rfl,λh=>absurd h e⟩)))))
 rw[if_neg k2,if_neg k2];by_cases k3:a.kind=3
 ·rw[if_pos k3,if_pos k3];by_cases e:jP c a.p (aBO c a.p (mN o a) (a.h:Int))=0
  ·rw[if_pos e,if_pos e];exact .inr (.inr (.inr (.inl ⟨k3,e,rfl,rfl,rfl⟩)))
  ·rw[if_neg e];exact .inr (.inr (.inr (.inr (.inr (.inr ⟨rfl,λh=>absurd h e⟩)))))
 rw[if_neg k3,if_neg k3];by_cases k4:a.kind=4
 ·rw[if_pos k4,if_pos k4];by_cases e:jP c a.p (wS c a.p (mN o a) (a.h:Int))=0
  ·rw[if_pos e,if_pos e];exact .inr (.inr (.inr (.inr (.inl ⟨k4,e,rfl,rfl,rfl⟩))))
  ·rw[if_neg e];exact .inr (.inr (.inr (.inr (.inr (.inr ⟨rfl,λh=>absurd h e⟩)))))
 rw[if_neg k4,if_neg k4];by_cases k5:a.kind=5
 ·rw[if_pos k5];exact .inr (.inr (.inr (.inr (.inr (.inl ⟨k5,rfl⟩)))))
 ·rw[if_neg k5];exact .inr (.inr (.inr (.inr (.inr (.inr ⟨rfl,λ_=>by omega⟩)))))
def KOk(s:Ch):Prop:=s.cl.length≤4096∧∀y∈hts s.cl,0≤y∧y<18446744073709551616
def aWM{l:List hZ}{x y:hZ}(h:y∈(aAq l x).2):y∈l∨y=x:=by
 unfold aAq at h;split at h
 ·exact .inl h
 ·split at h
  ·exact .inl h
  ·split at h
   ·exact .inl h
   ·simpa using h
def aWX{l:List hZ}{x:hZ}(h:l.length≤4096):(aAq l x).2.length≤4096:=by
 unfold aAq;split
 ·exact h
 ·split
  ·exact h
  ·split
   ·exact h
   ·simp only[jM,zLT];omega
def KOk.doP{c:Ch}(H:KOk c)(o:Ch){a:kD}(w:a.wf):KOk (nP c o a).1:=by
 have same:∀{c':Ch},c'.cl=c.cl->KOk c':=λe=>by unfold KOk;rw[e];exact H
 rcases aKH c o a with⟨-,-,e,-⟩|⟨-,b,-,e,-⟩|⟨-,-,e,-⟩|⟨-,-,e,-⟩|⟨-,-,e,-⟩|⟨-,e⟩|⟨e,-⟩<;>rw[e]
 ·exact same rfl
 ·refine⟨aWX H.1,λy hy=>?_⟩;obtain⟨z,hz,rfl⟩:=mJ.1 hy;rcases aWM hz with hz|rfl
  ·exact H.2 _ (mJ.2 ⟨z,hz,rfl⟩)
  ·have:=w.h;exact⟨by show(0:Int)≤(a.h:Int);omega,by show(a.h:Int)<_;omega⟩
 ·exact same rfl
 ·exact same rfl
 ·exact same rfl
 ·exact same (aHb c).2.1
 ·exact H
def bAb(id:Int)(A:List Tx)(G:Pk->Prop)(q:Pr):Prop:=∀n,n<18446744073709551616->q.k=iZ 97 n->∃p,G p∧p.f=id∧p.s.toNat=n∧q.v=aEv p∧p.right=true∧p.wf∧∀t∈aI2 p,t∈A
structure bAo(c o:Ch)(A:List Tx)(G T:Pk->Prop):Prop where
 cl:∀y∈c.cl,∃(x:Nat) (b:List Pr),y.height=(x:Int)∧zH o.st x=some b∧y.root=tx (oD b)∧∀t∈aGH b,t∈A
 rk:∀p,G p->p.f=c.id->bAx o.st (iZ 114 p.s.toNat) p.t
 ak:aZv o.st (bAb c.id A G)
 tm:∀p,T p->p.f=c.id->p.t≤(o.st.height:Int)+1
section
variable{c o:Ch}{A:List Tx}{G T:Pk->Prop}(H:bAo c o A G T)
include H
end
def cS(l:List Nt)(p:Pk):Nat:=(l.filter λn=>decide (n.k=1∧n.p=p)).length
def cR(l:List Nt)(p:Pk):Nat:=(l.filter λn=>decide (n.k=2∧n.p=p)).length
def cO(l:List Nt)(p:Pk):Nat:=(l.filter λn=>decide ((n.k≠1∧n.k≠2)∧n.p=p)).length
def aZ5(id:Int)(l:List Nt)(n:Nt):Prop:=
 if n.k=1 then n.p.f=id∧cS l n.p=1 else if n.k=2 then n.p.f=1-id∧cR l n.p=1 else n.p.f=id∧cO l n.p=1∧cS l n.p=1
def aYC(id:Int)(l:List Nt):Prop:=∀i n,l[i]? =some n->aZ5 id (l.take (i+1)) n
def aZQ(A:List Tx)(l:List Nt)(q:Pr):Prop:=∀n,n<18446744073709551616->q.k=iZ 99 n->∃p:Pk,(⟨1,p⟩:Nt)∈l∧p.s.toNat=n∧q.v=rJ p∧∀t∈sR p,t∈A
def aFK(d0 d1:Nat):List Value:=[pT d0 0,pT d1 0]
def dCh(b m:Nat)(A:List Tx)(K:List Nat)(c:Nat)(s:Ch)(n:Nat):nA:=eP (rU b m A K) (DC c b s n)
def dRe(t:Nat)(cs:List Value)(o b:Nat)(so:Ch)(n:Nat):nA:=eP (qL t cs) (DC o b so n)
def dCh.good(b m:Nat)(A:List Tx)(K:List Nat)(c:Nat)(s:Ch)(n:Nat):mK (dCh b m A K c s n):=(rU.good _ _ _ _).star (DC.good _ _ _ _)
def dRe.good(t:Nat)(cs:List Value)(o b:Nat)(so:Ch)(n:Nat):mK (dRe t cs o b so n):=(qL.good _ _).star (DC.good _ _ _ _)
def dRe.mono{t:Nat}{cs:List Value}{o b:Nat}{so:Ch}{n n':Nat}(hn:n≤n'){h:PH}{F:List Nat}(H:dRe t cs o b so n h F):dRe t cs o b so n' h F:=by
 obtain⟨Fa,Fb,rfl,hx,hy,hd⟩:=H;exact⟨Fa,Fb,rfl,hx,hy.mono hn,hd⟩
def dCh.mono{b m:Nat}{A:List Tx}{K:List Nat}{c:Nat}{s:Ch}{n n':Nat}(hn:n≤n'){h:PH}{F:List Nat}(H:dCh b m A K c s n h F):dCh b m A K c s n' h F:=by
 obtain⟨Fa,Fb,rfl,hx,hy,hd⟩:=H;exact⟨Fa,Fb,rfl,hx,hy.mono hn,hd⟩
def eP.imp{A B A' B':nA}{h:PH}{F:List Nat}(H:eP A B h F)(ha:∀G,A h G->A' h G)(hb:∀G,B h G->B' h G):eP A' B' h F:=by
 obtain⟨Fa,Fb,rfl,hx,hy,hd⟩:=H;exact⟨Fa,Fb,rfl,ha _ hx,hb _ hy,hd⟩
def aWq{h:PH}{F:List Nat}{b m:Nat}{A:List Tx}{K:List Nat}{c o t:Nat}{cs2:List Value}{s so:Ch}{n:Nat}(H:eP (dCh b m A K c s n) (dRe t cs2 o b so n) h F)(w:s.DOk)(hn:n≤10000){a:kD}(wa:a.wf)(hd64:a.d.length≤1000000){r1 r3:Nat}(B1:Bx h r1 a.cells)(n1:r1∉F){cs:List Value}(hcs:cs.length=4)(B3:Bx h r3 cs)(n3:r3∉F){R:cD}
  (hR:∀h' F',eP (dCh b m (doA s so a++A) K c (nP s so a).1 (n+1)) (dRe t cs2 o b so (n+1)) h' F'->cQ (r3::F) h h'->(∀b∈F',b∈F∨h b=none)->R (.tuple #[(nP s so a).2.1.v,.int .u64 ((nP s so a).2.2.1:Int),.int .i64 (nP s so a).2.2.2]) h'):
  oY R (pT r1 0) (pT r3 0) (pT c 0) (pT o 0) (.string (tx (mN so a))) h:=by
 unfold oY;have gC:=λA s n=>dCh.good b m A K c s n;have gR:=λn=>dRe.good t cs2 o b so n;have fin:∀{h1:PH} {F1:List Nat} {A':List Tx} {s':Ch} {n':Nat} {pk:Pk} {hh:Nat} {e:Int},eP (dCh b m A' K c s' n') (dRe t cs2 o b so n) h1 F1->n'≤n+1->(∀a'∈doA s so a++A,a'∈A')->jI h F h1 F1->nP s so a=(s',(pk,hh,e))->dC PG (dT aR (pT r3 0) pk.v) h1 λ_ h80=>dY (cG PG h80 (loadAt aR (pT r3 0))) λv81=>R (.tuple #[v81,.int .u64 (hh:Int),.int .i64 e]) h80:=by
  intro h1 F1 A' s' n' pk hh e H1 hn' hA s1 ed;have B31:=B3.upd s1.upd n3;refine aR.put (vs:=pk.cells) B31 (o:=0) rfl (by omega) (Pk.isC _) λh2 B2 u2=>?_;have l2:cG PG h2 (loadAt aR (pT r3 0))=some pk.v:=B2.pk (by simp[Pk.cells]);simp only[l2,cE,reduceIte,cZ,Nat.reduceAdd];have m3:r3∉F1:=λhm=>by
   rcases s1.grow _ hm with hx|hx
   ·exact n3 hx
   ·exact B3.known hx
  rw[ed] at hR;have H2:=((gC A' s' n').star (gR n)).upd H1 u2 (λb hb hb'=>by simp only[gB] at hb';exact m3 (hb'▸hb));exact hR h2 F1 (eP.imp H2 (λG hG=>dCh.mono hn' (rU.mono hG hA)) (λG hG=>dRe.mono (xS n) hG)) (λb ob hb hn=>by
   simp only[gU,not_or] at hn;exact u2 b ob (s1.upd b ob hb hn.2) (by simpa using hn.1)) s1.grow
 have lk:cG PG h (loadAt bR (pT r1 0))=some (.int .i64 a.kind):=by rw[bR.load,B1.cell];rfl
 have lh:∀{h':PH},Bx h' r1 a.cells->cG PG h' (loadAt cA (pT r1 2))=some (.int .u64 (a.h:Int)):=λB=>by rw[cA.load,B.cell];rfl
 have ld:cG PG h (loadAt bT (pT r1 3))=some (.string (tx a.d)):=by rw[bT.load,B1.cell];rfl
 have lp:cG PG h (loadAt aR (pT r1 4))=some a.p.v:=B1.pk rfl;have hpf:=aVe so hd64;obtain⟨Fa,HA,hFa,back⟩:=eP.left (gR n) H;have back:∀{A':List Tx} {s':Ch} {n':Nat} {h':PH} {Fa':List Nat},eP (rU b m A' K) (DC c b s' n') h' Fa'->jI h Fa h' Fa'->∃F',eP (dCh b m A' K c s' n') (dRe t cs2 o b so n) h' F'∧jI h F h' F':=fun {A' s' n' h' Fa'} HX st=>back (dCh b m A' K c s' n') h' Fa' HX st;have hdd:nP s so a=if a.kind=0 then(if qR s a.d a.h=0 then(s.sent (kE s a.d a.h),(kE s a.d a.h,0,0)) else(s,(default,0,qR s a.d a.h)))
   else if a.kind=1 then(match zH so.st a.h with
    | none=>(s,(default,0,3))
    | some b=>(s.told (a.h:Int) (oD b),(default,0,(aAq s.cl ⟨(a.h:Int),tx (oD b)⟩).1)))
   else if a.kind=2 then(if rG s (uO s a.p (mN so a) (a.h:Int))=0 then(s.received a.p,(default,0,0)) else(s,(default,0,rG s (uO s a.p (mN so a) (a.h:Int)))))
   else if a.kind=3 then(if jP s a.p (aBO s a.p (mN so a) (a.h:Int))=0 then(s.settled 3 a.p,(default,0,0)) else(s,(default,0,jP s a.p (aBO s a.p (mN so a) (a.h:Int)))))
   else if a.kind=4 then(if jP s a.p (wS s a.p (mN so a) (a.h:Int))=0 then(s.settled 4 a.p,(default,0,0)) else(s,(default,0,jP s a.p (wS s a.p (mN so a) (a.h:Int)))))
   else if a.kind=5 then(s.committed,(default,(lV s.st).2.1,(lV s.st).2.2))
   else(s,(default,0,0)):=rfl
 have hda:doA s so a=if a.kind=0 then(if qR s a.d a.h=0 then sR (kE s a.d a.h) else [])
  else if a.kind=1 then(match zH so.st a.h with
   | none=>[]
   | some b=>aGH b)
  else if a.kind=2 then(if rG s (uO s a.p (mN so a) (a.h:Int))=0 then aI2 a.p++(aI0 (mN so a)++sR a.p) else [])
  else if a.kind=3 then(if jP s a.p (aBO s a.p (mN so a) (a.h:Int))=0 then aI0 (mN so a)++(aI2 a.p++sR a.p) else [])
  else if a.kind=4 then(if jP s a.p (wS s a.p (mN so a) (a.h:Int))=0 then aLK (mN so a) (iZ 114 a.p.s.toNat)++sR a.p else [])
  else []:=rfl
 by_cases k0:a.kind=0
 ·have q:(a.kind==0)=true:=by simp[k0]
  rw[if_pos k0] at hdd hda;simp only[cH.f0,cH.f2,cH.f3,fQ,lk,ld,lh B1,iG,q,cE,reduceIte,cZ,Nat.reduceAdd];have last:∀{h1:PH} {F1:List Nat} {A':List Tx} {s':Ch} {n':Nat} {pk:Pk} {e:Int},eP (dCh b m A' K c s' n') (dRe t cs2 o b so n) h1 F1->n'≤n+1->(∀a'∈doA s so a++A,a'∈A')->jI h F h1 F1->nP s so a=(s',(pk,0,e))->∀r74,h1 r74=none->eN (PH.set h1 r74 (.cells (dV PG aR) aR)) λh75=>
    dC PG (dT aR (pT r74 0) pk.v) h75 λv76 h77=>
    dY (cG PG h77 (loadAt aR (pT r74 0))) λv78=>
    dC PG (dT aR (pT r3 0) v78) h77 λv79 h80=>
    dY (cG PG h80 (loadAt aR (pT r3 0))) λv81=>
    R (.tuple #[v81,(Value.int IntKind.u64 0),.int .i64 e]) h80:=by
   intro h1 F1 A' s' n' pk e H1 hn' hA s1 ed r74 hr74
   try rw[cW]
   refine aR.fill (vs:=pk.cells) hr74 rfl (Pk.isC _) λh2 B2 u2=>?_;have l2:cG PG h2 (loadAt aR (pT r74 0))=some pk.v:=B2.pk rfl;simp only[l2,cE,reduceIte,cZ,Nat.reduceAdd];exact fin (hh:=0) (((gC A' s' n').star (gR n)).ext H1 u2) hn' hA (s1.trans (jI.ext u2)) ed
  refine aWV HA w hn a.d hd64 wa.h (λhe h1 H1 s1=>?_) (λhe h1 F1 H1 s1=>?_)
  ·rw[if_neg he] at hdd hda;obtain⟨F2,W2,s2⟩:=back H1 s1;have:=last W2 (xS n) (by rw[hda];exact λ_ h=>h) s2 hdd;simp only[cE,reduceIte,cZ,Nat.reduceAdd] at this ⊢;exact this
  ·rw[if_pos he] at hdd hda;obtain⟨F2,W2,s2⟩:=back H1 s1;have:=last W2 (nC _) (by rw[hda];exact λ_ h=>h) s2 hdd;simp only[cE,reduceIte,cZ,Nat.reduceAdd] at this ⊢;exact this
 have q0:(a.kind==0)=false:=by simp[k0]
 rw[if_neg k0] at hdd hda;by_cases k1:a.kind=1
 ·have q:(a.kind==1)=true:=by simp[k1]
  rw[if_pos k1] at hdd hda;obtain⟨Fcd,HCd,HB,eFa,hdis⟩:=aFJ HA;obtain⟨sp,cp,bv,nv,PC⟩:=id HCd;obtain⟨Fo,HO,hFo⟩:∃Fo,DC o b so n h Fo∧∀x∈Fo,x≠b∧x≠m:=by
   obtain⟨Fc,Fr,eF,HC,⟨Ft,Fo,eFr,-,HO,dto⟩,dcr⟩:=id H;obtain⟨Fcd,-,-,eFc,-⟩:=aFJ HC;refine⟨Fo,HO,λx hx=>?_⟩;have h1:x∈Fr:=by rw[eFr];exact zLl _ hx
   refine⟨λe=>?_,λe=>?_⟩
   ·exact dcr b (by rw[eFc];simp) (e▸h1)
   ·exact dcr m (by rw[eFc];simp) (e▸h1)
  obtain⟨osp,ocp,obv,onv,PO⟩:=id HO;obtain⟨Fs,⟨G,St,eFs⟩,hFs,-⟩:=PO.fSt;obtain⟨cc,A0,HBk,hAA⟩:=id HB;have hGb:∀x∈G,x≠b∧x≠m:=λx hx=>hFo x (hFs x (by rw[eFs];simp[hx]));have n1b:r1∉[b,m]:=λhm=>by
   simp only[gU,lH,or_false] at hm;rcases hm with rfl|rfl
   ·exact n1 (hFa _ (by rw[eFa];simp))
   ·exact n1 (hFa _ (by rw[eFa];simp))
  simp only[cH.f0,cH.f2,cT.f0,cT.f2,fQ,lk,lh B1,dl0 PC.cell,dl2 PO.cell,iG,q0,q,cE,reduceIte,cZ,Nat.reduceAdd];refine aUd St HBk hGb a.h wa.h (λe=>?_) (λl h1 c' e HB1 _ u1=>?_)
  ·rw[e] at hdd hda;obtain⟨F2,W2,s2⟩:=back HA jI.refl;have qe:((3:Int) !=0)=true:=by decide
   simp only[kW,qe,Pk.zb,cE,reduceIte,cZ,Nat.reduceAdd];exact fin (hh:=0) W2 (xS n) (by rw[hda];exact λ_ h=>h) s2 hdd
  ·rw[e] at hdd hda;have HB2:Bk b m (aGH l++A) K h1:=⟨c',_,HB1,λx hx=>by
    rcases kB.1 hx with hx|hx
    ·simp[hx]
    ·simp[hAA x hx]⟩
   obtain⟨-,s1⟩:=aH0 (DC.good c b s n) HA HB2 u1;have P1:=nN.good.upd PC u1 (aMT hdis);have C1:=B1.upd u1 n1b;simp only[kW,Pk.zb,cH.f2,cT.f3,fQ,lh C1,dl3 P1.cell,cE,reduceIte,cZ,Nat.reduceAdd];refine aWe P1 w.few (a.h:Int) (oD l) λh2 F2 P2 s2=>?_;obtain⟨W2,sW2⟩:=aH3 (X':=DC c b (s.told (a.h:Int) (oD l)) n) HB2 hdis ⟨sp,cp,bv,nv,P2⟩ s2;rw[←eFa] at sW2;obtain⟨F3,W3,s3⟩:=back W2 (s1.trans sW2);have:=fin (hh:=0) W3 (xS n) (by rw[hda];exact λ_ h=>h) s3 hdd;exact this
 have q1:(a.kind==1)=false:=by simp[k1]
 rw[if_neg k1] at hdd hda;by_cases k2:a.kind=2
 ·have q:(a.kind==2)=true:=by simp[k2]
  rw[if_pos k2] at hdd hda;simp only[cH.f0,cH.f2,cH.f4,fQ,lk,lh B1,lp,iG,q0,q1,q,Pk.zb,cE,reduceIte,cZ,Nat.reduceAdd];have erc:aKM s a.p (mN so a) (a.h:Int)=rG s (uO s a.p (mN so a) (a.h:Int)):=rfl;refine aVR HA w hn wa.p hpf wa.h (λhe h1 H1 s1=>?_) (λhe h1 F1 H1 s1=>?_)
  ·rw[erc] at he ⊢;rw[if_neg he] at hdd hda;obtain⟨F2,W2,s2⟩:=back H1 s1;exact fin (hh:=0) W2 (xS n) (by rw[hda];exact λ_ h=>h) s2 hdd
  ·rw[erc] at he;rw[if_pos he] at hdd hda;obtain⟨F2,W2,s2⟩:=back H1 s1;exact fin (hh:=0) W2 (nC _) (by rw[hda];exact λ_ h=>h) s2 hdd
 have q2:(a.kind==2)=false:=by simp[k2]
 rw[if_neg k2] at hdd hda;by_cases k3:a.kind=3
 ·have q:(a.kind==3)=true:=by simp[k3]
  rw[if_pos k3] at hdd hda;simp only[cH.f0,cH.f2,cH.f4,fQ,lk,lh B1,lp,iG,q0,q1,q2,q,Pk.zb,cE,reduceIte,cZ,Nat.reduceAdd];refine aXT HA w hn wa.p hpf wa.h (λhe h1 H1 s1=>?_) (λhe h1 F1 H1 s1=>?_)
  ·rw[if_neg he] at hdd hda;obtain⟨F2,W2,s2⟩:=back H1 s1;exact fin (hh:=0) W2 (xS n) (by rw[hda];exact λ_ h=>h) s2 hdd
  ·rw[if_pos he] at hdd hda;obtain⟨F2,W2,s2⟩:=back H1 s1;exact fin (hh:=0) W2 (nC _) (by rw[hda];exact λ_ h=>h) s2 hdd
 have q3:(a.kind==3)=false:=by simp[k3]
 rw[if_neg k3] at hdd hda;by_cases k4:a.kind=4
 ·have q:(a.kind==4)=true:=by simp[k4]
  rw[if_pos k4] at hdd hda;simp only[cH.f0,cH.f2,cH.f4,fQ,lk,lh B1,lp,iG,q0,q1,q2,q3,q,Pk.zb,cE,reduceIte,cZ,Nat.reduceAdd];refine aSG HA w hn wa.p hpf wa.h (λhe h1 H1 s1=>?_) (λhe h1 F1 H1 s1=>?_)
  ·rw[if_neg he] at hdd hda;obtain⟨F2,W2,s2⟩:=back H1 s1;exact fin (hh:=0) W2 (xS n) (by rw[hda];exact λ_ h=>h) s2 hdd
  ·rw[if_pos he] at hdd hda;obtain⟨F2,W2,s2⟩:=back H1 s1;exact fin (hh:=0) W2 (nC _) (by rw[hda];exact λ_ h=>h) s2 hdd
 have q4:(a.kind==4)=false:=by simp[k4]
 rw[if_neg k4] at hdd hda;by_cases k5:a.kind=5
 ·have q:(a.kind==5)=true:=by simp[k5]
  rw[if_pos k5] at hdd;simp only[cH.f0,fQ,lk,iG,q0,q1,q2,q3,q4,q,cE,reduceIte,cZ,Nat.reduceAdd];obtain⟨Fcd,HCd,HB,eFa,hdis⟩:=aFJ HA;refine aWI HCd hn λh1 F1 H1 s1=>?_;obtain⟨W1,sW1⟩:=aH3 HB hdis H1 s1;rw[←eFa] at sW1;obtain⟨F2,W2,s2⟩:=back W1 sW1;simp only[Pk.zb,cE,reduceIte,cZ,Nat.reduceAdd];exact fin W2 (nC _) (by rw[hda];exact λ_ h=>h) s2 hdd
 ·have q:(a.kind==5)=false:=by simp[k5]
  rw[if_neg k5] at hdd;obtain⟨F2,W2,s2⟩:=back HA jI.refl;simp only[cH.f0,fQ,lk,iG,q0,q1,q2,q3,q4,q,Pk.zb,cE,reduceIte,cZ,Nat.reduceAdd];exact fin (hh:=0) W2 (xS n) (by rw[hda];exact λ_ h=>h) s2 hdd
def eP.flip{A B C D:nA}{h:PH}{F:List Nat}(H:eP (eP A B) (eP C D) h F):∃F',eP (eP A D) (eP C B) h F'∧∀x,x∈F'↔x∈F:=by
 obtain⟨Fx,Fy,rfl,⟨Fa,Fb,rfl,ha,hb,d1⟩,⟨Fc,Fd,rfl,hc,hd,d2⟩,d3⟩:=H;refine⟨(Fa++Fd)++(Fc++Fb),⟨Fa++Fd,Fc++Fb,rfl,⟨Fa,Fd,rfl,ha,hd,λx hx hx'=>d3 x (by simp[hx]) (by simp[hx'])⟩,⟨Fc,Fb,rfl,hc,hb,λx hx hx'=>d3 x (by simp[hx']) (by simp[hx])⟩,λx hx hx'=>?_⟩,λx=>?_⟩
 ·rcases kB.1 hx with hx|hx
  ·rcases kB.1 hx' with hx'|hx'
   ·exact d3 x (by simp[hx]) (by simp[hx'])
   ·exact d1 x hx hx'
  ·rcases kB.1 hx' with hx'|hx'
   ·exact d2 x hx' hx
   ·exact d3 x (by simp[hx']) (by simp[hx])
 ·simp only[kB];constructor
  ·rintro((h|h)|(h|h))<;>simp[h]
  ·rintro((h|h)|(h|h))<;>simp[h]
def DTw(t d0 d1 b m:Nat)(A:List Tx)(K:List Nat)(s0 s1:Ch)(n:Nat):nA:=eP (dCh b m A K d0 s0 n) (dRe t (aFK d0 d1) d1 b s1 n)
def DTw.good(t d0 d1 b m:Nat)(A:List Tx)(K:List Nat)(s0 s1:Ch)(n:Nat):mK (DTw t d0 d1 b m A K s0 s1 n):=(dCh.good _ _ _ _ _ _ _).star (dRe.good _ _ _ _ _ _)
def aZk{r o i:Nat}(hi:i<2):dH PG (indexAt lF (pT r o) (.int .i64 (i:Int)))=some (pT r (o+i)):=by
 have ix:=aBR (P:=PG) (t:=lF) (b:=r) (o:=o) (k:=.i64) (j:=(i:Int)) lF.und iO.info iO.size (by omega) (by omega);rw[ix,rA,Nat.mul_one]
noncomputable def twA(a b:Ch)(x:kD):List Tx:=if x.id=1 then doA b a x else doA a b x
def aVu{t d0 d1 b m:Nat}{A:List Tx}{K:List Nat}{s0 s1:Ch}{n:Nat}{h:PH}{F:List Nat}(H:DTw t d0 d1 b m A K s0 s1 n h F)(x:kD):∃(c o:Nat) (s so:Ch) (F1:List Nat),eP (dCh b m A K c s n) (dRe t (aFK d0 d1) o b so n) h F1∧(∀y,y∈F1↔y∈F)∧(aFK d0 d1)[lT x.id]? =some (pT c 0)∧(aFK d0 d1)[1-lT x.id]? =some (pT o 0)∧(s=s0∨s=s1)∧(nP s so x).2=(kK s0 s1 x).2∧doA s so x=twA s0 s1 x∧
  ∀(A':List Tx) (n':Nat) (h':PH) (F':List Nat),eP (dCh b m A' K c (nP s so x).1 n') (dRe t (aFK d0 d1) o b so n') h' F'->∃F'',DTw t d0 d1 b m A' K (kK s0 s1 x).1.1 (kK s0 s1 x).1.2 n' h' F''∧∀y,y∈F''↔y∈F':=by
 by_cases e:x.id=1
 ·have e1:lT x.id=1:=by unfold lT;rw[if_pos e]
  obtain⟨F1,H1,hF⟩:=eP.flip H;refine⟨d1,d0,s1,s0,F1,H1,hF,by rw[e1];rfl,by rw[e1];rfl,.inr rfl,?_,?_,λA' n' h' F' H'=>?_⟩
  ·unfold kK;rw[if_pos e]
  ·unfold twA;rw[if_pos e]
  ·obtain⟨F2,H2,hF2⟩:=eP.flip H';refine⟨F2,?_,hF2⟩;unfold kK;rw[if_pos e];exact H2
 ·have e1:lT x.id=0:=by unfold lT;rw[if_neg e]
  refine⟨d0,d1,s0,s1,F,H,λy=>Iff.rfl,by rw[e1];rfl,by rw[e1];rfl,.inl rfl,?_,?_,λA' n' h' F' H'=>⟨F',?_,λy=>Iff.rfl⟩⟩
  ·unfold kK;rw[if_neg e]
  ·unfold twA;rw[if_neg e]
  ·unfold kK;rw[if_neg e];exact H'
def aZD{h:PH}{t d0 d1 b m:Nat}{A:List Tx}{K:List Nat}{s0 s1:Ch}{n:Nat}{F:List Nat}(H:DTw t d0 d1 b m A K s0 s1 n h F)(w0:s0.DOk)(w1:s1.DOk)(hn:n≤10000){x:kD}(wx:x.wf)(hd64:x.d.length≤1000000){kk:cD}
  (hk:∀h' F',DTw t d0 d1 b m (twA s0 s1 x++A) K (kK s0 s1 x).1.1 (kK s0 s1 x).1.2 (n+1) h' F'->jI h F h' F'->kk (.tuple #[(kK s0 s1 x).2.1.v,.int .u64 ((kK s0 s1 x).2.2.1:Int),.int .i64 (kK s0 s1 x).2.2.2]) h'):
  aT PG aCG #[pT t 0,x.v] h kk:=by
 apply sB.call;unfold sB;obtain⟨c,o,s,so,F1,S,hF,hc,ho,hs,e2,eA,hW⟩:=aVu H x;have w:s.DOk:=by rcases hs with rfl|rfl<;>assumption
 have gC:=λA s n=>dCh.good b m A K c s n;have gR:=λn=>dRe.good t (aFK d0 d1) o b so n;have gS:=λA s n n'=>(gC A s n).star (gR n');intro r1 hr1
 try rw[cW]
 have u1:dD h (h.set r1 (.cells (Value.cells x.v) cH)):=cQ.new hr1;have B1:Bx (h.set r1 (.cells (Value.cells x.v) cH)) r1 x.cells:=Bx.new;generalize h.set r1 (.cells (Value.cells x.v) cH)=h1 at *;intro r3 hr3
 try rw[cW]
 have u3:dD h1 (h1.set r3 (.cells (dV PG aR) aR)):=cQ.new hr3;have Z3:=aR.zbox (h:=h1) (r:=r3);have C1:=B1.ext u3;generalize h1.set r3 (.cells (dV PG aR) aR)=h3 at *;have e3:=u1.trans u3;have k1:h r1=none:=hr1;have k3:h r3=none:=u1.none hr3;have kS:=(gS A s n n).known S;have n1:r1∉F1:=λhm=>kS _ hm k1;have n3:r3∉F1:=λhm=>kS _ hm k3;have li:∀{h'':PH},dD h3 h''->cG PG h'' (loadAt bR (pT r1 1))=some (.int .i64 x.id):=λv=>by rw[bR.load,(C1.ext v).cell];rfl
 have hsd:=aSS x.id;have w1:IntKind.i64.wrap (1-((lT x.id:Nat):Int))=((1-lT x.id:Nat):Int):=by rw[fH (by omega) (by omega)];omega
 have S3:=(gS A s n n).ext S e3;obtain⟨Fc,Fr,eF,HC,⟨Ft,Fo,eFr,⟨-,Bt⟩,HO,-⟩,dcr⟩:=id S3;have lc:cG PG h3 (loadAt iO (pT t (lT x.id)))=some (pT c 0):=by rw[iO.load,Bt.cell];exact hc
 have lo:cG PG h3 (loadAt iO (pT t (1-lT x.id)))=some (pT o 0):=by rw[iO.load,Bt.cell];exact ho
 have ix1:=aZk (r:=t) (o:=0) (i:=lT x.id) hsd;have ix2:=aZk (r:=t) (o:=0) (i:=1-lT x.id) (by omega);rw[fQ] at ix1 ix2;have lk:cG PG h3 (loadAt bR (pT r1 0))=some (.int .i64 x.kind):=by rw[bR.load,C1.cell];rfl
 have lh:∀{h'':PH},dD h3 h''->cG PG h'' (loadAt cA (pT r1 2))=some (.int .u64 (x.h:Int)):=λv=>by rw[cA.load,(C1.ext v).cell];rfl
 have ld:cG PG h3 (loadAt bT (pT r1 3))=some (.string (tx x.d)):=by rw[bT.load,C1.cell];rfl
 have lsp:cG PG h3 (loadAt gT (pT r1 8))=some (.bool x.sp):=by rw[gT.load,C1.cell];rfl
 have lx:cG PG h3 (loadAt cH (pT r1 0))=some x.v:=cH.agg C1 (by show 0+9≤9;decide)
 -- the second half
 have tail:∀{h5:PH},eP (dCh b m A K c s n) (dRe t (aFK d0 d1) o b so n) h5 F1->jI h3 F1 h5 F1->oY kk (pT r1 0) (pT r3 0) (pT c 0) (pT o 0) (.string (tx (mN so x))) h5:=by
  intro h5 S5 s5;refine aWq S5 w hn wx hd64 (C1.upd s5.upd n1) n1 rfl (Z3.upd s5.upd n3) n3 λh6 F6 W6 u6 g6=>?_;rw[e2];rw[eA] at W6;obtain⟨F7,W7,hF7⟩:=hW _ _ _ _ W6;refine hk h6 F7 W7 ⟨λbk ob hb hn=>u6 bk ob (s5.upd bk ob (e3.get hb) (λhm=>hn ((hF bk).1 hm))) (λhm=>?_),λbk hb=>?_⟩
  ·rcases gU.1 hm with rfl|hm
   ·rw[k3] at hb;cases hb
   ·exact hn ((hF bk).1 hm)
  ·rcases g6 bk ((hF7 bk).1 hb) with hx|hx
   ·exact .inl ((hF bk).1 hx)
   ·refine .inr ?_;by_cases hm:bk∈F1
    ·exact absurd hx ((gS A s n n).known S5 bk hm)
    ·cases hh:h bk with
     | none=>rfl
     | some ob=>
      have:=s5.upd bk ob (e3.get hh) hm;rw[hx] at this;cases this
 simp only[cH.f1,mA.f0,fQ,li cQ.refl,cE,reduceIte,cZ,Nat.reduceAdd];refine aNP x.id ?_;refine⟨li cQ.refl,?_⟩;simp only[ix1,lc,cE,reduceIte,cZ,Nat.reduceAdd];refine aNP x.id ?_;refine⟨lc,?_⟩;simp only[w1,ix2,lo,cH.f0,cH.f2,cH.f3,cH.f5,fQ,ld,lsp,cE,reduceIte,cZ,Nat.reduceAdd];have plain:¬(x.sp=false∧2≤x.kind∧x.kind≤4)->oY kk (pT r1 0) (pT r3 0) (pT c 0) (pT o 0) (.string (tx x.d)) h3:=λhn=>by
  have:=tail (h5:=h3) S3 jI.refl;unfold mN at this;rw[if_neg hn] at this;exact this
 cases hsp:x.sp with
 | true=>
  simp only[cE,reduceIte,cZ,Nat.reduceAdd];exact plain (by rw[hsp];simp)
 | false=>
  by_cases k2:2≤x.kind
  ·have g1:=eq_true k2;by_cases k4:x.kind≤4
   ·have g2:=eq_true k4;simp only[cH.f0,cH.f2,fQ,lk,g1,g2,lx,lh cQ.refl,cE,reduceIte,cZ,Nat.reduceAdd];refine aQF wx λh4 u4=>?_;refine⟨lh u4,?_⟩;obtain⟨Fcd,HCd,HB,eFc,hdis⟩:=aFJ HC;obtain⟨osp,ocp,obv,onv,PO⟩:=id HO;have hob:∀y∈Fo,y∉[b,m]:=λy hy hm=>by
     have h1:y∈Fr:=by rw[eFr];exact zLl _ hy
     simp only[gU,lH,or_false] at hm;rcases hm with rfl|rfl
     ·exact dcr _ (by rw[eFc];simp) h1
     ·exact dcr _ (by rw[eFc];simp) h1
    refine aUR (s:=so) (n:=n) (HB.ext u4) (nN.good.ext PO u4) hob (aJp x) wx.h λh5 B5 u5=>?_;simp only[cE,reduceIte,cZ,Nat.reduceAdd];have hbm:∀y∈[b,m],y∈F1:=λy hy=>by
     rw[eF,eFc];simp only[gU,lH,or_false] at hy;rcases hy with rfl|rfl<;>simp
    have S5:eP (dCh b m A K c s n) (dRe t (aFK d0 d1) o b so n) h5 F1:=by
     have S4:=(gS A s n n).ext S3 u4;obtain⟨Gc,Gr,eG,HC4,HR4,dcr4⟩:=S4;obtain⟨HC5,-⟩:=aH0 (DC.good c b s n) HC4 B5 u5;refine⟨Gc,Gr,eG,HC5,(gR n).upd HR4 u5 (λy hy hm=>?_),dcr4⟩;obtain⟨Fz,_,_,eGc,_⟩:=aFJ HC4;simp only[gU,lH,or_false] at hm;rcases hm with rfl|rfl
     ·exact dcr4 _ (by rw[eGc];simp) hy
     ·exact dcr4 _ (by rw[eGc];simp) hy
    have:=tail S5 ⟨u4.upd.trans (u5.mono λy hy=>.inl (hbm y hy)),λy hy=>.inl hy⟩;unfold mN at this;rw[if_pos ⟨hsp,k2,k4⟩] at this;exact this
   ·have g2:=eq_false k4;simp only[cH.f0,lk,g1,g2,cE,reduceIte,cZ,Nat.reduceAdd];exact plain (by simp[k4])
  ·have g1:=eq_false k2;simp only[cH.f0,lk,g1,cE,reduceIte,cZ,Nat.reduceAdd];exact plain (by simp[k2])
def aXF(c o:Ch)(a:kD):(nP c o a).1.st.blocks.length≤c.st.blocks.length+1:=by
 rcases aKH c o a with⟨-,-,e,-⟩|⟨-,b,-,e,-⟩|⟨-,-,e,-⟩|⟨-,-,e,-⟩|⟨-,-,e,-⟩|⟨-,e⟩|⟨e,-⟩<;>rw[e]
 ·exact xS _
 ·exact xS _
 ·exact xS _
 ·exact xS _
 ·exact xS _
 ·rw[(aHb c).1];by_cases he:(lV c.st).2.2=0
  ·rw[(aMu he).1];simp
  ·rw[aJb he];omega
 ·omega
def bAT{a b:Ch}{i:Nat}(ha:a.st.blocks.length≤i)(hb:b.st.blocks.length≤i)(x:kD):(kK a b x).1.1.st.blocks.length≤i+1∧(kK a b x).1.2.st.blocks.length≤i+1:=by
 unfold kK;split
 ·refine⟨by show a.st.blocks.length≤i+1;omega,?_⟩;show(nP b a x).1.st.blocks.length≤i+1;have:=aXF b a x;omega
 ·refine⟨?_,by show b.st.blocks.length≤i+1;omega⟩;show(nP a b x).1.st.blocks.length≤i+1;have:=aXF a b x;omega
def aYy(b s c r:Nat)(id n:Int):dH PG (build cT #[(0,pT b 0),(1,.int .i64 id),(2,pT s 0),(3,pT c 0),(4,.int .u64 n),(5,.slice (some ⟨r,0,none⟩) 1 1)])=some (.agg #[pT b 0,.int .i64 id,pT s 0,pT c 0,.int .u64 n,.slice (some ⟨r,0,none⟩) 1 1,.slice none 0 0]):=by kernel_rfl
def aO9{h:PH}{b:Nat}(id:Int){n:Nat}(hn:n<18446744073709551616)(seq:Nat){k:cD}(hk:∀h' r F,DC r b (Ch.new id n seq) 1 h' F->eK h F->dD h h'->k (pT r 0) h'):aT PG aBD #[pT b 0,.int .i64 id,.int .u64 (n:Int),.int .u64 (seq:Int)] h k:=by
 apply aDR.call;unfold aDR;refine aYc n hn λs h1 G S1 f1 u1=>?_;simp only[gG.build0,cE,reduceIte,cZ,Nat.reduceAdd];intro r4 hr4
 try rw[cW]
 have u2:dD h1 (h1.set r4 (.cells (Value.cells (.agg #[.slice none 0 0])) gG)):=cQ.new hr4;have C2:yS (h1.set r4 (.cells (Value.cells (.agg #[.slice none 0 0])) gG)) r4 [] [r4]:=⟨.slice none 0 0,[],dL,eM.nil,rfl,by simp⟩;generalize h1.set r4 (.cells (Value.cells (.agg #[.slice none 0 0])) gG)=h2 at *;simp only[aX7,cE,reduceIte,cZ,Nat.reduceAdd];intro r6 hr6;refine fP ?_
 try rw[cW]
 have u3:dD h2 (h2.set r6 (.cells #[.slice none 0 0] cU)):=cQ.new hr6;have O3:eM (h2.set r6 (.cells #[.slice none 0 0] cU)) cU 1 (.slice (some ⟨r6,0,none⟩) 1 1) [[.slice none 0 0]] [r6]:=eM.lit (n:=1) (aQz (.slice none 0 0)) dL (by simp) (by decide) (by simp);have C3:=C2.ext u3;generalize h2.set r6 (.cells #[.slice none 0 0] cU)=h3 at *;simp only[aYy,cE,reduceIte,cZ,Nat.reduceAdd];intro r11 hr11
 try rw[cW]
 have u4:dD h3 (h3.set r11 (.cells (Value.cells (.agg #[pT b 0,.int .i64 id,pT s 0,pT r4 0,.int .u64 (seq:Int),.slice (some ⟨r6,0,none⟩) 1 1,.slice none 0 0])) cT)):=cQ.new hr11;have X4:Bx (h3.set r11 (.cells (Value.cells (.agg #[pT b 0,.int .i64 id,pT s 0,pT r4 0,.int .u64 (seq:Int),.slice (some ⟨r6,0,none⟩) 1 1,.slice none 0 0])) cT)) r11 ((Ch.new id n seq).dcells b s r4 (.slice (some ⟨r6,0,none⟩) 1 1) (.slice none 0 0)):=Bx.new;generalize h3.set r11 (.cells (Value.cells (.agg #[pT b 0,.int .i64 id,pT s 0,pT r4 0,.int .u64 (seq:Int),.slice (some ⟨r6,0,none⟩) 1 1,.slice none 0 0])) cT)=h4 at *;have e13:=u2.trans u3;have e14:=e13.trans u4;have kS:∀y∈s::G,h1 y≠none:=λy hy=>(rsA.good _ _).known (show rsA s ⟨[],[[]],n⟩ h1 (s::G) from⟨G,S1,rfl⟩) y hy;have D:DC r11 b (Ch.new id n seq) 1 h4 ([r11]++((s::G)++([r4]++([r6]++[])))):=by
  refine⟨s,r4,.slice (some ⟨r6,0,none⟩) 1 1,.slice none 0 0,eP.mk ⟨rfl,X4⟩ (eP.mk ((rsA.good _ _).ext (show rsA s ⟨[],[[]],n⟩ h1 (s::G) from⟨G,S1,rfl⟩) e14) (eP.mk (C3.ext u4) (eP.mk ⟨_,O3.ext u4,by simp,λr hr u hu=>?_⟩ ⟨[],eM.nil,by simp⟩ ?_) ?_) ?_) ?_⟩
  ·simp only[gB] at hr;subst hr;simp only[gB] at hu;subst hu;rfl
  ·simp
  ·intro y hy hm;simp only[gB,zLQ] at hy hm;subst hy;subst hm;have:=C2.known y (by simp);exact this hr6
  ·intro y hy hm;have hk1:=kS y hy;simp only[zLQ,zLW,sK,gU,lH,or_false] at hm;rcases hm with rfl|rfl
   ·exact hk1 hr4
   ·exact hk1 (u2.none hr6)
  ·intro y hy hm;simp only[gB] at hy;subst hy;simp only[zLQ,zLW,sK,gU,kB,lH,or_false] at hm;rcases hm with rfl|hm|rfl|rfl
   ·exact kS _ (by simp) (e13.none hr11)
   ·exact kS _ (by simp[hm]) (e13.none hr11)
   ·exact C3.known _ (by simp) hr11
   ·exact O3.known _ (by simp) hr11
 refine hk _ r11 _ D (λy hy=>?_) (dD.trans u1 e14);simp only[zLQ,zLW,sK,gU,kB,lH,or_false] at hy;rcases hy with rfl|rfl|hy|rfl|rfl
 ·exact(dD.trans u1 e13).none hr11
 ·exact f1 _ (by simp)
 ·exact f1 _ (by simp[hy])
 ·exact u1.none hr4
 ·exact(dD.trans u1 u2).none hr6
def bAR(a b:Nat):dH PG (build lF #[(0,pT a 0),(1,pT b 0)])=some (.agg #[pT a 0,pT b 0]):=by kernel_rfl
def bAO(a b:Nat):dH PG (build mA #[(0,.agg #[pT a 0,pT b 0])])=some (.agg #[pT a 0,pT b 0]):=by kernel_rfl
def aWo{h:PH}{bk mk:Nat}{Kk:List Nat}(HBk:Bk bk mk [] Kk h){a b s0 s1:Nat}(ha:a<18446744073709551616)(hb:b<18446744073709551616){k:cD}(hk:∀h' r d0 d1 F,DTw r d0 d1 bk mk [] Kk (Ch.new 0 a s0) (Ch.new 1 b s1) 1 h' F->(∀y∈F,y∈bk::mk::Kk∨h y=none)->dD h h'->k (pT r 0) h'):aT PG aDN #[pT bk 0,vZ a b,vZ s0 s1] h k:=by
 apply vV.call;unfold vV;intro r1 hr1
 try rw[cW]
 have u1:dD h (h.set r1 (.cells (Value.cells (vZ a b)) eW)):=cQ.new hr1;have B1:Bx (h.set r1 (.cells (Value.cells (vZ a b)) eW)) r1 (u2c a b):=Bx.new;generalize h.set r1 (.cells (Value.cells (vZ a b)) eW)=h1 at *;intro r3 hr3
 try rw[cW]
 have u3:dD h1 (h1.set r3 (.cells (Value.cells (vZ s0 s1)) eW)):=cQ.new hr3;have B3:Bx (h1.set r3 (.cells (Value.cells (vZ s0 s1)) eW)) r3 (u2c s0 s1):=Bx.new;have C1:=B1.ext u3;generalize h1.set r3 (.cells (Value.cells (vZ s0 s1)) eW)=h3 at *;have i0:∀{r:Nat},dH PG (indexAt eW (pT r 0) (.int .i64 0))=some (pT r 0):=aPZ (i:=0) (by decide);have i1:∀{r:Nat},dH PG (indexAt eW (pT r 0) (.int .i64 1))=some (pT r 1):=fun {r}=>by have:=aPZ (r:=r) (o:=0) (i:=1) (by decide);rw[fQ] at this;exact this
 have l10:∀{h'':PH},dD h3 h''->cG PG h'' (loadAt cA (pT r1 0))=some (.int .u64 (a:Int)):=λv=>by rw[cA.load,(C1.ext v).cell];rfl
 have l11:∀{h'':PH},dD h3 h''->cG PG h'' (loadAt cA (pT r1 1))=some (.int .u64 (b:Int)):=λv=>by rw[cA.load,(C1.ext v).cell];rfl
 have l30:∀{h'':PH},dD h3 h''->cG PG h'' (loadAt cA (pT r3 0))=some (.int .u64 (s0:Int)):=λv=>by rw[cA.load,(B3.ext v).cell];rfl
 have l31:∀{h'':PH},dD h3 h''->cG PG h'' (loadAt cA (pT r3 1))=some (.int .u64 (s1:Int)):=λv=>by rw[cA.load,(B3.ext v).cell];rfl
 simp only[i0,i1,l10 cQ.refl,l11 cQ.refl,l30 cQ.refl,l31 cQ.refl,cE,reduceIte,cZ,Nat.reduceAdd];refine aO9 0 ha s0 λh4 p F4 D4 f4 u4=>?_;refine⟨l31 u4,l11 u4,?_⟩;refine aO9 1 hb s1 λh5 q F5 D5 f5 u5=>?_;simp only[bAR,bAO,cE,reduceIte,cZ,Nat.reduceAdd];intro r19 hr19
 try rw[cW]
 have u6:dD h5 (h5.set r19 (.cells (Value.cells (.agg #[pT p 0,pT q 0])) mA)):=cQ.new hr19;have X6:Bx (h5.set r19 (.cells (Value.cells (.agg #[pT p 0,pT q 0])) mA)) r19 (aFK p q):=Bx.new;generalize h5.set r19 (.cells (Value.cells (.agg #[pT p 0,pT q 0])) mA)=h6 at *;have e3:dD h h3:=u1.trans u3;have e6:=((e3.trans u4).trans u5).trans u6;have D46:=(DC.good _ _ _ _).ext D4 (u5.trans u6);have D56:=(DC.good _ _ _ _).ext D5 u6;refine hk h6 r19 p q _ (eP.mk (eP.mk ⟨rfl,HBk.ext e6⟩ D46 ?_) (eP.mk ⟨rfl,X6⟩ D56 ?_) ?_) (λy hy=>?_) e6
 ·intro y hy hm;exact HBk.known y hy (e3.none (f4 y hm))
 ·intro y hy hm;simp only[gB] at hy;subst hy;exact(DC.good _ _ _ _).known D5 _ hm hr19
 ·intro y hy hm;rcases kB.1 hm with hm|hm
  ·simp only[gB] at hm;subst hm;rcases kB.1 hy with hy|hy
   ·exact(HBk.ext (((e3.trans u4).trans u5))).known _ hy hr19
   ·exact(DC.good _ _ _ _).known ((DC.good _ _ _ _).ext D4 u5) _ hy hr19
  ·rcases kB.1 hy with hy|hy
   ·exact(HBk.ext (e3.trans u4)).known _ hy (f5 _ hm)
   ·exact(DC.good _ _ _ _).known D4 _ hy (f5 _ hm)
 ·simp only[kB,gB] at hy;rcases hy with(hy|hy)|(rfl|hy)
  ·exact .inl hy
  ·exact .inr (e3.none (f4 y hy))
  ·exact .inr (((e3.trans u4).trans u5).none hr19)
  ·exact .inr ((e3.trans u4).none (f5 y hy))
def aUw(c o:Ch)(a:kD):(nP c o a).1.id=c.id:=by
 rcases aKH c o a with⟨-,-,e,-⟩|⟨-,b,-,e,-⟩|⟨-,-,e,-⟩|⟨-,-,e,-⟩|⟨-,-,e,-⟩|⟨-,e⟩|⟨e,-⟩<;>rw[e]
 ·rfl
 ·rfl
 ·rfl
 ·rfl
 ·rfl
 ·exact(aHb c).2.2
def aZc(s0 s1:Ch)(x:kD):(kK s0 s1 x).1.1.id=s0.id∧(kK s0 s1 x).1.2.id=s1.id:=by
 unfold kK;split
 ·exact⟨rfl,aUw _ _ _⟩
 ·exact⟨aUw _ _ _,rfl⟩
def aZd{s0 s1:Ch}(h0:KOk s0)(h1:KOk s1){x:kD}(w:x.wf):KOk (kK s0 s1 x).1.1∧KOk (kK s0 s1 x).1.2:=by
 unfold kK;split
 ·exact⟨h0,h1.doP _ w⟩
 ·exact⟨h0.doP _ w,h1⟩
def aSU{c:Nat}{s:Ch}{h:PH}{F:List Nat}(H:jB c s h F)(k:KOk s):s.DOk∧s.st.Ok:=by
 obtain⟨sp,m,cp,nv,bv,lk,P,perm,ok⟩:=H;obtain⟨Fc,⟨hs,C⟩,-,-⟩:=P.fCli;exact⟨⟨ok.id,ok.seq,⟨hs,C.rank⟩,k.1,k.2⟩,P.okst⟩
def fZ.tac4{h:PH}{v:Value}{l:List kD}(S:fZ h 9 v (l.map kD.cells)){j:Nat}{x:kD}(hx:l[j]? =some x):
  ∃b o,dH PG (indexAt iY v (.int .i64 (j:Int)))=some (pT b o)∧∀h',dD h h'->dB h' ⟨b,o,none⟩=some (.int .i64 x.kind)∧cG PG h' (loadAt cH (pT b o))=some x.v∧cG PG h' (loadAt aR (pT b (o+4)))=some x.p.v:=by
 obtain⟨b,o,cs,e',fr,h1,hb,hle,hex⟩:=S.at iY.und cH.info cH.size (k:=.i64) (j:=(j:Int)) (r:=x.cells) (by omega) (by rw[wA,rA,hx];rfl);have hd:∀i n,i+n≤9->(cs.extract (o+i) (o+i+n)).toList=(x.cells.drop i).take n:=λi n hi=>by
  rw[←hex];simp only[zLD,zLx,aJa,zLy,aGf,aMS];congr 1;omega
 refine⟨b,o,h1,λh' u=>?_⟩;have hb':=u.get hb;refine⟨?_,?_,?_⟩
 ·unfold dB;simp only[hb'];have:=congrArg (λl:List Value=>l[0]?) (hd 0 1 (by decide));simp only[zLD,zLx,Nat.add_zero,aJa,aJ9,aOF] at this;simpa[kD.cells] using this
 ·rw[cH.loadAgg hb' hle];congr 2;exact zLw (hd 0 9 (by decide))
 ·rw[aR.loadAgg hb' (by omega)];congr 2;exact zLw (hd 4 4 (by decide))
structure Bnd(c:Ch)(n:Nat):Prop where
 up:sZ c.st.now
 now:c.st.now.length≤2*n
 cl:c.cl.length≤n
def Bnd.mono{c:Ch}{n m:Nat}(H:Bnd c n)(h:n≤m):Bnd c m:=⟨H.up,by have:=H.now;omega,by have:=H.cl;omega⟩
def aXu(l:List hZ)(x:hZ):(aAq l x).2.length≤l.length+1:=by
 unfold aAq;split
 ·exact xS _
 ·split
  ·exact xS _
  ·split
   ·exact xS _
   ·simp
def Bnd.step{c o:Ch}{n:Nat}(H:Bnd c n)(a:kD):Bnd (nP c o a).1 (n+1):=by
 rcases aKH c o a with⟨-,-,e,-⟩|⟨-,b,-,e,-⟩|⟨-,-,e,-⟩|⟨-,-,e,-⟩|⟨-,-,e,-⟩|⟨-,e⟩|⟨e,-⟩<;>rw[e]
 ·obtain⟨e1,e2,-⟩:=aX1 c (kE c a.d a.h);refine⟨by rw[e1];exact H.up.set _,?_,by rw[e2];have:=H.cl;omega⟩;rw[e1];have:=aKh c.st.now ⟨iZ 99 c.seq,rJ (kE c a.d a.h)⟩;have:=H.now;show(oO _ _).length≤_;omega
 ·exact⟨H.up,by have:=H.now;show c.st.now.length≤_;omega,by have:=aXu c.cl ⟨(a.h:Int),tx (oD b)⟩;have:=H.cl;show(aAq _ _).2.length≤_;omega⟩
 ·obtain⟨e1,e2,-⟩:=aR8 c a.p;refine⟨by rw[e1];exact(H.up.set _).set _,?_,by rw[e2];have:=H.cl;omega⟩;rw[e1];have h1:=aKh c.st.now ⟨iZ 114 a.p.s.toNat,[1]⟩;have h2:=aKh (oO c.st.now ⟨iZ 114 a.p.s.toNat,[1]⟩) ⟨iZ 97 a.p.s.toNat,aEv a.p⟩;have:=H.now;show(oO (oO _ _) _).length≤_;omega
 ·obtain⟨e1,e2,-⟩:=aOz c 3 a.p;refine⟨by rw[e1];exact H.up.del _,?_,by rw[e2];have:=H.cl;omega⟩;rw[e1];have:=aMz (λq=>decide (q.k≠iZ 99 a.p.s.toNat)) c.st.now;have:=H.now;show(vJ _ _).length≤_;unfold vJ;omega
 ·obtain⟨e1,e2,-⟩:=aOz c 4 a.p;refine⟨by rw[e1];exact H.up.del _,?_,by rw[e2];have:=H.cl;omega⟩;rw[e1];have:=aMz (λq=>decide (q.k≠iZ 99 a.p.s.toNat)) c.st.now;have:=H.now;show(vJ _ _).length≤_;unfold vJ;omega
 ·obtain⟨e1,e2,-⟩:=aHb c;have en:c.committed.st.now=c.st.now:=by
   rw[e1];by_cases he:(lV c.st).2.2=0
   ·rw[(aMu he).1]
   ·rw[aJb he]
  exact⟨by rw[en];exact H.up,by rw[en];have:=H.now;omega,by rw[e2];have:=H.cl;omega⟩
 ·exact H.mono (by omega)
structure aS7(s:Ch×Ch)(n:Nat):Prop where
 a:Bnd s.1 n
 b:Bnd s.2 n
def aS7.tw{a b:Ch}{n:Nat}(H:aS7 (a,b) n)(x:kD):aS7 (kK a b x).1 (n+1):=by
 unfold kK;split
 ·exact⟨H.a.mono (by omega),H.b.step x⟩
 ·exact⟨H.a.step x,H.b.mono (by omega)⟩
def kD.clean(x:kD):kD:={x with sp:=false}
def kD.clean_wf{x:kD}(w:x.wf):x.clean.wf:=⟨w.h,w.p⟩
noncomputable def aER(s:Ch×Ch)(x:kD):Ch×Ch:=(kK s.1 s.2 x.clean).1
noncomputable def aHE(s:Ch×Ch)(l:List kD):Ch×Ch:=l.foldl aER s
def aU2(s:Ch×Ch)(l:List kD)(x:kD):aHE s (l++[x])=aER (aHE s l) x:=by
 unfold aHE;rw[List.foldl_append];rfl
structure aG3(s:Ch×Ch)(i:Nat):Prop where
 i0:s.1.id=0
 i1:s.2.id=1
 n0:s.1.nts.length≤i
 n1:s.2.nts.length≤i
 t0:s.1.tot≤i
 t1:s.2.tot≤i
 b0:s.1.st.blocks.length≤i+1
 b1:s.2.st.blocks.length≤i+1
 k0:KOk s.1
 k1:KOk s.2
 o0:rY s.1
 o1:rY s.2
 bd:aS7 s i
def aYA{a b:Ch}{i:Nat}(ha:a.tot≤i)(hb:b.tot≤i)(x:kD):(kK a b x).1.1.tot≤i+1∧(kK a b x).1.2.tot≤i+1:=by
 unfold kK;split
 ·obtain⟨-,h⟩:=aP0 b a x;refine⟨by show a.tot≤i+1;omega,?_⟩;show(nP b a x).1.tot≤i+1;rw[h];split<;>omega
 ·obtain⟨-,h⟩:=aP0 a b x;refine⟨?_,by show b.tot≤i+1;omega⟩;show(nP a b x).1.tot≤i+1;rw[h];split<;>omega
def aG3.new{a b s t:Nat}(hs:s<18446744073709551616)(ht:t<18446744073709551616):aG3 (Ch.new 0 a s,Ch.new 1 b t) 0 where
 i0:=rfl
 i1:=rfl
 n0:=nC _
 n1:=nC _
 t0:=nC _
 t1:=nC _
 b0:=nC _
 b1:=nC _
 k0:=⟨by simp[Ch.new],by simp[Ch.new,hts]⟩
 k1:=⟨by simp[Ch.new],by simp[Ch.new,hts]⟩
 o0:=rY.new
 o1:=rY.new
 bd:=⟨⟨List.Pairwise.nil,nC _,nC _⟩,⟨List.Pairwise.nil,nC _,nC _⟩⟩
def aG3.tw{s:Ch×Ch}{i:Nat}(H:aG3 s i){x:kD}(w:x.wf):aG3 (kK s.1 s.2 x).1 (i+1):=by
 obtain⟨e0,e1⟩:=aZc s.1 s.2 x;obtain⟨y0,y1⟩:=aTH s.1 s.2 x H.n0 H.n1;obtain⟨z0,z1⟩:=aZd H.k0 H.k1 w;obtain⟨t0,t1⟩:=aYA H.t0 H.t1 x;obtain⟨b0,b1⟩:=bAT H.b0 H.b1 x;obtain⟨o0,o1⟩:=H.o0.step H.o1 x;exact⟨by rw[e0];exact H.i0,by rw[e1];exact H.i1,y0,y1,t0,t1,b0,b1,z0,z1,o0,o1,H.bd.tw x⟩
def aG3.act{s:Ch×Ch}{i:Nat}(H:aG3 s i){x:kD}(w:x.wf):aG3 (aER s x) (i+1):=H.tw (kD.clean_wf w)
def kD.isC(x:kD):∀u∈x.cells,fW u=true:=λu hu=>by
 simp only[kD.cells,gU,lH,or_false] at hu;rcases hu with rfl|rfl|rfl|rfl|rfl|rfl|rfl|rfl|rfl<;>rfl
def aYH(c o:Ch)(a:kD):(nP c o a).1=if a.kind=0 then(if qR c a.d a.h=0 then c.sent (kE c a.d a.h) else c)
   else if a.kind=1 then(match zH o.st a.h with
    | none=>c
    | some b=>c.told (a.h:Int) (oD b))
   else if a.kind=2 then(if rG c (uO c a.p (mN o a) (a.h:Int))=0 then c.received a.p else c)
   else if a.kind=3 then(if jP c a.p (aBO c a.p (mN o a) (a.h:Int))=0 then c.settled 3 a.p else c)
   else if a.kind=4 then(if jP c a.p (wS c a.p (mN o a) (a.h:Int))=0 then c.settled 4 a.p else c)
   else if a.kind=5 then c.committed
   else c:=by
 unfold nP;split
 ·split<;>rfl
 ·split
  ·cases zH o.st a.h<;>rfl
  ·split
   ·split<;>rfl
   ·split
    ·split<;>rfl
    ·split
     ·split<;>rfl
     ·split<;>rfl
def aJZ(c0 c1:Nat)(s:Ch×Ch):nA:=eP (jB c0 s.1) (jB c1 s.2)
def aJZ.good(c0 c1:Nat)(s:Ch×Ch):mK (aJZ c0 c1 s):=(jB.good _ _).star (jB.good _ _)
def aIo(c0 c1:Nat)(j:Nat):Nat:=if j=1 then c1 else c0
def aH4(s:Ch×Ch)(j:Nat):Ch:=if j=1 then s.2 else s.1
def aVK(c0 c1:Nat)(s:Ch×Ch)(x:kD):∃W:nA->nA,(∀s',mK (W (jB (aIo c0 c1 (lT x.id)) s')))∧(nP (aH4 s (lT x.id)) (aH4 s (1-lT x.id)) x).2=(kK s.1 s.2 x).2∧
  (∀{h F},W (jB (aIo c0 c1 (lT x.id)) (nP (aH4 s (lT x.id)) (aH4 s (1-lT x.id)) x).1) h F->aJZ c0 c1 (kK s.1 s.2 x).1 h F)∧∀{h F},aJZ c0 c1 s h F->zJ h F (jB (aIo c0 c1 (lT x.id)) (aH4 s (lT x.id))) W∧∃Fo,jB (aIo c0 c1 (1-lT x.id)) (aH4 s (1-lT x.id)) h Fo:=by
 unfold lT aIo aH4 kK;by_cases e:x.id=1
 ·simp only[if_pos e,aKu,if_true];exact⟨λX=>eP (jB c0 s.1) X,λs'=>(jB.good _ _).star (jB.good _ _),rfl,λH=>H,fun {h F} H=>⟨eP.right (jB.good _ _) H,by
   obtain⟨Fo,_,_,HO,_,_⟩:=H;exact⟨Fo,HO⟩⟩⟩
 ·simp only[if_neg e,Nat.sub_zero,if_true];exact⟨λX=>eP X (jB c1 s.2),λs'=>(jB.good _ _).star (jB.good _ _),rfl,λH=>H,fun {h F} H=>⟨eP.left (jB.good _ _) H,by
   obtain⟨_,Fo,_,_,HO,_⟩:=H;exact⟨Fo,HO⟩⟩⟩
def aVa{c0 c1:Nat}{s:Ch×Ch}{h:PH}{F:List Nat}(H:aJZ c0 c1 s h F)(k0:KOk s.1)(k1:KOk s.2):(s.1.DOk∧s.1.st.Ok)∧s.2.DOk∧s.2.st.Ok:=by
 obtain⟨Fc,Fd,-,h0,h1,-⟩:=H;exact⟨aSU h0 k0,aSU h1 k1⟩
def arC(c0 c1:Nat):List Value:=[pT c0 0,pT c1 0]
def arV(c0 c1:Nat):Value:=.agg (arC c0 c1).toArray
def aRi(c0 c1:Nat){j:Nat}(hj:j<2):(arC c0 c1)[j]? =some (pT (aIo c0 c1 j) 0):=by
 have:j=0∨j=1:=by omega
 rcases this with rfl|rfl<;>rfl
def aPI(c0 c1:Nat):∀u∈arC c0 c1,fW u=true:=λu hu=>by
 simp only[arC,gU,lH,or_false] at hu;rcases hu with rfl|rfl<;>rfl
def aJv(c0 c1 m d0 d1 b mm:Nat)(K:List Nat)(s:Ch×Ch)(A:List Tx)(n:Nat):nA:=eP (aJZ c0 c1 s) (DTw m d0 d1 b mm A K s.1 s.2 n)
def aJv.good(c0 c1 m d0 d1 b mm:Nat)(K:List Nat)(s:Ch×Ch)(A:List Tx)(n:Nat):mK (aJv c0 c1 m d0 d1 b mm K s A n):=(aJZ.good _ _ _).star (DTw.good _ _ _ _ _ _ _ _ _ _)
def aX6{h0 h:PH}{F:List Nat}{c0 c1 m d0 d1 bk mm:Nat}{K:List Nat}{s:Ch×Ch}{A:List Tx}{n i:Nat}(hK:oP h0)(N:Now h0 h F)(W:aJv c0 c1 m d0 d1 bk mm K s A n h F)(M:aG3 s i)(hn:n≤i+1){r9:Nat}(B9:Bx h r9 (arC c0 c1))(n9:r9∉F){v t6:Value}{l:List kD}(S:fZ h0 9 v (l.map kD.cells))(hl:l.length≤50){x:kD}(hx:l[i]? =some x)(wx:x.wf)(hd:x.d.length≤2000){R:cD}{n37:gJ}
  (hk:∀h' F' A',aJv c0 c1 m d0 d1 bk mm K (aER s x) A' (n+1) h' F'->jI h F h' F'->n37 [v,t6,pT r9 0,pT m 0,.int .i64 ((i+1:Nat):Int)] h'):
  zU R n37 v t6 (pT r9 0) (pT m 0) (.int .i64 (i:Int)) h:=by
 unfold zU;have hlt:i<l.length:=(zLA.1 hx).1;have g:((i:Int)<(l.length:Int))=True:=eq_true (by omega);have gi:=qN (i:=i) (by omega);obtain⟨bb,o,a1,a2⟩:=S.tac4 hx;obtain⟨-,la,-⟩:=a2 h N.ext;have gD:mK (DTw m d0 d1 bk mm A K s.1 s.2 n):=DTw.good _ _ _ _ _ _ _ _ _ _;have key:=aVK c0 c1 s x.clean;rw[show x.clean.id=x.id from rfl] at key;obtain⟨Wc,gW,e2,hW,get⟩:=key;have hsd:=aSS x.id;have w1:IntKind.i64.wrap (1-((lT x.id:Nat):Int))=((1-lT x.id:Nat):Int):=by rw[fH (by omega) (by omega)];omega
 have wc:=kD.clean_wf wx;simp only[aPJ S,g,a1,la,cE,reduceIte,cZ,Nat.reduceAdd];intro r43 hr43
 try rw[cW]
 refine cH.fill (vs:=x.cells) hr43 rfl (kD.isC x) λh1 B1 u1=>?_;have h2e:h1=h1:=rfl;generalize hq:h1=h2 at *;have B2:=B1;have e2':dD h h2:=u1;have C9:∀{h'':PH},dD h h''->Bx h'' r9 (arC c0 c1):=λu=>B9.ext u;have W2:=(aJv.good _ _ _ _ _ _ _ _ _ _ _).ext W e2';have n43:r43∉F:=λhm=>(aJv.good _ _ _ _ _ _ _ _ _ _ _).known W _ hm hr43;have li:∀{h'':PH},dD h2 h''->cG PG h'' (loadAt bR (pT r43 1))=some (.int .i64 x.id):=λu=>by rw[bR.load,(B2.ext u).cell];rfl
 have lh:∀{h'':PH},dD h2 h''->cG PG h'' (loadAt cA (pT r43 2))=some (.int .u64 (x.h:Int)):=λu=>by rw[cA.load,(B2.ext u).cell];rfl
 have lx:cG PG h2 (loadAt cH (pT r43 0))=some x.v:=cH.agg B2 (by show 0+9≤9;decide);have lc:∀{h'':PH},dD h2 h''->cG PG h'' (loadAt dF (pT r9 (lT x.id)))=some (.pointer (some ⟨aIo c0 c1 (lT x.id),0,none⟩)):=λu=>by rw[dF.load,(C9 (e2'.trans u)).cell,aRi c0 c1 hsd]
 have lo:∀{h'':PH},dD h2 h''->cG PG h'' (loadAt dF (pT r9 (1-lT x.id)))=some (.pointer (some ⟨aIo c0 c1 (1-lT x.id),0,none⟩)):=λu=>by rw[dF.load,(C9 (e2'.trans u)).cell,aRi c0 c1 (by omega)]
 have ix1:=aLk (r:=r9) (o:=0) (i:=lT x.id) hsd;have ix2:=aLk (r:=r9) (o:=0) (i:=1-lT x.id) (by omega);rw[fQ] at ix1 ix2;have j0:dH PG (indexAt dR (pT r9 0) (.int .i64 0))=some (pT r9 0):=aLk (i:=0) (by decide);have j1:dH PG (indexAt dR (pT r9 0) (.int .i64 1))=some (pT r9 1):=by have:=aLk (r:=r9) (o:=0) (i:=1) (by decide);rw[fQ] at this;exact this
 have l0:cG PG h2 (loadAt dF (pT r9 0))=some (pT c0 0):=by rw[dF.load,(C9 e2').cell];rfl
 have l1:cG PG h2 (loadAt dF (pT r9 1))=some (pT c1 0):=by rw[dF.load,(C9 e2').cell];rfl
 have nilN:∀{h'':PH} {x y:Operand} {c:Nat},cG PG h'' (jT .eql dF x y (pT c 0) (.pointer none))=some (.bool false):=aDA dF.und;simp only[cH.f1,j0,l0,j1,l1,nilN,fQ,li cQ.refl,cE,reduceIte,cZ,Nat.reduceAdd];refine aNP x.id ?_;refine⟨li cQ.refl,?_⟩;simp only[ix1,lc cQ.refl,cE,reduceIte,cZ,Nat.reduceAdd];refine aNP x.id ?_;refine⟨lc cQ.refl,?_⟩;simp only[w1,ix2,lo cQ.refl,lx,cH.f2,fQ,lh cQ.refl,cE,reduceIte,cZ,Nat.reduceAdd];refine aQF (a:=x) wx λh3 u3=>?_;refine⟨lh u3,?_⟩;obtain⟨Fa2,HT2,-,-⟩:=eP.left gD W2;obtain⟨-,Fo2,HO2⟩:=get HT2;refine aVN (N.k hK |>.ext (e2'.trans u3)) ((jB.good _ _).ext HO2 u3) (aJp x) wx.h λh4 u4=>?_;have e4:dD h2 h4:=u3.trans u4;have e04:=e2'.trans e4;have W4:=(aJv.good _ _ _ _ _ _ _ _ _ _ _).ext W2 e4;have K4:=(N.k hK).ext e04;have N4:=N.more e04;have h0F:=N4.z hK;have B4:=B2.ext e4;obtain⟨Fa,HT,hFa,back0⟩:=eP.left gD W4;obtain⟨⟨Fc,HA,hFc,back⟩,Fo,HO⟩:=get HT;have h0a:0∉Fc:=λhm=>h0F (hFa _ (hFc _ hm));obtain⟨⟨w0,o0⟩,w1',o1⟩:=aVa HT M.k0 M.k1;have hl1:(aH4 s (lT x.id)).nts.length<1000000:=by
  have:=M.n0;have:=M.n1;unfold aH4;split<;>omega
 -- behind the call
 have fin:∀{h5:PH} {F5:List Nat} {s':Ch},Wc (jB (aIo c0 c1 (lT x.id)) s') h5 F5->jI h4 Fa h5 F5->(nP (aH4 s (lT x.id)) (aH4 s (1-lT x.id)) x.clean).1=s'->lK R n37 v t6 (pT r9 0) (pT m 0) (.int .i64 (i:Int)) (pT r43 0) h5:=fun {h5 F5 s'} H5 s5 ed=>by
  rw[←ed] at H5;have T5:=hW H5;obtain⟨F6,W6,s6⟩:=back0 (aJZ c0 c1 (aER s x)) h5 F5 T5 s5;obtain⟨B5,n5⟩:=aCm B4 n43 s6;unfold lK aG0;have v8:dH PG (fieldAt cH (pT r43 0) 5)=some (pT r43 8):=by rw[cH.f5]
  refine aSs v8 ?_;refine gT.put B5 (o:=8) (by show 8<9;decide) rfl λh6 B6 u6=>?_;have B6:Bx h6 r43 x.clean.cells:=B6;have W7:=((aJZ.good c0 c1 (aER s x)).star gD).upd W6 u6 (λy hy=>by simp only[gB];rintro rfl;exact n5 hy);have sx:=(jI.ext e04).trans s6;have s06:jI h F h6 F6:=⟨λb ob hb hn=>u6 b ob (sx.upd b ob hb hn) (by simp only[gB];rintro rfl;rw[show h b=none from hr43] at hb;cases hb),sx.grow⟩;have l5:cG PG h6 (loadAt cH (pT r43 0))=some x.clean.v:=cH.agg B6 (by show 0+9≤9;decide);simp only[l5,cE,reduceIte,cZ,Nat.reduceAdd];obtain⟨Fd,HD,hFd,backD⟩:=eP.right (aJZ.good _ _ _) W7;refine aZD HD w0 w1' (by omega) wc (by show x.d.length≤1000000;omega) λh7 F7 D7 s7=>?_;obtain⟨F8,W8,s8⟩:=backD (DTw m d0 d1 bk mm (twA s.1 s.2 x.clean++A) K (aER s x).1 (aER s x).2 (n+1)) h7 F7 D7 s7;simp only[gi,cE,reduceIte,cZ,Nat.reduceAdd];exact hk h7 F8 _ W8 (s06.trans s8)
 have lk:cG PG h4 (loadAt bR (pT r43 0))=some (.int .i64 x.kind):=by rw[bR.load,B4.cell];rfl
 have ld:cG PG h4 (loadAt bT (pT r43 3))=some (.string (tx x.d)):=by rw[bT.load,B4.cell];rfl
 have lp:cG PG h4 (loadAt aR (pT r43 4))=some x.p.v:=B4.pk rfl;have lh4:=lh e4;generalize hs:aH4 s (lT x.id)=cs at *;generalize hso:aH4 s (1-lT x.id)=so at *;generalize aIo c0 c1 (lT x.id)=cc at *;generalize aIo c0 c1 (1-lT x.id)=co at *;have hd:(nP cs so x.clean).1=if x.kind=0 then(if qR cs x.d x.h=0 then cs.sent (kE cs x.d x.h) else cs)
   else if x.kind=1 then(match zH so.st x.h with
    | none=>cs
    | some b=>cs.told (x.h:Int) (oD b))
   else if x.kind=2 then(if rG cs (uO cs x.p (mN so x.clean) (x.h:Int))=0 then cs.received x.p else cs)
   else if x.kind=3 then(if jP cs x.p (aBO cs x.p (mN so x.clean) (x.h:Int))=0 then cs.settled 3 x.p else cs)
   else if x.kind=4 then(if jP cs x.p (wS cs x.p (mN so x.clean) (x.h:Int))=0 then cs.settled 4 x.p else cs)
   else if x.kind=5 then cs.committed
   else cs:=aYH cs so x.clean
 have hpf:2≤x.kind->x.kind≤4->mN so x.clean=(aF0 so.st (aJp x) x.h).1:=λh2 h4=>by unfold mN;rw[if_pos ⟨rfl,h2,h4⟩];rfl
 by_cases k0:x.kind=0
 ·have q:(x.kind==0)=true:=by simp[k0]
  rw[if_pos k0] at hd;simp only[cH.f0,cH.f2,cH.f3,fQ,lk,ld,lh4,iG,q,cE,reduceIte,cZ,Nat.reduceAdd];refine aWa K4 HA x.d wx.h hl1 (λhe h1 F1 H1 s1 _=>?_) (λhe h1 F1 H1 s1=>?_)
  ·rw[if_neg he] at hd;obtain⟨F2,W2,s2⟩:=back _ h1 F1 H1 s1;exact fin W2 s2 hd
  ·rw[if_pos he] at hd;obtain⟨F2,W2,s2⟩:=back _ h1 F1 H1 s1;exact fin W2 s2 hd
 have q0:(x.kind==0)=false:=by simp[k0]
 rw[if_neg k0] at hd;by_cases k1:x.kind=1
 ·have q:(x.kind==1)=true:=by simp[k1]
  rw[if_pos k1] at hd;obtain⟨sp,m',cp,nv,bv,lk',P,perm,ok⟩:=HO;obtain⟨Fs,St,-,-⟩:=P.fSt;simp only[cH.f0,cH.f2,eJ.f0,eX.f0,fQ,lk,lh4,Ch.load0 P.cell,iG,q0,q,cE,reduceIte,cZ,Nat.reduceAdd];refine aT2 St x.h wx.h (λe h1 u1=>?_) (λb h1 e u1=>?_)
  ·rw[e] at hd;obtain⟨F2,W2,s2⟩:=back _ h1 Fc ((jB.good _ _).ext HA u1) (jI.ext u1);have qe:((3:Int)==0)=false:=by decide
   simp only[iG,qe,cE,reduceIte,cZ,Nat.reduceAdd];exact fin W2 s2 hd
  ·rw[e] at hd;have lh1:=lh (e4.trans u1);have qe:((0:Int)==0)=true:=by decide
   simp only[iG,qe,cH.f2,fQ,lh1,cE,reduceIte,cZ,Nat.reduceAdd];refine aS1 ((jB.good _ _).ext HA u1) (x.h:Int) (oD b) λh2 F2 H2 s2=>?_;obtain⟨F3,W3,s3⟩:=back _ h2 F2 H2 ((jI.ext u1).trans s2);exact fin W3 s3 hd
 have q1:(x.kind==1)=false:=by simp[k1]
 rw[if_neg k1] at hd;by_cases k2:x.kind=2
 ·have q:(x.kind==2)=true:=by simp[k2]
  rw[if_pos k2,hpf (by omega) (by omega)] at hd;simp only[cH.f0,cH.f2,cH.f4,fQ,lk,lh4,lp,iG,q0,q1,q,cE,reduceIte,cZ,Nat.reduceAdd];refine aWv K4 HA h0a wx.p hl1 (λhe h1 H1 u1=>?_) (λhe h1 F1 H1 s1=>?_)
  ·rw[if_neg he] at hd;obtain⟨F2,W2,s2⟩:=back _ h1 Fc H1 (jI.ext u1);exact fin W2 s2 hd
  ·rw[if_pos he] at hd;obtain⟨F2,W2,s2⟩:=back _ h1 F1 H1 s1;exact fin W2 s2 hd
 have q2:(x.kind==2)=false:=by simp[k2]
 rw[if_neg k2] at hd;by_cases k3:x.kind=3
 ·have q:(x.kind==3)=true:=by simp[k3]
  rw[if_pos k3,hpf (by omega) (by omega)] at hd;simp only[cH.f0,cH.f2,cH.f4,fQ,lk,lh4,lp,iG,q0,q1,q2,q,cE,reduceIte,cZ,Nat.reduceAdd];refine aXZ K4 HA wx.p hl1 (λhe h1 H1 u1=>?_) (λhe h1 F1 H1 s1=>?_)
  ·rw[if_neg he] at hd;obtain⟨F2,W2,s2⟩:=back _ h1 Fc H1 (jI.ext u1);exact fin W2 s2 hd
  ·rw[if_pos he] at hd;obtain⟨F2,W2,s2⟩:=back _ h1 F1 H1 s1;exact fin W2 s2 hd
 have q3:(x.kind==3)=false:=by simp[k3]
 rw[if_neg k3] at hd;by_cases k4:x.kind=4
 ·have q:(x.kind==4)=true:=by simp[k4]
  rw[if_pos k4,hpf (by omega) (by omega)] at hd;simp only[cH.f0,cH.f2,cH.f4,fQ,lk,lh4,lp,iG,q0,q1,q2,q3,q,cE,reduceIte,cZ,Nat.reduceAdd];refine aSA K4 HA wx.p hl1 (λhe h1 H1 u1=>?_) (λhe h1 F1 H1 s1=>?_)
  ·rw[if_neg he] at hd;obtain⟨F2,W2,s2⟩:=back _ h1 Fc H1 (jI.ext u1);exact fin W2 s2 hd
  ·rw[if_pos he] at hd;obtain⟨F2,W2,s2⟩:=back _ h1 F1 H1 s1;exact fin W2 s2 hd
 have q4:(x.kind==4)=false:=by simp[k4]
 rw[if_neg k4] at hd;by_cases k5:x.kind=5
 ·have q:(x.kind==5)=true:=by simp[k5]
  rw[if_pos k5] at hd;simp only[cH.f0,fQ,lk,iG,q0,q1,q2,q3,q4,q,cE,reduceIte,cZ,Nat.reduceAdd];refine aTo K4 HA λh1 F1 H1 s1=>?_;obtain⟨F2,W2,s2⟩:=back _ h1 F1 H1 s1;exact fin W2 s2 hd
 ·have q:(x.kind==5)=false:=by simp[k5]
  rw[if_neg k5] at hd;obtain⟨F2,W2,s2⟩:=back _ h4 Fc HA jI.refl;simp only[cH.f0,fQ,lk,iG,q0,q1,q2,q3,q4,q,cE,reduceIte,cZ,Nat.reduceAdd];exact fin W2 s2 hd
def aP7{h:PH}(hK:oP h){a b s0 s1:Nat}(ha:a<18446744073709551616)(hb:b<18446744073709551616)(hs0:s0<18446744073709551616)(hs1:s1<18446744073709551616)(z0:s0≠0)(z1:s1≠0){v:Value}{l:List kD}(S:fZ h 9 v (l.map kD.cells))(w:∀x∈l,x.wf)(hl:l.length≤50)(hd:∀x∈l,x.d.length≤2000){k:cD}
  (hk:∀h' c0 c1 m d0 d1 bk mm K A n F,aJv c0 c1 m d0 d1 bk mm K (aHE (Ch.new 0 a s0,Ch.new 1 b s1) l) A n h' F->eK h F->dD h h'->aG3 (aHE (Ch.new 0 a s0,Ch.new 1 b s1) l) l.length->k (.tuple #[arV c0 c1,pT m 0]) h'):
  aT PG aAR #[vZ a b,vZ s0 s1,v] h k:=by
 apply vR.call;unfold vR;intro r1 hr1
 try rw[cW]
 have u1:dD h (h.set r1 (.cells (Value.cells (vZ a b)) eW)):=cQ.new hr1;have B1:Bx (h.set r1 (.cells (Value.cells (vZ a b)) eW)) r1 (u2c a b):=Bx.new;generalize h.set r1 (.cells (Value.cells (vZ a b)) eW)=h1 at *;intro r3 hr3
 try rw[cW]
 have u3:dD h1 (h1.set r3 (.cells (Value.cells (vZ s0 s1)) eW)):=cQ.new hr3;have B3:Bx (h1.set r3 (.cells (Value.cells (vZ s0 s1)) eW)) r3 (u2c s0 s1):=Bx.new;generalize h1.set r3 (.cells (Value.cells (vZ s0 s1)) eW)=h3 at *;intro r5 hr5
 try rw[cW]
 have u5:dD h3 (h3.set r5 (.cells (dV PG dR) dR)):=cQ.new hr5;have B5:Bx (h3.set r5 (.cells (dV PG dR) dR)) r5 [.pointer none,.pointer none]:=dR.zbox;generalize h3.set r5 (.cells (dV PG dR) dR)=h5 at *;intro r7 hr7
 try rw[cW]
 have n57:r5≠r7:=B5.apart hr7;have u7:dD h5 (h5.set r7 (.cells (dV PG dR) dR)):=cQ.new hr7;have B7:Bx (h5.set r7 (.cells (dV PG dR) dR)) r7 [.pointer none,.pointer none]:=dR.zbox;have B5:=B5.ext u7;generalize h5.set r7 (.cells (dV PG dR) dR)=h7 at *;have e17:=((u3.trans u5).trans u7);have e7:dD h h7:=u1.trans e17;have k5:h r5=none:=(u1.trans u3).none hr5;have k7:h r7=none:=((u1.trans u3).trans u5).none hr7;have C1:=B1.ext e17;have C3:=B3.ext (u5.trans u7);have la:∀{h'':PH},dD h7 h''->cG PG h'' (loadAt eW (pT r1 0))=some (vZ a b):=λv=>eW.agg (C1.ext v) (by show 0+2≤2;decide);have ls:∀{h'':PH},dD h7 h''->cG PG h'' (loadAt eW (pT r3 0))=some (vZ s0 s1):=λv=>eW.agg (C3.ext v) (by show 0+2≤2;decide);simp only[la cQ.refl,ls cQ.refl,cE,reduceIte,cZ,Nat.reduceAdd];refine aX5 λh8 bk mk Kk HBk fBk u8=>?_;refine⟨ls u8,la u8,?_⟩;have HBk:Bk bk mk [] Kk h8:=⟨false,[],HBk,λx hx=>hx⟩;refine aWo HBk ha hb λh9 m d0 d1 FD HD fD u9=>?_;have e79:=u8.trans u9;have e9:=e7.trans e79;have fD9:eK h FD:=λy hy=>by
  rcases fD y hy with hy|hy
  ·exact e7.none (fBk y hy)
  ·exact(e7.trans u8).none hy
 -- what stands behind i chains
 refine⟨λvs h'=>∃i:Nat,vs=[v,pT r1 0,pT r3 0,pT r5 0,pT r7 0,pT m 0,.int .i64 (i:Int)]∧cQ [r7] h9 h'∧((i=0∧Bx h' r7 [.pointer none,.pointer none])∨(i=1∧∃c0 F0,Bx h' r7 [pT c0 0,.pointer none]∧jB c0 (Ch.new 0 a s0) h' F0∧eK h9 F0)∨(i=2∧∃c0 c1 F,Bx h' r7 (arC c0 c1)∧aJZ c0 c1 (Ch.new 0 a s0,Ch.new 1 b s1) h' F∧eK h9 F)),gQ 2 6,⟨0,rfl,cQ.refl,.inl ⟨rfl,B7.ext e79⟩⟩,?_⟩;rintro ρ h' ⟨i,hvs,u',hc⟩;simp only[iH,jA,lN,and_true] at hvs;obtain⟨v0,v1,v2,v3,v4,v5,v6⟩:=hvs;unfold aGs;rw[v0,v1,v2,v3,v4,v5,v6];have E':dD h h':=e9.fresh u' (eK.one k7);have k79:h9 r7≠none:=(B7.ext e79).known;have n71:r7≠r1:=λe=>B1.known (e▸(u3.trans u5).none hr7);have n73:r7≠r3:=λe=>B3.known (e▸u5.none hr7);have D1:=(C1.ext e79).upd u' (by simp only[gB];exact n71.symm);have D3:=(C3.ext e79).upd u' (by simp only[gB];exact n73.symm);have D5:=(B5.ext e79).upd u' (by simp only[gB];exact n57);have i0:∀{r:Nat},dH PG (indexAt eW (pT r 0) (.int .i64 0))=some (pT r 0):=aPZ (i:=0) (by decide);have i1:∀{r:Nat},dH PG (indexAt eW (pT r 0) (.int .i64 1))=some (pT r 1):=fun {r}=>by have:=aPZ (r:=r) (o:=0) (i:=1) (by decide);rw[fQ] at this;exact this
 have j0:∀{r:Nat},dH PG (indexAt dR (pT r 0) (.int .i64 0))=some (pT r 0):=aLk (i:=0) (by decide);have j1:∀{r:Nat},dH PG (indexAt dR (pT r 0) (.int .i64 1))=some (pT r 1):=fun {r}=>by have:=aLk (r:=r) (o:=0) (i:=1) (by decide);rw[fQ] at this;exact this
 have l10:cG PG h' (loadAt cA (pT r1 0))=some (.int .u64 (a:Int)):=by rw[cA.load,D1.cell];rfl
 have l11:cG PG h' (loadAt cA (pT r1 1))=some (.int .u64 (b:Int)):=by rw[cA.load,D1.cell];rfl
 have l30:cG PG h' (loadAt cA (pT r3 0))=some (.int .u64 (s0:Int)):=by rw[cA.load,D3.cell];rfl
 have l31:cG PG h' (loadAt cA (pT r3 1))=some (.int .u64 (s1:Int)):=by rw[cA.load,D3.cell];rfl
 have nilN:∀{h'':PH} {x y:Operand} {c:Nat},cG PG h'' (jT .eql dF x y (pT c 0) (.pointer none))=some (.bool false):=aDA dF.und;have K':oP h':=hK.ext E';have nF:∀{F:List Nat},eK h9 F->r7∉F:=λf hm=>k79 (f _ hm);have back:∀{F:List Nat},eK h' F->eK h9 F:=λf y hy=>by
  cases e:h9 y with
  | none=>rfl
  | some ob=>
   by_cases hy7:y=r7
   ·exact absurd (f y hy) (by rw[hy7];rcases hc with⟨-,B⟩|⟨-,_,_,B,-⟩|⟨-,_,_,_,B,-⟩<;>exact B.known)
   ·have:=u' y ob e (by simpa using hy7);rw[f y hy] at this;cases this
 rcases hc with⟨rfl,B⟩|⟨rfl,c0,F0,B,A0,f0⟩|⟨rfl,c0,c1,F,B,T,f⟩
 ·have g:(((0:Nat):Int)<2)=True:=eq_true (by decide);simp only[g,show((0:Nat):Int)=0 from rfl,i0,l10,l30,cE,reduceIte,cZ,Nat.reduceAdd];refine aQE K' 0 ha hs0 (λhb=>absurd hb (by omega)) λ_ h10 c F A f u10=>?_;have f:=back f;simp only[j0,cE,reduceIte,cZ,Nat.reduceAdd];refine dF.put (B.ext u10) (o:=0) (by show 0<2;decide) rfl λh11 B11 u11=>?_;have ei:IntKind.i64.wrap ((0:Int)+1)=((1:Nat):Int):=rfl;simp only[ei,cE,reduceIte,cZ,Nat.reduceAdd];exact⟨⟨1,rfl,(u'.trans u10.upd).trans u11,.inr (.inl ⟨rfl,c,F,B11,(jB.good _ _).upd A u11 (λb hb=>by simp only[gB];rintro rfl;exact nF f hb),f⟩)⟩,by simp[gQ,v6]⟩
 ·have g:(((1:Nat):Int)<2)=True:=eq_true (by decide);simp only[g,show((1:Nat):Int)=1 from rfl,i1,l11,l31,cE,reduceIte,cZ,Nat.reduceAdd];refine aQE K' 1 hb hs1 (λhb=>absurd hb (by omega)) λ_ h10 c F A f u10=>?_;have d0:∀b∈F0,b∉F:=λb hb hm=>(jB.good _ _).known A0 b hb (f b hm);have f:=back f;simp only[j1,cE,reduceIte,cZ,Nat.reduceAdd];refine dF.put (B.ext u10) (o:=1) (by show 1<2;decide) rfl λh11 B11 u11=>?_;have ei:IntKind.i64.wrap ((1:Int)+1)=((2:Nat):Int):=rfl;simp only[ei,cE,reduceIte,cZ,Nat.reduceAdd];have A08:=(jB.good _ _).upd ((jB.good _ _).ext A0 u10) u11 (λb hb=>by simp only[gB];rintro rfl;exact nF f0 hb);have A8:=(jB.good _ _).upd A u11 (λb hb=>by simp only[gB];rintro rfl;exact nF f hb);exact⟨⟨2,rfl,(u'.trans u10.upd).trans u11,.inr (.inr ⟨rfl,c0,c,F0++F,B11,eP.mk A08 A8 d0,λy hy=>by
   rcases kB.1 hy with hy|hy
   ·exact f0 y hy
   ·exact f y hy⟩)⟩,by simp[gQ,v6]⟩
 ·have g:(((2:Nat):Int)<2)=False:=eq_false (by decide);simp only[g,cE,reduceIte,cZ,Nat.reduceAdd];have gD:mK (DTw m d0 d1 bk mk [] Kk (Ch.new 0 a s0) (Ch.new 1 b s1) 1):=DTw.good _ _ _ _ _ _ _ _ _ _;have f7:∀y∈FD,y≠r7:=λy hy e=>by
   rcases fD y hy with hy|hy
   ·exact B7.known (e▸fBk y hy)
   ·exact(B7.ext u8).known (e▸hy)
  have HD':=gD.upd HD u' (λy hy hm=>by simp only[gB] at hm;exact f7 y hy hm);have W0:aJv c0 c1 m d0 d1 bk mk Kk (Ch.new 0 a s0,Ch.new 1 b s1) [] 1 h' (F++FD):=eP.mk T HD' (λy hy hm=>gD.known HD y hm (f y hy));have N0:Now h h' (F++FD):=⟨E',λy hy=>by
   rcases kB.1 hy with hy|hy
   ·exact e9.none (f y hy)
   ·exact fD9 y hy⟩
  have n7:r7∉F++FD:=λhm=>by
   rcases kB.1 hm with hm|hm
   ·exact nF f hm
   ·exact f7 _ hm rfl
  have n5:r5∉F++FD:=λhm=>by
   rcases kB.1 hm with hm|hm
   ·exact(B5.ext e79).known (f _ hm)
   ·rcases fD _ hm with hy|hy
    ·exact B5.known (fBk _ hy)
    ·exact(B5.ext u8).known hy
  refine⟨λvs h2=>∃(j:Nat) (A:List Tx) (n:Nat) (F':List Nat),j≤l.length∧vs=[v,pT r5 0,pT r7 0,pT m 0,.int .i64 (j:Int)]∧n≤j+1∧Now h h2 F'∧aJv c0 c1 m d0 d1 bk mk Kk (aHE (Ch.new 0 a s0,Ch.new 1 b s1) (l.take j)) A n h2 F'∧aG3 (aHE (Ch.new 0 a s0,Ch.new 1 b s1) (l.take j)) j∧Bx h2 r7 (arC c0 c1)∧r7∉F'∧Bx h2 r5 [.pointer none,.pointer none]∧r5∉F',gQ l.length 4,⟨0,[],1,F++FD,by omega,rfl,by omega,N0,W0,aG3.new hs0 hs1,B,n7,D5,n5⟩,?_⟩;rintro ρ2 h2 ⟨j,A,n,F',hj,hvs2,hn,N,W,M,X7,m7,X5,m5⟩;simp only[iH,jA,lN,and_true] at hvs2;obtain⟨w0,w1,w2,w3,w4⟩:=hvs2;rw[w0,w1,w2,w3,w4];by_cases hlt:j<l.length
  ·have hx:l[j]? =some l[j]:=lJ hlt;have hm:=tA hx;refine aX6 hK N W M hn X7 m7 S hl hx (w _ hm) (hd _ hm) λh3 F3 A3 W3 s3=>?_;obtain⟨Y7,m7'⟩:=aCm X7 m7 s3;obtain⟨Y5,m5'⟩:=aCm X5 m5 s3;have er:aHE (Ch.new 0 a s0,Ch.new 1 b s1) (l.take (j+1))=aER (aHE (Ch.new 0 a s0,Ch.new 1 b s1) (l.take j)) l[j]:=by
    rw[zLU,hx];exact aU2 _ _ _
   exact⟨⟨j+1,A3,n+1,F3,by omega,rfl,by omega,N.step s3,by rw[er];exact W3,by rw[er];exact M.act (w _ hm),Y7,m7',Y5,m5'⟩,by simp[gQ,w4];omega⟩
  ·unfold zU aCx aGt aGx;have g2:((j:Int)<(l.length:Int))=False:=eq_false (by omega);have lc:cG PG h2 (loadAt dR (pT r7 0))=some (arV c0 c1):=dR.agg X7 (by show 0+2≤2;decide);simp only[aPJ S,g2,lc,cE,reduceIte,cZ,Nat.reduceAdd];refine dR.put (vs:=arC c0 c1) X5 (o:=0) rfl (by show 0+2≤2;decide) (aPI c0 c1) λh3 X3 u3=>?_;have l3:cG PG h3 (loadAt dR (pT r5 0))=some (arV c0 c1):=dR.agg X3 (by show 0+2≤2;decide);simp only[l3,cE,reduceIte,cZ,Nat.reduceAdd];have ej:l.take j=l:=lY (by omega);have ejl:j=l.length:=by omega
   rw[ej] at W M;rw[ejl] at M;refine hk h3 c0 c1 m d0 d1 bk mk Kk A n F' ((aJv.good _ _ _ _ _ _ _ _ _ _ _).upd W u3 (λy hy hm=>by simp only[gB] at hm;exact m5 (hm▸hy))) N.fr (N.ext.fresh u3 (eK.one k5)) M
structure yO(h:PH)(a:Nat)(L:List It)(room:Int)(F:List Nat):Prop where
 here:∃m l,h a=some (.cells #[.map (some m),.int .i64 room] gP (0,0))∧MAt h m l∧l.Perm L∧F=[a,m]∧a≠m
 srt:qF L
def yO.upd{h h':PH}{a:Nat}{L:List It}{room:Int}{F G:List Nat}(H:yO h a L room F)(u:cQ G h h')(hd:∀b∈F,b∉G):yO h' a L room F:=by
 obtain⟨m,l,ha,hm,hp,rfl,hn⟩:=H.here;exact⟨⟨m,l,u.get ha (hd a (by simp)),jR.upd hm u (hd m (by simp)),hp,rfl,hn⟩,H.srt⟩
def yO.ext{h h':PH}{a:Nat}{L:List It}{room:Int}{F:List Nat}(H:yO h a L room F)(u:dD h h'):yO h' a L room F:=H.upd u (by simp)
def yO.known{h:PH}{a:Nat}{L:List It}{room:Int}{F:List Nat}(H:yO h a L room F):∀b∈F,h b≠none:=by
 obtain⟨m,l,ha,hm,hp,rfl,hn⟩:=H.here;intro b hb;simp only[gU,lH,or_false] at hb;rcases hb with rfl|rfl
 ·rw[ha];simp
 ·exact jR.known hm
def aYT(l:List It)(k:Ky):aBH (l.map It.pr) k=(jO l k).map It.val:=by
 unfold aBH jO;rw[List.find?_map,Option.map_map];rfl
def aPW{h:PH}{m:Nat}{l:List It}(hm:MAt h m l)(k:Ky):cG PG h (Instr.lookup dS (.map (some m)) (wF k) true)=some (.tuple #[((jO l k).getD default).val,.bool (jO l k).isSome]):=by
 rw[aHV aQ7 dS.und dE.info dE.zero hm k true,aYT];cases jO l k<;>rfl
def aZI(l:List It)(k:Ky):aMW (l.map It.pr) k=(aAE l k).map It.pr:=by
 unfold aMW aAE;rw[List.filter_map];rfl
def aWw{l L:List It}(hp:l.Perm L)(hs:qF L)(i:It):∃l':List It,aDv (l.map It.pr) i.key i.val=l'.map It.pr∧l'.Perm (aB5 L i):=by
 have hnl:(l.map It.key).Nodup:=(hp.map It.key).nodup_iff.2 hs.nodup;have hk:uU (l.map It.pr)=l.map It.key:=by unfold uU;rw[zL4];rfl
 have hdel:(aAE l i.key).Perm (aAE L i.key):=hp.filter _;unfold aDv;rw[hk];split
 ·rename_i hm;refine⟨l.map λj=>if j.key=i.key then i else j,?_,?_⟩
  ·rw[zL4,zL4];apply zL5;intro x _;show(if x.key=i.key then(i.key,i.val) else(x.key,x.val))=It.pr (if x.key=i.key then i else x);by_cases hc:x.key=i.key
   ·rw[if_pos hc,if_pos hc];rfl
   ·rw[if_neg hc,if_neg hc];rfl
  ·obtain⟨x,hx,e⟩:=mJ.1 hm;exact((aND hnl ⟨x,hx,e⟩).trans (hdel.cons i)).trans (aOH L i).symm
 ·rename_i hm;refine⟨l++[i],by rw[pO];rfl,?_⟩;have hno:jO l i.key=none:=aGr.2 λx hx e=>hm (by rw[←e];exact zL8 hx);rw[aN0 hno] at hdel;exact(List.perm_append_singleton i l).trans ((hdel.cons i).trans (aOH L i).symm)
def aVg(k:Ky):dH PG (build gZ #[(0,.int .i64 k.1),(1,.int .u64 k.2)])=some (wF k):=by kernel_rfl
def aJX(p:Pk)(g:Int):dH PG (build dE #[(0,.agg p.cells.toArray),(1,.int .i64 g)])=some (It.val ⟨p,g⟩):=by kernel_rfl
def aUM{h:PH}(room:Int){k:cD}(hbad:(room<1∨40<room)->k (.tuple #[.pointer none,.int .i64 1]) h)
  (hk:1≤room->room≤40->∀a h' F,yO h' a [] room F->eK h F->dD h h'->k (.tuple #[pT a 0,.int .i64 0]) h'):aT PG aHY #[.int .i64 room] h k:=by
 apply aKf.call;unfold aKf;by_cases d1:room<1
 ·simp only[d1,cE,reduceIte];exact hbad (.inl d1)
 ·by_cases d2:40<room
  ·simp only[d1,d2,cE,reduceIte];exact hbad (.inr d2)
  ·simp only[d1,d2,aFX,cE,reduceIte];intro m hm;refine fP ?_
   try rw[cW]
   have hb:dH PG (build gP #[(0,.map (some m)),(1,.int .i64 room)])=some (.agg #[.map (some m),.int .i64 room]):=by kernel_rfl
   rw[hb,aDC];intro a ha
   try rw[cW]
   have ham:a≠m:=by rintro rfl;rw[dL] at ha;cases ha
   have u1:dD h (h.set m (.map #[] 0)):=cQ.new hm;have hma:(h.set m (.map #[] 0)) a=none:=ha;refine hk (by omega) (by omega) a _ [a,m] ⟨⟨m,[],dL,?_,List.Perm.refl _,rfl,ham⟩,List.Pairwise.nil⟩ (λb hb=>?_) (u1.trans (cQ.new ha))
   ·exact jR.ext jR.new (cQ.new ha)
   ·simp only[gU,lH,or_false] at hb;rcases hb with rfl|rfl
    ·exact u1.none hma
    ·exact hm
def aPv{h:PH}{a:Nat}{L:List It}{room:Int}{F:List Nat}(H:yO h a L room F)(i:It){k:cD}
  (hk:∀h',yO h' a (vG L room i) room F->cQ F h h'->k (.int .i64 (aBI L room i)) h'):aT PG aBs #[pT a 0,wF i.key,i.val] h k:=by
 apply zF.call;unfold zF;intro r1 hr1;rw[cW];intro r3 hr3;rw[cW];have u1:dD h (h.set r1 (.cells (Value.cells (wF i.key)) gZ)):=cQ.new hr1;have b1:Bx (h.set r1 (.cells (Value.cells (wF i.key)) gZ)) r1 [.int .i64 i.key.1,.int .u64 i.key.2]:=Bx.new;generalize h.set r1 (.cells (Value.cells (wF i.key)) gZ)=h1 at *;have u2:dD h1 (h1.set r3 (.cells (Value.cells i.val) dE)):=cQ.new hr3;have b3:Bx (h1.set r3 (.cells (Value.cells i.val) dE)) r3 i.cells:=Bx.new;generalize h1.set r3 (.cells (Value.cells i.val) dE)=h2 at *;have b1:=b1.ext u2;have u:=u1.trans u2;have H2:=H.ext u;have hs:=H.srt;obtain⟨m,l,ha,hm,hp,rfl,ham⟩:=H2.here;have hgl:=λk=>aMt hp hs.nodup k;have c0:dB h2 ⟨a,0,none⟩=some (.map (some m)):=by simp[dB,ha]
 simp only[gP.f0,dS.load,c0,b1.id,aPW hm,hgl,cE,reduceIte];intro r12 hr12
 try rw[cW]
 refine aM0 hr12 _ λh5 b5 u5=>?_;have ha5:=u5.get ha;have hm5:=jR.ext hm u5;have b1:=b1.ext u5;have b3:=b3.ext u5;have c0:dB h5 ⟨a,0,none⟩=some (.map (some m)):=by simp[dB,ha5]
 have c1:dB h5 ⟨a,0+1,none⟩=some (.int .i64 room):=by simp[dB,ha5]
 have lm:=jR.len hm5 (t':=bR) dS.und;rw[iV,hp.length_eq] at lm;have uu:=u.trans u5;have fin:¬(jO L i.key=none∧room≤L.length)->dC PG (aFV dS (.map (some m)) (wF i.key) i.val) h5 λv61 h62=>k (.int .i64 0) h62:=λhc=>by
  refine aKy aQ7 dS.und hm5 i.key i.val λh6 hm6 u6=>?_;obtain⟨l',e1,e2⟩:=aWw hp hs i;rw[e1] at hm6;have:aBI L room i=0:=by unfold aBI;rw[if_neg hc]
  rw[←this];have:vG L room i=aB5 L i:=by unfold vG;rw[if_neg hc]
  refine hk h6 ⟨⟨m,l',u6.get ha5 (by simpa using ham),hm6,by rw[this];exact e2,rfl,ham⟩,by rw[this];exact hs.ins i⟩ ?_;exact cQ.then (dD.upd uu) u6 (λb hb=>by left;simp at hb;simp[hb])
 by_cases hx:(jO L i.key).isSome=true
 ·have hc:¬(jO L i.key=none∧room≤L.length):=λhc=>by rw[hc.1] at hx;cases hx
  have hf:=fin hc;simp only[hx,gP.f0,gP.f1,dS.load,c0,b1.id,b3.it,cE,reduceIte];exact hf
 ·have hx':(jO L i.key).isSome=false:=by simpa using hx
  have hnone:jO L i.key=none:=by simpa using hx'
  by_cases hr:room≤L.length
  ·have e1:(room≤(L.length:Int))=True:=by apply eq_true;exact hr
   simp only[hx',gP.f0,gP.f1,dS.load,bR.load,c0,c1,lm,e1,b1.id,b3.it,cE,reduceIte];have h1:aBI L room i=2:=by unfold aBI;rw[if_pos ⟨hnone,hr⟩]
   have h2:vG L room i=L:=by unfold vG;rw[if_pos ⟨hnone,hr⟩]
   rw[←h1];refine hk h5 ?_ (dD.upd uu);rw[h2];exact H.ext uu
  ·have e1:(room≤(L.length:Int))=False:=by apply eq_false;exact hr
   have hf:=fin (λhc=>hr hc.2);simp only[hx',gP.f0,gP.f1,dS.load,bR.load,c0,c1,lm,e1,b1.id,b3.it,cE,reduceIte];exact hf
def aYU{h:PH}{a:Nat}{L:List It}{room:Int}{F:List Nat}(H:yO h a L room F)(p:Pk){k:cD}
  (hk:∀h',yO h' a (if (jO L p.key).isSome then L else vG L room ⟨p,1⟩) room F->cQ F h h'->k (.int .i64 (if (jO L p.key).isSome then 0 else aBI L room ⟨p,1⟩)) h'):
  aT PG lL #[pT a 0,wF p.key,.agg p.cells.toArray] h k:=by
 apply xI.call;unfold xI;intro r1 hr1;rw[cW];intro r3 hr3;rw[cW];have u1:dD h (h.set r1 (.cells (Value.cells (wF p.key)) gZ)):=cQ.new hr1;have b1:Bx (h.set r1 (.cells (Value.cells (wF p.key)) gZ)) r1 [.int .i64 p.key.1,.int .u64 p.key.2]:=Bx.new;generalize h.set r1 (.cells (Value.cells (wF p.key)) gZ)=h1 at *;have u2:dD h1 (h1.set r3 (.cells (Value.cells (.agg p.cells.toArray)) aR)):=cQ.new hr3;have b3:Bx (h1.set r3 (.cells (Value.cells (.agg p.cells.toArray)) aR)) r3 p.cells:=Bx.new;generalize h1.set r3 (.cells (Value.cells (.agg p.cells.toArray)) aR)=h2 at *;have b1:=b1.ext u2;have u:=u1.trans u2;have H2:=H.ext u;have hs:=H.srt;obtain⟨m,l,ha,hm,hp,hF,ham⟩:=H2.here;have hgl:=λk=>aMt hp hs.nodup k;have c0:dB h2 ⟨a,0,none⟩=some (.map (some m)):=by simp[dB,ha]
 simp only[gP.f0,dS.load,c0,b1.id,aPW hm,hgl,cE,reduceIte];intro r12 hr12
 try rw[cW]
 refine aM0 hr12 _ λh5 b5 u5=>?_;have b1:=b1.ext u5;have p3:=(b3.ext u5).pk (o:=0) (p:=p) rfl;have uu:=u.trans u5;by_cases hx:(jO L p.key).isSome=true
 ·simp only[hx,cE,reduceIte] at hk ⊢;exact hk h5 (H.ext uu) (dD.upd uu)
 ·have hx':(jO L p.key).isSome=false:=by simpa using hx
  simp only[hx',b1.id,p3,aJX,cE,reduceIte] at hk ⊢;refine aPv (H.ext uu) ⟨p,1⟩ λh6 H6 u6=>hk h6 H6 (cQ.then (dD.upd uu) u6 λb hb=>.inl hb)
def aSK{h:PH}{a:Nat}{L:List It}{room:Int}{F:List Nat}(H:yO h a L room F)(p:Pk){k:cD}
  (hk:∀h',yO h' a (match jO L p.key with
   | some x=>aB5 L ⟨x.p,2⟩
   | none=>vG L room ⟨p,2⟩) room F->cQ F h h'->k (.int .i64 (if (jO L p.key).isSome then 0 else aBI L room ⟨p,2⟩)) h'):
  aT PG kG #[pT a 0,wF p.key,.agg p.cells.toArray] h k:=by
 apply rL.call;unfold rL;intro r1 hr1;rw[cW];intro r3 hr3;rw[cW];have u1:dD h (h.set r1 (.cells (Value.cells (wF p.key)) gZ)):=cQ.new hr1;have b1:Bx (h.set r1 (.cells (Value.cells (wF p.key)) gZ)) r1 [.int .i64 p.key.1,.int .u64 p.key.2]:=Bx.new;generalize h.set r1 (.cells (Value.cells (wF p.key)) gZ)=h1 at *;have u2:dD h1 (h1.set r3 (.cells (Value.cells (.agg p.cells.toArray)) aR)):=cQ.new hr3;have b3:(h1.set r3 (.cells (Value.cells (.agg p.cells.toArray)) aR)) r3=some (.cells p.cells.toArray aR (0,0)):=dL;have n3:h r3=none:=u1.none hr3;have n13:r1≠r3:=by rintro rfl;exact b1.known hr3
 generalize h1.set r3 (.cells (Value.cells (.agg p.cells.toArray)) aR)=h2 at *;have b1:=b1.ext u2;have u:=u1.trans u2;have H2:=H.ext u;have hs:=H.srt;obtain⟨m,l,ha,hm,hp,hF,ham⟩:=H2.here;have hgl:=λk=>aMt hp hs.nodup k;have c0:dB h2 ⟨a,0,none⟩=some (.map (some m)):=by simp[dB,ha]
 simp only[gP.f0,dS.load,c0,b1.id,aPW hm,hgl,cE,reduceIte];intro r12 hr12
 try rw[cW]
 refine aM0 hr12 _ λh5 b5 u5=>?_;have b1:=b1.ext u5;have b3:=u5.get b3;have uu:=u.trans u5;cases hx:jO L p.key with
 | none=>
  have p3:=(Bx.mk ⟨_,b3⟩:Bx h5 r3 p.cells).pk (o:=0) (p:=p) rfl;simp only[hx,zLv,cE,reduceIte] at hk ⊢;unfold vC;simp only[b1.id,p3,aJX,cE,reduceIte];refine aPv (H.ext uu) ⟨p,2⟩ λh6 H6 u6=>hk h6 H6 (cQ.then (dD.upd uu) u6 λb hb=>.inl hb)
 | some x=>
  obtain⟨hx1,hx2⟩:=aGi hx;have p5:=b5.pk (o:=0) (p:=x.p) (by rw[hx];rfl);simp only[hx,aKs,dE.f0,p5,cE,reduceIte] at hk ⊢;refine rW b3 aR.info (by show 4=4;rfl) (by show 0<4;decide) (by rfl) x.p.allCell ?_;have u6:cQ [r3] h5 (h5.set r3 (.cells x.p.cells.toArray aR (0,0))):=cQ.set (by simp);have b6:Bx (h5.set r3 (.cells x.p.cells.toArray aR (0,0))) r3 x.p.cells:=⟨_,dL⟩;generalize h5.set r3 (.cells x.p.cells.toArray aR (0,0))=h6 at *;have uu6:=uu.fresh u6 (eK.one n3);have b1:=b1.upd u6 (by simpa using n13);have p6:=b6.pk (o:=0) (p:=x.p) rfl;unfold vC;simp only[b1.id,p6,aJX,cE,reduceIte];have hkey:wF p.key=wF (⟨x.p,2⟩:It).key:=by rw[←hx2];rfl
  rw[hkey];have hsome:jO L (⟨x.p,2⟩:It).key=some x:=by show jO L x.key=some x;rw[hx2];exact hx
  have e1:aBI L room ⟨x.p,2⟩=0:=by unfold aBI;rw[hsome];simp
  have e2:vG L room ⟨x.p,2⟩=aB5 L ⟨x.p,2⟩:=by unfold vG;rw[hsome];simp
  refine aPv (H.ext uu6) ⟨x.p,2⟩ λh7 H7 u7=>?_;rw[e2] at H7;rw[e1];exact hk h7 H7 (cQ.then (dD.upd uu6) u7 λb hb=>.inl hb)
def aYD{h:PH}{a:Nat}{L:List It}{room:Int}{F:List Nat}(H:yO h a L room F)(p:Pk){k:cD}
  (hk:∀h',yO h' a (aAE L p.key) room F->cQ F h h'->k (.int .i64 0) h'):
  aT PG iW #[pT a 0,wF p.key,.agg p.cells.toArray] h k:=by
 apply xH.call;unfold xH;intro r1 hr1;rw[cW];intro r3 hr3;rw[cW];have u1:dD h (h.set r1 (.cells (Value.cells (wF p.key)) gZ)):=cQ.new hr1;have b1:Bx (h.set r1 (.cells (Value.cells (wF p.key)) gZ)) r1 [.int .i64 p.key.1,.int .u64 p.key.2]:=Bx.new;generalize h.set r1 (.cells (Value.cells (wF p.key)) gZ)=h1 at *;have u2:dD h1 (h1.set r3 (.cells (Value.cells (.agg p.cells.toArray)) aR)):=cQ.new hr3;generalize h1.set r3 (.cells (Value.cells (.agg p.cells.toArray)) aR)=h2 at *;have b1:=b1.ext u2;have u:=u1.trans u2;have H2:=H.ext u;have hs:=H.srt;obtain⟨m,l,ha,hm,hp,rfl,ham⟩:=H2.here;have c0:dB h2 ⟨a,0,none⟩=some (.map (some m)):=by simp[dB,ha]
 simp only[gP.f0,dS.load,c0,b1.id,cE,reduceIte];refine aPr aQ7 dS.und hm p.key rfl λh3 hm3 u3=>?_;rw[aZI] at hm3;refine hk h3 ⟨⟨m,aAE l p.key,u3.get ha (by simpa using ham),hm3,hp.filter _,rfl,ham⟩,hs.del _⟩ ?_;exact cQ.then (dD.upd u) u3 (λb hb=>by left;simp at hb;simp[hb])
def aZP{h:PH}{a:Nat}{L:List It}{room:Int}{F:List Nat}(H:yO h a L room F){k:cD}(hk:k (.int .i64 L.length) h):aT PG aE8 #[pT a 0] h k:=by
 apply aEp.call;unfold aEp;obtain⟨m,l,ha,hm,hp,rfl,ham⟩:=H.here;have c0:dB h ⟨a,0,none⟩=some (.map (some m)):=by simp[dB,ha]
 have lm:=jR.len hm (t':=bR) dS.und;rw[iV,hp.length_eq] at lm;simp only[gP.f0,dS.load,c0,lm,cE,reduceIte];exact hk
def aWk:dH PG (build eI #[(1,(Value.func (Fn.func lL) #[] #[])),(2,(Value.func (Fn.func kG) #[] #[])),(3,(Value.func (Fn.func iW) #[] #[])),(4,(Value.func (Fn.func iW) #[] #[]))])=
  some (.agg #[.nilFunc,.func (.func lL) #[] #[],.func (.func kG) #[] #[],.func (.func iW) #[] #[],.func (.func iW) #[] #[]]):=by kernel_rfl
def aTZ{f:FuncId}{args:Array Value}{h:PH}{k:cD}(hc:aT PG f args h k):rV PG (.func (.func f) #[] #[]) args h k:=by
 unfold rV;simpa using hc
def aRv(p:Pk):dH PG (build gZ #[(0,.int .i64 p.f),(1,.int .u64 p.s)])=some (wF p.key):=aVg p.key
def aRS{h:PH}{a:Nat}{L:List It}{room:Int}{F:List Nat}(H:yO h a L room F)(n:Nt){k:cD}
  (hk:∀h',yO h' a (oG L room n) room F->cQ F h h'->k (.int .i64 (qI L room n)) h'):aT PG vN #[pT a 0,.agg n.cells.toArray] h k:=by
 apply vY.call;unfold vY;intro r1 hr1;rw[cW];have u1:dD h (h.set r1 (.cells (Value.cells (.agg n.cells.toArray)) dA)):=cQ.new hr1;have b1:Bx (h.set r1 (.cells (Value.cells (.agg n.cells.toArray)) dA)) r1 n.cells:=Bx.new;generalize h.set r1 (.cells (Value.cells (.agg n.cells.toArray)) dA)=h1 at *;simp only[b1.nt,cE,reduceIte];refine aT8 n λh2 u2=>?_;have uu:=u1.trans u2;have b2:=b1.ext u2;cases hr:n.right with
 | false=>
  have e1:qI L room n=1:=by unfold qI;rw[if_pos hr]
  have e2:oG L room n=L:=by unfold oG;rw[if_pos hr]
  rw[e1,e2] at hk;simp only[zLu,if_false,cE,reduceIte];exact hk h2 (H.ext uu) (dD.upd uu)
 | true=>
  simp only[if_true,aWk,cE,reduceIte];intro r8 hr8
  try rw[cW]
  refine rW dL eI.info (by show 5=5;rfl) (by show 0<5;decide) (by rw[eI.zc];rfl) (by simp[fW]) ?_;rw[uX];have u3:dD h2 (h2.set r8 (.cells #[.nilFunc,.func (.func lL) #[] #[],.func (.func kG) #[] #[],.func (.func iW) #[] #[],.func (.func iW) #[] #[]] eI (0,0))):=cQ.new hr8;have b8:Bx (h2.set r8 (.cells #[.nilFunc,.func (.func lL) #[] #[],.func (.func kG) #[] #[],.func (.func iW) #[] #[],.func (.func iW) #[] #[]] eI (0,0))) r8
   [.nilFunc,.func (.func lL) #[] #[],.func (.func kG) #[] #[],.func (.func iW) #[] #[],.func (.func iW) #[] #[]]:=⟨_,dL⟩
  generalize h2.set r8 (.cells #[.nilFunc,.func (.func lL) #[] #[],.func (.func kG) #[] #[],.func (.func iW) #[] #[],.func (.func iW) #[] #[]] eI (0,0))=h3 at *;have b3:=b2.ext u3;have uu3:=uu.trans u3;have H3:=H.ext uu3;have c0:dB h3 ⟨r1,0,none⟩=some (.int .i64 n.k):=b3.cell 0;have c1:dB h3 ⟨r1,0+1,none⟩=some (.int .i64 n.p.f):=b3.cell 1;have c2:dB h3 ⟨r1,0+1+1,none⟩=some (.int .u64 n.p.s):=b3.cell 2;have p1:=b3.pk (o:=0+1) (p:=n.p) rfl;have hkr:1≤n.k∧n.k≤4:=by
   unfold Nt.right at hr;simp only[yH,decide_eq_true_eq] at hr;exact hr.1
  have ix:dH PG (indexAt eI (pT r8 0) (.int .i64 n.k))=some (pT r8 (0+n.k.toNat*1)):=
   aBR eI.und fT.info fT.size (by omega) (by omega)
  have hf:∀(id:FuncId),[.nilFunc,.func (.func lL) #[] #[],.func (.func kG) #[] #[],.func (.func iW) #[] #[],.func (.func iW) #[] #[]][0+n.k.toNat*1]? =some (Value.func (.func id) #[] #[])->
    aT PG id #[pT a 0,wF n.p.key,.agg n.p.cells.toArray] h3 k->
    dY (dH PG (fieldAt dA (pT r1 0) 0)) λv12=>
 dY (cG PG h3 (loadAt bR v12)) λv13=>
 dY (dH PG (indexAt eI (pT r8 0) v13)) λv14=>
 dY (cG PG h3 (loadAt fT v14)) λv15=>
 dY (dH PG (fieldAt dA (pT r1 0) 1)) λv16=>
 dY (dH PG (fieldAt aR v16 0)) λv17=>
 dY (cG PG h3 (loadAt bR v17)) λv18=>
 dY (dH PG (fieldAt dA (pT r1 0) 1)) λv19=>
 dY (dH PG (fieldAt aR v19 1)) λv20=>
 dY (cG PG h3 (loadAt cA v20)) λv21=>
 dY (dH PG (build gZ #[(0,v18),(1,v21)])) λv22=>
 dY (dH PG (fieldAt dA (pT r1 0) 1)) λv23=>
 dY (cG PG h3 (loadAt aR v23)) λv24=>
 rV PG v15 #[pT a 0,v22,v24] h3 λv25 h26=>(k v25 h26):=λid hid hc=>by
   have c3:dB h3 ⟨r8,0+n.k.toNat*1,none⟩=some (.func (.func id) #[] #[]):=(b8.cell _).trans hid;simp only[dA.f0,dA.f1,aR.f0,aR.f1,bR.load,cA.load,fT.load,c0,c1,c2,c3,ix,aRv,p1,cE,reduceIte];exact aTZ hc
  have hx:n.k=1∨n.k=2∨n.k=3∨n.k=4:=by omega
  have hrt:¬n.right=false:=by rw[hr];simp
  rcases hx with hA|hA|hA|hA
  ·refine hf lL (by rw[hA];rfl) (aYU H3 n.p λh4 H4 u4=>?_);have e1:qI L room n=(if (jO L n.p.key).isSome then 0 else aBI L room ⟨n.p,1⟩):=by unfold qI;rw[if_neg hrt,if_pos hA]
   have e2:oG L room n=(if (jO L n.p.key).isSome then L else vG L room ⟨n.p,1⟩):=by unfold oG;rw[if_neg hrt,if_pos hA]
   rw[←e1];exact hk h4 (by rw[e2];exact H4) (cQ.then (dD.upd uu3) u4 λb hb=>.inl hb)
  ·have n1:¬n.k=1:=by omega
   refine hf kG (by rw[hA];rfl) (aSK H3 n.p λh4 H4 u4=>?_);have e1:qI L room n=(if (jO L n.p.key).isSome then 0 else aBI L room ⟨n.p,2⟩):=by unfold qI;rw[if_neg hrt,if_neg n1,if_pos hA]
   have e2:oG L room n=(match jO L n.p.key with
    | some x=>aB5 L ⟨x.p,2⟩
    | none=>vG L room ⟨n.p,2⟩):=by unfold oG;rw[if_neg hrt,if_neg n1,if_pos hA];try rfl
   rw[←e1];exact hk h4 (by rw[e2];exact H4) (cQ.then (dD.upd uu3) u4 λb hb=>.inl hb)
  all_goals
   have n1:¬n.k=1:=by omega
   have n2:¬n.k=2:=by omega
   refine hf iW (by rw[hA];rfl) (aYD H3 n.p λh4 H4 u4=>?_);have e1:qI L room n=0:=by unfold qI;rw[if_neg hrt,if_neg n1,if_neg n2]
   have e2:oG L room n=aAE L n.p.key:=by unfold oG;rw[if_neg hrt,if_neg n1,if_neg n2]
   rw[←e1];exact hk h4 (by rw[e2];exact H4) (cQ.then (dD.upd uu3) u4 λb hb=>.inl hb)
def aTd{h:PH}{m:Nat}{l:List It}(hm:MAt h m l){k:cD}
  (hk:∀m' h',h m'=none->MAt h' m' l->dD h h'->k (.iface dS (.map (some m'))) h'):aT PG aIy #[.iface dS (.map (some m))] h k:=by
 refine .inr ?_;unfold callFunc;have e0:PG.funcs[aIy]? =some Tryz.f213:=Tryz.func213;have key:∀(f:Program->Sem Next) (Q:Next->PH->Prop),dC PG (program >>= f) h Q=dC PG (f PG) h Q:=λ_ _=>rfl;rw[key,e0];dsimp only;have e1:(Tryz.f213.name == "runtime.NumGoroutine")=false:=by decide
 have e2:Tryz.f213.body.isNone=true:=rfl;have e3:Extern.findNext Tryz.f213=none:=by kernel_rfl
 have e4:Extern.find Tryz.f213=some Extern.MapsClone.clone:=by kernel_rfl
 simp only[e1,e2,e3,e4,zLu,if_false,if_true];show dC PG (Extern.MapsClone.clone #[.iface dS (.map (some m))] >>= λv=>pure (Next.value v)) h _;refine dC.bind (P:=PG) (s:=Extern.MapsClone.clone #[.iface dS (.map (some m))]) ?_;refine aUu hm λm' h' hm' hM u=>?_;exact⟨_,rfl,hk m' h' hm' hM u⟩
def aZu{h:PH}{m:Nat}{x y:Operand}:cG PG h (jT .eql dS x y (.map (some m)) (.map none))=some (.bool false):=by kernel_rfl
def aVo{h:PH}{m:Nat}{l:List It}(hm:MAt h m l){k:cD}
  (hk:∀m' h',h m'=none->MAt h' m' l->dD h h'->k (.map (some m')) h'):aT PG mD #[.map (some m)] h k:=by
 apply kV.call;unfold kV;have e1:dH PG (Instr.makeInterface dS (.map (some m)))=some (.iface dS (.map (some m))):=by kernel_rfl
 simp only[aZu,e1,cE,reduceIte];refine aTd hm λm' h' hm' hM u=>?_;have e2:cG PG h' (Instr.typeAssert (.iface dS (.map (some m'))) aNk dS false)=some (.map (some m')):=by kernel_rfl
 exact cG.semH e2 (hk m' h' hm' hM u)
def aXx{h:PH}{a:Nat}{L:List It}{room:Int}{F:List Nat}(H:yO h a L room F){k:cD}
  (hk:∀a' h' F',yO h' a' L room F'->eK h F'->dD h h'->k (pT a' 0) h'):aT PG aEJ #[pT a 0] h k:=by
 apply xN.call;unfold xN;obtain⟨m,l,ha,hm,hp,rfl,ham⟩:=H.here;have c0:dB h ⟨a,0,none⟩=some (.map (some m)):=by simp[dB,ha]
 have c1:dB h ⟨a,0+1,none⟩=some (.int .i64 room):=by simp[dB,ha]
 simp only[gP.f0,gP.f1,dS.load,bR.load,c0,c1,cE,reduceIte];refine aVo hm λm' h1 hm' hM u1=>?_;have ha1:=u1.get ha;refine⟨by simp[dB,ha1],?_⟩;have hb:dH PG (build gP #[(0,.map (some m')),(1,.int .i64 room)])=some (.agg #[.map (some m'),.int .i64 room]):=by kernel_rfl
 rw[hb,aDC];intro a' ha'
 try rw[cW]
 have ham':a'≠m':=by rintro rfl;exact jR.known hM ha'
 refine hk a' _ [a',m'] ⟨⟨m',l,dL,jR.ext hM (cQ.new ha'),hp,rfl,ham'⟩,H.srt⟩ (λb hb=>?_) (u1.trans (cQ.new ha'));simp only[gU,lH,or_false] at hb;rcases hb with rfl|rfl
 ·exact u1.none ha'
 ·exact hm'
end
end Go.Proofs.YtppgkeodaejgcaaGreatDoor
