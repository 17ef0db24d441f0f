/- The texts of this claim, put together. -/
import Derived.Test.YtppgkeodaejgcaaGreatDoorSnOVC8
set_option linter.all false
set_option maxRecDepth 100000
open Go.Instr (loadAt fieldAt indexAt extract buildSlice build)
namespace Go.Proofs.YtppgkeodaejgcaaGreatDoor
section
open Go
def gB.lfc{h:PH}{v:Value}{l:List LV}(S:gB h 5 v (l.map qI)){j:Nat}{y:LV}(hy:l[j]? =some y):
  ∃b o,dG PG (indexAt cN v (.int .i64 (j:Int)))=some (pT b o)∧dB h ⟨b,o,none⟩=some (.int .i64 y.1.i)∧dB h ⟨b,o+1,none⟩=some (.int .i64 y.1.n)∧dB h ⟨b,o+2,none⟩=some (.string (tx y.1.p.k))∧dB h ⟨b,o+2+1,none⟩=some (.string (tx y.1.p.v)):=by
 obtain⟨b,o,h1,h2,-⟩:=S.fields cN.und cB.info cB.size (k:=.i64) (j:=j) (r:=qI y) (by rw[wK,hy];rfl);exact⟨b,o,h1,h2 0 _ rfl,h2 1 _ rfl,h2 2 _ rfl,h2 3 _ rfl⟩
def nZ.offs{h0 h:PH}{v:Value}{fs:List Lf}(H:nZ h0 h v fs){b m:Nat}(kb:h0 b≠none)(km:h0 m≠none):∃l:List LV,l.map (·.1)=fs∧gB h 5 v (l.map qI)∧LfS h l∧Off b m v∧∀y∈l,Off b m y.2:=by
 obtain⟨l,F,e,O,f,L⟩:=H.here;refine⟨l,e,O.slR,L.lfs,λa n c ev=>f.off kb km _ (aGf O a n c ev),λy hy a n c ev=>?_⟩;obtain⟨G,OG,fG,-⟩:=L y hy;exact fG.off kb km _ (aGf OG a n c ev)
def aBG:List Lf->List Tx
 | []=>[]
 | f::l=>(if (qH f).isSome then aME f else [])++aBG l
def aQl(l:List Lf)(f:Lf):aBG (l++[f])=aBG l++(if (qH f).isSome then aME f else []):=by
 induction l with
 | nil=>simp[aBG]
 | cons a l ih=>simp[aBG,ih]
def aRC(root:Tx)(l:List Lf)(f:Lf):oV root (l++[f])=(oV root l&&(qH f==some root)):=by
 unfold oV;simp
def aOO{h:PH}{root:Tx}{ab:Bool}{v:Value}{l:List LV}{b m:Nat}{A:List Tx}{K:List Nat}(H:Bk b m A K h)(S:gB h 5 v (l.map qI))(HS:LfS h l)(ov:Off b m v)(oy:∀y∈l,Off b m y.2)(hl:l.length≤1000)(hb:∀y∈l,y.1.Bd){k:cD}
  (hk:∀h',Bk b m (aBG (l.map (·.1))++A) K h'->cT [b,m] h h'->k (.bool (oV root (l.map (·.1)))) h'):
  aT PG xQ #[pT b 0,.string (tx root),Pf.val ab v] h k:=by
 apply aAl.call;unfold aAl;intro r1 hr1
 try rw[cW]
 have hr1b:r1∉[b,m]:=(eN.one hr1).off (H.known b (by simp)) (H.known m (by simp)) r1 (by simp);have u1:dC h (h.set r1 (.cells (Value.cells (Pf.val ab v)) cC)):=cT.new hr1;have X1:Bx (h.set r1 (.cells (Value.cells (Pf.val ab v)) cC)) r1 [.bool ab,v]:=Bx.new;generalize h.set r1 (.cells (Value.cells (Pf.val ab v)) cC)=h1 at *;refine⟨λvs h'=>∃i:Nat,i≤l.length∧vs=[pT b 0,.string (tx root),pT r1 0,.bool (oV root ((l.take i).map (·.1))),.int .i64 (i:Int)]∧Bk b m (aBG ((l.take i).map (·.1))++A) K h'∧cT [b,m] h1 h',gV l.length 4,⟨0,by omega,rfl,H.ext u1,cT.refl⟩,?_⟩;rintro ρ h' ⟨i,hi,hvs,B,u⟩;simp only[iJ,iZ,lP,and_true] at hvs;obtain⟨v0,v1,v2,v3,v4⟩:=hvs;unfold aFf;rw[v0,v1,v2,v3,v4];have X:=X1.upd u hr1b;have lv:cH PG h' (loadAt cN (pT r1 1))=some v:=by rw[cN.load,X.cell];rfl
 have ll:=aJj S;by_cases hlt:i<l.length
 ·have g:((i:Int)<(l.length:Int))=True:=eq_true (by omega);have gi:=qQ (i:=i) (by omega);obtain⟨y,hy⟩:∃y,l[i]? =some y:=⟨_,lU hlt⟩;have hym:=vR hy;obtain⟨pa,e1,e2⟩:=((S.ext u1).upd u ov).lf hy;have hbd:=hb y hym;have et:(l.take (i+1)).map (·.1)=(l.take i).map (·.1)++[y.1]:=by rw[zLU,hy];simp
  have key:∀(t:Tx) (o:Bool) {h2:PH},Bk b m ((if (qH y.1).isSome then aME y.1 else [])++(aBG ((l.take i).map (·.1))++A)) K h2->cT [b,m] h' h2->(o&&decide (t=root))=(qH y.1==some root)->
    (∃i':Nat,i'≤l.length∧([pT b 0,.string (tx root),pT r1 0,.bool (oV root ((l.take i).map (·.1))&&(o&&decide (t=root))),.int .i64 ((i+1:Nat):Int)]:List Value)=[pT b 0,.string (tx root),pT r1 0,.bool (oV root ((l.take i').map (·.1))),.int .i64 (i':Int)]∧Bk b m (aBG ((l.take i').map (·.1))++A) K h2∧cT [b,m] h1 h2):=by
   intro t o h2 B2 u2 ho;refine⟨i+1,by omega,?_,B2.mono λa ha=>?_,u.trans u2⟩
   ·rw[et,aRC,ho]
   ·rw[et,aQl] at ha;simp only[kA] at ha ⊢;rcases ha with(ha|ha)|ha
    ·exact .inr (.inl ha)
    ·exact .inl ha
    ·exact .inr (.inr ha)
  simp only[cC.f1,fO,lv,ll,g,e1,e2,cE,reduceIte,cV,Nat.reduceAdd];refine aTg B (((HS y hym).ext u1).upd u (oy y hym)) (oy y hym) (by have:=hbd.m;omega) (by have:=hbd.k;have:=hbd.v;omega) (λhno h2 B2 u2=>?_) (λhok h2 B2 u2=>?_)
  ·have hc:=aUn hno;have hfin:=key [] false (B2.mono λa ha=>by rw[hc] at ha;simpa using ha) u2 (by rw[hc];rfl);simp only[vN,aFa] at hfin;cases hcl:oV root ((l.take i).map (·.1)) with
   | true=>
    simp only[gi,cE,reduceIte,cV,Nat.reduceAdd];exact⟨hfin,by simp[gV,v4];omega⟩
   | false=>
    simp only[gi,cE,reduceIte,cV,Nat.reduceAdd];exact⟨hfin,by simp[gV,v4];omega⟩
  ·have hc:=aTZ hok;have hfin:=key (aJP y.1.n.toNat (aOs y.1)) true (B2.mono λa ha=>by rw[hc] at ha;simpa using ha) u2 (by
    rw[hc,zLp];by_cases c:aJP y.1.n.toNat (aOs y.1)=root
    ·simp[c]
    ·simp[c])
   simp only[zLp] at hfin;cases hcl:oV root ((l.take i).map (·.1)) with
   | true=>
    rw[hcl] at hfin;simp only[zLp] at hfin;simp only[aFx,gi,cE,reduceIte,cV,Nat.reduceAdd];exact⟨hfin,by simp[gV,v4];omega⟩
   | false=>
    rw[hcl] at hfin;simp only[vN] at hfin;simp only[gi,cE,reduceIte,cV,Nat.reduceAdd];exact⟨hfin,by simp[gV,v4];omega⟩
 ·have g:((i:Int)<(l.length:Int))=False:=eq_false (by omega);rw[mX (by omega)] at B;rw[mX (by omega)];simp only[cC.f1,fO,lv,ll,g,cE,reduceIte,cV,Nat.reduceAdd];exact hk h' B (u1.upd.trans u)
def aKr(l:List Lf)(q:Pr):Bool:=match l with
 | [f]=>f.p==q
 | _=>false
def aTx{l:List Lf}(h:l.length≠1)(q:Pr):aKr l q=false:=by
 match l,h with
 | [],_=>rfl
 | [f],h=>exact absurd rfl h
 | _::_::_,_=>rfl
def aX5(root s k v:Tx):aDz root s k v=((iH s).2==0 && !(iH s).1.ab&&aKr (iH s).1.lv ⟨k,v⟩&&oV root (iH s).1.lv):=by
 unfold aDz aKr;rfl
def aIi(s:Tx):List Tx:=if (iH s).2=0∧(iH s).1.ab=false∧(iH s).1.lv.length=1 then aBG (iH s).1.lv else []
def aSW{h:PH}{root s key value:Tx}{b m:Nat}{A:List Tx}{K:List Nat}(H:Bk b m A K h)(hs:s.length≤1000000000){k:cD}(hk:∀h',Bk b m (aIi s++A) K h'->cT [b,m] h h'->k (.bool (aDz root s key value)) h'):
  aT PG aAq #[pT b 0,.string (tx root),.string (tx s),.string (tx key),.string (tx value)] h k:=by
 apply aC8.call;unfold aC8;have kb:=H.known b (by simp);have km:=H.known m (by simp);refine aPc hs λh1 v L1 u1=>?_;have hbd:=aLe s;have hl2:=aKA s;rw[aX5] at hk;unfold aIi at hk;generalize iH s=P at *;obtain⟨⟨ab,fs⟩,e⟩:=P;simp only at L1 hbd hl2 hk ⊢;simp only[cE,reduceIte,cV,Nat.reduceAdd];intro r5 hr5
 try rw[cW]
 have hr5h:h r5=none:=u1.none hr5;refine cC.fill (vs:=[.bool ab,v]) hr5 rfl (by
  have:=L1.isc;simp[fX];exact this) λh2 X2 u2=>?_
 have e2:=u1.trans u2;have L2:=L1.upd u2 (by simp);obtain⟨l,el,S2,HS2,ov,oy⟩:=L2.offs kb km;have hll:l.length=fs.length:=by rw[←el,jB]
 have B2:=H.ext e2;have la:cH PG h2 (loadAt gQ (pT r5 0))=some (.bool ab):=by rw[gQ.load,X2.cell];rfl
 have lv:cH PG h2 (loadAt cN (pT r5 1))=some v:=by rw[cN.load,X2.cell];rfl
 have ll:=aJj S2;have bad:¬(e=0∧ab=false∧fs.length=1)->k (.bool false) h2:=λhn=>by
  have:=hk h2;rw[if_neg hn] at this;have hf:(e==0 && !ab&&aKr fs ⟨key,value⟩&&oV root fs)=false:=by
   by_cases c0:e=0
   ·cases ab with
    | true=>simp
    | false=>rw[aTx (λh=>hn ⟨c0,rfl,h⟩)];simp
   ·simp[c0]
  rw[hf] at this;exact this B2 e2.upd
 by_cases c0:e=0
 case neg=>
  have q:(e !=0)=true:=by simpa using c0
  simp only[kP,q,cE,reduceIte,cV,Nat.reduceAdd];exact bad λh=>c0 h.1
 have q:(e !=0)=false:=by simp[c0]
 cases ab with
 | true=>
  simp only[kP,q,cC.f0,la,cE,reduceIte,cV,Nat.reduceAdd];exact bad λh=>by cases h.2.1
 | false=>
  by_cases c1:fs.length=1
  case neg=>
   have q1:((l.length:Int) !=1)=true:=by simp;omega
   simp only[kP,q,q1,cC.f0,cC.f1,fO,la,lv,ll,cE,reduceIte,cV,Nat.reduceAdd];exact bad λh=>c1 h.2.2
  have q1:((l.length:Int) !=1)=false:=by simp;omega
  obtain⟨y,rfl⟩:=List.length_eq_one_iff.1 (show l.length=1 by omega);simp only[iJ,iZ] at el;subst el;simp only[kP,q,q1,cC.f0,cC.f1,fO,la,lv,ll,Pf.boxC X2,cE,reduceIte,cV,Nat.reduceAdd];refine aOO B2 S2 HS2 ov oy (by simp) (λz hz=>hbd z.1 (by simp only[gE] at hz;subst hz;simp)) λh3 B3 u3=>?_;have U3:cT [b,m] h h3:=e2.upd.trans u3;have hk:=hk h3;rw[if_pos ⟨c0,rfl,c1⟩] at hk;have hk:=hk B3 U3;have X3:=X2.upd u3 (λhm=>by
   have:=(eN.one hr5h).off kb km r5 (by simp);exact this hm)
  have lv3:cH PG h3 (loadAt cN (pT r5 1))=some v:=by rw[cN.load,X3.cell];rfl
  obtain⟨x,o,i1,-,-,i4,i5⟩:=(S2.upd u3 ov).lfc (j:=0) (y:=y) rfl;rw[show((0:Nat):Int)=0 from rfl] at i1;simp only[c0,beq_self_eq_true,zLq,zLp] at hk;have hpe:aKr [y.1] ⟨key,value⟩=(decide (y.1.p.k=key)&&decide (y.1.p.v=value)):=by
   rw[zLm];obtain⟨⟨_,_,⟨pk,pv⟩,_⟩,_⟩:=y;simp[aKr]
  rw[hpe] at hk;simp only[iJ,iZ];cases hc:oV root [y.1] with
  | false=>
   rw[hc,aFa] at hk;simp only[cE,reduceIte,cV,Nat.reduceAdd];exact hk
  | true=>
   rw[hc,Bool.and_true] at hk;by_cases ck:y.1.p.k=key
   ·have d:=decide_eq_true ck;rw[d,zLp] at hk;simp only[lv3,i1,cC.f1,cB.f2,cM.f0,cM.f1,fO,bR.load,i4,i5,aFx,d,cE,reduceIte,cV,Nat.reduceAdd];exact hk
   ·have d:=decide_eq_false ck;rw[d,vN] at hk;simp only[lv3,i1,cC.f1,cB.f2,cM.f0,fO,bR.load,i4,aFx,d,cE,reduceIte,cV,Nat.reduceAdd];exact hk
def aEs(root:Tx)(l:List Lf)(k:Tx):Bool:=match l with
 | []=>root==oC []
 | [f]=>(f.i==0&&decide (k<f.p.k))||(f.i==IntKind.i64.wrap (f.n-1)&&decide (f.p.k<k))
 | f::g::_=>f.n==g.n&&(IntKind.i64.wrap (f.i+1)==g.i)&&decide (f.p.k<k)&&decide (k<g.p.k)
def aUv(root s k:Tx):aEh root s k=((iH s).2==0&&(iH s).1.ab&&decide (1≤k.length)&&decide (k.length≤16)&&oV root (iH s).1.lv&&aEs root (iH s).1.lv k):=by
 unfold aEh aEs;rfl
def aLB(s k:Tx):List Tx:=if (iH s).2=0∧(iH s).1.ab=true∧1≤k.length∧k.length≤16 then aBG (iH s).1.lv++(if (iH s).1.lv=[] then aF7 [] else []) else []
def aTj{h:PH}{root s key:Tx}{b m:Nat}{A:List Tx}{K:List Nat}(H:Bk b m A K h)(hs:s.length≤1000000000){k:cD}(hk:∀h',Bk b m (aLB s key++A) K h'->cT [b,m] h h'->k (.bool (aEh root s key)) h'):
  aT PG aCq #[pT b 0,.string (tx root),.string (tx s),.string (tx key)] h k:=by
 apply tB.call;unfold tB;have kb:=H.known b (by simp);have km:=H.known m (by simp);have lk:dG PG (Builtin.len_ #[bR] bT #[.string (tx key)])=some (.int .i64 (key.length:Int)):=by rw[mL bR.und,iF]
 refine aPc hs λh1 v L1 u1=>?_;have hbd:=aLe s;have hl2:=aKA s;rw[aUv] at hk;unfold aLB at hk;generalize iH s=P at *;obtain⟨⟨ab,fs⟩,e⟩:=P;simp only at L1 hbd hl2 hk ⊢;simp only[cE,reduceIte,cV,Nat.reduceAdd];intro r5 hr5
 try rw[cW]
 have hr5h:h r5=none:=u1.none hr5;refine cC.fill (vs:=[.bool ab,v]) hr5 rfl (by
  have:=L1.isc;simp[fX];exact this) λh2 X2 u2=>?_
 have e2:=u1.trans u2;have L2:=L1.upd u2 (by simp);obtain⟨l,el,S2,HS2,ov,oy⟩:=L2.offs kb km;have hll:l.length=fs.length:=by rw[←el,jB]
 have B2:=H.ext e2;have la:cH PG h2 (loadAt gQ (pT r5 0))=some (.bool ab):=by rw[gQ.load,X2.cell];rfl
 have ll:=aJj S2;have bad:¬(e=0∧ab=true∧1≤key.length∧key.length≤16)->k (.bool false) h2:=λhn=>by
  have:=hk h2;rw[if_neg hn] at this;have hf:(e==0&&ab&&decide (1≤key.length)&&decide (key.length≤16)&&oV root fs&&aEs root fs key)=false:=by
   by_cases c0:e=0
   ·cases ab with
    | false=>simp
    | true=>
     by_cases c1:1≤key.length
     ·have c2:¬key.length≤16:=λh=>hn ⟨c0,rfl,c1,h⟩;simp[c2]
     ·simp[c1]
   ·simp[c0]
  rw[hf] at this;exact this B2 e2.upd
 by_cases c0:e=0
 case neg=>
  have q:(e !=0)=true:=by simpa using c0
  simp only[kP,q,cE,reduceIte,cV,Nat.reduceAdd];exact bad λh=>c0 h.1
 have q:(e !=0)=false:=by simp[c0]
 cases ab with
 | false=>
  simp only[kP,q,cC.f0,la,cE,reduceIte,cV,Nat.reduceAdd];exact bad λh=>by cases h.2.1
 | true=>
  by_cases d1:key.length<1
  ·have g1:((key.length:Int)<1)=True:=eq_true (by omega);simp only[kP,q,cC.f0,la,lk,g1,cE,reduceIte,cV,Nat.reduceAdd];exact bad λh=>by omega
  have g1:((key.length:Int)<1)=False:=eq_false (by omega);by_cases d2:16<key.length
  ·have g2:((16:Int)<(key.length:Int))=True:=eq_true (by omega);simp only[kP,q,cC.f0,la,lk,g1,g2,cE,reduceIte,cV,Nat.reduceAdd];exact bad λh=>by omega
  have g2:((16:Int)<(key.length:Int))=False:=eq_false (by omega);have f1:decide (1≤key.length)=true:=decide_eq_true (by omega);have f2:decide (key.length≤16)=true:=decide_eq_true (by omega);simp only[kP,q,cC.f0,la,lk,g1,g2,Pf.boxC X2,cE,reduceIte,cV,Nat.reduceAdd];refine aOO B2 S2 HS2 ov oy (by omega) (λz hz=>hbd z.1 (by rw[←el];exact zL8 hz)) λh3 B3 u3=>?_;rw[el] at B3 ⊢;have U3:cT [b,m] h h3:=e2.upd.trans u3;have X3:=X2.upd u3 (λhm=>by
   have:=(eN.one hr5h).off kb km r5 (by simp);exact this hm)
  have lv3:cH PG h3 (loadAt cN (pT r5 1))=some v:=by rw[cN.load,X3.cell];rfl
  have S3:=S2.upd u3 ov;have hk:∀h',Bk b m ((aBG fs++(if fs=[] then aF7 [] else []))++A) K h'->cT [b,m] h h'->k (.bool (oV root fs&&aEs root fs key)) h':=λh' hB hU=>by
   have:=hk h';rw[if_pos ⟨c0,rfl,by omega,by omega⟩,f1,f2,c0] at this;simp only[beq_self_eq_true,zLp,Bool.and_self] at this;exact this hB hU
  cases hc:oV root fs with
  | false=>
   rw[hc] at hk;simp only[vN] at hk;simp only[cE,reduceIte,cV,Nat.reduceAdd];have hne:fs≠[]:=λh=>by rw[h] at hc;cases hc
   rw[if_neg hne,zLQ] at hk;exact hk h3 B3 U3
  | true=>
   rw[hc] at hk;simp only[zLp] at hk;subst el
   match l,S3,ll,hl2,hk,B3 with
   | [],S3,ll,hl2,hk,B3=>
    have q0:(((([]:List LV).length:Nat):Int)==0)=true:=rfl;simp only[lv3,ll,iG,q0,cC.f1,fO,cE,reduceIte,cV,Nat.reduceAdd];refine aVV B3 (l:=[]) (by simp) (eO.nil (e:=cM) (size:=2)).slR (λa n c e=>by cases e) (λp hp=>by cases hp) λh4 B4 u4=>?_;have:=hk h4 (B4.mono λa ha=>by
     simp only[iZ,if_true,kA] at ha ⊢;rcases ha with(ha|ha)|ha
     ·cases ha
     ·exact .inl ha
     ·exact .inr (.inr ha)) (U3.trans u4)
    simp only[aFx,cE,reduceIte,cV,Nat.reduceAdd];have ht:aEs root (([]:List LV).map (·.1)) key=decide (root=oC []):=by
     rw[zLm];simp[aEs]
    rw[ht] at this;exact this
   | [y],S3,ll,hl2,hk,B3=>
    have q0:((([y].length:Nat):Int)==0)=false:=rfl;have q1:((([y].length:Nat):Int)==1)=true:=rfl;obtain⟨x,o,i1,i2,i3,i4,-⟩:=S3.lfc (j:=0) (y:=y) rfl;rw[show((0:Nat):Int)=0 from rfl] at i1;have hk:=hk h3 (B3.mono λa ha=>by simpa using ha) U3;have ht:aEs root ([y].map (·.1)) key=((y.1.i==0&&decide (key<y.1.p.k))||(y.1.i==IntKind.i64.wrap (y.1.n-1)&&decide (y.1.p.k<key))):=rfl;rw[ht] at hk;simp only[lv3,ll,iG,q0,q1,i1,cC.f1,cB.f0,cB.f1,cB.f2,cM.f0,fO,bT.load,bR.load,i2,i3,i4,cE,reduceIte,cV,Nat.reduceAdd];cases hi:y.1.i==0 with
    | true=>
     rw[hi] at hk;simp only[zLp] at hk;simp only[i1,cB.f0,cB.f1,cB.f2,cM.f0,bT.load,bR.load,i2,i3,i4,aOU,iG,cE,reduceIte,cV,Nat.reduceAdd];cases hj:y.1.i==IntKind.i64.wrap (y.1.n-1) with
     | true=>
      rw[hj] at hk;simp only[zLp] at hk;by_cases ck:key<y.1.p.k
      ·have d:=decide_eq_true ck;rw[d] at hk;simp only[Bool.true_or] at hk;simp only[i1,cB.f2,cM.f0,bR.load,i4,yE,d,cE,reduceIte,cV,Nat.reduceAdd];exact hk
      ·have d:=decide_eq_false ck;rw[d] at hk;simp only[aKS] at hk;simp only[i1,cB.f2,cM.f0,bR.load,i4,yE,d,cE,reduceIte,cV,Nat.reduceAdd];exact hk
     | false=>
      rw[hj] at hk;simp only[vN,Bool.or_false] at hk;by_cases ck:key<y.1.p.k
      ·have d:=decide_eq_true ck;rw[d] at hk;simp only[d,cE,reduceIte,cV,Nat.reduceAdd];exact hk
      ·have d:=decide_eq_false ck;rw[d] at hk;simp only[d,cE,reduceIte,cV,Nat.reduceAdd];exact hk
    | false=>
     rw[hi] at hk;simp only[vN,aKS] at hk;simp only[i1,cB.f0,cB.f1,bT.load,i2,i3,iG,cE,reduceIte,cV,Nat.reduceAdd];cases hj:y.1.i==IntKind.i64.wrap (y.1.n-1) with
     | true=>
      rw[hj] at hk;simp only[zLp] at hk;simp only[i1,cB.f2,cM.f0,bR.load,i4,yE,cE,reduceIte,cV,Nat.reduceAdd];exact hk
     | false=>
      rw[hj] at hk;simp only[vN] at hk;simp only[cE,reduceIte,cV,Nat.reduceAdd];exact hk
   | y::z::r,S3,ll,hl2,hk,B3=>
    have q0:((((y::z::r).length:Nat):Int)==0)=false:=by simp;omega
    have q1:((((y::z::r).length:Nat):Int)==1)=false:=by simp;omega
    obtain⟨x,o,i1,i2,i3,i4,-⟩:=S3.lfc (j:=0) (y:=y) rfl;obtain⟨x',o',j1,j2,j3,j4,-⟩:=S3.lfc (j:=1) (y:=z) rfl;rw[show((0:Nat):Int)=0 from rfl] at i1;rw[show((1:Nat):Int)=1 from rfl] at j1;have hk:=hk h3 (B3.mono λa ha=>by simpa using ha) U3;have ht:aEs root ((y::z::r).map (·.1)) key=(y.1.n==z.1.n&&(IntKind.i64.wrap (y.1.i+1)==z.1.i)&&decide (y.1.p.k<key)&&decide (key<z.1.p.k)):=rfl;rw[ht] at hk;have hsw:(z.1.i==IntKind.i64.wrap (y.1.i+1))=(IntKind.i64.wrap (y.1.i+1)==z.1.i):=by
     rw[zLm];simp only[beq_iff_eq];exact eq_comm
    simp only[lv3,ll,iG,q0,q1,i1,j1,cC.f1,cB.f0,cB.f1,cB.f2,cM.f0,fO,bT.load,bR.load,i2,i3,i4,j2,j3,j4,cE,reduceIte,cV,Nat.reduceAdd];cases h1':y.1.n==z.1.n with
    | false=>
     rw[h1'] at hk;simp only[vN] at hk;simp only[cE,reduceIte,cV,Nat.reduceAdd];exact hk
    | true=>
     rw[h1'] at hk;simp only[zLp] at hk;simp only[i1,j1,cB.f0,bT.load,i2,j2,iG,hsw,cE,reduceIte,cV,Nat.reduceAdd];cases h2':IntKind.i64.wrap (y.1.i+1)==z.1.i with
     | false=>
      rw[h2'] at hk;simp only[vN] at hk;simp only[cE,reduceIte,cV,Nat.reduceAdd];exact hk
     | true=>
      rw[h2'] at hk;simp only[zLp] at hk;simp only[i1,cB.f2,cM.f0,bR.load,i4,yE,cE,reduceIte,cV,Nat.reduceAdd];by_cases c3:y.1.p.k<key
      ·have d:=decide_eq_true c3;rw[d] at hk;simp only[zLp] at hk;simp only[j1,cB.f2,cM.f0,bR.load,j4,aOU,d,cE,reduceIte,cV,Nat.reduceAdd];exact hk
      ·have d:=decide_eq_false c3;rw[d] at hk;simp only[vN] at hk;simp only[d,cE,reduceIte,cV,Nat.reduceAdd];exact hk
end
section
open Go Bld
def aTt:jZ PG (buildSlice cJ 0 #[])=some (.cells #[] cM,λr=>pure (.slice (some ⟨r,0,none⟩) 0 0)):=by kernel_rfl
def aMh{h:PH}{v x:Value}{l ys:List Pr}{F:List Nat}(O:eO h cM 2 v (l.map Pr.cells) F)(S:gB h 2 x (ys.map Pr.cells))(hl:l.length+ys.length≤1000000){t:TypeId}{k:cD}
  (hk:∀v' h' F',eO h' cM 2 v' ((l++ys).map Pr.cells) F'->cT F h h'->(∀b∈F',b∈F∨h b=none)->k v' h'):dA PG (Builtin.append_ #[cJ,cJ] t #[v,x]) h k:=by
 refine jL cJ.und cJ.und cM.info cM.size cM.bytes cM.zero rfl (by decide) O S (Pr.isCell ys) (by simp;omega) ?_;intro v' h' F' O' u' k' _;rw[←pY] at O';exact hk v' h' F' O' u' k'
def aAL.now{h h1 h':PH}{b:Nat}{s:St}{G F:List Nat}{n:List Pr}{nv bv v:Value}(H:aAL h b s G)(hb:h b=some (.cells #[nv,.int .u64 ((s.height-(s.blocks.length-1):Nat):Int),bv] dM (0,0)))(u:dC h h1)(O:eO h1 cM 2 v (n.map Pr.cells) F)(fF:eN h F)(hok:St.Ok {s with now:=n})
  (e:h'=h1.set b (.cells #[v,.int .u64 ((s.height-(s.blocks.length-1):Nat):Int),bv] dM (0,0))):aAL h' b {s with now:=n} (G++F)∧cT [b] h h'∧(∀g∈G++F,g∈G∨h g=none):=by
 subst e;obtain⟨nv',bv',bl,h1',h2,h3,h4,h5,h6,h7,h8,h9⟩:=H.here;rw[hb] at h1';simp only[zL9,Obj.cells.injEq,Array.mk.injEq,lP,and_true,true_and] at h1';obtain⟨rfl,rfl⟩:=h1';have uu:cT [b] h (h1.set b (.cells #[v,.int .u64 ((s.height-(s.blocks.length-1):Nat):Int),bv] dM (0,0))):=u.upd.trans (cT.set (by simp));have hG:∀g∈G,g∉[b]:=λg hg=>by simp only[gE];rintro rfl;exact h8 hg
 have hF:∀g∈F,g∉[b]:=λg hg=>by
  simp only[gE];rintro rfl;have:=fF _ hg;rw[hb] at this;cases this
 have O':=O.upd (cT.set (F:=[b]) (r:=b) (o:=(.cells #[v,.int .u64 ((s.height-(s.blocks.length-1):Nat):Int),bv] dM (0,0))) (by simp)) hF;refine⟨⟨⟨v,bv,bl,dJ,O'.slR,h3.upd uu λa n c e=>hG _ (h7 a n c e),λx hx=>⟨(h4 x hx).1.upd uu λa n c e=>hG _ ((h4 x hx).2 a n c e),λa n c e=>zLk _ ((h4 x hx).2 a n c e)⟩,h5,λa n c e=>zLl _ (aGf O' a n c e),λa n c e=>zLk _ (h7 a n c e),?_,λg hg=>?_⟩,hok⟩,uu,λg hg=>?_⟩
 ·intro hm;rcases kA.1 hm with hm|hm
  ·exact h8 hm
  ·exact hF _ hm (by simp)
 ·rcases kA.1 hg with hg|hg
  ·obtain⟨o,ho⟩:=aHi.1 (h9 g hg);rw[uu.get ho (hG g hg)];simp
  ·exact O'.known g hg
 ·rcases kA.1 hg with hg|hg
  ·exact .inl hg
  ·exact .inr (fF g hg)
def aXE{h:PH}{b:Nat}{s:St}{G:List Nat}(H:aAL h b s G)(k v:Tx){kk:cD}(hk:∀h' G',aAL h' b (aCn s k v).1 G'->cT [b] h h'->(∀g∈G',g∈G∨h g=none)->kk (.int .i64 (aCn s k v).2) h'):
  aT PG nO #[pT b 0,.string (tx k),.string (tx v)] h kk:=by
 apply xP.call;unfold xP;have fin1:(k.length<1∨16<k.length∨64<v.length)->kk (.int .i64 1) h:=λhb=>by
  have:=hk h G (by unfold aCn;rw[if_pos hb];exact H) cT.refl (λg hg=>.inl hg);unfold aCn at this;rw[if_pos hb] at this;exact this
 by_cases d1:k.length<1
 ·have g1:((k.length:Int)==0)=true:=by simp;exact zLO (by omega)
  simp only[bR.len,iF,g1,cE,reduceIte];exact fin1 (.inl d1)
 have g1:((k.length:Int)==0)=false:=by simp;rintro rfl;simp at d1
 by_cases d2:16<k.length
 ·have g2:((16:Int)<(k.length:Int))=True:=eq_true (by omega);simp only[bR.len,iF,g1,g2,cE,reduceIte];exact fin1 (.inr (.inl d2))
 have g2:((16:Int)<(k.length:Int))=False:=eq_false (by omega);by_cases d3:64<v.length
 ·have g3:((64:Int)<(v.length:Int))=True:=eq_true (by omega);simp only[bR.len,iF,g1,g2,g3,cE,reduceIte];exact fin1 (.inr (.inr d3))
 have g3:((64:Int)<(v.length:Int))=False:=eq_false (by omega);have hr:¬(k.length<1∨16<k.length∨64<v.length):=by omega
 have hok:=H.ok;have hH:=H;obtain⟨A,M,B,c⟩:=hok.up.cut k;obtain⟨nv,bv,bl,h1,h2,h3,h4,h5,h6,h7,h8,h9⟩:=H.here;have c0:dB h ⟨b,0,none⟩=some nv:=by simp[dB,h1]
 have hlen:s.now.length=A.length+(M.length+B.length):=by rw[c.eq];simp
 have hfew:=hok.few;have hget:=c.get hok.up;simp only[bR.len,iF,g1,g2,g3,cE,reduceIte];refine aPR H c ?_;obtain⟨w1,x1,x2⟩:=h2.cutP (lo:=some (.int .i64 (A.length:Int))) (hi:=none) (a:=A.length) (m:=s.now.length) (.inr ⟨_,rfl⟩) (.inl ⟨rfl,rfl⟩) (by omega) (pF _);rw[zLJ] at x2;simp only[dM.f0,cJ.load,c0,x1,cE,reduceIte]
 -- what is left, laid
 have fin:∀t9,gB h 2 t9 (B.map Pr.cells)->¬(iI s.now k=none∧4096≤s.now.length)->sH kk (pT b 0) (.string (tx k)) (.string (tx v)) (.int .i64 (A.length:Int)) t9 h:=by
  intro t9 S9 hc;unfold sH;simp only[aTt,cE,reduceIte];intro r hr';refine fT ?_
  try rw[cW]
  have u1:dC h (h.set r (.cells #[] cM)):=cT.new hr';have O1:eO (h.set r (.cells #[] cM)) cM 2 (.slice (some ⟨r,0,none⟩) 0 0) (([]:List Pr).map Pr.cells) [r]:=eO.lit (n:=0) (Pr.rows []) dJ (by simp) (by decide) rfl;generalize h.set r (.cells #[] cM)=h1' at *;have f1:eN h [r]:=eN.one hr';have hb1:=u1.get h1;have c0:dB h1' ⟨b,0,none⟩=some nv:=by simp[dB,hb1]
  obtain⟨w2,y1,y2⟩:=(h2.ext u1).cutP (lo:=none) (hi:=some (.int .i64 (A.length:Int))) (a:=0) (m:=A.length) (.inl ⟨rfl,rfl⟩) (.inr ⟨_,rfl⟩) (by omega) (by omega);have eA:(s.now.take A.length).drop 0=A:=by rw[zLb,c.eq,List.take_left]
  rw[eA] at y2;simp only[dM.f0,cJ.load,c0,y1,cE,reduceIte];refine aMh O1 y2 (by simp;omega) λv2 h2' F2 O2 u2 k2=>?_;rw[uL] at O2;have e2:dC h h2':=u1.fresh u2 f1;have f2:eN h F2:=f1.grow u1 k2;have hpb:dG PG (build cM #[(0,.string (tx k)),(1,.string (tx v))])=some (Pr.val ⟨k,v⟩):=aQe ⟨k,v⟩;have hpl:=aUr ⟨k,v⟩;simp only[hpb,hpl,cE,reduceIte];intro r3 hr3;refine fT ?_
  try rw[cW]
  have u3:dC h2' (h2'.set r3 (.cells #[.string (tx k),.string (tx v)] cM)):=cT.new hr3;have s3:gB (h2'.set r3 (.cells #[.string (tx k),.string (tx v)] cM)) 2 (.slice (some ⟨r3,0,none⟩) 1 1) ([(⟨k,v⟩:Pr)].map Pr.cells):=(eO.lit (n:=1) (Pr.rows [⟨k,v⟩]) dJ (by simp) (by decide) rfl).slR;generalize h2'.set r3 (.cells #[.string (tx k),.string (tx v)] cM)=h3' at *;have e3:dC h h3':=e2.trans u3;refine aMh (O2.ext u3) s3 (by simp;omega) λv4 h4' F4 O4 u4 k4=>?_;have e4:dC h h4':=e3.fresh u4 f2;have f4:eN h F4:=f2.grow e3 k4;refine aMh O4 (S9.ext e4) (by simp;omega) λv5 h5' F5 O5 u5 k5=>?_;have e5:dC h h5':=e4.fresh u5 f4;have f5:eN h F5:=f4.grow e4 k5;have eL:(A++[(⟨k,v⟩:Pr)])++B=oP s.now ⟨k,v⟩:=by rw[c.set hok.up];simp
  rw[eL] at O5;have hb5:=e5.get h1;have hvc:fX v5=true:=by obtain⟨_,_,e,_⟩:=O5.slR.here;rw[e];rfl
  try simp only[dM.f0,cE,reduceIte]
  refine jD cJ.und rfl hb5 (by simp) hvc cJ.info cJ.size ?_;have hs:aCn s k v=({s with now:=oP s.now ⟨k,v⟩},0):=by unfold aCn;rw[if_neg hr,if_neg hc]
  rw[hs] at hk;obtain⟨q1,q2,q3⟩:=aAL.now hH h1 e5 O5 f5 (hok.setOk hr hc) rfl;exact hk _ _ q1 q2 q3
 rcases c.mid with e|⟨q,e,e2⟩
 ·have gM:decide (M≠[])=false:=by simp[e]
  have hgn:iI s.now k=none:=by rw[gM] at hget;simpa using hget
  have eB:s.now.drop A.length=B:=by rw[c.eq,List.drop_left,e,uL]
  rw[eB] at x2;have ln:=h2.len (t':=bT) cJ.und;rw[jB] at ln;by_cases d4:4096≤s.now.length
  ·have g4:((4096:Int)≤(s.now.length:Int))=True:=eq_true (by omega);simp only[gM,dM.f0,cJ.load,c0,ln,g4,cE,reduceIte];have hs:aCn s k v=(s,2):=by unfold aCn;rw[if_neg hr,if_pos ⟨hgn,d4⟩]
   rw[hs] at hk;exact hk h G hH cT.refl (λg hg=>.inl hg)
  ·have g4:((4096:Int)≤(s.now.length:Int))=False:=eq_false (by omega);simp only[gM,dM.f0,cJ.load,c0,ln,g4,cE,reduceIte];exact fin w1 x2 (λh=>d4 h.2)
 ·have gM:decide (M≠[])=true:=by simp[e]
  have hgn:¬iI s.now k=none:=λh=>by rw[h,gM] at hget;simp at hget
  have gi:IntKind.i64.wrap ((A.length:Int)+1)=((A.length+1:Nat):Int):=by rw[fI (by omega) (by omega)];omega
  have hM1:M.length=1:=by rw[e];rfl
  obtain⟨w3,z1,z2⟩:=h2.cutP (lo:=some (.int .i64 ((A.length+1:Nat):Int))) (hi:=none) (a:=A.length+1) (m:=s.now.length) (.inr ⟨_,rfl⟩) (.inl ⟨rfl,rfl⟩) (by omega) (pF _);have eB:(s.now.take s.now.length).drop (A.length+1)=B:=by
   rw[zLJ,c.eq,←nK];have:A.length+1=(A++M).length:=by rw[jS,hM1]
   rw[this,List.drop_left]
  rw[eB] at z2;simp only[gM,dM.f0,cJ.load,c0,gi,z1,cE,reduceIte];exact fin w3 z2 (λh=>hgn h.1)
def aWx{h:PH}{b:Nat}{s:St}{G:List Nat}(H:aAL h b s G)(k:Tx){kk:cD}(hk:∀h' G',aAL h' b (aFY s k).1 G'->cT [b] h h'->(∀g∈G',g∈G∨h g=none)->kk (.int .i64 (aFY s k).2) h'):
  aT PG oG #[pT b 0,.string (tx k)] h kk:=by
 apply nR.call;unfold nR;have hok:=H.ok;have hH:=H;obtain⟨A,M,B,c⟩:=hok.up.cut k;obtain⟨nv,bv,bl,h1,h2,h3,h4,h5,h6,h7,h8,h9⟩:=H.here;have c0:dB h ⟨b,0,none⟩=some nv:=by simp[dB,h1]
 have hlen:s.now.length=A.length+(M.length+B.length):=by rw[c.eq];simp
 have hfew:=hok.few;have hget:=c.get hok.up;refine aPR H c ?_;rcases c.mid with e|⟨q,e,e2⟩
 ·have gM:decide (M≠[])=false:=by simp[e]
  have hgn:iI s.now k=none:=by rw[gM] at hget;simpa using hget
  simp only[gM,cE,reduceIte];have hs:aFY s k=(s,3):=by unfold aFY;rw[if_pos hgn]
  rw[hs] at hk;exact hk h G hH cT.refl (λg hg=>.inl hg)
 ·have gM:decide (M≠[])=true:=by simp[e]
  have hgn:¬iI s.now k=none:=λh=>by rw[h,gM] at hget;simp at hget
  have gi:IntKind.i64.wrap ((A.length:Int)+1)=((A.length+1:Nat):Int):=by rw[fI (by omega) (by omega)];omega
  have hM1:M.length=1:=by rw[e];rfl
  obtain⟨w3,z1,z2⟩:=h2.cutP (lo:=some (.int .i64 ((A.length+1:Nat):Int))) (hi:=none) (a:=A.length+1) (m:=s.now.length) (.inr ⟨_,rfl⟩) (.inl ⟨rfl,rfl⟩) (by omega) (pF _);have eB:(s.now.take s.now.length).drop (A.length+1)=B:=by
   rw[zLJ,c.eq,←nK];have:A.length+1=(A++M).length:=by rw[jS,hM1]
   rw[this,List.drop_left]
  rw[eB] at z2;obtain⟨w2,y1,y2⟩:=h2.cutP (lo:=none) (hi:=some (.int .i64 (A.length:Int))) (a:=0) (m:=A.length) (.inl ⟨rfl,rfl⟩) (.inr ⟨_,rfl⟩) (by omega) (by omega);have eA:(s.now.take A.length).drop 0=A:=by rw[zLb,c.eq,List.take_left]
  rw[eA] at y2;simp only[gM,dM.f0,cJ.load,c0,gi,y1,z1,aTt,cE,reduceIte];intro r hr';refine fT ?_
  try rw[cW]
  have u1:dC h (h.set r (.cells #[] cM)):=cT.new hr';have O1:eO (h.set r (.cells #[] cM)) cM 2 (.slice (some ⟨r,0,none⟩) 0 0) (([]:List Pr).map Pr.cells) [r]:=eO.lit (n:=0) (Pr.rows []) dJ (by simp) (by decide) rfl;generalize h.set r (.cells #[] cM)=h1' at *;have f1:eN h [r]:=eN.one hr';refine aMh O1 (y2.ext u1) (by simp;omega) λv2 h2' F2 O2 u2 k2=>?_;rw[uL] at O2;have e2:dC h h2':=u1.fresh u2 f1;have f2:eN h F2:=f1.grow u1 k2;have hb2:=e2.get h1;refine⟨by simp[dB,hb2],?_⟩;refine aMh O2 (z2.ext e2) (by omega) λv5 h5' F5 O5 u5 k5=>?_;have e5:dC h h5':=e2.fresh u5 f2;have f5:eN h F5:=f2.grow e2 k5;rw[←c.del] at O5;have hb5:=e5.get h1;have hvc:fX v5=true:=by obtain⟨_,_,e,_⟩:=O5.slR.here;rw[e];rfl
  try simp only[dM.f0,cE,reduceIte]
  refine jD cJ.und rfl hb5 (by simp) hvc cJ.info cJ.size ?_;have hs:aFY s k=({s with now:=uE s.now k},0):=by unfold aFY;rw[if_neg hgn]
  rw[hs] at hk;obtain⟨q1,q2,q3⟩:=aAL.now hH h1 e5 O5 f5 ⟨hok.up.del _,λp hp=>hok.fit p (aPr.1 hp).1,zLE (aNr _ _) hok.few,hok.blk,hok.h1,hok.h2,hok.h3,hok.h4⟩ rfl;exact hk _ _ q1 q2 q3
def aDN{h:PH}{b:Nat}{s:St}{G:List Nat}(H:aAL h b s G){kk:cD}(hk:kk (.int .u64 s.height) h):aT PG kD #[pT b 0] h kk:=by
 apply nU.call;unfold nU;have hok:=H.ok;obtain⟨nv,bv,bl,h1,h2,h3,h4,h5,h6,h7,h8,h9⟩:=H.here;have c1:dB h ⟨b,0+1,none⟩=some (.int .u64 ((s.height-(s.blocks.length-1):Nat):Int)):=by simp[dB,h1]
 have c2:dB h ⟨b,0+2,none⟩=some bv:=by simp[dB,h1]
 have ln:=h3.len (t':=bT) fK.und;rw[jB,show bl.length=s.blocks.length by rw[←h5,jB]] at ln;have a1:=hok.h1;have a2:=hok.h2;have a3:=hok.h3;have a4:=hok.h4;have e1:IntKind.i64.wrap ((s.blocks.length:Int)-1)=((s.blocks.length-1:Nat):Int):=by rw[fI (by omega) (by omega)];omega
 have e2:IntKind.u64.wrap ((s.blocks.length-1:Nat):Int)=((s.blocks.length-1:Nat):Int):=gL (by omega) (by omega);have e3:IntKind.u64.wrap (((s.height-(s.blocks.length-1):Nat):Int)+((s.blocks.length-1:Nat):Int))=(s.height:Int):=by rw[gL (by omega) (by omega)];omega
 simp only[dM.f1,dM.f2,cA.load,fK.load,c1,c2,ln,e1,aBP,e2,e3,cE,reduceIte];exact hk
def aWp{h:PH}{v x:Value}{l ys:List (Value×List Pr)}{F:List Nat}(O:eO h cJ 1 v (l.map aFF) F)(S:gB h 1 x (ys.map aFF))(hy:∀y∈ys,fX y.1=true)(hl:l.length+ys.length≤1000000){t:TypeId}{k:cD}
  (hk:∀v' h' F',eO h' cJ 1 v' ((l++ys).map aFF) F'->cT F h h'->(∀b∈F',b∈F∨h b=none)->k v' h'):dA PG (Builtin.append_ #[fK,fK] t #[v,x]) h k:=by
 refine jL fK.und fK.und cJ.info cJ.size cJ.bytes cJ.zero rfl (by decide) O S ?_ (by simp;omega) ?_
 ·intro r hr u hu;obtain⟨y,hyy,rfl⟩:=mG.1 hr;simp only[aFF,gE] at hu;subst hu;exact hy y hyy
 intro v' h' F' O' u' k' _;rw[←pY] at O';exact hk v' h' F' O' u' k'
def aXX{h:PH}{b:Nat}{s:St}{G:List Nat}(H:aAL h b s G){kk:cD}(hk:∀h' G',aAL h' b (lS s).1 G'->cT [b] h h'->(∀g∈G',g∈G∨h g=none)->kk (.tuple #[.int .u64 ((lS s).2.1:Int),.int .i64 (lS s).2.2]) h'):
  aT PG wW #[pT b 0] h kk:=by
 apply nQ.call;unfold nQ;refine aDN H ?_;have hok:=H.ok;have hH:=H;have a1:=hok.h1;have a2:=hok.h2;have a3:=hok.h3;have a4:=hok.h4;by_cases d1:s.height=18446744073709551615
 ·have e1:IntKind.u64.wrap ((s.height:Int)+1)=0:=by
   rw[d1];rfl
  simp only[e1,show((0:Int)==0)=true from rfl,cE,reduceIte];have hs:lS s=(s,(0,12)):=by unfold lS;rw[if_pos d1]
  rw[hs] at hk;exact hk h G hH cT.refl (λg hg=>.inl hg)
 have e1:IntKind.u64.wrap ((s.height:Int)+1)=((s.height+1:Nat):Int):=by rw[gL (by omega) (by omega)];omega
 have g1:(((s.height+1:Nat):Int)==0)=false:=by simp;omega
 obtain⟨nv,bv,bl,h1,h2,h3,h4,h5,h6,h7,h8,h9⟩:=H.here;have c0:dB h ⟨b,0,none⟩=some nv:=by simp[dB,h1]
 have c2:dB h ⟨b,0+2,none⟩=some bv:=by simp[dB,h1]
 have ln:=h3.len (t':=bT) fK.und;have hbn:bl.length=s.blocks.length:=by rw[←h5,jB]
 rw[jB,hbn] at ln;by_cases d2:4096≤s.blocks.length
 ·have g2:((4096:Int)≤(s.blocks.length:Int))=True:=eq_true (by omega);simp only[e1,g1,dM.f2,fK.load,c2,ln,g2,cE,reduceIte];have hs:lS s=(s,(0,2)):=by unfold lS;rw[if_neg d1,if_pos d2]
  rw[hs] at hk;exact hk h G hH cT.refl (λg hg=>.inl hg)
 have g2:((4096:Int)≤(s.blocks.length:Int))=False:=eq_false (by omega);have l0:jZ PG (buildSlice fK 0 #[])=some (.cells #[] cJ,λr=>pure (.slice (some ⟨r,0,none⟩) 0 0)):=by kernel_rfl
 simp only[e1,g1,dM.f0,dM.f2,cJ.load,fK.load,c0,c2,ln,g2,l0,cE,reduceIte];intro r hr';refine fT ?_
 try rw[cW]
 have u1:dC h (h.set r (.cells #[] cJ)):=cT.new hr';have O1:eO (h.set r (.cells #[] cJ)) cJ 1 (.slice (some ⟨r,0,none⟩) 0 0) (([]:List (Value×List Pr)).map aFF) [r]:=eO.lit (n:=0) (aFF.rows []) dJ (by simp) (by decide) rfl;generalize h.set r (.cells #[] cJ)=h1' at *;have f1:eN h [r]:=eN.one hr';refine aWp O1 (h3.ext u1) (λy hy=>(h4 y hy).1.isc) (by simp;omega) λv2 h2' F2 O2 u2 k2=>?_;rw[uL] at O2;have e2:dC h h2':=u1.fresh u2 f1;have f2:eN h F2:=f1.grow u1 k2;have hb2:=e2.get h1;refine⟨by simp[dB,hb2],?_⟩;have hnl:∃a n c,nv= .slice a n c:=by obtain⟨a,c,e,_⟩:=h2.here;exact⟨a,_,c,e⟩
 have l1:jZ PG (buildSlice fK 1 #[(0,nv)])=some (.cells #[nv] cJ,λr=>pure (.slice (some ⟨r,0,none⟩) 1 1)):=by
  obtain⟨a,n,c,rfl⟩:=hnl
  kernel_rfl
 simp only[l1,cE,reduceIte];intro r3 hr3;refine fT ?_
 try rw[cW]
 have u3:dC h2' (h2'.set r3 (.cells #[nv] cJ)):=cT.new hr3;have s3:gB (h2'.set r3 (.cells #[nv] cJ)) 1 (.slice (some ⟨r3,0,none⟩) 1 1) ([((nv:Value),s.now)].map aFF):=(eO.lit (n:=1) (aFF.rows [(nv,s.now)]) dJ (by simp) (by decide) rfl).slR;generalize h2'.set r3 (.cells #[nv] cJ)=h3' at *;have e3:dC h h3':=e2.trans u3;refine aWp (O2.ext u3) s3 (λy hy=>by simp only[gE] at hy;subst hy;exact h2.isc) (by simp;omega) λv5 h5' F5 O5 u5 k5=>?_;have e5:dC h h5':=e3.fresh u5 f2;have f5:eN h F5:=f2.grow e3 k5;have hb5:=e5.get h1
 try simp only[dM.f2,cE,reduceIte]
 refine jD fK.und rfl hb5 (by simp) O5.slR.isc fK.info fK.size ?_;have ew:(#[nv,.int .u64 ((s.height-(s.blocks.length-1):Nat):Int),bv]:Array Value).setIfInBounds (0+2) v5= #[nv,.int .u64 ((s.height-(s.blocks.length-1):Nat):Int),v5]:=rfl;rw[ew];have u6:cT [b] h5' (h5'.set b (.cells #[nv,.int .u64 ((s.height-(s.blocks.length-1):Nat):Int),v5] dM (0,0))):=cT.set (by simp);have b6:(h5'.set b (.cells #[nv,.int .u64 ((s.height-(s.blocks.length-1):Nat):Int),v5] dM (0,0))) b=some (.cells #[nv,.int .u64 ((s.height-(s.blocks.length-1):Nat):Int),v5] dM (0,0)):=dJ;generalize h5'.set b (.cells #[nv,.int .u64 ((s.height-(s.blocks.length-1):Nat):Int),v5] dM (0,0))=h6' at *;have hs:lS s=({s with blocks:=s.blocks++[s.now],height:=s.height+1},(s.height+1,0)):=by unfold lS;rw[if_neg d1,if_neg d2]
 rw[hs] at hk;have uu:cT [b] h h6':=e5.upd.trans u6;have hG:∀g∈G,g∉[b]:=λg hg=>by simp only[gE];rintro rfl;exact h8 hg
 have hF:∀g∈F5,g∉[b]:=λg hg=>by
  simp only[gE];rintro rfl;have:=f5 _ hg;rw[h1] at this;cases this
 have O6:=O5.upd u6 hF;have hnew:aAL h6' b {s with blocks:=s.blocks++[s.now],height:=s.height+1} (G++F5):=by
  refine⟨⟨nv,v5,bl++[(nv,s.now)],?_,h2.upd uu λa n c e=>hG _ (h6 a n c e),O6.slR,λx hx=>?_,by rw[pY,h5];rfl,λa n c e=>zLk _ (h6 a n c e),λa n c e=>zLl _ (aGf O6 a n c e),?_,λg hg=>?_⟩,?_⟩
  ·have eh:s.height+1-((s.blocks++[s.now]).length-1)=s.height-(s.blocks.length-1):=by
    simp only[jS,zLT];omega
   show h6' b=some (.cells #[nv,.int .u64 ((s.height+1-((s.blocks++[s.now]).length-1):Nat):Int),v5] dM (0,0));rw[eh];exact b6
  ·rw[kA] at hx;rcases hx with hx|hx
   ·exact⟨(h4 x hx).1.upd uu λa n c e=>hG _ ((h4 x hx).2 a n c e),λa n c e=>zLk _ ((h4 x hx).2 a n c e)⟩
   ·simp only[gE] at hx;subst hx;exact⟨h2.upd uu λa n c e=>hG _ (h6 a n c e),λa n c e=>zLk _ (h6 a n c e)⟩
  ·intro hm;rcases kA.1 hm with hm|hm
   ·exact h8 hm
   ·exact hF _ hm (by simp)
  ·rcases kA.1 hg with hg|hg
   ·obtain⟨o,ho⟩:=aHi.1 (h9 g hg);rw[uu.get ho (hG g hg)];simp
   ·exact O6.known g hg
  ·refine⟨hok.up,hok.fit,hok.few,λb hb=>?_,?_,?_,?_,?_⟩
   ·simp only[kA,gE] at hb;rcases hb with hb|rfl
    ·exact hok.blk b hb
    ·exact⟨hok.up,hok.fit,hok.few⟩
   ·simp
   ·simp only[jS,zLT];omega
   ·simp only[jS,zLT];omega
   ·show s.height+1<18446744073709551616;omega
 refine aDN hnew ?_;refine hk h6' (G++F5) hnew uu λg hg=>?_;rcases kA.1 hg with hg|hg
 ·exact .inl hg
 ·exact .inr (f5 g hg)
end
section
open Go
def aIE{h:PH}(p:Pk)(hs0:0≤p.s)(ht0:0≤p.t){k:cD}(hk:∀h',dC h h'->k (.bool p.right) h'):aT PG oI #[.agg p.cells.toArray] h k:=by
 apply aBi.call;unfold aBi;intro r hr;rw[cW];have u:dC h (h.set r (.cells (Value.cells (.agg p.cells.toArray)) aR)):=cT.new hr;have b:Bx (h.set r (.cells (Value.cells (.agg p.cells.toArray)) aR)) r p.cells:=Bx.new;generalize h.set r (.cells (Value.cells (.agg p.cells.toArray)) aR)=h1 at *;have c0:dB h1 ⟨r,0,none⟩=some (.int .i64 p.f):=b.cell 0;have c1:dB h1 ⟨r,0+1,none⟩=some (.int .u64 p.s):=b.cell 1;have c2:dB h1 ⟨r,0+2,none⟩=some (.int .u64 p.t):=b.cell 2;have c3:dB h1 ⟨r,0+3,none⟩=some (.string p.d):=b.cell 3;have hk:=hk h1 u;unfold Pk.right at hk;have hf:(p.f=0∨p.f=1)∨(p.f<0∨1<p.f):=by omega
 rcases hf with hf|hf
 ·have g1:(0≤p.f)=True:=by apply eq_true;omega
  have g2:(p.f≤1)=True:=by apply eq_true;omega
  have go:cH PG h1 (loadAt bT (pT r 0))=some (.int .i64 p.f):=by rw[bT.load,c0]
  have first:∀X:Prop,X->X:=λ_ x=>x
  by_cases h3:p.s=0
  ·have e3:((0:Int)<p.s)=False:=by apply eq_false;omega
   have e3':(p.s≠0)=False:=by simp[h3]
   simp only[g1,g2,e3',decide_false,vN,aFa,cE,reduceIte] at hk;rcases hf with hf|hf
   ·have d0:(p.f==0)=true:=by simp[hf]
    simp only[aR.f0,aR.f1,aR.f2,aR.f3,bT.load,cA.load,bR.load,c0,d0,c1,e3,cE,reduceIte];exact hk
   ·have d0:(p.f==0)=false:=by simp[hf]
    have d1:(p.f==1)=true:=by simp[hf]
    simp only[aR.f0,aR.f1,aR.f2,aR.f3,bT.load,cA.load,bR.load,c0,d0,d1,c1,e3,cE,reduceIte];exact hk
  ·have e3:((0:Int)<p.s)=True:=by apply eq_true;omega
   have e3':(p.s≠0)=True:=by simp[h3]
   by_cases h4:p.t=0
   ·have e4:((0:Int)<p.t)=False:=by apply eq_false;omega
    have e4':(p.t≠0)=False:=by simp[h4]
    simp only[g1,g2,e3',e4',decide_false,vN,aFa,cE,reduceIte] at hk;rcases hf with hf|hf
    ·have d0:(p.f==0)=true:=by simp[hf]
     simp only[aR.f0,aR.f1,aR.f2,aR.f3,bT.load,cA.load,bR.load,c0,d0,c1,e3,c2,e4,cE,reduceIte];exact hk
    ·have d0:(p.f==0)=false:=by simp[hf]
     have d1:(p.f==1)=true:=by simp[hf]
     simp only[aR.f0,aR.f1,aR.f2,aR.f3,bT.load,cA.load,bR.load,c0,d0,d1,c1,e3,c2,e4,cE,reduceIte];exact hk
   ·have e4:((0:Int)<p.t)=True:=by apply eq_true;omega
    have e4':(p.t≠0)=True:=by simp[h4]
    have e5:decide ((p.d.size:Int)≤64)=decide (p.d.size≤64):=by
     rw[zLm];simp only[decide_eq_true_eq];omega
    simp only[g1,g2,e3',e4',Bool.and_self,zLp,cE,reduceIte] at hk;rcases hf with hf|hf
    ·have d0:(p.f==0)=true:=by simp[hf]
     simp only[aR.f0,aR.f1,aR.f2,aR.f3,bT.load,cA.load,bR.load,c0,d0,c1,e3,c2,e4,c3,mL bR.und,e5,cE,reduceIte];exact hk
    ·have d0:(p.f==0)=false:=by simp[hf]
     have d1:(p.f==1)=true:=by simp[hf]
     simp only[aR.f0,aR.f1,aR.f2,aR.f3,bT.load,cA.load,bR.load,c0,d0,d1,c1,e3,c2,e4,c3,mL bR.und,e5,cE,reduceIte];exact hk
 ·have d0:(p.f==0)=false:=by simp;omega
  have d1:(p.f==1)=false:=by simp;omega
  have g:(decide (0≤p.f)&&decide (p.f≤1))=false:=by
   rw[Bool.and_eq_false_iff];simp only[decide_eq_false_iff_not];omega
  simp only[g,vN] at hk;simp only[aR.f0,bT.load,c0,d0,d1,cE,reduceIte];exact hk
def sG(p:Pk):List Tx:=if p.right then [p.bs] else []
def aIW(p:Pk):List Tx:=if p.right then [[97,99,107]++p.bs] else []
def aLG{h:PH}{b m:Nat}{A:List Tx}{K:List Nat}(H:Bk b m A K h){p:Pk}(w:p.wf){k:cD}(hk:∀h',Bk b m (sG p++A) K h'->cT [b,m] h h'->k (.string (tx (qY p))) h'):
  aT PG pI #[pT b 0,p.v] h k:=by
 apply wH.call;unfold wH;intro r1 hr1
 try rw[cW]
 have u1:dC h (h.set r1 (.cells (Value.cells p.v) aR)):=cT.new hr1;have B1:Bx (h.set r1 (.cells (Value.cells p.v) aR)) r1 p.cells:=Bx.new;generalize h.set r1 (.cells (Value.cells p.v) aR)=h1 at *;have lp:∀{h':PH},dC h1 h'->cH PG h' (loadAt aR (pT r1 0))=some (.agg p.cells.toArray):=λu=>(B1.ext u).pk rfl;simp only[lp cT.refl,cE,reduceIte,cV,Nat.reduceAdd];refine aIE p w.1 w.2.2.1 λh2 u2=>?_;unfold sG qY aJF at hk;cases hr:p.right with
 | false=>
  simp only[hr,zLu,if_false,uL] at hk;simp only[aBR,cE,reduceIte,cV,Nat.reduceAdd];exact hk h2 (H.ext (u1.trans u2)) (u1.trans u2).upd
 | true=>
  simp only[hr,if_true] at hk;simp only[lp u2,cE,reduceIte,cV,Nat.reduceAdd];refine aOB w hr λh3 u3=>?_;have e3:=(u1.trans u2).trans u3;have hb:=aNX hr;refine aM0 (H.ext e3) (by omega) λh4 B4 u4=>?_;exact hk h4 B4 (e3.upd.trans u4)
def aOJ{h:PH}{b m:Nat}{A:List Tx}{K:List Nat}(H:Bk b m A K h){p:Pk}(w:p.wf){k:cD}(hk:∀h',Bk b m (aIW p++A) K h'->cT [b,m] h h'->k (.string (tx (aEm p))) h'):
  aT PG xK #[pT b 0,p.v] h k:=by
 apply aAs.call;unfold aAs;intro r1 hr1
 try rw[cW]
 have u1:dC h (h.set r1 (.cells (Value.cells p.v) aR)):=cT.new hr1;have B1:Bx (h.set r1 (.cells (Value.cells p.v) aR)) r1 p.cells:=Bx.new;generalize h.set r1 (.cells (Value.cells p.v) aR)=h1 at *;have lp:∀{h':PH},dC h1 h'->cH PG h' (loadAt aR (pT r1 0))=some (.agg p.cells.toArray):=λu=>(B1.ext u).pk rfl;simp only[lp cT.refl,cE,reduceIte,cV,Nat.reduceAdd];refine aIE p w.1 w.2.2.1 λh2 u2=>?_;unfold aIW aEm aJF at hk;cases hr:p.right with
 | false=>
  simp only[hr,zLu,if_false,uL] at hk;simp only[aBR,cE,reduceIte,cV,Nat.reduceAdd];exact hk h2 (H.ext (u1.trans u2)) (u1.trans u2).upd
 | true=>
  simp only[hr,if_true] at hk;simp only[lp u2,cE,reduceIte,cV,Nat.reduceAdd];refine aOB w hr λh3 u3=>?_;have e3:=(u1.trans u2).trans u3;have hb:=aNX hr;have qa:({data:=#[97,99,107]}:ByteArray)=tx [97,99,107]:=rfl;have s1:dG PG (binOp .add bR (.string (tx [97,99,107])) (.string (tx p.bs)))=some (.string (tx ([97,99,107]++p.bs))):=mC (by simp;omega);simp only[qa,s1,cE,reduceIte,cV,Nat.reduceAdd];refine aM0 (H.ext e3) (by simp;omega) λh4 B4 u4=>?_;exact hk h4 B4 (e3.upd.trans u4)
structure Ch.DOk(s:Ch):Prop where
 id:s.id=0∨s.id=1
 seq:s.seq<18446744073709551616
 rk:∃hs,wJ hs s.cl
 few:s.cl.length≤4096
 pos:∀y∈hts s.cl,0≤y∧y<18446744073709551616
def rJ(b m:Nat)(A:List Tx)(K:List Nat):mT:=λh F=>F=b::m::K∧Bk b m A K h
def rJ.good(b m:Nat)(A:List Tx)(K:List Nat):mE (rJ b m A K):=⟨λ⟨e,H⟩ x hx=>H.known x (e▸hx),λ⟨e,H⟩ u hK=>⟨e,H.upd u (λx hx=>hK x (e▸hx))⟩⟩
def rsA(sp:Nat)(s:St):mT:=λh F=>∃G,aAL h sp s G∧F=sp::G
def rsA.good(sp:Nat)(s:St):mE (rsA sp s):=⟨λ⟨G,H,e⟩ x hx=>H.known x (e▸hx),λ⟨G,H,e⟩ u hK=>⟨G,H.upd u (hK _ (by rw[e];simp)) (λg hg=>hK g (by rw[e];simp[hg])),e⟩⟩
def krA(cp:Nat)(l:List iA):mT:=λh F=>xW h cp l F
def krA.good(cp:Nat)(l:List iA):mE (krA cp l):=⟨λH=>xW.known H,λH u hK=>xW.upd H u hK⟩
def noA(w:Value)(n:Nat):mT:=λh F=>∃ns:List Nt,eO h dI 5 w (ns.map Nt.cells) F∧ns.length≤n
def noA.good(w:Value)(n:Nat):mE (noA w n):=⟨λ⟨_,O,_⟩=>O.known,λ⟨ns,O,l⟩ u hK=>⟨ns,O.upd u hK,l⟩⟩
def boA(v:Value)(n:Nat):mT:=λh F=>∃rows:List (List Value),eO h cU 1 v rows F∧rows.length≤n∧∀r∈rows,∀u∈r,fX u=true
def boA.good(v:Value)(n:Nat):mE (boA v n):=⟨λ⟨_,O,_⟩=>O.known,λ⟨ns,O,l⟩ u hK=>⟨ns,O.upd u hK,l⟩⟩
def Ch.dcells(s:Ch)(b sp cp:Nat)(bv nv:Value):List Value:=[pT b 0,.int .i64 s.id,pT sp 0,pT cp 0,.int .u64 (s.seq:Int),bv,nv]
def nL(c:Nat)(cs:List Value)(sp:Nat)(st:St)(cp:Nat)(cl:List iA)(bv nv:Value)(n:Nat):mT:=eI (oJ c cs) (eI (rsA sp st) (eI (krA cp cl) (eI (boA bv n) (noA nv n))))
def DC(c b:Nat)(s:Ch)(n:Nat):mT:=λh F=>∃sp cp bv nv,nL c (s.dcells b sp cp bv nv) sp s.st cp s.cl bv nv n h F
def nL.good{c:Nat}{cs:List Value}{sp:Nat}{st:St}{cp:Nat}{cl:List iA}{bv nv:Value}{n:Nat}:mE (nL c cs sp st cp cl bv nv n):=(oJ.good _ _).star ((rsA.good _ _).star ((krA.good _ _).star ((boA.good _ _).star (noA.good _ _))))
def DC.good(c b:Nat)(s:Ch)(n:Nat):mE (DC c b s n):=⟨λ⟨_,_,_,_,H⟩=>nL.good.known H,λ⟨a,b,c,d,H⟩ u hK=>⟨a,b,c,d,nL.good.upd H u hK⟩⟩
section
variable{c:Nat}{cs:List Value}{sp:Nat}{st:St}{cp:Nat}{cl:List iA}{bv nv:Value}{n:Nat}{h:PH}{F:List Nat}(H:nL c cs sp st cp cl bv nv n h F)
include H
def nL.fBox:uC h F (oJ c cs) (λX=>eI X (eI (rsA sp st) (eI (krA cp cl) (eI (boA bv n) (noA nv n))))):=eI.left ((rsA.good _ _).star ((krA.good _ _).star ((boA.good _ _).star (noA.good _ _)))) H
def nL.fSt:uC h F (rsA sp st) (λX=>eI (oJ c cs) (eI X (eI (krA cp cl) (eI (boA bv n) (noA nv n))))):=(eI.right (oJ.good _ _) H).comp λ_ H=>eI.left ((krA.good _ _).star ((boA.good _ _).star (noA.good _ _))) H
def nL.fCl:uC h F (krA cp cl) (λX=>eI (oJ c cs) (eI (rsA sp st) (eI X (eI (boA bv n) (noA nv n))))):=(eI.right (oJ.good _ _) H).comp λ_ H=>(eI.right (rsA.good _ _) H).comp λ_ H=>eI.left ((boA.good _ _).star (noA.good _ _)) H
def nL.fTwo:uC h F (eI (boA bv n) (noA nv n)) (λX=>eI (oJ c cs) (eI (rsA sp st) (eI (krA cp cl) X))):=(eI.right (oJ.good _ _) H).comp λ_ H=>(eI.right (rsA.good _ _) H).comp λ_ H=>eI.right (krA.good _ _) H
def nL.cell:Bx h c cs:=by
 obtain⟨Fa,⟨-,B⟩,-,-⟩:=nL.fBox H;exact B
def nL.okst:st.Ok:=by
 obtain⟨Fs,⟨G,S,-⟩,-,-⟩:=nL.fSt H;exact S.ok
end
section
variable{h:PH}{c:Nat}{s:Ch}{b sp cp:Nat}{bv nv:Value}(B:Bx h c (s.dcells b sp cp bv nv))
include B
def dl0:cH PG h (loadAt gG (pT c 0))=some (pT b 0):=by rw[gG.load,B.cell];rfl
def dl1:cH PG h (loadAt bT (pT c 1))=some (.int .i64 s.id):=by rw[bT.load,B.cell];rfl
def dl2:cH PG h (loadAt fJ (pT c 2))=some (pT sp 0):=by rw[fJ.load,B.cell];rfl
def dl3:cH PG h (loadAt jU (pT c 3))=some (pT cp 0):=by rw[jU.load,B.cell];rfl
def dl4:cH PG h (loadAt cA (pT c 4))=some (.int .u64 (s.seq:Int)):=by rw[cA.load,B.cell];rfl
def dl5:cH PG h (loadAt eP (pT c 5))=some bv:=by rw[eP.load,B.cell];rfl
def dl6:cH PG h (loadAt cU (pT c 6))=some nv:=by rw[cU.load,B.cell];rfl
end
def aYz(k:Int)(p:Pk):dG PG (build dI #[(0,.int .i64 k),(1,.agg p.cells.toArray)])=some (.agg (Nt.cells ⟨k,p⟩).toArray):=by kernel_rfl
def aZm:jZ PG (buildSlice cU 0 #[])=some (.cells #[] dI,λr=>pure (.slice (some ⟨r,0,none⟩) 0 0)):=by kernel_rfl
def aQk{h:PH}{c b:Nat}{s:Ch}{n:Nat}{F:List Nat}(H:DC c b s n h F)(m:Nat)(hm:m≤10){k:cD}(hk:k (.bool (decide (s.st.now.length+m≤4096))) h):aT PG sA #[pT c 0,.int .i64 (m:Int)] h k:=by
 apply wB.call;unfold wB;obtain⟨sp,cp,bv,nv,P⟩:=H;have hfew:=P.okst.few;obtain⟨Fs,⟨G,S,-⟩,-,-⟩:=P.fSt;obtain⟨nv',bv',bl,h1,h2,-⟩:=S.here;have l0:cH PG h (loadAt cJ (pT sp 0))=some nv':=by rw[cJ.load];simp[dB,h1]
 have ll:=h2.len (t':=bT) cJ.und;rw[jB] at ll;have w:IntKind.i64.wrap ((s.st.now.length:Int)+(m:Int))=((s.st.now.length+m:Nat):Int):=by rw[fI (by omega) (by omega)];omega
 have d:decide (((s.st.now.length+m:Nat):Int)≤4096)=decide (s.st.now.length+m≤4096):=by
  rw[zLm];simp only[decide_eq_true_eq];omega
 simp only[cQ.f2,dM.f0,fO,dl2 P.cell,l0,ll,w,d,cE,reduceIte,cV,Nat.reduceAdd];exact hk
def aKx{h:PH}{c b:Nat}{s:Ch}{n:Nat}{F:List Nat}(H:DC c b s n h F)(hn:n≤10000)(kind:Int)(p:Pk){k:cD}(hk:∀h' F',DC c b s (n+1) h' F'->jJ h F h' F'->k (.tuple #[]) h'):
  aT PG nH #[pT c 0,.int .i64 kind,p.v] h k:=by
 apply oW.call;unfold oW;obtain⟨sp,cp,bv,nv,P⟩:=H;intro r1 hr1
 try rw[cW]
 have u1:dC h (h.set r1 (.cells (Value.cells p.v) aR)):=cT.new hr1;have B1:Bx (h.set r1 (.cells (Value.cells p.v) aR)) r1 p.cells:=Bx.new;generalize h.set r1 (.cells (Value.cells p.v) aR)=h1 at *;have P1:=nL.good.ext P u1;have lp:∀{h':PH},dC h1 h'->cH PG h' (loadAt aR (pT r1 0))=some (.agg p.cells.toArray):=λu=>(B1.ext u).pk rfl;obtain⟨Ft,⟨Fb,Fn,rfl,⟨rows,Ob,lb,cb⟩,⟨ns,On,ln⟩,hd⟩,hFt,back⟩:=P1.fTwo;simp only[cQ.f6,fO,dl6 P1.cell,lp cT.refl,aYz,aZm,cE,reduceIte,cV,Nat.reduceAdd];intro r8 hr8;refine fT ?_
 try rw[cW]
 have u2:dC h1 (h1.set r8 (.cells #[] dI)):=cT.new hr8;have O2:eO (h1.set r8 (.cells #[] dI)) dI 5 (.slice (some ⟨r8,0,none⟩) 0 0) (([]:List Nt).map Nt.cells) [r8]:=eO.lit (n:=0) (Nt.rows []) dJ (by simp) (by decide) rfl;generalize h1.set r8 (.cells #[] dI)=h2 at *;refine jL cU.und cU.und dI.info dI.size dI.bytes dI.zero rfl (by decide) O2 (On.ext u2).slR (Nt.isC _) (by simp only[jB,zLN];omega) ?_;intro v3 h3 F3 O3 u3 k3 _;rw[iZ,uL] at O3;have e13:dC h1 h3:=u2.fresh u3 (eN.one hr8);have f3:eN h1 F3:=λx hx=>by
  rcases k3 x hx with hx|hx
  ·simp only[gE] at hx;subst hx;exact hr8
  ·exact u2.none hx
 refine⟨lp e13,?_⟩;simp only[aWE,cE,reduceIte,cV,Nat.reduceAdd];intro r14 hr14;refine fT ?_
 try rw[cW]
 have u4:dC h3 (h3.set r14 (.cells (Nt.cells ⟨kind,p⟩).toArray dI (0,0))):=cT.new hr14;have S4:gB (h3.set r14 (.cells (Nt.cells ⟨kind,p⟩).toArray dI (0,0))) 5 (.slice (some ⟨r14,0,none⟩) 1 1) ([(⟨kind,p⟩:Nt)].map Nt.cells):=(eO.lit (n:=1) (Nt.rows [⟨kind,p⟩]) dJ (by simp) (by decide) (by simp)).slR;generalize h3.set r14 (.cells (Nt.cells ⟨kind,p⟩).toArray dI (0,0))=h4 at *;refine jL cU.und cU.und dI.info dI.size dI.bytes dI.zero rfl (by decide) (O3.ext u4) S4 (Nt.isC _) (by simp only[jB,zLT];omega) ?_;intro v5 h5 F5 O5 u5 k5 _;rw[←pY] at O5;have e15:dC h1 h5:=(e13.trans u4).fresh u5 f3;have f5:eN h1 F5:=f3.grow (e13.trans u4) k5;have N5:noA v5 (n+1) h5 F5:=⟨ns++[⟨kind,p⟩],O5,by simp;omega⟩;have W5:eI (boA bv (n+1)) (noA v5 (n+1)) h5 (Fb++F5):=eI.mk ⟨rows,Ob.ext e15,by omega,cb⟩ N5 (λx hx hx5=>Ob.known x hx (f5 x hx5));obtain⟨F6,P6,s6⟩:=back _ h5 _ W5 ⟨e15.upd,λx hx=>by
  rcases kA.1 hx with hx|hx
  ·exact .inl (by simp[hx])
  ·exact .inr (f5 x hx)⟩
 have P6:nL c (s.dcells b sp cp bv nv) sp s.st cp s.cl bv v5 (n+1) h5 F6:=P6;obtain⟨Fx,⟨rfl,X6⟩,hFx,back2⟩:=P6.fBox;refine cU.put X6 (o:=6) (by show 6<7;decide) O5.slR.isc λh7 X7 u7=>?_;have X7:Bx h7 c (s.dcells b sp cp bv v5):=X7;obtain⟨F8,P8,s8⟩:=back2 (oJ c (s.dcells b sp cp bv v5)) h7 [c] ⟨rfl,X7⟩ ⟨u7,λx hx=>.inl hx⟩;refine hk h7 F8 ⟨sp,cp,bv,v5,P8⟩ ?_;exact((jJ.ext u1).trans s6).trans s8
def DC.mono{c b:Nat}{s:Ch}{n n':Nat}{h:PH}{F:List Nat}(H:DC c b s n h F)(hn:n≤n'):DC c b s n' h F:=by
 obtain⟨sp,cp,bv,nv,Fx,Fr,rfl,hx,⟨F1,F2,rfl,h1,⟨F3,F4,rfl,h3,⟨F5,F6,rfl,⟨rows,r1,r2,r3⟩,⟨ns,n1,n2⟩,d5⟩,d3⟩,d1⟩,dx⟩:=H;exact⟨sp,cp,bv,nv,Fx,_,rfl,hx,⟨F1,_,rfl,h1,⟨F3,_,rfl,h3,⟨F5,F6,rfl,⟨rows,r1,by omega,r3⟩,⟨ns,n1,by omega⟩,d5⟩,d3⟩,d1⟩,dx⟩
def aHn{b m:Nat}{A A':List Tx}{K:List Nat}{X:mT}(g:mE X){h h':PH}{F:List Nat}(H:eI (rJ b m A K) X h F)(B:Bk b m A' K h')(u:cT [b,m] h h'):eI (rJ b m A' K) X h' F∧jJ h F h' F:=by
 obtain⟨Fa,Fb,rfl,⟨rfl,-⟩,HX,hd⟩:=H;refine⟨⟨_,Fb,rfl,⟨rfl,B⟩,g.upd HX u (λx hx hm=>?_),hd⟩,⟨u.mono λx hx=>.inl ?_,λx hx=>.inl hx⟩⟩
 ·simp only[gU,lH,or_false] at hm;rcases hm with rfl|rfl
  ·exact hd _ (by simp) hx
  ·exact hd _ (by simp) hx
 ·simp only[gU,lH,or_false] at hx;rcases hx with rfl|rfl<;>simp
def aO8{h:PH}{c b:Nat}{s:Ch}{n:Nat}{F:List Nat}{sp cp:Nat}{bv nv:Value}(P:nL c (s.dcells b sp cp bv nv) sp s.st cp s.cl bv nv n h F){k v:Tx}(h1:1≤k.length)(h2:k.length≤16)(h3:v.length≤64)(hr:¬(iI s.st.now k=none∧4096≤s.st.now.length)){kk:cD}
  (hk:∀h' F',nL c ((s.put k v).dcells b sp cp bv nv) sp (s.put k v).st cp (s.put k v).cl bv nv n h' F'->jJ h F h' F'->kk (.int .i64 0) h'):aT PG nO #[pT sp 0,.string (tx k),.string (tx v)] h kk:=by
 obtain⟨Fs,⟨G,S,rfl⟩,hFs,back⟩:=P.fSt;have es:aCn s.st k v=({s.st with now:=oP s.st.now ⟨k,v⟩},0):=by
  unfold aCn;rw[if_neg (by omega),if_neg hr]
 refine aXE S k v λh5 G5 S5 u5 g5=>?_;rw[es] at S5 ⊢;obtain⟨F6,P6,s6⟩:=back (rsA sp {s.st with now:=oP s.st.now ⟨k,v⟩}) h5 (sp::G5) ⟨G5,S5,rfl⟩ ⟨u5.mono λx hx=>.inl (by simp only[gE] at hx;simp[hx]),λx hx=>by
  rcases gU.1 hx with rfl|hx
  ·exact .inl (by simp)
  ·rcases g5 x hx with hx|hx
   ·exact .inl (by simp[hx])
   ·exact .inr hx⟩
 exact hk h5 F6 P6 s6
def aRw{h:PH}{c b:Nat}{s:Ch}{n:Nat}{F:List Nat}{sp cp:Nat}{bv nv:Value}(P:nL c (s.dcells b sp cp bv nv) sp s.st cp s.cl bv nv n h F){k:Tx}(hr:(iI s.st.now k).isSome=true){kk:cD}
  (hk:∀h' F',nL c ((s.del k).dcells b sp cp bv nv) sp (s.del k).st cp (s.del k).cl bv nv n h' F'->jJ h F h' F'->kk (.int .i64 0) h'):aT PG oG #[pT sp 0,.string (tx k)] h kk:=by
 obtain⟨Fs,⟨G,S,rfl⟩,hFs,back⟩:=P.fSt;have es:aFY s.st k=({s.st with now:=uE s.st.now k},0):=by
  unfold aFY;rw[if_neg (λh=>by rw[h] at hr;cases hr)]
 refine aWx S k λh5 G5 S5 u5 g5=>?_;rw[es] at S5 ⊢;obtain⟨F6,P6,s6⟩:=back (rsA sp {s.st with now:=uE s.st.now k}) h5 (sp::G5) ⟨G5,S5,rfl⟩ ⟨u5.mono λx hx=>.inl (by simp only[gE] at hx;simp[hx]),λx hx=>by
  rcases gU.1 hx with rfl|hx
  ·exact .inl (by simp)
  ·rcases g5 x hx with hx|hx
   ·exact .inl (by simp[hx])
   ·exact .inr hx⟩
 exact hk h5 F6 P6 s6
def aVF(s:Ch)(d:Tx)(t:Nat):qG s d t=if s.st.height=18446744073709551615 then 12 else if ¬s.seq<18446744073709551615 then 12 else if (kE s d t).right=false then 1 else if ¬aJI s.cl<(t:Int) then 10 else if ¬s.st.now.length+1≤4096 then 2 else 0:=by
 unfold qG qX;by_cases c0:s.st.height=18446744073709551615
 ·rw[if_pos c0,if_pos c0]
 ·rw[if_neg c0,if_neg c0];by_cases c1:s.seq<18446744073709551615<;>cases hr:(kE s d t).right<;>by_cases c2:aJI s.cl<(t:Int)<;>by_cases c3:s.st.now.length+1≤4096<;>simp[zR,c1,hr,c2,c3]
def aU3{h:PH}{c b m:Nat}{s:Ch}{n:Nat}{A:List Tx}{K F:List Nat}(H:eI (rJ b m A K) (DC c b s n) h F)(w:s.DOk)(hn:n≤10000)(d:Tx)(hd:d.length≤1000000){t:Nat}(ht:t<18446744073709551616){k:cD}
  (hbad:qG s d t≠0->∀h',eI (rJ b m A K) (DC c b s n) h' F->jJ h F h' F->k (.tuple #[Pk.v default,.int .i64 (qG s d t)]) h')
  (hok:qG s d t=0->∀h' F',eI (rJ b m (sG (kE s d t)++A) K) (DC c b (s.sent (kE s d t)) (n+1)) h' F'->jJ h F h' F'->k (.tuple #[(kE s d t).v,.int .i64 0]) h'):
  aT PG zN #[pT c 0,.string (tx d),.int .u64 (t:Int)] h k:=by
 apply oU.call;unfold oU;have gW:mE (eI (rJ b m A K) (DC c b s n)):=(rJ.good _ _ _ _).star (DC.good _ _ _ _);obtain⟨Fb,Fd,eF,⟨efb,HB⟩,Hd,hdis⟩:=id H;obtain⟨sp,cp,bv,nv,P⟩:=id Hd;obtain⟨hs,R⟩:=w.rk;have hlat:=aPE R;have hsq:=w.seq;intro r1 hr1
 try rw[cW]
 have u1:dC h (h.set r1 (.cells (dS PG aR) aR)):=cT.new hr1;have X1:Bx (h.set r1 (.cells (dS PG aR) aR)) r1 (Pk.cells default):=aR.zbox;generalize h.set r1 (.cells (dS PG aR) aR)=h1 at *;have P1:=nL.good.ext P u1;simp only[cQ.f1,cQ.f4,fO,dl1 P1.cell,dl4 P1.cell,aWd,cE,reduceIte,cV,Nat.reduceAdd];have ep:(Pk.v ⟨s.id,(s.seq:Int),(t:Int),tx d⟩)=(kE s d t).v:=rfl;rw[ep];obtain⟨p,hp⟩:∃p,p=kE s d t:=⟨_,rfl⟩;have pwf:p.wf:=by rw[hp];exact⟨by show(0:Int)≤(s.seq:Int);omega,by show(s.seq:Int)<_;omega,by show(0:Int)≤(t:Int);omega,by show(t:Int)<_;omega⟩
 intro r10 hr10
 try rw[cW]
 have n110:r1≠r10:=X1.apart hr10;rw[←hp];refine aR.fill (vs:=p.cells) hr10 rfl (Pk.isC _) λh2 X2 u2=>?_;have e2:=u1.trans u2;have P2:=nL.good.ext P e2;have Y2:=X1.ext u2;have W2:=gW.ext H e2;have nr1:r1∉F:=λhm=>gW.known H _ hm hr1;have lp:∀{h':PH},dC h2 h'->cH PG h' (loadAt aR (pT r10 0))=some p.v:=λu=>(X2.ext u).pk rfl;obtain⟨Fs2,⟨G2,S2,-⟩,-,-⟩:=P2.fSt
 -- what is refused
 have no:∀{h3:PH} (e:Int),dC h2 h3->qG s d t=e->e≠0->dY (dG PG (build aR #[])) λv40=>dA PG (dR aR (pT r1 0) v40) h3 λv41 h42=>dY (cH PG h42 (loadAt aR (pT r1 0))) λv43=>k (Value.tuple #[v43,(Value.int IntKind.i64 e)]) h42:=fun {h3} e u3 he hne=>by
  simp only[Pk.zb,cE,reduceIte,cV,Nat.reduceAdd];refine aR.put (Y2.ext u3) (o:=0) (vs:=Pk.cells default) rfl (by show 0+4≤4;decide) (Pk.isC _) λh4 Y4 u4=>?_;have Y4:Bx h4 r1 (Pk.cells default):=Y4;have l4:cH PG h4 (loadAt aR (pT r1 0))=some (Pk.v default):=Y4.pk rfl;simp only[l4,cE,reduceIte,cV,Nat.reduceAdd];have:=hbad (by rw[he];exact hne) h4 (gW.upd (gW.ext W2 u3) u4 (λx hx=>by simp only[gE];rintro rfl;exact nr1 hx)) ⟨((e2.trans u3).upd (F:=F)).then u4 (λx hx=>by simp only[gE] at hx;subst hx;exact .inr hr1),λx hx=>.inl hx⟩;rw[he] at this;exact this
 have hse:=aVF s d t;simp only[cQ.f2,fO,dl2 P2.cell,cE,reduceIte,cV,Nat.reduceAdd];refine aDN S2 ?_;by_cases c0:s.st.height=18446744073709551615
 ·have q:((s.st.height:Int)==18446744073709551615)=true:=by rw[c0];rfl
  rw[if_pos c0] at hse;simp only[iG,q,cE,reduceIte,cV,Nat.reduceAdd];have:=no 12 cT.refl hse (by decide)
  try simp only[cE,reduceIte,cV,Nat.reduceAdd] at this
  exact this
 have q:((s.st.height:Int)==18446744073709551615)=false:=by rw[beq_eq_false_iff_ne];omega
 rw[if_neg c0] at hse;by_cases c1:s.seq<18446744073709551615
 case neg=>
  have q1:((s.seq:Int)==18446744073709551615)=true:=by rw[beq_iff_eq];omega
  rw[if_pos c1] at hse;simp only[iG,q,q1,cQ.f4,fO,dl4 P2.cell,cE,reduceIte,cV,Nat.reduceAdd];have:=no 12 cT.refl hse (by decide)
  try simp only[cE,reduceIte,cV,Nat.reduceAdd] at this
  exact this
 have q1:((s.seq:Int)==18446744073709551615)=false:=by rw[beq_eq_false_iff_ne];omega
 rw[if_neg (by simpa using c1)] at hse;simp only[iG,q,q1,cQ.f4,fO,dl4 P2.cell,lp cT.refl,cE,reduceIte,cV,Nat.reduceAdd];refine aIE p pwf.1 pwf.2.2.1 λh3 u3=>?_;have P3:=nL.good.ext P2 u3;rw[←hp] at hse;cases hr:p.right with
 | false=>
  rw[if_pos hr] at hse;simp only[cE,reduceIte,cV,Nat.reduceAdd];have:=no 1 u3 hse (by decide)
  try simp only[cE,reduceIte,cV,Nat.reduceAdd] at this
  exact this
 | true=>
  rw[if_neg (by rw[hr];decide)] at hse;obtain⟨Fc,KR,-,-⟩:=P3.fCl;simp only[cQ.f3,fO,dl3 P3.cell,cE,reduceIte,cV,Nat.reduceAdd];refine aSm KR (by have:=w.few;omega) R (λy hy=>(w.pos y hy).1) ?_;by_cases c2:aJI s.cl<(t:Int)
  case neg=>
   have q2:((t:Int)≤aLO hs)=True:=eq_true (by rw[←hlat];omega);rw[if_pos c2] at hse;simp only[q2,cE,reduceIte,cV,Nat.reduceAdd];have:=no 10 u3 hse (by decide)
   try simp only[cE,reduceIte,cV,Nat.reduceAdd] at this
   exact this
  have q2:((t:Int)≤aLO hs)=False:=eq_false (by rw[←hlat];omega);rw[if_neg (by simpa using c2)] at hse;simp only[q2,cE,reduceIte,cV,Nat.reduceAdd];refine aQk (s:=s) (n:=n) (b:=b) ⟨sp,cp,bv,nv,P3⟩ 1 (by decide) ?_;by_cases c3:s.st.now.length+1≤4096
  case neg=>
   have q3:=decide_eq_false c3;rw[if_pos c3] at hse;simp only[q3,cE,reduceIte,cV,Nat.reduceAdd];have:=no 2 u3 hse (by decide)
   try simp only[cE,reduceIte,cV,Nat.reduceAdd] at this
   exact this
  have q3:=decide_eq_true c3;rw[if_neg (by simpa using c3)] at hse;have hok:=hok hse;rw[←hp] at hok;have ls:∀{h':PH},dC h2 h'->cH PG h' (loadAt cA (pT r10 1))=some (.int .u64 (s.seq:Int)):=λu=>by rw[cA.load,(X2.ext u).cell,hp];rfl
  have q99:({data:=#[99]}:ByteArray)=tx [99]:=rfl;simp only[q3,cQ.f0,cQ.f2,aR.f1,fO,dl0 P3.cell,dl2 P3.cell,ls u3,lp u3,q99,cE,reduceIte,cV,Nat.reduceAdd];refine aAS (c:=99) (n:=s.seq) (by omega) λh4 u4=>?_;have u34:=u3.trans u4;have P4:=nL.good.ext P3 u4;refine⟨lp u34,dl0 P4.cell,dl2 P4.cell,?_⟩;refine aLG (HB.ext (e2.trans u34)) pwf λh5 B5 u5=>?_;obtain⟨W5,s5⟩:=aHn (DC.good _ _ _ _) (gW.ext W2 u34) B5 u5;have offd:∀x∈Fd,x∉[b,m]:=λx hx hm=>by
   subst efb;simp only[gU,lH,or_false] at hm;rcases hm with rfl|rfl
   ·exact hdis _ (by simp) hx
   ·exact hdis _ (by simp) hx
  have P5:=nL.good.upd P4 u5 offd;have n10:r10∉F:=λhm=>gW.known (gW.ext H u1) _ hm hr10;have n10b:r10∉[b,m]:=λhm=>by
   simp only[gU,lH,or_false] at hm;rcases hm with rfl|rfl
   ·exact HB.known _ (by simp) (u1.none hr10)
   ·exact HB.known _ (by simp) (u1.none hr10)
  have n1b:r1∉[b,m]:=λhm=>by
   simp only[gU,lH,or_false] at hm;rcases hm with rfl|rfl
   ·exact HB.known _ (by simp) hr1
   ·exact HB.known _ (by simp) hr1
  have X5:=(X2.ext u34).upd u5 n10b;have Y5:=(Y2.ext u34).upd u5 n1b;refine⟨dl2 P5.cell,?_⟩
  -- the chain alone
  obtain⟨Fb5,Fd5,eF5,⟨efb5,B5'⟩,Hd5,hdis5⟩:=id W5;have hFd5:Fd5=Fd:=by
   rw[eF,efb,efb5] at eF5;exact(List.append_cancel_left eF5).symm
  subst hFd5;have nX:r10∉Fd5:=λhm=>n10 (by rw[eF];simp[hm]);have nY:r1∉Fd5:=λhm=>nr1 (by rw[eF];simp[hm]);refine aO8 P5 (by rw[zP];decide) (by rw[zP];decide) (aPy _) (λhh=>by omega) λh6 F6 P6 s6=>?_;obtain⟨X6,nX6⟩:=aCZ X5 nX s6;obtain⟨Y6,nY6⟩:=aCZ Y5 nY s6;have w1:IntKind.u64.wrap ((s.seq:Int)+1)=((s.seq+1:Nat):Int):=by rw[gL (by omega) (by omega)];omega
  have l4:cH PG h6 (loadAt cA (pT c 4))=some (.int .u64 (s.seq:Int)):=dl4 P6.cell;simp only[cQ.f4,fO,l4,w1,cE,reduceIte,cV,Nat.reduceAdd];obtain⟨Fx,⟨rfl,X⟩,hFx,back⟩:=P6.fBox;refine cA.put X (o:=4) (by show 4<7;decide) rfl λh7 X7 u7=>?_;have X7:Bx h7 c (((s.put (iY 99 s.seq) (qY p)).next).dcells b sp cp bv nv):=X7;obtain⟨F7,P7,s7⟩:=back (oJ c (((s.put (iY 99 s.seq) (qY p)).next).dcells b sp cp bv nv)) h7 [c] ⟨rfl,X7⟩ ⟨u7,λx hx=>.inl hx⟩;obtain⟨Z7,nZ7⟩:=aCZ X6 nX6 s7;obtain⟨Y7,nY7⟩:=aCZ Y6 nY6 s7;have l7:cH PG h7 (loadAt aR (pT r10 0))=some p.v:=Z7.pk rfl;simp only[l7,cE,reduceIte,cV,Nat.reduceAdd];refine aKx (s:=(s.put (iY 99 s.seq) (qY p)).next) (n:=n) (b:=b) ⟨sp,cp,bv,nv,P7⟩ hn 1 p λh8 F8 P8 s8=>?_;obtain⟨Z8,nZ8⟩:=aCZ Z7 nZ7 s8;obtain⟨Y8,nY8⟩:=aCZ Y7 nY7 s8;have l8:cH PG h8 (loadAt aR (pT r10 0))=some p.v:=Z8.pk rfl;simp only[l8,cE,reduceIte,cV,Nat.reduceAdd];have sD:jJ h5 Fd5 h8 F8:=(s6.trans s7).trans s8;have B8:Bk b m (sG p++A) K h8:=B5'.upd sD.upd (λx hx hm=>hdis5 x (by rw[efb5];exact hx) hm);have W8:eI (rJ b m (sG p++A) K) (DC c b (s.sent p) (n+1)) h8 ((b::m::K)++F8):=eI.mk ⟨rfl,B8⟩ P8 (λx hx hx8=>by
   rcases sD.grow x hx8 with hh|hh
   ·exact hdis5 x (by rw[efb5];exact hx) hh
   ·exact B5'.known x hx hh)
  have sW:jJ h F h8 ((b::m::K)++F8):=((jJ.ext (F:=F) (e2.trans u34)).trans s5).trans ⟨sD.upd.mono λx hx=>.inl (by rw[eF];simp[hx]),λx hx=>by
   rcases kA.1 hx with hx|hx
   ·exact .inl (by rw[eF,efb];simp only[kA];exact .inl hx)
   ·rcases sD.grow x hx with hh|hh
    ·exact .inl (by rw[eF];simp[hh])
    ·exact .inr hh⟩
  have n8:r1∉(b::m::K)++F8:=λhm=>by
   rcases kA.1 hm with hm|hm
   ·exact HB.known _ hm hr1
   ·exact nY8 hm
  refine aR.put Y8 (o:=0) (vs:=p.cells) rfl (by show 0+4≤4;decide) (Pk.isC _) λh9 Y9 u9=>?_;have Y9:Bx h9 r1 p.cells:=Y9;have l9:cH PG h9 (loadAt aR (pT r1 0))=some p.v:=Y9.pk rfl;simp only[l9,cE,reduceIte,cV,Nat.reduceAdd];refine hok h9 _ (((rJ.good _ _ _ _).star (DC.good _ _ _ _)).upd W8 u9 (λx hx=>by simp only[gE];rintro rfl;exact n8 hx)) ⟨sW.upd.then u9 (λx hx=>by simp only[gE] at hx;subst hx;exact .inr hr1),λx hx=>sW.grow x hx⟩
end
section
open Go Bld
def aQ0{h:PH}{b:Nat}{s:St}{G:List Nat}(H:aAL h b s G)(key:Tx){k:cD}(hk:k (.tuple #[.string (tx (((iI s.now key).map Pr.v).getD [])),.bool (iI s.now key).isSome]) h):
  aT PG tY #[pT b 0,.string (tx key)] h k:=by
 apply xM.call;unfold xM;obtain⟨A,M,B,c⟩:=H.ok.up.cut key;have hg:=c.get H.ok.up;refine aPR H c ?_;have hok:=H.ok;obtain⟨nv,bv,bl,h1,h2,h3,h4,h5,h6,h7,h8,h9⟩:=H.here;rcases c.mid with e|⟨q,e,e2⟩
 ·subst e;have:iI s.now key=none:=by
   cases hx:iI s.now key with
   | none=>rfl
   | some y=>rw[hx] at hg;simp at hg
  rw[this] at hk;simp only[ne_eq,not_true_eq_false,cE,reduceIte];exact hk
 ·subst e;have hgs:iI s.now key=some q:=(aBd hok.up).2 ⟨by rw[c.eq];simp,e2⟩;rw[hgs] at hk;have c0:dB h ⟨b,0,none⟩=some nv:=by simp[dB,h1]
  have hq:s.now[A.length]? =some q:=by rw[c.eq];simp
  obtain⟨bb,o,p1,-,p3,-⟩:=h2.pair hq;simp only[ne_eq,List.cons_ne_nil,not_false_eq_true,dM.f0,cJ.load,c0,p1,cM.f1,bR.load,p3,cE,reduceIte];exact hk
def aUs{h:PH}{b:Nat}{s:St}{G:List Nat}(H:aAL h b s G)(x:Nat)(hx:x<18446744073709551616){k:cD}(hn:yS s x=none->k (.tuple #[.slice none 0 0,.int .i64 3]) h)
  (hk:∀l v,yS s x=some l->gB h 2 v (l.map Pr.cells)->aDf v G->k (.tuple #[v,.int .i64 0]) h):aT PG uF #[pT b 0,.int .u64 (x:Int)] h k:=by
 apply qF.call;unfold qF;have hok:=H.ok;have hok1:=hok.h1;have hok2:=hok.h2;have hok3:=hok.h3;have hok4:=hok.h4;have hnone:=aNs hok1 (x:=x);have H0:=H;obtain⟨nv,bv,bl,h1,h2,h3,h4,h5,h6,h7,h8,h9⟩:=H.here;have c1:dB h ⟨b,0+1,none⟩=some (.int .u64 ((s.height-(s.blocks.length-1):Nat):Int)):=by simp[dB,h1]
 have c2:dB h ⟨b,0+2,none⟩=some bv:=by simp[dB,h1]
 by_cases d1:x<s.height-(s.blocks.length-1)
 ·have g1:((x:Int)<((s.height-(s.blocks.length-1):Nat):Int))=True:=eq_true (by omega);simp only[dM.f1,cA.load,c1,g1,aNZ,aL0,cE,reduceIte];exact hn (hnone.2 (by omega))
 have g1:((x:Int)<((s.height-(s.blocks.length-1):Nat):Int))=False:=eq_false (by omega);simp only[dM.f1,cA.load,c1,g1,cE,reduceIte];refine aDN H0 ?_;by_cases d2:s.height<x
 ·have g2:((s.height:Int)<(x:Int))=True:=eq_true (by omega);simp only[g2,cE,reduceIte];exact hn (hnone.2 (by omega))
 have g2:((s.height:Int)<(x:Int))=False:=eq_false (by omega);have hs:∃l,yS s x=some l:=by
  cases e:yS s x with
  | none=>have:=hnone.1 e;omega
  | some l=>exact⟨l,rfl⟩
 obtain⟨l,hl⟩:=hs;obtain⟨-,hidx⟩:=aOA hl;have hi:s.blocks.length-1-(s.height-x)=x-(s.height-(s.blocks.length-1)):=by omega
 have w1:IntKind.u64.wrap ((x:Int)-((s.height-(s.blocks.length-1):Nat):Int))=((x-(s.height-(s.blocks.length-1)):Nat):Int):=by rw[gL (by omega) (by omega)];omega
 rw[hi] at hidx;generalize x-(s.height-(s.blocks.length-1))=j at *;rw[←h5,wK] at hidx;obtain⟨⟨v,l'⟩,hy,e⟩:=Option.map_eq_some_iff.1 hidx;simp only at e;subst e;have hmem:=vR hy;obtain⟨pa,p1,p2⟩:=h3.loadCell (t:=fK) (k:=.u64) (j:=(j:Int)) (x:=v) fK.und cJ.info cJ.size cJ.und rfl (by omega) (by rw[qP,wK,hy];rfl);simp only[g2,dM.f1,dM.f2,cA.load,fK.load,c1,c2,w1,p1,p2,cE,reduceIte];exact hk _ v hl (h4 _ hmem).1 (h4 _ hmem).2
def aT0{h:PH}{b:Nat}{s:St}{G:List Nat}(H:aAL h b s G){bk m:Nat}{A:List Tx}{c:Bool}{K:List Nat}(B:aAf h bk m A c K)(hd:∀x∈G,x≠bk∧x≠m)(x:Nat)(hx:x<18446744073709551616){k:cD}(hn:yS s x=none->k (.tuple #[.string (tx []),.int .i64 3]) h)
  (hk:∀l h' c',yS s x=some l->aAf h' bk m (aF7 l++A) c' K->(c=true->c'=true)->cT [bk,m] h h'->k (.tuple #[.string (tx (oC l)),.int .i64 0]) h'):aT PG zO #[pT b 0,pT bk 0,.int .u64 (x:Int)] h k:=by
 apply wA.call;unfold wA;refine aUs H x hx (λhs=>?_) (λl v hs S hv=>?_)
 ·simp only[show((3:Int) !=0)=true from rfl,cE,reduceIte];exact hn hs
 ·simp only[show((0:Int) !=0)=false from rfl,bne_self_eq_false,cE,reduceIte];have hb:=H.ok.blk l (by
   obtain⟨-,h2⟩:=aOA hs;exact vR h2)
  refine aQT B (by omega) S (λa n c e=>by
   have:=hd _ (hv a n c e);simp[this]) (λp hp=>by have:=hb.2.1 p hp;unfold aPI at this;omega) λh' c' B' hc u=>?_
  exact hk l h' c' hs B' hc u
end
section
open Go
def aFH{b m:Nat}{A:List Tx}{K:List Nat}{X:mT}{h:PH}{F:List Nat}(H:eI (rJ b m A K) X h F):∃Fd,X h Fd∧Bk b m A K h∧F=(b::m::K)++Fd∧∀x∈b::m::K,x∉Fd:=by
 obtain⟨Fa,Fb,rfl,⟨rfl,B⟩,HX,hd⟩:=H;exact⟨Fb,HX,B,rfl,hd⟩
def aHg{b m:Nat}{A:List Tx}{K:List Nat}{X':mT}{h h':PH}{Fd Fd':List Nat}(B:Bk b m A K h)(hd:∀x∈b::m::K,x∉Fd)(HX:X' h' Fd')(s:jJ h Fd h' Fd'):eI (rJ b m A K) X' h' ((b::m::K)++Fd')∧jJ h ((b::m::K)++Fd) h' ((b::m::K)++Fd'):=by
 refine⟨eI.mk ⟨rfl,B.upd s.upd (λx hx hm=>hd x hx hm)⟩ HX (λx hx hx8=>?_),⟨s.upd.mono λx hx=>.inl (by simp[hx]),λx hx=>?_⟩⟩
 ·rcases s.grow x hx8 with hh|hh
  ·exact hd x hx hh
  ·exact B.known x hx hh
 ·rcases kA.1 hx with hx|hx
  ·exact .inl (zLk _ hx)
  ·rcases s.grow x hx with hh|hh
   ·exact .inl (zLl _ hh)
   ·exact .inr hh
def rJ.mono{b m:Nat}{A B:List Tx}{K:List Nat}{X:mT}{h:PH}{F:List Nat}(H:eI (rJ b m A K) X h F)(hs:∀a∈B,a∈A):eI (rJ b m B K) X h F:=by
 obtain⟨Fa,Fb,rfl,⟨rfl,B'⟩,HX,hd⟩:=H;exact⟨_,Fb,rfl,⟨rfl,B'.mono hs⟩,HX,hd⟩
def aMl{b m:Nat}{K Fd:List Nat}(hd:∀x∈b::m::K,x∉Fd):∀x∈Fd,x∉[b,m]:=λx hx hm=>by
 simp only[gU,lH,or_false] at hm;rcases hm with rfl|rfl
 ·exact hd _ (by simp) hx
 ·exact hd _ (by simp) hx
def aZd{s:Ch}(w:s.DOk){p:Pk}(hr:p.right=true):(p.f==1-s.id)=!(p.f==s.id):=by
 obtain⟨h1,h2,-⟩:=Pk.right_iff.1 hr;have:=w.id;rw[zLm];simp only[beq_iff_eq,Bool.not_eq_true',beq_eq_false_iff_ne,ne_eq];omega
noncomputable def aKB(s:Ch)(p:Pk)(pf:Tx)(x:Int):Int:=qX s (uA s p pf x)
def aU7(s:Ch)(p:Pk)(pf:Tx)(x:Int):aKB s p pf x=if s.st.height=18446744073709551615 then 12 else if (p.right&&(p.f==1-s.id))=false then 1 else if ¬IntKind.u64.wrap ((s.st.height:Int)+1)<p.t then 10 else if (iI s.st.now (iY 114 p.s.toNat)).isSome=true then 4 else if (lZ s.cl x).isSome=false then 11 else if aDz (vV s.cl x) pf (iY 99 p.s.toNat) (qY p)=false then 9 else if ¬s.st.now.length+2≤4096 then 2 else 0:=by
 unfold aKB qX uA;by_cases c0:s.st.height=18446744073709551615
 ·rw[if_pos c0,if_pos c0]
 ·rw[if_neg c0,if_neg c0];generalize (p.right&&(p.f==1-s.id))=b1;generalize aDz (vV s.cl x) pf (iY 99 p.s.toNat) (qY p)=b2;generalize (lZ s.cl x).isSome=b3;generalize (iI s.st.now (iY 114 p.s.toNat)).isSome=b4;by_cases c2:IntKind.u64.wrap ((s.st.height:Int)+1)<p.t<;>by_cases c3:s.st.now.length+2≤4096<;>cases b1<;>cases b2<;>cases b3<;>cases b4<;>simp[zR,c2,c3]
def aNj(l:List iA)(x:Int):(lZ l x).getD ⟨#[]⟩=tx (vV l x):=by
 unfold vV;exact(aM8 _).symm
def aVY{h:PH}{c b m:Nat}{s:Ch}{n:Nat}{A:List Tx}{K F:List Nat}(H:eI (rJ b m A K) (DC c b s n) h F)(w:s.DOk)(hn:n≤10000){p:Pk}(pw:p.wf){pf:Tx}(hpf:pf.length≤1000000){x:Nat}(hx:x<18446744073709551616){k:cD}
  (hbad:aKB s p pf (x:Int)≠0->∀h',eI (rJ b m A K) (DC c b s n) h' F->jJ h F h' F->k (.int .i64 (aKB s p pf (x:Int))) h')
  (hok:aKB s p pf (x:Int)=0->∀h' F',eI (rJ b m ((aIW p++(aIi pf++sG p))++A) K) (DC c b (s.received p) (n+1)) h' F'->jJ h F h' F'->k (.int .i64 0) h'):
  aT PG zL #[pT c 0,p.v,.string (tx pf),.int .u64 (x:Int)] h k:=by
 apply oX.call;unfold oX;have gX:∀s n,mE (DC c b s n):=λ_ _=>DC.good _ _ _ _;have gW:mE (eI (rJ b m A K) (DC c b s n)):=(rJ.good _ _ _ _).star (gX _ _);obtain⟨Fd,Hd,HB,eF,hdis⟩:=aFH H;subst eF;obtain⟨sp,cp,bv,nv,P⟩:=id Hd;have offd:=aMl hdis;obtain⟨q,hq⟩:=zLn pw.1;have hq2:q<18446744073709551616:=by have:=pw.2.1;omega
 have hqn:p.s.toNat=q:=by omega
 intro r1 hr1
 try rw[cW]
 have u1:dC h (h.set r1 (.cells (Value.cells p.v) aR)):=cT.new hr1;have X1:Bx (h.set r1 (.cells (Value.cells p.v) aR)) r1 p.cells:=Bx.new;generalize h.set r1 (.cells (Value.cells p.v) aR)=h1 at *;have P1:=nL.good.ext P u1;have lp:∀{h':PH},dC h1 h'->cH PG h' (loadAt aR (pT r1 0))=some p.v:=λu=>(X1.ext u).pk rfl;have lf:∀{h':PH},dC h1 h'->cH PG h' (loadAt bT (pT r1 0))=some (.int .i64 p.f):=λu=>by rw[bT.load,(X1.ext u).cell];rfl
 have ls:∀{h':PH},Bx h' r1 p.cells->cH PG h' (loadAt cA (pT r1 1))=some (.int .u64 (q:Int)):=λX=>by rw[cA.load,X.cell,←hq];rfl
 have lt:∀{h':PH},dC h1 h'->cH PG h' (loadAt cA (pT r1 2))=some (.int .u64 p.t):=λu=>by rw[cA.load,(X1.ext u).cell];rfl
 have no:∀{h3:PH} (e:Int),dC h1 h3->aKB s p pf (x:Int)=e->e≠0->k (.int .i64 e) h3:=fun {h3} e u3 he hne=>by
  have:=hbad (by rw[he];exact hne) h3 (gW.ext H (u1.trans u3)) (jJ.ext (u1.trans u3));rw[he] at this;exact this
 have hse:=aU7 s p pf (x:Int);obtain⟨Fs1,⟨G1,S1,-⟩,-,-⟩:=P1.fSt;simp only[cQ.f2,fO,dl2 P1.cell,cE,reduceIte,cV,Nat.reduceAdd];refine aDN S1 ?_;by_cases c0:s.st.height=18446744073709551615
 ·have q0:((s.st.height:Int)==18446744073709551615)=true:=by rw[c0];rfl
  rw[if_pos c0] at hse;simp only[iG,q0,cE,reduceIte,cV,Nat.reduceAdd];exact no 12 cT.refl hse (by decide)
 have q0:((s.st.height:Int)==18446744073709551615)=false:=by rw[beq_eq_false_iff_ne];omega
 rw[if_neg c0] at hse;simp only[iG,q0,lp cT.refl,cE,reduceIte,cV,Nat.reduceAdd];refine aIE p pw.1 pw.2.2.1 λh2 u2=>?_;have P2:=nL.good.ext P1 u2;cases hr:p.right with
 | false=>
  rw[hr,vN,if_pos rfl] at hse;simp only[cE,reduceIte,cV,Nat.reduceAdd];exact no 1 u2 hse (by decide)
 | true=>
  rw[hr,zLp,aZd w hr] at hse;cases hf:p.f==s.id with
  | true=>
   rw[hf,Bool.not_true,if_pos rfl] at hse;simp only[aR.f0,cQ.f1,fO,lf u2,dl1 P2.cell,iG,hf,cE,reduceIte,cV,Nat.reduceAdd];exact no 1 u2 hse (by decide)
  | false=>
   rw[hf,zLq,if_neg (by decide)] at hse;obtain⟨Fs2,⟨G2,S2,-⟩,-,-⟩:=P2.fSt;simp only[aR.f0,aR.f2,cQ.f1,cQ.f2,fO,lf u2,lt u2,dl1 P2.cell,dl2 P2.cell,iG,hf,cE,reduceIte,cV,Nat.reduceAdd];refine aDN S2 ?_;refine⟨lt u2,?_⟩;by_cases c2:IntKind.u64.wrap ((s.st.height:Int)+1)<p.t
   case neg=>
    have g:(p.t≤IntKind.u64.wrap ((s.st.height:Int)+1))=True:=eq_true (by omega);rw[if_pos c2] at hse;simp only[g,cE,reduceIte,cV,Nat.reduceAdd];exact no 10 u2 hse (by decide)
   have g:(p.t≤IntKind.u64.wrap ((s.st.height:Int)+1))=False:=eq_false (by omega);rw[if_neg (by simpa using c2)] at hse;have q114:({data:=#[114]}:ByteArray)=tx [114]:=rfl;have q99:({data:=#[99]}:ByteArray)=tx [99]:=rfl;have q97:({data:=#[97]}:ByteArray)=tx [97]:=rfl;simp only[g,cQ.f2,aR.f1,fO,dl2 P2.cell,ls (X1.ext u2),q114,cE,reduceIte,cV,Nat.reduceAdd];refine aAS (c:=114) (n:=q) hq2 λh3 u3=>?_;have u13:=u2.trans u3;have P3:=nL.good.ext P2 u3;obtain⟨Fs3,⟨G3,S3,-⟩,-,-⟩:=P3.fSt;refine⟨dl2 P3.cell,?_⟩;refine aQ0 S3 _ ?_;rw[hqn] at hse;cases hg:(iI s.st.now (iY 114 q)).isSome with
   | true=>
    rw[hg,if_pos rfl] at hse;simp only[cE,reduceIte,cV,Nat.reduceAdd];exact no 4 u13 hse (by decide)
   | false=>
    rw[hg,if_neg (by decide)] at hse;obtain⟨Fc,KR,-,-⟩:=P3.fCl;simp only[cQ.f3,fO,dl3 P3.cell,cE,reduceIte,cV,Nat.reduceAdd];refine aK3 KR (by have:=w.few;omega) (x:Int) ?_;rw[aNj];cases hro:(lZ s.cl (x:Int)).isSome with
    | false=>
     rw[hro,if_pos rfl] at hse;simp only[cE,reduceIte,cV,Nat.reduceAdd];exact no 11 u13 hse (by decide)
    | true=>
     rw[hro,if_neg (by decide)] at hse;simp only[cQ.f0,aR.f1,fO,dl0 P3.cell,ls (X1.ext u13),lp u13,q99,cE,reduceIte,cV,Nat.reduceAdd];refine aAS (c:=99) (n:=q) hq2 λh4 u4=>?_;have u14:=u13.trans u4;have P4:=nL.good.ext P3 u4;refine⟨lp u14,dl0 P4.cell,dl0 P4.cell,?_⟩;refine aLG (HB.ext (u1.trans u14)) pw λh5 B5 u5=>?_;have P5:=nL.good.upd P4 u5 offd;refine⟨dl0 P5.cell,?_⟩;refine aSW B5 (by omega) λh6 B6 u6=>?_;have P6:=nL.good.upd P5 u6 offd;have u46:cT [b,m] h4 h6:=u5.trans u6;have B6':Bk b m ((aIi pf++sG p)++A) K h6:=B6.mono λa ha=>by
      simp only[kA] at ha ⊢;rcases ha with(ha|ha)|ha
      ·exact .inl ha
      ·exact .inr (.inl ha)
      ·exact .inr (.inr ha)
     obtain⟨W6,s6⟩:=aHn (gX s n) (gW.ext H (u1.trans u14)) B6' u46;have sh6:=(jJ.ext (F:=(b::m::K)++Fd) (u1.trans u14)).trans s6;have n1b:r1∉[b,m]:=(eN.one hr1).off (HB.known b (by simp)) (HB.known m (by simp)) r1 (by simp);have X6:=(X1.ext u14).upd u46 n1b;have nX:r1∉Fd:=λhm=>(gX s n).known Hd _ hm hr1;have no2:∀(e:Int),aKB s p pf (x:Int)=e->e≠0->k (.int .i64 e) h6:=λe he hne=>by
      have:=hbad (by rw[he];exact hne) h6 (rJ.mono W6 λa ha=>by simp[ha]) sh6;rw[he] at this;exact this
     cases hh:aDz (vV s.cl (x:Int)) pf (iY 99 q) (qY p) with
     | false=>
      rw[hh,if_pos rfl] at hse;simp only[cE,reduceIte,cV,Nat.reduceAdd];exact no2 9 hse (by decide)
     | true=>
      rw[hh,if_neg (by decide)] at hse;simp only[cE,reduceIte,cV,Nat.reduceAdd];refine aQk (s:=s) (n:=n) (b:=b) ⟨sp,cp,bv,nv,P6⟩ 2 (by decide) ?_;by_cases c3:s.st.now.length+2≤4096
      case neg=>
       have q3:=decide_eq_false c3;rw[if_pos c3] at hse;simp only[q3,cE,reduceIte,cV,Nat.reduceAdd];exact no2 2 hse (by decide)
      have q3:=decide_eq_true c3;rw[if_neg (by simpa using c3)] at hse;have hok:=hok hse;simp only[q3,cQ.f2,aR.f1,fO,dl2 P6.cell,ls X6,q114,cE,reduceIte,cV,Nat.reduceAdd];refine aAS (c:=114) (n:=q) hq2 λh7 u7=>?_;have P7:=nL.good.ext P6 u7;refine⟨dl2 P7.cell,?_⟩;have t1:({data:=#[1]}:ByteArray)=tx [1]:=rfl;rw[t1];refine aO8 P7 (by rw[zP];decide) (by rw[zP];decide) (by decide) (λhh=>by omega) λh8 F8 P8 s8=>?_;obtain⟨X8,nX8⟩:=aCZ (X6.ext u7) nX s8;have l8:cH PG h8 (loadAt aR (pT r1 0))=some p.v:=X8.pk rfl
      -- the book's turn
      obtain⟨W8,sW8⟩:=aHg (X':=DC c b (s.put (iY 114 q) [1]) n) (B6'.ext u7) hdis ⟨sp,cp,bv,nv,P8⟩ s8;obtain⟨F8',Hd8,B8,eF8,hdis8⟩:=aFH W8;have eF8':F8'=F8:=(List.append_cancel_left eF8).symm;subst eF8';have hfit:(oP s.st.now ⟨iY 114 q,[1]⟩).length≤s.st.now.length+1:=by
       unfold oP;rw[jS,rN];have hpar:∀L:List Pr,(L.filter λq'=>decide (q'.k<iY 114 q)).length+(L.filter λq'=>decide (iY 114 q<q'.k)).length≤L.length:=λL=>by
        induction L with
        | nil=>simp
        | cons y L ih=>
         simp only[zLt];by_cases c1:y.k<iY 114 q
         ·have c2:¬iY 114 q<y.k:=List.lt_asymm c1;simp only[c1,c2,decide_true,decide_false,if_true,zLu,if_false,rN];omega
         ·by_cases c2:iY 114 q<y.k
          ·simp only[c1,c2,decide_true,decide_false,if_true,zLu,if_false,rN];omega
          ·simp only[c1,c2,decide_false,zLu,if_false,rN];omega
       have:=hpar s.st.now;show(s.st.now.filter λq'=>decide (q'.k<iY 114 q)).length+((s.st.now.filter λq'=>decide (iY 114 q<q'.k)).length+1)≤_;omega
      simp only[cQ.f0,cQ.f2,aR.f1,fO,dl2 P8.cell,dl0 P8.cell,ls X8,l8,q97,cE,reduceIte,cV,Nat.reduceAdd];refine aAS (c:=97) (n:=q) hq2 λh9 u9=>?_;have P9:=nL.good.ext P8 u9;have X9:=X8.ext u9;have l9:cH PG h9 (loadAt aR (pT r1 0))=some p.v:=X9.pk rfl;refine⟨l9,dl0 P9.cell,dl2 P9.cell,?_⟩;refine aOJ (B8.ext u9) pw λh10 B10 u10=>?_;have P10:=nL.good.upd P9 u10 (aMl hdis8);obtain⟨W10,s10⟩:=aHn (gX _ n) (((rJ.good _ _ _ _).star (gX _ n)).ext W8 u9) B10 u10;have X10:=X9.upd u10 n1b;refine⟨dl2 P10.cell,?_⟩;refine aO8 (s:=s.put (iY 114 q) [1]) P10 (by rw[zP];decide) (by rw[zP];decide) (aRU _) (λhh=>?_) λh11 F11 P11 s11=>?_
      ·have h2:4096≤(oP s.st.now ⟨iY 114 q,[1]⟩).length:=hh.2;omega
      obtain⟨X11,nX11⟩:=aCZ X10 nX8 s11;have l11:cH PG h11 (loadAt aR (pT r1 0))=some p.v:=X11.pk rfl;simp only[l11,cE,reduceIte,cV,Nat.reduceAdd];refine aKx (s:=(s.put (iY 114 q) [1]).put (iY 97 q) (aEm p)) (n:=n) (b:=b) ⟨sp,cp,bv,nv,P11⟩ hn 2 p λh12 F12 P12 s12=>?_;have hdis10:=hdis8;obtain⟨W12,sW12⟩:=aHg (X':=DC c b (s.received p) (n+1)) B10 hdis10 (by
       unfold Ch.received;rw[hqn];exact P12) (s11.trans s12)
      refine hok h12 _ (rJ.mono W12 λa ha=>?_) ?_
      ·simp only[kA] at ha ⊢;rcases ha with(ha|ha|ha)|ha
       ·exact .inl ha
       ·exact .inr (.inl (.inl ha))
       ·exact .inr (.inl (.inr ha))
       ·exact .inr (.inr ha)
      ·exact(((sh6.trans (jJ.ext u7)).trans sW8).trans (jJ.ext u9)).trans (s10.trans sW12)
noncomputable def aDJ(s:Ch)(p:Pk):Int:=qX s [(1,p.right&&(p.f==s.id)),(3,xT s p)]
def aQ8(s:Ch)(p:Pk):aDJ s p=if s.st.height=18446744073709551615 then 12 else if (p.right&&(p.f==s.id))=false then 1 else if xT s p=false then 3 else 0:=by
 unfold aDJ qX;by_cases c0:s.st.height=18446744073709551615
 ·rw[if_pos c0,if_pos c0]
 ·rw[if_neg c0,if_neg c0];generalize (p.right&&(p.f==s.id))=b1;generalize xT s p=b2;cases b1<;>cases b2<;>simp[zR]
def aOr(s:Ch)(p:Pk)(l:List (Int×Bool)):jO s p l=if aDJ s p=0 then zR l else aDJ s p:=by
 unfold jO aDJ qX;by_cases c0:s.st.height=18446744073709551615
 ·rw[if_pos c0,if_pos c0];rfl
 ·rw[if_neg c0,if_neg c0];generalize (p.right&&(p.f==s.id))=b1;generalize xT s p=b2;cases b1<;>cases b2<;>simp[zR]
def aRS{h:PH}{c b m:Nat}{s:Ch}{n:Nat}{A:List Tx}{K F:List Nat}{sp cp:Nat}{bv nv:Value}(HB:Bk b m A K h)(P:nL c (s.dcells b sp cp bv nv) sp s.st cp s.cl bv nv n h F){p:Pk}(pw:p.wf){k:cD}
  (hk:∀h',Bk b m ((if aDJ s p=0 then sG p else [])++A) K h'->cT [b,m] h h'->k (.int .i64 (aDJ s p)) h'):
  aT PG sB #[pT c 0,p.v] h k:=by
 apply oY.call;unfold oY;obtain⟨q,hq⟩:=zLn pw.1;have hq2:q<18446744073709551616:=by have:=pw.2.1;omega
 have hqn:p.s.toNat=q:=by omega
 intro r1 hr1
 try rw[cW]
 have u1:dC h (h.set r1 (.cells (Value.cells p.v) aR)):=cT.new hr1;have X1:Bx (h.set r1 (.cells (Value.cells p.v) aR)) r1 p.cells:=Bx.new;generalize h.set r1 (.cells (Value.cells p.v) aR)=h1 at *;have P1:=nL.good.ext P u1;have lp:∀{h':PH},dC h1 h'->cH PG h' (loadAt aR (pT r1 0))=some p.v:=λu=>(X1.ext u).pk rfl;have lf:∀{h':PH},dC h1 h'->cH PG h' (loadAt bT (pT r1 0))=some (.int .i64 p.f):=λu=>by rw[bT.load,(X1.ext u).cell];rfl
 have ls:∀{h':PH},dC h1 h'->cH PG h' (loadAt cA (pT r1 1))=some (.int .u64 (q:Int)):=λu=>by rw[cA.load,(X1.ext u).cell,←hq];rfl
 have hse:=aQ8 s p;have no:∀{h3:PH} (e:Int),dC h1 h3->aDJ s p=e->e≠0->k (.int .i64 e) h3:=fun {h3} e u3 he hne=>by
  have:=hk h3 (by rw[if_neg (by rw[he];exact hne)];exact HB.ext (u1.trans u3)) (u1.trans u3).upd;rw[he] at this;exact this
 obtain⟨Fs1,⟨G1,S1,-⟩,-,-⟩:=P1.fSt;simp only[cQ.f2,fO,dl2 P1.cell,cE,reduceIte,cV,Nat.reduceAdd];refine aDN S1 ?_;by_cases c0:s.st.height=18446744073709551615
 ·have q0:((s.st.height:Int)==18446744073709551615)=true:=by rw[c0];rfl
  rw[if_pos c0] at hse;simp only[iG,q0,cE,reduceIte,cV,Nat.reduceAdd];exact no 12 cT.refl hse (by decide)
 have q0:((s.st.height:Int)==18446744073709551615)=false:=by rw[beq_eq_false_iff_ne];omega
 rw[if_neg c0] at hse;simp only[iG,q0,lp cT.refl,cE,reduceIte,cV,Nat.reduceAdd];refine aIE p pw.1 pw.2.2.1 λh2 u2=>?_;have P2:=nL.good.ext P1 u2;cases hr:p.right with
 | false=>
  rw[hr,vN,if_pos rfl] at hse;simp only[cE,reduceIte,cV,Nat.reduceAdd];exact no 1 u2 hse (by decide)
 | true=>
  rw[hr,zLp] at hse;cases hf:p.f==s.id with
  | false=>
   rw[hf,if_pos rfl] at hse;have hf':(p.f !=s.id)=true:=by rw[bne,hf];rfl
   simp only[aR.f0,cQ.f1,fO,lf u2,dl1 P2.cell,kP,hf',cE,reduceIte,cV,Nat.reduceAdd];exact no 1 u2 hse (by decide)
  | true=>
   rw[hf,if_neg (by decide)] at hse;have hf':(p.f !=s.id)=false:=by rw[bne,hf];rfl
   have q99:({data:=#[99]}:ByteArray)=tx [99]:=rfl;simp only[aR.f0,aR.f1,cQ.f1,cQ.f2,fO,lf u2,ls u2,dl1 P2.cell,dl2 P2.cell,kP,hf',q99,cE,reduceIte,cV,Nat.reduceAdd];refine aAS (c:=99) (n:=q) hq2 λh3 u3=>?_;have u13:=u2.trans u3;have P3:=nL.good.ext P2 u3;obtain⟨Fs3,⟨G3,S3,-⟩,-,-⟩:=P3.fSt;refine⟨dl2 P3.cell,?_⟩;refine aQ0 S3 _ ?_;have hsp:xT s p=match iI s.st.now (iY 99 q) with|some y=>decide (y.v=qY p)|none=>false:=by unfold xT;rw[hqn];rfl
   cases hg:iI s.st.now (iY 99 q) with
   | none=>
    rw[hg] at hsp;rw[hsp,if_pos rfl] at hse;simp only[zLv,cE,reduceIte,cV,Nat.reduceAdd];exact no 3 u13 hse (by decide)
   | some y=>
    rw[hg] at hsp;simp only[aNp,aKV,aIm,cQ.f0,fO,dl0 P3.cell,lp u13,cE,reduceIte,cV,Nat.reduceAdd];refine aLG (HB.ext (u1.trans u13)) pw λh4 B4 u4=>?_;have hu:cT [b,m] h h4:=(u1.trans u13).upd.trans u4;by_cases he:y.v=qY p
    ·have hsp':xT s p=true:=by rw[hsp];exact decide_eq_true he
     rw[hsp',if_neg (by decide)] at hse;have d1:(!decide (y.v=qY p))=false:=by rw[decide_eq_true he];rfl
     simp only[aFz,d1,cE,reduceIte,cV,Nat.reduceAdd];have:=hk h4 (by rw[if_pos hse];exact B4) hu;rw[hse] at this;exact this
    ·have hsp':xT s p=false:=by rw[hsp];exact decide_eq_false he
     rw[hsp',if_pos rfl] at hse;have d1:(!decide (y.v=qY p))=true:=by rw[decide_eq_false he];rfl
     simp only[aFz,d1,cE,reduceIte,cV,Nat.reduceAdd];have:=hk h4 (by rw[if_neg (by rw[hse];decide)];exact B4.mono λa ha=>zLl _ ha) hu;rw[hse] at this;exact this
def bAP(s:Ch)(p:Pk)(pf:Tx)(x:Int):zR (aBB s p pf x)=if (lZ s.cl x).isSome=false then 11 else if aDz (vV s.cl x) pf (iY 97 p.s.toNat) (aEm p)=false then 9 else 0:=by
 unfold aBB;generalize (lZ s.cl x).isSome=b1;generalize aDz (vV s.cl x) pf (iY 97 p.s.toNat) (aEm p)=b2;cases b1<;>cases b2<;>simp[zR]
def aZV(s:Ch)(p:Pk)(pf:Tx)(x:Int):zR (vU s p pf x)=if (lZ s.cl x).isSome=false then 11 else if ¬IntKind.u64.wrap (p.t-1)≤x then 11 else if aEh (vV s.cl x) pf (iY 114 p.s.toNat)=false then 9 else 0:=by
 unfold vU;generalize (lZ s.cl x).isSome=b1;generalize aEh (vV s.cl x) pf (iY 114 p.s.toNat)=b2;by_cases c:IntKind.u64.wrap (p.t-1)≤x<;>cases b1<;>cases b2<;>simp[zR,c]
def aPd{s:Ch}{p:Pk}(h:xT s p=true):(iI s.st.now (iY 99 p.s.toNat)).isSome=true:=by
 unfold xT at h;cases hg:iI s.st.now (iY 99 p.s.toNat) with
 | none=>rw[hg] at h;cases h
 | some y=>rfl
def aPV{s:Ch}{p:Pk}(h:aDJ s p=0):xT s p=true∧p.right=true∧p.f=s.id:=by
 rw[aQ8] at h;split at h
 ·simp at h
 ·split at h
  ·simp at h
  ·rename_i h1;split at h
   ·simp at h
   ·rename_i h2;simp only[Bool.not_eq_false,zI,beq_iff_eq] at h1 h2;exact⟨h2,h1⟩
def aW3{h:PH}{c b m:Nat}{s:Ch}{n:Nat}{A:List Tx}{K F:List Nat}(H:eI (rJ b m A K) (DC c b s n) h F)(w:s.DOk)(hn:n≤10000){p:Pk}(pw:p.wf){pf:Tx}(hpf:pf.length≤1000000){x:Nat}(hx:x<18446744073709551616){k:cD}
  (hbad:jO s p (aBB s p pf (x:Int))≠0->∀h',eI (rJ b m A K) (DC c b s n) h' F->jJ h F h' F->k (.int .i64 (jO s p (aBB s p pf (x:Int)))) h')
  (hok:jO s p (aBB s p pf (x:Int))=0->∀h' F',eI (rJ b m ((aIi pf++(aIW p++sG p))++A) K) (DC c b (s.settled 3 p) (n+1)) h' F'->jJ h F h' F'->k (.int .i64 0) h'):
  aT PG aAA #[pT c 0,p.v,.string (tx pf),.int .u64 (x:Int)] h k:=by
 apply pQ.call;unfold pQ;have gX:∀s n,mE (DC c b s n):=λ_ _=>DC.good _ _ _ _;have gW:mE (eI (rJ b m A K) (DC c b s n)):=(rJ.good _ _ _ _).star (gX _ _);obtain⟨Fd,Hd,HB,eF,hdis⟩:=aFH H;subst eF;obtain⟨sp,cp,bv,nv,P⟩:=id Hd;have offd:=aMl hdis;obtain⟨q,hq⟩:=zLn pw.1;have hq2:q<18446744073709551616:=by have:=pw.2.1;omega
 have hqn:p.s.toNat=q:=by omega
 intro r1 hr1
 try rw[cW]
 have u1:dC h (h.set r1 (.cells (Value.cells p.v) aR)):=cT.new hr1;have X1:Bx (h.set r1 (.cells (Value.cells p.v) aR)) r1 p.cells:=Bx.new;generalize h.set r1 (.cells (Value.cells p.v) aR)=h1 at *;have P1:=nL.good.ext P u1;have n1b:r1∉[b,m]:=(eN.one hr1).off (HB.known b (by simp)) (HB.known m (by simp)) r1 (by simp);have nX:r1∉Fd:=λhm=>(gX s n).known Hd _ hm hr1;have lp:∀{h':PH},Bx h' r1 p.cells->cH PG h' (loadAt aR (pT r1 0))=some p.v:=λX=>X.pk rfl;have ls:∀{h':PH},Bx h' r1 p.cells->cH PG h' (loadAt cA (pT r1 1))=some (.int .u64 (q:Int)):=λX=>by rw[cA.load,X.cell,←hq];rfl
 have hse:=aOr s p (aBB s p pf (x:Int));have stepOf:∀{h3:PH} {A':List Tx},Bk b m A' K h3->cT [b,m] h1 h3->(∀a∈A,a∈A')->eI (rJ b m A K) (DC c b s n) h3 ((b::m::K)++Fd)∧jJ h ((b::m::K)++Fd) h3 ((b::m::K)++Fd):=fun {h3 A'} B3 u3 hs=>by
  obtain⟨W3,s3⟩:=aHn (gX s n) (gW.ext H u1) B3 u3;exact⟨rJ.mono W3 hs,(jJ.ext u1).trans s3⟩
 have no:∀{h3:PH} {A':List Tx} (e:Int),Bk b m A' K h3->cT [b,m] h1 h3->(∀a∈A,a∈A')->jO s p (aBB s p pf (x:Int))=e->e≠0->k (.int .i64 e) h3:=fun {h3 A'} e B3 u3 hs he hne=>by
  obtain⟨W3,s3⟩:=stepOf B3 u3 hs;have:=hbad (by rw[he];exact hne) h3 W3 s3;rw[he] at this;exact this
 simp only[lp X1,cE,reduceIte,cV,Nat.reduceAdd];refine aRS (s:=s) (n:=n) (HB.ext u1) P1 pw λh2 B2 u2=>?_;have P2:=nL.good.upd P1 u2 offd;have X2:=X1.upd u2 n1b;by_cases hm:aDJ s p=0
 case neg=>
  have q0:(aDJ s p !=0)=true:=by rw[bne_iff_ne];exact hm
  rw[if_neg hm] at hse;simp only[kP,q0,cE,reduceIte,cV,Nat.reduceAdd];exact no _ B2 u2 (λa ha=>zLl _ ha) hse hm
 have q0:(aDJ s p !=0)=false:=by rw[hm];rfl
 rw[if_pos hm] at B2 hse;rw[bAP,hqn] at hse;obtain⟨Fc,KR,-,-⟩:=P2.fCl;simp only[kP,q0,cQ.f3,fO,dl3 P2.cell,cE,reduceIte,cV,Nat.reduceAdd];refine aK3 KR (by have:=w.few;omega) (x:Int) ?_;rw[aNj];cases hro:(lZ s.cl (x:Int)).isSome with
 | false=>
  rw[hro,if_pos rfl] at hse;simp only[cE,reduceIte,cV,Nat.reduceAdd];exact no 11 B2 u2 (λa ha=>zLl _ ha) hse (by decide)
 | true=>
  rw[hro,if_neg (by decide)] at hse;have q97:({data:=#[97]}:ByteArray)=tx [97]:=rfl;have q99:({data:=#[99]}:ByteArray)=tx [99]:=rfl;simp only[cQ.f0,aR.f1,fO,dl0 P2.cell,ls X2,lp X2,q97,cE,reduceIte,cV,Nat.reduceAdd];refine aAS (c:=97) (n:=q) hq2 λh4 u4=>?_;have P4:=nL.good.ext P2 u4;have X4:=X2.ext u4;refine⟨lp X4,dl0 P4.cell,dl0 P4.cell,?_⟩;refine aOJ (B2.ext u4) pw λh5 B5 u5=>?_;have P5:=nL.good.upd P4 u5 offd;refine⟨dl0 P5.cell,?_⟩;refine aSW B5 (by omega) λh6 B6 u6=>?_;have P6:=nL.good.upd P5 u6 offd;have u16:cT [b,m] h1 h6:=((u2.trans u4.upd).trans u5).trans u6;have X6:Bx h6 r1 p.cells:=X1.upd u16 n1b;have hsub:∀a∈A,a∈aIi pf++(aIW p++(sG p++A)):=λa ha=>by simp[ha]
  cases hh:aDz (vV s.cl (x:Int)) pf (iY 97 q) (aEm p) with
  | false=>
   rw[hh,if_pos rfl] at hse;simp only[cE,reduceIte,cV,Nat.reduceAdd];exact no 9 B6 u16 hsub hse (by decide)
  | true=>
   rw[hh,if_neg (by decide)] at hse;have hok:=hok hse;obtain⟨-,sh6⟩:=stepOf B6 u16 hsub;simp only[cQ.f2,aR.f1,fO,dl2 P6.cell,ls X6,q99,cE,reduceIte,cV,Nat.reduceAdd];refine aAS (c:=99) (n:=q) hq2 λh7 u7=>?_;have P7:=nL.good.ext P6 u7;refine⟨dl2 P7.cell,?_⟩;refine aRw P7 (by have:=aPd (aPV hm).1;rw[hqn] at this;exact this) λh8 F8 P8 s8=>?_;obtain⟨X8,nX8⟩:=aCZ (X6.ext u7) nX s8;simp only[lp X8,cE,reduceIte,cV,Nat.reduceAdd];refine aKx (s:=s.del (iY 99 q)) (n:=n) (b:=b) ⟨sp,cp,bv,nv,P8⟩ hn 3 p λh9 F9 P9 s9=>?_;obtain⟨W9,sW9⟩:=aHg (X':=DC c b (s.settled 3 p) (n+1)) (B6.ext u7) hdis (by
    unfold Ch.settled;rw[hqn];exact P9) (s8.trans s9)
   refine hok h9 _ (rJ.mono W9 λa ha=>?_) ((sh6.trans (jJ.ext u7)).trans sW9);simp only[kA] at ha ⊢;rcases ha with(ha|ha|ha)|ha
   ·exact .inl ha
   ·exact .inr (.inl ha)
   ·exact .inr (.inr (.inl ha))
   ·exact .inr (.inr (.inr ha))
def aRl{h:PH}{c b m:Nat}{s:Ch}{n:Nat}{A:List Tx}{K F:List Nat}(H:eI (rJ b m A K) (DC c b s n) h F)(w:s.DOk)(hn:n≤10000){p:Pk}(pw:p.wf){pf:Tx}(hpf:pf.length≤1000000){x:Nat}(hx:x<18446744073709551616){k:cD}
  (hbad:jO s p (vU s p pf (x:Int))≠0->∀h',eI (rJ b m A K) (DC c b s n) h' F->jJ h F h' F->k (.int .i64 (jO s p (vU s p pf (x:Int)))) h')
  (hok:jO s p (vU s p pf (x:Int))=0->∀h' F',eI (rJ b m ((aLB pf (iY 114 p.s.toNat)++sG p)++A) K) (DC c b (s.settled 4 p) (n+1)) h' F'->jJ h F h' F'->k (.int .i64 0) h'):
  aT PG vT #[pT c 0,p.v,.string (tx pf),.int .u64 (x:Int)] h k:=by
 apply nE.call;unfold nE;have gX:∀s n,mE (DC c b s n):=λ_ _=>DC.good _ _ _ _;have gW:mE (eI (rJ b m A K) (DC c b s n)):=(rJ.good _ _ _ _).star (gX _ _);obtain⟨Fd,Hd,HB,eF,hdis⟩:=aFH H;subst eF;obtain⟨sp,cp,bv,nv,P⟩:=id Hd;have offd:=aMl hdis;obtain⟨q,hq⟩:=zLn pw.1;have hq2:q<18446744073709551616:=by have:=pw.2.1;omega
 have hqn:p.s.toNat=q:=by omega
 intro r1 hr1
 try rw[cW]
 have u1:dC h (h.set r1 (.cells (Value.cells p.v) aR)):=cT.new hr1;have X1:Bx (h.set r1 (.cells (Value.cells p.v) aR)) r1 p.cells:=Bx.new;generalize h.set r1 (.cells (Value.cells p.v) aR)=h1 at *;have P1:=nL.good.ext P u1;have n1b:r1∉[b,m]:=(eN.one hr1).off (HB.known b (by simp)) (HB.known m (by simp)) r1 (by simp);have nX:r1∉Fd:=λhm=>(gX s n).known Hd _ hm hr1;have lp:∀{h':PH},Bx h' r1 p.cells->cH PG h' (loadAt aR (pT r1 0))=some p.v:=λX=>X.pk rfl;have ls:∀{h':PH},Bx h' r1 p.cells->cH PG h' (loadAt cA (pT r1 1))=some (.int .u64 (q:Int)):=λX=>by rw[cA.load,X.cell,←hq];rfl
 have lt:∀{h':PH},Bx h' r1 p.cells->cH PG h' (loadAt cA (pT r1 2))=some (.int .u64 p.t):=λX=>by rw[cA.load,X.cell];rfl
 have hse:=aOr s p (vU s p pf (x:Int));have stepOf:∀{h3:PH} {A':List Tx},Bk b m A' K h3->cT [b,m] h1 h3->(∀a∈A,a∈A')->eI (rJ b m A K) (DC c b s n) h3 ((b::m::K)++Fd)∧jJ h ((b::m::K)++Fd) h3 ((b::m::K)++Fd):=fun {h3 A'} B3 u3 hs=>by
  obtain⟨W3,s3⟩:=aHn (gX s n) (gW.ext H u1) B3 u3;exact⟨rJ.mono W3 hs,(jJ.ext u1).trans s3⟩
 have no:∀{h3:PH} {A':List Tx} (e:Int),Bk b m A' K h3->cT [b,m] h1 h3->(∀a∈A,a∈A')->jO s p (vU s p pf (x:Int))=e->e≠0->k (.int .i64 e) h3:=fun {h3 A'} e B3 u3 hs he hne=>by
  obtain⟨W3,s3⟩:=stepOf B3 u3 hs;have:=hbad (by rw[he];exact hne) h3 W3 s3;rw[he] at this;exact this
 simp only[lp X1,cE,reduceIte,cV,Nat.reduceAdd];refine aRS (s:=s) (n:=n) (HB.ext u1) P1 pw λh2 B2 u2=>?_;have P2:=nL.good.upd P1 u2 offd;have X2:=X1.upd u2 n1b;by_cases hm:aDJ s p=0
 case neg=>
  have q0:(aDJ s p !=0)=true:=by rw[bne_iff_ne];exact hm
  rw[if_neg hm] at hse;simp only[kP,q0,cE,reduceIte,cV,Nat.reduceAdd];exact no _ B2 u2 (λa ha=>zLl _ ha) hse hm
 have q0:(aDJ s p !=0)=false:=by rw[hm];rfl
 rw[if_pos hm] at B2 hse;rw[aZV,hqn] at hse;rw[hqn] at hok;obtain⟨Fc,KR,-,-⟩:=P2.fCl;simp only[kP,q0,cQ.f3,fO,dl3 P2.cell,cE,reduceIte,cV,Nat.reduceAdd];refine aK3 KR (by have:=w.few;omega) (x:Int) ?_;rw[aNj];cases hro:(lZ s.cl (x:Int)).isSome with
 | false=>
  rw[hro,if_pos rfl] at hse;simp only[cE,reduceIte,cV,Nat.reduceAdd];exact no 11 B2 u2 (λa ha=>zLl _ ha) hse (by decide)
 | true=>
  rw[hro,if_neg (by decide)] at hse;by_cases c2:IntKind.u64.wrap (p.t-1)≤(x:Int)
  case neg=>
   have g:((x:Int)<IntKind.u64.wrap (p.t-1))=True:=eq_true (by omega);rw[if_pos c2] at hse;simp only[aR.f2,fO,lt X2,g,cE,reduceIte,cV,Nat.reduceAdd];exact no 11 B2 u2 (λa ha=>zLl _ ha) hse (by decide)
  have g:((x:Int)<IntKind.u64.wrap (p.t-1))=False:=eq_false (by omega);rw[if_neg (by simpa using c2)] at hse;have q114:({data:=#[114]}:ByteArray)=tx [114]:=rfl;have q99:({data:=#[99]}:ByteArray)=tx [99]:=rfl;simp only[aR.f1,aR.f2,cQ.f0,fO,lt X2,g,dl0 P2.cell,ls X2,q114,cE,reduceIte,cV,Nat.reduceAdd];refine aAS (c:=114) (n:=q) hq2 λh4 u4=>?_;have P4:=nL.good.ext P2 u4;refine⟨dl0 P4.cell,?_⟩;refine aTj (B2.ext u4) (by omega) λh6 B6 u6=>?_;have P6:=nL.good.upd P4 u6 offd;have u16:cT [b,m] h1 h6:=(u2.trans u4.upd).trans u6;have X6:Bx h6 r1 p.cells:=X1.upd u16 n1b;have hsub:∀a∈A,a∈aLB pf (iY 114 q)++(sG p++A):=λa ha=>by simp[ha]
  cases hh:aEh (vV s.cl (x:Int)) pf (iY 114 q) with
  | false=>
   rw[hh,if_pos rfl] at hse;simp only[cE,reduceIte,cV,Nat.reduceAdd];exact no 9 B6 u16 hsub hse (by decide)
  | true=>
   rw[hh,if_neg (by decide)] at hse;have hok:=hok hse;obtain⟨-,sh6⟩:=stepOf B6 u16 hsub;simp only[cQ.f2,aR.f1,fO,dl2 P6.cell,ls X6,q99,cE,reduceIte,cV,Nat.reduceAdd];refine aAS (c:=99) (n:=q) hq2 λh7 u7=>?_;have P7:=nL.good.ext P6 u7;refine⟨dl2 P7.cell,?_⟩;refine aRw P7 (by have:=aPd (aPV hm).1;rw[hqn] at this;exact this) λh8 F8 P8 s8=>?_;obtain⟨X8,nX8⟩:=aCZ (X6.ext u7) nX s8;simp only[lp X8,cE,reduceIte,cV,Nat.reduceAdd];refine aKx (s:=s.del (iY 99 q)) (n:=n) (b:=b) ⟨sp,cp,bv,nv,P8⟩ hn 4 p λh9 F9 P9 s9=>?_;obtain⟨W9,sW9⟩:=aHg (X':=DC c b (s.settled 4 p) (n+1)) (B6.ext u7) hdis (by
    unfold Ch.settled;rw[hqn];exact P9) (s8.trans s9)
   refine hok h9 _ (rJ.mono W9 λa ha=>?_) ((sh6.trans (jJ.ext u7)).trans sW9);simp only[kA] at ha ⊢;rcases ha with(ha|ha)|ha
   ·exact .inl ha
   ·exact .inr (.inl ha)
   ·exact .inr (.inr ha)
def aY7:jZ PG (buildSlice eP 0 #[])=some (.cells #[] cU,λr=>pure (.slice (some ⟨r,0,none⟩) 0 0)):=by kernel_rfl
def aVE:Rows 1 ([]:List (List Value)):=λr hr=>by cases hr
def aRJ(v:Value):Rows 1 [[v]]:=λr hr=>by simp only[gE] at hr;subst hr;rfl
def aV8{h:PH}{c b:Nat}{s:Ch}{n:Nat}{F:List Nat}(H:DC c b s n h F)(hn:n≤10000){kk:cD}
  (hk:∀h' F',DC c b s.committed (n+1) h' F'->jJ h F h' F'->kk (.tuple #[.int .u64 ((lS s.st).2.1:Int),.int .i64 (lS s.st).2.2]) h'):aT PG xC #[pT c 0] h kk:=by
 apply nP.call;unfold nP vP;obtain⟨sp,cp,bv,nv,P⟩:=H;simp only[cQ.f2,fO,dl2 P.cell,cE,reduceIte,cV,Nat.reduceAdd];obtain⟨Fs,⟨G,S,rfl⟩,hFs,back⟩:=P.fSt;refine aXX S λh1 G1 S1 u1 g1=>?_;obtain⟨F2,P2,s2⟩:=back (rsA sp (lS s.st).1) h1 (sp::G1) ⟨G1,S1,rfl⟩ ⟨u1.mono λx hx=>.inl (by simp only[gE] at hx;simp[hx]),λx hx=>by
  rcases gU.1 hx with rfl|hx
  ·exact .inl (by simp)
  ·rcases g1 x hx with hx|hx
   ·exact .inl (by simp[hx])
   ·exact .inr hx⟩
 unfold Ch.committed at hk;by_cases he:(lS s.st).2.2=0
 case neg=>
  have q:((lS s.st).2.2==0)=false:=by simpa using he
  rw[if_neg he] at hk;simp only[iG,q,cE,reduceIte,cV,Nat.reduceAdd];refine hk h1 F2 (DC.mono (n:=n) ⟨sp,cp,bv,nv,?_⟩ (wS n)) s2;rw[aJo he] at P2;exact P2
 have q:((lS s.st).2.2==0)=true:=by simpa using he
 rw[if_pos he] at hk;have P2:nL c (s.dcells b sp cp bv nv) sp (lS s.st).1 cp s.cl bv nv n h1 F2:=P2;obtain⟨Ft,⟨Fb,Fn,rfl,⟨rows,Ob,lb,cb⟩,⟨ns,On,ln⟩,hd⟩,hFt,back2⟩:=P2.fTwo;obtain⟨na,nc,env,-⟩:=On.slR.here;rw[jB] at env;simp only[iG,q,cQ.f5,cQ.f6,fO,dl5 P2.cell,dl6 P2.cell,aY7,cE,reduceIte,cV,Nat.reduceAdd];intro r15 hr15;refine fT ?_
 try rw[cW]
 have u3:dC h1 (h1.set r15 (.cells #[] cU)):=cT.new hr15;have O3:eO (h1.set r15 (.cells #[] cU)) cU 1 (.slice (some ⟨r15,0,none⟩) 0 0) ([]:List (List Value)) [r15]:=eO.lit (n:=0) aVE dJ (by simp) (by decide) rfl;have P3:=nL.good.ext P2 u3;generalize h1.set r15 (.cells #[] cU)=h3 at *;refine jL eP.und eP.und cU.info cU.size cU.bytes cU.zero rfl (by decide) O3 (Ob.ext u3).slR cb (by simp only[zLN];omega) ?_;intro v4 h4 F4 O4 u4 k4 _;rw[uL] at O4;have e14:dC h1 h4:=u3.fresh u4 (eN.one hr15);have f4:eN h1 F4:=λx hx=>by
  rcases k4 x hx with hx|hx
  ·simp only[gE] at hx;subst hx;exact hr15
  ·exact u3.none hx
 have P4:=nL.good.ext P2 e14;refine⟨dl6 P4.cell,?_⟩;rw[env];simp only[aRz,cE,reduceIte,cV,Nat.reduceAdd];rw[←env];intro r21 hr21;refine fT ?_
 try rw[cW]
 have u5:dC h4 (h4.set r21 (.cells #[nv] cU)):=cT.new hr21;have s5:gB (h4.set r21 (.cells #[nv] cU)) 1 (.slice (some ⟨r21,0,none⟩) 1 1) [[nv]]:=(eO.lit (n:=1) (aRJ nv) dJ (by simp) (by decide) (by simp)).slR;generalize h4.set r21 (.cells #[nv] cU)=h5 at *;refine jL eP.und eP.und cU.info cU.size cU.bytes cU.zero rfl (by decide) (O4.ext u5) s5 (λr hr u hu=>by
  simp only[gE] at hr;subst hr;simp only[gE] at hu;subst hu;exact On.slR.isc) (by simp only[zLT];omega) ?_
 intro v6 h6 F6 O6 u6 k6 _;have e16:dC h1 h6:=(e14.trans u5).fresh u6 f4;have f6:eN h1 F6:=f4.grow (e14.trans u5) k6;have B6:boA v6 (n+1) h6 F6:=⟨rows++[[nv]],O6,by simp;omega,λr hr u hu=>by
  rcases kA.1 hr with hr|hr
  ·exact cb r hr u hu
  ·simp only[gE] at hr;subst hr;simp only[gE] at hu;subst hu;exact On.slR.isc⟩
 have W6:eI (boA v6 (n+1)) (noA nv (n+1)) h6 (F6++Fn):=eI.mk B6 ⟨ns,On.ext e16,by omega⟩ (λx hx hx5=>On.known x hx5 (f6 x hx));obtain⟨F7,P7,s7⟩:=back2 _ h6 _ W6 ⟨e16.upd,λx hx=>by
  rcases kA.1 hx with hx|hx
  ·exact .inr (f6 x hx)
  ·exact .inl (by simp[hx])⟩
 have P7:nL c (s.dcells b sp cp bv nv) sp (lS s.st).1 cp s.cl v6 nv (n+1) h6 F7:=P7;obtain⟨Fx,⟨rfl,X7⟩,hFx,back3⟩:=P7.fBox;refine eP.put X7 (o:=5) (by show 5<7;decide) O6.slR.isc λh8 X8 u8=>?_;have X8:Bx h8 c (s.dcells b sp cp v6 nv):=X8;refine cU.put X8 (o:=6) (by show 6<7;decide) rfl λh9 X9 u9=>?_;have X9:Bx h9 c (s.dcells b sp cp v6 (.slice none 0 0)):=X9;obtain⟨F10,P10,s10⟩:=back3 (oJ c (s.dcells b sp cp v6 (.slice none 0 0))) h9 [c] ⟨rfl,X9⟩ ⟨u8.trans u9,λx hx=>.inl hx⟩;obtain⟨F11,Fr,eF,hx,⟨G1',G2',eG,y1,⟨G3,G4,eG2,y2,⟨G5,G6,eG3,y3,⟨ns',On',ln'⟩,d5⟩,d3⟩,d1⟩,dx⟩:=P10;refine hk h9 (F11++(G1'++(G3++(G5++[])))) ⟨sp,cp,v6,.slice none 0 0,F11,_,rfl,hx,⟨G1',_,rfl,y1,⟨G3,_,rfl,y2,⟨G5,[],rfl,y3,⟨[],eO.nil,by simp⟩,by simp⟩,?_⟩,?_⟩,?_⟩ ?_
 ·subst eG3;intro x hx1 hx2;exact d3 x hx1 (by simp at hx2;simp[hx2])
 ·subst eG2;subst eG3;intro x hx1 hx2;exact d1 x hx1 (by simp at hx2;rcases hx2 with hx2|hx2<;>simp[hx2])
 ·subst eG;subst eG2;subst eG3;intro x hx1 hx2;exact dx x hx1 (by simp at hx2;rcases hx2 with hx2|hx2|hx2<;>simp[hx2])
 ·have st:=(s2.trans s7).trans s10;refine⟨st.upd,λx hx=>st.grow x ?_⟩;rw[eF,eG,eG2,eG3];simp at hx ⊢;rcases hx with hx|hx|hx|hx<;>simp[hx]
def aT6{h:PH}{c b m:Nat}{s:Ch}{n:Nat}{A:List Tx}{K F:List Nat}{sp cp:Nat}{bv nv:Value}(HB:Bk b m A K h)(P:nL c (s.dcells b sp cp bv nv) sp s.st cp s.cl bv nv n h F)(offd:∀x∈F,x∉[b,m])(key:Tx){x:Nat}(hx:x<18446744073709551616){kk:cD}
  (hk:∀h',Bk b m A K h'->cT [b,m] h h'->kk (.tuple #[.string (tx (aFi s.st key x).1),.int .i64 (aFi s.st key x).2]) h'):aT PG yG #[pT c 0,.string (tx key),.int .u64 (x:Int)] h kk:=by
 apply uW.call;unfold uW;have hst:=P.okst;simp only[cQ.f2,fO,dl2 P.cell,cE,reduceIte,cV,Nat.reduceAdd];obtain⟨Fs,⟨G,S,eFs⟩,hFs,-⟩:=P.fSt;have q0:({data:=#[]}:ByteArray)=tx []:=rfl;unfold aFi at hk;have kb:=HB.known b (by simp);have km:=HB.known m (by simp);refine aUs S x hx (λe=>?_) (λl v e B1 hv=>?_)
 ·rw[e] at hk;have q:((3:Int) !=0)=true:=by decide
  simp only[kP,q,q0,cE,reduceIte,cV,Nat.reduceAdd];exact hk h HB cT.refl
 ·rw[e] at hk;simp only at hk;have M:=hst.mok e;have ov:Off b m v:=λa n c ev=>offd _ (hFs _ (by rw[eFs];simp[hv a n c ev]));simp only[kP,cQ.f0,fO,dl0 P.cell,cE,reduceIte,cV,Nat.reduceAdd]
  -- the end
  have fin:∀{h4:PH} {ab:Bool} {v4:Value} {r:Nat},cT [b,m] h h4->Bk b m A K h4->Bx h4 r [.bool ab,v4]->nZ h h4 v4 (lC l key).lv->ab=(lC l key).ab->(∀h',Bk b m A K h'->cT [b,m] h h'->kk (.tuple #[.string (tx (lV (lC l key)).1),.int .i64 (lV (lC l key)).2]) h')->mQ kk (.int .i64 0) (pT r 0) h4:=by
   intro h4 ab v4 r u4 HB4 B4 L4 eab hk;unfold mQ;have l4:cH PG h4 (loadAt cC (pT r 0))=some (Pf.val ab v4):=cC.agg B4 (by show 0+2≤2;decide);simp only[kP,l4,cE,reduceIte,cV,Nat.reduceAdd];obtain⟨l5,F',el,O,-,L⟩:=L4.here;have epf:(⟨ab,l5.map (·.1)⟩:Pf)=lC l key:=by rw[el,eab]
   have hpf:=aPb M key;refine aPa O.slR L.lfs (by
    have:l5.length=(lC l key).lv.length:=by rw[←el];simp
    have:=hpf.1;omega) λh5 u5=>?_
   rw[epf];simp only[cE,reduceIte,cV,Nat.reduceAdd];exact hk h5 (HB4.ext u5) (u4.trans u5.upd)
  refine aRh HB M B1 ov (λhno h2 HB2 u2=>?_) (λhyes h2 v2 HB2 L2 u2=>?_)
  ·have hns:(iI l key).isSome=false:=by rw[hno];rfl
   rw[hns] at hk;simp only[zLu,if_false] at hk;simp only[cE,reduceIte,cV,Nat.reduceAdd];intro r14 hr14
   try rw[cW]
   have n14:h r14=none:=u2.grow2 (HB2.known b (by simp)) (HB2.known m (by simp)) hr14;have n14b:r14∉[b,m]:=λhm=>by
    simp only[gU,lH,or_false] at hm;rcases hm with rfl|rfl
    ·exact kb n14
    ·exact km n14
   refine cC.fill (vs:=[.bool false,.slice none 0 0]) hr14 rfl (by simp[fX]) λh3 B3 u3=>?_;have q:((3:Int) !=0)=true:=by decide
   have e3:=u2.trans u3.upd;have P3:=nL.good.upd P e3 offd;simp only[kP,q,cQ.f0,fO,dl0 P3.cell,cE,reduceIte,cV,Nat.reduceAdd];have B13:=B1.upd e3 (λa n c ev=>ov a n c ev);have bad:∀{h4:PH} {e:Int},cT [b,m] h3 h4->Bk b m A K h4->e≠0->(∀h',Bk b m A K h'->cT [b,m] h h'->kk (.tuple #[.string (tx []),.int .i64 e]) h')->dA PG (dR cC (pT r14 0) (Pf.val false (.slice none 0 0))) h4 λv23 h24=>mQ kk (.int .i64 e) (pT r14 0) h24:=by
    intro h4 e u4 HB4 hne hk;refine cC.put (vs:=[.bool false,.slice none 0 0]) (B3.upd u4 n14b) (o:=0) rfl (by show 0+2≤2;decide) (by simp[fX]) λh5 B5 u5=>?_;unfold mQ;have q:(e !=0)=true:=by simpa using hne
    simp only[kP,q,q0,cE,reduceIte,cV,Nat.reduceAdd];refine hk h5 (HB4.upd u5 λy hy hm=>?_) (cT.then (e3.trans u4) u5 (λy hy=>by simp only[gE] at hy;subst hy;exact .inr n14));simp only[gE] at hm;subst hm;exact HB.known _ hy n14
   refine aS1 (HB2.ext u3) M B13 ov (λhb h4 HB4 u4=>?_) (λ_ hs h4 HB4 u4=>?_) (λhb _ h4 v4 HB4 L4 u4=>?_)
   ·rw[if_neg hb] at hk;simp only[cE,reduceIte,cV,Nat.reduceAdd];exact bad u4 HB4 (by decide) hk
   ·rw[hns] at hs;cases hs
   ·rw[if_pos hb] at hk;simp only[cE,reduceIte,cV,Nat.reduceAdd];refine cC.put (vs:=[.bool true,v4]) (B3.upd u4 n14b) (o:=0) rfl (by show 0+2≤2;decide) (by
     have:=L4.isc;simp[fX];exact this) λh5 B5 u5=>?_
    have hab:(lC l key).ab=true:=by
     unfold lC;rw[if_neg (by rw[hns];decide)];split
     ·rfl
     ·split
      ·rfl
      ·split<;>rfl
    have L5:nZ h3 h5 v4 (lC l key).lv:=L4.upd u5 (λb hb=>by simp only[gE] at hb;rw[hb];exact B3.known);have L5':nZ h h5 v4 (lC l key).lv:=by
     obtain⟨l',F',el,O,f,L⟩:=L5.here;have HB3:=HB2.ext u3;refine⟨l',F',el,O,λy hy=>e3.grow2 (HB3.known b (by simp)) (HB3.known m (by simp)) (f y hy),λy hy=>?_⟩;obtain⟨G',y1,y2,y3⟩:=L y hy;exact⟨G',y1,λz hz=>e3.grow2 (HB3.known b (by simp)) (HB3.known m (by simp)) (y2 z hz),y3⟩
    refine fin (cT.then (e3.trans u4) u5 (λy hy=>by simp only[gE] at hy;subst hy;exact .inr n14)) (HB4.upd u5 λy hy hm=>?_) B5 L5' hab.symm hk;simp only[gE] at hm;subst hm;exact HB.known _ hy n14
  ·rw[hyes] at hk;simp only[if_true] at hk;simp only[cE,reduceIte,cV,Nat.reduceAdd];intro r14 hr14
   try rw[cW]
   refine cC.fill (vs:=[.bool false,v2]) hr14 rfl (by
    have:=L2.isc;simp[fX];exact this) λh3 B3 u3=>?_
   have epf:lC l key=⟨false,[kQ l (hQ l key)]⟩:=by unfold lC;rw[if_pos hyes]
   exact fin (u2.trans u3.upd) (HB2.ext u3) B3 (by rw[epf];exact L2.upd u3 (λb hb=>by cases hb)) (by rw[epf]) hk
def aNG(p:Pf):(lV p).1.length≤3000:=by
 unfold lV;split
 ·rename_i h;obtain⟨h1,h2⟩:=h;rw[aEw] at h2;show(aE1 p).length≤3000;have hl:∀l:List Lf,(∀f∈l,f.okb=true)->(lM l).length≤1000*l.length:=λl=>by
   induction l with
   | nil=>intro _;simp[lM]
   | cons f l ih=>
    intro hh;have a:=aQP (Lf.ok_iff.1 (hh f (by simp)));have b:=ih λy hy=>hh y (by simp[hy]);simp only[lM,jS,rN];omega
  have:=hl p.lv h2;unfold aE1;simp only[jS,jG];omega
 ·simp
def aTP(s:St)(key:Tx)(x:Nat):(aFi s key x).1.length≤3000:=by
 unfold aFi;split
 ·simp
 ·split
  ·exact aNG _
  ·split
   ·exact aNG _
   ·simp
def aWN(o:Ch){a:kG}(h:a.d.length≤1000000):(mJ o a).length≤1000000:=by
 unfold mJ;split
 ·have:=aTP o.st (aJV a) a.h;omega
 ·exact h
noncomputable def doA(c o:Ch)(a:kG):List Tx:=
 if a.kind=0 then(if qG c a.d a.h=0 then sG (kE c a.d a.h) else [])
 else if a.kind=1 then(match yS o.st a.h with
  | none=>[]
  | some b=>aF7 b)
 else if a.kind=2 then(if qX c (uA c a.p (mJ o a) (a.h:Int))=0 then aIW a.p++(aIi (mJ o a)++sG a.p) else [])
 else if a.kind=3 then(if jO c a.p (aBB c a.p (mJ o a) (a.h:Int))=0 then aIi (mJ o a)++(aIW a.p++sG a.p) else [])
 else if a.kind=4 then(if jO c a.p (vU c a.p (mJ o a) (a.h:Int))=0 then aLB (mJ o a) (iY 114 a.p.s.toNat)++sG a.p else [])
 else []
def aVu{h:PH}{c b:Nat}{s:Ch}{n:Nat}{F:List Nat}{sp cp:Nat}{bv nv:Value}(P:nL c (s.dcells b sp cp bv nv) sp s.st cp s.cl bv nv n h F)(w:s.cl.length≤4096)(x:Int)(root:Tx){kk:cD}
  (hk:∀h' F',nL c ((s.told x root).dcells b sp cp bv nv) sp (s.told x root).st cp (s.told x root).cl bv nv n h' F'->jJ h F h' F'->kk (.int .i64 (aAa s.cl ⟨x,tx root⟩).1) h'):aT PG sE #[pT cp 0,.int .u64 x,.string (tx root)] h kk:=by
 obtain⟨Fc,C,hFc,back⟩:=P.fCl;have ea:cp∈Fc:=by
  obtain⟨v,G,-,-,eF,-⟩:=(C:xW h cp s.cl Fc);rw[eF];simp
 refine aWs C w ⟨x,tx root⟩ λh1 F1 C1 u1 g1=>?_;obtain⟨F2,P2,s2⟩:=back (krA cp (aAa s.cl ⟨x,tx root⟩).2) h1 F1 C1 ⟨u1.mono λy hy=>.inl (by
  simp only[gE] at hy;subst hy;exact ea),g1⟩
 exact hk h1 F2 P2 s2
def aYq(st:St)(P:Pr->Prop):Prop:=(∀q∈st.now,P q)∧∀b∈st.blocks,∀q∈b,P q
def aSs(st:St)(k v:Tx):St:={st with now:=oP st.now ⟨k,v⟩}
def aZf(st:St)(k:Tx):St:={st with now:=uE st.now k}
def bAD(st:St)(k:Tx)(t:Int):Prop:=(∃q∈st.now,q.k=k)∧∀x b,yS st x=some b->t≤(x:Int)+1->∃q∈b,q.k=k
def aXa(c:Ch)(p:Pk):(c.sent p).st=aSs c.st (iY 99 c.seq) (qY p)∧(c.sent p).cl=c.cl∧(c.sent p).id=c.id:=⟨rfl,rfl,rfl⟩
def aRe(c:Ch)(p:Pk):(c.received p).st=aSs (aSs c.st (iY 114 p.s.toNat) [1]) (iY 97 p.s.toNat) (aEm p)∧(c.received p).cl=c.cl∧(c.received p).id=c.id:=⟨rfl,rfl,rfl⟩
def aN2(c:Ch)(k:Int)(p:Pk):(c.settled k p).st=aZf c.st (iY 99 p.s.toNat)∧(c.settled k p).cl=c.cl∧(c.settled k p).id=c.id:=⟨rfl,rfl,rfl⟩
def aG5(c:Ch):c.committed.st=(lS c.st).1∧c.committed.cl=c.cl∧c.committed.id=c.id:=by
 unfold Ch.committed;by_cases he:(lS c.st).2.2=0
 ·rw[if_pos he];exact⟨rfl,rfl,rfl⟩
 ·rw[if_neg he];exact⟨(aJo he).symm,rfl,rfl⟩
def aJu(c o:Ch)(a:kG):
  (a.kind=0∧qG c a.d a.h=0∧(nW c o a).1=c.sent (kE c a.d a.h)∧(nW c o a).2=(kE c a.d a.h,0,0)∧doA c o a=sG (kE c a.d a.h))∨
  (a.kind=1∧∃b,yS o.st a.h=some b∧(nW c o a).1=c.told (a.h:Int) (oC b)∧doA c o a=aF7 b)∨
  (a.kind=2∧qX c (uA c a.p (mJ o a) (a.h:Int))=0∧(nW c o a).1=c.received a.p∧(nW c o a).2.2.2=0∧doA c o a=aIW a.p++(aIi (mJ o a)++sG a.p))∨
  (a.kind=3∧jO c a.p (aBB c a.p (mJ o a) (a.h:Int))=0∧(nW c o a).1=c.settled 3 a.p∧(nW c o a).2.2.2=0∧doA c o a=aIi (mJ o a)++(aIW a.p++sG a.p))∨
  (a.kind=4∧jO c a.p (vU c a.p (mJ o a) (a.h:Int))=0∧(nW c o a).1=c.settled 4 a.p∧(nW c o a).2.2.2=0∧doA c o a=aLB (mJ o a) (iY 114 a.p.s.toNat)++sG a.p)∨
  (a.kind=5∧(nW c o a).1=c.committed)∨
  ((nW c o a).1=c∧((nW c o a).2.2.2=0->a.kind<0∨5<a.kind)):=by
 unfold nW doA;by_cases k0:a.kind=0
 ·rw[if_pos k0,if_pos k0];by_cases e:qG c a.d a.h=0
  ·rw[if_pos e,if_pos e];exact .inl ⟨k0,e,rfl,rfl,rfl⟩
  ·rw[if_neg e];exact .inr (.inr (.inr (.inr (.inr (.inr ⟨rfl,λh=>absurd h e⟩)))))
 rw[if_neg k0,if_neg k0];by_cases k1:a.kind=1
 ·rw[if_pos k1,if_pos k1];cases hs:yS o.st a.h with
  | none=>exact .inr (.inr (.inr (.inr (.inr (.inr ⟨rfl,λh=>by simp at h⟩)))))
  | some b=>exact .inr (.inl ⟨k1,b,rfl,rfl,rfl⟩)
 rw[if_neg k1,if_neg k1];by_cases k2:a.kind=2
 ·rw[if_pos k2,if_pos k2];by_cases e:qX c (uA c a.p (mJ o a) (a.h:Int))=0
  ·rw[if_pos e,if_pos e];exact .inr (.inr (.inl ⟨k2,e,rfl,rfl,rfl⟩))
  ·rw[if_neg e];exact .inr (.inr (.inr (.inr (.inr (.inr ⟨rfl,λh=>absurd h e⟩)))))
 rw[if_neg k2,if_neg k2];by_cases k3:a.kind=3
 ·rw[if_pos k3,if_pos k3];by_cases e:jO c a.p (aBB c a.p (mJ o a) (a.h:Int))=0
  ·rw[if_pos e,if_pos e];exact .inr (.inr (.inr (.inl ⟨k3,e,rfl,rfl,rfl⟩)))
  ·rw[if_neg e];exact .inr (.inr (.inr (.inr (.inr (.inr ⟨rfl,λh=>absurd h e⟩)))))
 rw[if_neg k3,if_neg k3];by_cases k4:a.kind=4
 ·rw[if_pos k4,if_pos k4];by_cases e:jO c a.p (vU c a.p (mJ o a) (a.h:Int))=0
  ·rw[if_pos e,if_pos e];exact .inr (.inr (.inr (.inr (.inl ⟨k4,e,rfl,rfl,rfl⟩))))
  ·rw[if_neg e];exact .inr (.inr (.inr (.inr (.inr (.inr ⟨rfl,λh=>absurd h e⟩)))))
 rw[if_neg k4,if_neg k4];by_cases k5:a.kind=5
 ·rw[if_pos k5];exact .inr (.inr (.inr (.inr (.inr (.inl ⟨k5,rfl⟩)))))
 ·rw[if_neg k5];exact .inr (.inr (.inr (.inr (.inr (.inr ⟨rfl,λ_=>by omega⟩)))))
def KOk(s:Ch):Prop:=s.cl.length≤4096∧∀y∈hts s.cl,0≤y∧y<18446744073709551616
def aVC{l:List iA}{x y:iA}(h:y∈(aAa l x).2):y∈l∨y=x:=by
 unfold aAa at h;split at h
 ·exact .inl h
 ·split at h
  ·exact .inl h
  ·split at h
   ·exact .inl h
   ·simpa using h
def aWM{l:List iA}{x:iA}(h:l.length≤4096):(aAa l x).2.length≤4096:=by
 unfold aAa;split
 ·exact h
 ·split
  ·exact h
  ·split
   ·exact h
   ·simp only[jS,zLT];omega
def KOk.doP{c:Ch}(H:KOk c)(o:Ch){a:kG}(w:a.wf):KOk (nW c o a).1:=by
 have same:∀{c':Ch},c'.cl=c.cl->KOk c':=λe=>by unfold KOk;rw[e];exact H
 rcases aJu c o a with⟨-,-,e,-⟩|⟨-,b,-,e,-⟩|⟨-,-,e,-⟩|⟨-,-,e,-⟩|⟨-,-,e,-⟩|⟨-,e⟩|⟨e,-⟩<;>rw[e]
 ·exact same rfl
 ·refine⟨aWM H.1,λy hy=>?_⟩;obtain⟨z,hz,rfl⟩:=mG.1 hy;rcases aVC hz with hz|rfl
  ·exact H.2 _ (mG.2 ⟨z,hz,rfl⟩)
  ·have:=w.h;exact⟨by show(0:Int)≤(a.h:Int);omega,by show(a.h:Int)<_;omega⟩
 ·exact same rfl
 ·exact same rfl
 ·exact same rfl
 ·exact same (aG5 c).2.1
 ·exact H
def aZt(id:Int)(A:List Tx)(G:Pk->Prop)(q:Pr):Prop:=∀n,n<18446744073709551616->q.k=iY 97 n->∃p,G p∧p.f=id∧p.s.toNat=n∧q.v=aEm p∧p.right=true∧p.wf∧∀t∈aIW p,t∈A
structure bAH(c o:Ch)(A:List Tx)(G T:Pk->Prop):Prop where
 cl:∀y∈c.cl,∃(x:Nat) (b:List Pr),y.height=(x:Int)∧yS o.st x=some b∧y.root=tx (oC b)∧∀t∈aF7 b,t∈A
 rk:∀p,G p->p.f=c.id->bAD o.st (iY 114 p.s.toNat) p.t
 ak:aYq o.st (aZt c.id A G)
 tm:∀p,T p->p.f=c.id->p.t≤(o.st.height:Int)+1
section
variable{c o:Ch}{A:List Tx}{G T:Pk->Prop}(H:bAH c o A G T)
include H
end
def cS(l:List Nt)(p:Pk):Nat:=(l.filter λn=>decide (n.k=1∧n.p=p)).length
def cR(l:List Nt)(p:Pk):Nat:=(l.filter λn=>decide (n.k=2∧n.p=p)).length
def cO(l:List Nt)(p:Pk):Nat:=(l.filter λn=>decide ((n.k≠1∧n.k≠2)∧n.p=p)).length
def aZR(id:Int)(l:List Nt)(n:Nt):Prop:=
 if n.k=1 then n.p.f=id∧cS l n.p=1 else if n.k=2 then n.p.f=1-id∧cR l n.p=1 else n.p.f=id∧cO l n.p=1∧cS l n.p=1
def aX1(id:Int)(l:List Nt):Prop:=∀i n,l[i]? =some n->aZR id (l.take (i+1)) n
def aZC(A:List Tx)(l:List Nt)(q:Pr):Prop:=∀n,n<18446744073709551616->q.k=iY 99 n->∃p:Pk,(⟨1,p⟩:Nt)∈l∧p.s.toNat=n∧q.v=qY p∧∀t∈sG p,t∈A
def aFB(d0 d1:Nat):List Value:=[pT d0 0,pT d1 0]
def dCh(b m:Nat)(A:List Tx)(K:List Nat)(c:Nat)(s:Ch)(n:Nat):mT:=eI (rJ b m A K) (DC c b s n)
def dRe(t:Nat)(cs:List Value)(o b:Nat)(so:Ch)(n:Nat):mT:=eI (oJ t cs) (DC o b so n)
def dCh.good(b m:Nat)(A:List Tx)(K:List Nat)(c:Nat)(s:Ch)(n:Nat):mE (dCh b m A K c s n):=(rJ.good _ _ _ _).star (DC.good _ _ _ _)
def dRe.good(t:Nat)(cs:List Value)(o b:Nat)(so:Ch)(n:Nat):mE (dRe t cs o b so n):=(oJ.good _ _).star (DC.good _ _ _ _)
def dRe.mono{t:Nat}{cs:List Value}{o b:Nat}{so:Ch}{n n':Nat}(hn:n≤n'){h:PH}{F:List Nat}(H:dRe t cs o b so n h F):dRe t cs o b so n' h F:=by
 obtain⟨Fa,Fb,rfl,hx,hy,hd⟩:=H;exact⟨Fa,Fb,rfl,hx,hy.mono hn,hd⟩
def dCh.mono{b m:Nat}{A:List Tx}{K:List Nat}{c:Nat}{s:Ch}{n n':Nat}(hn:n≤n'){h:PH}{F:List Nat}(H:dCh b m A K c s n h F):dCh b m A K c s n' h F:=by
 obtain⟨Fa,Fb,rfl,hx,hy,hd⟩:=H;exact⟨Fa,Fb,rfl,hx,hy.mono hn,hd⟩
def eI.imp{A B A' B':mT}{h:PH}{F:List Nat}(H:eI A B h F)(ha:∀G,A h G->A' h G)(hb:∀G,B h G->B' h G):eI A' B' h F:=by
 obtain⟨Fa,Fb,rfl,hx,hy,hd⟩:=H;exact⟨Fa,Fb,rfl,ha _ hx,hb _ hy,hd⟩
def aVg{h:PH}{F:List Nat}{b m:Nat}{A:List Tx}{K:List Nat}{c o t:Nat}{cs2:List Value}{s so:Ch}{n:Nat}(H:eI (dCh b m A K c s n) (dRe t cs2 o b so n) h F)(w:s.DOk)(hn:n≤10000){a:kG}(wa:a.wf)(hd64:a.d.length≤1000000){r1 r3:Nat}(B1:Bx h r1 a.cells)(n1:r1∉F){cs:List Value}(hcs:cs.length=4)(B3:Bx h r3 cs)(n3:r3∉F){R:cD}
  (hR:∀h' F',eI (dCh b m (doA s so a++A) K c (nW s so a).1 (n+1)) (dRe t cs2 o b so (n+1)) h' F'->cT (r3::F) h h'->(∀b∈F',b∈F∨h b=none)->R (.tuple #[(nW s so a).2.1.v,.int .u64 ((nW s so a).2.2.1:Int),.int .i64 (nW s so a).2.2.2]) h'):
  oZ R (pT r1 0) (pT r3 0) (pT c 0) (pT o 0) (.string (tx (mJ so a))) h:=by
 unfold oZ;have gC:=λA s n=>dCh.good b m A K c s n;have gR:=λn=>dRe.good t cs2 o b so n;have fin:∀{h1:PH} {F1:List Nat} {A':List Tx} {s':Ch} {n':Nat} {pk:Pk} {hh:Nat} {e:Int},eI (dCh b m A' K c s' n') (dRe t cs2 o b so n) h1 F1->n'≤n+1->(∀a'∈doA s so a++A,a'∈A')->jJ h F h1 F1->nW s so a=(s',(pk,hh,e))->dA PG (dR aR (pT r3 0) pk.v) h1 λ_ h80=>dY (cH PG h80 (loadAt aR (pT r3 0))) λv81=>R (.tuple #[v81,.int .u64 (hh:Int),.int .i64 e]) h80:=by
  intro h1 F1 A' s' n' pk hh e H1 hn' hA s1 ed;have B31:=B3.upd s1.upd n3;refine aR.put (vs:=pk.cells) B31 (o:=0) rfl (by omega) (Pk.isC _) λh2 B2 u2=>?_;have l2:cH PG h2 (loadAt aR (pT r3 0))=some pk.v:=B2.pk (by simp[Pk.cells]);simp only[l2,cE,reduceIte,cV,Nat.reduceAdd];have m3:r3∉F1:=λhm=>by
   rcases s1.grow _ hm with hx|hx
   ·exact n3 hx
   ·exact B3.known hx
  rw[ed] at hR;have H2:=((gC A' s' n').star (gR n)).upd H1 u2 (λb hb hb'=>by simp only[gE] at hb';exact m3 (hb'▸hb));exact hR h2 F1 (eI.imp H2 (λG hG=>dCh.mono hn' (rJ.mono hG hA)) (λG hG=>dRe.mono (wS n) hG)) (λb ob hb hn=>by
   simp only[gU,not_or] at hn;exact u2 b ob (s1.upd b ob hb hn.2) (by simpa using hn.1)) s1.grow
 have lk:cH PG h (loadAt bT (pT r1 0))=some (.int .i64 a.kind):=by rw[bT.load,B1.cell];rfl
 have lh:∀{h':PH},Bx h' r1 a.cells->cH PG h' (loadAt cA (pT r1 2))=some (.int .u64 (a.h:Int)):=λB=>by rw[cA.load,B.cell];rfl
 have ld:cH PG h (loadAt bR (pT r1 3))=some (.string (tx a.d)):=by rw[bR.load,B1.cell];rfl
 have lp:cH PG h (loadAt aR (pT r1 4))=some a.p.v:=B1.pk rfl;have hpf:=aWN so hd64;obtain⟨Fa,HA,hFa,back⟩:=eI.left (gR n) H;have back:∀{A':List Tx} {s':Ch} {n':Nat} {h':PH} {Fa':List Nat},eI (rJ b m A' K) (DC c b s' n') h' Fa'->jJ h Fa h' Fa'->∃F',eI (dCh b m A' K c s' n') (dRe t cs2 o b so n) h' F'∧jJ h F h' F':=fun {A' s' n' h' Fa'} HX st=>back (dCh b m A' K c s' n') h' Fa' HX st;have hdd:nW s so a=if a.kind=0 then(if qG s a.d a.h=0 then(s.sent (kE s a.d a.h),(kE s a.d a.h,0,0)) else(s,(default,0,qG s a.d a.h)))
   else if a.kind=1 then(match yS so.st a.h with
    | none=>(s,(default,0,3))
    | some b=>(s.told (a.h:Int) (oC b),(default,0,(aAa s.cl ⟨(a.h:Int),tx (oC b)⟩).1)))
   else if a.kind=2 then(if qX s (uA s a.p (mJ so a) (a.h:Int))=0 then(s.received a.p,(default,0,0)) else(s,(default,0,qX s (uA s a.p (mJ so a) (a.h:Int)))))
   else if a.kind=3 then(if jO s a.p (aBB s a.p (mJ so a) (a.h:Int))=0 then(s.settled 3 a.p,(default,0,0)) else(s,(default,0,jO s a.p (aBB s a.p (mJ so a) (a.h:Int)))))
   else if a.kind=4 then(if jO s a.p (vU s a.p (mJ so a) (a.h:Int))=0 then(s.settled 4 a.p,(default,0,0)) else(s,(default,0,jO s a.p (vU s a.p (mJ so a) (a.h:Int)))))
   else if a.kind=5 then(s.committed,(default,(lS s.st).2.1,(lS s.st).2.2))
   else(s,(default,0,0)):=rfl
 have hda:doA s so a=if a.kind=0 then(if qG s a.d a.h=0 then sG (kE s a.d a.h) else [])
  else if a.kind=1 then(match yS so.st a.h with
   | none=>[]
   | some b=>aF7 b)
  else if a.kind=2 then(if qX s (uA s a.p (mJ so a) (a.h:Int))=0 then aIW a.p++(aIi (mJ so a)++sG a.p) else [])
  else if a.kind=3 then(if jO s a.p (aBB s a.p (mJ so a) (a.h:Int))=0 then aIi (mJ so a)++(aIW a.p++sG a.p) else [])
  else if a.kind=4 then(if jO s a.p (vU s a.p (mJ so a) (a.h:Int))=0 then aLB (mJ so a) (iY 114 a.p.s.toNat)++sG a.p else [])
  else []:=rfl
 by_cases k0:a.kind=0
 ·have q:(a.kind==0)=true:=by simp[k0]
  rw[if_pos k0] at hdd hda;simp only[cG.f0,cG.f2,cG.f3,fO,lk,ld,lh B1,iG,q,cE,reduceIte,cV,Nat.reduceAdd];have last:∀{h1:PH} {F1:List Nat} {A':List Tx} {s':Ch} {n':Nat} {pk:Pk} {e:Int},eI (dCh b m A' K c s' n') (dRe t cs2 o b so n) h1 F1->n'≤n+1->(∀a'∈doA s so a++A,a'∈A')->jJ h F h1 F1->nW s so a=(s',(pk,0,e))->∀r74,h1 r74=none->eM (PH.set h1 r74 (.cells (dS PG aR) aR)) λh75=>
    dA PG (dR aR (pT r74 0) pk.v) h75 λv76 h77=>
    dY (cH PG h77 (loadAt aR (pT r74 0))) λv78=>
    dA PG (dR aR (pT r3 0) v78) h77 λv79 h80=>
    dY (cH PG h80 (loadAt aR (pT r3 0))) λv81=>
    R (.tuple #[v81,(Value.int IntKind.u64 0),.int .i64 e]) h80:=by
   intro h1 F1 A' s' n' pk e H1 hn' hA s1 ed r74 hr74
   try rw[cW]
   refine aR.fill (vs:=pk.cells) hr74 rfl (Pk.isC _) λh2 B2 u2=>?_;have l2:cH PG h2 (loadAt aR (pT r74 0))=some pk.v:=B2.pk rfl;simp only[l2,cE,reduceIte,cV,Nat.reduceAdd];exact fin (hh:=0) (((gC A' s' n').star (gR n)).ext H1 u2) hn' hA (s1.trans (jJ.ext u2)) ed
  refine aU3 HA w hn a.d hd64 wa.h (λhe h1 H1 s1=>?_) (λhe h1 F1 H1 s1=>?_)
  ·rw[if_neg he] at hdd hda;obtain⟨F2,W2,s2⟩:=back H1 s1;have:=last W2 (wS n) (by rw[hda];exact λ_ h=>h) s2 hdd;simp only[cE,reduceIte,cV,Nat.reduceAdd] at this ⊢;exact this
  ·rw[if_pos he] at hdd hda;obtain⟨F2,W2,s2⟩:=back H1 s1;have:=last W2 (pF _) (by rw[hda];exact λ_ h=>h) s2 hdd;simp only[cE,reduceIte,cV,Nat.reduceAdd] at this ⊢;exact this
 have q0:(a.kind==0)=false:=by simp[k0]
 rw[if_neg k0] at hdd hda;by_cases k1:a.kind=1
 ·have q:(a.kind==1)=true:=by simp[k1]
  rw[if_pos k1] at hdd hda;obtain⟨Fcd,HCd,HB,eFa,hdis⟩:=aFH HA;obtain⟨sp,cp,bv,nv,PC⟩:=id HCd;obtain⟨Fo,HO,hFo⟩:∃Fo,DC o b so n h Fo∧∀x∈Fo,x≠b∧x≠m:=by
   obtain⟨Fc,Fr,eF,HC,⟨Ft,Fo,eFr,-,HO,dto⟩,dcr⟩:=id H;obtain⟨Fcd,-,-,eFc,-⟩:=aFH HC;refine⟨Fo,HO,λx hx=>?_⟩;have h1:x∈Fr:=by rw[eFr];exact zLl _ hx
   refine⟨λe=>?_,λe=>?_⟩
   ·exact dcr b (by rw[eFc];simp) (e▸h1)
   ·exact dcr m (by rw[eFc];simp) (e▸h1)
  obtain⟨osp,ocp,obv,onv,PO⟩:=id HO;obtain⟨Fs,⟨G,St,eFs⟩,hFs,-⟩:=PO.fSt;obtain⟨cc,A0,HBk,hAA⟩:=id HB;have hGb:∀x∈G,x≠b∧x≠m:=λx hx=>hFo x (hFs x (by rw[eFs];simp[hx]));have n1b:r1∉[b,m]:=λhm=>by
   simp only[gU,lH,or_false] at hm;rcases hm with rfl|rfl
   ·exact n1 (hFa _ (by rw[eFa];simp))
   ·exact n1 (hFa _ (by rw[eFa];simp))
  simp only[cG.f0,cG.f2,cQ.f0,cQ.f2,fO,lk,lh B1,dl0 PC.cell,dl2 PO.cell,iG,q0,q,cE,reduceIte,cV,Nat.reduceAdd];refine aT0 St HBk hGb a.h wa.h (λe=>?_) (λl h1 c' e HB1 _ u1=>?_)
  ·rw[e] at hdd hda;obtain⟨F2,W2,s2⟩:=back HA jJ.refl;have qe:((3:Int) !=0)=true:=by decide
   simp only[kP,qe,Pk.zb,cE,reduceIte,cV,Nat.reduceAdd];exact fin (hh:=0) W2 (wS n) (by rw[hda];exact λ_ h=>h) s2 hdd
  ·rw[e] at hdd hda;have HB2:Bk b m (aF7 l++A) K h1:=⟨c',_,HB1,λx hx=>by
    rcases kA.1 hx with hx|hx
    ·simp[hx]
    ·simp[hAA x hx]⟩
   obtain⟨-,s1⟩:=aHn (DC.good c b s n) HA HB2 u1;have P1:=nL.good.upd PC u1 (aMl hdis);have C1:=B1.upd u1 n1b;simp only[kP,Pk.zb,cG.f2,cQ.f3,fO,lh C1,dl3 P1.cell,cE,reduceIte,cV,Nat.reduceAdd];refine aVu P1 w.few (a.h:Int) (oC l) λh2 F2 P2 s2=>?_;obtain⟨W2,sW2⟩:=aHg (X':=DC c b (s.told (a.h:Int) (oC l)) n) HB2 hdis ⟨sp,cp,bv,nv,P2⟩ s2;rw[←eFa] at sW2;obtain⟨F3,W3,s3⟩:=back W2 (s1.trans sW2);have:=fin (hh:=0) W3 (wS n) (by rw[hda];exact λ_ h=>h) s3 hdd;exact this
 have q1:(a.kind==1)=false:=by simp[k1]
 rw[if_neg k1] at hdd hda;by_cases k2:a.kind=2
 ·have q:(a.kind==2)=true:=by simp[k2]
  rw[if_pos k2] at hdd hda;simp only[cG.f0,cG.f2,cG.f4,fO,lk,lh B1,lp,iG,q0,q1,q,Pk.zb,cE,reduceIte,cV,Nat.reduceAdd];have erc:aKB s a.p (mJ so a) (a.h:Int)=qX s (uA s a.p (mJ so a) (a.h:Int)):=rfl;refine aVY HA w hn wa.p hpf wa.h (λhe h1 H1 s1=>?_) (λhe h1 F1 H1 s1=>?_)
  ·rw[erc] at he ⊢;rw[if_neg he] at hdd hda;obtain⟨F2,W2,s2⟩:=back H1 s1;exact fin (hh:=0) W2 (wS n) (by rw[hda];exact λ_ h=>h) s2 hdd
  ·rw[erc] at he;rw[if_pos he] at hdd hda;obtain⟨F2,W2,s2⟩:=back H1 s1;exact fin (hh:=0) W2 (pF _) (by rw[hda];exact λ_ h=>h) s2 hdd
 have q2:(a.kind==2)=false:=by simp[k2]
 rw[if_neg k2] at hdd hda;by_cases k3:a.kind=3
 ·have q:(a.kind==3)=true:=by simp[k3]
  rw[if_pos k3] at hdd hda;simp only[cG.f0,cG.f2,cG.f4,fO,lk,lh B1,lp,iG,q0,q1,q2,q,Pk.zb,cE,reduceIte,cV,Nat.reduceAdd];refine aW3 HA w hn wa.p hpf wa.h (λhe h1 H1 s1=>?_) (λhe h1 F1 H1 s1=>?_)
  ·rw[if_neg he] at hdd hda;obtain⟨F2,W2,s2⟩:=back H1 s1;exact fin (hh:=0) W2 (wS n) (by rw[hda];exact λ_ h=>h) s2 hdd
  ·rw[if_pos he] at hdd hda;obtain⟨F2,W2,s2⟩:=back H1 s1;exact fin (hh:=0) W2 (pF _) (by rw[hda];exact λ_ h=>h) s2 hdd
 have q3:(a.kind==3)=false:=by simp[k3]
 rw[if_neg k3] at hdd hda;by_cases k4:a.kind=4
 ·have q:(a.kind==4)=true:=by simp[k4]
  rw[if_pos k4] at hdd hda;simp only[cG.f0,cG.f2,cG.f4,fO,lk,lh B1,lp,iG,q0,q1,q2,q3,q,Pk.zb,cE,reduceIte,cV,Nat.reduceAdd];refine aRl HA w hn wa.p hpf wa.h (λhe h1 H1 s1=>?_) (λhe h1 F1 H1 s1=>?_)
  ·rw[if_neg he] at hdd hda;obtain⟨F2,W2,s2⟩:=back H1 s1;exact fin (hh:=0) W2 (wS n) (by rw[hda];exact λ_ h=>h) s2 hdd
  ·rw[if_pos he] at hdd hda;obtain⟨F2,W2,s2⟩:=back H1 s1;exact fin (hh:=0) W2 (pF _) (by rw[hda];exact λ_ h=>h) s2 hdd
 have q4:(a.kind==4)=false:=by simp[k4]
 rw[if_neg k4] at hdd hda;by_cases k5:a.kind=5
 ·have q:(a.kind==5)=true:=by simp[k5]
  rw[if_pos k5] at hdd;simp only[cG.f0,fO,lk,iG,q0,q1,q2,q3,q4,q,cE,reduceIte,cV,Nat.reduceAdd];obtain⟨Fcd,HCd,HB,eFa,hdis⟩:=aFH HA;refine aV8 HCd hn λh1 F1 H1 s1=>?_;obtain⟨W1,sW1⟩:=aHg HB hdis H1 s1;rw[←eFa] at sW1;obtain⟨F2,W2,s2⟩:=back W1 sW1;simp only[Pk.zb,cE,reduceIte,cV,Nat.reduceAdd];exact fin W2 (pF _) (by rw[hda];exact λ_ h=>h) s2 hdd
 ·have q:(a.kind==5)=false:=by simp[k5]
  rw[if_neg k5] at hdd;obtain⟨F2,W2,s2⟩:=back HA jJ.refl;simp only[cG.f0,fO,lk,iG,q0,q1,q2,q3,q4,q,Pk.zb,cE,reduceIte,cV,Nat.reduceAdd];exact fin (hh:=0) W2 (wS n) (by rw[hda];exact λ_ h=>h) s2 hdd
def eI.flip{A B C D:mT}{h:PH}{F:List Nat}(H:eI (eI A B) (eI C D) h F):∃F',eI (eI A D) (eI C B) h F'∧∀x,x∈F'↔x∈F:=by
 obtain⟨Fx,Fy,rfl,⟨Fa,Fb,rfl,ha,hb,d1⟩,⟨Fc,Fd,rfl,hc,hd,d2⟩,d3⟩:=H;refine⟨(Fa++Fd)++(Fc++Fb),⟨Fa++Fd,Fc++Fb,rfl,⟨Fa,Fd,rfl,ha,hd,λx hx hx'=>d3 x (by simp[hx]) (by simp[hx'])⟩,⟨Fc,Fb,rfl,hc,hb,λx hx hx'=>d3 x (by simp[hx']) (by simp[hx])⟩,λx hx hx'=>?_⟩,λx=>?_⟩
 ·rcases kA.1 hx with hx|hx
  ·rcases kA.1 hx' with hx'|hx'
   ·exact d3 x (by simp[hx]) (by simp[hx'])
   ·exact d1 x hx hx'
  ·rcases kA.1 hx' with hx'|hx'
   ·exact d2 x hx' hx
   ·exact d3 x (by simp[hx']) (by simp[hx])
 ·simp only[kA];constructor
  ·rintro((h|h)|(h|h))<;>simp[h]
  ·rintro((h|h)|(h|h))<;>simp[h]
def DTw(t d0 d1 b m:Nat)(A:List Tx)(K:List Nat)(s0 s1:Ch)(n:Nat):mT:=eI (dCh b m A K d0 s0 n) (dRe t (aFB d0 d1) d1 b s1 n)
def DTw.good(t d0 d1 b m:Nat)(A:List Tx)(K:List Nat)(s0 s1:Ch)(n:Nat):mE (DTw t d0 d1 b m A K s0 s1 n):=(dCh.good _ _ _ _ _ _ _).star (dRe.good _ _ _ _ _ _)
def aZF{r o i:Nat}(hi:i<2):dG PG (indexAt lD (pT r o) (.int .i64 (i:Int)))=some (pT r (o+i)):=by
 have ix:=aBH (P:=PG) (t:=lD) (b:=r) (o:=o) (k:=.i64) (j:=(i:Int)) lD.und iN.info iN.size (by omega) (by omega);rw[ix,qP,Nat.mul_one]
noncomputable def twA(a b:Ch)(x:kG):List Tx:=if x.id=1 then doA b a x else doA a b x
def aU5{t d0 d1 b m:Nat}{A:List Tx}{K:List Nat}{s0 s1:Ch}{n:Nat}{h:PH}{F:List Nat}(H:DTw t d0 d1 b m A K s0 s1 n h F)(x:kG):∃(c o:Nat) (s so:Ch) (F1:List Nat),eI (dCh b m A K c s n) (dRe t (aFB d0 d1) o b so n) h F1∧(∀y,y∈F1↔y∈F)∧(aFB d0 d1)[lT x.id]? =some (pT c 0)∧(aFB d0 d1)[1-lT x.id]? =some (pT o 0)∧(s=s0∨s=s1)∧(nW s so x).2=(kY s0 s1 x).2∧doA s so x=twA s0 s1 x∧
  ∀(A':List Tx) (n':Nat) (h':PH) (F':List Nat),eI (dCh b m A' K c (nW s so x).1 n') (dRe t (aFB d0 d1) o b so n') h' F'->∃F'',DTw t d0 d1 b m A' K (kY s0 s1 x).1.1 (kY s0 s1 x).1.2 n' h' F''∧∀y,y∈F''↔y∈F':=by
 by_cases e:x.id=1
 ·have e1:lT x.id=1:=by unfold lT;rw[if_pos e]
  obtain⟨F1,H1,hF⟩:=eI.flip H;refine⟨d1,d0,s1,s0,F1,H1,hF,by rw[e1];rfl,by rw[e1];rfl,.inr rfl,?_,?_,λA' n' h' F' H'=>?_⟩
  ·unfold kY;rw[if_pos e]
  ·unfold twA;rw[if_pos e]
  ·obtain⟨F2,H2,hF2⟩:=eI.flip H';refine⟨F2,?_,hF2⟩;unfold kY;rw[if_pos e];exact H2
 ·have e1:lT x.id=0:=by unfold lT;rw[if_neg e]
  refine⟨d0,d1,s0,s1,F,H,λy=>Iff.rfl,by rw[e1];rfl,by rw[e1];rfl,.inl rfl,?_,?_,λA' n' h' F' H'=>⟨F',?_,λy=>Iff.rfl⟩⟩
  ·unfold kY;rw[if_neg e]
  ·unfold twA;rw[if_neg e]
  ·unfold kY;rw[if_neg e];exact H'
def aYV{h:PH}{t d0 d1 b m:Nat}{A:List Tx}{K:List Nat}{s0 s1:Ch}{n:Nat}{F:List Nat}(H:DTw t d0 d1 b m A K s0 s1 n h F)(w0:s0.DOk)(w1:s1.DOk)(hn:n≤10000){x:kG}(wx:x.wf)(hd64:x.d.length≤1000000){kk:cD}
  (hk:∀h' F',DTw t d0 d1 b m (twA s0 s1 x++A) K (kY s0 s1 x).1.1 (kY s0 s1 x).1.2 (n+1) h' F'->jJ h F h' F'->kk (.tuple #[(kY s0 s1 x).2.1.v,.int .u64 ((kY s0 s1 x).2.2.1:Int),.int .i64 (kY s0 s1 x).2.2.2]) h'):
  aT PG aBu #[pT t 0,x.v] h kk:=by
 apply rU.call;unfold rU;obtain⟨c,o,s,so,F1,S,hF,hc,ho,hs,e2,eA,hW⟩:=aU5 H x;have w:s.DOk:=by rcases hs with rfl|rfl<;>assumption
 have gC:=λA s n=>dCh.good b m A K c s n;have gR:=λn=>dRe.good t (aFB d0 d1) o b so n;have gS:=λA s n n'=>(gC A s n).star (gR n');intro r1 hr1
 try rw[cW]
 have u1:dC h (h.set r1 (.cells (Value.cells x.v) cG)):=cT.new hr1;have B1:Bx (h.set r1 (.cells (Value.cells x.v) cG)) r1 x.cells:=Bx.new;generalize h.set r1 (.cells (Value.cells x.v) cG)=h1 at *;intro r3 hr3
 try rw[cW]
 have u3:dC h1 (h1.set r3 (.cells (dS PG aR) aR)):=cT.new hr3;have Z3:=aR.zbox (h:=h1) (r:=r3);have C1:=B1.ext u3;generalize h1.set r3 (.cells (dS PG aR) aR)=h3 at *;have e3:=u1.trans u3;have k1:h r1=none:=hr1;have k3:h r3=none:=u1.none hr3;have kS:=(gS A s n n).known S;have n1:r1∉F1:=λhm=>kS _ hm k1;have n3:r3∉F1:=λhm=>kS _ hm k3;have li:∀{h'':PH},dC h3 h''->cH PG h'' (loadAt bT (pT r1 1))=some (.int .i64 x.id):=λv=>by rw[bT.load,(C1.ext v).cell];rfl
 have hsd:=aRx x.id;have w1:IntKind.i64.wrap (1-((lT x.id:Nat):Int))=((1-lT x.id:Nat):Int):=by rw[fI (by omega) (by omega)];omega
 have S3:=(gS A s n n).ext S e3;obtain⟨Fc,Fr,eF,HC,⟨Ft,Fo,eFr,⟨-,Bt⟩,HO,-⟩,dcr⟩:=id S3;have lc:cH PG h3 (loadAt iN (pT t (lT x.id)))=some (pT c 0):=by rw[iN.load,Bt.cell];exact hc
 have lo:cH PG h3 (loadAt iN (pT t (1-lT x.id)))=some (pT o 0):=by rw[iN.load,Bt.cell];exact ho
 have ix1:=aZF (r:=t) (o:=0) (i:=lT x.id) hsd;have ix2:=aZF (r:=t) (o:=0) (i:=1-lT x.id) (by omega);rw[fO] at ix1 ix2;have lk:cH PG h3 (loadAt bT (pT r1 0))=some (.int .i64 x.kind):=by rw[bT.load,C1.cell];rfl
 have lh:∀{h'':PH},dC h3 h''->cH PG h'' (loadAt cA (pT r1 2))=some (.int .u64 (x.h:Int)):=λv=>by rw[cA.load,(C1.ext v).cell];rfl
 have ld:cH PG h3 (loadAt bR (pT r1 3))=some (.string (tx x.d)):=by rw[bR.load,C1.cell];rfl
 have lsp:cH PG h3 (loadAt gQ (pT r1 8))=some (.bool x.sp):=by rw[gQ.load,C1.cell];rfl
 have lx:cH PG h3 (loadAt cG (pT r1 0))=some x.v:=cG.agg C1 (by show 0+9≤9;decide)
 -- the second half
 have tail:∀{h5:PH},eI (dCh b m A K c s n) (dRe t (aFB d0 d1) o b so n) h5 F1->jJ h3 F1 h5 F1->oZ kk (pT r1 0) (pT r3 0) (pT c 0) (pT o 0) (.string (tx (mJ so x))) h5:=by
  intro h5 S5 s5;refine aVg S5 w hn wx hd64 (C1.upd s5.upd n1) n1 rfl (Z3.upd s5.upd n3) n3 λh6 F6 W6 u6 g6=>?_;rw[e2];rw[eA] at W6;obtain⟨F7,W7,hF7⟩:=hW _ _ _ _ W6;refine hk h6 F7 W7 ⟨λbk ob hb hn=>u6 bk ob (s5.upd bk ob (e3.get hb) (λhm=>hn ((hF bk).1 hm))) (λhm=>?_),λbk hb=>?_⟩
  ·rcases gU.1 hm with rfl|hm
   ·rw[k3] at hb;cases hb
   ·exact hn ((hF bk).1 hm)
  ·rcases g6 bk ((hF7 bk).1 hb) with hx|hx
   ·exact .inl ((hF bk).1 hx)
   ·refine .inr ?_;by_cases hm:bk∈F1
    ·exact absurd hx ((gS A s n n).known S5 bk hm)
    ·cases hh:h bk with
     | none=>rfl
     | some ob=>
      have:=s5.upd bk ob (e3.get hh) hm;rw[hx] at this;cases this
 simp only[cG.f1,lY.f0,fO,li cT.refl,cE,reduceIte,cV,Nat.reduceAdd];refine aM3 x.id ?_;refine⟨li cT.refl,?_⟩;simp only[ix1,lc,cE,reduceIte,cV,Nat.reduceAdd];refine aM3 x.id ?_;refine⟨lc,?_⟩;simp only[w1,ix2,lo,cG.f0,cG.f2,cG.f3,cG.f5,fO,ld,lsp,cE,reduceIte,cV,Nat.reduceAdd];have plain:¬(x.sp=false∧2≤x.kind∧x.kind≤4)->oZ kk (pT r1 0) (pT r3 0) (pT c 0) (pT o 0) (.string (tx x.d)) h3:=λhn=>by
  have:=tail (h5:=h3) S3 jJ.refl;unfold mJ at this;rw[if_neg hn] at this;exact this
 cases hsp:x.sp with
 | true=>
  simp only[cE,reduceIte,cV,Nat.reduceAdd];exact plain (by rw[hsp];simp)
 | false=>
  by_cases k2:2≤x.kind
  ·have g1:=eq_true k2;by_cases k4:x.kind≤4
   ·have g2:=eq_true k4;simp only[cG.f0,cG.f2,fO,lk,g1,g2,lx,lh cT.refl,cE,reduceIte,cV,Nat.reduceAdd];refine aPl wx λh4 u4=>?_;refine⟨lh u4,?_⟩;obtain⟨Fcd,HCd,HB,eFc,hdis⟩:=aFH HC;obtain⟨osp,ocp,obv,onv,PO⟩:=id HO;have hob:∀y∈Fo,y∉[b,m]:=λy hy hm=>by
     have h1:y∈Fr:=by rw[eFr];exact zLl _ hy
     simp only[gU,lH,or_false] at hm;rcases hm with rfl|rfl
     ·exact dcr _ (by rw[eFc];simp) h1
     ·exact dcr _ (by rw[eFc];simp) h1
    refine aT6 (s:=so) (n:=n) (HB.ext u4) (nL.good.ext PO u4) hob (aJV x) wx.h λh5 B5 u5=>?_;simp only[cE,reduceIte,cV,Nat.reduceAdd];have hbm:∀y∈[b,m],y∈F1:=λy hy=>by
     rw[eF,eFc];simp only[gU,lH,or_false] at hy;rcases hy with rfl|rfl<;>simp
    have S5:eI (dCh b m A K c s n) (dRe t (aFB d0 d1) o b so n) h5 F1:=by
     have S4:=(gS A s n n).ext S3 u4;obtain⟨Gc,Gr,eG,HC4,HR4,dcr4⟩:=S4;obtain⟨HC5,-⟩:=aHn (DC.good c b s n) HC4 B5 u5;refine⟨Gc,Gr,eG,HC5,(gR n).upd HR4 u5 (λy hy hm=>?_),dcr4⟩;obtain⟨Fz,_,_,eGc,_⟩:=aFH HC4;simp only[gU,lH,or_false] at hm;rcases hm with rfl|rfl
     ·exact dcr4 _ (by rw[eGc];simp) hy
     ·exact dcr4 _ (by rw[eGc];simp) hy
    have:=tail S5 ⟨u4.upd.trans (u5.mono λy hy=>.inl (hbm y hy)),λy hy=>.inl hy⟩;unfold mJ at this;rw[if_pos ⟨hsp,k2,k4⟩] at this;exact this
   ·have g2:=eq_false k4;simp only[cG.f0,lk,g1,g2,cE,reduceIte,cV,Nat.reduceAdd];exact plain (by simp[k4])
  ·have g1:=eq_false k2;simp only[cG.f0,lk,g1,cE,reduceIte,cV,Nat.reduceAdd];exact plain (by simp[k2])
def aWh(c o:Ch)(a:kG):(nW c o a).1.st.blocks.length≤c.st.blocks.length+1:=by
 rcases aJu c o a with⟨-,-,e,-⟩|⟨-,b,-,e,-⟩|⟨-,-,e,-⟩|⟨-,-,e,-⟩|⟨-,-,e,-⟩|⟨-,e⟩|⟨e,-⟩<;>rw[e]
 ·exact wS _
 ·exact wS _
 ·exact wS _
 ·exact wS _
 ·exact wS _
 ·rw[(aG5 c).1];by_cases he:(lS c.st).2.2=0
  ·rw[(aMB he).1];simp
  ·rw[aJo he];omega
 ·omega
def aZw{a b:Ch}{i:Nat}(ha:a.st.blocks.length≤i)(hb:b.st.blocks.length≤i)(x:kG):(kY a b x).1.1.st.blocks.length≤i+1∧(kY a b x).1.2.st.blocks.length≤i+1:=by
 unfold kY;split
 ·refine⟨by show a.st.blocks.length≤i+1;omega,?_⟩;show(nW b a x).1.st.blocks.length≤i+1;have:=aWh b a x;omega
 ·refine⟨?_,by show b.st.blocks.length≤i+1;omega⟩;show(nW a b x).1.st.blocks.length≤i+1;have:=aWh a b x;omega
def aX7(b s c r:Nat)(id n:Int):dG PG (build cQ #[(0,pT b 0),(1,.int .i64 id),(2,pT s 0),(3,pT c 0),(4,.int .u64 n),(5,.slice (some ⟨r,0,none⟩) 1 1)])=some (.agg #[pT b 0,.int .i64 id,pT s 0,pT c 0,.int .u64 n,.slice (some ⟨r,0,none⟩) 1 1,.slice none 0 0]):=by kernel_rfl
def aOW{h:PH}{b:Nat}(id:Int){n:Nat}(hn:n<18446744073709551616)(seq:Nat){k:cD}(hk:∀h' r F,DC r b (Ch.new id n seq) 1 h' F->eN h F->dC h h'->k (pT r 0) h'):aT PG aAy #[pT b 0,.int .i64 id,.int .u64 (n:Int),.int .u64 (seq:Int)] h k:=by
 apply aDF.call;unfold aDF;refine aXi n hn λs h1 G S1 f1 u1=>?_;simp only[gH.build0,cE,reduceIte,cV,Nat.reduceAdd];intro r4 hr4
 try rw[cW]
 have u2:dC h1 (h1.set r4 (.cells (Value.cells (.agg #[.slice none 0 0])) gH)):=cT.new hr4;have C2:xW (h1.set r4 (.cells (Value.cells (.agg #[.slice none 0 0])) gH)) r4 [] [r4]:=⟨.slice none 0 0,[],dJ,eO.nil,rfl,by simp⟩;generalize h1.set r4 (.cells (Value.cells (.agg #[.slice none 0 0])) gH)=h2 at *;simp only[aXH,cE,reduceIte,cV,Nat.reduceAdd];intro r6 hr6;refine fT ?_
 try rw[cW]
 have u3:dC h2 (h2.set r6 (.cells #[.slice none 0 0] cU)):=cT.new hr6;have O3:eO (h2.set r6 (.cells #[.slice none 0 0] cU)) cU 1 (.slice (some ⟨r6,0,none⟩) 1 1) [[.slice none 0 0]] [r6]:=eO.lit (n:=1) (aRJ (.slice none 0 0)) dJ (by simp) (by decide) (by simp);have C3:=C2.ext u3;generalize h2.set r6 (.cells #[.slice none 0 0] cU)=h3 at *;simp only[aX7,cE,reduceIte,cV,Nat.reduceAdd];intro r11 hr11
 try rw[cW]
 have u4:dC h3 (h3.set r11 (.cells (Value.cells (.agg #[pT b 0,.int .i64 id,pT s 0,pT r4 0,.int .u64 (seq:Int),.slice (some ⟨r6,0,none⟩) 1 1,.slice none 0 0])) cQ)):=cT.new hr11;have X4:Bx (h3.set r11 (.cells (Value.cells (.agg #[pT b 0,.int .i64 id,pT s 0,pT r4 0,.int .u64 (seq:Int),.slice (some ⟨r6,0,none⟩) 1 1,.slice none 0 0])) cQ)) r11 ((Ch.new id n seq).dcells b s r4 (.slice (some ⟨r6,0,none⟩) 1 1) (.slice none 0 0)):=Bx.new;generalize h3.set r11 (.cells (Value.cells (.agg #[pT b 0,.int .i64 id,pT s 0,pT r4 0,.int .u64 (seq:Int),.slice (some ⟨r6,0,none⟩) 1 1,.slice none 0 0])) cQ)=h4 at *;have e13:=u2.trans u3;have e14:=e13.trans u4;have kS:∀y∈s::G,h1 y≠none:=λy hy=>(rsA.good _ _).known (show rsA s ⟨[],[[]],n⟩ h1 (s::G) from⟨G,S1,rfl⟩) y hy;have D:DC r11 b (Ch.new id n seq) 1 h4 ([r11]++((s::G)++([r4]++([r6]++[])))):=by
  refine⟨s,r4,.slice (some ⟨r6,0,none⟩) 1 1,.slice none 0 0,eI.mk ⟨rfl,X4⟩ (eI.mk ((rsA.good _ _).ext (show rsA s ⟨[],[[]],n⟩ h1 (s::G) from⟨G,S1,rfl⟩) e14) (eI.mk (C3.ext u4) (eI.mk ⟨_,O3.ext u4,by simp,λr hr u hu=>?_⟩ ⟨[],eO.nil,by simp⟩ ?_) ?_) ?_) ?_⟩
  ·simp only[gE] at hr;subst hr;simp only[gE] at hu;subst hu;rfl
  ·simp
  ·intro y hy hm;simp only[gE,zLQ] at hy hm;subst hy;subst hm;have:=C2.known y (by simp);exact this hr6
  ·intro y hy hm;have hk1:=kS y hy;simp only[zLQ,zLW,uL,gU,lH,or_false] at hm;rcases hm with rfl|rfl
   ·exact hk1 hr4
   ·exact hk1 (u2.none hr6)
  ·intro y hy hm;simp only[gE] at hy;subst hy;simp only[zLQ,zLW,uL,gU,kA,lH,or_false] at hm;rcases hm with rfl|hm|rfl|rfl
   ·exact kS _ (by simp) (e13.none hr11)
   ·exact kS _ (by simp[hm]) (e13.none hr11)
   ·exact C3.known _ (by simp) hr11
   ·exact O3.known _ (by simp) hr11
 refine hk _ r11 _ D (λy hy=>?_) (dC.trans u1 e14);simp only[zLQ,zLW,uL,gU,kA,lH,or_false] at hy;rcases hy with rfl|rfl|hy|rfl|rfl
 ·exact(dC.trans u1 e13).none hr11
 ·exact f1 _ (by simp)
 ·exact f1 _ (by simp[hy])
 ·exact u1.none hr4
 ·exact(dC.trans u1 u2).none hr6
def aZ0(a b:Nat):dG PG (build lD #[(0,pT a 0),(1,pT b 0)])=some (.agg #[pT a 0,pT b 0]):=by kernel_rfl
def aZl(a b:Nat):dG PG (build lY #[(0,.agg #[pT a 0,pT b 0])])=some (.agg #[pT a 0,pT b 0]):=by kernel_rfl
def aU6{h:PH}{bk mk:Nat}{Kk:List Nat}(HBk:Bk bk mk [] Kk h){a b s0 s1:Nat}(ha:a<18446744073709551616)(hb:b<18446744073709551616){k:cD}(hk:∀h' r d0 d1 F,DTw r d0 d1 bk mk [] Kk (Ch.new 0 a s0) (Ch.new 1 b s1) 1 h' F->(∀y∈F,y∈bk::mk::Kk∨h y=none)->dC h h'->k (pT r 0) h'):aT PG aDh #[pT bk 0,vL a b,vL s0 s1] h k:=by
 apply vC.call;unfold vC;intro r1 hr1
 try rw[cW]
 have u1:dC h (h.set r1 (.cells (Value.cells (vL a b)) eS)):=cT.new hr1;have B1:Bx (h.set r1 (.cells (Value.cells (vL a b)) eS)) r1 (u2c a b):=Bx.new;generalize h.set r1 (.cells (Value.cells (vL a b)) eS)=h1 at *;intro r3 hr3
 try rw[cW]
 have u3:dC h1 (h1.set r3 (.cells (Value.cells (vL s0 s1)) eS)):=cT.new hr3;have B3:Bx (h1.set r3 (.cells (Value.cells (vL s0 s1)) eS)) r3 (u2c s0 s1):=Bx.new;have C1:=B1.ext u3;generalize h1.set r3 (.cells (Value.cells (vL s0 s1)) eS)=h3 at *;have i0:∀{r:Nat},dG PG (indexAt eS (pT r 0) (.int .i64 0))=some (pT r 0):=aO0 (i:=0) (by decide);have i1:∀{r:Nat},dG PG (indexAt eS (pT r 0) (.int .i64 1))=some (pT r 1):=fun {r}=>by have:=aO0 (r:=r) (o:=0) (i:=1) (by decide);rw[fO] at this;exact this
 have l10:∀{h'':PH},dC h3 h''->cH PG h'' (loadAt cA (pT r1 0))=some (.int .u64 (a:Int)):=λv=>by rw[cA.load,(C1.ext v).cell];rfl
 have l11:∀{h'':PH},dC h3 h''->cH PG h'' (loadAt cA (pT r1 1))=some (.int .u64 (b:Int)):=λv=>by rw[cA.load,(C1.ext v).cell];rfl
 have l30:∀{h'':PH},dC h3 h''->cH PG h'' (loadAt cA (pT r3 0))=some (.int .u64 (s0:Int)):=λv=>by rw[cA.load,(B3.ext v).cell];rfl
 have l31:∀{h'':PH},dC h3 h''->cH PG h'' (loadAt cA (pT r3 1))=some (.int .u64 (s1:Int)):=λv=>by rw[cA.load,(B3.ext v).cell];rfl
 simp only[i0,i1,l10 cT.refl,l11 cT.refl,l30 cT.refl,l31 cT.refl,cE,reduceIte,cV,Nat.reduceAdd];refine aOW 0 ha s0 λh4 p F4 D4 f4 u4=>?_;refine⟨l31 u4,l11 u4,?_⟩;refine aOW 1 hb s1 λh5 q F5 D5 f5 u5=>?_;simp only[aZ0,aZl,cE,reduceIte,cV,Nat.reduceAdd];intro r19 hr19
 try rw[cW]
 have u6:dC h5 (h5.set r19 (.cells (Value.cells (.agg #[pT p 0,pT q 0])) lY)):=cT.new hr19;have X6:Bx (h5.set r19 (.cells (Value.cells (.agg #[pT p 0,pT q 0])) lY)) r19 (aFB p q):=Bx.new;generalize h5.set r19 (.cells (Value.cells (.agg #[pT p 0,pT q 0])) lY)=h6 at *;have e3:dC h h3:=u1.trans u3;have e6:=((e3.trans u4).trans u5).trans u6;have D46:=(DC.good _ _ _ _).ext D4 (u5.trans u6);have D56:=(DC.good _ _ _ _).ext D5 u6;refine hk h6 r19 p q _ (eI.mk (eI.mk ⟨rfl,HBk.ext e6⟩ D46 ?_) (eI.mk ⟨rfl,X6⟩ D56 ?_) ?_) (λy hy=>?_) e6
 ·intro y hy hm;exact HBk.known y hy (e3.none (f4 y hm))
 ·intro y hy hm;simp only[gE] at hy;subst hy;exact(DC.good _ _ _ _).known D5 _ hm hr19
 ·intro y hy hm;rcases kA.1 hm with hm|hm
  ·simp only[gE] at hm;subst hm;rcases kA.1 hy with hy|hy
   ·exact(HBk.ext (((e3.trans u4).trans u5))).known _ hy hr19
   ·exact(DC.good _ _ _ _).known ((DC.good _ _ _ _).ext D4 u5) _ hy hr19
  ·rcases kA.1 hy with hy|hy
   ·exact(HBk.ext (e3.trans u4)).known _ hy (f5 _ hm)
   ·exact(DC.good _ _ _ _).known D4 _ hy (f5 _ hm)
 ·simp only[kA,gE] at hy;rcases hy with(hy|hy)|(rfl|hy)
  ·exact .inl hy
  ·exact .inr (e3.none (f4 y hy))
  ·exact .inr (((e3.trans u4).trans u5).none hr19)
  ·exact .inr ((e3.trans u4).none (f5 y hy))
def aT7(c o:Ch)(a:kG):(nW c o a).1.id=c.id:=by
 rcases aJu c o a with⟨-,-,e,-⟩|⟨-,b,-,e,-⟩|⟨-,-,e,-⟩|⟨-,-,e,-⟩|⟨-,-,e,-⟩|⟨-,e⟩|⟨e,-⟩<;>rw[e]
 ·rfl
 ·rfl
 ·rfl
 ·rfl
 ·rfl
 ·exact(aG5 c).2.2
def aYj(s0 s1:Ch)(x:kG):(kY s0 s1 x).1.1.id=s0.id∧(kY s0 s1 x).1.2.id=s1.id:=by
 unfold kY;split
 ·exact⟨rfl,aT7 _ _ _⟩
 ·exact⟨aT7 _ _ _,rfl⟩
def aYX{s0 s1:Ch}(h0:KOk s0)(h1:KOk s1){x:kG}(w:x.wf):KOk (kY s0 s1 x).1.1∧KOk (kY s0 s1 x).1.2:=by
 unfold kY;split
 ·exact⟨h0,h1.doP _ w⟩
 ·exact⟨h0.doP _ w,h1⟩
def aSX{c:Nat}{s:Ch}{h:PH}{F:List Nat}(H:jA c s h F)(k:KOk s):s.DOk∧s.st.Ok:=by
 obtain⟨sp,m,cp,nv,bv,lk,P,perm,ok⟩:=H;obtain⟨Fc,⟨hs,C⟩,-,-⟩:=P.fCli;exact⟨⟨ok.id,ok.seq,⟨hs,C.rank⟩,k.1,k.2⟩,P.okst⟩
def gB.tac4{h:PH}{v:Value}{l:List kG}(S:gB h 9 v (l.map kG.cells)){j:Nat}{x:kG}(hx:l[j]? =some x):
  ∃b o,dG PG (indexAt iX v (.int .i64 (j:Int)))=some (pT b o)∧∀h',dC h h'->dB h' ⟨b,o,none⟩=some (.int .i64 x.kind)∧cH PG h' (loadAt cG (pT b o))=some x.v∧cH PG h' (loadAt aR (pT b (o+4)))=some x.p.v:=by
 obtain⟨b,o,cs,e',fr,h1,hb,hle,hex⟩:=S.at iX.und cG.info cG.size (k:=.i64) (j:=(j:Int)) (r:=x.cells) (by omega) (by rw[wK,qP,hx];rfl);have hd:∀i n,i+n≤9->(cs.extract (o+i) (o+i+n)).toList=(x.cells.drop i).take n:=λi n hi=>by
  rw[←hex];simp only[zLD,zLx,aJn,zLy,aHj,aKO];congr 1;omega
 refine⟨b,o,h1,λh' u=>?_⟩;have hb':=u.get hb;refine⟨?_,?_,?_⟩
 ·unfold dB;simp only[hb'];have:=congrArg (λl:List Value=>l[0]?) (hd 0 1 (by decide));simp only[zLD,zLx,Nat.add_zero,aJn,aJb,aNo] at this;simpa[kG.cells] using this
 ·rw[cG.loadAgg hb' hle];congr 2;exact zLw (hd 0 9 (by decide))
 ·rw[aR.loadAgg hb' (by omega)];congr 2;exact zLw (hd 4 4 (by decide))
structure Bnd(c:Ch)(n:Nat):Prop where
 up:sK c.st.now
 now:c.st.now.length≤2*n
 cl:c.cl.length≤n
def Bnd.mono{c:Ch}{n m:Nat}(H:Bnd c n)(h:n≤m):Bnd c m:=⟨H.up,by have:=H.now;omega,by have:=H.cl;omega⟩
def aXz(l:List iA)(x:iA):(aAa l x).2.length≤l.length+1:=by
 unfold aAa;split
 ·exact wS _
 ·split
  ·exact wS _
  ·split
   ·exact wS _
   ·simp
def Bnd.step{c o:Ch}{n:Nat}(H:Bnd c n)(a:kG):Bnd (nW c o a).1 (n+1):=by
 rcases aJu c o a with⟨-,-,e,-⟩|⟨-,b,-,e,-⟩|⟨-,-,e,-⟩|⟨-,-,e,-⟩|⟨-,-,e,-⟩|⟨-,e⟩|⟨e,-⟩<;>rw[e]
 ·obtain⟨e1,e2,-⟩:=aXa c (kE c a.d a.h);refine⟨by rw[e1];exact H.up.set _,?_,by rw[e2];have:=H.cl;omega⟩;rw[e1];have:=aJy c.st.now ⟨iY 99 c.seq,qY (kE c a.d a.h)⟩;have:=H.now;show(oP _ _).length≤_;omega
 ·exact⟨H.up,by have:=H.now;show c.st.now.length≤_;omega,by have:=aXz c.cl ⟨(a.h:Int),tx (oC b)⟩;have:=H.cl;show(aAa _ _).2.length≤_;omega⟩
 ·obtain⟨e1,e2,-⟩:=aRe c a.p;refine⟨by rw[e1];exact(H.up.set _).set _,?_,by rw[e2];have:=H.cl;omega⟩;rw[e1];have h1:=aJy c.st.now ⟨iY 114 a.p.s.toNat,[1]⟩;have h2:=aJy (oP c.st.now ⟨iY 114 a.p.s.toNat,[1]⟩) ⟨iY 97 a.p.s.toNat,aEm a.p⟩;have:=H.now;show(oP (oP _ _) _).length≤_;omega
 ·obtain⟨e1,e2,-⟩:=aN2 c 3 a.p;refine⟨by rw[e1];exact H.up.del _,?_,by rw[e2];have:=H.cl;omega⟩;rw[e1];have:=aNr (λq=>decide (q.k≠iY 99 a.p.s.toNat)) c.st.now;have:=H.now;show(uE _ _).length≤_;unfold uE;omega
 ·obtain⟨e1,e2,-⟩:=aN2 c 4 a.p;refine⟨by rw[e1];exact H.up.del _,?_,by rw[e2];have:=H.cl;omega⟩;rw[e1];have:=aNr (λq=>decide (q.k≠iY 99 a.p.s.toNat)) c.st.now;have:=H.now;show(uE _ _).length≤_;unfold uE;omega
 ·obtain⟨e1,e2,-⟩:=aG5 c;have en:c.committed.st.now=c.st.now:=by
   rw[e1];by_cases he:(lS c.st).2.2=0
   ·rw[(aMB he).1]
   ·rw[aJo he]
  exact⟨by rw[en];exact H.up,by rw[en];have:=H.now;omega,by rw[e2];have:=H.cl;omega⟩
 ·exact H.mono (by omega)
structure aSo(s:Ch×Ch)(n:Nat):Prop where
 a:Bnd s.1 n
 b:Bnd s.2 n
def aSo.tw{a b:Ch}{n:Nat}(H:aSo (a,b) n)(x:kG):aSo (kY a b x).1 (n+1):=by
 unfold kY;split
 ·exact⟨H.a.mono (by omega),H.b.step x⟩
 ·exact⟨H.a.step x,H.b.mono (by omega)⟩
def kG.clean(x:kG):kG:={x with sp:=false}
def kG.clean_wf{x:kG}(w:x.wf):x.clean.wf:=⟨w.h,w.p⟩
noncomputable def aDx(s:Ch×Ch)(x:kG):Ch×Ch:=(kY s.1 s.2 x.clean).1
noncomputable def aIl(s:Ch×Ch)(l:List kG):Ch×Ch:=l.foldl aDx s
def aUo(s:Ch×Ch)(l:List kG)(x:kG):aIl s (l++[x])=aDx (aIl s l) x:=by
 unfold aIl;rw[List.foldl_append];rfl
structure aG7(s:Ch×Ch)(i:Nat):Prop where
 i0:s.1.id=0
 i1:s.2.id=1
 n0:s.1.nts.length≤i
 n1:s.2.nts.length≤i
 t0:s.1.tot≤i
 t1:s.2.tot≤i
 b0:s.1.st.blocks.length≤i+1
 b1:s.2.st.blocks.length≤i+1
 k0:KOk s.1
 k1:KOk s.2
 o0:tX s.1
 o1:tX s.2
 bd:aSo s i
def aXS{a b:Ch}{i:Nat}(ha:a.tot≤i)(hb:b.tot≤i)(x:kG):(kY a b x).1.1.tot≤i+1∧(kY a b x).1.2.tot≤i+1:=by
 unfold kY;split
 ·obtain⟨-,h⟩:=aP7 b a x;refine⟨by show a.tot≤i+1;omega,?_⟩;show(nW b a x).1.tot≤i+1;rw[h];split<;>omega
 ·obtain⟨-,h⟩:=aP7 a b x;refine⟨?_,by show b.tot≤i+1;omega⟩;show(nW a b x).1.tot≤i+1;rw[h];split<;>omega
def aG7.new{a b s t:Nat}(hs:s<18446744073709551616)(ht:t<18446744073709551616):aG7 (Ch.new 0 a s,Ch.new 1 b t) 0 where
 i0:=rfl
 i1:=rfl
 n0:=pF _
 n1:=pF _
 t0:=pF _
 t1:=pF _
 b0:=pF _
 b1:=pF _
 k0:=⟨by simp[Ch.new],by simp[Ch.new,hts]⟩
 k1:=⟨by simp[Ch.new],by simp[Ch.new,hts]⟩
 o0:=tX.new
 o1:=tX.new
 bd:=⟨⟨List.Pairwise.nil,pF _,pF _⟩,⟨List.Pairwise.nil,pF _,pF _⟩⟩
def aG7.tw{s:Ch×Ch}{i:Nat}(H:aG7 s i){x:kG}(w:x.wf):aG7 (kY s.1 s.2 x).1 (i+1):=by
 obtain⟨e0,e1⟩:=aYj s.1 s.2 x;obtain⟨y0,y1⟩:=aSh s.1 s.2 x H.n0 H.n1;obtain⟨z0,z1⟩:=aYX H.k0 H.k1 w;obtain⟨t0,t1⟩:=aXS H.t0 H.t1 x;obtain⟨b0,b1⟩:=aZw H.b0 H.b1 x;obtain⟨o0,o1⟩:=H.o0.step H.o1 x;exact⟨by rw[e0];exact H.i0,by rw[e1];exact H.i1,y0,y1,t0,t1,b0,b1,z0,z1,o0,o1,H.bd.tw x⟩
def aG7.act{s:Ch×Ch}{i:Nat}(H:aG7 s i){x:kG}(w:x.wf):aG7 (aDx s x) (i+1):=H.tw (kG.clean_wf w)
def kG.isC(x:kG):∀u∈x.cells,fX u=true:=λu hu=>by
 simp only[kG.cells,gU,lH,or_false] at hu;rcases hu with rfl|rfl|rfl|rfl|rfl|rfl|rfl|rfl|rfl<;>rfl
def aW1(c o:Ch)(a:kG):(nW c o a).1=if a.kind=0 then(if qG c a.d a.h=0 then c.sent (kE c a.d a.h) else c)
   else if a.kind=1 then(match yS o.st a.h with
    | none=>c
    | some b=>c.told (a.h:Int) (oC b))
   else if a.kind=2 then(if qX c (uA c a.p (mJ o a) (a.h:Int))=0 then c.received a.p else c)
   else if a.kind=3 then(if jO c a.p (aBB c a.p (mJ o a) (a.h:Int))=0 then c.settled 3 a.p else c)
   else if a.kind=4 then(if jO c a.p (vU c a.p (mJ o a) (a.h:Int))=0 then c.settled 4 a.p else c)
   else if a.kind=5 then c.committed
   else c:=by
 unfold nW;split
 ·split<;>rfl
 ·split
  ·cases yS o.st a.h<;>rfl
  ·split
   ·split<;>rfl
   ·split
    ·split<;>rfl
    ·split
     ·split<;>rfl
     ·split<;>rfl
def aJi(c0 c1:Nat)(s:Ch×Ch):mT:=eI (jA c0 s.1) (jA c1 s.2)
def aJi.good(c0 c1:Nat)(s:Ch×Ch):mE (aJi c0 c1 s):=(jA.good _ _).star (jA.good _ _)
def aIe(c0 c1:Nat)(j:Nat):Nat:=if j=1 then c1 else c0
def aHl(s:Ch×Ch)(j:Nat):Ch:=if j=1 then s.2 else s.1
def aUG(c0 c1:Nat)(s:Ch×Ch)(x:kG):∃W:mT->mT,(∀s',mE (W (jA (aIe c0 c1 (lT x.id)) s')))∧(nW (aHl s (lT x.id)) (aHl s (1-lT x.id)) x).2=(kY s.1 s.2 x).2∧
  (∀{h F},W (jA (aIe c0 c1 (lT x.id)) (nW (aHl s (lT x.id)) (aHl s (1-lT x.id)) x).1) h F->aJi c0 c1 (kY s.1 s.2 x).1 h F)∧∀{h F},aJi c0 c1 s h F->uC h F (jA (aIe c0 c1 (lT x.id)) (aHl s (lT x.id))) W∧∃Fo,jA (aIe c0 c1 (1-lT x.id)) (aHl s (1-lT x.id)) h Fo:=by
 unfold lT aIe aHl kY;by_cases e:x.id=1
 ·simp only[if_pos e,Nat.sub_self,if_true];exact⟨λX=>eI (jA c0 s.1) X,λs'=>(jA.good _ _).star (jA.good _ _),rfl,λH=>H,fun {h F} H=>⟨eI.right (jA.good _ _) H,by
   obtain⟨Fo,_,_,HO,_,_⟩:=H;exact⟨Fo,HO⟩⟩⟩
 ·simp only[if_neg e,Nat.sub_zero,if_true];exact⟨λX=>eI X (jA c1 s.2),λs'=>(jA.good _ _).star (jA.good _ _),rfl,λH=>H,fun {h F} H=>⟨eI.left (jA.good _ _) H,by
   obtain⟨_,Fo,_,_,HO,_⟩:=H;exact⟨Fo,HO⟩⟩⟩
def aV1{c0 c1:Nat}{s:Ch×Ch}{h:PH}{F:List Nat}(H:aJi c0 c1 s h F)(k0:KOk s.1)(k1:KOk s.2):(s.1.DOk∧s.1.st.Ok)∧s.2.DOk∧s.2.st.Ok:=by
 obtain⟨Fc,Fd,-,h0,h1,-⟩:=H;exact⟨aSX h0 k0,aSX h1 k1⟩
def arC(c0 c1:Nat):List Value:=[pT c0 0,pT c1 0]
def arV(c0 c1:Nat):Value:=.agg (arC c0 c1).toArray
def aQn(c0 c1:Nat){j:Nat}(hj:j<2):(arC c0 c1)[j]? =some (pT (aIe c0 c1 j) 0):=by
 have:j=0∨j=1:=by omega
 rcases this with rfl|rfl<;>rfl
def aOv(c0 c1:Nat):∀u∈arC c0 c1,fX u=true:=λu hu=>by
 simp only[arC,gU,lH,or_false] at hu;rcases hu with rfl|rfl<;>rfl
def aJq(c0 c1 m d0 d1 b mm:Nat)(K:List Nat)(s:Ch×Ch)(A:List Tx)(n:Nat):mT:=eI (aJi c0 c1 s) (DTw m d0 d1 b mm A K s.1 s.2 n)
def aJq.good(c0 c1 m d0 d1 b mm:Nat)(K:List Nat)(s:Ch×Ch)(A:List Tx)(n:Nat):mE (aJq c0 c1 m d0 d1 b mm K s A n):=(aJi.good _ _ _).star (DTw.good _ _ _ _ _ _ _ _ _ _)
def aXv{h0 h:PH}{F:List Nat}{c0 c1 m d0 d1 bk mm:Nat}{K:List Nat}{s:Ch×Ch}{A:List Tx}{n i:Nat}(hK:oL h0)(N:Now h0 h F)(W:aJq c0 c1 m d0 d1 bk mm K s A n h F)(M:aG7 s i)(hn:n≤i+1){r9:Nat}(B9:Bx h r9 (arC c0 c1))(n9:r9∉F){v t6:Value}{l:List kG}(S:gB h0 9 v (l.map kG.cells))(hl:l.length≤50){x:kG}(hx:l[i]? =some x)(wx:x.wf)(hd:x.d.length≤2000){R:cD}{n37:gO}
  (hk:∀h' F' A',aJq c0 c1 m d0 d1 bk mm K (aDx s x) A' (n+1) h' F'->jJ h F h' F'->n37 [v,t6,pT r9 0,pT m 0,.int .i64 ((i+1:Nat):Int)] h'):
  zH R n37 v t6 (pT r9 0) (pT m 0) (.int .i64 (i:Int)) h:=by
 unfold zH;have hlt:i<l.length:=(zLA.1 hx).1;have g:((i:Int)<(l.length:Int))=True:=eq_true (by omega);have gi:=qQ (i:=i) (by omega);obtain⟨bb,o,a1,a2⟩:=S.tac4 hx;obtain⟨-,la,-⟩:=a2 h N.ext;have gD:mE (DTw m d0 d1 bk mm A K s.1 s.2 n):=DTw.good _ _ _ _ _ _ _ _ _ _;have key:=aUG c0 c1 s x.clean;rw[show x.clean.id=x.id from rfl] at key;obtain⟨Wc,gW,e2,hW,get⟩:=key;have hsd:=aRx x.id;have w1:IntKind.i64.wrap (1-((lT x.id:Nat):Int))=((1-lT x.id:Nat):Int):=by rw[fI (by omega) (by omega)];omega
 have wc:=kG.clean_wf wx;simp only[aOy S,g,a1,la,cE,reduceIte,cV,Nat.reduceAdd];intro r43 hr43
 try rw[cW]
 refine cG.fill (vs:=x.cells) hr43 rfl (kG.isC x) λh1 B1 u1=>?_;have h2e:h1=h1:=rfl;generalize hq:h1=h2 at *;have B2:=B1;have e2':dC h h2:=u1;have C9:∀{h'':PH},dC h h''->Bx h'' r9 (arC c0 c1):=λu=>B9.ext u;have W2:=(aJq.good _ _ _ _ _ _ _ _ _ _ _).ext W e2';have n43:r43∉F:=λhm=>(aJq.good _ _ _ _ _ _ _ _ _ _ _).known W _ hm hr43;have li:∀{h'':PH},dC h2 h''->cH PG h'' (loadAt bT (pT r43 1))=some (.int .i64 x.id):=λu=>by rw[bT.load,(B2.ext u).cell];rfl
 have lh:∀{h'':PH},dC h2 h''->cH PG h'' (loadAt cA (pT r43 2))=some (.int .u64 (x.h:Int)):=λu=>by rw[cA.load,(B2.ext u).cell];rfl
 have lx:cH PG h2 (loadAt cG (pT r43 0))=some x.v:=cG.agg B2 (by show 0+9≤9;decide);have lc:∀{h'':PH},dC h2 h''->cH PG h'' (loadAt cZ (pT r9 (lT x.id)))=some (.pointer (some ⟨aIe c0 c1 (lT x.id),0,none⟩)):=λu=>by rw[cZ.load,(C9 (e2'.trans u)).cell,aQn c0 c1 hsd]
 have lo:∀{h'':PH},dC h2 h''->cH PG h'' (loadAt cZ (pT r9 (1-lT x.id)))=some (.pointer (some ⟨aIe c0 c1 (1-lT x.id),0,none⟩)):=λu=>by rw[cZ.load,(C9 (e2'.trans u)).cell,aQn c0 c1 (by omega)]
 have ix1:=aLW (r:=r9) (o:=0) (i:=lT x.id) hsd;have ix2:=aLW (r:=r9) (o:=0) (i:=1-lT x.id) (by omega);rw[fO] at ix1 ix2;have j0:dG PG (indexAt dN (pT r9 0) (.int .i64 0))=some (pT r9 0):=aLW (i:=0) (by decide);have j1:dG PG (indexAt dN (pT r9 0) (.int .i64 1))=some (pT r9 1):=by have:=aLW (r:=r9) (o:=0) (i:=1) (by decide);rw[fO] at this;exact this
 have l0:cH PG h2 (loadAt cZ (pT r9 0))=some (pT c0 0):=by rw[cZ.load,(C9 e2').cell];rfl
 have l1:cH PG h2 (loadAt cZ (pT r9 1))=some (pT c1 0):=by rw[cZ.load,(C9 e2').cell];rfl
 have nilN:∀{h'':PH} {x y:Operand} {c:Nat},cH PG h'' (jW .eql cZ x y (pT c 0) (.pointer none))=some (.bool false):=aCx cZ.und;simp only[cG.f1,j0,l0,j1,l1,nilN,fO,li cT.refl,cE,reduceIte,cV,Nat.reduceAdd];refine aM3 x.id ?_;refine⟨li cT.refl,?_⟩;simp only[ix1,lc cT.refl,cE,reduceIte,cV,Nat.reduceAdd];refine aM3 x.id ?_;refine⟨lc cT.refl,?_⟩;simp only[w1,ix2,lo cT.refl,lx,cG.f2,fO,lh cT.refl,cE,reduceIte,cV,Nat.reduceAdd];refine aPl (a:=x) wx λh3 u3=>?_;refine⟨lh u3,?_⟩;obtain⟨Fa2,HT2,-,-⟩:=eI.left gD W2;obtain⟨-,Fo2,HO2⟩:=get HT2;refine aTo (N.k hK |>.ext (e2'.trans u3)) ((jA.good _ _).ext HO2 u3) (aJV x) wx.h λh4 u4=>?_;have e4:dC h2 h4:=u3.trans u4;have e04:=e2'.trans e4;have W4:=(aJq.good _ _ _ _ _ _ _ _ _ _ _).ext W2 e4;have K4:=(N.k hK).ext e04;have N4:=N.more e04;have h0F:=N4.z hK;have B4:=B2.ext e4;obtain⟨Fa,HT,hFa,back0⟩:=eI.left gD W4;obtain⟨⟨Fc,HA,hFc,back⟩,Fo,HO⟩:=get HT;have h0a:0∉Fc:=λhm=>h0F (hFa _ (hFc _ hm));obtain⟨⟨w0,o0⟩,w1',o1⟩:=aV1 HT M.k0 M.k1;have hl1:(aHl s (lT x.id)).nts.length<1000000:=by
  have:=M.n0;have:=M.n1;unfold aHl;split<;>omega
 -- behind the call
 have fin:∀{h5:PH} {F5:List Nat} {s':Ch},Wc (jA (aIe c0 c1 (lT x.id)) s') h5 F5->jJ h4 Fa h5 F5->(nW (aHl s (lT x.id)) (aHl s (1-lT x.id)) x.clean).1=s'->lI R n37 v t6 (pT r9 0) (pT m 0) (.int .i64 (i:Int)) (pT r43 0) h5:=fun {h5 F5 s'} H5 s5 ed=>by
  rw[←ed] at H5;have T5:=hW H5;obtain⟨F6,W6,s6⟩:=back0 (aJi c0 c1 (aDx s x)) h5 F5 T5 s5;obtain⟨B5,n5⟩:=aCZ B4 n43 s6;unfold lI aGa;have v8:dG PG (fieldAt cG (pT r43 0) 5)=some (pT r43 8):=by rw[cG.f5]
  refine aSE v8 ?_;refine gQ.put B5 (o:=8) (by show 8<9;decide) rfl λh6 B6 u6=>?_;have B6:Bx h6 r43 x.clean.cells:=B6;have W7:=((aJi.good c0 c1 (aDx s x)).star gD).upd W6 u6 (λy hy=>by simp only[gE];rintro rfl;exact n5 hy);have sx:=(jJ.ext e04).trans s6;have s06:jJ h F h6 F6:=⟨λb ob hb hn=>u6 b ob (sx.upd b ob hb hn) (by simp only[gE];rintro rfl;rw[show h b=none from hr43] at hb;cases hb),sx.grow⟩;have l5:cH PG h6 (loadAt cG (pT r43 0))=some x.clean.v:=cG.agg B6 (by show 0+9≤9;decide);simp only[l5,cE,reduceIte,cV,Nat.reduceAdd];obtain⟨Fd,HD,hFd,backD⟩:=eI.right (aJi.good _ _ _) W7;refine aYV HD w0 w1' (by omega) wc (by show x.d.length≤1000000;omega) λh7 F7 D7 s7=>?_;obtain⟨F8,W8,s8⟩:=backD (DTw m d0 d1 bk mm (twA s.1 s.2 x.clean++A) K (aDx s x).1 (aDx s x).2 (n+1)) h7 F7 D7 s7;simp only[gi,cE,reduceIte,cV,Nat.reduceAdd];exact hk h7 F8 _ W8 (s06.trans s8)
 have lk:cH PG h4 (loadAt bT (pT r43 0))=some (.int .i64 x.kind):=by rw[bT.load,B4.cell];rfl
 have ld:cH PG h4 (loadAt bR (pT r43 3))=some (.string (tx x.d)):=by rw[bR.load,B4.cell];rfl
 have lp:cH PG h4 (loadAt aR (pT r43 4))=some x.p.v:=B4.pk rfl;have lh4:=lh e4;generalize hs:aHl s (lT x.id)=cs at *;generalize hso:aHl s (1-lT x.id)=so at *;generalize aIe c0 c1 (lT x.id)=cc at *;generalize aIe c0 c1 (1-lT x.id)=co at *;have hd:(nW cs so x.clean).1=if x.kind=0 then(if qG cs x.d x.h=0 then cs.sent (kE cs x.d x.h) else cs)
   else if x.kind=1 then(match yS so.st x.h with
    | none=>cs
    | some b=>cs.told (x.h:Int) (oC b))
   else if x.kind=2 then(if qX cs (uA cs x.p (mJ so x.clean) (x.h:Int))=0 then cs.received x.p else cs)
   else if x.kind=3 then(if jO cs x.p (aBB cs x.p (mJ so x.clean) (x.h:Int))=0 then cs.settled 3 x.p else cs)
   else if x.kind=4 then(if jO cs x.p (vU cs x.p (mJ so x.clean) (x.h:Int))=0 then cs.settled 4 x.p else cs)
   else if x.kind=5 then cs.committed
   else cs:=aW1 cs so x.clean
 have hpf:2≤x.kind->x.kind≤4->mJ so x.clean=(aFi so.st (aJV x) x.h).1:=λh2 h4=>by unfold mJ;rw[if_pos ⟨rfl,h2,h4⟩];rfl
 by_cases k0:x.kind=0
 ·have q:(x.kind==0)=true:=by simp[k0]
  rw[if_pos k0] at hd;simp only[cG.f0,cG.f2,cG.f3,fO,lk,ld,lh4,iG,q,cE,reduceIte,cV,Nat.reduceAdd];refine aVd K4 HA x.d wx.h hl1 (λhe h1 F1 H1 s1 _=>?_) (λhe h1 F1 H1 s1=>?_)
  ·rw[if_neg he] at hd;obtain⟨F2,W2,s2⟩:=back _ h1 F1 H1 s1;exact fin W2 s2 hd
  ·rw[if_pos he] at hd;obtain⟨F2,W2,s2⟩:=back _ h1 F1 H1 s1;exact fin W2 s2 hd
 have q0:(x.kind==0)=false:=by simp[k0]
 rw[if_neg k0] at hd;by_cases k1:x.kind=1
 ·have q:(x.kind==1)=true:=by simp[k1]
  rw[if_pos k1] at hd;obtain⟨sp,m',cp,nv,bv,lk',P,perm,ok⟩:=HO;obtain⟨Fs,St,-,-⟩:=P.fSt;simp only[cG.f0,cG.f2,eH.f0,eV.f0,fO,lk,lh4,Ch.load0 P.cell,iG,q0,q,cE,reduceIte,cV,Nat.reduceAdd];refine aUm St x.h wx.h (λe h1 u1=>?_) (λb h1 e u1=>?_)
  ·rw[e] at hd;obtain⟨F2,W2,s2⟩:=back _ h1 Fc ((jA.good _ _).ext HA u1) (jJ.ext u1);have qe:((3:Int)==0)=false:=by decide
   simp only[iG,qe,cE,reduceIte,cV,Nat.reduceAdd];exact fin W2 s2 hd
  ·rw[e] at hd;have lh1:=lh (e4.trans u1);have qe:((0:Int)==0)=true:=by decide
   simp only[iG,qe,cG.f2,fO,lh1,cE,reduceIte,cV,Nat.reduceAdd];refine aSw ((jA.good _ _).ext HA u1) (x.h:Int) (oC b) λh2 F2 H2 s2=>?_;obtain⟨F3,W3,s3⟩:=back _ h2 F2 H2 ((jJ.ext u1).trans s2);exact fin W3 s3 hd
 have q1:(x.kind==1)=false:=by simp[k1]
 rw[if_neg k1] at hd;by_cases k2:x.kind=2
 ·have q:(x.kind==2)=true:=by simp[k2]
  rw[if_pos k2,hpf (by omega) (by omega)] at hd;simp only[cG.f0,cG.f2,cG.f4,fO,lk,lh4,lp,iG,q0,q1,q,cE,reduceIte,cV,Nat.reduceAdd];refine aVj K4 HA h0a wx.p hl1 (λhe h1 H1 u1=>?_) (λhe h1 F1 H1 s1=>?_)
  ·rw[if_neg he] at hd;obtain⟨F2,W2,s2⟩:=back _ h1 Fc H1 (jJ.ext u1);exact fin W2 s2 hd
  ·rw[if_pos he] at hd;obtain⟨F2,W2,s2⟩:=back _ h1 F1 H1 s1;exact fin W2 s2 hd
 have q2:(x.kind==2)=false:=by simp[k2]
 rw[if_neg k2] at hd;by_cases k3:x.kind=3
 ·have q:(x.kind==3)=true:=by simp[k3]
  rw[if_pos k3,hpf (by omega) (by omega)] at hd;simp only[cG.f0,cG.f2,cG.f4,fO,lk,lh4,lp,iG,q0,q1,q2,q,cE,reduceIte,cV,Nat.reduceAdd];refine aXo K4 HA wx.p hl1 (λhe h1 H1 u1=>?_) (λhe h1 F1 H1 s1=>?_)
  ·rw[if_neg he] at hd;obtain⟨F2,W2,s2⟩:=back _ h1 Fc H1 (jJ.ext u1);exact fin W2 s2 hd
  ·rw[if_pos he] at hd;obtain⟨F2,W2,s2⟩:=back _ h1 F1 H1 s1;exact fin W2 s2 hd
 have q3:(x.kind==3)=false:=by simp[k3]
 rw[if_neg k3] at hd;by_cases k4:x.kind=4
 ·have q:(x.kind==4)=true:=by simp[k4]
  rw[if_pos k4,hpf (by omega) (by omega)] at hd;simp only[cG.f0,cG.f2,cG.f4,fO,lk,lh4,lp,iG,q0,q1,q2,q3,q,cE,reduceIte,cV,Nat.reduceAdd];refine aRj K4 HA wx.p hl1 (λhe h1 H1 u1=>?_) (λhe h1 F1 H1 s1=>?_)
  ·rw[if_neg he] at hd;obtain⟨F2,W2,s2⟩:=back _ h1 Fc H1 (jJ.ext u1);exact fin W2 s2 hd
  ·rw[if_pos he] at hd;obtain⟨F2,W2,s2⟩:=back _ h1 F1 H1 s1;exact fin W2 s2 hd
 have q4:(x.kind==4)=false:=by simp[k4]
 rw[if_neg k4] at hd;by_cases k5:x.kind=5
 ·have q:(x.kind==5)=true:=by simp[k5]
  rw[if_pos k5] at hd;simp only[cG.f0,fO,lk,iG,q0,q1,q2,q3,q4,q,cE,reduceIte,cV,Nat.reduceAdd];refine aS5 K4 HA λh1 F1 H1 s1=>?_;obtain⟨F2,W2,s2⟩:=back _ h1 F1 H1 s1;exact fin W2 s2 hd
 ·have q:(x.kind==5)=false:=by simp[k5]
  rw[if_neg k5] at hd;obtain⟨F2,W2,s2⟩:=back _ h4 Fc HA jJ.refl;simp only[cG.f0,fO,lk,iG,q0,q1,q2,q3,q4,q,cE,reduceIte,cV,Nat.reduceAdd];exact fin W2 s2 hd
def aPt{h:PH}(hK:oL h){a b s0 s1:Nat}(ha:a<18446744073709551616)(hb:b<18446744073709551616)(hs0:s0<18446744073709551616)(hs1:s1<18446744073709551616)(z0:s0≠0)(z1:s1≠0){v:Value}{l:List kG}(S:gB h 9 v (l.map kG.cells))(w:∀x∈l,x.wf)(hl:l.length≤50)(hd:∀x∈l,x.d.length≤2000){k:cD}
  (hk:∀h' c0 c1 m d0 d1 bk mm K A n F,aJq c0 c1 m d0 d1 bk mm K (aIl (Ch.new 0 a s0,Ch.new 1 b s1) l) A n h' F->eN h F->dC h h'->aG7 (aIl (Ch.new 0 a s0,Ch.new 1 b s1) l) l.length->k (.tuple #[arV c0 c1,pT m 0]) h'):
  aT PG zU #[vL a b,vL s0 s1,v] h k:=by
 apply vD.call;unfold vD;intro r1 hr1
 try rw[cW]
 have u1:dC h (h.set r1 (.cells (Value.cells (vL a b)) eS)):=cT.new hr1;have B1:Bx (h.set r1 (.cells (Value.cells (vL a b)) eS)) r1 (u2c a b):=Bx.new;generalize h.set r1 (.cells (Value.cells (vL a b)) eS)=h1 at *;intro r3 hr3
 try rw[cW]
 have u3:dC h1 (h1.set r3 (.cells (Value.cells (vL s0 s1)) eS)):=cT.new hr3;have B3:Bx (h1.set r3 (.cells (Value.cells (vL s0 s1)) eS)) r3 (u2c s0 s1):=Bx.new;generalize h1.set r3 (.cells (Value.cells (vL s0 s1)) eS)=h3 at *;intro r5 hr5
 try rw[cW]
 have u5:dC h3 (h3.set r5 (.cells (dS PG dN) dN)):=cT.new hr5;have B5:Bx (h3.set r5 (.cells (dS PG dN) dN)) r5 [.pointer none,.pointer none]:=dN.zbox;generalize h3.set r5 (.cells (dS PG dN) dN)=h5 at *;intro r7 hr7
 try rw[cW]
 have n57:r5≠r7:=B5.apart hr7;have u7:dC h5 (h5.set r7 (.cells (dS PG dN) dN)):=cT.new hr7;have B7:Bx (h5.set r7 (.cells (dS PG dN) dN)) r7 [.pointer none,.pointer none]:=dN.zbox;have B5:=B5.ext u7;generalize h5.set r7 (.cells (dS PG dN) dN)=h7 at *;have e17:=((u3.trans u5).trans u7);have e7:dC h h7:=u1.trans e17;have k5:h r5=none:=(u1.trans u3).none hr5;have k7:h r7=none:=((u1.trans u3).trans u5).none hr7;have C1:=B1.ext e17;have C3:=B3.ext (u5.trans u7);have la:∀{h'':PH},dC h7 h''->cH PG h'' (loadAt eS (pT r1 0))=some (vL a b):=λv=>eS.agg (C1.ext v) (by show 0+2≤2;decide);have ls:∀{h'':PH},dC h7 h''->cH PG h'' (loadAt eS (pT r3 0))=some (vL s0 s1):=λv=>eS.agg (C3.ext v) (by show 0+2≤2;decide);simp only[la cT.refl,ls cT.refl,cE,reduceIte,cV,Nat.reduceAdd];refine aWt λh8 bk mk Kk HBk fBk u8=>?_;refine⟨ls u8,la u8,?_⟩;have HBk:Bk bk mk [] Kk h8:=⟨false,[],HBk,λx hx=>hx⟩;refine aU6 HBk ha hb λh9 m d0 d1 FD HD fD u9=>?_;have e79:=u8.trans u9;have e9:=e7.trans e79;have fD9:eN h FD:=λy hy=>by
  rcases fD y hy with hy|hy
  ·exact e7.none (fBk y hy)
  ·exact(e7.trans u8).none hy
 -- what stands behind i chains
 refine⟨λvs h'=>∃i:Nat,vs=[v,pT r1 0,pT r3 0,pT r5 0,pT r7 0,pT m 0,.int .i64 (i:Int)]∧cT [r7] h9 h'∧((i=0∧Bx h' r7 [.pointer none,.pointer none])∨(i=1∧∃c0 F0,Bx h' r7 [pT c0 0,.pointer none]∧jA c0 (Ch.new 0 a s0) h' F0∧eN h9 F0)∨(i=2∧∃c0 c1 F,Bx h' r7 (arC c0 c1)∧aJi c0 c1 (Ch.new 0 a s0,Ch.new 1 b s1) h' F∧eN h9 F)),gV 2 6,⟨0,rfl,cT.refl,.inl ⟨rfl,B7.ext e79⟩⟩,?_⟩;rintro ρ h' ⟨i,hvs,u',hc⟩;simp only[iJ,iZ,lP,and_true] at hvs;obtain⟨v0,v1,v2,v3,v4,v5,v6⟩:=hvs;unfold aGb;rw[v0,v1,v2,v3,v4,v5,v6];have E':dC h h':=e9.fresh u' (eN.one k7);have k79:h9 r7≠none:=(B7.ext e79).known;have n71:r7≠r1:=λe=>B1.known (e▸(u3.trans u5).none hr7);have n73:r7≠r3:=λe=>B3.known (e▸u5.none hr7);have D1:=(C1.ext e79).upd u' (by simp only[gE];exact n71.symm);have D3:=(C3.ext e79).upd u' (by simp only[gE];exact n73.symm);have D5:=(B5.ext e79).upd u' (by simp only[gE];exact n57);have i0:∀{r:Nat},dG PG (indexAt eS (pT r 0) (.int .i64 0))=some (pT r 0):=aO0 (i:=0) (by decide);have i1:∀{r:Nat},dG PG (indexAt eS (pT r 0) (.int .i64 1))=some (pT r 1):=fun {r}=>by have:=aO0 (r:=r) (o:=0) (i:=1) (by decide);rw[fO] at this;exact this
 have j0:∀{r:Nat},dG PG (indexAt dN (pT r 0) (.int .i64 0))=some (pT r 0):=aLW (i:=0) (by decide);have j1:∀{r:Nat},dG PG (indexAt dN (pT r 0) (.int .i64 1))=some (pT r 1):=fun {r}=>by have:=aLW (r:=r) (o:=0) (i:=1) (by decide);rw[fO] at this;exact this
 have l10:cH PG h' (loadAt cA (pT r1 0))=some (.int .u64 (a:Int)):=by rw[cA.load,D1.cell];rfl
 have l11:cH PG h' (loadAt cA (pT r1 1))=some (.int .u64 (b:Int)):=by rw[cA.load,D1.cell];rfl
 have l30:cH PG h' (loadAt cA (pT r3 0))=some (.int .u64 (s0:Int)):=by rw[cA.load,D3.cell];rfl
 have l31:cH PG h' (loadAt cA (pT r3 1))=some (.int .u64 (s1:Int)):=by rw[cA.load,D3.cell];rfl
 have nilN:∀{h'':PH} {x y:Operand} {c:Nat},cH PG h'' (jW .eql cZ x y (pT c 0) (.pointer none))=some (.bool false):=aCx cZ.und;have K':oL h':=hK.ext E';have nF:∀{F:List Nat},eN h9 F->r7∉F:=λf hm=>k79 (f _ hm);have back:∀{F:List Nat},eN h' F->eN h9 F:=λf y hy=>by
  cases e:h9 y with
  | none=>rfl
  | some ob=>
   by_cases hy7:y=r7
   ·exact absurd (f y hy) (by rw[hy7];rcases hc with⟨-,B⟩|⟨-,_,_,B,-⟩|⟨-,_,_,_,B,-⟩<;>exact B.known)
   ·have:=u' y ob e (by simpa using hy7);rw[f y hy] at this;cases this
 rcases hc with⟨rfl,B⟩|⟨rfl,c0,F0,B,A0,f0⟩|⟨rfl,c0,c1,F,B,T,f⟩
 ·have g:(((0:Nat):Int)<2)=True:=eq_true (by decide);simp only[g,show((0:Nat):Int)=0 from rfl,i0,l10,l30,cE,reduceIte,cV,Nat.reduceAdd];refine aPi K' 0 ha hs0 (λhb=>absurd hb (by omega)) λ_ h10 c F A f u10=>?_;have f:=back f;simp only[j0,cE,reduceIte,cV,Nat.reduceAdd];refine cZ.put (B.ext u10) (o:=0) (by show 0<2;decide) rfl λh11 B11 u11=>?_;have ei:IntKind.i64.wrap ((0:Int)+1)=((1:Nat):Int):=rfl;simp only[ei,cE,reduceIte,cV,Nat.reduceAdd];exact⟨⟨1,rfl,(u'.trans u10.upd).trans u11,.inr (.inl ⟨rfl,c,F,B11,(jA.good _ _).upd A u11 (λb hb=>by simp only[gE];rintro rfl;exact nF f hb),f⟩)⟩,by simp[gV,v6]⟩
 ·have g:(((1:Nat):Int)<2)=True:=eq_true (by decide);simp only[g,show((1:Nat):Int)=1 from rfl,i1,l11,l31,cE,reduceIte,cV,Nat.reduceAdd];refine aPi K' 1 hb hs1 (λhb=>absurd hb (by omega)) λ_ h10 c F A f u10=>?_;have d0:∀b∈F0,b∉F:=λb hb hm=>(jA.good _ _).known A0 b hb (f b hm);have f:=back f;simp only[j1,cE,reduceIte,cV,Nat.reduceAdd];refine cZ.put (B.ext u10) (o:=1) (by show 1<2;decide) rfl λh11 B11 u11=>?_;have ei:IntKind.i64.wrap ((1:Int)+1)=((2:Nat):Int):=rfl;simp only[ei,cE,reduceIte,cV,Nat.reduceAdd];have A08:=(jA.good _ _).upd ((jA.good _ _).ext A0 u10) u11 (λb hb=>by simp only[gE];rintro rfl;exact nF f0 hb);have A8:=(jA.good _ _).upd A u11 (λb hb=>by simp only[gE];rintro rfl;exact nF f hb);exact⟨⟨2,rfl,(u'.trans u10.upd).trans u11,.inr (.inr ⟨rfl,c0,c,F0++F,B11,eI.mk A08 A8 d0,λy hy=>by
   rcases kA.1 hy with hy|hy
   ·exact f0 y hy
   ·exact f y hy⟩)⟩,by simp[gV,v6]⟩
 ·have g:(((2:Nat):Int)<2)=False:=eq_false (by decide);simp only[g,cE,reduceIte,cV,Nat.reduceAdd];have gD:mE (DTw m d0 d1 bk mk [] Kk (Ch.new 0 a s0) (Ch.new 1 b s1) 1):=DTw.good _ _ _ _ _ _ _ _ _ _;have f7:∀y∈FD,y≠r7:=λy hy e=>by
   rcases fD y hy with hy|hy
   ·exact B7.known (e▸fBk y hy)
   ·exact(B7.ext u8).known (e▸hy)
  have HD':=gD.upd HD u' (λy hy hm=>by simp only[gE] at hm;exact f7 y hy hm);have W0:aJq c0 c1 m d0 d1 bk mk Kk (Ch.new 0 a s0,Ch.new 1 b s1) [] 1 h' (F++FD):=eI.mk T HD' (λy hy hm=>gD.known HD y hm (f y hy));have N0:Now h h' (F++FD):=⟨E',λy hy=>by
   rcases kA.1 hy with hy|hy
   ·exact e9.none (f y hy)
   ·exact fD9 y hy⟩
  have n7:r7∉F++FD:=λhm=>by
   rcases kA.1 hm with hm|hm
   ·exact nF f hm
   ·exact f7 _ hm rfl
  have n5:r5∉F++FD:=λhm=>by
   rcases kA.1 hm with hm|hm
   ·exact(B5.ext e79).known (f _ hm)
   ·rcases fD _ hm with hy|hy
    ·exact B5.known (fBk _ hy)
    ·exact(B5.ext u8).known hy
  refine⟨λvs h2=>∃(j:Nat) (A:List Tx) (n:Nat) (F':List Nat),j≤l.length∧vs=[v,pT r5 0,pT r7 0,pT m 0,.int .i64 (j:Int)]∧n≤j+1∧Now h h2 F'∧aJq c0 c1 m d0 d1 bk mk Kk (aIl (Ch.new 0 a s0,Ch.new 1 b s1) (l.take j)) A n h2 F'∧aG7 (aIl (Ch.new 0 a s0,Ch.new 1 b s1) (l.take j)) j∧Bx h2 r7 (arC c0 c1)∧r7∉F'∧Bx h2 r5 [.pointer none,.pointer none]∧r5∉F',gV l.length 4,⟨0,[],1,F++FD,by omega,rfl,by omega,N0,W0,aG7.new hs0 hs1,B,n7,D5,n5⟩,?_⟩;rintro ρ2 h2 ⟨j,A,n,F',hj,hvs2,hn,N,W,M,X7,m7,X5,m5⟩;simp only[iJ,iZ,lP,and_true] at hvs2;obtain⟨w0,w1,w2,w3,w4⟩:=hvs2;rw[w0,w1,w2,w3,w4];by_cases hlt:j<l.length
  ·have hx:l[j]? =some l[j]:=lU hlt;have hm:=vR hx;refine aXv hK N W M hn X7 m7 S hl hx (w _ hm) (hd _ hm) λh3 F3 A3 W3 s3=>?_;obtain⟨Y7,m7'⟩:=aCZ X7 m7 s3;obtain⟨Y5,m5'⟩:=aCZ X5 m5 s3;have er:aIl (Ch.new 0 a s0,Ch.new 1 b s1) (l.take (j+1))=aDx (aIl (Ch.new 0 a s0,Ch.new 1 b s1) (l.take j)) l[j]:=by
    rw[zLU,hx];exact aUo _ _ _
   exact⟨⟨j+1,A3,n+1,F3,by omega,rfl,by omega,N.step s3,by rw[er];exact W3,by rw[er];exact M.act (w _ hm),Y7,m7',Y5,m5'⟩,by simp[gV,w4];omega⟩
  ·unfold zH aCh aGl aGc;have g2:((j:Int)<(l.length:Int))=False:=eq_false (by omega);have lc:cH PG h2 (loadAt dN (pT r7 0))=some (arV c0 c1):=dN.agg X7 (by show 0+2≤2;decide);simp only[aOy S,g2,lc,cE,reduceIte,cV,Nat.reduceAdd];refine dN.put (vs:=arC c0 c1) X5 (o:=0) rfl (by show 0+2≤2;decide) (aOv c0 c1) λh3 X3 u3=>?_;have l3:cH PG h3 (loadAt dN (pT r5 0))=some (arV c0 c1):=dN.agg X3 (by show 0+2≤2;decide);simp only[l3,cE,reduceIte,cV,Nat.reduceAdd];have ej:l.take j=l:=mX (by omega);have ejl:j=l.length:=by omega
   rw[ej] at W M;rw[ejl] at M;refine hk h3 c0 c1 m d0 d1 bk mk Kk A n F' ((aJq.good _ _ _ _ _ _ _ _ _ _ _).upd W u3 (λy hy hm=>by simp only[gE] at hm;exact m5 (hm▸hy))) N.fr (N.ext.fresh u3 (eN.one k5)) M
structure uG(h:PH)(a:Nat)(L:List It)(room:Int)(F:List Nat):Prop where
 here:∃m l,h a=some (.cells #[.map (some m),.int .i64 room] gP (0,0))∧MAt h m l∧l.Perm L∧F=[a,m]∧a≠m
 srt:Srt L
def uG.upd{h h':PH}{a:Nat}{L:List It}{room:Int}{F G:List Nat}(H:uG h a L room F)(u:cT G h h')(hd:∀b∈F,b∉G):uG h' a L room F:=by
 obtain⟨m,l,ha,hm,hp,rfl,hn⟩:=H.here;exact⟨⟨m,l,u.get ha (hd a (by simp)),jP.upd hm u (hd m (by simp)),hp,rfl,hn⟩,H.srt⟩
def uG.ext{h h':PH}{a:Nat}{L:List It}{room:Int}{F:List Nat}(H:uG h a L room F)(u:dC h h'):uG h' a L room F:=H.upd u (by simp)
def uG.known{h:PH}{a:Nat}{L:List It}{room:Int}{F:List Nat}(H:uG h a L room F):∀b∈F,h b≠none:=by
 obtain⟨m,l,ha,hm,hp,rfl,hn⟩:=H.here;intro b hb;simp only[gU,lH,or_false] at hb;rcases hb with rfl|rfl
 ·rw[ha];simp
 ·exact jP.known hm
def aW6(l:List It)(k:Ky):aBC (l.map It.pr) k=(mH l k).map It.val:=by
 unfold aBC mH;rw[List.find?_map,Option.map_map];rfl
def aPP{h:PH}{m:Nat}{l:List It}(hm:MAt h m l)(k:Ky):cH PG h (Instr.lookup dP (.map (some m)) (vO k) true)=some (.tuple #[((mH l k).getD default).val,.bool (mH l k).isSome]):=by
 rw[aHG aQp dP.und dV.info dV.zero hm k true,aW6];cases mH l k<;>rfl
def aYa(l:List It)(k:Ky):aMX (l.map It.pr) k=(aCU l k).map It.pr:=by
 unfold aMX aCU;rw[List.filter_map];rfl
def aWQ{l L:List It}(hp:l.Perm L)(hs:Srt L)(i:It):∃l':List It,aDe (l.map It.pr) i.key i.val=l'.map It.pr∧l'.Perm (aIb L i):=by
 have hnl:(l.map It.key).Nodup:=(hp.map It.key).nodup_iff.2 hs.nodup;have hk:uT (l.map It.pr)=l.map It.key:=by unfold uT;rw[zL4];rfl
 have hdel:(aCU l i.key).Perm (aCU L i.key):=hp.filter _;unfold aDe;rw[hk];split
 ·rename_i hm;refine⟨l.map λj=>if j.key=i.key then i else j,?_,?_⟩
  ·rw[zL4,zL4];apply zL5;intro x _;show(if x.key=i.key then(i.key,i.val) else(x.key,x.val))=It.pr (if x.key=i.key then i else x);by_cases hc:x.key=i.key
   ·rw[if_pos hc,if_pos hc];rfl
   ·rw[if_neg hc,if_neg hc];rfl
  ·obtain⟨x,hx,e⟩:=mG.1 hm;exact((aMK hnl ⟨x,hx,e⟩).trans (hdel.cons i)).trans (aNU L i).symm
 ·rename_i hm;refine⟨l++[i],by rw[pY];rfl,?_⟩;have hno:mH l i.key=none:=aIP.2 λx hx e=>hm (by rw[←e];exact zL8 hx);rw[aQd hno] at hdel;exact(List.perm_append_singleton i l).trans ((hdel.cons i).trans (aNU L i).symm)
def aWH(k:Ky):dG PG (build hZ #[(0,.int .i64 k.1),(1,.int .u64 k.2)])=some (vO k):=by kernel_rfl
def aNn(p:Pk)(g:Int):dG PG (build dV #[(0,.agg p.cells.toArray),(1,.int .i64 g)])=some (It.val ⟨p,g⟩):=by kernel_rfl
def aUF{h:PH}(room:Int){k:cD}(hbad:(room<1∨40<room)->k (.tuple #[.pointer none,.int .i64 1]) h)
  (hk:1≤room->room≤40->∀a h' F,uG h' a [] room F->eN h F->dC h h'->k (.tuple #[pT a 0,.int .i64 0]) h'):aT PG aG6 #[.int .i64 room] h k:=by
 apply aJ0.call;unfold aJ0;by_cases d1:room<1
 ·simp only[d1,cE,reduceIte];exact hbad (.inl d1)
 ·by_cases d2:40<room
  ·simp only[d1,d2,cE,reduceIte];exact hbad (.inr d2)
  ·simp only[d1,d2,aFM,cE,reduceIte];intro m hm;refine fT ?_
   try rw[cW]
   have hb:dG PG (build gP #[(0,.map (some m)),(1,.int .i64 room)])=some (.agg #[.map (some m),.int .i64 room]):=by kernel_rfl
   rw[hb,aGY];intro a ha
   try rw[cW]
   have ham:a≠m:=by rintro rfl;rw[dJ] at ha;cases ha
   have u1:dC h (h.set m (.map #[] 0)):=cT.new hm;have hma:(h.set m (.map #[] 0)) a=none:=ha;refine hk (by omega) (by omega) a _ [a,m] ⟨⟨m,[],dJ,?_,List.Perm.refl _,rfl,ham⟩,List.Pairwise.nil⟩ (λb hb=>?_) (u1.trans (cT.new ha))
   ·exact jP.ext jP.new (cT.new ha)
   ·simp only[gU,lH,or_false] at hb;rcases hb with rfl|rfl
    ·exact u1.none hma
    ·exact hm
def aO7{h:PH}{a:Nat}{L:List It}{room:Int}{F:List Nat}(H:uG h a L room F)(i:It){k:cD}
  (hk:∀h',uG h' a (aDI L room i) room F->cT F h h'->k (.int .i64 (aGT L room i)) h'):aT PG aBf #[pT a 0,vO i.key,i.val] h k:=by
 apply yZ.call;unfold yZ;intro r1 hr1;rw[cW];intro r3 hr3;rw[cW];have u1:dC h (h.set r1 (.cells (Value.cells (vO i.key)) hZ)):=cT.new hr1;have b1:Bx (h.set r1 (.cells (Value.cells (vO i.key)) hZ)) r1 [.int .i64 i.key.1,.int .u64 i.key.2]:=Bx.new;generalize h.set r1 (.cells (Value.cells (vO i.key)) hZ)=h1 at *;have u2:dC h1 (h1.set r3 (.cells (Value.cells i.val) dV)):=cT.new hr3;have b3:Bx (h1.set r3 (.cells (Value.cells i.val) dV)) r3 i.cells:=Bx.new;generalize h1.set r3 (.cells (Value.cells i.val) dV)=h2 at *;have b1:=b1.ext u2;have u:=u1.trans u2;have H2:=H.ext u;have hs:=H.srt;obtain⟨m,l,ha,hm,hp,rfl,ham⟩:=H2.here;have hgl:=λk=>aL4 hp hs.nodup k;have c0:dB h2 ⟨a,0,none⟩=some (.map (some m)):=by simp[dB,ha]
 simp only[gP.f0,dP.load,c0,b1.id,aPP hm,hgl,cE,reduceIte];intro r12 hr12
 try rw[cW]
 refine aMe hr12 _ λh5 b5 u5=>?_;have ha5:=u5.get ha;have hm5:=jP.ext hm u5;have b1:=b1.ext u5;have b3:=b3.ext u5;have c0:dB h5 ⟨a,0,none⟩=some (.map (some m)):=by simp[dB,ha5]
 have c1:dB h5 ⟨a,0+1,none⟩=some (.int .i64 room):=by simp[dB,ha5]
 have lm:=jP.len hm5 (t':=bT) dP.und;rw[jB,hp.length_eq] at lm;have uu:=u.trans u5;have fin:¬(mH L i.key=none∧room≤L.length)->dA PG (aFP dP (.map (some m)) (vO i.key) i.val) h5 λv61 h62=>k (.int .i64 0) h62:=λhc=>by
  refine aKq aQp dP.und hm5 i.key i.val λh6 hm6 u6=>?_;obtain⟨l',e1,e2⟩:=aWQ hp hs i;rw[e1] at hm6;have:aGT L room i=0:=by unfold aGT;rw[if_neg hc]
  rw[←this];have:aDI L room i=aIb L i:=by unfold aDI;rw[if_neg hc]
  refine hk h6 ⟨⟨m,l',u6.get ha5 (by simpa using ham),hm6,by rw[this];exact e2,rfl,ham⟩,by rw[this];exact hs.ins i⟩ ?_;exact cT.then (dC.upd uu) u6 (λb hb=>by left;simp at hb;simp[hb])
 by_cases hx:(mH L i.key).isSome=true
 ·have hc:¬(mH L i.key=none∧room≤L.length):=λhc=>by rw[hc.1] at hx;cases hx
  have hf:=fin hc;simp only[hx,gP.f0,gP.f1,dP.load,c0,b1.id,b3.it,cE,reduceIte];exact hf
 ·have hx':(mH L i.key).isSome=false:=by simpa using hx
  have hnone:mH L i.key=none:=by simpa using hx'
  by_cases hr:room≤L.length
  ·have e1:(room≤(L.length:Int))=True:=by apply eq_true;exact hr
   simp only[hx',gP.f0,gP.f1,dP.load,bT.load,c0,c1,lm,e1,b1.id,b3.it,cE,reduceIte];have h1:aGT L room i=2:=by unfold aGT;rw[if_pos ⟨hnone,hr⟩]
   have h2:aDI L room i=L:=by unfold aDI;rw[if_pos ⟨hnone,hr⟩]
   rw[←h1];refine hk h5 ?_ (dC.upd uu);rw[h2];exact H.ext uu
  ·have e1:(room≤(L.length:Int))=False:=by apply eq_false;exact hr
   have hf:=fin (λhc=>hr hc.2);simp only[hx',gP.f0,gP.f1,dP.load,bT.load,c0,c1,lm,e1,b1.id,b3.it,cE,reduceIte];exact hf
def aXZ{h:PH}{a:Nat}{L:List It}{room:Int}{F:List Nat}(H:uG h a L room F)(p:Pk){k:cD}
  (hk:∀h',uG h' a (if (mH L p.key).isSome then L else aDI L room ⟨p,1⟩) room F->cT F h h'->k (.int .i64 (if (mH L p.key).isSome then 0 else aGT L room ⟨p,1⟩)) h'):
  aT PG lL #[pT a 0,vO p.key,.agg p.cells.toArray] h k:=by
 apply xA.call;unfold xA;intro r1 hr1;rw[cW];intro r3 hr3;rw[cW];have u1:dC h (h.set r1 (.cells (Value.cells (vO p.key)) hZ)):=cT.new hr1;have b1:Bx (h.set r1 (.cells (Value.cells (vO p.key)) hZ)) r1 [.int .i64 p.key.1,.int .u64 p.key.2]:=Bx.new;generalize h.set r1 (.cells (Value.cells (vO p.key)) hZ)=h1 at *;have u2:dC h1 (h1.set r3 (.cells (Value.cells (.agg p.cells.toArray)) aR)):=cT.new hr3;have b3:Bx (h1.set r3 (.cells (Value.cells (.agg p.cells.toArray)) aR)) r3 p.cells:=Bx.new;generalize h1.set r3 (.cells (Value.cells (.agg p.cells.toArray)) aR)=h2 at *;have b1:=b1.ext u2;have u:=u1.trans u2;have H2:=H.ext u;have hs:=H.srt;obtain⟨m,l,ha,hm,hp,hF,ham⟩:=H2.here;have hgl:=λk=>aL4 hp hs.nodup k;have c0:dB h2 ⟨a,0,none⟩=some (.map (some m)):=by simp[dB,ha]
 simp only[gP.f0,dP.load,c0,b1.id,aPP hm,hgl,cE,reduceIte];intro r12 hr12
 try rw[cW]
 refine aMe hr12 _ λh5 b5 u5=>?_;have b1:=b1.ext u5;have p3:=(b3.ext u5).pk (o:=0) (p:=p) rfl;have uu:=u.trans u5;by_cases hx:(mH L p.key).isSome=true
 ·simp only[hx,cE,reduceIte] at hk ⊢;exact hk h5 (H.ext uu) (dC.upd uu)
 ·have hx':(mH L p.key).isSome=false:=by simpa using hx
  simp only[hx',b1.id,p3,aNn,cE,reduceIte] at hk ⊢;refine aO7 (H.ext uu) ⟨p,1⟩ λh6 H6 u6=>hk h6 H6 (cT.then (dC.upd uu) u6 λb hb=>.inl hb)
def aRm{h:PH}{a:Nat}{L:List It}{room:Int}{F:List Nat}(H:uG h a L room F)(p:Pk){k:cD}
  (hk:∀h',uG h' a (match mH L p.key with
   | some x=>aIb L ⟨x.p,2⟩
   | none=>aDI L room ⟨p,2⟩) room F->cT F h h'->k (.int .i64 (if (mH L p.key).isSome then 0 else aGT L room ⟨p,2⟩)) h'):
  aT PG kF #[pT a 0,vO p.key,.agg p.cells.toArray] h k:=by
 apply qR.call;unfold qR;intro r1 hr1;rw[cW];intro r3 hr3;rw[cW];have u1:dC h (h.set r1 (.cells (Value.cells (vO p.key)) hZ)):=cT.new hr1;have b1:Bx (h.set r1 (.cells (Value.cells (vO p.key)) hZ)) r1 [.int .i64 p.key.1,.int .u64 p.key.2]:=Bx.new;generalize h.set r1 (.cells (Value.cells (vO p.key)) hZ)=h1 at *;have u2:dC h1 (h1.set r3 (.cells (Value.cells (.agg p.cells.toArray)) aR)):=cT.new hr3;have b3:(h1.set r3 (.cells (Value.cells (.agg p.cells.toArray)) aR)) r3=some (.cells p.cells.toArray aR (0,0)):=dJ;have n3:h r3=none:=u1.none hr3;have n13:r1≠r3:=by rintro rfl;exact b1.known hr3
 generalize h1.set r3 (.cells (Value.cells (.agg p.cells.toArray)) aR)=h2 at *;have b1:=b1.ext u2;have u:=u1.trans u2;have H2:=H.ext u;have hs:=H.srt;obtain⟨m,l,ha,hm,hp,hF,ham⟩:=H2.here;have hgl:=λk=>aL4 hp hs.nodup k;have c0:dB h2 ⟨a,0,none⟩=some (.map (some m)):=by simp[dB,ha]
 simp only[gP.f0,dP.load,c0,b1.id,aPP hm,hgl,cE,reduceIte];intro r12 hr12
 try rw[cW]
 refine aMe hr12 _ λh5 b5 u5=>?_;have b1:=b1.ext u5;have b3:=u5.get b3;have uu:=u.trans u5;cases hx:mH L p.key with
 | none=>
  have p3:=(Bx.mk ⟨_,b3⟩:Bx h5 r3 p.cells).pk (o:=0) (p:=p) rfl;simp only[hx,zLv,cE,reduceIte] at hk ⊢;unfold uS;simp only[b1.id,p3,aNn,cE,reduceIte];refine aO7 (H.ext uu) ⟨p,2⟩ λh6 H6 u6=>hk h6 H6 (cT.then (dC.upd uu) u6 λb hb=>.inl hb)
 | some x=>
  obtain⟨hx1,hx2⟩:=aJX hx;have p5:=b5.pk (o:=0) (p:=x.p) (by rw[hx];rfl);simp only[hx,aNp,dV.f0,p5,cE,reduceIte] at hk ⊢;refine rI b3 aR.info (by show 4=4;rfl) (by show 0<4;decide) (by rfl) x.p.allCell ?_;have u6:cT [r3] h5 (h5.set r3 (.cells x.p.cells.toArray aR (0,0))):=cT.set (by simp);have b6:Bx (h5.set r3 (.cells x.p.cells.toArray aR (0,0))) r3 x.p.cells:=⟨_,dJ⟩;generalize h5.set r3 (.cells x.p.cells.toArray aR (0,0))=h6 at *;have uu6:=uu.fresh u6 (eN.one n3);have b1:=b1.upd u6 (by simpa using n13);have p6:=b6.pk (o:=0) (p:=x.p) rfl;unfold uS;simp only[b1.id,p6,aNn,cE,reduceIte];have hkey:vO p.key=vO (⟨x.p,2⟩:It).key:=by rw[←hx2];rfl
  rw[hkey];have hsome:mH L (⟨x.p,2⟩:It).key=some x:=by show mH L x.key=some x;rw[hx2];exact hx
  have e1:aGT L room ⟨x.p,2⟩=0:=by unfold aGT;rw[hsome];simp
  have e2:aDI L room ⟨x.p,2⟩=aIb L ⟨x.p,2⟩:=by unfold aDI;rw[hsome];simp
  refine aO7 (H.ext uu6) ⟨x.p,2⟩ λh7 H7 u7=>?_;rw[e2] at H7;rw[e1];exact hk h7 H7 (cT.then (dC.upd uu6) u7 λb hb=>.inl hb)
def aXx{h:PH}{a:Nat}{L:List It}{room:Int}{F:List Nat}(H:uG h a L room F)(p:Pk){k:cD}
  (hk:∀h',uG h' a (aCU L p.key) room F->cT F h h'->k (.int .i64 0) h'):
  aT PG iU #[pT a 0,vO p.key,.agg p.cells.toArray] h k:=by
 apply wU.call;unfold wU;intro r1 hr1;rw[cW];intro r3 hr3;rw[cW];have u1:dC h (h.set r1 (.cells (Value.cells (vO p.key)) hZ)):=cT.new hr1;have b1:Bx (h.set r1 (.cells (Value.cells (vO p.key)) hZ)) r1 [.int .i64 p.key.1,.int .u64 p.key.2]:=Bx.new;generalize h.set r1 (.cells (Value.cells (vO p.key)) hZ)=h1 at *;have u2:dC h1 (h1.set r3 (.cells (Value.cells (.agg p.cells.toArray)) aR)):=cT.new hr3;generalize h1.set r3 (.cells (Value.cells (.agg p.cells.toArray)) aR)=h2 at *;have b1:=b1.ext u2;have u:=u1.trans u2;have H2:=H.ext u;have hs:=H.srt;obtain⟨m,l,ha,hm,hp,rfl,ham⟩:=H2.here;have c0:dB h2 ⟨a,0,none⟩=some (.map (some m)):=by simp[dB,ha]
 simp only[gP.f0,dP.load,c0,b1.id,cE,reduceIte];refine aO9 aQp dP.und hm p.key rfl λh3 hm3 u3=>?_;rw[aYa] at hm3;refine hk h3 ⟨⟨m,aCU l p.key,u3.get ha (by simpa using ham),hm3,hp.filter _,rfl,ham⟩,hs.del _⟩ ?_;exact cT.then (dC.upd u) u3 (λb hb=>by left;simp at hb;simp[hb])
def aZJ{h:PH}{a:Nat}{L:List It}{room:Int}{F:List Nat}(H:uG h a L room F){k:cD}(hk:k (.int .i64 L.length) h):aT PG aEf #[pT a 0] h k:=by
 apply aEL.call;unfold aEL;obtain⟨m,l,ha,hm,hp,rfl,ham⟩:=H.here;have c0:dB h ⟨a,0,none⟩=some (.map (some m)):=by simp[dB,ha]
 have lm:=jP.len hm (t':=bT) dP.und;rw[jB,hp.length_eq] at lm;simp only[gP.f0,dP.load,c0,lm,cE,reduceIte];exact hk
def aVJ:dG PG (build eD #[(1,(Value.func (Fn.func lL) #[] #[])),(2,(Value.func (Fn.func kF) #[] #[])),(3,(Value.func (Fn.func iU) #[] #[])),(4,(Value.func (Fn.func iU) #[] #[]))])=
  some (.agg #[.nilFunc,.func (.func lL) #[] #[],.func (.func kF) #[] #[],.func (.func iU) #[] #[],.func (.func iU) #[] #[]]):=by kernel_rfl
def aSf{f:FuncId}{args:Array Value}{h:PH}{k:cD}(hc:aT PG f args h k):rK PG (.func (.func f) #[] #[]) args h k:=by
 unfold rK;simpa using hc
def aQ3(p:Pk):dG PG (build hZ #[(0,.int .i64 p.f),(1,.int .u64 p.s)])=some (vO p.key):=aWH p.key
def aQq{h:PH}{a:Nat}{L:List It}{room:Int}{F:List Nat}(H:uG h a L room F)(n:Nt){k:cD}
  (hk:∀h',uG h' a (aAX L room n) room F->cT F h h'->k (.int .i64 (aAY L room n)) h'):aT PG uJ #[pT a 0,.agg n.cells.toArray] h k:=by
 apply vE.call;unfold vE;intro r1 hr1;rw[cW];have u1:dC h (h.set r1 (.cells (Value.cells (.agg n.cells.toArray)) dI)):=cT.new hr1;have b1:Bx (h.set r1 (.cells (Value.cells (.agg n.cells.toArray)) dI)) r1 n.cells:=Bx.new;generalize h.set r1 (.cells (Value.cells (.agg n.cells.toArray)) dI)=h1 at *;simp only[b1.nt,cE,reduceIte];refine aTu n λh2 u2=>?_;have uu:=u1.trans u2;have b2:=b1.ext u2;cases hr:n.right with
 | false=>
  have e1:aAY L room n=1:=by unfold aAY;rw[if_pos hr]
  have e2:aAX L room n=L:=by unfold aAX;rw[if_pos hr]
  rw[e1,e2] at hk;simp only[zLu,if_false,cE,reduceIte];exact hk h2 (H.ext uu) (dC.upd uu)
 | true=>
  simp only[if_true,aVJ,cE,reduceIte];intro r8 hr8
  try rw[cW]
  refine rI dJ eD.info (by show 5=5;rfl) (by show 0<5;decide) (by rw[eD.zc];rfl) (by simp[fX]) ?_;rw[uR];have u3:dC h2 (h2.set r8 (.cells #[.nilFunc,.func (.func lL) #[] #[],.func (.func kF) #[] #[],.func (.func iU) #[] #[],.func (.func iU) #[] #[]] eD (0,0))):=cT.new hr8;have b8:Bx (h2.set r8 (.cells #[.nilFunc,.func (.func lL) #[] #[],.func (.func kF) #[] #[],.func (.func iU) #[] #[],.func (.func iU) #[] #[]] eD (0,0))) r8
   [.nilFunc,.func (.func lL) #[] #[],.func (.func kF) #[] #[],.func (.func iU) #[] #[],.func (.func iU) #[] #[]]:=⟨_,dJ⟩
  generalize h2.set r8 (.cells #[.nilFunc,.func (.func lL) #[] #[],.func (.func kF) #[] #[],.func (.func iU) #[] #[],.func (.func iU) #[] #[]] eD (0,0))=h3 at *;have b3:=b2.ext u3;have uu3:=uu.trans u3;have H3:=H.ext uu3;have c0:dB h3 ⟨r1,0,none⟩=some (.int .i64 n.k):=b3.cell 0;have c1:dB h3 ⟨r1,0+1,none⟩=some (.int .i64 n.p.f):=b3.cell 1;have c2:dB h3 ⟨r1,0+1+1,none⟩=some (.int .u64 n.p.s):=b3.cell 2;have p1:=b3.pk (o:=0+1) (p:=n.p) rfl;have hkr:1≤n.k∧n.k≤4:=by
   unfold Nt.right at hr;simp only[zI,decide_eq_true_eq] at hr;exact hr.1
  have ix:dG PG (indexAt eD (pT r8 0) (.int .i64 n.k))=some (pT r8 (0+n.k.toNat*1)):=
   aBH eD.und fS.info fS.size (by omega) (by omega)
  have hf:∀(id:FuncId),[.nilFunc,.func (.func lL) #[] #[],.func (.func kF) #[] #[],.func (.func iU) #[] #[],.func (.func iU) #[] #[]][0+n.k.toNat*1]? =some (Value.func (.func id) #[] #[])->
    aT PG id #[pT a 0,vO n.p.key,.agg n.p.cells.toArray] h3 k->
    dY (dG PG (fieldAt dI (pT r1 0) 0)) λv12=>
 dY (cH PG h3 (loadAt bT v12)) λv13=>
 dY (dG PG (indexAt eD (pT r8 0) v13)) λv14=>
 dY (cH PG h3 (loadAt fS v14)) λv15=>
 dY (dG PG (fieldAt dI (pT r1 0) 1)) λv16=>
 dY (dG PG (fieldAt aR v16 0)) λv17=>
 dY (cH PG h3 (loadAt bT v17)) λv18=>
 dY (dG PG (fieldAt dI (pT r1 0) 1)) λv19=>
 dY (dG PG (fieldAt aR v19 1)) λv20=>
 dY (cH PG h3 (loadAt cA v20)) λv21=>
 dY (dG PG (build hZ #[(0,v18),(1,v21)])) λv22=>
 dY (dG PG (fieldAt dI (pT r1 0) 1)) λv23=>
 dY (cH PG h3 (loadAt aR v23)) λv24=>
 rK PG v15 #[pT a 0,v22,v24] h3 λv25 h26=>(k v25 h26):=λid hid hc=>by
   have c3:dB h3 ⟨r8,0+n.k.toNat*1,none⟩=some (.func (.func id) #[] #[]):=(b8.cell _).trans hid;simp only[dI.f0,dI.f1,aR.f0,aR.f1,bT.load,cA.load,fS.load,c0,c1,c2,c3,ix,aQ3,p1,cE,reduceIte];exact aSf hc
  have hx:n.k=1∨n.k=2∨n.k=3∨n.k=4:=by omega
  have hrt:¬n.right=false:=by rw[hr];simp
  rcases hx with hA|hA|hA|hA
  ·refine hf lL (by rw[hA];rfl) (aXZ H3 n.p λh4 H4 u4=>?_);have e1:aAY L room n=(if (mH L n.p.key).isSome then 0 else aGT L room ⟨n.p,1⟩):=by unfold aAY;rw[if_neg hrt,if_pos hA]
   have e2:aAX L room n=(if (mH L n.p.key).isSome then L else aDI L room ⟨n.p,1⟩):=by unfold aAX;rw[if_neg hrt,if_pos hA]
   rw[←e1];exact hk h4 (by rw[e2];exact H4) (cT.then (dC.upd uu3) u4 λb hb=>.inl hb)
  ·have n1:¬n.k=1:=by omega
   refine hf kF (by rw[hA];rfl) (aRm H3 n.p λh4 H4 u4=>?_);have e1:aAY L room n=(if (mH L n.p.key).isSome then 0 else aGT L room ⟨n.p,2⟩):=by unfold aAY;rw[if_neg hrt,if_neg n1,if_pos hA]
   have e2:aAX L room n=(match mH L n.p.key with
    | some x=>aIb L ⟨x.p,2⟩
    | none=>aDI L room ⟨n.p,2⟩):=by unfold aAX;rw[if_neg hrt,if_neg n1,if_pos hA];try rfl
   rw[←e1];exact hk h4 (by rw[e2];exact H4) (cT.then (dC.upd uu3) u4 λb hb=>.inl hb)
  all_goals
   have n1:¬n.k=1:=by omega
   have n2:¬n.k=2:=by omega
   refine hf iU (by rw[hA];rfl) (aXx H3 n.p λh4 H4 u4=>?_);have e1:aAY L room n=0:=by unfold aAY;rw[if_neg hrt,if_neg n1,if_neg n2]
   have e2:aAX L room n=aCU L n.p.key:=by unfold aAX;rw[if_neg hrt,if_neg n1,if_neg n2]
   rw[←e1];exact hk h4 (by rw[e2];exact H4) (cT.then (dC.upd uu3) u4 λb hb=>.inl hb)
def aSd{h:PH}{m:Nat}{l:List It}(hm:MAt h m l){k:cD}
  (hk:∀m' h',h m'=none->MAt h' m' l->dC h h'->k (.iface dP (.map (some m'))) h'):aT PG aIh #[.iface dP (.map (some m))] h k:=by
 refine .inr ?_;unfold callFunc;have e0:PG.funcs[aIh]? =some Tryz.f213:=Tryz.func213;have key:∀(f:Program->Sem Next) (Q:Next->PH->Prop),dA PG (program >>= f) h Q=dA PG (f PG) h Q:=λ_ _=>rfl;rw[key,e0];dsimp only;have e1:(Tryz.f213.name == "runtime.NumGoroutine")=false:=by decide
 have e2:Tryz.f213.body.isNone=true:=rfl;have e3:Extern.findNext Tryz.f213=none:=by kernel_rfl
 have e4:Extern.find Tryz.f213=some Extern.MapsClone.clone:=by kernel_rfl
 simp only[e1,e2,e3,e4,zLu,if_false,if_true];show dA PG (Extern.MapsClone.clone #[.iface dP (.map (some m))] >>= λv=>pure (Next.value v)) h _;refine dA.bind (P:=PG) (s:=Extern.MapsClone.clone #[.iface dP (.map (some m))]) ?_;refine aUS hm λm' h' hm' hM u=>?_;exact⟨_,rfl,hk m' h' hm' hM u⟩
def aYm{h:PH}{m:Nat}{x y:Operand}:cH PG h (jW .eql dP x y (.map (some m)) (.map none))=some (.bool false):=by kernel_rfl
def aU2{h:PH}{m:Nat}{l:List It}(hm:MAt h m l){k:cD}
  (hk:∀m' h',h m'=none->MAt h' m' l->dC h h'->k (.map (some m')) h'):aT PG mB #[.map (some m)] h k:=by
 apply kV.call;unfold kV;have e1:dG PG (Instr.makeInterface dP (.map (some m)))=some (.iface dP (.map (some m))):=by kernel_rfl
 simp only[aYm,e1,cE,reduceIte];refine aSd hm λm' h' hm' hM u=>?_;have e2:cH PG h' (Instr.typeAssert (.iface dP (.map (some m'))) aNJ dP false)=some (.map (some m')):=by kernel_rfl
 exact cH.semH e2 (hk m' h' hm' hM u)
def aXe{h:PH}{a:Nat}{L:List It}{room:Int}{F:List Nat}(H:uG h a L room F){k:cD}
  (hk:∀a' h' F',uG h' a' L room F'->eN h F'->dC h h'->k (pT a' 0) h'):aT PG aD0 #[pT a 0] h k:=by
 apply xD.call;unfold xD;obtain⟨m,l,ha,hm,hp,rfl,ham⟩:=H.here;have c0:dB h ⟨a,0,none⟩=some (.map (some m)):=by simp[dB,ha]
 have c1:dB h ⟨a,0+1,none⟩=some (.int .i64 room):=by simp[dB,ha]
 simp only[gP.f0,gP.f1,dP.load,bT.load,c0,c1,cE,reduceIte];refine aU2 hm λm' h1 hm' hM u1=>?_;have ha1:=u1.get ha;refine⟨by simp[dB,ha1],?_⟩;have hb:dG PG (build gP #[(0,.map (some m')),(1,.int .i64 room)])=some (.agg #[.map (some m'),.int .i64 room]):=by kernel_rfl
 rw[hb,aGY];intro a' ha'
 try rw[cW]
 have ham':a'≠m':=by rintro rfl;exact jP.known hM ha'
 refine hk a' _ [a',m'] ⟨⟨m',l,dJ,jP.ext hM (cT.new ha'),hp,rfl,ham'⟩,H.srt⟩ (λb hb=>?_) (u1.trans (cT.new ha'));simp only[gU,lH,or_false] at hb;rcases hb with rfl|rfl
 ·exact u1.none ha'
 ·exact hm'
end
end Go.Proofs.YtppgkeodaejgcaaGreatDoor
