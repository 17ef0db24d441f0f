import Derived.Test.YtppgkeodaejgcaaGreatDoorRlNVC3
import Derived.Lib.UnsafeStr
set_option linter.all false
set_option maxRecDepth 100000
open Go.Instr (loadAt fieldAt indexAt extract buildSlice build)
namespace Go.Proofs.YtppgkeodaejgcaaGreatDoor
section
open Go
theorem aTA{α:Type}{x:Option α}{a:α}{k:α->Prop}(h:x=some a)(hk:k a):dY x k:=by rw[h];exact hk
theorem eX{x:Int}(h1: -9223372036854775808≤x)(h2:x≤9223372036854775807):IntKind.i64.wrap x=x:=IntWalk.i64_in _ ⟨h1,h2⟩
theorem pY{i:Nat}(h:i<9223372036854775807):IntKind.i64.wrap ((i:Int)+1)=((i+1:Nat):Int):=by rw[eX (by omega) (by omega)];omega
def gP(n:Nat)(i:Nat):List Value->PH->Nat:=λvs _=>match vs[i]? with
 | some (.int _ j)=>n-j.toNat
 | _=>0
def dZ(h:PH)(F:List Nat):Prop:=∀b∈F,h b=none
theorem dZ.one{h:PH}{a:Nat}(ha:h a=none):dZ h [a]:=λb hb=>by simp at hb;subst hb;exact ha
theorem dB.none{h h1:PH}(u:dB h h1){b:Nat}(hb:h1 b=none):h b=none:=by
 cases e:h b with
 | none=>rfl
 | some o=>rw[u.get e] at hb;cases hb
theorem dZ.grow{h h1:PH}{F F':List Nat}(f:dZ h F)(u:dB h h1)(hg:∀b∈F',b∈F∨h1 b=none):dZ h F':=λb hb=>by
 rcases hg b hb with h1|h1
 ·exact f b h1
 ·exact u.none h1
theorem dZ.of{h h1:PH}{F:List Nat}(f:dZ h1 F)(u:dB h h1):dZ h F:=λb hb=>u.none (f b hb)
theorem dB.trans{h h1 h2:PH}(u:dB h h1)(v:dB h1 h2):dB h h2:=cV.trans u v
theorem dB.fresh{h h1 h2:PH}{F:List Nat}(u:dB h h1)(v:cV F h1 h2)(f:dZ h F):dB h h2:=λb o hb _=>
 v b o (u.get hb) λhm=>by rw[f b hm] at hb;cases hb
theorem eD.ext{h h':PH}{e:TypeId}{size:Nat}{v:Value}{rows:List (List Value)}{F:List Nat}(H:eD h e size v rows F)(u:dB h h'):eD h' e size v rows F:=H.upd u (by simp)
theorem fH{α:Type}{v:α}{k:α->Prop}(hk:k v):dY (dD PG (pure v)) k:=hk
theorem gL{x:Int}(h1:0≤x)(h2:x<18446744073709551616):IntKind.u64.wrap x=x:=by
 unfold IntKind.wrap;simp[IntKind.signed,IntKind.bits];omega
theorem aJF(x:Int):IntKind.u8.wrap x=x%256:=by
 unfold IntKind.wrap;simp[IntKind.signed,IntKind.bits]
theorem aNd:yV undef=none:=(rfl)
theorem aME{X:(Value->PH->Prop)->Prop}{h:PH}{kv:cD}{w:Bool}:oF none w X h kv=kv undef h:=by simp[oF]
theorem cE:type_of% @aMI∧type_of% @cY∧type_of% @aOl∧type_of% @aOM∧type_of% @aNO∧type_of% @aSo∧type_of% @aSu∧type_of% @aSa∧type_of% @aSM∧type_of% @aSn∧type_of% @aSz∧type_of% @aSm∧type_of% @aOi∧type_of% @aQl∧type_of% @aRy∧type_of% @aOD∧type_of% @aQ9∧type_of% @aRA∧type_of% @aVN∧type_of% @aRK∧type_of% @aMQ∧type_of% @aUR∧type_of% @aSq∧type_of% @aOw∧type_of% @aMm∧type_of% @aLw∧type_of% @aP1∧type_of% @iB∧type_of% @kI∧type_of% @nH∧type_of% @decide_true∧type_of% @decide_false∧type_of% @if_true.{0}∧type_of% @if_true.{1}∧type_of% @if_false.{0}∧type_of% @if_false.{1}∧type_of% @Bool.false_eq_true∧type_of% @Bool.not_true∧type_of% @Bool.not_false∧type_of% @List.getElem?_toArray.{0}∧type_of% @List.getElem?_cons_zero.{0}∧type_of% @List.getElem?_cons_succ.{0}∧type_of% @Option.isSome_none.{0}∧type_of% @List.length_map.{0,0}∧type_of% @zPP:=⟨@aMI,@cY,@aOl,@aOM,@aNO,@aSo,@aSu,@aSa,@aSM,@aSn,@aSz,@aSm,@aOi,@aQl,@aRy,@aOD,@aQ9,@aRA,@aVN,@aRK,@aMQ,@aUR,@aSq,@aOw,@aMm,@aLw,@aP1,@iB,@kI,@nH,@decide_true,@decide_false,@if_true.{0},@if_true.{1},@if_false.{0},@if_false.{1},@Bool.false_eq_true,@Bool.not_true,@Bool.not_false,@List.getElem?_toArray.{0},@List.getElem?_cons_zero.{0},@List.getElem?_cons_succ.{0},@Option.isSome_none.{0},@List.length_map.{0,0},@zPP⟩
theorem cT:type_of% @aNd∧type_of% @aME∧type_of% @Nat.zero_add∧type_of% @beq_self_eq_true.{0}∧type_of% @bne_self_eq_false.{0}∧type_of% @and_self∧type_of% @Bool.true_and∧type_of% @Bool.false_and∧type_of% @Bool.and_true∧type_of% @Bool.and_false∧type_of% @Bool.true_or∧type_of% @Bool.false_or∧type_of% @Bool.or_true∧type_of% @Bool.or_false:=⟨@aNd,@aME,@Nat.zero_add,@beq_self_eq_true.{0},@bne_self_eq_false.{0},@and_self,@Bool.true_and,@Bool.false_and,@Bool.and_true,@Bool.and_false,@Bool.true_or,@Bool.false_or,@Bool.or_true,@Bool.or_false⟩
abbrev lU:=PH->List Nat->Prop
structure lW(A:lU):Prop where
 known:∀{h F},A h F->∀b∈F,h b≠none
 upd:∀{h h' F K},A h F->cV K h h'->(∀b∈F,b∉K)->A h' F
def eH(A B:lU):lU:=λh F=>∃Fa Fb,F=Fa++Fb∧A h Fa∧B h Fb∧∀b∈Fa,b∉Fb
theorem lW.star{A B:lU}(a:lW A)(b:lW B):lW (eH A B) where
 known:=by
  rintro h F ⟨Fa,Fb,rfl,ha,hb,-⟩ x hx;rcases jB.1 hx with hx|hx
  ·exact a.known ha x hx
  ·exact b.known hb x hx
 upd:=by
  rintro h h' F K ⟨Fa,Fb,rfl,ha,hb,hd⟩ u hK;exact⟨Fa,Fb,rfl,a.upd ha u λx hx=>hK x (by simp[hx]),b.upd hb u λx hx=>hK x (by simp[hx]),hd⟩
theorem lW.ext{A:lU}(a:lW A){h h':PH}{F:List Nat}(H:A h F)(u:dB h h'):A h' F:=a.upd H u (by simp)
structure iO(h:PH)(F:List Nat)(h':PH)(F':List Nat):Prop where
 upd:cV F h h'
 grow:∀b∈F',b∈F∨h b=none
theorem iO.refl{h:PH}{F:List Nat}:iO h F h F:=⟨cV.refl,λb hb=>.inl hb⟩
theorem iO.ext{h h':PH}{F:List Nat}(u:dB h h'):iO h F h' F:=⟨u.upd,λb hb=>.inl hb⟩
theorem iO.trans{h h1 h2:PH}{F F1 F2:List Nat}(a:iO h F h1 F1)(b:iO h1 F1 h2 F2):iO h F h2 F2 where
 upd:=a.upd.then b.upd a.grow
 grow:=λx hx=>by
  rcases b.grow x hx with hx|hx
  ·exact a.grow x hx
  ·by_cases hF:x∈F
   ·exact .inl hF
   ·right;cases e:h x with
    | none=>rfl
    | some o=>have:=a.upd x o e hF;rw[hx] at this;cases this
def aBm(h:PH)(F:List Nat)(A:lU)(W:lU->lU):Prop:=
 ∃Fa,A h Fa∧(∀b∈Fa,b∈F)∧∀(A':lU) (h':PH) (Fa':List Nat),A' h' Fa'->iO h Fa h' Fa'->∃F',W A' h' F'∧iO h F h' F'
theorem eH.left{A B:lU}(b:lW B){h:PH}{F:List Nat}(H:(eH A B) h F):aBm h F A (λA'=>eH (A') B):=by
 obtain⟨Fa,Fb,rfl,ha,hb,hd⟩:=H;refine⟨Fa,ha,λx hx=>by simp[hx],λA' h' Fa' hA s=>⟨Fa'++Fb,⟨Fa',Fb,rfl,hA,b.upd hb s.upd (λx hx hx'=>hd x hx' hx),λx hx hx'=>?_⟩,⟨λx o hx hn=>s.upd x o hx (λhm=>hn (by simp[hm])),λx hx=>?_⟩⟩⟩
 ·rcases s.grow x hx with h1|h1
  ·exact hd x h1 hx'
  ·exact b.known hb x hx' h1
 ·rcases jB.1 hx with hx|hx
  ·rcases s.grow x hx with h1|h1
   ·exact .inl (by simp[h1])
   ·exact .inr h1
  ·exact .inl (by simp[hx])
theorem eH.right{A B:lU}(a:lW A){h:PH}{F:List Nat}(H:(eH A B) h F):aBm h F B (λB'=>eH A (B')):=by
 obtain⟨Fa,Fb,rfl,ha,hb,hd⟩:=H;refine⟨Fb,hb,λx hx=>by simp[hx],λB' h' Fb' hB s=>⟨Fa++Fb',⟨Fa,Fb',rfl,a.upd ha s.upd (λx hx hx'=>hd x hx hx'),hB,λx hx hx'=>?_⟩,⟨λx o hx hn=>s.upd x o hx (λhm=>hn (by simp[hm])),λx hx=>?_⟩⟩⟩
 ·rcases s.grow x hx' with h1|h1
  ·exact hd x hx h1
  ·exact a.known ha x hx h1
 ·rcases jB.1 hx with hx|hx
  ·exact .inl (by simp[hx])
  ·rcases s.grow x hx with h1|h1
   ·exact .inl (by simp[h1])
   ·exact .inr h1
theorem aBm.comp{h:PH}{F:List Nat}{A B:lU}{W V:lU->lU}(f:aBm h F A W)(g:∀Fa,A h Fa->aBm h Fa B V):aBm h F B (λB'=>W (V B')):=by
 obtain⟨Fa,ha,hFa,c⟩:=f;obtain⟨Fb,hb,hFb,d⟩:=g Fa ha;refine⟨Fb,hb,λx hx=>hFa x (hFb x hx),λB' h' Fb' hB s=>?_⟩;obtain⟨Fa',hV,s'⟩:=d B' h' Fb' hB s;exact c _ h' Fa' hV s'
def wK(r:Nat)(cs:List Value):lU:=λh F=>F=[r]∧Bx h r cs
theorem wK.good(r:Nat)(cs:List Value):lW (wK r cs) where
 known:=by
  rintro h F ⟨rfl,B⟩ b hb;simp only[fW] at hb;subst hb;exact B.known
 upd:=by
  rintro h h' F K ⟨rfl,B⟩ u hK;exact⟨rfl,B.upd u (hK r (by simp))⟩
def xT(e:TypeId)(n:Nat)(v:Value)(rows:List (List Value)):lU:=λh F=>eD h e n v rows F
theorem xT.good(e:TypeId)(n:Nat)(v:Value)(rows:List (List Value)):lW (xT e n v rows) where
 known:=λH b hb=>eD.known H b hb
 upd:=λH u hK=>eD.upd H u hK
theorem eH.mk{A B:lU}{h:PH}{Fa Fb:List Nat}(ha:A h Fa)(hb:B h Fb)(hd:∀b∈Fa,b∉Fb):(eH A B) h (Fa++Fb):=⟨Fa,Fb,rfl,ha,hb,hd⟩
section
variable{P:Program}{h:PH}{t t' kt et:TypeId}{α:Type}[DecidableEq α]{enc:α->Value}
def aO0(l:List (α×Value))(a:α):List (α×Value):=l.filter λp=>decide (p.1≠a)
theorem aMh{β:Type}:∀(L:List (α×β)) (a:α) (q:Nat),(L.map (·.1)).Nodup->(L.map (·.1))[q]? =some a->L.eraseIdx q=L.filter λp=>decide (p.1≠a)
 | [],a,q,_,hq=>by simp at hq
 | p::ps,a,0,hnd,hq=>by
  simp only[iI,qG,zL8] at hq;simp only[iI,aKy] at hnd;simp only[List.eraseIdx_cons_zero,List.filter_cons,hq,ne_eq,not_true,decide_false,zLt,if_false];symm;rw[aN0];intro x hx;simp only[decide_eq_true_eq];rintro e;exact hnd.1 (by rw[hq,←e];exact zL6 hx)
 | p::ps,a,q+1,hnd,hq=>by
  simp only[iI,sR] at hq;simp only[iI,aKy] at hnd;have hne:p.1≠a:=λe=>hnd.1 (by rw[e];exact qB hq);simp only[List.eraseIdx_cons_succ,List.filter_cons,hne,ne_eq,not_false_eq_true,decide_true,if_true];rw[aMh ps a q hnd.2 hq]
theorem aL1{β γ:Type}(f:β->γ):∀(L:List β) (q:Nat),(L.map f).eraseIdx q=(L.eraseIdx q).map f
 | [],_=>rfl
 | _::_,0=>rfl
 | x::xs,q+1=>by simp only[iI,List.eraseIdx_cons_succ,aL1 f xs q]
theorem aJ1{β:Type}:∀(D L:List β),D.Nodup->(∀p∈D,p∈L)->D.length≤L.length
 | [],_,_,_=>Nat.zero_le _
 | p::ps,L,hn,hs=>by
  obtain⟨a,b,rfl⟩:=List.append_of_mem (hs p (by simp));simp only[aKy] at hn;have:=aJ1 ps (a++b) hn.2 λq hq=>by
   have:=hs q (by simp[hq]);simp only[jB,gE] at this ⊢;rcases this with h|rfl|h
   ·exact .inl h
   ·exact absurd hq hn.1
   ·exact .inr h
  simp only[tM,jS] at this ⊢;omega
theorem aTu{a:α}{L:List (α×Value×Nat)}(e2:a∉L.map (·.1)):(L.filter λp=>decide (p.1≠a))=L:=by
 rw[aN0];intro x hx;simp only[decide_eq_true_eq];rintro e;exact e2 (by rw[←e];exact zL6 hx)
theorem aPH(L:List (α×Value×Nat))(a:α):aO0 (L.map λp=>(p.1,p.2.1)) a=(L.filter λp=>decide (p.1≠a)).map λp=>(p.1,p.2.1):=by
 unfold aO0;rw[List.filter_map];rfl
theorem aSd{r:Nat}{l:List (α×Value)}(K:aJ2 P kt enc)(hu:P.underlying t=some (.map kt et))(H:jX enc h r l)(a:α){ts:Array TypeId}(qF:ts[0]? =some t){k:cD}
  (hk:∀h',jX enc h' r (aO0 l a)->cV [r] h h'->k (.tuple #[]) h'):cZ P (Builtin.delete_ ts t' #[.map (some r),enc a]) h k:=by
 obtain⟨es,c,L,h1,h2,rfl,hb1,hb2⟩:=H.here;have hnd:=H.nodup;rw[aDT] at hnd;unfold Builtin.delete_;simp only[qF,zLJ,qG,sR];show cZ P (underlying t >>= _) h _;rw[qS hu];dsimp only;refine aFz h1 ?_;dsimp only;refine iR (K.chk h _ a) ?_;rw[h2];refine iR (aLi K a L) ?_;have hnd2:(xW (aO0 (L.map λp=>(p.1,p.2.1)) a)).Nodup:=by
  rw[aPH,aDT];exact List.Nodup.sublist (List.Sublist.map _ List.filter_sublist) hnd
 have hb3:((L.filter λp=>decide (p.1≠a)).map (·.2.2)).Nodup:=List.Nodup.sublist (List.Sublist.map _ List.filter_sublist) hb1;have hb4:∀p∈L.filter λp=>decide (p.1≠a),p.2.2<c:=λp hp=>hb2 p (zL1.1 hp).1;rcases aNf a L 0 with⟨q,w,e1,e2,e3⟩|⟨e1,e2⟩
 ·rw[e1,fC];show(∃u,h r=some u∧(∀c e f,u≠ .cells c e f))∧_;refine⟨⟨_,h1,by intros;simp⟩,?_⟩;show k (.tuple #[]) _;refine hk _ ⟨hnd2,_,c,L.filter (λp=>decide (p.1≠a)),dK,?_,aPH L a,hb3,hb4⟩ (cV.set (by simp));rw[←aMh L a q hnd e2];have hq:q<es.size:=by
   rw[←Array.length_toList,h2];have:=(zLz.1 e2).1;simpa[aCu] using this
  rw[Array.eraseIdxIfInBounds,dif_pos hq,Array.toList_eraseIdx,h2];unfold aCu;exact aL1 _ _ _
 ·rw[e1];show(∃u,h r=some u∧(∀c e f,u≠ .cells c e f))∧_;refine⟨⟨_,h1,by intros;simp⟩,?_⟩;show k (.tuple #[]) _;refine hk _ ⟨hnd2,_,c,L,dK,h2,?_,hb1,hb2⟩ (cV.set (by simp));rw[aPH,aTu e2]
structure aBq(enc:α->Value)(h:PH)(r it:Nat)(l D:List (α×Value)):Prop where
 nodup:(xW l).Nodup
 here:∃(es:Array MapEntry) (c:Nat) (L DL:List (α×Value×Nat)) (S:Array Nat),h r=some (.map es c)∧es.toList=aCu enc L∧l=L.map (λp=>(p.1,p.2.1))∧(L.map (·.2.2)).Nodup∧(∀p∈L,p.2.2<c)∧
  h it=some (.mapIter (some r) c S c)∧S.toList=DL.map (·.2.2)∧(∀p∈DL,p∈L)∧DL.Nodup∧D=DL.map (λp=>(p.1,p.2.1))
theorem aBq.upd{h h':PH}{r it:Nat}{l D:List (α×Value)}{G:List Nat}(H:aBq enc h r it l D)(u:cV G h h')(hr:r∉G)(hi:it∉G):aBq enc h' r it l D:=by
 obtain⟨es,c,L,DL,S,h1,h2,h3,h4,h5,h6,h7⟩:=H.here;exact⟨H.nodup,es,c,L,DL,S,u.get h1 hr,h2,h3,h4,h5,u.get h6 hi,h7⟩
theorem aBq.map{r it:Nat}{l D:List (α×Value)}(H:aBq enc h r it l D):jX enc h r l:=by
 obtain⟨es,c,L,DL,S,h1,h2,h3,h4,h5,_⟩:=H.here;exact⟨H.nodup,es,c,L,h1,h2,h3,h4,h5⟩
theorem aBq.known{r it:Nat}{l D:List (α×Value)}(H:aBq enc h r it l D):h it≠none:=by
 obtain⟨es,c,L,DL,S,h1,h2,h3,h4,h5,h6,_⟩:=H.here;rw[h6];simp
def aOb(n:Nat)(it:Nat)(h:PH):Nat:=match h it with
 | some (.mapIter _ _ S _)=>n-S.size
 | _=>0
theorem aBq.left{r it:Nat}{l D:List (α×Value)}(H:aBq enc h r it l D)(n:Nat):aOb n it h=n-D.length:=by
 obtain⟨es,c,L,DL,S,h1,h2,h3,h4,h5,h6,h7,_,_,h8⟩:=H.here;unfold aOb;rw[h6];have:S.size=D.length:=by rw[←Array.length_toList,h7,h8];simp
 simp only[this]
theorem aBq.le{r it:Nat}{l D:List (α×Value)}(H:aBq enc h r it l D):D.length≤l.length:=by
 obtain⟨es,c,L,DL,S,h1,h2,rfl,h4,h5,h6,h7,h9,h10,rfl⟩:=H.here;rw[iV,iV];exact aJ1 _ _ h10 h9
theorem aQm{r:Nat}{l:List (α×Value)}(hu:P.underlying t=some (.map kt et))(H:jX enc h r l){k:cD}
  (hk:∀it h',h it=none->aBq enc h' r it l []->dB h h'->k (pT it 0) h'):cZ P (Instr.range t (.map (some r))) h k:=by
 obtain⟨es,c,L,h1,h2,rfl,hb1,hb2⟩:=H.here;unfold Instr.range;show cZ P (underlying t >>= _) h _;rw[qS hu];have key:∀(X:Sem Obj) (f:Obj->Sem Value),cZ P X h (λo h'=>cZ P (f o) h' k)->cZ P (X >>= f) h k:=λX f hX=>cZ.bind (P:=P) (s:=X) hX;refine key _ _ ?_;refine aFz h1 ?_;intro it hit;exact hk it _ hit ⟨H.nodup,es,c,L,[],#[],aPQ hit h1,h2,rfl,hb1,hb2,dK,rfl,by simp,by simp,rfl⟩ (cV.new hit)
theorem aHS{β γ:Type}(f:β->γ):∀{L:List β},(L.map f).Nodup->L.Nodup
 | [],_=>List.nodup_nil
 | x::xs,hnd=>by
  simp only[iI,aKy] at hnd ⊢;exact⟨λhm=>hnd.1 (zL6 hm),aHS f hnd.2⟩
theorem aGi{β γ:Type}{f:β->γ}:∀{L:List β},(L.map f).Nodup->∀{p q:β},p∈L->q∈L->f p=f q->p=q
 | [],_,p,q,hp,_,_=>by cases hp
 | x::xs,hnd,p,q,hp,hq,e=>by
  simp only[iI,aKy] at hnd;rcases gE.1 hp with hp|hp
  ·rcases gE.1 hq with hq|hq
   ·rw[hp,hq]
   ·exact absurd (by rw[←hp,e];exact zL6 hq) hnd.1
  ·rcases gE.1 hq with hq|hq
   ·exact absurd (by rw[←hq,←e];exact zL6 hp) hnd.1
   ·exact aGi hnd.2 hp hq e
theorem aPi{r:Nat}{o:Obj}{β:Type}{Q:β->PH->Prop}(hr:h r=some o)(hc:∀c e f,o≠ .cells c e f){f:Obj->Sem β}(hq:cZ P (f o) h Q):cZ P (getObj r >>= f) h Q:=by
 show ∃o,h r=some o∧(∀c e f,o≠ .cells c e f)∧cZ P _ h Q;exact⟨o,hr,hc,hq⟩
theorem aSk{r it:Nat}{l D:List (α×Value)}(H:aBq enc h r it l D){k:cD}
  (hnil:D.Perm l->k (.tuple #[.bool false]) h)
  (hcons:∀a v h',(a,v)∈l->a∉xW D->aBq enc h' r it l (D++[(a,v)])->cV [it] h h'->k (.tuple #[.bool true,enc a,v]) h'):cZ P (Instr.next (pT it 0) false t) h k:=by
 obtain⟨es,c,L,DL,S,h1,h2,h3,hb1,hb2,hi,hS,hDL,hDn,hD⟩:=H.here;unfold Instr.next;refine aPi hi (by intros;simp) ?_;dsimp only;refine aFz h1 ?_;dsimp only;have hborn:∀e∈es.toList,e.born<c:=λe he=>by
  rw[h2] at he;obtain⟨p,hp,rfl⟩:=lL.1 he;exact hb2 p hp
 have hgo:(!S.isEmpty && !es.isEmpty&&es.all (·.born ≥ c))=false:=by
  by_cases he:es.isEmpty=true
  ·simp[he]
  ·have:es.all (·.born ≥ c)=false:=by
    rw[Bool.eq_false_iff];intro hall;have hne:es.toList≠[]:=by intro e;apply he;simpa using e
    obtain⟨x,xs,hx⟩:=List.exists_cons_of_ne_nil hne;have h1:=hborn x (by rw[hx];simp);have h2:=Array.all_eq_true_iff_forall_mem.1 hall x (by rw[←Array.mem_toList_iff,hx];simp);simp only[ge_iff_le,decide_eq_true_eq] at h2;omega
   simp[this]
 rw[hgo];simp only[zLt,if_false];obtain⟨LL,hLL⟩:∃LL:List (α×Value×Nat),LL=L.filter λp=>decide (p.2.2∉DL.map (·.2.2)):=⟨_,rfl⟩;have hleft:(es.filter λe=>!S.contains e.born).toList=aCu enc LL:=by
  rw[Array.toList_filter,h2,hLL];unfold aCu;rw[List.filter_map];congr 1;apply List.filter_congr;intro p _;simp only[Function.comp];rw[←Array.contains_toList,hS];by_cases hm:p.2.2∈DL.map (·.2.2)
  ·simp[hm]
  ·simp[hm]
 have hmemLL:∀p,p∈LL↔p∈L∧p.2.2∉DL.map (·.2.2):=λp=>by rw[hLL,zL1];simp
 have hold:((es.filter λe=>!S.contains e.born).filter (·.born<c)).toList=aCu enc LL:=by
  rw[Array.toList_filter,hleft,aN0];intro e he;obtain⟨p,hp,rfl⟩:=lL.1 he;simpa using hb2 p ((hmemLL p).1 hp).1
 have hnew:((es.filter λe=>!S.contains e.born).filter (·.born ≥ c))= #[]:=by
  rw[←Array.toList_inj,Array.toList_filter,hleft];show _=[];rw[List.filter_eq_nil_iff];intro e he;obtain⟨p,hp,rfl⟩:=lL.1 he;have:=hb2 p ((hmemLL p).1 hp).1;simp only[ge_iff_le,decide_eq_true_eq];omega
 generalize ho:(es.filter λe=>!S.contains e.born).filter (·.born<c)=old at hold;rw[hnew];simp only[Array.append_empty];by_cases hemp:LL=[]
 ·have hold0:old= #[]:=by rw[←Array.toList_inj,hold,hemp];rfl
  subst hold0;simp only[List.isEmpty_toArray,List.isEmpty_nil,if_true,List.map_toArray,iU,Array.append_empty,List.size_toArray,tM,zLM,fC];rw[aAX];intro tt;have:(if Question.forced (.mapNext 1) then 0 else Question.cut (.mapNext 1) tt)=0:=by simp[Question.forced]
  rw[this];show k (.tuple #[.bool false]) h;refine hnil ?_;rw[hD,h3];apply List.Perm.map;refine(List.perm_ext_iff_of_nodup hDn ?_).2 λp=>⟨hDL p,λhp=>?_⟩
  ·exact aHS _ hb1
  ·by_cases hm:p.2.2∈DL.map (·.2.2)
   ·obtain⟨q,hq,e⟩:=lL.1 hm;rw[aGi (f:=λp:α×Value×Nat=>p.2.2) hb1 hp (hDL q hq) e.symm];exact hq
   ·have:=(hmemLL p).2 ⟨hp,hm⟩;rw[hemp] at this;cases this
 ·have hne:old.isEmpty=false:=by
   rw[Bool.eq_false_iff];intro e;have:old.toList=[]:=by simpa using e
   rw[hold] at this;exact hemp (List.map_eq_nil_iff.1 this)
  rw[hne];simp only[zLt,if_false,Array.empty_append,Array.size_map];have hpos:0<old.size:=by
   rw[←Array.length_toList,hold];unfold aCu;rw[iV];exact aHx.2 hemp
  rw[aAX];intro tt;obtain⟨j,hj,hjlt⟩:∃j,(if Question.forced (.mapNext old.size) then 0 else Question.cut (.mapNext old.size) tt)=j∧j<old.size:=by
   refine⟨_,rfl,?_⟩;split
   ·exact hpos
   ·exact zLA _ hpos
  rw[hj];have hjl:j<LL.length:=by
   have:old.size=LL.length:=by rw[←Array.length_toList,hold];simp[aCu]
   omega
  have hget:(old.map some)[j]? =some (some ⟨enc LL[j].1,LL[j].2.1,LL[j].2.2⟩):=by
   rw[Array.getElem?_map,←aLG,hold];simp[aCu,hjl]
  rw[hget];dsimp only;have hp:=(hmemLL LL[j]).1 (aMG hjl);generalize LL[j]=p at hp;obtain⟨hpL,hpD⟩:=hp;show(∃u,h it=some u∧(∀c e f,u≠ .cells c e f))∧_;refine⟨⟨_,hi,by intros;simp⟩,?_⟩;have hri:r≠it:=λe=>by rw[e,hi] at h1;cases h1
  refine hcons p.1 p.2.1 _ ?_ ?_ ⟨H.nodup,es,c,L,DL++[p],S.push p.2.2,(by rw[pR hri];exact h1),h2,h3,hb1,hb2,dK,?_,?_,?_,?_⟩ (cV.set (by simp))
  ·rw[h3];exact zL6 hpL
  ·intro hm;rw[hD,aDT] at hm;obtain⟨q,hq,e⟩:=lL.1 hm;have hnd:=H.nodup;rw[h3,aDT] at hnd;have hqL:=hDL q hq;have:q=p:=aGi (f:=λp:α×Value×Nat=>p.1) hnd hqL hpL e;exact hpD (by rw[←this];exact zL6 hq)
  ·rw[Array.toList_push,hS];simp
  ·intro q hq;rcases jB.1 hq with hq|hq
   ·exact hDL q hq
   ·simp only[fW] at hq;subst hq;exact hpL
  ·rw[List.nodup_append];refine⟨hDn,by simp,?_⟩;intro x hx y hy;simp only[fW] at hy;subst hy;rintro rfl;exact hpD (zL6 hx)
  ·rw[hD];simp
theorem aQi{r it:Nat}{l D:List (α×Value)}{a:α}{v:Value}(H:aBq enc h r it l (D++[(a,v)])){k:cD}(hk:k (.tuple #[enc a,v]) h):cZ P (Instr.entry (pT it 0)) h k:=by
 obtain⟨es,c,L,DL,S,h1,h2,h3,hb1,hb2,hi,hS,hDL,hDn,hD⟩:=H.here;obtain⟨DL',p,rfl,hp1⟩:∃DL' p,DL=DL'++[p]∧(a,v)=(p.1,p.2.1):=by
  rcases List.eq_nil_or_concat DL with rfl|⟨DL',p,rfl⟩
  ·simp at hD
  ·refine⟨DL',p,by simp,?_⟩;simp only[List.concat_eq_append,qI,iI,iU] at hD;have:=List.append_inj_right' hD rfl;simpa using this
 simp only[Prod.mk.injEq] at hp1;obtain⟨rfl,rfl⟩:=hp1;have hpL:=hDL p (by simp);unfold Instr.entry;refine aPi hi (by intros;simp) ?_;dsimp only;have hback:S.back? =some p.2.2:=by
  rw[←Array.getLast?_toList,hS];simp
 rw[hback];dsimp only;refine aFz h1 ?_;dsimp only;simp only[bne_self_eq_false,zLt,if_false];have hfind:es.find? (·.born==p.2.2)=some ⟨enc p.1,p.2.1,p.2.2⟩:=by
  rw[←Array.find?_toList,h2];unfold aCu;rw[List.find?_map];have:L.find? ((λe:MapEntry=>e.born==p.2.2) ∘ λp=>⟨enc p.1,p.2.1,p.2.2⟩)=some p:=by
   cases hf:L.find? ((λe:MapEntry=>e.born==p.2.2) ∘ λp=>⟨enc p.1,p.2.1,p.2.2⟩) with
   | none=>
    rw[List.find?_eq_none] at hf;have:=hf p hpL;simp at this
   | some q=>
    have hq:=List.mem_of_find?_eq_some hf;have he:=List.find?_some hf;simp only[Function.comp,beq_iff_eq] at he;rw[aGi (f:=λp:α×Value×Nat=>p.2.2) hb1 hq hpL he]
  rw[this];rfl
 rw[hfind];exact hk
end
structure Pk where
 f:Int
 s:Int
 t:Int
 d:ByteArray
 deriving DecidableEq
instance:Inhabited Pk:=⟨⟨0,0,0,⟨#[]⟩⟩⟩
def Pk.cells(p:Pk):List Value:=[.int .i64 p.f,.int .u64 p.s,.int .u64 p.t,.string p.d]
theorem Pk.allCell(p:Pk):∀v∈p.cells.toArray.toList,fO v=true:=by simp[Pk.cells,fO]
theorem Bx.pk{h:PH}{r:Nat}{cs:List Value}(H:Bx h r cs){o:Nat}{p:Pk}(ho:(cs.drop o).take 4=p.cells):cG PG h (loadAt aR (pT r o))=some (.agg p.cells.toArray):=by
 obtain⟨e,h1⟩:=H;have hl:o+4≤cs.length:=by
  have:((cs.drop o).take 4).length=4:=by rw[ho];rfl
  rw[wO,yR] at this;omega
 rw[aR.loadAgg h1 (by simpa using hl)];congr 2;rw[←ho];simp[zLx]
def Pk.right(p:Pk):Bool:=decide (0≤p.f)&&decide (p.f≤1)&&decide (p.s≠0)&&decide (p.t≠0)&&decide (p.d.size≤64)
theorem aLC{h:PH}(p:Pk){k:cD}(hk:∀h',dB h h'->k (.int .i64 (if p.right then 0 else 1)) h'):aT PG yT #[.agg p.cells.toArray] h k:=by
 apply aHK.call;unfold aHK;intro r hr;rw[cY];have u:dB h (h.set r (.cells (Value.cells (.agg p.cells.toArray)) aR)):=cV.new hr;have b:Bx (h.set r (.cells (Value.cells (.agg p.cells.toArray)) aR)) r p.cells:=Bx.new;generalize h.set r (.cells (Value.cells (.agg p.cells.toArray)) aR)=h1 at *;have c0:dE h1 ⟨r,0,none⟩=some (.int .i64 p.f):=b.cell 0;have c1:dE h1 ⟨r,0+1,none⟩=some (.int .u64 p.s):=b.cell 1;have c2:dE h1 ⟨r,0+2,none⟩=some (.int .u64 p.t):=b.cell 2;have c3:dE h1 ⟨r,0+3,none⟩=some (.string p.d):=b.cell 3;have hk:=hk h1 u;unfold Pk.right at hk;simp only[aR.f0,aR.f1,aR.f2,aR.f3,bT.load,cA.load,bR.load,c0,cE,reduceIte];by_cases d1:p.f<0
 ·have e1:(0≤p.f)=False:=by apply eq_false;omega
  simp only[aR.f0,aR.f1,aR.f2,aR.f3,bT.load,cA.load,bR.load,c0,d1,e1,xI,decide_false,cE,reduceIte] at hk ⊢;exact hk
 ·have e1:(0≤p.f)=True:=by apply eq_true;omega
  by_cases d2:1<p.f
  ·have e2:(p.f≤1)=False:=by apply eq_false;omega
   simp only[aR.f0,aR.f1,aR.f2,aR.f3,bT.load,cA.load,bR.load,c0,d1,e1,d2,e2,xI,aGN,decide_false,cE,reduceIte] at hk ⊢;exact hk
  ·have e2:(p.f≤1)=True:=by apply eq_true;omega
   by_cases d3:p.s=0
   ·have e3:(p.s==0)=true:=by simp[d3]
    have e3':(p.s≠0)=False:=by simp[d3]
    simp only[aR.f0,aR.f1,aR.f2,aR.f3,bT.load,cA.load,bR.load,c0,d1,e1,d2,e2,c1,e3,e3',xI,aGN,decide_false,cE,reduceIte] at hk ⊢;exact hk
   ·have e3:(p.s==0)=false:=by simp[d3]
    have e3':(p.s≠0)=True:=by simp[d3]
    by_cases d4:p.t=0
    ·have e4:(p.t==0)=true:=by simp[d4]
     have e4':(p.t≠0)=False:=by simp[d4]
     simp only[aR.f0,aR.f1,aR.f2,aR.f3,bT.load,cA.load,bR.load,c0,d1,e1,d2,e2,c1,e3,e3',c2,e4,e4',xI,aGN,decide_false,cE,reduceIte] at hk ⊢;exact hk
    ·have e4:(p.t==0)=false:=by simp[d4]
     have e4':(p.t≠0)=True:=by simp[d4]
     by_cases d5:p.d.size≤64
     ·have e5:((64:Int)<(p.d.size:Int))=False:=by apply eq_false;omega
      simp only[aR.f0,aR.f1,aR.f2,aR.f3,bT.load,cA.load,bR.load,c0,d1,e1,d2,e2,c1,e3,e3',c2,e4,e4',c3,lX bR.und,e5,d5,Bool.and_self,zLp,cE,reduceIte] at hk ⊢;exact hk
     ·have e5:((64:Int)<(p.d.size:Int))=True:=by apply eq_true;omega
      simp only[aR.f0,aR.f1,aR.f2,aR.f3,bT.load,cA.load,bR.load,c0,d1,e1,d2,e2,c1,e3,e3',c2,e4,e4',c3,lX bR.und,e5,d5,aGN,decide_false,cE,reduceIte] at hk ⊢;exact hk
structure Nt where
 k:Int
 p:Pk
 deriving DecidableEq
def Nt.cells(n:Nt):List Value:=[.int .i64 n.k,.int .i64 n.p.f,.int .u64 n.p.s,.int .u64 n.p.t,.string n.p.d]
theorem Nt.rows(l:List Nt):Rows 5 (l.map Nt.cells):=λr hr=>by obtain⟨m,_,rfl⟩:=lL.1 hr;rfl
def Nt.right(n:Nt):Bool:=decide (1≤n.k)&&decide (n.k≤4)&&n.p.right
theorem aUj(x:Int):dD PG (convert cA dP (.int .u64 x))=some (.int .u8 (IntKind.u8.wrap x)):=by kernel_rfl
theorem aLt(x:Int):jP PG (buildSlice dA 1 #[(0,.int .u8 x)])=some (.cells #[.int .u8 x] dP,λr=>pure (.slice (some ⟨r,0,none⟩) 1 1)):=by kernel_rfl
theorem uH{h:PH}{n c:Nat}(hn:n<18446744073709551616)(hc:c≤1000){k:cD}(hk:∀h',dB h h'->k (.string (tx (be n c))) h'):aT PG jA #[.int .u64 n,.int .i64 c] h k:=by
 apply aBo.call;unfold aBo;refine⟨λvs h'=>∃i:Nat,i≤c∧vs=[.int .u64 ((n/256^i:Nat):Int),.int .i64 c,.string (tx ((be n c).drop (c-i))),.int .i64 i]∧dB h h',gP c 3,⟨0,by omega,by rw[aMD (by rw[iE];omega)];simp[aZN],cV.refl⟩,?_⟩;rintro ρ h' ⟨i,hi,hvs,w⟩;simp only[iI,iU,kR,and_true] at hvs;obtain⟨s0,s1,s2,s3⟩:=hvs;rw[s0,s1,s2,s3];unfold aGh;by_cases hlt:i<c
 ·have hd:((i:Int)<(c:Int))=True:=by apply eq_true;omega
  have hle:n/256^i≤n:=Nat.div_le_self _ _;have e1:Int.tmod ((n/256^i:Nat):Int) 256=((n/256^i%256:Nat):Int):=(Int.ofNat_tmod _ 256).symm;have e2:IntKind.u8.wrap ((n/256^i%256:Nat):Int)=((UInt8.ofNat (n/256^i%256)).toNat:Int):=by rw[aJF];simp
  have e3:IntKind.u64.wrap (Int.tdiv ((n/256^i:Nat):Int) 256)=((n/256^(i+1):Nat):Int):=by
   have:Int.tdiv ((n/256^i:Nat):Int) 256=((n/256^i/256:Nat):Int):=rfl;have hd2:n/256^i/256=n/256^(i+1):=by rw[Nat.div_div_eq_div_mul,zLQ]
   rw[this,hd2];exact gL (Int.natCast_nonneg _) (by have:=Nat.div_le_self n (256^(i+1));omega)
  have ei:=pY (i:=i) (by omega);simp only[hd,aIK (show(256:Int)≠0 by decide),aMf (show(256:Int)≠0 by decide),e1,aUj,e2,aLt,cE,reduceIte];intro r hr;refine fH ?_;have u1:dB h' (h'.set r (.cells #[.int .u8 (UInt8.ofNat (n/256^i%256)).toNat] dP)):=cV.new hr;have s1:fQ (h'.set r (.cells #[.int .u8 (UInt8.ofNat (n/256^i%256)).toNat] dP)) 1 (.slice (some ⟨r,0,none⟩) 1 1) ([UInt8.ofNat (n/256^i%256)].map jL):=(eD.lit (jL.rows [_]) dK (by simp) (by decide) (by simp[jL])).slR;generalize h'.set r (.cells #[.int .u8 (UInt8.ofNat (n/256^i%256)).toNat] dP)=h1 at *;have hcv:=aFS dA.und dP.und bR.und s1;have hcv':cG PG h1 (convert dA bR (.slice (some ⟨r,0,none⟩) 1 1))=some (.string (tx [UInt8.ofNat (n/256^i%256)])):=hcv;have hadd:dD PG (binOp .add bR (.string (tx [UInt8.ofNat (n/256^i%256)])) (.string (tx ((be n c).drop (c-i)))))=some (.string (tx ((be n c).drop (c-(i+1))))):=by
   rw[lZ (by rw[yR,iE];simp;omega)];congr 3;have hg:=aOQ n c (c-(i+1)) (by omega);have:c-1-(c-(i+1))=i:=by omega
   rw[this] at hg;obtain⟨hlt',hg'⟩:=zLz.1 hg;rw[aNs hlt',hg'];have:c-(i+1)+1=c-i:=by omega
   rw[this];rfl
  simp only[hcv',hadd,e3,ei,cE,reduceIte];exact⟨⟨i+1,by omega,rfl,w.trans u1⟩,by simp[gP,s3];omega⟩
 ·have hd:((i:Int)<(c:Int))=False:=by apply eq_false;omega
  have hic:i=c:=by omega
  subst hic;rw[Nat.sub_self,zLb];simp only[hd,cE,reduceIte];exact hk _ w
abbrev W:=BitVec 32
def wv(x:W):Value:=.int .u32 (x.toNat:Int)
def tn(x:W)(n:Nat):W:=(x <<< (32-n)) ||| (x>>>n)
def w4(a b c d:UInt8):W:=((((BitVec.ofNat 32 a.toNat) <<< 24) ||| ((BitVec.ofNat 32 b.toNat) <<< 16)) ||| ((BitVec.ofNat 32 c.toNat) <<< 8)) ||| (BitVec.ofNat 32 d.toNat)
def wat(b:List UInt8)(t:Nat):W:=w4 (b.getD (4*t) 0) (b.getD (4*t+1) 0) (b.getD (4*t+2) 0) (b.getD (4*t+3) 0)
def aMz(l:List W)(t:Nat):W:=
 let x:=l.getD (t-15) 0;let y:=l.getD (t-2) 0
 ((l.getD (t-16) 0+((tn x 7 ^^^ tn x 18) ^^^ (x>>>3)))+l.getD (t-7) 0)+((tn y 17 ^^^ tn y 19) ^^^ (y>>>10))
def yN(b:List UInt8)(n:Nat):List W:=(List.range n).map (wat b)
def mV(b:List UInt8):Nat->List W
 | 0=>yN b 16
 | n+1=>mV b n++[aMz (mV b n) (n+16)]
def aFo(b:List UInt8):List W:=mV b 48
theorem aHB(b:List UInt8)(n:Nat):(yN b n).length=n:=by simp[yN]
theorem aNG(b:List UInt8)(n:Nat):yN b (n+1)=yN b n++[wat b n]:=by simp[yN,List.range_succ]
theorem aJ9(b:List UInt8):∀n,(mV b n).length=n+16
 | 0=>by simp[mV,aHB]
 | n+1=>by simp only[mV,jS,aJ9 b n,zLS]
theorem aLY(b:List UInt8):(aFo b).length=64:=aJ9 b 48
structure S8 where
 (a b c d e f g h:W)
def S8.l(s:S8):List W:=[s.a,s.b,s.c,s.d,s.e,s.f,s.g,s.h]
def S8.cells(s:S8):List Value:=s.l.map wv
def S8.add(s t:S8):S8:=⟨s.a+t.a,s.b+t.b,s.c+t.c,s.d+t.d,s.e+t.e,s.f+t.f,s.g+t.g,s.h+t.h⟩
def rnd(s:S8)(k w:W):S8:=
 let t1:=(((s.h+((tn s.e 6 ^^^ tn s.e 11) ^^^ tn s.e 25))+((s.e &&& s.f) ^^^ (~~~s.e &&& s.g)))+k)+w;let t2:=((tn s.a 2 ^^^ tn s.a 13) ^^^ tn s.a 22)+(((s.a &&& s.b) ^^^ (s.a &&& s.c)) ^^^ (s.b &&& s.c))
 ⟨t1+t2,s.a,s.b,s.c,s.d+t1,s.e,s.f,s.g⟩
def kT:List W:=[
 0x428a2f98,0x71374491,0xb5c0fbcf,0xe9b5dba5,0x3956c25b,0x59f111f1,0x923f82a4,0xab1c5ed5,
 0xd807aa98,0x12835b01,0x243185be,0x550c7dc3,0x72be5d74,0x80deb1fe,0x9bdc06a7,0xc19bf174,
 0xe49b69c1,0xefbe4786,0x0fc19dc6,0x240ca1cc,0x2de92c6f,0x4a7484aa,0x5cb0a9dc,0x76f988da,
 0x983e5152,0xa831c66d,0xb00327c8,0xbf597fc7,0xc6e00bf3,0xd5a79147,0x06ca6351,0x14292967,
 0x27b70a85,0x2e1b2138,0x4d2c6dfc,0x53380d13,0x650a7354,0x766a0abb,0x81c2c92e,0x92722c85,
 0xa2bfe8a1,0xa81a664b,0xc24b8b70,0xc76c51a3,0xd192e819,0xd6990624,0xf40e3585,0x106aa070,
 0x19a4c116,0x1e376c08,0x2748774c,0x34b0bcb5,0x391c0cb3,0x4ed8aa4a,0x5b9cca4f,0x682e6ff3,
 0x748f82ee,0x78a5636f,0x84c87814,0x8cc70208,0x90befffa,0xa4506ceb,0xbef9a3f7,0xc67178f2]
theorem aKs:kT.length=64:=rfl
def aIa(ws:List W)(s:S8):Nat->S8
 | 0=>s
 | n+1=>rnd (aIa ws s n) (kT.getD n 0) (ws.getD n 0)
def aKY(s:S8)(b:List UInt8):S8:=s.add (aIa (aFo b) s 64)
def S0:S8:=⟨1779033703,3144134277,1013904242,2773480762,1359893119,2600822924,528734635,1541459225⟩
def qQ(s:S8)(l:List UInt8):S8×List UInt8:=if h:64≤l.length then qQ (aKY s (l.take 64)) (l.drop 64) else(s,l)
termination_by l.length
decreasing_by simp;omega
theorem aIL{s:S8}{l:List UInt8}(h:l.length<64):qQ s l=(s,l):=by rw[qQ,dif_neg (by omega)]
theorem aIc{s:S8}{l:List UInt8}(h:64≤l.length):qQ s l=qQ (aKY s (l.take 64)) (l.drop 64):=by rw[qQ,dif_pos h]
theorem aLV(s:S8)(a b:List UInt8):qQ s (a++b)=qQ (qQ s a).1 ((qQ s a).2++b):=by
 by_cases h:64≤a.length
 ·have e1:(a++b).take 64=a.take 64:=by rw[zLG h]
  have e2:(a++b).drop 64=a.drop 64++b:=by rw[List.drop_append_of_le_length h]
  rw[aIc (l:=a++b) (by simp;omega),aIc h,e1,e2];exact aLV (aKY s (a.take 64)) (a.drop 64) b
 ·rw[aIL (l:=a) (by omega)]
termination_by a.length
decreasing_by simp;omega
theorem aKQ(s:S8)(a:List UInt8):(qQ s a).2.length<64:=by
 by_cases h:64≤a.length
 ·rw[aIc h];exact aKQ _ _
 ·rw[aIL (by omega)];show a.length<64;omega
termination_by a.length
decreasing_by simp;omega
def wb(x:W):List UInt8:=[UInt8.ofNat ((x>>>24).toNat),UInt8.ofNat ((x>>>16).toNat),UInt8.ofNat ((x>>>8).toNat),UInt8.ofNat x.toNat]
def aJA(s:S8):List UInt8:=s.l.flatMap wb
def aJd(n:Nat):List UInt8:=128::(List.replicate ((119-n%64)%64) 0++be (n*8%18446744073709551616) 8)
def pJ(l:List UInt8):List UInt8:=aJA (qQ S0 (l++aJd l.length)).1
section
variable{P:Program}{t:TypeId}{x y:W}{h:PH}
theorem aGT(x:Int):IntKind.u32.wrap x=x%4294967296:=by
 rfl
theorem aEq(x:W):BitVec.ofInt 32 (x.toNat:Int)=x:=by
 apply BitVec.eq_of_toInt_eq;rw[BitVec.toInt_ofInt,BitVec.toInt_eq_toNat_bmod]
theorem aGD:dD P (binOp .add t (wv x) (wv y))=some (wv (x+y)):=by
 unfold wv;rw[aRy,aGT,BitVec.toNat_add,←Int.natCast_add];rfl
theorem aOj(x:W):IntKind.u32.wrap (x.toNat:Int)=x.toNat:=by
 rw[aGT];have:=x.isLt;omega
theorem aQa:dD P (binOp .and t (wv x) (wv y))=some (wv (x &&& y)):=by
 have e:dD P (binOp .and t (wv x) (wv y))=some (.int .u32 (IntKind.u32.wrap ((BitVec.ofInt 32 (x.toNat:Int) &&& BitVec.ofInt 32 (y.toNat:Int)).toNat:Int))):=rfl;rw[e,aEq,aEq,aOj];rfl
theorem aVz:dD P (binOp .or t (wv x) (wv y))=some (wv (x ||| y)):=by
 have e:dD P (binOp .or t (wv x) (wv y))=some (.int .u32 (IntKind.u32.wrap ((BitVec.ofInt 32 (x.toNat:Int) ||| BitVec.ofInt 32 (y.toNat:Int)).toNat:Int))):=rfl;rw[e,aEq,aEq,aOj];rfl
theorem aEo:dD P (binOp .xor t (wv x) (wv y))=some (wv (x ^^^ y)):=by
 have e:dD P (binOp .xor t (wv x) (wv y))=some (.int .u32 (IntKind.u32.wrap ((BitVec.ofInt 32 (x.toNat:Int) ^^^ BitVec.ofInt 32 (y.toNat:Int)).toNat:Int))):=rfl;rw[e,aEq,aEq,aOj];rfl
theorem aW2:dD P (Op.unary .xor (wv x))=some (wv (~~~x)):=by
 have e:dD P (Op.unary .xor (wv x))=some (.int .u32 (IntKind.u32.wrap ((BitVec.ofInt 32 4294967295 ^^^ BitVec.ofInt 32 (x.toNat:Int)).toNat:Int))):=rfl;rw[e,aEq,aOj];have:BitVec.ofInt 32 4294967295 ^^^ x= ~~~x:=by
  have:BitVec.ofInt 32 4294967295=BitVec.allOnes 32:=by decide
  rw[this,BitVec.allOnes_xor]
 rw[this];rfl
theorem aKB{k:IntKind}{n:Nat}(hn:n≤32):dD P (binOp .shr t (wv x) (.int k n))=some (wv (x>>>n)):=by
 unfold wv;rw[aJb (by omega)];congr 2;rw[BitVec.toNat_ushiftRight,Nat.shiftRight_eq_div_pow];have e:min ((n:Int).toNat) (IntKind.u32.bits)=n:=by
  show min n 32=n;omega
 rw[e,Int.fdiv_eq_ediv_of_nonneg _ (Int.pow_nonneg (by decide)),Int.natCast_ediv,Int.natCast_pow];rfl
theorem aOP{k:IntKind}{n:Nat}(hn:n≤32):dD P (binOp .shl t (wv x) (.int k n))=some (wv (x <<< n)):=by
 unfold wv;rw[aRW (by omega)];congr 2;have e:min ((n:Int).toNat) (IntKind.u32.bits)=n:=by
  show min n 32=n;omega
 rw[e,aGT,BitVec.toNat_shiftLeft,Nat.shiftLeft_eq,Int.natCast_emod,Int.natCast_mul,Int.natCast_pow];rfl
end
theorem aKW(x:Int):dD PG (convert bT nS (.int .i64 x))=some (.int .u64 (IntKind.u64.wrap x)):=by kernel_rfl
theorem aSx(x:Int):dD PG (convert dP cM (.int .u8 x))=some (.int .u32 (IntKind.u32.wrap x)):=by kernel_rfl
theorem aXa(x:Int):dD PG (convert cM dP (.int .u32 x))=some (.int .u8 (IntKind.u8.wrap x)):=by kernel_rfl
theorem aZ5:∀n:Fin 32,((BitVec.ofInt 64 (18446744073709551616-(n.val:Int)) &&& BitVec.ofInt 64 31).toNat:Int)=(32-(n.val:Int))%32:=by decide
theorem aZl(n:Nat)(h1:1≤n)(h2:n≤31):dD PG (binOp .and nS (.int .u64 (18446744073709551616-(n:Int))) (.int .u64 31))=some (.int .u64 ((32-n:Nat):Int)):=by
 have e:dD PG (binOp .and nS (.int .u64 (18446744073709551616-(n:Int))) (.int .u64 31))=some (.int .u64 (IntKind.u64.wrap ((BitVec.ofInt 64 (18446744073709551616-(n:Int)) &&& BitVec.ofInt 64 31).toNat:Int))):=rfl;have:=aZ5 ⟨n,by omega⟩;simp only at this;rw[e,this,gL (by omega) (by omega)];congr 2;omega
theorem aD5{h:PH}{x:W}{n:Nat}(h1:1≤n)(h2:n≤31){k:cD}(hk:k (wv (tn x n)) h):aT PG qZ #[wv x,.int .i64 n] h k:=by
 apply aLL.call;unfold aLL;have e1:dD PG (Op.unary .neg (.int .i64 (n:Int)))=some (.int .i64 (-(n:Int))):=by
  have:dD PG (Op.unary .neg (.int .i64 (n:Int)))=some (.int .i64 (IntKind.i64.wrap (0-(n:Int)))):=rfl;rw[this,eX (by omega) (by omega)];simp
 simp only[e1,cE,reduceIte];apply xL.call;unfold xL;have e2:IntKind.u64.wrap (-(n:Int))=18446744073709551616-(n:Int):=by
  unfold IntKind.wrap;simp[IntKind.signed,IntKind.bits];omega
 have e3:IntKind.u64.wrap (32-((32-n:Nat):Int))=((n:Nat):Int):=by rw[gL (by omega) (by omega)];omega
 simp only[aKW,e2,aZl n h1 h2,aOD,e3,aOP (show 32-n≤32 by omega),aKB (show n≤32 by omega),aVz,cE,reduceIte];exact hk
theorem aTB{l r:List Value}{x v:Value}{n:Nat}(hn:n=l.length):(l++x::r).toArray.setIfInBounds n v=(l++v::r).toArray:=by
 subst hn;apply zLv;simp
def zs(n:Nat):List Value:=List.replicate n (wv 0)
theorem aSc(n:Nat):zs (n+1)=wv 0::zs n:=rfl
theorem aMF{b:Nat}{j:Int}(h0:0≤j)(h1:j<64):dD PG (indexAt eV (pT b 0) (.int .i64 j))=some (pT b j.toNat):=by
 rw[sH eV.und cM.info cM.size h0 (by exact_mod_cast h1)];simp
theorem at8{b:Nat}{j:Int}(h0:0≤j)(h1:j<8):dD PG (indexAt eN (pT b 0) (.int .i64 j))=some (pT b j.toNat):=by
 rw[sH eN.und cM.info cM.size h0 (by exact_mod_cast h1)];simp
theorem isw(x:W):fO (wv x)=true:=rfl
theorem aMC{h:PH}{b o:Nat}{l:List W}{r:List Value}{t:TypeId}{fr:Nat×Nat}(hb:h b=some (.cells (l.map wv++r).toArray t fr))(ho:o<l.length):dE h ⟨b,o,none⟩=some (wv (l.getD o 0)):=by
 unfold dE;simp only[hb];rw[zLJ,List.getElem?_append_left (by simpa using ho),wL,mB ho];simp[aAo,mB ho]
theorem w8(x:UInt8):Value.int .u32 (IntKind.u32.wrap (x.toNat:Int))=wv (BitVec.ofNat 32 x.toNat):=by
 have hx:=x.toNat_lt;unfold wv;rw[aGT,BitVec.toNat_ofNat];congr 1
theorem bAk{t:TypeId}{x:W}{k:IntKind}:dD PG (binOp .shl t (wv x) (.int k 24))=some (wv (x <<< 24)):=aOP (n:=24) (by decide)
theorem bAs{t:TypeId}{x:W}{k:IntKind}:dD PG (binOp .shl t (wv x) (.int k 16))=some (wv (x <<< 16)):=aOP (n:=16) (by decide)
theorem sh8{t:TypeId}{x:W}{k:IntKind}:dD PG (binOp .shl t (wv x) (.int k 8))=some (wv (x <<< 8)):=aOP (n:=8) (by decide)
theorem sr3{t:TypeId}{x:W}{k:IntKind}:dD PG (binOp .shr t (wv x) (.int k 3))=some (wv (x>>>3)):=aKB (n:=3) (by decide)
theorem aYo{t:TypeId}{x:W}{k:IntKind}:dD PG (binOp .shr t (wv x) (.int k 10))=some (wv (x>>>10)):=aKB (n:=10) (by decide)
theorem z64:dN PG eV=(zs 64).toArray:=by rw[eV.zc];rfl
theorem z8:dN PG eN=(zs 8).toArray:=by rw[eN.zc];rfl
theorem aVg{b:List UInt8}(hb:b.length=64){i r1 r3:Nat}(hi:i<16){h:PH}{R:cD}{n5:gI}
  (h3:h r3=some (.cells ((yN b i).map wv++zs (64-i)).toArray eV (0,0)))
  (hn:n5 [.string (tx b),pT r1 0,pT r3 0,.int .i64 ((i+1:Nat):Int)] (h.set r3 (.cells ((yN b (i+1)).map wv++zs (64-(i+1))).toArray eV (0,0)))):
  aG9 R n5 (.string (tx b)) (pT r1 0) (pT r3 0) (.int .i64 (i:Int)) h:=by
 unfold aG9;have e1:((i:Int)<16)=True:=eq_true (by omega);have e2:IntKind.i64.wrap (4*(i:Int))=((4*i:Nat):Int):=by rw[eX (by omega) (by omega)];omega
 have e3:IntKind.i64.wrap (((4*i:Nat):Int)+4)=((4*i+4:Nat):Int):=by rw[eX (by omega) (by omega)];omega
 have e4:=pY (i:=i) (by omega);have ec:dD PG (Instr.sliceAt bR (.string (tx b)) (some (.int .i64 ((4*i:Nat):Int))) (some (.int .i64 ((4*i+4:Nat):Int))) none)=some (.string (tx ((b.take (4*i+4)).drop (4*i)))):=
  aII bR.und (.inr ⟨_,rfl⟩) (.inr ⟨_,rfl⟩) (by omega) (by omega)
 have ix:∀j,j<4->((b.take (4*i+4)).drop (4*i))[j]? =some (b.getD (4*i+j) 0):=λj hj=>by
  rw[aMW,aIk,if_pos (by omega),aAo,mB (by omega)];rfl
 have i0:dD PG (Instr.index bR (.string (tx ((b.take (4*i+4)).drop (4*i)))) (.int .i64 0))=_:=zY (j:=0) bR.und (ix 0 (by omega));have i1:dD PG (Instr.index bR (.string (tx ((b.take (4*i+4)).drop (4*i)))) (.int .i64 1))=_:=zY (j:=1) bR.und (ix 1 (by omega));have i2:dD PG (Instr.index bR (.string (tx ((b.take (4*i+4)).drop (4*i)))) (.int .i64 2))=_:=zY (j:=2) bR.und (ix 2 (by omega));have i3:dD PG (Instr.index bR (.string (tx ((b.take (4*i+4)).drop (4*i)))) (.int .i64 3))=_:=zY (j:=3) bR.und (ix 3 (by omega));have ea:=aMF (b:=r3) (j:=(i:Int)) (by omega) (by omega);rw[pK] at ea;simp only[e1,e2,e3,e4,ec,i0,i1,i2,i3,aSx,w8,bAk,bAs,sh8,aVz,ea,cE,reduceIte];refine iZ cM.und rfl h3 (by simp[aHB,zs];omega) (isw _) cM.info cM.size ?_;have es:((yN b i).map wv++zs (64-i)).toArray.setIfInBounds i (wv (w4 (b.getD (4*i+0) 0) (b.getD (4*i+1) 0) (b.getD (4*i+2) 0) (b.getD (4*i+3) 0)))=((yN b (i+1)).map wv++zs (64-(i+1))).toArray:=by
  rw[show 64-i=(64-(i+1))+1 by omega,aSc,aTB (by simp[aHB]),aNG];simp[wat]
 have es':=es;unfold w4 at es';rw[es'];exact hn
theorem aUH{b:List UInt8}{i r1 r3:Nat}(hi:i<48){h:PH}{R:cD}{n5:gI}
  (h3:h r3=some (.cells ((mV b i).map wv++zs (48-i)).toArray eV (0,0)))
  (hn:n5 [pT r1 0,pT r3 0,.int .i64 ((i+1+16:Nat):Int)] (h.set r3 (.cells ((mV b (i+1)).map wv++zs (48-(i+1))).toArray eV (0,0)))):
  aF7 R n5 (pT r1 0) (pT r3 0) (.int .i64 ((i+16:Nat):Int)) h:=by
 unfold aF7;have hl:=aJ9 b i;have e1:(((i+16:Nat):Int)<64)=True:=eq_true (by omega);have e2:IntKind.i64.wrap (((i+16:Nat):Int)-15)=((i+1:Nat):Int):=by rw[eX (by omega) (by omega)];omega
 have e3:IntKind.i64.wrap (((i+16:Nat):Int)-2)=((i+14:Nat):Int):=by rw[eX (by omega) (by omega)];omega
 have e4:IntKind.i64.wrap (((i+16:Nat):Int)-16)=((i:Nat):Int):=by rw[eX (by omega) (by omega)];omega
 have e5:IntKind.i64.wrap (((i+16:Nat):Int)-7)=((i+9:Nat):Int):=by rw[eX (by omega) (by omega)];omega
 have e6:IntKind.i64.wrap (((i+16:Nat):Int)+1)=((i+1+16:Nat):Int):=by rw[eX (by omega) (by omega)];omega
 have a1:=aMF (b:=r3) (j:=((i+1:Nat):Int)) (by omega) (by omega);have a2:=aMF (b:=r3) (j:=((i+14:Nat):Int)) (by omega) (by omega);have a3:=aMF (b:=r3) (j:=((i:Nat):Int)) (by omega) (by omega);have a4:=aMF (b:=r3) (j:=((i+9:Nat):Int)) (by omega) (by omega);have a5:=aMF (b:=r3) (j:=((i+16:Nat):Int)) (by omega) (by omega);rw[pK] at a1 a2 a3 a4 a5;have c1:=aMC (o:=i+1) h3 (by omega);have c2:=aMC (o:=i+14) h3 (by omega);have c3:=aMC (o:=i) h3 (by omega);have c4:=aMC (o:=i+9) h3 (by omega);simp only[e1,e2,e3,e4,e5,a1,a2,a3,a4,cM.load,c1,c2,c3,c4,sr3,aYo,cE,reduceIte];refine aD5 (n:=7) (by decide) (by decide) ?_;refine⟨by simp only[cM.load,c4],by simp only[cM.load,c3],?_⟩;refine aD5 (n:=18) (by decide) (by decide) ?_;refine⟨by simp only[cM.load,c4],by simp only[cM.load,c3],?_⟩;simp only[aEo,aGD,cE,reduceIte];refine aD5 (n:=17) (by decide) (by decide) ?_;refine⟨by simp only[cM.load,c4],by simp only[cM.load,c3],?_⟩;refine aD5 (n:=19) (by decide) (by decide) ?_;refine⟨by simp only[cM.load,c4],by simp only[cM.load,c3],?_⟩;simp only[aEo,aGD,a5,e6,cE,reduceIte];refine iZ cM.und rfl h3 (by simp[hl,zs];omega) (isw _) cM.info cM.size ?_;have es:((mV b i).map wv++zs (48-i)).toArray.setIfInBounds (i+16) (wv (aMz (mV b i) (i+16)))=((mV b (i+1)).map wv++zs (48-(i+1))).toArray:=by
  rw[show 48-i=(48-(i+1))+1 by omega,aSc,aTB (by simp[hl]),mV];simp
 have es':=es;unfold aMz at es';rw[show i+16-15=i+1 by omega,show i+16-2=i+14 by omega,show i+16-16=i by omega,show i+16-7=i+9 by omega] at es';simp only at es';rw[es'];exact hn
theorem aWh{h:PH}{b:List UInt8}(hb:b.length=64){k:cD}(hk:∀h',dB h h'->k (.agg ((aFo b).map wv).toArray) h'):aT PG aJn #[.string (tx b)] h k:=by
 apply aGZ.call;unfold aGZ;rw[z64];intro r1 hr1
 try simp only[cY]
 have u1:dB h (h.set r1 (.cells (zs 64).toArray eV)):=cV.new hr1;have a1:(h.set r1 (.cells (zs 64).toArray eV)) r1=some (.cells (zs 64).toArray eV (0,0)):=dK;generalize h.set r1 (.cells (zs 64).toArray eV)=h1 at *;intro r3 hr3
 try simp only[cY]
 have u3:dB h1 (h1.set r3 (.cells (zs 64).toArray eV)):=cV.new hr3;have a3:(h1.set r3 (.cells (zs 64).toArray eV)) r3=some (.cells (zs 64).toArray eV (0,0)):=dK;have hne:r1≠r3:=λe=>by subst e;rw[a1] at hr3;cases hr3
 have n3:h r3=none:=u1.none hr3;have b1:=u3.get a1;generalize h1.set r3 (.cells (zs 64).toArray eV)=h2 at *;have u:=u1.trans u3;refine⟨λvs h'=>∃i,i≤16∧vs=[.string (tx b),pT r1 0,pT r3 0,.int .i64 ((i:Nat):Int)]∧dB h h'∧h' r1=some (.cells (zs 64).toArray eV (0,0))∧h' r3=some (.cells ((yN b i).map wv++zs (64-i)).toArray eV (0,0)),gP 16 3,⟨0,by omega,rfl,u,b1,by simpa[yN] using a3⟩,?_⟩;rintro ρ h' ⟨i,hi,hvs,u',b1',b3'⟩;simp only[iI,iU,kR,and_true] at hvs;obtain⟨v0,v2,v3,v9⟩:=hvs;simp only[v0,v2,v3,v9,iI,iU];by_cases hl:i<16
 ·refine aVg hb hl b3' ⟨⟨i+1,by omega,rfl,u'.fresh (cV.set (F:=[r3]) (by simp)) (dZ.one n3),by rw[pR hne];exact b1',dK⟩,?_⟩;simp only[gP,sR,qG];omega
 ·have hi':i=16:=by omega
  subst hi';unfold aG9;simp only[show(((16:Nat):Int)<16)=False from eq_false (by decide),cE,reduceIte];refine⟨λvs h'=>∃i,i≤48∧vs=[pT r1 0,pT r3 0,.int .i64 ((i+16:Nat):Int)]∧dB h h'∧h' r1=some (.cells (zs 64).toArray eV (0,0))∧h' r3=some (.cells ((mV b i).map wv++zs (48-i)).toArray eV (0,0)),gP 64 2,⟨0,by omega,rfl,u',b1',b3'⟩,?_⟩;rintro ρ2 h2' ⟨i,hi,hvs,u2,c1,c3⟩;simp only[iI,iU,kR,and_true] at hvs;obtain⟨v2',v3',v6'⟩:=hvs;simp only[v2',v3',v6',iI,iU];by_cases hl:i<48
  ·refine aUH hl c3 ⟨⟨i+1,by omega,rfl,u2.fresh (cV.set (F:=[r3]) (by simp)) (dZ.one n3),by rw[pR hne];exact c1,dK⟩,?_⟩;simp only[gP,sR,qG];omega
  ·have hi':i=48:=by omega
   subst hi';have hw:((mV b 48).map wv++zs (48-48)).toArray=((aFo b).map wv).toArray:=by simp[aFo,zs]
   rw[hw] at c3;have hsz:((aFo b).map wv).toArray.size=64:=by rw[List.size_toArray,iV,aLY]
   have hic:∀v∈((aFo b).map wv).toArray.toList,fO v=true:=λv hv=>by
    rw[List.toList_toArray,lL] at hv;obtain⟨w,-,rfl⟩:=hv;rfl
   generalize ((aFo b).map wv).toArray=cs at *;unfold aF7;have l3:=eV.loadAgg (o:=0) c3 (by omega);rw[Array.extract_eq_self_of_le (by omega)] at l3;simp only[show(((48+16:Nat):Int)<64)=False from eq_false (by decide),l3,cE,reduceIte];refine yF c1 eV.info (by rw[hsz];rfl) (by omega) (by rw[hsz];rfl) hic ?_;have l1:=eV.loadAgg (h:=h2'.set r1 (.cells cs eV (0,0))) (o:=0) dK (by omega);rw[Array.extract_eq_self_of_le (by omega)] at l1;simp only[l1,cE,reduceIte];exact hk _ (u2.fresh (cV.set (F:=[r1]) (by simp)) (dZ.one hr1))
def mQ(h:PH):Prop:=∃t fr,h 0=some (.cells (kT.map wv).toArray t fr)
theorem mQ.ext{h h':PH}(H:mQ h)(u:dB h h'):mQ h':=by
 obtain⟨t,fr,hb⟩:=H;exact⟨t,fr,u.get hb⟩
theorem aUf{h:PH}{b o:Nat}{l:List W}{t:TypeId}{fr:Nat×Nat}(hb:h b=some (.cells (l.map wv).toArray t fr))(ho:o<l.length):dE h ⟨b,o,none⟩=some (wv (l.getD o 0)):=by
 refine aMC (r:=[]) (t:=t) (fr:=fr) ?_ ho;rw[zLP];exact hb
theorem aZ9{h:PH}{r:Nat}{a b c d e f g x:Value}(hb:h r=some (.cells #[a,b,c,d,e,f,g,x] eN (0,0)))(hc:∀v∈[a,b,c,d,e,f,g],fO v=true){k:cD}
  (hk:k (.int .i64 7) (h.set r (.cells #[a,a,b,c,d,e,f,g] eN (0,0)))):
  cZ PG (Builtin.copy_ #[eP,eP] bT #[.slice (some ⟨r,1,none⟩) 7 7,.slice (some ⟨r,0,none⟩) 7 8]) h k:=by
 have S:fQ h 1 (.slice (some ⟨r,0,none⟩) 7 8) [[a],[b],[c],[d],[e],[f],[g]]:=by
  refine⟨λq hq=>by simp at hq;rcases hq with rfl|rfl|rfl|rfl|rfl|rfl|rfl<;>rfl,some ⟨r,0,none⟩,8,rfl,by simp,by unfold rQ;omega,λ_=>⟨r,0,_,_,_,rfl,hb,by simp,by simp⟩,trivial⟩
 have hfirst:=S.first (P:=PG);simp only[Builtin.copy_,zLJ,qG,sR,qS eP.und,kV,mP cM.info,pure_bind,Builtin.lenOf,cM.size];refine iR (s:=Builtin.firstCells 1 7 (.slice (some ⟨r,0,none⟩) 7 8)) (a:=#[a,b,c,d,e,f,g]) hfirst ?_;refine cZ.bind (P:=PG) (s:=storeCells _ _) ?_;refine uV [a,b,c,d,e,f,g] 0 h #[a,b,c,d,e,f,g,x] hb (by simp) hc ?_;have e:(if [a,b,c,d,e,f,g]=[] then h else h.set r (.cells (xZ #[a,b,c,d,e,f,g,x] (1+0) [a,b,c,d,e,f,g]) eN (0,0)))=h.set r (.cells #[a,a,b,c,d,e,f,g] eN (0,0)):=by
  rw[if_neg (by simp)];rfl
 rw[e];exact hk
theorem bAm{r:Nat}:dD PG (Instr.sliceAt eN (pT r 0) (some (.int .i64 1)) none none)=some (.slice (some ⟨r,1,none⟩) 7 7):=by kernel_rfl
theorem bAV{r:Nat}:dD PG (Instr.sliceAt eN (pT r 0) none (some (.int .i64 7)) none)=some (.slice (some ⟨r,0,none⟩) 7 8):=by kernel_rfl
theorem aYG{ws:List W}(hws:ws.length=64){s:S8}{i a r3 r10:Nat}(hi:i<64){h:PH}{R:cD}{n:gI}(hK:mQ h)
  (h3:h r3=some (.cells (ws.map wv).toArray eV (0,0))) (h10:h r10=some (.cells #[wv s.a,wv s.b,wv s.c,wv s.d,wv s.e,wv s.f,wv s.g,wv s.h] eN (0,0)))
  (hn:∀s',s'=rnd s (kT.getD i 0) (ws.getD i 0)->n [pT a 0,pT r3 0,pT r10 0,.int .i64 ((i+1:Nat):Int)] (h.set r10 (.cells #[wv s'.a,wv s'.b,wv s'.c,wv s'.d,wv s'.e,wv s'.f,wv s'.g,wv s'.h] eN (0,0)))):
  aCU R n (pT a 0) (pT r3 0) (pT r10 0) (.int .i64 (i:Int)) h:=by
 obtain⟨kt,fr,hK⟩:=hK;unfold aCU;have e1:((i:Int)<64)=True:=eq_true (by omega);have e4:=pY (i:=i) (by omega);have m:∀j:Nat,j<8->dD PG (indexAt eN (pT r10 0) (.int .i64 j))=some (pT r10 j):=λj hj=>by rw[at8 (by omega) (by omega),pK]
 have m0:dD PG (indexAt eN (pT r10 0) (.int .i64 0))=some (pT r10 0):=m 0 (by decide);have m1:dD PG (indexAt eN (pT r10 0) (.int .i64 1))=some (pT r10 1):=m 1 (by decide);have m2:dD PG (indexAt eN (pT r10 0) (.int .i64 2))=some (pT r10 2):=m 2 (by decide);have m4:dD PG (indexAt eN (pT r10 0) (.int .i64 4))=some (pT r10 4):=m 4 (by decide);have m5:dD PG (indexAt eN (pT r10 0) (.int .i64 5))=some (pT r10 5):=m 5 (by decide);have m6:dD PG (indexAt eN (pT r10 0) (.int .i64 6))=some (pT r10 6):=m 6 (by decide);have m7:dD PG (indexAt eN (pT r10 0) (.int .i64 7))=some (pT r10 7):=m 7 (by decide);have c0:dE h ⟨r10,0,none⟩=some (wv s.a):=by simp[dE,h10]
 have c1:dE h ⟨r10,1,none⟩=some (wv s.b):=by simp[dE,h10]
 have c2:dE h ⟨r10,2,none⟩=some (wv s.c):=by simp[dE,h10]
 have c4:dE h ⟨r10,4,none⟩=some (wv s.e):=by simp[dE,h10]
 have c5:dE h ⟨r10,5,none⟩=some (wv s.f):=by simp[dE,h10]
 have c6:dE h ⟨r10,6,none⟩=some (wv s.g):=by simp[dE,h10]
 have c7:dE h ⟨r10,7,none⟩=some (wv s.h):=by simp[dE,h10]
 have a0:=aMF (b:=0) (j:=(i:Int)) (by omega) (by omega);have a3:=aMF (b:=r3) (j:=(i:Int)) (by omega) (by omega);rw[pK] at a0 a3;have ck:=aUf (o:=i) hK (by rw[aKs];exact hi);have cw:=aUf (o:=i) h3 (by omega);simp only[e1,m0,m1,m2,m4,m5,m6,m7,cM.load,c0,c1,c2,c4,c5,c6,c7,a0,a3,ck,cw,aQa,aEo,aW2,cE,reduceIte];refine aD5 (n:=6) (by decide) (by decide) ?_;simp only[cM.load,c0,c1,c2,c4,c5,c6,c7,ck,cw,true_and];refine aD5 (n:=11) (by decide) (by decide) ?_;simp only[cM.load,c0,c1,c2,c4,c5,c6,c7,ck,cw,true_and,aEo,cE,reduceIte];refine aD5 (n:=25) (by decide) (by decide) ?_;simp only[e1,m0,m1,m2,m4,m5,m6,m7,cM.load,c0,c1,c2,c4,c5,c6,c7,a0,a3,ck,cw,aQa,aEo,aW2,aGD,true_and,cE,reduceIte];refine aD5 (n:=2) (by decide) (by decide) ?_;simp only[cM.load,c0,c1,c2,c4,c5,c6,c7,ck,cw,true_and];refine aD5 (n:=13) (by decide) (by decide) ?_;simp only[cM.load,c0,c1,c2,c4,c5,c6,c7,ck,cw,true_and,aEo,cE,reduceIte];refine aD5 (n:=22) (by decide) (by decide) ?_;simp only[cM.load,c0,c1,c2,c4,c5,c6,c7,ck,cw,true_and,aEo,aGD,bAm,bAV,cE,reduceIte];refine aZ9 h10 (by simp[isw]) ?_;have c4':dE (h.set r10 (.cells #[wv s.a,wv s.a,wv s.b,wv s.c,wv s.d,wv s.e,wv s.f,wv s.g] eN (0,0))) ⟨r10,4,none⟩=some (wv s.d):=by simp[dE,dK]
 simp only[m4,cM.load,c4',aGD,cE,reduceIte];refine iZ cM.und rfl dK (by simp) (isw _) cM.info cM.size ?_;rw[aAj]
 try simp only[m0,aGD,cE,reduceIte]
 refine iZ cM.und rfl dK (by simp) (isw _) cM.info cM.size ?_;rw[aAj]
 try simp only[e4,cE,reduceIte]
 exact hn _ rfl
def S8.some(s t:S8)(n:Nat):S8:=⟨if 0<n then s.a+t.a else s.a,if 1<n then s.b+t.b else s.b,if 2<n then s.c+t.c else s.c,if 3<n then s.d+t.d else s.d,if 4<n then s.e+t.e else s.e,if 5<n then s.f+t.f else s.f,if 6<n then s.g+t.g else s.g,if 7<n then s.h+t.h else s.h⟩
theorem S8.some8(s t:S8):s.some t 8=s.add t:=rfl
theorem aWR(s t:S8){i:Nat}(hi:i<8)(x y:Value):(#[wv (s.some t i).a,wv (s.some t i).b,wv (s.some t i).c,wv (s.some t i).d,wv (s.some t i).e,wv (s.some t i).f,wv (s.some t i).g,wv (s.some t i).h,x,y]:Array Value).setIfInBounds i (wv (s.l.getD i 0+t.l.getD i 0))=
  #[wv (s.some t (i+1)).a,wv (s.some t (i+1)).b,wv (s.some t (i+1)).c,wv (s.some t (i+1)).d,wv (s.some t (i+1)).e,wv (s.some t (i+1)).f,wv (s.some t (i+1)).g,wv (s.some t (i+1)).h,x,y]:=by
 have:i=0∨i=1∨i=2∨i=3∨i=4∨i=5∨i=6∨i=7:=by omega
 rcases this with rfl|rfl|rfl|rfl|rfl|rfl|rfl|rfl<;>rfl
theorem aVw(s t:S8){i:Nat}(hi:i<8)(x y:Value):(#[wv (s.some t i).a,wv (s.some t i).b,wv (s.some t i).c,wv (s.some t i).d,wv (s.some t i).e,wv (s.some t i).f,wv (s.some t i).g,wv (s.some t i).h,x,y]:Array Value)[i]? =Option.some (wv (s.l.getD i 0)):=by
 have:i=0∨i=1∨i=2∨i=3∨i=4∨i=5∨i=6∨i=7:=by omega
 rcases this with rfl|rfl|rfl|rfl|rfl|rfl|rfl|rfl<;>rfl
theorem bAI(t:S8){i:Nat}(hi:i<8):(#[wv t.a,wv t.b,wv t.c,wv t.d,wv t.e,wv t.f,wv t.g,wv t.h]:Array Value)[i]? =Option.some (wv (t.l.getD i 0)):=by
 have:i=0∨i=1∨i=2∨i=3∨i=4∨i=5∨i=6∨i=7:=by omega
 rcases this with rfl|rfl|rfl|rfl|rfl|rfl|rfl|rfl<;>rfl
def jU(s:S8)(x y:Value):Array Value:=#[wv s.a,wv s.b,wv s.c,wv s.d,wv s.e,wv s.f,wv s.g,wv s.h,x,y]
theorem aYU{s v:S8}{i a r10:Nat}{x y:Value}(hi:i<8){h:PH}{R:cD}{n:gI}
  (ha:h a=Option.some (.cells (jU (s.some v i) x y) eW (0,0))) (h10:h r10=Option.some (.cells #[wv v.a,wv v.b,wv v.c,wv v.d,wv v.e,wv v.f,wv v.g,wv v.h] eN (0,0)))
  (hn:n [.pointer (Option.some ⟨a,0,none⟩),.pointer (Option.some ⟨r10,0,none⟩),.int .i64 ((i+1:Nat):Int)] (h.set a (.cells (jU (s.some v (i+1)) x y) eW (0,0)))):
  aCj R n (.pointer (Option.some ⟨a,0,none⟩)) (.pointer (Option.some ⟨r10,0,none⟩)) (.int .i64 (i:Int)) h:=by
 unfold aCj;have e1:((i:Int)<8)=True:=eq_true (by omega);have e4:=pY (i:=i) (by omega);have m1:=at8 (b:=a) (j:=(i:Int)) (by omega) (by omega);have m2:=at8 (b:=r10) (j:=(i:Int)) (by omega) (by omega);rw[pK] at m1 m2;have c1:dE h ⟨a,i,none⟩=Option.some (wv (s.l.getD i 0)):=by
  unfold dE;simp only[ha];exact aVw s v hi x y
 have c2:dE h ⟨r10,i,none⟩=Option.some (wv (v.l.getD i 0)):=by
  unfold dE;simp only[h10];exact bAI v hi
 simp only[e1,hE.f0,m1,m2,cM.load,c1,c2,aGD,cE,reduceIte];refine iZ cM.und rfl ha (by simp[jU];omega) (isw _) cM.info cM.size ?_;have es:=aWR s v hi x y;change (jU (s.some v i) x y).setIfInBounds i _=jU (s.some v (i+1)) x y at es;rw[es]
 try simp only[e4,cE,reduceIte]
 exact hn
theorem aZV{h:PH}{a:Nat}{s:S8}{x y:Value}{b:List UInt8}(hK:mQ h)(hb:b.length=64)(ha:h a=Option.some (.cells (jU s x y) eW (0,0))){k:cD}
  (hk:∀h',cV [a] h h'->h' a=Option.some (.cells (jU (aKY s b) x y) eW (0,0))->k (.tuple #[]) h'):aT PG aGV #[.pointer (Option.some ⟨a,0,none⟩),.string (tx b)] h k:=by
 apply aBT.call;unfold aBT;refine aWh hb λh1 u1=>?_;have hwl:=aLY b;have hmx:aKY s b=s.add (aIa (aFo b) s 64):=rfl;rw[hmx] at hk;clear hmx;generalize aFo b=ws at *;have hsz:(ws.map wv).toArray.size=64:=by rw[List.size_toArray,iV,hwl]
 have hic:∀v∈(ws.map wv).toArray.toList,fO v=true:=λv hv=>by
  rw[List.toList_toArray,lL] at hv;obtain⟨w,-,rfl⟩:=hv;rfl
 rw[z64,z8];intro r3 hr3
 try rw[cY]
 have u3:dB h1 (h1.set r3 (.cells (zs 64).toArray eV)):=cV.new hr3;have n3:h r3=none:=u1.none hr3;have a3:(h1.set r3 (.cells (zs 64).toArray eV)) r3=Option.some (.cells (zs 64).toArray eV (0,0)):=dK;generalize h1.set r3 (.cells (zs 64).toArray eV)=h2 at *;refine yF a3 eV.info (by rw[hsz];rfl) (by omega) (by rw[hsz];rfl) hic ?_;have u4:dB h (h2.set r3 (.cells (ws.map wv).toArray eV (0,0))):=(u1.trans u3).fresh (cV.set (F:=[r3]) (by simp)) (dZ.one n3);have a3':(h2.set r3 (.cells (ws.map wv).toArray eV (0,0))) r3=Option.some (.cells (ws.map wv).toArray eV (0,0)):=dK;generalize h2.set r3 (.cells (ws.map wv).toArray eV (0,0))=h3 at *;have ha3:=u4.get ha;have lA:=eN.loadAgg (o:=0) ha3 (by simp[jU]);have lE:(jU s x y).extract 0 (0+8)= #[wv s.a,wv s.b,wv s.c,wv s.d,wv s.e,wv s.f,wv s.g,wv s.h]:=rfl;rw[lE] at lA;simp only[hE.f0,lA,cE,reduceIte];intro r10 hr10
 try rw[cY]
 have u5:dB h3 (h3.set r10 (.cells (zs 8).toArray eN)):=cV.new hr10;have n10:h r10=none:=u4.none hr10;have a10:(h3.set r10 (.cells (zs 8).toArray eN)) r10=Option.some (.cells (zs 8).toArray eN (0,0)):=dK;generalize h3.set r10 (.cells (zs 8).toArray eN)=h4 at *;refine yF a10 eN.info rfl (by simp) rfl (by simp[isw]) ?_;have u6:dB h (h4.set r10 (.cells #[wv s.a,wv s.b,wv s.c,wv s.d,wv s.e,wv s.f,wv s.g,wv s.h] eN (0,0))):=(u4.trans u5).fresh (cV.set (F:=[r10]) (by simp)) (dZ.one n10);have hne3:r3≠r10:=λe=>by subst e;rw[a3'] at hr10;cases hr10
 have a3'':(h4.set r10 (.cells #[wv s.a,wv s.b,wv s.c,wv s.d,wv s.e,wv s.f,wv s.g,wv s.h] eN (0,0))) r3=Option.some (.cells (ws.map wv).toArray eV (0,0)):=by rw[pR hne3];exact u5.get a3'
 have a10':(h4.set r10 (.cells #[wv s.a,wv s.b,wv s.c,wv s.d,wv s.e,wv s.f,wv s.g,wv s.h] eN (0,0))) r10=Option.some (.cells #[wv s.a,wv s.b,wv s.c,wv s.d,wv s.e,wv s.f,wv s.g,wv s.h] eN (0,0)):=dK;generalize h4.set r10 (.cells #[wv s.a,wv s.b,wv s.c,wv s.d,wv s.e,wv s.f,wv s.g,wv s.h] eN (0,0))=h5 at *;have hne:a≠r10:=λe=>by subst e;rw[ha] at n10;cases n10
 refine⟨λvs h'=>∃i s',i≤64∧s'=aIa ws s i∧vs=[.pointer (Option.some ⟨a,0,none⟩),.pointer (Option.some ⟨r3,0,none⟩),.pointer (Option.some ⟨r10,0,none⟩),.int .i64 ((i:Nat):Int)]∧dB h h'∧h' r3=Option.some (.cells (ws.map wv).toArray eV (0,0))∧h' r10=Option.some (.cells #[wv s'.a,wv s'.b,wv s'.c,wv s'.d,wv s'.e,wv s'.f,wv s'.g,wv s'.h] eN (0,0)),gP 64 3,⟨0,s,by omega,rfl,rfl,u6,a3'',a10'⟩,?_⟩;rintro ρ h' ⟨i,s',hi,hs',hvs,u',b3,b10⟩;simp only[iI,iU,kR,and_true] at hvs;obtain⟨v0,v4,v5,v18⟩:=hvs;simp only[v0,v4,v5,v18,iI,iU];by_cases hl:i<64
 ·refine aYG hwl hl (hK.ext u') b3 b10 λs2 hs2=>⟨⟨i+1,s2,by omega,by rw[hs2,hs',aIa],rfl,u'.fresh (cV.set (F:=[r10]) (by simp)) (dZ.one n10),by rw[pR hne3];exact b3,dK⟩,?_⟩;simp only[gP,sR,qG];omega
 ·have hi':i=64:=by omega
  subst hi';unfold aCU;simp only[show(((64:Nat):Int)<64)=False from eq_false (by decide),cE,reduceIte];have hup:cV [a] h h':=u'.upd;refine⟨λvs h2'=>∃i,i≤8∧vs=[.pointer (Option.some ⟨a,0,none⟩),.pointer (Option.some ⟨r10,0,none⟩),.int .i64 ((i:Nat):Int)]∧cV [a] h h2'∧h2' a=Option.some (.cells (jU (s.some s' i) x y) eW (0,0))∧h2' r10=Option.some (.cells #[wv s'.a,wv s'.b,wv s'.c,wv s'.d,wv s'.e,wv s'.f,wv s'.g,wv s'.h] eN (0,0)),gP 8 2,⟨0,by omega,rfl,hup,u'.get ha,b10⟩,?_⟩;rintro ρ2 h2' ⟨i,hi,hvs,u2,ca,c10⟩;simp only[iI,iU,kR,and_true] at hvs;obtain⟨v0',v5',v92'⟩:=hvs;simp only[v0',v5',v92',iI,iU];by_cases hl:i<8
  ·refine aYU hl ca c10 ⟨⟨i+1,by omega,rfl,u2.trans (cV.set (by simp)),dK,by rw[pR (Ne.symm hne)];exact c10⟩,?_⟩;simp only[gP,sR,qG];omega
  ·have hi':i=8:=by omega
   subst hi';unfold aCj;simp only[show(((8:Nat):Int)<8)=False from eq_false (by decide),cE,reduceIte];refine hk _ u2 ?_;rw[ca,S8.some8,hs']
end
section
open Go
namespace Bld
theorem neqPtrSelf{h:PH}{x y:Operand}(a:Addr):cG PG h (kG .neq dW x y (.pointer (some a)) (.pointer (some a)))=some (.bool false):=by
 show cG PG h (Op.equalIn (9999+1) dW (.pointer (some a)) (.pointer (some a)) >>= λb=>(pure (Value.bool (!b)):Sem Value))=_;rw[jT];have:cG PG h (Op.equalIn (9999+1) dW (.pointer (some a)) (.pointer (some a)))=some true:=by
  rw[Op.equalIn,kF dW.und];simp only[kV];rw[aB3 dH.info];simp[dH.size,sameAddr,cG,pure]
 rw[this];rfl
theorem semE_viewAt{h:PH}{r:Nat}{x:TypeId×Nat}{α:Type}(hs:kC h r=some (some x))(f:Option (Addr×TypeId)->Sem α):cG PG h (viewAt r >>= f)=cG PG h (f none):=by
 rw[jT];have:cG PG h (viewAt r)=some none:=by
  show(kC h r).bind _=_;rw[hs];rfl
 rw[this];rfl
theorem semE_seenAt{h:PH}{a:Addr}{x:TypeId×Nat}{α:Type}(hs:kC h a.block=some (some x))(f:Addr->Sem α):cG PG h (Conv.seenAt a >>= f)=cG PG h (f a):=by
 rw[jT];have:cG PG h (Conv.seenAt a)=some a:=by
  unfold Conv.seenAt;rw[semE_viewAt hs];rfl
 rw[this];rfl
theorem semE_cellsIn{h:PH}{r:Nat}{x:TypeId×Nat}{α:Type}(hs:kC h r=some (some x))(f:Option Nat->Sem α):cG PG h (cellsIn r >>= f)=cG PG h (f (some x.2)):=by
 rw[jT];have:cG PG h (cellsIn r)=some (some x.2):=by
  show(kC h r).bind _=_;rw[hs];rfl
 rw[this];rfl
theorem to_unsafe{h:PH}{a:Nat}{c:Array Value}(ha:h a=some (.cells c dH (0,0)))(hc:0<c.size):cG PG h (convert dW iG (pT a 0))=some (pT a 0):=by
 have hs:kC h a=some (some (dH,c.size)):=by unfold kC;rw[ha]
 show cG PG h (underlying dW >>= _)=_;rw[kF dW.und];show cG PG h (underlying iG >>= _)=_;rw[kF iG.und];show cG PG h (underlying dW >>= _)=_;rw[kF dW.und];show cG PG h (underlying iG >>= _)=_;rw[kF iG.und];show cG PG h (Conv.seenAt ⟨a,0,none⟩ >>= _)=_;rw[semE_seenAt (a:=⟨a,0,none⟩) hs];show cG PG h (cellsIn a >>= _)=_;rw[semE_cellsIn hs];have h1:¬(0 ≥ c.size):=by omega
 simp only[kV];rw[aB3 dH.info];simp[dH.size,h1,cG,pure]
theorem from_unsafe{h:PH}{a:Nat}{c:Array Value}(ha:h a=some (.cells c dH (0,0)))(hc:c.size=2):cG PG h (convert iG dW (pT a 0))=some (pT a 0):=by
 have hs:kC h a=some (some (dH,c.size)):=by unfold kC;rw[ha]
 rw[hc] at hs;show cG PG h (underlying iG >>= _)=_;rw[kF iG.und];show cG PG h (underlying dW >>= _)=_;rw[kF dW.und];show cG PG h (underlying iG >>= _)=_;rw[kF iG.und];show cG PG h (underlying dW >>= _)=_;rw[kF dW.und];show cG PG h (Conv.seenAt ⟨a,0,none⟩ >>= _)=_;rw[semE_seenAt (a:=⟨a,0,none⟩) hs];have hv:cG PG h (variablesAt ⟨a,0,none⟩ dH 1)=some true:=by
  show(kC h a).bind _=_;rw[hs]
  kernel_rfl
 simp only[kV];rw[aB3 dH.info];simp only[dH.size];rw[jT,hv];simp[cG,pure]
theorem NoEscape_ok{h:PH}{v:Value}{k:cD}(hk:k v h):aT PG aAs #[v] h k:=
 aT.entry (v:=v) (by kernel_rfl) hk
structure BAt(h:PH)(a:Nat)(bs:List UInt8)(F:List Nat):Prop where
 here:∃p v G,h a=some (.cells #[p,v] dH (0,0))∧(p= .pointer none∨p=pT a 0)∧eD h dP 1 v (bs.map jL) G∧F=a::G∧a∉G
theorem BAt.known{h:PH}{a:Nat}{bs:List UInt8}{F:List Nat}(H:BAt h a bs F):∀b∈F,h b≠none:=by
 obtain⟨p,v,G,ha,hp,hO,rfl,hn⟩:=H;intro b hb;rcases gE.1 hb with rfl|hb
 ·rw[ha];simp
 ·exact hO.known b hb
theorem BAt.upd{h h':PH}{a:Nat}{bs:List UInt8}{F G:List Nat}(H:BAt h a bs F)(u:cV G h h')(hd:∀b∈F,b∉G):BAt h' a bs F:=by
 obtain⟨p,v,G',ha,hp,hO,rfl,hn⟩:=H;exact⟨p,v,G',u.get ha (hd a (by simp)),hp,hO.upd u (λb hb=>hd b (by simp[hb])),rfl,hn⟩
theorem BAt.ext{h h':PH}{a:Nat}{bs:List UInt8}{F:List Nat}(H:BAt h a bs F)(u:dB h h'):BAt h' a bs F:=H.upd u (by simp)
def BNext(h:PH)(a:Nat)(F:List Nat)(bs:List UInt8)(k:PH->Prop):Prop:=∀h' F',BAt h' a bs F'->cV F h h'->(∀b∈F',b∈F∨h b=none)->k h'
theorem copyCheck_ok{h:PH}{a:Nat}{p v:Value}(ha:h a=some (.cells #[p,v] dH (0,0)))(hp:p= .pointer none∨p=pT a 0){k:cD}
  (hk:∀h',h' a=some (.cells #[pT a 0,v] dH (0,0))->cV [a] h h'->(∀b,b≠a->h' b=h b)->k (.tuple #[]) h'):aT PG mG #[pT a 0] h k:=by
 apply nQ.call;unfold nQ;have hc:dE h ⟨a,0,none⟩=some p:=by simp[dE,ha]
 simp only[dH.f0,dW.load,hc,cE,reduceIte];rcases hp with rfl|rfl
 ·simp only[aIJ dW.und,Option.isNone_none,cE,reduceIte];refine cG.semH (to_unsafe ha (by simp)) ?_;refine NoEscape_ok ?_;refine cG.semH (from_unsafe ha (by simp)) ?_;refine iZ dW.und rfl ha (by simp) rfl dW.info dW.size ?_;exact hk _ dK (cV.set (by simp)) (λb hb=>pR hb)
 ·simp only[aIJ dW.und,Option.isNone_some,neqPtrSelf,dH.f0,dW.load,hc,cE,reduceIte];exact hk _ ha cV.refl (λ_ _=>rfl)
theorem byte_lit(x:Int):jP PG (buildSlice dA 1 #[(0,.int .u8 x)])=some (.cells #[.int .u8 x] dP,λr=>pure (.slice (some ⟨r,0,none⟩) 1 1)):=by kernel_rfl
theorem buf_app{h:PH}{a:Nat}{p v x:Value}{bs ys:List UInt8}{G:List Nat}{t2 e2:TypeId}(hu2:PG.underlying t2=some (.slice e2))(ha:h a=some (.cells #[p,v] dH (0,0)))(hp:p= .pointer none∨p=pT a 0)(hO:eD h dP 1 v (bs.map jL) G)(hn:a∉G)
  (hx:fQ h 1 x (ys.map jL)) (hl:bs.length+ys.length≤140737488355328) {k:PH->Prop} (hk:BNext h a (a::G) (bs++ys) k):
  cZ PG (Builtin.append_ #[dA,t2] dA #[v,x]) h λv' h'=>cZ PG (dM dA (pT a 1) v') h' λ_ h''=>k h'':=by
 refine jG dA.und hu2 dP.info dP.size dP.bytes dP.zero rfl (by decide) hO hx (jL.isCell _) (by simp;omega) ?_;intro v2 h2 F2 hO2 u2 k2 _;rw[←qI] at hO2;have ha2:=u2.get ha hn;have hn2:a∉F2:=λhm=>by
  rcases k2 a hm with h1|h1
  ·exact hn h1
  ·rw[ha] at h1;cases h1
 refine iZ dA.und rfl ha2 (by simp) ?_ dA.info dA.size ?_
 ·obtain⟨_,_,rfl,-⟩:=hO2.slR.here;rfl
 ·refine hk _ (a::F2) ⟨p,v2,F2,dK,hp,hO2.upd (cV.set (F:=[a]) (by simp)) (λb hb=>by simp;rintro rfl;exact hn2 hb),rfl,hn2⟩ ((u2.mono λb hb=>.inl (by simp[hb])).trans (cV.set (by simp))) (λb hb=>?_);rcases gE.1 hb with rfl|hb
  ·exact .inl (by simp)
  ·rcases k2 b hb with h1|h1
   ·exact .inl (by simp[h1])
   ·exact .inr h1
theorem WriteByte_ok{h:PH}{a:Nat}{bs:List UInt8}{F:List Nat}(hW:BAt h a bs F)(hl:bs.length+1≤140737488355328)(x:UInt8){k:cD}(hk:BNext h a F (bs++[x]) (k .nilIface)):
  aT PG mI #[pT a 0,.int .u8 x.toNat] h k:=by
 obtain⟨p,v,G,ha,hp,hO,rfl,hn⟩:=hW;apply nN.call;unfold nN;refine copyCheck_ok ha hp λh1 ha1 u1 o1=>?_;have hc:dE h1 ⟨a,1,none⟩=some v:=by simp[dE,ha1]
 have hO1:=hO.upd u1 (λb hb hf=>by simp at hf;subst hf;exact hn hb);simp only[dH.f1,dA.load,hc,byte_lit,cE,reduceIte];intro r hr;refine fH ?_;have u2:dB h1 (h1.set r (.cells #[.int .u8 x.toNat] dP)):=cV.new hr;have s2:fQ (h1.set r (.cells #[.int .u8 x.toNat] dP)) 1 (.slice (some ⟨r,0,none⟩) 1 1) ([x].map jL):=(eD.lit (jL.rows [x]) dK (by simp) (by decide) (by simp[jL])).slR;refine buf_app dA.und (u2.get ha1) (.inr rfl) (hO1.ext u2) hn s2 (by simpa using hl) ?_;intro h3 F3 hW3 u3 k3;refine hk _ F3 hW3 ((u1.mono λb hb=>.inl (by simp at hb;simp[hb])).trans (u2.upd.trans u3)) λb hb=>?_;rcases k3 b hb with h'|h'
 ·exact .inl h'
 ·by_cases hba:b=a
  ·exact .inl (by simp[hba])
  ·have:=u2.none h';rw[o1 b hba] at this;exact .inr this
theorem buf_str{h:PH}{a:Nat}{p v:Value}{bs ys:List UInt8}{G:List Nat}(ha:h a=some (.cells #[p,v] dH (0,0)))(hp:p= .pointer none∨p=pT a 0)(hO:eD h dP 1 v (bs.map jL) G)(hn:a∉G)
  (hl:bs.length+ys.length≤140737488355328) {k:PH->Prop} (hk:BNext h a (a::G) (bs++ys) k):
  cZ PG (Builtin.append_ #[dA,bR] dA #[v,.string (tx ys)]) h λv' h'=>cZ PG (dM dA (pT a 1) v') h' λ_ h''=>k h'':=by
 refine aOe dA.und bR.und dP.info dP.size dP.bytes dP.zero rfl (by decide) hO (by simp;omega) ?_;intro v2 h2 F2 hO2 u2 k2 _;rw[←qI] at hO2;have ha2:=u2.get ha hn;have hn2:a∉F2:=λhm=>by
  rcases k2 a hm with h1|h1
  ·exact hn h1
  ·rw[ha] at h1;cases h1
 refine iZ dA.und rfl ha2 (by simp) ?_ dA.info dA.size ?_
 ·obtain⟨_,_,rfl,-⟩:=hO2.slR.here;rfl
 ·refine hk _ (a::F2) ⟨p,v2,F2,dK,hp,hO2.upd (cV.set (F:=[a]) (by simp)) (λb hb=>by simp;rintro rfl;exact hn2 hb),rfl,hn2⟩ ((u2.mono λb hb=>.inl (by simp[hb])).trans (cV.set (by simp))) (λb hb=>?_);rcases gE.1 hb with rfl|hb
  ·exact .inl (by simp)
  ·rcases k2 b hb with h1|h1
   ·exact .inl (by simp[h1])
   ·exact .inr h1
theorem WriteString_ok{h:PH}{a:Nat}{bs ys:List UInt8}{F:List Nat}(hW:BAt h a bs F)(hl:bs.length+ys.length≤140737488355328){k:cD}(hk:BNext h a F (bs++ys) (k (.tuple #[.int .i64 ys.length,.nilIface]))):
  aT PG kX #[pT a 0,.string (tx ys)] h k:=by
 obtain⟨p,v,G,ha,hp,hO,rfl,hn⟩:=hW;apply kQ.call;unfold kQ;refine copyCheck_ok ha hp λh1 ha1 u1 o1=>?_;have hc:dE h1 ⟨a,1,none⟩=some v:=by simp[dE,ha1]
 have hO1:=hO.upd u1 (λb hb hf=>by simp at hf;subst hf;exact hn hb);simp only[dH.f1,dA.load,hc,bR.len,hZ,cE,reduceIte];refine buf_str ha1 (.inr rfl) hO1 hn hl ?_;intro h3 F3 hW3 u3 k3;refine hk _ F3 hW3 ((u1.mono λb hb=>.inl (by simp at hb;simp[hb])).trans u3) λb hb=>?_;rcases k3 b hb with h'|h'
 ·exact .inl h'
 ·by_cases hba:b=a
  ·exact .inl (by simp[hba])
  ·rw[o1 b hba] at h';exact .inr h'
theorem semE_loadBytes{h:PH}:∀(l:List UInt8) (a:Addr) (acc:ByteArray),a.spot=none->(∀j x,l[j]? =some x->dE h (a.add j)=some (.int .u8 x.toNat))->cG PG h (loadBytes a acc l.length)=some ⟨acc.data++l.toArray⟩
 | [],a,acc,_,_=>by show some acc=_;simp
 | x::xs,a,acc,hsp,hc=>by
  have h0:=hc 0 x rfl;have ha0:a.add 0=a:=by obtain⟨b,o,w⟩:=a;cases w<;>simp[Addr.add]
  rw[ha0] at h0;show(dE h a).bind _=_;rw[h0,aDi];show cG PG h (loadBytes (a.add 1) (acc.push ((x.toNat:Int).toNat.toUInt8)) xs.length)=_;rw[semE_loadBytes xs (a.add 1) _ (by obtain⟨b,o,w⟩:=a;simp at hsp;subst hsp;rw[mA]) λj y hy=>?_]
  ·congr 1;apply ByteArray.ext;show(acc.push _).data++xs.toArray=_;rw[ByteArray.data_push];apply zLv;simp
  ·have:=hc (j+1) y (by simpa using hy);have e:(a.add 1).add j=a.add (j+1):=by
    obtain⟨b,o,w⟩:=a;simp at hsp;subst hsp;rw[mA,mA,mA];congr 1;omega
   rw[e];exact this
theorem unsafeStr{h:PH}{g:Nat}{cs:Array Value}{bs:List UInt8}(hb:h g=some (.cells cs dP (0,0)))(hle:bs.length≤cs.size)(hcs:cs.toList.take bs.length=bs.map λb=>Value.int .u8 b.toNat)(hne:bs≠[])(hmax:bs.length≤rQ){k:cD}
  (hk:∀h',cV [g] h h'->k (.string (tx bs)) h'):cZ PG (Builtin.unsafeString_ #[oL,bT] bR #[pT g 0,.int .i64 bs.length]) h k:=by
 have hl:bs.length≠0:=by simpa using hne
 have h63:¬((bs.length:Int)>IntKind.i64.max):=by
  have:IntKind.i64.max=9223372036854775807:=rfl;unfold rQ at hmax;omega
 have hneg:¬(bs.length:Int)<0:=by omega
 have hz:¬(bs.length:Int)=0:=by omega
 have hdef:Builtin.unsafeString_ #[oL,bT] bR #[pT g 0,.int .i64 bs.length]=
   (do
    let n ←asInt (.int .i64 bs.length)
    if n<0 then runtimePanic (.error "unsafe.String: len out of range")
    if n>IntKind.i64.max then unsupported (.unsafePointer "String: a length above the largest int")
    if n=0 then pure (.string .empty)
    else if ←variablesAt ⟨g,0,none⟩ (←elemOf oL) n.toNat then do
     let s ←loadBytes ⟨g,0,none⟩ .empty n.toNat
     freeze ⟨g,0,none⟩ n.toNat
     pure (.string s)
    else unsupported (.unsafePointer "String: not so many bytes at ptr")):=rfl
 rw[hdef];have hs:kC h g=some (some (dP,cs.size)):=by unfold kC;rw[hb]
 have hv:cG PG h (variablesAt ⟨g,0,none⟩ dP bs.length)=some true:=by
  show(kC h g).bind _=_;rw[hs];have hc1:PG.cellsOf dP=1:=by kernel_rfl
  have:=Go.Lib.liesAt_bytes (P:=PG) hc1 (cs.size/PG.cellsOf dP) bs.length (by rw[hc1];simpa using hle);show some (liesAt PG PG.depth dP (cs.size/PG.cellsOf dP) 0 dP bs.length)=some true;rw[this]
 have hlb:=semE_loadBytes (h:=h) bs ⟨g,0,none⟩ .empty rfl (λj x hx=>by
  rw[mA];unfold dE;simp only[hb,fC];have hj:j<bs.length:=(zLz.1 hx).1;have:(cs.toList.take bs.length)[j]? =some (.int .u8 x.toNat):=by rw[hcs,wL,hx];rfl
  rw[aIk,if_pos hj] at this;simpa using this)
 have helem:cG PG h (elemOf oL)=some dP:=by kernel_rfl
 simp only[asInt,asIntOf,pure_bind,map_pure,hneg,h63,hz,if_false,pK];refine iR helem ?_;refine iR hv ?_;simp only[if_true];refine iR hlb ?_;show(∃o,h g=some o)∧_;refine⟨⟨_,hb⟩,?_⟩;have hfin:=hk (mY h ⟨g,0,none⟩ bs.length) (λb o hbo hn=>by
  unfold mY;rw[if_neg hl,if_neg (by simpa using hn)];exact hbo)
 show k (.string _) _;have e:(⟨ByteArray.empty.data++bs.toArray⟩:ByteArray)=tx bs:=by apply ByteArray.ext;simp[tx]
 rw[e];exact hfin
theorem unsafeNone{h:PH}{q:Option Addr}:cG PG h (Builtin.unsafeString_ #[oL,bT] bR #[.pointer q,.int .i64 0])=some (.string (tx [])):=by
 cases q<;>rfl
theorem String_ok{h:PH}{a:Nat}{bs:List UInt8}{F:List Nat}(hW:BAt h a bs F){k:cD}(hk:∀h',cV F h h'->k (.string (tx bs)) h'):
  aT PG kM #[pT a 0] h k:=by
 obtain⟨p,v,G,ha,hp,hO,rfl,hn⟩:=hW;have hc:dE h ⟨a,1,none⟩=some v:=by simp[dE,ha]
 have lv:=hO.slR.len (t':=bT) dA.und;rw[iV] at lv;apply kU.call;unfold kU;simp only[dH.f1,dA.load,hc,lv,cE,reduceIte];have hload:∀h',dE h' ⟨a,1,none⟩=some v->cG PG h' (loadAt dA (pT a 1))=some v:=λh' h1=>by rw[dA.load];exact h1
 rcases hO.here with⟨rfl,hr,rfl⟩|⟨g,cap,cs,rfl,rfl,hb,hle,hmax,hsz,htk⟩
 ·have hnil:bs=[]:=by simpa using hr
  subst hnil;refine cG.semH (a:=.pointer none) rfl ?_;refine⟨hc,?_⟩;refine cG.semH unsafeNone ?_;exact hk _ cV.refl
 ·simp only[iV] at *;by_cases hne:bs=[]
  ·subst hne;by_cases hc0:cap=0
   ·subst hc0;have hs:kC h g=some (some (dP,cs.size)):=by unfold kC;rw[hb]
    show cZ PG (viewAt g >>= _) h _;refine iR (a:=none) (by rw[show viewAt g=(viewAt g >>= λx=>pure x) by simp,semE_viewAt hs];rfl) ?_;refine iR (a:=dP) (by kernel_rfl) ?_;intro r hr;have u:dB h (h.set r (.view ⟨g,0,none⟩ dP)):=cV.new hr;refine⟨by rw[dE];simp[u.get ha],?_⟩;refine cG.semH unsafeNone ?_;exact hk _ u.upd
   ·refine cG.semH (a:=pT g 0) ?_ ?_
    ·show cG PG h (if cap≠0 then _ else _)=_;rw[if_pos hc0];rfl
    ·refine⟨hc,?_⟩;refine cG.semH unsafeNone ?_;exact hk _ cV.refl
  ·have hpos:0<bs.length:=aHx.2 hne;refine cG.semH (a:=pT g 0) ?_ ?_
   ·show cG PG h (if cap≠0 then _ else _)=_;rw[if_pos (by omega)];rfl
   ·refine⟨hc,?_⟩;rw[zL7,jL.flat] at htk;refine unsafeStr hb (by omega) htk hne (by omega) λh' u=>?_;exact hk _ (u.mono λb hb=>.inl (by simp at hb;simp[hb]))
end Bld
end
section
open Go
section
variable{P:Program}{t e:TypeId}
theorem aMn{α:Type}{d:TypeInfo}(hi:P.info? t=some d)(f:TypeInfo->Sem α):jP P (typeInfo t >>= f)=jP P (f d):=by
 show jP P ((match P.info? t with|some d=>pure d|none=>stuck _:Sem TypeInfo).bind f)=_;rw[hi];rfl
theorem aQ5{α:Type}{n:Nat}(f:Unit->Sem α):jP P (askRoom n >>= f)=jP P (f ()):=by
 unfold askRoom;split<;>rfl
theorem aTt(z:Array Value)(hz:0<z.size):∀n:Nat,((Array.range (n*z.size)).map (z[· % z.size]!)).toList=(List.replicate n z.toList).flatten:=by
 intro n;have hr:Rows z.size (List.replicate n z.toList):=λr hr=>by rw[List.eq_of_mem_replicate hr];simp
 apply List.ext_getElem?;intro j;have hfl:(List.replicate n z.toList).flatten.length=n*z.size:=by rw[hr.flat,aK5]
 by_cases hj:j<n*z.size
 ·have hi:j/z.size<n:=(Nat.div_lt_iff_lt_mul hz).2 hj;have hat:=hr.at (i:=j/z.size) (r:=z.toList) (by rw[List.getElem?_replicate,if_pos hi]);have hc:j%z.size<z.size:=zLA _ hz;have e1:(List.replicate n z.toList).flatten[j]? =z.toList[j%z.size]?:=by
   conv=>rhs;rw[←hat]
   rw[aIk,if_pos hc,aMW];congr 1;rw[zLR];exact(Nat.div_add_mod j z.size).symm
  rw[e1];simp[hj,hc]
 ·rw[List.getElem?_eq_none (by simp;omega),List.getElem?_eq_none (by omega)]
theorem aE8{i:TypeInfo}{z:Value}{size bytes n:Nat}(hu:P.underlying t=some (.slice e))(hi:P.info? e=some i)(hn:i.size=size)(hb:i.bytes=bytes)(hz:i.zero=some z)(hzs:z.cells.size=size)(h0:0<size)
  (hle:bytes*n≤281474976710656) (hnn:n≤1000000000):
  ∃zs,jP P (Instr.makeSlice t (.int .i64 n) (.int .i64 n))=some (.cells zs e (0,0),λr=>pure (.slice (some ⟨r,0,none⟩) n n))∧zs.toList=(List.replicate n z.cells.toList).flatten:=by
 refine⟨(Array.range (n*z.cells.size)).map (z.cells[· % z.cells.size]!),?_,aTt _ (by omega) n⟩;have hw:IntKind.i64.wrap (n:Int)=n:=IntWalk.i64_in _ ⟨by omega,by omega⟩;unfold Instr.makeSlice;rw[aWI hu];dsimp only;show jP P (typeInfo e >>= _)=_;rw[aMn hi,hb];have hc1:((bytes:Int)*(n:Int)>2^48)=False:=by
  apply eq_false;have:((bytes*n:Nat):Int)≤((281474976710656:Nat):Int):=Int.ofNat_le.2 hle;rw[Int.natCast_mul] at this;have h2:(2:Int)^48=((281474976710656:Nat):Int):=by rfl
  omega
 have hc2:((n:Int)<0)=False:=by apply eq_false;omega
 have hc3:((n:Int)>(n:Int))=False:=by apply eq_false;omega
 simp only[hw,hc1,hc2,hc3,decide_false,Bool.or_self,zLt,if_false,or_self];rw[aQ5,kV,aMn hi,hn];simp only[pK];by_cases hn0:n=0
 ·subst hn0;have hr:∀f:Nat->Value,(Array.range 0).map f= #[]:=λf=>by simp
  simp only[Nat.zero_mul,if_true,hr];rfl
 ·have hne:(n*size=0)=False:=by apply eq_false;intro h;rcases Nat.mul_eq_zero.1 h with h|h<;>omega
  simp only[hne,if_false];have hzv:∀(f:Value->Sem Value),jP P (zeroValue e >>= f)=jP P (f z):=λf=>by
   unfold zeroValue;show jP P ((typeInfo e >>= _) >>= f)=_;simp only[bind_assoc];rw[aMn hi,hz];rfl
  rw[hzv,←hzs];rfl
end
end
section
open Go Bld
theorem aPz{h:PH}{l:List UInt8}:cG PG h (Builtin.firstCells 1 l.length (.string (tx l)))=some (l.map λb=>Value.int .u8 b.toNat).toArray:=by
 show some (((tx l).extract 0 l.length).data.map λb=>Value.int .u8 b.toNat)=_;congr 1;apply zLv;rw[ByteArray.data_extract];simp[tx,zLw]
theorem aV5{h:PH}{r:Nat}{c:Array Value}{l:List UInt8}(hb:h r=some (.cells c dP (0,0)))(hc:c.size=l.length)(hl:l≠[]){k:cD}
  (hk:k (.int .i64 l.length) (h.set r (.cells (l.map λb=>Value.int .u8 b.toNat).toArray dP (0,0)))):
  cZ PG (Builtin.copy_ #[dA,bR] bT #[.slice (some ⟨r,0,none⟩) l.length l.length,.string (tx l)]) h k:=by
 have hmin:Nat.min l.length l.length=l.length:=Nat.min_self _;simp only[Builtin.copy_,zLJ,qG,sR,qS dA.und,kV,mP dP.info,pure_bind,Builtin.lenOf,dP.size,hZ,hmin];refine iR (s:=Builtin.firstCells 1 l.length (.string (tx l))) aPz ?_;refine cZ.bind (P:=PG) (s:=storeCells _ _) ?_;refine uV (b:=r) (o:=0) (l.map λb=>Value.int .u8 b.toNat) 0 h c hb (by simp[hc]) (λv hv=>by obtain⟨b,-,rfl⟩:=lL.1 hv;rfl) ?_;rw[if_neg (by simpa using hl),aOf (by simp[hc])];exact hk
theorem aR7{h:PH}{l:List UInt8}(hl:l.length≤1000000000){k:cD}(hk:∀h',dB h h'->k (.string (tx l)) h'):aT PG aGS #[.string (tx l)] h k:=by
 apply aF8.call;unfold aF8;apply sJ.call;unfold sJ;simp only[bR.len,hZ,iB,cE,reduceIte];by_cases h0:l=[]
 ·subst h0;simp only[zLM,show(((0:Nat):Int)==0)=true from rfl,cE,reduceIte];exact hk _ cV.refl
 ·have hpos:l.length≠0:=by simpa using h0
  have e0:(((l.length:Nat):Int)==0)=false:=by simpa using h0
  obtain⟨zs',hm,hz⟩:=aE8 (P:=PG) (n:=l.length) dA.und dP.info dP.size dP.bytes dP.zero rfl (by decide) (by omega) hl;have hsz:zs'.size=l.length:=by
   rw[←Array.length_toList,hz];simp[Value.cells]
  simp only[e0,hm,cE,reduceIte];intro r hr;refine fH ?_
  try rw[cY]
  have u1:dB h (h.set r (.cells zs' dP (0,0))):=cV.new hr;have a1:(h.set r (.cells zs' dP (0,0))) r=some (.cells zs' dP (0,0)):=dK;generalize h.set r (.cells zs' dP (0,0))=h1 at *;refine aV5 a1 hsz h0 ?_;have u2:dB h (h1.set r (.cells (l.map λb=>Value.int .u8 b.toNat).toArray dP (0,0))):=u1.fresh (cV.set (F:=[r]) (by simp)) (dZ.one hr);have a2:(h1.set r (.cells (l.map λb=>Value.int .u8 b.toNat).toArray dP (0,0))) r=some (.cells (l.map λb=>Value.int .u8 b.toNat).toArray dP (0,0)):=dK;generalize h1.set r (.cells (l.map λb=>Value.int .u8 b.toNat).toArray dP (0,0))=h2 at *;have ea:dD PG (indexAt dA (.slice (some ⟨r,0,none⟩) l.length l.length) (.int .i64 0))=some (pT r 0):=by
   have:=aIq (P:=PG) (t:=dA) (b:=r) (o:=0) (len:=l.length) (cap:=l.length) (k:=.i64) (j:=0) dA.und dP.info dP.size (by decide) (by omega);simpa using this
  simp only[ea,dA.len,cE,reduceIte];refine unsafeStr a2 (by simp) (by rw[List.toList_toArray];exact nU (by simp)) h0 (by unfold rQ;omega) λh' u=>?_;exact hk _ (u2.fresh u (dZ.one hr))
def HAt(h:PH)(a:Nat)(s:S8)(r:List UInt8)(n:Nat):Prop:=h a=some (.cells (jU s (.string (tx r)) (.int .i64 n)) eW (0,0))
def aPU(a:Nat):List Value->PH->Nat:=λ_ h=>match h a with
 | some (Obj.cells c _ _)=>match c[8]? with
  | some (Value.string t)=>t.size
  | _=>0
 | _=>0
theorem HAt.len{h:PH}{a:Nat}{s:S8}{r:List UInt8}{n:Nat}(H:HAt h a s r n){vs:List Value}:aPU a vs h=r.length:=by
 unfold HAt at H;simp[aPU,H,jU,hZ]
theorem mQ.ne{h:PH}(H:mQ h){a:Nat}{s:S8}{x y:Value}{t:TypeId}(ha:h a=some (.cells (jU s x y) t (0,0))):a≠0:=by
 rintro rfl;obtain⟨t,fr,hb⟩:=H;rw[hb] at ha;have:=congrArg Array.size (Obj.cells.inj (aKz ha)).1;rw[List.size_toArray,iV,aKs] at this;simp[jU] at this
theorem mQ.upd{h h':PH}(H:mQ h){F:List Nat}(u:cV F h h')(hF:0∉F):mQ h':=by
 obtain⟨t,fr,hb⟩:=H;exact⟨t,fr,u.get hb hF⟩
theorem bAZ{s:S8}{x y v:Value}:(jU s x y).setIfInBounds 9 v=jU s x v:=rfl
theorem aZO{s:S8}{x y v:Value}:(jU s x y).setIfInBounds 8 v=jU s v y:=rfl
theorem aRB{h:PH}{a:Nat}{s:S8}{r p:List UInt8}{n:Nat}(hK:mQ h)(ha:HAt h a s r n)(hl:r.length+p.length≤1000000000)(hn:n+p.length≤1000000000000){k:cD}
  (hk:∀h',cV [a] h h'->HAt h' a (qQ s (r++p)).1 (qQ s (r++p)).2 (n+p.length)->k (.tuple #[]) h'):aT PG aCX #[pT a 0,.string (tx p)] h k:=by
 apply aAd.call;unfold aAd;have hne:=hK.ne ha;have c9:dE h ⟨a,0+9,none⟩=some (.int .i64 n):=by unfold HAt at ha;simp[dE,ha,jU]
 have e1:IntKind.i64.wrap ((n:Int)+(p.length:Int))=((n+p.length:Nat):Int):=by rw[eX (by omega) (by omega)];omega
 simp only[eW.f2,bT.load,c9,bR.len,hZ,e1,cE,reduceIte];refine iZ bT.und rfl ha (by simp[jU]) rfl bT.info bT.size ?_;rw[show 0+9=9 from rfl,bAZ];have u1:cV [a] h (h.set a (.cells (jU s (.string (tx r)) (.int .i64 ((n+p.length:Nat):Int))) eW (0,0))):=cV.set (by simp);have a1:HAt (h.set a (.cells (jU s (.string (tx r)) (.int .i64 ((n+p.length:Nat):Int))) eW (0,0))) a s r (n+p.length):=dK;generalize h.set a (.cells (jU s (.string (tx r)) (.int .i64 ((n+p.length:Nat):Int))) eW (0,0))=h1 at *;have c8:dE h1 ⟨a,0+8,none⟩=some (.string (tx r)):=by unfold HAt at a1;simp[dE,a1,jU]
 simp only[eW.f1,bR.load,c8,lZ (show r.length+p.length≤9223372036854775807 by omega),cE,reduceIte];refine aR7 (by simpa using hl) λh2 u2=>?_;have a2:HAt h2 a s r (n+p.length):=u2.get a1;refine iZ bR.und rfl a2 (by simp[jU]) rfl bR.info bR.size ?_;rw[show 0+8=8 from rfl,aZO];have u3:cV [a] h (h2.set a (.cells (jU s (.string (tx (r++p))) (.int .i64 ((n+p.length:Nat):Int))) eW (0,0))):=(u1.trans u2.upd).trans (cV.set (by simp));have a3:HAt (h2.set a (.cells (jU s (.string (tx (r++p))) (.int .i64 ((n+p.length:Nat):Int))) eW (0,0))) a s (r++p) (n+p.length):=dK;generalize h2.set a (.cells (jU s (.string (tx (r++p))) (.int .i64 ((n+p.length:Nat):Int))) eW (0,0))=h3 at *;generalize n+p.length=m at *;have hrl:(r++p).length≤1000000000:=by simpa using hl
 generalize hrp:r++p=q at *;refine⟨λvs h'=>∃s' r',vs=[pT a 0]∧r'.length≤1000000000∧qQ s' r'=qQ s q∧cV [a] h h'∧HAt h' a s' r' m,aPU a,⟨s,q,rfl,hrl,rfl,u3,a3⟩,?_⟩;rintro ρ h' ⟨s',r',hvs,hr',hab,u',a'⟩;simp only[iI,iU,kR,and_true] at hvs;have hlen:=a'.len (vs:=[ρ 0]);simp only[hvs,iI,iU] at hlen ⊢;unfold aIG;have c8:dE h' ⟨a,0+8,none⟩=some (.string (tx r')):=by unfold HAt at a';simp[dE,a',jU]
 simp only[eW.f1,bR.load,c8,bR.len,hZ,cE,reduceIte];by_cases h64:64≤r'.length
 ·have e2:((64:Int)≤(r'.length:Int))=True:=eq_true (by omega);have ec:dD PG (Instr.sliceAt bR (.string (tx r')) none (some (.int .i64 64)) none)=some (.string (tx (r'.take 64))):=aII (i:=0) (j:=64) bR.und (.inl ⟨rfl,rfl⟩) (.inr ⟨_,rfl⟩) (by omega) h64;have ed:dD PG (Instr.sliceAt bR (.string (tx r')) (some (.int .i64 64)) none none)=some (.string (tx (r'.drop 64))):=by
   have:=aII (P:=PG) (t:=bR) (l:=r') (i:=64) (j:=r'.length) (lo:=some (.int .i64 64)) bR.und (.inr ⟨_,rfl⟩) (.inl ⟨rfl,rfl⟩) h64 (pC _);rw[zLI] at this;exact this
  simp only[e2,eW.f0,ec,cE,reduceIte];refine aZV (hK.upd u' (by simpa using λh=>hne h.symm)) (by simp;omega) a' λh4 u4 a4=>?_;have c8':dE h4 ⟨a,0+8,none⟩=some (.string (tx r')):=by simp[dE,a4,jU]
  simp only[eW.f1,bR.load,c8',ed,cE,reduceIte];refine iZ bR.und rfl a4 (by simp[jU]) rfl bR.info bR.size ?_;rw[show 0+8=8 from rfl,aZO];have a5:HAt (h4.set a (.cells (jU (aKY s' (r'.take 64)) (.string (tx (r'.drop 64))) (.int .i64 (m:Int))) eW (0,0))) a (aKY s' (r'.take 64)) (r'.drop 64) m:=dK;refine⟨⟨_,_,(by trivial),(by simp;omega),by rw[←aIc h64];exact hab,(u'.trans u4).trans (cV.set (by simp)),a5⟩,?_⟩;rw[a5.len,hlen];simp;omega
 ·have e2:((64:Int)≤(r'.length:Int))=False:=eq_false (by omega);simp only[e2,cE,reduceIte];refine hk _ u' ?_;rw[←hab,aIL (by omega)];exact a'
theorem aNS:∀(n t:Nat) (acc:Array Value),(Extern.BytealgMakeNoZero.digits n t acc).size=acc.size+n
 | 0,_,acc=>rfl
 | n+1,t,acc=>by
  show(Extern.BytealgMakeNoZero.digits n (t/256) (acc.push _)).size=_;rw[aNS n];simp;omega
theorem aSC{n:Int}{h:PH}{Q:Next->PH->Prop}:cZ PG (callFunc uS #[.int .i64 n]) h Q=cZ PG (Extern.BytealgMakeNoZero.makeNoZero #[] #[dA] #[.int .i64 n] >>= λv=>pure (Next.value v)) h Q:=by kernel_rfl
theorem aQW{h:PH}{n:Nat}(hn:n≤140737488355328){k:cD}
  (hk:∀r cap (cs:Array Value),n≤cap->cap≤rQ->cs.size=cap->h r=none->k (.slice (some ⟨r,0,none⟩) n cap) (h.set r (.cells cs dP (0,0)))):aT PG uS #[.int .i64 n] h k:=by
 refine .inr ?_;rw[aSC];refine cZ.bind (P:=PG) (s:=Extern.BytealgMakeNoZero.makeNoZero #[] #[dA] #[.int .i64 n]) ?_;have h1:((decide ((n:Int)<0)||decide ((n:Int)>2^48))=true)=False:=by
  apply eq_false;have:¬((n:Int)>2^48):=by
   have h2:(2:Int)^48=281474976710656:=by rfl
   omega
  have h3:¬((n:Int)<0):=by omega
  simp[h3];omega
 show cZ PG (underlying dA >>= _) h _;rw[qS dA.und];dsimp only;simp only[h1,if_false,pure_bind,pK];rw[aAX];intro tt;rw[aGz,aAX];intro bb;have hforced:(Question.appendCap n 0 5).forced=false:=rfl;rw[hforced];have hcut:n≤(Question.appendCap n 0 5).cut tt∧(Question.appendCap n 0 5).cut tt≤rQ:=by
  have hpos:0<2^63-n:=by omega
  have:=zLA tt hpos;simp only[Question.cut,rQ];omega
 generalize (if (Question.extern "internal/bytealg.MakeNoZero.bytes" 0).forced=true then 0 else(Question.extern "internal/bytealg.MakeNoZero.bytes" 0).cut bb)=B;show cZ PG (newRow 5 _ >>= _) h _;intro r hr;exact⟨_,rfl,hk r _ _ hcut.1 hcut.2 (by rw[aNS];exact fC _) hr⟩
theorem zB:dN PG dH= #[.pointer none,.slice none 0 0]:=by rw[dH.zc];rfl
theorem BAt.zero{h:PH}{a:Nat}(ha:h a=some (.cells #[.pointer none,.slice none 0 0] dH (0,0))):BAt h a [] [a]:=⟨_,_,[],ha,.inl rfl,eD.nil,rfl,by simp⟩
theorem aSi:dD PG (Builtin.cap_ #[dA] bT #[.slice none 0 0])=some (.int .i64 0):=by kernel_rfl
theorem aZt{r cap:Nat}{n:Nat}:dD PG (Instr.sliceAt dA (.slice (some ⟨r,0,none⟩) n cap) none (some (.int .i64 ((0:Nat):Int))) none)=some (.slice (some ⟨r,0,none⟩) 0 cap):=by
 have:=aOt (P:=PG) (t:=dA) (a:=some ⟨r,0,none⟩) (len:=n) (cap:=cap) (l:=0) (hh:=0) (lo:=none) (hi:=some (.int .i64 ((0:Nat):Int))) dA.und dP.info (.inl ⟨rfl,rfl⟩) (.inr ⟨_,rfl⟩) (by omega) (by omega);rw[this];by_cases hc:cap=0
 ·subst hc;simp
 ·rw[if_neg hc];simp[mA]
structure FB(h:PH)(a g cap:Nat)(bs:List UInt8):Prop where
 here:∃(cs:Array Value) (f:Nat),h a=some (.cells #[pT a 0,.slice (some ⟨g,0,none⟩) bs.length cap] dH (0,0))∧h g=some (.cells cs dP (0,f))∧f≤bs.length∧bs.length≤cap∧cs.size=cap∧cs.toList.take bs.length=(bs.map λb=>Value.int .u8 b.toNat)∧g≠a∧cap≤rQ
def aO2(r n:Nat):List Value->PH->Nat:=λ_ h=>match h r with
 | some (Obj.cells c _ _)=>match c[1]? with
  | some (Value.slice _ m _)=>n-m
  | _=>0
 | _=>0
theorem FB.mu{h:PH}{a g cap:Nat}{bs:List UInt8}(H:FB h a g cap bs){n:Nat}{vs:List Value}:aO2 a n vs h=n-bs.length:=by
 obtain⟨cs,f,ha,-⟩:=H;simp[aO2,ha]
theorem aXt{h:PH}{a n:Nat}(ha:h a=some (.cells #[.pointer none,.slice none 0 0] dH (0,0)))(hn:0<n)(hn2:n≤1000000){k:cD}
  (hk:∀h' g cap,FB h' a g cap []->n≤cap->cV [a] h h'->h g=none->k (.tuple #[]) h'):aT PG aBP #[pT a 0,.int .i64 n] h k:=by
 apply rE.call;unfold rE;refine copyCheck_ok ha (.inl rfl) λh1 a1 u1 o1=>?_;have e1:((n:Int)<0)=False:=eq_false (by omega);have c1:dE h1 ⟨a,0+1,none⟩=some (.slice none 0 0):=by simp[dE,a1]
 have e2:IntKind.i64.wrap ((0:Int)-((0:Nat):Int))=0:=by rw[eX (by omega) (by omega)];omega
 have e3:((0:Int)<(n:Int))=True:=eq_true (by omega);simp only[e1,cE,reduceIte];unfold aFY;simp only[dH.f1,dA.load,c1,aSi,dA.len,e2,e3,cE,reduceIte];apply rF.call;unfold rF;have e4:IntKind.i64.wrap (2*(0:Int))=0:=by rw[eX (by omega) (by omega)];omega
 have e5:IntKind.i64.wrap ((0:Int)+(n:Int))=(n:Int):=by rw[eX (by omega) (by omega)];omega
 simp only[dH.f1,dA.load,c1,aSi,dA.len,e4,e5,cE,reduceIte];refine aQW (by omega) λr cap cs h2 h3 hsz hr=>?_;have u2:dB h1 (h1.set r (.cells cs dP (0,0))):=cV.new hr;have b2:(h1.set r (.cells cs dP (0,0))) r=some (.cells cs dP (0,0)):=dK;generalize h1.set r (.cells cs dP (0,0))=h2' at *;have a2:=u2.get a1;have c1':dE h2' ⟨a,0+1,none⟩=some (.slice none 0 0):=by simp[dE,a2]
 have hne:r≠a:=λe=>by subst e;rw[a1] at hr;cases hr
 refine⟨c1',?_⟩;simp only[dH.f1,dA.load,c1',aZt,cE,reduceIte];have hcp:cG PG h2' (Builtin.copy_ #[dA,dA] bT #[.slice (some ⟨r,0,none⟩) 0 cap,.slice none 0 0])=some (.int .i64 0):=by kernel_rfl
 refine cG.semH hcp ?_;refine iZ dA.und rfl a2 (by simp) rfl dA.info dA.size ?_;refine hk _ r cap ⟨cs,0,dK,by rw[pR hne];exact b2,by simp,by simp,by omega,by simp,hne,h3⟩ h2 ((u1.trans u2.upd).trans (cV.set (by simp))) ?_;rw[←o1 r hne];exact hr
theorem aVc:dD PG (binOp .and cA (.int .u64 0) (.int .u64 4294967295))=some (.int .u64 0):=by kernel_rfl
theorem aYP:dD PG (binOp .and cA (.int .u64 1) (.int .u64 4294967295))=some (.int .u64 1):=by kernel_rfl
theorem aZ4:∀n:Fin 64,(BitVec.ofInt 64 (n.val:Int) &&& BitVec.ofInt 64 4294967295).toNat=n.val:=by decide
theorem aYi{n:Nat}(hn:n<64):dD PG (binOp .and cA (.int .u64 (n:Int)) (.int .u64 4294967295))=some (.int .u64 (n:Int)):=by
 have e:dD PG (binOp .and cA (.int .u64 (n:Int)) (.int .u64 4294967295))=some (.int .u64 (IntKind.u64.wrap ((BitVec.ofInt 64 (n:Int) &&& BitVec.ofInt 64 4294967295).toNat:Int))):=rfl;have:=aZ4 ⟨n,hn⟩;simp only at this;rw[e,this,gL (by omega) (by omega)]
theorem aT1{n:Nat}(hn:n<64):dD PG (binOp .shr cA (.int .u64 (n:Int)) (.int .u64 32))=some (.int .u64 0):=by
 rw[aJb (by decide)];congr 2;show(n:Int).fdiv (2^32)=0;rw[Int.fdiv_eq_ediv_of_nonneg _ (by decide)];have:(2:Int)^32=4294967296:=by rfl
 omega
theorem aZc:dD PG (binOp .shr cA (.int .u64 0) (.int .u64 32))=some (.int .u64 0):=aT1 (n:=0) (by decide)
theorem aZk:dD PG (binOp .shr cA (.int .u64 1) (.int .u64 32))=some (.int .u64 0):=aT1 (n:=1) (by decide)
theorem aYw{h:PH}{n:Nat}(hn:n<64){k:cD}(hk:k (.tuple #[.int .u64 0,.int .u64 n]) h):aT PG aGM #[.int .u64 1,.int .u64 n] h k:=by
 apply aGG.call;unfold aGG;simp only[cE,reduceIte];apply aEl.call;unfold aEl;have w0:IntKind.u64.wrap 0=0:=rfl;have wn:IntKind.u64.wrap (n:Int)=n:=gL (by omega) (by omega);simp only[aYP,aZk,aYi hn,aT1 hn,Int.one_mul,Int.zero_mul,Int.mul_zero,wn,w0,Int.add_zero,aVc,aZc,cE,reduceIte];exact hk
theorem aJU{b o f:Nat}{e:TypeId}{Q:Unit->PH->Prop}:∀(vs:List Value) (i:Nat) (h:PH) (c:Array Value),h b=some (.cells c e (0,f))->f≤o+i->o+i+vs.length≤c.size->(∀v∈vs,fO v=true)->
  Q () (if vs=[] then h else h.set b (.cells (xZ c (o+i) vs) e (0,f)))->cZ PG (storeCells ⟨b,o,none⟩ vs i) h Q
 | [],i,h,c,_,_,_,_,hq=>by
  show Q () h;simpa using hq
 | v::vs,i,h,c,hb,hf,hle,hv,hq=>by
  simp only[tM] at hle;have hlt:o+i<c.size:=by omega
  have ha:(⟨b,o,none⟩:Addr).add i=⟨b,o+i,none⟩:=mA ..;show fO v=true∧vG h ((⟨b,o,none⟩:Addr).add i)=false∧(∃u,dE h ((⟨b,o,none⟩:Addr).add i)=some u)∧cZ PG (storeCells ⟨b,o,none⟩ vs (i+1)) (sT h ((⟨b,o,none⟩:Addr).add i) v) Q;rw[ha];refine⟨hv v (by simp),by simp[vG,hb];omega,⟨c[o+i],by simp[dE,hb,hlt]⟩,?_⟩;have hset:sT h ⟨b,o+i,none⟩ v=h.set b (.cells (c.setIfInBounds (o+i) v) e (0,f)):=by
   funext x;unfold sT PH.set;by_cases hx:x=b
   ·subst hx;simp[hb]
   ·simp[hx]
  rw[hset];refine aJU vs (i+1) _ _ dK (by omega) (by simp;omega) (λu hu=>hv u (by simp[hu])) ?_;have h2:∀o1 o2:Obj,(h.set b o1).set b o2=h.set b o2:=λo1 o2=>by funext x;unfold PH.set;split<;>rfl
  simp only[List.cons_ne_nil,if_false] at hq;split
  ·rename_i hvs;subst hvs;simpa[xZ] using hq
  ·rw[h2];simpa[xZ,Nat.add_assoc] using hq
theorem aTs{h:PH}{g:Nat}{cs:Array Value}{fr:Nat×Nat}{bs:List UInt8}(hb:h g=some (.cells cs dP fr))(hle:bs.length≤cs.size)(hcs:cs.toList.take bs.length=bs.map λb=>Value.int .u8 b.toNat)(hne:bs≠[])(hmax:bs.length≤rQ){k:cD}
  (hk:k (.string (tx bs)) (mY h ⟨g,0,none⟩ bs.length)):cZ PG (Builtin.unsafeString_ #[oL,bT] bR #[pT g 0,.int .i64 bs.length]) h k:=by
 have hl:bs.length≠0:=by simpa using hne
 have h63:¬((bs.length:Int)>IntKind.i64.max):=by
  have:IntKind.i64.max=9223372036854775807:=rfl;unfold rQ at hmax;omega
 have hneg:¬(bs.length:Int)<0:=by omega
 have hz:¬(bs.length:Int)=0:=by omega
 have hdef:Builtin.unsafeString_ #[oL,bT] bR #[pT g 0,.int .i64 bs.length]=
   (do
    let n ←asInt (.int .i64 bs.length)
    if n<0 then runtimePanic (.error "unsafe.String: len out of range")
    if n>IntKind.i64.max then unsupported (.unsafePointer "String: a length above the largest int")
    if n=0 then pure (.string .empty)
    else if ←variablesAt ⟨g,0,none⟩ (←elemOf oL) n.toNat then do
     let s ←loadBytes ⟨g,0,none⟩ .empty n.toNat
     freeze ⟨g,0,none⟩ n.toNat
     pure (.string s)
    else unsupported (.unsafePointer "String: not so many bytes at ptr")):=rfl
 rw[hdef];have hs:kC h g=some (some (dP,cs.size)):=by unfold kC;rw[hb]
 have hv:cG PG h (variablesAt ⟨g,0,none⟩ dP bs.length)=some true:=by
  show(kC h g).bind _=_;rw[hs];have hc1:PG.cellsOf dP=1:=by kernel_rfl
  have:=Go.Lib.liesAt_bytes (P:=PG) hc1 (cs.size/PG.cellsOf dP) bs.length (by rw[hc1];simpa using hle);show some (liesAt PG PG.depth dP (cs.size/PG.cellsOf dP) 0 dP bs.length)=some true;rw[this]
 have hlb:=semE_loadBytes (h:=h) bs ⟨g,0,none⟩ .empty rfl (λj x hx=>by
  rw[mA];unfold dE;simp only[hb,fC];have hj:j<bs.length:=(zLz.1 hx).1;have:(cs.toList.take bs.length)[j]? =some (.int .u8 x.toNat):=by rw[hcs,wL,hx];rfl
  rw[aIk,if_pos hj] at this;simpa using this)
 have helem:cG PG h (elemOf oL)=some dP:=by kernel_rfl
 simp only[asInt,asIntOf,pure_bind,map_pure,hneg,h63,hz,if_false,pK];refine iR helem ?_;refine iR hv ?_;simp only[if_true];refine iR hlb ?_;show(∃o,h g=some o)∧_;refine⟨⟨_,hb⟩,?_⟩;show k (.string _) _;have e:(⟨ByteArray.empty.data++bs.toArray⟩:ByteArray)=tx bs:=by apply ByteArray.ext;simp[tx]
 rw[e];exact hk
theorem FB.len{h:PH}{a g cap:Nat}{bs:List UInt8}(H:FB h a g cap bs){k:cD}(hk:k (.int .i64 bs.length) h):aT PG sC #[pT a 0] h k:=by
 obtain⟨cs,f,ha,-⟩:=H;apply aA9.call;unfold aA9;have c1:dE h ⟨a,0+1,none⟩=some (.slice (some ⟨g,0,none⟩) bs.length cap):=by simp[dE,ha]
 simp only[dH.f1,dA.load,c1,dA.len,cE,reduceIte];exact hk
theorem FB.string{h:PH}{a g cap:Nat}{bs:List UInt8}(H:FB h a g cap bs)(hne:bs≠[]){k:cD}(hk:∀h',FB h' a g cap bs->cV [g] h h'->k (.string (tx bs)) h'):aT PG kM #[pT a 0] h k:=by
 obtain⟨cs,f,ha,hg,hf,hc,hsz,htk,hga,hmx⟩:=H;have hpos:bs.length≠0:=by simpa using hne
 apply kU.call;unfold kU;have c1:dE h ⟨a,0+1,none⟩=some (.slice (some ⟨g,0,none⟩) bs.length cap):=by simp[dE,ha]
 simp only[dH.f1,dA.load,c1,dA.len,cE,reduceIte];refine cG.semH (a:=pT g 0) ?_ ?_
 ·show cG PG h (if cap≠0 then _ else _)=_;rw[if_pos (by omega)];rfl
 ·refine⟨c1,?_⟩;refine aTs hg (by omega) htk hne (by omega) ?_;have hg':mY h ⟨g,0,none⟩ bs.length g=some (.cells cs dP (0,bs.length)):=by
   unfold mY;rw[if_neg hpos,if_pos rfl];simp only[hg];by_cases h0:f=0
   ·subst h0;simp
   ·have:((0==f)=true)=False:=by simp;omega
    simp only[this,if_false];congr 3
    ·exact Nat.max_eq_right (by omega) |>.trans (fC _)
  have hoth:∀b,b≠g->mY h ⟨g,0,none⟩ bs.length b=h b:=λb hb=>by
   unfold mY;rw[if_neg hpos,if_neg hb]
  exact hk _ ⟨cs,bs.length,by rw[hoth a hga.symm];exact ha,hg',pC _,hc,hsz,htk,hga,hmx⟩ (λb o hb hn=>by rw[hoth b (by simpa using hn)];exact hb)
theorem FB.write{h:PH}{a g cap:Nat}{bs ys:List UInt8}(H:FB h a g cap bs)(hle:bs.length+ys.length≤cap)(hcap:bs.length+ys.length≤1000000){k:cD}(hk:∀v h',FB h' a g cap (bs++ys)->cV [a,g] h h'->k v h'):
  aT PG kX #[pT a 0,.string (tx ys)] h k:=by
 obtain⟨cs,f,ha,hg,hf,hc,hsz,htk,hga,hmx⟩:=H;apply kQ.call;unfold kQ;refine copyCheck_ok ha (.inr rfl) λh1 a1 u1 o1=>?_;have g1:h1 g=some (.cells cs dP (0,f)):=by rw[o1 g hga];exact hg
 have c1:dE h1 ⟨a,0+1,none⟩=some (.slice (some ⟨g,0,none⟩) bs.length cap):=by simp[dE,a1]
 simp only[dH.f1,dA.load,c1,bR.len,hZ,cE,reduceIte]
 -- the append
 simp only[Builtin.append_,zLJ,qG,sR,qS dA.und,qS bR.und,kV,mP dP.info,pure_bind,zLt,if_false,Builtin.lenOf,zLq,if_true,dP.size,hZ];rw[if_pos hle];refine iR (aPz (l:=ys)) ?_;have hadd:(⟨g,0,none⟩:Addr).add (bs.length*1)=⟨g,bs.length,none⟩:=by rw[mA];simp
 show cZ PG (storeCells ((⟨g,0,none⟩:Addr).add (bs.length*1)) (ys.map λb=>Value.int .u8 b.toNat).toArray.toList >>= λ_=>pure _) h1 _;rw[hadd];refine cZ.bind (P:=PG) (s:=storeCells _ _) ?_;refine aJU (b:=g) (o:=bs.length) (f:=f) (ys.map λb=>Value.int .u8 b.toNat) 0 h1 cs g1 (by omega) (by simp;omega) (λv hv=>by obtain⟨b,-,rfl⟩:=lL.1 hv;rfl) ?_;have key:∀h2:PH,(∃cs',h2 g=some (.cells cs' dP (0,f))∧cs'.size=cap∧cs'.toList.take (bs.length+ys.length)=((bs++ys).map λb=>Value.int .u8 b.toNat))->h2 a=h1 a->cV [g] h1 h2->
   cZ PG (dM dA (pT a (0+1)) (.slice (some ⟨g,0,none⟩) (bs.length+ys.length) cap)) h2 λ_ h3=>k (.tuple #[.int .i64 ys.length,.nilIface]) h3:=by
  intro h2 ⟨cs',hg2,hs2,ht2⟩ ha2 u2;refine iZ dA.und rfl (by rw[ha2];exact a1) (by simp) rfl dA.info dA.size ?_;refine hk _ _ ⟨cs',f,?_,by rw[pR hga];exact hg2,by simp;omega,by simpa using hle,hs2,by simpa using ht2,hga,hmx⟩ (((u1.mono λb hb=>.inl (by simp at hb;simp[hb])).trans (u2.mono λb hb=>.inl (by simp at hb;simp[hb]))).trans (cV.set (by simp)));rw[dK];simp
 by_cases hy:ys=[]
 ·subst hy;rw[if_pos (show(List.map (λb=>Value.int .u8 (b.toNat:Int)) ([]:List UInt8))=[] from rfl)];exact key h1 ⟨cs,g1,hsz,by simpa using htk⟩ rfl cV.refl
 ·rw[if_neg (by simpa using hy)];refine key _ ⟨_,dK,by rw[aFv];exact hsz,?_⟩ (pR hga.symm) (cV.set (by simp));rw[Nat.add_zero,aCI _ _ _ (by simp;omega),htk];rw[zLG (by simp),nU (by simp),qI]
theorem aPT{n m:Nat}(h:m≤n):(List.replicate n (0:UInt8)).take m=List.replicate m 0:=by rw[List.take_replicate,aKV h]
theorem bAP{ts:Array TypeId}{t:TypeId}{k:IntKind}{x y z:Int}:dD PG (Builtin.min_ ts t #[.int k x,.int k y,.int k z])=some (.int k (if z<(if y<x then y else x) then z else(if y<x then y else x))):=(rfl)
theorem aSB(x:Int):dD PG (convert nS bT (.int .u64 x))=some (.int .i64 (IntKind.i64.wrap x)):=by kernel_rfl
theorem aUB{h:PH}{n:Nat}(hn:n<64){k:cD}(hk:∀h',dB h h'->k (.string (tx (List.replicate n 0))) h'):aT PG aFf #[.string (tx [0]),.int .i64 n] h k:=by
 apply aFL.call;unfold aFL;simp only[iB,cE,reduceIte];by_cases h0:n=0
 ·subst h0;simp only[show(((0:Nat):Int)==0)=true from rfl,cE,reduceIte];exact hk _ cV.refl
 ·have e0:((n:Int)==0)=false:=by simpa using h0
  simp only[e0,cE,reduceIte];by_cases h1:n=1
  ·subst h1;simp only[show(((1:Nat):Int)==1)=true from rfl,cE,reduceIte];exact hk _ cV.refl
  ·have e1:((n:Int)==1)=false:=by simp;omega
   have e2:((n:Int)<0)=False:=eq_false (by omega);simp only[e1,e2,cE,reduceIte];unfold aIv;have w1:IntKind.u64.wrap (([0]:List UInt8).length:Int)=1:=rfl;have wn:IntKind.u64.wrap (n:Int)=n:=gL (by omega) (by omega);simp only[bR.len,hZ,aKW,w1,wn,cE,reduceIte];refine aYw hn ?_;have e3:((9223372036854775807:Int)<(n:Int))=False:=eq_false (by omega);simp only[aMm,aLw,show((0:Int)<0)=False from eq_false (by decide),e3,cE,reduceIte];unfold aIb;have wi:IntKind.i64.wrap (n:Int)=n:=eX (by omega) (by omega);have i0:dD PG (Instr.index bR (.string (tx [0])) (.int .i64 0))=some (.int .u8 ((0:UInt8).toNat:Int)):=zY (j:=0) bR.und rfl;have z0:(((0:UInt8).toNat:Int))=0:=rfl;have w2:(([0]:List UInt8).length:Int)=1:=rfl;have hz:((1:Int)==0)=false:=rfl;have d1:((0:Int)==32)=false:=rfl;have d2:((0:Int)==45)=false:=rfl;have d3:((0:Int)==48)=false:=rfl;have d4:((0:Int)==61)=false:=rfl;have d5:((0:Int)==9)=false:=rfl;simp only[bR.len,hZ,aSB,wi,i0,z0,w2,hz,d1,d2,d3,d4,d5,cE,reduceIte];unfold tY;simp only[cE,reduceIte];unfold aEw aIE;have e4:((8192:Int)<(n:Int))=False:=eq_false (by omega);simp only[e4,cE,reduceIte];unfold aB7;rw[zB];intro r hr
   try rw[cY]
   have u1:dB h (h.set r (.cells #[.pointer none,.slice none 0 0] dH)):=cV.new hr;have a1:(h.set r (.cells #[.pointer none,.slice none 0 0] dH)) r=some (.cells #[.pointer none,.slice none 0 0] dH (0,0)):=dK;generalize h.set r (.cells #[.pointer none,.slice none 0 0] dH)=h1 at *;refine aXt a1 (n:=n) (by omega) (by omega) λh2 g cap hF hcap u2 hg=>?_;have ug:cV [r,g] h h2:=(u1.upd.trans (u2.mono λb hb=>.inl (by simp at hb;simp[hb])));have hgn:h g=none:=u1.none hg;have fin:∀h',cV [r,g] h h'->dB h h':=λh' u b o hb _=>u b o hb (by
    simp only[gE,kD,or_false,not_or];exact⟨(λe=>by rw[e,hr] at hb;cases hb),(λe=>by rw[e,hgn] at hb;cases hb)⟩)
   refine FB.write hF (ys:=[0]) (by simpa using by omega) (by simp) λv h3 hF3 u3=>?_;refine⟨λvs h'=>∃m,1≤m∧m≤n∧vs=[.int .i64 n,.int .i64 n,pT r 0]∧cV [r,g] h h'∧FB h' r g cap (List.replicate m 0),aO2 r n,⟨1,by omega,by omega,rfl,ug.trans u3,hF3⟩,?_⟩;rintro ρ h' ⟨m,hm1,hm2,hvs,u',F'⟩;simp only[iI,iU,kR,and_true] at hvs;obtain⟨v7,v8,v9⟩:=hvs;have hr':=F'.mu (n:=n) (vs:=[ρ 7,ρ 8,ρ 9]);simp only[v7,v8,v9,iI,iU,aK5] at hr' ⊢;unfold aHa;refine F'.len ?_;simp only[aK5,cE,reduceIte];by_cases hmn:m<n
   ·have f1:((m:Int)<(n:Int))=True:=eq_true (by omega);simp only[f1,cE,reduceIte];refine F'.len ?_;have f2:IntKind.i64.wrap ((n:Int)-(m:Int))=((n-m:Nat):Int):=by rw[eX (by omega) (by omega)];omega
    simp only[aK5,f2,cE,reduceIte];refine F'.len ?_;have f3:(if (n:Int)<(if (m:Int)<((n-m:Nat):Int) then(m:Int) else((n-m:Nat):Int)) then(n:Int) else(if (m:Int)<((n-m:Nat):Int) then(m:Int) else((n-m:Nat):Int)))=((min m (n-m):Nat):Int):=by
     split<;>split<;>omega
    simp only[aK5,bAP,f3,cE,reduceIte];refine F'.string (by simp;omega) λh4 F4 u4=>?_;have ec:dD PG (Instr.sliceAt bR (.string (tx (List.replicate m 0))) none (some (.int .i64 ((min m (n-m):Nat):Int))) none)=some (.string (tx (List.replicate (min m (n-m)) 0))):=by
     have:=aII (P:=PG) (t:=bR) (l:=List.replicate m 0) (i:=0) (j:=min m (n-m)) (lo:=none) (hi:=some (.int .i64 ((min m (n-m):Nat):Int))) bR.und (.inl ⟨rfl,rfl⟩) (.inr ⟨_,rfl⟩) (by omega) (by simp;omega);rw[this,aPT (by omega),zLb]
    simp only[ec,cE,reduceIte];refine F4.write (by simp;omega) (by simp;omega) λv5 h5 F5 u5=>?_;rw[List.replicate_append_replicate] at F5;refine⟨⟨m+min m (n-m),by omega,by omega,(by trivial),(u'.trans (u4.mono λb hb=>.inl (by simp at hb;simp[hb]))).trans u5,F5⟩,?_⟩;rw[F5.mu,hr',aK5];omega
   ·have f1:((m:Int)<(n:Int))=False:=eq_false (by omega);simp only[f1,cE,reduceIte];refine F'.string (by simp;omega) λh4 F4 u4=>?_;have:m=n:=by omega
    subst this;exact hk _ (fin _ (u'.trans (u4.mono λb hb=>.inl (by simp at hb;simp[hb]))))
theorem aVa{s:S8}:dD PG (Instr.index eN (.agg #[wv s.a,wv s.b,wv s.c,wv s.d,wv s.e,wv s.f,wv s.g,wv s.h]) (.int .i64 0))=some (wv s.a):=by kernel_rfl
theorem aV3{s:S8}:dD PG (Instr.index eN (.agg #[wv s.a,wv s.b,wv s.c,wv s.d,wv s.e,wv s.f,wv s.g,wv s.h]) (.int .i64 1))=some (wv s.b):=by kernel_rfl
theorem aWo{s:S8}:dD PG (Instr.index eN (.agg #[wv s.a,wv s.b,wv s.c,wv s.d,wv s.e,wv s.f,wv s.g,wv s.h]) (.int .i64 2))=some (wv s.c):=by kernel_rfl
theorem aVb{s:S8}:dD PG (Instr.index eN (.agg #[wv s.a,wv s.b,wv s.c,wv s.d,wv s.e,wv s.f,wv s.g,wv s.h]) (.int .i64 3))=some (wv s.d):=by kernel_rfl
theorem aVm{s:S8}:dD PG (Instr.index eN (.agg #[wv s.a,wv s.b,wv s.c,wv s.d,wv s.e,wv s.f,wv s.g,wv s.h]) (.int .i64 4))=some (wv s.e):=by kernel_rfl
theorem aVv{s:S8}:dD PG (Instr.index eN (.agg #[wv s.a,wv s.b,wv s.c,wv s.d,wv s.e,wv s.f,wv s.g,wv s.h]) (.int .i64 5))=some (wv s.f):=by kernel_rfl
theorem aVp{s:S8}:dD PG (Instr.index eN (.agg #[wv s.a,wv s.b,wv s.c,wv s.d,wv s.e,wv s.f,wv s.g,wv s.h]) (.int .i64 6))=some (wv s.g):=by kernel_rfl
theorem aVd{s:S8}:dD PG (Instr.index eN (.agg #[wv s.a,wv s.b,wv s.c,wv s.d,wv s.e,wv s.f,wv s.g,wv s.h]) (.int .i64 7))=some (wv s.h):=by kernel_rfl
theorem aYc{s:S8}{i:Nat}(hi:i<8):dD PG (Instr.index eN (.agg #[wv s.a,wv s.b,wv s.c,wv s.d,wv s.e,wv s.f,wv s.g,wv s.h]) (.int .i64 (i:Int)))=some (wv (s.l.getD i 0)):=by
 have:i=0∨i=1∨i=2∨i=3∨i=4∨i=5∨i=6∨i=7:=by omega
 rcases this with rfl|rfl|rfl|rfl|rfl|rfl|rfl|rfl
 ·exact aVa
 ·exact aV3
 ·exact aWo
 ·exact aVb
 ·exact aVm
 ·exact aVv
 ·exact aVp
 ·exact aVd
def aPP(slot:Nat):List Value->PH->Nat:=λvs _=>match vs[slot]? with
 | some (Value.int _ v)=>(v+8).toNat
 | _=>0
theorem aYy(x:W):Value.int .u8 (IntKind.u8.wrap (x.toNat:Int))= .int .u8 ((UInt8.ofNat x.toNat).toNat:Int):=by
 rw[aJF,UInt8.toNat_ofNat'];congr 1
theorem aVI(x:W):dD PG (convert cM dP (wv x))=some (.int .u8 ((UInt8.ofNat x.toNat).toNat:Int)):=by
 unfold wv;rw[aXa,aYy]
theorem aUz(x:W):(wb x).length=4:=rfl
theorem bAg(x:W){j:Nat}(hj:j<4):dD PG (binOp .shr cM (wv x) (.int .i64 (24-8*(j:Int))))=some (wv (x>>>(24-8*j))):=by
 have:=aKB (P:=PG) (t:=cM) (x:=x) (k:=.i64) (n:=24-8*j) (by omega);rw[←this];congr 3;omega
theorem aYE(x:W){j:Nat}(hj:j<4):(wb x).take (j+1)=(wb x).take j++[UInt8.ofNat (x>>>(24-8*j)).toNat]:=by
 have:j=0∨j=1∨j=2∨j=3:=by omega
 rcases this with rfl|rfl|rfl|rfl
 ·rfl
 ·rfl
 ·rfl
 ·show wb x=[_,_,_]++[UInt8.ofNat (x>>>0).toNat];rw[BitVec.ushiftRight_zero];rfl
theorem aQy(s:S8){i:Nat}(hi:i<8):(s.l.take (i+1)).flatMap wb=(s.l.take i).flatMap wb++wb (s.l.getD i 0):=by
 have:i=0∨i=1∨i=2∨i=3∨i=4∨i=5∨i=6∨i=7:=by omega
 rcases this with rfl|rfl|rfl|rfl|rfl|rfl|rfl|rfl<;>rfl
theorem aS9(s:S8){i:Nat}(hi:i≤8):((s.l.take i).flatMap wb).length≤32:=by
 have:i=0∨i=1∨i=2∨i=3∨i=4∨i=5∨i=6∨i=7∨i=8:=by omega
 rcases this with rfl|rfl|rfl|rfl|rfl|rfl|rfl|rfl|rfl<;>(simp[S8.l,wb])
theorem aUT{h:PH}{a:Nat}{s:S8}{x y:Value}(ha:h a=some (.cells (jU s x y) eW (0,0))){k:cD}(hk:∀h',dB h h'->k (.string (tx (aJA s))) h'):
  aT PG aEE #[pT a 0] h k:=by
 apply wW.call;unfold wW;rw[zB];intro r hr
 try rw[cY]
 have u1:dB h (h.set r (.cells #[.pointer none,.slice none 0 0] dH)):=cV.new hr;have b1:BAt (h.set r (.cells #[.pointer none,.slice none 0 0] dH)) r [] [r]:=BAt.zero dK;generalize h.set r (.cells #[.pointer none,.slice none 0 0] dH)=h1 at *;have ha1:=u1.get ha;have lA:=eN.loadAgg (o:=0) ha1 (by simp[jU]);have lE:(jU s x y).extract 0 (0+8)= #[wv s.a,wv s.b,wv s.c,wv s.d,wv s.e,wv s.f,wv s.g,wv s.h]:=rfl;rw[lE] at lA;simp only[hE.f0,lA,cE,reduceIte];refine⟨λvs h'=>∃(i:Nat) (F:List Nat),i≤8∧vs=[pT r 0,.agg #[wv s.a,wv s.b,wv s.c,wv s.d,wv s.e,wv s.f,wv s.g,wv s.h],.int .i64 (i:Int)]∧BAt h' r ((s.l.take i).flatMap wb) F∧dZ h F∧dB h h',gP 8 2,⟨0,[r],by omega,rfl,b1,dZ.one hr,u1⟩,?_⟩;rintro ρ h' ⟨i,F,hi,hvs,B,fF,u⟩;simp only[iI,iU,kR,and_true] at hvs;obtain⟨v3,v10,v11⟩:=hvs;simp only[v3,v10,v11,iI,iU];unfold aHe;by_cases hl:i<8
 ·have e1:((i:Int)<8)=True:=eq_true (by omega);simp only[e1,aYc hl,cE,reduceIte];refine⟨λvs h'=>∃(j:Nat) (F:List Nat),j≤4∧vs=[pT r 0,wv (s.l.getD i 0),.int .i64 (24-8*(j:Int)),.agg #[wv s.a,wv s.b,wv s.c,wv s.d,wv s.e,wv s.f,wv s.g,wv s.h],.int .i64 (i:Int)]∧BAt h' r ((s.l.take i).flatMap wb++(wb (s.l.getD i 0)).take j) F∧dZ h F∧dB h h',aPP 2,⟨0,F,by omega,rfl,by simpa using B,fF,u⟩,?_⟩;rintro ρ2 h2 ⟨j,F2,hj,hvs,B2,fF2,u2⟩;simp only[iI,iU,kR,and_true] at hvs;obtain⟨w3,w5,w6,w10,w11⟩:=hvs;simp only[w3,w5,w6,w10,w11,iI,iU];unfold aG8;by_cases hj4:j<4
  ·have e2:((0:Int)≤24-8*(j:Int))=True:=eq_true (by omega);have e3:IntKind.i64.wrap (24-8*(j:Int)-8)=24-8*((j+1:Nat):Int):=by rw[eX (by omega) (by omega)];omega
   have hsh:=bAg (s.l.getD i 0) hj4;simp only[e2,hsh,aVI,cE,reduceIte];have hlen:((s.l.take i).flatMap wb++(wb (s.l.getD i 0)).take j).length+1≤140737488355328:=by
    have h1:=aS9 s hi;have h2:((wb (s.l.getD i 0)).take j).length≤4:=by rw[wO,aUz];omega
    rw[jS];omega
   refine WriteByte_ok B2 hlen _ ?_;intro h3 F3 B3 u3 k3;simp only[e3,cE,reduceIte];refine⟨⟨j+1,F3,by omega,(by trivial),?_,fF2.grow u2 k3,u2.fresh u3 fF2⟩,?_⟩
   ·rw[aYE _ hj4,←mZ];exact B3
   ·simp only[aPP,sR,qG];omega
  ·have hj':j=4:=by omega
   subst hj';have e2:((0:Int)≤24-8*((4:Nat):Int))=False:=eq_false (by decide);have e3:=pY (i:=i) (by omega);simp only[e2,e3,cE,reduceIte];refine⟨⟨i+1,F2,by omega,rfl,?_,fF2,u2⟩,?_⟩
   ·rw[aQy s hl];exact B2
   ·simp only[gP,sR,qG];omega
 ·have hi':i=8:=by omega
  subst hi';simp only[show(((8:Nat):Int)<8)=False from eq_false (by decide),cE,reduceIte];refine String_ok B λh3 u3=>?_;exact hk _ (u.fresh u3 fF)
theorem aB0(x:Int):dD PG (convert bT cA (.int .i64 x))=some (.int .u64 (IntKind.u64.wrap x)):=by kernel_rfl
theorem aR3(x:Int):dD PG (convert cA dP (.int .u64 x))=some (.int .u8 (IntKind.u8.wrap x)):=by kernel_rfl
theorem aXQ{n:Nat}{j:Nat}(hj:j<8):dD PG (binOp .shr cA (.int .u64 (n:Int)) (.int .i64 (56-8*(j:Int))))=some (.int .u64 ((n/256^(8-1-j):Nat):Int)):=by
 rw[aJb (by omega)];congr 2;have e:min ((56-8*(j:Int)).toNat) (IntKind.u64.bits)=56-8*j:=by
  show min ((56-8*(j:Int)).toNat) 64=_;omega
 have e2:(256:Nat)^(8-1-j)=2^(56-8*j):=by
  have:j=0∨j=1∨j=2∨j=3∨j=4∨j=5∨j=6∨j=7:=by omega
  rcases this with rfl|rfl|rfl|rfl|rfl|rfl|rfl|rfl<;>decide
 rw[e,e2,Int.fdiv_eq_ediv_of_nonneg _ (Int.pow_nonneg (by decide)),Int.natCast_ediv,Int.natCast_pow];rfl
theorem aVO(m:Nat):Value.int .u8 (IntKind.u8.wrap (m:Int))= .int .u8 ((UInt8.ofNat (m%256)).toNat:Int):=by
 rw[aJF,UInt8.toNat_ofNat'];congr 1;omega
theorem aWT{s:S8}{x:ByteArray}{k:IntKind}{n:Int}:∀v∈(jU s (.string x) (.int k n)).toList,fO v=true:=by
 intro v hv;simp only[jU,gE,kD,or_false] at hv;rcases hv with rfl|rfl|rfl|rfl|rfl|rfl|rfl|rfl|rfl|rfl<;>rfl
theorem aTp{h:PH}{a:Nat}{s:S8}{r:List UInt8}{n:Nat}(hK:mQ h)(ha:HAt h a s r n)(hr:r.length<64)(hn:n≤100000000000){k:cD}
  (hk:∀h',dB h h'->k (.string (tx (aJA (qQ s (r++aJd n)).1))) h'):aT PG aHH #[pT a 0] h k:=by
 apply aGv.call;unfold aGv;have lA:=eW.loadAgg (o:=0) ha (by simp[jU]);have lE:(jU s (.string (tx r)) (.int .i64 n)).extract 0 (0+10)=jU s (.string (tx r)) (.int .i64 n):=rfl;rw[lE] at lA;simp only[lA,cE,reduceIte];intro r3 hr3
 try rw[cY]
 have u1:dB h (h.set r3 (.cells (dN PG eW) eW)):=cV.new hr3;have a3:(h.set r3 (.cells (dN PG eW) eW)) r3=some (.cells (dN PG eW) eW (0,0)):=dK;generalize h.set r3 (.cells (dN PG eW) eW)=h1 at *;refine yF a3 eW.info rfl (by simp[jU]) (by rw[eW.zc];rfl) aWT ?_;have u2:dB h (h1.set r3 (.cells (jU s (.string (tx r)) (.int .i64 n)) eW (0,0))):=u1.fresh (cV.set (F:=[r3]) (by simp)) (dZ.one hr3);have a3':HAt (h1.set r3 (.cells (jU s (.string (tx r)) (.int .i64 n)) eW (0,0))) r3 s r n:=dK;generalize h1.set r3 (.cells (jU s (.string (tx r)) (.int .i64 n)) eW (0,0))=h2 at *;rw[zB];intro r7 hr7
 try rw[cY]
 have u3:dB h2 (h2.set r7 (.cells #[.pointer none,.slice none 0 0] dH)):=cV.new hr7;have b7:BAt (h2.set r7 (.cells #[.pointer none,.slice none 0 0] dH)) r7 [] [r7]:=BAt.zero dK;have n7:h r7=none:=u2.none hr7;generalize h2.set r7 (.cells #[.pointer none,.slice none 0 0] dH)=h3 at *;have a3'':HAt h3 r3 s r n:=u3.get a3';have u4:=u2.trans u3;have hF7:∀b∈[r7],b≠r3:=by
  intro b hb;simp at hb;subst hb;rintro rfl;rw[a3'] at hr7;cases hr7
 refine⟨λvs h'=>∃(j:Nat) (F:List Nat),j≤8∧vs=[pT a 0,pT r3 0,pT r7 0,.int .i64 (56-8*(j:Int))]∧BAt h' r7 ((be (n*8%18446744073709551616) 8).take j) F∧dZ h F∧dB h h'∧(∀b∈F,b≠r3)∧HAt h' r3 s r n,aPP 3,⟨0,[r7],by omega,rfl,b7,dZ.one n7,u4,hF7,a3''⟩,?_⟩;rintro ρ h' ⟨j,F,hj,hvs,B,fF,u,hF,ha'⟩;simp only[iI,iU,kR,and_true] at hvs;obtain⟨v0,v3,v4,v5⟩:=hvs;simp only[v0,v3,v4,v5,iI,iU];unfold aJS;have hAt:=u.get ha;have c9:dE h' ⟨a,0+9,none⟩=some (.int .i64 n):=by simp[dE,hAt,jU]
 have en:n*8%18446744073709551616=n*8:=aCl (by omega);by_cases hl:j<8
 ·have e1:((0:Int)≤56-8*(j:Int))=True:=eq_true (by omega);have e2:IntKind.u64.wrap (n:Int)=(n:Int):=gL (by omega) (by omega);have e3:IntKind.u64.wrap ((n:Int)*8)=((n*8:Nat):Int):=by rw[gL (by omega) (by omega)];omega
  have e4:IntKind.i64.wrap (56-8*(j:Int)-8)=56-8*((j+1:Nat):Int):=by rw[eX (by omega) (by omega)];omega
  simp only[e1,eW.f2,bT.load,c9,aB0,e2,e3,aXQ hl,aR3,aVO,cE,reduceIte];refine WriteByte_ok B (by rw[wO,iE];omega) _ ?_;intro h5 F5 B5 u5 k5;simp only[e4,cE,reduceIte];refine⟨⟨j+1,F5,by omega,(by trivial),?_,fF.grow u k5,u.fresh u5 fF,λb hb=>?_,u5.get ha' (λhm=>hF _ hm rfl)⟩,?_⟩
  ·rw[aJl hl,en];rw[en] at B5;exact B5
  ·rcases k5 b hb with h1|h1
   ·exact hF b h1
   ·rintro rfl;unfold HAt at ha';rw[ha'] at h1;cases h1
  ·simp only[aPP,sR,qG];omega
 ·have hj':j=8:=by omega
  subst hj';have e1:((0:Int)≤56-8*((8:Nat):Int))=False:=eq_false (by decide);have e2:((n:Int)).tmod 64=((n%64:Nat):Int):=by rw[Int.tmod_eq_emod_of_nonneg (by omega)];omega
  have e3:IntKind.i64.wrap (119-((n%64:Nat):Int))=((119-n%64:Nat):Int):=by rw[eX (by omega) (by omega)];omega
  have e4:(((119-n%64:Nat):Int)).tmod 64=(((119-n%64)%64:Nat):Int):=by rw[Int.tmod_eq_emod_of_nonneg (by omega)];omega
  have d1:∀(t:TypeId) (x:Int),dD PG (binOp .rem t (.int .i64 x) (.int .i64 64))=some (.int .i64 (x.tmod 64)):=λt x=>aIK (by decide);simp only[e1,eW.f2,bT.load,c9,d1,e2,e3,e4,cE,reduceIte];refine aUB (zLA _ (by decide)) λh5 u5=>?_;have ex:∀(t:TypeId),dD PG (binOp .add t (.string {data:=#[128]}) (.string (tx (List.replicate ((119-n%64)%64) 0))))=some (.string (tx ([128]++List.replicate ((119-n%64)%64) 0))):=λt=>lZ (a:=[128]) (by simp;omega);simp only[ex,cE,reduceIte];have B5:=B.ext u5;refine String_ok B5 λh6 u6=>?_;have et:(be (n*8%18446744073709551616) 8).take 8=be (n*8%18446744073709551616) 8:=nU (Nat.le_of_eq (iE _ _));rw[et];have ey:∀(t:TypeId),dD PG (binOp .add t (.string (tx ([128]++List.replicate ((119-n%64)%64) 0))) (.string (tx (be (n*8%18446744073709551616) 8))))=some (.string (tx (aJd n))):=λt=>by
   rw[lZ (by simp[iE];omega)];rfl
  simp only[ey,cE,reduceIte];have a6:HAt h6 r3 s r n:=u6.get (u5.get ha') (λhm=>hF _ hm rfl);have u7:dB h h6:=(u.trans u5).fresh u6 fF;have hpl:(aJd n).length≤80:=by
   simp only[aJd,tM,jS,aK5,iE];have:=zLA (119-n%64) (show 64>0 by decide);omega
  refine aRB (hK.ext u7) a6 (by omega) (by omega) λh8 u8 a8=>?_;simp only[eW.f0,cE,reduceIte];refine aUT a8 λh9 u9=>?_;exact hk _ ((u7.fresh u8 (dZ.one hr3)).trans u9)
def jC(p:List UInt8):List Value:=[.string (tx p)]
theorem jC.rows(l:List (List UInt8)):Rows 1 (l.map jC):=λr hr=>by
 obtain⟨p,-,rfl⟩:=lL.1 hr;rfl
theorem aUp{h:PH}{k:cD}(hk:∀h' a,h a=none->dB h h'->HAt h' a S0 [] 0->k (pT a 0) h'):aT PG aLh #[] h k:=by
 apply aNA.call;unfold aNA;apply aJ6.call;unfold aJ6;intro r1 hr1
 try rw[cY]
 have zS:dN PG hE=(zs 8).toArray:=by rw[hE.zc];rfl
 rw[zS];have u1:dB h (h.set r1 (.cells (zs 8).toArray hE)):=cV.new hr1;have a1:(h.set r1 (.cells (zs 8).toArray hE)) r1=some (.cells (zs 8).toArray hE (0,0)):=dK;generalize h.set r1 (.cells (zs 8).toArray hE)=h1 at *;have b1:dD PG (build eN #[(0,(Value.int IntKind.u32 1779033703)),(1,(Value.int IntKind.u32 3144134277)),(2,(Value.int IntKind.u32 1013904242)),(3,(Value.int IntKind.u32 2773480762)),(4,(Value.int IntKind.u32 1359893119)),(5,(Value.int IntKind.u32 2600822924)),(6,(Value.int IntKind.u32 528734635)),(7,(Value.int IntKind.u32 1541459225))])=some (.agg #[wv S0.a,wv S0.b,wv S0.c,wv S0.d,wv S0.e,wv S0.f,wv S0.g,wv S0.h]):=by kernel_rfl
 have b2:dD PG (build hE #[(0,.agg #[wv S0.a,wv S0.b,wv S0.c,wv S0.d,wv S0.e,wv S0.f,wv S0.g,wv S0.h])])=some (.agg #[wv S0.a,wv S0.b,wv S0.c,wv S0.d,wv S0.e,wv S0.f,wv S0.g,wv S0.h]):=by kernel_rfl
 have b3:dD PG (build eW #[(0,.agg #[wv S0.a,wv S0.b,wv S0.c,wv S0.d,wv S0.e,wv S0.f,wv S0.g,wv S0.h])])=some (.agg (jU S0 (.string (tx [])) (.int .i64 (0:Nat)))):=by kernel_rfl
 simp only[b1,b2,cE,reduceIte];refine yF a1 hE.info rfl (by simp) rfl (by simp[isw]) ?_;have u2:dB h (h1.set r1 (.cells #[wv S0.a,wv S0.b,wv S0.c,wv S0.d,wv S0.e,wv S0.f,wv S0.g,wv S0.h] hE (0,0))):=u1.fresh (cV.set (F:=[r1]) (by simp)) (dZ.one hr1);have a2:(h1.set r1 (.cells #[wv S0.a,wv S0.b,wv S0.c,wv S0.d,wv S0.e,wv S0.f,wv S0.g,wv S0.h] hE (0,0))) r1=some (.cells #[wv S0.a,wv S0.b,wv S0.c,wv S0.d,wv S0.e,wv S0.f,wv S0.g,wv S0.h] hE (0,0)):=dK;generalize h1.set r1 (.cells #[wv S0.a,wv S0.b,wv S0.c,wv S0.d,wv S0.e,wv S0.f,wv S0.g,wv S0.h] hE (0,0))=h2 at *;have lA:=hE.loadAgg (o:=0) a2 (by simp);have lE:(#[wv S0.a,wv S0.b,wv S0.c,wv S0.d,wv S0.e,wv S0.f,wv S0.g,wv S0.h]:Array Value).extract 0 (0+8)= #[wv S0.a,wv S0.b,wv S0.c,wv S0.d,wv S0.e,wv S0.f,wv S0.g,wv S0.h]:=rfl;rw[lE] at lA;simp only[lA,b3,cE,reduceIte];intro a ha
 try rw[cY]
 exact hk _ a (u2.none ha) (u2.trans (cV.new ha)) dK
theorem aN9{h:PH}{v:Value}{jJ:List (List UInt8)}(hK:mQ h)(hs:fQ h 1 v (jJ.map jC))(hl:jJ.flatten.length≤100000000){k:cD}(hk:∀h',dB h h'->k (.string (tx (pJ jJ.flatten))) h'):
  aT PG aFV #[v] h k:=by
 apply aM7.call;unfold aM7;refine aUp λh1 a hna u1 ha=>?_;have hs1:=hs.ext u1;have lv:=hs1.len (t':=bT) cP.und;rw[iV] at lv;simp only[lv,cE,reduceIte];have hsm:=hs.small;rw[iV] at hsm;unfold rQ at hsm;refine⟨λvs h'=>∃i,i≤jJ.length∧vs=[pT a 0,v,.int .i64 jJ.length,.int .i64 (i:Int)]∧dB h h'∧HAt h' a (qQ S0 (jJ.take i).flatten).1 (qQ S0 (jJ.take i).flatten).2 (jJ.take i).flatten.length,gP jJ.length 3,⟨0,by omega,rfl,u1,by simpa[aIL (s:=S0) (l:=[]) (by simp)] using ha⟩,?_⟩;rintro ρ h' ⟨i,hi,hvs,u,ha'⟩;simp only[iI,iU,kR,and_true] at hvs;obtain⟨v3,v7,v8,v9⟩:=hvs;simp only[v3,v7,v8,v9,iI,iU];unfold aOB;have hfl:(jJ.take i).flatten.length≤jJ.flatten.length:=by
  have:jJ.flatten=(jJ.take i).flatten++(jJ.drop i).flatten:=by rw[←zLF,aPW]
  rw[this,jS];omega
 by_cases hlt:i<jJ.length
 ·have e1:((i:Int)<(jJ.length:Int))=True:=eq_true (by omega);have e2:=pY (i:=i) (by omega);have hr:(jJ.map jC)[(i:Int).toNat]? =some (jC jJ[i]):=by rw[pK,wL,mB hlt];rfl
  obtain⟨pa,hpa,hload⟩:=(hs.ext u).loadCell (t:=cP) (k:=.i64) (j:=(i:Int)) cP.und bR.info bR.size bR.und rfl (by omega) hr;have ht:(jJ.take (i+1)).flatten=(jJ.take i).flatten++jJ[i]:=by
   rw[aTU hlt,zLF];simp
  have hfl2:(jJ.take (i+1)).flatten.length≤jJ.flatten.length:=by
   have:jJ.flatten=(jJ.take (i+1)).flatten++(jJ.drop (i+1)).flatten:=by rw[←zLF,aPW]
   rw[this,jS];omega
  rw[ht,jS] at hfl2;have hrest:=aKQ S0 (jJ.take i).flatten;simp only[e1,hpa,hload,cE,reduceIte];refine aRB (hK.ext u) ha' (by omega) (by omega) λh2 u2 ha2=>?_;simp only[e2,cE,reduceIte];refine⟨⟨i+1,by omega,rfl,u.fresh u2 (dZ.one hna),?_⟩,?_⟩
  ·rw[ht,aLV,jS];exact ha2
  ·simp only[gP,sR,qG];omega
 ·have e1:((i:Int)<(jJ.length:Int))=False:=eq_false (by omega);have hi':i=jJ.length:=by omega
  simp only[e1,cE,reduceIte];refine aTp (hK.ext u) ha' (aKQ _ _) (by omega) λh2 u2=>?_;have:=hk h2 (u.trans u2);unfold pJ at this;rw[aLV] at this;rw[hi',zLI];exact this
structure Pr where
 (k v:Tx)
deriving DecidableEq
def Pr.cells(p:Pr):List Value:=[.string (tx p.k),.string (tx p.v)]
def Pr.val(p:Pr):Value:=.agg #[.string (tx p.k),.string (tx p.v)]
theorem Pr.rows(l:List Pr):Rows 2 (l.map Pr.cells):=λr hr=>by
 obtain⟨p,-,rfl⟩:=lL.1 hr;rfl
theorem Pr.isCell(l:List Pr):∀r∈l.map Pr.cells,∀u∈r,fO u=true:=λr hr u hu=>by
 obtain⟨p,-,rfl⟩:=lL.1 hr;simp only[Pr.cells,gE,kD,or_false] at hu;rcases hu with rfl|rfl<;>rfl
theorem aJj:∀(x y:List UInt8),Op.bytesLess x y=decide (x<y)
 | [],[]=>by simp[Op.bytesLess]
 | _::_,[]=>by simp[Op.bytesLess]
 | [],_::_=>by simp[Op.bytesLess]
 | a::x,b::y=>by
  rw[Op.bytesLess,aJj x y];simp only[List.cons_lt_cons_iff];by_cases h1:a<b<;>by_cases h2:a=b<;>by_cases h3:x<y<;>simp[h1,h2,h3]
theorem aDH(l:Tx):(tx l).toList=l:=by rw[ByteArray.toList_eq];simp[tx]
theorem aHw(a b:Tx):a<b∨a=b∨b<a:=by
 by_cases h1:a<b
 ·exact .inl h1
 ·by_cases h2:b<a
  ·exact .inr (.inr h2)
  ·exact .inr (.inl (List.le_antisymm h2 h1))
section
variable{P:Program}{t:TypeId}{a b:Tx}{h:PH}
theorem yI:dD P (binOp .lss t (.string (tx a)) (.string (tx b)))=some (.bool (decide (a<b))):=by
 have e:dD P (binOp .lss t (.string (tx a)) (.string (tx b)))=some (.bool (Op.bytesLess (tx a).toList (tx b).toList)):=rfl;rw[e,aDH,aDH,aJj]
theorem aN3:dD P (binOp .gtr t (.string (tx a)) (.string (tx b)))=some (.bool (decide (b<a))):=by
 have e:dD P (binOp .gtr t (.string (tx a)) (.string (tx b)))=some (.bool (!(Op.bytesLess (tx a).toList (tx b).toList||(tx a).toList==(tx b).toList))):=rfl;rw[e,aDH,aDH,aJj];congr 2;rcases aHw a b with h|h|h
 ·have h2:¬b<a:=List.lt_asymm h;simp[h,h2]
 ·subst h;simp[zL0]
 ·have h2:¬a<b:=List.lt_asymm h;have h3:a≠b:=by rintro rfl;exact zL0 _ h
  simp[h,h2,h3]
end
theorem aWi(x:Int):dD PG (convert bT dP (.int .i64 x))=some (.int .u8 (IntKind.u8.wrap x)):=by kernel_rfl
theorem aO6{h:PH}{n:Nat}{k:cD}(hk:∀h',dB h h'->k (.string (tx [UInt8.ofNat (n%256)])) h'):aT PG aD4 #[.int .i64 n] h k:=by
 apply aIz.call;unfold aIz;simp only[aWi,aVO,byte_lit,cE,reduceIte];intro r hr;refine fH ?_
 try rw[cY]
 have u:dB h (h.set r (.cells #[.int .u8 ((UInt8.ofNat (n%256)).toNat:Int)] dP)):=cV.new hr;have s:fQ (h.set r (.cells #[.int .u8 ((UInt8.ofNat (n%256)).toNat:Int)] dP)) 1 (.slice (some ⟨r,0,none⟩) 1 1) ([UInt8.ofNat (n%256)].map jL):=(eD.lit (jL.rows [UInt8.ofNat (n%256)]) dK (by simp) (by decide) (by simp[jL])).slR;have hcv:cG PG _ (convert dA bR (.slice (some ⟨r,0,none⟩) 1 1))=some (.string (tx [UInt8.ofNat (n%256)])):=aFS dA.und dP.und bR.und s;rw[hcv,aMI];exact hk _ u
theorem aWz(a b c:ByteArray):jP PG (buildSlice cP 3 #[(0,.string a),(1,.string b),(2,.string c)])=some (.cells #[.string a,.string b,.string c] bR,λr=>pure (.slice (some ⟨r,0,none⟩) 3 3)):=by kernel_rfl
theorem bAK(a b c d e:ByteArray):jP PG (buildSlice cP 5 #[(0,.string a),(1,.string b),(2,.string c),(3,.string d),(4,.string e)])=some (.cells #[.string a,.string b,.string c,.string d,.string e] bR,λr=>pure (.slice (some ⟨r,0,none⟩) 5 5)):=by kernel_rfl
def aAx(l r:Tx):Tx:=pJ (1::(l++r))
def aF4(p:Pr):Tx:=pJ (0::UInt8.ofNat (p.k.length%256)::(p.k++UInt8.ofNat (p.v.length%256)::p.v))
theorem aKZ{h:PH}{l r:Tx}(hK:mQ h)(hl:l.length+r.length≤10000000){k:cD}(hk:∀h',dB h h'->k (.string (tx (aAx l r))) h'):aT PG aCt #[.string (tx l),.string (tx r)] h k:=by
 apply aH1.call;unfold aH1;simp only[aWz,cE,reduceIte];intro b hb;refine fH ?_
 try rw[cY]
 have u:dB h (h.set b (.cells #[.string ⟨#[1]⟩,.string (tx l),.string (tx r)] bR)):=cV.new hb;have s:fQ (h.set b (.cells #[.string ⟨#[1]⟩,.string (tx l),.string (tx r)] bR)) 1 (.slice (some ⟨b,0,none⟩) 3 3) ([[1],l,r].map jC):=(eD.lit (jC.rows [[1],l,r]) dK (by simp) (by decide) rfl).slR;refine aN9 (hK.ext u) s (by simp;omega) λh' u'=>?_;have e:aAx l r=pJ [[1],l,r].flatten:=by simp[aAx]
 rw[e] at hk;exact hk _ (u.trans u')
theorem aJE(p:Pr):Value.cells p.val= #[.string (tx p.k),.string (tx p.v)]:=rfl
theorem aSY{h:PH}{p:Pr}(hK:mQ h)(hl:p.k.length+p.v.length≤10000000){k:cD}(hk:∀h',dB h h'->k (.string (tx (aF4 p))) h'):aT PG aFE #[p.val] h k:=by
 apply aD8.call;unfold aD8;rw[aJE];intro r hr
 try rw[cY]
 have u1:dB h (h.set r (.cells #[.string (tx p.k),.string (tx p.v)] cK)):=cV.new hr;have a1:(h.set r (.cells #[.string (tx p.k),.string (tx p.v)] cK)) r=some (.cells #[.string (tx p.k),.string (tx p.v)] cK (0,0)):=dK;generalize h.set r (.cells #[.string (tx p.k),.string (tx p.v)] cK)=h1 at *;have c0:dE h1 ⟨r,0,none⟩=some (.string (tx p.k)):=by simp[dE,a1]
 have c1:dE h1 ⟨r,0+1,none⟩=some (.string (tx p.v)):=by simp[dE,a1]
 simp only[cK.f0,cK.f1,bR.load,c0,c1,bR.len,hZ,cE,reduceIte];refine aO6 λh2 u2=>?_;have a2:=u2.get a1;have c0':dE h2 ⟨r,0,none⟩=some (.string (tx p.k)):=by simp[dE,a2]
 have c1':dE h2 ⟨r,0+1,none⟩=some (.string (tx p.v)):=by simp[dE,a2]
 simp only[bR.load,c0',c1',true_and];refine aO6 λh3 u3=>?_;have a3:=u3.get a2;have c0'':dE h3 ⟨r,0,none⟩=some (.string (tx p.k)):=by simp[dE,a3]
 have c1'':dE h3 ⟨r,0+1,none⟩=some (.string (tx p.v)):=by simp[dE,a3]
 simp only[bR.load,c0'',c1'',true_and,bAK,cE,reduceIte];intro b hb;refine fH ?_
 try rw[cY]
 have u4:dB h3 (h3.set b (.cells #[.string ⟨#[0]⟩,.string (tx [UInt8.ofNat (p.k.length%256)]),.string (tx p.k),.string (tx [UInt8.ofNat (p.v.length%256)]),.string (tx p.v)] bR)):=cV.new hb;have s:fQ (h3.set b (.cells #[.string ⟨#[0]⟩,.string (tx [UInt8.ofNat (p.k.length%256)]),.string (tx p.k),.string (tx [UInt8.ofNat (p.v.length%256)]),.string (tx p.v)] bR)) 1 (.slice (some ⟨b,0,none⟩) 5 5) ([[0],[UInt8.ofNat (p.k.length%256)],p.k,[UInt8.ofNat (p.v.length%256)],p.v].map jC):=(eD.lit (n:=5) (jC.rows [[0],[UInt8.ofNat (p.k.length%256)],p.k,[UInt8.ofNat (p.v.length%256)],p.v]) dK (by simp) (by decide) rfl).slR;have u:=((u1.trans u2).trans u3).trans u4;refine aN9 (hK.ext u) s (by simp;omega) λh' u'=>?_;have e:aF4 p=pJ [[0],[UInt8.ofNat (p.k.length%256)],p.k,[UInt8.ofNat (p.v.length%256)],p.v].flatten:=by simp[aF4]
 rw[e] at hk;exact hk _ (u.trans u')
def aDd(x:Nat):Nat:=if x=0 then 0 else Nat.log2 x+1
theorem aZW:(List.range 256).all (λx=>aPR[x]? == some (UInt8.ofNat (aDd x)))=true:=by kernel_rfl
theorem aYX{x:Nat}(hx:x<256):aPR[x]? =some (UInt8.ofNat (aDd x)):=by
 have:=aDZ.1 aZW x (aK0.2 hx);simpa using this
theorem aXf{x:Nat}(hx:x<256):aDd x<256:=by
 unfold aDd;split
 ·decide
 ·have:=Nat.log2_lt (n:=x) (k:=8) (by omega);have:=this.2 (by simpa using hx);omega
theorem aTP{x:Nat}(h1:256≤x):aDd x=aDd (x/256)+8:=by
 have h2:x/256≠0:=by omega
 unfold aDd;rw[if_neg (by omega),if_neg h2];have:Nat.log2 x=Nat.log2 (x/256)+8:=by
  rw[Nat.log2_eq_iff (by omega)];have a:=(Nat.log2_eq_iff (n:=x/256) (k:=Nat.log2 (x/256)) h2).1 rfl;rw[Nat.pow_add,Nat.pow_add,Nat.pow_add];rw[Nat.pow_add] at a;omega
 omega
theorem aWN(x:Int):dD PG (convert dP bT (.int .u8 x))=some (.int .i64 (IntKind.i64.wrap x)):=by kernel_rfl
theorem aUN{h:PH}{x n:Nat}(hx:x<256)(hn:n≤64){k:cD}(hk:k (.int .i64 ((n+aDd x:Nat):Int)) h):aBB k (.int .u64 (x:Int)) (.int .i64 (n:Int)) h:=by
 unfold aBB;have e0:(⟨aPR⟩:ByteArray)=tx aPR.toList:=by simp[tx]
 have e1:IntKind.u8.wrap (x:Int)=x:=by rw[aJF];omega
 have hl:=aXf hx;have e2:dD PG (Instr.index bR (.string ⟨aPR⟩) (.int .u8 (x:Int)))=some (.int .u8 ((UInt8.ofNat (aDd x)).toNat:Int)):=by
  rw[e0];exact zY bR.und (by rw[aLG];exact aYX hx)
 have e3:((UInt8.ofNat (aDd x)).toNat:Int)=((aDd x:Nat):Int):=by rw[UInt8.toNat_ofNat'];congr 1;exact aCl hl
 have e4:IntKind.i64.wrap ((aDd x:Nat):Int)=((aDd x:Nat):Int):=eX (by omega) (by omega);have e5:IntKind.i64.wrap ((n:Int)+((aDd x:Nat):Int))=((n+aDd x:Nat):Int):=by rw[eX (by omega) (by omega)];omega
 simp only[aR3,e1,e2,e3,aWN,e4,e5,cE,reduceIte];exact hk
theorem bAY{n:Nat}:dD PG (binOp .shr cA (.int .u64 (n:Int)) (.int .u64 8))=some (.int .u64 ((n/256:Nat):Int)):=by
 rw[aJb (by decide)];congr 2;show(n:Int).fdiv (2^8)=_;rw[Int.fdiv_eq_ediv_of_nonneg _ (by decide)];have:(2:Int)^8=256:=by rfl
 omega
theorem aTq{h:PH}{x:Nat}(hx:x<65536){k:cD}(hk:k (.int .i64 ((aDd x:Nat):Int)) h):aT PG aGP #[.int .u64 (x:Int)] h k:=by
 apply aGE.call;unfold aGE;simp only[cE,reduceIte];apply aEm.call;unfold aEm;have e1:((4294967296:Int)≤(x:Int))=False:=eq_false (by omega);have e2:((65536:Int)≤(x:Int))=False:=eq_false (by omega);simp only[e1,cE,reduceIte];unfold aE2;simp only[e2,cE,reduceIte];unfold aEy;by_cases h8:256≤x
 ·have e3:((256:Int)≤(x:Int))=True:=eq_true (by omega);have e4:IntKind.i64.wrap ((0:Int)+8)=((8:Nat):Int):=rfl;simp only[e3,bAY,e4,cE,reduceIte];refine aUN (by omega) (by decide) ?_;rw[aTP h8,Nat.add_comm] at hk;exact hk
 ·have e3:((256:Int)≤(x:Int))=False:=eq_false (by omega);simp only[e3,cE,reduceIte];refine aUN (n:=0) (by omega) (by decide) ?_;rw[fC];exact hk
def dU(n:Nat):Nat:=2^Nat.log2 (n-1)
theorem lR{n:Nat}(h:2≤n):1≤dU n∧dU n<n:=by
 unfold dU;have:=(Nat.log2_eq_iff (n:=n-1) (k:=Nat.log2 (n-1)) (by omega)).1 rfl;have h2:0<2^Nat.log2 (n-1):=Nat.pow_pos (by decide);omega
theorem aPO{h:PH}{n:Nat}(h2:2≤n)(hn:n≤65536){k:cD}(hk:k (.int .i64 ((dU n:Nat):Int)) h):aT PG aC8 #[.int .i64 (n:Int)] h k:=by
 apply aH2.call;unfold aH2;have e1:IntKind.i64.wrap ((n:Int)-1)=((n-1:Nat):Int):=by rw[eX (by omega) (by omega)];omega
 have e2:IntKind.u64.wrap ((n-1:Nat):Int)=((n-1:Nat):Int):=gL (by omega) (by omega);simp only[e1,aKW,e2,cE,reduceIte];refine aTq (by omega) ?_;have hlt:=lR h2;have hlen:aDd (n-1)=Nat.log2 (n-1)+1:=by unfold aDd;rw[if_neg (by omega)]
 have hlog:Nat.log2 (n-1)<16:=(Nat.log2_lt (by omega)).2 (by omega);have e3:IntKind.i64.wrap (((aDd (n-1):Nat):Int)-1)=((Nat.log2 (n-1):Nat):Int):=by rw[eX (by omega) (by omega)];omega
 have e4:∀t,dD PG (binOp .shl t (.int .i64 1) (.int .i64 ((Nat.log2 (n-1):Nat):Int)))=some (.int .i64 ((dU n:Nat):Int)):=λt=>by
  rw[aRW (by omega)];have em:min (((Nat.log2 (n-1):Nat):Int).toNat) (IntKind.i64.bits)=Nat.log2 (n-1):=by
   show min _ 64=_;omega
  have ep:(1:Int)*2^Nat.log2 (n-1)=((dU n:Nat):Int):=by
   unfold dU;rw[Int.one_mul,Int.natCast_pow];rfl
  rw[em,ep,eX (by omega) (by omega)]
 simp only[e3,e4,cE,reduceIte];exact hk
def mC(l:List Pr):Tx:=if h:2≤l.length then aAx (mC (l.take (dU l.length))) (mC (l.drop (dU l.length))) else aF4 (l.headD ⟨[],[]⟩)
termination_by l.length
decreasing_by
 ·have:=lR h;simp;omega
 ·have:=lR h;simp;omega
theorem aAA(l:List Pr):(mC l).length=32:=by
 rw[mC];split<;>rfl
def aAf(l:List Pr):Prop:=∀p∈l,p.k.length+p.v.length≤1000000
theorem fQ.pair{h:PH}{v:Value}{l:List Pr}(S:fQ h 2 v (l.map Pr.cells)){j:Nat}{p:Pr}(hp:l[j]? =some p):
  ∃b o,dD PG (indexAt cJ v (.int .i64 (j:Int)))=some (pT b o)∧dE h ⟨b,o,none⟩=some (.string (tx p.k))∧dE h ⟨b,o+1,none⟩=some (.string (tx p.v))∧cG PG h (loadAt cK (pT b o))=some p.val:=by
 obtain⟨b,o,h1,h2,h3⟩:=S.fields cJ.und cK.info cK.size (k:=.i64) (j:=j) (r:=p.cells) (by rw[wL,hp];rfl);exact⟨b,o,h1,h2 0 _ rfl,h2 1 _ rfl,h3 _ cK.und rfl⟩
theorem fQ.cutP{h:PH}{v:Value}{l:List Pr}(S:fQ h 2 v (l.map Pr.cells)){lo hi:Option Value}{a m:Nat}(hlo:lo=none∧a=0∨∃k,lo=some (.int k a))(hhi:hi=none∧m=l.length∨∃k,hi=some (.int k m))(h1:a≤m)(h2:m≤l.length):
  ∃v',dD PG (Instr.sliceAt cJ v lo hi none)=some v'∧fQ h 2 v' (((l.take m).drop a).map Pr.cells):=by
 obtain⟨v',e,s,-⟩:=S.cut cJ.und cK.info cK.size hlo (by simpa using hhi) h1 (by simpa using h2);refine⟨v',e,?_⟩;rw[List.map_drop,aLZ];exact s
theorem aLF:∀(n:Nat) {h:PH} {v:Value} {l:List Pr},l.length≤n->l≠[]->l.length≤65536->mQ h->fQ h 2 v (l.map Pr.cells)->aAf l->∀{k:cD},(∀h',dB h h'->k (.string (tx (mC l))) h')->aT PG qV #[v] h k
 | 0,_,_,l,h0,hne,_,_,_,_,_,_=>by
  have:l=[]:=zLN (by omega);exact absurd this hne
 | n+1,h,v,l,hn,hne,hl,hK,S,hs,k,hk=>by
  apply aBS.call;unfold aBS;have lv:=S.len (t':=bT) cJ.und;rw[iV] at lv;have hpos:0<l.length:=aHx.2 hne;by_cases h1:l.length=1
  ·have e1:((l.length:Int)==1)=true:=by simp[h1]
   obtain⟨p,hp⟩:=List.length_eq_one_iff.1 h1;obtain⟨b,o,e2,-,-,e3⟩:=S.pair (j:=0) (p:=p) (by rw[hp];rfl);rw[show((0:Nat):Int)=0 from rfl] at e2;simp only[lv,e1,e2,e3,cE,reduceIte];have hd:mC l=aF4 p:=by
    rw[mC,dif_neg (by omega),hp];rfl
   rw[hd] at hk;refine aSY hK (by have:=hs p (by rw[hp];simp);omega) λh' u=>hk h' u
  ·have e1:((l.length:Int)==1)=false:=by simp;omega
   have h2:2≤l.length:=by omega
   simp only[lv,e1,cE,reduceIte];refine aPO h2 hl ?_;have hlt:=lR h2;obtain⟨v1,s1,t1⟩:=S.cutP (lo:=none) (hi:=some (.int .i64 ((dU l.length:Nat):Int))) (a:=0) (m:=dU l.length) (.inl ⟨rfl,rfl⟩) (.inr ⟨_,rfl⟩) (by omega) (by omega);obtain⟨v2,s2,t2⟩:=S.cutP (lo:=some (.int .i64 ((dU l.length:Nat):Int))) (hi:=none) (a:=dU l.length) (m:=l.length) (.inr ⟨_,rfl⟩) (.inl ⟨rfl,rfl⟩) (by omega) (by omega);rw[zLb] at t1;rw[zLI] at t2;simp only[s1,s2,cE,reduceIte];have hd:mC l=aAx (mC (l.take (dU l.length))) (mC (l.drop (dU l.length))):=by
    rw[mC,dif_pos h2]
   rw[hd] at hk;refine aLF n (by simp;omega) (aKO (by first|(rw[wO];omega)|(rw[yR];omega))) (by simp;omega) hK t1 (λp hp=>hs p (aKw hp)) λh1 u1=>?_;refine aLF n (by simp;omega) (aKO (by first|(rw[wO];omega)|(rw[yR];omega))) (by simp;omega) (hK.ext u1) (t2.ext u1) (λp hp=>hs p (aL3 hp)) λh2 u2=>?_;refine aKZ (hK.ext (u1.trans u2)) (by rw[aAA,aAA];decide) λh3 u3=>?_;exact hk _ ((u1.trans u2).trans u3)
theorem aLI{h:PH}{v:Value}{l:List Pr}(hne:l≠[])(hl:l.length≤65536)(hK:mQ h)(S:fQ h 2 v (l.map Pr.cells))(hs:aAf l){k:cD}(hk:∀h',dB h h'->k (.string (tx (mC l))) h'):aT PG qV #[v] h k:=
 aLF l.length (pC _) hne hl hK S hs hk
theorem aTl(x:Int):dD PG (convert cA bT (.int .u64 x))=some (.int .i64 (IntKind.i64.wrap x)):=by kernel_rfl
theorem aZb{t:TypeId}{m:Nat}(hm:m<18446744073709551616):dD PG (binOp .and t (.int .u64 (m:Int)) (.int .u64 255))=some (.int .u64 ((m%256:Nat):Int)):=by
 have e:dD PG (binOp .and t (.int .u64 (m:Int)) (.int .u64 255))=some (.int .u64 (IntKind.u64.wrap ((BitVec.ofInt 64 (m:Int) &&& BitVec.ofInt 64 255).toNat:Int))):=rfl;have e2:(BitVec.ofInt 64 (m:Int) &&& BitVec.ofInt 64 255).toNat=m%256:=by
  have h1:BitVec.ofInt 64 (m:Int)=BitVec.ofNat 64 m:=BitVec.ofInt_natCast ..;have h2:BitVec.ofInt 64 255=BitVec.ofNat 64 255:=by decide
  rw[h1,h2,BitVec.toNat_and,BitVec.toNat_ofNat,BitVec.toNat_ofNat,aCl (show m<2^64 from hm)];exact Nat.and_two_pow_sub_one_eq_mod m 8
 rw[e,e2,gL (by omega) (by omega)]
def aJZ(n:Nat)(d:Tx):Tx:=pJ (2::(be n 8++d))
theorem aQ1{h:PH}{n:Nat}{d:Tx}(hK:mQ h)(hn:n≤1000000)(hd:d.length≤1000000){k:cD}(hk:∀h',dB h h'->k (.string (tx (aJZ n d))) h'):aT PG aDz #[.int .i64 (n:Int),.string (tx d)] h k:=by
 apply aI2.call;unfold aI2;have e1:(if (0:Int)<(n:Int) then(n:Int) else 0)=(n:Int):=by split<;>omega
 have e2:IntKind.u64.wrap (n:Int)=n:=gL (by omega) (by omega);simp only[aOw,e1,aB0,e2,cE,reduceIte];refine⟨λvs h'=>∃i,i≤8∧vs=[.string (tx d),.int .u64 (n:Int),.string (tx ((be n 8).take i)),.int .i64 (i:Int)]∧dB h h',gP 8 3,⟨0,by omega,rfl,cV.refl⟩,?_⟩;rintro ρ h' ⟨i,hi,hvs,u⟩;simp only[iI,iU,kR,and_true] at hvs;obtain⟨v1,v5,v6,v11⟩:=hvs;simp only[v1,v5,v6,v11,iI,iU];unfold aLm;by_cases hl:i<8
 ·have f1:((i:Int)<8)=True:=eq_true (by omega);have f2:IntKind.i64.wrap (8*(i:Int))=8*(i:Int):=eX (by omega) (by omega);have f3:IntKind.i64.wrap (56-8*(i:Int))=56-8*(i:Int):=eX (by omega) (by omega);have hle:n/256^(8-1-i)≤n:=Nat.div_le_self _ _;have f4:IntKind.i64.wrap ((n/256^(8-1-i)%256:Nat):Int)=((n/256^(8-1-i)%256:Nat):Int):=eX (by omega) (by omega);have f5:=pY (i:=i) (by omega);simp only[f1,f2,f3,aXQ hl,aZb (show n/256^(8-1-i)<18446744073709551616 by omega),aTl,f4,cE,reduceIte];refine aO6 λh2 u2=>?_;rw[Nat.mod_mod];have f6:∀t,dD PG (binOp .add t (.string (tx ((be n 8).take i))) (.string (tx [UInt8.ofNat (n/256^(8-1-i)%256)])))=some (.string (tx ((be n 8).take (i+1)))):=λt=>by
   rw[lZ (by rw[wO,iE];simp;omega),aJl hl]
  simp only[f6,f5,cE,reduceIte];refine⟨⟨i+1,by omega,rfl,u.trans u2⟩,?_⟩;simp only[gP,sR,qG];omega
 ·have f1:((i:Int)<8)=False:=eq_false (by omega);have hi':i=8:=by omega
  subst hi';rw[nU (Nat.le_of_eq (iE _ _))];simp only[f1,aWz,cE,reduceIte];intro b hb;refine fH ?_
  try rw[cY]
  have u1:dB h' (h'.set b (.cells #[.string ⟨#[2]⟩,.string (tx (be n 8)),.string (tx d)] bR)):=cV.new hb;have s:fQ (h'.set b (.cells #[.string ⟨#[2]⟩,.string (tx (be n 8)),.string (tx d)] bR)) 1 (.slice (some ⟨b,0,none⟩) 3 3) ([[2],be n 8,d].map jC):=(eD.lit (n:=3) (jC.rows [[2],be n 8,d]) dK (by simp) (by decide) rfl).slR;refine aN9 (hK.ext (u.trans u1)) s (by simp[iE];omega) λh3 u3=>?_;have e:aJZ n d=pJ [[2],be n 8,d].flatten:=by simp[aJZ]
  rw[e] at hk;exact hk _ ((u.trans u1).trans u3)
def kE(l:List Pr):Tx:=aJZ l.length (if l=[] then [] else mC l)
theorem aUr(l:List Pr):(kE l).length=32:=rfl
theorem aNj{h:PH}{v:Value}{l:List Pr}(hl:l.length≤65536)(hK:mQ h)(S:fQ h 2 v (l.map Pr.cells))(hs:aAf l){k:cD}(hk:∀h',dB h h'->k (.string (tx (kE l))) h'):aT PG aC1 #[v] h k:=by
 apply aIB.call;unfold aIB;have lv:=S.len (t':=bT) cJ.und;rw[iV] at lv;by_cases h0:l=[]
 ·subst h0;simp only[lv,zLM,show(((0:Nat):Int)==0)=true from rfl,cE,reduceIte];refine aQ1 (n:=0) (d:=[]) hK (by decide) (by decide) λh' u=>?_;exact hk _ u
 ·have e0:((l.length:Int)==0)=false:=by simpa using h0
  simp only[lv,e0,cE,reduceIte];refine aLI h0 hl hK S hs λh1 u1=>?_;refine aQ1 (hK.ext u1) (by omega) (by rw[aAA];decide) λh2 u2=>?_;have:=hk h2 (u1.trans u2);unfold kE at this;rw[if_neg h0] at this;exact this
def aPJ(p:Pr):Prop:=1≤p.k.length∧p.k.length≤16∧p.v.length≤64
end
section
open Go
def oJ(l:List Pr)(k:Nat):List Tx:=
 if h:2≤l.length then
  if k<dU l.length then oJ (l.take (dU l.length)) k++[mC (l.drop (dU l.length))]
  else oJ (l.drop (dU l.length)) (k-dU l.length)++[mC (l.take (dU l.length))]
 else []
termination_by l.length
decreasing_by
 ·have:=lR h;simp;omega
 ·have:=lR h;simp;omega
def upP(p:Pr)(i n:Nat)(path:List Tx):Option (Tx×List Tx):=
 if h:2≤n then
  match path.getLast? with
  | none=>none
  | some b=>if b.length≠32 then none else
   if i<dU n then(upP p i (dU n) path.dropLast).map λx=>(aAx x.1 b,x.2)
   else(upP p (i-dU n) (n-dU n) path.dropLast).map λx=>(aAx b x.1,x.2)
 else some (aF4 p,path)
termination_by n
decreasing_by
 ·have:=lR h;omega
 ·have:=lR h;omega
structure Lf where
 i:Int
 n:Int
 p:Pr
 path:List Tx
 deriving DecidableEq
def aZR(n:Nat):Option (Tx×List Tx)->Option Tx
 | some (d,[])=>some (aJZ n d)
 | _=>none
def pH(f:Lf):Option Tx:=
 if f.n<1∨4096<f.n∨f.i<0∨f.n≤f.i then none else aZR f.n.toNat (upP f.p f.i.toNat f.n.toNat f.path)
theorem aUW:∀(n:Nat) (l:List Pr) (k:Nat),l.length=n->∀d∈oJ l k,d.length=32:=by
 intro n;induction n using Nat.strongRecOn with
 | ind n ih=>
  intro l k hn d hd;by_cases h2:2≤l.length
  ·obtain⟨m1,m2⟩:=lR h2;rw[oJ,dif_pos h2] at hd;split at hd
   ·rcases jB.1 hd with hd|hd
    ·exact ih (dU l.length) (by omega) _ k (by rw[wO];omega) d hd
    ·simp only[fW] at hd;rw[hd];exact aAA _
   ·rcases jB.1 hd with hd|hd
    ·exact ih (l.length-dU l.length) (by omega) _ _ (by rw[yR]) d hd
    ·simp only[fW] at hd;rw[hd];exact aAA _
  ·rw[oJ,dif_neg h2] at hd;simp at hd
theorem aFU{n:Nat}(h:2≤n){d:Nat}(hd:n≤2^(d+1)):dU n≤2^d∧n-dU n≤2^d:=by
 unfold dU;have hne:n-1≠0:=by omega
 have h1:2^Nat.log2 (n-1)≤n-1:=Nat.log2_self_le hne;have h2:n-1<2^(Nat.log2 (n-1)+1):=Nat.lt_log2_self;have h3:Nat.log2 (n-1)<d+1:=(Nat.log2_lt hne).2 (by omega);have h4:2^Nat.log2 (n-1)≤2^d:=aLd (by decide) (by omega);rw[zLQ] at h2;exact⟨h4,by omega⟩
theorem aFO:∀(d:Nat) (l:List Pr) (k:Nat),l.length≤2^d->(oJ l k).length≤d
 | 0,l,k,h=>by rw[oJ,dif_neg (by simp at h;omega)];simp
 | d+1,l,k,h=>by
  by_cases h2:2≤l.length
  ·obtain⟨a,b⟩:=aFU h2 h;rw[oJ,dif_pos h2];split
   ·rw[jS];have:=aFO d (l.take (dU l.length)) k (by rw[wO];omega);simp;omega
   ·rw[jS];have:=aFO d (l.drop (dU l.length)) (k-dU l.length) (by rw[yR];omega);simp;omega
  ·rw[oJ,dif_neg h2];simp
theorem aMu(a:ByteArray):jP PG (buildSlice cP 1 #[(0,.string a)])=some (.cells #[.string a] bR,λr=>pure (.slice (some ⟨r,0,none⟩) 1 1)):=by kernel_rfl
theorem jC.isC(s:Tx):∀u∈jC s,fO u=true:=λu hu=>by
 simp only[jC,gE,kD,or_false] at hu;subst hu;rfl
def fnP(a b:Nat):Value:=.func (.func aDk) #[] #[pT a 0,pT b 0]
structure aK8(h0 h:PH)(a b:Nat)(acc:List Tx)(F:List Nat):Prop where
 fn:Bx h a [fnP a b]
 out:∃v,Bx h b [v]∧eD h bR 1 v (acc.map jC) F
 ne:a≠b
 na:a∉F
 nb:b∉F
 ext:dB h0 h
 fr:dZ h0 (a::b::F)
theorem aK8.upd{h0 h h':PH}{a b:Nat}{acc:List Tx}{F:List Nat}(H:aK8 h0 h a b acc F)(u:dB h h'):aK8 h0 h' a b acc F:=by
 obtain⟨v,B,O⟩:=H.out;exact⟨H.fn.ext u,⟨v,B.ext u,O.ext u⟩,H.ne,H.na,H.nb,H.ext.trans u,H.fr⟩
theorem aK8.push{h0 h:PH}{a b:Nat}{acc:List Tx}{F:List Nat}(H:aK8 h0 h a b acc F)(d:Tx){t3:Value}(ht:cG PG h (loadAt cP (pT b 0))=some t3)(hl:acc.length≤1000){R:cD}(hR:∀h' F',aK8 h0 h' a b (acc++[d]) F'->R (.tuple #[]) h'):
  (dY (jP PG (buildSlice cP 1 #[(0,.string (tx d))])) λx16=>∀r15,h r15=none->dY (dD PG (x16.2 r15)) λv17=>eI (PH.set h r15 x16.1) λh18=>
   cZ PG (Builtin.append_ #[cP,cP] cP #[t3,v17]) h18 λv19 h20=>cZ PG (dM cP (pT b 0) v19) h20 λ_ h22=>R (.tuple #[]) h22):=by
 obtain⟨v,B,O⟩:=H.out;rw[cP.load,B.cell] at ht;obtain rfl:v=t3:=by simpa using ht
 simp only[aMu,cE,reduceIte];intro r hr;refine fH ?_
 try rw[cY]
 have u1:dB h (h.set r (.cells #[.string (tx d)] bR)):=cV.new hr;have s1:fQ (h.set r (.cells #[.string (tx d)] bR)) 1 (.slice (some ⟨r,0,none⟩) 1 1) ([d].map jC):=(eD.lit (jC.rows [d]) dK (by simp) (by decide) (by simp[jC])).slR;generalize h.set r (.cells #[.string (tx d)] bR)=h1 at *;have H1:=H.upd u1;refine jG cP.und cP.und bR.info bR.size bR.bytes bR.zero rfl (by decide) (O.ext u1) s1 (λr hr u hu=>by
  obtain⟨s,-,rfl⟩:=lL.1 hr;exact jC.isC s u hu) (by simp;omega) ?_
 intro v2 h2 F2 O2 u2 g2 _;rw[←qI] at O2;have nb2:b∉F2:=λhb=>by
  rcases g2 b hb with h|h
  ·exact H.nb h
  ·exact(B.ext u1).known h
 have na2:a∉F2:=λhb=>by
  rcases g2 a hb with h|h
  ·exact H.na h
  ·exact(H.fn.ext u1).known h
 refine cP.put ((B.ext u1).upd u2 H.nb) (o:=0) (by show 0<1;decide) O2.slR.isc λh3 B3 u3=>?_;refine hR h3 F2 ⟨((H.fn.ext u1).upd u2 H.na).upd u3 (by simpa using H.ne),⟨v2,B3,O2.upd u3 (λx hx=>by simp only[fW];rintro rfl;exact nb2 hx)⟩,H.ne,na2,nb2,?_,?_⟩
 ·have f1:dZ h0 F:=λx hx=>H.fr x (by simp[hx]);have f2:dZ h0 [b]:=λx hx=>H.fr x (by simp at hx;simp[hx]);exact(H1.ext.fresh u2 f1).fresh u3 f2
 ·intro x hx;rcases gE.1 hx with rfl|hx
  ·exact H.fr x (by simp)
  ·rcases gE.1 hx with rfl|hx
   ·exact H.fr x (by simp)
   ·rcases g2 x hx with h|h
    ·exact H.fr x (by simp[h])
    ·exact H1.ext.none h
theorem aJD{f:FuncId}{cap args:Array Value}{h:PH}{k:cD}:vZ PG (.func (.func f) #[] cap) args h k=aT PG f (#[]++args++cap) h k:=rfl
theorem aPG:∀(d:Nat) {h0 h:PH} {a b:Nat} {acc:List Tx} {F:List Nat} {v:Value} {l:List Pr} {k:Nat},l.length≤2^d->d≤16->k<l.length->l.length≤4096->acc.length+d≤1000->mQ h0->fQ h0 2 v (l.map Pr.cells)->aAf l->aK8 h0 h a b acc F->
  ∀{kk:cD},(∀h' F',aK8 h0 h' a b (acc++oJ l k) F'->kk (.tuple #[]) h')->aT PG aDk #[v,.int .i64 (k:Int),pT a 0,pT b 0] h kk
 | d,h0,h,a,b,acc,F,v,l,k,hd,hd16,hk,hl,hacc,hK,S,hs,H,kk,hkk=>by
  apply aBR.call;unfold aBR;have lv:=S.len (t':=bT) cJ.und;rw[iV] at lv;by_cases h1:l.length=1
  ·have e1:((l.length:Int)==1)=true:=by simp[h1]
   simp only[lv,iB,e1,cE,reduceIte,cT,Nat.reduceAdd];have ep:oJ l k=[]:=by rw[oJ,dif_neg (by omega)]
   rw[ep,zLP] at hkk;exact hkk h F H
  ·have e1:((l.length:Int)==1)=false:=by simp;omega
   have h2:2≤l.length:=by omega
   obtain⟨d,rfl⟩:∃d',d=d'+1:=by
    cases d with
    | zero=>simp at hd;omega
    | succ d'=>exact⟨d',rfl⟩
   obtain⟨q1,q2⟩:=aFU h2 hd;have hlt:=lR h2;have ld:∀{h':PH},Bx h' a [fnP a b]->cG PG h' (loadAt fK (pT a 0))=some (fnP a b):=λB=>by rw[fK.load,B.cell];rfl
   obtain⟨v1,s1,t1⟩:=S.cutP (lo:=none) (hi:=some (.int .i64 ((dU l.length:Nat):Int))) (a:=0) (m:=dU l.length) (.inl ⟨rfl,rfl⟩) (.inr ⟨_,rfl⟩) (by omega) (by omega);obtain⟨v2,s2,t2⟩:=S.cutP (lo:=some (.int .i64 ((dU l.length:Nat):Int))) (hi:=none) (a:=dU l.length) (m:=l.length) (.inr ⟨_,rfl⟩) (.inl ⟨rfl,rfl⟩) (by omega) (by omega);rw[zLb] at t1;rw[zLI] at t2;simp only[lv,iB,e1,cE,reduceIte,cT,Nat.reduceAdd];refine aPO h2 (by omega) ?_;have ht1:aAf (l.take (dU l.length)):=λp hp=>hs p (aKw hp);have ht2:aAf (l.drop (dU l.length)):=λp hp=>hs p (aL3 hp);by_cases hkm:k<dU l.length
   ·have g:((k:Int)<((dU l.length:Nat):Int))=True:=eq_true (by omega);have ep:oJ l k=oJ (l.take (dU l.length)) k++[mC (l.drop (dU l.length))]:=by rw[oJ,dif_pos h2,if_pos hkm]
    simp only[g,ld H.fn,s1,cE,reduceIte,cT,Nat.reduceAdd];unfold fnP;rw[aJD];refine aPG d (l:=l.take (dU l.length)) (by rw[wO];omega) (by omega) (by rw[wO];omega) (by rw[wO];omega) (by omega) hK t1 ht1 H λh3 F3 H3=>?_;obtain⟨w,B3,O3⟩:=H3.out;have lw:∀{h':PH},dB h3 h'->cG PG h' (loadAt cP (pT b 0))=some w:=λu=>by rw[cP.load,(B3.ext u).cell];rfl
    simp only[lw cV.refl,s2,cE,reduceIte,cT,Nat.reduceAdd];refine aLI (aKO (by rw[yR];omega)) (by rw[yR];omega) (hK.ext H3.ext) (t2.ext H3.ext) ht2 λh4 u4=>?_;refine⟨lw u4,?_⟩;refine(H3.upd u4).push _ (lw u4) (by
     have:=aFO d (l.take (dU l.length)) k (by rw[wO];omega);rw[jS];omega) (R:=kk) λh5 F5 H5=>?_
    rw[mZ,←ep] at H5;exact hkk h5 F5 H5
   ·have g:((k:Int)<((dU l.length:Nat):Int))=False:=eq_false (by omega);have ep:oJ l k=oJ (l.drop (dU l.length)) (k-dU l.length)++[mC (l.take (dU l.length))]:=by rw[oJ,dif_pos h2,if_neg hkm]
    have es:IntKind.i64.wrap ((k:Int)-((dU l.length:Nat):Int))=((k-dU l.length:Nat):Int):=by rw[eX (by omega) (by omega)];omega
    simp only[g,ld H.fn,s2,es,cE,reduceIte,cT,Nat.reduceAdd];unfold fnP;rw[aJD];refine aPG d (l:=l.drop (dU l.length)) (by rw[yR];omega) (by omega) (by rw[yR];omega) (by rw[yR];omega) (by omega) hK t2 ht2 H λh3 F3 H3=>?_;obtain⟨w,B3,O3⟩:=H3.out;have lw:∀{h':PH},dB h3 h'->cG PG h' (loadAt cP (pT b 0))=some w:=λu=>by rw[cP.load,(B3.ext u).cell];rfl
    simp only[lw cV.refl,s1,cE,reduceIte,cT,Nat.reduceAdd];refine aLI (aKO (by rw[wO];omega)) (by rw[wO];omega) (hK.ext H3.ext) (t1.ext H3.ext) ht1 λh4 u4=>?_;refine⟨lw u4,?_⟩;refine(H3.upd u4).push _ (lw u4) (by
     have:=aFO d (l.drop (dU l.length)) (k-dU l.length) (by rw[yR];omega);rw[jS];omega) (R:=kk) λh5 F5 H5=>?_
    rw[mZ,←ep] at H5;exact hkk h5 F5 H5
termination_by d=>d
theorem aYC{h:PH}{v:Value}{l:List Pr}{k:Nat}(hk:k<l.length)(hl:l.length≤4096)(hK:mQ h)(S:fQ h 2 v (l.map Pr.cells))(hs:aAf l){kk:cD}(hkk:∀v' h' F,eD h' bR 1 v' ((oJ l k).map jC) F->dZ h F->dB h h'->kk v' h'):
  aT PG aHl #[v,.int .i64 (k:Int)] h kk:=by
 apply aH7.call;unfold aH7;have lv:=S.len (t':=bT) cJ.und;rw[iV] at lv;have g1:((k:Int)<0)=False:=eq_false (by omega);have g2:((l.length:Int)≤(k:Int))=False:=eq_false (by omega);simp only[lv,g1,g2,cE,reduceIte,cT,Nat.reduceAdd];intro r17 hr17
 try rw[cY]
 have u1:dB h (h.set r17 (.cells (dN PG cP) cP)):=cV.new hr17;have B1:=cP.zbox (h:=h) (r:=r17);generalize h.set r17 (.cells (dN PG cP) cP)=h1 at *;intro r19 hr19
 try rw[cY]
 try simp only[nH,cE,reduceIte,cT,Nat.reduceAdd]
 refine fK.fill hr19 rfl λh2 B2 u2=>?_;have ld:cG PG h2 (loadAt fK (pT r19 0))=some (fnP r19 r17):=by rw[fK.load,B2.cell];rfl
 have ne:r19≠r17:=λe=>(B1.apart hr19) e.symm;have H:aK8 h h2 r19 r17 [] []:=⟨B2,⟨_,B1.ext u2,eD.nil⟩,ne,by simp,by simp,u1.trans u2,λx hx=>by
  rcases gE.1 hx with rfl|hx
  ·exact u1.none hr19
  ·simp at hx;subst hx;exact hr17⟩
 simp only[ld,cE,reduceIte,cT,Nat.reduceAdd];unfold fnP;rw[aJD];refine aPG 12 (by omega) (by decide) hk hl (by simp) hK S hs H λh3 F3 H3=>?_;obtain⟨w,B3,O3⟩:=H3.out;have lw:cG PG h3 (loadAt cP (pT r17 0))=some w:=by rw[cP.load,B3.cell];rfl
 simp only[lw,cE,reduceIte,cT,Nat.reduceAdd];rw[xH] at O3;exact hkk w h3 F3 O3 (λx hx=>H3.fr x (by simp[hx])) H3.ext
def Lf.cells(f:Lf)(v:Value):List Value:=[.int .i64 f.i,.int .i64 f.n,.string (tx f.p.k),.string (tx f.p.v),v]
def Lf.val(f:Lf)(v:Value):Value:=.agg (f.cells v).toArray
def fnU(c p o g:Nat):Value:=.func (.func aCR) #[] #[pT c 0,pT p 0,pT o 0,pT g 0]
structure aHO(h0 h:PH)(c p o g:Nat)(f:Lf)(fv:Value)(path:List Tx)(ok:Bool):Prop where
 leaf:Bx h c (f.cells fv)
 pth:∃v,Bx h p [v]∧fQ h0 1 v (path.map jC)
 okb:Bx h o [.bool ok]
 fn:Bx h g [fnU c p o g]
 cp:c≠p
 co:c≠o
 po:p≠o
 gp:g≠p
 go:g≠o
 ext:dB h0 h
 fp:h0 p=none
 fo:h0 o=none
theorem aHO.upd{h0 h h':PH}{c p o g:Nat}{f:Lf}{fv:Value}{path:List Tx}{ok:Bool}(H:aHO h0 h c p o g f fv path ok)(u:dB h h'):aHO h0 h' c p o g f fv path ok:=by
 obtain⟨v,B,S⟩:=H.pth;exact⟨H.leaf.ext u,⟨v,B.ext u,S⟩,H.okb.ext u,H.fn.ext u,H.cp,H.co,H.po,H.gp,H.go,H.ext.trans u,H.fp,H.fo⟩
theorem aHO.fail{h0 h:PH}{c p o g:Nat}{f:Lf}{fv:Value}{path:List Tx}{ok:Bool}(H:aHO h0 h c p o g f fv path ok){R:cD}(hR:∀h',aHO h0 h' c p o g f fv path false->R undef h'):
  cZ PG (dM fY (pT o 0) (.bool false)) h R:=by
 obtain⟨v,B,S⟩:=H.pth;refine fY.put H.okb (o:=0) (by show 0<1;decide) rfl λh1 B1 u1=>?_;exact hR h1 ⟨H.leaf.upd u1 (by simpa using H.co),⟨v,B.upd u1 (by simpa using H.po),S⟩,B1,H.fn.upd u1 (by simpa using H.go),H.cp,H.co,H.po,H.gp,H.go,H.ext.fresh u1 (dZ.one H.fo),H.fp,H.fo⟩
theorem aHO.step{h0 h:PH}{c p o g:Nat}{f:Lf}{fv:Value}{path path':List Tx}{ok:Bool}(H:aHO h0 h c p o g f fv path ok){v':Value}(S':fQ h0 1 v' (path'.map jC)){R:cD}(hR:∀h',aHO h0 h' c p o g f fv path' ok->R undef h'):
  cZ PG (dM cP (pT p 0) v') h R:=by
 obtain⟨v,B,S⟩:=H.pth;refine cP.put B (o:=0) (by show 0<1;decide) S'.isc λh1 B1 u1=>?_;exact hR h1 ⟨H.leaf.upd u1 (by simpa using H.cp),⟨v',B1,S'⟩,H.okb.upd u1 (by simpa using H.po.symm),H.fn.upd u1 (by simpa using H.gp),H.cp,H.co,H.po,H.gp,H.go,H.ext.fresh u1 (dZ.one H.fp),H.fp,H.fo⟩
theorem aUP(p:Pr):(aF4 p).length=32:=rfl
theorem aJ7(a b:Tx):(aAx a b).length=32:=rfl
theorem aT4:∀(d:Nat) {h0 h:PH} {c p o g:Nat} {f:Lf} {fv:Value} {path:List Tx} {ok:Bool} {n i:Nat},n≤2^d->1≤n->n≤4096->i<n->path.length≤1000000->f.p.k.length+f.p.v.length≤10000000->mQ h0->aHO h0 h c p o g f fv path ok->
  ∀{kk:cD},(∀dg rest h',upP f.p i n path=some (dg,rest)->dg.length=32->rest.length≤path.length->aHO h0 h' c p o g f fv rest ok->kk (.string (tx dg)) h')->(∀s rest h',upP f.p i n path=none->s.length≤100->aHO h0 h' c p o g f fv rest false->kk (.string (tx s)) h')->
  aT PG aCR #[.int .i64 (i:Int),.int .i64 (n:Int),pT c 0,pT p 0,pT o 0,pT g 0] h kk
 | d,h0,h,c,p,o,g,f,fv,path,ok,n,i,hd,h1n,hn,hi,hpl,hsm,hK,H,kk,hgood,hbad=>by
  apply aFF.call;unfold aFF;by_cases h1:n=1
  ·subst h1;have e1:(((1:Nat):Int)==1)=true:=rfl;have lp:cG PG h (loadAt cK (pT c 2))=some f.p.val:=cK.agg H.leaf (by show 2+2≤5;decide);simp only[iB,e1,cB.f2,fC,lp,cE,reduceIte,cT,Nat.reduceAdd];refine aSY (hK.ext H.ext) hsm λh2 u2=>?_;exact hgood _ path h2 (by rw[upP,dif_neg (by decide)]) (aUP _) (pC _) (H.upd u2)
  ·have h2:2≤n:=by omega
   have e1:((n:Int)==1)=false:=by simp;omega
   obtain⟨d,rfl⟩:∃d',d=d'+1:=by
    cases d with
    | zero=>simp at hd;omega
    | succ d'=>exact⟨d',rfl⟩
   obtain⟨q1,q2⟩:=aFU h2 hd;have hlt:=lR h2;obtain⟨v,B,S⟩:=H.pth;have lv:=(S.ext H.ext).len (t':=bT) cP.und;rw[iV] at lv;have lp:cG PG h (loadAt cP (pT p 0))=some v:=by rw[cP.load,B.cell];rfl
   simp only[iB,e1,cE,reduceIte,cT,Nat.reduceAdd];refine aPO h2 (by omega) ?_;have q0:({data:=#[]}:ByteArray)=tx []:=rfl;rcases List.eq_nil_or_concat path with hnil|⟨ini,b,hpath⟩
   ·subst hnil;have e2:(((List.length ([]:List Tx):Nat):Int)==0)=true:=rfl;simp only[lp,lv,iB,e2,cE,reduceIte,cT,Nat.reduceAdd];refine H.fail λh3 H3=>?_;rw[q0];exact hbad [] [] h3 (by rw[upP,dif_pos h2];rfl) (by simp) H3
   ·rw[List.concat_eq_append] at hpath;subst hpath;have hlen:(ini++[b]).length=ini.length+1:=by simp
    rw[hlen] at lv hpl;have e2:(((ini.length+1:Nat):Int)==0)=false:=by rw[beq_eq_false_iff_ne];omega
    have es:IntKind.i64.wrap (((ini.length+1:Nat):Int)-1)=((ini.length:Nat):Int):=by rw[eX (by omega) (by omega)];omega
    obtain⟨pa,p1,q1'⟩:=(S.ext H.ext).loadCell cP.und bR.info bR.size bR.und rfl (k:=.i64) (j:=(ini.length:Int)) (x:=.string (tx b)) (by omega) (by rw[pK,wL,List.getElem?_append_right (pC _)];simp[jC]);have lb:dD PG (Builtin.len_ #[bR] bT #[.string (tx b)])=some (.int .i64 (b.length:Int)):=by rw[lX bR.und,hZ]
    by_cases hb:b.length=32
    case neg=>
     have e3:((b.length:Int) !=32)=true:=by simp;omega
     simp only[lp,lv,iB,kI,e2,es,p1,q1',lb,e3,cE,reduceIte,cT,Nat.reduceAdd];refine H.fail λh3 H3=>?_;rw[q0];exact hbad [] _ h3 (by rw[upP,dif_pos h2,List.getLast?_concat];simp[hb]) (by simp) H3
    have e3:((b.length:Int) !=32)=false:=by simp;omega
    obtain⟨v',c1,c2,-⟩:=S.cut cP.und bR.info bR.size (lo:=none) (hi:=some (.int .i64 (ini.length:Int))) (l:=0) (m:=ini.length) (.inl ⟨rfl,rfl⟩) (.inr ⟨_,rfl⟩) (by omega) (by simp);have ec:(((ini++[b]).map jC).take ini.length).drop 0=ini.map jC:=by
     rw[zLb,qI,zLG (by simp),nU (by simp)]
    rw[ec] at c2;simp only[lp,lv,iB,kI,e2,es,p1,q1',lb,e3,c1,cE,reduceIte,cT,Nat.reduceAdd];refine H.step c2 λh3 H3=>?_;have ld:cG PG h3 (loadAt fS (pT g 0))=some (fnU c p o g):=by rw[fS.load,H3.fn.cell];rfl
    have eu:upP f.p i n (ini++[b])=if i<dU n then(upP f.p i (dU n) ini).map λx=>(aAx x.1 b,x.2) else(upP f.p (i-dU n) (n-dU n) ini).map λx=>(aAx b x.1,x.2):=by
     rw[upP,dif_pos h2,List.getLast?_concat,List.dropLast_concat];simp[hb]
    by_cases hil:i<dU n
    ·have g1:((i:Int)<((dU n:Nat):Int))=True:=eq_true (by omega);rw[if_pos hil] at eu;simp only[g1,ld,cE,reduceIte,cT,Nat.reduceAdd];unfold fnU;rw[aJD];refine aT4 d (n:=dU n) (i:=i) q1 hlt.1 (by omega) hil (by omega) hsm hK H3 (λdg rest h4 e4 l4 r4 H4=>?_) (λs rest h4 e4 l4 H4=>?_)
     ·refine aKZ (hK.ext H4.ext) (by omega) λh5 u5=>?_;exact hgood _ rest h5 (by rw[eu,e4];rfl) (aJ7 _ _) (by rw[hlen];omega) (H4.upd u5)
     ·refine aKZ (hK.ext H4.ext) (by omega) λh5 u5=>?_;exact hbad _ rest h5 (by rw[eu,e4];rfl) (by rw[aJ7];decide) (H4.upd u5)
    ·have g1:((i:Int)<((dU n:Nat):Int))=False:=eq_false (by omega);rw[if_neg hil] at eu;have w1:IntKind.i64.wrap ((i:Int)-((dU n:Nat):Int))=((i-dU n:Nat):Int):=by rw[eX (by omega) (by omega)];omega
     have w2:IntKind.i64.wrap ((n:Int)-((dU n:Nat):Int))=((n-dU n:Nat):Int):=by rw[eX (by omega) (by omega)];omega
     simp only[g1,ld,w1,w2,cE,reduceIte,cT,Nat.reduceAdd];unfold fnU;rw[aJD];refine aT4 d (n:=n-dU n) (i:=i-dU n) q2 (by omega) (by omega) (by omega) (by omega) hsm hK H3 (λdg rest h4 e4 l4 r4 H4=>?_) (λs rest h4 e4 l4 H4=>?_)
     ·refine aKZ (hK.ext H4.ext) (by omega) λh5 u5=>?_;exact hgood _ rest h5 (by rw[eu,e4];rfl) (aJ7 _ _) (by rw[hlen];omega) (H4.upd u5)
     ·refine aKZ (hK.ext H4.ext) (by omega) λh5 u5=>?_;exact hbad _ rest h5 (by rw[eu,e4];rfl) (by rw[aJ7];decide) (H4.upd u5)
termination_by d=>d
theorem aV1{h:PH}{f:Lf}{fv:Value}(S:fQ h 1 fv (f.path.map jC))(hpl:f.path.length≤1000000)(hsm:f.p.k.length+f.p.v.length≤10000000)(hK:mQ h){kk:cD}
  (hgood:∀t h',pH f=some t->t.length=32->dB h h'->kk (.tuple #[.string (tx t),.bool true]) h') (hbad:pH f=none->∀h',dB h h'->kk (.tuple #[.string (tx []),.bool false]) h'):
  aT PG aGr #[f.val fv] h kk:=by
 apply aG2.call;unfold aG2;intro r1 hr1
 try rw[cY]
 have u1:dB h (h.set r1 (.cells (Value.cells (f.val fv)) cB)):=cV.new hr1;have B1:Bx (h.set r1 (.cells (Value.cells (f.val fv)) cB)) r1 (f.cells fv):=Bx.new;generalize h.set r1 (.cells (Value.cells (f.val fv)) cB)=h1 at *;have li:∀{h':PH},Bx h' r1 (f.cells fv)->cG PG h' (loadAt bT (pT r1 0))=some (.int .i64 f.i):=λB=>by rw[bT.load,B.cell];rfl
 have ln:∀{h':PH},Bx h' r1 (f.cells fv)->cG PG h' (loadAt bT (pT r1 1))=some (.int .i64 f.n):=λB=>by rw[bT.load,B.cell];rfl
 have lp:cG PG h1 (loadAt cP (pT r1 4))=some fv:=by rw[cP.load,B1.cell];rfl
 have q0:({data:=#[]}:ByteArray)=tx []:=rfl;by_cases a1:f.n<1
 ·have g1:=eq_true a1;simp only[cB.f1,fC,ln B1,g1,q0,cE,reduceIte,cT,Nat.reduceAdd];exact hbad (by unfold pH;rw[if_pos (.inl a1)]) _ u1
 have g1:=eq_false a1;by_cases a2:4096<f.n
 ·have g2:=eq_true a2;simp only[cB.f1,fC,ln B1,g1,g2,q0,cE,reduceIte,cT,Nat.reduceAdd];exact hbad (by unfold pH;rw[if_pos (.inr (.inl a2))]) _ u1
 have g2:=eq_false a2;by_cases a3:f.i<0
 ·have g3:=eq_true a3;simp only[cB.f1,cB.f0,fC,ln B1,li B1,g1,g2,g3,q0,cE,reduceIte,cT,Nat.reduceAdd];exact hbad (by unfold pH;rw[if_pos (.inr (.inr (.inl a3)))]) _ u1
 have g3:=eq_false a3;by_cases a4:f.n≤f.i
 ·have g4:=eq_true a4;simp only[cB.f1,cB.f0,fC,ln B1,li B1,g1,g2,g3,g4,q0,cE,reduceIte,cT,Nat.reduceAdd];exact hbad (by unfold pH;rw[if_pos (.inr (.inr (.inr a4)))]) _ u1
 have g4:=eq_false a4;have hc:pH f=aZR f.n.toNat (upP f.p f.i.toNat f.n.toNat f.path):=by
  unfold pH;rw[if_neg (by omega)]
 simp only[cB.f1,cB.f0,cB.f3,fC,ln B1,li B1,lp,g1,g2,g3,g4,cE,reduceIte,cT,Nat.reduceAdd];intro r55 hr55
 try rw[cY]
 have u2:dB h1 (h1.set r55 (.cells (dN PG cP) cP)):=cV.new hr55;have B2:=cP.zbox (h:=h1) (r:=r55);have C1:=B1.ext u2;generalize h1.set r55 (.cells (dN PG cP) cP)=h2 at *;intro r57 hr57
 try rw[cY]
 have u3:dB h2 (h2.set r57 (.cells (dN PG fY) fY)):=cV.new hr57;have B3:=fY.zbox (h:=h2) (r:=r57);have D1:=C1.ext u3;have D2:=B2.ext u3;have n57:r55≠r57:=B2.apart hr57;have n57':r1≠r57:=C1.apart hr57;have n55':r1≠r55:=B1.apart hr55;generalize h2.set r57 (.cells (dN PG fY) fY)=h3 at *;refine cP.put D2 (o:=0) (by decide) S.isc λh4 B4 u4=>?_;have E1:=D1.upd u4 (by simpa using n55');have E3:=B3.upd u4 (by simpa using n57.symm);refine fY.put E3 (o:=0) (by decide) rfl λh5 B5 u5=>?_;have G1:=E1.upd u5 (by simpa using n57');have G4:=B4.upd u5 (by simpa using n57);intro r63 hr63
 try rw[cY]
 try simp only[nH,cE,reduceIte,cT,Nat.reduceAdd]
 refine fS.fill hr63 rfl λh6 B6 u6=>?_;have k55:h r55=none:=u1.none hr55;have k57:h r57=none:=(u1.trans u2).none hr57;have ex6:dB h h6:=(((((u1.trans u2).trans u3).fresh u4 (dZ.one k55)).fresh u5 (dZ.one k57))).trans u6;have n63p:r63≠r55:=(G4.apart hr63).symm;have n63o:r63≠r57:=(B5.apart hr63).symm;have H:aHO h h6 r1 r55 r57 r63 f fv f.path true:=⟨G1.ext u6,⟨fv,G4.ext u6,S⟩,B5.ext u6,B6,n55',n57',n57,n63p,n63o,ex6,k55,k57⟩;have ld:cG PG h6 (loadAt fS (pT r63 0))=some (fnU r1 r55 r57 r63):=by rw[fS.load,B6.cell];rfl
 have lo:∀{h':PH} {path ok},aHO h h' r1 r55 r57 r63 f fv path ok->cG PG h' (loadAt fY (pT r57 0))=some (.bool ok):=λH=>by rw[fY.load,H.okb.cell];rfl
 obtain⟨i,hi⟩:=zLn (Int.not_lt.1 a3);obtain⟨n,hn⟩:=zLn (show 0≤f.n by omega);rw[hi,hn,pK,pK] at hc;simp only[ld,cB.f0,cB.f1,fC,li H.leaf,ln H.leaf,hi,hn,cE,reduceIte,cT,Nat.reduceAdd];unfold fnU;rw[aJD];refine aT4 12 (by omega) (by omega) (by omega) (by omega) hpl hsm hK H (λdg rest h7 e7 l7 r7 H7=>?_) (λs rest h7 e7 l7 H7=>?_)
 ·obtain⟨v7,B7,S7⟩:=H7.pth;have l55:cG PG h7 (loadAt cP (pT r55 0))=some v7:=by rw[cP.load,B7.cell];rfl
  have lv:=S7.len (t':=bT) cP.und;rw[iV] at lv;cases rest with
  | nil=>
   have hg:((0:Int)<((([]:List Tx).length:Nat):Int))=False:=eq_false (by simp);simp only[lo H7,l55,lv,hg,cB.f1,fC,ln H7.leaf,hn,cE,reduceIte,cT,Nat.reduceAdd];refine aQ1 (hK.ext H7.ext) (by omega) (by omega) λh8 u8=>?_;exact hgood _ h8 (by rw[hc,e7];rfl) rfl (H7.ext.trans u8)
  | cons x rest=>
   have hg:((0:Int)<(((x::rest).length:Nat):Int))=True:=eq_true (by rw[tM];omega);simp only[lo H7,l55,lv,hg,q0,cE,reduceIte,cT,Nat.reduceAdd];exact hbad (by rw[hc,e7];rfl) _ H7.ext
 ·simp only[lo H7,q0,cE,reduceIte,cT,Nat.reduceAdd];exact hbad (by rw[hc,e7];rfl) _ H7.ext
structure It where
 p:Pk
 g:Int
 deriving DecidableEq
instance:Inhabited It:=⟨⟨default,0⟩⟩
def It.cells(i:It):List Value:=[.int .i64 i.p.f,.int .u64 i.p.s,.int .u64 i.p.t,.string i.p.d,.int .i64 i.g]
structure Ac where
 dr:Bool
 n:Nt
 deriving DecidableEq
def Ac.cells(a:Ac):List Value:=[.bool a.dr,.int .i64 a.n.k,.int .i64 a.n.p.f,.int .u64 a.n.p.s,.int .u64 a.n.p.t,.string a.n.p.d]
abbrev Ky:=Int×Int
def Pk.key(p:Pk):Ky:=(p.f,p.s)
def It.key(i:It):Ky:=i.p.key
def aZU(k:Ky):Value:=.agg #[.int .i64 k.1,.int .u64 k.2]
def It.val(i:It):Value:=.agg i.cells.toArray
theorem It.allCell(p:It):∀v∈p.cells.toArray.toList,fO v=true:=by simp[It.cells,fO]
theorem It.rows(l:List It):Rows 5 (l.map It.cells):=λr hr=>by obtain⟨m,_,rfl⟩:=lL.1 hr;rfl
theorem Ac.rows(l:List Ac):Rows 6 (l.map Ac.cells):=λr hr=>by obtain⟨m,_,rfl⟩:=lL.1 hr;rfl
theorem Bx.it{h:PH}{r:Nat}{n:It}(H:Bx h r n.cells):cG PG h (loadAt fE (pT r 0))=some n.val:=by
 obtain⟨e,h1⟩:=H;rw[fE.loadAgg h1 (by show 0+5≤5;decide)];rfl
theorem Bx.id{h:PH}{r:Nat}{k:Ky}(H:Bx h r [.int .i64 k.1,.int .u64 k.2]):cG PG h (loadAt sO (pT r 0))=some (aZU k):=by
 obtain⟨e,h1⟩:=H;rw[sO.loadAgg h1 (by show 0+2≤2;decide)];rfl
def aW7(x:Int):List Value:=[.int .i64 x]
theorem aW7.rows(l:List Int):Rows 1 (l.map aW7):=λr hr=>by obtain⟨m,_,rfl⟩:=lL.1 hr;rfl
def rP(k:Tx):Value:=.string (tx k)
theorem aZs{h:PH}{n:Nat}(a b:Tx):cG PG h (Op.equalIn (n+1) bR (.string (tx a)) (.string (tx b)))=some (decide (a=b)):=by
 rw[xP bR.und,aAY];congr 1;rw[zLm];simp only[decide_eq_true_eq];exact⟨aMA,λe=>by rw[e]⟩
theorem aDy{h:PH}{t:TypeId}{x y:Operand}(a b:Tx):cG PG h (kG .neq t x y (.string (tx a)) (.string (tx b)))=some (.bool (!decide (a=b))):=by
 have e:cG PG h (kG .neq t x y (.string (tx a)) (.string (tx b)))=some (.bool (!((tx a).toList==(tx b).toList))):=rfl;rw[e,aDH,aDH];congr 3;rw[zLm];simp
theorem aC6{h:PH}{t:TypeId}{x y:Operand}(a b:Tx):cG PG h (kG .eql t x y (.string (tx a)) (.string (tx b)))=some (.bool (decide (a=b))):=by
 have e:cG PG h (kG .eql t x y (.string (tx a)) (.string (tx b)))=some (.bool ((tx a).toList==(tx b).toList)):=rfl;rw[e,aDH,aDH];congr 2;rw[zLm];simp
theorem aJN:aJ2 PG bR rP where
 chk:=λh b a=>by unfold rP;cases b<;>kernel_rfl
 eq:=λh a b=>aZs (n:=9999) a b
 bits:=λa=>by
  show Instr.sameBits (9999+1) (.string (tx a)) (.string (tx a))=true;simp[Instr.sameBits,aAY]
 now:=⟨_,bR.und,.inr λa b=>by
  unfold rP;show some (tx a==tx b)=_;rw[aAY];congr 1;rw[zLm];simp only[decide_eq_true_eq];exact⟨aMA,λe=>by rw[e]⟩⟩
theorem aGd{h:PH}{e:TypeId}{n:Nat}{v:Value}{rows:List (List Value)}{F:List Nat}(O:eD h e n v rows F):aDR v F:=λy m c e1=>by
 rcases O.here with⟨e2,_,_⟩|⟨b,cap',cs,e2,e3,_⟩
 ·rw[e2] at e1;cases e1
 ·rw[e2] at e1;simp only[Value.slice.injEq,zL8] at e1;rw[←e1.1,e3];simp
structure fU where
 kind:Int
 dest:Int
 height:Int
 pfrom:Int
 pseq:Int
 ptimeout:Int
 pdata:ByteArray
 proof:ByteArray
 deriving DecidableEq
def fU.cells(m:fU):List Value:=[.int .i64 m.kind,.int .i64 m.dest,.int .u64 m.height,.int .i64 m.pfrom,.int .u64 m.pseq,.int .u64 m.ptimeout,.string m.pdata,.string m.proof]
theorem fU.rows(l:List fU):Rows 8 (l.map fU.cells):=λr hr=>by
 obtain⟨m,_,rfl⟩:=lL.1 hr;rfl
theorem fU.isCell(l:List fU):∀r∈l.map fU.cells,∀u∈r,fO u=true:=λr hr u hu=>by
 obtain⟨m,_,rfl⟩:=lL.1 hr;simp only[fU.cells,gE,kD,or_false] at hu;rcases hu with rfl|rfl|rfl|rfl|rfl|rfl|rfl|rfl<;>rfl
theorem fU.eqIn{h:PH}(m m':fU):cG PG h (Op.equalIn (9999+1) cH (.agg m.cells.toArray) (.agg m'.cells.toArray))=some (decide (m=m')):=by
 have hp:cG PG h (Op.equalIn (9998+1) aR (.agg #[.int .i64 m.pfrom,.int .u64 m.pseq,.int .u64 m.ptimeout,.string m.pdata]) (.agg #[.int .i64 m'.pfrom,.int .u64 m'.pseq,.int .u64 m'.ptimeout,.string m'.pdata]))=
   some (m.pfrom==m'.pfrom&&(m.pseq==m'.pseq&&(m.ptimeout==m'.ptimeout&&(m.pdata==m'.pdata&&true)))):=by
  refine(aCB aR.und (by kernel_rfl) (λf=>match f.offset with|0=>m.pfrom==m'.pfrom|1=>m.pseq==m'.pseq|2=>m.ptimeout==m'.ptimeout|_=>m.pdata==m'.pdata) ?_);intro f hf;simp only[gE,kD,or_false] at hf;rcases hf with rfl|rfl|rfl|rfl
  ·exact⟨by decide,_,_,iL bT.und rfl rfl,iL bT.und rfl rfl,sY bT.und⟩
  ·exact⟨by decide,_,_,iL cA.und rfl rfl,iL cA.und rfl rfl,sY cA.und⟩
  ·exact⟨by decide,_,_,iL cA.und rfl rfl,iL cA.und rfl rfl,sY cA.und⟩
  ·exact⟨by decide,_,_,iL bR.und rfl rfl,iL bR.und rfl rfl,xP bR.und⟩
 have hm:cG PG h (Op.equalIn (9999+1) cH (.agg m.cells.toArray) (.agg m'.cells.toArray))=some (m.kind==m'.kind&&(m.dest==m'.dest&&(m.height==m'.height&&((m.pfrom==m'.pfrom&&(m.pseq==m'.pseq&&(m.ptimeout==m'.ptimeout&&(m.pdata==m'.pdata&&true))))&&(m.proof==m'.proof&&true))))):=by
  refine(aCB cH.und (by kernel_rfl) (λf=>match f.offset with|0=>m.kind==m'.kind|1=>m.dest==m'.dest|2=>m.height==m'.height|3=>(m.pfrom==m'.pfrom&&(m.pseq==m'.pseq&&(m.ptimeout==m'.ptimeout&&(m.pdata==m'.pdata&&true))))|_=>m.proof==m'.proof) ?_);intro f hf;simp only[gE,kD,or_false] at hf;rcases hf with rfl|rfl|rfl|rfl|rfl
  ·exact⟨by decide,_,_,iL bT.und rfl rfl,iL bT.und rfl rfl,sY bT.und⟩
  ·exact⟨by decide,_,_,iL bT.und rfl rfl,iL bT.und rfl rfl,sY bT.und⟩
  ·exact⟨by decide,_,_,iL cA.und rfl rfl,iL cA.und rfl rfl,sY cA.und⟩
  ·exact⟨by decide,_,_,aLN aR.und rfl aR.info aR.size,aLN aR.und rfl aR.info aR.size,hp⟩
  ·exact⟨by decide,_,_,iL bR.und rfl rfl,iL bR.und rfl rfl,xP bR.und⟩
 rw[hm];congr 1;simp only[aAY];rw[zLm];cases m;cases m';simp[fU.mk.injEq,and_assoc]
theorem fU.neq{h:PH}{x y:Operand}(m m':fU):cG PG h (kG .neq cH x y (.agg m.cells.toArray) (.agg m'.cells.toArray))=some (.bool (!decide (m=m'))):=aMr (by kernel_rfl) (fU.eqIn m m')
theorem fU.eql{h:PH}{x y:Operand}(m m':fU):cG PG h (kG .eql cH x y (.agg m.cells.toArray) (.agg m'.cells.toArray))=some (.bool (decide (m=m'))):=aLx (by kernel_rfl) (fU.eqIn m m')
theorem fQ.msg{h:PH}{x:Value}{xs:List fU}(H:fQ h 8 x (xs.map fU.cells)){k:IntKind}{j:Int}{m:fU}(h0:0≤j)(hm:xs[j.toNat]? =some m):
  ∃a,dD PG (indexAt dG x (.int k j))=some (.pointer (some a))∧cG PG h (loadAt cH (.pointer (some a)))=some (.agg m.cells.toArray):=
 H.loadAgg dG.und cH.info cH.size cH.und rfl h0 (by rw[wL,hm];rfl)
def fU.zero:fU:=⟨0,0,0,0,0,0,⟨#[]⟩,⟨#[]⟩⟩
theorem fU.allCell(m:fU):∀v∈m.cells.toArray.toList,fO v=true:=λv hv=>by
 simp only[fU.cells,gE,kD,or_false] at hv;rcases hv with rfl|rfl|rfl|rfl|rfl|rfl|rfl|rfl<;>rfl
theorem fU.box{h:PH}{r:Nat}{c:Array Value}(m:fU){k:cD}(hb:h r=some (.cells c cH (0,0)))(hc:c.size=8)(hk:k undef (h.set r (.cells m.cells.toArray cH (0,0)))):
  cZ PG (dM cH (pT r 0) (.agg m.cells.toArray)) h k:=
 yF hb cH.info cH.size (by show 0<8;decide) hc (fU.allCell m) hk
theorem cV.box{F:List Nat}{h h1:PH}{r:Nat}{o o':Obj}(hr:h r=none)(e:h1=(h.set r o).set r o'):cV F h h1:=by
 subst e;rw[aAj];exact cV.new hr
def mv(l:List fU)(k to:Nat)(m:fU):List fU:=
 if k<to then l.take k++(l.drop (k+1)).take (to-k)++[m]++l.drop (to+1) else l.take to++[m]++(l.drop to).take (k-to)++l.drop (k+1)
def fU.one(n:Int):fU:={fU.zero with kind:=1,height:=n}
theorem aQV(x:Int):dD PG (convert bT nS (.int .i64 x))=some (.int .u64 (IntKind.u64.wrap x)):=by kernel_rfl
theorem aQS(x:Int):dD PG (convert nS bT (.int .u64 x))=some (.int .i64 (IntKind.i64.wrap x)):=by kernel_rfl
theorem aUb{h:PH}{n:Nat}{fid:FuncId}{cap:Array Value}{f:Nat->Bool}(hn:n≤1000000000)(hm:∀i j,i≤j->j<n->f i=true->f j=true)
  (hf:∀i,i<n->∀k',k' (.bool (f i)) h->aT PG fid (#[] ++ #[.int .i64 i]++cap) h k') {k:cD}
  (hk:∀m,m≤n->(∀i,i<m->f i=false)->(∀i,m≤i->i<n->f i=true)->k (.int .i64 m) h):
  aT PG aHs #[.int .i64 n,.func (.func fid) #[] cap] h k:=by
 apply aH3.call;unfold aH3;refine⟨λvs h'=>∃i j:Nat,i≤j∧j≤n∧vs=[.func (.func fid) #[] cap,.int .i64 i,.int .i64 j]∧h'=h∧(∀x,x<i->f x=false)∧(∀x,j≤x->x<n->f x=true),λvs _=>match vs with|[_,.int _ i,.int _ j]=>(j-i).toNat|_=>0,⟨0,n,by omega,by omega,rfl,rfl,by omega,by omega⟩,?_⟩;rintro ρ h' ⟨i,j,hij,hj,hvs,rfl,h1,h2⟩;simp only[iI,iU,kR,and_true] at hvs;obtain⟨e0,e1,e2⟩:=hvs;rw[e0,e1,e2];unfold aKb;by_cases hc:i<j
 ·have hd:((i:Int)<(j:Int))=True:=by simp only[eq_iff_iff,iff_true];omega
  have a1:IntKind.i64.wrap ((i:Int)+(j:Int))=((i+j:Nat):Int):=by rw[eX (by omega) (by omega)];omega
  have a2:IntKind.u64.wrap ((i+j:Nat):Int)=((i+j:Nat):Int):=by
   unfold IntKind.wrap;simp[IntKind.signed,IntKind.bits];omega
  have a3:((i+j:Nat):Int).fdiv (2^(min (1:Int).toNat IntKind.u64.bits))=(((i+j)/2:Nat):Int):=by
   have:min (1:Int).toNat IntKind.u64.bits=1:=by decide
   rw[this,Int.fdiv_eq_ediv_of_nonneg _ (by decide)];omega
  have a4:IntKind.i64.wrap (((i+j)/2:Nat):Int)=(((i+j)/2:Nat):Int):=by rw[eX (by omega) (by omega)]
  have a5:IntKind.i64.wrap ((((i+j)/2:Nat):Int)+1)=(((i+j)/2+1:Nat):Int):=by rw[eX (by omega) (by omega)];omega
  simp only[hd,a1,aQV,a2,aJb (show(0:Int)≤1 by decide),a3,aQS,a4,cE,reduceIte];refine hf ((i+j)/2) (by omega) _ ?_;cases e:f ((i+j)/2) with
  | false=>
   simp only[a5,cE,reduceIte];refine⟨⟨(i+j)/2+1,j,by omega,hj,rfl,rfl,λx hx=>?_,h2⟩,by simp[e1,e2];omega⟩;cases e':f x with
   | false=>rfl
   | true=>rw[hm x ((i+j)/2) (by omega) (by omega) e'] at e;cases e
  | true=>
   simp only[cE,reduceIte];exact⟨⟨i,(i+j)/2,by omega,by omega,rfl,rfl,h1,λx hx hx2=>hm _ _ hx hx2 e⟩,by simp[e1,e2];omega⟩
 ·have hd:((i:Int)<(j:Int))=False:=by apply eq_false;omega
  simp only[hd,cE,reduceIte];have:i=j:=by omega
  subst this;exact hk i hj h1 h2
structure gO where
 height:Int
 root:ByteArray
 deriving DecidableEq
def gO.cells(m:gO):List Value:=[.int .u64 m.height,.string m.root]
theorem gO.rows(l:List gO):Rows 2 (l.map gO.cells):=λr hr=>by
 obtain⟨m,_,rfl⟩:=lL.1 hr;rfl
theorem gO.isCell(l:List gO):∀r∈l.map gO.cells,∀u∈r,fO u=true:=λr hr u hu=>by
 obtain⟨m,_,rfl⟩:=lL.1 hr;simp only[gO.cells,gE,kD,or_false] at hu;rcases hu with rfl|rfl<;>rfl
def wI(x:Int):List Value:=[.int .u64 x]
theorem wI.rows(l:List Int):Rows 1 (l.map wI):=λr hr=>by
 obtain⟨m,_,rfl⟩:=lL.1 hr;rfl
theorem wI.isCell(l:List Int):∀r∈l.map wI,∀u∈r,fO u=true:=λr hr u hu=>by
 obtain⟨m,_,rfl⟩:=lL.1 hr;simp only[wI,gE,kD,or_false] at hu;subst hu;rfl
def qF(l:List gO):List Int:=l.map gO.height
def aLU(hs:List Int):Int:=hs.getLast?.getD 0
def jK(l:List gO)(x:Int):Option ByteArray:=(l.find? λp=>decide (x=p.height)).map gO.root
def sF(l:List gO)(x:gO):Int×List gO:=if x.root.size≠32 then(1,l) else if x.height∈qF l then(4,l) else if 4096≤l.length then(2,l) else(0,l++[x])
structure qU(hs:List Int)(l:List gO):Prop where
 perm:hs.Perm (qF l)
 up:hs.Pairwise (· < ·)
theorem qU.mem{hs:List Int}{l:List gO}(H:qU hs l){x:Int}:x∈hs↔x∈qF l:=H.perm.mem_iff
theorem qU.len{hs:List Int}{l:List gO}(H:qU hs l):hs.length=l.length:=by rw[H.perm.length_eq];simp[qF]
theorem aLQ(l:List gO)(x:Int):(jK l x).isSome=decide (x∈qF l):=by
 unfold jK qF;induction l with
 | nil=>rfl
 | cons p ps ih=>
  simp only[List.find?_cons,iI,gE];by_cases e:x=p.height
  ·simp[e]
  ·simp only[e,decide_false,false_or];exact ih
def gO.ent(p:gO):Int×Value:=(p.height,.string p.root)
theorem aRk(l:List gO)(x:Int):aCv (l.map gO.ent) x=(jK l x).map Value.string:=by
 unfold jK aCv;induction l with
 | nil=>rfl
 | cons p ps ih=>
  simp only[List.find?_cons,iI,gO.ent];by_cases e:x=p.height
  ·simp[e]
  ·simp only[e,decide_false];exact ih
theorem aWr(l:List gO):xW (l.map gO.ent)=qF l:=by simp[xW,qF,gO.ent]
theorem qU.cut{hs:List Int}{l:List gO}(H:qU hs l){x:gO}(hx:x.height∉qF l){m:Nat}(h1:∀y∈hs.take m,y<x.height)(h2:∀y∈hs.drop m,x.height≤y):qU (hs.take m++[x.height]++hs.drop m) (l++[x]) where
 perm:=by
  have:qF (l++[x])=qF l++[x.height]:=by simp[qF]
  rw[this];refine((List.perm_append_comm (l₁:=hs.take m) (l₂:=[x.height])).append_right _).trans ?_;rw[mZ,aPW];exact List.perm_append_comm.trans (H.perm.append_right _)
 up:=by
  have hs':=H.up;rw[←aPW m hs,List.pairwise_append] at hs';have h2':∀y∈hs.drop m,x.height<y:=λy hy=>by
   have h3:=h2 y hy;have:y≠x.height:=by rintro rfl;exact hx (H.mem.1 (aL3 hy))
   omega
  rw[mZ,List.pairwise_append];refine⟨hs'.1,?_,?_⟩
  ·rw[List.singleton_append,List.pairwise_cons];exact⟨h2',hs'.2.1⟩
  ·intro a ha b hb;rcases gE.1 (by simpa using hb) with rfl|hb
   ·exact h1 a ha
   ·exact hs'.2.2 a ha b hb
structure qP(h:PH)(a:Nat)(l:List gO)(hs:List Int)(F:List Nat):Prop where
 here:∃r v G,h a=some (.cells #[.map (some r),v] gQ (0,0))∧jX aLa h r (l.map gO.ent)∧eD h cA 1 v (hs.map wI) G∧F=a::r::G∧a≠r∧a∉G∧r∉G
 rank:qU hs l
 few:l.length≤4096
theorem qP.known{h:PH}{a:Nat}{l:List gO}{hs:List Int}{F:List Nat}(H:qP h a l hs F):∀b∈F,h b≠none:=by
 obtain⟨r,v,G,ha,hM,hO,rfl,-⟩:=H.here;intro b hb;simp only[gE] at hb;rcases hb with rfl|rfl|hb
 ·rw[ha];simp
 ·exact hM.known
 ·exact hO.known b hb
theorem qP.upd{h h':PH}{a:Nat}{l:List gO}{hs:List Int}{F G:List Nat}(H:qP h a l hs F)(u:cV G h h')(hd:∀b∈F,b∉G):qP h' a l hs F:=by
 obtain⟨r,v,G',ha,hM,hO,rfl,hn⟩:=H.here;exact⟨⟨r,v,G',u.get ha (hd a (by simp)),hM.upd u (hd r (by simp)),hO.upd u (λb hb=>hd b (by simp[hb])),rfl,hn⟩,H.rank,H.few⟩
theorem qP.ext{h h':PH}{a:Nat}{l:List gO}{hs:List Int}{F:List Nat}(H:qP h a l hs F)(u:dB h h'):qP h' a l hs F:=H.upd u (by simp)
theorem aYJ{h:PH}{k:cD}(hk:∀a h' F,qP h' a [] [] F->dB h h'->dZ h F->k (pT a 0) h'):aT PG aIi #[] h k:=by
 apply aI4.call;unfold aI4;simp only[aFC,cE,reduceIte];intro r hr;refine fH ?_;have e1:dD PG (build gQ #[(0,Value.map (some r))])=some (.agg #[.map (some r),.slice none 0 0]):=by kernel_rfl
 simp only[e1,cE,reduceIte];intro a ha;have hne:a≠r:=by rintro rfl;rw[dK] at ha;cases ha
 have ha0:h a=none:=by rwa [pR hne] at ha
 refine hk a _ [a,r] ⟨⟨r,.slice none 0 0,[],dK,jX.new.ext (cV.new ha),eD.nil,rfl,hne,by simp,by simp⟩,⟨by simp[qF],by simp⟩,by simp⟩ ((cV.new hr).trans (cV.new ha)) ?_;intro b hb;simp only[gE,kD,or_false] at hb;rcases hb with rfl|rfl
 ·exact ha0
 ·exact hr
theorem fQ.u64{h:PH}{x:Value}{xs:List Int}(H:fQ h 1 x (xs.map wI)){k:IntKind}{j:Nat}{m:Int}(hm:xs[j]? =some m):
  ∃a,dD PG (indexAt dO x (.int k j))=some (.pointer (some a))∧cG PG h (loadAt cA (.pointer (some a)))=some (.int .u64 m):=
 H.loadCell dO.und cA.info cA.size cA.und rfl (by omega) (by simp[wL,hm,wI])
theorem aWX{h:PH}{a:Nat}{mv v:Value}{hs:List Int}{G:List Nat}(ha0:h a=some (.cells #[mv,v] gQ (0,0)))(hO0:eD h cA 1 v (hs.map wI) G)(hup:hs.Pairwise (· < ·))(hfew:hs.length≤4096)(x:Int){k:cD}
  (hk:∀m h',m≤hs.length->(∀y∈hs.take m,y<x)->(∀y∈hs.drop m,x≤y)->dB h h'->k (.int .i64 (m:Nat)) h'):aT PG aCC #[pT a 0,.int .u64 x] h k:=by
 apply aA7.call;unfold aA7;intro r1 hr1;simp only[cE,reduceIte];intro r3 hr3;have u1:dB h (h.set r1 (.cells (Value.cells (pT a 0)) iT)):=cV.new hr1;have hne:r1≠r3:=aQ2 dK hr3;have e1:(h.set r1 (.cells (Value.cells (pT a 0)) iT)) r1=some (.cells #[pT a 0] iT):=dK;generalize h.set r1 (.cells (Value.cells (pT a 0)) iT)=h1 at *;have u2:dB h1 (h1.set r3 (.cells (Value.cells (.int .u64 x)) cA)):=cV.new hr3;have e2:(h1.set r3 (.cells (Value.cells (.int .u64 x)) cA)) r3=some (.cells #[.int .u64 x] cA):=dK;have e3:=u2.get e1;generalize h1.set r3 (.cells (Value.cells (.int .u64 x)) cA)=h2 at *;have w:=u1.trans u2;have ha:=w.get ha0;have hO:=hO0.ext w;have hlv:=hO.slR.len (t':=bT) dO.und;rw[iV] at hlv;simp only[iT.load,dE,e3,gQ.f1,fC,dO.load,ha,hlv,cE,reduceIte];refine aUb (f:=λi=>decide (x≤hs.getD i 0)) (by omega) ?_ ?_ ?_
 ·intro i j hij hj hfi;simp only[decide_eq_true_eq] at hfi ⊢;by_cases e:i=j
  ·subst e;exact hfi
  ·have:=List.pairwise_iff_getElem.1 hup i j (by omega) hj (by omega);rw[aAo,mB (by omega)] at hfi ⊢;simp only[aIr] at hfi ⊢;omega
 ·intro i hi k' hk';show aT PG aAv #[.int .i64 i,pT r1 0,pT r3 0] h2 k';apply qL.call;unfold qL;obtain⟨p,p1,p2⟩:=hO.slR.u64 (k:=.i64) (j:=i) (m:=hs.getD i 0) (by rw[aAo,mB hi];rfl);have p3:cG PG h2 (loadAt cA (pT r3 0))=some (.int .u64 x):=by rw[cA.load];simp[dE,e2]
  simp only[iT.load,dE,e3,gQ.f1,fC,dO.load,ha,p1,p2,p3,cE,reduceIte];exact hk'
 ·intro m hm h1 h2;refine hk m _ hm ?_ ?_ w
  ·intro y hy;obtain⟨i,hi,rfl⟩:=List.mem_iff_getElem.1 hy;rw[wO] at hi;have:=h1 i (by omega);rw[aAo,mB (by omega)] at this;simp only[aIr,decide_eq_false_iff_not] at this;rw[List.getElem_take];omega
  ·intro y hy;obtain⟨i,hi,rfl⟩:=List.mem_iff_getElem.1 hy;rw[yR] at hi;have:=h2 (m+i) (by omega) (by omega);rw[aAo,mB (by omega)] at this;simp only[aIr,decide_eq_true_eq] at this;rw[List.getElem_drop];exact this
theorem aX4{h:PH}{a:Nat}{l:List gO}{hs:List Int}{F:List Nat}(hC:qP h a l hs F)(x:Int){k:cD}
  (hk:k (.tuple #[.string ((jK l x).getD ⟨#[]⟩),.bool (jK l x).isSome]) h):aT PG aCs #[pT a 0,.int .u64 x] h k:=by
 apply aBe.call;unfold aBe;obtain⟨r,v,G,ha,hM,hO,rfl,hn⟩:=hC.here;have hl:=aBl (aRI cA.und) hQ.und bR.info bR.zero hM x true;rw[aRk] at hl;have hl':cG PG h (Instr.lookup hQ (.map (some r)) (.int .u64 x) true)=some (.tuple #[.string ((jK l x).getD ⟨#[]⟩),.bool (jK l x).isSome]):=by
  rw[show(Value.int .u64 x)=aLa x from rfl,hl];cases jK l x<;>rfl
 simp only[dE,gQ.f0,hQ.load,ha,hl',cE,reduceIte];exact hk
theorem aUG{h:PH}{a:Nat}{l:List gO}{hs:List Int}{F:List Nat}(hC:qP h a l hs F){k:cD}
  (hk:k (.int .u64 (aLU hs)) h):aT PG aBL #[pT a 0] h k:=by
 have hlen:=hC.rank.len;have hfew:=hC.few;apply rH.call;unfold rH;obtain⟨r,v,G,ha,hM,hO,rfl,hn⟩:=hC.here;have hlv:=hO.slR.len (t':=bT) dO.und;rw[iV] at hlv;simp only[dE,gQ.f1,fC,dO.load,ha,hlv,cE,reduceIte];unfold aLU at hk;rw[List.getLast?_eq_getElem?] at hk;by_cases hc:hs.length=0
 ·have e:((hs.length:Int)==0)=true:=by simp[hc]
  have e2:hs=[]:=zLN hc;simp only[e,cE,reduceIte];rw[e2] at hk;exact hk
 ·have e:((hs.length:Int)==0)=false:=by simpa using hc
  have e2:IntKind.i64.wrap ((hs.length:Int)-1)=((hs.length-1:Nat):Int):=by rw[eX (by omega) (by omega)];omega
  obtain⟨y,hy⟩:∃y,hs[hs.length-1]? =some y:=⟨_,mB (by omega)⟩;obtain⟨p,p1,p2⟩:=hO.slR.u64 (k:=.i64) hy;simp only[e,e2,p1,p2,cE,reduceIte];rw[hy] at hk;exact hk
theorem aVD{h:PH}{xs:List Int}{x:Value}(hx:fQ h 1 x (xs.map wI))(hl:xs.length≤1000000){k:cD}
  (hk:∀v' h' F',eD h' cA 1 v' (xs.map wI) F'->dB h h'->(∀b∈F',h b=none)->k v' h'):aT PG sU #[x] h k:=by
 obtain⟨xa,xc,rfl,hx1,hx2,hx3,hx4⟩:=hx.here;apply qO.call;unfold qO;simp only[aRO dO.und,cE,reduceIte];cases xa with
 | none=>
  have:xs=[]:=by
   by_cases h0:xs=[]
   ·exact h0
   ·obtain⟨b,o,cs,e,fr,h1,_⟩:=hx3 (by simpa using h0);cases h1
  subst this;simp only[Option.isNone_none,cE,reduceIte];exact hk _ _ [] eD.nil cV.refl (by simp)
 | some a=>
  simp only[Option.isNone_some,cE,reduceIte];have e1:jP PG (buildSlice dO 0 #[])=some (.cells #[] cA,λr=>pure (.slice (some ⟨r,0,none⟩) 0 0)):=by kernel_rfl
  rw[e1];simp only[cE,reduceIte];intro r hr;refine fH ?_;have hO:eD (h.set r (.cells #[] cA)) cA 1 (.slice (some ⟨r,0,none⟩) 0 0) [] [r]:=eD.lit (by intro r hr;cases hr) dK rfl (by simp) rfl;refine jG dO.und dO.und cA.info cA.size cA.bytes cA.zero rfl (by decide) hO (by simpa only[iV] using hx.ext (cV.new hr)) (wI.isCell _) (by simp;omega) ?_;intro v' h' F' hO' hU hF' hC;refine hk v' h' F' (by simpa using hO') (λb o hb _=>hU b o (aPQ hr hb) (by simp;exact aQ2 hb hr)) (λb hb=>?_);rcases hF' b hb with h1|h1
  ·simp at h1;subst h1;exact hr
  ·by_cases e:b=r
   ·subst e;exact hr
   ·rwa [pR e] at h1
theorem aTI{h:PH}{a:Nat}{l:List gO}{hs:List Int}{F:List Nat}(hC:qP h a l hs F){k:cD}
  (hk:∀v' h' F',eD h' cA 1 v' (hs.map wI) F'->dB h h'->dZ h F'->k v' h'):aT PG aAk #[pT a 0] h k:=by
 have hlen:=hC.rank.len;have hfew:=hC.few;apply yY.call;unfold yY;obtain⟨r,v,G,ha,hM,hO,rfl,hn⟩:=hC.here;simp only[dE,gQ.f1,fC,dO.load,ha,cE,reduceIte];exact aVD hO.slR (by omega) hk
theorem aYm(x:Int):jP PG (buildSlice dO 1 #[(0,.int .u64 x)])=some (.cells #[.int .u64 x] cA,λr=>pure (.slice (some ⟨r,0,none⟩) 1 1)):=by kernel_rfl
theorem aY3{h:PH}{a:Nat}{l:List gO}{hs:List Int}{F:List Nat}(hC:qP h a l hs F)(x:gO){k:cD}
  (hk:∀h' hs' F',qP h' a (sF l x).2 hs' F'->cV F h h'->(∀b∈F',b∈F∨h b=none)->k (.int .i64 (sF l x).1) h'):aT PG aDq #[pT a 0,.int .u64 x.height,.string x.root] h k:=by
 have hlen:=hC.rank.len;have hfew:=hC.few;apply vK.call;unfold vK;unfold sF at hk;have hsame:=hk;simp only[bR.len,cE,reduceIte];by_cases c1:x.root.size=32
 ·have e1:((x.root.size:Int) !=32)=false:=by simp[c1]
  rw[if_neg (by simpa using c1)] at hk;obtain⟨r,v,G,ha,hM,hO,hF,n1,n2,n3⟩:=hC.here;have hl:=aBl (aRI cA.und) hQ.und bR.info bR.zero hM x.height true;rw[aRk] at hl;have hl':cG PG h (Instr.lookup hQ (.map (some r)) (.int .u64 x.height) true)=some (.tuple #[.string ((jK l x.height).getD ⟨#[]⟩),.bool (jK l x.height).isSome]):=by
   rw[show(Value.int .u64 x.height)=aLa x.height from rfl,hl];cases jK l x.height<;>rfl
  simp only[e1,dE,gQ.f0,hQ.load,ha,hl',aLQ,cE,reduceIte];by_cases c2:x.height∈qF l
  ·simp only[c2,cE,reduceIte];rw[if_pos c2] at hk;exact hk _ _ _ hC cV.refl (λb hb=>.inl hb)
  ·rw[if_neg c2] at hk;have hml:=hM.len (t':=bT) hQ.und;rw[iV] at hml;simp only[c2,hml,cE,reduceIte];by_cases c3:4096≤l.length
   ·have e3:((4096:Int)≤(l.length:Int))=True:=by apply eq_true;omega
    simp only[e3,cE,reduceIte];rw[if_pos c3] at hk;exact hk _ _ _ hC cV.refl (λb hb=>.inl hb)
   ·have e3:((4096:Int)≤(l.length:Int))=False:=by apply eq_false;omega
    rw[if_neg c3] at hk;simp only[e3,cE,reduceIte];refine aGe (enc:=aLa) (aRI cA.und) hQ.und hM x.height (.string x.root) λh1 hM1 u1=>?_;have hput:aEv (l.map gO.ent) x.height (.string x.root)=(l++[x]).map gO.ent:=by
     unfold aEv;rw[aWr,if_neg c2];simp[gO.ent]
    rw[hput] at hM1;have ha1:=u1.get ha (by simp[n1]);have hO1:=hO.upd u1 (λb hb hf=>by simp at hf;subst hf;exact n3 hb);refine aWX ha1 hO1 hC.rank.up (by omega) x.height λm h2 hm p1 p2 u2=>?_;have ha2:=u2.get ha1;have hO2:=hO1.ext u2;have hM2:=hM1.ext u2;obtain⟨va,w1,w2⟩:=hO2.slR.full dO.und cA.info (m:=m) (k2:=.i64) (k3:=.i64) (by simpa using hm);obtain⟨y,y1,y2,-⟩:=hO2.slR.cut dO.und cA.info cA.size (hi:=none) (.inr ⟨.i64,rfl⟩) (.inl ⟨rfl,rfl⟩) (show m≤_ by simpa using hm) (pC _);rw[nU (pC _)] at y2;simp only[dE,gQ.f1,fC,dO.load,ha2,w1,y1,aYm,cE,reduceIte];intro r3 hr3;refine fH ?_;have u3:dB h2 (h2.set r3 (.cells #[.int .u64 x.height] cA)):=cV.new hr3;have hx3:fQ (h2.set r3 (.cells #[.int .u64 x.height] cA)) 1 (.slice (some ⟨r3,0,none⟩) 1 1) ([x.height].map wI):=(eD.lit (wI.rows _) dK (by simp) (by decide) (by simp[wI])).slR;generalize h2.set r3 (.cells #[.int .u64 x.height] cA)=h3 at *;refine aSG dO.und dO.und cA.info cA.size cA.bytes cA.zero rfl (by decide) (w2.ext u3) rfl hx3 (by simp;omega) (by simp) λv4 h4 F4 hO4 u4 k4=>?_;have ha4:=(u3.trans u4).get ha2;refine⟨by simp[ha4],?_⟩;rw[←aLZ,←qI] at hO4;have y4:=(y2.ext u3).ext u4;rw[←List.map_drop] at y4;refine jG dO.und dO.und cA.info cA.size cA.bytes cA.zero rfl (by decide) hO4 y4 (wI.isCell _) (by simp;omega) ?_;intro v5 h5 F5 hO5 u5 k5 _;rw[←qI] at hO5;have na4:a∉F4:=λhm'=>by have:=k4 a hm';rw[u3.get ha2] at this;cases this
    have nr4:r∉F4:=λhm'=>(hM2.ext u3).known (k4 r hm');have ha5:=u5.get ha4 na4;have hM5:=((hM2.ext u3).ext u4).upd u5 nr4;have na5:a∉F5:=λhm'=>by
     rcases k5 a hm' with h|h
     ·exact na4 h
     ·rw[ha4] at h;cases h
    have nr5:r∉F5:=λhm'=>by
     rcases k5 r hm' with h|h
     ·exact nr4 h
     ·exact(((hM2.ext u3).ext u4)).known h
    refine iZ dO.und rfl ha5 (by simp) ?_ dO.info dO.size ?_
    ·obtain⟨_,_,rfl,-⟩:=hO5.slR.here;rfl
    have u6:cV [a] h5 (h5.set a (.cells ((#[.map (some r),v]:Array Value).setIfInBounds 1 v5) gQ (0,0))):=cV.set (by simp);have ua:cV F h h4:=by
     have:cV [r] h h4:=(u1.trans u2.upd).trans (u3.trans u4).upd;exact this.mono λb hb=>.inl (by simp at hb;subst hb;rw[hF];simp)
    have g4:∀b∈F4,h b=none:=λb hb=>by
     have hb3:h2 b=none:=u3.none (k4 b hb);have hb1:h1 b=none:=u2.none hb3;cases e:h b with
     | none=>rfl
     | some o=>
      by_cases hbr:b=r
      ·subst hbr;exact absurd hb1 hM1.known
      ·have:=u1.get e (by simp[hbr]);rw[hb1] at this;cases this
    have g5:∀b∈F5,h b=none:=λb hb=>by
     rcases k5 b hb with h'|h'
     ·exact g4 b h'
     ·cases e:h b with
      | none=>rfl
      | some o=>
       by_cases hbF:b∈F
       ·rw[hF] at hbF;simp only[gE] at hbF;rcases hbF with rfl|rfl|hbG
        ·rw[ha4] at h';cases h'
        ·exact absurd h' ((hM2.ext u3).ext u4).known
        ·exact absurd h' (((hO2.ext u3).ext u4).known b hbG)
       ·have:=ua.get e hbF;rw[h'] at this;cases this
    refine hk _ (hs.take m++[x.height]++hs.drop m) (a::r::F5) ⟨⟨r,v5,F5,dK,hM5.upd u6 (by simp;exact n1.symm),hO5.upd u6 (λb hb hf=>by simp at hf;subst hf;exact na5 hb),rfl,n1,na5,nr5⟩,hC.rank.cut c2 p1 p2,by simp;omega⟩ ?_ ?_
    ·exact(ua.then u5 (λb hb=>.inr (g4 b hb))).then u6 (λb hb=>.inl (by simp at hb;subst hb;rw[hF];simp))
    ·intro b hb;simp only[gE] at hb;rcases hb with rfl|rfl|hb
     ·exact .inl (by rw[hF];simp)
     ·exact .inl (by rw[hF];simp)
     ·exact .inr (g5 b hb)
 ·have e1:((x.root.size:Int) !=32)=true:=by simp;omega
  rw[if_pos (by simpa using c1)] at hk;simp only[e1,cE,reduceIte];exact hk _ _ _ hC cV.refl (λb hb=>.inl hb)
def pM(n:Nat):List Value:=[.int .u64 (n:Int)]
theorem pM.rows(l:List Nat):Rows 1 (l.map pM):=λr hr=>by
 obtain⟨p,-,rfl⟩:=lL.1 hr;rfl
def jN:List Nat->Nat
 | []=>0
 | d::l=>d+4294967296*jN l
def Dig(l:List Nat):Prop:=∀d∈l,d<4294967296
theorem bAX(n:Nat):0<4294967296^n:=Nat.pow_pos (by decide)
theorem aNq:∀(l:List Nat) (i d:Nat) (x:Nat),l[i]? =some x->jN (l.set i d)+x*4294967296^i=jN l+d*4294967296^i
 | [],i,d,x,h=>by simp at h
 | a::l,0,d,x,h=>by
  simp only[qG,zL8] at h;subst h;simp only[List.set_cons_zero,jN,Nat.pow_zero,zL7];omega
 | a::l,i+1,d,x,h=>by
  have ih:=aNq l i d x (by simpa using h);simp only[List.set_cons_succ,jN];have e1:x*4294967296^(i+1)=4294967296*(x*4294967296^i):=by rw[zLQ,zLR (4294967296^i),Nat.mul_left_comm]
  have e2:d*4294967296^(i+1)=4294967296*(d*4294967296^i):=by rw[zLQ,zLR (4294967296^i),Nat.mul_left_comm]
  rw[e1,e2];omega
theorem aKd:∀{l:List Nat},Dig l->jN l<4294967296^l.length
 | [],_=>by simp[jN]
 | a::l,h=>by
  have ih:=aKd (l:=l) λd hd=>h d (by simp[hd]);have ha:=h a (by simp);simp only[jN,tM,zLQ];omega
theorem aLS:∀{l:List Nat},Dig l->∀i,jN l/4294967296^i%4294967296=l.getD i 0
 | [],_,i=>by simp[jN]
 | a::l,h,0=>by
  have ha:=h a (by simp);simp only[jN,Nat.pow_zero,Nat.div_one,List.getD_cons_zero];omega
 | a::l,h,i+1=>by
  have ih:=aLS (l:=l) (λd hd=>h d (by simp[hd])) i;have ha:=h a (by simp);have e:(a+4294967296*jN l)/4294967296=jN l:=by omega
  simp only[jN,List.getD_cons_succ];rw[zLQ,zLR (4294967296^i),←Nat.div_div_eq_div_mul,e,ih]
theorem aL8:∀(l:List Nat) (i x:Nat),l[i]? =some x->jN (l.take (i+1))=jN (l.take i)+x*4294967296^i
 | [],i,x,h=>by simp at h
 | a::l,0,x,h=>by
  simp only[qG,zL8] at h;subst h;simp[jN]
 | a::l,i+1,x,h=>by
  have ih:=aL8 l i x (by simpa using h);simp only[zLc,jN];have e1:x*4294967296^(i+1)=4294967296*(x*4294967296^i):=by rw[zLQ,zLR (4294967296^i),Nat.mul_left_comm]
  rw[ih,e1];omega
theorem aMK(l:List Nat):∀i,jN (l.take i)≤jN l:=by
 induction l with
 | nil=>intro i;simp
 | cons a l ih=>
  intro i;cases i with
  | zero=>simp[jN]
  | succ i=>
   have:=ih i;simp only[zLc,jN];omega
theorem aKx(n:Nat):jN (List.replicate n 0)=0:=by
 induction n with
 | zero=>rfl
 | succ n ih=>simp only[List.replicate_succ,jN,ih]
theorem aL4(n:Nat):Dig (List.replicate n 0):=λd hd=>by
 rw[List.mem_replicate] at hd;omega
abbrev aHJ(h:PH)(v:Value)(l:List Nat)(F:List Nat):Prop:=eD h cA 1 v (l.map pM) F
theorem aMV{h:PH}{v:Value}{l:List Nat}(S:fQ h 1 v (l.map pM)){i x:Nat}(hx:l[i]? =some x):∃a,dD PG (indexAt dO v (.int .i64 (i:Int)))=some (.pointer (some a))∧cG PG h (loadAt cA (.pointer (some a)))=some (.int .u64 (x:Int)):=
 S.loadCell (t:=dO) (k:=.i64) (j:=(i:Int)) dO.und cA.info cA.size cA.und rfl (by omega) (by rw[pK,wL,hx];rfl)
theorem aLD{h:PH}{v:Value}{l:List Nat}(S:fQ h 1 v (l.map pM)):dD PG (Builtin.len_ #[dO] bT #[v])=some (.int .i64 l.length):=by
 have:=S.len (t':=bT) dO.und;rw[iV] at this;exact this
theorem aRl{h:PH}{n:Nat}(hn:n≤1000):∃zs,jP PG (Instr.makeSlice dO (.int .i64 n) (.int .i64 n))=some (.cells zs cA (0,0),λr=>pure (.slice (some ⟨r,0,none⟩) n n))∧zs.toList=((List.replicate n 0).map pM).flatten:=by
 obtain⟨zs',hm,hz⟩:=aE8 (P:=PG) (n:=n) dO.und cA.info cA.size cA.bytes cA.zero rfl (by decide) (by omega) (by omega);refine⟨zs',hm,?_⟩;rw[hz,List.map_replicate];rfl
theorem aQs{h:PH}{v:Value}{l:List Nat}{F:List Nat}(O:aHJ h v l F)(hd:Dig l)(pos x:Nat)(hp:pos≤1000)(hx:x≤18446744069414584320)(hT:jN l+x*4294967296^pos<4294967296^l.length)(hl:l.length≤1000){k:cD}
  (hk:∀h' l',aHJ h' v l' F->Dig l'->l'.length=l.length->jN l'=jN l+x*4294967296^pos->cV F h h'->k (.tuple #[]) h'):aT PG wP #[v,.int .i64 (pos:Int),.int .u64 (x:Int)] h k:=by
 apply aDr.call;unfold aDr;generalize hTT:jN l+x*4294967296^pos=T at *;refine⟨λvs h'=>∃(l':List Nat) (p y:Nat),vs=[v,.int .i64 (p:Int),.int .u64 (y:Int)]∧aHJ h' v l' F∧Dig l'∧l'.length=l.length∧p≤1001∧y≤18446744069414584320∧jN l'+y*4294967296^p=T∧cV F h h',gP l.length 1,⟨l,pos,x,rfl,O,hd,rfl,by omega,hx,hTT,cV.refl⟩,?_⟩;rintro ρ h' ⟨l',p,y,hvs,O',hd',hl',hp',hy,hv,u⟩;simp only[iI,iU,kR,and_true] at hvs;obtain⟨v0,v1,v2⟩:=hvs;simp only[v0,v1,v2,iI,iU];unfold aHf;have lv:=aLD O'.slR;by_cases h0:y=0
 ·subst h0;have g1:((0:Int)<((0:Nat):Int))=False:=eq_false (by decide);simp only[g1,cE,reduceIte];exact hk h' l' O' hd' hl' (by rw[←hv];simp) u
 have g1:((0:Int)<(y:Int))=True:=eq_true (by omega);by_cases hlt:p<l'.length
 ·have g2:((p:Int)<(l'.length:Int))=True:=eq_true (by omega);have hx':l'[p]? =some l'[p]:=mB hlt;have hdx:=hd' _ (aMG hlt);generalize l'[p]=d at *;obtain⟨pa,p1,p2⟩:=aMV O'.slR hx';have e1:Int.tmod (y:Int) 4294967296=((y%4294967296:Nat):Int):=(Int.ofNat_tmod _ 4294967296).symm;have e2:IntKind.u64.wrap (((y%4294967296:Nat):Int)+(d:Int))=((y%4294967296+d:Nat):Int):=by rw[gL (by omega) (by omega)];omega
  have e3:Int.tdiv (y:Int) 4294967296=((y/4294967296:Nat):Int):=rfl;have e4:IntKind.u64.wrap ((y/4294967296:Nat):Int)=((y/4294967296:Nat):Int):=gL (by omega) (by omega);have e5:IntKind.u64.wrap (((y/4294967296:Nat):Int)*4294967296)=((y/4294967296*4294967296:Nat):Int):=by rw[gL (by omega) (by omega)];omega
  have e6:IntKind.u64.wrap (((y%4294967296+d:Nat):Int)+((y/4294967296*4294967296:Nat):Int))=((y+d:Nat):Int):=by rw[gL (by omega) (by omega)];omega
  have e7:Int.tmod ((y+d:Nat):Int) 4294967296=(((y+d)%4294967296:Nat):Int):=(Int.ofNat_tmod _ 4294967296).symm;have e8:Int.tdiv ((y+d:Nat):Int) 4294967296=(((y+d)/4294967296:Nat):Int):=rfl;have e9:IntKind.u64.wrap (((y+d)/4294967296:Nat):Int)=(((y+d)/4294967296:Nat):Int):=gL (by omega) (by omega);have e10:=pY (i:=p) (by omega);have rm:∀(t:TypeId) (a:Int),dD PG (binOp .rem t (.int .u64 a) (.int .u64 4294967296))=some (.int .u64 (a.tmod 4294967296)):=λt a=>aIK (by decide);have qu:∀(t:TypeId) (a:Int),dD PG (binOp .quo t (.int .u64 a) (.int .u64 4294967296))=some (.int .u64 (IntKind.u64.wrap (a.tdiv 4294967296))):=λt a=>aMf (by decide);obtain⟨pb,q1,q2⟩:=O'.storeCell (t:=dO) (k:=.i64) (j:=p) dO.und cA.info cA.size cA.und rfl (by simpa using hlt) (x:=.int .u64 (((y+d)%4294967296:Nat):Int)) rfl;rw[p1] at q1;obtain rfl:pa=pb:=by simpa using q1
  simp only[g1,lv,g2,rm,qu,e1,p1,p2,e2,e3,e4,e5,e6,e7,cE,reduceIte];refine q2 _ λh2 O2 u2=>?_;have hrows:(l'.map pM).take p++[[(.int .u64 (((y+d)%4294967296:Nat):Int):Value)]]++(l'.map pM).drop (p+1)=(l'.set p ((y+d)%4294967296)).map pM:=by
   rw[List.set_eq_take_append_cons_drop,if_pos hlt,qI,iI,aLZ,List.map_drop];simp[pM]
  rw[hrows] at O2;simp only[e8,e9,e10,cE,reduceIte];refine⟨⟨_,p+1,(y+d)/4294967296,rfl,O2,λz hz=>?_,by simpa using hl',by omega,by omega,?_,u.trans u2⟩,?_⟩
  ·rcases List.mem_or_eq_of_mem_set hz with hz|rfl
   ·exact hd' z hz
   ·exact zLA _ (by decide)
  ·have:=aNq l' p ((y+d)%4294967296) d hx';have e:(y+d)%4294967296*4294967296^p+(y+d)/4294967296*4294967296^(p+1)=(y+d)*4294967296^p:=by
    rw[zLQ,zLR (4294967296^p) 4294967296,←Nat.mul_assoc,←zLE];congr 1;omega
   rw[zLE] at e;omega
  ·simp only[gP,sR,qG];omega
 ·exfalso;have h1:4294967296^l.length≤4294967296^p:=aLd (by decide) (by omega);have h2:4294967296^p≤y*4294967296^p:=Nat.le_mul_of_pos_left _ (by omega);omega
theorem aVF{h:PH}{v:Value}{l:List Nat}(S:fQ h 1 v (l.map pM))(hs:∀d∈l,d≤18446744069414584320)(hT:jN l<4294967296^(l.length+1))(hl:l.length≤100){k:cD}
  (hk:∀h' v' l' F',aHJ h' v' l' F'->Dig l'->l'.length=l.length+1->jN l'=jN l->dZ h F'->dB h h'->k v' h'):aT PG aCE #[v] h k:=by
 apply aBE.call;unfold aBE;have lv:=aLD S;have e1:IntKind.i64.wrap ((l.length:Int)+1)=((l.length+1:Nat):Int):=by rw[eX (by omega) (by omega)];omega
 obtain⟨zs,m1,m2⟩:=aRl (h:=h) (n:=l.length+1) (by omega);simp only[lv,e1,m1,cE,reduceIte];intro r hr;refine fH ?_
 try rw[cY]
 have u1:dB h (h.set r (.cells zs cA (0,0))):=cV.new hr;have O1:aHJ (h.set r (.cells zs cA (0,0))) (.slice (some ⟨r,0,none⟩) (l.length+1) (l.length+1)) (List.replicate (l.length+1) 0) [r]:=eD.lit (n:=l.length+1) (pM.rows _) dK (by simp) (by unfold rQ;omega) m2;generalize h.set r (.cells zs cA (0,0))=h1 at *;refine⟨λvs h'=>∃(i:Nat) (l':List Nat),i≤l.length∧vs=[v,.slice (some ⟨r,0,none⟩) (l.length+1) (l.length+1),.int .i64 (i:Int)]∧aHJ h' (.slice (some ⟨r,0,none⟩) (l.length+1) (l.length+1)) l' [r]∧Dig l'∧l'.length=l.length+1∧jN l'=jN (l.take i)∧dB h h',gP l.length 2,⟨0,_,by omega,rfl,O1,aL4 _,by simp,by rw[aKx];rfl,u1⟩,?_⟩;rintro ρ h' ⟨i,l',hi,hvs,O',hd',hl',hv,u⟩;simp only[iI,iU,kR,and_true] at hvs;obtain⟨v0,v3,v4⟩:=hvs;simp only[v0,v3,v4,iI,iU];unfold aFs;by_cases hlt:i<l.length
 ·have g1:((i:Int)<(l.length:Int))=True:=eq_true (by omega);have gi:=pY (i:=i) (by omega);have hx':l[i]? =some l[i]:=mB hlt;have hdx:=hs _ (aMG hlt);generalize l[i]=d at *;obtain⟨pa,p1,p2⟩:=aMV (S.ext u) hx';simp only[lv,g1,p1,p2,cE,reduceIte];have ht:=aL8 l i d hx';have hle:=aMK l (i+1);refine aQs O' hd' i d (by omega) hdx (by rw[hl',hv,←ht];omega) (by omega) λh2 l2 O2 hd2 hl2 hv2 u2=>?_;simp only[gi,cE,reduceIte];refine⟨⟨i+1,l2,by omega,rfl,O2,hd2,by omega,by rw[hv2,hv,ht],u.fresh u2 (dZ.one hr)⟩,?_⟩;simp only[gP,sR,qG];omega
 ·have g1:((i:Int)<(l.length:Int))=False:=eq_false (by omega);simp only[lv,g1,cE,reduceIte];rw[nU (by omega)] at hv;exact hk h' _ l' [r] O' hd' hl' hv (dZ.one hr) u
theorem aSE{h:PH}{v:Value}{l:List Nat}(S:fQ h 1 v (l.map pM))(hs:∀d∈l,d≤18446744069414584320)(hT:jN l<4294967296^(l.length+1))(hl:l.length≤50)(x:Nat)(hx:x<137438953472){k:cD}
  (hk:∀h' v' l' F',aHJ h' v' l' F'->Dig l'->l'.length=l.length+4->jN l'=jN l*x->dZ h F'->dB h h'->k v' h'):aT PG aAl #[v,.int .u64 (x:Int)] h k:=by
 apply zP.call;unfold zP;refine aVF S hs hT (by omega) λh1 w p F1 O1 hd1 hl1 hv1 f1 u1=>?_;have S1:=O1.slR;have lw:=aLD S1;have e1:IntKind.i64.wrap ((p.length:Int)+3)=((p.length+3:Nat):Int):=by rw[eX (by omega) (by omega)];omega
 have e2:Int.tmod (x:Int) 4294967296=((x%4294967296:Nat):Int):=(Int.ofNat_tmod _ 4294967296).symm;have e3:Int.tdiv (x:Int) 4294967296=((x/4294967296:Nat):Int):=rfl;have e4:IntKind.u64.wrap ((x/4294967296:Nat):Int)=((x/4294967296:Nat):Int):=gL (by omega) (by omega);have rm:∀(t:TypeId) (a:Int),dD PG (binOp .rem t (.int .u64 a) (.int .u64 4294967296))=some (.int .u64 (a.tmod 4294967296)):=λt a=>aIK (by decide);have qu:∀(t:TypeId) (a:Int),dD PG (binOp .quo t (.int .u64 a) (.int .u64 4294967296))=some (.int .u64 (IntKind.u64.wrap (a.tdiv 4294967296))):=λt a=>aMf (by decide);obtain⟨zs,m1,m2⟩:=aRl (h:=h) (n:=p.length+3) (by omega);simp only[rm,qu,e2,e3,e4,lw,e1,m1,cE,reduceIte];intro r hr;refine fH ?_
 try rw[cY]
 have u2:dB h1 (h1.set r (.cells zs cA (0,0))):=cV.new hr;have O2:aHJ (h1.set r (.cells zs cA (0,0))) (.slice (some ⟨r,0,none⟩) (p.length+3) (p.length+3)) (List.replicate (p.length+3) 0) [r]:=eD.lit (n:=p.length+3) (pM.rows _) dK (by simp) (by unfold rQ;omega) m2;generalize h1.set r (.cells zs cA (0,0))=h2 at *;have hr0:h r=none:=u1.none hr;have hpl:=aKd hd1;have hF1r:∀b∈F1,b∉[r]:=λb hb hm=>by
  simp only[fW] at hm;subst hm;exact O1.known _ hb hr
 have hbig:jN p*x<4294967296^(p.length+3):=by
  have hx2:x<4294967296^2:=by
   have:(4294967296:Nat)^2=18446744073709551616:=by decide
   omega
  calc jN p*x≤jN p*4294967296^2:=Nat.mul_le_mul_left _ (by omega)
   _<4294967296^p.length*4294967296^2:=Nat.mul_lt_mul_of_pos_right hpl (bAX 2)
   _=4294967296^(p.length+2):=by rw[←Nat.pow_add]
   _≤4294967296^(p.length+3):=aLd (by decide) (by omega)
 refine⟨λvs h'=>∃(i:Nat) (l':List Nat),i≤p.length∧vs=[w,.int .u64 ((x%4294967296:Nat):Int),.int .u64 ((x/4294967296:Nat):Int),.slice (some ⟨r,0,none⟩) (p.length+3) (p.length+3),.int .i64 (i:Int)]∧aHJ h' (.slice (some ⟨r,0,none⟩) (p.length+3) (p.length+3)) l' [r]∧Dig l'∧l'.length=p.length+3∧jN l'=jN (p.take i)*x∧cV [r] h2 h',gP p.length 4,⟨0,_,by omega,rfl,O2,aL4 _,by simp,by rw[aKx];simp[jN],cV.refl⟩,?_⟩;rintro ρ h' ⟨i,l',hi,hvs,O',hd',hl',hv,u⟩;simp only[iI,iU,kR,and_true] at hvs;obtain⟨v0,v5,v6,v7,v8⟩:=hvs;simp only[v0,v5,v6,v7,v8,iI,iU];unfold aET;have Sw:=((O1.ext u2).upd u hF1r);by_cases hlt:i<p.length
 ·have g1:((i:Int)<(p.length:Int))=True:=eq_true (by omega);have gi:=pY (i:=i) (by omega);have hx':p[i]? =some p[i]:=mB hlt;have hdx:=hd1 _ (aMG hlt);generalize p[i]=d at *;obtain⟨pa,p1,p2⟩:=aMV Sw.slR hx';have hm1:d*(x%4294967296)≤4294967295*4294967295:=Nat.mul_le_mul (by omega) (by omega);have hm2:d*(x/4294967296)≤4294967295*31:=Nat.mul_le_mul (by omega) (by omega);have f1':IntKind.u64.wrap ((d:Int)*((x%4294967296:Nat):Int))=((d*(x%4294967296):Nat):Int):=by rw[←Int.natCast_mul,gL (Int.natCast_nonneg _) (by omega)]
  have f2':IntKind.u64.wrap ((d:Int)*((x/4294967296:Nat):Int))=((d*(x/4294967296):Nat):Int):=by rw[←Int.natCast_mul,gL (Int.natCast_nonneg _) (by omega)]
  have ht:=aL8 p i d hx';have hle:=zLO x (aMK p (i+1));have hsum:d*(x%4294967296)*4294967296^i+d*(x/4294967296)*4294967296^(i+1)=d*4294967296^i*x:=by
   have e:x%4294967296+x/4294967296*4294967296=x:=by omega
   calc d*(x%4294967296)*4294967296^i+d*(x/4294967296)*4294967296^(i+1)
     =d*4294967296^i*(x%4294967296+x/4294967296*4294967296):=by rw[zLQ,Nat.mul_add];ac_rfl
    _=_:=by rw[e]
  have htx:jN (p.take (i+1))*x=jN (p.take i)*x+d*4294967296^i*x:=by rw[ht,zLE]
  simp only[lw,g1,p1,p2,f1',cE,reduceIte];refine aQs O' hd' i _ (by omega) (by omega) (by rw[hl',hv];omega) (by omega) λh3 l3 O3 hd3 hl3 hv3 u3=>?_;have Sw3:=Sw.upd u3 hF1r;obtain⟨pb,q1,q2⟩:=aMV Sw3.slR hx';rw[p1] at q1;obtain rfl:pa=pb:=by simpa using q1
  simp only[gi,p1,q2,f2',cE,reduceIte];refine aQs O3 hd3 (i+1) _ (by omega) (by omega) (by rw[hl3,hl',hv3,hv];omega) (by omega) λh4 l4 O4 hd4 hl4 hv4 u4=>?_
  try simp only[gi,cE,reduceIte]
  refine⟨⟨i+1,l4,by omega,rfl,O4,hd4,by omega,by rw[hv4,hv3,hv];omega,(u.trans u3).trans u4⟩,?_⟩;simp only[gP,sR,qG];omega
 ·have g1:((i:Int)<(p.length:Int))=False:=eq_false (by omega);simp only[lw,g1,cE,reduceIte];rw[nU (by omega)] at hv;exact hk h' _ l' [r] O' hd' (by omega) (by rw[hv,hv1]) (dZ.one hr0) ((u1.trans u2).fresh u (dZ.one hr0))
end
end Go.Proofs.YtppgkeodaejgcaaGreatDoor
