/- The texts of this claim, put together. -/
import Derived.Test.YtppgkeodaejgcaaGreatDoorRlXVC3
import Derived.Lib.UnsafeStr
set_option linter.all false
set_option maxRecDepth 100000
open Go.Instr (loadAt fieldAt indexAt extract buildSlice build)
namespace Go.Proofs.YtppgkeodaejgcaaGreatDoor
section
open Go
theorem aR3{α:Type}{x:Option α}{a:α}{k:α->Prop}(h:x=some a)(hk:k a):dY x k:=by rw[h];exact hk
theorem eV{x:Int}(h1: -9223372036854775808≤x)(h2:x≤9223372036854775807):IntKind.i64.wrap x=x:=IntWalk.i64_in _ ⟨h1,h2⟩
theorem pR{i:Nat}(h:i<9223372036854775807):IntKind.i64.wrap ((i:Int)+1)=((i+1:Nat):Int):=by rw[eV (by omega) (by omega)];omega
def gU(n:Nat)(i:Nat):List Value->PH->Nat:=λvs _=>match vs[i]? with
 | some (.int _ j)=>n-j.toNat
 | _=>0
def eD(h:PH)(F:List Nat):Prop:=∀b∈F,h b=none
theorem eD.one{h:PH}{a:Nat}(ha:h a=none):eD h [a]:=λb hb=>by simp at hb;subst hb;exact ha
theorem cZ.none{h h1:PH}(u:cZ h h1){b:Nat}(hb:h1 b=none):h b=none:=by
 cases e:h b with
 | none=>rfl
 | some o=>rw[u.get e] at hb;cases hb
theorem eD.grow{h h1:PH}{F F':List Nat}(f:eD h F)(u:cZ h h1)(hg:∀b∈F',b∈F∨h1 b=none):eD h F':=λb hb=>by
 rcases hg b hb with h1|h1
 ·exact f b h1
 ·exact u.none h1
theorem eD.of{h h1:PH}{F:List Nat}(f:eD h1 F)(u:cZ h h1):eD h F:=λb hb=>u.none (f b hb)
theorem cZ.trans{h h1 h2:PH}(u:cZ h h1)(v:cZ h1 h2):cZ h h2:=cU.trans u v
theorem cZ.fresh{h h1 h2:PH}{F:List Nat}(u:cZ h h1)(v:cU F h1 h2)(f:eD h F):cZ h h2:=λb o hb _=>
 v b o (u.get hb) λhm=>by rw[f b hm] at hb;cases hb
theorem dZ.ext{h h':PH}{e:TypeId}{size:Nat}{v:Value}{rows:List (List Value)}{F:List Nat}(H:dZ h e size v rows F)(u:cZ h h'):dZ h' e size v rows F:=H.upd u (by simp)
theorem fI{α:Type}{v:α}{k:α->Prop}(hk:k v):dY (dA PG (pure v)) k:=hk
theorem gL{x:Int}(h1:0≤x)(h2:x<18446744073709551616):IntKind.u64.wrap x=x:=by
 unfold IntKind.wrap;simp[IntKind.signed,IntKind.bits];omega
theorem aHG(x:Int):IntKind.u8.wrap x=x%256:=by
 unfold IntKind.wrap;simp[IntKind.signed,IntKind.bits]
theorem aMu:yV undef=none:=(rfl)
theorem aLp{X:(Value->PH->Prop)->Prop}{h:PH}{kv:cE}{w:Bool}:nW none w X h kv=kv undef h:=by simp[nW]
theorem cG:type_of% @aMA∧type_of% @cW∧type_of% @aNe∧type_of% @aNR∧type_of% @aMg∧type_of% @aRV∧type_of% @aRZ∧type_of% @aRh∧type_of% @aRg∧type_of% @aRa∧type_of% @aRr∧type_of% @aRv∧type_of% @aN1∧type_of% @aQg∧type_of% @aQo∧type_of% @aNI∧type_of% @aQp∧type_of% @aQ9∧type_of% @aUD∧type_of% @aPu∧type_of% @aLP∧type_of% @aTr∧type_of% @aRz∧type_of% @aN4∧type_of% @aL5∧type_of% @aLr∧type_of% @aO8∧type_of% @hQ∧type_of% @kE∧type_of% @mV∧type_of% @decide_true∧type_of% @decide_false∧type_of% @if_true.{0}∧type_of% @if_true.{1}∧type_of% @if_false.{0}∧type_of% @if_false.{1}∧type_of% @Bool.false_eq_true∧type_of% @Bool.not_true∧type_of% @Bool.not_false∧type_of% @List.getElem?_toArray.{0}∧type_of% @List.getElem?_cons_zero.{0}∧type_of% @List.getElem?_cons_succ.{0}∧type_of% @Option.isSome_none.{0}∧type_of% @List.length_map.{0,0}∧type_of% @zPP:=⟨@aMA,@cW,@aNe,@aNR,@aMg,@aRV,@aRZ,@aRh,@aRg,@aRa,@aRr,@aRv,@aN1,@aQg,@aQo,@aNI,@aQp,@aQ9,@aUD,@aPu,@aLP,@aTr,@aRz,@aN4,@aL5,@aLr,@aO8,@hQ,@kE,@mV,@decide_true,@decide_false,@if_true.{0},@if_true.{1},@if_false.{0},@if_false.{1},@Bool.false_eq_true,@Bool.not_true,@Bool.not_false,@List.getElem?_toArray.{0},@List.getElem?_cons_zero.{0},@List.getElem?_cons_succ.{0},@Option.isSome_none.{0},@List.length_map.{0,0},@zPP⟩
theorem cT:type_of% @aMu∧type_of% @aLp∧type_of% @Nat.zero_add∧type_of% @beq_self_eq_true.{0}∧type_of% @bne_self_eq_false.{0}∧type_of% @and_self∧type_of% @Bool.true_and∧type_of% @Bool.false_and∧type_of% @Bool.and_true∧type_of% @Bool.and_false∧type_of% @Bool.true_or∧type_of% @Bool.false_or∧type_of% @Bool.or_true∧type_of% @Bool.or_false:=⟨@aMu,@aLp,@Nat.zero_add,@beq_self_eq_true.{0},@bne_self_eq_false.{0},@and_self,@Bool.true_and,@Bool.false_and,@Bool.and_true,@Bool.and_false,@Bool.true_or,@Bool.false_or,@Bool.or_true,@Bool.or_false⟩
abbrev mC:=PH->List Nat->Prop
structure lX(A:mC):Prop where
 known:∀{h F},A h F->∀b∈F,h b≠none
 upd:∀{h h' F K},A h F->cU K h h'->(∀b∈F,b∉K)->A h' F
def eO(A B:mC):mC:=λh F=>∃Fa Fb,F=Fa++Fb∧A h Fa∧B h Fb∧∀b∈Fa,b∉Fb
theorem lX.star{A B:mC}(a:lX A)(b:lX B):lX (eO A B) where
 known:=by
  rintro h F ⟨Fa,Fb,rfl,ha,hb,-⟩ x hx;rcases jG.1 hx with hx|hx
  ·exact a.known ha x hx
  ·exact b.known hb x hx
 upd:=by
  rintro h h' F K ⟨Fa,Fb,rfl,ha,hb,hd⟩ u hK;exact⟨Fa,Fb,rfl,a.upd ha u λx hx=>hK x (by simp[hx]),b.upd hb u λx hx=>hK x (by simp[hx]),hd⟩
theorem lX.ext{A:mC}(a:lX A){h h':PH}{F:List Nat}(H:A h F)(u:cZ h h'):A h' F:=a.upd H u (by simp)
structure iX(h:PH)(F:List Nat)(h':PH)(F':List Nat):Prop where
 upd:cU F h h'
 grow:∀b∈F',b∈F∨h b=none
theorem iX.refl{h:PH}{F:List Nat}:iX h F h F:=⟨cU.refl,λb hb=>.inl hb⟩
theorem iX.ext{h h':PH}{F:List Nat}(u:cZ h h'):iX h F h' F:=⟨u.upd,λb hb=>.inl hb⟩
theorem iX.trans{h h1 h2:PH}{F F1 F2:List Nat}(a:iX h F h1 F1)(b:iX h1 F1 h2 F2):iX h F h2 F2 where
 upd:=a.upd.then b.upd a.grow
 grow:=λx hx=>by
  rcases b.grow x hx with hx|hx
  ·exact a.grow x hx
  ·by_cases hF:x∈F
   ·exact .inl hF
   ·right;cases e:h x with
    | none=>rfl
    | some o=>have:=a.upd x o e hF;rw[hx] at this;cases this
def aBK(h:PH)(F:List Nat)(A:mC)(W:mC->mC):Prop:=
 ∃Fa,A h Fa∧(∀b∈Fa,b∈F)∧∀(A':mC) (h':PH) (Fa':List Nat),A' h' Fa'->iX h Fa h' Fa'->∃F',W A' h' F'∧iX h F h' F'
theorem eO.left{A B:mC}(b:lX B){h:PH}{F:List Nat}(H:(eO A B) h F):aBK h F A (λA'=>eO (A') B):=by
 obtain⟨Fa,Fb,rfl,ha,hb,hd⟩:=H;refine⟨Fa,ha,λx hx=>by simp[hx],λA' h' Fa' hA s=>⟨Fa'++Fb,⟨Fa',Fb,rfl,hA,b.upd hb s.upd (λx hx hx'=>hd x hx' hx),λx hx hx'=>?_⟩,⟨λx o hx hn=>s.upd x o hx (λhm=>hn (by simp[hm])),λx hx=>?_⟩⟩⟩
 ·rcases s.grow x hx with h1|h1
  ·exact hd x h1 hx'
  ·exact b.known hb x hx' h1
 ·rcases jG.1 hx with hx|hx
  ·rcases s.grow x hx with h1|h1
   ·exact .inl (by simp[h1])
   ·exact .inr h1
  ·exact .inl (by simp[hx])
theorem eO.right{A B:mC}(a:lX A){h:PH}{F:List Nat}(H:(eO A B) h F):aBK h F B (λB'=>eO A (B')):=by
 obtain⟨Fa,Fb,rfl,ha,hb,hd⟩:=H;refine⟨Fb,hb,λx hx=>by simp[hx],λB' h' Fb' hB s=>⟨Fa++Fb',⟨Fa,Fb',rfl,a.upd ha s.upd (λx hx hx'=>hd x hx hx'),hB,λx hx hx'=>?_⟩,⟨λx o hx hn=>s.upd x o hx (λhm=>hn (by simp[hm])),λx hx=>?_⟩⟩⟩
 ·rcases s.grow x hx' with h1|h1
  ·exact hd x hx h1
  ·exact a.known ha x hx h1
 ·rcases jG.1 hx with hx|hx
  ·exact .inl (by simp[hx])
  ·rcases s.grow x hx with h1|h1
   ·exact .inl (by simp[h1])
   ·exact .inr h1
theorem aBK.comp{h:PH}{F:List Nat}{A B:mC}{W V:mC->mC}(f:aBK h F A W)(g:∀Fa,A h Fa->aBK h Fa B V):aBK h F B (λB'=>W (V B')):=by
 obtain⟨Fa,ha,hFa,c⟩:=f;obtain⟨Fb,hb,hFb,d⟩:=g Fa ha;refine⟨Fb,hb,λx hx=>hFa x (hFb x hx),λB' h' Fb' hB s=>?_⟩;obtain⟨Fa',hV,s'⟩:=d B' h' Fb' hB s;exact c _ h' Fa' hV s'
def wD(r:Nat)(cs:List Value):mC:=λh F=>F=[r]∧Bx h r cs
theorem wD.good(r:Nat)(cs:List Value):lX (wD r cs) where
 known:=by
  rintro h F ⟨rfl,B⟩ b hb;simp only[fV] at hb;subst hb;exact B.known
 upd:=by
  rintro h h' F K ⟨rfl,B⟩ u hK;exact⟨rfl,B.upd u (hK r (by simp))⟩
def xD(e:TypeId)(n:Nat)(v:Value)(rows:List (List Value)):mC:=λh F=>dZ h e n v rows F
theorem xD.good(e:TypeId)(n:Nat)(v:Value)(rows:List (List Value)):lX (xD e n v rows) where
 known:=λH b hb=>dZ.known H b hb
 upd:=λH u hK=>dZ.upd H u hK
theorem eO.mk{A B:mC}{h:PH}{Fa Fb:List Nat}(ha:A h Fa)(hb:B h Fb)(hd:∀b∈Fa,b∉Fb):(eO A B) h (Fa++Fb):=⟨Fa,Fb,rfl,ha,hb,hd⟩
section
variable{P:Program}{h:PH}{t t' kt et:TypeId}{α:Type}[DecidableEq α]{enc:α->Value}
def aOc(l:List (α×Value))(a:α):List (α×Value):=l.filter λp=>decide (p.1≠a)
theorem aLN{β:Type}:∀(L:List (α×β)) (a:α) (q:Nat),(L.map (·.1)).Nodup->(L.map (·.1))[q]? =some a->L.eraseIdx q=L.filter λp=>decide (p.1≠a)
 | [],a,q,_,hq=>by simp at hq
 | p::ps,a,0,hnd,hq=>by
  simp only[iH,pK,zL8] at hq;simp only[iH,aKM] at hnd;simp only[List.eraseIdx_cons_zero,List.filter_cons,hq,ne_eq,not_true,decide_false,zLt,if_false];symm;rw[aMs];intro x hx;simp only[decide_eq_true_eq];rintro e;exact hnd.1 (by rw[hq,←e];exact zL6 hx)
 | p::ps,a,q+1,hnd,hq=>by
  simp only[iH,sA] at hq;simp only[iH,aKM] at hnd;have hne:p.1≠a:=λe=>hnd.1 (by rw[e];exact rC hq);simp only[List.eraseIdx_cons_succ,List.filter_cons,hne,ne_eq,not_false_eq_true,decide_true,if_true];rw[aLN ps a q hnd.2 hq]
theorem aL0{β γ:Type}(f:β->γ):∀(L:List β) (q:Nat),(L.map f).eraseIdx q=(L.eraseIdx q).map f
 | [],_=>rfl
 | _::_,0=>rfl
 | x::xs,q+1=>by simp only[iH,List.eraseIdx_cons_succ,aL0 f xs q]
theorem aJG{β:Type}:∀(D L:List β),D.Nodup->(∀p∈D,p∈L)->D.length≤L.length
 | [],_,_,_=>Nat.zero_le _
 | p::ps,L,hn,hs=>by
  obtain⟨a,b,rfl⟩:=List.append_of_mem (hs p (by simp));simp only[aKM] at hn;have:=aJG ps (a++b) hn.2 λq hq=>by
   have:=hs q (by simp[hq]);simp only[jG,gP] at this ⊢;rcases this with h|rfl|h
   ·exact .inl h
   ·exact absurd hq hn.1
   ·exact .inr h
  simp only[rN,jP] at this ⊢;omega
theorem aS4{a:α}{L:List (α×Value×Nat)}(e2:a∉L.map (·.1)):(L.filter λp=>decide (p.1≠a))=L:=by
 rw[aMs];intro x hx;simp only[decide_eq_true_eq];rintro e;exact e2 (by rw[←e];exact zL6 hx)
theorem aOW(L:List (α×Value×Nat))(a:α):aOc (L.map λp=>(p.1,p.2.1)) a=(L.filter λp=>decide (p.1≠a)).map λp=>(p.1,p.2.1):=by
 unfold aOc;rw[List.filter_map];rfl
theorem aRT{r:Nat}{l:List (α×Value)}(K:aKZ P kt enc)(hu:P.underlying t=some (.map kt et))(H:kB enc h r l)(a:α){ts:Array TypeId}(hts:ts[0]? =some t){k:cE}
  (hk:∀h',kB enc h' r (aOc l a)->cU [r] h h'->k (.tuple #[]) h'):cY P (Builtin.delete_ ts t' #[.map (some r),enc a]) h k:=by
 obtain⟨es,c,L,h1,h2,rfl,hb1,hb2⟩:=H.here;have hnd:=H.nodup;rw[aC4] at hnd;unfold Builtin.delete_;simp only[hts,zLJ,pK,sA];show cY P (underlying t >>= _) h _;rw[qD hu];dsimp only;refine aFJ h1 ?_;dsimp only;refine iM (K.chk h _ a) ?_;rw[h2];refine iM (aKO K a L) ?_;have hnd2:(xF (aOc (L.map λp=>(p.1,p.2.1)) a)).Nodup:=by
  rw[aOW,aC4];exact List.Nodup.sublist (List.Sublist.map _ List.filter_sublist) hnd
 have hb3:((L.filter λp=>decide (p.1≠a)).map (·.2.2)).Nodup:=List.Nodup.sublist (List.Sublist.map _ List.filter_sublist) hb1;have hb4:∀p∈L.filter λp=>decide (p.1≠a),p.2.2<c:=λp hp=>hb2 p (zL1.1 hp).1;rcases aMr a L 0 with⟨q,w,e1,e2,e3⟩|⟨e1,e2⟩
 ·rw[e1,fE];show(∃u,h r=some u∧(∀c e f,u≠ .cells c e f))∧_;refine⟨⟨_,h1,by intros;simp⟩,?_⟩;show k (.tuple #[]) _;refine hk _ ⟨hnd2,_,c,L.filter (λp=>decide (p.1≠a)),dL,?_,aOW L a,hb3,hb4⟩ (cU.set (by simp));rw[←aLN L a q hnd e2];have hq:q<es.size:=by
   rw[←Array.length_toList,h2];have:=(zLz.1 e2).1;simpa[aCa] using this
  rw[Array.eraseIdxIfInBounds,dif_pos hq,Array.toList_eraseIdx,h2];unfold aCa;exact aL0 _ _ _
 ·rw[e1];show(∃u,h r=some u∧(∀c e f,u≠ .cells c e f))∧_;refine⟨⟨_,h1,by intros;simp⟩,?_⟩;show k (.tuple #[]) _;refine hk _ ⟨hnd2,_,c,L,dL,h2,?_,hb1,hb2⟩ (cU.set (by simp));rw[aOW,aS4 e2]
structure aCN(enc:α->Value)(h:PH)(r it:Nat)(l D:List (α×Value)):Prop where
 nodup:(xF l).Nodup
 here:∃(es:Array MapEntry) (c:Nat) (L DL:List (α×Value×Nat)) (S:Array Nat),h r=some (.map es c)∧es.toList=aCa enc L∧l=L.map (λp=>(p.1,p.2.1))∧(L.map (·.2.2)).Nodup∧(∀p∈L,p.2.2<c)∧
  h it=some (.mapIter (some r) c S c)∧S.toList=DL.map (·.2.2)∧(∀p∈DL,p∈L)∧DL.Nodup∧D=DL.map (λp=>(p.1,p.2.1))
theorem aCN.upd{h h':PH}{r it:Nat}{l D:List (α×Value)}{G:List Nat}(H:aCN enc h r it l D)(u:cU G h h')(hr:r∉G)(hi:it∉G):aCN enc h' r it l D:=by
 obtain⟨es,c,L,DL,S,h1,h2,h3,h4,h5,h6,h7⟩:=H.here;exact⟨H.nodup,es,c,L,DL,S,u.get h1 hr,h2,h3,h4,h5,u.get h6 hi,h7⟩
theorem aCN.map{r it:Nat}{l D:List (α×Value)}(H:aCN enc h r it l D):kB enc h r l:=by
 obtain⟨es,c,L,DL,S,h1,h2,h3,h4,h5,_⟩:=H.here;exact⟨H.nodup,es,c,L,h1,h2,h3,h4,h5⟩
theorem aCN.known{r it:Nat}{l D:List (α×Value)}(H:aCN enc h r it l D):h it≠none:=by
 obtain⟨es,c,L,DL,S,h1,h2,h3,h4,h5,h6,_⟩:=H.here;rw[h6];simp
def aQS(n:Nat)(it:Nat)(h:PH):Nat:=match h it with
 | some (.mapIter _ _ S _)=>n-S.size
 | _=>0
theorem aCN.left{r it:Nat}{l D:List (α×Value)}(H:aCN enc h r it l D)(n:Nat):aQS n it h=n-D.length:=by
 obtain⟨es,c,L,DL,S,h1,h2,h3,h4,h5,h6,h7,_,_,h8⟩:=H.here;unfold aQS;rw[h6];have:S.size=D.length:=by rw[←Array.length_toList,h7,h8];simp
 simp only[this]
theorem aCN.le{r it:Nat}{l D:List (α×Value)}(H:aCN enc h r it l D):D.length≤l.length:=by
 obtain⟨es,c,L,DL,S,h1,h2,rfl,h4,h5,h6,h7,h9,h10,rfl⟩:=H.here;rw[iS,iS];exact aJG _ _ h10 h9
theorem aU5{r:Nat}{l:List (α×Value)}(hu:P.underlying t=some (.map kt et))(H:kB enc h r l){k:cE}
  (hk:∀it h',h it=none->aCN enc h' r it l []->cZ h h'->k (pT it 0) h'):cY P (Instr.range t (.map (some r))) h k:=by
 obtain⟨es,c,L,h1,h2,rfl,hb1,hb2⟩:=H.here;unfold Instr.range;show cY P (underlying t >>= _) h _;rw[qD hu];have key:∀(X:Sem Obj) (f:Obj->Sem Value),cY P X h (λo h'=>cY P (f o) h' k)->cY P (X >>= f) h k:=λX f hX=>cY.bind (P:=P) (s:=X) hX;refine key _ _ ?_;refine aFJ h1 ?_;intro it hit;exact hk it _ hit ⟨H.nodup,es,c,L,[],#[],aOK hit h1,h2,rfl,hb1,hb2,dL,rfl,by simp,by simp,rfl⟩ (cU.new hit)
theorem aGr{β γ:Type}(f:β->γ):∀{L:List β},(L.map f).Nodup->L.Nodup
 | [],_=>List.nodup_nil
 | x::xs,hnd=>by
  simp only[iH,aKM] at hnd ⊢;exact⟨λhm=>hnd.1 (zL6 hm),aGr f hnd.2⟩
theorem aF3{β γ:Type}{f:β->γ}:∀{L:List β},(L.map f).Nodup->∀{p q:β},p∈L->q∈L->f p=f q->p=q
 | [],_,p,q,hp,_,_=>by cases hp
 | x::xs,hnd,p,q,hp,hq,e=>by
  simp only[iH,aKM] at hnd;rcases gP.1 hp with hp|hp
  ·rcases gP.1 hq with hq|hq
   ·rw[hp,hq]
   ·exact absurd (by rw[←hp,e];exact zL6 hq) hnd.1
  ·rcases gP.1 hq with hq|hq
   ·exact absurd (by rw[←hq,←e];exact zL6 hp) hnd.1
   ·exact aF3 hnd.2 hp hq e
theorem aPC{r:Nat}{o:Obj}{β:Type}{Q:β->PH->Prop}(hr:h r=some o)(hc:∀c e f,o≠ .cells c e f){f:Obj->Sem β}(hq:cY P (f o) h Q):cY P (getObj r >>= f) h Q:=by
 show ∃o,h r=some o∧(∀c e f,o≠ .cells c e f)∧cY P _ h Q;exact⟨o,hr,hc,hq⟩
theorem aWm{r it:Nat}{l D:List (α×Value)}(H:aCN enc h r it l D){k:cE}
  (hnil:D.Perm l->k (.tuple #[.bool false]) h)
  (hcons:∀a v h',(a,v)∈l->a∉xF D->aCN enc h' r it l (D++[(a,v)])->cU [it] h h'->k (.tuple #[.bool true,enc a,v]) h'):cY P (Instr.next (pT it 0) false t) h k:=by
 obtain⟨es,c,L,DL,S,h1,h2,h3,hb1,hb2,hi,hS,hDL,hDn,hD⟩:=H.here;unfold Instr.next;refine aPC hi (by intros;simp) ?_;dsimp only;refine aFJ h1 ?_;dsimp only;have hborn:∀e∈es.toList,e.born<c:=λe he=>by
  rw[h2] at he;obtain⟨p,hp,rfl⟩:=lO.1 he;exact hb2 p hp
 have hgo:(!S.isEmpty && !es.isEmpty&&es.all (·.born ≥ c))=false:=by
  by_cases he:es.isEmpty=true
  ·simp[he]
  ·have:es.all (·.born ≥ c)=false:=by
    rw[Bool.eq_false_iff];intro hall;have hne:es.toList≠[]:=by intro e;apply he;simpa using e
    obtain⟨x,xs,hx⟩:=List.exists_cons_of_ne_nil hne;have h1:=hborn x (by rw[hx];simp);have h2:=Array.all_eq_true_iff_forall_mem.1 hall x (by rw[←Array.mem_toList_iff,hx];simp);simp only[ge_iff_le,decide_eq_true_eq] at h2;omega
   simp[this]
 rw[hgo];simp only[zLt,if_false];obtain⟨LL,hLL⟩:∃LL:List (α×Value×Nat),LL=L.filter λp=>decide (p.2.2∉DL.map (·.2.2)):=⟨_,rfl⟩;have hleft:(es.filter λe=>!S.contains e.born).toList=aCa enc LL:=by
  rw[Array.toList_filter,h2,hLL];unfold aCa;rw[List.filter_map];congr 1;apply List.filter_congr;intro p _;simp only[Function.comp];rw[←Array.contains_toList,hS];by_cases hm:p.2.2∈DL.map (·.2.2)
  ·simp[hm]
  ·simp[hm]
 have hmemLL:∀p,p∈LL↔p∈L∧p.2.2∉DL.map (·.2.2):=λp=>by rw[hLL,zL1];simp
 have hold:((es.filter λe=>!S.contains e.born).filter (·.born<c)).toList=aCa enc LL:=by
  rw[Array.toList_filter,hleft,aMs];intro e he;obtain⟨p,hp,rfl⟩:=lO.1 he;simpa using hb2 p ((hmemLL p).1 hp).1
 have hnew:((es.filter λe=>!S.contains e.born).filter (·.born ≥ c))= #[]:=by
  rw[←Array.toList_inj,Array.toList_filter,hleft];show _=[];rw[List.filter_eq_nil_iff];intro e he;obtain⟨p,hp,rfl⟩:=lO.1 he;have:=hb2 p ((hmemLL p).1 hp).1;simp only[ge_iff_le,decide_eq_true_eq];omega
 generalize ho:(es.filter λe=>!S.contains e.born).filter (·.born<c)=old at hold;rw[hnew];simp only[Array.append_empty];by_cases hemp:LL=[]
 ·have hold0:old= #[]:=by rw[←Array.toList_inj,hold,hemp];rfl
  subst hold0;simp only[List.isEmpty_toArray,List.isEmpty_nil,if_true,List.map_toArray,iT,Array.append_empty,List.size_toArray,rN,zLM,fE];rw[aAH];intro tt;have:(if Question.forced (.mapNext 1) then 0 else Question.cut (.mapNext 1) tt)=0:=by simp[Question.forced]
  rw[this];show k (.tuple #[.bool false]) h;refine hnil ?_;rw[hD,h3];apply List.Perm.map;refine(List.perm_ext_iff_of_nodup hDn ?_).2 λp=>⟨hDL p,λhp=>?_⟩
  ·exact aGr _ hb1
  ·by_cases hm:p.2.2∈DL.map (·.2.2)
   ·obtain⟨q,hq,e⟩:=lO.1 hm;rw[aF3 (f:=λp:α×Value×Nat=>p.2.2) hb1 hp (hDL q hq) e.symm];exact hq
   ·have:=(hmemLL p).2 ⟨hp,hm⟩;rw[hemp] at this;cases this
 ·have hne:old.isEmpty=false:=by
   rw[Bool.eq_false_iff];intro e;have:old.toList=[]:=by simpa using e
   rw[hold] at this;exact hemp (List.map_eq_nil_iff.1 this)
  rw[hne];simp only[zLt,if_false,Array.empty_append,Array.size_map];have hpos:0<old.size:=by
   rw[←Array.length_toList,hold];unfold aCa;rw[iS];exact aHN.2 hemp
  rw[aAH];intro tt;obtain⟨j,hj,hjlt⟩:∃j,(if Question.forced (.mapNext old.size) then 0 else Question.cut (.mapNext old.size) tt)=j∧j<old.size:=by
   refine⟨_,rfl,?_⟩;split
   ·exact hpos
   ·exact zLA _ hpos
  rw[hj];have hjl:j<LL.length:=by
   have:old.size=LL.length:=by rw[←Array.length_toList,hold];simp[aCa]
   omega
  have hget:(old.map some)[j]? =some (some ⟨enc LL[j].1,LL[j].2.1,LL[j].2.2⟩):=by
   rw[Array.getElem?_map,←aKb,hold];simp[aCa,hjl]
  rw[hget];dsimp only;have hp:=(hmemLL LL[j]).1 (aKW hjl);generalize LL[j]=p at hp;obtain⟨hpL,hpD⟩:=hp;show(∃u,h it=some u∧(∀c e f,u≠ .cells c e f))∧_;refine⟨⟨_,hi,by intros;simp⟩,?_⟩;have hri:r≠it:=λe=>by rw[e,hi] at h1;cases h1
  refine hcons p.1 p.2.1 _ ?_ ?_ ⟨H.nodup,es,c,L,DL++[p],S.push p.2.2,(by rw[oZ hri];exact h1),h2,h3,hb1,hb2,dL,?_,?_,?_,?_⟩ (cU.set (by simp))
  ·rw[h3];exact zL6 hpL
  ·intro hm;rw[hD,aC4] at hm;obtain⟨q,hq,e⟩:=lO.1 hm;have hnd:=H.nodup;rw[h3,aC4] at hnd;have hqL:=hDL q hq;have:q=p:=aF3 (f:=λp:α×Value×Nat=>p.1) hnd hqL hpL e;exact hpD (by rw[←this];exact zL6 hq)
  ·rw[Array.toList_push,hS];simp
  ·intro q hq;rcases jG.1 hq with hq|hq
   ·exact hDL q hq
   ·simp only[fV] at hq;subst hq;exact hpL
  ·rw[List.nodup_append];refine⟨hDn,by simp,?_⟩;intro x hx y hy;simp only[fV] at hy;subst hy;rintro rfl;exact hpD (zL6 hx)
  ·rw[hD];simp
theorem aVD{r it:Nat}{l D:List (α×Value)}{a:α}{v:Value}(H:aCN enc h r it l (D++[(a,v)])){k:cE}(hk:k (.tuple #[enc a,v]) h):cY P (Instr.entry (pT it 0)) h k:=by
 obtain⟨es,c,L,DL,S,h1,h2,h3,hb1,hb2,hi,hS,hDL,hDn,hD⟩:=H.here;obtain⟨DL',p,rfl,hp1⟩:∃DL' p,DL=DL'++[p]∧(a,v)=(p.1,p.2.1):=by
  rcases List.eq_nil_or_concat DL with rfl|⟨DL',p,rfl⟩
  ·simp at hD
  ·refine⟨DL',p,by simp,?_⟩;simp only[List.concat_eq_append,qI,iH,iT] at hD;have:=List.append_inj_right' hD rfl;simpa using this
 simp only[Prod.mk.injEq] at hp1;obtain⟨rfl,rfl⟩:=hp1;have hpL:=hDL p (by simp);unfold Instr.entry;refine aPC hi (by intros;simp) ?_;dsimp only;have hback:S.back? =some p.2.2:=by
  rw[←Array.getLast?_toList,hS];simp
 rw[hback];dsimp only;refine aFJ h1 ?_;dsimp only;simp only[bne_self_eq_false,zLt,if_false];have hfind:es.find? (·.born==p.2.2)=some ⟨enc p.1,p.2.1,p.2.2⟩:=by
  rw[←Array.find?_toList,h2];unfold aCa;rw[List.find?_map];have:L.find? ((λe:MapEntry=>e.born==p.2.2) ∘ λp=>⟨enc p.1,p.2.1,p.2.2⟩)=some p:=by
   cases hf:L.find? ((λe:MapEntry=>e.born==p.2.2) ∘ λp=>⟨enc p.1,p.2.1,p.2.2⟩) with
   | none=>
    rw[List.find?_eq_none] at hf;have:=hf p hpL;simp at this
   | some q=>
    have hq:=List.mem_of_find?_eq_some hf;have he:=List.find?_some hf;simp only[Function.comp,beq_iff_eq] at he;rw[aF3 (f:=λp:α×Value×Nat=>p.2.2) hb1 hq hpL he]
  rw[this];rfl
 rw[hfind];exact hk
end
structure Pk where
 f:Int
 s:Int
 t:Int
 d:ByteArray
 deriving DecidableEq
instance:Inhabited Pk:=⟨⟨0,0,0,⟨#[]⟩⟩⟩
def Pk.cells(p:Pk):List Value:=[.int .i64 p.f,.int .u64 p.s,.int .u64 p.t,.string p.d]
theorem Pk.allCell(p:Pk):∀v∈p.cells.toArray.toList,fP v=true:=by simp[Pk.cells,fP]
theorem Bx.pk{h:PH}{r:Nat}{cs:List Value}(H:Bx h r cs){o:Nat}{p:Pk}(ho:(cs.drop o).take 4=p.cells):cD PG h (loadAt aR (pT r o))=some (.agg p.cells.toArray):=by
 obtain⟨e,h1⟩:=H;have hl:o+4≤cs.length:=by
  have:((cs.drop o).take 4).length=4:=by rw[ho];rfl
  rw[uF,xV] at this;omega
 rw[aR.loadAgg h1 (by simpa using hl)];congr 2;rw[←ho];simp[zLx]
def Pk.right(p:Pk):Bool:=decide (0≤p.f)&&decide (p.f≤1)&&decide (p.s≠0)&&decide (p.t≠0)&&decide (p.d.size≤64)
theorem aK1{h:PH}(p:Pk){k:cE}(hk:∀h',cZ h h'->k (.int .i64 (if p.right then 0 else 1)) h'):aT PG yO #[.agg p.cells.toArray] h k:=by
 apply aGK.call;unfold aGK;intro r hr;rw[cW];have u:cZ h (h.set r (.cells (Value.cells (.agg p.cells.toArray)) aR)):=cU.new hr;have b:Bx (h.set r (.cells (Value.cells (.agg p.cells.toArray)) aR)) r p.cells:=Bx.new;generalize h.set r (.cells (Value.cells (.agg p.cells.toArray)) aR)=h1 at *;have c0:dD h1 ⟨r,0,none⟩=some (.int .i64 p.f):=b.cell 0;have c1:dD h1 ⟨r,0+1,none⟩=some (.int .u64 p.s):=b.cell 1;have c2:dD h1 ⟨r,0+2,none⟩=some (.int .u64 p.t):=b.cell 2;have c3:dD h1 ⟨r,0+3,none⟩=some (.string p.d):=b.cell 3;have hk:=hk h1 u;unfold Pk.right at hk;simp only[aR.f0,aR.f1,aR.f2,aR.f3,bT.load,cA.load,bR.load,c0,cG,reduceIte];by_cases d1:p.f<0
 ·have e1:(0≤p.f)=False:=by apply eq_false;omega
  simp only[aR.f0,aR.f1,aR.f2,aR.f3,bT.load,cA.load,bR.load,c0,d1,e1,wT,decide_false,cG,reduceIte] at hk ⊢;exact hk
 ·have e1:(0≤p.f)=True:=by apply eq_true;omega
  by_cases d2:1<p.f
  ·have e2:(p.f≤1)=False:=by apply eq_false;omega
   simp only[aR.f0,aR.f1,aR.f2,aR.f3,bT.load,cA.load,bR.load,c0,d1,e1,d2,e2,wT,aFu,decide_false,cG,reduceIte] at hk ⊢;exact hk
  ·have e2:(p.f≤1)=True:=by apply eq_true;omega
   by_cases d3:p.s=0
   ·have e3:(p.s==0)=true:=by simp[d3]
    have e3':(p.s≠0)=False:=by simp[d3]
    simp only[aR.f0,aR.f1,aR.f2,aR.f3,bT.load,cA.load,bR.load,c0,d1,e1,d2,e2,c1,e3,e3',wT,aFu,decide_false,cG,reduceIte] at hk ⊢;exact hk
   ·have e3:(p.s==0)=false:=by simp[d3]
    have e3':(p.s≠0)=True:=by simp[d3]
    by_cases d4:p.t=0
    ·have e4:(p.t==0)=true:=by simp[d4]
     have e4':(p.t≠0)=False:=by simp[d4]
     simp only[aR.f0,aR.f1,aR.f2,aR.f3,bT.load,cA.load,bR.load,c0,d1,e1,d2,e2,c1,e3,e3',c2,e4,e4',wT,aFu,decide_false,cG,reduceIte] at hk ⊢;exact hk
    ·have e4:(p.t==0)=false:=by simp[d4]
     have e4':(p.t≠0)=True:=by simp[d4]
     by_cases d5:p.d.size≤64
     ·have e5:((64:Int)<(p.d.size:Int))=False:=by apply eq_false;omega
      simp only[aR.f0,aR.f1,aR.f2,aR.f3,bT.load,cA.load,bR.load,c0,d1,e1,d2,e2,c1,e3,e3',c2,e4,e4',c3,lP bR.und,e5,d5,Bool.and_self,zLp,cG,reduceIte] at hk ⊢;exact hk
     ·have e5:((64:Int)<(p.d.size:Int))=True:=by apply eq_true;omega
      simp only[aR.f0,aR.f1,aR.f2,aR.f3,bT.load,cA.load,bR.load,c0,d1,e1,d2,e2,c1,e3,e3',c2,e4,e4',c3,lP bR.und,e5,d5,aFu,decide_false,cG,reduceIte] at hk ⊢;exact hk
structure Nt where
 k:Int
 p:Pk
 deriving DecidableEq
def Nt.cells(n:Nt):List Value:=[.int .i64 n.k,.int .i64 n.p.f,.int .u64 n.p.s,.int .u64 n.p.t,.string n.p.d]
theorem Nt.rows(l:List Nt):Rows 5 (l.map Nt.cells):=λr hr=>by obtain⟨m,_,rfl⟩:=lO.1 hr;rfl
def Nt.right(n:Nt):Bool:=decide (1≤n.k)&&decide (n.k≤4)&&n.p.right
theorem aTX(x:Int):dA PG (convert cA dJ (.int .u64 x))=some (.int .u8 (IntKind.u8.wrap x)):=by kernel_rfl
theorem aLV(x:Int):jK PG (buildSlice cX 1 #[(0,.int .u8 x)])=some (.cells #[.int .u8 x] dJ,λr=>pure (.slice (some ⟨r,0,none⟩) 1 1)):=by kernel_rfl
theorem tH{h:PH}{n c:Nat}(hn:n<18446744073709551616)(hc:c≤1000){k:cE}(hk:∀h',cZ h h'->k (.string (tx (be n c))) h'):aT PG iW #[.int .u64 n,.int .i64 c] h k:=by
 apply aBg.call;unfold aBg;refine⟨λvs h'=>∃i:Nat,i≤c∧vs=[.int .u64 ((n/256^i:Nat):Int),.int .i64 c,.string (tx ((be n c).drop (c-i))),.int .i64 i]∧cZ h h',gU c 3,⟨0,by omega,by rw[aLq (by rw[iC];omega)];simp[aX8],cU.refl⟩,?_⟩;rintro ρ h' ⟨i,hi,hvs,w⟩;simp only[iH,iT,kV,and_true] at hvs;obtain⟨s0,s1,s2,s3⟩:=hvs;rw[s0,s1,s2,s3];unfold aGH;by_cases hlt:i<c
 ·have hd:((i:Int)<(c:Int))=True:=by apply eq_true;omega
  have hle:n/256^i≤n:=Nat.div_le_self _ _;have e1:Int.tmod ((n/256^i:Nat):Int) 256=((n/256^i%256:Nat):Int):=(Int.ofNat_tmod _ 256).symm;have e2:IntKind.u8.wrap ((n/256^i%256:Nat):Int)=((UInt8.ofNat (n/256^i%256)).toNat:Int):=by rw[aHG];simp
  have e3:IntKind.u64.wrap (Int.tdiv ((n/256^i:Nat):Int) 256)=((n/256^(i+1):Nat):Int):=by
   have:Int.tdiv ((n/256^i:Nat):Int) 256=((n/256^i/256:Nat):Int):=rfl;have hd2:n/256^i/256=n/256^(i+1):=by rw[Nat.div_div_eq_div_mul,zLQ]
   rw[this,hd2];exact gL (Int.natCast_nonneg _) (by have:=Nat.div_le_self n (256^(i+1));omega)
  have ei:=pR (i:=i) (by omega);simp only[hd,aHz (show(256:Int)≠0 by decide),aL8 (show(256:Int)≠0 by decide),e1,aTX,e2,aLV,cG,reduceIte];intro r hr;refine fI ?_;have u1:cZ h' (h'.set r (.cells #[.int .u8 (UInt8.ofNat (n/256^i%256)).toNat] dJ)):=cU.new hr;have s1:fR (h'.set r (.cells #[.int .u8 (UInt8.ofNat (n/256^i%256)).toNat] dJ)) 1 (.slice (some ⟨r,0,none⟩) 1 1) ([UInt8.ofNat (n/256^i%256)].map jC):=(dZ.lit (jC.rows [_]) dL (by simp) (by decide) (by simp[jC])).slR;generalize h'.set r (.cells #[.int .u8 (UInt8.ofNat (n/256^i%256)).toNat] dJ)=h1 at *;have hcv:=aDH cX.und dJ.und bR.und s1;have hcv':cD PG h1 (convert cX bR (.slice (some ⟨r,0,none⟩) 1 1))=some (.string (tx [UInt8.ofNat (n/256^i%256)])):=hcv;have hadd:dA PG (binOp .add bR (.string (tx [UInt8.ofNat (n/256^i%256)])) (.string (tx ((be n c).drop (c-i)))))=some (.string (tx ((be n c).drop (c-(i+1))))):=by
   rw[lJ (by rw[xV,iC];simp;omega)];congr 3;have hg:=aNL n c (c-(i+1)) (by omega);have:c-1-(c-(i+1))=i:=by omega
   rw[this] at hg;obtain⟨hlt',hg'⟩:=zLz.1 hg;rw[aM7 hlt',hg'];have:c-(i+1)+1=c-i:=by omega
   rw[this];rfl
  simp only[hcv',hadd,e3,ei,cG,reduceIte];exact⟨⟨i+1,by omega,rfl,w.trans u1⟩,by simp[gU,s3];omega⟩
 ·have hd:((i:Int)<(c:Int))=False:=by apply eq_false;omega
  have hic:i=c:=by omega
  subst hic;rw[Nat.sub_self,zLb];simp only[hd,cG,reduceIte];exact hk _ w
abbrev W:=BitVec 32
def wv(x:W):Value:=.int .u32 (x.toNat:Int)
def tn(x:W)(n:Nat):W:=(x <<< (32-n)) ||| (x>>>n)
def w4(a b c d:UInt8):W:=((((BitVec.ofNat 32 a.toNat) <<< 24) ||| ((BitVec.ofNat 32 b.toNat) <<< 16)) ||| ((BitVec.ofNat 32 c.toNat) <<< 8)) ||| (BitVec.ofNat 32 d.toNat)
def wat(b:List UInt8)(t:Nat):W:=w4 (b.getD (4*t) 0) (b.getD (4*t+1) 0) (b.getD (4*t+2) 0) (b.getD (4*t+3) 0)
def aMK(l:List W)(t:Nat):W:=
 let x:=l.getD (t-15) 0;let y:=l.getD (t-2) 0
 ((l.getD (t-16) 0+((tn x 7 ^^^ tn x 18) ^^^ (x>>>3)))+l.getD (t-7) 0)+((tn y 17 ^^^ tn y 19) ^^^ (y>>>10))
def xN(b:List UInt8)(n:Nat):List W:=(List.range n).map (wat b)
def mM(b:List UInt8):Nat->List W
 | 0=>xN b 16
 | n+1=>mM b n++[aMK (mM b n) (n+16)]
def aFM(b:List UInt8):List W:=mM b 48
theorem aGw(b:List UInt8)(n:Nat):(xN b n).length=n:=by simp[xN]
theorem aMe(b:List UInt8)(n:Nat):xN b (n+1)=xN b n++[wat b n]:=by simp[xN,List.range_succ]
theorem aJY(b:List UInt8):∀n,(mM b n).length=n+16
 | 0=>by simp[mM,aGw]
 | n+1=>by simp only[mM,jP,aJY b n,zLS]
theorem aKr(b:List UInt8):(aFM b).length=64:=aJY b 48
structure S8 where
 (a b c d e f g h:W)
def S8.l(s:S8):List W:=[s.a,s.b,s.c,s.d,s.e,s.f,s.g,s.h]
def S8.cells(s:S8):List Value:=s.l.map wv
def S8.add(s t:S8):S8:=⟨s.a+t.a,s.b+t.b,s.c+t.c,s.d+t.d,s.e+t.e,s.f+t.f,s.g+t.g,s.h+t.h⟩
def rnd(s:S8)(k w:W):S8:=
 let t1:=(((s.h+((tn s.e 6 ^^^ tn s.e 11) ^^^ tn s.e 25))+((s.e &&& s.f) ^^^ (~~~s.e &&& s.g)))+k)+w;let t2:=((tn s.a 2 ^^^ tn s.a 13) ^^^ tn s.a 22)+(((s.a &&& s.b) ^^^ (s.a &&& s.c)) ^^^ (s.b &&& s.c))
 ⟨t1+t2,s.a,s.b,s.c,s.d+t1,s.e,s.f,s.g⟩
def kT:List W:=[
 0x428a2f98,0x71374491,0xb5c0fbcf,0xe9b5dba5,0x3956c25b,0x59f111f1,0x923f82a4,0xab1c5ed5,
 0xd807aa98,0x12835b01,0x243185be,0x550c7dc3,0x72be5d74,0x80deb1fe,0x9bdc06a7,0xc19bf174,
 0xe49b69c1,0xefbe4786,0x0fc19dc6,0x240ca1cc,0x2de92c6f,0x4a7484aa,0x5cb0a9dc,0x76f988da,
 0x983e5152,0xa831c66d,0xb00327c8,0xbf597fc7,0xc6e00bf3,0xd5a79147,0x06ca6351,0x14292967,
 0x27b70a85,0x2e1b2138,0x4d2c6dfc,0x53380d13,0x650a7354,0x766a0abb,0x81c2c92e,0x92722c85,
 0xa2bfe8a1,0xa81a664b,0xc24b8b70,0xc76c51a3,0xd192e819,0xd6990624,0xf40e3585,0x106aa070,
 0x19a4c116,0x1e376c08,0x2748774c,0x34b0bcb5,0x391c0cb3,0x4ed8aa4a,0x5b9cca4f,0x682e6ff3,
 0x748f82ee,0x78a5636f,0x84c87814,0x8cc70208,0x90befffa,0xa4506ceb,0xbef9a3f7,0xc67178f2]
theorem aJ7:kT.length=64:=rfl
def aH2(ws:List W)(s:S8):Nat->S8
 | 0=>s
 | n+1=>rnd (aH2 ws s n) (kT.getD n 0) (ws.getD n 0)
def aJp(s:S8)(b:List UInt8):S8:=s.add (aH2 (aFM b) s 64)
def S0:S8:=⟨1779033703,3144134277,1013904242,2773480762,1359893119,2600822924,528734635,1541459225⟩
def qF(s:S8)(l:List UInt8):S8×List UInt8:=if h:64≤l.length then qF (aJp s (l.take 64)) (l.drop 64) else(s,l)
termination_by l.length
decreasing_by simp;omega
theorem aHr{s:S8}{l:List UInt8}(h:l.length<64):qF s l=(s,l):=by rw[qF,dif_neg (by omega)]
theorem aHm{s:S8}{l:List UInt8}(h:64≤l.length):qF s l=qF (aJp s (l.take 64)) (l.drop 64):=by rw[qF,dif_pos h]
theorem aKl(s:S8)(a b:List UInt8):qF s (a++b)=qF (qF s a).1 ((qF s a).2++b):=by
 by_cases h:64≤a.length
 ·have e1:(a++b).take 64=a.take 64:=by rw[zLG h]
  have e2:(a++b).drop 64=a.drop 64++b:=by rw[List.drop_append_of_le_length h]
  rw[aHm (l:=a++b) (by simp;omega),aHm h,e1,e2];exact aKl (aJp s (a.take 64)) (a.drop 64) b
 ·rw[aHr (l:=a) (by omega)]
termination_by a.length
decreasing_by simp;omega
theorem aJj(s:S8)(a:List UInt8):(qF s a).2.length<64:=by
 by_cases h:64≤a.length
 ·rw[aHm h];exact aJj _ _
 ·rw[aHr (by omega)];show a.length<64;omega
termination_by a.length
decreasing_by simp;omega
def wb(x:W):List UInt8:=[UInt8.ofNat ((x>>>24).toNat),UInt8.ofNat ((x>>>16).toNat),UInt8.ofNat ((x>>>8).toNat),UInt8.ofNat x.toNat]
def aIe(s:S8):List UInt8:=s.l.flatMap wb
def aIw(n:Nat):List UInt8:=128::(List.replicate ((119-n%64)%64) 0++be (n*8%18446744073709551616) 8)
def oP(l:List UInt8):List UInt8:=aIe (qF S0 (l++aIw l.length)).1
section
variable{P:Program}{t:TypeId}{x y:W}{h:PH}
theorem aFr(x:Int):IntKind.u32.wrap x=x%4294967296:=by
 rfl
theorem aEa(x:W):BitVec.ofInt 32 (x.toNat:Int)=x:=by
 apply BitVec.eq_of_toInt_eq;rw[BitVec.toInt_ofInt,BitVec.toInt_eq_toNat_bmod]
theorem aFn:dA P (binOp .add t (wv x) (wv y))=some (wv (x+y)):=by
 unfold wv;rw[aQo,aFr,BitVec.toNat_add,←Int.natCast_add];rfl
theorem aNl(x:W):IntKind.u32.wrap (x.toNat:Int)=x.toNat:=by
 rw[aFr];have:=x.isLt;omega
theorem aPl:dA P (binOp .and t (wv x) (wv y))=some (wv (x &&& y)):=by
 have e:dA P (binOp .and t (wv x) (wv y))=some (.int .u32 (IntKind.u32.wrap ((BitVec.ofInt 32 (x.toNat:Int) &&& BitVec.ofInt 32 (y.toNat:Int)).toNat:Int))):=rfl;rw[e,aEa,aEa,aNl];rfl
theorem aUt:dA P (binOp .or t (wv x) (wv y))=some (wv (x ||| y)):=by
 have e:dA P (binOp .or t (wv x) (wv y))=some (.int .u32 (IntKind.u32.wrap ((BitVec.ofInt 32 (x.toNat:Int) ||| BitVec.ofInt 32 (y.toNat:Int)).toNat:Int))):=rfl;rw[e,aEa,aEa,aNl];rfl
theorem aEE:dA P (binOp .xor t (wv x) (wv y))=some (wv (x ^^^ y)):=by
 have e:dA P (binOp .xor t (wv x) (wv y))=some (.int .u32 (IntKind.u32.wrap ((BitVec.ofInt 32 (x.toNat:Int) ^^^ BitVec.ofInt 32 (y.toNat:Int)).toNat:Int))):=rfl;rw[e,aEa,aEa,aNl];rfl
theorem aWL:dA P (Op.unary .xor (wv x))=some (wv (~~~x)):=by
 have e:dA P (Op.unary .xor (wv x))=some (.int .u32 (IntKind.u32.wrap ((BitVec.ofInt 32 4294967295 ^^^ BitVec.ofInt 32 (x.toNat:Int)).toNat:Int))):=rfl;rw[e,aEa,aNl];have:BitVec.ofInt 32 4294967295 ^^^ x= ~~~x:=by
  have:BitVec.ofInt 32 4294967295=BitVec.allOnes 32:=by decide
  rw[this,BitVec.allOnes_xor]
 rw[this];rfl
theorem aJO{k:IntKind}{n:Nat}(hn:n≤32):dA P (binOp .shr t (wv x) (.int k n))=some (wv (x>>>n)):=by
 unfold wv;rw[aHt (by omega)];congr 2;rw[BitVec.toNat_ushiftRight,Nat.shiftRight_eq_div_pow];have e:min ((n:Int).toNat) (IntKind.u32.bits)=n:=by
  show min n 32=n;omega
 rw[e,Int.fdiv_eq_ediv_of_nonneg _ (Int.pow_nonneg (by decide)),Int.natCast_ediv,Int.natCast_pow];rfl
theorem aNy{k:IntKind}{n:Nat}(hn:n≤32):dA P (binOp .shl t (wv x) (.int k n))=some (wv (x <<< n)):=by
 unfold wv;rw[aQf (by omega)];congr 2;have e:min ((n:Int).toNat) (IntKind.u32.bits)=n:=by
  show min n 32=n;omega
 rw[e,aFr,BitVec.toNat_shiftLeft,Nat.shiftLeft_eq,Int.natCast_emod,Int.natCast_mul,Int.natCast_pow];rfl
end
theorem aJr(x:Int):dA PG (convert bT nK (.int .i64 x))=some (.int .u64 (IntKind.u64.wrap x)):=by kernel_rfl
theorem aSB(x:Int):dA PG (convert dJ cL (.int .u8 x))=some (.int .u32 (IntKind.u32.wrap x)):=by kernel_rfl
theorem aXW(x:Int):dA PG (convert cL dJ (.int .u32 x))=some (.int .u8 (IntKind.u8.wrap x)):=by kernel_rfl
theorem aZA:∀n:Fin 32,((BitVec.ofInt 64 (18446744073709551616-(n.val:Int)) &&& BitVec.ofInt 64 31).toNat:Int)=(32-(n.val:Int))%32:=by decide
theorem aYl(n:Nat)(h1:1≤n)(h2:n≤31):dA PG (binOp .and nK (.int .u64 (18446744073709551616-(n:Int))) (.int .u64 31))=some (.int .u64 ((32-n:Nat):Int)):=by
 have e:dA PG (binOp .and nK (.int .u64 (18446744073709551616-(n:Int))) (.int .u64 31))=some (.int .u64 (IntKind.u64.wrap ((BitVec.ofInt 64 (18446744073709551616-(n:Int)) &&& BitVec.ofInt 64 31).toNat:Int))):=rfl;have:=aZA ⟨n,by omega⟩;simp only at this;rw[e,this,gL (by omega) (by omega)];congr 2;omega
theorem aDn{h:PH}{x:W}{n:Nat}(h1:1≤n)(h2:n≤31){k:cE}(hk:k (wv (tn x n)) h):aT PG qH #[wv x,.int .i64 n] h k:=by
 apply aKt.call;unfold aKt;have e1:dA PG (Op.unary .neg (.int .i64 (n:Int)))=some (.int .i64 (-(n:Int))):=by
  have:dA PG (Op.unary .neg (.int .i64 (n:Int)))=some (.int .i64 (IntKind.i64.wrap (0-(n:Int)))):=rfl;rw[this,eV (by omega) (by omega)];simp
 simp only[e1,cG,reduceIte];apply xA.call;unfold xA;have e2:IntKind.u64.wrap (-(n:Int))=18446744073709551616-(n:Int):=by
  unfold IntKind.wrap;simp[IntKind.signed,IntKind.bits];omega
 have e3:IntKind.u64.wrap (32-((32-n:Nat):Int))=((n:Nat):Int):=by rw[gL (by omega) (by omega)];omega
 simp only[aJr,e2,aYl n h1 h2,aNI,e3,aNy (show 32-n≤32 by omega),aJO (show n≤32 by omega),aUt,cG,reduceIte];exact hk
theorem aR5{l r:List Value}{x v:Value}{n:Nat}(hn:n=l.length):(l++x::r).toArray.setIfInBounds n v=(l++v::r).toArray:=by
 subst hn;apply zLv;simp
def zs(n:Nat):List Value:=List.replicate n (wv 0)
theorem aRc(n:Nat):zs (n+1)=wv 0::zs n:=rfl
theorem aLj{b:Nat}{j:Int}(h0:0≤j)(h1:j<64):dA PG (indexAt eX (pT b 0) (.int .i64 j))=some (pT b j.toNat):=by
 rw[vB eX.und cL.info cL.size h0 (by exact_mod_cast h1)];simp
theorem at8{b:Nat}{j:Int}(h0:0≤j)(h1:j<8):dA PG (indexAt eN (pT b 0) (.int .i64 j))=some (pT b j.toNat):=by
 rw[vB eN.und cL.info cL.size h0 (by exact_mod_cast h1)];simp
theorem isw(x:W):fP (wv x)=true:=rfl
theorem aLd{h:PH}{b o:Nat}{l:List W}{r:List Value}{t:TypeId}{fr:Nat×Nat}(hb:h b=some (.cells (l.map wv++r).toArray t fr))(ho:o<l.length):dD h ⟨b,o,none⟩=some (wv (l.getD o 0)):=by
 unfold dD;simp only[hb];rw[zLJ,List.getElem?_append_left (by simpa using ho),vD,lQ ho];simp[aAX,lQ ho]
theorem w8(x:UInt8):Value.int .u32 (IntKind.u32.wrap (x.toNat:Int))=wv (BitVec.ofNat 32 x.toNat):=by
 have hx:=x.toNat_lt;unfold wv;rw[aFr,BitVec.toNat_ofNat];congr 1
theorem aZ1{t:TypeId}{x:W}{k:IntKind}:dA PG (binOp .shl t (wv x) (.int k 24))=some (wv (x <<< 24)):=aNy (n:=24) (by decide)
theorem aZv{t:TypeId}{x:W}{k:IntKind}:dA PG (binOp .shl t (wv x) (.int k 16))=some (wv (x <<< 16)):=aNy (n:=16) (by decide)
theorem sh8{t:TypeId}{x:W}{k:IntKind}:dA PG (binOp .shl t (wv x) (.int k 8))=some (wv (x <<< 8)):=aNy (n:=8) (by decide)
theorem sr3{t:TypeId}{x:W}{k:IntKind}:dA PG (binOp .shr t (wv x) (.int k 3))=some (wv (x>>>3)):=aJO (n:=3) (by decide)
theorem aYM{t:TypeId}{x:W}{k:IntKind}:dA PG (binOp .shr t (wv x) (.int k 10))=some (wv (x>>>10)):=aJO (n:=10) (by decide)
theorem z64:dP PG eX=(zs 64).toArray:=by rw[eX.zc];rfl
theorem z8:dP PG eN=(zs 8).toArray:=by rw[eN.zc];rfl
theorem aUb{b:List UInt8}(hb:b.length=64){i r1 r3:Nat}(hi:i<16){h:PH}{R:cE}{n5:gI}
  (h3:h r3=some (.cells ((xN b i).map wv++zs (64-i)).toArray eX (0,0)))
  (hn:n5 [.string (tx b),pT r1 0,pT r3 0,.int .i64 ((i+1:Nat):Int)] (h.set r3 (.cells ((xN b (i+1)).map wv++zs (64-(i+1))).toArray eX (0,0)))):
  aGU R n5 (.string (tx b)) (pT r1 0) (pT r3 0) (.int .i64 (i:Int)) h:=by
 unfold aGU;have e1:((i:Int)<16)=True:=eq_true (by omega);have e2:IntKind.i64.wrap (4*(i:Int))=((4*i:Nat):Int):=by rw[eV (by omega) (by omega)];omega
 have e3:IntKind.i64.wrap (((4*i:Nat):Int)+4)=((4*i+4:Nat):Int):=by rw[eV (by omega) (by omega)];omega
 have e4:=pR (i:=i) (by omega);have ec:dA PG (Instr.sliceAt bR (.string (tx b)) (some (.int .i64 ((4*i:Nat):Int))) (some (.int .i64 ((4*i+4:Nat):Int))) none)=some (.string (tx ((b.take (4*i+4)).drop (4*i)))):=
  aHx bR.und (.inr ⟨_,rfl⟩) (.inr ⟨_,rfl⟩) (by omega) (by omega)
 have ix:∀j,j<4->((b.take (4*i+4)).drop (4*i))[j]? =some (b.getD (4*i+j) 0):=λj hj=>by
  rw[aMB,aH9,if_pos (by omega),aAX,lQ (by omega)];rfl
 have i0:dA PG (Instr.index bR (.string (tx ((b.take (4*i+4)).drop (4*i)))) (.int .i64 0))=_:=zF (j:=0) bR.und (ix 0 (by omega));have i1:dA PG (Instr.index bR (.string (tx ((b.take (4*i+4)).drop (4*i)))) (.int .i64 1))=_:=zF (j:=1) bR.und (ix 1 (by omega));have i2:dA PG (Instr.index bR (.string (tx ((b.take (4*i+4)).drop (4*i)))) (.int .i64 2))=_:=zF (j:=2) bR.und (ix 2 (by omega));have i3:dA PG (Instr.index bR (.string (tx ((b.take (4*i+4)).drop (4*i)))) (.int .i64 3))=_:=zF (j:=3) bR.und (ix 3 (by omega));have ea:=aLj (b:=r3) (j:=(i:Int)) (by omega) (by omega);rw[pQ] at ea;simp only[e1,e2,e3,e4,ec,i0,i1,i2,i3,aSB,w8,aZ1,aZv,sh8,aUt,ea,cG,reduceIte];refine iU cL.und rfl h3 (by simp[aGw,zs];omega) (isw _) cL.info cL.size ?_;have es:((xN b i).map wv++zs (64-i)).toArray.setIfInBounds i (wv (w4 (b.getD (4*i+0) 0) (b.getD (4*i+1) 0) (b.getD (4*i+2) 0) (b.getD (4*i+3) 0)))=((xN b (i+1)).map wv++zs (64-(i+1))).toArray:=by
  rw[show 64-i=(64-(i+1))+1 by omega,aRc,aR5 (by simp[aGw]),aMe];simp[wat]
 have es':=es;unfold w4 at es';rw[es'];exact hn
theorem aTx{b:List UInt8}{i r1 r3:Nat}(hi:i<48){h:PH}{R:cE}{n5:gI}
  (h3:h r3=some (.cells ((mM b i).map wv++zs (48-i)).toArray eX (0,0)))
  (hn:n5 [pT r1 0,pT r3 0,.int .i64 ((i+1+16:Nat):Int)] (h.set r3 (.cells ((mM b (i+1)).map wv++zs (48-(i+1))).toArray eX (0,0)))):
  aFo R n5 (pT r1 0) (pT r3 0) (.int .i64 ((i+16:Nat):Int)) h:=by
 unfold aFo;have hl:=aJY b i;have e1:(((i+16:Nat):Int)<64)=True:=eq_true (by omega);have e2:IntKind.i64.wrap (((i+16:Nat):Int)-15)=((i+1:Nat):Int):=by rw[eV (by omega) (by omega)];omega
 have e3:IntKind.i64.wrap (((i+16:Nat):Int)-2)=((i+14:Nat):Int):=by rw[eV (by omega) (by omega)];omega
 have e4:IntKind.i64.wrap (((i+16:Nat):Int)-16)=((i:Nat):Int):=by rw[eV (by omega) (by omega)];omega
 have e5:IntKind.i64.wrap (((i+16:Nat):Int)-7)=((i+9:Nat):Int):=by rw[eV (by omega) (by omega)];omega
 have e6:IntKind.i64.wrap (((i+16:Nat):Int)+1)=((i+1+16:Nat):Int):=by rw[eV (by omega) (by omega)];omega
 have a1:=aLj (b:=r3) (j:=((i+1:Nat):Int)) (by omega) (by omega);have a2:=aLj (b:=r3) (j:=((i+14:Nat):Int)) (by omega) (by omega);have a3:=aLj (b:=r3) (j:=((i:Nat):Int)) (by omega) (by omega);have a4:=aLj (b:=r3) (j:=((i+9:Nat):Int)) (by omega) (by omega);have a5:=aLj (b:=r3) (j:=((i+16:Nat):Int)) (by omega) (by omega);rw[pQ] at a1 a2 a3 a4 a5;have c1:=aLd (o:=i+1) h3 (by omega);have c2:=aLd (o:=i+14) h3 (by omega);have c3:=aLd (o:=i) h3 (by omega);have c4:=aLd (o:=i+9) h3 (by omega);simp only[e1,e2,e3,e4,e5,a1,a2,a3,a4,cL.load,c1,c2,c3,c4,sr3,aYM,cG,reduceIte];refine aDn (n:=7) (by decide) (by decide) ?_;refine⟨by simp only[cL.load,c4],by simp only[cL.load,c3],?_⟩;refine aDn (n:=18) (by decide) (by decide) ?_;refine⟨by simp only[cL.load,c4],by simp only[cL.load,c3],?_⟩;simp only[aEE,aFn,cG,reduceIte];refine aDn (n:=17) (by decide) (by decide) ?_;refine⟨by simp only[cL.load,c4],by simp only[cL.load,c3],?_⟩;refine aDn (n:=19) (by decide) (by decide) ?_;refine⟨by simp only[cL.load,c4],by simp only[cL.load,c3],?_⟩;simp only[aEE,aFn,a5,e6,cG,reduceIte];refine iU cL.und rfl h3 (by simp[hl,zs];omega) (isw _) cL.info cL.size ?_;have es:((mM b i).map wv++zs (48-i)).toArray.setIfInBounds (i+16) (wv (aMK (mM b i) (i+16)))=((mM b (i+1)).map wv++zs (48-(i+1))).toArray:=by
  rw[show 48-i=(48-(i+1))+1 by omega,aRc,aR5 (by simp[hl]),mM];simp
 have es':=es;unfold aMK at es';rw[show i+16-15=i+1 by omega,show i+16-2=i+14 by omega,show i+16-16=i by omega,show i+16-7=i+9 by omega] at es';simp only at es';rw[es'];exact hn
theorem aUx{h:PH}{b:List UInt8}(hb:b.length=64){k:cE}(hk:∀h',cZ h h'->k (.agg ((aFM b).map wv).toArray) h'):aT PG aIy #[.string (tx b)] h k:=by
 apply aGI.call;unfold aGI;rw[z64];intro r1 hr1
 try simp only[cW]
 have u1:cZ h (h.set r1 (.cells (zs 64).toArray eX)):=cU.new hr1;have a1:(h.set r1 (.cells (zs 64).toArray eX)) r1=some (.cells (zs 64).toArray eX (0,0)):=dL;generalize h.set r1 (.cells (zs 64).toArray eX)=h1 at *;intro r3 hr3
 try simp only[cW]
 have u3:cZ h1 (h1.set r3 (.cells (zs 64).toArray eX)):=cU.new hr3;have a3:(h1.set r3 (.cells (zs 64).toArray eX)) r3=some (.cells (zs 64).toArray eX (0,0)):=dL;have hne:r1≠r3:=λe=>by subst e;rw[a1] at hr3;cases hr3
 have n3:h r3=none:=u1.none hr3;have b1:=u3.get a1;generalize h1.set r3 (.cells (zs 64).toArray eX)=h2 at *;have u:=u1.trans u3;refine⟨λvs h'=>∃i,i≤16∧vs=[.string (tx b),pT r1 0,pT r3 0,.int .i64 ((i:Nat):Int)]∧cZ h h'∧h' r1=some (.cells (zs 64).toArray eX (0,0))∧h' r3=some (.cells ((xN b i).map wv++zs (64-i)).toArray eX (0,0)),gU 16 3,⟨0,by omega,rfl,u,b1,by simpa[xN] using a3⟩,?_⟩;rintro ρ h' ⟨i,hi,hvs,u',b1',b3'⟩;simp only[iH,iT,kV,and_true] at hvs;obtain⟨v0,v2,v3,v9⟩:=hvs;simp only[v0,v2,v3,v9,iH,iT];by_cases hl:i<16
 ·refine aUb hb hl b3' ⟨⟨i+1,by omega,rfl,u'.fresh (cU.set (F:=[r3]) (by simp)) (eD.one n3),by rw[oZ hne];exact b1',dL⟩,?_⟩;simp only[gU,sA,pK];omega
 ·have hi':i=16:=by omega
  subst hi';unfold aGU;simp only[show(((16:Nat):Int)<16)=False from eq_false (by decide),cG,reduceIte];refine⟨λvs h'=>∃i,i≤48∧vs=[pT r1 0,pT r3 0,.int .i64 ((i+16:Nat):Int)]∧cZ h h'∧h' r1=some (.cells (zs 64).toArray eX (0,0))∧h' r3=some (.cells ((mM b i).map wv++zs (48-i)).toArray eX (0,0)),gU 64 2,⟨0,by omega,rfl,u',b1',b3'⟩,?_⟩;rintro ρ2 h2' ⟨i,hi,hvs,u2,c1,c3⟩;simp only[iH,iT,kV,and_true] at hvs;obtain⟨v2',v3',v6'⟩:=hvs;simp only[v2',v3',v6',iH,iT];by_cases hl:i<48
  ·refine aTx hl c3 ⟨⟨i+1,by omega,rfl,u2.fresh (cU.set (F:=[r3]) (by simp)) (eD.one n3),by rw[oZ hne];exact c1,dL⟩,?_⟩;simp only[gU,sA,pK];omega
  ·have hi':i=48:=by omega
   subst hi';have hw:((mM b 48).map wv++zs (48-48)).toArray=((aFM b).map wv).toArray:=by simp[aFM,zs]
   rw[hw] at c3;have hsz:((aFM b).map wv).toArray.size=64:=by rw[List.size_toArray,iS,aKr]
   have hic:∀v∈((aFM b).map wv).toArray.toList,fP v=true:=λv hv=>by
    rw[List.toList_toArray,lO] at hv;obtain⟨w,-,rfl⟩:=hv;rfl
   generalize ((aFM b).map wv).toArray=cs at *;unfold aFo;have l3:=eX.loadAgg (o:=0) c3 (by omega);rw[Array.extract_eq_self_of_le (by omega)] at l3;simp only[show(((48+16:Nat):Int)<64)=False from eq_false (by decide),l3,cG,reduceIte];refine xP c1 eX.info (by rw[hsz];rfl) (by omega) (by rw[hsz];rfl) hic ?_;have l1:=eX.loadAgg (h:=h2'.set r1 (.cells cs eX (0,0))) (o:=0) dL (by omega);rw[Array.extract_eq_self_of_le (by omega)] at l1;simp only[l1,cG,reduceIte];exact hk _ (u2.fresh (cU.set (F:=[r1]) (by simp)) (eD.one hr1))
def mU(h:PH):Prop:=∃t fr,h 0=some (.cells (kT.map wv).toArray t fr)
theorem mU.ext{h h':PH}(H:mU h)(u:cZ h h'):mU h':=by
 obtain⟨t,fr,hb⟩:=H;exact⟨t,fr,u.get hb⟩
theorem aTJ{h:PH}{b o:Nat}{l:List W}{t:TypeId}{fr:Nat×Nat}(hb:h b=some (.cells (l.map wv).toArray t fr))(ho:o<l.length):dD h ⟨b,o,none⟩=some (wv (l.getD o 0)):=by
 refine aLd (r:=[]) (t:=t) (fr:=fr) ?_ ho;rw[zLP];exact hb
theorem aY1{h:PH}{r:Nat}{a b c d e f g x:Value}(hb:h r=some (.cells #[a,b,c,d,e,f,g,x] eN (0,0)))(hc:∀v∈[a,b,c,d,e,f,g],fP v=true){k:cE}
  (hk:k (.int .i64 7) (h.set r (.cells #[a,a,b,c,d,e,f,g] eN (0,0)))):
  cY PG (Builtin.copy_ #[eP,eP] bT #[.slice (some ⟨r,1,none⟩) 7 7,.slice (some ⟨r,0,none⟩) 7 8]) h k:=by
 have S:fR h 1 (.slice (some ⟨r,0,none⟩) 7 8) [[a],[b],[c],[d],[e],[f],[g]]:=by
  refine⟨λq hq=>by simp at hq;rcases hq with rfl|rfl|rfl|rfl|rfl|rfl|rfl<;>rfl,some ⟨r,0,none⟩,8,rfl,by simp,by unfold qZ;omega,λ_=>⟨r,0,_,_,_,rfl,hb,by simp,by simp⟩,trivial⟩
 have hfirst:=S.first (P:=PG);simp only[Builtin.copy_,zLJ,pK,sA,qD eP.und,kR,mI cL.info,pure_bind,Builtin.lenOf,cL.size];refine iM (s:=Builtin.firstCells 1 7 (.slice (some ⟨r,0,none⟩) 7 8)) (a:=#[a,b,c,d,e,f,g]) hfirst ?_;refine cY.bind (P:=PG) (s:=storeCells _ _) ?_;refine tW [a,b,c,d,e,f,g] 0 h #[a,b,c,d,e,f,g,x] hb (by simp) hc ?_;have e:(if [a,b,c,d,e,f,g]=[] then h else h.set r (.cells (xX #[a,b,c,d,e,f,g,x] (1+0) [a,b,c,d,e,f,g]) eN (0,0)))=h.set r (.cells #[a,a,b,c,d,e,f,g] eN (0,0)):=by
  rw[if_neg (by simp)];rfl
 rw[e];exact hk
theorem aZg{r:Nat}:dA PG (Instr.sliceAt eN (pT r 0) (some (.int .i64 1)) none none)=some (.slice (some ⟨r,1,none⟩) 7 7):=by kernel_rfl
theorem aZe{r:Nat}:dA PG (Instr.sliceAt eN (pT r 0) none (some (.int .i64 7)) none)=some (.slice (some ⟨r,0,none⟩) 7 8):=by kernel_rfl
theorem aXB{ws:List W}(hws:ws.length=64){s:S8}{i a r3 r10:Nat}(hi:i<64){h:PH}{R:cE}{n:gI}(hK:mU h)
  (h3:h r3=some (.cells (ws.map wv).toArray eX (0,0))) (h10:h r10=some (.cells #[wv s.a,wv s.b,wv s.c,wv s.d,wv s.e,wv s.f,wv s.g,wv s.h] eN (0,0)))
  (hn:∀s',s'=rnd s (kT.getD i 0) (ws.getD i 0)->n [pT a 0,pT r3 0,pT r10 0,.int .i64 ((i+1:Nat):Int)] (h.set r10 (.cells #[wv s'.a,wv s'.b,wv s'.c,wv s'.d,wv s'.e,wv s'.f,wv s'.g,wv s'.h] eN (0,0)))):
  aCE R n (pT a 0) (pT r3 0) (pT r10 0) (.int .i64 (i:Int)) h:=by
 obtain⟨kt,fr,hK⟩:=hK;unfold aCE;have e1:((i:Int)<64)=True:=eq_true (by omega);have e4:=pR (i:=i) (by omega);have m:∀j:Nat,j<8->dA PG (indexAt eN (pT r10 0) (.int .i64 j))=some (pT r10 j):=λj hj=>by rw[at8 (by omega) (by omega),pQ]
 have m0:dA PG (indexAt eN (pT r10 0) (.int .i64 0))=some (pT r10 0):=m 0 (by decide);have m1:dA PG (indexAt eN (pT r10 0) (.int .i64 1))=some (pT r10 1):=m 1 (by decide);have m2:dA PG (indexAt eN (pT r10 0) (.int .i64 2))=some (pT r10 2):=m 2 (by decide);have m4:dA PG (indexAt eN (pT r10 0) (.int .i64 4))=some (pT r10 4):=m 4 (by decide);have m5:dA PG (indexAt eN (pT r10 0) (.int .i64 5))=some (pT r10 5):=m 5 (by decide);have m6:dA PG (indexAt eN (pT r10 0) (.int .i64 6))=some (pT r10 6):=m 6 (by decide);have m7:dA PG (indexAt eN (pT r10 0) (.int .i64 7))=some (pT r10 7):=m 7 (by decide);have c0:dD h ⟨r10,0,none⟩=some (wv s.a):=by simp[dD,h10]
 have c1:dD h ⟨r10,1,none⟩=some (wv s.b):=by simp[dD,h10]
 have c2:dD h ⟨r10,2,none⟩=some (wv s.c):=by simp[dD,h10]
 have c4:dD h ⟨r10,4,none⟩=some (wv s.e):=by simp[dD,h10]
 have c5:dD h ⟨r10,5,none⟩=some (wv s.f):=by simp[dD,h10]
 have c6:dD h ⟨r10,6,none⟩=some (wv s.g):=by simp[dD,h10]
 have c7:dD h ⟨r10,7,none⟩=some (wv s.h):=by simp[dD,h10]
 have a0:=aLj (b:=0) (j:=(i:Int)) (by omega) (by omega);have a3:=aLj (b:=r3) (j:=(i:Int)) (by omega) (by omega);rw[pQ] at a0 a3;have ck:=aTJ (o:=i) hK (by rw[aJ7];exact hi);have cw:=aTJ (o:=i) h3 (by omega);simp only[e1,m0,m1,m2,m4,m5,m6,m7,cL.load,c0,c1,c2,c4,c5,c6,c7,a0,a3,ck,cw,aPl,aEE,aWL,cG,reduceIte];refine aDn (n:=6) (by decide) (by decide) ?_;simp only[cL.load,c0,c1,c2,c4,c5,c6,c7,ck,cw,true_and];refine aDn (n:=11) (by decide) (by decide) ?_;simp only[cL.load,c0,c1,c2,c4,c5,c6,c7,ck,cw,true_and,aEE,cG,reduceIte];refine aDn (n:=25) (by decide) (by decide) ?_;simp only[e1,m0,m1,m2,m4,m5,m6,m7,cL.load,c0,c1,c2,c4,c5,c6,c7,a0,a3,ck,cw,aPl,aEE,aWL,aFn,true_and,cG,reduceIte];refine aDn (n:=2) (by decide) (by decide) ?_;simp only[cL.load,c0,c1,c2,c4,c5,c6,c7,ck,cw,true_and];refine aDn (n:=13) (by decide) (by decide) ?_;simp only[cL.load,c0,c1,c2,c4,c5,c6,c7,ck,cw,true_and,aEE,cG,reduceIte];refine aDn (n:=22) (by decide) (by decide) ?_;simp only[cL.load,c0,c1,c2,c4,c5,c6,c7,ck,cw,true_and,aEE,aFn,aZg,aZe,cG,reduceIte];refine aY1 h10 (by simp[isw]) ?_;have c4':dD (h.set r10 (.cells #[wv s.a,wv s.a,wv s.b,wv s.c,wv s.d,wv s.e,wv s.f,wv s.g] eN (0,0))) ⟨r10,4,none⟩=some (wv s.d):=by simp[dD,dL]
 simp only[m4,cL.load,c4',aFn,cG,reduceIte];refine iU cL.und rfl dL (by simp) (isw _) cL.info cL.size ?_;rw[aAY]
 try simp only[m0,aFn,cG,reduceIte]
 refine iU cL.und rfl dL (by simp) (isw _) cL.info cL.size ?_;rw[aAY]
 try simp only[e4,cG,reduceIte]
 exact hn _ rfl
def S8.some(s t:S8)(n:Nat):S8:=⟨if 0<n then s.a+t.a else s.a,if 1<n then s.b+t.b else s.b,if 2<n then s.c+t.c else s.c,if 3<n then s.d+t.d else s.d,if 4<n then s.e+t.e else s.e,if 5<n then s.f+t.f else s.f,if 6<n then s.g+t.g else s.g,if 7<n then s.h+t.h else s.h⟩
theorem S8.some8(s t:S8):s.some t 8=s.add t:=rfl
theorem aUe(s t:S8){i:Nat}(hi:i<8)(x y:Value):(#[wv (s.some t i).a,wv (s.some t i).b,wv (s.some t i).c,wv (s.some t i).d,wv (s.some t i).e,wv (s.some t i).f,wv (s.some t i).g,wv (s.some t i).h,x,y]:Array Value).setIfInBounds i (wv (s.l.getD i 0+t.l.getD i 0))=
  #[wv (s.some t (i+1)).a,wv (s.some t (i+1)).b,wv (s.some t (i+1)).c,wv (s.some t (i+1)).d,wv (s.some t (i+1)).e,wv (s.some t (i+1)).f,wv (s.some t (i+1)).g,wv (s.some t (i+1)).h,x,y]:=by
 have:i=0∨i=1∨i=2∨i=3∨i=4∨i=5∨i=6∨i=7:=by omega
 rcases this with rfl|rfl|rfl|rfl|rfl|rfl|rfl|rfl<;>rfl
theorem aUX(s t:S8){i:Nat}(hi:i<8)(x y:Value):(#[wv (s.some t i).a,wv (s.some t i).b,wv (s.some t i).c,wv (s.some t i).d,wv (s.some t i).e,wv (s.some t i).f,wv (s.some t i).g,wv (s.some t i).h,x,y]:Array Value)[i]? =Option.some (wv (s.l.getD i 0)):=by
 have:i=0∨i=1∨i=2∨i=3∨i=4∨i=5∨i=6∨i=7:=by omega
 rcases this with rfl|rfl|rfl|rfl|rfl|rfl|rfl|rfl<;>rfl
theorem aZK(t:S8){i:Nat}(hi:i<8):(#[wv t.a,wv t.b,wv t.c,wv t.d,wv t.e,wv t.f,wv t.g,wv t.h]:Array Value)[i]? =Option.some (wv (t.l.getD i 0)):=by
 have:i=0∨i=1∨i=2∨i=3∨i=4∨i=5∨i=6∨i=7:=by omega
 rcases this with rfl|rfl|rfl|rfl|rfl|rfl|rfl|rfl<;>rfl
def jV(s:S8)(x y:Value):Array Value:=#[wv s.a,wv s.b,wv s.c,wv s.d,wv s.e,wv s.f,wv s.g,wv s.h,x,y]
theorem aWc{s v:S8}{i a r10:Nat}{x y:Value}(hi:i<8){h:PH}{R:cE}{n:gI}
  (ha:h a=Option.some (.cells (jV (s.some v i) x y) eY (0,0))) (h10:h r10=Option.some (.cells #[wv v.a,wv v.b,wv v.c,wv v.d,wv v.e,wv v.f,wv v.g,wv v.h] eN (0,0)))
  (hn:n [.pointer (Option.some ⟨a,0,none⟩),.pointer (Option.some ⟨r10,0,none⟩),.int .i64 ((i+1:Nat):Int)] (h.set a (.cells (jV (s.some v (i+1)) x y) eY (0,0)))):
  aCJ R n (.pointer (Option.some ⟨a,0,none⟩)) (.pointer (Option.some ⟨r10,0,none⟩)) (.int .i64 (i:Int)) h:=by
 unfold aCJ;have e1:((i:Int)<8)=True:=eq_true (by omega);have e4:=pR (i:=i) (by omega);have m1:=at8 (b:=a) (j:=(i:Int)) (by omega) (by omega);have m2:=at8 (b:=r10) (j:=(i:Int)) (by omega) (by omega);rw[pQ] at m1 m2;have c1:dD h ⟨a,i,none⟩=Option.some (wv (s.l.getD i 0)):=by
  unfold dD;simp only[ha];exact aUX s v hi x y
 have c2:dD h ⟨r10,i,none⟩=Option.some (wv (v.l.getD i 0)):=by
  unfold dD;simp only[h10];exact aZK v hi
 simp only[e1,gZ.f0,m1,m2,cL.load,c1,c2,aFn,cG,reduceIte];refine iU cL.und rfl ha (by simp[jV];omega) (isw _) cL.info cL.size ?_;have es:=aUe s v hi x y;change (jV (s.some v i) x y).setIfInBounds i _=jV (s.some v (i+1)) x y at es;rw[es]
 try simp only[e4,cG,reduceIte]
 exact hn
theorem aXw{h:PH}{a:Nat}{s:S8}{x y:Value}{b:List UInt8}(hK:mU h)(hb:b.length=64)(ha:h a=Option.some (.cells (jV s x y) eY (0,0))){k:cE}
  (hk:∀h',cU [a] h h'->h' a=Option.some (.cells (jV (aJp s b) x y) eY (0,0))->k (.tuple #[]) h'):aT PG aFz #[.pointer (Option.some ⟨a,0,none⟩),.string (tx b)] h k:=by
 apply aA9.call;unfold aA9;refine aUx hb λh1 u1=>?_;have hwl:=aKr b;have hmx:aJp s b=s.add (aH2 (aFM b) s 64):=rfl;rw[hmx] at hk;clear hmx;generalize aFM b=ws at *;have hsz:(ws.map wv).toArray.size=64:=by rw[List.size_toArray,iS,hwl]
 have hic:∀v∈(ws.map wv).toArray.toList,fP v=true:=λv hv=>by
  rw[List.toList_toArray,lO] at hv;obtain⟨w,-,rfl⟩:=hv;rfl
 rw[z64,z8];intro r3 hr3
 try rw[cW]
 have u3:cZ h1 (h1.set r3 (.cells (zs 64).toArray eX)):=cU.new hr3;have n3:h r3=none:=u1.none hr3;have a3:(h1.set r3 (.cells (zs 64).toArray eX)) r3=Option.some (.cells (zs 64).toArray eX (0,0)):=dL;generalize h1.set r3 (.cells (zs 64).toArray eX)=h2 at *;refine xP a3 eX.info (by rw[hsz];rfl) (by omega) (by rw[hsz];rfl) hic ?_;have u4:cZ h (h2.set r3 (.cells (ws.map wv).toArray eX (0,0))):=(u1.trans u3).fresh (cU.set (F:=[r3]) (by simp)) (eD.one n3);have a3':(h2.set r3 (.cells (ws.map wv).toArray eX (0,0))) r3=Option.some (.cells (ws.map wv).toArray eX (0,0)):=dL;generalize h2.set r3 (.cells (ws.map wv).toArray eX (0,0))=h3 at *;have ha3:=u4.get ha;have lA:=eN.loadAgg (o:=0) ha3 (by simp[jV]);have lE:(jV s x y).extract 0 (0+8)= #[wv s.a,wv s.b,wv s.c,wv s.d,wv s.e,wv s.f,wv s.g,wv s.h]:=rfl;rw[lE] at lA;simp only[gZ.f0,lA,cG,reduceIte];intro r10 hr10
 try rw[cW]
 have u5:cZ h3 (h3.set r10 (.cells (zs 8).toArray eN)):=cU.new hr10;have n10:h r10=none:=u4.none hr10;have a10:(h3.set r10 (.cells (zs 8).toArray eN)) r10=Option.some (.cells (zs 8).toArray eN (0,0)):=dL;generalize h3.set r10 (.cells (zs 8).toArray eN)=h4 at *;refine xP a10 eN.info rfl (by simp) rfl (by simp[isw]) ?_;have u6:cZ h (h4.set r10 (.cells #[wv s.a,wv s.b,wv s.c,wv s.d,wv s.e,wv s.f,wv s.g,wv s.h] eN (0,0))):=(u4.trans u5).fresh (cU.set (F:=[r10]) (by simp)) (eD.one n10);have hne3:r3≠r10:=λe=>by subst e;rw[a3'] at hr10;cases hr10
 have a3'':(h4.set r10 (.cells #[wv s.a,wv s.b,wv s.c,wv s.d,wv s.e,wv s.f,wv s.g,wv s.h] eN (0,0))) r3=Option.some (.cells (ws.map wv).toArray eX (0,0)):=by rw[oZ hne3];exact u5.get a3'
 have a10':(h4.set r10 (.cells #[wv s.a,wv s.b,wv s.c,wv s.d,wv s.e,wv s.f,wv s.g,wv s.h] eN (0,0))) r10=Option.some (.cells #[wv s.a,wv s.b,wv s.c,wv s.d,wv s.e,wv s.f,wv s.g,wv s.h] eN (0,0)):=dL;generalize h4.set r10 (.cells #[wv s.a,wv s.b,wv s.c,wv s.d,wv s.e,wv s.f,wv s.g,wv s.h] eN (0,0))=h5 at *;have hne:a≠r10:=λe=>by subst e;rw[ha] at n10;cases n10
 refine⟨λvs h'=>∃i s',i≤64∧s'=aH2 ws s i∧vs=[.pointer (Option.some ⟨a,0,none⟩),.pointer (Option.some ⟨r3,0,none⟩),.pointer (Option.some ⟨r10,0,none⟩),.int .i64 ((i:Nat):Int)]∧cZ h h'∧h' r3=Option.some (.cells (ws.map wv).toArray eX (0,0))∧h' r10=Option.some (.cells #[wv s'.a,wv s'.b,wv s'.c,wv s'.d,wv s'.e,wv s'.f,wv s'.g,wv s'.h] eN (0,0)),gU 64 3,⟨0,s,by omega,rfl,rfl,u6,a3'',a10'⟩,?_⟩;rintro ρ h' ⟨i,s',hi,hs',hvs,u',b3,b10⟩;simp only[iH,iT,kV,and_true] at hvs;obtain⟨v0,v4,v5,v18⟩:=hvs;simp only[v0,v4,v5,v18,iH,iT];by_cases hl:i<64
 ·refine aXB hwl hl (hK.ext u') b3 b10 λs2 hs2=>⟨⟨i+1,s2,by omega,by rw[hs2,hs',aH2],rfl,u'.fresh (cU.set (F:=[r10]) (by simp)) (eD.one n10),by rw[oZ hne3];exact b3,dL⟩,?_⟩;simp only[gU,sA,pK];omega
 ·have hi':i=64:=by omega
  subst hi';unfold aCE;simp only[show(((64:Nat):Int)<64)=False from eq_false (by decide),cG,reduceIte];have hup:cU [a] h h':=u'.upd;refine⟨λvs h2'=>∃i,i≤8∧vs=[.pointer (Option.some ⟨a,0,none⟩),.pointer (Option.some ⟨r10,0,none⟩),.int .i64 ((i:Nat):Int)]∧cU [a] h h2'∧h2' a=Option.some (.cells (jV (s.some s' i) x y) eY (0,0))∧h2' r10=Option.some (.cells #[wv s'.a,wv s'.b,wv s'.c,wv s'.d,wv s'.e,wv s'.f,wv s'.g,wv s'.h] eN (0,0)),gU 8 2,⟨0,by omega,rfl,hup,u'.get ha,b10⟩,?_⟩;rintro ρ2 h2' ⟨i,hi,hvs,u2,ca,c10⟩;simp only[iH,iT,kV,and_true] at hvs;obtain⟨v0',v5',v92'⟩:=hvs;simp only[v0',v5',v92',iH,iT];by_cases hl:i<8
  ·refine aWc hl ca c10 ⟨⟨i+1,by omega,rfl,u2.trans (cU.set (by simp)),dL,by rw[oZ (Ne.symm hne)];exact c10⟩,?_⟩;simp only[gU,sA,pK];omega
  ·have hi':i=8:=by omega
   subst hi';unfold aCJ;simp only[show(((8:Nat):Int)<8)=False from eq_false (by decide),cG,reduceIte];refine hk _ u2 ?_;rw[ca,S8.some8,hs']
end
section
open Go
namespace Bld
theorem neqPtrSelf{h:PH}{x y:Operand}(a:Addr):cD PG h (jS .neq dU x y (.pointer (some a)) (.pointer (some a)))=some (.bool false):=by
 show cD PG h (Op.equalIn (9999+1) dU (.pointer (some a)) (.pointer (some a)) >>= λb=>(pure (Value.bool (!b)):Sem Value))=_;rw[jQ];have:cD PG h (Op.equalIn (9999+1) dU (.pointer (some a)) (.pointer (some a)))=some true:=by
  rw[Op.equalIn,kC dU.und];simp only[kR];rw[aBY dG.info];simp[dG.size,sameAddr,cD,pure]
 rw[this];rfl
theorem semE_viewAt{h:PH}{r:Nat}{x:TypeId×Nat}{α:Type}(hs:kA h r=some (some x))(f:Option (Addr×TypeId)->Sem α):cD PG h (viewAt r >>= f)=cD PG h (f none):=by
 rw[jQ];have:cD PG h (viewAt r)=some none:=by
  show(kA h r).bind _=_;rw[hs];rfl
 rw[this];rfl
theorem semE_seenAt{h:PH}{a:Addr}{x:TypeId×Nat}{α:Type}(hs:kA h a.block=some (some x))(f:Addr->Sem α):cD PG h (Conv.seenAt a >>= f)=cD PG h (f a):=by
 rw[jQ];have:cD PG h (Conv.seenAt a)=some a:=by
  unfold Conv.seenAt;rw[semE_viewAt hs];rfl
 rw[this];rfl
theorem semE_cellsIn{h:PH}{r:Nat}{x:TypeId×Nat}{α:Type}(hs:kA h r=some (some x))(f:Option Nat->Sem α):cD PG h (cellsIn r >>= f)=cD PG h (f (some x.2)):=by
 rw[jQ];have:cD PG h (cellsIn r)=some (some x.2):=by
  show(kA h r).bind _=_;rw[hs];rfl
 rw[this];rfl
theorem to_unsafe{h:PH}{a:Nat}{c:Array Value}(ha:h a=some (.cells c dG (0,0)))(hc:0<c.size):cD PG h (convert dU iE (pT a 0))=some (pT a 0):=by
 have hs:kA h a=some (some (dG,c.size)):=by unfold kA;rw[ha]
 show cD PG h (underlying dU >>= _)=_;rw[kC dU.und];show cD PG h (underlying iE >>= _)=_;rw[kC iE.und];show cD PG h (underlying dU >>= _)=_;rw[kC dU.und];show cD PG h (underlying iE >>= _)=_;rw[kC iE.und];show cD PG h (Conv.seenAt ⟨a,0,none⟩ >>= _)=_;rw[semE_seenAt (a:=⟨a,0,none⟩) hs];show cD PG h (cellsIn a >>= _)=_;rw[semE_cellsIn hs];have h1:¬(0 ≥ c.size):=by omega
 simp only[kR];rw[aBY dG.info];simp[dG.size,h1,cD,pure]
theorem from_unsafe{h:PH}{a:Nat}{c:Array Value}(ha:h a=some (.cells c dG (0,0)))(hc:c.size=2):cD PG h (convert iE dU (pT a 0))=some (pT a 0):=by
 have hs:kA h a=some (some (dG,c.size)):=by unfold kA;rw[ha]
 rw[hc] at hs;show cD PG h (underlying iE >>= _)=_;rw[kC iE.und];show cD PG h (underlying dU >>= _)=_;rw[kC dU.und];show cD PG h (underlying iE >>= _)=_;rw[kC iE.und];show cD PG h (underlying dU >>= _)=_;rw[kC dU.und];show cD PG h (Conv.seenAt ⟨a,0,none⟩ >>= _)=_;rw[semE_seenAt (a:=⟨a,0,none⟩) hs];have hv:cD PG h (variablesAt ⟨a,0,none⟩ dG 1)=some true:=by
  show(kA h a).bind _=_;rw[hs]
  kernel_rfl
 simp only[kR];rw[aBY dG.info];simp only[dG.size];rw[jQ,hv];simp[cD,pure]
theorem NoEscape_ok{h:PH}{v:Value}{k:cE}(hk:k v h):aT PG aAP #[v] h k:=
 aT.entry (v:=v) (by kernel_rfl) hk
structure BAt(h:PH)(a:Nat)(bs:List UInt8)(F:List Nat):Prop where
 here:∃p v G,h a=some (.cells #[p,v] dG (0,0))∧(p= .pointer none∨p=pT a 0)∧dZ h dJ 1 v (bs.map jC) G∧F=a::G∧a∉G
theorem BAt.known{h:PH}{a:Nat}{bs:List UInt8}{F:List Nat}(H:BAt h a bs F):∀b∈F,h b≠none:=by
 obtain⟨p,v,G,ha,hp,hO,rfl,hn⟩:=H;intro b hb;rcases gP.1 hb with rfl|hb
 ·rw[ha];simp
 ·exact hO.known b hb
theorem BAt.upd{h h':PH}{a:Nat}{bs:List UInt8}{F G:List Nat}(H:BAt h a bs F)(u:cU G h h')(hd:∀b∈F,b∉G):BAt h' a bs F:=by
 obtain⟨p,v,G',ha,hp,hO,rfl,hn⟩:=H;exact⟨p,v,G',u.get ha (hd a (by simp)),hp,hO.upd u (λb hb=>hd b (by simp[hb])),rfl,hn⟩
theorem BAt.ext{h h':PH}{a:Nat}{bs:List UInt8}{F:List Nat}(H:BAt h a bs F)(u:cZ h h'):BAt h' a bs F:=H.upd u (by simp)
def BNext(h:PH)(a:Nat)(F:List Nat)(bs:List UInt8)(k:PH->Prop):Prop:=∀h' F',BAt h' a bs F'->cU F h h'->(∀b∈F',b∈F∨h b=none)->k h'
theorem copyCheck_ok{h:PH}{a:Nat}{p v:Value}(ha:h a=some (.cells #[p,v] dG (0,0)))(hp:p= .pointer none∨p=pT a 0){k:cE}
  (hk:∀h',h' a=some (.cells #[pT a 0,v] dG (0,0))->cU [a] h h'->(∀b,b≠a->h' b=h b)->k (.tuple #[]) h'):aT PG mD #[pT a 0] h k:=by
 apply nJ.call;unfold nJ;have hc:dD h ⟨a,0,none⟩=some p:=by simp[dD,ha]
 simp only[dG.f0,dU.load,hc,cG,reduceIte];rcases hp with rfl|rfl
 ·simp only[aHu dU.und,Option.isNone_none,cG,reduceIte];refine cD.semH (to_unsafe ha (by simp)) ?_;refine NoEscape_ok ?_;refine cD.semH (from_unsafe ha (by simp)) ?_;refine iU dU.und rfl ha (by simp) rfl dU.info dU.size ?_;exact hk _ dL (cU.set (by simp)) (λb hb=>oZ hb)
 ·simp only[aHu dU.und,Option.isNone_some,neqPtrSelf,dG.f0,dU.load,hc,cG,reduceIte];exact hk _ ha cU.refl (λ_ _=>rfl)
theorem byte_lit(x:Int):jK PG (buildSlice cX 1 #[(0,.int .u8 x)])=some (.cells #[.int .u8 x] dJ,λr=>pure (.slice (some ⟨r,0,none⟩) 1 1)):=by kernel_rfl
theorem buf_app{h:PH}{a:Nat}{p v x:Value}{bs ys:List UInt8}{G:List Nat}{t2 e2:TypeId}(hu2:PG.underlying t2=some (.slice e2))(ha:h a=some (.cells #[p,v] dG (0,0)))(hp:p= .pointer none∨p=pT a 0)(hO:dZ h dJ 1 v (bs.map jC) G)(hn:a∉G)
  (hx:fR h 1 x (ys.map jC)) (hl:bs.length+ys.length≤140737488355328) {k:PH->Prop} (hk:BNext h a (a::G) (bs++ys) k):
  cY PG (Builtin.append_ #[cX,t2] cX #[v,x]) h λv' h'=>cY PG (dN cX (pT a 1) v') h' λ_ h''=>k h'':=by
 refine jF cX.und hu2 dJ.info dJ.size dJ.bytes dJ.zero rfl (by decide) hO hx (jC.isCell _) (by simp;omega) ?_;intro v2 h2 F2 hO2 u2 k2 _;rw[←qI] at hO2;have ha2:=u2.get ha hn;have hn2:a∉F2:=λhm=>by
  rcases k2 a hm with h1|h1
  ·exact hn h1
  ·rw[ha] at h1;cases h1
 refine iU cX.und rfl ha2 (by simp) ?_ cX.info cX.size ?_
 ·obtain⟨_,_,rfl,-⟩:=hO2.slR.here;rfl
 ·refine hk _ (a::F2) ⟨p,v2,F2,dL,hp,hO2.upd (cU.set (F:=[a]) (by simp)) (λb hb=>by simp;rintro rfl;exact hn2 hb),rfl,hn2⟩ ((u2.mono λb hb=>.inl (by simp[hb])).trans (cU.set (by simp))) (λb hb=>?_);rcases gP.1 hb with rfl|hb
  ·exact .inl (by simp)
  ·rcases k2 b hb with h1|h1
   ·exact .inl (by simp[h1])
   ·exact .inr h1
theorem WriteByte_ok{h:PH}{a:Nat}{bs:List UInt8}{F:List Nat}(hW:BAt h a bs F)(hl:bs.length+1≤140737488355328)(x:UInt8){k:cE}(hk:BNext h a F (bs++[x]) (k .nilIface)):
  aT PG mE #[pT a 0,.int .u8 x.toNat] h k:=by
 obtain⟨p,v,G,ha,hp,hO,rfl,hn⟩:=hW;apply mX.call;unfold mX;refine copyCheck_ok ha hp λh1 ha1 u1 o1=>?_;have hc:dD h1 ⟨a,1,none⟩=some v:=by simp[dD,ha1]
 have hO1:=hO.upd u1 (λb hb hf=>by simp at hf;subst hf;exact hn hb);simp only[dG.f1,cX.load,hc,byte_lit,cG,reduceIte];intro r hr;refine fI ?_;have u2:cZ h1 (h1.set r (.cells #[.int .u8 x.toNat] dJ)):=cU.new hr;have s2:fR (h1.set r (.cells #[.int .u8 x.toNat] dJ)) 1 (.slice (some ⟨r,0,none⟩) 1 1) ([x].map jC):=(dZ.lit (jC.rows [x]) dL (by simp) (by decide) (by simp[jC])).slR;refine buf_app cX.und (u2.get ha1) (.inr rfl) (hO1.ext u2) hn s2 (by simpa using hl) ?_;intro h3 F3 hW3 u3 k3;refine hk _ F3 hW3 ((u1.mono λb hb=>.inl (by simp at hb;simp[hb])).trans (u2.upd.trans u3)) λb hb=>?_;rcases k3 b hb with h'|h'
 ·exact .inl h'
 ·by_cases hba:b=a
  ·exact .inl (by simp[hba])
  ·have:=u2.none h';rw[o1 b hba] at this;exact .inr this
theorem buf_str{h:PH}{a:Nat}{p v:Value}{bs ys:List UInt8}{G:List Nat}(ha:h a=some (.cells #[p,v] dG (0,0)))(hp:p= .pointer none∨p=pT a 0)(hO:dZ h dJ 1 v (bs.map jC) G)(hn:a∉G)
  (hl:bs.length+ys.length≤140737488355328) {k:PH->Prop} (hk:BNext h a (a::G) (bs++ys) k):
  cY PG (Builtin.append_ #[cX,bR] cX #[v,.string (tx ys)]) h λv' h'=>cY PG (dN cX (pT a 1) v') h' λ_ h''=>k h'':=by
 refine aN0 cX.und bR.und dJ.info dJ.size dJ.bytes dJ.zero rfl (by decide) hO (by simp;omega) ?_;intro v2 h2 F2 hO2 u2 k2 _;rw[←qI] at hO2;have ha2:=u2.get ha hn;have hn2:a∉F2:=λhm=>by
  rcases k2 a hm with h1|h1
  ·exact hn h1
  ·rw[ha] at h1;cases h1
 refine iU cX.und rfl ha2 (by simp) ?_ cX.info cX.size ?_
 ·obtain⟨_,_,rfl,-⟩:=hO2.slR.here;rfl
 ·refine hk _ (a::F2) ⟨p,v2,F2,dL,hp,hO2.upd (cU.set (F:=[a]) (by simp)) (λb hb=>by simp;rintro rfl;exact hn2 hb),rfl,hn2⟩ ((u2.mono λb hb=>.inl (by simp[hb])).trans (cU.set (by simp))) (λb hb=>?_);rcases gP.1 hb with rfl|hb
  ·exact .inl (by simp)
  ·rcases k2 b hb with h1|h1
   ·exact .inl (by simp[h1])
   ·exact .inr h1
theorem WriteString_ok{h:PH}{a:Nat}{bs ys:List UInt8}{F:List Nat}(hW:BAt h a bs F)(hl:bs.length+ys.length≤140737488355328){k:cE}(hk:BNext h a F (bs++ys) (k (.tuple #[.int .i64 ys.length,.nilIface]))):
  aT PG kU #[pT a 0,.string (tx ys)] h k:=by
 obtain⟨p,v,G,ha,hp,hO,rfl,hn⟩:=hW;apply kP.call;unfold kP;refine copyCheck_ok ha hp λh1 ha1 u1 o1=>?_;have hc:dD h1 ⟨a,1,none⟩=some v:=by simp[dD,ha1]
 have hO1:=hO.upd u1 (λb hb hf=>by simp at hf;subst hf;exact hn hb);simp only[dG.f1,cX.load,hc,bR.len,iB,cG,reduceIte];refine buf_str ha1 (.inr rfl) hO1 hn hl ?_;intro h3 F3 hW3 u3 k3;refine hk _ F3 hW3 ((u1.mono λb hb=>.inl (by simp at hb;simp[hb])).trans u3) λb hb=>?_;rcases k3 b hb with h'|h'
 ·exact .inl h'
 ·by_cases hba:b=a
  ·exact .inl (by simp[hba])
  ·rw[o1 b hba] at h';exact .inr h'
theorem semE_loadBytes{h:PH}:∀(l:List UInt8) (a:Addr) (acc:ByteArray),a.spot=none->(∀j x,l[j]? =some x->dD h (a.add j)=some (.int .u8 x.toNat))->cD PG h (loadBytes a acc l.length)=some ⟨acc.data++l.toArray⟩
 | [],a,acc,_,_=>by show some acc=_;simp
 | x::xs,a,acc,hsp,hc=>by
  have h0:=hc 0 x rfl;have ha0:a.add 0=a:=by obtain⟨b,o,w⟩:=a;cases w<;>simp[Addr.add]
  rw[ha0] at h0;show(dD h a).bind _=_;rw[h0,aDG];show cD PG h (loadBytes (a.add 1) (acc.push ((x.toNat:Int).toNat.toUInt8)) xs.length)=_;rw[semE_loadBytes xs (a.add 1) _ (by obtain⟨b,o,w⟩:=a;simp at hsp;subst hsp;rw[lT]) λj y hy=>?_]
  ·congr 1;apply ByteArray.ext;show(acc.push _).data++xs.toArray=_;rw[ByteArray.data_push];apply zLv;simp
  ·have:=hc (j+1) y (by simpa using hy);have e:(a.add 1).add j=a.add (j+1):=by
    obtain⟨b,o,w⟩:=a;simp at hsp;subst hsp;rw[lT,lT,lT];congr 1;omega
   rw[e];exact this
theorem unsafeStr{h:PH}{g:Nat}{cs:Array Value}{bs:List UInt8}(hb:h g=some (.cells cs dJ (0,0)))(hle:bs.length≤cs.size)(hcs:cs.toList.take bs.length=bs.map λb=>Value.int .u8 b.toNat)(hne:bs≠[])(hmax:bs.length≤qZ){k:cE}
  (hk:∀h',cU [g] h h'->k (.string (tx bs)) h'):cY PG (Builtin.unsafeString_ #[oB,bT] bR #[pT g 0,.int .i64 bs.length]) h k:=by
 have hl:bs.length≠0:=by simpa using hne
 have h63:¬((bs.length:Int)>IntKind.i64.max):=by
  have:IntKind.i64.max=9223372036854775807:=rfl;unfold qZ at hmax;omega
 have hneg:¬(bs.length:Int)<0:=by omega
 have hz:¬(bs.length:Int)=0:=by omega
 have hdef:Builtin.unsafeString_ #[oB,bT] bR #[pT g 0,.int .i64 bs.length]=
   (do
    let n ←asInt (.int .i64 bs.length)
    if n<0 then runtimePanic (.error "unsafe.String: len out of range")
    if n>IntKind.i64.max then unsupported (.unsafePointer "String: a length above the largest int")
    if n=0 then pure (.string .empty)
    else if ←variablesAt ⟨g,0,none⟩ (←elemOf oB) n.toNat then do
     let s ←loadBytes ⟨g,0,none⟩ .empty n.toNat
     freeze ⟨g,0,none⟩ n.toNat
     pure (.string s)
    else unsupported (.unsafePointer "String: not so many bytes at ptr")):=rfl
 rw[hdef];have hs:kA h g=some (some (dJ,cs.size)):=by unfold kA;rw[hb]
 have hv:cD PG h (variablesAt ⟨g,0,none⟩ dJ bs.length)=some true:=by
  show(kA h g).bind _=_;rw[hs];have hc1:PG.cellsOf dJ=1:=by kernel_rfl
  have:=Go.Lib.liesAt_bytes (P:=PG) hc1 (cs.size/PG.cellsOf dJ) bs.length (by rw[hc1];simpa using hle);show some (liesAt PG PG.depth dJ (cs.size/PG.cellsOf dJ) 0 dJ bs.length)=some true;rw[this]
 have hlb:=semE_loadBytes (h:=h) bs ⟨g,0,none⟩ .empty rfl (λj x hx=>by
  rw[lT];unfold dD;simp only[hb,fE];have hj:j<bs.length:=(zLz.1 hx).1;have:(cs.toList.take bs.length)[j]? =some (.int .u8 x.toNat):=by rw[hcs,vD,hx];rfl
  rw[aH9,if_pos hj] at this;simpa using this)
 have helem:cD PG h (elemOf oB)=some dJ:=by kernel_rfl
 simp only[asInt,asIntOf,pure_bind,map_pure,hneg,h63,hz,if_false,pQ];refine iM helem ?_;refine iM hv ?_;simp only[if_true];refine iM hlb ?_;show(∃o,h g=some o)∧_;refine⟨⟨_,hb⟩,?_⟩;have hfin:=hk (mR h ⟨g,0,none⟩ bs.length) (λb o hbo hn=>by
  unfold mR;rw[if_neg hl,if_neg (by simpa using hn)];exact hbo)
 show k (.string _) _;have e:(⟨ByteArray.empty.data++bs.toArray⟩:ByteArray)=tx bs:=by apply ByteArray.ext;simp[tx]
 rw[e];exact hfin
theorem unsafeNone{h:PH}{q:Option Addr}:cD PG h (Builtin.unsafeString_ #[oB,bT] bR #[.pointer q,.int .i64 0])=some (.string (tx [])):=by
 cases q<;>rfl
theorem String_ok{h:PH}{a:Nat}{bs:List UInt8}{F:List Nat}(hW:BAt h a bs F){k:cE}(hk:∀h',cU F h h'->k (.string (tx bs)) h'):
  aT PG kK #[pT a 0] h k:=by
 obtain⟨p,v,G,ha,hp,hO,rfl,hn⟩:=hW;have hc:dD h ⟨a,1,none⟩=some v:=by simp[dD,ha]
 have lv:=hO.slR.len (t':=bT) cX.und;rw[iS] at lv;apply kQ.call;unfold kQ;simp only[dG.f1,cX.load,hc,lv,cG,reduceIte];have hload:∀h',dD h' ⟨a,1,none⟩=some v->cD PG h' (loadAt cX (pT a 1))=some v:=λh' h1=>by rw[cX.load];exact h1
 rcases hO.here with⟨rfl,hr,rfl⟩|⟨g,cap,cs,rfl,rfl,hb,hle,hmax,hsz,htk⟩
 ·have hnil:bs=[]:=by simpa using hr
  subst hnil;refine cD.semH (a:=.pointer none) rfl ?_;refine⟨hc,?_⟩;refine cD.semH unsafeNone ?_;exact hk _ cU.refl
 ·simp only[iS] at *;by_cases hne:bs=[]
  ·subst hne;by_cases hc0:cap=0
   ·subst hc0;have hs:kA h g=some (some (dJ,cs.size)):=by unfold kA;rw[hb]
    show cY PG (viewAt g >>= _) h _;refine iM (a:=none) (by rw[show viewAt g=(viewAt g >>= λx=>pure x) by simp,semE_viewAt hs];rfl) ?_;refine iM (a:=dJ) (by kernel_rfl) ?_;intro r hr;have u:cZ h (h.set r (.view ⟨g,0,none⟩ dJ)):=cU.new hr;refine⟨by rw[dD];simp[u.get ha],?_⟩;refine cD.semH unsafeNone ?_;exact hk _ u.upd
   ·refine cD.semH (a:=pT g 0) ?_ ?_
    ·show cD PG h (if cap≠0 then _ else _)=_;rw[if_pos hc0];rfl
    ·refine⟨hc,?_⟩;refine cD.semH unsafeNone ?_;exact hk _ cU.refl
  ·have hpos:0<bs.length:=aHN.2 hne;refine cD.semH (a:=pT g 0) ?_ ?_
   ·show cD PG h (if cap≠0 then _ else _)=_;rw[if_pos (by omega)];rfl
   ·refine⟨hc,?_⟩;rw[zL7,jC.flat] at htk;refine unsafeStr hb (by omega) htk hne (by omega) λh' u=>?_;exact hk _ (u.mono λb hb=>.inl (by simp at hb;simp[hb]))
end Bld
end
section
open Go
section
variable{P:Program}{t e:TypeId}
theorem aMC{α:Type}{d:TypeInfo}(hi:P.info? t=some d)(f:TypeInfo->Sem α):jK P (typeInfo t >>= f)=jK P (f d):=by
 show jK P ((match P.info? t with|some d=>pure d|none=>stuck _:Sem TypeInfo).bind f)=_;rw[hi];rfl
theorem aP1{α:Type}{n:Nat}(f:Unit->Sem α):jK P (askRoom n >>= f)=jK P (f ()):=by
 unfold askRoom;split<;>rfl
theorem aSg(z:Array Value)(hz:0<z.size):∀n:Nat,((Array.range (n*z.size)).map (z[· % z.size]!)).toList=(List.replicate n z.toList).flatten:=by
 intro n;have hr:Rows z.size (List.replicate n z.toList):=λr hr=>by rw[List.eq_of_mem_replicate hr];simp
 apply List.ext_getElem?;intro j;have hfl:(List.replicate n z.toList).flatten.length=n*z.size:=by rw[hr.flat,aKw]
 by_cases hj:j<n*z.size
 ·have hi:j/z.size<n:=(Nat.div_lt_iff_lt_mul hz).2 hj;have hat:=hr.at (i:=j/z.size) (r:=z.toList) (by rw[List.getElem?_replicate,if_pos hi]);have hc:j%z.size<z.size:=zLA _ hz;have e1:(List.replicate n z.toList).flatten[j]? =z.toList[j%z.size]?:=by
   conv=>rhs;rw[←hat]
   rw[aH9,if_pos hc,aMB];congr 1;rw[zLR];exact(Nat.div_add_mod j z.size).symm
  rw[e1];simp[hj,hc]
 ·rw[List.getElem?_eq_none (by simp;omega),List.getElem?_eq_none (by omega)]
theorem aET{i:TypeInfo}{z:Value}{size bytes n:Nat}(hu:P.underlying t=some (.slice e))(hi:P.info? e=some i)(hn:i.size=size)(hb:i.bytes=bytes)(hz:i.zero=some z)(hzs:z.cells.size=size)(h0:0<size)
  (hle:bytes*n≤281474976710656) (hnn:n≤1000000000):
  ∃zs,jK P (Instr.makeSlice t (.int .i64 n) (.int .i64 n))=some (.cells zs e (0,0),λr=>pure (.slice (some ⟨r,0,none⟩) n n))∧zs.toList=(List.replicate n z.cells.toList).flatten:=by
 refine⟨(Array.range (n*z.cells.size)).map (z.cells[· % z.cells.size]!),?_,aSg _ (by omega) n⟩;have hw:IntKind.i64.wrap (n:Int)=n:=IntWalk.i64_in _ ⟨by omega,by omega⟩;unfold Instr.makeSlice;rw[aVR hu];dsimp only;show jK P (typeInfo e >>= _)=_;rw[aMC hi,hb];have hc1:((bytes:Int)*(n:Int)>2^48)=False:=by
  apply eq_false;have:((bytes*n:Nat):Int)≤((281474976710656:Nat):Int):=Int.ofNat_le.2 hle;rw[Int.natCast_mul] at this;have h2:(2:Int)^48=((281474976710656:Nat):Int):=by rfl
  omega
 have hc2:((n:Int)<0)=False:=by apply eq_false;omega
 have hc3:((n:Int)>(n:Int))=False:=by apply eq_false;omega
 simp only[hw,hc1,hc2,hc3,decide_false,Bool.or_self,zLt,if_false,or_self];rw[aP1,kR,aMC hi,hn];simp only[pQ];by_cases hn0:n=0
 ·subst hn0;have hr:∀f:Nat->Value,(Array.range 0).map f= #[]:=λf=>by simp
  simp only[Nat.zero_mul,if_true,hr];rfl
 ·have hne:(n*size=0)=False:=by apply eq_false;intro h;rcases Nat.mul_eq_zero.1 h with h|h<;>omega
  simp only[hne,if_false];have hzv:∀(f:Value->Sem Value),jK P (zeroValue e >>= f)=jK P (f z):=λf=>by
   unfold zeroValue;show jK P ((typeInfo e >>= _) >>= f)=_;simp only[bind_assoc];rw[aMC hi,hz];rfl
  rw[hzv,←hzs];rfl
end
end
section
open Go Bld
theorem aPD{h:PH}{l:List UInt8}:cD PG h (Builtin.firstCells 1 l.length (.string (tx l)))=some (l.map λb=>Value.int .u8 b.toNat).toArray:=by
 show some (((tx l).extract 0 l.length).data.map λb=>Value.int .u8 b.toNat)=_;congr 1;apply zLv;rw[ByteArray.data_extract];simp[tx,zLw]
theorem aV8{h:PH}{r:Nat}{c:Array Value}{l:List UInt8}(hb:h r=some (.cells c dJ (0,0)))(hc:c.size=l.length)(hl:l≠[]){k:cE}
  (hk:k (.int .i64 l.length) (h.set r (.cells (l.map λb=>Value.int .u8 b.toNat).toArray dJ (0,0)))):
  cY PG (Builtin.copy_ #[cX,bR] bT #[.slice (some ⟨r,0,none⟩) l.length l.length,.string (tx l)]) h k:=by
 have hmin:Nat.min l.length l.length=l.length:=Nat.min_self _;simp only[Builtin.copy_,zLJ,pK,sA,qD cX.und,kR,mI dJ.info,pure_bind,Builtin.lenOf,dJ.size,iB,hmin];refine iM (s:=Builtin.firstCells 1 l.length (.string (tx l))) aPD ?_;refine cY.bind (P:=PG) (s:=storeCells _ _) ?_;refine tW (b:=r) (o:=0) (l.map λb=>Value.int .u8 b.toNat) 0 h c hb (by simp[hc]) (λv hv=>by obtain⟨b,-,rfl⟩:=lO.1 hv;rfl) ?_;rw[if_neg (by simpa using hl),aNu (by simp[hc])];exact hk
theorem aRM{h:PH}{l:List UInt8}(hl:l.length≤1000000000){k:cE}(hk:∀h',cZ h h'->k (.string (tx l)) h'):aT PG aF1 #[.string (tx l)] h k:=by
 apply aFZ.call;unfold aFZ;apply rY.call;unfold rY;simp only[bR.len,iB,hQ,cG,reduceIte];by_cases h0:l=[]
 ·subst h0;simp only[zLM,show(((0:Nat):Int)==0)=true from rfl,cG,reduceIte];exact hk _ cU.refl
 ·have hpos:l.length≠0:=by simpa using h0
  have e0:(((l.length:Nat):Int)==0)=false:=by simpa using h0
  obtain⟨zs',hm,hz⟩:=aET (P:=PG) (n:=l.length) cX.und dJ.info dJ.size dJ.bytes dJ.zero rfl (by decide) (by omega) hl;have hsz:zs'.size=l.length:=by
   rw[←Array.length_toList,hz];simp[Value.cells]
  simp only[e0,hm,cG,reduceIte];intro r hr;refine fI ?_
  try rw[cW]
  have u1:cZ h (h.set r (.cells zs' dJ (0,0))):=cU.new hr;have a1:(h.set r (.cells zs' dJ (0,0))) r=some (.cells zs' dJ (0,0)):=dL;generalize h.set r (.cells zs' dJ (0,0))=h1 at *;refine aV8 a1 hsz h0 ?_;have u2:cZ h (h1.set r (.cells (l.map λb=>Value.int .u8 b.toNat).toArray dJ (0,0))):=u1.fresh (cU.set (F:=[r]) (by simp)) (eD.one hr);have a2:(h1.set r (.cells (l.map λb=>Value.int .u8 b.toNat).toArray dJ (0,0))) r=some (.cells (l.map λb=>Value.int .u8 b.toNat).toArray dJ (0,0)):=dL;generalize h1.set r (.cells (l.map λb=>Value.int .u8 b.toNat).toArray dJ (0,0))=h2 at *;have ea:dA PG (indexAt cX (.slice (some ⟨r,0,none⟩) l.length l.length) (.int .i64 0))=some (pT r 0):=by
   have:=aH8 (P:=PG) (t:=cX) (b:=r) (o:=0) (len:=l.length) (cap:=l.length) (k:=.i64) (j:=0) cX.und dJ.info dJ.size (by decide) (by omega);simpa using this
  simp only[ea,cX.len,cG,reduceIte];refine unsafeStr a2 (by simp) (by rw[List.toList_toArray];exact mW (by simp)) h0 (by unfold qZ;omega) λh' u=>?_;exact hk _ (u2.fresh u (eD.one hr))
def HAt(h:PH)(a:Nat)(s:S8)(r:List UInt8)(n:Nat):Prop:=h a=some (.cells (jV s (.string (tx r)) (.int .i64 n)) eY (0,0))
def aOJ(a:Nat):List Value->PH->Nat:=λ_ h=>match h a with
 | some (Obj.cells c _ _)=>match c[8]? with
  | some (Value.string t)=>t.size
  | _=>0
 | _=>0
theorem HAt.len{h:PH}{a:Nat}{s:S8}{r:List UInt8}{n:Nat}(H:HAt h a s r n){vs:List Value}:aOJ a vs h=r.length:=by
 unfold HAt at H;simp[aOJ,H,jV,iB]
theorem mU.ne{h:PH}(H:mU h){a:Nat}{s:S8}{x y:Value}{t:TypeId}(ha:h a=some (.cells (jV s x y) t (0,0))):a≠0:=by
 rintro rfl;obtain⟨t,fr,hb⟩:=H;rw[hb] at ha;have:=congrArg Array.size (Obj.cells.inj (aKh ha)).1;rw[List.size_toArray,iS,aJ7] at this;simp[jV] at this
theorem mU.upd{h h':PH}(H:mU h){F:List Nat}(u:cU F h h')(hF:0∉F):mU h':=by
 obtain⟨t,fr,hb⟩:=H;exact⟨t,fr,u.get hb hF⟩
theorem aZu{s:S8}{x y v:Value}:(jV s x y).setIfInBounds 9 v=jV s x v:=rfl
theorem aYC{s:S8}{x y v:Value}:(jV s x y).setIfInBounds 8 v=jV s v y:=rfl
theorem aQj{h:PH}{a:Nat}{s:S8}{r p:List UInt8}{n:Nat}(hK:mU h)(ha:HAt h a s r n)(hl:r.length+p.length≤1000000000)(hn:n+p.length≤1000000000000){k:cE}
  (hk:∀h',cU [a] h h'->HAt h' a (qF s (r++p)).1 (qF s (r++p)).2 (n+p.length)->k (.tuple #[]) h'):aT PG aCC #[pT a 0,.string (tx p)] h k:=by
 apply aAJ.call;unfold aAJ;have hne:=hK.ne ha;have c9:dD h ⟨a,0+9,none⟩=some (.int .i64 n):=by unfold HAt at ha;simp[dD,ha,jV]
 have e1:IntKind.i64.wrap ((n:Int)+(p.length:Int))=((n+p.length:Nat):Int):=by rw[eV (by omega) (by omega)];omega
 simp only[eY.f2,bT.load,c9,bR.len,iB,e1,cG,reduceIte];refine iU bT.und rfl ha (by simp[jV]) rfl bT.info bT.size ?_;rw[show 0+9=9 from rfl,aZu];have u1:cU [a] h (h.set a (.cells (jV s (.string (tx r)) (.int .i64 ((n+p.length:Nat):Int))) eY (0,0))):=cU.set (by simp);have a1:HAt (h.set a (.cells (jV s (.string (tx r)) (.int .i64 ((n+p.length:Nat):Int))) eY (0,0))) a s r (n+p.length):=dL;generalize h.set a (.cells (jV s (.string (tx r)) (.int .i64 ((n+p.length:Nat):Int))) eY (0,0))=h1 at *;have c8:dD h1 ⟨a,0+8,none⟩=some (.string (tx r)):=by unfold HAt at a1;simp[dD,a1,jV]
 simp only[eY.f1,bR.load,c8,lJ (show r.length+p.length≤9223372036854775807 by omega),cG,reduceIte];refine aRM (by simpa using hl) λh2 u2=>?_;have a2:HAt h2 a s r (n+p.length):=u2.get a1;refine iU bR.und rfl a2 (by simp[jV]) rfl bR.info bR.size ?_;rw[show 0+8=8 from rfl,aYC];have u3:cU [a] h (h2.set a (.cells (jV s (.string (tx (r++p))) (.int .i64 ((n+p.length:Nat):Int))) eY (0,0))):=(u1.trans u2.upd).trans (cU.set (by simp));have a3:HAt (h2.set a (.cells (jV s (.string (tx (r++p))) (.int .i64 ((n+p.length:Nat):Int))) eY (0,0))) a s (r++p) (n+p.length):=dL;generalize h2.set a (.cells (jV s (.string (tx (r++p))) (.int .i64 ((n+p.length:Nat):Int))) eY (0,0))=h3 at *;generalize n+p.length=m at *;have hrl:(r++p).length≤1000000000:=by simpa using hl
 generalize hrp:r++p=q at *;refine⟨λvs h'=>∃s' r',vs=[pT a 0]∧r'.length≤1000000000∧qF s' r'=qF s q∧cU [a] h h'∧HAt h' a s' r' m,aOJ a,⟨s,q,rfl,hrl,rfl,u3,a3⟩,?_⟩;rintro ρ h' ⟨s',r',hvs,hr',hab,u',a'⟩;simp only[iH,iT,kV,and_true] at hvs;have hlen:=a'.len (vs:=[ρ 0]);simp only[hvs,iH,iT] at hlen ⊢;unfold aHl;have c8:dD h' ⟨a,0+8,none⟩=some (.string (tx r')):=by unfold HAt at a';simp[dD,a',jV]
 simp only[eY.f1,bR.load,c8,bR.len,iB,cG,reduceIte];by_cases h64:64≤r'.length
 ·have e2:((64:Int)≤(r'.length:Int))=True:=eq_true (by omega);have ec:dA PG (Instr.sliceAt bR (.string (tx r')) none (some (.int .i64 64)) none)=some (.string (tx (r'.take 64))):=aHx (i:=0) (j:=64) bR.und (.inl ⟨rfl,rfl⟩) (.inr ⟨_,rfl⟩) (by omega) h64;have ed:dA PG (Instr.sliceAt bR (.string (tx r')) (some (.int .i64 64)) none none)=some (.string (tx (r'.drop 64))):=by
   have:=aHx (P:=PG) (t:=bR) (l:=r') (i:=64) (j:=r'.length) (lo:=some (.int .i64 64)) bR.und (.inr ⟨_,rfl⟩) (.inl ⟨rfl,rfl⟩) h64 (oL _);rw[zLI] at this;exact this
  simp only[e2,eY.f0,ec,cG,reduceIte];refine aXw (hK.upd u' (by simpa using λh=>hne h.symm)) (by simp;omega) a' λh4 u4 a4=>?_;have c8':dD h4 ⟨a,0+8,none⟩=some (.string (tx r')):=by simp[dD,a4,jV]
  simp only[eY.f1,bR.load,c8',ed,cG,reduceIte];refine iU bR.und rfl a4 (by simp[jV]) rfl bR.info bR.size ?_;rw[show 0+8=8 from rfl,aYC];have a5:HAt (h4.set a (.cells (jV (aJp s' (r'.take 64)) (.string (tx (r'.drop 64))) (.int .i64 (m:Int))) eY (0,0))) a (aJp s' (r'.take 64)) (r'.drop 64) m:=dL;refine⟨⟨_,_,(by trivial),(by simp;omega),by rw[←aHm h64];exact hab,(u'.trans u4).trans (cU.set (by simp)),a5⟩,?_⟩;rw[a5.len,hlen];simp;omega
 ·have e2:((64:Int)≤(r'.length:Int))=False:=eq_false (by omega);simp only[e2,cG,reduceIte];refine hk _ u' ?_;rw[←hab,aHr (by omega)];exact a'
theorem aMf:∀(n t:Nat) (acc:Array Value),(Extern.BytealgMakeNoZero.digits n t acc).size=acc.size+n
 | 0,_,acc=>rfl
 | n+1,t,acc=>by
  show(Extern.BytealgMakeNoZero.digits n (t/256) (acc.push _)).size=_;rw[aMf n];simp;omega
theorem aRD{n:Int}{h:PH}{Q:Next->PH->Prop}:cY PG (callFunc tT #[.int .i64 n]) h Q=cY PG (Extern.BytealgMakeNoZero.makeNoZero #[] #[cX] #[.int .i64 n] >>= λv=>pure (Next.value v)) h Q:=by kernel_rfl
theorem aPe{h:PH}{n:Nat}(hn:n≤140737488355328){k:cE}
  (hk:∀r cap (cs:Array Value),n≤cap->cap≤qZ->cs.size=cap->h r=none->k (.slice (some ⟨r,0,none⟩) n cap) (h.set r (.cells cs dJ (0,0)))):aT PG tT #[.int .i64 n] h k:=by
 refine .inr ?_;rw[aRD];refine cY.bind (P:=PG) (s:=Extern.BytealgMakeNoZero.makeNoZero #[] #[cX] #[.int .i64 n]) ?_;have h1:((decide ((n:Int)<0)||decide ((n:Int)>2^48))=true)=False:=by
  apply eq_false;have:¬((n:Int)>2^48):=by
   have h2:(2:Int)^48=281474976710656:=by rfl
   omega
  have h3:¬((n:Int)<0):=by omega
  simp[h3];omega
 show cY PG (underlying cX >>= _) h _;rw[qD cX.und];dsimp only;simp only[h1,if_false,pure_bind,pQ];rw[aAH];intro tt;rw[aGb,aAH];intro bb;have hforced:(Question.appendCap n 0 5).forced=false:=rfl;rw[hforced];have hcut:n≤(Question.appendCap n 0 5).cut tt∧(Question.appendCap n 0 5).cut tt≤qZ:=by
  have hpos:0<2^63-n:=by omega
  have:=zLA tt hpos;simp only[Question.cut,qZ];omega
 generalize (if (Question.extern "internal/bytealg.MakeNoZero.bytes" 0).forced=true then 0 else(Question.extern "internal/bytealg.MakeNoZero.bytes" 0).cut bb)=B;show cY PG (newRow 5 _ >>= _) h _;intro r hr;exact⟨_,rfl,hk r _ _ hcut.1 hcut.2 (by rw[aMf];exact fE _) hr⟩
theorem zB:dP PG dG= #[.pointer none,.slice none 0 0]:=by rw[dG.zc];rfl
theorem BAt.zero{h:PH}{a:Nat}(ha:h a=some (.cells #[.pointer none,.slice none 0 0] dG (0,0))):BAt h a [] [a]:=⟨_,_,[],ha,.inl rfl,dZ.nil,rfl,by simp⟩
theorem aSA:dA PG (Builtin.cap_ #[cX] bT #[.slice none 0 0])=some (.int .i64 0):=by kernel_rfl
theorem aZI{r cap:Nat}{n:Nat}:dA PG (Instr.sliceAt cX (.slice (some ⟨r,0,none⟩) n cap) none (some (.int .i64 ((0:Nat):Int))) none)=some (.slice (some ⟨r,0,none⟩) 0 cap):=by
 have:=aNU (P:=PG) (t:=cX) (a:=some ⟨r,0,none⟩) (len:=n) (cap:=cap) (l:=0) (hh:=0) (lo:=none) (hi:=some (.int .i64 ((0:Nat):Int))) cX.und dJ.info (.inl ⟨rfl,rfl⟩) (.inr ⟨_,rfl⟩) (by omega) (by omega);rw[this];by_cases hc:cap=0
 ·subst hc;simp
 ·rw[if_neg hc];simp[lT]
structure FB(h:PH)(a g cap:Nat)(bs:List UInt8):Prop where
 here:∃(cs:Array Value) (f:Nat),h a=some (.cells #[pT a 0,.slice (some ⟨g,0,none⟩) bs.length cap] dG (0,0))∧h g=some (.cells cs dJ (0,f))∧f≤bs.length∧bs.length≤cap∧cs.size=cap∧cs.toList.take bs.length=(bs.map λb=>Value.int .u8 b.toNat)∧g≠a∧cap≤qZ
def aOX(r n:Nat):List Value->PH->Nat:=λ_ h=>match h r with
 | some (Obj.cells c _ _)=>match c[1]? with
  | some (Value.slice _ m _)=>n-m
  | _=>0
 | _=>0
theorem FB.mu{h:PH}{a g cap:Nat}{bs:List UInt8}(H:FB h a g cap bs){n:Nat}{vs:List Value}:aOX a n vs h=n-bs.length:=by
 obtain⟨cs,f,ha,-⟩:=H;simp[aOX,ha]
theorem aW7{h:PH}{a n:Nat}(ha:h a=some (.cells #[.pointer none,.slice none 0 0] dG (0,0)))(hn:0<n)(hn2:n≤1000000){k:cE}
  (hk:∀h' g cap,FB h' a g cap []->n≤cap->cU [a] h h'->h g=none->k (.tuple #[]) h'):aT PG aA4 #[pT a 0,.int .i64 n] h k:=by
 apply qM.call;unfold qM;refine copyCheck_ok ha (.inl rfl) λh1 a1 u1 o1=>?_;have e1:((n:Int)<0)=False:=eq_false (by omega);have c1:dD h1 ⟨a,0+1,none⟩=some (.slice none 0 0):=by simp[dD,a1]
 have e2:IntKind.i64.wrap ((0:Int)-((0:Nat):Int))=0:=by rw[eV (by omega) (by omega)];omega
 have e3:((0:Int)<(n:Int))=True:=eq_true (by omega);simp only[e1,cG,reduceIte];unfold aE9;simp only[dG.f1,cX.load,c1,aSA,cX.len,e2,e3,cG,reduceIte];apply qJ.call;unfold qJ;have e4:IntKind.i64.wrap (2*(0:Int))=0:=by rw[eV (by omega) (by omega)];omega
 have e5:IntKind.i64.wrap ((0:Int)+(n:Int))=(n:Int):=by rw[eV (by omega) (by omega)];omega
 simp only[dG.f1,cX.load,c1,aSA,cX.len,e4,e5,cG,reduceIte];refine aPe (by omega) λr cap cs h2 h3 hsz hr=>?_;have u2:cZ h1 (h1.set r (.cells cs dJ (0,0))):=cU.new hr;have b2:(h1.set r (.cells cs dJ (0,0))) r=some (.cells cs dJ (0,0)):=dL;generalize h1.set r (.cells cs dJ (0,0))=h2' at *;have a2:=u2.get a1;have c1':dD h2' ⟨a,0+1,none⟩=some (.slice none 0 0):=by simp[dD,a2]
 have hne:r≠a:=λe=>by subst e;rw[a1] at hr;cases hr
 refine⟨c1',?_⟩;simp only[dG.f1,cX.load,c1',aZI,cG,reduceIte];have hcp:cD PG h2' (Builtin.copy_ #[cX,cX] bT #[.slice (some ⟨r,0,none⟩) 0 cap,.slice none 0 0])=some (.int .i64 0):=by kernel_rfl
 refine cD.semH hcp ?_;refine iU cX.und rfl a2 (by simp) rfl cX.info cX.size ?_;refine hk _ r cap ⟨cs,0,dL,by rw[oZ hne];exact b2,by simp,by simp,by omega,by simp,hne,h3⟩ h2 ((u1.trans u2.upd).trans (cU.set (by simp))) ?_;rw[←o1 r hne];exact hr
theorem aVz:dA PG (binOp .and cA (.int .u64 0) (.int .u64 4294967295))=some (.int .u64 0):=by kernel_rfl
theorem aXe:dA PG (binOp .and cA (.int .u64 1) (.int .u64 4294967295))=some (.int .u64 1):=by kernel_rfl
theorem aZY:∀n:Fin 64,(BitVec.ofInt 64 (n.val:Int) &&& BitVec.ofInt 64 4294967295).toNat=n.val:=by decide
theorem aYB{n:Nat}(hn:n<64):dA PG (binOp .and cA (.int .u64 (n:Int)) (.int .u64 4294967295))=some (.int .u64 (n:Int)):=by
 have e:dA PG (binOp .and cA (.int .u64 (n:Int)) (.int .u64 4294967295))=some (.int .u64 (IntKind.u64.wrap ((BitVec.ofInt 64 (n:Int) &&& BitVec.ofInt 64 4294967295).toNat:Int))):=rfl;have:=aZY ⟨n,hn⟩;simp only at this;rw[e,this,gL (by omega) (by omega)]
theorem aSR{n:Nat}(hn:n<64):dA PG (binOp .shr cA (.int .u64 (n:Int)) (.int .u64 32))=some (.int .u64 0):=by
 rw[aHt (by decide)];congr 2;show(n:Int).fdiv (2^32)=0;rw[Int.fdiv_eq_ediv_of_nonneg _ (by decide)];have:(2:Int)^32=4294967296:=by rfl
 omega
theorem aYs:dA PG (binOp .shr cA (.int .u64 0) (.int .u64 32))=some (.int .u64 0):=aSR (n:=0) (by decide)
theorem aYU:dA PG (binOp .shr cA (.int .u64 1) (.int .u64 32))=some (.int .u64 0):=aSR (n:=1) (by decide)
theorem aYP{h:PH}{n:Nat}(hn:n<64){k:cE}(hk:k (.tuple #[.int .u64 0,.int .u64 n]) h):aT PG aF2 #[.int .u64 1,.int .u64 n] h k:=by
 apply aFh.call;unfold aFh;simp only[cG,reduceIte];apply aEC.call;unfold aEC;have w0:IntKind.u64.wrap 0=0:=rfl;have wn:IntKind.u64.wrap (n:Int)=n:=gL (by omega) (by omega);simp only[aXe,aYU,aYB hn,aSR hn,Int.one_mul,Int.zero_mul,Int.mul_zero,wn,w0,Int.add_zero,aVz,aYs,cG,reduceIte];exact hk
theorem aIs{b o f:Nat}{e:TypeId}{Q:Unit->PH->Prop}:∀(vs:List Value) (i:Nat) (h:PH) (c:Array Value),h b=some (.cells c e (0,f))->f≤o+i->o+i+vs.length≤c.size->(∀v∈vs,fP v=true)->
  Q () (if vs=[] then h else h.set b (.cells (xX c (o+i) vs) e (0,f)))->cY PG (storeCells ⟨b,o,none⟩ vs i) h Q
 | [],i,h,c,_,_,_,_,hq=>by
  show Q () h;simpa using hq
 | v::vs,i,h,c,hb,hf,hle,hv,hq=>by
  simp only[rN] at hle;have hlt:o+i<c.size:=by omega
  have ha:(⟨b,o,none⟩:Addr).add i=⟨b,o+i,none⟩:=lT ..;show fP v=true∧uV h ((⟨b,o,none⟩:Addr).add i)=false∧(∃u,dD h ((⟨b,o,none⟩:Addr).add i)=some u)∧cY PG (storeCells ⟨b,o,none⟩ vs (i+1)) (sB h ((⟨b,o,none⟩:Addr).add i) v) Q;rw[ha];refine⟨hv v (by simp),by simp[uV,hb];omega,⟨c[o+i],by simp[dD,hb,hlt]⟩,?_⟩;have hset:sB h ⟨b,o+i,none⟩ v=h.set b (.cells (c.setIfInBounds (o+i) v) e (0,f)):=by
   funext x;unfold sB PH.set;by_cases hx:x=b
   ·subst hx;simp[hb]
   ·simp[hx]
  rw[hset];refine aIs vs (i+1) _ _ dL (by omega) (by simp;omega) (λu hu=>hv u (by simp[hu])) ?_;have h2:∀o1 o2:Obj,(h.set b o1).set b o2=h.set b o2:=λo1 o2=>by funext x;unfold PH.set;split<;>rfl
  simp only[List.cons_ne_nil,if_false] at hq;split
  ·rename_i hvs;subst hvs;simpa[xX] using hq
  ·rw[h2];simpa[xX,Nat.add_assoc] using hq
theorem aTC{h:PH}{g:Nat}{cs:Array Value}{fr:Nat×Nat}{bs:List UInt8}(hb:h g=some (.cells cs dJ fr))(hle:bs.length≤cs.size)(hcs:cs.toList.take bs.length=bs.map λb=>Value.int .u8 b.toNat)(hne:bs≠[])(hmax:bs.length≤qZ){k:cE}
  (hk:k (.string (tx bs)) (mR h ⟨g,0,none⟩ bs.length)):cY PG (Builtin.unsafeString_ #[oB,bT] bR #[pT g 0,.int .i64 bs.length]) h k:=by
 have hl:bs.length≠0:=by simpa using hne
 have h63:¬((bs.length:Int)>IntKind.i64.max):=by
  have:IntKind.i64.max=9223372036854775807:=rfl;unfold qZ at hmax;omega
 have hneg:¬(bs.length:Int)<0:=by omega
 have hz:¬(bs.length:Int)=0:=by omega
 have hdef:Builtin.unsafeString_ #[oB,bT] bR #[pT g 0,.int .i64 bs.length]=
   (do
    let n ←asInt (.int .i64 bs.length)
    if n<0 then runtimePanic (.error "unsafe.String: len out of range")
    if n>IntKind.i64.max then unsupported (.unsafePointer "String: a length above the largest int")
    if n=0 then pure (.string .empty)
    else if ←variablesAt ⟨g,0,none⟩ (←elemOf oB) n.toNat then do
     let s ←loadBytes ⟨g,0,none⟩ .empty n.toNat
     freeze ⟨g,0,none⟩ n.toNat
     pure (.string s)
    else unsupported (.unsafePointer "String: not so many bytes at ptr")):=rfl
 rw[hdef];have hs:kA h g=some (some (dJ,cs.size)):=by unfold kA;rw[hb]
 have hv:cD PG h (variablesAt ⟨g,0,none⟩ dJ bs.length)=some true:=by
  show(kA h g).bind _=_;rw[hs];have hc1:PG.cellsOf dJ=1:=by kernel_rfl
  have:=Go.Lib.liesAt_bytes (P:=PG) hc1 (cs.size/PG.cellsOf dJ) bs.length (by rw[hc1];simpa using hle);show some (liesAt PG PG.depth dJ (cs.size/PG.cellsOf dJ) 0 dJ bs.length)=some true;rw[this]
 have hlb:=semE_loadBytes (h:=h) bs ⟨g,0,none⟩ .empty rfl (λj x hx=>by
  rw[lT];unfold dD;simp only[hb,fE];have hj:j<bs.length:=(zLz.1 hx).1;have:(cs.toList.take bs.length)[j]? =some (.int .u8 x.toNat):=by rw[hcs,vD,hx];rfl
  rw[aH9,if_pos hj] at this;simpa using this)
 have helem:cD PG h (elemOf oB)=some dJ:=by kernel_rfl
 simp only[asInt,asIntOf,pure_bind,map_pure,hneg,h63,hz,if_false,pQ];refine iM helem ?_;refine iM hv ?_;simp only[if_true];refine iM hlb ?_;show(∃o,h g=some o)∧_;refine⟨⟨_,hb⟩,?_⟩;show k (.string _) _;have e:(⟨ByteArray.empty.data++bs.toArray⟩:ByteArray)=tx bs:=by apply ByteArray.ext;simp[tx]
 rw[e];exact hk
theorem FB.len{h:PH}{a g cap:Nat}{bs:List UInt8}(H:FB h a g cap bs){k:cE}(hk:k (.int .i64 bs.length) h):aT PG rP #[pT a 0] h k:=by
 obtain⟨cs,f,ha,-⟩:=H;apply aAo.call;unfold aAo;have c1:dD h ⟨a,0+1,none⟩=some (.slice (some ⟨g,0,none⟩) bs.length cap):=by simp[dD,ha]
 simp only[dG.f1,cX.load,c1,cX.len,cG,reduceIte];exact hk
theorem FB.string{h:PH}{a g cap:Nat}{bs:List UInt8}(H:FB h a g cap bs)(hne:bs≠[]){k:cE}(hk:∀h',FB h' a g cap bs->cU [g] h h'->k (.string (tx bs)) h'):aT PG kK #[pT a 0] h k:=by
 obtain⟨cs,f,ha,hg,hf,hc,hsz,htk,hga,hmx⟩:=H;have hpos:bs.length≠0:=by simpa using hne
 apply kQ.call;unfold kQ;have c1:dD h ⟨a,0+1,none⟩=some (.slice (some ⟨g,0,none⟩) bs.length cap):=by simp[dD,ha]
 simp only[dG.f1,cX.load,c1,cX.len,cG,reduceIte];refine cD.semH (a:=pT g 0) ?_ ?_
 ·show cD PG h (if cap≠0 then _ else _)=_;rw[if_pos (by omega)];rfl
 ·refine⟨c1,?_⟩;refine aTC hg (by omega) htk hne (by omega) ?_;have hg':mR h ⟨g,0,none⟩ bs.length g=some (.cells cs dJ (0,bs.length)):=by
   unfold mR;rw[if_neg hpos,if_pos rfl];simp only[hg];by_cases h0:f=0
   ·subst h0;simp
   ·have:((0==f)=true)=False:=by simp;omega
    simp only[this,if_false];congr 3
    ·exact Nat.max_eq_right (by omega) |>.trans (fE _)
  have hoth:∀b,b≠g->mR h ⟨g,0,none⟩ bs.length b=h b:=λb hb=>by
   unfold mR;rw[if_neg hpos,if_neg hb]
  exact hk _ ⟨cs,bs.length,by rw[hoth a hga.symm];exact ha,hg',oL _,hc,hsz,htk,hga,hmx⟩ (λb o hb hn=>by rw[hoth b (by simpa using hn)];exact hb)
theorem FB.write{h:PH}{a g cap:Nat}{bs ys:List UInt8}(H:FB h a g cap bs)(hle:bs.length+ys.length≤cap)(hcap:bs.length+ys.length≤1000000){k:cE}(hk:∀v h',FB h' a g cap (bs++ys)->cU [a,g] h h'->k v h'):
  aT PG kU #[pT a 0,.string (tx ys)] h k:=by
 obtain⟨cs,f,ha,hg,hf,hc,hsz,htk,hga,hmx⟩:=H;apply kP.call;unfold kP;refine copyCheck_ok ha (.inr rfl) λh1 a1 u1 o1=>?_;have g1:h1 g=some (.cells cs dJ (0,f)):=by rw[o1 g hga];exact hg
 have c1:dD h1 ⟨a,0+1,none⟩=some (.slice (some ⟨g,0,none⟩) bs.length cap):=by simp[dD,a1]
 simp only[dG.f1,cX.load,c1,bR.len,iB,cG,reduceIte]
 -- the append
 simp only[Builtin.append_,zLJ,pK,sA,qD cX.und,qD bR.und,kR,mI dJ.info,pure_bind,zLt,if_false,Builtin.lenOf,zLq,if_true,dJ.size,iB];rw[if_pos hle];refine iM (aPD (l:=ys)) ?_;have hadd:(⟨g,0,none⟩:Addr).add (bs.length*1)=⟨g,bs.length,none⟩:=by rw[lT];simp
 show cY PG (storeCells ((⟨g,0,none⟩:Addr).add (bs.length*1)) (ys.map λb=>Value.int .u8 b.toNat).toArray.toList >>= λ_=>pure _) h1 _;rw[hadd];refine cY.bind (P:=PG) (s:=storeCells _ _) ?_;refine aIs (b:=g) (o:=bs.length) (f:=f) (ys.map λb=>Value.int .u8 b.toNat) 0 h1 cs g1 (by omega) (by simp;omega) (λv hv=>by obtain⟨b,-,rfl⟩:=lO.1 hv;rfl) ?_;have key:∀h2:PH,(∃cs',h2 g=some (.cells cs' dJ (0,f))∧cs'.size=cap∧cs'.toList.take (bs.length+ys.length)=((bs++ys).map λb=>Value.int .u8 b.toNat))->h2 a=h1 a->cU [g] h1 h2->
   cY PG (dN cX (pT a (0+1)) (.slice (some ⟨g,0,none⟩) (bs.length+ys.length) cap)) h2 λ_ h3=>k (.tuple #[.int .i64 ys.length,.nilIface]) h3:=by
  intro h2 ⟨cs',hg2,hs2,ht2⟩ ha2 u2;refine iU cX.und rfl (by rw[ha2];exact a1) (by simp) rfl cX.info cX.size ?_;refine hk _ _ ⟨cs',f,?_,by rw[oZ hga];exact hg2,by simp;omega,by simpa using hle,hs2,by simpa using ht2,hga,hmx⟩ (((u1.mono λb hb=>.inl (by simp at hb;simp[hb])).trans (u2.mono λb hb=>.inl (by simp at hb;simp[hb]))).trans (cU.set (by simp)));rw[dL];simp
 by_cases hy:ys=[]
 ·subst hy;rw[if_pos (show(List.map (λb=>Value.int .u8 (b.toNat:Int)) ([]:List UInt8))=[] from rfl)];exact key h1 ⟨cs,g1,hsz,by simpa using htk⟩ rfl cU.refl
 ·rw[if_neg (by simpa using hy)];refine key _ ⟨_,dL,by rw[aFT];exact hsz,?_⟩ (oZ hga.symm) (cU.set (by simp));rw[Nat.add_zero,aBt _ _ _ (by simp;omega),htk];rw[zLG (by simp),mW (by simp),qI]
theorem aOb{n m:Nat}(h:m≤n):(List.replicate n (0:UInt8)).take m=List.replicate m 0:=by rw[List.take_replicate,aJn h]
theorem aZC{ts:Array TypeId}{t:TypeId}{k:IntKind}{x y z:Int}:dA PG (Builtin.min_ ts t #[.int k x,.int k y,.int k z])=some (.int k (if z<(if y<x then y else x) then z else(if y<x then y else x))):=(rfl)
theorem aRI(x:Int):dA PG (convert nK bT (.int .u64 x))=some (.int .i64 (IntKind.i64.wrap x)):=by kernel_rfl
theorem aUK{h:PH}{n:Nat}(hn:n<64){k:cE}(hk:∀h',cZ h h'->k (.string (tx (List.replicate n 0))) h'):aT PG aFB #[.string (tx [0]),.int .i64 n] h k:=by
 apply aEx.call;unfold aEx;simp only[hQ,cG,reduceIte];by_cases h0:n=0
 ·subst h0;simp only[show(((0:Nat):Int)==0)=true from rfl,cG,reduceIte];exact hk _ cU.refl
 ·have e0:((n:Int)==0)=false:=by simpa using h0
  simp only[e0,cG,reduceIte];by_cases h1:n=1
  ·subst h1;simp only[show(((1:Nat):Int)==1)=true from rfl,cG,reduceIte];exact hk _ cU.refl
  ·have e1:((n:Int)==1)=false:=by simp;omega
   have e2:((n:Int)<0)=False:=eq_false (by omega);simp only[e1,e2,cG,reduceIte];unfold aIN;have w1:IntKind.u64.wrap (([0]:List UInt8).length:Int)=1:=rfl;have wn:IntKind.u64.wrap (n:Int)=n:=gL (by omega) (by omega);simp only[bR.len,iB,aJr,w1,wn,cG,reduceIte];refine aYP hn ?_;have e3:((9223372036854775807:Int)<(n:Int))=False:=eq_false (by omega);simp only[aL5,aLr,show((0:Int)<0)=False from eq_false (by decide),e3,cG,reduceIte];unfold aH6;have wi:IntKind.i64.wrap (n:Int)=n:=eV (by omega) (by omega);have i0:dA PG (Instr.index bR (.string (tx [0])) (.int .i64 0))=some (.int .u8 ((0:UInt8).toNat:Int)):=zF (j:=0) bR.und rfl;have z0:(((0:UInt8).toNat:Int))=0:=rfl;have w2:(([0]:List UInt8).length:Int)=1:=rfl;have hz:((1:Int)==0)=false:=rfl;have d1:((0:Int)==32)=false:=rfl;have d2:((0:Int)==45)=false:=rfl;have d3:((0:Int)==48)=false:=rfl;have d4:((0:Int)==61)=false:=rfl;have d5:((0:Int)==9)=false:=rfl;simp only[bR.len,iB,aRI,wi,i0,z0,w2,hz,d1,d2,d3,d4,d5,cG,reduceIte];unfold sY;simp only[cG,reduceIte];unfold aEc aHv;have e4:((8192:Int)<(n:Int))=False:=eq_false (by omega);simp only[e4,cG,reduceIte];unfold aBA;rw[zB];intro r hr
   try rw[cW]
   have u1:cZ h (h.set r (.cells #[.pointer none,.slice none 0 0] dG)):=cU.new hr;have a1:(h.set r (.cells #[.pointer none,.slice none 0 0] dG)) r=some (.cells #[.pointer none,.slice none 0 0] dG (0,0)):=dL;generalize h.set r (.cells #[.pointer none,.slice none 0 0] dG)=h1 at *;refine aW7 a1 (n:=n) (by omega) (by omega) λh2 g cap hF hcap u2 hg=>?_;have ug:cU [r,g] h h2:=(u1.upd.trans (u2.mono λb hb=>.inl (by simp at hb;simp[hb])));have hgn:h g=none:=u1.none hg;have fin:∀h',cU [r,g] h h'->cZ h h':=λh' u b o hb _=>u b o hb (by
    simp only[gP,kL,or_false,not_or];exact⟨(λe=>by rw[e,hr] at hb;cases hb),(λe=>by rw[e,hgn] at hb;cases hb)⟩)
   refine FB.write hF (ys:=[0]) (by simpa using by omega) (by simp) λv h3 hF3 u3=>?_;refine⟨λvs h'=>∃m,1≤m∧m≤n∧vs=[.int .i64 n,.int .i64 n,pT r 0]∧cU [r,g] h h'∧FB h' r g cap (List.replicate m 0),aOX r n,⟨1,by omega,by omega,rfl,ug.trans u3,hF3⟩,?_⟩;rintro ρ h' ⟨m,hm1,hm2,hvs,u',F'⟩;simp only[iH,iT,kV,and_true] at hvs;obtain⟨v7,v8,v9⟩:=hvs;have hr':=F'.mu (n:=n) (vs:=[ρ 7,ρ 8,ρ 9]);simp only[v7,v8,v9,iH,iT,aKw] at hr' ⊢;unfold aG4;refine F'.len ?_;simp only[aKw,cG,reduceIte];by_cases hmn:m<n
   ·have f1:((m:Int)<(n:Int))=True:=eq_true (by omega);simp only[f1,cG,reduceIte];refine F'.len ?_;have f2:IntKind.i64.wrap ((n:Int)-(m:Int))=((n-m:Nat):Int):=by rw[eV (by omega) (by omega)];omega
    simp only[aKw,f2,cG,reduceIte];refine F'.len ?_;have f3:(if (n:Int)<(if (m:Int)<((n-m:Nat):Int) then(m:Int) else((n-m:Nat):Int)) then(n:Int) else(if (m:Int)<((n-m:Nat):Int) then(m:Int) else((n-m:Nat):Int)))=((min m (n-m):Nat):Int):=by
     split<;>split<;>omega
    simp only[aKw,aZC,f3,cG,reduceIte];refine F'.string (by simp;omega) λh4 F4 u4=>?_;have ec:dA PG (Instr.sliceAt bR (.string (tx (List.replicate m 0))) none (some (.int .i64 ((min m (n-m):Nat):Int))) none)=some (.string (tx (List.replicate (min m (n-m)) 0))):=by
     have:=aHx (P:=PG) (t:=bR) (l:=List.replicate m 0) (i:=0) (j:=min m (n-m)) (lo:=none) (hi:=some (.int .i64 ((min m (n-m):Nat):Int))) bR.und (.inl ⟨rfl,rfl⟩) (.inr ⟨_,rfl⟩) (by omega) (by simp;omega);rw[this,aOb (by omega),zLb]
    simp only[ec,cG,reduceIte];refine F4.write (by simp;omega) (by simp;omega) λv5 h5 F5 u5=>?_;rw[List.replicate_append_replicate] at F5;refine⟨⟨m+min m (n-m),by omega,by omega,(by trivial),(u'.trans (u4.mono λb hb=>.inl (by simp at hb;simp[hb]))).trans u5,F5⟩,?_⟩;rw[F5.mu,hr',aKw];omega
   ·have f1:((m:Int)<(n:Int))=False:=eq_false (by omega);simp only[f1,cG,reduceIte];refine F'.string (by simp;omega) λh4 F4 u4=>?_;have:m=n:=by omega
    subst this;exact hk _ (fin _ (u'.trans (u4.mono λb hb=>.inl (by simp at hb;simp[hb]))))
theorem aUZ{s:S8}:dA PG (Instr.index eN (.agg #[wv s.a,wv s.b,wv s.c,wv s.d,wv s.e,wv s.f,wv s.g,wv s.h]) (.int .i64 0))=some (wv s.a):=by kernel_rfl
theorem aVX{s:S8}:dA PG (Instr.index eN (.agg #[wv s.a,wv s.b,wv s.c,wv s.d,wv s.e,wv s.f,wv s.g,wv s.h]) (.int .i64 1))=some (wv s.b):=by kernel_rfl
theorem aVq{s:S8}:dA PG (Instr.index eN (.agg #[wv s.a,wv s.b,wv s.c,wv s.d,wv s.e,wv s.f,wv s.g,wv s.h]) (.int .i64 2))=some (wv s.c):=by kernel_rfl
theorem aU7{s:S8}:dA PG (Instr.index eN (.agg #[wv s.a,wv s.b,wv s.c,wv s.d,wv s.e,wv s.f,wv s.g,wv s.h]) (.int .i64 3))=some (wv s.d):=by kernel_rfl
theorem aU1{s:S8}:dA PG (Instr.index eN (.agg #[wv s.a,wv s.b,wv s.c,wv s.d,wv s.e,wv s.f,wv s.g,wv s.h]) (.int .i64 4))=some (wv s.e):=by kernel_rfl
theorem aVI{s:S8}:dA PG (Instr.index eN (.agg #[wv s.a,wv s.b,wv s.c,wv s.d,wv s.e,wv s.f,wv s.g,wv s.h]) (.int .i64 5))=some (wv s.f):=by kernel_rfl
theorem aV7{s:S8}:dA PG (Instr.index eN (.agg #[wv s.a,wv s.b,wv s.c,wv s.d,wv s.e,wv s.f,wv s.g,wv s.h]) (.int .i64 6))=some (wv s.g):=by kernel_rfl
theorem aVN{s:S8}:dA PG (Instr.index eN (.agg #[wv s.a,wv s.b,wv s.c,wv s.d,wv s.e,wv s.f,wv s.g,wv s.h]) (.int .i64 7))=some (wv s.h):=by kernel_rfl
theorem aX9{s:S8}{i:Nat}(hi:i<8):dA PG (Instr.index eN (.agg #[wv s.a,wv s.b,wv s.c,wv s.d,wv s.e,wv s.f,wv s.g,wv s.h]) (.int .i64 (i:Int)))=some (wv (s.l.getD i 0)):=by
 have:i=0∨i=1∨i=2∨i=3∨i=4∨i=5∨i=6∨i=7:=by omega
 rcases this with rfl|rfl|rfl|rfl|rfl|rfl|rfl|rfl
 ·exact aUZ
 ·exact aVX
 ·exact aVq
 ·exact aU7
 ·exact aU1
 ·exact aVI
 ·exact aV7
 ·exact aVN
def aOg(slot:Nat):List Value->PH->Nat:=λvs _=>match vs[slot]? with
 | some (Value.int _ v)=>(v+8).toNat
 | _=>0
theorem aYJ(x:W):Value.int .u8 (IntKind.u8.wrap (x.toNat:Int))= .int .u8 ((UInt8.ofNat x.toNat).toNat:Int):=by
 rw[aHG,UInt8.toNat_ofNat'];congr 1
theorem aTV(x:W):dA PG (convert cL dJ (wv x))=some (.int .u8 ((UInt8.ofNat x.toNat).toNat:Int)):=by
 unfold wv;rw[aXW,aYJ]
theorem aTU(x:W):(wb x).length=4:=rfl
theorem aZo(x:W){j:Nat}(hj:j<4):dA PG (binOp .shr cL (wv x) (.int .i64 (24-8*(j:Int))))=some (wv (x>>>(24-8*j))):=by
 have:=aJO (P:=PG) (t:=cL) (x:=x) (k:=.i64) (n:=24-8*j) (by omega);rw[←this];congr 3;omega
theorem aXh(x:W){j:Nat}(hj:j<4):(wb x).take (j+1)=(wb x).take j++[UInt8.ofNat (x>>>(24-8*j)).toNat]:=by
 have:j=0∨j=1∨j=2∨j=3:=by omega
 rcases this with rfl|rfl|rfl|rfl
 ·rfl
 ·rfl
 ·rfl
 ·show wb x=[_,_,_]++[UInt8.ofNat (x>>>0).toNat];rw[BitVec.ushiftRight_zero];rfl
theorem aQR(s:S8){i:Nat}(hi:i<8):(s.l.take (i+1)).flatMap wb=(s.l.take i).flatMap wb++wb (s.l.getD i 0):=by
 have:i=0∨i=1∨i=2∨i=3∨i=4∨i=5∨i=6∨i=7:=by omega
 rcases this with rfl|rfl|rfl|rfl|rfl|rfl|rfl|rfl<;>rfl
theorem aRm(s:S8){i:Nat}(hi:i≤8):((s.l.take i).flatMap wb).length≤32:=by
 have:i=0∨i=1∨i=2∨i=3∨i=4∨i=5∨i=6∨i=7∨i=8:=by omega
 rcases this with rfl|rfl|rfl|rfl|rfl|rfl|rfl|rfl|rfl<;>(simp[S8.l,wb])
theorem aTe{h:PH}{a:Nat}{s:S8}{x y:Value}(ha:h a=some (.cells (jV s x y) eY (0,0))){k:cE}(hk:∀h',cZ h h'->k (.string (tx (aIe s))) h'):
  aT PG aDz #[pT a 0] h k:=by
 apply wR.call;unfold wR;rw[zB];intro r hr
 try rw[cW]
 have u1:cZ h (h.set r (.cells #[.pointer none,.slice none 0 0] dG)):=cU.new hr;have b1:BAt (h.set r (.cells #[.pointer none,.slice none 0 0] dG)) r [] [r]:=BAt.zero dL;generalize h.set r (.cells #[.pointer none,.slice none 0 0] dG)=h1 at *;have ha1:=u1.get ha;have lA:=eN.loadAgg (o:=0) ha1 (by simp[jV]);have lE:(jV s x y).extract 0 (0+8)= #[wv s.a,wv s.b,wv s.c,wv s.d,wv s.e,wv s.f,wv s.g,wv s.h]:=rfl;rw[lE] at lA;simp only[gZ.f0,lA,cG,reduceIte];refine⟨λvs h'=>∃(i:Nat) (F:List Nat),i≤8∧vs=[pT r 0,.agg #[wv s.a,wv s.b,wv s.c,wv s.d,wv s.e,wv s.f,wv s.g,wv s.h],.int .i64 (i:Int)]∧BAt h' r ((s.l.take i).flatMap wb) F∧eD h F∧cZ h h',gU 8 2,⟨0,[r],by omega,rfl,b1,eD.one hr,u1⟩,?_⟩;rintro ρ h' ⟨i,F,hi,hvs,B,fF,u⟩;simp only[iH,iT,kV,and_true] at hvs;obtain⟨v3,v10,v11⟩:=hvs;simp only[v3,v10,v11,iH,iT];unfold aG7;by_cases hl:i<8
 ·have e1:((i:Int)<8)=True:=eq_true (by omega);simp only[e1,aX9 hl,cG,reduceIte];refine⟨λvs h'=>∃(j:Nat) (F:List Nat),j≤4∧vs=[pT r 0,wv (s.l.getD i 0),.int .i64 (24-8*(j:Int)),.agg #[wv s.a,wv s.b,wv s.c,wv s.d,wv s.e,wv s.f,wv s.g,wv s.h],.int .i64 (i:Int)]∧BAt h' r ((s.l.take i).flatMap wb++(wb (s.l.getD i 0)).take j) F∧eD h F∧cZ h h',aOg 2,⟨0,F,by omega,rfl,by simpa using B,fF,u⟩,?_⟩;rintro ρ2 h2 ⟨j,F2,hj,hvs,B2,fF2,u2⟩;simp only[iH,iT,kV,and_true] at hvs;obtain⟨w3,w5,w6,w10,w11⟩:=hvs;simp only[w3,w5,w6,w10,w11,iH,iT];unfold aGp;by_cases hj4:j<4
  ·have e2:((0:Int)≤24-8*(j:Int))=True:=eq_true (by omega);have e3:IntKind.i64.wrap (24-8*(j:Int)-8)=24-8*((j+1:Nat):Int):=by rw[eV (by omega) (by omega)];omega
   have hsh:=aZo (s.l.getD i 0) hj4;simp only[e2,hsh,aTV,cG,reduceIte];have hlen:((s.l.take i).flatMap wb++(wb (s.l.getD i 0)).take j).length+1≤140737488355328:=by
    have h1:=aRm s hi;have h2:((wb (s.l.getD i 0)).take j).length≤4:=by rw[uF,aTU];omega
    rw[jP];omega
   refine WriteByte_ok B2 hlen _ ?_;intro h3 F3 B3 u3 k3;simp only[e3,cG,reduceIte];refine⟨⟨j+1,F3,by omega,(by trivial),?_,fF2.grow u2 k3,u2.fresh u3 fF2⟩,?_⟩
   ·rw[aXh _ hj4,←mT];exact B3
   ·simp only[aOg,sA,pK];omega
  ·have hj':j=4:=by omega
   subst hj';have e2:((0:Int)≤24-8*((4:Nat):Int))=False:=eq_false (by decide);have e3:=pR (i:=i) (by omega);simp only[e2,e3,cG,reduceIte];refine⟨⟨i+1,F2,by omega,rfl,?_,fF2,u2⟩,?_⟩
   ·rw[aQR s hl];exact B2
   ·simp only[gU,sA,pK];omega
 ·have hi':i=8:=by omega
  subst hi';simp only[show(((8:Nat):Int)<8)=False from eq_false (by decide),cG,reduceIte];refine String_ok B λh3 u3=>?_;exact hk _ (u.fresh u3 fF)
theorem aBZ(x:Int):dA PG (convert bT cA (.int .i64 x))=some (.int .u64 (IntKind.u64.wrap x)):=by kernel_rfl
theorem aQK(x:Int):dA PG (convert cA dJ (.int .u64 x))=some (.int .u8 (IntKind.u8.wrap x)):=by kernel_rfl
theorem aV9{n:Nat}{j:Nat}(hj:j<8):dA PG (binOp .shr cA (.int .u64 (n:Int)) (.int .i64 (56-8*(j:Int))))=some (.int .u64 ((n/256^(8-1-j):Nat):Int)):=by
 rw[aHt (by omega)];congr 2;have e:min ((56-8*(j:Int)).toNat) (IntKind.u64.bits)=56-8*j:=by
  show min ((56-8*(j:Int)).toNat) 64=_;omega
 have e2:(256:Nat)^(8-1-j)=2^(56-8*j):=by
  have:j=0∨j=1∨j=2∨j=3∨j=4∨j=5∨j=6∨j=7:=by omega
  rcases this with rfl|rfl|rfl|rfl|rfl|rfl|rfl|rfl<;>decide
 rw[e,e2,Int.fdiv_eq_ediv_of_nonneg _ (Int.pow_nonneg (by decide)),Int.natCast_ediv,Int.natCast_pow];rfl
theorem aT3(m:Nat):Value.int .u8 (IntKind.u8.wrap (m:Int))= .int .u8 ((UInt8.ofNat (m%256)).toNat:Int):=by
 rw[aHG,UInt8.toNat_ofNat'];congr 1;omega
theorem aVV{s:S8}{x:ByteArray}{k:IntKind}{n:Int}:∀v∈(jV s (.string x) (.int k n)).toList,fP v=true:=by
 intro v hv;simp only[jV,gP,kL,or_false] at hv;rcases hv with rfl|rfl|rfl|rfl|rfl|rfl|rfl|rfl|rfl|rfl<;>rfl
theorem aSf{h:PH}{a:Nat}{s:S8}{r:List UInt8}{n:Nat}(hK:mU h)(ha:HAt h a s r n)(hr:r.length<64)(hn:n≤100000000000){k:cE}
  (hk:∀h',cZ h h'->k (.string (tx (aIe (qF s (r++aIw n)).1))) h'):aT PG aGj #[pT a 0] h k:=by
 apply aGv.call;unfold aGv;have lA:=eY.loadAgg (o:=0) ha (by simp[jV]);have lE:(jV s (.string (tx r)) (.int .i64 n)).extract 0 (0+10)=jV s (.string (tx r)) (.int .i64 n):=rfl;rw[lE] at lA;simp only[lA,cG,reduceIte];intro r3 hr3
 try rw[cW]
 have u1:cZ h (h.set r3 (.cells (dP PG eY) eY)):=cU.new hr3;have a3:(h.set r3 (.cells (dP PG eY) eY)) r3=some (.cells (dP PG eY) eY (0,0)):=dL;generalize h.set r3 (.cells (dP PG eY) eY)=h1 at *;refine xP a3 eY.info rfl (by simp[jV]) (by rw[eY.zc];rfl) aVV ?_;have u2:cZ h (h1.set r3 (.cells (jV s (.string (tx r)) (.int .i64 n)) eY (0,0))):=u1.fresh (cU.set (F:=[r3]) (by simp)) (eD.one hr3);have a3':HAt (h1.set r3 (.cells (jV s (.string (tx r)) (.int .i64 n)) eY (0,0))) r3 s r n:=dL;generalize h1.set r3 (.cells (jV s (.string (tx r)) (.int .i64 n)) eY (0,0))=h2 at *;rw[zB];intro r7 hr7
 try rw[cW]
 have u3:cZ h2 (h2.set r7 (.cells #[.pointer none,.slice none 0 0] dG)):=cU.new hr7;have b7:BAt (h2.set r7 (.cells #[.pointer none,.slice none 0 0] dG)) r7 [] [r7]:=BAt.zero dL;have n7:h r7=none:=u2.none hr7;generalize h2.set r7 (.cells #[.pointer none,.slice none 0 0] dG)=h3 at *;have a3'':HAt h3 r3 s r n:=u3.get a3';have u4:=u2.trans u3;have hF7:∀b∈[r7],b≠r3:=by
  intro b hb;simp at hb;subst hb;rintro rfl;rw[a3'] at hr7;cases hr7
 refine⟨λvs h'=>∃(j:Nat) (F:List Nat),j≤8∧vs=[pT a 0,pT r3 0,pT r7 0,.int .i64 (56-8*(j:Int))]∧BAt h' r7 ((be (n*8%18446744073709551616) 8).take j) F∧eD h F∧cZ h h'∧(∀b∈F,b≠r3)∧HAt h' r3 s r n,aOg 3,⟨0,[r7],by omega,rfl,b7,eD.one n7,u4,hF7,a3''⟩,?_⟩;rintro ρ h' ⟨j,F,hj,hvs,B,fF,u,hF,ha'⟩;simp only[iH,iT,kV,and_true] at hvs;obtain⟨v0,v3,v4,v5⟩:=hvs;simp only[v0,v3,v4,v5,iH,iT];unfold aJB;have hAt:=u.get ha;have c9:dD h' ⟨a,0+9,none⟩=some (.int .i64 n):=by simp[dD,hAt,jV]
 have en:n*8%18446744073709551616=n*8:=aCk (by omega);by_cases hl:j<8
 ·have e1:((0:Int)≤56-8*(j:Int))=True:=eq_true (by omega);have e2:IntKind.u64.wrap (n:Int)=(n:Int):=gL (by omega) (by omega);have e3:IntKind.u64.wrap ((n:Int)*8)=((n*8:Nat):Int):=by rw[gL (by omega) (by omega)];omega
  have e4:IntKind.i64.wrap (56-8*(j:Int)-8)=56-8*((j+1:Nat):Int):=by rw[eV (by omega) (by omega)];omega
  simp only[e1,eY.f2,bT.load,c9,aBZ,e2,e3,aV9 hl,aQK,aT3,cG,reduceIte];refine WriteByte_ok B (by rw[uF,iC];omega) _ ?_;intro h5 F5 B5 u5 k5;simp only[e4,cG,reduceIte];refine⟨⟨j+1,F5,by omega,(by trivial),?_,fF.grow u k5,u.fresh u5 fF,λb hb=>?_,u5.get ha' (λhm=>hF _ hm rfl)⟩,?_⟩
  ·rw[aIq hl,en];rw[en] at B5;exact B5
  ·rcases k5 b hb with h1|h1
   ·exact hF b h1
   ·rintro rfl;unfold HAt at ha';rw[ha'] at h1;cases h1
  ·simp only[aOg,sA,pK];omega
 ·have hj':j=8:=by omega
  subst hj';have e1:((0:Int)≤56-8*((8:Nat):Int))=False:=eq_false (by decide);have e2:((n:Int)).tmod 64=((n%64:Nat):Int):=by rw[Int.tmod_eq_emod_of_nonneg (by omega)];omega
  have e3:IntKind.i64.wrap (119-((n%64:Nat):Int))=((119-n%64:Nat):Int):=by rw[eV (by omega) (by omega)];omega
  have e4:(((119-n%64:Nat):Int)).tmod 64=(((119-n%64)%64:Nat):Int):=by rw[Int.tmod_eq_emod_of_nonneg (by omega)];omega
  have d1:∀(t:TypeId) (x:Int),dA PG (binOp .rem t (.int .i64 x) (.int .i64 64))=some (.int .i64 (x.tmod 64)):=λt x=>aHz (by decide);simp only[e1,eY.f2,bT.load,c9,d1,e2,e3,e4,cG,reduceIte];refine aUK (zLA _ (by decide)) λh5 u5=>?_;have ex:∀(t:TypeId),dA PG (binOp .add t (.string {data:=#[128]}) (.string (tx (List.replicate ((119-n%64)%64) 0))))=some (.string (tx ([128]++List.replicate ((119-n%64)%64) 0))):=λt=>lJ (a:=[128]) (by simp;omega);simp only[ex,cG,reduceIte];have B5:=B.ext u5;refine String_ok B5 λh6 u6=>?_;have et:(be (n*8%18446744073709551616) 8).take 8=be (n*8%18446744073709551616) 8:=mW (Nat.le_of_eq (iC _ _));rw[et];have ey:∀(t:TypeId),dA PG (binOp .add t (.string (tx ([128]++List.replicate ((119-n%64)%64) 0))) (.string (tx (be (n*8%18446744073709551616) 8))))=some (.string (tx (aIw n))):=λt=>by
   rw[lJ (by simp[iC];omega)];rfl
  simp only[ey,cG,reduceIte];have a6:HAt h6 r3 s r n:=u6.get (u5.get ha') (λhm=>hF _ hm rfl);have u7:cZ h h6:=(u.trans u5).fresh u6 fF;have hpl:(aIw n).length≤80:=by
   simp only[aIw,rN,jP,aKw,iC];have:=zLA (119-n%64) (show 64>0 by decide);omega
  refine aQj (hK.ext u7) a6 (by omega) (by omega) λh8 u8 a8=>?_;simp only[eY.f0,cG,reduceIte];refine aTe a8 λh9 u9=>?_;exact hk _ ((u7.fresh u8 (eD.one hr3)).trans u9)
def iY(p:List UInt8):List Value:=[.string (tx p)]
theorem iY.rows(l:List (List UInt8)):Rows 1 (l.map iY):=λr hr=>by
 obtain⟨p,-,rfl⟩:=lO.1 hr;rfl
theorem aUN{h:PH}{k:cE}(hk:∀h' a,h a=none->cZ h h'->HAt h' a S0 [] 0->k (pT a 0) h'):aT PG aKN #[] h k:=by
 apply aMH.call;unfold aMH;apply aJa.call;unfold aJa;intro r1 hr1
 try rw[cW]
 have zS:dP PG gZ=(zs 8).toArray:=by rw[gZ.zc];rfl
 rw[zS];have u1:cZ h (h.set r1 (.cells (zs 8).toArray gZ)):=cU.new hr1;have a1:(h.set r1 (.cells (zs 8).toArray gZ)) r1=some (.cells (zs 8).toArray gZ (0,0)):=dL;generalize h.set r1 (.cells (zs 8).toArray gZ)=h1 at *;have b1:dA PG (build eN #[(0,(Value.int IntKind.u32 1779033703)),(1,(Value.int IntKind.u32 3144134277)),(2,(Value.int IntKind.u32 1013904242)),(3,(Value.int IntKind.u32 2773480762)),(4,(Value.int IntKind.u32 1359893119)),(5,(Value.int IntKind.u32 2600822924)),(6,(Value.int IntKind.u32 528734635)),(7,(Value.int IntKind.u32 1541459225))])=some (.agg #[wv S0.a,wv S0.b,wv S0.c,wv S0.d,wv S0.e,wv S0.f,wv S0.g,wv S0.h]):=by kernel_rfl
 have b2:dA PG (build gZ #[(0,.agg #[wv S0.a,wv S0.b,wv S0.c,wv S0.d,wv S0.e,wv S0.f,wv S0.g,wv S0.h])])=some (.agg #[wv S0.a,wv S0.b,wv S0.c,wv S0.d,wv S0.e,wv S0.f,wv S0.g,wv S0.h]):=by kernel_rfl
 have b3:dA PG (build eY #[(0,.agg #[wv S0.a,wv S0.b,wv S0.c,wv S0.d,wv S0.e,wv S0.f,wv S0.g,wv S0.h])])=some (.agg (jV S0 (.string (tx [])) (.int .i64 (0:Nat)))):=by kernel_rfl
 simp only[b1,b2,cG,reduceIte];refine xP a1 gZ.info rfl (by simp) rfl (by simp[isw]) ?_;have u2:cZ h (h1.set r1 (.cells #[wv S0.a,wv S0.b,wv S0.c,wv S0.d,wv S0.e,wv S0.f,wv S0.g,wv S0.h] gZ (0,0))):=u1.fresh (cU.set (F:=[r1]) (by simp)) (eD.one hr1);have a2:(h1.set r1 (.cells #[wv S0.a,wv S0.b,wv S0.c,wv S0.d,wv S0.e,wv S0.f,wv S0.g,wv S0.h] gZ (0,0))) r1=some (.cells #[wv S0.a,wv S0.b,wv S0.c,wv S0.d,wv S0.e,wv S0.f,wv S0.g,wv S0.h] gZ (0,0)):=dL;generalize h1.set r1 (.cells #[wv S0.a,wv S0.b,wv S0.c,wv S0.d,wv S0.e,wv S0.f,wv S0.g,wv S0.h] gZ (0,0))=h2 at *;have lA:=gZ.loadAgg (o:=0) a2 (by simp);have lE:(#[wv S0.a,wv S0.b,wv S0.c,wv S0.d,wv S0.e,wv S0.f,wv S0.g,wv S0.h]:Array Value).extract 0 (0+8)= #[wv S0.a,wv S0.b,wv S0.c,wv S0.d,wv S0.e,wv S0.f,wv S0.g,wv S0.h]:=rfl;rw[lE] at lA;simp only[lA,b3,cG,reduceIte];intro a ha
 try rw[cW]
 exact hk _ a (u2.none ha) (u2.trans (cU.new ha)) dL
theorem aNw{h:PH}{v:Value}{jE:List (List UInt8)}(hK:mU h)(hs:fR h 1 v (jE.map iY))(hl:jE.flatten.length≤100000000){k:cE}(hk:∀h',cZ h h'->k (.string (tx (oP jE.flatten))) h'):
  aT PG aEu #[v] h k:=by
 apply aMF.call;unfold aMF;refine aUN λh1 a hna u1 ha=>?_;have hs1:=hs.ext u1;have lv:=hs1.len (t':=bT) cP.und;rw[iS] at lv;simp only[lv,cG,reduceIte];have hsm:=hs.small;rw[iS] at hsm;unfold qZ at hsm;refine⟨λvs h'=>∃i,i≤jE.length∧vs=[pT a 0,v,.int .i64 jE.length,.int .i64 (i:Int)]∧cZ h h'∧HAt h' a (qF S0 (jE.take i).flatten).1 (qF S0 (jE.take i).flatten).2 (jE.take i).flatten.length,gU jE.length 3,⟨0,by omega,rfl,u1,by simpa[aHr (s:=S0) (l:=[]) (by simp)] using ha⟩,?_⟩;rintro ρ h' ⟨i,hi,hvs,u,ha'⟩;simp only[iH,iT,kV,and_true] at hvs;obtain⟨v3,v7,v8,v9⟩:=hvs;simp only[v3,v7,v8,v9,iH,iT];unfold aNk;have hfl:(jE.take i).flatten.length≤jE.flatten.length:=by
  have:jE.flatten=(jE.take i).flatten++(jE.drop i).flatten:=by rw[←zLF,aOD]
  rw[this,jP];omega
 by_cases hlt:i<jE.length
 ·have e1:((i:Int)<(jE.length:Int))=True:=eq_true (by omega);have e2:=pR (i:=i) (by omega);have hr:(jE.map iY)[(i:Int).toNat]? =some (iY jE[i]):=by rw[pQ,vD,lQ hlt];rfl
  obtain⟨pa,hpa,hload⟩:=(hs.ext u).loadCell (t:=cP) (k:=.i64) (j:=(i:Int)) cP.und bR.info bR.size bR.und rfl (by omega) hr;have ht:(jE.take (i+1)).flatten=(jE.take i).flatten++jE[i]:=by
   rw[aSo hlt,zLF];simp
  have hfl2:(jE.take (i+1)).flatten.length≤jE.flatten.length:=by
   have:jE.flatten=(jE.take (i+1)).flatten++(jE.drop (i+1)).flatten:=by rw[←zLF,aOD]
   rw[this,jP];omega
  rw[ht,jP] at hfl2;have hrest:=aJj S0 (jE.take i).flatten;simp only[e1,hpa,hload,cG,reduceIte];refine aQj (hK.ext u) ha' (by omega) (by omega) λh2 u2 ha2=>?_;simp only[e2,cG,reduceIte];refine⟨⟨i+1,by omega,rfl,u.fresh u2 (eD.one hna),?_⟩,?_⟩
  ·rw[ht,aKl,jP];exact ha2
  ·simp only[gU,sA,pK];omega
 ·have e1:((i:Int)<(jE.length:Int))=False:=eq_false (by omega);have hi':i=jE.length:=by omega
  simp only[e1,cG,reduceIte];refine aSf (hK.ext u) ha' (aJj _ _) (by omega) λh2 u2=>?_;have:=hk h2 (u.trans u2);unfold oP at this;rw[aKl] at this;rw[hi',zLI];exact this
structure Pr where
 (k v:Tx)
deriving DecidableEq
def Pr.cells(p:Pr):List Value:=[.string (tx p.k),.string (tx p.v)]
def Pr.val(p:Pr):Value:=.agg #[.string (tx p.k),.string (tx p.v)]
theorem Pr.rows(l:List Pr):Rows 2 (l.map Pr.cells):=λr hr=>by
 obtain⟨p,-,rfl⟩:=lO.1 hr;rfl
theorem Pr.isCell(l:List Pr):∀r∈l.map Pr.cells,∀u∈r,fP u=true:=λr hr u hu=>by
 obtain⟨p,-,rfl⟩:=lO.1 hr;simp only[Pr.cells,gP,kL,or_false] at hu;rcases hu with rfl|rfl<;>rfl
theorem aIn:∀(x y:List UInt8),Op.bytesLess x y=decide (x<y)
 | [],[]=>by simp[Op.bytesLess]
 | _::_,[]=>by simp[Op.bytesLess]
 | [],_::_=>by simp[Op.bytesLess]
 | a::x,b::y=>by
  rw[Op.bytesLess,aIn x y];simp only[List.cons_lt_cons_iff];by_cases h1:a<b<;>by_cases h2:a=b<;>by_cases h3:x<y<;>simp[h1,h2,h3]
theorem aCq(l:Tx):(tx l).toList=l:=by rw[ByteArray.toList_eq];simp[tx]
theorem aHH(a b:Tx):a<b∨a=b∨b<a:=by
 by_cases h1:a<b
 ·exact .inl h1
 ·by_cases h2:b<a
  ·exact .inr (.inr h2)
  ·exact .inr (.inl (List.le_antisymm h2 h1))
section
variable{P:Program}{t:TypeId}{a b:Tx}{h:PH}
theorem xZ:dA P (binOp .lss t (.string (tx a)) (.string (tx b)))=some (.bool (decide (a<b))):=by
 have e:dA P (binOp .lss t (.string (tx a)) (.string (tx b)))=some (.bool (Op.bytesLess (tx a).toList (tx b).toList)):=rfl;rw[e,aCq,aCq,aIn]
theorem aNc:dA P (binOp .gtr t (.string (tx a)) (.string (tx b)))=some (.bool (decide (b<a))):=by
 have e:dA P (binOp .gtr t (.string (tx a)) (.string (tx b)))=some (.bool (!(Op.bytesLess (tx a).toList (tx b).toList||(tx a).toList==(tx b).toList))):=rfl;rw[e,aCq,aCq,aIn];congr 2;rcases aHH a b with h|h|h
 ·have h2:¬b<a:=List.lt_asymm h;simp[h,h2]
 ·subst h;simp[zL0]
 ·have h2:¬a<b:=List.lt_asymm h;have h3:a≠b:=by rintro rfl;exact zL0 _ h
  simp[h,h2,h3]
end
theorem aV4(x:Int):dA PG (convert bT dJ (.int .i64 x))=some (.int .u8 (IntKind.u8.wrap x)):=by kernel_rfl
theorem aOe{h:PH}{n:Nat}{k:cE}(hk:∀h',cZ h h'->k (.string (tx [UInt8.ofNat (n%256)])) h'):aT PG aDd #[.int .i64 n] h k:=by
 apply aIZ.call;unfold aIZ;simp only[aV4,aT3,byte_lit,cG,reduceIte];intro r hr;refine fI ?_
 try rw[cW]
 have u:cZ h (h.set r (.cells #[.int .u8 ((UInt8.ofNat (n%256)).toNat:Int)] dJ)):=cU.new hr;have s:fR (h.set r (.cells #[.int .u8 ((UInt8.ofNat (n%256)).toNat:Int)] dJ)) 1 (.slice (some ⟨r,0,none⟩) 1 1) ([UInt8.ofNat (n%256)].map jC):=(dZ.lit (jC.rows [UInt8.ofNat (n%256)]) dL (by simp) (by decide) (by simp[jC])).slR;have hcv:cD PG _ (convert cX bR (.slice (some ⟨r,0,none⟩) 1 1))=some (.string (tx [UInt8.ofNat (n%256)])):=aDH cX.und dJ.und bR.und s;rw[hcv,aMA];exact hk _ u
theorem aWa(a b c:ByteArray):jK PG (buildSlice cP 3 #[(0,.string a),(1,.string b),(2,.string c)])=some (.cells #[.string a,.string b,.string c] bR,λr=>pure (.slice (some ⟨r,0,none⟩) 3 3)):=by kernel_rfl
theorem aY7(a b c d e:ByteArray):jK PG (buildSlice cP 5 #[(0,.string a),(1,.string b),(2,.string c),(3,.string d),(4,.string e)])=some (.cells #[.string a,.string b,.string c,.string d,.string e] bR,λr=>pure (.slice (some ⟨r,0,none⟩) 5 5)):=by kernel_rfl
def aAh(l r:Tx):Tx:=oP (1::(l++r))
def aFi(p:Pr):Tx:=oP (0::UInt8.ofNat (p.k.length%256)::(p.k++UInt8.ofNat (p.v.length%256)::p.v))
theorem aJ5{h:PH}{l r:Tx}(hK:mU h)(hl:l.length+r.length≤10000000){k:cE}(hk:∀h',cZ h h'->k (.string (tx (aAh l r))) h'):aT PG aCn #[.string (tx l),.string (tx r)] h k:=by
 apply aHh.call;unfold aHh;simp only[aWa,cG,reduceIte];intro b hb;refine fI ?_
 try rw[cW]
 have u:cZ h (h.set b (.cells #[.string ⟨#[1]⟩,.string (tx l),.string (tx r)] bR)):=cU.new hb;have s:fR (h.set b (.cells #[.string ⟨#[1]⟩,.string (tx l),.string (tx r)] bR)) 1 (.slice (some ⟨b,0,none⟩) 3 3) ([[1],l,r].map iY):=(dZ.lit (iY.rows [[1],l,r]) dL (by simp) (by decide) rfl).slR;refine aNw (hK.ext u) s (by simp;omega) λh' u'=>?_;have e:aAh l r=oP [[1],l,r].flatten:=by simp[aAh]
 rw[e] at hk;exact hk _ (u.trans u')
theorem aMT(p:Pr):Value.cells p.val= #[.string (tx p.k),.string (tx p.v)]:=rfl
theorem aRf{h:PH}{p:Pr}(hK:mU h)(hl:p.k.length+p.v.length≤10000000){k:cE}(hk:∀h',cZ h h'->k (.string (tx (aFi p))) h'):aT PG aEv #[p.val] h k:=by
 apply aDm.call;unfold aDm;rw[aMT];intro r hr
 try rw[cW]
 have u1:cZ h (h.set r (.cells #[.string (tx p.k),.string (tx p.v)] cM)):=cU.new hr;have a1:(h.set r (.cells #[.string (tx p.k),.string (tx p.v)] cM)) r=some (.cells #[.string (tx p.k),.string (tx p.v)] cM (0,0)):=dL;generalize h.set r (.cells #[.string (tx p.k),.string (tx p.v)] cM)=h1 at *;have c0:dD h1 ⟨r,0,none⟩=some (.string (tx p.k)):=by simp[dD,a1]
 have c1:dD h1 ⟨r,0+1,none⟩=some (.string (tx p.v)):=by simp[dD,a1]
 simp only[cM.f0,cM.f1,bR.load,c0,c1,bR.len,iB,cG,reduceIte];refine aOe λh2 u2=>?_;have a2:=u2.get a1;have c0':dD h2 ⟨r,0,none⟩=some (.string (tx p.k)):=by simp[dD,a2]
 have c1':dD h2 ⟨r,0+1,none⟩=some (.string (tx p.v)):=by simp[dD,a2]
 simp only[bR.load,c0',c1',true_and];refine aOe λh3 u3=>?_;have a3:=u3.get a2;have c0'':dD h3 ⟨r,0,none⟩=some (.string (tx p.k)):=by simp[dD,a3]
 have c1'':dD h3 ⟨r,0+1,none⟩=some (.string (tx p.v)):=by simp[dD,a3]
 simp only[bR.load,c0'',c1'',true_and,aY7,cG,reduceIte];intro b hb;refine fI ?_
 try rw[cW]
 have u4:cZ h3 (h3.set b (.cells #[.string ⟨#[0]⟩,.string (tx [UInt8.ofNat (p.k.length%256)]),.string (tx p.k),.string (tx [UInt8.ofNat (p.v.length%256)]),.string (tx p.v)] bR)):=cU.new hb;have s:fR (h3.set b (.cells #[.string ⟨#[0]⟩,.string (tx [UInt8.ofNat (p.k.length%256)]),.string (tx p.k),.string (tx [UInt8.ofNat (p.v.length%256)]),.string (tx p.v)] bR)) 1 (.slice (some ⟨b,0,none⟩) 5 5) ([[0],[UInt8.ofNat (p.k.length%256)],p.k,[UInt8.ofNat (p.v.length%256)],p.v].map iY):=(dZ.lit (n:=5) (iY.rows [[0],[UInt8.ofNat (p.k.length%256)],p.k,[UInt8.ofNat (p.v.length%256)],p.v]) dL (by simp) (by decide) rfl).slR;have u:=((u1.trans u2).trans u3).trans u4;refine aNw (hK.ext u) s (by simp;omega) λh' u'=>?_;have e:aFi p=oP [[0],[UInt8.ofNat (p.k.length%256)],p.k,[UInt8.ofNat (p.v.length%256)],p.v].flatten:=by simp[aFi]
 rw[e] at hk;exact hk _ (u.trans u')
def aDR(x:Nat):Nat:=if x=0 then 0 else Nat.log2 x+1
theorem aXt:(List.range 256).all (λx=>aN8[x]? == some (UInt8.ofNat (aDR x)))=true:=by kernel_rfl
theorem aXf{x:Nat}(hx:x<256):aN8[x]? =some (UInt8.ofNat (aDR x)):=by
 have:=aDC.1 aXt x (aKH.2 hx);simpa using this
theorem aW4{x:Nat}(hx:x<256):aDR x<256:=by
 unfold aDR;split
 ·decide
 ·have:=Nat.log2_lt (n:=x) (k:=8) (by omega);have:=this.2 (by simpa using hx);omega
theorem aSz{x:Nat}(h1:256≤x):aDR x=aDR (x/256)+8:=by
 have h2:x/256≠0:=by omega
 unfold aDR;rw[if_neg (by omega),if_neg h2];have:Nat.log2 x=Nat.log2 (x/256)+8:=by
  rw[Nat.log2_eq_iff (by omega)];have a:=(Nat.log2_eq_iff (n:=x/256) (k:=Nat.log2 (x/256)) h2).1 rfl;rw[Nat.pow_add,Nat.pow_add,Nat.pow_add];rw[Nat.pow_add] at a;omega
 omega
theorem aV1(x:Int):dA PG (convert dJ bT (.int .u8 x))=some (.int .i64 (IntKind.i64.wrap x)):=by kernel_rfl
theorem aTW{h:PH}{x n:Nat}(hx:x<256)(hn:n≤64){k:cE}(hk:k (.int .i64 ((n+aDR x:Nat):Int)) h):aAf k (.int .u64 (x:Int)) (.int .i64 (n:Int)) h:=by
 unfold aAf;have e0:(⟨aN8⟩:ByteArray)=tx aN8.toList:=by simp[tx]
 have e1:IntKind.u8.wrap (x:Int)=x:=by rw[aHG];omega
 have hl:=aW4 hx;have e2:dA PG (Instr.index bR (.string ⟨aN8⟩) (.int .u8 (x:Int)))=some (.int .u8 ((UInt8.ofNat (aDR x)).toNat:Int)):=by
  rw[e0];exact zF bR.und (by rw[aKb];exact aXf hx)
 have e3:((UInt8.ofNat (aDR x)).toNat:Int)=((aDR x:Nat):Int):=by rw[UInt8.toNat_ofNat'];congr 1;exact aCk hl
 have e4:IntKind.i64.wrap ((aDR x:Nat):Int)=((aDR x:Nat):Int):=eV (by omega) (by omega);have e5:IntKind.i64.wrap ((n:Int)+((aDR x:Nat):Int))=((n+aDR x:Nat):Int):=by rw[eV (by omega) (by omega)];omega
 simp only[aQK,e1,e2,e3,aV1,e4,e5,cG,reduceIte];exact hk
theorem aZj{n:Nat}:dA PG (binOp .shr cA (.int .u64 (n:Int)) (.int .u64 8))=some (.int .u64 ((n/256:Nat):Int)):=by
 rw[aHt (by decide)];congr 2;show(n:Int).fdiv (2^8)=_;rw[Int.fdiv_eq_ediv_of_nonneg _ (by decide)];have:(2:Int)^8=256:=by rfl
 omega
theorem aS2{h:PH}{x:Nat}(hx:x<65536){k:cE}(hk:k (.int .i64 ((aDR x:Nat):Int)) h):aT PG aFy #[.int .u64 (x:Int)] h k:=by
 apply aFf.call;unfold aFf;simp only[cG,reduceIte];apply aEK.call;unfold aEK;have e1:((4294967296:Int)≤(x:Int))=False:=eq_false (by omega);have e2:((65536:Int)≤(x:Int))=False:=eq_false (by omega);simp only[e1,cG,reduceIte];unfold aEY;simp only[e2,cG,reduceIte];unfold aEf;by_cases h8:256≤x
 ·have e3:((256:Int)≤(x:Int))=True:=eq_true (by omega);have e4:IntKind.i64.wrap ((0:Int)+8)=((8:Nat):Int):=rfl;simp only[e3,aZj,e4,cG,reduceIte];refine aTW (by omega) (by decide) ?_;rw[aSz h8,Nat.add_comm] at hk;exact hk
 ·have e3:((256:Int)≤(x:Int))=False:=eq_false (by omega);simp only[e3,cG,reduceIte];refine aTW (n:=0) (by omega) (by decide) ?_;rw[fE];exact hk
def dT(n:Nat):Nat:=2^Nat.log2 (n-1)
theorem lK{n:Nat}(h:2≤n):1≤dT n∧dT n<n:=by
 unfold dT;have:=(Nat.log2_eq_iff (n:=n-1) (k:=Nat.log2 (n-1)) (by omega)).1 rfl;have h2:0<2^Nat.log2 (n-1):=Nat.pow_pos (by decide);omega
theorem aOf{h:PH}{n:Nat}(h2:2≤n)(hn:n≤65536){k:cE}(hk:k (.int .i64 ((dT n:Nat):Int)) h):aT PG aCO #[.int .i64 (n:Int)] h k:=by
 apply aHg.call;unfold aHg;have e1:IntKind.i64.wrap ((n:Int)-1)=((n-1:Nat):Int):=by rw[eV (by omega) (by omega)];omega
 have e2:IntKind.u64.wrap ((n-1:Nat):Int)=((n-1:Nat):Int):=gL (by omega) (by omega);simp only[e1,aJr,e2,cG,reduceIte];refine aS2 (by omega) ?_;have hlt:=lK h2;have hlen:aDR (n-1)=Nat.log2 (n-1)+1:=by unfold aDR;rw[if_neg (by omega)]
 have hlog:Nat.log2 (n-1)<16:=(Nat.log2_lt (by omega)).2 (by omega);have e3:IntKind.i64.wrap (((aDR (n-1):Nat):Int)-1)=((Nat.log2 (n-1):Nat):Int):=by rw[eV (by omega) (by omega)];omega
 have e4:∀t,dA PG (binOp .shl t (.int .i64 1) (.int .i64 ((Nat.log2 (n-1):Nat):Int)))=some (.int .i64 ((dT n:Nat):Int)):=λt=>by
  rw[aQf (by omega)];have em:min (((Nat.log2 (n-1):Nat):Int).toNat) (IntKind.i64.bits)=Nat.log2 (n-1):=by
   show min _ 64=_;omega
  have ep:(1:Int)*2^Nat.log2 (n-1)=((dT n:Nat):Int):=by
   unfold dT;rw[Int.one_mul,Int.natCast_pow];rfl
  rw[em,ep,eV (by omega) (by omega)]
 simp only[e3,e4,cG,reduceIte];exact hk
def lU(l:List Pr):Tx:=if h:2≤l.length then aAh (lU (l.take (dT l.length))) (lU (l.drop (dT l.length))) else aFi (l.headD ⟨[],[]⟩)
termination_by l.length
decreasing_by
 ·have:=lK h;simp;omega
 ·have:=lK h;simp;omega
theorem zJ(l:List Pr):(lU l).length=32:=by
 rw[lU];split<;>rfl
def aAb(l:List Pr):Prop:=∀p∈l,p.k.length+p.v.length≤1000000
theorem fR.pair{h:PH}{v:Value}{l:List Pr}(S:fR h 2 v (l.map Pr.cells)){j:Nat}{p:Pr}(hp:l[j]? =some p):
  ∃b o,dA PG (indexAt cJ v (.int .i64 (j:Int)))=some (pT b o)∧dD h ⟨b,o,none⟩=some (.string (tx p.k))∧dD h ⟨b,o+1,none⟩=some (.string (tx p.v))∧cD PG h (loadAt cM (pT b o))=some p.val:=by
 obtain⟨b,o,h1,h2,h3⟩:=S.fields cJ.und cM.info cM.size (k:=.i64) (j:=j) (r:=p.cells) (by rw[vD,hp];rfl);exact⟨b,o,h1,h2 0 _ rfl,h2 1 _ rfl,h3 _ cM.und rfl⟩
theorem fR.cutP{h:PH}{v:Value}{l:List Pr}(S:fR h 2 v (l.map Pr.cells)){lo hi:Option Value}{a m:Nat}(hlo:lo=none∧a=0∨∃k,lo=some (.int k a))(hhi:hi=none∧m=l.length∨∃k,hi=some (.int k m))(h1:a≤m)(h2:m≤l.length):
  ∃v',dA PG (Instr.sliceAt cJ v lo hi none)=some v'∧fR h 2 v' (((l.take m).drop a).map Pr.cells):=by
 obtain⟨v',e,s,-⟩:=S.cut cJ.und cM.info cM.size hlo (by simpa using hhi) h1 (by simpa using h2);refine⟨v',e,?_⟩;rw[List.map_drop,aKm];exact s
theorem aKQ:∀(n:Nat) {h:PH} {v:Value} {l:List Pr},l.length≤n->l≠[]->l.length≤65536->mU h->fR h 2 v (l.map Pr.cells)->aAb l->∀{k:cE},(∀h',cZ h h'->k (.string (tx (lU l))) h')->aT PG qC #[v] h k
 | 0,_,_,l,h0,hne,_,_,_,_,_,_=>by
  have:l=[]:=zLN (by omega);exact absurd this hne
 | n+1,h,v,l,hn,hne,hl,hK,S,hs,k,hk=>by
  apply aA6.call;unfold aA6;have lv:=S.len (t':=bT) cJ.und;rw[iS] at lv;have hpos:0<l.length:=aHN.2 hne;by_cases h1:l.length=1
  ·have e1:((l.length:Int)==1)=true:=by simp[h1]
   obtain⟨p,hp⟩:=List.length_eq_one_iff.1 h1;obtain⟨b,o,e2,-,-,e3⟩:=S.pair (j:=0) (p:=p) (by rw[hp];rfl);rw[show((0:Nat):Int)=0 from rfl] at e2;simp only[lv,e1,e2,e3,cG,reduceIte];have hd:lU l=aFi p:=by
    rw[lU,dif_neg (by omega),hp];rfl
   rw[hd] at hk;refine aRf hK (by have:=hs p (by rw[hp];simp);omega) λh' u=>hk h' u
  ·have e1:((l.length:Int)==1)=false:=by simp;omega
   have h2:2≤l.length:=by omega
   simp only[lv,e1,cG,reduceIte];refine aOf h2 hl ?_;have hlt:=lK h2;obtain⟨v1,s1,t1⟩:=S.cutP (lo:=none) (hi:=some (.int .i64 ((dT l.length:Nat):Int))) (a:=0) (m:=dT l.length) (.inl ⟨rfl,rfl⟩) (.inr ⟨_,rfl⟩) (by omega) (by omega);obtain⟨v2,s2,t2⟩:=S.cutP (lo:=some (.int .i64 ((dT l.length:Nat):Int))) (hi:=none) (a:=dT l.length) (m:=l.length) (.inr ⟨_,rfl⟩) (.inl ⟨rfl,rfl⟩) (by omega) (by omega);rw[zLb] at t1;rw[zLI] at t2;simp only[s1,s2,cG,reduceIte];have hd:lU l=aAh (lU (l.take (dT l.length))) (lU (l.drop (dT l.length))):=by
    rw[lU,dif_pos h2]
   rw[hd] at hk;refine aKQ n (by simp;omega) (aJl (by first|(rw[uF];omega)|(rw[xV];omega))) (by simp;omega) hK t1 (λp hp=>hs p (aKz hp)) λh1 u1=>?_;refine aKQ n (by simp;omega) (aJl (by first|(rw[uF];omega)|(rw[xV];omega))) (by simp;omega) (hK.ext u1) (t2.ext u1) (λp hp=>hs p (aL3 hp)) λh2 u2=>?_;refine aJ5 (hK.ext (u1.trans u2)) (by rw[zJ,zJ];decide) λh3 u3=>?_;exact hk _ ((u1.trans u2).trans u3)
theorem aKJ{h:PH}{v:Value}{l:List Pr}(hne:l≠[])(hl:l.length≤65536)(hK:mU h)(S:fR h 2 v (l.map Pr.cells))(hs:aAb l){k:cE}(hk:∀h',cZ h h'->k (.string (tx (lU l))) h'):aT PG qC #[v] h k:=
 aKQ l.length (oL _) hne hl hK S hs hk
theorem aSy(x:Int):dA PG (convert cA bT (.int .u64 x))=some (.int .i64 (IntKind.i64.wrap x)):=by kernel_rfl
theorem aYm{t:TypeId}{m:Nat}(hm:m<18446744073709551616):dA PG (binOp .and t (.int .u64 (m:Int)) (.int .u64 255))=some (.int .u64 ((m%256:Nat):Int)):=by
 have e:dA PG (binOp .and t (.int .u64 (m:Int)) (.int .u64 255))=some (.int .u64 (IntKind.u64.wrap ((BitVec.ofInt 64 (m:Int) &&& BitVec.ofInt 64 255).toNat:Int))):=rfl;have e2:(BitVec.ofInt 64 (m:Int) &&& BitVec.ofInt 64 255).toNat=m%256:=by
  have h1:BitVec.ofInt 64 (m:Int)=BitVec.ofNat 64 m:=BitVec.ofInt_natCast ..;have h2:BitVec.ofInt 64 255=BitVec.ofNat 64 255:=by decide
  rw[h1,h2,BitVec.toNat_and,BitVec.toNat_ofNat,BitVec.toNat_ofNat,aCk (show m<2^64 from hm)];exact Nat.and_two_pow_sub_one_eq_mod m 8
 rw[e,e2,gL (by omega) (by omega)]
def aI2(n:Nat)(d:Tx):Tx:=oP (2::(be n 8++d))
theorem aQv{h:PH}{n:Nat}{d:Tx}(hK:mU h)(hn:n≤1000000)(hd:d.length≤1000000){k:cE}(hk:∀h',cZ h h'->k (.string (tx (aI2 n d))) h'):aT PG aDb #[.int .i64 (n:Int),.string (tx d)] h k:=by
 apply aIW.call;unfold aIW;have e1:(if (0:Int)<(n:Int) then(n:Int) else 0)=(n:Int):=by split<;>omega
 have e2:IntKind.u64.wrap (n:Int)=n:=gL (by omega) (by omega);simp only[aN4,e1,aBZ,e2,cG,reduceIte];refine⟨λvs h'=>∃i,i≤8∧vs=[.string (tx d),.int .u64 (n:Int),.string (tx ((be n 8).take i)),.int .i64 (i:Int)]∧cZ h h',gU 8 3,⟨0,by omega,rfl,cU.refl⟩,?_⟩;rintro ρ h' ⟨i,hi,hvs,u⟩;simp only[iH,iT,kV,and_true] at hvs;obtain⟨v1,v5,v6,v11⟩:=hvs;simp only[v1,v5,v6,v11,iH,iT];unfold aK3;by_cases hl:i<8
 ·have f1:((i:Int)<8)=True:=eq_true (by omega);have f2:IntKind.i64.wrap (8*(i:Int))=8*(i:Int):=eV (by omega) (by omega);have f3:IntKind.i64.wrap (56-8*(i:Int))=56-8*(i:Int):=eV (by omega) (by omega);have hle:n/256^(8-1-i)≤n:=Nat.div_le_self _ _;have f4:IntKind.i64.wrap ((n/256^(8-1-i)%256:Nat):Int)=((n/256^(8-1-i)%256:Nat):Int):=eV (by omega) (by omega);have f5:=pR (i:=i) (by omega);simp only[f1,f2,f3,aV9 hl,aYm (show n/256^(8-1-i)<18446744073709551616 by omega),aSy,f4,cG,reduceIte];refine aOe λh2 u2=>?_;rw[Nat.mod_mod];have f6:∀t,dA PG (binOp .add t (.string (tx ((be n 8).take i))) (.string (tx [UInt8.ofNat (n/256^(8-1-i)%256)])))=some (.string (tx ((be n 8).take (i+1)))):=λt=>by
   rw[lJ (by rw[uF,iC];simp;omega),aIq hl]
  simp only[f6,f5,cG,reduceIte];refine⟨⟨i+1,by omega,rfl,u.trans u2⟩,?_⟩;simp only[gU,sA,pK];omega
 ·have f1:((i:Int)<8)=False:=eq_false (by omega);have hi':i=8:=by omega
  subst hi';rw[mW (Nat.le_of_eq (iC _ _))];simp only[f1,aWa,cG,reduceIte];intro b hb;refine fI ?_
  try rw[cW]
  have u1:cZ h' (h'.set b (.cells #[.string ⟨#[2]⟩,.string (tx (be n 8)),.string (tx d)] bR)):=cU.new hb;have s:fR (h'.set b (.cells #[.string ⟨#[2]⟩,.string (tx (be n 8)),.string (tx d)] bR)) 1 (.slice (some ⟨b,0,none⟩) 3 3) ([[2],be n 8,d].map iY):=(dZ.lit (n:=3) (iY.rows [[2],be n 8,d]) dL (by simp) (by decide) rfl).slR;refine aNw (hK.ext (u.trans u1)) s (by simp[iC];omega) λh3 u3=>?_;have e:aI2 n d=oP [[2],be n 8,d].flatten:=by simp[aI2]
  rw[e] at hk;exact hk _ ((u.trans u1).trans u3)
def lB(l:List Pr):Tx:=aI2 l.length (if l=[] then [] else lU l)
theorem aNA{h:PH}{v:Value}{l:List Pr}(hl:l.length≤65536)(hK:mU h)(S:fR h 2 v (l.map Pr.cells))(hs:aAb l){k:cE}(hk:∀h',cZ h h'->k (.string (tx (lB l))) h'):aT PG aCW #[v] h k:=by
 apply aHc.call;unfold aHc;have lv:=S.len (t':=bT) cJ.und;rw[iS] at lv;by_cases h0:l=[]
 ·subst h0;simp only[lv,zLM,show(((0:Nat):Int)==0)=true from rfl,cG,reduceIte];refine aQv (n:=0) (d:=[]) hK (by decide) (by decide) λh' u=>?_;exact hk _ u
 ·have e0:((l.length:Int)==0)=false:=by simpa using h0
  simp only[lv,e0,cG,reduceIte];refine aKJ h0 hl hK S hs λh1 u1=>?_;refine aQv (hK.ext u1) (by omega) (by rw[zJ];decide) λh2 u2=>?_;have:=hk h2 (u1.trans u2);unfold lB at this;rw[if_neg h0] at this;exact this
def aN3(p:Pr):Prop:=1≤p.k.length∧p.k.length≤16∧p.v.length≤64
end
section
open Go
def nV(l:List Pr)(k:Nat):List Tx:=
 if h:2≤l.length then
  if k<dT l.length then nV (l.take (dT l.length)) k++[lU (l.drop (dT l.length))]
  else nV (l.drop (dT l.length)) (k-dT l.length)++[lU (l.take (dT l.length))]
 else []
termination_by l.length
decreasing_by
 ·have:=lK h;simp;omega
 ·have:=lK h;simp;omega
def upP(p:Pr)(i n:Nat)(path:List Tx):Option (Tx×List Tx):=
 if h:2≤n then
  match path.getLast? with
  | none=>none
  | some b=>if b.length≠32 then none else
   if i<dT n then(upP p i (dT n) path.dropLast).map λx=>(aAh x.1 b,x.2)
   else(upP p (i-dT n) (n-dT n) path.dropLast).map λx=>(aAh b x.1,x.2)
 else some (aFi p,path)
termination_by n
decreasing_by
 ·have:=lK h;omega
 ·have:=lK h;omega
structure Lf where
 i:Int
 n:Int
 p:Pr
 path:List Tx
 deriving DecidableEq
def aXs(n:Nat):Option (Tx×List Tx)->Option Tx
 | some (d,[])=>some (aI2 n d)
 | _=>none
def oR(f:Lf):Option Tx:=
 if f.n<1∨4096<f.n∨f.i<0∨f.n≤f.i then none else aXs f.n.toNat (upP f.p f.i.toNat f.n.toNat f.path)
theorem aTn:∀(n:Nat) (l:List Pr) (k:Nat),l.length=n->∀d∈nV l k,d.length=32:=by
 intro n;induction n using Nat.strongRecOn with
 | ind n ih=>
  intro l k hn d hd;by_cases h2:2≤l.length
  ·obtain⟨m1,m2⟩:=lK h2;rw[nV,dif_pos h2] at hd;split at hd
   ·rcases jG.1 hd with hd|hd
    ·exact ih (dT l.length) (by omega) _ k (by rw[uF];omega) d hd
    ·simp only[fV] at hd;rw[hd];exact zJ _
   ·rcases jG.1 hd with hd|hd
    ·exact ih (l.length-dT l.length) (by omega) _ _ (by rw[xV]) d hd
    ·simp only[fV] at hd;rw[hd];exact zJ _
  ·rw[nV,dif_neg h2] at hd;simp at hd
theorem aEk{n:Nat}(h:2≤n){d:Nat}(hd:n≤2^(d+1)):dT n≤2^d∧n-dT n≤2^d:=by
 unfold dT;have hne:n-1≠0:=by omega
 have h1:2^Nat.log2 (n-1)≤n-1:=Nat.log2_self_le hne;have h2:n-1<2^(Nat.log2 (n-1)+1):=Nat.lt_log2_self;have h3:Nat.log2 (n-1)<d+1:=(Nat.log2_lt hne).2 (by omega);have h4:2^Nat.log2 (n-1)≤2^d:=aKy (by decide) (by omega);rw[zLQ] at h2;exact⟨h4,by omega⟩
theorem aEi:∀(d:Nat) (l:List Pr) (k:Nat),l.length≤2^d->(nV l k).length≤d
 | 0,l,k,h=>by rw[nV,dif_neg (by simp at h;omega)];simp
 | d+1,l,k,h=>by
  by_cases h2:2≤l.length
  ·obtain⟨a,b⟩:=aEk h2 h;rw[nV,dif_pos h2];split
   ·rw[jP];have:=aEi d (l.take (dT l.length)) k (by rw[uF];omega);simp;omega
   ·rw[jP];have:=aEi d (l.drop (dT l.length)) (k-dT l.length) (by rw[xV];omega);simp;omega
  ·rw[nV,dif_neg h2];simp
theorem aMO(a:ByteArray):jK PG (buildSlice cP 1 #[(0,.string a)])=some (.cells #[.string a] bR,λr=>pure (.slice (some ⟨r,0,none⟩) 1 1)):=by kernel_rfl
theorem iY.isC(s:Tx):∀u∈iY s,fP u=true:=λu hu=>by
 simp only[iY,gP,kL,or_false] at hu;subst hu;rfl
def fnP(a b:Nat):Value:=.func (.func aC7) #[] #[pT a 0,pT b 0]
structure aKv(h0 h:PH)(a b:Nat)(acc:List Tx)(F:List Nat):Prop where
 fn:Bx h a [fnP a b]
 out:∃v,Bx h b [v]∧dZ h bR 1 v (acc.map iY) F
 ne:a≠b
 na:a∉F
 nb:b∉F
 ext:cZ h0 h
 fr:eD h0 (a::b::F)
theorem aKv.upd{h0 h h':PH}{a b:Nat}{acc:List Tx}{F:List Nat}(H:aKv h0 h a b acc F)(u:cZ h h'):aKv h0 h' a b acc F:=by
 obtain⟨v,B,O⟩:=H.out;exact⟨H.fn.ext u,⟨v,B.ext u,O.ext u⟩,H.ne,H.na,H.nb,H.ext.trans u,H.fr⟩
theorem aKv.push{h0 h:PH}{a b:Nat}{acc:List Tx}{F:List Nat}(H:aKv h0 h a b acc F)(d:Tx){t3:Value}(ht:cD PG h (loadAt cP (pT b 0))=some t3)(hl:acc.length≤1000){R:cE}(hR:∀h' F',aKv h0 h' a b (acc++[d]) F'->R (.tuple #[]) h'):
  (dY (jK PG (buildSlice cP 1 #[(0,.string (tx d))])) λx16=>∀r15,h r15=none->dY (dA PG (x16.2 r15)) λv17=>eJ (PH.set h r15 x16.1) λh18=>
   cY PG (Builtin.append_ #[cP,cP] cP #[t3,v17]) h18 λv19 h20=>cY PG (dN cP (pT b 0) v19) h20 λ_ h22=>R (.tuple #[]) h22):=by
 obtain⟨v,B,O⟩:=H.out;rw[cP.load,B.cell] at ht;obtain rfl:v=t3:=by simpa using ht
 simp only[aMO,cG,reduceIte];intro r hr;refine fI ?_
 try rw[cW]
 have u1:cZ h (h.set r (.cells #[.string (tx d)] bR)):=cU.new hr;have s1:fR (h.set r (.cells #[.string (tx d)] bR)) 1 (.slice (some ⟨r,0,none⟩) 1 1) ([d].map iY):=(dZ.lit (iY.rows [d]) dL (by simp) (by decide) (by simp[iY])).slR;generalize h.set r (.cells #[.string (tx d)] bR)=h1 at *;have H1:=H.upd u1;refine jF cP.und cP.und bR.info bR.size bR.bytes bR.zero rfl (by decide) (O.ext u1) s1 (λr hr u hu=>by
  obtain⟨s,-,rfl⟩:=lO.1 hr;exact iY.isC s u hu) (by simp;omega) ?_
 intro v2 h2 F2 O2 u2 g2 _;rw[←qI] at O2;have nb2:b∉F2:=λhb=>by
  rcases g2 b hb with h|h
  ·exact H.nb h
  ·exact(B.ext u1).known h
 have na2:a∉F2:=λhb=>by
  rcases g2 a hb with h|h
  ·exact H.na h
  ·exact(H.fn.ext u1).known h
 refine cP.put ((B.ext u1).upd u2 H.nb) (o:=0) (by show 0<1;decide) O2.slR.isc λh3 B3 u3=>?_;refine hR h3 F2 ⟨((H.fn.ext u1).upd u2 H.na).upd u3 (by simpa using H.ne),⟨v2,B3,O2.upd u3 (λx hx=>by simp only[fV];rintro rfl;exact nb2 hx)⟩,H.ne,na2,nb2,?_,?_⟩
 ·have f1:eD h0 F:=λx hx=>H.fr x (by simp[hx]);have f2:eD h0 [b]:=λx hx=>H.fr x (by simp at hx;simp[hx]);exact(H1.ext.fresh u2 f1).fresh u3 f2
 ·intro x hx;rcases gP.1 hx with rfl|hx
  ·exact H.fr x (by simp)
  ·rcases gP.1 hx with rfl|hx
   ·exact H.fr x (by simp)
   ·rcases g2 x hx with h|h
    ·exact H.fr x (by simp[h])
    ·exact H1.ext.none h
theorem aId{f:FuncId}{cap args:Array Value}{h:PH}{k:cE}:zA PG (.func (.func f) #[] cap) args h k=aT PG f (#[]++args++cap) h k:=rfl
theorem aOH:∀(d:Nat) {h0 h:PH} {a b:Nat} {acc:List Tx} {F:List Nat} {v:Value} {l:List Pr} {k:Nat},l.length≤2^d->d≤16->k<l.length->l.length≤4096->acc.length+d≤1000->mU h0->fR h0 2 v (l.map Pr.cells)->aAb l->aKv h0 h a b acc F->
  ∀{kk:cE},(∀h' F',aKv h0 h' a b (acc++nV l k) F'->kk (.tuple #[]) h')->aT PG aC7 #[v,.int .i64 (k:Int),pT a 0,pT b 0] h kk
 | d,h0,h,a,b,acc,F,v,l,k,hd,hd16,hk,hl,hacc,hK,S,hs,H,kk,hkk=>by
  apply aA8.call;unfold aA8;have lv:=S.len (t':=bT) cJ.und;rw[iS] at lv;by_cases h1:l.length=1
  ·have e1:((l.length:Int)==1)=true:=by simp[h1]
   simp only[lv,hQ,e1,cG,reduceIte,cT,Nat.reduceAdd];have ep:nV l k=[]:=by rw[nV,dif_neg (by omega)]
   rw[ep,zLP] at hkk;exact hkk h F H
  ·have e1:((l.length:Int)==1)=false:=by simp;omega
   have h2:2≤l.length:=by omega
   obtain⟨d,rfl⟩:∃d',d=d'+1:=by
    cases d with
    | zero=>simp at hd;omega
    | succ d'=>exact⟨d',rfl⟩
   obtain⟨q1,q2⟩:=aEk h2 hd;have hlt:=lK h2;have ld:∀{h':PH},Bx h' a [fnP a b]->cD PG h' (loadAt fK (pT a 0))=some (fnP a b):=λB=>by rw[fK.load,B.cell];rfl
   obtain⟨v1,s1,t1⟩:=S.cutP (lo:=none) (hi:=some (.int .i64 ((dT l.length:Nat):Int))) (a:=0) (m:=dT l.length) (.inl ⟨rfl,rfl⟩) (.inr ⟨_,rfl⟩) (by omega) (by omega);obtain⟨v2,s2,t2⟩:=S.cutP (lo:=some (.int .i64 ((dT l.length:Nat):Int))) (hi:=none) (a:=dT l.length) (m:=l.length) (.inr ⟨_,rfl⟩) (.inl ⟨rfl,rfl⟩) (by omega) (by omega);rw[zLb] at t1;rw[zLI] at t2;simp only[lv,hQ,e1,cG,reduceIte,cT,Nat.reduceAdd];refine aOf h2 (by omega) ?_;have ht1:aAb (l.take (dT l.length)):=λp hp=>hs p (aKz hp);have ht2:aAb (l.drop (dT l.length)):=λp hp=>hs p (aL3 hp);by_cases hkm:k<dT l.length
   ·have g:((k:Int)<((dT l.length:Nat):Int))=True:=eq_true (by omega);have ep:nV l k=nV (l.take (dT l.length)) k++[lU (l.drop (dT l.length))]:=by rw[nV,dif_pos h2,if_pos hkm]
    simp only[g,ld H.fn,s1,cG,reduceIte,cT,Nat.reduceAdd];unfold fnP;rw[aId];refine aOH d (l:=l.take (dT l.length)) (by rw[uF];omega) (by omega) (by rw[uF];omega) (by rw[uF];omega) (by omega) hK t1 ht1 H λh3 F3 H3=>?_;obtain⟨w,B3,O3⟩:=H3.out;have lw:∀{h':PH},cZ h3 h'->cD PG h' (loadAt cP (pT b 0))=some w:=λu=>by rw[cP.load,(B3.ext u).cell];rfl
    simp only[lw cU.refl,s2,cG,reduceIte,cT,Nat.reduceAdd];refine aKJ (aJl (by rw[xV];omega)) (by rw[xV];omega) (hK.ext H3.ext) (t2.ext H3.ext) ht2 λh4 u4=>?_;refine⟨lw u4,?_⟩;refine(H3.upd u4).push _ (lw u4) (by
     have:=aEi d (l.take (dT l.length)) k (by rw[uF];omega);rw[jP];omega) (R:=kk) λh5 F5 H5=>?_
    rw[mT,←ep] at H5;exact hkk h5 F5 H5
   ·have g:((k:Int)<((dT l.length:Nat):Int))=False:=eq_false (by omega);have ep:nV l k=nV (l.drop (dT l.length)) (k-dT l.length)++[lU (l.take (dT l.length))]:=by rw[nV,dif_pos h2,if_neg hkm]
    have es:IntKind.i64.wrap ((k:Int)-((dT l.length:Nat):Int))=((k-dT l.length:Nat):Int):=by rw[eV (by omega) (by omega)];omega
    simp only[g,ld H.fn,s2,es,cG,reduceIte,cT,Nat.reduceAdd];unfold fnP;rw[aId];refine aOH d (l:=l.drop (dT l.length)) (by rw[xV];omega) (by omega) (by rw[xV];omega) (by rw[xV];omega) (by omega) hK t2 ht2 H λh3 F3 H3=>?_;obtain⟨w,B3,O3⟩:=H3.out;have lw:∀{h':PH},cZ h3 h'->cD PG h' (loadAt cP (pT b 0))=some w:=λu=>by rw[cP.load,(B3.ext u).cell];rfl
    simp only[lw cU.refl,s1,cG,reduceIte,cT,Nat.reduceAdd];refine aKJ (aJl (by rw[uF];omega)) (by rw[uF];omega) (hK.ext H3.ext) (t1.ext H3.ext) ht1 λh4 u4=>?_;refine⟨lw u4,?_⟩;refine(H3.upd u4).push _ (lw u4) (by
     have:=aEi d (l.drop (dT l.length)) (k-dT l.length) (by rw[xV];omega);rw[jP];omega) (R:=kk) λh5 F5 H5=>?_
    rw[mT,←ep] at H5;exact hkk h5 F5 H5
termination_by d=>d
theorem aXQ{h:PH}{v:Value}{l:List Pr}{k:Nat}(hk:k<l.length)(hl:l.length≤4096)(hK:mU h)(S:fR h 2 v (l.map Pr.cells))(hs:aAb l){kk:cE}(hkk:∀v' h' F,dZ h' bR 1 v' ((nV l k).map iY) F->eD h F->cZ h h'->kk v' h'):
  aT PG aHQ #[v,.int .i64 (k:Int)] h kk:=by
 apply aHd.call;unfold aHd;have lv:=S.len (t':=bT) cJ.und;rw[iS] at lv;have g1:((k:Int)<0)=False:=eq_false (by omega);have g2:((l.length:Int)≤(k:Int))=False:=eq_false (by omega);simp only[lv,g1,g2,cG,reduceIte,cT,Nat.reduceAdd];intro r17 hr17
 try rw[cW]
 have u1:cZ h (h.set r17 (.cells (dP PG cP) cP)):=cU.new hr17;have B1:=cP.zbox (h:=h) (r:=r17);generalize h.set r17 (.cells (dP PG cP) cP)=h1 at *;intro r19 hr19
 try rw[cW]
 try simp only[mV,cG,reduceIte,cT,Nat.reduceAdd]
 refine fK.fill hr19 rfl λh2 B2 u2=>?_;have ld:cD PG h2 (loadAt fK (pT r19 0))=some (fnP r19 r17):=by rw[fK.load,B2.cell];rfl
 have ne:r19≠r17:=λe=>(B1.apart hr19) e.symm;have H:aKv h h2 r19 r17 [] []:=⟨B2,⟨_,B1.ext u2,dZ.nil⟩,ne,by simp,by simp,u1.trans u2,λx hx=>by
  rcases gP.1 hx with rfl|hx
  ·exact u1.none hr19
  ·simp at hx;subst hx;exact hr17⟩
 simp only[ld,cG,reduceIte,cT,Nat.reduceAdd];unfold fnP;rw[aId];refine aOH 12 (by omega) (by decide) hk hl (by simp) hK S hs H λh3 F3 H3=>?_;obtain⟨w,B3,O3⟩:=H3.out;have lw:cD PG h3 (loadAt cP (pT r17 0))=some w:=by rw[cP.load,B3.cell];rfl
 simp only[lw,cG,reduceIte,cT,Nat.reduceAdd];rw[yF] at O3;exact hkk w h3 F3 O3 (λx hx=>H3.fr x (by simp[hx])) H3.ext
def Lf.cells(f:Lf)(v:Value):List Value:=[.int .i64 f.i,.int .i64 f.n,.string (tx f.p.k),.string (tx f.p.v),v]
def Lf.val(f:Lf)(v:Value):Value:=.agg (f.cells v).toArray
def fnU(c p o g:Nat):Value:=.func (.func aCK) #[] #[pT c 0,pT p 0,pT o 0,pT g 0]
structure aGa(h0 h:PH)(c p o g:Nat)(f:Lf)(fv:Value)(path:List Tx)(ok:Bool):Prop where
 leaf:Bx h c (f.cells fv)
 pth:∃v,Bx h p [v]∧fR h0 1 v (path.map iY)
 okb:Bx h o [.bool ok]
 fn:Bx h g [fnU c p o g]
 cp:c≠p
 co:c≠o
 po:p≠o
 gp:g≠p
 go:g≠o
 ext:cZ h0 h
 fp:h0 p=none
 fo:h0 o=none
theorem aGa.upd{h0 h h':PH}{c p o g:Nat}{f:Lf}{fv:Value}{path:List Tx}{ok:Bool}(H:aGa h0 h c p o g f fv path ok)(u:cZ h h'):aGa h0 h' c p o g f fv path ok:=by
 obtain⟨v,B,S⟩:=H.pth;exact⟨H.leaf.ext u,⟨v,B.ext u,S⟩,H.okb.ext u,H.fn.ext u,H.cp,H.co,H.po,H.gp,H.go,H.ext.trans u,H.fp,H.fo⟩
theorem aGa.fail{h0 h:PH}{c p o g:Nat}{f:Lf}{fv:Value}{path:List Tx}{ok:Bool}(H:aGa h0 h c p o g f fv path ok){R:cE}(hR:∀h',aGa h0 h' c p o g f fv path false->R undef h'):
  cY PG (dN fU (pT o 0) (.bool false)) h R:=by
 obtain⟨v,B,S⟩:=H.pth;refine fU.put H.okb (o:=0) (by show 0<1;decide) rfl λh1 B1 u1=>?_;exact hR h1 ⟨H.leaf.upd u1 (by simpa using H.co),⟨v,B.upd u1 (by simpa using H.po),S⟩,B1,H.fn.upd u1 (by simpa using H.go),H.cp,H.co,H.po,H.gp,H.go,H.ext.fresh u1 (eD.one H.fo),H.fp,H.fo⟩
theorem aGa.step{h0 h:PH}{c p o g:Nat}{f:Lf}{fv:Value}{path path':List Tx}{ok:Bool}(H:aGa h0 h c p o g f fv path ok){v':Value}(S':fR h0 1 v' (path'.map iY)){R:cE}(hR:∀h',aGa h0 h' c p o g f fv path' ok->R undef h'):
  cY PG (dN cP (pT p 0) v') h R:=by
 obtain⟨v,B,S⟩:=H.pth;refine cP.put B (o:=0) (by show 0<1;decide) S'.isc λh1 B1 u1=>?_;exact hR h1 ⟨H.leaf.upd u1 (by simpa using H.cp),⟨v',B1,S'⟩,H.okb.upd u1 (by simpa using H.po.symm),H.fn.upd u1 (by simpa using H.gp),H.cp,H.co,H.po,H.gp,H.go,H.ext.fresh u1 (eD.one H.fp),H.fp,H.fo⟩
theorem aTT(p:Pr):(aFi p).length=32:=rfl
theorem aJI(a b:Tx):(aAh a b).length=32:=rfl
theorem aSv:∀(d:Nat) {h0 h:PH} {c p o g:Nat} {f:Lf} {fv:Value} {path:List Tx} {ok:Bool} {n i:Nat},n≤2^d->1≤n->n≤4096->i<n->path.length≤1000000->f.p.k.length+f.p.v.length≤10000000->mU h0->aGa h0 h c p o g f fv path ok->
  ∀{kk:cE},(∀dg rest h',upP f.p i n path=some (dg,rest)->dg.length=32->rest.length≤path.length->aGa h0 h' c p o g f fv rest ok->kk (.string (tx dg)) h')->(∀s rest h',upP f.p i n path=none->s.length≤100->aGa h0 h' c p o g f fv rest false->kk (.string (tx s)) h')->
  aT PG aCK #[.int .i64 (i:Int),.int .i64 (n:Int),pT c 0,pT p 0,pT o 0,pT g 0] h kk
 | d,h0,h,c,p,o,g,f,fv,path,ok,n,i,hd,h1n,hn,hi,hpl,hsm,hK,H,kk,hgood,hbad=>by
  apply aEy.call;unfold aEy;by_cases h1:n=1
  ·subst h1;have e1:(((1:Nat):Int)==1)=true:=rfl;have lp:cD PG h (loadAt cM (pT c 2))=some f.p.val:=cM.agg H.leaf (by show 2+2≤5;decide);simp only[hQ,e1,cB.f2,fE,lp,cG,reduceIte,cT,Nat.reduceAdd];refine aRf (hK.ext H.ext) hsm λh2 u2=>?_;exact hgood _ path h2 (by rw[upP,dif_neg (by decide)]) (aTT _) (oL _) (H.upd u2)
  ·have h2:2≤n:=by omega
   have e1:((n:Int)==1)=false:=by simp;omega
   obtain⟨d,rfl⟩:∃d',d=d'+1:=by
    cases d with
    | zero=>simp at hd;omega
    | succ d'=>exact⟨d',rfl⟩
   obtain⟨q1,q2⟩:=aEk h2 hd;have hlt:=lK h2;obtain⟨v,B,S⟩:=H.pth;have lv:=(S.ext H.ext).len (t':=bT) cP.und;rw[iS] at lv;have lp:cD PG h (loadAt cP (pT p 0))=some v:=by rw[cP.load,B.cell];rfl
   simp only[hQ,e1,cG,reduceIte,cT,Nat.reduceAdd];refine aOf h2 (by omega) ?_;have q0:({data:=#[]}:ByteArray)=tx []:=rfl;rcases List.eq_nil_or_concat path with hnil|⟨ini,b,hpath⟩
   ·subst hnil;have e2:(((List.length ([]:List Tx):Nat):Int)==0)=true:=rfl;simp only[lp,lv,hQ,e2,cG,reduceIte,cT,Nat.reduceAdd];refine H.fail λh3 H3=>?_;rw[q0];exact hbad [] [] h3 (by rw[upP,dif_pos h2];rfl) (by simp) H3
   ·rw[List.concat_eq_append] at hpath;subst hpath;have hlen:(ini++[b]).length=ini.length+1:=by simp
    rw[hlen] at lv hpl;have e2:(((ini.length+1:Nat):Int)==0)=false:=by rw[beq_eq_false_iff_ne];omega
    have es:IntKind.i64.wrap (((ini.length+1:Nat):Int)-1)=((ini.length:Nat):Int):=by rw[eV (by omega) (by omega)];omega
    obtain⟨pa,p1,q1'⟩:=(S.ext H.ext).loadCell cP.und bR.info bR.size bR.und rfl (k:=.i64) (j:=(ini.length:Int)) (x:=.string (tx b)) (by omega) (by rw[pQ,vD,List.getElem?_append_right (oL _)];simp[iY]);have lb:dA PG (Builtin.len_ #[bR] bT #[.string (tx b)])=some (.int .i64 (b.length:Int)):=by rw[lP bR.und,iB]
    by_cases hb:b.length=32
    case neg=>
     have e3:((b.length:Int) !=32)=true:=by simp;omega
     simp only[lp,lv,hQ,kE,e2,es,p1,q1',lb,e3,cG,reduceIte,cT,Nat.reduceAdd];refine H.fail λh3 H3=>?_;rw[q0];exact hbad [] _ h3 (by rw[upP,dif_pos h2,List.getLast?_concat];simp[hb]) (by simp) H3
    have e3:((b.length:Int) !=32)=false:=by simp;omega
    obtain⟨v',c1,c2,-⟩:=S.cut cP.und bR.info bR.size (lo:=none) (hi:=some (.int .i64 (ini.length:Int))) (l:=0) (m:=ini.length) (.inl ⟨rfl,rfl⟩) (.inr ⟨_,rfl⟩) (by omega) (by simp);have ec:(((ini++[b]).map iY).take ini.length).drop 0=ini.map iY:=by
     rw[zLb,qI,zLG (by simp),mW (by simp)]
    rw[ec] at c2;simp only[lp,lv,hQ,kE,e2,es,p1,q1',lb,e3,c1,cG,reduceIte,cT,Nat.reduceAdd];refine H.step c2 λh3 H3=>?_;have ld:cD PG h3 (loadAt fQ (pT g 0))=some (fnU c p o g):=by rw[fQ.load,H3.fn.cell];rfl
    have eu:upP f.p i n (ini++[b])=if i<dT n then(upP f.p i (dT n) ini).map λx=>(aAh x.1 b,x.2) else(upP f.p (i-dT n) (n-dT n) ini).map λx=>(aAh b x.1,x.2):=by
     rw[upP,dif_pos h2,List.getLast?_concat,List.dropLast_concat];simp[hb]
    by_cases hil:i<dT n
    ·have g1:((i:Int)<((dT n:Nat):Int))=True:=eq_true (by omega);rw[if_pos hil] at eu;simp only[g1,ld,cG,reduceIte,cT,Nat.reduceAdd];unfold fnU;rw[aId];refine aSv d (n:=dT n) (i:=i) q1 hlt.1 (by omega) hil (by omega) hsm hK H3 (λdg rest h4 e4 l4 r4 H4=>?_) (λs rest h4 e4 l4 H4=>?_)
     ·refine aJ5 (hK.ext H4.ext) (by omega) λh5 u5=>?_;exact hgood _ rest h5 (by rw[eu,e4];rfl) (aJI _ _) (by rw[hlen];omega) (H4.upd u5)
     ·refine aJ5 (hK.ext H4.ext) (by omega) λh5 u5=>?_;exact hbad _ rest h5 (by rw[eu,e4];rfl) (by rw[aJI];decide) (H4.upd u5)
    ·have g1:((i:Int)<((dT n:Nat):Int))=False:=eq_false (by omega);rw[if_neg hil] at eu;have w1:IntKind.i64.wrap ((i:Int)-((dT n:Nat):Int))=((i-dT n:Nat):Int):=by rw[eV (by omega) (by omega)];omega
     have w2:IntKind.i64.wrap ((n:Int)-((dT n:Nat):Int))=((n-dT n:Nat):Int):=by rw[eV (by omega) (by omega)];omega
     simp only[g1,ld,w1,w2,cG,reduceIte,cT,Nat.reduceAdd];unfold fnU;rw[aId];refine aSv d (n:=n-dT n) (i:=i-dT n) q2 (by omega) (by omega) (by omega) (by omega) hsm hK H3 (λdg rest h4 e4 l4 r4 H4=>?_) (λs rest h4 e4 l4 H4=>?_)
     ·refine aJ5 (hK.ext H4.ext) (by omega) λh5 u5=>?_;exact hgood _ rest h5 (by rw[eu,e4];rfl) (aJI _ _) (by rw[hlen];omega) (H4.upd u5)
     ·refine aJ5 (hK.ext H4.ext) (by omega) λh5 u5=>?_;exact hbad _ rest h5 (by rw[eu,e4];rfl) (by rw[aJI];decide) (H4.upd u5)
termination_by d=>d
theorem aVu{h:PH}{f:Lf}{fv:Value}(S:fR h 1 fv (f.path.map iY))(hpl:f.path.length≤1000000)(hsm:f.p.k.length+f.p.v.length≤10000000)(hK:mU h){kk:cE}
  (hgood:∀t h',oR f=some t->t.length=32->cZ h h'->kk (.tuple #[.string (tx t),.bool true]) h') (hbad:oR f=none->∀h',cZ h h'->kk (.tuple #[.string (tx []),.bool false]) h'):
  aT PG aGf #[f.val fv] h kk:=by
 apply aGY.call;unfold aGY;intro r1 hr1
 try rw[cW]
 have u1:cZ h (h.set r1 (.cells (Value.cells (f.val fv)) cB)):=cU.new hr1;have B1:Bx (h.set r1 (.cells (Value.cells (f.val fv)) cB)) r1 (f.cells fv):=Bx.new;generalize h.set r1 (.cells (Value.cells (f.val fv)) cB)=h1 at *;have li:∀{h':PH},Bx h' r1 (f.cells fv)->cD PG h' (loadAt bT (pT r1 0))=some (.int .i64 f.i):=λB=>by rw[bT.load,B.cell];rfl
 have ln:∀{h':PH},Bx h' r1 (f.cells fv)->cD PG h' (loadAt bT (pT r1 1))=some (.int .i64 f.n):=λB=>by rw[bT.load,B.cell];rfl
 have lp:cD PG h1 (loadAt cP (pT r1 4))=some fv:=by rw[cP.load,B1.cell];rfl
 have q0:({data:=#[]}:ByteArray)=tx []:=rfl;by_cases a1:f.n<1
 ·have g1:=eq_true a1;simp only[cB.f1,fE,ln B1,g1,q0,cG,reduceIte,cT,Nat.reduceAdd];exact hbad (by unfold oR;rw[if_pos (.inl a1)]) _ u1
 have g1:=eq_false a1;by_cases a2:4096<f.n
 ·have g2:=eq_true a2;simp only[cB.f1,fE,ln B1,g1,g2,q0,cG,reduceIte,cT,Nat.reduceAdd];exact hbad (by unfold oR;rw[if_pos (.inr (.inl a2))]) _ u1
 have g2:=eq_false a2;by_cases a3:f.i<0
 ·have g3:=eq_true a3;simp only[cB.f1,cB.f0,fE,ln B1,li B1,g1,g2,g3,q0,cG,reduceIte,cT,Nat.reduceAdd];exact hbad (by unfold oR;rw[if_pos (.inr (.inr (.inl a3)))]) _ u1
 have g3:=eq_false a3;by_cases a4:f.n≤f.i
 ·have g4:=eq_true a4;simp only[cB.f1,cB.f0,fE,ln B1,li B1,g1,g2,g3,g4,q0,cG,reduceIte,cT,Nat.reduceAdd];exact hbad (by unfold oR;rw[if_pos (.inr (.inr (.inr a4)))]) _ u1
 have g4:=eq_false a4;have hc:oR f=aXs f.n.toNat (upP f.p f.i.toNat f.n.toNat f.path):=by
  unfold oR;rw[if_neg (by omega)]
 simp only[cB.f1,cB.f0,cB.f3,fE,ln B1,li B1,lp,g1,g2,g3,g4,cG,reduceIte,cT,Nat.reduceAdd];intro r55 hr55
 try rw[cW]
 have u2:cZ h1 (h1.set r55 (.cells (dP PG cP) cP)):=cU.new hr55;have B2:=cP.zbox (h:=h1) (r:=r55);have C1:=B1.ext u2;generalize h1.set r55 (.cells (dP PG cP) cP)=h2 at *;intro r57 hr57
 try rw[cW]
 have u3:cZ h2 (h2.set r57 (.cells (dP PG fU) fU)):=cU.new hr57;have B3:=fU.zbox (h:=h2) (r:=r57);have D1:=C1.ext u3;have D2:=B2.ext u3;have n57:r55≠r57:=B2.apart hr57;have n57':r1≠r57:=C1.apart hr57;have n55':r1≠r55:=B1.apart hr55;generalize h2.set r57 (.cells (dP PG fU) fU)=h3 at *;refine cP.put D2 (o:=0) (by decide) S.isc λh4 B4 u4=>?_;have E1:=D1.upd u4 (by simpa using n55');have E3:=B3.upd u4 (by simpa using n57.symm);refine fU.put E3 (o:=0) (by decide) rfl λh5 B5 u5=>?_;have G1:=E1.upd u5 (by simpa using n57');have G4:=B4.upd u5 (by simpa using n57);intro r63 hr63
 try rw[cW]
 try simp only[mV,cG,reduceIte,cT,Nat.reduceAdd]
 refine fQ.fill hr63 rfl λh6 B6 u6=>?_;have k55:h r55=none:=u1.none hr55;have k57:h r57=none:=(u1.trans u2).none hr57;have ex6:cZ h h6:=(((((u1.trans u2).trans u3).fresh u4 (eD.one k55)).fresh u5 (eD.one k57))).trans u6;have n63p:r63≠r55:=(G4.apart hr63).symm;have n63o:r63≠r57:=(B5.apart hr63).symm;have H:aGa h h6 r1 r55 r57 r63 f fv f.path true:=⟨G1.ext u6,⟨fv,G4.ext u6,S⟩,B5.ext u6,B6,n55',n57',n57,n63p,n63o,ex6,k55,k57⟩;have ld:cD PG h6 (loadAt fQ (pT r63 0))=some (fnU r1 r55 r57 r63):=by rw[fQ.load,B6.cell];rfl
 have lo:∀{h':PH} {path ok},aGa h h' r1 r55 r57 r63 f fv path ok->cD PG h' (loadAt fU (pT r57 0))=some (.bool ok):=λH=>by rw[fU.load,H.okb.cell];rfl
 obtain⟨i,hi⟩:=zLn (Int.not_lt.1 a3);obtain⟨n,hn⟩:=zLn (show 0≤f.n by omega);rw[hi,hn,pQ,pQ] at hc;simp only[ld,cB.f0,cB.f1,fE,li H.leaf,ln H.leaf,hi,hn,cG,reduceIte,cT,Nat.reduceAdd];unfold fnU;rw[aId];refine aSv 12 (by omega) (by omega) (by omega) (by omega) hpl hsm hK H (λdg rest h7 e7 l7 r7 H7=>?_) (λs rest h7 e7 l7 H7=>?_)
 ·obtain⟨v7,B7,S7⟩:=H7.pth;have l55:cD PG h7 (loadAt cP (pT r55 0))=some v7:=by rw[cP.load,B7.cell];rfl
  have lv:=S7.len (t':=bT) cP.und;rw[iS] at lv;cases rest with
  | nil=>
   have hg:((0:Int)<((([]:List Tx).length:Nat):Int))=False:=eq_false (by simp);simp only[lo H7,l55,lv,hg,cB.f1,fE,ln H7.leaf,hn,cG,reduceIte,cT,Nat.reduceAdd];refine aQv (hK.ext H7.ext) (by omega) (by omega) λh8 u8=>?_;exact hgood _ h8 (by rw[hc,e7];rfl) rfl (H7.ext.trans u8)
  | cons x rest=>
   have hg:((0:Int)<(((x::rest).length:Nat):Int))=True:=eq_true (by rw[rN];omega);simp only[lo H7,l55,lv,hg,q0,cG,reduceIte,cT,Nat.reduceAdd];exact hbad (by rw[hc,e7];rfl) _ H7.ext
 ·simp only[lo H7,q0,cG,reduceIte,cT,Nat.reduceAdd];exact hbad (by rw[hc,e7];rfl) _ H7.ext
structure It where
 p:Pk
 g:Int
 deriving DecidableEq
instance:Inhabited It:=⟨⟨default,0⟩⟩
def It.cells(i:It):List Value:=[.int .i64 i.p.f,.int .u64 i.p.s,.int .u64 i.p.t,.string i.p.d,.int .i64 i.g]
structure Ac where
 dr:Bool
 n:Nt
 deriving DecidableEq
def Ac.cells(a:Ac):List Value:=[.bool a.dr,.int .i64 a.n.k,.int .i64 a.n.p.f,.int .u64 a.n.p.s,.int .u64 a.n.p.t,.string a.n.p.d]
abbrev Ky:=Int×Int
def Pk.key(p:Pk):Ky:=(p.f,p.s)
def It.key(i:It):Ky:=i.p.key
def aYo(k:Ky):Value:=.agg #[.int .i64 k.1,.int .u64 k.2]
def It.val(i:It):Value:=.agg i.cells.toArray
theorem It.allCell(p:It):∀v∈p.cells.toArray.toList,fP v=true:=by simp[It.cells,fP]
theorem It.rows(l:List It):Rows 5 (l.map It.cells):=λr hr=>by obtain⟨m,_,rfl⟩:=lO.1 hr;rfl
theorem Ac.rows(l:List Ac):Rows 6 (l.map Ac.cells):=λr hr=>by obtain⟨m,_,rfl⟩:=lO.1 hr;rfl
theorem Bx.it{h:PH}{r:Nat}{n:It}(H:Bx h r n.cells):cD PG h (loadAt eW (pT r 0))=some n.val:=by
 obtain⟨e,h1⟩:=H;rw[eW.loadAgg h1 (by show 0+5≤5;decide)];rfl
theorem Bx.id{h:PH}{r:Nat}{k:Ky}(H:Bx h r [.int .i64 k.1,.int .u64 k.2]):cD PG h (loadAt rW (pT r 0))=some (aYo k):=by
 obtain⟨e,h1⟩:=H;rw[rW.loadAgg h1 (by show 0+2≤2;decide)];rfl
def aWQ(x:Int):List Value:=[.int .i64 x]
theorem aWQ.rows(l:List Int):Rows 1 (l.map aWQ):=λr hr=>by obtain⟨m,_,rfl⟩:=lO.1 hr;rfl
def sG(k:Tx):Value:=.string (tx k)
theorem aY0{h:PH}{n:Nat}(a b:Tx):cD PG h (Op.equalIn (n+1) bR (.string (tx a)) (.string (tx b)))=some (decide (a=b)):=by
 rw[aBq bR.und,aCr];congr 1;rw[zLm];simp only[decide_eq_true_eq];exact⟨aLa,λe=>by rw[e]⟩
theorem aDY{h:PH}{t:TypeId}{x y:Operand}(a b:Tx):cD PG h (jS .neq t x y (.string (tx a)) (.string (tx b)))=some (.bool (!decide (a=b))):=by
 have e:cD PG h (jS .neq t x y (.string (tx a)) (.string (tx b)))=some (.bool (!((tx a).toList==(tx b).toList))):=rfl;rw[e,aCq,aCq];congr 3;rw[zLm];simp
theorem aCQ{h:PH}{t:TypeId}{x y:Operand}(a b:Tx):cD PG h (jS .eql t x y (.string (tx a)) (.string (tx b)))=some (.bool (decide (a=b))):=by
 have e:cD PG h (jS .eql t x y (.string (tx a)) (.string (tx b)))=some (.bool ((tx a).toList==(tx b).toList)):=rfl;rw[e,aCq,aCq];congr 2;rw[zLm];simp
theorem aI3:aKZ PG bR sG where
 chk:=λh b a=>by unfold sG;cases b<;>kernel_rfl
 eq:=λh a b=>aY0 (n:=9999) a b
 bits:=λa=>by
  show Instr.sameBits (9999+1) (.string (tx a)) (.string (tx a))=true;simp[Instr.sameBits,aCr]
 now:=⟨_,bR.und,.inr λa b=>by
  unfold sG;show some (tx a==tx b)=_;rw[aCr];congr 1;rw[zLm];simp only[decide_eq_true_eq];exact⟨aLa,λe=>by rw[e]⟩⟩
theorem aF8{h:PH}{e:TypeId}{n:Nat}{v:Value}{rows:List (List Value)}{F:List Nat}(O:dZ h e n v rows F):aC9 v F:=λy m c e1=>by
 rcases O.here with⟨e2,_,_⟩|⟨b,cap',cs,e2,e3,_⟩
 ·rw[e2] at e1;cases e1
 ·rw[e2] at e1;simp only[Value.slice.injEq,zL8] at e1;rw[←e1.1,e3];simp
structure gB where
 kind:Int
 dest:Int
 height:Int
 pfrom:Int
 pseq:Int
 ptimeout:Int
 pdata:ByteArray
 proof:ByteArray
 deriving DecidableEq
def gB.cells(m:gB):List Value:=[.int .i64 m.kind,.int .i64 m.dest,.int .u64 m.height,.int .i64 m.pfrom,.int .u64 m.pseq,.int .u64 m.ptimeout,.string m.pdata,.string m.proof]
theorem gB.rows(l:List gB):Rows 8 (l.map gB.cells):=λr hr=>by
 obtain⟨m,_,rfl⟩:=lO.1 hr;rfl
theorem gB.isCell(l:List gB):∀r∈l.map gB.cells,∀u∈r,fP u=true:=λr hr u hu=>by
 obtain⟨m,_,rfl⟩:=lO.1 hr;simp only[gB.cells,gP,kL,or_false] at hu;rcases hu with rfl|rfl|rfl|rfl|rfl|rfl|rfl|rfl<;>rfl
theorem gB.eqIn{h:PH}(m m':gB):cD PG h (Op.equalIn (9999+1) cI (.agg m.cells.toArray) (.agg m'.cells.toArray))=some (decide (m=m')):=by
 have hp:cD PG h (Op.equalIn (9998+1) aR (.agg #[.int .i64 m.pfrom,.int .u64 m.pseq,.int .u64 m.ptimeout,.string m.pdata]) (.agg #[.int .i64 m'.pfrom,.int .u64 m'.pseq,.int .u64 m'.ptimeout,.string m'.pdata]))=
   some (m.pfrom==m'.pfrom&&(m.pseq==m'.pseq&&(m.ptimeout==m'.ptimeout&&(m.pdata==m'.pdata&&true)))):=by
  refine(aDf aR.und (by kernel_rfl) (λf=>match f.offset with|0=>m.pfrom==m'.pfrom|1=>m.pseq==m'.pseq|2=>m.ptimeout==m'.ptimeout|_=>m.pdata==m'.pdata) ?_);intro f hf;simp only[gP,kL,or_false] at hf;rcases hf with rfl|rfl|rfl|rfl
  ·exact⟨by decide,_,_,iP bT.und rfl rfl,iP bT.und rfl rfl,uO bT.und⟩
  ·exact⟨by decide,_,_,iP cA.und rfl rfl,iP cA.und rfl rfl,uO cA.und⟩
  ·exact⟨by decide,_,_,iP cA.und rfl rfl,iP cA.und rfl rfl,uO cA.und⟩
  ·exact⟨by decide,_,_,iP bR.und rfl rfl,iP bR.und rfl rfl,aBq bR.und⟩
 have hm:cD PG h (Op.equalIn (9999+1) cI (.agg m.cells.toArray) (.agg m'.cells.toArray))=some (m.kind==m'.kind&&(m.dest==m'.dest&&(m.height==m'.height&&((m.pfrom==m'.pfrom&&(m.pseq==m'.pseq&&(m.ptimeout==m'.ptimeout&&(m.pdata==m'.pdata&&true))))&&(m.proof==m'.proof&&true))))):=by
  refine(aDf cI.und (by kernel_rfl) (λf=>match f.offset with|0=>m.kind==m'.kind|1=>m.dest==m'.dest|2=>m.height==m'.height|3=>(m.pfrom==m'.pfrom&&(m.pseq==m'.pseq&&(m.ptimeout==m'.ptimeout&&(m.pdata==m'.pdata&&true))))|_=>m.proof==m'.proof) ?_);intro f hf;simp only[gP,kL,or_false] at hf;rcases hf with rfl|rfl|rfl|rfl|rfl
  ·exact⟨by decide,_,_,iP bT.und rfl rfl,iP bT.und rfl rfl,uO bT.und⟩
  ·exact⟨by decide,_,_,iP bT.und rfl rfl,iP bT.und rfl rfl,uO bT.und⟩
  ·exact⟨by decide,_,_,iP cA.und rfl rfl,iP cA.und rfl rfl,uO cA.und⟩
  ·exact⟨by decide,_,_,aKf aR.und rfl aR.info aR.size,aKf aR.und rfl aR.info aR.size,hp⟩
  ·exact⟨by decide,_,_,iP bR.und rfl rfl,iP bR.und rfl rfl,aBq bR.und⟩
 rw[hm];congr 1;simp only[aCr];rw[zLm];cases m;cases m';simp[gB.mk.injEq,and_assoc]
theorem gB.neq{h:PH}{x y:Operand}(m m':gB):cD PG h (jS .neq cI x y (.agg m.cells.toArray) (.agg m'.cells.toArray))=some (.bool (!decide (m=m'))):=aLS (by kernel_rfl) (gB.eqIn m m')
theorem gB.eql{h:PH}{x y:Operand}(m m':gB):cD PG h (jS .eql cI x y (.agg m.cells.toArray) (.agg m'.cells.toArray))=some (.bool (decide (m=m'))):=aLJ (by kernel_rfl) (gB.eqIn m m')
theorem fR.msg{h:PH}{x:Value}{xs:List gB}(H:fR h 8 x (xs.map gB.cells)){k:IntKind}{j:Int}{m:gB}(h0:0≤j)(hm:xs[j.toNat]? =some m):
  ∃a,dA PG (indexAt dI x (.int k j))=some (.pointer (some a))∧cD PG h (loadAt cI (.pointer (some a)))=some (.agg m.cells.toArray):=
 H.loadAgg dI.und cI.info cI.size cI.und rfl h0 (by rw[vD,hm];rfl)
def gB.zero:gB:=⟨0,0,0,0,0,0,⟨#[]⟩,⟨#[]⟩⟩
theorem gB.allCell(m:gB):∀v∈m.cells.toArray.toList,fP v=true:=λv hv=>by
 simp only[gB.cells,gP,kL,or_false] at hv;rcases hv with rfl|rfl|rfl|rfl|rfl|rfl|rfl|rfl<;>rfl
theorem gB.box{h:PH}{r:Nat}{c:Array Value}(m:gB){k:cE}(hb:h r=some (.cells c cI (0,0)))(hc:c.size=8)(hk:k undef (h.set r (.cells m.cells.toArray cI (0,0)))):
  cY PG (dN cI (pT r 0) (.agg m.cells.toArray)) h k:=
 xP hb cI.info cI.size (by show 0<8;decide) hc (gB.allCell m) hk
theorem cU.box{F:List Nat}{h h1:PH}{r:Nat}{o o':Obj}(hr:h r=none)(e:h1=(h.set r o).set r o'):cU F h h1:=by
 subst e;rw[aAY];exact cU.new hr
def mv(l:List gB)(k to:Nat)(m:gB):List gB:=
 if k<to then l.take k++(l.drop (k+1)).take (to-k)++[m]++l.drop (to+1) else l.take to++[m]++(l.drop to).take (k-to)++l.drop (k+1)
def gB.one(n:Int):gB:={gB.zero with kind:=1,height:=n}
theorem aPj(x:Int):dA PG (convert bT nK (.int .i64 x))=some (.int .u64 (IntKind.u64.wrap x)):=by kernel_rfl
theorem aPk(x:Int):dA PG (convert nK bT (.int .u64 x))=some (.int .i64 (IntKind.i64.wrap x)):=by kernel_rfl
theorem aTE{h:PH}{n:Nat}{fid:FuncId}{cap:Array Value}{f:Nat->Bool}(hn:n≤1000000000)(hm:∀i j,i≤j->j<n->f i=true->f j=true)
  (hf:∀i,i<n->∀k',k' (.bool (f i)) h->aT PG fid (#[] ++ #[.int .i64 i]++cap) h k') {k:cE}
  (hk:∀m,m≤n->(∀i,i<m->f i=false)->(∀i,m≤i->i<n->f i=true)->k (.int .i64 m) h):
  aT PG aHR #[.int .i64 n,.func (.func fid) #[] cap] h k:=by
 apply aHU.call;unfold aHU;refine⟨λvs h'=>∃i j:Nat,i≤j∧j≤n∧vs=[.func (.func fid) #[] cap,.int .i64 i,.int .i64 j]∧h'=h∧(∀x,x<i->f x=false)∧(∀x,j≤x->x<n->f x=true),λvs _=>match vs with|[_,.int _ i,.int _ j]=>(j-i).toNat|_=>0,⟨0,n,by omega,by omega,rfl,rfl,by omega,by omega⟩,?_⟩;rintro ρ h' ⟨i,j,hij,hj,hvs,rfl,h1,h2⟩;simp only[iH,iT,kV,and_true] at hvs;obtain⟨e0,e1,e2⟩:=hvs;rw[e0,e1,e2];unfold aJ1;by_cases hc:i<j
 ·have hd:((i:Int)<(j:Int))=True:=by simp only[eq_iff_iff,iff_true];omega
  have a1:IntKind.i64.wrap ((i:Int)+(j:Int))=((i+j:Nat):Int):=by rw[eV (by omega) (by omega)];omega
  have a2:IntKind.u64.wrap ((i+j:Nat):Int)=((i+j:Nat):Int):=by
   unfold IntKind.wrap;simp[IntKind.signed,IntKind.bits];omega
  have a3:((i+j:Nat):Int).fdiv (2^(min (1:Int).toNat IntKind.u64.bits))=(((i+j)/2:Nat):Int):=by
   have:min (1:Int).toNat IntKind.u64.bits=1:=by decide
   rw[this,Int.fdiv_eq_ediv_of_nonneg _ (by decide)];omega
  have a4:IntKind.i64.wrap (((i+j)/2:Nat):Int)=(((i+j)/2:Nat):Int):=by rw[eV (by omega) (by omega)]
  have a5:IntKind.i64.wrap ((((i+j)/2:Nat):Int)+1)=(((i+j)/2+1:Nat):Int):=by rw[eV (by omega) (by omega)];omega
  simp only[hd,a1,aPj,a2,aHt (show(0:Int)≤1 by decide),a3,aPk,a4,cG,reduceIte];refine hf ((i+j)/2) (by omega) _ ?_;cases e:f ((i+j)/2) with
  | false=>
   simp only[a5,cG,reduceIte];refine⟨⟨(i+j)/2+1,j,by omega,hj,rfl,rfl,λx hx=>?_,h2⟩,by simp[e1,e2];omega⟩;cases e':f x with
   | false=>rfl
   | true=>rw[hm x ((i+j)/2) (by omega) (by omega) e'] at e;cases e
  | true=>
   simp only[cG,reduceIte];exact⟨⟨i,(i+j)/2,by omega,by omega,rfl,rfl,h1,λx hx hx2=>hm _ _ hx hx2 e⟩,by simp[e1,e2];omega⟩
 ·have hd:((i:Int)<(j:Int))=False:=by apply eq_false;omega
  simp only[hd,cG,reduceIte];have:i=j:=by omega
  subst this;exact hk i hj h1 h2
structure gY where
 height:Int
 root:ByteArray
 deriving DecidableEq
def gY.cells(m:gY):List Value:=[.int .u64 m.height,.string m.root]
theorem gY.rows(l:List gY):Rows 2 (l.map gY.cells):=λr hr=>by
 obtain⟨m,_,rfl⟩:=lO.1 hr;rfl
theorem gY.isCell(l:List gY):∀r∈l.map gY.cells,∀u∈r,fP u=true:=λr hr u hu=>by
 obtain⟨m,_,rfl⟩:=lO.1 hr;simp only[gY.cells,gP,kL,or_false] at hu;rcases hu with rfl|rfl<;>rfl
def vS(x:Int):List Value:=[.int .u64 x]
theorem vS.rows(l:List Int):Rows 1 (l.map vS):=λr hr=>by
 obtain⟨m,_,rfl⟩:=lO.1 hr;rfl
theorem vS.isCell(l:List Int):∀r∈l.map vS,∀u∈r,fP u=true:=λr hr u hu=>by
 obtain⟨m,_,rfl⟩:=lO.1 hr;simp only[vS,gP,kL,or_false] at hu;subst hu;rfl
def hts(l:List gY):List Int:=l.map gY.height
def aKj(hs:List Int):Int:=hs.getLast?.getD 0
def kO(l:List gY)(x:Int):Option ByteArray:=(l.find? λp=>decide (x=p.height)).map gY.root
def aAa(l:List gY)(x:gY):Int×List gY:=if x.root.size≠32 then(1,l) else if x.height∈hts l then(4,l) else if 4096≤l.length then(2,l) else(0,l++[x])
structure qY(hs:List Int)(l:List gY):Prop where
 perm:hs.Perm (hts l)
 up:hs.Pairwise (· < ·)
theorem qY.mem{hs:List Int}{l:List gY}(H:qY hs l){x:Int}:x∈hs↔x∈hts l:=H.perm.mem_iff
theorem qY.len{hs:List Int}{l:List gY}(H:qY hs l):hs.length=l.length:=by rw[H.perm.length_eq];simp[hts]
theorem aNh(l:List gY)(x:Int):(kO l x).isSome=decide (x∈hts l):=by
 unfold kO hts;induction l with
 | nil=>rfl
 | cons p ps ih=>
  simp only[List.find?_cons,iH,gP];by_cases e:x=p.height
  ·simp[e]
  ·simp only[e,decide_false,false_or];exact ih
def gY.ent(p:gY):Int×Value:=(p.height,.string p.root)
theorem aRA(l:List gY)(x:Int):aCf (l.map gY.ent) x=(kO l x).map Value.string:=by
 unfold kO aCf;induction l with
 | nil=>rfl
 | cons p ps ih=>
  simp only[List.find?_cons,iH,gY.ent];by_cases e:x=p.height
  ·simp[e]
  ·simp only[e,decide_false];exact ih
theorem aU8(l:List gY):xF (l.map gY.ent)=hts l:=by simp[xF,hts,gY.ent]
theorem qY.cut{hs:List Int}{l:List gY}(H:qY hs l){x:gY}(hx:x.height∉hts l){m:Nat}(h1:∀y∈hs.take m,y<x.height)(h2:∀y∈hs.drop m,x.height≤y):qY (hs.take m++[x.height]++hs.drop m) (l++[x]) where
 perm:=by
  have:hts (l++[x])=hts l++[x.height]:=by simp[hts]
  rw[this];refine((List.perm_append_comm (l₁:=hs.take m) (l₂:=[x.height])).append_right _).trans ?_;rw[mT,aOD];exact List.perm_append_comm.trans (H.perm.append_right _)
 up:=by
  have hs':=H.up;rw[←aOD m hs,List.pairwise_append] at hs';have h2':∀y∈hs.drop m,x.height<y:=λy hy=>by
   have h3:=h2 y hy;have:y≠x.height:=by rintro rfl;exact hx (H.mem.1 (aL3 hy))
   omega
  rw[mT,List.pairwise_append];refine⟨hs'.1,?_,?_⟩
  ·rw[List.singleton_append,List.pairwise_cons];exact⟨h2',hs'.2.1⟩
  ·intro a ha b hb;rcases gP.1 (by simpa using hb) with rfl|hb
   ·exact h1 a ha
   ·exact hs'.2.2 a ha b hb
structure pZ(h:PH)(a:Nat)(l:List gY)(hs:List Int)(F:List Nat):Prop where
 here:∃r v G,h a=some (.cells #[.map (some r),v] gQ (0,0))∧kB aKd h r (l.map gY.ent)∧dZ h cA 1 v (hs.map vS) G∧F=a::r::G∧a≠r∧a∉G∧r∉G
 rank:qY hs l
 few:l.length≤4096
theorem pZ.known{h:PH}{a:Nat}{l:List gY}{hs:List Int}{F:List Nat}(H:pZ h a l hs F):∀b∈F,h b≠none:=by
 obtain⟨r,v,G,ha,hM,hO,rfl,-⟩:=H.here;intro b hb;simp only[gP] at hb;rcases hb with rfl|rfl|hb
 ·rw[ha];simp
 ·exact hM.known
 ·exact hO.known b hb
theorem pZ.upd{h h':PH}{a:Nat}{l:List gY}{hs:List Int}{F G:List Nat}(H:pZ h a l hs F)(u:cU G h h')(hd:∀b∈F,b∉G):pZ h' a l hs F:=by
 obtain⟨r,v,G',ha,hM,hO,rfl,hn⟩:=H.here;exact⟨⟨r,v,G',u.get ha (hd a (by simp)),hM.upd u (hd r (by simp)),hO.upd u (λb hb=>hd b (by simp[hb])),rfl,hn⟩,H.rank,H.few⟩
theorem pZ.ext{h h':PH}{a:Nat}{l:List gY}{hs:List Int}{F:List Nat}(H:pZ h a l hs F)(u:cZ h h'):pZ h' a l hs F:=H.upd u (by simp)
theorem aXg{h:PH}{k:cE}(hk:∀a h' F,pZ h' a [] [] F->cZ h h'->eD h F->k (pT a 0) h'):aT PG aIE #[] h k:=by
 apply aIQ.call;unfold aIQ;simp only[aGh,cG,reduceIte];intro r hr;refine fI ?_;have e1:dA PG (build gQ #[(0,Value.map (some r))])=some (.agg #[.map (some r),.slice none 0 0]):=by kernel_rfl
 simp only[e1,cG,reduceIte];intro a ha;have hne:a≠r:=by rintro rfl;rw[dL] at ha;cases ha
 have ha0:h a=none:=by rwa [oZ hne] at ha
 refine hk a _ [a,r] ⟨⟨r,.slice none 0 0,[],dL,kB.new.ext (cU.new ha),dZ.nil,rfl,hne,by simp,by simp⟩,⟨by simp[hts],by simp⟩,by simp⟩ ((cU.new hr).trans (cU.new ha)) ?_;intro b hb;simp only[gP,kL,or_false] at hb;rcases hb with rfl|rfl
 ·exact ha0
 ·exact hr
theorem fR.u64{h:PH}{x:Value}{xs:List Int}(H:fR h 1 x (xs.map vS)){k:IntKind}{j:Nat}{m:Int}(hm:xs[j]? =some m):
  ∃a,dA PG (indexAt dO x (.int k j))=some (.pointer (some a))∧cD PG h (loadAt cA (.pointer (some a)))=some (.int .u64 m):=
 H.loadCell dO.und cA.info cA.size cA.und rfl (by omega) (by simp[vD,hm,vS])
theorem aU4{h:PH}{a:Nat}{mv v:Value}{hs:List Int}{G:List Nat}(ha0:h a=some (.cells #[mv,v] gQ (0,0)))(hO0:dZ h cA 1 v (hs.map vS) G)(hup:hs.Pairwise (· < ·))(hfew:hs.length≤4096)(x:Int){k:cE}
  (hk:∀m h',m≤hs.length->(∀y∈hs.take m,y<x)->(∀y∈hs.drop m,x≤y)->cZ h h'->k (.int .i64 (m:Nat)) h'):aT PG aBr #[pT a 0,.int .u64 x] h k:=by
 apply aAj.call;unfold aAj;intro r1 hr1;simp only[cG,reduceIte];intro r3 hr3;have u1:cZ h (h.set r1 (.cells (Value.cells (pT a 0)) iO)):=cU.new hr1;have hne:r1≠r3:=aP9 dL hr3;have e1:(h.set r1 (.cells (Value.cells (pT a 0)) iO)) r1=some (.cells #[pT a 0] iO):=dL;generalize h.set r1 (.cells (Value.cells (pT a 0)) iO)=h1 at *;have u2:cZ h1 (h1.set r3 (.cells (Value.cells (.int .u64 x)) cA)):=cU.new hr3;have e2:(h1.set r3 (.cells (Value.cells (.int .u64 x)) cA)) r3=some (.cells #[.int .u64 x] cA):=dL;have e3:=u2.get e1;generalize h1.set r3 (.cells (Value.cells (.int .u64 x)) cA)=h2 at *;have w:=u1.trans u2;have ha:=w.get ha0;have hO:=hO0.ext w;have hlv:=hO.slR.len (t':=bT) dO.und;rw[iS] at hlv;simp only[iO.load,dD,e3,gQ.f1,fE,dO.load,ha,hlv,cG,reduceIte];refine aTE (f:=λi=>decide (x≤hs.getD i 0)) (by omega) ?_ ?_ ?_
 ·intro i j hij hj hfi;simp only[decide_eq_true_eq] at hfi ⊢;by_cases e:i=j
  ·subst e;exact hfi
  ·have:=List.pairwise_iff_getElem.1 hup i j (by omega) hj (by omega);rw[aAX,lQ (by omega)] at hfi ⊢;simp only[aIA] at hfi ⊢;omega
 ·intro i hi k' hk';show aT PG aAe #[.int .i64 i,pT r1 0,pT r3 0] h2 k';apply pO.call;unfold pO;obtain⟨p,p1,p2⟩:=hO.slR.u64 (k:=.i64) (j:=i) (m:=hs.getD i 0) (by rw[aAX,lQ hi];rfl);have p3:cD PG h2 (loadAt cA (pT r3 0))=some (.int .u64 x):=by rw[cA.load];simp[dD,e2]
  simp only[iO.load,dD,e3,gQ.f1,fE,dO.load,ha,p1,p2,p3,cG,reduceIte];exact hk'
 ·intro m hm h1 h2;refine hk m _ hm ?_ ?_ w
  ·intro y hy;obtain⟨i,hi,rfl⟩:=List.mem_iff_getElem.1 hy;rw[uF] at hi;have:=h1 i (by omega);rw[aAX,lQ (by omega)] at this;simp only[aIA,decide_eq_false_iff_not] at this;rw[List.getElem_take];omega
  ·intro y hy;obtain⟨i,hi,rfl⟩:=List.mem_iff_getElem.1 hy;rw[xV] at hi;have:=h2 (m+i) (by omega) (by omega);rw[aAX,lQ (by omega)] at this;simp only[aIA,decide_eq_true_eq] at this;rw[List.getElem_drop];exact this
theorem aWy{h:PH}{a:Nat}{l:List gY}{hs:List Int}{F:List Nat}(hC:pZ h a l hs F)(x:Int){k:cE}
  (hk:k (.tuple #[.string ((kO l x).getD ⟨#[]⟩),.bool (kO l x).isSome]) h):aT PG aCh #[pT a 0,.int .u64 x] h k:=by
 apply aBI.call;unfold aBI;obtain⟨r,v,G,ha,hM,hO,rfl,hn⟩:=hC.here;have hl:=aIT (aP2 cA.und) hE.und bR.info bR.zero hM x true;rw[aRA] at hl;have hl':cD PG h (Instr.lookup hE (.map (some r)) (.int .u64 x) true)=some (.tuple #[.string ((kO l x).getD ⟨#[]⟩),.bool (kO l x).isSome]):=by
  rw[show(Value.int .u64 x)=aKd x from rfl,hl];cases kO l x<;>rfl
 simp only[dD,gQ.f0,hE.load,ha,hl',cG,reduceIte];exact hk
theorem aTt{h:PH}{a:Nat}{l:List gY}{hs:List Int}{F:List Nat}(hC:pZ h a l hs F){k:cE}
  (hk:k (.int .u64 (aKj hs)) h):aT PG aA2 #[pT a 0] h k:=by
 have hlen:=hC.rank.len;have hfew:=hC.few;apply qL.call;unfold qL;obtain⟨r,v,G,ha,hM,hO,rfl,hn⟩:=hC.here;have hlv:=hO.slR.len (t':=bT) dO.und;rw[iS] at hlv;simp only[dD,gQ.f1,fE,dO.load,ha,hlv,cG,reduceIte];unfold aKj at hk;rw[List.getLast?_eq_getElem?] at hk;by_cases hc:hs.length=0
 ·have e:((hs.length:Int)==0)=true:=by simp[hc]
  have e2:hs=[]:=zLN hc;simp only[e,cG,reduceIte];rw[e2] at hk;exact hk
 ·have e:((hs.length:Int)==0)=false:=by simpa using hc
  have e2:IntKind.i64.wrap ((hs.length:Int)-1)=((hs.length-1:Nat):Int):=by rw[eV (by omega) (by omega)];omega
  obtain⟨y,hy⟩:∃y,hs[hs.length-1]? =some y:=⟨_,lQ (by omega)⟩;obtain⟨p,p1,p2⟩:=hO.slR.u64 (k:=.i64) hy;simp only[e,e2,p1,p2,cG,reduceIte];rw[hy] at hk;exact hk
theorem aTa{h:PH}{xs:List Int}{x:Value}(hx:fR h 1 x (xs.map vS))(hl:xs.length≤1000000){k:cE}
  (hk:∀v' h' F',dZ h' cA 1 v' (xs.map vS) F'->cZ h h'->(∀b∈F',h b=none)->k v' h'):aT PG sE #[x] h k:=by
 obtain⟨xa,xc,rfl,hx1,hx2,hx3,hx4⟩:=hx.here;apply pW.call;unfold pW;simp only[aQq dO.und,cG,reduceIte];cases xa with
 | none=>
  have:xs=[]:=by
   by_cases h0:xs=[]
   ·exact h0
   ·obtain⟨b,o,cs,e,fr,h1,_⟩:=hx3 (by simpa using h0);cases h1
  subst this;simp only[Option.isNone_none,cG,reduceIte];exact hk _ _ [] dZ.nil cU.refl (by simp)
 | some a=>
  simp only[Option.isNone_some,cG,reduceIte];have e1:jK PG (buildSlice dO 0 #[])=some (.cells #[] cA,λr=>pure (.slice (some ⟨r,0,none⟩) 0 0)):=by kernel_rfl
  rw[e1];simp only[cG,reduceIte];intro r hr;refine fI ?_;have hO:dZ (h.set r (.cells #[] cA)) cA 1 (.slice (some ⟨r,0,none⟩) 0 0) [] [r]:=dZ.lit (by intro r hr;cases hr) dL rfl (by simp) rfl;refine jF dO.und dO.und cA.info cA.size cA.bytes cA.zero rfl (by decide) hO (by simpa only[iS] using hx.ext (cU.new hr)) (vS.isCell _) (by simp;omega) ?_;intro v' h' F' hO' hU hF' hC;refine hk v' h' F' (by simpa using hO') (λb o hb _=>hU b o (aOK hr hb) (by simp;exact aP9 hb hr)) (λb hb=>?_);rcases hF' b hb with h1|h1
  ·simp at h1;subst h1;exact hr
  ·by_cases e:b=r
   ·subst e;exact hr
   ·rwa [oZ e] at h1
theorem aSx{h:PH}{a:Nat}{l:List gY}{hs:List Int}{F:List Nat}(hC:pZ h a l hs F){k:cE}
  (hk:∀v' h' F',dZ h' cA 1 v' (hs.map vS) F'->cZ h h'->eD h F'->k v' h'):aT PG aAV #[pT a 0] h k:=by
 have hlen:=hC.rank.len;have hfew:=hC.few;apply yJ.call;unfold yJ;obtain⟨r,v,G,ha,hM,hO,rfl,hn⟩:=hC.here;simp only[dD,gQ.f1,fE,dO.load,ha,cG,reduceIte];exact aTa hO.slR (by omega) hk
theorem aXu(x:Int):jK PG (buildSlice dO 1 #[(0,.int .u64 x)])=some (.cells #[.int .u64 x] cA,λr=>pure (.slice (some ⟨r,0,none⟩) 1 1)):=by kernel_rfl
theorem aYZ{h:PH}{a:Nat}{l:List gY}{hs:List Int}{F:List Nat}(hC:pZ h a l hs F)(x:gY){k:cE}
  (hk:∀h' hs' F',pZ h' a (aAa l x).2 hs' F'->cU F h h'->(∀b∈F',b∈F∨h b=none)->k (.int .i64 (aAa l x).1) h'):aT PG aDE #[pT a 0,.int .u64 x.height,.string x.root] h k:=by
 have hlen:=hC.rank.len;have hfew:=hC.few;apply uS.call;unfold uS;unfold aAa at hk;have hsame:=hk;simp only[bR.len,cG,reduceIte];by_cases c1:x.root.size=32
 ·have e1:((x.root.size:Int) !=32)=false:=by simp[c1]
  rw[if_neg (by simpa using c1)] at hk;obtain⟨r,v,G,ha,hM,hO,hF,n1,n2,n3⟩:=hC.here;have hl:=aIT (aP2 cA.und) hE.und bR.info bR.zero hM x.height true;rw[aRA] at hl;have hl':cD PG h (Instr.lookup hE (.map (some r)) (.int .u64 x.height) true)=some (.tuple #[.string ((kO l x.height).getD ⟨#[]⟩),.bool (kO l x.height).isSome]):=by
   rw[show(Value.int .u64 x.height)=aKd x.height from rfl,hl];cases kO l x.height<;>rfl
  simp only[e1,dD,gQ.f0,hE.load,ha,hl',aNh,cG,reduceIte];by_cases c2:x.height∈hts l
  ·simp only[c2,cG,reduceIte];rw[if_pos c2] at hk;exact hk _ _ _ hC cU.refl (λb hb=>.inl hb)
  ·rw[if_neg c2] at hk;have hml:=hM.len (t':=bT) hE.und;rw[iS] at hml;simp only[c2,hml,cG,reduceIte];by_cases c3:4096≤l.length
   ·have e3:((4096:Int)≤(l.length:Int))=True:=by apply eq_true;omega
    simp only[e3,cG,reduceIte];rw[if_pos c3] at hk;exact hk _ _ _ hC cU.refl (λb hb=>.inl hb)
   ·have e3:((4096:Int)≤(l.length:Int))=False:=by apply eq_false;omega
    rw[if_neg c3] at hk;simp only[e3,cG,reduceIte];refine aMG (enc:=aKd) (aP2 cA.und) hE.und hM x.height (.string x.root) λh1 hM1 u1=>?_;have hput:aES (l.map gY.ent) x.height (.string x.root)=(l++[x]).map gY.ent:=by
     unfold aES;rw[aU8,if_neg c2];simp[gY.ent]
    rw[hput] at hM1;have ha1:=u1.get ha (by simp[n1]);have hO1:=hO.upd u1 (λb hb hf=>by simp at hf;subst hf;exact n3 hb);refine aU4 ha1 hO1 hC.rank.up (by omega) x.height λm h2 hm p1 p2 u2=>?_;have ha2:=u2.get ha1;have hO2:=hO1.ext u2;have hM2:=hM1.ext u2;obtain⟨va,w1,w2⟩:=hO2.slR.full dO.und cA.info (m:=m) (k2:=.i64) (k3:=.i64) (by simpa using hm);obtain⟨y,y1,y2,-⟩:=hO2.slR.cut dO.und cA.info cA.size (hi:=none) (.inr ⟨.i64,rfl⟩) (.inl ⟨rfl,rfl⟩) (show m≤_ by simpa using hm) (oL _);rw[mW (oL _)] at y2;simp only[dD,gQ.f1,fE,dO.load,ha2,w1,y1,aXu,cG,reduceIte];intro r3 hr3;refine fI ?_;have u3:cZ h2 (h2.set r3 (.cells #[.int .u64 x.height] cA)):=cU.new hr3;have hx3:fR (h2.set r3 (.cells #[.int .u64 x.height] cA)) 1 (.slice (some ⟨r3,0,none⟩) 1 1) ([x.height].map vS):=(dZ.lit (vS.rows _) dL (by simp) (by decide) (by simp[vS])).slR;generalize h2.set r3 (.cells #[.int .u64 x.height] cA)=h3 at *;refine aRS dO.und dO.und cA.info cA.size cA.bytes cA.zero rfl (by decide) (w2.ext u3) rfl hx3 (by simp;omega) (by simp) λv4 h4 F4 hO4 u4 k4=>?_;have ha4:=(u3.trans u4).get ha2;refine⟨by simp[ha4],?_⟩;rw[←aKm,←qI] at hO4;have y4:=(y2.ext u3).ext u4;rw[←List.map_drop] at y4;refine jF dO.und dO.und cA.info cA.size cA.bytes cA.zero rfl (by decide) hO4 y4 (vS.isCell _) (by simp;omega) ?_;intro v5 h5 F5 hO5 u5 k5 _;rw[←qI] at hO5;have na4:a∉F4:=λhm'=>by have:=k4 a hm';rw[u3.get ha2] at this;cases this
    have nr4:r∉F4:=λhm'=>(hM2.ext u3).known (k4 r hm');have ha5:=u5.get ha4 na4;have hM5:=((hM2.ext u3).ext u4).upd u5 nr4;have na5:a∉F5:=λhm'=>by
     rcases k5 a hm' with h|h
     ·exact na4 h
     ·rw[ha4] at h;cases h
    have nr5:r∉F5:=λhm'=>by
     rcases k5 r hm' with h|h
     ·exact nr4 h
     ·exact(((hM2.ext u3).ext u4)).known h
    refine iU dO.und rfl ha5 (by simp) ?_ dO.info dO.size ?_
    ·obtain⟨_,_,rfl,-⟩:=hO5.slR.here;rfl
    have u6:cU [a] h5 (h5.set a (.cells ((#[.map (some r),v]:Array Value).setIfInBounds 1 v5) gQ (0,0))):=cU.set (by simp);have ua:cU F h h4:=by
     have:cU [r] h h4:=(u1.trans u2.upd).trans (u3.trans u4).upd;exact this.mono λb hb=>.inl (by simp at hb;subst hb;rw[hF];simp)
    have g4:∀b∈F4,h b=none:=λb hb=>by
     have hb3:h2 b=none:=u3.none (k4 b hb);have hb1:h1 b=none:=u2.none hb3;cases e:h b with
     | none=>rfl
     | some o=>
      by_cases hbr:b=r
      ·subst hbr;exact absurd hb1 hM1.known
      ·have:=u1.get e (by simp[hbr]);rw[hb1] at this;cases this
    have g5:∀b∈F5,h b=none:=λb hb=>by
     rcases k5 b hb with h'|h'
     ·exact g4 b h'
     ·cases e:h b with
      | none=>rfl
      | some o=>
       by_cases hbF:b∈F
       ·rw[hF] at hbF;simp only[gP] at hbF;rcases hbF with rfl|rfl|hbG
        ·rw[ha4] at h';cases h'
        ·exact absurd h' ((hM2.ext u3).ext u4).known
        ·exact absurd h' (((hO2.ext u3).ext u4).known b hbG)
       ·have:=ua.get e hbF;rw[h'] at this;cases this
    refine hk _ (hs.take m++[x.height]++hs.drop m) (a::r::F5) ⟨⟨r,v5,F5,dL,hM5.upd u6 (by simp;exact n1.symm),hO5.upd u6 (λb hb hf=>by simp at hf;subst hf;exact na5 hb),rfl,n1,na5,nr5⟩,hC.rank.cut c2 p1 p2,by simp;omega⟩ ?_ ?_
    ·exact(ua.then u5 (λb hb=>.inr (g4 b hb))).then u6 (λb hb=>.inl (by simp at hb;subst hb;rw[hF];simp))
    ·intro b hb;simp only[gP] at hb;rcases hb with rfl|rfl|hb
     ·exact .inl (by rw[hF];simp)
     ·exact .inl (by rw[hF];simp)
     ·exact .inr (g5 b hb)
 ·have e1:((x.root.size:Int) !=32)=true:=by simp;omega
  rw[if_pos (by simpa using c1)] at hk;simp only[e1,cG,reduceIte];exact hk _ _ _ hC cU.refl (λb hb=>.inl hb)
def oU(n:Nat):List Value:=[.int .u64 (n:Int)]
theorem oU.rows(l:List Nat):Rows 1 (l.map oU):=λr hr=>by
 obtain⟨p,-,rfl⟩:=lO.1 hr;rfl
def jM:List Nat->Nat
 | []=>0
 | d::l=>d+4294967296*jM l
def Dig(l:List Nat):Prop:=∀d∈l,d<4294967296
theorem aZs(n:Nat):0<4294967296^n:=Nat.pow_pos (by decide)
theorem aM8:∀(l:List Nat) (i d:Nat) (x:Nat),l[i]? =some x->jM (l.set i d)+x*4294967296^i=jM l+d*4294967296^i
 | [],i,d,x,h=>by simp at h
 | a::l,0,d,x,h=>by
  simp only[pK,zL8] at h;subst h;simp only[List.set_cons_zero,jM,Nat.pow_zero,zL7];omega
 | a::l,i+1,d,x,h=>by
  have ih:=aM8 l i d x (by simpa using h);simp only[List.set_cons_succ,jM];have e1:x*4294967296^(i+1)=4294967296*(x*4294967296^i):=by rw[zLQ,zLR (4294967296^i),Nat.mul_left_comm]
  have e2:d*4294967296^(i+1)=4294967296*(d*4294967296^i):=by rw[zLQ,zLR (4294967296^i),Nat.mul_left_comm]
  rw[e1,e2];omega
theorem aKB:∀{l:List Nat},Dig l->jM l<4294967296^l.length
 | [],_=>by simp[jM]
 | a::l,h=>by
  have ih:=aKB (l:=l) λd hd=>h d (by simp[hd]);have ha:=h a (by simp);simp only[jM,rN,zLQ];omega
theorem aKF:∀{l:List Nat},Dig l->∀i,jM l/4294967296^i%4294967296=l.getD i 0
 | [],_,i=>by simp[jM]
 | a::l,h,0=>by
  have ha:=h a (by simp);simp only[jM,Nat.pow_zero,Nat.div_one,List.getD_cons_zero];omega
 | a::l,h,i+1=>by
  have ih:=aKF (l:=l) (λd hd=>h d (by simp[hd])) i;have ha:=h a (by simp);have e:(a+4294967296*jM l)/4294967296=jM l:=by omega
  simp only[jM,List.getD_cons_succ];rw[zLQ,zLR (4294967296^i),←Nat.div_div_eq_div_mul,e,ih]
theorem aLI:∀(l:List Nat) (i x:Nat),l[i]? =some x->jM (l.take (i+1))=jM (l.take i)+x*4294967296^i
 | [],i,x,h=>by simp at h
 | a::l,0,x,h=>by
  simp only[pK,zL8] at h;subst h;simp[jM]
 | a::l,i+1,x,h=>by
  have ih:=aLI l i x (by simpa using h);simp only[zLc,jM];have e1:x*4294967296^(i+1)=4294967296*(x*4294967296^i):=by rw[zLQ,zLR (4294967296^i),Nat.mul_left_comm]
  rw[ih,e1];omega
theorem aL1(l:List Nat):∀i,jM (l.take i)≤jM l:=by
 induction l with
 | nil=>intro i;simp
 | cons a l ih=>
  intro i;cases i with
  | zero=>simp[jM]
  | succ i=>
   have:=ih i;simp only[zLc,jM];omega
theorem aKc(n:Nat):jM (List.replicate n 0)=0:=by
 induction n with
 | zero=>rfl
 | succ n ih=>simp only[List.replicate_succ,jM,ih]
theorem aLf(n:Nat):Dig (List.replicate n 0):=λd hd=>by
 rw[List.mem_replicate] at hd;omega
abbrev aGo(h:PH)(v:Value)(l:List Nat)(F:List Nat):Prop:=dZ h cA 1 v (l.map oU) F
theorem aLX{h:PH}{v:Value}{l:List Nat}(S:fR h 1 v (l.map oU)){i x:Nat}(hx:l[i]? =some x):∃a,dA PG (indexAt dO v (.int .i64 (i:Int)))=some (.pointer (some a))∧cD PG h (loadAt cA (.pointer (some a)))=some (.int .u64 (x:Int)):=
 S.loadCell (t:=dO) (k:=.i64) (j:=(i:Int)) dO.und cA.info cA.size cA.und rfl (by omega) (by rw[pQ,vD,hx];rfl)
theorem aKX{h:PH}{v:Value}{l:List Nat}(S:fR h 1 v (l.map oU)):dA PG (Builtin.len_ #[dO] bT #[v])=some (.int .i64 l.length):=by
 have:=S.len (t':=bT) dO.und;rw[iS] at this;exact this
theorem aQM{h:PH}{n:Nat}(hn:n≤1000):∃zs,jK PG (Instr.makeSlice dO (.int .i64 n) (.int .i64 n))=some (.cells zs cA (0,0),λr=>pure (.slice (some ⟨r,0,none⟩) n n))∧zs.toList=((List.replicate n 0).map oU).flatten:=by
 obtain⟨zs',hm,hz⟩:=aET (P:=PG) (n:=n) dO.und cA.info cA.size cA.bytes cA.zero rfl (by decide) (by omega) (by omega);refine⟨zs',hm,?_⟩;rw[hz,List.map_replicate];rfl
theorem aQJ{h:PH}{v:Value}{l:List Nat}{F:List Nat}(O:aGo h v l F)(hd:Dig l)(pos x:Nat)(hp:pos≤1000)(hx:x≤18446744069414584320)(hT:jM l+x*4294967296^pos<4294967296^l.length)(hl:l.length≤1000){k:cE}
  (hk:∀h' l',aGo h' v l' F->Dig l'->l'.length=l.length->jM l'=jM l+x*4294967296^pos->cU F h h'->k (.tuple #[]) h'):aT PG wA #[v,.int .i64 (pos:Int),.int .u64 (x:Int)] h k:=by
 apply aC3.call;unfold aC3;generalize hTT:jM l+x*4294967296^pos=T at *;refine⟨λvs h'=>∃(l':List Nat) (p y:Nat),vs=[v,.int .i64 (p:Int),.int .u64 (y:Int)]∧aGo h' v l' F∧Dig l'∧l'.length=l.length∧p≤1001∧y≤18446744069414584320∧jM l'+y*4294967296^p=T∧cU F h h',gU l.length 1,⟨l,pos,x,rfl,O,hd,rfl,by omega,hx,hTT,cU.refl⟩,?_⟩;rintro ρ h' ⟨l',p,y,hvs,O',hd',hl',hp',hy,hv,u⟩;simp only[iH,iT,kV,and_true] at hvs;obtain⟨v0,v1,v2⟩:=hvs;simp only[v0,v1,v2,iH,iT];unfold aG6;have lv:=aKX O'.slR;by_cases h0:y=0
 ·subst h0;have g1:((0:Int)<((0:Nat):Int))=False:=eq_false (by decide);simp only[g1,cG,reduceIte];exact hk h' l' O' hd' hl' (by rw[←hv];simp) u
 have g1:((0:Int)<(y:Int))=True:=eq_true (by omega);by_cases hlt:p<l'.length
 ·have g2:((p:Int)<(l'.length:Int))=True:=eq_true (by omega);have hx':l'[p]? =some l'[p]:=lQ hlt;have hdx:=hd' _ (aKW hlt);generalize l'[p]=d at *;obtain⟨pa,p1,p2⟩:=aLX O'.slR hx';have e1:Int.tmod (y:Int) 4294967296=((y%4294967296:Nat):Int):=(Int.ofNat_tmod _ 4294967296).symm;have e2:IntKind.u64.wrap (((y%4294967296:Nat):Int)+(d:Int))=((y%4294967296+d:Nat):Int):=by rw[gL (by omega) (by omega)];omega
  have e3:Int.tdiv (y:Int) 4294967296=((y/4294967296:Nat):Int):=rfl;have e4:IntKind.u64.wrap ((y/4294967296:Nat):Int)=((y/4294967296:Nat):Int):=gL (by omega) (by omega);have e5:IntKind.u64.wrap (((y/4294967296:Nat):Int)*4294967296)=((y/4294967296*4294967296:Nat):Int):=by rw[gL (by omega) (by omega)];omega
  have e6:IntKind.u64.wrap (((y%4294967296+d:Nat):Int)+((y/4294967296*4294967296:Nat):Int))=((y+d:Nat):Int):=by rw[gL (by omega) (by omega)];omega
  have e7:Int.tmod ((y+d:Nat):Int) 4294967296=(((y+d)%4294967296:Nat):Int):=(Int.ofNat_tmod _ 4294967296).symm;have e8:Int.tdiv ((y+d:Nat):Int) 4294967296=(((y+d)/4294967296:Nat):Int):=rfl;have e9:IntKind.u64.wrap (((y+d)/4294967296:Nat):Int)=(((y+d)/4294967296:Nat):Int):=gL (by omega) (by omega);have e10:=pR (i:=p) (by omega);have rm:∀(t:TypeId) (a:Int),dA PG (binOp .rem t (.int .u64 a) (.int .u64 4294967296))=some (.int .u64 (a.tmod 4294967296)):=λt a=>aHz (by decide);have qu:∀(t:TypeId) (a:Int),dA PG (binOp .quo t (.int .u64 a) (.int .u64 4294967296))=some (.int .u64 (IntKind.u64.wrap (a.tdiv 4294967296))):=λt a=>aL8 (by decide);obtain⟨pb,q1,q2⟩:=O'.storeCell (t:=dO) (k:=.i64) (j:=p) dO.und cA.info cA.size cA.und rfl (by simpa using hlt) (x:=.int .u64 (((y+d)%4294967296:Nat):Int)) rfl;rw[p1] at q1;obtain rfl:pa=pb:=by simpa using q1
  simp only[g1,lv,g2,rm,qu,e1,p1,p2,e2,e3,e4,e5,e6,e7,cG,reduceIte];refine q2 _ λh2 O2 u2=>?_;have hrows:(l'.map oU).take p++[[(.int .u64 (((y+d)%4294967296:Nat):Int):Value)]]++(l'.map oU).drop (p+1)=(l'.set p ((y+d)%4294967296)).map oU:=by
   rw[List.set_eq_take_append_cons_drop,if_pos hlt,qI,iH,aKm,List.map_drop];simp[oU]
  rw[hrows] at O2;simp only[e8,e9,e10,cG,reduceIte];refine⟨⟨_,p+1,(y+d)/4294967296,rfl,O2,λz hz=>?_,by simpa using hl',by omega,by omega,?_,u.trans u2⟩,?_⟩
  ·rcases List.mem_or_eq_of_mem_set hz with hz|rfl
   ·exact hd' z hz
   ·exact zLA _ (by decide)
  ·have:=aM8 l' p ((y+d)%4294967296) d hx';have e:(y+d)%4294967296*4294967296^p+(y+d)/4294967296*4294967296^(p+1)=(y+d)*4294967296^p:=by
    rw[zLQ,zLR (4294967296^p) 4294967296,←Nat.mul_assoc,←zLE];congr 1;omega
   rw[zLE] at e;omega
  ·simp only[gU,sA,pK];omega
 ·exfalso;have h1:4294967296^l.length≤4294967296^p:=aKy (by decide) (by omega);have h2:4294967296^p≤y*4294967296^p:=Nat.le_mul_of_pos_left _ (by omega);omega
theorem aT7{h:PH}{v:Value}{l:List Nat}(S:fR h 1 v (l.map oU))(hs:∀d∈l,d≤18446744069414584320)(hT:jM l<4294967296^(l.length+1))(hl:l.length≤100){k:cE}
  (hk:∀h' v' l' F',aGo h' v' l' F'->Dig l'->l'.length=l.length+1->jM l'=jM l->eD h F'->cZ h h'->k v' h'):aT PG aBn #[v] h k:=by
 apply aAr.call;unfold aAr;have lv:=aKX S;have e1:IntKind.i64.wrap ((l.length:Int)+1)=((l.length+1:Nat):Int):=by rw[eV (by omega) (by omega)];omega
 obtain⟨zs,m1,m2⟩:=aQM (h:=h) (n:=l.length+1) (by omega);simp only[lv,e1,m1,cG,reduceIte];intro r hr;refine fI ?_
 try rw[cW]
 have u1:cZ h (h.set r (.cells zs cA (0,0))):=cU.new hr;have O1:aGo (h.set r (.cells zs cA (0,0))) (.slice (some ⟨r,0,none⟩) (l.length+1) (l.length+1)) (List.replicate (l.length+1) 0) [r]:=dZ.lit (n:=l.length+1) (oU.rows _) dL (by simp) (by unfold qZ;omega) m2;generalize h.set r (.cells zs cA (0,0))=h1 at *;refine⟨λvs h'=>∃(i:Nat) (l':List Nat),i≤l.length∧vs=[v,.slice (some ⟨r,0,none⟩) (l.length+1) (l.length+1),.int .i64 (i:Int)]∧aGo h' (.slice (some ⟨r,0,none⟩) (l.length+1) (l.length+1)) l' [r]∧Dig l'∧l'.length=l.length+1∧jM l'=jM (l.take i)∧cZ h h',gU l.length 2,⟨0,_,by omega,rfl,O1,aLf _,by simp,by rw[aKc];rfl,u1⟩,?_⟩;rintro ρ h' ⟨i,l',hi,hvs,O',hd',hl',hv,u⟩;simp only[iH,iT,kV,and_true] at hvs;obtain⟨v0,v3,v4⟩:=hvs;simp only[v0,v3,v4,iH,iT];unfold aFN;by_cases hlt:i<l.length
 ·have g1:((i:Int)<(l.length:Int))=True:=eq_true (by omega);have gi:=pR (i:=i) (by omega);have hx':l[i]? =some l[i]:=lQ hlt;have hdx:=hs _ (aKW hlt);generalize l[i]=d at *;obtain⟨pa,p1,p2⟩:=aLX (S.ext u) hx';simp only[lv,g1,p1,p2,cG,reduceIte];have ht:=aLI l i d hx';have hle:=aL1 l (i+1);refine aQJ O' hd' i d (by omega) hdx (by rw[hl',hv,←ht];omega) (by omega) λh2 l2 O2 hd2 hl2 hv2 u2=>?_;simp only[gi,cG,reduceIte];refine⟨⟨i+1,l2,by omega,rfl,O2,hd2,by omega,by rw[hv2,hv,ht],u.fresh u2 (eD.one hr)⟩,?_⟩;simp only[gU,sA,pK];omega
 ·have g1:((i:Int)<(l.length:Int))=False:=eq_false (by omega);simp only[lv,g1,cG,reduceIte];rw[mW (by omega)] at hv;exact hk h' _ l' [r] O' hd' hl' hv (eD.one hr) u
theorem aRC{h:PH}{v:Value}{l:List Nat}(S:fR h 1 v (l.map oU))(hs:∀d∈l,d≤18446744069414584320)(hT:jM l<4294967296^(l.length+1))(hl:l.length≤50)(x:Nat)(hx:x<137438953472){k:cE}
  (hk:∀h' v' l' F',aGo h' v' l' F'->Dig l'->l'.length=l.length+4->jM l'=jM l*x->eD h F'->cZ h h'->k v' h'):aT PG aAT #[v,.int .u64 (x:Int)] h k:=by
 apply yG.call;unfold yG;refine aT7 S hs hT (by omega) λh1 w p F1 O1 hd1 hl1 hv1 f1 u1=>?_;have S1:=O1.slR;have lw:=aKX S1;have e1:IntKind.i64.wrap ((p.length:Int)+3)=((p.length+3:Nat):Int):=by rw[eV (by omega) (by omega)];omega
 have e2:Int.tmod (x:Int) 4294967296=((x%4294967296:Nat):Int):=(Int.ofNat_tmod _ 4294967296).symm;have e3:Int.tdiv (x:Int) 4294967296=((x/4294967296:Nat):Int):=rfl;have e4:IntKind.u64.wrap ((x/4294967296:Nat):Int)=((x/4294967296:Nat):Int):=gL (by omega) (by omega);have rm:∀(t:TypeId) (a:Int),dA PG (binOp .rem t (.int .u64 a) (.int .u64 4294967296))=some (.int .u64 (a.tmod 4294967296)):=λt a=>aHz (by decide);have qu:∀(t:TypeId) (a:Int),dA PG (binOp .quo t (.int .u64 a) (.int .u64 4294967296))=some (.int .u64 (IntKind.u64.wrap (a.tdiv 4294967296))):=λt a=>aL8 (by decide);obtain⟨zs,m1,m2⟩:=aQM (h:=h) (n:=p.length+3) (by omega);simp only[rm,qu,e2,e3,e4,lw,e1,m1,cG,reduceIte];intro r hr;refine fI ?_
 try rw[cW]
 have u2:cZ h1 (h1.set r (.cells zs cA (0,0))):=cU.new hr;have O2:aGo (h1.set r (.cells zs cA (0,0))) (.slice (some ⟨r,0,none⟩) (p.length+3) (p.length+3)) (List.replicate (p.length+3) 0) [r]:=dZ.lit (n:=p.length+3) (oU.rows _) dL (by simp) (by unfold qZ;omega) m2;generalize h1.set r (.cells zs cA (0,0))=h2 at *;have hr0:h r=none:=u1.none hr;have hpl:=aKB hd1;have hF1r:∀b∈F1,b∉[r]:=λb hb hm=>by
  simp only[fV] at hm;subst hm;exact O1.known _ hb hr
 have hbig:jM p*x<4294967296^(p.length+3):=by
  have hx2:x<4294967296^2:=by
   have:(4294967296:Nat)^2=18446744073709551616:=by decide
   omega
  calc jM p*x≤jM p*4294967296^2:=Nat.mul_le_mul_left _ (by omega)
   _<4294967296^p.length*4294967296^2:=Nat.mul_lt_mul_of_pos_right hpl (aZs 2)
   _=4294967296^(p.length+2):=by rw[←Nat.pow_add]
   _≤4294967296^(p.length+3):=aKy (by decide) (by omega)
 refine⟨λvs h'=>∃(i:Nat) (l':List Nat),i≤p.length∧vs=[w,.int .u64 ((x%4294967296:Nat):Int),.int .u64 ((x/4294967296:Nat):Int),.slice (some ⟨r,0,none⟩) (p.length+3) (p.length+3),.int .i64 (i:Int)]∧aGo h' (.slice (some ⟨r,0,none⟩) (p.length+3) (p.length+3)) l' [r]∧Dig l'∧l'.length=p.length+3∧jM l'=jM (p.take i)*x∧cU [r] h2 h',gU p.length 4,⟨0,_,by omega,rfl,O2,aLf _,by simp,by rw[aKc];simp[jM],cU.refl⟩,?_⟩;rintro ρ h' ⟨i,l',hi,hvs,O',hd',hl',hv,u⟩;simp only[iH,iT,kV,and_true] at hvs;obtain⟨v0,v5,v6,v7,v8⟩:=hvs;simp only[v0,v5,v6,v7,v8,iH,iT];unfold aD6;have Sw:=((O1.ext u2).upd u hF1r);by_cases hlt:i<p.length
 ·have g1:((i:Int)<(p.length:Int))=True:=eq_true (by omega);have gi:=pR (i:=i) (by omega);have hx':p[i]? =some p[i]:=lQ hlt;have hdx:=hd1 _ (aKW hlt);generalize p[i]=d at *;obtain⟨pa,p1,p2⟩:=aLX Sw.slR hx';have hm1:d*(x%4294967296)≤4294967295*4294967295:=Nat.mul_le_mul (by omega) (by omega);have hm2:d*(x/4294967296)≤4294967295*31:=Nat.mul_le_mul (by omega) (by omega);have f1':IntKind.u64.wrap ((d:Int)*((x%4294967296:Nat):Int))=((d*(x%4294967296):Nat):Int):=by rw[←Int.natCast_mul,gL (Int.natCast_nonneg _) (by omega)]
  have f2':IntKind.u64.wrap ((d:Int)*((x/4294967296:Nat):Int))=((d*(x/4294967296):Nat):Int):=by rw[←Int.natCast_mul,gL (Int.natCast_nonneg _) (by omega)]
  have ht:=aLI p i d hx';have hle:=zLO x (aL1 p (i+1));have hsum:d*(x%4294967296)*4294967296^i+d*(x/4294967296)*4294967296^(i+1)=d*4294967296^i*x:=by
   have e:x%4294967296+x/4294967296*4294967296=x:=by omega
   calc d*(x%4294967296)*4294967296^i+d*(x/4294967296)*4294967296^(i+1)
     =d*4294967296^i*(x%4294967296+x/4294967296*4294967296):=by rw[zLQ,Nat.mul_add];ac_rfl
    _=_:=by rw[e]
  have htx:jM (p.take (i+1))*x=jM (p.take i)*x+d*4294967296^i*x:=by rw[ht,zLE]
  simp only[lw,g1,p1,p2,f1',cG,reduceIte];refine aQJ O' hd' i _ (by omega) (by omega) (by rw[hl',hv];omega) (by omega) λh3 l3 O3 hd3 hl3 hv3 u3=>?_;have Sw3:=Sw.upd u3 hF1r;obtain⟨pb,q1,q2⟩:=aLX Sw3.slR hx';rw[p1] at q1;obtain rfl:pa=pb:=by simpa using q1
  simp only[gi,p1,q2,f2',cG,reduceIte];refine aQJ O3 hd3 (i+1) _ (by omega) (by omega) (by rw[hl3,hl',hv3,hv];omega) (by omega) λh4 l4 O4 hd4 hl4 hv4 u4=>?_
  try simp only[gi,cG,reduceIte]
  refine⟨⟨i+1,l4,by omega,rfl,O4,hd4,by omega,by rw[hv4,hv3,hv];omega,(u.trans u3).trans u4⟩,?_⟩;simp only[gU,sA,pK];omega
 ·have g1:((i:Int)<(p.length:Int))=False:=eq_false (by omega);simp only[lw,g1,cG,reduceIte];rw[mW (by omega)] at hv;exact hk h' _ l' [r] O' hd' (by omega) (by rw[hv,hv1]) (eD.one hr0) ((u1.trans u2).fresh u (eD.one hr0))
end
end Go.Proofs.YtppgkeodaejgcaaGreatDoor
