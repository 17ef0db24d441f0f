/- The texts of this claim, put together. -/
import Derived.Test.YtcoajnpchhmgjaaGreatDoorDdVC3
import Derived.WalkKit
import Derived.ProofKit
import Derived.ChangeMaps5
import Derived.Lib.UnsafeStr
set_option linter.unusedSimpArgs false
set_option linter.unusedVariables false
set_option linter.unusedSectionVars false
set_option maxRecDepth 100000
open Go.Instr (loadAt fieldAt indexAt extract buildSlice build)
namespace Go.Proofs.YtcoajnpchhmgjaaGreatDoor
open Go
theorem gD{x:Int}(h1: -9223372036854775808≤x)(h2:x≤9223372036854775807):IntKind.i64.wrap x=x:=IntWalk.i64_in _ ⟨h1,h2⟩
def jP(n:Nat)(i:Nat):List Value->PH->Nat:=λvs _=>match vs[i]? with
 | some (.int _ j)=>n-j.toNat
 | _=>0
def gQ(h:PH)(F:List Nat):Prop:=∀b∈F,h b=none
theorem gQ.one{h:PH}{a:Nat}(ha:h a=none):gQ h [a]:=λb hb=>by simp at hb;subst hb;exact ha
theorem fE.none{h h1:PH}(u:fE h h1){b:Nat}(hb:h1 b=none):h b=none:=by
 cases e:h b with
 | none=>rfl
 | some o=>rw[u.get e] at hb;cases hb
theorem gQ.grow{h h1:PH}{F F':List Nat}(f:gQ h F)(u:fE h h1)(hg:∀b∈F',b∈F∨h1 b=none):gQ h F':=λb hb=>by
 rcases hg b hb with h1|h1
 ·exact f b h1
 ·exact u.none h1
theorem gQ.of{h h1:PH}{F:List Nat}(f:gQ h1 F)(u:fE h h1):gQ h F:=λb hb=>u.none (f b hb)
theorem fE.trans{h h1 h2:PH}(u:fE h h1)(v:fE h1 h2):fE h h2:=eW.trans u v
theorem fE.fresh{h h1 h2:PH}{F:List Nat}(u:fE h h1)(v:eW F h1 h2)(f:gQ h F):fE h h2:=λb o hb _=>
 v b o (u.get hb) λhm=>by rw[f b hm] at hb;cases hb
theorem gU.ext{h h':PH}{e:TypeId}{size:Nat}{v:Value}{rows:List (List Value)}{F:List Nat}(H:gU h e size v rows F)(u:fE h h'):gU h' e size v rows F:=H.upd u (by simp)
theorem iK{α:Type}{v:α}{k:α->Prop}(hk:k v):aR (aT PG (pure v)) k:=hk
theorem iZ{x:Int}(h1:0≤x)(h2:x<18446744073709551616):IntKind.u64.wrap x=x:=by
 unfold IntKind.wrap
 simp[IntKind.signed,IntKind.bits]
 omega
theorem aHz(x:Int):IntKind.u8.wrap x=x%256:=by
 unfold IntKind.wrap
 simp[IntKind.signed,IntKind.bits]
theorem aMD:yV undef=none:=(rfl)
theorem aKW{X:(Value->PH->Prop)->Prop}{h:PH}{kv:eJ}{w:Bool}:eN none w X h kv=kv undef h:=by simp[eN]
theorem eK:type_of% @aK2∧type_of% @eY∧type_of% @aMo∧type_of% @aMk∧type_of% @aLt∧type_of% @aQf∧type_of% @aQW∧type_of% @aQD∧type_of% @aQd∧type_of% @aQC∧type_of% @aQB∧type_of% @aP8∧type_of% @aM0∧type_of% @aPM∧type_of% @aOZ∧type_of% @aMO∧type_of% @aPe∧type_of% @aPa∧type_of% @aSz∧type_of% @aPh∧type_of% @aSH∧type_of% @aSd∧type_of% @aQY∧type_of% @aNE∧type_of% @aLA∧type_of% @aKX∧type_of% @aN3∧type_of% @jO∧type_of% @lR∧type_of% @oU∧type_of% @decide_true∧type_of% @decide_false∧type_of% @if_true.{0}∧type_of% @if_true.{1}∧type_of% @if_false.{0}∧type_of% @if_false.{1}∧type_of% @Bool.false_eq_true∧type_of% @Bool.not_true∧type_of% @Bool.not_false∧type_of% @List.getElem?_toArray.{0}∧type_of% @List.getElem?_cons_zero.{0}∧type_of% @List.getElem?_cons_succ.{0}∧type_of% @Option.isSome_none.{0}∧type_of% @List.length_map.{0,0}:=⟨@aK2,@eY,@aMo,@aMk,@aLt,@aQf,@aQW,@aQD,@aQd,@aQC,@aQB,@aP8,@aM0,@aPM,@aOZ,@aMO,@aPe,@aPa,@aSz,@aPh,@aSH,@aSd,@aQY,@aNE,@aLA,@aKX,@aN3,@jO,@lR,@oU,@decide_true,@decide_false,@if_true.{0},@if_true.{1},@if_false.{0},@if_false.{1},@Bool.false_eq_true,@Bool.not_true,@Bool.not_false,@List.getElem?_toArray.{0},@List.getElem?_cons_zero.{0},@List.getElem?_cons_succ.{0},@Option.isSome_none.{0},@List.length_map.{0,0}⟩
theorem eX:type_of% @aMD∧type_of% @aKW∧type_of% @Nat.zero_add∧type_of% @beq_self_eq_true.{0}∧type_of% @bne_self_eq_false.{0}∧type_of% @and_self∧type_of% @Bool.true_and∧type_of% @Bool.false_and∧type_of% @Bool.and_true∧type_of% @Bool.and_false∧type_of% @Bool.true_or∧type_of% @Bool.false_or∧type_of% @Bool.or_true∧type_of% @Bool.or_false:=⟨@aMD,@aKW,@Nat.zero_add,@beq_self_eq_true.{0},@bne_self_eq_false.{0},@and_self,@Bool.true_and,@Bool.false_and,@Bool.and_true,@Bool.and_false,@Bool.true_or,@Bool.false_or,@Bool.or_true,@Bool.or_false⟩
end Go.Proofs.YtcoajnpchhmgjaaGreatDoor
namespace Go.Proofs.YtcoajnpchhmgjaaGreatDoor
open Go Go.RowKit Go.ChangeShapes
theorem aW0:Kids PG (· < PG.types.size):=kids_rows (by kernel_rfl) (by kernel_rfl)
theorem aV6:∀t e,t<PG.types.size->PG.underlying t=some (.slice e)->0<PG.cellsOf e:=slices_full_of PG (by kernel_rfl)
theorem aTA{H:Type}{enc:TypeId×Value->H}{P:Program}{w:World}{spare:Nat->Bool}{held:Bool}{t:TypeId}{v:Value}{d:DataW H}{p:List MemPlace}(hd:DataW.Trod enc P w 0 spare held t v d p):Rd enc P w spare held t v.cells.toList:=by
 obtain⟨k,hk⟩:=hd;exact⟨k,_,hk⟩
theorem aKk{n:Int}(h:(Lit.int .u64 n).wf=true):0≤n∧n<18446744073709551616:=by
 simp[Lit.wf,IntKind.min,IntKind.max,IntKind.signed,IntKind.bits] at h
 omega
end Go.Proofs.YtcoajnpchhmgjaaGreatDoor
namespace Go.Proofs.YtcoajnpchhmgjaaGreatDoor
open Go
abbrev mO:=PH->List Nat->Prop
structure mU(A:mO):Prop where
 known:∀{h F},A h F->∀b∈F,h b≠none
 upd:∀{h h' F K},A h F->eW K h h'->(∀b∈F,b∉K)->A h' F
def gF(A B:mO):mO:=λh F=>∃Fa Fb,F=Fa++Fb∧A h Fa∧B h Fb∧∀b∈Fa,b∉Fb
theorem mU.star{A B:mO}(a:mU A)(b:mU B):mU (gF A B) where
 known:=by
  rintro h F ⟨Fa,Fb,rfl,ha,hb,-⟩ x hx
  rcases kR.1 hx with hx|hx
  ·exact a.known ha x hx
  ·exact b.known hb x hx
 upd:=by
  rintro h h' F K ⟨Fa,Fb,rfl,ha,hb,hd⟩ u hK
  exact⟨Fa,Fb,rfl,a.upd ha u λx hx=>hK x (by simp[hx]),b.upd hb u λx hx=>hK x (by simp[hx]),hd⟩
theorem mU.ext{A:mO}(a:mU A){h h':PH}{F:List Nat}(H:A h F)(u:fE h h'):A h' F:=a.upd H u (by simp)
structure jZ(h:PH)(F:List Nat)(h':PH)(F':List Nat):Prop where
 upd:eW F h h'
 grow:∀b∈F',b∈F∨h b=none
theorem jZ.refl{h:PH}{F:List Nat}:jZ h F h F:=⟨eW.refl,λb hb=>.inl hb⟩
theorem jZ.ext{h h':PH}{F:List Nat}(u:fE h h'):jZ h F h' F:=⟨u.upd,λb hb=>.inl hb⟩
theorem jZ.trans{h h1 h2:PH}{F F1 F2:List Nat}(a:jZ h F h1 F1)(b:jZ h1 F1 h2 F2):jZ h F h2 F2 where
 upd:=a.upd.then b.upd a.grow
 grow:=λx hx=>by
  rcases b.grow x hx with hx|hx
  ·exact a.grow x hx
  ·by_cases hF:x∈F
   ·exact .inl hF
   ·right
    cases e:h x with
    | none=>rfl
    | some o=>have:=a.upd x o e hF;rw[hx] at this;cases this
def vX(h:PH)(F:List Nat)(A:mO)(W:mO->mO):Prop:=
 ∃Fa,A h Fa∧(∀b∈Fa,b∈F)∧∀(A':mO) (h':PH) (Fa':List Nat),A' h' Fa'->jZ h Fa h' Fa'->∃F',W A' h' F'∧jZ h F h' F'
theorem gF.left{A B:mO}(b:mU B){h:PH}{F:List Nat}(H:(gF A B) h F):vX h F A (λA'=>gF (A') B):=by
 obtain⟨Fa,Fb,rfl,ha,hb,hd⟩:=H
 refine⟨Fa,ha,λx hx=>by simp[hx],λA' h' Fa' hA s=>⟨Fa'++Fb,⟨Fa',Fb,rfl,hA,b.upd hb s.upd (λx hx hx'=>hd x hx' hx),λx hx hx'=>?_⟩,⟨λx o hx hn=>s.upd x o hx (λhm=>hn (by simp[hm])),λx hx=>?_⟩⟩⟩
 ·rcases s.grow x hx with h1|h1
  ·exact hd x h1 hx'
  ·exact b.known hb x hx' h1
 ·rcases kR.1 hx with hx|hx
  ·rcases s.grow x hx with h1|h1
   ·exact .inl (by simp[h1])
   ·exact .inr h1
  ·exact .inl (by simp[hx])
theorem gF.right{A B:mO}(a:mU A){h:PH}{F:List Nat}(H:(gF A B) h F):vX h F B (λB'=>gF A (B')):=by
 obtain⟨Fa,Fb,rfl,ha,hb,hd⟩:=H
 refine⟨Fb,hb,λx hx=>by simp[hx],λB' h' Fb' hB s=>⟨Fa++Fb',⟨Fa,Fb',rfl,a.upd ha s.upd (λx hx hx'=>hd x hx hx'),hB,λx hx hx'=>?_⟩,⟨λx o hx hn=>s.upd x o hx (λhm=>hn (by simp[hm])),λx hx=>?_⟩⟩⟩
 ·rcases s.grow x hx' with h1|h1
  ·exact hd x hx h1
  ·exact a.known ha x hx h1
 ·rcases kR.1 hx with hx|hx
  ·exact .inl (by simp[hx])
  ·rcases s.grow x hx with h1|h1
   ·exact .inl (by simp[h1])
   ·exact .inr h1
theorem vX.comp{h:PH}{F:List Nat}{A B:mO}{W V:mO->mO}(f:vX h F A W)(g:∀Fa,A h Fa->vX h Fa B V):vX h F B (λB'=>W (V B')):=by
 obtain⟨Fa,ha,hFa,c⟩:=f
 obtain⟨Fb,hb,hFb,d⟩:=g Fa ha
 refine⟨Fb,hb,λx hx=>hFa x (hFb x hx),λB' h' Fb' hB s=>?_⟩
 obtain⟨Fa',hV,s'⟩:=d B' h' Fb' hB s
 exact c _ h' Fa' hV s'
def rH(r:Nat)(cs:List Value):mO:=λh F=>F=[r]∧Bx h r cs
theorem rH.good(r:Nat)(cs:List Value):mU (rH r cs) where
 known:=by
  rintro h F ⟨rfl,B⟩ b hb
  simp only[iQ] at hb
  subst hb;exact B.known
 upd:=by
  rintro h h' F K ⟨rfl,B⟩ u hK
  exact⟨rfl,B.upd u (hK r (by simp))⟩
def wY(e:TypeId)(n:Nat)(v:Value)(rows:List (List Value)):mO:=λh F=>gU h e n v rows F
theorem wY.good(e:TypeId)(n:Nat)(v:Value)(rows:List (List Value)):mU (wY e n v rows) where
 known:=λH b hb=>gU.known H b hb
 upd:=λH u hK=>gU.upd H u hK
theorem gF.mk{A B:mO}{h:PH}{Fa Fb:List Nat}(ha:A h Fa)(hb:B h Fb)(hd:∀b∈Fa,b∉Fb):(gF A B) h (Fa++Fb):=⟨Fa,Fb,rfl,ha,hb,hd⟩
section
variable{P:Program}{h:PH}{t t' kt et:TypeId}{α:Type}[DecidableEq α]{enc:α->Value}
def aNJ(l:List (α×Value))(a:α):List (α×Value):=l.filter λp=>decide (p.1≠a)
theorem aLF{β:Type}:∀(L:List (α×β)) (a:α) (q:Nat),(L.map (·.1)).Nodup->(L.map (·.1))[q]? =some a->L.eraseIdx q=L.filter λp=>decide (p.1≠a)
 | [],a,q,_,hq=>by simp at hq
 | p::ps,a,0,hnd,hq=>by
  simp only[jT,qA,zL5] at hq
  simp only[jT,aKA] at hnd
  simp only[List.eraseIdx_cons_zero,List.filter_cons,hq,ne_eq,not_true,decide_false,zLr,if_false]
  symm
  rw[aL5]
  intro x hx
  simp only[decide_eq_true_eq]
  rintro e
  exact hnd.1 (by rw[hq,←e];exact zL4 hx)
 | p::ps,a,q+1,hnd,hq=>by
  simp only[jT,sK] at hq
  simp only[jT,aKA] at hnd
  have hne:p.1≠a:=λe=>hnd.1 (by rw[e];exact uJ hq)
  simp only[List.eraseIdx_cons_succ,List.filter_cons,hne,ne_eq,not_false_eq_true,decide_true,if_true]
  rw[aLF ps a q hnd.2 hq]
theorem aK9{β γ:Type}(f:β->γ):∀(L:List β) (q:Nat),(L.map f).eraseIdx q=(L.eraseIdx q).map f
 | [],_=>rfl
 | _::_,0=>rfl
 | x::xs,q+1=>by simp only[jT,List.eraseIdx_cons_succ,aK9 f xs q]
theorem aIw{β:Type}:∀(D L:List β),D.Nodup->(∀p∈D,p∈L)->D.length≤L.length
 | [],_,_,_=>Nat.zero_le _
 | p::ps,L,hn,hs=>by
  obtain⟨a,b,rfl⟩:=List.append_of_mem (hs p (by simp))
  simp only[aKA] at hn
  have:=aIw ps (a++b) hn.2 λq hq=>by
   have:=hs q (by simp[hq])
   simp only[kR,jG] at this ⊢
   rcases this with h|rfl|h
   ·exact .inl h
   ·exact absurd hq hn.1
   ·exact .inr h
  simp only[wT,lH] at this ⊢
  omega
theorem aQp{a:α}{L:List (α×Value×Nat)}(e2:a∉L.map (·.1)):(L.filter λp=>decide (p.1≠a))=L:=by
 rw[aL5]
 intro x hx
 simp only[decide_eq_true_eq]
 rintro e
 exact e2 (by rw[←e];exact zL4 hx)
theorem aNV(L:List (α×Value×Nat))(a:α):aNJ (L.map λp=>(p.1,p.2.1)) a=(L.filter λp=>decide (p.1≠a)).map λp=>(p.1,p.2.1):=by
 unfold aNJ
 rw[List.filter_map];rfl
theorem aQX{r:Nat}{l:List (α×Value)}(K:aIg P kt enc)(hu:P.underlying t=some (.map kt et))(H:kE enc h r l)(a:α){ts:Array TypeId}(zH:ts[0]? =some t){k:eJ}
  (hk:∀h',kE enc h' r (aNJ l a)->eW [r] h h'->k (.tuple #[]) h'):eZ P (Builtin.delete_ ts t' #[.map (some r),enc a]) h k:=by
 obtain⟨es,c,L,h1,h2,rfl,hb1,hb2⟩:=H.here
 have hnd:=H.nodup
 rw[aCv] at hnd
 unfold Builtin.delete_
 simp only[zH,zLH,qA,sK]
 show eZ P (underlying t >>= _) h _
 rw[qO hu]
 dsimp only
 refine aE7 h1 ?_
 dsimp only
 refine jV (K.chk h _ a) ?_
 rw[h2]
 refine jV (aJe K a L) ?_
 have hnd2:(uP (aNJ (L.map λp=>(p.1,p.2.1)) a)).Nodup:=by
  rw[aNV,aCv]
  exact List.Nodup.sublist (List.Sublist.map _ List.filter_sublist) hnd
 have hb3:((L.filter λp=>decide (p.1≠a)).map (·.2.2)).Nodup:=List.Nodup.sublist (List.Sublist.map _ List.filter_sublist) hb1
 have hb4:∀p∈L.filter λp=>decide (p.1≠a),p.2.2<c:=λp hp=>hb2 p (zLZ.1 hp).1
 rcases aMC a L 0 with⟨q,w,e1,e2,e3⟩|⟨e1,e2⟩
 ·rw[e1,iG]
  show(∃u,h r=some u∧(∀c e f,u≠ .cells c e f))∧_
  refine⟨⟨_,h1,by intros;simp⟩,?_⟩
  show k (.tuple #[]) _
  refine hk _ ⟨hnd2,_,c,L.filter (λp=>decide (p.1≠a)),fP,?_,aNV L a,hb3,hb4⟩ (eW.set (by simp))
  rw[←aLF L a q hnd e2]
  have hq:q<es.size:=by
   rw[←Array.length_toList,h2]
   have:=(zLx.1 e2).1
   simpa[aCF] using this
  rw[Array.eraseIdxIfInBounds,dif_pos hq,Array.toList_eraseIdx,h2]
  unfold aCF
  exact aK9 _ _ _
 ·rw[e1]
  show(∃u,h r=some u∧(∀c e f,u≠ .cells c e f))∧_
  refine⟨⟨_,h1,by intros;simp⟩,?_⟩
  show k (.tuple #[]) _
  refine hk _ ⟨hnd2,_,c,L,fP,h2,?_,hb1,hb2⟩ (eW.set (by simp))
  rw[aNV,aQp e2]
structure aBx(enc:α->Value)(h:PH)(r it:Nat)(l D:List (α×Value)):Prop where
 nodup:(uP l).Nodup
 here:∃(es:Array MapEntry) (c:Nat) (L DL:List (α×Value×Nat)) (S:Array Nat),h r=some (.map es c)∧es.toList=aCF enc L∧l=L.map (λp=>(p.1,p.2.1))∧(L.map (·.2.2)).Nodup∧(∀p∈L,p.2.2<c)∧
  h it=some (.mapIter (some r) c S c)∧S.toList=DL.map (·.2.2)∧(∀p∈DL,p∈L)∧DL.Nodup∧D=DL.map (λp=>(p.1,p.2.1))
theorem aBx.upd{h h':PH}{r it:Nat}{l D:List (α×Value)}{G:List Nat}(H:aBx enc h r it l D)(u:eW G h h')(hr:r∉G)(hi:it∉G):aBx enc h' r it l D:=by
 obtain⟨es,c,L,DL,S,h1,h2,h3,h4,h5,h6,h7⟩:=H.here
 exact⟨H.nodup,es,c,L,DL,S,u.get h1 hr,h2,h3,h4,h5,u.get h6 hi,h7⟩
theorem aBx.map{r it:Nat}{l D:List (α×Value)}(H:aBx enc h r it l D):kE enc h r l:=by
 obtain⟨es,c,L,DL,S,h1,h2,h3,h4,h5,_⟩:=H.here
 exact⟨H.nodup,es,c,L,h1,h2,h3,h4,h5⟩
theorem aBx.known{r it:Nat}{l D:List (α×Value)}(H:aBx enc h r it l D):h it≠none:=by
 obtain⟨es,c,L,DL,S,h1,h2,h3,h4,h5,h6,_⟩:=H.here;rw[h6];simp
def aOj(n:Nat)(it:Nat)(h:PH):Nat:=match h it with
 | some (.mapIter _ _ S _)=>n-S.size
 | _=>0
theorem aBx.left{r it:Nat}{l D:List (α×Value)}(H:aBx enc h r it l D)(n:Nat):aOj n it h=n-D.length:=by
 obtain⟨es,c,L,DL,S,h1,h2,h3,h4,h5,h6,h7,_,_,h8⟩:=H.here
 unfold aOj
 rw[h6]
 have:S.size=D.length:=by rw[←Array.length_toList,h7,h8];simp
 simp only[this]
theorem aBx.le{r it:Nat}{l D:List (α×Value)}(H:aBx enc h r it l D):D.length≤l.length:=by
 obtain⟨es,c,L,DL,S,h1,h2,rfl,h4,h5,h6,h7,h9,h10,rfl⟩:=H.here
 rw[kQ,kQ]
 exact aIw _ _ h10 h9
theorem aTY{r:Nat}{l:List (α×Value)}(hu:P.underlying t=some (.map kt et))(H:kE enc h r l){k:eJ}
  (hk:∀it h',h it=none->aBx enc h' r it l []->fE h h'->k (pT it 0) h'):eZ P (Instr.range t (.map (some r))) h k:=by
 obtain⟨es,c,L,h1,h2,rfl,hb1,hb2⟩:=H.here
 unfold Instr.range
 show eZ P (underlying t >>= _) h _
 rw[qO hu]
 have key:∀(X:Sem Obj) (f:Obj->Sem Value),eZ P X h (λo h'=>eZ P (f o) h' k)->eZ P (X >>= f) h k:=λX f hX=>eZ.bind (P:=P) (s:=X) hX
 refine key _ _ ?_
 refine aE7 h1 ?_
 intro it hit
 exact hk it _ hit ⟨H.nodup,es,c,L,[],#[],aQi hit h1,h2,rfl,hb1,hb2,fP,rfl,by simp,by simp,rfl⟩ (eW.new hit)
theorem aGD{β γ:Type}(f:β->γ):∀{L:List β},(L.map f).Nodup->L.Nodup
 | [],_=>List.nodup_nil
 | x::xs,hnd=>by
  simp only[jT,aKA] at hnd ⊢
  exact⟨λhm=>hnd.1 (zL4 hm),aGD f hnd.2⟩
theorem aFg{β γ:Type}{f:β->γ}:∀{L:List β},(L.map f).Nodup->∀{p q:β},p∈L->q∈L->f p=f q->p=q
 | [],_,p,q,hp,_,_=>by cases hp
 | x::xs,hnd,p,q,hp,hq,e=>by
  simp only[jT,aKA] at hnd
  rcases jG.1 hp with hp|hp
  ·rcases jG.1 hq with hq|hq
   ·rw[hp,hq]
   ·exact absurd (by rw[←hp,e];exact zL4 hq) hnd.1
  ·rcases jG.1 hq with hq|hq
   ·exact absurd (by rw[←hq,←e];exact zL4 hp) hnd.1
   ·exact aFg hnd.2 hp hq e
theorem aNx{r:Nat}{o:Obj}{β:Type}{Q:β->PH->Prop}(hr:h r=some o)(hc:∀c e f,o≠ .cells c e f){f:Obj->Sem β}(hq:eZ P (f o) h Q):eZ P (getObj r >>= f) h Q:=by
 show ∃o,h r=some o∧(∀c e f,o≠ .cells c e f)∧eZ P _ h Q
 exact⟨o,hr,hc,hq⟩
theorem aVN{r it:Nat}{l D:List (α×Value)}(H:aBx enc h r it l D){k:eJ}
  (hnil:D.Perm l->k (.tuple #[.bool false]) h)
  (hcons:∀a v h',(a,v)∈l->a∉uP D->aBx enc h' r it l (D++[(a,v)])->eW [it] h h'->k (.tuple #[.bool true,enc a,v]) h'):eZ P (Instr.next (pT it 0) false t) h k:=by
 obtain⟨es,c,L,DL,S,h1,h2,h3,hb1,hb2,hi,hS,hDL,hDn,hD⟩:=H.here
 unfold Instr.next
 refine aNx hi (by intros;simp) ?_
 dsimp only
 refine aE7 h1 ?_
 dsimp only
 have hborn:∀e∈es.toList,e.born<c:=λe he=>by
  rw[h2] at he
  obtain⟨p,hp,rfl⟩:=mT.1 he
  exact hb2 p hp
 have hgo:(!S.isEmpty && !es.isEmpty&&es.all (·.born ≥ c))=false:=by
  by_cases he:es.isEmpty=true
  ·simp[he]
  ·have:es.all (·.born ≥ c)=false:=by
    rw[Bool.eq_false_iff]
    intro hall
    have hne:es.toList≠[]:=by intro e;apply he;simpa using e
    obtain⟨x,xs,hx⟩:=List.exists_cons_of_ne_nil hne
    have h1:=hborn x (by rw[hx];simp)
    have h2:=Array.all_eq_true_iff_forall_mem.1 hall x (by rw[←Array.mem_toList_iff,hx];simp)
    simp only[ge_iff_le,decide_eq_true_eq] at h2
    omega
   simp[this]
 rw[hgo]
 simp only[zLr,if_false]
 obtain⟨LL,hLL⟩:∃LL:List (α×Value×Nat),LL=L.filter λp=>decide (p.2.2∉DL.map (·.2.2)):=⟨_,rfl⟩
 have hleft:(es.filter λe=>!S.contains e.born).toList=aCF enc LL:=by
  rw[Array.toList_filter,h2,hLL]
  unfold aCF
  rw[List.filter_map]
  congr 1
  apply List.filter_congr
  intro p _
  simp only[Function.comp]
  rw[←Array.contains_toList,hS]
  by_cases hm:p.2.2∈DL.map (·.2.2)
  ·simp[hm]
  ·simp[hm]
 have hmemLL:∀p,p∈LL↔p∈L∧p.2.2∉DL.map (·.2.2):=λp=>by rw[hLL,zLZ];simp
 have hold:((es.filter λe=>!S.contains e.born).filter (·.born<c)).toList=aCF enc LL:=by
  rw[Array.toList_filter,hleft,aL5]
  intro e he
  obtain⟨p,hp,rfl⟩:=mT.1 he
  simpa using hb2 p ((hmemLL p).1 hp).1
 have hnew:((es.filter λe=>!S.contains e.born).filter (·.born ≥ c))= #[]:=by
  rw[←Array.toList_inj,Array.toList_filter,hleft]
  show _=[]
  rw[List.filter_eq_nil_iff]
  intro e he
  obtain⟨p,hp,rfl⟩:=mT.1 he
  have:=hb2 p ((hmemLL p).1 hp).1
  simp only[ge_iff_le,decide_eq_true_eq];omega
 generalize ho:(es.filter λe=>!S.contains e.born).filter (·.born<c)=old at hold
 rw[hnew]
 simp only[Array.append_empty]
 by_cases hemp:LL=[]
 ·have hold0:old= #[]:=by rw[←Array.toList_inj,hold,hemp];rfl
  subst hold0
  simp only[List.isEmpty_toArray,List.isEmpty_nil,if_true,List.map_toArray,kF,Array.append_empty,List.size_toArray,wT,zLK,iG]
  rw[zZ]
  intro tt
  have:(if Question.forced (.mapNext 1) then 0 else Question.cut (.mapNext 1) tt)=0:=by simp[Question.forced]
  rw[this]
  show k (.tuple #[.bool false]) h
  refine hnil ?_
  rw[hD,h3]
  apply List.Perm.map
  refine(List.perm_ext_iff_of_nodup hDn ?_).2 λp=>⟨hDL p,λhp=>?_⟩
  ·exact aGD _ hb1
  ·by_cases hm:p.2.2∈DL.map (·.2.2)
   ·obtain⟨q,hq,e⟩:=mT.1 hm
    rw[aFg (f:=λp:α×Value×Nat=>p.2.2) hb1 hp (hDL q hq) e.symm];exact hq
   ·have:=(hmemLL p).2 ⟨hp,hm⟩
    rw[hemp] at this;cases this
 ·have hne:old.isEmpty=false:=by
   rw[Bool.eq_false_iff]
   intro e
   have:old.toList=[]:=by simpa using e
   rw[hold] at this
   exact hemp (List.map_eq_nil_iff.1 this)
  rw[hne]
  simp only[zLr,if_false,Array.empty_append,Array.size_map]
  have hpos:0<old.size:=by
   rw[←Array.length_toList,hold]
   unfold aCF
   rw[kQ]
   exact aGv.2 hemp
  rw[zZ]
  intro tt
  obtain⟨j,hj,hjlt⟩:∃j,(if Question.forced (.mapNext old.size) then 0 else Question.cut (.mapNext old.size) tt)=j∧j<old.size:=by
   refine⟨_,rfl,?_⟩
   split
   ·exact hpos
   ·exact zLy _ hpos
  rw[hj]
  have hjl:j<LL.length:=by
   have:old.size=LL.length:=by rw[←Array.length_toList,hold];simp[aCF]
   omega
  have hget:(old.map some)[j]? =some (some ⟨enc LL[j].1,LL[j].2.1,LL[j].2.2⟩):=by
   rw[Array.getElem?_map,←aJ2,hold]
   simp[aCF,hjl]
  rw[hget]
  dsimp only
  have hp:=(hmemLL LL[j]).1 (aKc hjl)
  generalize LL[j]=p at hp
  obtain⟨hpL,hpD⟩:=hp
  show(∃u,h it=some u∧(∀c e f,u≠ .cells c e f))∧_
  refine⟨⟨_,hi,by intros;simp⟩,?_⟩
  have hri:r≠it:=λe=>by rw[e,hi] at h1;cases h1
  refine hcons p.1 p.2.1 _ ?_ ?_ ⟨H.nodup,es,c,L,DL++[p],S.push p.2.2,(by rw[qK hri];exact h1),h2,h3,hb1,hb2,fP,?_,?_,?_,?_⟩ (eW.set (by simp))
  ·rw[h3];exact zL4 hpL
  ·intro hm
   rw[hD,aCv] at hm
   obtain⟨q,hq,e⟩:=mT.1 hm
   have hnd:=H.nodup
   rw[h3,aCv] at hnd
   have hqL:=hDL q hq
   have:q=p:=aFg (f:=λp:α×Value×Nat=>p.1) hnd hqL hpL e
   exact hpD (by rw[←this];exact zL4 hq)
  ·rw[Array.toList_push,hS];simp
  ·intro q hq
   rcases kR.1 hq with hq|hq
   ·exact hDL q hq
   ·simp only[iQ] at hq;subst hq;exact hpL
  ·rw[List.nodup_append]
   refine⟨hDn,by simp,?_⟩
   intro x hx y hy
   simp only[iQ] at hy
   subst hy
   rintro rfl
   exact hpD (zL4 hx)
  ·rw[hD];simp
theorem aUS{r it:Nat}{l D:List (α×Value)}{a:α}{v:Value}(H:aBx enc h r it l (D++[(a,v)])){k:eJ}(hk:k (.tuple #[enc a,v]) h):eZ P (Instr.entry (pT it 0)) h k:=by
 obtain⟨es,c,L,DL,S,h1,h2,h3,hb1,hb2,hi,hS,hDL,hDn,hD⟩:=H.here
 obtain⟨DL',p,rfl,hp1⟩:∃DL' p,DL=DL'++[p]∧(a,v)=(p.1,p.2.1):=by
  rcases List.eq_nil_or_concat DL with rfl|⟨DL',p,rfl⟩
  ·simp at hD
  ·refine⟨DL',p,by simp,?_⟩
   simp only[List.concat_eq_append,rL,jT,kF] at hD
   have:=List.append_inj_right' hD rfl
   simpa using this
 simp only[Prod.mk.injEq] at hp1
 obtain⟨rfl,rfl⟩:=hp1
 have hpL:=hDL p (by simp)
 unfold Instr.entry
 refine aNx hi (by intros;simp) ?_
 dsimp only
 have hback:S.back? =some p.2.2:=by
  rw[←Array.getLast?_toList,hS];simp
 rw[hback]
 dsimp only
 refine aE7 h1 ?_
 dsimp only
 simp only[bne_self_eq_false,zLr,if_false]
 have hfind:es.find? (·.born==p.2.2)=some ⟨enc p.1,p.2.1,p.2.2⟩:=by
  rw[←Array.find?_toList,h2]
  unfold aCF
  rw[List.find?_map]
  have:L.find? ((λe:MapEntry=>e.born==p.2.2) ∘ λp=>⟨enc p.1,p.2.1,p.2.2⟩)=some p:=by
   cases hf:L.find? ((λe:MapEntry=>e.born==p.2.2) ∘ λp=>⟨enc p.1,p.2.1,p.2.2⟩) with
   | none=>
    rw[List.find?_eq_none] at hf
    have:=hf p hpL
    simp at this
   | some q=>
    have hq:=List.mem_of_find?_eq_some hf
    have he:=List.find?_some hf
    simp only[Function.comp,beq_iff_eq] at he
    rw[aFg (f:=λp:α×Value×Nat=>p.2.2) hb1 hq hpL he]
  rw[this];rfl
 rw[hfind]
 exact hk
end
structure Pk where
 f:Int
 s:Int
 t:Int
 d:ByteArray
 deriving DecidableEq
instance:Inhabited Pk:=⟨⟨0,0,0,⟨#[]⟩⟩⟩
def Pk.cells(p:Pk):List Value:=[.int .i64 p.f,.int .u64 p.s,.int .u64 p.t,.string p.d]
theorem Bx.pk{h:PH}{r:Nat}{cs:List Value}(H:Bx h r cs){o:Nat}{p:Pk}(ho:(cs.drop o).take 4=p.cells):bT PG h (loadAt bR (pT r o))=some (.agg p.cells.toArray):=by
 obtain⟨e,h1⟩:=H
 have hl:o+4≤cs.length:=by
  have:((cs.drop o).take 4).length=4:=by rw[ho];rfl
  rw[vZ,wL] at this;omega
 rw[bR.loadAgg h1 (by simpa using hl)]
 congr 2
 rw[←ho];simp[zLv]
def Pk.right(p:Pk):Bool:=decide (0≤p.f)&&decide (p.f≤1)&&decide (p.s≠0)&&decide (p.t≠0)&&decide (p.d.size≤64)
theorem aL7{h:PH}(p:Pk){k:eJ}(hk:∀h',fE h h'->k (.int .i64 (if p.right then 0 else 1)) h'):cR PG aBA #[.agg p.cells.toArray] h k:=by
 apply aGL.call
 unfold aGL
 intro r hr
 rw[eY]
 have u:fE h (h.set r (.cells (Value.cells (.agg p.cells.toArray)) bR)):=eW.new hr
 have b:Bx (h.set r (.cells (Value.cells (.agg p.cells.toArray)) bR)) r p.cells:=Bx.new
 generalize h.set r (.cells (Value.cells (.agg p.cells.toArray)) bR)=h1 at *
 have c0:fH h1 ⟨r,0,none⟩=some (.int .i64 p.f):=b.cell 0
 have c1:fH h1 ⟨r,0+1,none⟩=some (.int .u64 p.s):=b.cell 1
 have c2:fH h1 ⟨r,0+2,none⟩=some (.int .u64 p.t):=b.cell 2
 have c3:fH h1 ⟨r,0+3,none⟩=some (.string p.d):=b.cell 3
 have hk:=hk h1 u
 unfold Pk.right at hk
 simp only[bR.f0,bR.f1,bR.f2,bR.f3,dR.load,dT.load,cT.load,c0,eK,reduceIte]
 by_cases d1:p.f<0
 ·have e1:(0≤p.f)=False:=by apply eq_false;omega
  simp only[bR.f0,bR.f1,bR.f2,bR.f3,dR.load,dT.load,cT.load,c0,d1,e1,wU,decide_false,eK,reduceIte] at hk ⊢
  exact hk
 ·have e1:(0≤p.f)=True:=by apply eq_true;omega
  by_cases d2:1<p.f
  ·have e2:(p.f≤1)=False:=by apply eq_false;omega
   simp only[bR.f0,bR.f1,bR.f2,bR.f3,dR.load,dT.load,cT.load,c0,d1,e1,d2,e2,wU,aFZ,decide_false,eK,reduceIte] at hk ⊢
   exact hk
  ·have e2:(p.f≤1)=True:=by apply eq_true;omega
   by_cases d3:p.s=0
   ·have e3:(p.s==0)=true:=by simp[d3]
    have e3':(p.s≠0)=False:=by simp[d3]
    simp only[bR.f0,bR.f1,bR.f2,bR.f3,dR.load,dT.load,cT.load,c0,d1,e1,d2,e2,c1,e3,e3',wU,aFZ,decide_false,eK,reduceIte] at hk ⊢
    exact hk
   ·have e3:(p.s==0)=false:=by simp[d3]
    have e3':(p.s≠0)=True:=by simp[d3]
    by_cases d4:p.t=0
    ·have e4:(p.t==0)=true:=by simp[d4]
     have e4':(p.t≠0)=False:=by simp[d4]
     simp only[bR.f0,bR.f1,bR.f2,bR.f3,dR.load,dT.load,cT.load,c0,d1,e1,d2,e2,c1,e3,e3',c2,e4,e4',wU,aFZ,decide_false,eK,reduceIte] at hk ⊢
     exact hk
    ·have e4:(p.t==0)=false:=by simp[d4]
     have e4':(p.t≠0)=True:=by simp[d4]
     by_cases d5:p.d.size≤64
     ·have e5:((64:Int)<(p.d.size:Int))=False:=by apply eq_false;omega
      simp only[bR.f0,bR.f1,bR.f2,bR.f3,dR.load,dT.load,cT.load,c0,d1,e1,d2,e2,c1,e3,e3',c2,e4,e4',c3,mW cT.und,e5,d5,Bool.and_self,zLo,eK,reduceIte] at hk ⊢
      exact hk
     ·have e5:((64:Int)<(p.d.size:Int))=True:=by apply eq_true;omega
      simp only[bR.f0,bR.f1,bR.f2,bR.f3,dR.load,dT.load,cT.load,c0,d1,e1,d2,e2,c1,e3,e3',c2,e4,e4',c3,mW cT.und,e5,d5,aFZ,decide_false,eK,reduceIte] at hk ⊢
      exact hk
structure Nt where
 k:Int
 p:Pk
 deriving DecidableEq
def Nt.cells(n:Nt):List Value:=[.int .i64 n.k,.int .i64 n.p.f,.int .u64 n.p.s,.int .u64 n.p.t,.string n.p.d]
theorem Nt.rows(l:List Nt):lC 5 (l.map Nt.cells):=λr hr=>by obtain⟨m,_,rfl⟩:=mT.1 hr;rfl
def Nt.right(n:Nt):Bool:=decide (1≤n.k)&&decide (n.k≤4)&&n.p.right
theorem aR2(x:Int):aT PG (convert dT fR (.int .u64 x))=some (.int .u8 (IntKind.u8.wrap x)):=by kernel_rfl
theorem aKp(x:Int):iP PG (buildSlice fC 1 #[(0,.int .u8 x)])=some (.cells #[.int .u8 x] fR,λr=>pure (.slice (some ⟨r,0,none⟩) 1 1)):=by kernel_rfl
theorem tJ{h:PH}{n c:Nat}(hn:n<18446744073709551616)(hc:c≤1000){k:eJ}(hk:∀h',fE h h'->k (.string (tx (be n c))) h'):cR PG kC #[.int .u64 n,.int .i64 c] h k:=by
 apply aBb.call
 unfold aBb
 refine⟨λvs h'=>∃i:Nat,i≤c∧vs=[.int .u64 ((n/256^i:Nat):Int),.int .i64 c,.string (tx ((be n c).drop (c-i))),.int .i64 i]∧fE h h',jP c 3,⟨0,by omega,by rw[aKV (by rw[jQ];omega)];simp[aW7],eW.refl⟩,?_⟩
 rintro ρ h' ⟨i,hi,hvs,w⟩
 simp only[jT,kF,mQ,and_true] at hvs
 obtain⟨s0,s1,s2,s3⟩:=hvs
 rw[s0,s1,s2,s3]
 unfold aFm
 by_cases hlt:i<c
 ·have hd:((i:Int)<(c:Int))=True:=by apply eq_true;omega
  have hle:n/256^i≤n:=Nat.div_le_self _ _
  have e1:Int.tmod ((n/256^i:Nat):Int) 256=((n/256^i%256:Nat):Int):=(Int.ofNat_tmod _ 256).symm
  have e2:IntKind.u8.wrap ((n/256^i%256:Nat):Int)=((UInt8.ofNat (n/256^i%256)).toNat:Int):=by rw[aHz];simp
  have e3:IntKind.u64.wrap (Int.tdiv ((n/256^i:Nat):Int) 256)=((n/256^(i+1):Nat):Int):=by
   have:Int.tdiv ((n/256^i:Nat):Int) 256=((n/256^i/256:Nat):Int):=rfl
   have hd2:n/256^i/256=n/256^(i+1):=by rw[Nat.div_div_eq_div_mul,zLO]
   rw[this,hd2]
   exact iZ (Int.natCast_nonneg _) (by have:=Nat.div_le_self n (256^(i+1));omega)
  have ei:IntKind.i64.wrap ((i:Int)+1)=((i+1:Nat):Int):=by rw[gD (by omega) (by omega)];omega
  simp only[hd,aHU (show(256:Int)≠0 by decide),aKb (show(256:Int)≠0 by decide),e1,aR2,e2,aKp,eK,reduceIte]
  intro r hr
  refine iK ?_
  have u1:fE h' (h'.set r (.cells #[.int .u8 (UInt8.ofNat (n/256^i%256)).toNat] fR)):=eW.new hr
  have s1:iR (h'.set r (.cells #[.int .u8 (UInt8.ofNat (n/256^i%256)).toNat] fR)) 1 (.slice (some ⟨r,0,none⟩) 1 1) ([UInt8.ofNat (n/256^i%256)].map kL):=(gU.lit (kL.rows [_]) fP (by simp) (by decide) (by simp[kL])).slR
  generalize h'.set r (.cells #[.int .u8 (UInt8.ofNat (n/256^i%256)).toNat] fR)=h1 at *
  have hcv:=aEf fC.und fR.und cT.und s1
  have hcv':bT PG h1 (convert fC cT (.slice (some ⟨r,0,none⟩) 1 1))=some (.string (tx [UInt8.ofNat (n/256^i%256)])):=hcv
  have hadd:aT PG (binOp .add cT (.string (tx [UInt8.ofNat (n/256^i%256)])) (.string (tx ((be n c).drop (c-i)))))=some (.string (tx ((be n c).drop (c-(i+1))))):=by
   rw[mR (by rw[wL,jQ];simp;omega)]
   congr 3
   have hg:=aMR n c (c-(i+1)) (by omega)
   have:c-1-(c-(i+1))=i:=by omega
   rw[this] at hg
   obtain⟨hlt',hg'⟩:=zLx.1 hg
   rw[aL1 hlt',hg']
   have:c-(i+1)+1=c-i:=by omega
   rw[this];rfl
  simp only[hcv',hadd,e3,ei,eK,reduceIte]
  exact⟨⟨i+1,by omega,rfl,w.trans u1⟩,by simp[jP,s3];omega⟩
 ·have hd:((i:Int)<(c:Int))=False:=by apply eq_false;omega
  have hic:i=c:=by omega
  subst hic
  rw[Nat.sub_self,zLa]
  simp only[hd,eK,reduceIte]
  exact hk _ w
abbrev W:=BitVec 32
def wv(x:W):Value:=.int .u32 (x.toNat:Int)
def tn(x:W)(n:Nat):W:=(x <<< (32-n)) ||| (x>>>n)
def w4(a b c d:UInt8):W:=((((BitVec.ofNat 32 a.toNat) <<< 24) ||| ((BitVec.ofNat 32 b.toNat) <<< 16)) ||| ((BitVec.ofNat 32 c.toNat) <<< 8)) ||| (BitVec.ofNat 32 d.toNat)
def wat(b:List UInt8)(t:Nat):W:=w4 (b.getD (4*t) 0) (b.getD (4*t+1) 0) (b.getD (4*t+2) 0) (b.getD (4*t+3) 0)
def aLc(l:List W)(t:Nat):W:=
 let x:=l.getD (t-15) 0
 let y:=l.getD (t-2) 0
 ((l.getD (t-16) 0+((tn x 7 ^^^ tn x 18) ^^^ (x>>>3)))+l.getD (t-7) 0)+((tn y 17 ^^^ tn y 19) ^^^ (y>>>10))
def xT(b:List UInt8)(n:Nat):List W:=(List.range n).map (wat b)
def nR(b:List UInt8):Nat->List W
 | 0=>xT b 16
 | n+1=>nR b n++[aLc (nR b n) (n+16)]
def aFA(b:List UInt8):List W:=nR b 48
theorem aF9(b:List UInt8)(n:Nat):(xT b n).length=n:=by simp[xT]
theorem aLp(b:List UInt8)(n:Nat):xT b (n+1)=xT b n++[wat b n]:=by simp[xT,List.range_succ]
theorem aIf(b:List UInt8):∀n,(nR b n).length=n+16
 | 0=>by simp[nR,aF9]
 | n+1=>by simp only[nR,lH,aIf b n,zLQ]
theorem aJd(b:List UInt8):(aFA b).length=64:=aIf b 48
structure S8 where
 (a b c d e f g h:W)
def S8.l(s:S8):List W:=[s.a,s.b,s.c,s.d,s.e,s.f,s.g,s.h]
def S8.cells(s:S8):List Value:=s.l.map wv
def S8.add(s t:S8):S8:=⟨s.a+t.a,s.b+t.b,s.c+t.c,s.d+t.d,s.e+t.e,s.f+t.f,s.g+t.g,s.h+t.h⟩
def rnd(s:S8)(k w:W):S8:=
 let t1:=(((s.h+((tn s.e 6 ^^^ tn s.e 11) ^^^ tn s.e 25))+((s.e &&& s.f) ^^^ (~~~s.e &&& s.g)))+k)+w
 let t2:=((tn s.a 2 ^^^ tn s.a 13) ^^^ tn s.a 22)+(((s.a &&& s.b) ^^^ (s.a &&& s.c)) ^^^ (s.b &&& s.c))
 ⟨t1+t2,s.a,s.b,s.c,s.d+t1,s.e,s.f,s.g⟩
def kT:List W:=[
 0x428a2f98,0x71374491,0xb5c0fbcf,0xe9b5dba5,0x3956c25b,0x59f111f1,0x923f82a4,0xab1c5ed5,
 0xd807aa98,0x12835b01,0x243185be,0x550c7dc3,0x72be5d74,0x80deb1fe,0x9bdc06a7,0xc19bf174,
 0xe49b69c1,0xefbe4786,0x0fc19dc6,0x240ca1cc,0x2de92c6f,0x4a7484aa,0x5cb0a9dc,0x76f988da,
 0x983e5152,0xa831c66d,0xb00327c8,0xbf597fc7,0xc6e00bf3,0xd5a79147,0x06ca6351,0x14292967,
 0x27b70a85,0x2e1b2138,0x4d2c6dfc,0x53380d13,0x650a7354,0x766a0abb,0x81c2c92e,0x92722c85,
 0xa2bfe8a1,0xa81a664b,0xc24b8b70,0xc76c51a3,0xd192e819,0xd6990624,0xf40e3585,0x106aa070,
 0x19a4c116,0x1e376c08,0x2748774c,0x34b0bcb5,0x391c0cb3,0x4ed8aa4a,0x5b9cca4f,0x682e6ff3,
 0x748f82ee,0x78a5636f,0x84c87814,0x8cc70208,0x90befffa,0xa4506ceb,0xbef9a3f7,0xc67178f2]
theorem aJK:kT.length=64:=rfl
def aHM(ws:List W)(s:S8):Nat->S8
 | 0=>s
 | n+1=>rnd (aHM ws s n) (kT.getD n 0) (ws.getD n 0)
def aJB(s:S8)(b:List UInt8):S8:=s.add (aHM (aFA b) s 64)
def S0:S8:=⟨1779033703,3144134277,1013904242,2773480762,1359893119,2600822924,528734635,1541459225⟩
def qP(s:S8)(l:List UInt8):S8×List UInt8:=if h:64≤l.length then qP (aJB s (l.take 64)) (l.drop 64) else(s,l)
termination_by l.length
decreasing_by simp;omega
theorem aHV{s:S8}{l:List UInt8}(h:l.length<64):qP s l=(s,l):=by rw[qP,dif_neg (by omega)]
theorem aHT{s:S8}{l:List UInt8}(h:64≤l.length):qP s l=qP (aJB s (l.take 64)) (l.drop 64):=by rw[qP,dif_pos h]
theorem aJ9(s:S8)(a b:List UInt8):qP s (a++b)=qP (qP s a).1 ((qP s a).2++b):=by
 by_cases h:64≤a.length
 ·have e1:(a++b).take 64=a.take 64:=by rw[zLE h]
  have e2:(a++b).drop 64=a.drop 64++b:=by rw[List.drop_append_of_le_length h]
  rw[aHT (l:=a++b) (by simp;omega),aHT h,e1,e2]
  exact aJ9 (aJB s (a.take 64)) (a.drop 64) b
 ·rw[aHV (l:=a) (by omega)]
termination_by a.length
decreasing_by simp;omega
theorem aI9(s:S8)(a:List UInt8):(qP s a).2.length<64:=by
 by_cases h:64≤a.length
 ·rw[aHT h];exact aI9 _ _
 ·rw[aHV (by omega)];show a.length<64;omega
termination_by a.length
decreasing_by simp;omega
def wb(x:W):List UInt8:=[UInt8.ofNat ((x>>>24).toNat),UInt8.ofNat ((x>>>16).toNat),UInt8.ofNat ((x>>>8).toNat),UInt8.ofNat x.toNat]
def aH0(s:S8):List UInt8:=s.l.flatMap wb
def aIA(n:Nat):List UInt8:=128::(List.replicate ((119-n%64)%64) 0++be (n*8%18446744073709551616) 8)
def pQ(l:List UInt8):List UInt8:=aH0 (qP S0 (l++aIA l.length)).1
section
variable{P:Program}{t:TypeId}{x y:W}{h:PH}
theorem aFR(x:Int):IntKind.u32.wrap x=x%4294967296:=by
 rfl
theorem aD8(x:W):BitVec.ofInt 32 (x.toNat:Int)=x:=by
 apply BitVec.eq_of_toInt_eq
 rw[BitVec.toInt_ofInt,BitVec.toInt_eq_toNat_bmod]
theorem aFK:aT P (binOp .add t (wv x) (wv y))=some (wv (x+y)):=by
 unfold wv
 rw[aOZ,aFR,BitVec.toNat_add,←Int.natCast_add]
 rfl
theorem aMu(x:W):IntKind.u32.wrap (x.toNat:Int)=x.toNat:=by
 rw[aFR]
 have:=x.isLt
 omega
theorem aOY:aT P (binOp .and t (wv x) (wv y))=some (wv (x &&& y)):=by
 have e:aT P (binOp .and t (wv x) (wv y))=some (.int .u32 (IntKind.u32.wrap ((BitVec.ofInt 32 (x.toNat:Int) &&& BitVec.ofInt 32 (y.toNat:Int)).toNat:Int))):=rfl
 rw[e,aD8,aD8,aMu];rfl
theorem aTK:aT P (binOp .or t (wv x) (wv y))=some (wv (x ||| y)):=by
 have e:aT P (binOp .or t (wv x) (wv y))=some (.int .u32 (IntKind.u32.wrap ((BitVec.ofInt 32 (x.toNat:Int) ||| BitVec.ofInt 32 (y.toNat:Int)).toNat:Int))):=rfl
 rw[e,aD8,aD8,aMu];rfl
theorem aDz:aT P (binOp .xor t (wv x) (wv y))=some (wv (x ^^^ y)):=by
 have e:aT P (binOp .xor t (wv x) (wv y))=some (.int .u32 (IntKind.u32.wrap ((BitVec.ofInt 32 (x.toNat:Int) ^^^ BitVec.ofInt 32 (y.toNat:Int)).toNat:Int))):=rfl
 rw[e,aD8,aD8,aMu];rfl
theorem aUp:aT P (Op.unary .xor (wv x))=some (wv (~~~x)):=by
 have e:aT P (Op.unary .xor (wv x))=some (.int .u32 (IntKind.u32.wrap ((BitVec.ofInt 32 4294967295 ^^^ BitVec.ofInt 32 (x.toNat:Int)).toNat:Int))):=rfl
 rw[e,aD8,aMu]
 have:BitVec.ofInt 32 4294967295 ^^^ x= ~~~x:=by
  have:BitVec.ofInt 32 4294967295=BitVec.allOnes 32:=by decide
  rw[this,BitVec.allOnes_xor]
 rw[this];rfl
theorem aI0{k:IntKind}{n:Nat}(hn:n≤32):aT P (binOp .shr t (wv x) (.int k n))=some (wv (x>>>n)):=by
 unfold wv
 rw[aIL (by omega)]
 congr 2
 rw[BitVec.toNat_ushiftRight,Nat.shiftRight_eq_div_pow]
 have e:min ((n:Int).toNat) (IntKind.u32.bits)=n:=by
  show min n 32=n
  omega
 rw[e,Int.fdiv_eq_ediv_of_nonneg _ (Int.pow_nonneg (by decide)),Int.natCast_ediv,Int.natCast_pow]
 rfl
theorem aMj{k:IntKind}{n:Nat}(hn:n≤32):aT P (binOp .shl t (wv x) (.int k n))=some (wv (x <<< n)):=by
 unfold wv
 rw[aO4 (by omega)]
 congr 2
 have e:min ((n:Int).toNat) (IntKind.u32.bits)=n:=by
  show min n 32=n
  omega
 rw[e,aFR,BitVec.toNat_shiftLeft,Nat.shiftLeft_eq,Int.natCast_emod,Int.natCast_mul,Int.natCast_pow]
 rfl
end
theorem aJD(x:Int):aT PG (convert dR oL (.int .i64 x))=some (.int .u64 (IntKind.u64.wrap x)):=by kernel_rfl
theorem aQa(x:Int):aT PG (convert fR eP (.int .u8 x))=some (.int .u32 (IntKind.u32.wrap x)):=by kernel_rfl
theorem aU3(x:Int):aT PG (convert eP fR (.int .u32 x))=some (.int .u8 (IntKind.u8.wrap x)):=by kernel_rfl
theorem aXX:∀n:Fin 32,((BitVec.ofInt 64 (18446744073709551616-(n.val:Int)) &&& BitVec.ofInt 64 31).toNat:Int)=(32-(n.val:Int))%32:=by decide
theorem aWk(n:Nat)(h1:1≤n)(h2:n≤31):aT PG (binOp .and oL (.int .u64 (18446744073709551616-(n:Int))) (.int .u64 31))=some (.int .u64 ((32-n:Nat):Int)):=by
 have e:aT PG (binOp .and oL (.int .u64 (18446744073709551616-(n:Int))) (.int .u64 31))=some (.int .u64 (IntKind.u64.wrap ((BitVec.ofInt 64 (18446744073709551616-(n:Int)) &&& BitVec.ofInt 64 31).toNat:Int))):=rfl
 have:=aXX ⟨n,by omega⟩
 simp only at this
 rw[e,this,iZ (by omega) (by omega)]
 congr 2
 omega
theorem aDU{h:PH}{x:W}{n:Nat}(h1:1≤n)(h2:n≤31){k:eJ}(hk:k (wv (tn x n)) h):cR PG qT #[wv x,.int .i64 n] h k:=by
 apply aJa.call
 unfold aJa
 have e1:aT PG (Op.unary .neg (.int .i64 (n:Int)))=some (.int .i64 (-(n:Int))):=by
  have:aT PG (Op.unary .neg (.int .i64 (n:Int)))=some (.int .i64 (IntKind.i64.wrap (0-(n:Int)))):=rfl
  rw[this,gD (by omega) (by omega)];simp
 simp only[e1,eK,reduceIte]
 apply xH.call
 unfold xH
 have e2:IntKind.u64.wrap (-(n:Int))=18446744073709551616-(n:Int):=by
  unfold IntKind.wrap
  simp[IntKind.signed,IntKind.bits]
  omega
 have e3:IntKind.u64.wrap (32-((32-n:Nat):Int))=((n:Nat):Int):=by rw[iZ (by omega) (by omega)];omega
 simp only[aJD,e2,aWk n h1 h2,aMO,e3,aMj (show 32-n≤32 by omega),aI0 (show n≤32 by omega),aTK,eK,reduceIte]
 exact hk
theorem aQV{l r:List Value}{x v:Value}{n:Nat}(hn:n=l.length):(l++x::r).toArray.setIfInBounds n v=(l++v::r).toArray:=by
 subst hn
 apply zLt
 simp
def zs(n:Nat):List Value:=List.replicate n (wv 0)
theorem aQN(n:Nat):zs (n+1)=wv 0::zs n:=rfl
theorem aKy{b:Nat}{j:Int}(h0:0≤j)(h1:j<64):aT PG (indexAt gZ (pT b 0) (.int .i64 j))=some (pT b j.toNat):=by
 rw[aA5 gZ.und eP.info eP.size h0 (by exact_mod_cast h1)]
 simp
theorem at8{b:Nat}{j:Int}(h0:0≤j)(h1:j<8):aT PG (indexAt gO (pT b 0) (.int .i64 j))=some (pT b j.toNat):=by
 rw[aA5 gO.und eP.info eP.size h0 (by exact_mod_cast h1)]
 simp
theorem isw(x:W):iF (wv x)=true:=rfl
theorem aKu{h:PH}{b o:Nat}{l:List W}{r:List Value}{t:TypeId}{fr:Nat×Nat}(hb:h b=some (.cells (l.map wv++r).toArray t fr))(ho:o<l.length):fH h ⟨b,o,none⟩=some (wv (l.getD o 0)):=by
 unfold fH
 simp only[hb]
 rw[zLH,List.getElem?_append_left (by simpa using ho),zLW,nM ho]
 simp[aAN,nM ho]
theorem w8(x:UInt8):Value.int .u32 (IntKind.u32.wrap (x.toNat:Int))=wv (BitVec.ofNat 32 x.toNat):=by
 have hx:=x.toNat_lt
 unfold wv
 rw[aFR,BitVec.toNat_ofNat]
 congr 1
theorem aX7{t:TypeId}{x:W}{k:IntKind}:aT PG (binOp .shl t (wv x) (.int k 24))=some (wv (x <<< 24)):=aMj (n:=24) (by decide)
theorem aXv{t:TypeId}{x:W}{k:IntKind}:aT PG (binOp .shl t (wv x) (.int k 16))=some (wv (x <<< 16)):=aMj (n:=16) (by decide)
theorem sh8{t:TypeId}{x:W}{k:IntKind}:aT PG (binOp .shl t (wv x) (.int k 8))=some (wv (x <<< 8)):=aMj (n:=8) (by decide)
theorem sr3{t:TypeId}{x:W}{k:IntKind}:aT PG (binOp .shr t (wv x) (.int k 3))=some (wv (x>>>3)):=aI0 (n:=3) (by decide)
theorem aWJ{t:TypeId}{x:W}{k:IntKind}:aT PG (binOp .shr t (wv x) (.int k 10))=some (wv (x>>>10)):=aI0 (n:=10) (by decide)
theorem z64:fY PG gZ=(zs 64).toArray:=by rw[gZ.zc];rfl
theorem z8:fY PG gO=(zs 8).toArray:=by rw[gO.zc];rfl
theorem aTM{b:List UInt8}(hb:b.length=64){i r1 r3:Nat}(hi:i<16){h:PH}{R:eJ}{n5:jE}
  (h3:h r3=some (.cells ((xT b i).map wv++zs (64-i)).toArray gZ (0,0)))
  (hn:n5 [.string (tx b),pT r1 0,pT r3 0,.int .i64 ((i+1:Nat):Int)] (h.set r3 (.cells ((xT b (i+1)).map wv++zs (64-(i+1))).toArray gZ (0,0)))):
  aF0 R n5 (.string (tx b)) (pT r1 0) (pT r3 0) (.int .i64 (i:Int)) h:=by
 unfold aF0
 have e1:((i:Int)<16)=True:=eq_true (by omega)
 have e2:IntKind.i64.wrap (4*(i:Int))=((4*i:Nat):Int):=by rw[gD (by omega) (by omega)];omega
 have e3:IntKind.i64.wrap (((4*i:Nat):Int)+4)=((4*i+4:Nat):Int):=by rw[gD (by omega) (by omega)];omega
 have e4:IntKind.i64.wrap ((i:Int)+1)=((i+1:Nat):Int):=by rw[gD (by omega) (by omega)];omega
 have ec:aT PG (Instr.sliceAt cT (.string (tx b)) (some (.int .i64 ((4*i:Nat):Int))) (some (.int .i64 ((4*i+4:Nat):Int))) none)=some (.string (tx ((b.take (4*i+4)).drop (4*i)))):=
  aHJ cT.und (.inr ⟨_,rfl⟩) (.inr ⟨_,rfl⟩) (by omega) (by omega)
 have ix:∀j,j<4->((b.take (4*i+4)).drop (4*i))[j]? =some (b.getD (4*i+j) 0):=λj hj=>by
  rw[aJ7,aGj,if_pos (by omega),aAN,nM (by omega)];rfl
 have i0:aT PG (Instr.index cT (.string (tx ((b.take (4*i+4)).drop (4*i)))) (.int .i64 0))=_:=aAS (j:=0) cT.und (ix 0 (by omega))
 have i1:aT PG (Instr.index cT (.string (tx ((b.take (4*i+4)).drop (4*i)))) (.int .i64 1))=_:=aAS (j:=1) cT.und (ix 1 (by omega))
 have i2:aT PG (Instr.index cT (.string (tx ((b.take (4*i+4)).drop (4*i)))) (.int .i64 2))=_:=aAS (j:=2) cT.und (ix 2 (by omega))
 have i3:aT PG (Instr.index cT (.string (tx ((b.take (4*i+4)).drop (4*i)))) (.int .i64 3))=_:=aAS (j:=3) cT.und (ix 3 (by omega))
 have ea:=aKy (b:=r3) (j:=(i:Int)) (by omega) (by omega)
 rw[sM] at ea
 simp only[e1,e2,e3,e4,ec,i0,i1,i2,i3,aQa,w8,aX7,aXv,sh8,aTK,ea,eK,reduceIte]
 refine jY eP.und rfl h3 (by simp[aF9,zs];omega) (isw _) eP.info eP.size ?_
 have es:((xT b i).map wv++zs (64-i)).toArray.setIfInBounds i (wv (w4 (b.getD (4*i+0) 0) (b.getD (4*i+1) 0) (b.getD (4*i+2) 0) (b.getD (4*i+3) 0)))=((xT b (i+1)).map wv++zs (64-(i+1))).toArray:=by
  rw[show 64-i=(64-(i+1))+1 by omega,aQN,aQV (by simp[aF9]),aLp]
  simp[wat]
 have es':=es
 unfold w4 at es'
 rw[es']
 exact hn
theorem aRc{b:List UInt8}{i r1 r3:Nat}(hi:i<48){h:PH}{R:eJ}{n5:jE}
  (h3:h r3=some (.cells ((nR b i).map wv++zs (48-i)).toArray gZ (0,0)))
  (hn:n5 [pT r1 0,pT r3 0,.int .i64 ((i+1+16:Nat):Int)] (h.set r3 (.cells ((nR b (i+1)).map wv++zs (48-(i+1))).toArray gZ (0,0)))):
  aFQ R n5 (pT r1 0) (pT r3 0) (.int .i64 ((i+16:Nat):Int)) h:=by
 unfold aFQ
 have hl:=aIf b i
 have e1:(((i+16:Nat):Int)<64)=True:=eq_true (by omega)
 have e2:IntKind.i64.wrap (((i+16:Nat):Int)-15)=((i+1:Nat):Int):=by rw[gD (by omega) (by omega)];omega
 have e3:IntKind.i64.wrap (((i+16:Nat):Int)-2)=((i+14:Nat):Int):=by rw[gD (by omega) (by omega)];omega
 have e4:IntKind.i64.wrap (((i+16:Nat):Int)-16)=((i:Nat):Int):=by rw[gD (by omega) (by omega)];omega
 have e5:IntKind.i64.wrap (((i+16:Nat):Int)-7)=((i+9:Nat):Int):=by rw[gD (by omega) (by omega)];omega
 have e6:IntKind.i64.wrap (((i+16:Nat):Int)+1)=((i+1+16:Nat):Int):=by rw[gD (by omega) (by omega)];omega
 have a1:=aKy (b:=r3) (j:=((i+1:Nat):Int)) (by omega) (by omega)
 have a2:=aKy (b:=r3) (j:=((i+14:Nat):Int)) (by omega) (by omega)
 have a3:=aKy (b:=r3) (j:=((i:Nat):Int)) (by omega) (by omega)
 have a4:=aKy (b:=r3) (j:=((i+9:Nat):Int)) (by omega) (by omega)
 have a5:=aKy (b:=r3) (j:=((i+16:Nat):Int)) (by omega) (by omega)
 rw[sM] at a1 a2 a3 a4 a5
 have c1:=aKu (o:=i+1) h3 (by omega)
 have c2:=aKu (o:=i+14) h3 (by omega)
 have c3:=aKu (o:=i) h3 (by omega)
 have c4:=aKu (o:=i+9) h3 (by omega)
 simp only[e1,e2,e3,e4,e5,a1,a2,a3,a4,eP.load,c1,c2,c3,c4,sr3,aWJ,eK,reduceIte]
 refine aDU (n:=7) (by decide) (by decide) ?_
 refine⟨by simp only[eP.load,c4],by simp only[eP.load,c3],?_⟩
 refine aDU (n:=18) (by decide) (by decide) ?_
 refine⟨by simp only[eP.load,c4],by simp only[eP.load,c3],?_⟩
 simp only[aDz,aFK,eK,reduceIte]
 refine aDU (n:=17) (by decide) (by decide) ?_
 refine⟨by simp only[eP.load,c4],by simp only[eP.load,c3],?_⟩
 refine aDU (n:=19) (by decide) (by decide) ?_
 refine⟨by simp only[eP.load,c4],by simp only[eP.load,c3],?_⟩
 simp only[aDz,aFK,a5,e6,eK,reduceIte]
 refine jY eP.und rfl h3 (by simp[hl,zs];omega) (isw _) eP.info eP.size ?_
 have es:((nR b i).map wv++zs (48-i)).toArray.setIfInBounds (i+16) (wv (aLc (nR b i) (i+16)))=((nR b (i+1)).map wv++zs (48-(i+1))).toArray:=by
  rw[show 48-i=(48-(i+1))+1 by omega,aQN,aQV (by simp[hl]),nR]
  simp
 have es':=es
 unfold aLc at es'
 rw[show i+16-15=i+1 by omega,show i+16-2=i+14 by omega,show i+16-16=i by omega,show i+16-7=i+9 by omega] at es'
 simp only at es'
 rw[es']
 exact hn
theorem aS9{h:PH}{b:List UInt8}(hb:b.length=64){k:eJ}(hk:∀h',fE h h'->k (.agg ((aFA b).map wv).toArray) h'):cR PG aIH #[.string (tx b)] h k:=by
 apply aFn.call
 unfold aFn
 rw[z64]
 intro r1 hr1
 try simp only[eY]
 have u1:fE h (h.set r1 (.cells (zs 64).toArray gZ)):=eW.new hr1
 have a1:(h.set r1 (.cells (zs 64).toArray gZ)) r1=some (.cells (zs 64).toArray gZ (0,0)):=fP
 generalize h.set r1 (.cells (zs 64).toArray gZ)=h1 at *
 intro r3 hr3
 try simp only[eY]
 have u3:fE h1 (h1.set r3 (.cells (zs 64).toArray gZ)):=eW.new hr3
 have a3:(h1.set r3 (.cells (zs 64).toArray gZ)) r3=some (.cells (zs 64).toArray gZ (0,0)):=fP
 have hne:r1≠r3:=λe=>by subst e;rw[a1] at hr3;cases hr3
 have n3:h r3=none:=u1.none hr3
 have b1:=u3.get a1
 generalize h1.set r3 (.cells (zs 64).toArray gZ)=h2 at *
 have u:=u1.trans u3
 refine⟨λvs h'=>∃i,i≤16∧vs=[.string (tx b),pT r1 0,pT r3 0,.int .i64 ((i:Nat):Int)]∧fE h h'∧h' r1=some (.cells (zs 64).toArray gZ (0,0))∧h' r3=some (.cells ((xT b i).map wv++zs (64-i)).toArray gZ (0,0)),jP 16 3,⟨0,by omega,rfl,u,b1,by simpa[xT] using a3⟩,?_⟩
 rintro ρ h' ⟨i,hi,hvs,u',b1',b3'⟩
 simp only[jT,kF,mQ,and_true] at hvs
 obtain⟨v0,v2,v3,v9⟩:=hvs
 simp only[v0,v2,v3,v9,jT,kF]
 by_cases hl:i<16
 ·refine aTM hb hl b3' ⟨⟨i+1,by omega,rfl,u'.fresh (eW.set (F:=[r3]) (by simp)) (gQ.one n3),by rw[qK hne];exact b1',fP⟩,?_⟩
  simp only[jP,sK,qA]
  omega
 ·have hi':i=16:=by omega
  subst hi'
  unfold aF0
  simp only[show(((16:Nat):Int)<16)=False from eq_false (by decide),eK,reduceIte]
  refine⟨λvs h'=>∃i,i≤48∧vs=[pT r1 0,pT r3 0,.int .i64 ((i+16:Nat):Int)]∧fE h h'∧h' r1=some (.cells (zs 64).toArray gZ (0,0))∧h' r3=some (.cells ((nR b i).map wv++zs (48-i)).toArray gZ (0,0)),jP 64 2,⟨0,by omega,rfl,u',b1',b3'⟩,?_⟩
  rintro ρ2 h2' ⟨i,hi,hvs,u2,c1,c3⟩
  simp only[jT,kF,mQ,and_true] at hvs
  obtain⟨v2',v3',v6'⟩:=hvs
  simp only[v2',v3',v6',jT,kF]
  by_cases hl:i<48
  ·refine aRc hl c3 ⟨⟨i+1,by omega,rfl,u2.fresh (eW.set (F:=[r3]) (by simp)) (gQ.one n3),by rw[qK hne];exact c1,fP⟩,?_⟩
   simp only[jP,sK,qA]
   omega
  ·have hi':i=48:=by omega
   subst hi'
   have hw:((nR b 48).map wv++zs (48-48)).toArray=((aFA b).map wv).toArray:=by simp[aFA,zs]
   rw[hw] at c3
   have hsz:((aFA b).map wv).toArray.size=64:=by rw[List.size_toArray,kQ,aJd]
   have hic:∀v∈((aFA b).map wv).toArray.toList,iF v=true:=λv hv=>by
    rw[List.toList_toArray,mT] at hv
    obtain⟨w,-,rfl⟩:=hv
    rfl
   generalize ((aFA b).map wv).toArray=cs at *
   unfold aFQ
   have l3:=gZ.loadAgg (o:=0) c3 (by omega)
   rw[Array.extract_eq_self_of_le (by omega)] at l3
   simp only[show(((48+16:Nat):Int)<64)=False from eq_false (by decide),l3,eK,reduceIte]
   refine aAE c1 gZ.info (by rw[hsz];rfl) (by omega) (by rw[hsz];rfl) hic ?_
   have l1:=gZ.loadAgg (h:=h2'.set r1 (.cells cs gZ (0,0))) (o:=0) fP (by omega)
   rw[Array.extract_eq_self_of_le (by omega)] at l1
   simp only[l1,eK,reduceIte]
   exact hk _ (u2.fresh (eW.set (F:=[r1]) (by simp)) (gQ.one hr1))
def oA(h:PH):Prop:=∃t fr,h 0=some (.cells (kT.map wv).toArray t fr)
theorem oA.ext{h h':PH}(H:oA h)(u:fE h h'):oA h':=by
 obtain⟨t,fr,hb⟩:=H
 exact⟨t,fr,u.get hb⟩
theorem aRi{h:PH}{b o:Nat}{l:List W}{t:TypeId}{fr:Nat×Nat}(hb:h b=some (.cells (l.map wv).toArray t fr))(ho:o<l.length):fH h ⟨b,o,none⟩=some (wv (l.getD o 0)):=by
 refine aKu (r:=[]) (t:=t) (fr:=fr) ?_ ho
 rw[zLN];exact hb
theorem aXd{h:PH}{r:Nat}{a b c d e f g x:Value}(hb:h r=some (.cells #[a,b,c,d,e,f,g,x] gO (0,0)))(hc:∀v∈[a,b,c,d,e,f,g],iF v=true){k:eJ}
  (hk:k (.int .i64 7) (h.set r (.cells #[a,a,b,c,d,e,f,g] gO (0,0)))):
  eZ PG (Builtin.copy_ #[gP,gP] dR #[.slice (some ⟨r,1,none⟩) 7 7,.slice (some ⟨r,0,none⟩) 7 8]) h k:=by
 have S:iR h 1 (.slice (some ⟨r,0,none⟩) 7 8) [[a],[b],[c],[d],[e],[f],[g]]:=by
  refine⟨λq hq=>by simp at hq;rcases hq with rfl|rfl|rfl|rfl|rfl|rfl|rfl<;>rfl,some ⟨r,0,none⟩,8,rfl,by simp,by unfold rX;omega,λ_=>⟨r,0,_,_,_,rfl,hb,by simp,by simp⟩,trivial⟩
 have hfirst:=S.first (P:=PG)
 simp only[Builtin.copy_,zLH,qA,sK,qO gP.und,mF,nO eP.info,pure_bind,Builtin.lenOf,eP.size]
 refine jV (s:=Builtin.firstCells 1 7 (.slice (some ⟨r,0,none⟩) 7 8)) (a:=#[a,b,c,d,e,f,g]) hfirst ?_
 refine eZ.bind (P:=PG) (s:=storeCells _ _) ?_
 refine uN [a,b,c,d,e,f,g] 0 h #[a,b,c,d,e,f,g,x] hb (by simp) hc ?_
 have e:(if [a,b,c,d,e,f,g]=[] then h else h.set r (.cells (xM #[a,b,c,d,e,f,g,x] (1+0) [a,b,c,d,e,f,g]) gO (0,0)))=h.set r (.cells #[a,a,b,c,d,e,f,g] gO (0,0)):=by
  rw[if_neg (by simp)]
  rfl
 rw[e]
 exact hk
theorem aXz{r:Nat}:aT PG (Instr.sliceAt gO (pT r 0) (some (.int .i64 1)) none none)=some (.slice (some ⟨r,1,none⟩) 7 7):=by kernel_rfl
theorem aX9{r:Nat}:aT PG (Instr.sliceAt gO (pT r 0) none (some (.int .i64 7)) none)=some (.slice (some ⟨r,0,none⟩) 7 8):=by kernel_rfl
theorem aVf{ws:List W}(hws:ws.length=64){s:S8}{i a r3 r10:Nat}(hi:i<64){h:PH}{R:eJ}{n:jE}(hK:oA h)
  (h3:h r3=some (.cells (ws.map wv).toArray gZ (0,0))) (h10:h r10=some (.cells #[wv s.a,wv s.b,wv s.c,wv s.d,wv s.e,wv s.f,wv s.g,wv s.h] gO (0,0)))
  (hn:∀s',s'=rnd s (kT.getD i 0) (ws.getD i 0)->n [pT a 0,pT r3 0,pT r10 0,.int .i64 ((i+1:Nat):Int)] (h.set r10 (.cells #[wv s'.a,wv s'.b,wv s'.c,wv s'.d,wv s'.e,wv s'.f,wv s'.g,wv s'.h] gO (0,0)))):
  aB9 R n (pT a 0) (pT r3 0) (pT r10 0) (.int .i64 (i:Int)) h:=by
 obtain⟨kt,fr,hK⟩:=hK
 unfold aB9
 have e1:((i:Int)<64)=True:=eq_true (by omega)
 have e4:IntKind.i64.wrap ((i:Int)+1)=((i+1:Nat):Int):=by rw[gD (by omega) (by omega)];omega
 have m:∀j:Nat,j<8->aT PG (indexAt gO (pT r10 0) (.int .i64 j))=some (pT r10 j):=λj hj=>by rw[at8 (by omega) (by omega),sM]
 have m0:aT PG (indexAt gO (pT r10 0) (.int .i64 0))=some (pT r10 0):=m 0 (by decide)
 have m1:aT PG (indexAt gO (pT r10 0) (.int .i64 1))=some (pT r10 1):=m 1 (by decide)
 have m2:aT PG (indexAt gO (pT r10 0) (.int .i64 2))=some (pT r10 2):=m 2 (by decide)
 have m4:aT PG (indexAt gO (pT r10 0) (.int .i64 4))=some (pT r10 4):=m 4 (by decide)
 have m5:aT PG (indexAt gO (pT r10 0) (.int .i64 5))=some (pT r10 5):=m 5 (by decide)
 have m6:aT PG (indexAt gO (pT r10 0) (.int .i64 6))=some (pT r10 6):=m 6 (by decide)
 have m7:aT PG (indexAt gO (pT r10 0) (.int .i64 7))=some (pT r10 7):=m 7 (by decide)
 have c0:fH h ⟨r10,0,none⟩=some (wv s.a):=by simp[fH,h10]
 have c1:fH h ⟨r10,1,none⟩=some (wv s.b):=by simp[fH,h10]
 have c2:fH h ⟨r10,2,none⟩=some (wv s.c):=by simp[fH,h10]
 have c4:fH h ⟨r10,4,none⟩=some (wv s.e):=by simp[fH,h10]
 have c5:fH h ⟨r10,5,none⟩=some (wv s.f):=by simp[fH,h10]
 have c6:fH h ⟨r10,6,none⟩=some (wv s.g):=by simp[fH,h10]
 have c7:fH h ⟨r10,7,none⟩=some (wv s.h):=by simp[fH,h10]
 have a0:=aKy (b:=0) (j:=(i:Int)) (by omega) (by omega)
 have a3:=aKy (b:=r3) (j:=(i:Int)) (by omega) (by omega)
 rw[sM] at a0 a3
 have ck:=aRi (o:=i) hK (by rw[aJK];exact hi)
 have cw:=aRi (o:=i) h3 (by omega)
 simp only[e1,m0,m1,m2,m4,m5,m6,m7,eP.load,c0,c1,c2,c4,c5,c6,c7,a0,a3,ck,cw,aOY,aDz,aUp,eK,reduceIte]
 refine aDU (n:=6) (by decide) (by decide) ?_
 simp only[eP.load,c0,c1,c2,c4,c5,c6,c7,ck,cw,true_and]
 refine aDU (n:=11) (by decide) (by decide) ?_
 simp only[eP.load,c0,c1,c2,c4,c5,c6,c7,ck,cw,true_and,aDz,eK,reduceIte]
 refine aDU (n:=25) (by decide) (by decide) ?_
 simp only[e1,m0,m1,m2,m4,m5,m6,m7,eP.load,c0,c1,c2,c4,c5,c6,c7,a0,a3,ck,cw,aOY,aDz,aUp,aFK,true_and,eK,reduceIte]
 refine aDU (n:=2) (by decide) (by decide) ?_
 simp only[eP.load,c0,c1,c2,c4,c5,c6,c7,ck,cw,true_and]
 refine aDU (n:=13) (by decide) (by decide) ?_
 simp only[eP.load,c0,c1,c2,c4,c5,c6,c7,ck,cw,true_and,aDz,eK,reduceIte]
 refine aDU (n:=22) (by decide) (by decide) ?_
 simp only[eP.load,c0,c1,c2,c4,c5,c6,c7,ck,cw,true_and,aDz,aFK,aXz,aX9,eK,reduceIte]
 refine aXd h10 (by simp[isw]) ?_
 have c4':fH (h.set r10 (.cells #[wv s.a,wv s.a,wv s.b,wv s.c,wv s.d,wv s.e,wv s.f,wv s.g] gO (0,0))) ⟨r10,4,none⟩=some (wv s.d):=by simp[fH,fP]
 simp only[m4,eP.load,c4',aFK,eK,reduceIte]
 refine jY eP.und rfl fP (by simp) (isw _) eP.info eP.size ?_
 rw[aAO]
 try simp only[m0,aFK,eK,reduceIte]
 refine jY eP.und rfl fP (by simp) (isw _) eP.info eP.size ?_
 rw[aAO]
 try simp only[e4,eK,reduceIte]
 exact hn _ rfl
def S8.some(s t:S8)(n:Nat):S8:=⟨if 0<n then s.a+t.a else s.a,if 1<n then s.b+t.b else s.b,if 2<n then s.c+t.c else s.c,if 3<n then s.d+t.d else s.d,if 4<n then s.e+t.e else s.e,if 5<n then s.f+t.f else s.f,if 6<n then s.g+t.g else s.g,if 7<n then s.h+t.h else s.h⟩
theorem S8.some8(s t:S8):s.some t 8=s.add t:=rfl
theorem aTd(s t:S8){i:Nat}(hi:i<8)(x y:Value):(#[wv (s.some t i).a,wv (s.some t i).b,wv (s.some t i).c,wv (s.some t i).d,wv (s.some t i).e,wv (s.some t i).f,wv (s.some t i).g,wv (s.some t i).h,x,y]:Array Value).setIfInBounds i (wv (s.l.getD i 0+t.l.getD i 0))=
  #[wv (s.some t (i+1)).a,wv (s.some t (i+1)).b,wv (s.some t (i+1)).c,wv (s.some t (i+1)).d,wv (s.some t (i+1)).e,wv (s.some t (i+1)).f,wv (s.some t (i+1)).g,wv (s.some t (i+1)).h,x,y]:=by
 have:i=0∨i=1∨i=2∨i=3∨i=4∨i=5∨i=6∨i=7:=by omega
 rcases this with rfl|rfl|rfl|rfl|rfl|rfl|rfl|rfl<;>rfl
theorem aUG(s t:S8){i:Nat}(hi:i<8)(x y:Value):(#[wv (s.some t i).a,wv (s.some t i).b,wv (s.some t i).c,wv (s.some t i).d,wv (s.some t i).e,wv (s.some t i).f,wv (s.some t i).g,wv (s.some t i).h,x,y]:Array Value)[i]? =Option.some (wv (s.l.getD i 0)):=by
 have:i=0∨i=1∨i=2∨i=3∨i=4∨i=5∨i=6∨i=7:=by omega
 rcases this with rfl|rfl|rfl|rfl|rfl|rfl|rfl|rfl<;>rfl
theorem aXW(t:S8){i:Nat}(hi:i<8):(#[wv t.a,wv t.b,wv t.c,wv t.d,wv t.e,wv t.f,wv t.g,wv t.h]:Array Value)[i]? =Option.some (wv (t.l.getD i 0)):=by
 have:i=0∨i=1∨i=2∨i=3∨i=4∨i=5∨i=6∨i=7:=by omega
 rcases this with rfl|rfl|rfl|rfl|rfl|rfl|rfl|rfl<;>rfl
def kV(s:S8)(x y:Value):Array Value:=#[wv s.a,wv s.b,wv s.c,wv s.d,wv s.e,wv s.f,wv s.g,wv s.h,x,y]
theorem aVO{s v:S8}{i a r10:Nat}{x y:Value}(hi:i<8){h:PH}{R:eJ}{n:jE}
  (ha:h a=Option.some (.cells (kV (s.some v i) x y) hE (0,0))) (h10:h r10=Option.some (.cells #[wv v.a,wv v.b,wv v.c,wv v.d,wv v.e,wv v.f,wv v.g,wv v.h] gO (0,0)))
  (hn:n [.pointer (Option.some ⟨a,0,none⟩),.pointer (Option.some ⟨r10,0,none⟩),.int .i64 ((i+1:Nat):Int)] (h.set a (.cells (kV (s.some v (i+1)) x y) hE (0,0)))):
  aCA R n (.pointer (Option.some ⟨a,0,none⟩)) (.pointer (Option.some ⟨r10,0,none⟩)) (.int .i64 (i:Int)) h:=by
 unfold aCA
 have e1:((i:Int)<8)=True:=eq_true (by omega)
 have e4:IntKind.i64.wrap ((i:Int)+1)=((i+1:Nat):Int):=by rw[gD (by omega) (by omega)];omega
 have m1:=at8 (b:=a) (j:=(i:Int)) (by omega) (by omega)
 have m2:=at8 (b:=r10) (j:=(i:Int)) (by omega) (by omega)
 rw[sM] at m1 m2
 have c1:fH h ⟨a,i,none⟩=Option.some (wv (s.l.getD i 0)):=by
  unfold fH
  simp only[ha]
  exact aUG s v hi x y
 have c2:fH h ⟨r10,i,none⟩=Option.some (wv (v.l.getD i 0)):=by
  unfold fH
  simp only[h10]
  exact aXW v hi
 simp only[e1,jH.f0,m1,m2,eP.load,c1,c2,aFK,eK,reduceIte]
 refine jY eP.und rfl ha (by simp[kV];omega) (isw _) eP.info eP.size ?_
 have es:=aTd s v hi x y
 change (kV (s.some v i) x y).setIfInBounds i _=kV (s.some v (i+1)) x y at es
 rw[es]
 try simp only[e4,eK,reduceIte]
 exact hn
theorem aWu{h:PH}{a:Nat}{s:S8}{x y:Value}{b:List UInt8}(hK:oA h)(hb:b.length=64)(ha:h a=Option.some (.cells (kV s x y) hE (0,0))){k:eJ}
  (hk:∀h',eW [a] h h'->h' a=Option.some (.cells (kV (aJB s b) x y) hE (0,0))->k (.tuple #[]) h'):cR PG aFe #[.pointer (Option.some ⟨a,0,none⟩),.string (tx b)] h k:=by
 apply aA6.call
 unfold aA6
 refine aS9 hb λh1 u1=>?_
 have hwl:=aJd b
 have hmx:aJB s b=s.add (aHM (aFA b) s 64):=rfl
 rw[hmx] at hk
 clear hmx
 generalize aFA b=ws at *
 have hsz:(ws.map wv).toArray.size=64:=by rw[List.size_toArray,kQ,hwl]
 have hic:∀v∈(ws.map wv).toArray.toList,iF v=true:=λv hv=>by
  rw[List.toList_toArray,mT] at hv
  obtain⟨w,-,rfl⟩:=hv
  rfl
 rw[z64,z8]
 intro r3 hr3
 try rw[eY]
 have u3:fE h1 (h1.set r3 (.cells (zs 64).toArray gZ)):=eW.new hr3
 have n3:h r3=none:=u1.none hr3
 have a3:(h1.set r3 (.cells (zs 64).toArray gZ)) r3=Option.some (.cells (zs 64).toArray gZ (0,0)):=fP
 generalize h1.set r3 (.cells (zs 64).toArray gZ)=h2 at *
 refine aAE a3 gZ.info (by rw[hsz];rfl) (by omega) (by rw[hsz];rfl) hic ?_
 have u4:fE h (h2.set r3 (.cells (ws.map wv).toArray gZ (0,0))):=(u1.trans u3).fresh (eW.set (F:=[r3]) (by simp)) (gQ.one n3)
 have a3':(h2.set r3 (.cells (ws.map wv).toArray gZ (0,0))) r3=Option.some (.cells (ws.map wv).toArray gZ (0,0)):=fP
 generalize h2.set r3 (.cells (ws.map wv).toArray gZ (0,0))=h3 at *
 have ha3:=u4.get ha
 have lA:=gO.loadAgg (o:=0) ha3 (by simp[kV])
 have lE:(kV s x y).extract 0 (0+8)= #[wv s.a,wv s.b,wv s.c,wv s.d,wv s.e,wv s.f,wv s.g,wv s.h]:=rfl
 rw[lE] at lA
 simp only[jH.f0,lA,eK,reduceIte]
 intro r10 hr10
 try rw[eY]
 have u5:fE h3 (h3.set r10 (.cells (zs 8).toArray gO)):=eW.new hr10
 have n10:h r10=none:=u4.none hr10
 have a10:(h3.set r10 (.cells (zs 8).toArray gO)) r10=Option.some (.cells (zs 8).toArray gO (0,0)):=fP
 generalize h3.set r10 (.cells (zs 8).toArray gO)=h4 at *
 refine aAE a10 gO.info rfl (by simp) rfl (by simp[isw]) ?_
 have u6:fE h (h4.set r10 (.cells #[wv s.a,wv s.b,wv s.c,wv s.d,wv s.e,wv s.f,wv s.g,wv s.h] gO (0,0))):=(u4.trans u5).fresh (eW.set (F:=[r10]) (by simp)) (gQ.one n10)
 have hne3:r3≠r10:=λe=>by subst e;rw[a3'] at hr10;cases hr10
 have a3'':(h4.set r10 (.cells #[wv s.a,wv s.b,wv s.c,wv s.d,wv s.e,wv s.f,wv s.g,wv s.h] gO (0,0))) r3=Option.some (.cells (ws.map wv).toArray gZ (0,0)):=by rw[qK hne3];exact u5.get a3'
 have a10':(h4.set r10 (.cells #[wv s.a,wv s.b,wv s.c,wv s.d,wv s.e,wv s.f,wv s.g,wv s.h] gO (0,0))) r10=Option.some (.cells #[wv s.a,wv s.b,wv s.c,wv s.d,wv s.e,wv s.f,wv s.g,wv s.h] gO (0,0)):=fP
 generalize h4.set r10 (.cells #[wv s.a,wv s.b,wv s.c,wv s.d,wv s.e,wv s.f,wv s.g,wv s.h] gO (0,0))=h5 at *
 have hne:a≠r10:=λe=>by subst e;rw[ha] at n10;cases n10
 refine⟨λvs h'=>∃i s',i≤64∧s'=aHM ws s i∧vs=[.pointer (Option.some ⟨a,0,none⟩),.pointer (Option.some ⟨r3,0,none⟩),.pointer (Option.some ⟨r10,0,none⟩),.int .i64 ((i:Nat):Int)]∧fE h h'∧h' r3=Option.some (.cells (ws.map wv).toArray gZ (0,0))∧h' r10=Option.some (.cells #[wv s'.a,wv s'.b,wv s'.c,wv s'.d,wv s'.e,wv s'.f,wv s'.g,wv s'.h] gO (0,0)),jP 64 3,⟨0,s,by omega,rfl,rfl,u6,a3'',a10'⟩,?_⟩
 rintro ρ h' ⟨i,s',hi,hs',hvs,u',b3,b10⟩
 simp only[jT,kF,mQ,and_true] at hvs
 obtain⟨v0,v4,v5,v18⟩:=hvs
 simp only[v0,v4,v5,v18,jT,kF]
 by_cases hl:i<64
 ·refine aVf hwl hl (hK.ext u') b3 b10 λs2 hs2=>⟨⟨i+1,s2,by omega,by rw[hs2,hs',aHM],rfl,u'.fresh (eW.set (F:=[r10]) (by simp)) (gQ.one n10),by rw[qK hne3];exact b3,fP⟩,?_⟩
  simp only[jP,sK,qA]
  omega
 ·have hi':i=64:=by omega
  subst hi'
  unfold aB9
  simp only[show(((64:Nat):Int)<64)=False from eq_false (by decide),eK,reduceIte]
  have hup:eW [a] h h':=u'.upd
  refine⟨λvs h2'=>∃i,i≤8∧vs=[.pointer (Option.some ⟨a,0,none⟩),.pointer (Option.some ⟨r10,0,none⟩),.int .i64 ((i:Nat):Int)]∧eW [a] h h2'∧h2' a=Option.some (.cells (kV (s.some s' i) x y) hE (0,0))∧h2' r10=Option.some (.cells #[wv s'.a,wv s'.b,wv s'.c,wv s'.d,wv s'.e,wv s'.f,wv s'.g,wv s'.h] gO (0,0)),jP 8 2,⟨0,by omega,rfl,hup,u'.get ha,b10⟩,?_⟩
  rintro ρ2 h2' ⟨i,hi,hvs,u2,ca,c10⟩
  simp only[jT,kF,mQ,and_true] at hvs
  obtain⟨v0',v5',v92'⟩:=hvs
  simp only[v0',v5',v92',jT,kF]
  by_cases hl:i<8
  ·refine aVO hl ca c10 ⟨⟨i+1,by omega,rfl,u2.trans (eW.set (by simp)),fP,by rw[qK (Ne.symm hne)];exact c10⟩,?_⟩
   simp only[jP,sK,qA]
   omega
  ·have hi':i=8:=by omega
   subst hi'
   unfold aCA
   simp only[show(((8:Nat):Int)<8)=False from eq_false (by decide),eK,reduceIte]
   refine hk _ u2 ?_
   rw[ca,S8.some8,hs']
end Go.Proofs.YtcoajnpchhmgjaaGreatDoor
namespace Go.Proofs.YtcoajnpchhmgjaaGreatDoor
open Go
namespace Bld
theorem neqPtrSelf{h:PH}{x y:Operand}(a:Addr):bT PG h (hQ .neq gA x y (.pointer (some a)) (.pointer (some a)))=some (.bool false):=by
 show bT PG h (Op.equalIn (9999+1) gA (.pointer (some a)) (.pointer (some a)) >>= λb=>(pure (Value.bool (!b)):Sem Value))=_
 rw[kY]
 have:bT PG h (Op.equalIn (9999+1) gA (.pointer (some a)) (.pointer (some a)))=some true:=by
  rw[Op.equalIn,lK gA.und]
  simp only[mF]
  rw[aCi fJ.info]
  simp[fJ.size,sameAddr,bT,pure]
 rw[this];rfl
theorem semE_viewAt{h:PH}{r:Nat}{x:TypeId×Nat}{α:Type}(hs:kZ h r=some (some x))(f:Option (Addr×TypeId)->Sem α):bT PG h (viewAt r >>= f)=bT PG h (f none):=by
 rw[kY]
 have:bT PG h (viewAt r)=some none:=by
  show(kZ h r).bind _=_
  rw[hs];rfl
 rw[this];rfl
theorem semE_seenAt{h:PH}{a:Addr}{x:TypeId×Nat}{α:Type}(hs:kZ h a.block=some (some x))(f:Addr->Sem α):bT PG h (Conv.seenAt a >>= f)=bT PG h (f a):=by
 rw[kY]
 have:bT PG h (Conv.seenAt a)=some a:=by
  unfold Conv.seenAt
  rw[semE_viewAt hs];rfl
 rw[this];rfl
theorem semE_cellsIn{h:PH}{r:Nat}{x:TypeId×Nat}{α:Type}(hs:kZ h r=some (some x))(f:Option Nat->Sem α):bT PG h (cellsIn r >>= f)=bT PG h (f (some x.2)):=by
 rw[kY]
 have:bT PG h (cellsIn r)=some (some x.2):=by
  show(kZ h r).bind _=_
  rw[hs];rfl
 rw[this];rfl
theorem to_unsafe{h:PH}{a:Nat}{c:Array Value}(ha:h a=some (.cells c fJ (0,0)))(hc:0<c.size):bT PG h (convert gA jR (pT a 0))=some (pT a 0):=by
 have hs:kZ h a=some (some (fJ,c.size)):=by unfold kZ;rw[ha]
 show bT PG h (underlying gA >>= _)=_
 rw[lK gA.und]
 show bT PG h (underlying jR >>= _)=_
 rw[lK jR.und]
 show bT PG h (underlying gA >>= _)=_
 rw[lK gA.und]
 show bT PG h (underlying jR >>= _)=_
 rw[lK jR.und]
 show bT PG h (Conv.seenAt ⟨a,0,none⟩ >>= _)=_
 rw[semE_seenAt (a:=⟨a,0,none⟩) hs]
 show bT PG h (cellsIn a >>= _)=_
 rw[semE_cellsIn hs]
 have h1:¬(0 ≥ c.size):=by omega
 simp only[mF]
 rw[aCi fJ.info]
 simp[fJ.size,h1,bT,pure]
theorem from_unsafe{h:PH}{a:Nat}{c:Array Value}(ha:h a=some (.cells c fJ (0,0)))(hc:c.size=2):bT PG h (convert jR gA (pT a 0))=some (pT a 0):=by
 have hs:kZ h a=some (some (fJ,c.size)):=by unfold kZ;rw[ha]
 rw[hc] at hs
 show bT PG h (underlying jR >>= _)=_
 rw[lK jR.und]
 show bT PG h (underlying gA >>= _)=_
 rw[lK gA.und]
 show bT PG h (underlying jR >>= _)=_
 rw[lK jR.und]
 show bT PG h (underlying gA >>= _)=_
 rw[lK gA.und]
 show bT PG h (Conv.seenAt ⟨a,0,none⟩ >>= _)=_
 rw[semE_seenAt (a:=⟨a,0,none⟩) hs]
 have hv:bT PG h (variablesAt ⟨a,0,none⟩ fJ 1)=some true:=by
  show(kZ h a).bind _=_
  rw[hs]
  kernel_rfl
 simp only[mF]
 rw[aCi fJ.info]
 simp only[fJ.size]
 rw[kY,hv]
 simp[bT,pure]
theorem NoEscape_ok{h:PH}{v:Value}{k:eJ}(hk:k v h):cR PG aAV #[v] h k:=
 cR.entry (v:=v) (by kernel_rfl) hk
structure BAt(h:PH)(a:Nat)(bs:List UInt8)(F:List Nat):Prop where
 here:∃p v G,h a=some (.cells #[p,v] fJ (0,0))∧(p= .pointer none∨p=pT a 0)∧gU h fR 1 v (bs.map kL) G∧F=a::G∧a∉G
theorem BAt.known{h:PH}{a:Nat}{bs:List UInt8}{F:List Nat}(H:BAt h a bs F):∀b∈F,h b≠none:=by
 obtain⟨p,v,G,ha,hp,hO,rfl,hn⟩:=H
 intro b hb
 rcases jG.1 hb with rfl|hb
 ·rw[ha];simp
 ·exact hO.known b hb
theorem BAt.upd{h h':PH}{a:Nat}{bs:List UInt8}{F G:List Nat}(H:BAt h a bs F)(u:eW G h h')(hd:∀b∈F,b∉G):BAt h' a bs F:=by
 obtain⟨p,v,G',ha,hp,hO,rfl,hn⟩:=H
 exact⟨p,v,G',u.get ha (hd a (by simp)),hp,hO.upd u (λb hb=>hd b (by simp[hb])),rfl,hn⟩
theorem BAt.ext{h h':PH}{a:Nat}{bs:List UInt8}{F:List Nat}(H:BAt h a bs F)(u:fE h h'):BAt h' a bs F:=H.upd u (by simp)
def BNext(h:PH)(a:Nat)(F:List Nat)(bs:List UInt8)(k:PH->Prop):Prop:=∀h' F',BAt h' a bs F'->eW F h h'->(∀b∈F',b∈F∨h b=none)->k h'
theorem copyCheck_ok{h:PH}{a:Nat}{p v:Value}(ha:h a=some (.cells #[p,v] fJ (0,0)))(hp:p= .pointer none∨p=pT a 0){k:eJ}
  (hk:∀h',h' a=some (.cells #[pT a 0,v] fJ (0,0))->eW [a] h h'->(∀b,b≠a->h' b=h b)->k (.tuple #[]) h'):cR PG nC #[pT a 0] h k:=by
 apply oJ.call
 unfold oJ
 have hc:fH h ⟨a,0,none⟩=some p:=by simp[fH,ha]
 simp only[fJ.f0,gA.load,hc,eK,reduceIte]
 rcases hp with rfl|rfl
 ·simp only[aEC gA.und,Option.isNone_none,eK,reduceIte]
  refine bT.semH (to_unsafe ha (by simp)) ?_
  refine NoEscape_ok ?_
  refine bT.semH (from_unsafe ha (by simp)) ?_
  refine jY gA.und rfl ha (by simp) rfl gA.info gA.size ?_
  exact hk _ fP (eW.set (by simp)) (λb hb=>qK hb)
 ·simp only[aEC gA.und,Option.isNone_some,neqPtrSelf,fJ.f0,gA.load,hc,eK,reduceIte]
  exact hk _ ha eW.refl (λ_ _=>rfl)
theorem byte_lit(x:Int):iP PG (buildSlice fC 1 #[(0,.int .u8 x)])=some (.cells #[.int .u8 x] fR,λr=>pure (.slice (some ⟨r,0,none⟩) 1 1)):=by kernel_rfl
theorem buf_app{h:PH}{a:Nat}{p v x:Value}{bs ys:List UInt8}{G:List Nat}{t2 e2:TypeId}(hu2:PG.underlying t2=some (.slice e2))(ha:h a=some (.cells #[p,v] fJ (0,0)))(hp:p= .pointer none∨p=pT a 0)(hO:gU h fR 1 v (bs.map kL) G)(hn:a∉G)
  (hx:iR h 1 x (ys.map kL)) (hl:bs.length+ys.length≤140737488355328) {k:PH->Prop} (hk:BNext h a (a::G) (bs++ys) k):
  eZ PG (Builtin.append_ #[fC,t2] fC #[v,x]) h λv' h'=>eZ PG (fQ fC (pT a 1) v') h' λ_ h''=>k h'':=by
 refine kU fC.und hu2 fR.info fR.size fR.bytes fR.zero rfl (by decide) hO hx (kL.isCell _) (by simp;omega) ?_
 intro v2 h2 F2 hO2 u2 k2 _
 rw[←rL] at hO2
 have ha2:=u2.get ha hn
 have hn2:a∉F2:=λhm=>by
  rcases k2 a hm with h1|h1
  ·exact hn h1
  ·rw[ha] at h1;cases h1
 refine jY fC.und rfl ha2 (by simp) ?_ fC.info fC.size ?_
 ·obtain⟨_,_,rfl,-⟩:=hO2.slR.here;rfl
 ·refine hk _ (a::F2) ⟨p,v2,F2,fP,hp,hO2.upd (eW.set (F:=[a]) (by simp)) (λb hb=>by simp;rintro rfl;exact hn2 hb),rfl,hn2⟩ ((u2.mono λb hb=>.inl (by simp[hb])).trans (eW.set (by simp))) (λb hb=>?_)
  rcases jG.1 hb with rfl|hb
  ·exact .inl (by simp)
  ·rcases k2 b hb with h1|h1
   ·exact .inl (by simp[h1])
   ·exact .inr h1
theorem WriteByte_ok{h:PH}{a:Nat}{bs:List UInt8}{F:List Nat}(hW:BAt h a bs F)(hl:bs.length+1≤140737488355328)(x:UInt8){k:eJ}(hk:BNext h a F (bs++[x]) (k .nilIface)):
  cR PG nD #[pT a 0,.int .u8 x.toNat] h k:=by
 obtain⟨p,v,G,ha,hp,hO,rfl,hn⟩:=hW
 apply oK.call
 unfold oK
 refine copyCheck_ok ha hp λh1 ha1 u1 o1=>?_
 have hc:fH h1 ⟨a,1,none⟩=some v:=by simp[fH,ha1]
 have hO1:=hO.upd u1 (λb hb hf=>by simp at hf;subst hf;exact hn hb)
 simp only[fJ.f1,fC.load,hc,byte_lit,eK,reduceIte]
 intro r hr
 refine iK ?_
 have u2:fE h1 (h1.set r (.cells #[.int .u8 x.toNat] fR)):=eW.new hr
 have s2:iR (h1.set r (.cells #[.int .u8 x.toNat] fR)) 1 (.slice (some ⟨r,0,none⟩) 1 1) ([x].map kL):=(gU.lit (kL.rows [x]) fP (by simp) (by decide) (by simp[kL])).slR
 refine buf_app fC.und (u2.get ha1) (.inr rfl) (hO1.ext u2) hn s2 (by simpa using hl) ?_
 intro h3 F3 hW3 u3 k3
 refine hk _ F3 hW3 ((u1.mono λb hb=>.inl (by simp at hb;simp[hb])).trans (u2.upd.trans u3)) λb hb=>?_
 rcases k3 b hb with h'|h'
 ·exact .inl h'
 ·by_cases hba:b=a
  ·exact .inl (by simp[hba])
  ·have:=u2.none h'
   rw[o1 b hba] at this
   exact .inr this
theorem buf_str{h:PH}{a:Nat}{p v:Value}{bs ys:List UInt8}{G:List Nat}(ha:h a=some (.cells #[p,v] fJ (0,0)))(hp:p= .pointer none∨p=pT a 0)(hO:gU h fR 1 v (bs.map kL) G)(hn:a∉G)
  (hl:bs.length+ys.length≤140737488355328) {k:PH->Prop} (hk:BNext h a (a::G) (bs++ys) k):
  eZ PG (Builtin.append_ #[fC,cT] fC #[v,.string (tx ys)]) h λv' h'=>eZ PG (fQ fC (pT a 1) v') h' λ_ h''=>k h'':=by
 refine aMP fC.und cT.und fR.info fR.size fR.bytes fR.zero rfl (by decide) hO (by simp;omega) ?_
 intro v2 h2 F2 hO2 u2 k2 _
 rw[←rL] at hO2
 have ha2:=u2.get ha hn
 have hn2:a∉F2:=λhm=>by
  rcases k2 a hm with h1|h1
  ·exact hn h1
  ·rw[ha] at h1;cases h1
 refine jY fC.und rfl ha2 (by simp) ?_ fC.info fC.size ?_
 ·obtain⟨_,_,rfl,-⟩:=hO2.slR.here;rfl
 ·refine hk _ (a::F2) ⟨p,v2,F2,fP,hp,hO2.upd (eW.set (F:=[a]) (by simp)) (λb hb=>by simp;rintro rfl;exact hn2 hb),rfl,hn2⟩ ((u2.mono λb hb=>.inl (by simp[hb])).trans (eW.set (by simp))) (λb hb=>?_)
  rcases jG.1 hb with rfl|hb
  ·exact .inl (by simp)
  ·rcases k2 b hb with h1|h1
   ·exact .inl (by simp[h1])
   ·exact .inr h1
theorem WriteString_ok{h:PH}{a:Nat}{bs ys:List UInt8}{F:List Nat}(hW:BAt h a bs F)(hl:bs.length+ys.length≤140737488355328){k:eJ}(hk:BNext h a F (bs++ys) (k (.tuple #[.int .i64 ys.length,.nilIface]))):
  cR PG mA #[pT a 0,.string (tx ys)] h k:=by
 obtain⟨p,v,G,ha,hp,hO,rfl,hn⟩:=hW
 apply lW.call
 unfold lW
 refine copyCheck_ok ha hp λh1 ha1 u1 o1=>?_
 have hc:fH h1 ⟨a,1,none⟩=some v:=by simp[fH,ha1]
 have hO1:=hO.upd u1 (λb hb hf=>by simp at hf;subst hf;exact hn hb)
 simp only[fJ.f1,fC.load,hc,cT.len,jL,eK,reduceIte]
 refine buf_str ha1 (.inr rfl) hO1 hn hl ?_
 intro h3 F3 hW3 u3 k3
 refine hk _ F3 hW3 ((u1.mono λb hb=>.inl (by simp at hb;simp[hb])).trans u3) λb hb=>?_
 rcases k3 b hb with h'|h'
 ·exact .inl h'
 ·by_cases hba:b=a
  ·exact .inl (by simp[hba])
  ·rw[o1 b hba] at h'
   exact .inr h'
theorem semE_loadBytes{h:PH}:∀(l:List UInt8) (a:Addr) (acc:ByteArray),a.spot=none->(∀j x,l[j]? =some x->fH h (a.add j)=some (.int .u8 x.toNat))->bT PG h (loadBytes a acc l.length)=some ⟨acc.data++l.toArray⟩
 | [],a,acc,_,_=>by show some acc=_;simp
 | x::xs,a,acc,hsp,hc=>by
  have h0:=hc 0 x rfl
  have ha0:a.add 0=a:=by obtain⟨b,o,w⟩:=a;cases w<;>simp[Addr.add]
  rw[ha0] at h0
  show(fH h a).bind _=_
  rw[h0,aDi]
  show bT PG h (loadBytes (a.add 1) (acc.push ((x.toNat:Int).toNat.toUInt8)) xs.length)=_
  rw[semE_loadBytes xs (a.add 1) _ (by obtain⟨b,o,w⟩:=a;simp at hsp;subst hsp;rw[mV]) λj y hy=>?_]
  ·congr 1
   apply ByteArray.ext
   show(acc.push _).data++xs.toArray=_
   rw[ByteArray.data_push]
   apply zLt
   simp
  ·have:=hc (j+1) y (by simpa using hy)
   have e:(a.add 1).add j=a.add (j+1):=by
    obtain⟨b,o,w⟩:=a
    simp at hsp
    subst hsp
    rw[mV,mV,mV];congr 1;omega
   rw[e];exact this
theorem unsafeStr{h:PH}{g:Nat}{cs:Array Value}{bs:List UInt8}(hb:h g=some (.cells cs fR (0,0)))(hle:bs.length≤cs.size)(hcs:cs.toList.take bs.length=bs.map λb=>Value.int .u8 b.toNat)(hne:bs≠[])(hmax:bs.length≤rX){k:eJ}
  (hk:∀h',eW [g] h h'->k (.string (tx bs)) h'):eZ PG (Builtin.unsafeString_ #[pB,dR] cT #[pT g 0,.int .i64 bs.length]) h k:=by
 have hl:bs.length≠0:=by simpa using hne
 have h63:¬((bs.length:Int)>IntKind.i64.max):=by
  have:IntKind.i64.max=9223372036854775807:=rfl
  unfold rX at hmax
  omega
 have hneg:¬(bs.length:Int)<0:=by omega
 have hz:¬(bs.length:Int)=0:=by omega
 have hdef:Builtin.unsafeString_ #[pB,dR] cT #[pT g 0,.int .i64 bs.length]=
   (do
    let n ←asInt (.int .i64 bs.length)
    if n<0 then runtimePanic (.error "unsafe.String: len out of range")
    if n>IntKind.i64.max then unsupported (.unsafePointer "String: a length above the largest int")
    if n=0 then pure (.string .empty)
    else if ←variablesAt ⟨g,0,none⟩ (←elemOf pB) n.toNat then do
     let s ←loadBytes ⟨g,0,none⟩ .empty n.toNat
     freeze ⟨g,0,none⟩ n.toNat
     pure (.string s)
    else unsupported (.unsafePointer "String: not so many bytes at ptr")):=rfl
 rw[hdef]
 have hs:kZ h g=some (some (fR,cs.size)):=by unfold kZ;rw[hb]
 have hv:bT PG h (variablesAt ⟨g,0,none⟩ fR bs.length)=some true:=by
  show(kZ h g).bind _=_
  rw[hs]
  have hc1:PG.cellsOf fR=1:=by kernel_rfl
  have:=Go.Lib.liesAt_bytes (P:=PG) hc1 (cs.size/PG.cellsOf fR) bs.length (by rw[hc1];simpa using hle)
  show some (liesAt PG PG.depth fR (cs.size/PG.cellsOf fR) 0 fR bs.length)=some true
  rw[this]
 have hlb:=semE_loadBytes (h:=h) bs ⟨g,0,none⟩ .empty rfl (λj x hx=>by
  rw[mV]
  unfold fH
  simp only[hb,iG]
  have hj:j<bs.length:=(zLx.1 hx).1
  have:(cs.toList.take bs.length)[j]? =some (.int .u8 x.toNat):=by rw[hcs,zLW,hx];rfl
  rw[aGj,if_pos hj] at this
  simpa using this)
 have helem:bT PG h (elemOf pB)=some fR:=by kernel_rfl
 simp only[asInt,asIntOf,pure_bind,map_pure,hneg,h63,hz,if_false,sM]
 refine jV helem ?_
 refine jV hv ?_
 simp only[if_true]
 refine jV hlb ?_
 show(∃o,h g=some o)∧_
 refine⟨⟨_,hb⟩,?_⟩
 have hfin:=hk (nW h ⟨g,0,none⟩ bs.length) (λb o hbo hn=>by
  unfold nW
  rw[if_neg hl,if_neg (by simpa using hn)]
  exact hbo)
 show k (.string _) _
 have e:(⟨ByteArray.empty.data++bs.toArray⟩:ByteArray)=tx bs:=by apply ByteArray.ext;simp[tx]
 rw[e]
 exact hfin
theorem unsafeNone{h:PH}{q:Option Addr}:bT PG h (Builtin.unsafeString_ #[pB,dR] cT #[.pointer q,.int .i64 0])=some (.string (tx [])):=by
 cases q<;>rfl
theorem String_ok{h:PH}{a:Nat}{bs:List UInt8}{F:List Nat}(hW:BAt h a bs F){k:eJ}(hk:∀h',eW F h h'->k (.string (tx bs)) h'):
  cR PG lQ #[pT a 0] h k:=by
 obtain⟨p,v,G,ha,hp,hO,rfl,hn⟩:=hW
 have hc:fH h ⟨a,1,none⟩=some v:=by simp[fH,ha]
 have lv:=hO.slR.len (t':=dR) fC.und
 rw[kQ] at lv
 apply lY.call
 unfold lY
 simp only[fJ.f1,fC.load,hc,lv,eK,reduceIte]
 have hload:∀h',fH h' ⟨a,1,none⟩=some v->bT PG h' (loadAt fC (pT a 1))=some v:=λh' h1=>by rw[fC.load];exact h1
 rcases hO.here with⟨rfl,hr,rfl⟩|⟨g,cap,cs,rfl,rfl,hb,hle,hmax,hsz,htk⟩
 ·have hnil:bs=[]:=by simpa using hr
  subst hnil
  refine bT.semH (a:=.pointer none) rfl ?_
  refine⟨hc,?_⟩
  refine bT.semH unsafeNone ?_
  exact hk _ eW.refl
 ·simp only[kQ] at *
  by_cases hne:bs=[]
  ·subst hne
   by_cases hc0:cap=0
   ·subst hc0
    have hs:kZ h g=some (some (fR,cs.size)):=by unfold kZ;rw[hb]
    show eZ PG (viewAt g >>= _) h _
    refine jV (a:=none) (by rw[show viewAt g=(viewAt g >>= λx=>pure x) by simp,semE_viewAt hs];rfl) ?_
    refine jV (a:=fR) (by kernel_rfl) ?_
    intro r hr
    have u:fE h (h.set r (.view ⟨g,0,none⟩ fR)):=eW.new hr
    refine⟨by rw[fH];simp[u.get ha],?_⟩
    refine bT.semH unsafeNone ?_
    exact hk _ u.upd
   ·refine bT.semH (a:=pT g 0) ?_ ?_
    ·show bT PG h (if cap≠0 then _ else _)=_
     rw[if_pos hc0];rfl
    ·refine⟨hc,?_⟩
     refine bT.semH unsafeNone ?_
     exact hk _ eW.refl
  ·have hpos:0<bs.length:=aGv.2 hne
   refine bT.semH (a:=pT g 0) ?_ ?_
   ·show bT PG h (if cap≠0 then _ else _)=_
    rw[if_pos (by omega)];rfl
   ·refine⟨hc,?_⟩
    rw[Nat.mul_one,kL.flat] at htk
    refine unsafeStr hb (by omega) htk hne (by omega) λh' u=>?_
    exact hk _ (u.mono λb hb=>.inl (by simp at hb;simp[hb]))
end Bld
end Go.Proofs.YtcoajnpchhmgjaaGreatDoor
namespace Go.Proofs.YtcoajnpchhmgjaaGreatDoor
open Go
section
variable{P:Program}{t e:TypeId}
theorem aLB{α:Type}{d:TypeInfo}(hi:P.info? t=some d)(f:TypeInfo->Sem α):iP P (typeInfo t >>= f)=iP P (f d):=by
 show iP P ((match P.info? t with|some d=>pure d|none=>stuck _:Sem TypeInfo).bind f)=_
 rw[hi];rfl
theorem aO2{α:Type}{n:Nat}(f:Unit->Sem α):iP P (askRoom n >>= f)=iP P (f ()):=by
 unfold askRoom
 split<;>rfl
theorem aQ5(z:Array Value)(hz:0<z.size):∀n:Nat,((Array.range (n*z.size)).map (z[· % z.size]!)).toList=(List.replicate n z.toList).flatten:=by
 intro n
 have hr:lC z.size (List.replicate n z.toList):=λr hr=>by rw[List.eq_of_mem_replicate hr];simp
 apply List.ext_getElem?
 intro j
 have hfl:(List.replicate n z.toList).flatten.length=n*z.size:=by rw[hr.flat,aJY]
 by_cases hj:j<n*z.size
 ·have hi:j/z.size<n:=(Nat.div_lt_iff_lt_mul hz).2 hj
  have hat:=hr.at (i:=j/z.size) (r:=z.toList) (by rw[List.getElem?_replicate,if_pos hi])
  have hc:j%z.size<z.size:=zLy _ hz
  have e1:(List.replicate n z.toList).flatten[j]? =z.toList[j%z.size]?:=by
   conv=>rhs;rw[←hat]
   rw[aGj,if_pos hc,aJ7]
   congr 1
   rw[zLP];exact(Nat.div_add_mod j z.size).symm
  rw[e1]
  simp[hj,hc]
 ·rw[List.getElem?_eq_none (by simp;omega),List.getElem?_eq_none (by omega)]
theorem aEL{i:TypeInfo}{z:Value}{size bytes n:Nat}(hu:P.underlying t=some (.slice e))(hi:P.info? e=some i)(hn:i.size=size)(hb:i.bytes=bytes)(hz:i.zero=some z)(hzs:z.cells.size=size)(h0:0<size)
  (hle:bytes*n≤281474976710656) (hnn:n≤1000000000):
  ∃zs,iP P (Instr.makeSlice t (.int .i64 n) (.int .i64 n))=some (.cells zs e (0,0),λr=>pure (.slice (some ⟨r,0,none⟩) n n))∧zs.toList=(List.replicate n z.cells.toList).flatten:=by
 refine⟨(Array.range (n*z.cells.size)).map (z.cells[· % z.cells.size]!),?_,aQ5 _ (by omega) n⟩
 have hw:IntKind.i64.wrap (n:Int)=n:=IntWalk.i64_in _ ⟨by omega,by omega⟩
 unfold Instr.makeSlice
 rw[aTF hu]
 dsimp only
 show iP P (typeInfo e >>= _)=_
 rw[aLB hi,hb]
 have hc1:((bytes:Int)*(n:Int)>2^48)=False:=by
  apply eq_false
  have:((bytes*n:Nat):Int)≤((281474976710656:Nat):Int):=Int.ofNat_le.2 hle
  rw[Int.natCast_mul] at this
  have h2:(2:Int)^48=((281474976710656:Nat):Int):=by rfl
  omega
 have hc2:((n:Int)<0)=False:=by apply eq_false;omega
 have hc3:((n:Int)>(n:Int))=False:=by apply eq_false;omega
 simp only[hw,hc1,hc2,hc3,decide_false,Bool.or_self,zLr,if_false,or_self]
 rw[aO2,mF,aLB hi,hn]
 simp only[sM]
 by_cases hn0:n=0
 ·subst hn0
  have hr:∀f:Nat->Value,(Array.range 0).map f= #[]:=λf=>by simp
  simp only[Nat.zero_mul,if_true,hr]
  rfl
 ·have hne:(n*size=0)=False:=by apply eq_false;intro h;rcases Nat.mul_eq_zero.1 h with h|h<;>omega
  simp only[hne,if_false]
  have hzv:∀(f:Value->Sem Value),iP P (zeroValue e >>= f)=iP P (f z):=λf=>by
   unfold zeroValue
   show iP P ((typeInfo e >>= _) >>= f)=_
   simp only[bind_assoc]
   rw[aLB hi,hz];rfl
  rw[hzv,←hzs]
  rfl
end
end Go.Proofs.YtcoajnpchhmgjaaGreatDoor
namespace Go.Proofs.YtcoajnpchhmgjaaGreatDoor
open Go Bld
theorem aN2{h:PH}{l:List UInt8}:bT PG h (Builtin.firstCells 1 l.length (.string (tx l)))=some (l.map λb=>Value.int .u8 b.toNat).toArray:=by
 show some (((tx l).extract 0 l.length).data.map λb=>Value.int .u8 b.toNat)=_
 congr 1
 apply zLt
 rw[ByteArray.data_extract]
 simp[tx,zLu]
theorem aT4{h:PH}{r:Nat}{c:Array Value}{l:List UInt8}(hb:h r=some (.cells c fR (0,0)))(hc:c.size=l.length)(hl:l≠[]){k:eJ}
  (hk:k (.int .i64 l.length) (h.set r (.cells (l.map λb=>Value.int .u8 b.toNat).toArray fR (0,0)))):
  eZ PG (Builtin.copy_ #[fC,cT] dR #[.slice (some ⟨r,0,none⟩) l.length l.length,.string (tx l)]) h k:=by
 have hmin:Nat.min l.length l.length=l.length:=Nat.min_self _
 simp only[Builtin.copy_,zLH,qA,sK,qO fC.und,mF,nO fR.info,pure_bind,Builtin.lenOf,fR.size,jL,hmin]
 refine jV (s:=Builtin.firstCells 1 l.length (.string (tx l))) aN2 ?_
 refine eZ.bind (P:=PG) (s:=storeCells _ _) ?_
 refine uN (b:=r) (o:=0) (l.map λb=>Value.int .u8 b.toNat) 0 h c hb (by simp[hc]) (λv hv=>by obtain⟨b,-,rfl⟩:=mT.1 hv;rfl) ?_
 rw[if_neg (by simpa using hl),aMv (by simp[hc])]
 exact hk
theorem aPx{h:PH}{l:List UInt8}(hl:l.length≤1000000000){k:eJ}(hk:∀h',fE h h'->k (.string (tx l)) h'):cR PG aFX #[.string (tx l)] h k:=by
 apply aFF.call
 unfold aFF
 apply sH.call
 unfold sH
 simp only[cT.len,jL,jO,eK,reduceIte]
 by_cases h0:l=[]
 ·subst h0
  simp only[zLK,show(((0:Nat):Int)==0)=true from rfl,eK,reduceIte]
  exact hk _ eW.refl
 ·have hpos:l.length≠0:=by simpa using h0
  have e0:(((l.length:Nat):Int)==0)=false:=by simpa using h0
  obtain⟨zs',hm,hz⟩:=aEL (P:=PG) (n:=l.length) fC.und fR.info fR.size fR.bytes fR.zero rfl (by decide) (by omega) hl
  have hsz:zs'.size=l.length:=by
   rw[←Array.length_toList,hz]
   simp[Value.cells]
  simp only[e0,hm,eK,reduceIte]
  intro r hr
  refine iK ?_
  try rw[eY]
  have u1:fE h (h.set r (.cells zs' fR (0,0))):=eW.new hr
  have a1:(h.set r (.cells zs' fR (0,0))) r=some (.cells zs' fR (0,0)):=fP
  generalize h.set r (.cells zs' fR (0,0))=h1 at *
  refine aT4 a1 hsz h0 ?_
  have u2:fE h (h1.set r (.cells (l.map λb=>Value.int .u8 b.toNat).toArray fR (0,0))):=u1.fresh (eW.set (F:=[r]) (by simp)) (gQ.one hr)
  have a2:(h1.set r (.cells (l.map λb=>Value.int .u8 b.toNat).toArray fR (0,0))) r=some (.cells (l.map λb=>Value.int .u8 b.toNat).toArray fR (0,0)):=fP
  generalize h1.set r (.cells (l.map λb=>Value.int .u8 b.toNat).toArray fR (0,0))=h2 at *
  have ea:aT PG (indexAt fC (.slice (some ⟨r,0,none⟩) l.length l.length) (.int .i64 0))=some (pT r 0):=by
   have:=aHd (P:=PG) (t:=fC) (b:=r) (o:=0) (len:=l.length) (cap:=l.length) (k:=.i64) (j:=0) fC.und fR.info fR.size (by decide) (by omega)
   simpa using this
  simp only[ea,fC.len,eK,reduceIte]
  refine unsafeStr a2 (by simp) (by rw[List.toList_toArray];exact qR (by simp)) h0 (by unfold rX;omega) λh' u=>?_
  exact hk _ (u2.fresh u (gQ.one hr))
def HAt(h:PH)(a:Nat)(s:S8)(r:List UInt8)(n:Nat):Prop:=h a=some (.cells (kV s (.string (tx r)) (.int .i64 n)) hE (0,0))
def aM8(a:Nat):List Value->PH->Nat:=λ_ h=>match h a with
 | some (Obj.cells c _ _)=>match c[8]? with
  | some (Value.string t)=>t.size
  | _=>0
 | _=>0
theorem HAt.len{h:PH}{a:Nat}{s:S8}{r:List UInt8}{n:Nat}(H:HAt h a s r n){vs:List Value}:aM8 a vs h=r.length:=by
 unfold HAt at H
 simp[aM8,H,kV,jL]
theorem oA.ne{h:PH}(H:oA h){a:Nat}{s:S8}{x y:Value}{t:TypeId}(ha:h a=some (.cells (kV s x y) t (0,0))):a≠0:=by
 rintro rfl
 obtain⟨t,fr,hb⟩:=H
 rw[hb] at ha
 have:=congrArg Array.size (Obj.cells.inj (aJf ha)).1
 rw[List.size_toArray,kQ,aJK] at this
 simp[kV] at this
theorem oA.upd{h h':PH}(H:oA h){F:List Nat}(u:eW F h h')(hF:0∉F):oA h':=by
 obtain⟨t,fr,hb⟩:=H
 exact⟨t,fr,u.get hb hF⟩
theorem aX6{s:S8}{x y v:Value}:(kV s x y).setIfInBounds 9 v=kV s x v:=rfl
theorem aWd{s:S8}{x y v:Value}:(kV s x y).setIfInBounds 8 v=kV s v y:=rfl
theorem aPQ{h:PH}{a:Nat}{s:S8}{r p:List UInt8}{n:Nat}(hK:oA h)(ha:HAt h a s r n)(hl:r.length+p.length≤1000000000)(hn:n+p.length≤1000000000000){k:eJ}
  (hk:∀h',eW [a] h h'->HAt h' a (qP s (r++p)).1 (qP s (r++p)).2 (n+p.length)->k (.tuple #[]) h'):cR PG aB5 #[pT a 0,.string (tx p)] h k:=by
 apply aAG.call
 unfold aAG
 have hne:=hK.ne ha
 have c9:fH h ⟨a,0+9,none⟩=some (.int .i64 n):=by unfold HAt at ha;simp[fH,ha,kV]
 have e1:IntKind.i64.wrap ((n:Int)+(p.length:Int))=((n+p.length:Nat):Int):=by rw[gD (by omega) (by omega)];omega
 simp only[hE.f2,dR.load,c9,cT.len,jL,e1,eK,reduceIte]
 refine jY dR.und rfl ha (by simp[kV]) rfl dR.info dR.size ?_
 rw[show 0+9=9 from rfl,aX6]
 have u1:eW [a] h (h.set a (.cells (kV s (.string (tx r)) (.int .i64 ((n+p.length:Nat):Int))) hE (0,0))):=eW.set (by simp)
 have a1:HAt (h.set a (.cells (kV s (.string (tx r)) (.int .i64 ((n+p.length:Nat):Int))) hE (0,0))) a s r (n+p.length):=fP
 generalize h.set a (.cells (kV s (.string (tx r)) (.int .i64 ((n+p.length:Nat):Int))) hE (0,0))=h1 at *
 have c8:fH h1 ⟨a,0+8,none⟩=some (.string (tx r)):=by unfold HAt at a1;simp[fH,a1,kV]
 simp only[hE.f1,cT.load,c8,mR (show r.length+p.length≤9223372036854775807 by omega),eK,reduceIte]
 refine aPx (by simpa using hl) λh2 u2=>?_
 have a2:HAt h2 a s r (n+p.length):=u2.get a1
 refine jY cT.und rfl a2 (by simp[kV]) rfl cT.info cT.size ?_
 rw[show 0+8=8 from rfl,aWd]
 have u3:eW [a] h (h2.set a (.cells (kV s (.string (tx (r++p))) (.int .i64 ((n+p.length:Nat):Int))) hE (0,0))):=(u1.trans u2.upd).trans (eW.set (by simp))
 have a3:HAt (h2.set a (.cells (kV s (.string (tx (r++p))) (.int .i64 ((n+p.length:Nat):Int))) hE (0,0))) a s (r++p) (n+p.length):=fP
 generalize h2.set a (.cells (kV s (.string (tx (r++p))) (.int .i64 ((n+p.length:Nat):Int))) hE (0,0))=h3 at *
 generalize n+p.length=m at *
 have hrl:(r++p).length≤1000000000:=by simpa using hl
 generalize hrp:r++p=q at *
 refine⟨λvs h'=>∃s' r',vs=[pT a 0]∧r'.length≤1000000000∧qP s' r'=qP s q∧eW [a] h h'∧HAt h' a s' r' m,aM8 a,⟨s,q,rfl,hrl,rfl,u3,a3⟩,?_⟩
 rintro ρ h' ⟨s',r',hvs,hr',hab,u',a'⟩
 simp only[jT,kF,mQ,and_true] at hvs
 have hlen:=a'.len (vs:=[ρ 0])
 simp only[hvs,jT,kF] at hlen ⊢
 unfold aHI
 have c8:fH h' ⟨a,0+8,none⟩=some (.string (tx r')):=by unfold HAt at a';simp[fH,a',kV]
 simp only[hE.f1,cT.load,c8,cT.len,jL,eK,reduceIte]
 by_cases h64:64≤r'.length
 ·have e2:((64:Int)≤(r'.length:Int))=True:=eq_true (by omega)
  have ec:aT PG (Instr.sliceAt cT (.string (tx r')) none (some (.int .i64 64)) none)=some (.string (tx (r'.take 64))):=aHJ (i:=0) (j:=64) cT.und (.inl ⟨rfl,rfl⟩) (.inr ⟨_,rfl⟩) (by omega) h64
  have ed:aT PG (Instr.sliceAt cT (.string (tx r')) (some (.int .i64 64)) none none)=some (.string (tx (r'.drop 64))):=by
   have:=aHJ (P:=PG) (t:=cT) (l:=r') (i:=64) (j:=r'.length) (lo:=some (.int .i64 64)) cT.und (.inr ⟨_,rfl⟩) (.inl ⟨rfl,rfl⟩) h64 (sL _)
   rw[zLG] at this
   exact this
  simp only[e2,hE.f0,ec,eK,reduceIte]
  refine aWu (hK.upd u' (by simpa using λh=>hne h.symm)) (by simp;omega) a' λh4 u4 a4=>?_
  have c8':fH h4 ⟨a,0+8,none⟩=some (.string (tx r')):=by simp[fH,a4,kV]
  simp only[hE.f1,cT.load,c8',ed,eK,reduceIte]
  refine jY cT.und rfl a4 (by simp[kV]) rfl cT.info cT.size ?_
  rw[show 0+8=8 from rfl,aWd]
  have a5:HAt (h4.set a (.cells (kV (aJB s' (r'.take 64)) (.string (tx (r'.drop 64))) (.int .i64 (m:Int))) hE (0,0))) a (aJB s' (r'.take 64)) (r'.drop 64) m:=fP
  refine⟨⟨_,_,(by trivial),(by simp;omega),by rw[←aHT h64];exact hab,(u'.trans u4).trans (eW.set (by simp)),a5⟩,?_⟩
  rw[a5.len,hlen]
  simp
  omega
 ·have e2:((64:Int)≤(r'.length:Int))=False:=eq_false (by omega)
  simp only[e2,eK,reduceIte]
  refine hk _ u' ?_
  rw[←hab,aHV (by omega)]
  exact a'
theorem aLq:∀(n t:Nat) (acc:Array Value),(Extern.BytealgMakeNoZero.digits n t acc).size=acc.size+n
 | 0,_,acc=>rfl
 | n+1,t,acc=>by
  show(Extern.BytealgMakeNoZero.digits n (t/256) (acc.push _)).size=_
  rw[aLq n]
  simp
  omega
theorem aP7{n:Int}{h:PH}{Q:Next->PH->Prop}:eZ PG (callFunc uF #[.int .i64 n]) h Q=eZ PG (Extern.BytealgMakeNoZero.makeNoZero #[] #[fC] #[.int .i64 n] >>= λv=>pure (Next.value v)) h Q:=by kernel_rfl
theorem aOL{h:PH}{n:Nat}(hn:n≤140737488355328){k:eJ}
  (hk:∀r cap (cs:Array Value),n≤cap->cap≤rX->cs.size=cap->h r=none->k (.slice (some ⟨r,0,none⟩) n cap) (h.set r (.cells cs fR (0,0)))):cR PG uF #[.int .i64 n] h k:=by
 refine .inr ?_
 rw[aP7]
 refine eZ.bind (P:=PG) (s:=Extern.BytealgMakeNoZero.makeNoZero #[] #[fC] #[.int .i64 n]) ?_
 have h1:((decide ((n:Int)<0)||decide ((n:Int)>2^48))=true)=False:=by
  apply eq_false
  have:¬((n:Int)>2^48):=by
   have h2:(2:Int)^48=281474976710656:=by rfl
   omega
  have h3:¬((n:Int)<0):=by omega
  simp[h3]
  omega
 show eZ PG (underlying fC >>= _) h _
 rw[qO fC.und]
 dsimp only
 simp only[h1,if_false,pure_bind,sM]
 rw[zZ]
 intro tt
 rw[aF2,zZ]
 intro bb
 have hforced:(Question.appendCap n 0 5).forced=false:=rfl
 rw[hforced]
 have hcut:n≤(Question.appendCap n 0 5).cut tt∧(Question.appendCap n 0 5).cut tt≤rX:=by
  have hpos:0<2^63-n:=by omega
  have:=zLy tt hpos
  simp only[Question.cut,rX]
  omega
 generalize (if (Question.extern "internal/bytealg.MakeNoZero.bytes" 0).forced=true then 0 else(Question.extern "internal/bytealg.MakeNoZero.bytes" 0).cut bb)=B
 show eZ PG (newRow 5 _ >>= _) h _
 intro r hr
 exact⟨_,rfl,hk r _ _ hcut.1 hcut.2 (by rw[aLq];exact iG _) hr⟩
theorem zB:fY PG fJ= #[.pointer none,.slice none 0 0]:=by rw[fJ.zc];rfl
theorem BAt.zero{h:PH}{a:Nat}(ha:h a=some (.cells #[.pointer none,.slice none 0 0] fJ (0,0))):BAt h a [] [a]:=⟨_,_,[],ha,.inl rfl,gU.nil,rfl,by simp⟩
theorem aQQ:aT PG (Builtin.cap_ #[fC] dR #[.slice none 0 0])=some (.int .i64 0):=by kernel_rfl
theorem aXl{r cap:Nat}{n:Nat}:aT PG (Instr.sliceAt fC (.slice (some ⟨r,0,none⟩) n cap) none (some (.int .i64 ((0:Nat):Int))) none)=some (.slice (some ⟨r,0,none⟩) 0 cap):=by
 have:=aML (P:=PG) (t:=fC) (a:=some ⟨r,0,none⟩) (len:=n) (cap:=cap) (l:=0) (hh:=0) (lo:=none) (hi:=some (.int .i64 ((0:Nat):Int))) fC.und fR.info (.inl ⟨rfl,rfl⟩) (.inr ⟨_,rfl⟩) (by omega) (by omega)
 rw[this]
 by_cases hc:cap=0
 ·subst hc;simp
 ·rw[if_neg hc];simp[mV]
structure FB(h:PH)(a g cap:Nat)(bs:List UInt8):Prop where
 here:∃(cs:Array Value) (f:Nat),h a=some (.cells #[pT a 0,.slice (some ⟨g,0,none⟩) bs.length cap] fJ (0,0))∧h g=some (.cells cs fR (0,f))∧f≤bs.length∧bs.length≤cap∧cs.size=cap∧cs.toList.take bs.length=(bs.map λb=>Value.int .u8 b.toNat)∧g≠a∧cap≤rX
def aNS(r n:Nat):List Value->PH->Nat:=λ_ h=>match h r with
 | some (Obj.cells c _ _)=>match c[1]? with
  | some (Value.slice _ m _)=>n-m
  | _=>0
 | _=>0
theorem FB.mu{h:PH}{a g cap:Nat}{bs:List UInt8}(H:FB h a g cap bs){n:Nat}{vs:List Value}:aNS a n vs h=n-bs.length:=by
 obtain⟨cs,f,ha,-⟩:=H
 simp[aNS,ha]
theorem aV1{h:PH}{a n:Nat}(ha:h a=some (.cells #[.pointer none,.slice none 0 0] fJ (0,0)))(hn:0<n)(hn2:n≤1000000){k:eJ}
  (hk:∀h' g cap,FB h' a g cap []->n≤cap->eW [a] h h'->h g=none->k (.tuple #[]) h'):cR PG aA3 #[pT a 0,.int .i64 n] h k:=by
 apply qY.call
 unfold qY
 refine copyCheck_ok ha (.inl rfl) λh1 a1 u1 o1=>?_
 have e1:((n:Int)<0)=False:=eq_false (by omega)
 have c1:fH h1 ⟨a,0+1,none⟩=some (.slice none 0 0):=by simp[fH,a1]
 have e2:IntKind.i64.wrap ((0:Int)-((0:Nat):Int))=0:=by rw[gD (by omega) (by omega)];omega
 have e3:((0:Int)<(n:Int))=True:=eq_true (by omega)
 simp only[e1,eK,reduceIte]
 unfold aEm
 simp only[fJ.f1,fC.load,c1,aQQ,fC.len,e2,e3,eK,reduceIte]
 apply rC.call
 unfold rC
 have e4:IntKind.i64.wrap (2*(0:Int))=0:=by rw[gD (by omega) (by omega)];omega
 have e5:IntKind.i64.wrap ((0:Int)+(n:Int))=(n:Int):=by rw[gD (by omega) (by omega)];omega
 simp only[fJ.f1,fC.load,c1,aQQ,fC.len,e4,e5,eK,reduceIte]
 refine aOL (by omega) λr cap cs h2 h3 hsz hr=>?_
 have u2:fE h1 (h1.set r (.cells cs fR (0,0))):=eW.new hr
 have b2:(h1.set r (.cells cs fR (0,0))) r=some (.cells cs fR (0,0)):=fP
 generalize h1.set r (.cells cs fR (0,0))=h2' at *
 have a2:=u2.get a1
 have c1':fH h2' ⟨a,0+1,none⟩=some (.slice none 0 0):=by simp[fH,a2]
 have hne:r≠a:=λe=>by subst e;rw[a1] at hr;cases hr
 refine⟨c1',?_⟩
 simp only[fJ.f1,fC.load,c1',aXl,eK,reduceIte]
 have hcp:bT PG h2' (Builtin.copy_ #[fC,fC] dR #[.slice (some ⟨r,0,none⟩) 0 cap,.slice none 0 0])=some (.int .i64 0):=by kernel_rfl
 refine bT.semH hcp ?_
 refine jY fC.und rfl a2 (by simp) rfl fC.info fC.size ?_
 refine hk _ r cap ⟨cs,0,fP,by rw[qK hne];exact b2,by simp,by simp,by omega,by simp,hne,h3⟩ h2 ((u1.trans u2.upd).trans (eW.set (by simp))) ?_
 rw[←o1 r hne];exact hr
theorem aTt:aT PG (binOp .and dT (.int .u64 0) (.int .u64 4294967295))=some (.int .u64 0):=by kernel_rfl
theorem aVj:aT PG (binOp .and dT (.int .u64 1) (.int .u64 4294967295))=some (.int .u64 1):=by kernel_rfl
theorem aXM:∀n:Fin 64,(BitVec.ofInt 64 (n.val:Int) &&& BitVec.ofInt 64 4294967295).toNat=n.val:=by decide
theorem aWa{n:Nat}(hn:n<64):aT PG (binOp .and dT (.int .u64 (n:Int)) (.int .u64 4294967295))=some (.int .u64 (n:Int)):=by
 have e:aT PG (binOp .and dT (.int .u64 (n:Int)) (.int .u64 4294967295))=some (.int .u64 (IntKind.u64.wrap ((BitVec.ofInt 64 (n:Int) &&& BitVec.ofInt 64 4294967295).toNat:Int))):=rfl
 have:=aXM ⟨n,hn⟩
 simp only at this
 rw[e,this,iZ (by omega) (by omega)]
theorem aRJ{n:Nat}(hn:n<64):aT PG (binOp .shr dT (.int .u64 (n:Int)) (.int .u64 32))=some (.int .u64 0):=by
 rw[aIL (by decide)]
 congr 2
 show(n:Int).fdiv (2^32)=0
 rw[Int.fdiv_eq_ediv_of_nonneg _ (by decide)]
 have:(2:Int)^32=4294967296:=by rfl
 omega
theorem aWl:aT PG (binOp .shr dT (.int .u64 0) (.int .u64 32))=some (.int .u64 0):=aRJ (n:=0) (by decide)
theorem aW8:aT PG (binOp .shr dT (.int .u64 1) (.int .u64 32))=some (.int .u64 0):=aRJ (n:=1) (by decide)
theorem aWL{h:PH}{n:Nat}(hn:n<64){k:eJ}(hk:k (.tuple #[.int .u64 0,.int .u64 n]) h):cR PG aFV #[.int .u64 1,.int .u64 n] h k:=by
 apply aFH.call
 unfold aFH
 simp only[eK,reduceIte]
 apply aD6.call
 unfold aD6
 have w0:IntKind.u64.wrap 0=0:=rfl
 have wn:IntKind.u64.wrap (n:Int)=n:=iZ (by omega) (by omega)
 simp only[aVj,aW8,aWa hn,aRJ hn,Int.one_mul,Int.zero_mul,Int.mul_zero,wn,w0,Int.add_zero,aTt,aWl,eK,reduceIte]
 exact hk
theorem aIB{b o f:Nat}{e:TypeId}{Q:Unit->PH->Prop}:∀(vs:List Value) (i:Nat) (h:PH) (c:Array Value),h b=some (.cells c e (0,f))->f≤o+i->o+i+vs.length≤c.size->(∀v∈vs,iF v=true)->
  Q () (if vs=[] then h else h.set b (.cells (xM c (o+i) vs) e (0,f)))->eZ PG (storeCells ⟨b,o,none⟩ vs i) h Q
 | [],i,h,c,_,_,_,_,hq=>by
  show Q () h
  simpa using hq
 | v::vs,i,h,c,hb,hf,hle,hv,hq=>by
  simp only[wT] at hle
  have hlt:o+i<c.size:=by omega
  have ha:(⟨b,o,none⟩:Addr).add i=⟨b,o+i,none⟩:=mV ..
  show iF v=true∧vE h ((⟨b,o,none⟩:Addr).add i)=false∧(∃u,fH h ((⟨b,o,none⟩:Addr).add i)=some u)∧eZ PG (storeCells ⟨b,o,none⟩ vs (i+1)) (sP h ((⟨b,o,none⟩:Addr).add i) v) Q
  rw[ha]
  refine⟨hv v (by simp),by simp[vE,hb];omega,⟨c[o+i],by simp[fH,hb,hlt]⟩,?_⟩
  have hset:sP h ⟨b,o+i,none⟩ v=h.set b (.cells (c.setIfInBounds (o+i) v) e (0,f)):=by
   funext x
   unfold sP PH.set
   by_cases hx:x=b
   ·subst hx;simp[hb]
   ·simp[hx]
  rw[hset]
  refine aIB vs (i+1) _ _ fP (by omega) (by simp;omega) (λu hu=>hv u (by simp[hu])) ?_
  have h2:∀o1 o2:Obj,(h.set b o1).set b o2=h.set b o2:=λo1 o2=>by funext x;unfold PH.set;split<;>rfl
  simp only[List.cons_ne_nil,if_false] at hq
  split
  ·rename_i hvs;subst hvs;simpa[xM] using hq
  ·rw[h2];simpa[xM,Nat.add_assoc] using hq
theorem aQ7{h:PH}{g:Nat}{cs:Array Value}{fr:Nat×Nat}{bs:List UInt8}(hb:h g=some (.cells cs fR fr))(hle:bs.length≤cs.size)(hcs:cs.toList.take bs.length=bs.map λb=>Value.int .u8 b.toNat)(hne:bs≠[])(hmax:bs.length≤rX){k:eJ}
  (hk:k (.string (tx bs)) (nW h ⟨g,0,none⟩ bs.length)):eZ PG (Builtin.unsafeString_ #[pB,dR] cT #[pT g 0,.int .i64 bs.length]) h k:=by
 have hl:bs.length≠0:=by simpa using hne
 have h63:¬((bs.length:Int)>IntKind.i64.max):=by
  have:IntKind.i64.max=9223372036854775807:=rfl
  unfold rX at hmax
  omega
 have hneg:¬(bs.length:Int)<0:=by omega
 have hz:¬(bs.length:Int)=0:=by omega
 have hdef:Builtin.unsafeString_ #[pB,dR] cT #[pT g 0,.int .i64 bs.length]=
   (do
    let n ←asInt (.int .i64 bs.length)
    if n<0 then runtimePanic (.error "unsafe.String: len out of range")
    if n>IntKind.i64.max then unsupported (.unsafePointer "String: a length above the largest int")
    if n=0 then pure (.string .empty)
    else if ←variablesAt ⟨g,0,none⟩ (←elemOf pB) n.toNat then do
     let s ←loadBytes ⟨g,0,none⟩ .empty n.toNat
     freeze ⟨g,0,none⟩ n.toNat
     pure (.string s)
    else unsupported (.unsafePointer "String: not so many bytes at ptr")):=rfl
 rw[hdef]
 have hs:kZ h g=some (some (fR,cs.size)):=by unfold kZ;rw[hb]
 have hv:bT PG h (variablesAt ⟨g,0,none⟩ fR bs.length)=some true:=by
  show(kZ h g).bind _=_
  rw[hs]
  have hc1:PG.cellsOf fR=1:=by kernel_rfl
  have:=Go.Lib.liesAt_bytes (P:=PG) hc1 (cs.size/PG.cellsOf fR) bs.length (by rw[hc1];simpa using hle)
  show some (liesAt PG PG.depth fR (cs.size/PG.cellsOf fR) 0 fR bs.length)=some true
  rw[this]
 have hlb:=semE_loadBytes (h:=h) bs ⟨g,0,none⟩ .empty rfl (λj x hx=>by
  rw[mV]
  unfold fH
  simp only[hb,iG]
  have hj:j<bs.length:=(zLx.1 hx).1
  have:(cs.toList.take bs.length)[j]? =some (.int .u8 x.toNat):=by rw[hcs,zLW,hx];rfl
  rw[aGj,if_pos hj] at this
  simpa using this)
 have helem:bT PG h (elemOf pB)=some fR:=by kernel_rfl
 simp only[asInt,asIntOf,pure_bind,map_pure,hneg,h63,hz,if_false,sM]
 refine jV helem ?_
 refine jV hv ?_
 simp only[if_true]
 refine jV hlb ?_
 show(∃o,h g=some o)∧_
 refine⟨⟨_,hb⟩,?_⟩
 show k (.string _) _
 have e:(⟨ByteArray.empty.data++bs.toArray⟩:ByteArray)=tx bs:=by apply ByteArray.ext;simp[tx]
 rw[e]
 exact hk
theorem FB.len{h:PH}{a g cap:Nat}{bs:List UInt8}(H:FB h a g cap bs){k:eJ}(hk:k (.int .i64 bs.length) h):cR PG rW #[pT a 0] h k:=by
 obtain⟨cs,f,ha,-⟩:=H
 apply aAo.call
 unfold aAo
 have c1:fH h ⟨a,0+1,none⟩=some (.slice (some ⟨g,0,none⟩) bs.length cap):=by simp[fH,ha]
 simp only[fJ.f1,fC.load,c1,fC.len,eK,reduceIte]
 exact hk
theorem FB.string{h:PH}{a g cap:Nat}{bs:List UInt8}(H:FB h a g cap bs)(hne:bs≠[]){k:eJ}(hk:∀h',FB h' a g cap bs->eW [g] h h'->k (.string (tx bs)) h'):cR PG lQ #[pT a 0] h k:=by
 obtain⟨cs,f,ha,hg,hf,hc,hsz,htk,hga,hmx⟩:=H
 have hpos:bs.length≠0:=by simpa using hne
 apply lY.call
 unfold lY
 have c1:fH h ⟨a,0+1,none⟩=some (.slice (some ⟨g,0,none⟩) bs.length cap):=by simp[fH,ha]
 simp only[fJ.f1,fC.load,c1,fC.len,eK,reduceIte]
 refine bT.semH (a:=pT g 0) ?_ ?_
 ·show bT PG h (if cap≠0 then _ else _)=_
  rw[if_pos (by omega)];rfl
 ·refine⟨c1,?_⟩
  refine aQ7 hg (by omega) htk hne (by omega) ?_
  have hg':nW h ⟨g,0,none⟩ bs.length g=some (.cells cs fR (0,bs.length)):=by
   unfold nW
   rw[if_neg hpos,if_pos rfl]
   simp only[hg]
   by_cases h0:f=0
   ·subst h0;simp
   ·have:((0==f)=true)=False:=by simp;omega
    simp only[this,if_false]
    congr 3
    ·exact Nat.max_eq_right (by omega) |>.trans (iG _)
  have hoth:∀b,b≠g->nW h ⟨g,0,none⟩ bs.length b=h b:=λb hb=>by
   unfold nW
   rw[if_neg hpos,if_neg hb]
  exact hk _ ⟨cs,bs.length,by rw[hoth a hga.symm];exact ha,hg',sL _,hc,hsz,htk,hga,hmx⟩ (λb o hb hn=>by rw[hoth b (by simpa using hn)];exact hb)
theorem FB.write{h:PH}{a g cap:Nat}{bs ys:List UInt8}(H:FB h a g cap bs)(hle:bs.length+ys.length≤cap)(hcap:bs.length+ys.length≤1000000){k:eJ}(hk:∀v h',FB h' a g cap (bs++ys)->eW [a,g] h h'->k v h'):
  cR PG mA #[pT a 0,.string (tx ys)] h k:=by
 obtain⟨cs,f,ha,hg,hf,hc,hsz,htk,hga,hmx⟩:=H
 apply lW.call
 unfold lW
 refine copyCheck_ok ha (.inr rfl) λh1 a1 u1 o1=>?_
 have g1:h1 g=some (.cells cs fR (0,f)):=by rw[o1 g hga];exact hg
 have c1:fH h1 ⟨a,0+1,none⟩=some (.slice (some ⟨g,0,none⟩) bs.length cap):=by simp[fH,a1]
 simp only[fJ.f1,fC.load,c1,cT.len,jL,eK,reduceIte]
 -- the append
 simp only[Builtin.append_,zLH,qA,sK,qO fC.und,qO cT.und,mF,nO fR.info,pure_bind,zLr,if_false,Builtin.lenOf,Bool.not_false,if_true,fR.size,jL]
 rw[if_pos hle]
 refine jV (aN2 (l:=ys)) ?_
 have hadd:(⟨g,0,none⟩:Addr).add (bs.length*1)=⟨g,bs.length,none⟩:=by rw[mV];simp
 show eZ PG (storeCells ((⟨g,0,none⟩:Addr).add (bs.length*1)) (ys.map λb=>Value.int .u8 b.toNat).toArray.toList >>= λ_=>pure _) h1 _
 rw[hadd]
 refine eZ.bind (P:=PG) (s:=storeCells _ _) ?_
 refine aIB (b:=g) (o:=bs.length) (f:=f) (ys.map λb=>Value.int .u8 b.toNat) 0 h1 cs g1 (by omega) (by simp;omega) (λv hv=>by obtain⟨b,-,rfl⟩:=mT.1 hv;rfl) ?_
 have key:∀h2:PH,(∃cs',h2 g=some (.cells cs' fR (0,f))∧cs'.size=cap∧cs'.toList.take (bs.length+ys.length)=((bs++ys).map λb=>Value.int .u8 b.toNat))->h2 a=h1 a->eW [g] h1 h2->
   eZ PG (fQ fC (pT a (0+1)) (.slice (some ⟨g,0,none⟩) (bs.length+ys.length) cap)) h2 λ_ h3=>k (.tuple #[.int .i64 ys.length,.nilIface]) h3:=by
  intro h2 ⟨cs',hg2,hs2,ht2⟩ ha2 u2
  refine jY fC.und rfl (by rw[ha2];exact a1) (by simp) rfl fC.info fC.size ?_
  refine hk _ _ ⟨cs',f,?_,by rw[qK hga];exact hg2,by simp;omega,by simpa using hle,hs2,by simpa using ht2,hga,hmx⟩ (((u1.mono λb hb=>.inl (by simp at hb;simp[hb])).trans (u2.mono λb hb=>.inl (by simp at hb;simp[hb]))).trans (eW.set (by simp)))
  rw[fP]
  simp
 by_cases hy:ys=[]
 ·subst hy
  rw[if_pos (show(List.map (λb=>Value.int .u8 (b.toNat:Int)) ([]:List UInt8))=[] from rfl)]
  exact key h1 ⟨cs,g1,hsz,by simpa using htk⟩ rfl eW.refl
 ·rw[if_neg (by simpa using hy)]
  refine key _ ⟨_,fP,by rw[aEu];exact hsz,?_⟩ (qK hga.symm) (eW.set (by simp))
  rw[Nat.add_zero,aBg _ _ _ (by simp;omega),htk]
  rw[zLE (by simp),qR (by simp),rL]
theorem aM4{n m:Nat}(h:m≤n):(List.replicate n (0:UInt8)).take m=List.replicate m 0:=by rw[List.take_replicate,aI7 h]
theorem aXT{ts:Array TypeId}{t:TypeId}{k:IntKind}{x y z:Int}:aT PG (Builtin.min_ ts t #[.int k x,.int k y,.int k z])=some (.int k (if z<(if y<x then y else x) then z else(if y<x then y else x))):=(rfl)
theorem aPz(x:Int):aT PG (convert oL dR (.int .u64 x))=some (.int .i64 (IntKind.i64.wrap x)):=by kernel_rfl
theorem aSD{h:PH}{n:Nat}(hn:n<64){k:eJ}(hk:∀h',fE h h'->k (.string (tx (List.replicate n 0))) h'):cR PG aEs #[.string (tx [0]),.int .i64 n] h k:=by
 apply aEa.call
 unfold aEa
 simp only[jO,eK,reduceIte]
 by_cases h0:n=0
 ·subst h0
  simp only[show(((0:Nat):Int)==0)=true from rfl,eK,reduceIte]
  exact hk _ eW.refl
 ·have e0:((n:Int)==0)=false:=by simpa using h0
  simp only[e0,eK,reduceIte]
  by_cases h1:n=1
  ·subst h1
   simp only[show(((1:Nat):Int)==1)=true from rfl,eK,reduceIte]
   exact hk _ eW.refl
  ·have e1:((n:Int)==1)=false:=by simp;omega
   have e2:((n:Int)<0)=False:=eq_false (by omega)
   simp only[e1,e2,eK,reduceIte]
   unfold aHi
   have w1:IntKind.u64.wrap (([0]:List UInt8).length:Int)=1:=rfl
   have wn:IntKind.u64.wrap (n:Int)=n:=iZ (by omega) (by omega)
   simp only[cT.len,jL,aJD,w1,wn,eK,reduceIte]
   refine aWL hn ?_
   have e3:((9223372036854775807:Int)<(n:Int))=False:=eq_false (by omega)
   simp only[aLA,aKX,show((0:Int)<0)=False from eq_false (by decide),e3,eK,reduceIte]
   unfold aHQ
   have wi:IntKind.i64.wrap (n:Int)=n:=gD (by omega) (by omega)
   have i0:aT PG (Instr.index cT (.string (tx [0])) (.int .i64 0))=some (.int .u8 ((0:UInt8).toNat:Int)):=aAS (j:=0) cT.und rfl
   have z0:(((0:UInt8).toNat:Int))=0:=rfl
   have w2:(([0]:List UInt8).length:Int)=1:=rfl
   have hz:((1:Int)==0)=false:=rfl
   have d1:((0:Int)==32)=false:=rfl
   have d2:((0:Int)==45)=false:=rfl
   have d3:((0:Int)==48)=false:=rfl
   have d4:((0:Int)==61)=false:=rfl
   have d5:((0:Int)==9)=false:=rfl
   simp only[cT.len,jL,aPz,wi,i0,z0,w2,hz,d1,d2,d3,d4,d5,eK,reduceIte]
   unfold sS
   simp only[eK,reduceIte]
   unfold aEJ aHS
   have e4:((8192:Int)<(n:Int))=False:=eq_false (by omega)
   simp only[e4,eK,reduceIte]
   unfold aBJ
   rw[zB]
   intro r hr
   try rw[eY]
   have u1:fE h (h.set r (.cells #[.pointer none,.slice none 0 0] fJ)):=eW.new hr
   have a1:(h.set r (.cells #[.pointer none,.slice none 0 0] fJ)) r=some (.cells #[.pointer none,.slice none 0 0] fJ (0,0)):=fP
   generalize h.set r (.cells #[.pointer none,.slice none 0 0] fJ)=h1 at *
   refine aV1 a1 (n:=n) (by omega) (by omega) λh2 g cap hF hcap u2 hg=>?_
   have ug:eW [r,g] h h2:=(u1.upd.trans (u2.mono λb hb=>.inl (by simp at hb;simp[hb])))
   have hgn:h g=none:=u1.none hg
   have fin:∀h',eW [r,g] h h'->fE h h':=λh' u b o hb _=>u b o hb (by
    simp only[jG,mD,or_false,not_or]
    exact⟨(λe=>by rw[e,hr] at hb;cases hb),(λe=>by rw[e,hgn] at hb;cases hb)⟩)
   refine FB.write hF (ys:=[0]) (by simpa using by omega) (by simp) λv h3 hF3 u3=>?_
   refine⟨λvs h'=>∃m,1≤m∧m≤n∧vs=[.int .i64 n,.int .i64 n,pT r 0]∧eW [r,g] h h'∧FB h' r g cap (List.replicate m 0),aNS r n,⟨1,by omega,by omega,rfl,ug.trans u3,hF3⟩,?_⟩
   rintro ρ h' ⟨m,hm1,hm2,hvs,u',F'⟩
   simp only[jT,kF,mQ,and_true] at hvs
   obtain⟨v7,v8,v9⟩:=hvs
   have hr':=F'.mu (n:=n) (vs:=[ρ 7,ρ 8,ρ 9])
   simp only[v7,v8,v9,jT,kF,aJY] at hr' ⊢
   unfold aGd
   refine F'.len ?_
   simp only[aJY,eK,reduceIte]
   by_cases hmn:m<n
   ·have f1:((m:Int)<(n:Int))=True:=eq_true (by omega)
    simp only[f1,eK,reduceIte]
    refine F'.len ?_
    have f2:IntKind.i64.wrap ((n:Int)-(m:Int))=((n-m:Nat):Int):=by rw[gD (by omega) (by omega)];omega
    simp only[aJY,f2,eK,reduceIte]
    refine F'.len ?_
    have f3:(if (n:Int)<(if (m:Int)<((n-m:Nat):Int) then(m:Int) else((n-m:Nat):Int)) then(n:Int) else(if (m:Int)<((n-m:Nat):Int) then(m:Int) else((n-m:Nat):Int)))=((min m (n-m):Nat):Int):=by
     split<;>split<;>omega
    simp only[aJY,aXT,f3,eK,reduceIte]
    refine F'.string (by simp;omega) λh4 F4 u4=>?_
    have ec:aT PG (Instr.sliceAt cT (.string (tx (List.replicate m 0))) none (some (.int .i64 ((min m (n-m):Nat):Int))) none)=some (.string (tx (List.replicate (min m (n-m)) 0))):=by
     have:=aHJ (P:=PG) (t:=cT) (l:=List.replicate m 0) (i:=0) (j:=min m (n-m)) (lo:=none) (hi:=some (.int .i64 ((min m (n-m):Nat):Int))) cT.und (.inl ⟨rfl,rfl⟩) (.inr ⟨_,rfl⟩) (by omega) (by simp;omega)
     rw[this,aM4 (by omega),zLa]
    simp only[ec,eK,reduceIte]
    refine F4.write (by simp;omega) (by simp;omega) λv5 h5 F5 u5=>?_
    rw[List.replicate_append_replicate] at F5
    refine⟨⟨m+min m (n-m),by omega,by omega,(by trivial),(u'.trans (u4.mono λb hb=>.inl (by simp at hb;simp[hb]))).trans u5,F5⟩,?_⟩
    rw[F5.mu,hr',aJY]
    omega
   ·have f1:((m:Int)<(n:Int))=False:=eq_false (by omega)
    simp only[f1,eK,reduceIte]
    refine F'.string (by simp;omega) λh4 F4 u4=>?_
    have:m=n:=by omega
    subst this
    exact hk _ (fin _ (u'.trans (u4.mono λb hb=>.inl (by simp at hb;simp[hb]))))
theorem aTE{s:S8}:aT PG (Instr.index gO (.agg #[wv s.a,wv s.b,wv s.c,wv s.d,wv s.e,wv s.f,wv s.g,wv s.h]) (.int .i64 0))=some (wv s.a):=by kernel_rfl
theorem aTJ{s:S8}:aT PG (Instr.index gO (.agg #[wv s.a,wv s.b,wv s.c,wv s.d,wv s.e,wv s.f,wv s.g,wv s.h]) (.int .i64 1))=some (wv s.b):=by kernel_rfl
theorem aTN{s:S8}:aT PG (Instr.index gO (.agg #[wv s.a,wv s.b,wv s.c,wv s.d,wv s.e,wv s.f,wv s.g,wv s.h]) (.int .i64 2))=some (wv s.c):=by kernel_rfl
theorem aUA{s:S8}:aT PG (Instr.index gO (.agg #[wv s.a,wv s.b,wv s.c,wv s.d,wv s.e,wv s.f,wv s.g,wv s.h]) (.int .i64 3))=some (wv s.d):=by kernel_rfl
theorem aUY{s:S8}:aT PG (Instr.index gO (.agg #[wv s.a,wv s.b,wv s.c,wv s.d,wv s.e,wv s.f,wv s.g,wv s.h]) (.int .i64 4))=some (wv s.e):=by kernel_rfl
theorem aTf{s:S8}:aT PG (Instr.index gO (.agg #[wv s.a,wv s.b,wv s.c,wv s.d,wv s.e,wv s.f,wv s.g,wv s.h]) (.int .i64 5))=some (wv s.f):=by kernel_rfl
theorem aTn{s:S8}:aT PG (Instr.index gO (.agg #[wv s.a,wv s.b,wv s.c,wv s.d,wv s.e,wv s.f,wv s.g,wv s.h]) (.int .i64 6))=some (wv s.g):=by kernel_rfl
theorem aTq{s:S8}:aT PG (Instr.index gO (.agg #[wv s.a,wv s.b,wv s.c,wv s.d,wv s.e,wv s.f,wv s.g,wv s.h]) (.int .i64 7))=some (wv s.h):=by kernel_rfl
theorem aW5{s:S8}{i:Nat}(hi:i<8):aT PG (Instr.index gO (.agg #[wv s.a,wv s.b,wv s.c,wv s.d,wv s.e,wv s.f,wv s.g,wv s.h]) (.int .i64 (i:Int)))=some (wv (s.l.getD i 0)):=by
 have:i=0∨i=1∨i=2∨i=3∨i=4∨i=5∨i=6∨i=7:=by omega
 rcases this with rfl|rfl|rfl|rfl|rfl|rfl|rfl|rfl
 ·exact aTE
 ·exact aTJ
 ·exact aTN
 ·exact aUA
 ·exact aUY
 ·exact aTf
 ·exact aTn
 ·exact aTq
def aNU(slot:Nat):List Value->PH->Nat:=λvs _=>match vs[slot]? with
 | some (Value.int _ v)=>(v+8).toNat
 | _=>0
theorem aWF(x:W):Value.int .u8 (IntKind.u8.wrap (x.toNat:Int))= .int .u8 ((UInt8.ofNat x.toNat).toNat:Int):=by
 rw[aHz,UInt8.toNat_ofNat']
 congr 1
theorem aRp(x:W):aT PG (convert eP fR (wv x))=some (.int .u8 ((UInt8.ofNat x.toNat).toNat:Int)):=by
 unfold wv
 rw[aU3,aWF]
theorem aSY(x:W):(wb x).length=4:=rfl
theorem aX5(x:W){j:Nat}(hj:j<4):aT PG (binOp .shr eP (wv x) (.int .i64 (24-8*(j:Int))))=some (wv (x>>>(24-8*j))):=by
 have:=aI0 (P:=PG) (t:=eP) (x:=x) (k:=.i64) (n:=24-8*j) (by omega)
 rw[←this]
 congr 3
 omega
theorem aVi(x:W){j:Nat}(hj:j<4):(wb x).take (j+1)=(wb x).take j++[UInt8.ofNat (x>>>(24-8*j)).toNat]:=by
 have:j=0∨j=1∨j=2∨j=3:=by omega
 rcases this with rfl|rfl|rfl|rfl
 ·rfl
 ·rfl
 ·rfl
 ·show wb x=[_,_,_]++[UInt8.ofNat (x>>>0).toNat]
  rw[BitVec.ushiftRight_zero];rfl
theorem aO9(s:S8){i:Nat}(hi:i<8):(s.l.take (i+1)).flatMap wb=(s.l.take i).flatMap wb++wb (s.l.getD i 0):=by
 have:i=0∨i=1∨i=2∨i=3∨i=4∨i=5∨i=6∨i=7:=by omega
 rcases this with rfl|rfl|rfl|rfl|rfl|rfl|rfl|rfl<;>rfl
theorem aQG(s:S8){i:Nat}(hi:i≤8):((s.l.take i).flatMap wb).length≤32:=by
 have:i=0∨i=1∨i=2∨i=3∨i=4∨i=5∨i=6∨i=7∨i=8:=by omega
 rcases this with rfl|rfl|rfl|rfl|rfl|rfl|rfl|rfl|rfl<;>(simp[S8.l,wb])
theorem aSh{h:PH}{a:Nat}{s:S8}{x y:Value}(ha:h a=some (.cells (kV s x y) hE (0,0))){k:eJ}(hk:∀h',fE h h'->k (.string (tx (aH0 s))) h'):
  cR PG aDe #[pT a 0] h k:=by
 apply wH.call
 unfold wH
 rw[zB]
 intro r hr
 try rw[eY]
 have u1:fE h (h.set r (.cells #[.pointer none,.slice none 0 0] fJ)):=eW.new hr
 have b1:BAt (h.set r (.cells #[.pointer none,.slice none 0 0] fJ)) r [] [r]:=BAt.zero fP
 generalize h.set r (.cells #[.pointer none,.slice none 0 0] fJ)=h1 at *
 have ha1:=u1.get ha
 have lA:=gO.loadAgg (o:=0) ha1 (by simp[kV])
 have lE:(kV s x y).extract 0 (0+8)= #[wv s.a,wv s.b,wv s.c,wv s.d,wv s.e,wv s.f,wv s.g,wv s.h]:=rfl
 rw[lE] at lA
 simp only[jH.f0,lA,eK,reduceIte]
 refine⟨λvs h'=>∃(i:Nat) (F:List Nat),i≤8∧vs=[pT r 0,.agg #[wv s.a,wv s.b,wv s.c,wv s.d,wv s.e,wv s.f,wv s.g,wv s.h],.int .i64 (i:Int)]∧BAt h' r ((s.l.take i).flatMap wb) F∧gQ h F∧fE h h',jP 8 2,⟨0,[r],by omega,rfl,b1,gQ.one hr,u1⟩,?_⟩
 rintro ρ h' ⟨i,F,hi,hvs,B,fF,u⟩
 simp only[jT,kF,mQ,and_true] at hvs
 obtain⟨v3,v10,v11⟩:=hvs
 simp only[v3,v10,v11,jT,kF]
 unfold aGg
 by_cases hl:i<8
 ·have e1:((i:Int)<8)=True:=eq_true (by omega)
  simp only[e1,aW5 hl,eK,reduceIte]
  refine⟨λvs h'=>∃(j:Nat) (F:List Nat),j≤4∧vs=[pT r 0,wv (s.l.getD i 0),.int .i64 (24-8*(j:Int)),.agg #[wv s.a,wv s.b,wv s.c,wv s.d,wv s.e,wv s.f,wv s.g,wv s.h],.int .i64 (i:Int)]∧BAt h' r ((s.l.take i).flatMap wb++(wb (s.l.getD i 0)).take j) F∧gQ h F∧fE h h',aNU 2,⟨0,F,by omega,rfl,by simpa using B,fF,u⟩,?_⟩
  rintro ρ2 h2 ⟨j,F2,hj,hvs,B2,fF2,u2⟩
  simp only[jT,kF,mQ,and_true] at hvs
  obtain⟨w3,w5,w6,w10,w11⟩:=hvs
  simp only[w3,w5,w6,w10,w11,jT,kF]
  unfold aGG
  by_cases hj4:j<4
  ·have e2:((0:Int)≤24-8*(j:Int))=True:=eq_true (by omega)
   have e3:IntKind.i64.wrap (24-8*(j:Int)-8)=24-8*((j+1:Nat):Int):=by rw[gD (by omega) (by omega)];omega
   have hsh:=aX5 (s.l.getD i 0) hj4
   simp only[e2,hsh,aRp,eK,reduceIte]
   have hlen:((s.l.take i).flatMap wb++(wb (s.l.getD i 0)).take j).length+1≤140737488355328:=by
    have h1:=aQG s hi
    have h2:((wb (s.l.getD i 0)).take j).length≤4:=by rw[vZ,aSY];omega
    rw[lH]
    omega
   refine WriteByte_ok B2 hlen _ ?_
   intro h3 F3 B3 u3 k3
   simp only[e3,eK,reduceIte]
   refine⟨⟨j+1,F3,by omega,(by trivial),?_,fF2.grow u2 k3,u2.fresh u3 fF2⟩,?_⟩
   ·rw[aVi _ hj4,←qU];exact B3
   ·simp only[aNU,sK,qA]
    omega
  ·have hj':j=4:=by omega
   subst hj'
   have e2:((0:Int)≤24-8*((4:Nat):Int))=False:=eq_false (by decide)
   have e3:IntKind.i64.wrap ((i:Int)+1)=((i+1:Nat):Int):=by rw[gD (by omega) (by omega)];omega
   simp only[e2,e3,eK,reduceIte]
   refine⟨⟨i+1,F2,by omega,rfl,?_,fF2,u2⟩,?_⟩
   ·rw[aO9 s hl];exact B2
   ·simp only[jP,sK,qA]
    omega
 ·have hi':i=8:=by omega
  subst hi'
  simp only[show(((8:Nat):Int)<8)=False from eq_false (by decide),eK,reduceIte]
  refine String_ok B λh3 u3=>?_
  exact hk _ (u.fresh u3 fF)
theorem aBX(x:Int):aT PG (convert dR dT (.int .i64 x))=some (.int .u64 (IntKind.u64.wrap x)):=by kernel_rfl
theorem aPE(x:Int):aT PG (convert dT fR (.int .u64 x))=some (.int .u8 (IntKind.u8.wrap x)):=by kernel_rfl
theorem aUw{n:Nat}{j:Nat}(hj:j<8):aT PG (binOp .shr dT (.int .u64 (n:Int)) (.int .i64 (56-8*(j:Int))))=some (.int .u64 ((n/256^(8-1-j):Nat):Int)):=by
 rw[aIL (by omega)]
 congr 2
 have e:min ((56-8*(j:Int)).toNat) (IntKind.u64.bits)=56-8*j:=by
  show min ((56-8*(j:Int)).toNat) 64=_
  omega
 have e2:(256:Nat)^(8-1-j)=2^(56-8*j):=by
  have:j=0∨j=1∨j=2∨j=3∨j=4∨j=5∨j=6∨j=7:=by omega
  rcases this with rfl|rfl|rfl|rfl|rfl|rfl|rfl|rfl<;>decide
 rw[e,e2,Int.fdiv_eq_ediv_of_nonneg _ (Int.pow_nonneg (by decide)),Int.natCast_ediv,Int.natCast_pow]
 rfl
theorem aRf(m:Nat):Value.int .u8 (IntKind.u8.wrap (m:Int))= .int .u8 ((UInt8.ofNat (m%256)).toNat:Int):=by
 rw[aHz,UInt8.toNat_ofNat']
 congr 1
 omega
theorem aTl{s:S8}{x:ByteArray}{k:IntKind}{n:Int}:∀v∈(kV s (.string x) (.int k n)).toList,iF v=true:=by
 intro v hv
 simp only[kV,jG,mD,or_false] at hv
 rcases hv with rfl|rfl|rfl|rfl|rfl|rfl|rfl|rfl|rfl|rfl<;>rfl
theorem aRV{h:PH}{a:Nat}{s:S8}{r:List UInt8}{n:Nat}(hK:oA h)(ha:HAt h a s r n)(hr:r.length<64)(hn:n≤100000000000){k:eJ}
  (hk:∀h',fE h h'->k (.string (tx (aH0 (qP s (r++aIA n)).1))) h'):cR PG aGH #[pT a 0] h k:=by
 apply aGV.call
 unfold aGV
 have lA:=hE.loadAgg (o:=0) ha (by simp[kV])
 have lE:(kV s (.string (tx r)) (.int .i64 n)).extract 0 (0+10)=kV s (.string (tx r)) (.int .i64 n):=rfl
 rw[lE] at lA
 simp only[lA,eK,reduceIte]
 intro r3 hr3
 try rw[eY]
 have u1:fE h (h.set r3 (.cells (fY PG hE) hE)):=eW.new hr3
 have a3:(h.set r3 (.cells (fY PG hE) hE)) r3=some (.cells (fY PG hE) hE (0,0)):=fP
 generalize h.set r3 (.cells (fY PG hE) hE)=h1 at *
 refine aAE a3 hE.info rfl (by simp[kV]) (by rw[hE.zc];rfl) aTl ?_
 have u2:fE h (h1.set r3 (.cells (kV s (.string (tx r)) (.int .i64 n)) hE (0,0))):=u1.fresh (eW.set (F:=[r3]) (by simp)) (gQ.one hr3)
 have a3':HAt (h1.set r3 (.cells (kV s (.string (tx r)) (.int .i64 n)) hE (0,0))) r3 s r n:=fP
 generalize h1.set r3 (.cells (kV s (.string (tx r)) (.int .i64 n)) hE (0,0))=h2 at *
 rw[zB]
 intro r7 hr7
 try rw[eY]
 have u3:fE h2 (h2.set r7 (.cells #[.pointer none,.slice none 0 0] fJ)):=eW.new hr7
 have b7:BAt (h2.set r7 (.cells #[.pointer none,.slice none 0 0] fJ)) r7 [] [r7]:=BAt.zero fP
 have n7:h r7=none:=u2.none hr7
 generalize h2.set r7 (.cells #[.pointer none,.slice none 0 0] fJ)=h3 at *
 have a3'':HAt h3 r3 s r n:=u3.get a3'
 have u4:=u2.trans u3
 have hF7:∀b∈[r7],b≠r3:=by
  intro b hb
  simp at hb
  subst hb
  rintro rfl
  rw[a3'] at hr7;cases hr7
 refine⟨λvs h'=>∃(j:Nat) (F:List Nat),j≤8∧vs=[pT a 0,pT r3 0,pT r7 0,.int .i64 (56-8*(j:Int))]∧BAt h' r7 ((be (n*8%18446744073709551616) 8).take j) F∧gQ h F∧fE h h'∧(∀b∈F,b≠r3)∧HAt h' r3 s r n,aNU 3,⟨0,[r7],by omega,rfl,b7,gQ.one n7,u4,hF7,a3''⟩,?_⟩
 rintro ρ h' ⟨j,F,hj,hvs,B,fF,u,hF,ha'⟩
 simp only[jT,kF,mQ,and_true] at hvs
 obtain⟨v0,v3,v4,v5⟩:=hvs
 simp only[v0,v3,v4,v5,jT,kF]
 unfold aIK
 have hAt:=u.get ha
 have c9:fH h' ⟨a,0+9,none⟩=some (.int .i64 n):=by simp[fH,hAt,kV]
 have en:n*8%18446744073709551616=n*8:=aCI (by omega)
 by_cases hl:j<8
 ·have e1:((0:Int)≤56-8*(j:Int))=True:=eq_true (by omega)
  have e2:IntKind.u64.wrap (n:Int)=(n:Int):=iZ (by omega) (by omega)
  have e3:IntKind.u64.wrap ((n:Int)*8)=((n*8:Nat):Int):=by rw[iZ (by omega) (by omega)];omega
  have e4:IntKind.i64.wrap (56-8*(j:Int)-8)=56-8*((j+1:Nat):Int):=by rw[gD (by omega) (by omega)];omega
  simp only[e1,hE.f2,dR.load,c9,aBX,e2,e3,aUw hl,aPE,aRf,eK,reduceIte]
  refine WriteByte_ok B (by rw[vZ,jQ];omega) _ ?_
  intro h5 F5 B5 u5 k5
  simp only[e4,eK,reduceIte]
  refine⟨⟨j+1,F5,by omega,(by trivial),?_,fF.grow u k5,u.fresh u5 fF,λb hb=>?_,u5.get ha' (λhm=>hF _ hm rfl)⟩,?_⟩
  ·rw[aID hl,en]
   rw[en] at B5
   exact B5
  ·rcases k5 b hb with h1|h1
   ·exact hF b h1
   ·rintro rfl
    unfold HAt at ha'
    rw[ha'] at h1;cases h1
  ·simp only[aNU,sK,qA]
   omega
 ·have hj':j=8:=by omega
  subst hj'
  have e1:((0:Int)≤56-8*((8:Nat):Int))=False:=eq_false (by decide)
  have e2:((n:Int)).tmod 64=((n%64:Nat):Int):=by rw[Int.tmod_eq_emod_of_nonneg (by omega)];omega
  have e3:IntKind.i64.wrap (119-((n%64:Nat):Int))=((119-n%64:Nat):Int):=by rw[gD (by omega) (by omega)];omega
  have e4:(((119-n%64:Nat):Int)).tmod 64=(((119-n%64)%64:Nat):Int):=by rw[Int.tmod_eq_emod_of_nonneg (by omega)];omega
  have d1:∀(t:TypeId) (x:Int),aT PG (binOp .rem t (.int .i64 x) (.int .i64 64))=some (.int .i64 (x.tmod 64)):=λt x=>aHU (by decide)
  simp only[e1,hE.f2,dR.load,c9,d1,e2,e3,e4,eK,reduceIte]
  refine aSD (zLy _ (by decide)) λh5 u5=>?_
  have ex:∀(t:TypeId),aT PG (binOp .add t (.string {data:=#[128]}) (.string (tx (List.replicate ((119-n%64)%64) 0))))=some (.string (tx ([128]++List.replicate ((119-n%64)%64) 0))):=λt=>mR (a:=[128]) (by simp;omega)
  simp only[ex,eK,reduceIte]
  have B5:=B.ext u5
  refine String_ok B5 λh6 u6=>?_
  have et:(be (n*8%18446744073709551616) 8).take 8=be (n*8%18446744073709551616) 8:=qR (Nat.le_of_eq (jQ _ _))
  rw[et]
  have ey:∀(t:TypeId),aT PG (binOp .add t (.string (tx ([128]++List.replicate ((119-n%64)%64) 0))) (.string (tx (be (n*8%18446744073709551616) 8))))=some (.string (tx (aIA n))):=λt=>by
   rw[mR (by simp[jQ];omega)]
   rfl
  simp only[ey,eK,reduceIte]
  have a6:HAt h6 r3 s r n:=u6.get (u5.get ha') (λhm=>hF _ hm rfl)
  have u7:fE h h6:=(u.trans u5).fresh u6 fF
  have hpl:(aIA n).length≤80:=by
   simp only[aIA,wT,lH,aJY,jQ]
   have:=zLy (119-n%64) (show 64>0 by decide)
   omega
  refine aPQ (hK.ext u7) a6 (by omega) (by omega) λh8 u8 a8=>?_
  simp only[hE.f0,eK,reduceIte]
  refine aSh a8 λh9 u9=>?_
  exact hk _ ((u7.fresh u8 (gQ.one hr3)).trans u9)
def kD(p:List UInt8):List Value:=[.string (tx p)]
theorem kD.rows(l:List (List UInt8)):lC 1 (l.map kD):=λr hr=>by
 obtain⟨p,-,rfl⟩:=mT.1 hr;rfl
theorem aRg{h:PH}{k:eJ}(hk:∀h' a,h a=none->fE h h'->HAt h' a S0 [] 0->k (pT a 0) h'):cR PG aJz #[] h k:=by
 apply aLY.call
 unfold aLY
 apply aIh.call
 unfold aIh
 intro r1 hr1
 try rw[eY]
 have zS:fY PG jH=(zs 8).toArray:=by rw[jH.zc];rfl
 rw[zS]
 have u1:fE h (h.set r1 (.cells (zs 8).toArray jH)):=eW.new hr1
 have a1:(h.set r1 (.cells (zs 8).toArray jH)) r1=some (.cells (zs 8).toArray jH (0,0)):=fP
 generalize h.set r1 (.cells (zs 8).toArray jH)=h1 at *
 have b1:aT PG (build gO #[(0,(Value.int IntKind.u32 1779033703)),(1,(Value.int IntKind.u32 3144134277)),(2,(Value.int IntKind.u32 1013904242)),(3,(Value.int IntKind.u32 2773480762)),(4,(Value.int IntKind.u32 1359893119)),(5,(Value.int IntKind.u32 2600822924)),(6,(Value.int IntKind.u32 528734635)),(7,(Value.int IntKind.u32 1541459225))])=some (.agg #[wv S0.a,wv S0.b,wv S0.c,wv S0.d,wv S0.e,wv S0.f,wv S0.g,wv S0.h]):=by kernel_rfl
 have b2:aT PG (build jH #[(0,.agg #[wv S0.a,wv S0.b,wv S0.c,wv S0.d,wv S0.e,wv S0.f,wv S0.g,wv S0.h])])=some (.agg #[wv S0.a,wv S0.b,wv S0.c,wv S0.d,wv S0.e,wv S0.f,wv S0.g,wv S0.h]):=by kernel_rfl
 have b3:aT PG (build hE #[(0,.agg #[wv S0.a,wv S0.b,wv S0.c,wv S0.d,wv S0.e,wv S0.f,wv S0.g,wv S0.h])])=some (.agg (kV S0 (.string (tx [])) (.int .i64 (0:Nat)))):=by kernel_rfl
 simp only[b1,b2,eK,reduceIte]
 refine aAE a1 jH.info rfl (by simp) rfl (by simp[isw]) ?_
 have u2:fE h (h1.set r1 (.cells #[wv S0.a,wv S0.b,wv S0.c,wv S0.d,wv S0.e,wv S0.f,wv S0.g,wv S0.h] jH (0,0))):=u1.fresh (eW.set (F:=[r1]) (by simp)) (gQ.one hr1)
 have a2:(h1.set r1 (.cells #[wv S0.a,wv S0.b,wv S0.c,wv S0.d,wv S0.e,wv S0.f,wv S0.g,wv S0.h] jH (0,0))) r1=some (.cells #[wv S0.a,wv S0.b,wv S0.c,wv S0.d,wv S0.e,wv S0.f,wv S0.g,wv S0.h] jH (0,0)):=fP
 generalize h1.set r1 (.cells #[wv S0.a,wv S0.b,wv S0.c,wv S0.d,wv S0.e,wv S0.f,wv S0.g,wv S0.h] jH (0,0))=h2 at *
 have lA:=jH.loadAgg (o:=0) a2 (by simp)
 have lE:(#[wv S0.a,wv S0.b,wv S0.c,wv S0.d,wv S0.e,wv S0.f,wv S0.g,wv S0.h]:Array Value).extract 0 (0+8)= #[wv S0.a,wv S0.b,wv S0.c,wv S0.d,wv S0.e,wv S0.f,wv S0.g,wv S0.h]:=rfl
 rw[lE] at lA
 simp only[lA,b3,eK,reduceIte]
 intro a ha
 try rw[eY]
 exact hk _ a (u2.none ha) (u2.trans (eW.new ha)) fP
theorem aMn{h:PH}{v:Value}{kI:List (List UInt8)}(hK:oA h)(hs:iR h 1 v (kI.map kD))(hl:kI.flatten.length≤100000000){k:eJ}(hk:∀h',fE h h'->k (.string (tx (pQ kI.flatten))) h'):
  cR PG aEj #[v] h k:=by
 apply aLN.call
 unfold aLN
 refine aRg λh1 a hna u1 ha=>?_
 have hs1:=hs.ext u1
 have lv:=hs1.len (t':=dR) eS.und
 rw[kQ] at lv
 simp only[lv,eK,reduceIte]
 have hsm:=hs.small
 rw[kQ] at hsm
 unfold rX at hsm
 refine⟨λvs h'=>∃i,i≤kI.length∧vs=[pT a 0,v,.int .i64 kI.length,.int .i64 (i:Int)]∧fE h h'∧HAt h' a (qP S0 (kI.take i).flatten).1 (qP S0 (kI.take i).flatten).2 (kI.take i).flatten.length,jP kI.length 3,⟨0,by omega,rfl,u1,by simpa[aHV (s:=S0) (l:=[]) (by simp)] using ha⟩,?_⟩
 rintro ρ h' ⟨i,hi,hvs,u,ha'⟩
 simp only[jT,kF,mQ,and_true] at hvs
 obtain⟨v3,v7,v8,v9⟩:=hvs
 simp only[v3,v7,v8,v9,jT,kF]
 unfold aM2
 have hfl:(kI.take i).flatten.length≤kI.flatten.length:=by
  have:kI.flatten=(kI.take i).flatten++(kI.drop i).flatten:=by rw[←zLD,zL7]
  rw[this,lH];omega
 by_cases hlt:i<kI.length
 ·have e1:((i:Int)<(kI.length:Int))=True:=eq_true (by omega)
  have e2:IntKind.i64.wrap ((i:Int)+1)=((i+1:Nat):Int):=by rw[gD (by omega) (by omega)];omega
  have hr:(kI.map kD)[(i:Int).toNat]? =some (kD kI[i]):=by rw[sM,zLW,nM hlt];rfl
  obtain⟨pa,hpa,hload⟩:=(hs.ext u).loadCell (t:=eS) (k:=.i64) (j:=(i:Int)) eS.und cT.info cT.size cT.und rfl (by omega) hr
  have ht:(kI.take (i+1)).flatten=(kI.take i).flatten++kI[i]:=by
   rw[zL8 hlt,zLD];simp
  have hfl2:(kI.take (i+1)).flatten.length≤kI.flatten.length:=by
   have:kI.flatten=(kI.take (i+1)).flatten++(kI.drop (i+1)).flatten:=by rw[←zLD,zL7]
   rw[this,lH];omega
  rw[ht,lH] at hfl2
  have hrest:=aI9 S0 (kI.take i).flatten
  simp only[e1,hpa,hload,eK,reduceIte]
  refine aPQ (hK.ext u) ha' (by omega) (by omega) λh2 u2 ha2=>?_
  simp only[e2,eK,reduceIte]
  refine⟨⟨i+1,by omega,rfl,u.fresh u2 (gQ.one hna),?_⟩,?_⟩
  ·rw[ht,aJ9,lH];exact ha2
  ·simp only[jP,sK,qA]
   omega
 ·have e1:((i:Int)<(kI.length:Int))=False:=eq_false (by omega)
  have hi':i=kI.length:=by omega
  simp only[e1,eK,reduceIte]
  refine aRV (hK.ext u) ha' (aI9 _ _) (by omega) λh2 u2=>?_
  have:=hk h2 (u.trans u2)
  unfold pQ at this
  rw[aJ9] at this
  rw[hi',zLG]
  exact this
structure Pr where
 (k v:Tx)
deriving DecidableEq
def Pr.cells(p:Pr):List Value:=[.string (tx p.k),.string (tx p.v)]
def Pr.val(p:Pr):Value:=.agg #[.string (tx p.k),.string (tx p.v)]
theorem Pr.rows(l:List Pr):lC 2 (l.map Pr.cells):=λr hr=>by
 obtain⟨p,-,rfl⟩:=mT.1 hr;rfl
theorem Pr.isCell(l:List Pr):∀r∈l.map Pr.cells,∀u∈r,iF u=true:=λr hr u hu=>by
 obtain⟨p,-,rfl⟩:=mT.1 hr
 simp only[Pr.cells,jG,mD,or_false] at hu
 rcases hu with rfl|rfl<;>rfl
theorem aIF:∀(x y:List UInt8),Op.bytesLess x y=decide (x<y)
 | [],[]=>by simp[Op.bytesLess]
 | _::_,[]=>by simp[Op.bytesLess]
 | [],_::_=>by simp[Op.bytesLess]
 | a::x,b::y=>by
  rw[Op.bytesLess,aIF x y]
  simp only[List.cons_lt_cons_iff]
  by_cases h1:a<b<;>by_cases h2:a=b<;>by_cases h3:x<y<;>simp[h1,h2,h3]
theorem aCj(l:Tx):(tx l).toList=l:=by rw[ByteArray.toList_eq];simp[tx]
theorem aGw(a b:Tx):a<b∨a=b∨b<a:=by
 by_cases h1:a<b
 ·exact .inl h1
 ·by_cases h2:b<a
  ·exact .inr (.inr h2)
  ·exact .inr (.inl (List.le_antisymm h2 h1))
section
variable{P:Program}{t:TypeId}{a b:Tx}{h:PH}
theorem xQ:aT P (binOp .lss t (.string (tx a)) (.string (tx b)))=some (.bool (decide (a<b))):=by
 have e:aT P (binOp .lss t (.string (tx a)) (.string (tx b)))=some (.bool (Op.bytesLess (tx a).toList (tx b).toList)):=rfl
 rw[e,aCj,aCj,aIF]
theorem aMm:aT P (binOp .gtr t (.string (tx a)) (.string (tx b)))=some (.bool (decide (b<a))):=by
 have e:aT P (binOp .gtr t (.string (tx a)) (.string (tx b)))=some (.bool (!(Op.bytesLess (tx a).toList (tx b).toList||(tx a).toList==(tx b).toList))):=rfl
 rw[e,aCj,aCj,aIF]
 congr 2
 rcases aGw a b with h|h|h
 ·have h2:¬b<a:=List.lt_asymm h
  simp[h,h2]
 ·subst h
  simp[zLY]
 ·have h2:¬a<b:=List.lt_asymm h
  have h3:a≠b:=by rintro rfl;exact zLY _ h
  simp[h,h2,h3]
end
theorem aTV(x:Int):aT PG (convert dR fR (.int .i64 x))=some (.int .u8 (IntKind.u8.wrap x)):=by kernel_rfl
theorem aM9{h:PH}{n:Nat}{k:eJ}(hk:∀h',fE h h'->k (.string (tx [UInt8.ofNat (n%256)])) h'):cR PG aDQ #[.int .i64 n] h k:=by
 apply aHw.call
 unfold aHw
 simp only[aTV,aRf,byte_lit,eK,reduceIte]
 intro r hr
 refine iK ?_
 try rw[eY]
 have u:fE h (h.set r (.cells #[.int .u8 ((UInt8.ofNat (n%256)).toNat:Int)] fR)):=eW.new hr
 have s:iR (h.set r (.cells #[.int .u8 ((UInt8.ofNat (n%256)).toNat:Int)] fR)) 1 (.slice (some ⟨r,0,none⟩) 1 1) ([UInt8.ofNat (n%256)].map kL):=(gU.lit (kL.rows [UInt8.ofNat (n%256)]) fP (by simp) (by decide) (by simp[kL])).slR
 have hcv:bT PG _ (convert fC cT (.slice (some ⟨r,0,none⟩) 1 1))=some (.string (tx [UInt8.ofNat (n%256)])):=aEf fC.und fR.und cT.und s
 rw[hcv,aK2]
 exact hk _ u
theorem aUl(a b c:ByteArray):iP PG (buildSlice eS 3 #[(0,.string a),(1,.string b),(2,.string c)])=some (.cells #[.string a,.string b,.string c] cT,λr=>pure (.slice (some ⟨r,0,none⟩) 3 3)):=by kernel_rfl
theorem aXI(a b c d e:ByteArray):iP PG (buildSlice eS 5 #[(0,.string a),(1,.string b),(2,.string c),(3,.string d),(4,.string e)])=some (.cells #[.string a,.string b,.string c,.string d,.string e] cT,λr=>pure (.slice (some ⟨r,0,none⟩) 5 5)):=by kernel_rfl
def zJ(l r:Tx):Tx:=pQ (1::(l++r))
def aFI(p:Pr):Tx:=pQ (0::UInt8.ofNat (p.k.length%256)::(p.k++UInt8.ofNat (p.v.length%256)::p.v))
theorem aJX{h:PH}{l r:Tx}(hK:oA h)(hl:l.length+r.length≤10000000){k:eJ}(hk:∀h',fE h h'->k (.string (tx (zJ l r))) h'):cR PG aCM #[.string (tx l),.string (tx r)] h k:=by
 apply aGy.call
 unfold aGy
 simp only[aUl,eK,reduceIte]
 intro b hb
 refine iK ?_
 try rw[eY]
 have u:fE h (h.set b (.cells #[.string ⟨#[1]⟩,.string (tx l),.string (tx r)] cT)):=eW.new hb
 have s:iR (h.set b (.cells #[.string ⟨#[1]⟩,.string (tx l),.string (tx r)] cT)) 1 (.slice (some ⟨b,0,none⟩) 3 3) ([[1],l,r].map kD):=(gU.lit (kD.rows [[1],l,r]) fP (by simp) (by decide) rfl).slR
 refine aMn (hK.ext u) s (by simp;omega) λh' u'=>?_
 have e:zJ l r=pQ [[1],l,r].flatten:=by simp[zJ]
 rw[e] at hk
 exact hk _ (u.trans u')
theorem aLS(p:Pr):Value.cells p.val= #[.string (tx p.k),.string (tx p.v)]:=rfl
theorem aQS{h:PH}{p:Pr}(hK:oA h)(hl:p.k.length+p.v.length≤10000000){k:eJ}(hk:∀h',fE h h'->k (.string (tx (aFI p))) h'):cR PG aEY #[p.val] h k:=by
 apply aDW.call
 unfold aDW
 rw[aLS]
 intro r hr
 try rw[eY]
 have u1:fE h (h.set r (.cells #[.string (tx p.k),.string (tx p.v)] eQ)):=eW.new hr
 have a1:(h.set r (.cells #[.string (tx p.k),.string (tx p.v)] eQ)) r=some (.cells #[.string (tx p.k),.string (tx p.v)] eQ (0,0)):=fP
 generalize h.set r (.cells #[.string (tx p.k),.string (tx p.v)] eQ)=h1 at *
 have c0:fH h1 ⟨r,0,none⟩=some (.string (tx p.k)):=by simp[fH,a1]
 have c1:fH h1 ⟨r,0+1,none⟩=some (.string (tx p.v)):=by simp[fH,a1]
 simp only[eQ.f0,eQ.f1,cT.load,c0,c1,cT.len,jL,eK,reduceIte]
 refine aM9 λh2 u2=>?_
 have a2:=u2.get a1
 have c0':fH h2 ⟨r,0,none⟩=some (.string (tx p.k)):=by simp[fH,a2]
 have c1':fH h2 ⟨r,0+1,none⟩=some (.string (tx p.v)):=by simp[fH,a2]
 simp only[cT.load,c0',c1',true_and]
 refine aM9 λh3 u3=>?_
 have a3:=u3.get a2
 have c0'':fH h3 ⟨r,0,none⟩=some (.string (tx p.k)):=by simp[fH,a3]
 have c1'':fH h3 ⟨r,0+1,none⟩=some (.string (tx p.v)):=by simp[fH,a3]
 simp only[cT.load,c0'',c1'',true_and,aXI,eK,reduceIte]
 intro b hb
 refine iK ?_
 try rw[eY]
 have u4:fE h3 (h3.set b (.cells #[.string ⟨#[0]⟩,.string (tx [UInt8.ofNat (p.k.length%256)]),.string (tx p.k),.string (tx [UInt8.ofNat (p.v.length%256)]),.string (tx p.v)] cT)):=eW.new hb
 have s:iR (h3.set b (.cells #[.string ⟨#[0]⟩,.string (tx [UInt8.ofNat (p.k.length%256)]),.string (tx p.k),.string (tx [UInt8.ofNat (p.v.length%256)]),.string (tx p.v)] cT)) 1 (.slice (some ⟨b,0,none⟩) 5 5) ([[0],[UInt8.ofNat (p.k.length%256)],p.k,[UInt8.ofNat (p.v.length%256)],p.v].map kD):=(gU.lit (n:=5) (kD.rows [[0],[UInt8.ofNat (p.k.length%256)],p.k,[UInt8.ofNat (p.v.length%256)],p.v]) fP (by simp) (by decide) rfl).slR
 have u:=((u1.trans u2).trans u3).trans u4
 refine aMn (hK.ext u) s (by simp;omega) λh' u'=>?_
 have e:aFI p=pQ [[0],[UInt8.ofNat (p.k.length%256)],p.k,[UInt8.ofNat (p.v.length%256)],p.v].flatten:=by simp[aFI]
 rw[e] at hk
 exact hk _ (u.trans u')
def aC1(x:Nat):Nat:=if x=0 then 0 else Nat.log2 x+1
theorem aWc:(List.range 256).all (λx=>aNa[x]? == some (UInt8.ofNat (aC1 x)))=true:=by kernel_rfl
theorem aVD{x:Nat}(hx:x<256):aNa[x]? =some (UInt8.ofNat (aC1 x)):=by
 have:=aCB.1 aWc x (aJs.2 hx)
 simpa using this
theorem aVy{x:Nat}(hx:x<256):aC1 x<256:=by
 unfold aC1
 split
 ·decide
 ·have:=Nat.log2_lt (n:=x) (k:=8) (by omega)
  have:=this.2 (by simpa using hx)
  omega
theorem aRM{x:Nat}(h1:256≤x):aC1 x=aC1 (x/256)+8:=by
 have h2:x/256≠0:=by omega
 unfold aC1
 rw[if_neg (by omega),if_neg h2]
 have:Nat.log2 x=Nat.log2 (x/256)+8:=by
  rw[Nat.log2_eq_iff (by omega)]
  have a:=(Nat.log2_eq_iff (n:=x/256) (k:=Nat.log2 (x/256)) h2).1 rfl
  rw[Nat.pow_add,Nat.pow_add,Nat.pow_add]
  rw[Nat.pow_add] at a
  omega
 omega
theorem aS5(x:Int):aT PG (convert fR dR (.int .u8 x))=some (.int .i64 (IntKind.i64.wrap x)):=by kernel_rfl
theorem aRr{h:PH}{x n:Nat}(hx:x<256)(hn:n≤64){k:eJ}(hk:k (.int .i64 ((n+aC1 x:Nat):Int)) h):aAd k (.int .u64 (x:Int)) (.int .i64 (n:Int)) h:=by
 unfold aAd
 have e0:(⟨aNa⟩:ByteArray)=tx aNa.toList:=by simp[tx]
 have e1:IntKind.u8.wrap (x:Int)=x:=by rw[aHz];omega
 have hl:=aVy hx
 have e2:aT PG (Instr.index cT (.string ⟨aNa⟩) (.int .u8 (x:Int)))=some (.int .u8 ((UInt8.ofNat (aC1 x)).toNat:Int)):=by
  rw[e0]
  exact aAS cT.und (by rw[aJ2];exact aVD hx)
 have e3:((UInt8.ofNat (aC1 x)).toNat:Int)=((aC1 x:Nat):Int):=by rw[UInt8.toNat_ofNat'];congr 1;exact aCI hl
 have e4:IntKind.i64.wrap ((aC1 x:Nat):Int)=((aC1 x:Nat):Int):=gD (by omega) (by omega)
 have e5:IntKind.i64.wrap ((n:Int)+((aC1 x:Nat):Int))=((n+aC1 x:Nat):Int):=by rw[gD (by omega) (by omega)];omega
 simp only[aPE,e1,e2,e3,aS5,e4,e5,eK,reduceIte]
 exact hk
theorem aX0{n:Nat}:aT PG (binOp .shr dT (.int .u64 (n:Int)) (.int .u64 8))=some (.int .u64 ((n/256:Nat):Int)):=by
 rw[aIL (by decide)]
 congr 2
 show(n:Int).fdiv (2^8)=_
 rw[Int.fdiv_eq_ediv_of_nonneg _ (by decide)]
 have:(2:Int)^8=256:=by rfl
 omega
theorem aQz{h:PH}{x:Nat}(hx:x<65536){k:eJ}(hk:k (.int .i64 ((aC1 x:Nat):Int)) h):cR PG aFU #[.int .u64 (x:Int)] h k:=by
 apply aFE.call
 unfold aFE
 simp only[eK,reduceIte]
 apply aDp.call
 unfold aDp
 have e1:((4294967296:Int)≤(x:Int))=False:=eq_false (by omega)
 have e2:((65536:Int)≤(x:Int))=False:=eq_false (by omega)
 simp only[e1,eK,reduceIte]
 unfold aEA
 simp only[e2,eK,reduceIte]
 unfold aD9
 by_cases h8:256≤x
 ·have e3:((256:Int)≤(x:Int))=True:=eq_true (by omega)
  have e4:IntKind.i64.wrap ((0:Int)+8)=((8:Nat):Int):=rfl
  simp only[e3,aX0,e4,eK,reduceIte]
  refine aRr (by omega) (by decide) ?_
  rw[aRM h8,Nat.add_comm] at hk
  exact hk
 ·have e3:((256:Int)≤(x:Int))=False:=eq_false (by omega)
  simp only[e3,eK,reduceIte]
  refine aRr (n:=0) (by omega) (by decide) ?_
  rw[iG];exact hk
def fV(n:Nat):Nat:=2^Nat.log2 (n-1)
theorem mK{n:Nat}(h:2≤n):1≤fV n∧fV n<n:=by
 unfold fV
 have:=(Nat.log2_eq_iff (n:=n-1) (k:=Nat.log2 (n-1)) (by omega)).1 rfl
 have h2:0<2^Nat.log2 (n-1):=Nat.pow_pos (by decide)
 omega
theorem aNR{h:PH}{n:Nat}(h2:2≤n)(hn:n≤65536){k:eJ}(hk:k (.int .i64 ((fV n:Nat):Int)) h):cR PG aCJ #[.int .i64 (n:Int)] h k:=by
 apply aGx.call
 unfold aGx
 have e1:IntKind.i64.wrap ((n:Int)-1)=((n-1:Nat):Int):=by rw[gD (by omega) (by omega)];omega
 have e2:IntKind.u64.wrap ((n-1:Nat):Int)=((n-1:Nat):Int):=iZ (by omega) (by omega)
 simp only[e1,aJD,e2,eK,reduceIte]
 refine aQz (by omega) ?_
 have hlt:=mK h2
 have hlen:aC1 (n-1)=Nat.log2 (n-1)+1:=by unfold aC1;rw[if_neg (by omega)]
 have hlog:Nat.log2 (n-1)<16:=(Nat.log2_lt (by omega)).2 (by omega)
 have e3:IntKind.i64.wrap (((aC1 (n-1):Nat):Int)-1)=((Nat.log2 (n-1):Nat):Int):=by rw[gD (by omega) (by omega)];omega
 have e4:∀t,aT PG (binOp .shl t (.int .i64 1) (.int .i64 ((Nat.log2 (n-1):Nat):Int)))=some (.int .i64 ((fV n:Nat):Int)):=λt=>by
  rw[aO4 (by omega)]
  have em:min (((Nat.log2 (n-1):Nat):Int).toNat) (IntKind.i64.bits)=Nat.log2 (n-1):=by
   show min _ 64=_
   omega
  have ep:(1:Int)*2^Nat.log2 (n-1)=((fV n:Nat):Int):=by
   unfold fV
   rw[Int.one_mul,Int.natCast_pow];rfl
  rw[em,ep,gD (by omega) (by omega)]
 simp only[e3,e4,eK,reduceIte]
 exact hk
def mH(l:List Pr):Tx:=if h:2≤l.length then zJ (mH (l.take (fV l.length))) (mH (l.drop (fV l.length))) else aFI (l.headD ⟨[],[]⟩)
termination_by l.length
decreasing_by
 ·have:=mK h;simp;omega
 ·have:=mK h;simp;omega
theorem uM(l:List Pr):(mH l).length=32:=by
 rw[mH]
 split<;>rfl
def aAK(l:List Pr):Prop:=∀p∈l,p.k.length+p.v.length≤1000000
theorem iR.pair{h:PH}{v:Value}{l:List Pr}(S:iR h 2 v (l.map Pr.cells)){j:Nat}{p:Pr}(hp:l[j]? =some p):
  ∃b o,aT PG (indexAt eM v (.int .i64 (j:Int)))=some (pT b o)∧fH h ⟨b,o,none⟩=some (.string (tx p.k))∧fH h ⟨b,o+1,none⟩=some (.string (tx p.v))∧bT PG h (loadAt eQ (pT b o))=some p.val:=by
 obtain⟨b,o,h1,h2,h3⟩:=S.fields eM.und eQ.info eQ.size (k:=.i64) (j:=j) (r:=p.cells) (by rw[zLW,hp];rfl)
 exact⟨b,o,h1,h2 0 _ rfl,h2 1 _ rfl,h3 _ eQ.und rfl⟩
theorem iR.cutP{h:PH}{v:Value}{l:List Pr}(S:iR h 2 v (l.map Pr.cells)){lo hi:Option Value}{a m:Nat}(hlo:lo=none∧a=0∨∃k,lo=some (.int k a))(hhi:hi=none∧m=l.length∨∃k,hi=some (.int k m))(h1:a≤m)(h2:m≤l.length):
  ∃v',aT PG (Instr.sliceAt eM v lo hi none)=some v'∧iR h 2 v' (((l.take m).drop a).map Pr.cells):=by
 obtain⟨v',e,s,-⟩:=S.cut eM.und eQ.info eQ.size hlo (by simpa using hhi) h1 (by simpa using h2)
 refine⟨v',e,?_⟩
 rw[List.map_drop,aKD]
 exact s
theorem aJl:∀(n:Nat) {h:PH} {v:Value} {l:List Pr},l.length≤n->l≠[]->l.length≤65536->oA h->iR h 2 v (l.map Pr.cells)->aAK l->∀{k:eJ},(∀h',fE h h'->k (.string (tx (mH l))) h')->cR PG qM #[v] h k
 | 0,_,_,l,h0,hne,_,_,_,_,_,_=>by
  have:l=[]:=zLL (by omega)
  exact absurd this hne
 | n+1,h,v,l,hn,hne,hl,hK,S,hs,k,hk=>by
  apply aA7.call
  unfold aA7
  have lv:=S.len (t':=dR) eM.und
  rw[kQ] at lv
  have hpos:0<l.length:=aGv.2 hne
  by_cases h1:l.length=1
  ·have e1:((l.length:Int)==1)=true:=by simp[h1]
   obtain⟨p,hp⟩:=List.length_eq_one_iff.1 h1
   obtain⟨b,o,e2,-,-,e3⟩:=S.pair (j:=0) (p:=p) (by rw[hp];rfl)
   rw[show((0:Nat):Int)=0 from rfl] at e2
   simp only[lv,e1,e2,e3,eK,reduceIte]
   have hd:mH l=aFI p:=by
    rw[mH,dif_neg (by omega),hp];rfl
   rw[hd] at hk
   refine aQS hK (by have:=hs p (by rw[hp];simp);omega) λh' u=>hk h' u
  ·have e1:((l.length:Int)==1)=false:=by simp;omega
   have h2:2≤l.length:=by omega
   simp only[lv,e1,eK,reduceIte]
   refine aNR h2 hl ?_
   have hlt:=mK h2
   obtain⟨v1,s1,t1⟩:=S.cutP (lo:=none) (hi:=some (.int .i64 ((fV l.length:Nat):Int))) (a:=0) (m:=fV l.length) (.inl ⟨rfl,rfl⟩) (.inr ⟨_,rfl⟩) (by omega) (by omega)
   obtain⟨v2,s2,t2⟩:=S.cutP (lo:=some (.int .i64 ((fV l.length:Nat):Int))) (hi:=none) (a:=fV l.length) (m:=l.length) (.inr ⟨_,rfl⟩) (.inl ⟨rfl,rfl⟩) (by omega) (by omega)
   rw[zLa] at t1
   rw[zLG] at t2
   simp only[s1,s2,eK,reduceIte]
   have hd:mH l=zJ (mH (l.take (fV l.length))) (mH (l.drop (fV l.length))):=by
    rw[mH,dif_pos h2]
   rw[hd] at hk
   refine aJl n (by simp;omega) (aI3 (by first|(rw[vZ];omega)|(rw[wL];omega))) (by simp;omega) hK t1 (λp hp=>hs p (aJ8 hp)) λh1 u1=>?_
   refine aJl n (by simp;omega) (aI3 (by first|(rw[vZ];omega)|(rw[wL];omega))) (by simp;omega) (hK.ext u1) (t2.ext u1) (λp hp=>hs p (aKo hp)) λh2 u2=>?_
   refine aJX (hK.ext (u1.trans u2)) (by rw[uM,uM];decide) λh3 u3=>?_
   exact hk _ ((u1.trans u2).trans u3)
theorem aJy{h:PH}{v:Value}{l:List Pr}(hne:l≠[])(hl:l.length≤65536)(hK:oA h)(S:iR h 2 v (l.map Pr.cells))(hs:aAK l){k:eJ}(hk:∀h',fE h h'->k (.string (tx (mH l))) h'):cR PG qM #[v] h k:=
 aJl l.length (sL _) hne hl hK S hs hk
theorem aQq(x:Int):aT PG (convert dT dR (.int .u64 x))=some (.int .i64 (IntKind.i64.wrap x)):=by kernel_rfl
theorem aWI{t:TypeId}{m:Nat}(hm:m<18446744073709551616):aT PG (binOp .and t (.int .u64 (m:Int)) (.int .u64 255))=some (.int .u64 ((m%256:Nat):Int)):=by
 have e:aT PG (binOp .and t (.int .u64 (m:Int)) (.int .u64 255))=some (.int .u64 (IntKind.u64.wrap ((BitVec.ofInt 64 (m:Int) &&& BitVec.ofInt 64 255).toNat:Int))):=rfl
 have e2:(BitVec.ofInt 64 (m:Int) &&& BitVec.ofInt 64 255).toNat=m%256:=by
  have h1:BitVec.ofInt 64 (m:Int)=BitVec.ofNat 64 m:=BitVec.ofInt_natCast ..
  have h2:BitVec.ofInt 64 255=BitVec.ofNat 64 255:=by decide
  rw[h1,h2,BitVec.toNat_and,BitVec.toNat_ofNat,BitVec.toNat_ofNat,aCI (show m<2^64 from hm)]
  exact Nat.and_two_pow_sub_one_eq_mod m 8
 rw[e,e2,iZ (by omega) (by omega)]
def aH5(n:Nat)(d:Tx):Tx:=pQ (2::(be n 8++d))
theorem aO5{h:PH}{n:Nat}{d:Tx}(hK:oA h)(hn:n≤1000000)(hd:d.length≤1000000){k:eJ}(hk:∀h',fE h h'->k (.string (tx (aH5 n d))) h'):cR PG aDK #[.int .i64 (n:Int),.string (tx d)] h k:=by
 apply aHs.call
 unfold aHs
 have e1:(if (0:Int)<(n:Int) then(n:Int) else 0)=(n:Int):=by split<;>omega
 have e2:IntKind.u64.wrap (n:Int)=n:=iZ (by omega) (by omega)
 simp only[aNE,e1,aBX,e2,eK,reduceIte]
 refine⟨λvs h'=>∃i,i≤8∧vs=[.string (tx d),.int .u64 (n:Int),.string (tx ((be n 8).take i)),.int .i64 (i:Int)]∧fE h h',jP 8 3,⟨0,by omega,rfl,eW.refl⟩,?_⟩
 rintro ρ h' ⟨i,hi,hvs,u⟩
 simp only[jT,kF,mQ,and_true] at hvs
 obtain⟨v1,v5,v6,v11⟩:=hvs
 simp only[v1,v5,v6,v11,jT,kF]
 unfold aKN
 by_cases hl:i<8
 ·have f1:((i:Int)<8)=True:=eq_true (by omega)
  have f2:IntKind.i64.wrap (8*(i:Int))=8*(i:Int):=gD (by omega) (by omega)
  have f3:IntKind.i64.wrap (56-8*(i:Int))=56-8*(i:Int):=gD (by omega) (by omega)
  have hle:n/256^(8-1-i)≤n:=Nat.div_le_self _ _
  have f4:IntKind.i64.wrap ((n/256^(8-1-i)%256:Nat):Int)=((n/256^(8-1-i)%256:Nat):Int):=gD (by omega) (by omega)
  have f5:IntKind.i64.wrap ((i:Int)+1)=((i+1:Nat):Int):=by rw[gD (by omega) (by omega)];omega
  simp only[f1,f2,f3,aUw hl,aWI (show n/256^(8-1-i)<18446744073709551616 by omega),aQq,f4,eK,reduceIte]
  refine aM9 λh2 u2=>?_
  rw[Nat.mod_mod]
  have f6:∀t,aT PG (binOp .add t (.string (tx ((be n 8).take i))) (.string (tx [UInt8.ofNat (n/256^(8-1-i)%256)])))=some (.string (tx ((be n 8).take (i+1)))):=λt=>by
   rw[mR (by rw[vZ,jQ];simp;omega),aID hl]
  simp only[f6,f5,eK,reduceIte]
  refine⟨⟨i+1,by omega,rfl,u.trans u2⟩,?_⟩
  simp only[jP,sK,qA]
  omega
 ·have f1:((i:Int)<8)=False:=eq_false (by omega)
  have hi':i=8:=by omega
  subst hi'
  rw[qR (Nat.le_of_eq (jQ _ _))]
  simp only[f1,aUl,eK,reduceIte]
  intro b hb
  refine iK ?_
  try rw[eY]
  have u1:fE h' (h'.set b (.cells #[.string ⟨#[2]⟩,.string (tx (be n 8)),.string (tx d)] cT)):=eW.new hb
  have s:iR (h'.set b (.cells #[.string ⟨#[2]⟩,.string (tx (be n 8)),.string (tx d)] cT)) 1 (.slice (some ⟨b,0,none⟩) 3 3) ([[2],be n 8,d].map kD):=(gU.lit (n:=3) (kD.rows [[2],be n 8,d]) fP (by simp) (by decide) rfl).slR
  refine aMn (hK.ext (u.trans u1)) s (by simp[jQ];omega) λh3 u3=>?_
  have e:aH5 n d=pQ [[2],be n 8,d].flatten:=by simp[aH5]
  rw[e] at hk
  exact hk _ ((u.trans u1).trans u3)
def lO(l:List Pr):Tx:=aH5 l.length (if l=[] then [] else mH l)
theorem aLw{h:PH}{v:Value}{l:List Pr}(hl:l.length≤65536)(hK:oA h)(S:iR h 2 v (l.map Pr.cells))(hs:aAK l){k:eJ}(hk:∀h',fE h h'->k (.string (tx (lO l))) h'):cR PG aCD #[v] h k:=by
 apply aG7.call
 unfold aG7
 have lv:=S.len (t':=dR) eM.und
 rw[kQ] at lv
 by_cases h0:l=[]
 ·subst h0
  simp only[lv,zLK,show(((0:Nat):Int)==0)=true from rfl,eK,reduceIte]
  refine aO5 (n:=0) (d:=[]) hK (by decide) (by decide) λh' u=>?_
  exact hk _ u
 ·have e0:((l.length:Int)==0)=false:=by simpa using h0
  simp only[lv,e0,eK,reduceIte]
  refine aJy h0 hl hK S hs λh1 u1=>?_
  refine aO5 (hK.ext u1) (by omega) (by rw[uM];decide) λh2 u2=>?_
  have:=hk h2 (u1.trans u2)
  unfold lO at this
  rw[if_neg h0] at this
  exact this
def aNB(p:Pr):Prop:=1≤p.k.length∧p.k.length≤16∧p.v.length≤64
end Go.Proofs.YtcoajnpchhmgjaaGreatDoor
namespace Go.Proofs.YtcoajnpchhmgjaaGreatDoor
open Go
def nQ(l:List Pr)(k:Nat):List Tx:=
 if h:2≤l.length then
  if k<fV l.length then nQ (l.take (fV l.length)) k++[mH (l.drop (fV l.length))]
  else nQ (l.drop (fV l.length)) (k-fV l.length)++[mH (l.take (fV l.length))]
 else []
termination_by l.length
decreasing_by
 ·have:=mK h;simp;omega
 ·have:=mK h;simp;omega
def upP(p:Pr)(i n:Nat)(path:List Tx):Option (Tx×List Tx):=
 if h:2≤n then
  match path.getLast? with
  | none=>none
  | some b=>if b.length≠32 then none else
   if i<fV n then(upP p i (fV n) path.dropLast).map λx=>(zJ x.1 b,x.2)
   else(upP p (i-fV n) (n-fV n) path.dropLast).map λx=>(zJ b x.1,x.2)
 else some (aFI p,path)
termination_by n
decreasing_by
 ·have:=mK h;omega
 ·have:=mK h;omega
structure Lf where
 i:Int
 n:Int
 p:Pr
 path:List Tx
 deriving DecidableEq
def aTZ(n:Nat):Option (Tx×List Tx)->Option Tx
 | some (d,[])=>some (aH5 n d)
 | _=>none
def oM(f:Lf):Option Tx:=
 if f.n<1∨4096<f.n∨f.i<0∨f.n≤f.i then none else aTZ f.n.toNat (upP f.p f.i.toNat f.n.toNat f.path)
theorem aTg:∀(n:Nat) (l:List Pr) (k:Nat) (p:Pr) (pre:List Tx),l.length=n->l[k]? =some p->upP p k n (pre++nQ l k)=some (mH l,pre):=by
 intro n
 induction n using Nat.strongRecOn with
 | ind n ih=>
  intro l k p pre hn hk
  have hlt:k<l.length:=(zLx.1 hk).1
  by_cases h2:2≤n
  ·have h2':2≤l.length:=by omega
   obtain⟨m1,m2⟩:=mK h2
   have hd:mH l=zJ (mH (l.take (fV n))) (mH (l.drop (fV n))):=by rw[mH,dif_pos h2',hn]
   rw[upP,dif_pos h2,nQ,dif_pos h2',hn,hd]
   by_cases hkm:k<fV n
   ·rw[if_pos hkm,←qU,List.getLast?_concat,List.dropLast_concat]
    simp only[uM,ne_eq,not_true_eq_false,if_false,hkm,if_true]
    rw[ih (fV n) m2 (l.take (fV n)) k p pre (by rw[vZ];omega) (by rw[aGj,if_pos hkm];exact hk)]
    rfl
   ·rw[if_neg hkm,←qU,List.getLast?_concat,List.dropLast_concat]
    simp only[uM,ne_eq,not_true_eq_false,if_false,hkm]
    rw[ih (n-fV n) (by omega) (l.drop (fV n)) (k-fV n) p pre (by rw[wL];omega) (by rw[aJ7];rw[←hk];congr 1;omega)]
    rfl
  ·have h1:l.length=1:=by omega
   obtain⟨q,rfl⟩:=List.length_eq_one_iff.1 h1
   have k0:k=0:=by simp at hlt;exact hlt
   subst k0
   simp only[qA,zL5] at hk
   subst hk
   rw[upP,dif_neg h2,nQ,dif_neg (by simp),mH,dif_neg (by simp)]
   simp
theorem aRR{l:List Pr}{k:Nat}{p:Pr}(hk:l[k]? =some p)(hl:l.length≤4096):oM ⟨k,l.length,p,nQ l k⟩=some (lO l):=by
 have hlt:k<l.length:=(zLx.1 hk).1
 unfold oM
 rw[if_neg (by simp only;omega)]
 have:=aTg l.length l k p [] rfl hk
 rw[yB] at this
 simp only[sM,this,aTZ]
 have hne:l≠[]:=by intro e;rw[e] at hlt;simp at hlt
 unfold lO
 simp[hne]
theorem aRv:∀(n:Nat) (l:List Pr) (k:Nat),l.length=n->∀d∈nQ l k,d.length=32:=by
 intro n
 induction n using Nat.strongRecOn with
 | ind n ih=>
  intro l k hn d hd
  by_cases h2:2≤l.length
  ·obtain⟨m1,m2⟩:=mK h2
   rw[nQ,dif_pos h2] at hd
   split at hd
   ·rcases kR.1 hd with hd|hd
    ·exact ih (fV l.length) (by omega) _ k (by rw[vZ];omega) d hd
    ·simp only[iQ] at hd;rw[hd];exact uM _
   ·rcases kR.1 hd with hd|hd
    ·exact ih (l.length-fV l.length) (by omega) _ _ (by rw[wL]) d hd
    ·simp only[iQ] at hd;rw[hd];exact uM _
  ·rw[nQ,dif_neg h2] at hd;simp at hd
theorem aEW{n:Nat}(h:2≤n){d:Nat}(hd:n≤2^(d+1)):fV n≤2^d∧n-fV n≤2^d:=by
 unfold fV
 have hne:n-1≠0:=by omega
 have h1:2^Nat.log2 (n-1)≤n-1:=Nat.log2_self_le hne
 have h2:n-1<2^(Nat.log2 (n-1)+1):=Nat.lt_log2_self
 have h3:Nat.log2 (n-1)<d+1:=(Nat.log2_lt hne).2 (by omega)
 have h4:2^Nat.log2 (n-1)≤2^d:=aJu (by decide) (by omega)
 rw[zLO] at h2
 exact⟨h4,by omega⟩
theorem aEd:∀(d:Nat) (l:List Pr) (k:Nat),l.length≤2^d->(nQ l k).length≤d
 | 0,l,k,h=>by rw[nQ,dif_neg (by simp at h;omega)];simp
 | d+1,l,k,h=>by
  by_cases h2:2≤l.length
  ·obtain⟨a,b⟩:=aEW h2 h
   rw[nQ,dif_pos h2]
   split
   ·rw[lH]
    have:=aEd d (l.take (fV l.length)) k (by rw[vZ];omega)
    simp;omega
   ·rw[lH]
    have:=aEd d (l.drop (fV l.length)) (k-fV l.length) (by rw[wL];omega)
    simp;omega
  ·rw[nQ,dif_neg h2];simp
theorem aLT(a:ByteArray):iP PG (buildSlice eS 1 #[(0,.string a)])=some (.cells #[.string a] cT,λr=>pure (.slice (some ⟨r,0,none⟩) 1 1)):=by kernel_rfl
theorem kD.isC(s:Tx):∀u∈kD s,iF u=true:=λu hu=>by
 simp only[kD,jG,mD,or_false] at hu
 subst hu;rfl
def fnP(a b:Nat):Value:=.func (.func aDI) #[] #[pT a 0,pT b 0]
structure aKF(h0 h:PH)(a b:Nat)(acc:List Tx)(F:List Nat):Prop where
 fn:Bx h a [fnP a b]
 out:∃v,Bx h b [v]∧gU h cT 1 v (acc.map kD) F
 ne:a≠b
 na:a∉F
 nb:b∉F
 ext:fE h0 h
 fr:gQ h0 (a::b::F)
theorem aKF.upd{h0 h h':PH}{a b:Nat}{acc:List Tx}{F:List Nat}(H:aKF h0 h a b acc F)(u:fE h h'):aKF h0 h' a b acc F:=by
 obtain⟨v,B,O⟩:=H.out
 exact⟨H.fn.ext u,⟨v,B.ext u,O.ext u⟩,H.ne,H.na,H.nb,H.ext.trans u,H.fr⟩
theorem aKF.push{h0 h:PH}{a b:Nat}{acc:List Tx}{F:List Nat}(H:aKF h0 h a b acc F)(d:Tx){t3:Value}(ht:bT PG h (loadAt eS (pT b 0))=some t3)(hl:acc.length≤1000){R:eJ}(hR:∀h' F',aKF h0 h' a b (acc++[d]) F'->R (.tuple #[]) h'):
  (aR (iP PG (buildSlice eS 1 #[(0,.string (tx d))])) λx16=>∀r15,h r15=none->aR (aT PG (x16.2 r15)) λv17=>fZ (PH.set h r15 x16.1) λh18=>
   eZ PG (Builtin.append_ #[eS,eS] eS #[t3,v17]) h18 λv19 h20=>eZ PG (fQ eS (pT b 0) v19) h20 λ_ h22=>R (.tuple #[]) h22):=by
 obtain⟨v,B,O⟩:=H.out
 rw[eS.load,B.cell] at ht
 obtain rfl:v=t3:=by simpa using ht
 simp only[aLT,eK,reduceIte]
 intro r hr
 refine iK ?_
 try rw[eY]
 have u1:fE h (h.set r (.cells #[.string (tx d)] cT)):=eW.new hr
 have s1:iR (h.set r (.cells #[.string (tx d)] cT)) 1 (.slice (some ⟨r,0,none⟩) 1 1) ([d].map kD):=(gU.lit (kD.rows [d]) fP (by simp) (by decide) (by simp[kD])).slR
 generalize h.set r (.cells #[.string (tx d)] cT)=h1 at *
 have H1:=H.upd u1
 refine kU eS.und eS.und cT.info cT.size cT.bytes cT.zero rfl (by decide) (O.ext u1) s1 (λr hr u hu=>by
  obtain⟨s,-,rfl⟩:=mT.1 hr
  exact kD.isC s u hu) (by simp;omega) ?_
 intro v2 h2 F2 O2 u2 g2 _
 rw[←rL] at O2
 have nb2:b∉F2:=λhb=>by
  rcases g2 b hb with h|h
  ·exact H.nb h
  ·exact(B.ext u1).known h
 have na2:a∉F2:=λhb=>by
  rcases g2 a hb with h|h
  ·exact H.na h
  ·exact(H.fn.ext u1).known h
 refine eS.put ((B.ext u1).upd u2 H.nb) (o:=0) (by show 0<1;decide) O2.slR.isc λh3 B3 u3=>?_
 refine hR h3 F2 ⟨((H.fn.ext u1).upd u2 H.na).upd u3 (by simpa using H.ne),⟨v2,B3,O2.upd u3 (λx hx=>by simp only[iQ];rintro rfl;exact nb2 hx)⟩,H.ne,na2,nb2,?_,?_⟩
 ·have f1:gQ h0 F:=λx hx=>H.fr x (by simp[hx])
  have f2:gQ h0 [b]:=λx hx=>H.fr x (by simp at hx;simp[hx])
  exact(H1.ext.fresh u2 f1).fresh u3 f2
 ·intro x hx
  rcases jG.1 hx with rfl|hx
  ·exact H.fr x (by simp)
  ·rcases jG.1 hx with rfl|hx
   ·exact H.fr x (by simp)
   ·rcases g2 x hx with h|h
    ·exact H.fr x (by simp[h])
    ·exact H1.ext.none h
theorem aHy{f:FuncId}{cap args:Array Value}{h:PH}{k:eJ}:aAg PG (.func (.func f) #[] cap) args h k=cR PG f (#[]++args++cap) h k:=rfl
theorem aM7:∀(d:Nat) {h0 h:PH} {a b:Nat} {acc:List Tx} {F:List Nat} {v:Value} {l:List Pr} {k:Nat},l.length≤2^d->d≤16->k<l.length->l.length≤4096->acc.length+d≤1000->oA h0->iR h0 2 v (l.map Pr.cells)->aAK l->aKF h0 h a b acc F->
  ∀{kk:eJ},(∀h' F',aKF h0 h' a b (acc++nQ l k) F'->kk (.tuple #[]) h')->cR PG aDI #[v,.int .i64 (k:Int),pT a 0,pT b 0] h kk
 | d,h0,h,a,b,acc,F,v,l,k,hd,hd16,hk,hl,hacc,hK,S,hs,H,kk,hkk=>by
  apply aA8.call
  unfold aA8
  have lv:=S.len (t':=dR) eM.und
  rw[kQ] at lv
  by_cases h1:l.length=1
  ·have e1:((l.length:Int)==1)=true:=by simp[h1]
   simp only[lv,jO,e1,eK,reduceIte,eX,Nat.reduceAdd]
   have ep:nQ l k=[]:=by rw[nQ,dif_neg (by omega)]
   rw[ep,zLN] at hkk
   exact hkk h F H
  ·have e1:((l.length:Int)==1)=false:=by simp;omega
   have h2:2≤l.length:=by omega
   obtain⟨d,rfl⟩:∃d',d=d'+1:=by
    cases d with
    | zero=>simp at hd;omega
    | succ d'=>exact⟨d',rfl⟩
   obtain⟨q1,q2⟩:=aEW h2 hd
   have hlt:=mK h2
   have ld:∀{h':PH},Bx h' a [fnP a b]->bT PG h' (loadAt iE (pT a 0))=some (fnP a b):=λB=>by rw[iE.load,B.cell];rfl
   obtain⟨v1,s1,t1⟩:=S.cutP (lo:=none) (hi:=some (.int .i64 ((fV l.length:Nat):Int))) (a:=0) (m:=fV l.length) (.inl ⟨rfl,rfl⟩) (.inr ⟨_,rfl⟩) (by omega) (by omega)
   obtain⟨v2,s2,t2⟩:=S.cutP (lo:=some (.int .i64 ((fV l.length:Nat):Int))) (hi:=none) (a:=fV l.length) (m:=l.length) (.inr ⟨_,rfl⟩) (.inl ⟨rfl,rfl⟩) (by omega) (by omega)
   rw[zLa] at t1
   rw[zLG] at t2
   simp only[lv,jO,e1,eK,reduceIte,eX,Nat.reduceAdd]
   refine aNR h2 (by omega) ?_
   have ht1:aAK (l.take (fV l.length)):=λp hp=>hs p (aJ8 hp)
   have ht2:aAK (l.drop (fV l.length)):=λp hp=>hs p (aKo hp)
   by_cases hkm:k<fV l.length
   ·have g:((k:Int)<((fV l.length:Nat):Int))=True:=eq_true (by omega)
    have ep:nQ l k=nQ (l.take (fV l.length)) k++[mH (l.drop (fV l.length))]:=by rw[nQ,dif_pos h2,if_pos hkm]
    simp only[g,ld H.fn,s1,eK,reduceIte,eX,Nat.reduceAdd]
    unfold fnP
    rw[aHy]
    refine aM7 d (l:=l.take (fV l.length)) (by rw[vZ];omega) (by omega) (by rw[vZ];omega) (by rw[vZ];omega) (by omega) hK t1 ht1 H λh3 F3 H3=>?_
    obtain⟨w,B3,O3⟩:=H3.out
    have lw:∀{h':PH},fE h3 h'->bT PG h' (loadAt eS (pT b 0))=some w:=λu=>by rw[eS.load,(B3.ext u).cell];rfl
    simp only[lw eW.refl,s2,eK,reduceIte,eX,Nat.reduceAdd]
    refine aJy (aI3 (by rw[wL];omega)) (by rw[wL];omega) (hK.ext H3.ext) (t2.ext H3.ext) ht2 λh4 u4=>?_
    refine⟨lw u4,?_⟩
    refine(H3.upd u4).push _ (lw u4) (by
     have:=aEd d (l.take (fV l.length)) k (by rw[vZ];omega)
     rw[lH];omega) (R:=kk) λh5 F5 H5=>?_
    rw[qU,←ep] at H5
    exact hkk h5 F5 H5
   ·have g:((k:Int)<((fV l.length:Nat):Int))=False:=eq_false (by omega)
    have ep:nQ l k=nQ (l.drop (fV l.length)) (k-fV l.length)++[mH (l.take (fV l.length))]:=by rw[nQ,dif_pos h2,if_neg hkm]
    have es:IntKind.i64.wrap ((k:Int)-((fV l.length:Nat):Int))=((k-fV l.length:Nat):Int):=by rw[gD (by omega) (by omega)];omega
    simp only[g,ld H.fn,s2,es,eK,reduceIte,eX,Nat.reduceAdd]
    unfold fnP
    rw[aHy]
    refine aM7 d (l:=l.drop (fV l.length)) (by rw[wL];omega) (by omega) (by rw[wL];omega) (by rw[wL];omega) (by omega) hK t2 ht2 H λh3 F3 H3=>?_
    obtain⟨w,B3,O3⟩:=H3.out
    have lw:∀{h':PH},fE h3 h'->bT PG h' (loadAt eS (pT b 0))=some w:=λu=>by rw[eS.load,(B3.ext u).cell];rfl
    simp only[lw eW.refl,s1,eK,reduceIte,eX,Nat.reduceAdd]
    refine aJy (aI3 (by rw[vZ];omega)) (by rw[vZ];omega) (hK.ext H3.ext) (t1.ext H3.ext) ht1 λh4 u4=>?_
    refine⟨lw u4,?_⟩
    refine(H3.upd u4).push _ (lw u4) (by
     have:=aEd d (l.drop (fV l.length)) (k-fV l.length) (by rw[wL];omega)
     rw[lH];omega) (R:=kk) λh5 F5 H5=>?_
    rw[qU,←ep] at H5
    exact hkk h5 F5 H5
termination_by d=>d
theorem aV3{h:PH}{v:Value}{l:List Pr}{k:Nat}(hk:k<l.length)(hl:l.length≤4096)(hK:oA h)(S:iR h 2 v (l.map Pr.cells))(hs:aAK l){kk:eJ}(hkk:∀v' h' F,gU h' cT 1 v' ((nQ l k).map kD) F->gQ h F->fE h h'->kk v' h'):
  cR PG aGn #[v,.int .i64 (k:Int)] h kk:=by
 apply aGz.call
 unfold aGz
 have lv:=S.len (t':=dR) eM.und
 rw[kQ] at lv
 have g1:((k:Int)<0)=False:=eq_false (by omega)
 have g2:((l.length:Int)≤(k:Int))=False:=eq_false (by omega)
 simp only[lv,g1,g2,eK,reduceIte,eX,Nat.reduceAdd]
 intro r17 hr17
 try rw[eY]
 have u1:fE h (h.set r17 (.cells (fY PG eS) eS)):=eW.new hr17
 have B1:=eS.zbox (h:=h) (r:=r17)
 generalize h.set r17 (.cells (fY PG eS) eS)=h1 at *
 intro r19 hr19
 try rw[eY]
 try simp only[oU,eK,reduceIte,eX,Nat.reduceAdd]
 refine iE.fill hr19 rfl λh2 B2 u2=>?_
 have ld:bT PG h2 (loadAt iE (pT r19 0))=some (fnP r19 r17):=by rw[iE.load,B2.cell];rfl
 have ne:r19≠r17:=λe=>(B1.apart hr19) e.symm
 have H:aKF h h2 r19 r17 [] []:=⟨B2,⟨_,B1.ext u2,gU.nil⟩,ne,by simp,by simp,u1.trans u2,λx hx=>by
  rcases jG.1 hx with rfl|hx
  ·exact u1.none hr19
  ·simp at hx;subst hx;exact hr17⟩
 simp only[ld,eK,reduceIte,eX,Nat.reduceAdd]
 unfold fnP
 rw[aHy]
 refine aM7 12 (by omega) (by decide) hk hl (by simp) hK S hs H λh3 F3 H3=>?_
 obtain⟨w,B3,O3⟩:=H3.out
 have lw:bT PG h3 (loadAt eS (pT r17 0))=some w:=by rw[eS.load,B3.cell];rfl
 simp only[lw,eK,reduceIte,eX,Nat.reduceAdd]
 rw[yB] at O3
 exact hkk w h3 F3 O3 (λx hx=>H3.fr x (by simp[hx])) H3.ext
def Lf.cells(f:Lf)(v:Value):List Value:=[.int .i64 f.i,.int .i64 f.n,.string (tx f.p.k),.string (tx f.p.v),v]
def Lf.val(f:Lf)(v:Value):Value:=.agg (f.cells v).toArray
def fnU(c p o g:Nat):Value:=.func (.func aB3) #[] #[pT c 0,pT p 0,pT o 0,pT g 0]
structure aGI(h0 h:PH)(c p o g:Nat)(f:Lf)(fv:Value)(path:List Tx)(ok:Bool):Prop where
 leaf:Bx h c (f.cells fv)
 pth:∃v,Bx h p [v]∧iR h0 1 v (path.map kD)
 okb:Bx h o [.bool ok]
 fn:Bx h g [fnU c p o g]
 cp:c≠p
 co:c≠o
 po:p≠o
 gp:g≠p
 go:g≠o
 ext:fE h0 h
 fp:h0 p=none
 fo:h0 o=none
theorem aGI.upd{h0 h h':PH}{c p o g:Nat}{f:Lf}{fv:Value}{path:List Tx}{ok:Bool}(H:aGI h0 h c p o g f fv path ok)(u:fE h h'):aGI h0 h' c p o g f fv path ok:=by
 obtain⟨v,B,S⟩:=H.pth
 exact⟨H.leaf.ext u,⟨v,B.ext u,S⟩,H.okb.ext u,H.fn.ext u,H.cp,H.co,H.po,H.gp,H.go,H.ext.trans u,H.fp,H.fo⟩
theorem aGI.fail{h0 h:PH}{c p o g:Nat}{f:Lf}{fv:Value}{path:List Tx}{ok:Bool}(H:aGI h0 h c p o g f fv path ok){R:eJ}(hR:∀h',aGI h0 h' c p o g f fv path false->R undef h'):
  eZ PG (fQ iV (pT o 0) (.bool false)) h R:=by
 obtain⟨v,B,S⟩:=H.pth
 refine iV.put H.okb (o:=0) (by show 0<1;decide) rfl λh1 B1 u1=>?_
 exact hR h1 ⟨H.leaf.upd u1 (by simpa using H.co),⟨v,B.upd u1 (by simpa using H.po),S⟩,B1,H.fn.upd u1 (by simpa using H.go),H.cp,H.co,H.po,H.gp,H.go,H.ext.fresh u1 (gQ.one H.fo),H.fp,H.fo⟩
theorem aGI.step{h0 h:PH}{c p o g:Nat}{f:Lf}{fv:Value}{path path':List Tx}{ok:Bool}(H:aGI h0 h c p o g f fv path ok){v':Value}(S':iR h0 1 v' (path'.map kD)){R:eJ}(hR:∀h',aGI h0 h' c p o g f fv path' ok->R undef h'):
  eZ PG (fQ eS (pT p 0) v') h R:=by
 obtain⟨v,B,S⟩:=H.pth
 refine eS.put B (o:=0) (by show 0<1;decide) S'.isc λh1 B1 u1=>?_
 exact hR h1 ⟨H.leaf.upd u1 (by simpa using H.cp),⟨v',B1,S'⟩,H.okb.upd u1 (by simpa using H.po.symm),H.fn.upd u1 (by simpa using H.gp),H.cp,H.co,H.po,H.gp,H.go,H.ext.fresh u1 (gQ.one H.fp),H.fp,H.fo⟩
theorem aSn(p:Pr):(aFI p).length=32:=rfl
theorem aIk(a b:Tx):(zJ a b).length=32:=rfl
theorem aRZ:∀(d:Nat) {h0 h:PH} {c p o g:Nat} {f:Lf} {fv:Value} {path:List Tx} {ok:Bool} {n i:Nat},n≤2^d->1≤n->n≤4096->i<n->path.length≤1000000->f.p.k.length+f.p.v.length≤10000000->oA h0->aGI h0 h c p o g f fv path ok->
  ∀{kk:eJ},(∀dg rest h',upP f.p i n path=some (dg,rest)->dg.length=32->rest.length≤path.length->aGI h0 h' c p o g f fv rest ok->kk (.string (tx dg)) h')->(∀s rest h',upP f.p i n path=none->s.length≤100->aGI h0 h' c p o g f fv rest false->kk (.string (tx s)) h')->
  cR PG aB3 #[.int .i64 (i:Int),.int .i64 (n:Int),pT c 0,pT p 0,pT o 0,pT g 0] h kk
 | d,h0,h,c,p,o,g,f,fv,path,ok,n,i,hd,h1n,hn,hi,hpl,hsm,hK,H,kk,hgood,hbad=>by
  apply aEg.call
  unfold aEg
  by_cases h1:n=1
  ·subst h1
   have e1:(((1:Nat):Int)==1)=true:=rfl
   have lp:bT PG h (loadAt eQ (pT c 2))=some f.p.val:=eQ.agg H.leaf (by show 2+2≤5;decide)
   simp only[jO,e1,eD.f2,iG,lp,eK,reduceIte,eX,Nat.reduceAdd]
   refine aQS (hK.ext H.ext) hsm λh2 u2=>?_
   exact hgood _ path h2 (by rw[upP,dif_neg (by decide)]) (aSn _) (sL _) (H.upd u2)
  ·have h2:2≤n:=by omega
   have e1:((n:Int)==1)=false:=by simp;omega
   obtain⟨d,rfl⟩:∃d',d=d'+1:=by
    cases d with
    | zero=>simp at hd;omega
    | succ d'=>exact⟨d',rfl⟩
   obtain⟨q1,q2⟩:=aEW h2 hd
   have hlt:=mK h2
   obtain⟨v,B,S⟩:=H.pth
   have lv:=(S.ext H.ext).len (t':=dR) eS.und
   rw[kQ] at lv
   have lp:bT PG h (loadAt eS (pT p 0))=some v:=by rw[eS.load,B.cell];rfl
   simp only[jO,e1,eK,reduceIte,eX,Nat.reduceAdd]
   refine aNR h2 (by omega) ?_
   have q0:({data:=#[]}:ByteArray)=tx []:=rfl
   rcases List.eq_nil_or_concat path with hnil|⟨ini,b,hpath⟩
   ·subst hnil
    have e2:(((List.length ([]:List Tx):Nat):Int)==0)=true:=rfl
    simp only[lp,lv,jO,e2,eK,reduceIte,eX,Nat.reduceAdd]
    refine H.fail λh3 H3=>?_
    rw[q0]
    exact hbad [] [] h3 (by rw[upP,dif_pos h2];rfl) (by simp) H3
   ·rw[List.concat_eq_append] at hpath
    subst hpath
    have hlen:(ini++[b]).length=ini.length+1:=by simp
    rw[hlen] at lv hpl
    have e2:(((ini.length+1:Nat):Int)==0)=false:=by rw[beq_eq_false_iff_ne];omega
    have es:IntKind.i64.wrap (((ini.length+1:Nat):Int)-1)=((ini.length:Nat):Int):=by rw[gD (by omega) (by omega)];omega
    obtain⟨pa,p1,q1'⟩:=(S.ext H.ext).loadCell eS.und cT.info cT.size cT.und rfl (k:=.i64) (j:=(ini.length:Int)) (x:=.string (tx b)) (by omega) (by rw[sM,zLW,List.getElem?_append_right (sL _)];simp[kD])
    have lb:aT PG (Builtin.len_ #[cT] dR #[.string (tx b)])=some (.int .i64 (b.length:Int)):=by rw[mW cT.und,jL]
    by_cases hb:b.length=32
    case neg=>
     have e3:((b.length:Int) !=32)=true:=by simp;omega
     simp only[lp,lv,jO,lR,e2,es,p1,q1',lb,e3,eK,reduceIte,eX,Nat.reduceAdd]
     refine H.fail λh3 H3=>?_
     rw[q0]
     exact hbad [] _ h3 (by rw[upP,dif_pos h2,List.getLast?_concat];simp[hb]) (by simp) H3
    have e3:((b.length:Int) !=32)=false:=by simp;omega
    obtain⟨v',c1,c2,-⟩:=S.cut eS.und cT.info cT.size (lo:=none) (hi:=some (.int .i64 (ini.length:Int))) (l:=0) (m:=ini.length) (.inl ⟨rfl,rfl⟩) (.inr ⟨_,rfl⟩) (by omega) (by simp)
    have ec:(((ini++[b]).map kD).take ini.length).drop 0=ini.map kD:=by
     rw[zLa,rL,zLE (by simp),qR (by simp)]
    rw[ec] at c2
    simp only[lp,lv,jO,lR,e2,es,p1,q1',lb,e3,c1,eK,reduceIte,eX,Nat.reduceAdd]
    refine H.step c2 λh3 H3=>?_
    have ld:bT PG h3 (loadAt iM (pT g 0))=some (fnU c p o g):=by rw[iM.load,H3.fn.cell];rfl
    have eu:upP f.p i n (ini++[b])=if i<fV n then(upP f.p i (fV n) ini).map λx=>(zJ x.1 b,x.2) else(upP f.p (i-fV n) (n-fV n) ini).map λx=>(zJ b x.1,x.2):=by
     rw[upP,dif_pos h2,List.getLast?_concat,List.dropLast_concat]
     simp[hb]
    by_cases hil:i<fV n
    ·have g1:((i:Int)<((fV n:Nat):Int))=True:=eq_true (by omega)
     rw[if_pos hil] at eu
     simp only[g1,ld,eK,reduceIte,eX,Nat.reduceAdd]
     unfold fnU
     rw[aHy]
     refine aRZ d (n:=fV n) (i:=i) q1 hlt.1 (by omega) hil (by omega) hsm hK H3 (λdg rest h4 e4 l4 r4 H4=>?_) (λs rest h4 e4 l4 H4=>?_)
     ·refine aJX (hK.ext H4.ext) (by omega) λh5 u5=>?_
      exact hgood _ rest h5 (by rw[eu,e4];rfl) (aIk _ _) (by rw[hlen];omega) (H4.upd u5)
     ·refine aJX (hK.ext H4.ext) (by omega) λh5 u5=>?_
      exact hbad _ rest h5 (by rw[eu,e4];rfl) (by rw[aIk];decide) (H4.upd u5)
    ·have g1:((i:Int)<((fV n:Nat):Int))=False:=eq_false (by omega)
     rw[if_neg hil] at eu
     have w1:IntKind.i64.wrap ((i:Int)-((fV n:Nat):Int))=((i-fV n:Nat):Int):=by rw[gD (by omega) (by omega)];omega
     have w2:IntKind.i64.wrap ((n:Int)-((fV n:Nat):Int))=((n-fV n:Nat):Int):=by rw[gD (by omega) (by omega)];omega
     simp only[g1,ld,w1,w2,eK,reduceIte,eX,Nat.reduceAdd]
     unfold fnU
     rw[aHy]
     refine aRZ d (n:=n-fV n) (i:=i-fV n) q2 (by omega) (by omega) (by omega) (by omega) hsm hK H3 (λdg rest h4 e4 l4 r4 H4=>?_) (λs rest h4 e4 l4 H4=>?_)
     ·refine aJX (hK.ext H4.ext) (by omega) λh5 u5=>?_
      exact hgood _ rest h5 (by rw[eu,e4];rfl) (aIk _ _) (by rw[hlen];omega) (H4.upd u5)
     ·refine aJX (hK.ext H4.ext) (by omega) λh5 u5=>?_
      exact hbad _ rest h5 (by rw[eu,e4];rfl) (by rw[aIk];decide) (H4.upd u5)
termination_by d=>d
theorem aUC{h:PH}{f:Lf}{fv:Value}(S:iR h 1 fv (f.path.map kD))(hpl:f.path.length≤1000000)(hsm:f.p.k.length+f.p.v.length≤10000000)(hK:oA h){kk:eJ}
  (hgood:∀t h',oM f=some t->t.length=32->fE h h'->kk (.tuple #[.string (tx t),.bool true]) h') (hbad:oM f=none->∀h',fE h h'->kk (.tuple #[.string (tx []),.bool false]) h'):
  cR PG aGK #[f.val fv] h kk:=by
 apply aFy.call
 unfold aFy
 intro r1 hr1
 try rw[eY]
 have u1:fE h (h.set r1 (.cells (Value.cells (f.val fv)) eD)):=eW.new hr1
 have B1:Bx (h.set r1 (.cells (Value.cells (f.val fv)) eD)) r1 (f.cells fv):=Bx.new
 generalize h.set r1 (.cells (Value.cells (f.val fv)) eD)=h1 at *
 have li:∀{h':PH},Bx h' r1 (f.cells fv)->bT PG h' (loadAt dR (pT r1 0))=some (.int .i64 f.i):=λB=>by rw[dR.load,B.cell];rfl
 have ln:∀{h':PH},Bx h' r1 (f.cells fv)->bT PG h' (loadAt dR (pT r1 1))=some (.int .i64 f.n):=λB=>by rw[dR.load,B.cell];rfl
 have lp:bT PG h1 (loadAt eS (pT r1 4))=some fv:=by rw[eS.load,B1.cell];rfl
 have q0:({data:=#[]}:ByteArray)=tx []:=rfl
 by_cases a1:f.n<1
 ·have g1:=eq_true a1
  simp only[eD.f1,iG,ln B1,g1,q0,eK,reduceIte,eX,Nat.reduceAdd]
  exact hbad (by unfold oM;rw[if_pos (.inl a1)]) _ u1
 have g1:=eq_false a1
 by_cases a2:4096<f.n
 ·have g2:=eq_true a2
  simp only[eD.f1,iG,ln B1,g1,g2,q0,eK,reduceIte,eX,Nat.reduceAdd]
  exact hbad (by unfold oM;rw[if_pos (.inr (.inl a2))]) _ u1
 have g2:=eq_false a2
 by_cases a3:f.i<0
 ·have g3:=eq_true a3
  simp only[eD.f1,eD.f0,iG,ln B1,li B1,g1,g2,g3,q0,eK,reduceIte,eX,Nat.reduceAdd]
  exact hbad (by unfold oM;rw[if_pos (.inr (.inr (.inl a3)))]) _ u1
 have g3:=eq_false a3
 by_cases a4:f.n≤f.i
 ·have g4:=eq_true a4
  simp only[eD.f1,eD.f0,iG,ln B1,li B1,g1,g2,g3,g4,q0,eK,reduceIte,eX,Nat.reduceAdd]
  exact hbad (by unfold oM;rw[if_pos (.inr (.inr (.inr a4)))]) _ u1
 have g4:=eq_false a4
 have hc:oM f=aTZ f.n.toNat (upP f.p f.i.toNat f.n.toNat f.path):=by
  unfold oM
  rw[if_neg (by omega)]
 simp only[eD.f1,eD.f0,eD.f3,iG,ln B1,li B1,lp,g1,g2,g3,g4,eK,reduceIte,eX,Nat.reduceAdd]
 intro r55 hr55
 try rw[eY]
 have u2:fE h1 (h1.set r55 (.cells (fY PG eS) eS)):=eW.new hr55
 have B2:=eS.zbox (h:=h1) (r:=r55)
 have C1:=B1.ext u2
 generalize h1.set r55 (.cells (fY PG eS) eS)=h2 at *
 intro r57 hr57
 try rw[eY]
 have u3:fE h2 (h2.set r57 (.cells (fY PG iV) iV)):=eW.new hr57
 have B3:=iV.zbox (h:=h2) (r:=r57)
 have D1:=C1.ext u3
 have D2:=B2.ext u3
 have n57:r55≠r57:=B2.apart hr57
 have n57':r1≠r57:=C1.apart hr57
 have n55':r1≠r55:=B1.apart hr55
 generalize h2.set r57 (.cells (fY PG iV) iV)=h3 at *
 refine eS.put D2 (o:=0) (by decide) S.isc λh4 B4 u4=>?_
 have E1:=D1.upd u4 (by simpa using n55')
 have E3:=B3.upd u4 (by simpa using n57.symm)
 refine iV.put E3 (o:=0) (by decide) rfl λh5 B5 u5=>?_
 have G1:=E1.upd u5 (by simpa using n57')
 have G4:=B4.upd u5 (by simpa using n57)
 intro r63 hr63
 try rw[eY]
 try simp only[oU,eK,reduceIte,eX,Nat.reduceAdd]
 refine iM.fill hr63 rfl λh6 B6 u6=>?_
 have k55:h r55=none:=u1.none hr55
 have k57:h r57=none:=(u1.trans u2).none hr57
 have ex6:fE h h6:=(((((u1.trans u2).trans u3).fresh u4 (gQ.one k55)).fresh u5 (gQ.one k57))).trans u6
 have n63p:r63≠r55:=(G4.apart hr63).symm
 have n63o:r63≠r57:=(B5.apart hr63).symm
 have H:aGI h h6 r1 r55 r57 r63 f fv f.path true:=⟨G1.ext u6,⟨fv,G4.ext u6,S⟩,B5.ext u6,B6,n55',n57',n57,n63p,n63o,ex6,k55,k57⟩
 have ld:bT PG h6 (loadAt iM (pT r63 0))=some (fnU r1 r55 r57 r63):=by rw[iM.load,B6.cell];rfl
 have lo:∀{h':PH} {path ok},aGI h h' r1 r55 r57 r63 f fv path ok->bT PG h' (loadAt iV (pT r57 0))=some (.bool ok):=λH=>by rw[iV.load,H.okb.cell];rfl
 obtain⟨i,hi⟩:=zLm (Int.not_lt.1 a3)
 obtain⟨n,hn⟩:=zLm (show 0≤f.n by omega)
 rw[hi,hn,sM,sM] at hc
 simp only[ld,eD.f0,eD.f1,iG,li H.leaf,ln H.leaf,hi,hn,eK,reduceIte,eX,Nat.reduceAdd]
 unfold fnU
 rw[aHy]
 refine aRZ 12 (by omega) (by omega) (by omega) (by omega) hpl hsm hK H (λdg rest h7 e7 l7 r7 H7=>?_) (λs rest h7 e7 l7 H7=>?_)
 ·obtain⟨v7,B7,S7⟩:=H7.pth
  have l55:bT PG h7 (loadAt eS (pT r55 0))=some v7:=by rw[eS.load,B7.cell];rfl
  have lv:=S7.len (t':=dR) eS.und
  rw[kQ] at lv
  cases rest with
  | nil=>
   have hg:((0:Int)<((([]:List Tx).length:Nat):Int))=False:=eq_false (by simp)
   simp only[lo H7,l55,lv,hg,eD.f1,iG,ln H7.leaf,hn,eK,reduceIte,eX,Nat.reduceAdd]
   refine aO5 (hK.ext H7.ext) (by omega) (by omega) λh8 u8=>?_
   exact hgood _ h8 (by rw[hc,e7];rfl) rfl (H7.ext.trans u8)
  | cons x rest=>
   have hg:((0:Int)<(((x::rest).length:Nat):Int))=True:=eq_true (by rw[wT];omega)
   simp only[lo H7,l55,lv,hg,q0,eK,reduceIte,eX,Nat.reduceAdd]
   exact hbad (by rw[hc,e7];rfl) _ H7.ext
 ·simp only[lo H7,q0,eK,reduceIte,eX,Nat.reduceAdd]
  exact hbad (by rw[hc,e7];rfl) _ H7.ext
structure It where
 p:Pk
 g:Int
 deriving DecidableEq
instance:Inhabited It:=⟨⟨default,0⟩⟩
def It.cells(i:It):List Value:=[.int .i64 i.p.f,.int .u64 i.p.s,.int .u64 i.p.t,.string i.p.d,.int .i64 i.g]
structure Ac where
 dr:Bool
 n:Nt
 deriving DecidableEq
def Ac.cells(a:Ac):List Value:=[.bool a.dr,.int .i64 a.n.k,.int .i64 a.n.p.f,.int .u64 a.n.p.s,.int .u64 a.n.p.t,.string a.n.p.d]
abbrev Ky:=Int×Int
def Pk.key(p:Pk):Ky:=(p.f,p.s)
def It.key(i:It):Ky:=i.p.key
def It.val(i:It):Value:=.agg i.cells.toArray
theorem It.rows(l:List It):lC 5 (l.map It.cells):=λr hr=>by obtain⟨m,_,rfl⟩:=mT.1 hr;rfl
theorem Ac.rows(l:List Ac):lC 6 (l.map Ac.cells):=λr hr=>by obtain⟨m,_,rfl⟩:=mT.1 hr;rfl
def aUv(x:Int):List Value:=[.int .i64 x]
theorem aUv.rows(l:List Int):lC 1 (l.map aUv):=λr hr=>by obtain⟨m,_,rfl⟩:=mT.1 hr;rfl
def sO(k:Tx):Value:=.string (tx k)
theorem aXe{h:PH}{n:Nat}(a b:Tx):bT PG h (Op.equalIn (n+1) cT (.string (tx a)) (.string (tx b)))=some (decide (a=b)):=by
 rw[aE6 cT.und,aCh]
 congr 1
 rw[zLl]
 simp only[decide_eq_true_eq]
 exact⟨aLG,λe=>by rw[e]⟩
theorem aEw{h:PH}{t:TypeId}{x y:Operand}(a b:Tx):bT PG h (hQ .neq t x y (.string (tx a)) (.string (tx b)))=some (.bool (!decide (a=b))):=by
 have e:bT PG h (hQ .neq t x y (.string (tx a)) (.string (tx b)))=some (.bool (!((tx a).toList==(tx b).toList))):=rfl
 rw[e,aCj,aCj]
 congr 3
 rw[zLl];simp
theorem aEv{h:PH}{t:TypeId}{x y:Operand}(a b:Tx):bT PG h (hQ .eql t x y (.string (tx a)) (.string (tx b)))=some (.bool (decide (a=b))):=by
 have e:bT PG h (hQ .eql t x y (.string (tx a)) (.string (tx b)))=some (.bool ((tx a).toList==(tx b).toList)):=rfl
 rw[e,aCj,aCj]
 congr 2
 rw[zLl];simp
theorem aIX:aIg PG cT sO where
 chk:=λh b a=>by unfold sO;cases b<;>kernel_rfl
 eq:=λh a b=>aXe (n:=9999) a b
 bits:=λa=>by
  show Instr.sameBits (9999+1) (.string (tx a)) (.string (tx a))=true
  simp[Instr.sameBits,aCh]
 now:=⟨_,cT.und,.inr λa b=>by
  unfold sO
  show some (tx a==tx b)=_
  rw[aCh]
  congr 1
  rw[zLl]
  simp only[decide_eq_true_eq]
  exact⟨aLG,λe=>by rw[e]⟩⟩
theorem aFk{h:PH}{e:TypeId}{n:Nat}{v:Value}{rows:List (List Value)}{F:List Nat}(O:gU h e n v rows F):aCy v F:=λy m c e1=>by
 rcases O.here with⟨e2,_,_⟩|⟨b,cap',cs,e2,e3,_⟩
 ·rw[e2] at e1;cases e1
 ·rw[e2] at e1
  simp only[Value.slice.injEq,zL5] at e1
  rw[←e1.1,e3];simp
structure Msg where
 kind:Int
 dest:Int
 height:Int
 pfrom:Int
 pseq:Int
 ptimeout:Int
 pdata:ByteArray
 proof:ByteArray
 deriving DecidableEq
def Msg.cells(m:Msg):List Value:=[.int .i64 m.kind,.int .i64 m.dest,.int .u64 m.height,.int .i64 m.pfrom,.int .u64 m.pseq,.int .u64 m.ptimeout,.string m.pdata,.string m.proof]
theorem Msg.rows(l:List Msg):lC 8 (l.map Msg.cells):=λr hr=>by
 obtain⟨m,_,rfl⟩:=mT.1 hr;rfl
theorem Msg.isCell(l:List Msg):∀r∈l.map Msg.cells,∀u∈r,iF u=true:=λr hr u hu=>by
 obtain⟨m,_,rfl⟩:=mT.1 hr
 simp only[Msg.cells,jG,mD,or_false] at hu
 rcases hu with rfl|rfl|rfl|rfl|rfl|rfl|rfl|rfl<;>rfl
def Msg.zero:Msg:=⟨0,0,0,0,0,0,⟨#[]⟩,⟨#[]⟩⟩
theorem eW.box{F:List Nat}{h h1:PH}{r:Nat}{o o':Obj}(hr:h r=none)(e:h1=(h.set r o).set r o'):eW F h h1:=by
 subst e;rw[aAO];exact eW.new hr
def mv(l:List Msg)(k to:Nat)(m:Msg):List Msg:=
 if k<to then l.take k++(l.drop (k+1)).take (to-k)++[m]++l.drop (to+1) else l.take to++[m]++(l.drop to).take (k-to)++l.drop (k+1)
def Msg.one(n:Int):Msg:={Msg.zero with kind:=1,height:=n}
theorem aOP(x:Int):aT PG (convert dR oL (.int .i64 x))=some (.int .u64 (IntKind.u64.wrap x)):=by kernel_rfl
theorem aOQ(x:Int):aT PG (convert oL dR (.int .u64 x))=some (.int .i64 (IntKind.i64.wrap x)):=by kernel_rfl
theorem aRu{h:PH}{n:Nat}{fid:FuncId}{cap:Array Value}{f:Nat->Bool}(hn:n≤1000000000)(hm:∀i j,i≤j->j<n->f i=true->f j=true)
  (hf:∀i,i<n->∀k',k' (.bool (f i)) h->cR PG fid (#[] ++ #[.int .i64 i]++cap) h k') {k:eJ}
  (hk:∀m,m≤n->(∀i,i<m->f i=false)->(∀i,m≤i->i<n->f i=true)->k (.int .i64 m) h):
  cR PG aGp #[.int .i64 n,.func (.func fid) #[] cap] h k:=by
 apply aHA.call
 unfold aHA
 refine⟨λvs h'=>∃i j:Nat,i≤j∧j≤n∧vs=[.func (.func fid) #[] cap,.int .i64 i,.int .i64 j]∧h'=h∧(∀x,x<i->f x=false)∧(∀x,j≤x->x<n->f x=true),λvs _=>match vs with|[_,.int _ i,.int _ j]=>(j-i).toNat|_=>0,⟨0,n,by omega,by omega,rfl,rfl,by omega,by omega⟩,?_⟩
 rintro ρ h' ⟨i,j,hij,hj,hvs,rfl,h1,h2⟩
 simp only[jT,kF,mQ,and_true] at hvs
 obtain⟨e0,e1,e2⟩:=hvs
 rw[e0,e1,e2]
 unfold aJM
 by_cases hc:i<j
 ·have hd:((i:Int)<(j:Int))=True:=by simp only[eq_iff_iff,iff_true];omega
  have a1:IntKind.i64.wrap ((i:Int)+(j:Int))=((i+j:Nat):Int):=by rw[gD (by omega) (by omega)];omega
  have a2:IntKind.u64.wrap ((i+j:Nat):Int)=((i+j:Nat):Int):=by
   unfold IntKind.wrap
   simp[IntKind.signed,IntKind.bits]
   omega
  have a3:((i+j:Nat):Int).fdiv (2^(min (1:Int).toNat IntKind.u64.bits))=(((i+j)/2:Nat):Int):=by
   have:min (1:Int).toNat IntKind.u64.bits=1:=by decide
   rw[this,Int.fdiv_eq_ediv_of_nonneg _ (by decide)]
   omega
  have a4:IntKind.i64.wrap (((i+j)/2:Nat):Int)=(((i+j)/2:Nat):Int):=by rw[gD (by omega) (by omega)]
  have a5:IntKind.i64.wrap ((((i+j)/2:Nat):Int)+1)=(((i+j)/2+1:Nat):Int):=by rw[gD (by omega) (by omega)];omega
  simp only[hd,a1,aOP,a2,aIL (show(0:Int)≤1 by decide),a3,aOQ,a4,eK,reduceIte]
  refine hf ((i+j)/2) (by omega) _ ?_
  cases e:f ((i+j)/2) with
  | false=>
   simp only[a5,eK,reduceIte]
   refine⟨⟨(i+j)/2+1,j,by omega,hj,rfl,rfl,λx hx=>?_,h2⟩,by simp[e1,e2];omega⟩
   cases e':f x with
   | false=>rfl
   | true=>rw[hm x ((i+j)/2) (by omega) (by omega) e'] at e;cases e
  | true=>
   simp only[eK,reduceIte]
   exact⟨⟨i,(i+j)/2,by omega,by omega,rfl,rfl,h1,λx hx hx2=>hm _ _ hx hx2 e⟩,by simp[e1,e2];omega⟩
 ·have hd:((i:Int)<(j:Int))=False:=by apply eq_false;omega
  simp only[hd,eK,reduceIte]
  have:i=j:=by omega
  subst this
  exact hk i hj h1 h2
structure jN where
 height:Int
 root:ByteArray
 deriving DecidableEq
def jN.cells(m:jN):List Value:=[.int .u64 m.height,.string m.root]
theorem jN.rows(l:List jN):lC 2 (l.map jN.cells):=λr hr=>by
 obtain⟨m,_,rfl⟩:=mT.1 hr;rfl
theorem jN.isCell(l:List jN):∀r∈l.map jN.cells,∀u∈r,iF u=true:=λr hr u hu=>by
 obtain⟨m,_,rfl⟩:=mT.1 hr
 simp only[jN.cells,jG,mD,or_false] at hu
 rcases hu with rfl|rfl<;>rfl
def aEQ(x:Int):List Value:=[.int .u64 x]
theorem aEQ.rows(l:List Int):lC 1 (l.map aEQ):=λr hr=>by
 obtain⟨m,_,rfl⟩:=mT.1 hr;rfl
theorem aEQ.isCell(l:List Int):∀r∈l.map aEQ,∀u∈r,iF u=true:=λr hr u hu=>by
 obtain⟨m,_,rfl⟩:=mT.1 hr
 simp only[aEQ,jG,mD,or_false] at hu
 subst hu;rfl
def zH(l:List jN):List Int:=l.map jN.height
def aJx(hs:List Int):Int:=hs.getLast?.getD 0
def lZ(l:List jN)(x:Int):Option ByteArray:=(l.find? λp=>decide (x=p.height)).map jN.root
def aAw(l:List jN)(x:jN):Int×List jN:=if x.root.size≠32 then(1,l) else if x.height∈zH l then(4,l) else if 4096≤l.length then(2,l) else(0,l++[x])
structure wE(hs:List Int)(l:List jN):Prop where
 perm:hs.Perm (zH l)
 up:hs.Pairwise (· < ·)
theorem wE.mem{hs:List Int}{l:List jN}(H:wE hs l){x:Int}:x∈hs↔x∈zH l:=H.perm.mem_iff
theorem wE.len{hs:List Int}{l:List jN}(H:wE hs l):hs.length=l.length:=by rw[H.perm.length_eq];simp[zH]
theorem aMx(l:List jN)(x:Int):(lZ l x).isSome=decide (x∈zH l):=by
 unfold lZ zH
 induction l with
 | nil=>rfl
 | cons p ps ih=>
  simp only[List.find?_cons,jT,jG]
  by_cases e:x=p.height
  ·simp[e]
  ·simp only[e,decide_false,false_or];exact ih
def jN.ent(p:jN):Int×Value:=(p.height,.string p.root)
theorem aPl(l:List jN)(x:Int):aAu (l.map jN.ent) x=(lZ l x).map Value.string:=by
 unfold lZ aAu
 induction l with
 | nil=>rfl
 | cons p ps ih=>
  simp only[List.find?_cons,jT,jN.ent]
  by_cases e:x=p.height
  ·simp[e]
  ·simp only[e,decide_false];exact ih
theorem aS6(l:List jN):uP (l.map jN.ent)=zH l:=by simp[uP,zH,jN.ent]
theorem wE.cut{hs:List Int}{l:List jN}(H:wE hs l){x:jN}(hx:x.height∉zH l){m:Nat}(h1:∀y∈hs.take m,y<x.height)(h2:∀y∈hs.drop m,x.height≤y):wE (hs.take m++[x.height]++hs.drop m) (l++[x]) where
 perm:=by
  have:zH (l++[x])=zH l++[x.height]:=by simp[zH]
  rw[this]
  refine((List.perm_append_comm (l₁:=hs.take m) (l₂:=[x.height])).append_right _).trans ?_
  rw[qU,zL7]
  exact List.perm_append_comm.trans (H.perm.append_right _)
 up:=by
  have hs':=H.up
  rw[←zL7 m hs,List.pairwise_append] at hs'
  have h2':∀y∈hs.drop m,x.height<y:=λy hy=>by
   have h3:=h2 y hy
   have:y≠x.height:=by rintro rfl;exact hx (H.mem.1 (aKo hy))
   omega
  rw[qU,List.pairwise_append]
  refine⟨hs'.1,?_,?_⟩
  ·rw[List.singleton_append,List.pairwise_cons]
   exact⟨h2',hs'.2.1⟩
  ·intro a ha b hb
   rcases jG.1 (by simpa using hb) with rfl|hb
   ·exact h1 a ha
   ·exact hs'.2.2 a ha b hb
structure rJ(h:PH)(a:Nat)(l:List jN)(hs:List Int)(F:List Nat):Prop where
 here:∃r v G,h a=some (.cells #[.map (some r),v] jK (0,0))∧kE aKG h r (l.map jN.ent)∧gU h dT 1 v (hs.map aEQ) G∧F=a::r::G∧a≠r∧a∉G∧r∉G
 rank:wE hs l
 few:l.length≤4096
theorem rJ.known{h:PH}{a:Nat}{l:List jN}{hs:List Int}{F:List Nat}(H:rJ h a l hs F):∀b∈F,h b≠none:=by
 obtain⟨r,v,G,ha,hM,hO,rfl,-⟩:=H.here
 intro b hb
 simp only[jG] at hb
 rcases hb with rfl|rfl|hb
 ·rw[ha];simp
 ·exact hM.known
 ·exact hO.known b hb
theorem rJ.upd{h h':PH}{a:Nat}{l:List jN}{hs:List Int}{F G:List Nat}(H:rJ h a l hs F)(u:eW G h h')(hd:∀b∈F,b∉G):rJ h' a l hs F:=by
 obtain⟨r,v,G',ha,hM,hO,rfl,hn⟩:=H.here
 exact⟨⟨r,v,G',u.get ha (hd a (by simp)),hM.upd u (hd r (by simp)),hO.upd u (λb hb=>hd b (by simp[hb])),rfl,hn⟩,H.rank,H.few⟩
theorem rJ.ext{h h':PH}{a:Nat}{l:List jN}{hs:List Int}{F:List Nat}(H:rJ h a l hs F)(u:fE h h'):rJ h' a l hs F:=H.upd u (by simp)
theorem aVa{h:PH}{k:eJ}(hk:∀a h' F,rJ h' a [] [] F->fE h h'->gQ h F->k (pT a 0) h'):cR PG aHa #[] h k:=by
 apply aHq.call
 unfold aHq
 simp only[aEV,eK,reduceIte]
 intro r hr
 refine iK ?_
 have e1:aT PG (build jK #[(0,Value.map (some r))])=some (.agg #[.map (some r),.slice none 0 0]):=by kernel_rfl
 simp only[e1,eK,reduceIte]
 intro a ha
 have hne:a≠r:=by rintro rfl;rw[fP] at ha;cases ha
 have ha0:h a=none:=by rwa [qK hne] at ha
 refine hk a _ [a,r] ⟨⟨r,.slice none 0 0,[],fP,kE.new.ext (eW.new ha),gU.nil,rfl,hne,by simp,by simp⟩,⟨by simp[zH],by simp⟩,by simp⟩ ((eW.new hr).trans (eW.new ha)) ?_
 intro b hb
 simp only[jG,mD,or_false] at hb
 rcases hb with rfl|rfl
 ·exact ha0
 ·exact hr
theorem iR.u64{h:PH}{x:Value}{xs:List Int}(H:iR h 1 x (xs.map aEQ)){k:IntKind}{j:Nat}{m:Int}(hm:xs[j]? =some m):
  ∃a,aT PG (indexAt gE x (.int k j))=some (.pointer (some a))∧bT PG h (loadAt dT (.pointer (some a)))=some (.int .u64 m):=
 H.loadCell gE.und dT.info dT.size dT.und rfl (by omega) (by simp[zLW,hm,aEQ])
theorem aUO{h:PH}{a:Nat}{mv v:Value}{hs:List Int}{G:List Nat}(ha0:h a=some (.cells #[mv,v] jK (0,0)))(hO0:gU h dT 1 v (hs.map aEQ) G)(hup:hs.Pairwise (· < ·))(hfew:hs.length≤4096)(x:Int){k:eJ}
  (hk:∀m h',m≤hs.length->(∀y∈hs.take m,y<x)->(∀y∈hs.drop m,x≤y)->fE h h'->k (.int .i64 (m:Nat)) h'):cR PG aBj #[pT a 0,.int .u64 x] h k:=by
 apply aAb.call
 unfold aAb
 intro r1 hr1
 simp only[eK,reduceIte]
 intro r3 hr3
 have u1:fE h (h.set r1 (.cells (Value.cells (pT a 0)) kB)):=eW.new hr1
 have hne:r1≠r3:=aSg fP hr3
 have e1:(h.set r1 (.cells (Value.cells (pT a 0)) kB)) r1=some (.cells #[pT a 0] kB):=fP
 generalize h.set r1 (.cells (Value.cells (pT a 0)) kB)=h1 at *
 have u2:fE h1 (h1.set r3 (.cells (Value.cells (.int .u64 x)) dT)):=eW.new hr3
 have e2:(h1.set r3 (.cells (Value.cells (.int .u64 x)) dT)) r3=some (.cells #[.int .u64 x] dT):=fP
 have e3:=u2.get e1
 generalize h1.set r3 (.cells (Value.cells (.int .u64 x)) dT)=h2 at *
 have w:=u1.trans u2
 have ha:=w.get ha0
 have hO:=hO0.ext w
 have hlv:=hO.slR.len (t':=dR) gE.und
 rw[kQ] at hlv
 simp only[kB.load,fH,e3,jK.f1,iG,gE.load,ha,hlv,eK,reduceIte]
 refine aRu (f:=λi=>decide (x≤hs.getD i 0)) (by omega) ?_ ?_ ?_
 ·intro i j hij hj hfi
  simp only[decide_eq_true_eq] at hfi ⊢
  by_cases e:i=j
  ·subst e;exact hfi
  ·have:=List.pairwise_iff_getElem.1 hup i j (by omega) hj (by omega)
   rw[aAN,nM (by omega)] at hfi ⊢
   simp only[aI5] at hfi ⊢
   omega
 ·intro i hi k' hk'
  show cR PG aAX #[.int .i64 i,pT r1 0,pT r3 0] h2 k'
  apply qI.call
  unfold qI
  obtain⟨p,p1,p2⟩:=hO.slR.u64 (k:=.i64) (j:=i) (m:=hs.getD i 0) (by rw[aAN,nM hi];rfl)
  have p3:bT PG h2 (loadAt dT (pT r3 0))=some (.int .u64 x):=by rw[dT.load];simp[fH,e2]
  simp only[kB.load,fH,e3,jK.f1,iG,gE.load,ha,p1,p2,p3,eK,reduceIte]
  exact hk'
 ·intro m hm h1 h2
  refine hk m _ hm ?_ ?_ w
  ·intro y hy
   obtain⟨i,hi,rfl⟩:=List.mem_iff_getElem.1 hy
   rw[vZ] at hi
   have:=h1 i (by omega)
   rw[aAN,nM (by omega)] at this
   simp only[aI5,decide_eq_false_iff_not] at this
   rw[List.getElem_take]
   omega
  ·intro y hy
   obtain⟨i,hi,rfl⟩:=List.mem_iff_getElem.1 hy
   rw[wL] at hi
   have:=h2 (m+i) (by omega) (by omega)
   rw[aAN,nM (by omega)] at this
   simp only[aI5,decide_eq_true_eq] at this
   rw[List.getElem_drop]
   exact this
theorem aVu{h:PH}{a:Nat}{l:List jN}{hs:List Int}{F:List Nat}(hC:rJ h a l hs F)(x:Int){k:eJ}
  (hk:k (.tuple #[.string ((lZ l x).getD ⟨#[]⟩),.bool (lZ l x).isSome]) h):cR PG aCc #[pT a 0,.int .u64 x] h k:=by
 apply aBK.call
 unfold aBK
 obtain⟨r,v,G,ha,hM,hO,rfl,hn⟩:=hC.here
 have hl:=aGA (aPY dT.und) jJ.und cT.info cT.zero hM x true
 rw[aPl] at hl
 have hl':bT PG h (Instr.lookup jJ (.map (some r)) (.int .u64 x) true)=some (.tuple #[.string ((lZ l x).getD ⟨#[]⟩),.bool (lZ l x).isSome]):=by
  rw[show(Value.int .u64 x)=aKG x from rfl,hl]
  cases lZ l x<;>rfl
 simp only[fH,jK.f0,jJ.load,ha,hl',eK,reduceIte]
 exact hk
theorem aRl{h:PH}{a:Nat}{l:List jN}{hs:List Int}{F:List Nat}(hC:rJ h a l hs F){k:eJ}
  (hk:k (.int .u64 (aJx hs)) h):cR PG aAz #[pT a 0] h k:=by
 have hlen:=hC.rank.len
 have hfew:=hC.few
 apply qV.call
 unfold qV
 obtain⟨r,v,G,ha,hM,hO,rfl,hn⟩:=hC.here
 have hlv:=hO.slR.len (t':=dR) gE.und
 rw[kQ] at hlv
 simp only[fH,jK.f1,iG,gE.load,ha,hlv,eK,reduceIte]
 unfold aJx at hk
 rw[List.getLast?_eq_getElem?] at hk
 by_cases hc:hs.length=0
 ·have e:((hs.length:Int)==0)=true:=by simp[hc]
  have e2:hs=[]:=zLL hc
  simp only[e,eK,reduceIte]
  rw[e2] at hk
  exact hk
 ·have e:((hs.length:Int)==0)=false:=by simpa using hc
  have e2:IntKind.i64.wrap ((hs.length:Int)-1)=((hs.length-1:Nat):Int):=by rw[gD (by omega) (by omega)];omega
  obtain⟨y,hy⟩:∃y,hs[hs.length-1]? =some y:=⟨_,nM (by omega)⟩
  obtain⟨p,p1,p2⟩:=hO.slR.u64 (k:=.i64) hy
  simp only[e,e2,p1,p2,eK,reduceIte]
  rw[hy] at hk
  exact hk
theorem aWp(x:Int):iP PG (buildSlice gE 1 #[(0,.int .u64 x)])=some (.cells #[.int .u64 x] dT,λr=>pure (.slice (some ⟨r,0,none⟩) 1 1)):=by kernel_rfl
theorem aWN{h:PH}{a:Nat}{l:List jN}{hs:List Int}{F:List Nat}(hC:rJ h a l hs F)(x:jN){k:eJ}
  (hk:∀h' hs' F',rJ h' a (aAw l x).2 hs' F'->eW F h h'->(∀b∈F',b∈F∨h b=none)->k (.int .i64 (aAw l x).1) h'):cR PG aCt #[pT a 0,.int .u64 x.height,.string x.root] h k:=by
 have hlen:=hC.rank.len
 have hfew:=hC.few
 apply vB.call
 unfold vB
 unfold aAw at hk
 have hsame:=hk
 simp only[cT.len,eK,reduceIte]
 by_cases c1:x.root.size=32
 ·have e1:((x.root.size:Int) !=32)=false:=by simp[c1]
  rw[if_neg (by simpa using c1)] at hk
  obtain⟨r,v,G,ha,hM,hO,hF,n1,n2,n3⟩:=hC.here
  have hl:=aGA (aPY dT.und) jJ.und cT.info cT.zero hM x.height true
  rw[aPl] at hl
  have hl':bT PG h (Instr.lookup jJ (.map (some r)) (.int .u64 x.height) true)=some (.tuple #[.string ((lZ l x.height).getD ⟨#[]⟩),.bool (lZ l x.height).isSome]):=by
   rw[show(Value.int .u64 x.height)=aKG x.height from rfl,hl]
   cases lZ l x.height<;>rfl
  simp only[e1,fH,jK.f0,jJ.load,ha,hl',aMx,eK,reduceIte]
  by_cases c2:x.height∈zH l
  ·simp only[c2,eK,reduceIte]
   rw[if_pos c2] at hk
   exact hk _ _ _ hC eW.refl (λb hb=>.inl hb)
  ·rw[if_neg c2] at hk
   have hml:=hM.len (t':=dR) jJ.und
   rw[kQ] at hml
   simp only[c2,hml,eK,reduceIte]
   by_cases c3:4096≤l.length
   ·have e3:((4096:Int)≤(l.length:Int))=True:=by apply eq_true;omega
    simp only[e3,eK,reduceIte]
    rw[if_pos c3] at hk
    exact hk _ _ _ hC eW.refl (λb hb=>.inl hb)
   ·have e3:((4096:Int)≤(l.length:Int))=False:=by apply eq_false;omega
    rw[if_neg c3] at hk
    simp only[e3,eK,reduceIte]
    refine aJG (enc:=aKG) (aPY dT.und) jJ.und hM x.height (.string x.root) λh1 hM1 u1=>?_
    have hput:aC7 (l.map jN.ent) x.height (.string x.root)=(l++[x]).map jN.ent:=by
     unfold aC7
     rw[aS6,if_neg c2]
     simp[jN.ent]
    rw[hput] at hM1
    have ha1:=u1.get ha (by simp[n1])
    have hO1:=hO.upd u1 (λb hb hf=>by simp at hf;subst hf;exact n3 hb)
    refine aUO ha1 hO1 hC.rank.up (by omega) x.height λm h2 hm p1 p2 u2=>?_
    have ha2:=u2.get ha1
    have hO2:=hO1.ext u2
    have hM2:=hM1.ext u2
    obtain⟨va,w1,w2⟩:=hO2.slR.full gE.und dT.info (m:=m) (k2:=.i64) (k3:=.i64) (by simpa using hm)
    obtain⟨y,y1,y2,-⟩:=hO2.slR.cut gE.und dT.info dT.size (hi:=none) (.inr ⟨.i64,rfl⟩) (.inl ⟨rfl,rfl⟩) (show m≤_ by simpa using hm) (sL _)
    rw[qR (sL _)] at y2
    simp only[fH,jK.f1,iG,gE.load,ha2,w1,y1,aWp,eK,reduceIte]
    intro r3 hr3
    refine iK ?_
    have u3:fE h2 (h2.set r3 (.cells #[.int .u64 x.height] dT)):=eW.new hr3
    have hx3:iR (h2.set r3 (.cells #[.int .u64 x.height] dT)) 1 (.slice (some ⟨r3,0,none⟩) 1 1) ([x.height].map aEQ):=(gU.lit (aEQ.rows _) fP (by simp) (by decide) (by simp[aEQ])).slR
    generalize h2.set r3 (.cells #[.int .u64 x.height] dT)=h3 at *
    refine aPr gE.und gE.und dT.info dT.size dT.bytes dT.zero rfl (by decide) (w2.ext u3) rfl hx3 (by simp;omega) (by simp) λv4 h4 F4 hO4 u4 k4=>?_
    have ha4:=(u3.trans u4).get ha2
    refine⟨by simp[ha4],?_⟩
    rw[←aKD,←rL] at hO4
    have y4:=(y2.ext u3).ext u4
    rw[←List.map_drop] at y4
    refine kU gE.und gE.und dT.info dT.size dT.bytes dT.zero rfl (by decide) hO4 y4 (aEQ.isCell _) (by simp;omega) ?_
    intro v5 h5 F5 hO5 u5 k5 _
    rw[←rL] at hO5
    have na4:a∉F4:=λhm'=>by have:=k4 a hm';rw[u3.get ha2] at this;cases this
    have nr4:r∉F4:=λhm'=>(hM2.ext u3).known (k4 r hm')
    have ha5:=u5.get ha4 na4
    have hM5:=((hM2.ext u3).ext u4).upd u5 nr4
    have na5:a∉F5:=λhm'=>by
     rcases k5 a hm' with h|h
     ·exact na4 h
     ·rw[ha4] at h;cases h
    have nr5:r∉F5:=λhm'=>by
     rcases k5 r hm' with h|h
     ·exact nr4 h
     ·exact(((hM2.ext u3).ext u4)).known h
    refine jY gE.und rfl ha5 (by simp) ?_ gE.info gE.size ?_
    ·obtain⟨_,_,rfl,-⟩:=hO5.slR.here;rfl
    have u6:eW [a] h5 (h5.set a (.cells ((#[.map (some r),v]:Array Value).setIfInBounds 1 v5) jK (0,0))):=eW.set (by simp)
    have ua:eW F h h4:=by
     have:eW [r] h h4:=(u1.trans u2.upd).trans (u3.trans u4).upd
     exact this.mono λb hb=>.inl (by simp at hb;subst hb;rw[hF];simp)
    have g4:∀b∈F4,h b=none:=λb hb=>by
     have hb3:h2 b=none:=u3.none (k4 b hb)
     have hb1:h1 b=none:=u2.none hb3
     cases e:h b with
     | none=>rfl
     | some o=>
      by_cases hbr:b=r
      ·subst hbr;exact absurd hb1 hM1.known
      ·have:=u1.get e (by simp[hbr]);rw[hb1] at this;cases this
    have g5:∀b∈F5,h b=none:=λb hb=>by
     rcases k5 b hb with h'|h'
     ·exact g4 b h'
     ·cases e:h b with
      | none=>rfl
      | some o=>
       by_cases hbF:b∈F
       ·rw[hF] at hbF
        simp only[jG] at hbF
        rcases hbF with rfl|rfl|hbG
        ·rw[ha4] at h';cases h'
        ·exact absurd h' ((hM2.ext u3).ext u4).known
        ·exact absurd h' (((hO2.ext u3).ext u4).known b hbG)
       ·have:=ua.get e hbF;rw[h'] at this;cases this
    refine hk _ (hs.take m++[x.height]++hs.drop m) (a::r::F5) ⟨⟨r,v5,F5,fP,hM5.upd u6 (by simp;exact n1.symm),hO5.upd u6 (λb hb hf=>by simp at hf;subst hf;exact na5 hb),rfl,n1,na5,nr5⟩,hC.rank.cut c2 p1 p2,by simp;omega⟩ ?_ ?_
    ·exact(ua.then u5 (λb hb=>.inr (g4 b hb))).then u6 (λb hb=>.inl (by simp at hb;subst hb;rw[hF];simp))
    ·intro b hb
     simp only[jG] at hb
     rcases hb with rfl|rfl|hb
     ·exact .inl (by rw[hF];simp)
     ·exact .inl (by rw[hF];simp)
     ·exact .inr (g5 b hb)
 ·have e1:((x.root.size:Int) !=32)=true:=by simp;omega
  rw[if_pos (by simpa using c1)] at hk
  simp only[e1,eK,reduceIte]
  exact hk _ _ _ hC eW.refl (λb hb=>.inl hb)
def pR(n:Nat):List Value:=[.int .u64 (n:Int)]
theorem pR.rows(l:List Nat):lC 1 (l.map pR):=λr hr=>by
 obtain⟨p,-,rfl⟩:=mT.1 hr;rfl
def kN:List Nat->Nat
 | []=>0
 | d::l=>d+4294967296*kN l
def Dig(l:List Nat):Prop:=∀d∈l,d<4294967296
theorem aXu(n:Nat):0<4294967296^n:=Nat.pow_pos (by decide)
theorem aMF:∀(l:List Nat) (i d:Nat) (x:Nat),l[i]? =some x->kN (l.set i d)+x*4294967296^i=kN l+d*4294967296^i
 | [],i,d,x,h=>by simp at h
 | a::l,0,d,x,h=>by
  simp only[qA,zL5] at h
  subst h
  simp only[List.set_cons_zero,kN,Nat.pow_zero,Nat.mul_one]
  omega
 | a::l,i+1,d,x,h=>by
  have ih:=aMF l i d x (by simpa using h)
  simp only[List.set_cons_succ,kN]
  have e1:x*4294967296^(i+1)=4294967296*(x*4294967296^i):=by rw[zLO,zLP (4294967296^i),Nat.mul_left_comm]
  have e2:d*4294967296^(i+1)=4294967296*(d*4294967296^i):=by rw[zLO,zLP (4294967296^i),Nat.mul_left_comm]
  rw[e1,e2]
  omega
theorem aJQ:∀{l:List Nat},Dig l->kN l<4294967296^l.length
 | [],_=>by simp[kN]
 | a::l,h=>by
  have ih:=aJQ (l:=l) λd hd=>h d (by simp[hd])
  have ha:=h a (by simp)
  simp only[kN,wT,zLO]
  omega
theorem aJ3:∀{l:List Nat},Dig l->∀i,kN l/4294967296^i%4294967296=l.getD i 0
 | [],_,i=>by simp[kN]
 | a::l,h,0=>by
  have ha:=h a (by simp)
  simp only[kN,Nat.pow_zero,Nat.div_one,List.getD_cons_zero]
  omega
 | a::l,h,i+1=>by
  have ih:=aJ3 (l:=l) (λd hd=>h d (by simp[hd])) i
  have ha:=h a (by simp)
  have e:(a+4294967296*kN l)/4294967296=kN l:=by omega
  simp only[kN,List.getD_cons_succ]
  rw[zLO,zLP (4294967296^i),←Nat.div_div_eq_div_mul,e,ih]
theorem aK7:∀(l:List Nat) (i x:Nat),l[i]? =some x->kN (l.take (i+1))=kN (l.take i)+x*4294967296^i
 | [],i,x,h=>by simp at h
 | a::l,0,x,h=>by
  simp only[qA,zL5] at h
  subst h
  simp[kN]
 | a::l,i+1,x,h=>by
  have ih:=aK7 l i x (by simpa using h)
  simp only[zLb,kN]
  have e1:x*4294967296^(i+1)=4294967296*(x*4294967296^i):=by rw[zLO,zLP (4294967296^i),Nat.mul_left_comm]
  rw[ih,e1]
  omega
theorem aKt(l:List Nat):∀i,kN (l.take i)≤kN l:=by
 induction l with
 | nil=>intro i;simp
 | cons a l ih=>
  intro i
  cases i with
  | zero=>simp[kN]
  | succ i=>
   have:=ih i
   simp only[zLb,kN]
   omega
theorem aJh(n:Nat):kN (List.replicate n 0)=0:=by
 induction n with
 | zero=>rfl
 | succ n ih=>simp only[List.replicate_succ,kN,ih]
theorem aKd(n:Nat):Dig (List.replicate n 0):=λd hd=>by
 rw[List.mem_replicate] at hd
 omega
abbrev aGQ(h:PH)(v:Value)(l:List Nat)(F:List Nat):Prop:=gU h dT 1 v (l.map pR) F
theorem aKn{h:PH}{v:Value}{l:List Nat}(S:iR h 1 v (l.map pR)){i x:Nat}(hx:l[i]? =some x):∃a,aT PG (indexAt gE v (.int .i64 (i:Int)))=some (.pointer (some a))∧bT PG h (loadAt dT (.pointer (some a)))=some (.int .u64 (x:Int)):=
 S.loadCell (t:=gE) (k:=.i64) (j:=(i:Int)) gE.und dT.info dT.size dT.und rfl (by omega) (by rw[sM,zLW,hx];rfl)
theorem aJr{h:PH}{v:Value}{l:List Nat}(S:iR h 1 v (l.map pR)):aT PG (Builtin.len_ #[gE] dR #[v])=some (.int .i64 l.length):=by
 have:=S.len (t':=dR) gE.und
 rw[kQ] at this
 exact this
theorem aPi{h:PH}{n:Nat}(hn:n≤1000):∃zs,iP PG (Instr.makeSlice gE (.int .i64 n) (.int .i64 n))=some (.cells zs dT (0,0),λr=>pure (.slice (some ⟨r,0,none⟩) n n))∧zs.toList=((List.replicate n 0).map pR).flatten:=by
 obtain⟨zs',hm,hz⟩:=aEL (P:=PG) (n:=n) gE.und dT.info dT.size dT.bytes dT.zero rfl (by decide) (by omega) (by omega)
 refine⟨zs',hm,?_⟩
 rw[hz,List.map_replicate]
 rfl
theorem aPA{h:PH}{v:Value}{l:List Nat}{F:List Nat}(O:aGQ h v l F)(hd:Dig l)(pos x:Nat)(hp:pos≤1000)(hx:x≤18446744069414584320)(hT:kN l+x*4294967296^pos<4294967296^l.length)(hl:l.length≤1000){k:eJ}
  (hk:∀h' l',aGQ h' v l' F->Dig l'->l'.length=l.length->kN l'=kN l+x*4294967296^pos->eW F h h'->k (.tuple #[]) h'):cR PG wB #[v,.int .i64 (pos:Int),.int .u64 (x:Int)] h k:=by
 apply aC6.call
 unfold aC6
 generalize hTT:kN l+x*4294967296^pos=T at *
 refine⟨λvs h'=>∃(l':List Nat) (p y:Nat),vs=[v,.int .i64 (p:Int),.int .u64 (y:Int)]∧aGQ h' v l' F∧Dig l'∧l'.length=l.length∧p≤1001∧y≤18446744069414584320∧kN l'+y*4294967296^p=T∧eW F h h',jP l.length 1,⟨l,pos,x,rfl,O,hd,rfl,by omega,hx,hTT,eW.refl⟩,?_⟩
 rintro ρ h' ⟨l',p,y,hvs,O',hd',hl',hp',hy,hv,u⟩
 simp only[jT,kF,mQ,and_true] at hvs
 obtain⟨v0,v1,v2⟩:=hvs
 simp only[v0,v1,v2,jT,kF]
 unfold aGe
 have lv:=aJr O'.slR
 by_cases h0:y=0
 ·subst h0
  have g1:((0:Int)<((0:Nat):Int))=False:=eq_false (by decide)
  simp only[g1,eK,reduceIte]
  exact hk h' l' O' hd' hl' (by rw[←hv];simp) u
 have g1:((0:Int)<(y:Int))=True:=eq_true (by omega)
 by_cases hlt:p<l'.length
 ·have g2:((p:Int)<(l'.length:Int))=True:=eq_true (by omega)
  have hx':l'[p]? =some l'[p]:=nM hlt
  have hdx:=hd' _ (aKc hlt)
  generalize l'[p]=d at *
  obtain⟨pa,p1,p2⟩:=aKn O'.slR hx'
  have e1:Int.tmod (y:Int) 4294967296=((y%4294967296:Nat):Int):=(Int.ofNat_tmod _ 4294967296).symm
  have e2:IntKind.u64.wrap (((y%4294967296:Nat):Int)+(d:Int))=((y%4294967296+d:Nat):Int):=by rw[iZ (by omega) (by omega)];omega
  have e3:Int.tdiv (y:Int) 4294967296=((y/4294967296:Nat):Int):=rfl
  have e4:IntKind.u64.wrap ((y/4294967296:Nat):Int)=((y/4294967296:Nat):Int):=iZ (by omega) (by omega)
  have e5:IntKind.u64.wrap (((y/4294967296:Nat):Int)*4294967296)=((y/4294967296*4294967296:Nat):Int):=by rw[iZ (by omega) (by omega)];omega
  have e6:IntKind.u64.wrap (((y%4294967296+d:Nat):Int)+((y/4294967296*4294967296:Nat):Int))=((y+d:Nat):Int):=by rw[iZ (by omega) (by omega)];omega
  have e7:Int.tmod ((y+d:Nat):Int) 4294967296=(((y+d)%4294967296:Nat):Int):=(Int.ofNat_tmod _ 4294967296).symm
  have e8:Int.tdiv ((y+d:Nat):Int) 4294967296=(((y+d)/4294967296:Nat):Int):=rfl
  have e9:IntKind.u64.wrap (((y+d)/4294967296:Nat):Int)=(((y+d)/4294967296:Nat):Int):=iZ (by omega) (by omega)
  have e10:IntKind.i64.wrap ((p:Int)+1)=((p+1:Nat):Int):=by rw[gD (by omega) (by omega)];omega
  have rm:∀(t:TypeId) (a:Int),aT PG (binOp .rem t (.int .u64 a) (.int .u64 4294967296))=some (.int .u64 (a.tmod 4294967296)):=λt a=>aHU (by decide)
  have qu:∀(t:TypeId) (a:Int),aT PG (binOp .quo t (.int .u64 a) (.int .u64 4294967296))=some (.int .u64 (IntKind.u64.wrap (a.tdiv 4294967296))):=λt a=>aKb (by decide)
  obtain⟨pb,q1,q2⟩:=O'.storeCell (t:=gE) (k:=.i64) (j:=p) gE.und dT.info dT.size dT.und rfl (by simpa using hlt) (x:=.int .u64 (((y+d)%4294967296:Nat):Int)) rfl
  rw[p1] at q1
  obtain rfl:pa=pb:=by simpa using q1
  simp only[g1,lv,g2,rm,qu,e1,p1,p2,e2,e3,e4,e5,e6,e7,eK,reduceIte]
  refine q2 _ λh2 O2 u2=>?_
  have hrows:(l'.map pR).take p++[[(.int .u64 (((y+d)%4294967296:Nat):Int):Value)]]++(l'.map pR).drop (p+1)=(l'.set p ((y+d)%4294967296)).map pR:=by
   rw[List.set_eq_take_append_cons_drop,if_pos hlt,rL,jT,aKD,List.map_drop]
   simp[pR]
  rw[hrows] at O2
  simp only[e8,e9,e10,eK,reduceIte]
  refine⟨⟨_,p+1,(y+d)/4294967296,rfl,O2,λz hz=>?_,by simpa using hl',by omega,by omega,?_,u.trans u2⟩,?_⟩
  ·rcases List.mem_or_eq_of_mem_set hz with hz|rfl
   ·exact hd' z hz
   ·exact zLy _ (by decide)
  ·have:=aMF l' p ((y+d)%4294967296) d hx'
   have e:(y+d)%4294967296*4294967296^p+(y+d)/4294967296*4294967296^(p+1)=(y+d)*4294967296^p:=by
    rw[zLO,zLP (4294967296^p) 4294967296,←Nat.mul_assoc,←zLC]
    congr 1
    omega
   rw[zLC] at e
   omega
  ·simp only[jP,sK,qA]
   omega
 ·exfalso
  have h1:4294967296^l.length≤4294967296^p:=aJu (by decide) (by omega)
  have h2:4294967296^p≤y*4294967296^p:=Nat.le_mul_of_pos_left _ (by omega)
  omega
theorem aR9{h:PH}{v:Value}{l:List Nat}(S:iR h 1 v (l.map pR))(hs:∀d∈l,d≤18446744069414584320)(hT:kN l<4294967296^(l.length+1))(hl:l.length≤100){k:eJ}
  (hk:∀h' v' l' F',aGQ h' v' l' F'->Dig l'->l'.length=l.length+1->kN l'=kN l->gQ h F'->fE h h'->k v' h'):cR PG aBi #[v] h k:=by
 apply aAe.call
 unfold aAe
 have lv:=aJr S
 have e1:IntKind.i64.wrap ((l.length:Int)+1)=((l.length+1:Nat):Int):=by rw[gD (by omega) (by omega)];omega
 obtain⟨zs,m1,m2⟩:=aPi (h:=h) (n:=l.length+1) (by omega)
 simp only[lv,e1,m1,eK,reduceIte]
 intro r hr
 refine iK ?_
 try rw[eY]
 have u1:fE h (h.set r (.cells zs dT (0,0))):=eW.new hr
 have O1:aGQ (h.set r (.cells zs dT (0,0))) (.slice (some ⟨r,0,none⟩) (l.length+1) (l.length+1)) (List.replicate (l.length+1) 0) [r]:=gU.lit (n:=l.length+1) (pR.rows _) fP (by simp) (by unfold rX;omega) m2
 generalize h.set r (.cells zs dT (0,0))=h1 at *
 refine⟨λvs h'=>∃(i:Nat) (l':List Nat),i≤l.length∧vs=[v,.slice (some ⟨r,0,none⟩) (l.length+1) (l.length+1),.int .i64 (i:Int)]∧aGQ h' (.slice (some ⟨r,0,none⟩) (l.length+1) (l.length+1)) l' [r]∧Dig l'∧l'.length=l.length+1∧kN l'=kN (l.take i)∧fE h h',jP l.length 2,⟨0,_,by omega,rfl,O1,aKd _,by simp,by rw[aJh];rfl,u1⟩,?_⟩
 rintro ρ h' ⟨i,l',hi,hvs,O',hd',hl',hv,u⟩
 simp only[jT,kF,mQ,and_true] at hvs
 obtain⟨v0,v3,v4⟩:=hvs
 simp only[v0,v3,v4,jT,kF]
 unfold aFB
 by_cases hlt:i<l.length
 ·have g1:((i:Int)<(l.length:Int))=True:=eq_true (by omega)
  have gi:IntKind.i64.wrap ((i:Int)+1)=((i+1:Nat):Int):=by rw[gD (by omega) (by omega)];omega
  have hx':l[i]? =some l[i]:=nM hlt
  have hdx:=hs _ (aKc hlt)
  generalize l[i]=d at *
  obtain⟨pa,p1,p2⟩:=aKn (S.ext u) hx'
  simp only[lv,g1,p1,p2,eK,reduceIte]
  have ht:=aK7 l i d hx'
  have hle:=aKt l (i+1)
  refine aPA O' hd' i d (by omega) hdx (by rw[hl',hv,←ht];omega) (by omega) λh2 l2 O2 hd2 hl2 hv2 u2=>?_
  simp only[gi,eK,reduceIte]
  refine⟨⟨i+1,l2,by omega,rfl,O2,hd2,by omega,by rw[hv2,hv,ht],u.fresh u2 (gQ.one hr)⟩,?_⟩
  simp only[jP,sK,qA]
  omega
 ·have g1:((i:Int)<(l.length:Int))=False:=eq_false (by omega)
  simp only[lv,g1,eK,reduceIte]
  rw[qR (by omega)] at hv
  exact hk h' _ l' [r] O' hd' hl' hv (gQ.one hr) u
theorem aP2{h:PH}{v:Value}{l:List Nat}(S:iR h 1 v (l.map pR))(hs:∀d∈l,d≤18446744069414584320)(hT:kN l<4294967296^(l.length+1))(hl:l.length≤50)(x:Nat)(hx:x<137438953472){k:eJ}
  (hk:∀h' v' l' F',aGQ h' v' l' F'->Dig l'->l'.length=l.length+4->kN l'=kN l*x->gQ h F'->fE h h'->k v' h'):cR PG aAZ #[v,.int .u64 (x:Int)] h k:=by
 apply yX.call
 unfold yX
 refine aR9 S hs hT (by omega) λh1 w p F1 O1 hd1 hl1 hv1 f1 u1=>?_
 have S1:=O1.slR
 have lw:=aJr S1
 have e1:IntKind.i64.wrap ((p.length:Int)+3)=((p.length+3:Nat):Int):=by rw[gD (by omega) (by omega)];omega
 have e2:Int.tmod (x:Int) 4294967296=((x%4294967296:Nat):Int):=(Int.ofNat_tmod _ 4294967296).symm
 have e3:Int.tdiv (x:Int) 4294967296=((x/4294967296:Nat):Int):=rfl
 have e4:IntKind.u64.wrap ((x/4294967296:Nat):Int)=((x/4294967296:Nat):Int):=iZ (by omega) (by omega)
 have rm:∀(t:TypeId) (a:Int),aT PG (binOp .rem t (.int .u64 a) (.int .u64 4294967296))=some (.int .u64 (a.tmod 4294967296)):=λt a=>aHU (by decide)
 have qu:∀(t:TypeId) (a:Int),aT PG (binOp .quo t (.int .u64 a) (.int .u64 4294967296))=some (.int .u64 (IntKind.u64.wrap (a.tdiv 4294967296))):=λt a=>aKb (by decide)
 obtain⟨zs,m1,m2⟩:=aPi (h:=h) (n:=p.length+3) (by omega)
 simp only[rm,qu,e2,e3,e4,lw,e1,m1,eK,reduceIte]
 intro r hr
 refine iK ?_
 try rw[eY]
 have u2:fE h1 (h1.set r (.cells zs dT (0,0))):=eW.new hr
 have O2:aGQ (h1.set r (.cells zs dT (0,0))) (.slice (some ⟨r,0,none⟩) (p.length+3) (p.length+3)) (List.replicate (p.length+3) 0) [r]:=gU.lit (n:=p.length+3) (pR.rows _) fP (by simp) (by unfold rX;omega) m2
 generalize h1.set r (.cells zs dT (0,0))=h2 at *
 have hr0:h r=none:=u1.none hr
 have hpl:=aJQ hd1
 have hF1r:∀b∈F1,b∉[r]:=λb hb hm=>by
  simp only[iQ] at hm
  subst hm
  exact O1.known _ hb hr
 have hbig:kN p*x<4294967296^(p.length+3):=by
  have hx2:x<4294967296^2:=by
   have:(4294967296:Nat)^2=18446744073709551616:=by decide
   omega
  calc kN p*x≤kN p*4294967296^2:=Nat.mul_le_mul_left _ (by omega)
   _<4294967296^p.length*4294967296^2:=Nat.mul_lt_mul_of_pos_right hpl (aXu 2)
   _=4294967296^(p.length+2):=by rw[←Nat.pow_add]
   _≤4294967296^(p.length+3):=aJu (by decide) (by omega)
 refine⟨λvs h'=>∃(i:Nat) (l':List Nat),i≤p.length∧vs=[w,.int .u64 ((x%4294967296:Nat):Int),.int .u64 ((x/4294967296:Nat):Int),.slice (some ⟨r,0,none⟩) (p.length+3) (p.length+3),.int .i64 (i:Int)]∧aGQ h' (.slice (some ⟨r,0,none⟩) (p.length+3) (p.length+3)) l' [r]∧Dig l'∧l'.length=p.length+3∧kN l'=kN (p.take i)*x∧eW [r] h2 h',jP p.length 4,⟨0,_,by omega,rfl,O2,aKd _,by simp,by rw[aJh];simp[kN],eW.refl⟩,?_⟩
 rintro ρ h' ⟨i,l',hi,hvs,O',hd',hl',hv,u⟩
 simp only[jT,kF,mQ,and_true] at hvs
 obtain⟨v0,v5,v6,v7,v8⟩:=hvs
 simp only[v0,v5,v6,v7,v8,jT,kF]
 unfold aDq
 have Sw:=((O1.ext u2).upd u hF1r)
 by_cases hlt:i<p.length
 ·have g1:((i:Int)<(p.length:Int))=True:=eq_true (by omega)
  have gi:IntKind.i64.wrap ((i:Int)+1)=((i+1:Nat):Int):=by rw[gD (by omega) (by omega)];omega
  have hx':p[i]? =some p[i]:=nM hlt
  have hdx:=hd1 _ (aKc hlt)
  generalize p[i]=d at *
  obtain⟨pa,p1,p2⟩:=aKn Sw.slR hx'
  have hm1:d*(x%4294967296)≤4294967295*4294967295:=Nat.mul_le_mul (by omega) (by omega)
  have hm2:d*(x/4294967296)≤4294967295*31:=Nat.mul_le_mul (by omega) (by omega)
  have f1':IntKind.u64.wrap ((d:Int)*((x%4294967296:Nat):Int))=((d*(x%4294967296):Nat):Int):=by rw[←Int.natCast_mul,iZ (Int.natCast_nonneg _) (by omega)]
  have f2':IntKind.u64.wrap ((d:Int)*((x/4294967296:Nat):Int))=((d*(x/4294967296):Nat):Int):=by rw[←Int.natCast_mul,iZ (Int.natCast_nonneg _) (by omega)]
  have ht:=aK7 p i d hx'
  have hle:=zLM x (aKt p (i+1))
  have hsum:d*(x%4294967296)*4294967296^i+d*(x/4294967296)*4294967296^(i+1)=d*4294967296^i*x:=by
   have e:x%4294967296+x/4294967296*4294967296=x:=by omega
   calc d*(x%4294967296)*4294967296^i+d*(x/4294967296)*4294967296^(i+1)
     =d*4294967296^i*(x%4294967296+x/4294967296*4294967296):=by rw[zLO,Nat.mul_add];ac_rfl
    _=_:=by rw[e]
  have htx:kN (p.take (i+1))*x=kN (p.take i)*x+d*4294967296^i*x:=by rw[ht,zLC]
  simp only[lw,g1,p1,p2,f1',eK,reduceIte]
  refine aPA O' hd' i _ (by omega) (by omega) (by rw[hl',hv];omega) (by omega) λh3 l3 O3 hd3 hl3 hv3 u3=>?_
  have Sw3:=Sw.upd u3 hF1r
  obtain⟨pb,q1,q2⟩:=aKn Sw3.slR hx'
  rw[p1] at q1
  obtain rfl:pa=pb:=by simpa using q1
  simp only[gi,p1,q2,f2',eK,reduceIte]
  refine aPA O3 hd3 (i+1) _ (by omega) (by omega) (by rw[hl3,hl',hv3,hv];omega) (by omega) λh4 l4 O4 hd4 hl4 hv4 u4=>?_
  try simp only[gi,eK,reduceIte]
  refine⟨⟨i+1,l4,by omega,rfl,O4,hd4,by omega,by rw[hv4,hv3,hv];omega,(u.trans u3).trans u4⟩,?_⟩
  simp only[jP,sK,qA]
  omega
 ·have g1:((i:Int)<(p.length:Int))=False:=eq_false (by omega)
  simp only[lw,g1,eK,reduceIte]
  rw[qR (by omega)] at hv
  exact hk h' _ l' [r] O' hd' (by omega) (by rw[hv,hv1]) (gQ.one hr0) ((u1.trans u2).fresh u (gQ.one hr0))
end Go.Proofs.YtcoajnpchhmgjaaGreatDoor
