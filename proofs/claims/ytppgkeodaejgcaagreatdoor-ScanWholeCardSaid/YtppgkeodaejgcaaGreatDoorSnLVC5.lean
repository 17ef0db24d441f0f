/- The texts of this claim, put together. -/
import Derived.Test.YtppgkeodaejgcaaGreatDoorSnLVC4
import Derived.WalkKit
import Derived.ProofKit
import Derived.ChangeMaps5
import Derived.Lib.UnsafeStr
set_option linter.all false
set_option maxRecDepth 100000
open Go.Instr (loadAt fieldAt indexAt extract buildSlice build)
namespace Go.Proofs.YtppgkeodaejgcaaGreatDoor
section
open Go
def aSs{α:Type}{x:Option α}{a:α}{k:α->Prop}(h:x=some a)(hk:k a):dY x k:=by rw[h];exact hk
def fH{x:Int}(h1: -9223372036854775808≤x)(h2:x≤9223372036854775807):IntKind.i64.wrap x=x:=IntWalk.i64_in _ ⟨h1,h2⟩
def qN{i:Nat}(h:i<9223372036854775807):IntKind.i64.wrap ((i:Int)+1)=((i+1:Nat):Int):=by rw[fH (by omega) (by omega)];omega
def gQ(n:Nat)(i:Nat):List Value->PH->Nat:=λvs _=>match vs[i]? with
 | some (.int _ j)=>n-j.toNat
 | _=>0
def eK(h:PH)(F:List Nat):Prop:=∀b∈F,h b=none
def eK.one{h:PH}{a:Nat}(ha:h a=none):eK h [a]:=λb hb=>by simp at hb;subst hb;exact ha
def dD.none{h h1:PH}(u:dD h h1){b:Nat}(hb:h1 b=none):h b=none:=by
 cases e:h b with
 | none=>rfl
 | some o=>rw[u.get e] at hb;cases hb
def eK.grow{h h1:PH}{F F':List Nat}(f:eK h F)(u:dD h h1)(hg:∀b∈F',b∈F∨h1 b=none):eK h F':=λb hb=>by
 rcases hg b hb with h1|h1
 ·exact f b h1
 ·exact u.none h1
def eK.of{h h1:PH}{F:List Nat}(f:eK h1 F)(u:dD h h1):eK h F:=λb hb=>u.none (f b hb)
def dD.trans{h h1 h2:PH}(u:dD h h1)(v:dD h1 h2):dD h h2:=cQ.trans u v
def dD.fresh{h h1 h2:PH}{F:List Nat}(u:dD h h1)(v:cQ F h1 h2)(f:eK h F):dD h h2:=λb o hb _=>
 v b o (u.get hb) λhm=>by rw[f b hm] at hb;cases hb
def eM.ext{h h':PH}{e:TypeId}{size:Nat}{v:Value}{rows:List (List Value)}{F:List Nat}(H:eM h e size v rows F)(u:dD h h'):eM h' e size v rows F:=H.upd u (by simp)
def fP{α:Type}{v:α}{k:α->Prop}(hk:k v):dY (dH PG (pure v)) k:=hk
def gO{x:Int}(h1:0≤x)(h2:x<18446744073709551616):IntKind.u64.wrap x=x:=by
 unfold IntKind.wrap;simp[IntKind.signed,IntKind.bits];omega
def aJV(x:Int):IntKind.u8.wrap x=x%256:=by
 unfold IntKind.wrap;simp[IntKind.signed,IntKind.bits]
def aLo:yV undef=none:=(rfl)
def aKI{X:(Value->PH->Prop)->Prop}{h:PH}{kv:cD}{w:Bool}:mZ none w X h kv=kv undef h:=by simp[mZ]
def cE:type_of% @aDC∧type_of% @cW∧type_of% @aOy∧type_of% @aLZ∧type_of% @aKj∧type_of% @aPT∧type_of% @aPg∧type_of% @aST∧type_of% @aSZ∧type_of% @aPF∧type_of% @aPp∧type_of% @aPt∧type_of% @aOZ∧type_of% @aQ3∧type_of% @aRR∧type_of% @aOt∧type_of% @aQr∧type_of% @aR3∧type_of% @aUl∧type_of% @aOk∧type_of% @aUk∧type_of% @aUV∧type_of% @aNN∧type_of% @aLE∧type_of% @aKR∧type_of% @aKP∧type_of% @aP8∧type_of% @iG∧type_of% @kW∧type_of% @oR∧type_of% @decide_true∧type_of% @decide_false∧type_of% @if_true.{0}∧type_of% @if_true.{1}∧type_of% @if_false.{0}∧type_of% @if_false.{1}∧type_of% @Bool.false_eq_true∧type_of% @Bool.not_true∧type_of% @Bool.not_false∧type_of% @List.getElem?_toArray.{0}∧type_of% @List.getElem?_cons_zero.{0}∧type_of% @List.getElem?_cons_succ.{0}∧type_of% @Option.isSome_none.{0}∧type_of% @List.length_map.{0,0}∧type_of% @zPP:=⟨@aDC,@cW,@aOy,@aLZ,@aKj,@aPT,@aPg,@aST,@aSZ,@aPF,@aPp,@aPt,@aOZ,@aQ3,@aRR,@aOt,@aQr,@aR3,@aUl,@aOk,@aUk,@aUV,@aNN,@aLE,@aKR,@aKP,@aP8,@iG,@kW,@oR,@decide_true,@decide_false,@if_true.{0},@if_true.{1},@if_false.{0},@if_false.{1},@Bool.false_eq_true,@Bool.not_true,@Bool.not_false,@List.getElem?_toArray.{0},@List.getElem?_cons_zero.{0},@List.getElem?_cons_succ.{0},@Option.isSome_none.{0},@List.length_map.{0,0},@zPP⟩
def cZ:type_of% @aLo∧type_of% @aKI∧type_of% @Nat.zero_add∧type_of% @beq_self_eq_true.{0}∧type_of% @bne_self_eq_false.{0}∧type_of% @and_self∧type_of% @Bool.true_and∧type_of% @Bool.false_and∧type_of% @Bool.and_true∧type_of% @Bool.and_false∧type_of% @Bool.true_or∧type_of% @Bool.false_or∧type_of% @Bool.or_true∧type_of% @Bool.or_false:=⟨@aLo,@aKI,@Nat.zero_add,@beq_self_eq_true.{0},@bne_self_eq_false.{0},@and_self,@Bool.true_and,@Bool.false_and,@Bool.and_true,@Bool.and_false,@Bool.true_or,@Bool.false_or,@Bool.or_true,@Bool.or_false⟩
end
section
open Go Go.RowKit Go.ChangeShapes
def aYp:Kids PG (· < PG.types.size):=kids_rows (by kernel_rfl) (by kernel_rfl)
def aY1:∀t e,t<PG.types.size->PG.underlying t=some (.slice e)->0<PG.cellsOf e:=slices_full_of PG (by kernel_rfl)
def aWn{H:Type}{enc:TypeId×Value->H}{P:Program}{w:World}{spare:Nat->Bool}{held:Bool}{t:TypeId}{v:Value}{d:DataW H}{p:List MemPlace}(hd:DataW.Trod enc P w 0 spare held t v d p):Rd enc P w spare held t v.cells.toList:=by
 obtain⟨k,hk⟩:=hd;exact⟨k,_,hk⟩
def aMp{n:Int}(h:(Lit.int .u64 n).wf=true):0≤n∧n<18446744073709551616:=by
 simp[Lit.wf,IntKind.min,IntKind.max,IntKind.signed,IntKind.bits] at h;omega
end
section
open Go
abbrev nA:=PH->List Nat->Prop
structure mK(A:nA):Prop where
 known:∀{h F},A h F->∀b∈F,h b≠none
 upd:∀{h h' F K},A h F->cQ K h h'->(∀b∈F,b∉K)->A h' F
def eP(A B:nA):nA:=λh F=>∃Fa Fb,F=Fa++Fb∧A h Fa∧B h Fb∧∀b∈Fa,b∉Fb
def mK.star{A B:nA}(a:mK A)(b:mK B):mK (eP A B) where
 known:=by
  rintro h F ⟨Fa,Fb,rfl,ha,hb,-⟩ x hx;rcases kB.1 hx with hx|hx
  ·exact a.known ha x hx
  ·exact b.known hb x hx
 upd:=by
  rintro h h' F K ⟨Fa,Fb,rfl,ha,hb,hd⟩ u hK;exact⟨Fa,Fb,rfl,a.upd ha u λx hx=>hK x (by simp[hx]),b.upd hb u λx hx=>hK x (by simp[hx]),hd⟩
def mK.ext{A:nA}(a:mK A){h h':PH}{F:List Nat}(H:A h F)(u:dD h h'):A h' F:=a.upd H u (by simp)
structure jI(h:PH)(F:List Nat)(h':PH)(F':List Nat):Prop where
 upd:cQ F h h'
 grow:∀b∈F',b∈F∨h b=none
def jI.refl{h:PH}{F:List Nat}:jI h F h F:=⟨cQ.refl,λb hb=>.inl hb⟩
def jI.ext{h h':PH}{F:List Nat}(u:dD h h'):jI h F h' F:=⟨u.upd,λb hb=>.inl hb⟩
def jI.trans{h h1 h2:PH}{F F1 F2:List Nat}(a:jI h F h1 F1)(b:jI h1 F1 h2 F2):jI h F h2 F2 where
 upd:=a.upd.then b.upd a.grow
 grow:=λx hx=>by
  rcases b.grow x hx with hx|hx
  ·exact a.grow x hx
  ·by_cases hF:x∈F
   ·exact .inl hF
   ·right;cases e:h x with
    | none=>rfl
    | some o=>have:=a.upd x o e hF;rw[hx] at this;cases this
def zJ(h:PH)(F:List Nat)(A:nA)(W:nA->nA):Prop:=
 ∃Fa,A h Fa∧(∀b∈Fa,b∈F)∧∀(A':nA) (h':PH) (Fa':List Nat),A' h' Fa'->jI h Fa h' Fa'->∃F',W A' h' F'∧jI h F h' F'
def eP.left{A B:nA}(b:mK B){h:PH}{F:List Nat}(H:(eP A B) h F):zJ h F A (λA'=>eP (A') B):=by
 obtain⟨Fa,Fb,rfl,ha,hb,hd⟩:=H;refine⟨Fa,ha,λx hx=>by simp[hx],λA' h' Fa' hA s=>⟨Fa'++Fb,⟨Fa',Fb,rfl,hA,b.upd hb s.upd (λx hx hx'=>hd x hx' hx),λx hx hx'=>?_⟩,⟨λx o hx hn=>s.upd x o hx (λhm=>hn (by simp[hm])),λx hx=>?_⟩⟩⟩
 ·rcases s.grow x hx with h1|h1
  ·exact hd x h1 hx'
  ·exact b.known hb x hx' h1
 ·rcases kB.1 hx with hx|hx
  ·rcases s.grow x hx with h1|h1
   ·exact .inl (by simp[h1])
   ·exact .inr h1
  ·exact .inl (by simp[hx])
def eP.right{A B:nA}(a:mK A){h:PH}{F:List Nat}(H:(eP A B) h F):zJ h F B (λB'=>eP A (B')):=by
 obtain⟨Fa,Fb,rfl,ha,hb,hd⟩:=H;refine⟨Fb,hb,λx hx=>by simp[hx],λB' h' Fb' hB s=>⟨Fa++Fb',⟨Fa,Fb',rfl,a.upd ha s.upd (λx hx hx'=>hd x hx hx'),hB,λx hx hx'=>?_⟩,⟨λx o hx hn=>s.upd x o hx (λhm=>hn (by simp[hm])),λx hx=>?_⟩⟩⟩
 ·rcases s.grow x hx' with h1|h1
  ·exact hd x hx h1
  ·exact a.known ha x hx h1
 ·rcases kB.1 hx with hx|hx
  ·exact .inl (by simp[hx])
  ·rcases s.grow x hx with h1|h1
   ·exact .inl (by simp[h1])
   ·exact .inr h1
def zJ.comp{h:PH}{F:List Nat}{A B:nA}{W V:nA->nA}(f:zJ h F A W)(g:∀Fa,A h Fa->zJ h Fa B V):zJ h F B (λB'=>W (V B')):=by
 obtain⟨Fa,ha,hFa,c⟩:=f;obtain⟨Fb,hb,hFb,d⟩:=g Fa ha;refine⟨Fb,hb,λx hx=>hFa x (hFb x hx),λB' h' Fb' hB s=>?_⟩;obtain⟨Fa',hV,s'⟩:=d B' h' Fb' hB s;exact c _ h' Fa' hV s'
def qL(r:Nat)(cs:List Value):nA:=λh F=>F=[r]∧Bx h r cs
def qL.good(r:Nat)(cs:List Value):mK (qL r cs) where
 known:=by
  rintro h F ⟨rfl,B⟩ b hb;simp only[gB] at hb;subst hb;exact B.known
 upd:=by
  rintro h h' F K ⟨rfl,B⟩ u hK;exact⟨rfl,B.upd u (hK r (by simp))⟩
def xY(e:TypeId)(n:Nat)(v:Value)(rows:List (List Value)):nA:=λh F=>eM h e n v rows F
def xY.good(e:TypeId)(n:Nat)(v:Value)(rows:List (List Value)):mK (xY e n v rows) where
 known:=λH b hb=>eM.known H b hb
 upd:=λH u hK=>eM.upd H u hK
def eP.mk{A B:nA}{h:PH}{Fa Fb:List Nat}(ha:A h Fa)(hb:B h Fb)(hd:∀b∈Fa,b∉Fb):(eP A B) h (Fa++Fb):=⟨Fa,Fb,rfl,ha,hb,hd⟩
section
variable{P:Program}{h:PH}{t t' kt et:TypeId}{α:Type}[DecidableEq α]{enc:α->Value}
def aMW(l:List (α×Value))(a:α):List (α×Value):=l.filter λp=>decide (p.1≠a)
def aMr{β:Type}:∀(L:List (α×β)) (a:α) (q:Nat),(L.map (·.1)).Nodup->(L.map (·.1))[q]? =some a->L.eraseIdx q=L.filter λp=>decide (p.1≠a)
 | [],a,q,_,hq=>by simp at hq
 | p::ps,a,0,hnd,hq=>by
  simp only[iH,qB,zL9] at hq;simp only[iH,aKv] at hnd;simp only[List.eraseIdx_cons_zero,zLt,hq,ne_eq,not_true,decide_false,zLu,if_false];symm;rw[aJf];intro x hx;simp only[decide_eq_true_eq];rintro e;exact hnd.1 (by rw[hq,←e];exact zL8 hx)
 | p::ps,a,q+1,hnd,hq=>by
  simp only[iH,sL] at hq;simp only[iH,aKv] at hnd;have hne:p.1≠a:=λe=>hnd.1 (by rw[e];exact tA hq);simp only[List.eraseIdx_cons_succ,zLt,hne,ne_eq,not_false_eq_true,decide_true,if_true];rw[aMr ps a q hnd.2 hq]
def aMU{β γ:Type}(f:β->γ):∀(L:List β) (q:Nat),(L.map f).eraseIdx q=(L.eraseIdx q).map f
 | [],_=>rfl
 | _::_,0=>rfl
 | x::xs,q+1=>by simp only[iH,List.eraseIdx_cons_succ,aMU f xs q]
def aKF{β:Type}:∀(D L:List β),D.Nodup->(∀p∈D,p∈L)->D.length≤L.length
 | [],_,_,_=>aFl _
 | p::ps,L,hn,hs=>by
  obtain⟨a,b,rfl⟩:=List.append_of_mem (hs p (by simp));simp only[aKv] at hn;have:=aKF ps (a++b) hn.2 λq hq=>by
   have:=hs q (by simp[hq]);simp only[kB,gU] at this ⊢;rcases this with h|rfl|h
   ·exact .inl h
   ·exact absurd hq hn.1
   ·exact .inr h
  simp only[qE,jM] at this ⊢;omega
def aTO{a:α}{L:List (α×Value×Nat)}(e2:a∉L.map (·.1)):(L.filter λp=>decide (p.1≠a))=L:=by
 rw[aJf];intro x hx;simp only[decide_eq_true_eq];rintro e;exact e2 (by rw[←e];exact zL8 hx)
def aPQ(L:List (α×Value×Nat))(a:α):aMW (L.map λp=>(p.1,p.2.1)) a=(L.filter λp=>decide (p.1≠a)).map λp=>(p.1,p.2.1):=by
 unfold aMW;rw[List.filter_map];rfl
def aPr{r:Nat}{l:List (α×Value)}(K:aKN P kt enc)(hu:P.underlying t=some (.map kt et))(H:jR enc h r l)(a:α){ts:Array TypeId}(hts:ts[0]? =some t){k:cD}
  (hk:∀h',jR enc h' r (aMW l a)->cQ [r] h h'->k (.tuple #[]) h'):dC P (Builtin.delete_ ts t' #[.map (some r),enc a]) h k:=by
 obtain⟨es,c,L,h1,h2,rfl,hb1,hb2⟩:=H.here;have hnd:=H.nodup;rw[aDs] at hnd;unfold Builtin.delete_;simp only[hts,zLK,qB,sL];show dC P (underlying t >>= _) h _;rw[qC hu];dsimp only;refine aD6 h1 ?_;dsimp only;refine iD (K.chk h _ a) ?_;rw[h2];refine iD (aLW K a L) ?_;have hnd2:(uU (aMW (L.map λp=>(p.1,p.2.1)) a)).Nodup:=by
  rw[aPQ,aDs];exact List.Nodup.sublist (List.Sublist.map _ List.filter_sublist) hnd
 have hb3:((L.filter λp=>decide (p.1≠a)).map (·.2.2)).Nodup:=List.Nodup.sublist (List.Sublist.map _ List.filter_sublist) hb1;have hb4:∀p∈L.filter λp=>decide (p.1≠a),p.2.2<c:=λp hp=>hb2 p (zL2.1 hp).1;rcases aOC a L 0 with⟨q,w,e1,e2,e3⟩|⟨e1,e2⟩
 ·rw[e1,fQ];show(∃u,h r=some u∧(∀c e f,u≠ .cells c e f))∧_;refine⟨⟨_,h1,by intros;simp⟩,?_⟩;show k (.tuple #[]) _;refine hk _ ⟨hnd2,_,c,L.filter (λp=>decide (p.1≠a)),dL,?_,aPQ L a,hb3,hb4⟩ (cQ.set (by simp));rw[←aMr L a q hnd e2];have hq:q<es.size:=by
   rw[←Array.length_toList,h2];have:=(zLA.1 e2).1;simpa[aCz] using this
  rw[Array.eraseIdxIfInBounds,dif_pos hq,Array.toList_eraseIdx,h2];unfold aCz;exact aMU _ _ _
 ·rw[e1];show(∃u,h r=some u∧(∀c e f,u≠ .cells c e f))∧_;refine⟨⟨_,h1,by intros;simp⟩,?_⟩;show k (.tuple #[]) _;refine hk _ ⟨hnd2,_,c,L,dL,h2,?_,hb1,hb2⟩ (cQ.set (by simp));rw[aPQ,aTO e2]
structure aDI(enc:α->Value)(h:PH)(r it:Nat)(l D:List (α×Value)):Prop where
 nodup:(uU l).Nodup
 here:∃(es:Array MapEntry) (c:Nat) (L DL:List (α×Value×Nat)) (S:Array Nat),h r=some (.map es c)∧es.toList=aCz enc L∧l=L.map (λp=>(p.1,p.2.1))∧(L.map (·.2.2)).Nodup∧(∀p∈L,p.2.2<c)∧
  h it=some (.mapIter (some r) c S c)∧S.toList=DL.map (·.2.2)∧(∀p∈DL,p∈L)∧DL.Nodup∧D=DL.map (λp=>(p.1,p.2.1))
def aDI.upd{h h':PH}{r it:Nat}{l D:List (α×Value)}{G:List Nat}(H:aDI enc h r it l D)(u:cQ G h h')(hr:r∉G)(hi:it∉G):aDI enc h' r it l D:=by
 obtain⟨es,c,L,DL,S,h1,h2,h3,h4,h5,h6,h7⟩:=H.here;exact⟨H.nodup,es,c,L,DL,S,u.get h1 hr,h2,h3,h4,h5,u.get h6 hi,h7⟩
def aDI.known{r it:Nat}{l D:List (α×Value)}(H:aDI enc h r it l D):h it≠none:=by
 obtain⟨es,c,L,DL,S,h1,h2,h3,h4,h5,h6,_⟩:=H.here;rw[h6];simp
def aPB(n:Nat)(it:Nat)(h:PH):Nat:=match h it with
 | some (.mapIter _ _ S _)=>n-S.size
 | _=>0
def aDI.left{r it:Nat}{l D:List (α×Value)}(H:aDI enc h r it l D)(n:Nat):aPB n it h=n-D.length:=by
 obtain⟨es,c,L,DL,S,h1,h2,h3,h4,h5,h6,h7,_,_,h8⟩:=H.here;unfold aPB;rw[h6];have:S.size=D.length:=by rw[←Array.length_toList,h7,h8];simp
 simp only[this]
def aDI.le{r it:Nat}{l D:List (α×Value)}(H:aDI enc h r it l D):D.length≤l.length:=by
 obtain⟨es,c,L,DL,S,h1,h2,rfl,h4,h5,h6,h7,h9,h10,rfl⟩:=H.here;rw[iV,iV];exact aKF _ _ h10 h9
def aRJ{r:Nat}{l:List (α×Value)}(hu:P.underlying t=some (.map kt et))(H:jR enc h r l){k:cD}
  (hk:∀it h',h it=none->aDI enc h' r it l []->dD h h'->k (pT it 0) h'):dC P (Instr.range t (.map (some r))) h k:=by
 obtain⟨es,c,L,h1,h2,rfl,hb1,hb2⟩:=H.here;unfold Instr.range;show dC P (underlying t >>= _) h _;rw[qC hu];have key:∀(X:Sem Obj) (f:Obj->Sem Value),dC P X h (λo h'=>dC P (f o) h' k)->dC P (X >>= f) h k:=λX f hX=>dC.bind (P:=P) (s:=X) hX;refine key _ _ ?_;refine aD6 h1 ?_;intro it hit;exact hk it _ hit ⟨H.nodup,es,c,L,[],#[],aSe hit h1,h2,rfl,hb1,hb2,dL,rfl,by simp,by simp,rfl⟩ (cQ.new hit)
def aHB{β γ:Type}(f:β->γ):∀{L:List β},(L.map f).Nodup->L.Nodup
 | [],_=>List.nodup_nil
 | x::xs,hnd=>by
  simp only[iH,aKv] at hnd ⊢;exact⟨λhm=>hnd.1 (zL8 hm),aHB f hnd.2⟩
def aE3{β γ:Type}{f:β->γ}:∀{L:List β},(L.map f).Nodup->∀{p q:β},p∈L->q∈L->f p=f q->p=q
 | [],_,p,q,hp,_,_=>by cases hp
 | x::xs,hnd,p,q,hp,hq,e=>by
  simp only[iH,aKv] at hnd;rcases gU.1 hp with hp|hp
  ·rcases gU.1 hq with hq|hq
   ·rw[hp,hq]
   ·exact absurd (by rw[←hp,e];exact zL8 hq) hnd.1
  ·rcases gU.1 hq with hq|hq
   ·exact absurd (by rw[←hq,←e];exact zL8 hp) hnd.1
   ·exact aE3 hnd.2 hp hq e
def aP5{r:Nat}{o:Obj}{β:Type}{Q:β->PH->Prop}(hr:h r=some o)(hc:∀c e f,o≠ .cells c e f){f:Obj->Sem β}(hq:dC P (f o) h Q):dC P (getObj r >>= f) h Q:=by
 show ∃o,h r=some o∧(∀c e f,o≠ .cells c e f)∧dC P _ h Q;exact⟨o,hr,hc,hq⟩
def aSM{r it:Nat}{l D:List (α×Value)}(H:aDI enc h r it l D){k:cD}
  (hnil:D.Perm l->k (.tuple #[.bool false]) h)
  (hcons:∀a v h',(a,v)∈l->a∉uU D->aDI enc h' r it l (D++[(a,v)])->cQ [it] h h'->k (.tuple #[.bool true,enc a,v]) h'):dC P (Instr.next (pT it 0) false t) h k:=by
 obtain⟨es,c,L,DL,S,h1,h2,h3,hb1,hb2,hi,hS,hDL,hDn,hD⟩:=H.here;unfold Instr.next;refine aP5 hi (by intros;simp) ?_;dsimp only;refine aD6 h1 ?_;dsimp only;have hborn:∀e∈es.toList,e.born<c:=λe he=>by
  rw[h2] at he;obtain⟨p,hp,rfl⟩:=mJ.1 he;exact hb2 p hp
 have hgo:(!S.isEmpty && !es.isEmpty&&es.all (·.born ≥ c))=false:=by
  by_cases he:es.isEmpty=true
  ·simp[he]
  ·have:es.all (·.born ≥ c)=false:=by
    rw[Bool.eq_false_iff];intro hall;have hne:es.toList≠[]:=by intro e;apply he;simpa using e
    obtain⟨x,xs,hx⟩:=List.exists_cons_of_ne_nil hne;have h1:=hborn x (by rw[hx];simp);have h2:=Array.all_eq_true_iff_forall_mem.1 hall x (by rw[←Array.mem_toList_iff,hx];simp);simp only[ge_iff_le,decide_eq_true_eq] at h2;omega
   simp[this]
 rw[hgo];simp only[zLu,if_false];obtain⟨LL,hLL⟩:∃LL:List (α×Value×Nat),LL=L.filter λp=>decide (p.2.2∉DL.map (·.2.2)):=⟨_,rfl⟩;have hleft:(es.filter λe=>!S.contains e.born).toList=aCz enc LL:=by
  rw[Array.toList_filter,h2,hLL];unfold aCz;rw[List.filter_map];congr 1;apply List.filter_congr;intro p _;simp only[Function.comp];rw[←Array.contains_toList,hS];by_cases hm:p.2.2∈DL.map (·.2.2)
  ·simp[hm]
  ·simp[hm]
 have hmemLL:∀p,p∈LL↔p∈L∧p.2.2∉DL.map (·.2.2):=λp=>by rw[hLL,zL2];simp
 have hold:((es.filter λe=>!S.contains e.born).filter (·.born<c)).toList=aCz enc LL:=by
  rw[Array.toList_filter,hleft,aJf];intro e he;obtain⟨p,hp,rfl⟩:=mJ.1 he;simpa using hb2 p ((hmemLL p).1 hp).1
 have hnew:((es.filter λe=>!S.contains e.born).filter (·.born ≥ c))= #[]:=by
  rw[←Array.toList_inj,Array.toList_filter,hleft];show _=[];rw[List.filter_eq_nil_iff];intro e he;obtain⟨p,hp,rfl⟩:=mJ.1 he;have:=hb2 p ((hmemLL p).1 hp).1;simp only[ge_iff_le,decide_eq_true_eq];omega
 generalize ho:(es.filter λe=>!S.contains e.born).filter (·.born<c)=old at hold;rw[hnew];simp only[Array.append_empty];by_cases hemp:LL=[]
 ·have hold0:old= #[]:=by rw[←Array.toList_inj,hold,hemp];rfl
  subst hold0;simp only[List.isEmpty_toArray,List.isEmpty_nil,if_true,List.map_toArray,jA,Array.append_empty,List.size_toArray,qE,zLN,fQ];rw[aAe];intro tt;have:(if Question.forced (.mapNext 1) then 0 else Question.cut (.mapNext 1) tt)=0:=by simp[Question.forced]
  rw[this];show k (.tuple #[.bool false]) h;refine hnil ?_;rw[hD,h3];apply List.Perm.map;refine(List.perm_ext_iff_of_nodup hDn ?_).2 λp=>⟨hDL p,λhp=>?_⟩
  ·exact aHB _ hb1
  ·by_cases hm:p.2.2∈DL.map (·.2.2)
   ·obtain⟨q,hq,e⟩:=mJ.1 hm;rw[aE3 (f:=λp:α×Value×Nat=>p.2.2) hb1 hp (hDL q hq) e.symm];exact hq
   ·have:=(hmemLL p).2 ⟨hp,hm⟩;rw[hemp] at this;cases this
 ·have hne:old.isEmpty=false:=by
   rw[Bool.eq_false_iff];intro e;have:old.toList=[]:=by simpa using e
   rw[hold] at this;exact hemp (List.map_eq_nil_iff.1 this)
  rw[hne];simp only[zLu,if_false,Array.empty_append,Array.size_map];have hpos:0<old.size:=by
   rw[←Array.length_toList,hold];unfold aCz;rw[iV];exact aIA.2 hemp
  rw[aAe];intro tt;obtain⟨j,hj,hjlt⟩:∃j,(if Question.forced (.mapNext old.size) then 0 else Question.cut (.mapNext old.size) tt)=j∧j<old.size:=by
   refine⟨_,rfl,?_⟩;split
   ·exact hpos
   ·exact zLB _ hpos
  rw[hj];have hjl:j<LL.length:=by
   have:old.size=LL.length:=by rw[←Array.length_toList,hold];simp[aCz]
   omega
  have hget:(old.map some)[j]? =some (some ⟨enc LL[j].1,LL[j].2.1,LL[j].2.2⟩):=by
   rw[Array.getElem?_map,←aLs,hold];simp[aCz,hjl]
  rw[hget];dsimp only;have hp:=(hmemLL LL[j]).1 (aMf hjl);generalize LL[j]=p at hp;obtain⟨hpL,hpD⟩:=hp;show(∃u,h it=some u∧(∀c e f,u≠ .cells c e f))∧_;refine⟨⟨_,hi,by intros;simp⟩,?_⟩;have hri:r≠it:=λe=>by rw[e,hi] at h1;cases h1
  refine hcons p.1 p.2.1 _ ?_ ?_ ⟨H.nodup,es,c,L,DL++[p],S.push p.2.2,(by rw[qY hri];exact h1),h2,h3,hb1,hb2,dL,?_,?_,?_,?_⟩ (cQ.set (by simp))
  ·rw[h3];exact zL8 hpL
  ·intro hm;rw[hD,aDs] at hm;obtain⟨q,hq,e⟩:=mJ.1 hm;have hnd:=H.nodup;rw[h3,aDs] at hnd;have hqL:=hDL q hq;have:q=p:=aE3 (f:=λp:α×Value×Nat=>p.1) hnd hqL hpL e;exact hpD (by rw[←this];exact zL8 hq)
  ·rw[Array.toList_push,hS];simp
  ·intro q hq;rcases kB.1 hq with hq|hq
   ·exact hDL q hq
   ·simp only[gB] at hq;subst hq;exact hpL
  ·rw[List.nodup_append];refine⟨hDn,by simp,?_⟩;intro x hx y hy;simp only[gB] at hy;subst hy;rintro rfl;exact hpD (zL8 hx)
  ·rw[hD];simp
def aRa{r it:Nat}{l D:List (α×Value)}{a:α}{v:Value}(H:aDI enc h r it l (D++[(a,v)])){k:cD}(hk:k (.tuple #[enc a,v]) h):dC P (Instr.entry (pT it 0)) h k:=by
 obtain⟨es,c,L,DL,S,h1,h2,h3,hb1,hb2,hi,hS,hDL,hDn,hD⟩:=H.here;obtain⟨DL',p,rfl,hp1⟩:∃DL' p,DL=DL'++[p]∧(a,v)=(p.1,p.2.1):=by
  rcases List.eq_nil_or_concat DL with rfl|⟨DL',p,rfl⟩
  ·simp at hD
  ·refine⟨DL',p,by simp,?_⟩;simp only[List.concat_eq_append,pO,iH,jA] at hD;have:=List.append_inj_right' hD rfl;simpa using this
 simp only[Prod.mk.injEq] at hp1;obtain⟨rfl,rfl⟩:=hp1;have hpL:=hDL p (by simp);unfold Instr.entry;refine aP5 hi (by intros;simp) ?_;dsimp only;have hback:S.back? =some p.2.2:=by
  rw[←Array.getLast?_toList,hS];simp
 rw[hback];dsimp only;refine aD6 h1 ?_;dsimp only;simp only[bne_self_eq_false,zLu,if_false];have hfind:es.find? (·.born==p.2.2)=some ⟨enc p.1,p.2.1,p.2.2⟩:=by
  rw[←Array.find?_toList,h2];unfold aCz;rw[List.find?_map];have:L.find? ((λe:MapEntry=>e.born==p.2.2) ∘ λp=>⟨enc p.1,p.2.1,p.2.2⟩)=some p:=by
   cases hf:L.find? ((λe:MapEntry=>e.born==p.2.2) ∘ λp=>⟨enc p.1,p.2.1,p.2.2⟩) with
   | none=>
    rw[List.find?_eq_none] at hf;have:=hf p hpL;simp at this
   | some q=>
    have hq:=List.mem_of_find?_eq_some hf;have he:=List.find?_some hf;simp only[Function.comp,beq_iff_eq] at he;rw[aE3 (f:=λp:α×Value×Nat=>p.2.2) hb1 hq hpL he]
  rw[this];rfl
 rw[hfind];exact hk
def aUu{r:Nat}{l:List (α×Value)}(H:jR enc h r l){k:cD}
  (hk:∀r' h',h r'=none->jR enc h' r' l->dD h h'->k (.iface t (.map (some r'))) h'):dC P (Extern.MapsClone.clone #[.iface t (.map (some r))]) h k:=by
 obtain⟨es,c,L,h1,h2,h3,hb1,hb2⟩:=H.here;unfold Extern.MapsClone.clone;refine aD6 h1 ?_;intro r' hr';exact hk r' _ hr' ⟨H.nodup,es,c,L,dL,h2,h3,hb1,hb2⟩ (cQ.new hr')
end
structure Pk where
 f:Int
 s:Int
 t:Int
 d:ByteArray
 deriving DecidableEq
instance:Inhabited Pk:=⟨⟨0,0,0,⟨#[]⟩⟩⟩
def Pk.cells(p:Pk):List Value:=[.int .i64 p.f,.int .u64 p.s,.int .u64 p.t,.string p.d]
def Pk.allCell(p:Pk):∀v∈p.cells.toArray.toList,fW v=true:=by simp[Pk.cells,fW]
def Bx.pk{h:PH}{r:Nat}{cs:List Value}(H:Bx h r cs){o:Nat}{p:Pk}(ho:(cs.drop o).take 4=p.cells):cG PG h (loadAt aR (pT r o))=some (.agg p.cells.toArray):=by
 obtain⟨e,h1⟩:=H;have hl:o+4≤cs.length:=by
  have:((cs.drop o).take 4).length=4:=by rw[ho];rfl
  rw[nI,pK] at this;omega
 rw[aR.loadAgg h1 (by simpa using hl)];congr 2;rw[←ho];simp[zLy]
def Pk.right(p:Pk):Bool:=decide (0≤p.f)&&decide (p.f≤1)&&decide (p.s≠0)&&decide (p.t≠0)&&decide (p.d.size≤64)
def aLq{h:PH}(p:Pk){k:cD}(hk:∀h',dD h h'->k (.int .i64 (if p.right then 0 else 1)) h'):aT PG yZ #[.agg p.cells.toArray] h k:=by
 apply aHN.call;unfold aHN;intro r hr;rw[cW];have u:dD h (h.set r (.cells (Value.cells (.agg p.cells.toArray)) aR)):=cQ.new hr;have b:Bx (h.set r (.cells (Value.cells (.agg p.cells.toArray)) aR)) r p.cells:=Bx.new;generalize h.set r (.cells (Value.cells (.agg p.cells.toArray)) aR)=h1 at *;have c0:dB h1 ⟨r,0,none⟩=some (.int .i64 p.f):=b.cell 0;have c1:dB h1 ⟨r,0+1,none⟩=some (.int .u64 p.s):=b.cell 1;have c2:dB h1 ⟨r,0+2,none⟩=some (.int .u64 p.t):=b.cell 2;have c3:dB h1 ⟨r,0+3,none⟩=some (.string p.d):=b.cell 3;have hk:=hk h1 u;unfold Pk.right at hk;simp only[aR.f0,aR.f1,aR.f2,aR.f3,bR.load,cA.load,bT.load,c0,cE,reduceIte];by_cases d1:p.f<0
 ·have e1:(0≤p.f)=False:=by apply eq_false;omega
  simp only[aR.f0,aR.f1,aR.f2,aR.f3,bR.load,cA.load,bT.load,c0,d1,e1,sJ,decide_false,cE,reduceIte] at hk ⊢;exact hk
 ·have e1:(0≤p.f)=True:=by apply eq_true;omega
  by_cases d2:1<p.f
  ·have e2:(p.f≤1)=False:=by apply eq_false;omega
   simp only[aR.f0,aR.f1,aR.f2,aR.f3,bR.load,cA.load,bT.load,c0,d1,e1,d2,e2,sJ,aDL,decide_false,cE,reduceIte] at hk ⊢;exact hk
  ·have e2:(p.f≤1)=True:=by apply eq_true;omega
   by_cases d3:p.s=0
   ·have e3:(p.s==0)=true:=by simp[d3]
    have e3':(p.s≠0)=False:=by simp[d3]
    simp only[aR.f0,aR.f1,aR.f2,aR.f3,bR.load,cA.load,bT.load,c0,d1,e1,d2,e2,c1,e3,e3',sJ,aDL,decide_false,cE,reduceIte] at hk ⊢;exact hk
   ·have e3:(p.s==0)=false:=by simp[d3]
    have e3':(p.s≠0)=True:=by simp[d3]
    by_cases d4:p.t=0
    ·have e4:(p.t==0)=true:=by simp[d4]
     have e4':(p.t≠0)=False:=by simp[d4]
     simp only[aR.f0,aR.f1,aR.f2,aR.f3,bR.load,cA.load,bT.load,c0,d1,e1,d2,e2,c1,e3,e3',c2,e4,e4',sJ,aDL,decide_false,cE,reduceIte] at hk ⊢;exact hk
    ·have e4:(p.t==0)=false:=by simp[d4]
     have e4':(p.t≠0)=True:=by simp[d4]
     by_cases d5:p.d.size≤64
     ·have e5:((64:Int)<(p.d.size:Int))=False:=by apply eq_false;omega
      simp only[aR.f0,aR.f1,aR.f2,aR.f3,bR.load,cA.load,bT.load,c0,d1,e1,d2,e2,c1,e3,e3',c2,e4,e4',c3,lS bT.und,e5,d5,Bool.and_self,zLp,cE,reduceIte] at hk ⊢;exact hk
     ·have e5:((64:Int)<(p.d.size:Int))=True:=by apply eq_true;omega
      simp only[aR.f0,aR.f1,aR.f2,aR.f3,bR.load,cA.load,bT.load,c0,d1,e1,d2,e2,c1,e3,e3',c2,e4,e4',c3,lS bT.und,e5,d5,aDL,decide_false,cE,reduceIte] at hk ⊢;exact hk
structure Nt where
 k:Int
 p:Pk
 deriving DecidableEq
def Nt.cells(n:Nt):List Value:=[.int .i64 n.k,.int .i64 n.p.f,.int .u64 n.p.s,.int .u64 n.p.t,.string n.p.d]
def Nt.rows(l:List Nt):Rows 5 (l.map Nt.cells):=λr hr=>by obtain⟨m,_,rfl⟩:=mJ.1 hr;rfl
def Bx.nt{h:PH}{r:Nat}{n:Nt}(H:Bx h r n.cells):cG PG h (loadAt dA (pT r 0))=some (.agg n.cells.toArray):=by
 obtain⟨e,h1⟩:=H;rw[dA.loadAgg h1 (by show 0+5≤5;decide)];rfl
def Nt.right(n:Nt):Bool:=decide (1≤n.k)&&decide (n.k≤4)&&n.p.right
def aT8{h:PH}(n:Nt){k:cD}(hk:∀h',dD h h'->k (.int .i64 (if n.right then 0 else 1)) h'):aT PG aIx #[.agg n.cells.toArray] h k:=by
 apply aJN.call;unfold aJN;intro r hr;rw[cW];have u:dD h (h.set r (.cells (Value.cells (.agg n.cells.toArray)) dA)):=cQ.new hr;have b:Bx (h.set r (.cells (Value.cells (.agg n.cells.toArray)) dA)) r n.cells:=Bx.new;generalize h.set r (.cells (Value.cells (.agg n.cells.toArray)) dA)=h1 at *;have c0:dB h1 ⟨r,0,none⟩=some (.int .i64 n.k):=b.cell 0;have p1:=b.pk (o:=0+1) (p:=n.p) rfl;unfold Nt.right at hk;simp only[dA.f0,dA.f1,bR.load,c0,cE,reduceIte];by_cases d1:n.k<1
 ·have e1:(1≤n.k)=False:=by apply eq_false;omega
  simp only[dA.f0,dA.f1,bR.load,c0,d1,e1,sJ,decide_false,cE,reduceIte] at hk ⊢;exact hk _ u
 ·have e1:(1≤n.k)=True:=by apply eq_true;omega
  by_cases d2:4<n.k
  ·have e2:(n.k≤4)=False:=by apply eq_false;omega
   simp only[dA.f0,dA.f1,bR.load,c0,d1,e1,d2,e2,sJ,aDL,decide_false,cE,reduceIte] at hk ⊢;exact hk _ u
  ·have e2:(n.k≤4)=True:=by apply eq_true;omega
   simp only[dA.f0,dA.f1,bR.load,c0,d1,e1,d2,e2,p1,zLp,cE,reduceIte] at hk ⊢;refine aLq n.p λh2 u2=>hk _ (u.trans u2)
def aUa(x:Int):dH PG (convert cA dU (.int .u64 x))=some (.int .u8 (IntKind.u8.wrap x)):=by kernel_rfl
def aMX(x:Int):jV PG (buildSlice dI 1 #[(0,.int .u8 x)])=some (.cells #[.int .u8 x] dU,λr=>pure (.slice (some ⟨r,0,none⟩) 1 1)):=by kernel_rfl
def tH{h:PH}{n c:Nat}(hn:n<18446744073709551616)(hc:c≤1000){k:cD}(hk:∀h',dD h h'->k (.string (tx (be n c))) h'):aT PG jH #[.int .u64 n,.int .i64 c] h k:=by
 apply aB3.call;unfold aB3;refine⟨λvs h'=>∃i:Nat,i≤c∧vs=[.int .u64 ((n/256^i:Nat):Int),.int .i64 c,.string (tx ((be n c).drop (c-i))),.int .i64 i]∧dD h h',gQ c 3,⟨0,by omega,by rw[aLf (by rw[jF];omega)];simp[aZB],cQ.refl⟩,?_⟩;rintro ρ h' ⟨i,hi,hvs,w⟩;simp only[iH,jA,lN,and_true] at hvs;obtain⟨s0,s1,s2,s3⟩:=hvs;rw[s0,s1,s2,s3];unfold aGp;by_cases hlt:i<c
 ·have hd:((i:Int)<(c:Int))=True:=by apply eq_true;omega
  have hle:n/256^i≤n:=Nat.div_le_self _ _;have e1:Int.tmod ((n/256^i:Nat):Int) 256=((n/256^i%256:Nat):Int):=(Int.ofNat_tmod _ 256).symm;have e2:IntKind.u8.wrap ((n/256^i%256:Nat):Int)=((UInt8.ofNat (n/256^i%256)).toNat:Int):=by rw[aJV];simp
  have e3:IntKind.u64.wrap (Int.tdiv ((n/256^i:Nat):Int) 256)=((n/256^(i+1):Nat):Int):=by
   have:Int.tdiv ((n/256^i:Nat):Int) 256=((n/256^i/256:Nat):Int):=rfl;have hd2:n/256^i/256=n/256^(i+1):=by rw[Nat.div_div_eq_div_mul,zLR]
   rw[this,hd2];exact gO (Int.natCast_nonneg _) (by have:=Nat.div_le_self n (256^(i+1));omega)
  have ei:=qN (i:=i) (by omega);simp only[hd,aHO (show(256:Int)≠0 by decide),aNB (show(256:Int)≠0 by decide),e1,aUa,e2,aMX,cE,reduceIte];intro r hr;refine fP ?_;have u1:dD h' (h'.set r (.cells #[.int .u8 (UInt8.ofNat (n/256^i%256)).toNat] dU)):=cQ.new hr;have s1:fZ (h'.set r (.cells #[.int .u8 (UInt8.ofNat (n/256^i%256)).toNat] dU)) 1 (.slice (some ⟨r,0,none⟩) 1 1) ([UInt8.ofNat (n/256^i%256)].map jQ):=(eM.lit (jQ.rows [_]) dL (by simp) (by decide) (by simp[jQ])).slR;generalize h'.set r (.cells #[.int .u8 (UInt8.ofNat (n/256^i%256)).toNat] dU)=h1 at *;have hcv:=aFH dI.und dU.und bT.und s1;have hcv':cG PG h1 (convert dI bT (.slice (some ⟨r,0,none⟩) 1 1))=some (.string (tx [UInt8.ofNat (n/256^i%256)])):=hcv;have hadd:dH PG (binOp .add bT (.string (tx [UInt8.ofNat (n/256^i%256)])) (.string (tx ((be n c).drop (c-i)))))=some (.string (tx ((be n c).drop (c-(i+1))))):=by
   rw[mG (by rw[pK,jF];simp;omega)];congr 3;have hg:=aO4 n c (c-(i+1)) (by omega);have:c-1-(c-(i+1))=i:=by omega
   rw[this] at hg;obtain⟨hlt',hg'⟩:=zLA.1 hg;rw[aHG hlt',hg'];have:c-(i+1)+1=c-i:=by omega
   rw[this];rfl
  simp only[hcv',hadd,e3,ei,cE,reduceIte];exact⟨⟨i+1,by omega,rfl,w.trans u1⟩,by simp[gQ,s3];omega⟩
 ·have hd:((i:Int)<(c:Int))=False:=by apply eq_false;omega
  have hic:i=c:=by omega
  subst hic;rw[aKu,zLb];simp only[hd,cE,reduceIte];exact hk _ w
abbrev W:=BitVec 32
def wv(x:W):Value:=.int .u32 (x.toNat:Int)
def tn(x:W)(n:Nat):W:=(x <<< (32-n)) ||| (x>>>n)
def w4(a b c d:UInt8):W:=((((BitVec.ofNat 32 a.toNat) <<< 24) ||| ((BitVec.ofNat 32 b.toNat) <<< 16)) ||| ((BitVec.ofNat 32 c.toNat) <<< 8)) ||| (BitVec.ofNat 32 d.toNat)
def wat(b:List UInt8)(t:Nat):W:=w4 (b.getD (4*t) 0) (b.getD (4*t+1) 0) (b.getD (4*t+2) 0) (b.getD (4*t+3) 0)
def aNM(l:List W)(t:Nat):W:=
 let x:=l.getD (t-15) 0;let y:=l.getD (t-2) 0
 ((l.getD (t-16) 0+((tn x 7 ^^^ tn x 18) ^^^ (x>>>3)))+l.getD (t-7) 0)+((tn y 17 ^^^ tn y 19) ^^^ (y>>>10))
def yP(b:List UInt8)(n:Nat):List W:=(List.range n).map (wat b)
def nH(b:List UInt8):Nat->List W
 | 0=>yP b 16
 | n+1=>nH b n++[aNM (nH b n) (n+16)]
def aFr(b:List UInt8):List W:=nH b 48
def aHT(b:List UInt8)(n:Nat):(yP b n).length=n:=by simp[yP]
def aNj(b:List UInt8)(n:Nat):yP b (n+1)=yP b n++[wat b n]:=by simp[yP,List.range_succ]
def aKB(b:List UInt8):∀n,(nH b n).length=n+16
 | 0=>by simp[nH,aHT]
 | n+1=>by simp only[nH,jM,aKB b n,zLT]
def aLe(b:List UInt8):(aFr b).length=64:=aKB b 48
structure S8 where
 (a b c d e f g h:W)
def S8.l(s:S8):List W:=[s.a,s.b,s.c,s.d,s.e,s.f,s.g,s.h]
def S8.add(s t:S8):S8:=⟨s.a+t.a,s.b+t.b,s.c+t.c,s.d+t.d,s.e+t.e,s.f+t.f,s.g+t.g,s.h+t.h⟩
def rnd(s:S8)(k w:W):S8:=
 let t1:=(((s.h+((tn s.e 6 ^^^ tn s.e 11) ^^^ tn s.e 25))+((s.e &&& s.f) ^^^ (~~~s.e &&& s.g)))+k)+w;let t2:=((tn s.a 2 ^^^ tn s.a 13) ^^^ tn s.a 22)+(((s.a &&& s.b) ^^^ (s.a &&& s.c)) ^^^ (s.b &&& s.c))
 ⟨t1+t2,s.a,s.b,s.c,s.d+t1,s.e,s.f,s.g⟩
def kT:List W:=[
 0x428a2f98,0x71374491,0xb5c0fbcf,0xe9b5dba5,0x3956c25b,0x59f111f1,0x923f82a4,0xab1c5ed5,
 0xd807aa98,0x12835b01,0x243185be,0x550c7dc3,0x72be5d74,0x80deb1fe,0x9bdc06a7,0xc19bf174,
 0xe49b69c1,0xefbe4786,0x0fc19dc6,0x240ca1cc,0x2de92c6f,0x4a7484aa,0x5cb0a9dc,0x76f988da,
 0x983e5152,0xa831c66d,0xb00327c8,0xbf597fc7,0xc6e00bf3,0xd5a79147,0x06ca6351,0x14292967,
 0x27b70a85,0x2e1b2138,0x4d2c6dfc,0x53380d13,0x650a7354,0x766a0abb,0x81c2c92e,0x92722c85,
 0xa2bfe8a1,0xa81a664b,0xc24b8b70,0xc76c51a3,0xd192e819,0xd6990624,0xf40e3585,0x106aa070,
 0x19a4c116,0x1e376c08,0x2748774c,0x34b0bcb5,0x391c0cb3,0x4ed8aa4a,0x5b9cca4f,0x682e6ff3,
 0x748f82ee,0x78a5636f,0x84c87814,0x8cc70208,0x90befffa,0xa4506ceb,0xbef9a3f7,0xc67178f2]
def aK6:kT.length=64:=rfl
def aIP(ws:List W)(s:S8):Nat->S8
 | 0=>s
 | n+1=>rnd (aIP ws s n) (kT.getD n 0) (ws.getD n 0)
def aKt(s:S8)(b:List UInt8):S8:=s.add (aIP (aFr b) s 64)
def S0:S8:=⟨1779033703,3144134277,1013904242,2773480762,1359893119,2600822924,528734635,1541459225⟩
def qW(s:S8)(l:List UInt8):S8×List UInt8:=if h:64≤l.length then qW (aKt s (l.take 64)) (l.drop 64) else(s,l)
termination_by l.length
decreasing_by simp;omega
def aIc{s:S8}{l:List UInt8}(h:l.length<64):qW s l=(s,l):=by rw[qW,dif_neg (by omega)]
def aIX{s:S8}{l:List UInt8}(h:64≤l.length):qW s l=qW (aKt s (l.take 64)) (l.drop 64):=by rw[qW,dif_pos h]
def aLx(s:S8)(a b:List UInt8):qW s (a++b)=qW (qW s a).1 ((qW s a).2++b):=by
 by_cases h:64≤a.length
 ·have e1:(a++b).take 64=a.take 64:=by rw[zLH h]
  have e2:(a++b).drop 64=a.drop 64++b:=by rw[List.drop_append_of_le_length h]
  rw[aIX (l:=a++b) (by simp;omega),aIX h,e1,e2];exact aLx (aKt s (a.take 64)) (a.drop 64) b
 ·rw[aIc (l:=a) (by omega)]
termination_by a.length
decreasing_by simp;omega
def aKi(s:S8)(a:List UInt8):(qW s a).2.length<64:=by
 by_cases h:64≤a.length
 ·rw[aIX h];exact aKi _ _
 ·rw[aIc (by omega)];show a.length<64;omega
termination_by a.length
decreasing_by simp;omega
def wb(x:W):List UInt8:=[UInt8.ofNat ((x>>>24).toNat),UInt8.ofNat ((x>>>16).toNat),UInt8.ofNat ((x>>>8).toNat),UInt8.ofNat x.toNat]
def aJT(s:S8):List UInt8:=s.l.flatMap wb
def aJ6(n:Nat):List UInt8:=128::(List.replicate ((119-n%64)%64) 0++be (n*8%18446744073709551616) 8)
def sY(l:List UInt8):List UInt8:=aJT (qW S0 (l++aJ6 l.length)).1
section
variable{P:Program}{t:TypeId}{x y:W}{h:PH}
def aGb(x:Int):IntKind.u32.wrap x=x%4294967296:=by
 rfl
def aE0(x:W):BitVec.ofInt 32 (x.toNat:Int)=x:=by
 apply BitVec.eq_of_toInt_eq;rw[BitVec.toInt_ofInt,BitVec.toInt_eq_toNat_bmod]
def aGN:dH P (binOp .add t (wv x) (wv y))=some (wv (x+y)):=by
 unfold wv;rw[aRR,aGb,BitVec.toNat_add,←Int.natCast_add];rfl
def aOl(x:W):IntKind.u32.wrap (x.toNat:Int)=x.toNat:=by
 rw[aGb];have:=x.isLt;omega
def aQg:dH P (binOp .and t (wv x) (wv y))=some (wv (x &&& y)):=by
 have e:dH P (binOp .and t (wv x) (wv y))=some (.int .u32 (IntKind.u32.wrap ((BitVec.ofInt 32 (x.toNat:Int) &&& BitVec.ofInt 32 (y.toNat:Int)).toNat:Int))):=rfl;rw[e,aE0,aE0,aOl];rfl
def aWG:dH P (binOp .or t (wv x) (wv y))=some (wv (x ||| y)):=by
 have e:dH P (binOp .or t (wv x) (wv y))=some (.int .u32 (IntKind.u32.wrap ((BitVec.ofInt 32 (x.toNat:Int) ||| BitVec.ofInt 32 (y.toNat:Int)).toNat:Int))):=rfl;rw[e,aE0,aE0,aOl];rfl
def aEn:dH P (binOp .xor t (wv x) (wv y))=some (wv (x ^^^ y)):=by
 have e:dH P (binOp .xor t (wv x) (wv y))=some (.int .u32 (IntKind.u32.wrap ((BitVec.ofInt 32 (x.toNat:Int) ^^^ BitVec.ofInt 32 (y.toNat:Int)).toNat:Int))):=rfl;rw[e,aE0,aE0,aOl];rfl
def aW1:dH P (Op.unary .xor (wv x))=some (wv (~~~x)):=by
 have e:dH P (Op.unary .xor (wv x))=some (.int .u32 (IntKind.u32.wrap ((BitVec.ofInt 32 4294967295 ^^^ BitVec.ofInt 32 (x.toNat:Int)).toNat:Int))):=rfl;rw[e,aE0,aOl];have:BitVec.ofInt 32 4294967295 ^^^ x= ~~~x:=by
  have:BitVec.ofInt 32 4294967295=BitVec.allOnes 32:=by decide
  rw[this,BitVec.allOnes_xor]
 rw[this];rfl
def aKg{k:IntKind}{n:Nat}(hn:n≤32):dH P (binOp .shr t (wv x) (.int k n))=some (wv (x>>>n)):=by
 unfold wv;rw[aJn (by omega)];congr 2;rw[BitVec.toNat_ushiftRight,Nat.shiftRight_eq_div_pow];have e:min ((n:Int).toNat) (IntKind.u32.bits)=n:=by
  show min n 32=n;omega
 rw[e,Int.fdiv_eq_ediv_of_nonneg _ (Int.pow_nonneg (by decide)),Int.natCast_ediv,Int.natCast_pow];rfl
def aO3{k:IntKind}{n:Nat}(hn:n≤32):dH P (binOp .shl t (wv x) (.int k n))=some (wv (x <<< n)):=by
 unfold wv;rw[aRW (by omega)];congr 2;have e:min ((n:Int).toNat) (IntKind.u32.bits)=n:=by
  show min n 32=n;omega
 rw[e,aGb,BitVec.toNat_shiftLeft,Nat.shiftLeft_eq,Int.natCast_emod,Int.natCast_mul,Int.natCast_pow];rfl
end
def aKw(x:Int):dH PG (convert bR oA (.int .i64 x))=some (.int .u64 (IntKind.u64.wrap x)):=by kernel_rfl
def aSq(x:Int):dH PG (convert dU cL (.int .u8 x))=some (.int .u32 (IntKind.u32.wrap x)):=by kernel_rfl
def aYL(x:Int):dH PG (convert cL dU (.int .u32 x))=some (.int .u8 (IntKind.u8.wrap x)):=by kernel_rfl
def bAV:∀n:Fin 32,((BitVec.ofInt 64 (18446744073709551616-(n.val:Int)) &&& BitVec.ofInt 64 31).toNat:Int)=(32-(n.val:Int))%32:=by decide
def aZF(n:Nat)(h1:1≤n)(h2:n≤31):dH PG (binOp .and oA (.int .u64 (18446744073709551616-(n:Int))) (.int .u64 31))=some (.int .u64 ((32-n:Nat):Int)):=by
 have e:dH PG (binOp .and oA (.int .u64 (18446744073709551616-(n:Int))) (.int .u64 31))=some (.int .u64 (IntKind.u64.wrap ((BitVec.ofInt 64 (18446744073709551616-(n:Int)) &&& BitVec.ofInt 64 31).toNat:Int))):=rfl;have:=bAV ⟨n,by omega⟩;simp only at this;rw[e,this,gO (by omega) (by omega)];congr 2;omega
def aD8{h:PH}{x:W}{n:Nat}(h1:1≤n)(h2:n≤31){k:cD}(hk:k (wv (tn x n)) h):aT PG qZ #[wv x,.int .i64 n] h k:=by
 apply aLu.call;unfold aLu;have e1:dH PG (Op.unary .neg (.int .i64 (n:Int)))=some (.int .i64 (-(n:Int))):=by
  have:dH PG (Op.unary .neg (.int .i64 (n:Int)))=some (.int .i64 (IntKind.i64.wrap (0-(n:Int)))):=rfl;rw[this,fH (by omega) (by omega)];simp
 simp only[e1,cE,reduceIte];apply xU.call;unfold xU;have e2:IntKind.u64.wrap (-(n:Int))=18446744073709551616-(n:Int):=by
  unfold IntKind.wrap;simp[IntKind.signed,IntKind.bits];omega
 have e3:IntKind.u64.wrap (32-((32-n:Nat):Int))=((n:Nat):Int):=by rw[gO (by omega) (by omega)];omega
 simp only[aKw,e2,aZF n h1 h2,aOt,e3,aO3 (show 32-n≤32 by omega),aKg (show n≤32 by omega),aWG,cE,reduceIte];exact hk
def aSd{l r:List Value}{x v:Value}{n:Nat}(hn:n=l.length):(l++x::r).toArray.setIfInBounds n v=(l++v::r).toArray:=by
 subst hn;apply zLw;simp
def zs(n:Nat):List Value:=List.replicate n (wv 0)
def aSo(n:Nat):zs (n+1)=wv 0::zs n:=rfl
def aMi{b:Nat}{j:Int}(h0:0≤j)(h1:j<64):dH PG (indexAt fI (pT b 0) (.int .i64 j))=some (pT b j.toNat):=by
 rw[aBR fI.und cL.info cL.size h0 (by exact_mod_cast h1)];simp
def at8{b:Nat}{j:Int}(h0:0≤j)(h1:j<8):dH PG (indexAt eZ (pT b 0) (.int .i64 j))=some (pT b j.toNat):=by
 rw[aBR eZ.und cL.info cL.size h0 (by exact_mod_cast h1)];simp
def isw(x:W):fW (wv x)=true:=rfl
def aNC{h:PH}{b o:Nat}{l:List W}{r:List Value}{t:TypeId}{fr:Nat×Nat}(hb:h b=some (.cells (l.map wv++r).toArray t fr))(ho:o<l.length):dB h ⟨b,o,none⟩=some (wv (l.getD o 0)):=by
 unfold dB;simp only[hb];rw[zLK,List.getElem?_append_left (by simpa using ho),wA,lJ ho];simp[aBM,lJ ho]
def w8(x:UInt8):Value.int .u32 (IntKind.u32.wrap (x.toNat:Int))=wv (BitVec.ofNat 32 x.toNat):=by
 have hx:=x.toNat_lt;unfold wv;rw[aGb,BitVec.toNat_ofNat];congr 1
def bA5{t:TypeId}{x:W}{k:IntKind}:dH PG (binOp .shl t (wv x) (.int k 24))=some (wv (x <<< 24)):=aO3 (n:=24) (by decide)
def bA1{t:TypeId}{x:W}{k:IntKind}:dH PG (binOp .shl t (wv x) (.int k 16))=some (wv (x <<< 16)):=aO3 (n:=16) (by decide)
def sh8{t:TypeId}{x:W}{k:IntKind}:dH PG (binOp .shl t (wv x) (.int k 8))=some (wv (x <<< 8)):=aO3 (n:=8) (by decide)
def sr3{t:TypeId}{x:W}{k:IntKind}:dH PG (binOp .shr t (wv x) (.int k 3))=some (wv (x>>>3)):=aKg (n:=3) (by decide)
def aYz{t:TypeId}{x:W}{k:IntKind}:dH PG (binOp .shr t (wv x) (.int k 10))=some (wv (x>>>10)):=aKg (n:=10) (by decide)
def z64:dV PG fI=(zs 64).toArray:=by rw[fI.zc];rfl
def z8:dV PG eZ=(zs 8).toArray:=by rw[eZ.zc];rfl
def aVw{b:List UInt8}(hb:b.length=64){i r1 r3:Nat}(hi:i<16){h:PH}{R:cD}{n5:gJ}
  (h3:h r3=some (.cells ((yP b i).map wv++zs (64-i)).toArray fI (0,0)))
  (hn:n5 [.string (tx b),pT r1 0,pT r3 0,.int .i64 ((i+1:Nat):Int)] (h.set r3 (.cells ((yP b (i+1)).map wv++zs (64-(i+1))).toArray fI (0,0)))):
  aHX R n5 (.string (tx b)) (pT r1 0) (pT r3 0) (.int .i64 (i:Int)) h:=by
 unfold aHX;have e1:((i:Int)<16)=True:=eq_true (by omega);have e2:IntKind.i64.wrap (4*(i:Int))=((4*i:Nat):Int):=by rw[fH (by omega) (by omega)];omega
 have e3:IntKind.i64.wrap (((4*i:Nat):Int)+4)=((4*i+4:Nat):Int):=by rw[fH (by omega) (by omega)];omega
 have e4:=qN (i:=i) (by omega);have ec:dH PG (Instr.sliceAt bT (.string (tx b)) (some (.int .i64 ((4*i:Nat):Int))) (some (.int .i64 ((4*i+4:Nat):Int))) none)=some (.string (tx ((b.take (4*i+4)).drop (4*i)))):=
  aId bT.und (.inr ⟨_,rfl⟩) (.inr ⟨_,rfl⟩) (by omega) (by omega)
 have ix:∀j,j<4->((b.take (4*i+4)).drop (4*i))[j]? =some (b.getD (4*i+j) 0):=λj hj=>by
  rw[aOF,aJ9,if_pos (by omega),aBM,lJ (by omega)];rfl
 have i0:dH PG (Instr.index bT (.string (tx ((b.take (4*i+4)).drop (4*i)))) (.int .i64 0))=_:=aAu (j:=0) bT.und (ix 0 (by omega));have i1:dH PG (Instr.index bT (.string (tx ((b.take (4*i+4)).drop (4*i)))) (.int .i64 1))=_:=aAu (j:=1) bT.und (ix 1 (by omega));have i2:dH PG (Instr.index bT (.string (tx ((b.take (4*i+4)).drop (4*i)))) (.int .i64 2))=_:=aAu (j:=2) bT.und (ix 2 (by omega));have i3:dH PG (Instr.index bT (.string (tx ((b.take (4*i+4)).drop (4*i)))) (.int .i64 3))=_:=aAu (j:=3) bT.und (ix 3 (by omega));have ea:=aMi (b:=r3) (j:=(i:Int)) (by omega) (by omega);rw[rA] at ea;simp only[e1,e2,e3,e4,ec,i0,i1,i2,i3,aSq,w8,bA5,bA1,sh8,aWG,ea,cE,reduceIte];refine iT cL.und rfl h3 (by simp[aHT,zs];omega) (isw _) cL.info cL.size ?_;have es:((yP b i).map wv++zs (64-i)).toArray.setIfInBounds i (wv (w4 (b.getD (4*i+0) 0) (b.getD (4*i+1) 0) (b.getD (4*i+2) 0) (b.getD (4*i+3) 0)))=((yP b (i+1)).map wv++zs (64-(i+1))).toArray:=by
  rw[show 64-i=(64-(i+1))+1 by omega,aSo,aSd (by simp[aHT]),aNj];simp[wat]
 have es':=es;unfold w4 at es';rw[es'];exact hn
def aVH{b:List UInt8}{i r1 r3:Nat}(hi:i<48){h:PH}{R:cD}{n5:gJ}
  (h3:h r3=some (.cells ((nH b i).map wv++zs (48-i)).toArray fI (0,0)))
  (hn:n5 [pT r1 0,pT r3 0,.int .i64 ((i+1+16:Nat):Int)] (h.set r3 (.cells ((nH b (i+1)).map wv++zs (48-(i+1))).toArray fI (0,0)))):
  aGI R n5 (pT r1 0) (pT r3 0) (.int .i64 ((i+16:Nat):Int)) h:=by
 unfold aGI;have hl:=aKB b i;have e1:(((i+16:Nat):Int)<64)=True:=eq_true (by omega);have e2:IntKind.i64.wrap (((i+16:Nat):Int)-15)=((i+1:Nat):Int):=by rw[fH (by omega) (by omega)];omega
 have e3:IntKind.i64.wrap (((i+16:Nat):Int)-2)=((i+14:Nat):Int):=by rw[fH (by omega) (by omega)];omega
 have e4:IntKind.i64.wrap (((i+16:Nat):Int)-16)=((i:Nat):Int):=by rw[fH (by omega) (by omega)];omega
 have e5:IntKind.i64.wrap (((i+16:Nat):Int)-7)=((i+9:Nat):Int):=by rw[fH (by omega) (by omega)];omega
 have e6:IntKind.i64.wrap (((i+16:Nat):Int)+1)=((i+1+16:Nat):Int):=by rw[fH (by omega) (by omega)];omega
 have a1:=aMi (b:=r3) (j:=((i+1:Nat):Int)) (by omega) (by omega);have a2:=aMi (b:=r3) (j:=((i+14:Nat):Int)) (by omega) (by omega);have a3:=aMi (b:=r3) (j:=((i:Nat):Int)) (by omega) (by omega);have a4:=aMi (b:=r3) (j:=((i+9:Nat):Int)) (by omega) (by omega);have a5:=aMi (b:=r3) (j:=((i+16:Nat):Int)) (by omega) (by omega);rw[rA] at a1 a2 a3 a4 a5;have c1:=aNC (o:=i+1) h3 (by omega);have c2:=aNC (o:=i+14) h3 (by omega);have c3:=aNC (o:=i) h3 (by omega);have c4:=aNC (o:=i+9) h3 (by omega);simp only[e1,e2,e3,e4,e5,a1,a2,a3,a4,cL.load,c1,c2,c3,c4,sr3,aYz,cE,reduceIte];refine aD8 (n:=7) (by decide) (by decide) ?_;refine⟨by simp only[cL.load,c4],by simp only[cL.load,c3],?_⟩;refine aD8 (n:=18) (by decide) (by decide) ?_;refine⟨by simp only[cL.load,c4],by simp only[cL.load,c3],?_⟩;simp only[aEn,aGN,cE,reduceIte];refine aD8 (n:=17) (by decide) (by decide) ?_;refine⟨by simp only[cL.load,c4],by simp only[cL.load,c3],?_⟩;refine aD8 (n:=19) (by decide) (by decide) ?_;refine⟨by simp only[cL.load,c4],by simp only[cL.load,c3],?_⟩;simp only[aEn,aGN,a5,e6,cE,reduceIte];refine iT cL.und rfl h3 (by simp[hl,zs];omega) (isw _) cL.info cL.size ?_;have es:((nH b i).map wv++zs (48-i)).toArray.setIfInBounds (i+16) (wv (aNM (nH b i) (i+16)))=((nH b (i+1)).map wv++zs (48-(i+1))).toArray:=by
  rw[show 48-i=(48-(i+1))+1 by omega,aSo,aSd (by simp[hl]),nH];simp
 have es':=es;unfold aNM at es';rw[show i+16-15=i+1 by omega,show i+16-2=i+14 by omega,show i+16-16=i by omega,show i+16-7=i+9 by omega] at es';simp only at es';rw[es'];exact hn
def aVh{h:PH}{b:List UInt8}(hb:b.length=64){k:cD}(hk:∀h',dD h h'->k (.agg ((aFr b).map wv).toArray) h'):aT PG aJc #[.string (tx b)] h k:=by
 apply aGy.call;unfold aGy;rw[z64];intro r1 hr1
 try simp only[cW]
 have u1:dD h (h.set r1 (.cells (zs 64).toArray fI)):=cQ.new hr1;have a1:(h.set r1 (.cells (zs 64).toArray fI)) r1=some (.cells (zs 64).toArray fI (0,0)):=dL;generalize h.set r1 (.cells (zs 64).toArray fI)=h1 at *;intro r3 hr3
 try simp only[cW]
 have u3:dD h1 (h1.set r3 (.cells (zs 64).toArray fI)):=cQ.new hr3;have a3:(h1.set r3 (.cells (zs 64).toArray fI)) r3=some (.cells (zs 64).toArray fI (0,0)):=dL;have hne:r1≠r3:=λe=>by subst e;rw[a1] at hr3;cases hr3
 have n3:h r3=none:=u1.none hr3;have b1:=u3.get a1;generalize h1.set r3 (.cells (zs 64).toArray fI)=h2 at *;have u:=u1.trans u3;refine⟨λvs h'=>∃i,i≤16∧vs=[.string (tx b),pT r1 0,pT r3 0,.int .i64 ((i:Nat):Int)]∧dD h h'∧h' r1=some (.cells (zs 64).toArray fI (0,0))∧h' r3=some (.cells ((yP b i).map wv++zs (64-i)).toArray fI (0,0)),gQ 16 3,⟨0,by omega,rfl,u,b1,by simpa[yP] using a3⟩,?_⟩;rintro ρ h' ⟨i,hi,hvs,u',b1',b3'⟩;simp only[iH,jA,lN,and_true] at hvs;obtain⟨v0,v2,v3,v9⟩:=hvs;simp only[v0,v2,v3,v9,iH,jA];by_cases hl:i<16
 ·refine aVw hb hl b3' ⟨⟨i+1,by omega,rfl,u'.fresh (cQ.set (F:=[r3]) (by simp)) (eK.one n3),by rw[qY hne];exact b1',dL⟩,?_⟩;simp only[gQ,sL,qB];omega
 ·have hi':i=16:=by omega
  subst hi';unfold aHX;simp only[show(((16:Nat):Int)<16)=False from eq_false (by decide),cE,reduceIte];refine⟨λvs h'=>∃i,i≤48∧vs=[pT r1 0,pT r3 0,.int .i64 ((i+16:Nat):Int)]∧dD h h'∧h' r1=some (.cells (zs 64).toArray fI (0,0))∧h' r3=some (.cells ((nH b i).map wv++zs (48-i)).toArray fI (0,0)),gQ 64 2,⟨0,by omega,rfl,u',b1',b3'⟩,?_⟩;rintro ρ2 h2' ⟨i,hi,hvs,u2,c1,c3⟩;simp only[iH,jA,lN,and_true] at hvs;obtain⟨v2',v3',v6'⟩:=hvs;simp only[v2',v3',v6',iH,jA];by_cases hl:i<48
  ·refine aVH hl c3 ⟨⟨i+1,by omega,rfl,u2.fresh (cQ.set (F:=[r3]) (by simp)) (eK.one n3),by rw[qY hne];exact c1,dL⟩,?_⟩;simp only[gQ,sL,qB];omega
  ·have hi':i=48:=by omega
   subst hi';have hw:((nH b 48).map wv++zs (48-48)).toArray=((aFr b).map wv).toArray:=by simp[aFr,zs]
   rw[hw] at c3;have hsz:((aFr b).map wv).toArray.size=64:=by rw[List.size_toArray,iV,aLe]
   have hic:∀v∈((aFr b).map wv).toArray.toList,fW v=true:=λv hv=>by
    rw[List.toList_toArray,mJ] at hv;obtain⟨w,-,rfl⟩:=hv;rfl
   generalize ((aFr b).map wv).toArray=cs at *;unfold aGI;have l3:=fI.loadAgg (o:=0) c3 (by omega);rw[Array.extract_eq_self_of_le (by omega)] at l3;simp only[show(((48+16:Nat):Int)<64)=False from eq_false (by decide),l3,cE,reduceIte];refine rW c1 fI.info (by rw[hsz];rfl) (by omega) (by rw[hsz];rfl) hic ?_;have l1:=fI.loadAgg (h:=h2'.set r1 (.cells cs fI (0,0))) (o:=0) dL (by omega);rw[Array.extract_eq_self_of_le (by omega)] at l1;simp only[l1,cE,reduceIte];exact hk _ (u2.fresh (cQ.set (F:=[r1]) (by simp)) (eK.one hr1))
def oP(h:PH):Prop:=∃t fr,h 0=some (.cells (kT.map wv).toArray t fr)
def oP.ext{h h':PH}(H:oP h)(u:dD h h'):oP h':=by
 obtain⟨t,fr,hb⟩:=H;exact⟨t,fr,u.get hb⟩
def aU4{h:PH}{b o:Nat}{l:List W}{t:TypeId}{fr:Nat×Nat}(hb:h b=some (.cells (l.map wv).toArray t fr))(ho:o<l.length):dB h ⟨b,o,none⟩=some (wv (l.getD o 0)):=by
 refine aNC (r:=[]) (t:=t) (fr:=fr) ?_ ho;rw[zLQ];exact hb
def aZ6{h:PH}{r:Nat}{a b c d e f g x:Value}(hb:h r=some (.cells #[a,b,c,d,e,f,g,x] eZ (0,0)))(hc:∀v∈[a,b,c,d,e,f,g],fW v=true){k:cD}
  (hk:k (.int .i64 7) (h.set r (.cells #[a,a,b,c,d,e,f,g] eZ (0,0)))):
  dC PG (Builtin.copy_ #[fC,fC] bR #[.slice (some ⟨r,1,none⟩) 7 7,.slice (some ⟨r,0,none⟩) 7 8]) h k:=by
 have S:fZ h 1 (.slice (some ⟨r,0,none⟩) 7 8) [[a],[b],[c],[d],[e],[f],[g]]:=by
  refine⟨λq hq=>by simp at hq;rcases hq with rfl|rfl|rfl|rfl|rfl|rfl|rfl<;>rfl,some ⟨r,0,none⟩,8,rfl,by simp,by unfold rB;omega,λ_=>⟨r,0,_,_,_,rfl,hb,by simp,by simp⟩,trivial⟩
 have hfirst:=S.first (P:=PG);simp only[Builtin.copy_,zLK,qB,sL,qC fC.und,kP,mP cL.info,pure_bind,Builtin.lenOf,cL.size];refine iD (s:=Builtin.firstCells 1 7 (.slice (some ⟨r,0,none⟩) 7 8)) (a:=#[a,b,c,d,e,f,g]) hfirst ?_;refine dC.bind (P:=PG) (s:=storeCells _ _) ?_;refine rX [a,b,c,d,e,f,g] 0 h #[a,b,c,d,e,f,g,x] hb (by simp) hc ?_;have e:(if [a,b,c,d,e,f,g]=[] then h else h.set r (.cells (vH #[a,b,c,d,e,f,g,x] (1+0) [a,b,c,d,e,f,g]) eZ (0,0)))=h.set r (.cells #[a,a,b,c,d,e,f,g] eZ (0,0)):=by
  rw[if_neg (by simp)];rfl
 rw[e];exact hk
def bA2{r:Nat}:dH PG (Instr.sliceAt eZ (pT r 0) (some (.int .i64 1)) none none)=some (.slice (some ⟨r,1,none⟩) 7 7):=by kernel_rfl
def bA6{r:Nat}:dH PG (Instr.sliceAt eZ (pT r 0) none (some (.int .i64 7)) none)=some (.slice (some ⟨r,0,none⟩) 7 8):=by kernel_rfl
def aXi{ws:List W}(hws:ws.length=64){s:S8}{i a r3 r10:Nat}(hi:i<64){h:PH}{R:cD}{n:gJ}(hK:oP h)
  (h3:h r3=some (.cells (ws.map wv).toArray fI (0,0))) (h10:h r10=some (.cells #[wv s.a,wv s.b,wv s.c,wv s.d,wv s.e,wv s.f,wv s.g,wv s.h] eZ (0,0)))
  (hn:∀s',s'=rnd s (kT.getD i 0) (ws.getD i 0)->n [pT a 0,pT r3 0,pT r10 0,.int .i64 ((i+1:Nat):Int)] (h.set r10 (.cells #[wv s'.a,wv s'.b,wv s'.c,wv s'.d,wv s'.e,wv s'.f,wv s'.g,wv s'.h] eZ (0,0)))):
  aCS R n (pT a 0) (pT r3 0) (pT r10 0) (.int .i64 (i:Int)) h:=by
 obtain⟨kt,fr,hK⟩:=hK;unfold aCS;have e1:((i:Int)<64)=True:=eq_true (by omega);have e4:=qN (i:=i) (by omega);have m:∀j:Nat,j<8->dH PG (indexAt eZ (pT r10 0) (.int .i64 j))=some (pT r10 j):=λj hj=>by rw[at8 (by omega) (by omega),rA]
 have m0:dH PG (indexAt eZ (pT r10 0) (.int .i64 0))=some (pT r10 0):=m 0 (by decide);have m1:dH PG (indexAt eZ (pT r10 0) (.int .i64 1))=some (pT r10 1):=m 1 (by decide);have m2:dH PG (indexAt eZ (pT r10 0) (.int .i64 2))=some (pT r10 2):=m 2 (by decide);have m4:dH PG (indexAt eZ (pT r10 0) (.int .i64 4))=some (pT r10 4):=m 4 (by decide);have m5:dH PG (indexAt eZ (pT r10 0) (.int .i64 5))=some (pT r10 5):=m 5 (by decide);have m6:dH PG (indexAt eZ (pT r10 0) (.int .i64 6))=some (pT r10 6):=m 6 (by decide);have m7:dH PG (indexAt eZ (pT r10 0) (.int .i64 7))=some (pT r10 7):=m 7 (by decide);have c0:dB h ⟨r10,0,none⟩=some (wv s.a):=by simp[dB,h10]
 have c1:dB h ⟨r10,1,none⟩=some (wv s.b):=by simp[dB,h10]
 have c2:dB h ⟨r10,2,none⟩=some (wv s.c):=by simp[dB,h10]
 have c4:dB h ⟨r10,4,none⟩=some (wv s.e):=by simp[dB,h10]
 have c5:dB h ⟨r10,5,none⟩=some (wv s.f):=by simp[dB,h10]
 have c6:dB h ⟨r10,6,none⟩=some (wv s.g):=by simp[dB,h10]
 have c7:dB h ⟨r10,7,none⟩=some (wv s.h):=by simp[dB,h10]
 have a0:=aMi (b:=0) (j:=(i:Int)) (by omega) (by omega);have a3:=aMi (b:=r3) (j:=(i:Int)) (by omega) (by omega);rw[rA] at a0 a3;have ck:=aU4 (o:=i) hK (by rw[aK6];exact hi);have cw:=aU4 (o:=i) h3 (by omega);simp only[e1,m0,m1,m2,m4,m5,m6,m7,cL.load,c0,c1,c2,c4,c5,c6,c7,a0,a3,ck,cw,aQg,aEn,aW1,cE,reduceIte];refine aD8 (n:=6) (by decide) (by decide) ?_;simp only[cL.load,c0,c1,c2,c4,c5,c6,c7,ck,cw,true_and];refine aD8 (n:=11) (by decide) (by decide) ?_;simp only[cL.load,c0,c1,c2,c4,c5,c6,c7,ck,cw,true_and,aEn,cE,reduceIte];refine aD8 (n:=25) (by decide) (by decide) ?_;simp only[e1,m0,m1,m2,m4,m5,m6,m7,cL.load,c0,c1,c2,c4,c5,c6,c7,a0,a3,ck,cw,aQg,aEn,aW1,aGN,true_and,cE,reduceIte];refine aD8 (n:=2) (by decide) (by decide) ?_;simp only[cL.load,c0,c1,c2,c4,c5,c6,c7,ck,cw,true_and];refine aD8 (n:=13) (by decide) (by decide) ?_;simp only[cL.load,c0,c1,c2,c4,c5,c6,c7,ck,cw,true_and,aEn,cE,reduceIte];refine aD8 (n:=22) (by decide) (by decide) ?_;simp only[cL.load,c0,c1,c2,c4,c5,c6,c7,ck,cw,true_and,aEn,aGN,bA2,bA6,cE,reduceIte];refine aZ6 h10 (by simp[isw]) ?_;have c4':dB (h.set r10 (.cells #[wv s.a,wv s.a,wv s.b,wv s.c,wv s.d,wv s.e,wv s.f,wv s.g] eZ (0,0))) ⟨r10,4,none⟩=some (wv s.d):=by simp[dB,dL]
 simp only[m4,cL.load,c4',aGN,cE,reduceIte];refine iT cL.und rfl dL (by simp) (isw _) cL.info cL.size ?_;rw[uX]
 try simp only[m0,aGN,cE,reduceIte]
 refine iT cL.und rfl dL (by simp) (isw _) cL.info cL.size ?_;rw[uX]
 try simp only[e4,cE,reduceIte]
 exact hn _ rfl
def S8.some(s t:S8)(n:Nat):S8:=⟨if 0<n then s.a+t.a else s.a,if 1<n then s.b+t.b else s.b,if 2<n then s.c+t.c else s.c,if 3<n then s.d+t.d else s.d,if 4<n then s.e+t.e else s.e,if 5<n then s.f+t.f else s.f,if 6<n then s.g+t.g else s.g,if 7<n then s.h+t.h else s.h⟩
def S8.some8(s t:S8):s.some t 8=s.add t:=rfl
def aWz(s t:S8){i:Nat}(hi:i<8)(x y:Value):(#[wv (s.some t i).a,wv (s.some t i).b,wv (s.some t i).c,wv (s.some t i).d,wv (s.some t i).e,wv (s.some t i).f,wv (s.some t i).g,wv (s.some t i).h,x,y]:Array Value).setIfInBounds i (wv (s.l.getD i 0+t.l.getD i 0))=
  #[wv (s.some t (i+1)).a,wv (s.some t (i+1)).b,wv (s.some t (i+1)).c,wv (s.some t (i+1)).d,wv (s.some t (i+1)).e,wv (s.some t (i+1)).f,wv (s.some t (i+1)).g,wv (s.some t (i+1)).h,x,y]:=by
 have:i=0∨i=1∨i=2∨i=3∨i=4∨i=5∨i=6∨i=7:=by omega
 rcases this with rfl|rfl|rfl|rfl|rfl|rfl|rfl|rfl<;>rfl
def aVv(s t:S8){i:Nat}(hi:i<8)(x y:Value):(#[wv (s.some t i).a,wv (s.some t i).b,wv (s.some t i).c,wv (s.some t i).d,wv (s.some t i).e,wv (s.some t i).f,wv (s.some t i).g,wv (s.some t i).h,x,y]:Array Value)[i]? =Option.some (wv (s.l.getD i 0)):=by
 have:i=0∨i=1∨i=2∨i=3∨i=4∨i=5∨i=6∨i=7:=by omega
 rcases this with rfl|rfl|rfl|rfl|rfl|rfl|rfl|rfl<;>rfl
def aZ4(t:S8){i:Nat}(hi:i<8):(#[wv t.a,wv t.b,wv t.c,wv t.d,wv t.e,wv t.f,wv t.g,wv t.h]:Array Value)[i]? =Option.some (wv (t.l.getD i 0)):=by
 have:i=0∨i=1∨i=2∨i=3∨i=4∨i=5∨i=6∨i=7:=by omega
 rcases this with rfl|rfl|rfl|rfl|rfl|rfl|rfl|rfl<;>rfl
def kA(s:S8)(x y:Value):Array Value:=#[wv s.a,wv s.b,wv s.c,wv s.d,wv s.e,wv s.f,wv s.g,wv s.h,x,y]
def aYf{s v:S8}{i a r10:Nat}{x y:Value}(hi:i<8){h:PH}{R:cD}{n:gJ}
  (ha:h a=Option.some (.cells (kA (s.some v i) x y) fJ (0,0))) (h10:h r10=Option.some (.cells #[wv v.a,wv v.b,wv v.c,wv v.d,wv v.e,wv v.f,wv v.g,wv v.h] eZ (0,0)))
  (hn:n [.pointer (Option.some ⟨a,0,none⟩),.pointer (Option.some ⟨r10,0,none⟩),.int .i64 ((i+1:Nat):Int)] (h.set a (.cells (kA (s.some v (i+1)) x y) fJ (0,0)))):
  aCY R n (.pointer (Option.some ⟨a,0,none⟩)) (.pointer (Option.some ⟨r10,0,none⟩)) (.int .i64 (i:Int)) h:=by
 unfold aCY;have e1:((i:Int)<8)=True:=eq_true (by omega);have e4:=qN (i:=i) (by omega);have m1:=at8 (b:=a) (j:=(i:Int)) (by omega) (by omega);have m2:=at8 (b:=r10) (j:=(i:Int)) (by omega) (by omega);rw[rA] at m1 m2;have c1:dB h ⟨a,i,none⟩=Option.some (wv (s.l.getD i 0)):=by
  unfold dB;simp only[ha];exact aVv s v hi x y
 have c2:dB h ⟨r10,i,none⟩=Option.some (wv (v.l.getD i 0)):=by
  unfold dB;simp only[h10];exact aZ4 v hi
 simp only[e1,iA.f0,m1,m2,cL.load,c1,c2,aGN,cE,reduceIte];refine iT cL.und rfl ha (by simp[kA];omega) (isw _) cL.info cL.size ?_;have es:=aWz s v hi x y;change (kA (s.some v i) x y).setIfInBounds i _=kA (s.some v (i+1)) x y at es;rw[es]
 try simp only[e4,cE,reduceIte]
 exact hn
def aZV{h:PH}{a:Nat}{s:S8}{x y:Value}{b:List UInt8}(hK:oP h)(hb:b.length=64)(ha:h a=Option.some (.cells (kA s x y) fJ (0,0))){k:cD}
  (hk:∀h',cQ [a] h h'->h' a=Option.some (.cells (kA (aKt s b) x y) fJ (0,0))->k (.tuple #[]) h'):aT PG aGc #[.pointer (Option.some ⟨a,0,none⟩),.string (tx b)] h k:=by
 apply aBT.call;unfold aBT;refine aVh hb λh1 u1=>?_;have hwl:=aLe b;have hmx:aKt s b=s.add (aIP (aFr b) s 64):=rfl;rw[hmx] at hk;clear hmx;generalize aFr b=ws at *;have hsz:(ws.map wv).toArray.size=64:=by rw[List.size_toArray,iV,hwl]
 have hic:∀v∈(ws.map wv).toArray.toList,fW v=true:=λv hv=>by
  rw[List.toList_toArray,mJ] at hv;obtain⟨w,-,rfl⟩:=hv;rfl
 rw[z64,z8];intro r3 hr3
 try rw[cW]
 have u3:dD h1 (h1.set r3 (.cells (zs 64).toArray fI)):=cQ.new hr3;have n3:h r3=none:=u1.none hr3;have a3:(h1.set r3 (.cells (zs 64).toArray fI)) r3=Option.some (.cells (zs 64).toArray fI (0,0)):=dL;generalize h1.set r3 (.cells (zs 64).toArray fI)=h2 at *;refine rW a3 fI.info (by rw[hsz];rfl) (by omega) (by rw[hsz];rfl) hic ?_;have u4:dD h (h2.set r3 (.cells (ws.map wv).toArray fI (0,0))):=(u1.trans u3).fresh (cQ.set (F:=[r3]) (by simp)) (eK.one n3);have a3':(h2.set r3 (.cells (ws.map wv).toArray fI (0,0))) r3=Option.some (.cells (ws.map wv).toArray fI (0,0)):=dL;generalize h2.set r3 (.cells (ws.map wv).toArray fI (0,0))=h3 at *;have ha3:=u4.get ha;have lA:=eZ.loadAgg (o:=0) ha3 (by simp[kA]);have lE:(kA s x y).extract 0 (0+8)= #[wv s.a,wv s.b,wv s.c,wv s.d,wv s.e,wv s.f,wv s.g,wv s.h]:=rfl;rw[lE] at lA;simp only[iA.f0,lA,cE,reduceIte];intro r10 hr10
 try rw[cW]
 have u5:dD h3 (h3.set r10 (.cells (zs 8).toArray eZ)):=cQ.new hr10;have n10:h r10=none:=u4.none hr10;have a10:(h3.set r10 (.cells (zs 8).toArray eZ)) r10=Option.some (.cells (zs 8).toArray eZ (0,0)):=dL;generalize h3.set r10 (.cells (zs 8).toArray eZ)=h4 at *;refine rW a10 eZ.info rfl (by simp) rfl (by simp[isw]) ?_;have u6:dD h (h4.set r10 (.cells #[wv s.a,wv s.b,wv s.c,wv s.d,wv s.e,wv s.f,wv s.g,wv s.h] eZ (0,0))):=(u4.trans u5).fresh (cQ.set (F:=[r10]) (by simp)) (eK.one n10);have hne3:r3≠r10:=λe=>by subst e;rw[a3'] at hr10;cases hr10
 have a3'':(h4.set r10 (.cells #[wv s.a,wv s.b,wv s.c,wv s.d,wv s.e,wv s.f,wv s.g,wv s.h] eZ (0,0))) r3=Option.some (.cells (ws.map wv).toArray fI (0,0)):=by rw[qY hne3];exact u5.get a3'
 have a10':(h4.set r10 (.cells #[wv s.a,wv s.b,wv s.c,wv s.d,wv s.e,wv s.f,wv s.g,wv s.h] eZ (0,0))) r10=Option.some (.cells #[wv s.a,wv s.b,wv s.c,wv s.d,wv s.e,wv s.f,wv s.g,wv s.h] eZ (0,0)):=dL;generalize h4.set r10 (.cells #[wv s.a,wv s.b,wv s.c,wv s.d,wv s.e,wv s.f,wv s.g,wv s.h] eZ (0,0))=h5 at *;have hne:a≠r10:=λe=>by subst e;rw[ha] at n10;cases n10
 refine⟨λvs h'=>∃i s',i≤64∧s'=aIP ws s i∧vs=[.pointer (Option.some ⟨a,0,none⟩),.pointer (Option.some ⟨r3,0,none⟩),.pointer (Option.some ⟨r10,0,none⟩),.int .i64 ((i:Nat):Int)]∧dD h h'∧h' r3=Option.some (.cells (ws.map wv).toArray fI (0,0))∧h' r10=Option.some (.cells #[wv s'.a,wv s'.b,wv s'.c,wv s'.d,wv s'.e,wv s'.f,wv s'.g,wv s'.h] eZ (0,0)),gQ 64 3,⟨0,s,by omega,rfl,rfl,u6,a3'',a10'⟩,?_⟩;rintro ρ h' ⟨i,s',hi,hs',hvs,u',b3,b10⟩;simp only[iH,jA,lN,and_true] at hvs;obtain⟨v0,v4,v5,v18⟩:=hvs;simp only[v0,v4,v5,v18,iH,jA];by_cases hl:i<64
 ·refine aXi hwl hl (hK.ext u') b3 b10 λs2 hs2=>⟨⟨i+1,s2,by omega,by rw[hs2,hs',aIP],rfl,u'.fresh (cQ.set (F:=[r10]) (by simp)) (eK.one n10),by rw[qY hne3];exact b3,dL⟩,?_⟩;simp only[gQ,sL,qB];omega
 ·have hi':i=64:=by omega
  subst hi';unfold aCS;simp only[show(((64:Nat):Int)<64)=False from eq_false (by decide),cE,reduceIte];have hup:cQ [a] h h':=u'.upd;refine⟨λvs h2'=>∃i,i≤8∧vs=[.pointer (Option.some ⟨a,0,none⟩),.pointer (Option.some ⟨r10,0,none⟩),.int .i64 ((i:Nat):Int)]∧cQ [a] h h2'∧h2' a=Option.some (.cells (kA (s.some s' i) x y) fJ (0,0))∧h2' r10=Option.some (.cells #[wv s'.a,wv s'.b,wv s'.c,wv s'.d,wv s'.e,wv s'.f,wv s'.g,wv s'.h] eZ (0,0)),gQ 8 2,⟨0,by omega,rfl,hup,u'.get ha,b10⟩,?_⟩;rintro ρ2 h2' ⟨i,hi,hvs,u2,ca,c10⟩;simp only[iH,jA,lN,and_true] at hvs;obtain⟨v0',v5',v92'⟩:=hvs;simp only[v0',v5',v92',iH,jA];by_cases hl:i<8
  ·refine aYf hl ca c10 ⟨⟨i+1,by omega,rfl,u2.trans (cQ.set (by simp)),dL,by rw[qY (Ne.symm hne)];exact c10⟩,?_⟩;simp only[gQ,sL,qB];omega
  ·have hi':i=8:=by omega
   subst hi';unfold aCY;simp only[show(((8:Nat):Int)<8)=False from eq_false (by decide),cE,reduceIte];refine hk _ u2 ?_;rw[ca,S8.some8,hs']
end
section
open Go
namespace Bld
def neqPtrSelf{h:PH}{x y:Operand}(a:Addr):cG PG h (jT .neq eD x y (.pointer (some a)) (.pointer (some a)))=some (.bool false):=by
 show cG PG h (Op.equalIn (9999+1) eD (.pointer (some a)) (.pointer (some a)) >>= λb=>(pure (Value.bool (!b)):Sem Value))=_;rw[kC];have:cG PG h (Op.equalIn (9999+1) eD (.pointer (some a)) (.pointer (some a)))=some true:=by
  rw[Op.equalIn,kM eD.und];simp only[kP];rw[aBZ dN.info];simp[dN.size,sameAddr,cG,pure]
 rw[this];rfl
def semE_viewAt{h:PH}{r:Nat}{x:TypeId×Nat}{α:Type}(hs:kI h r=some (some x))(f:Option (Addr×TypeId)->Sem α):cG PG h (viewAt r >>= f)=cG PG h (f none):=by
 rw[kC];have:cG PG h (viewAt r)=some none:=by
  show(kI h r).bind _=_;rw[hs];rfl
 rw[this];rfl
def semE_seenAt{h:PH}{a:Addr}{x:TypeId×Nat}{α:Type}(hs:kI h a.block=some (some x))(f:Addr->Sem α):cG PG h (Conv.seenAt a >>= f)=cG PG h (f a):=by
 rw[kC];have:cG PG h (Conv.seenAt a)=some a:=by
  unfold Conv.seenAt;rw[semE_viewAt hs];rfl
 rw[this];rfl
def semE_cellsIn{h:PH}{r:Nat}{x:TypeId×Nat}{α:Type}(hs:kI h r=some (some x))(f:Option Nat->Sem α):cG PG h (cellsIn r >>= f)=cG PG h (f (some x.2)):=by
 rw[kC];have:cG PG h (cellsIn r)=some (some x.2):=by
  show(kI h r).bind _=_;rw[hs];rfl
 rw[this];rfl
def to_unsafe{h:PH}{a:Nat}{c:Array Value}(ha:h a=some (.cells c dN (0,0)))(hc:0<c.size):cG PG h (convert eD iM (pT a 0))=some (pT a 0):=by
 have hs:kI h a=some (some (dN,c.size)):=by unfold kI;rw[ha]
 show cG PG h (underlying eD >>= _)=_;rw[kM eD.und];show cG PG h (underlying iM >>= _)=_;rw[kM iM.und];show cG PG h (underlying eD >>= _)=_;rw[kM eD.und];show cG PG h (underlying iM >>= _)=_;rw[kM iM.und];show cG PG h (Conv.seenAt ⟨a,0,none⟩ >>= _)=_;rw[semE_seenAt (a:=⟨a,0,none⟩) hs];show cG PG h (cellsIn a >>= _)=_;rw[semE_cellsIn hs];have h1:¬(0 ≥ c.size):=by omega
 simp only[kP];rw[aBZ dN.info];simp[dN.size,h1,cG,pure]
def from_unsafe{h:PH}{a:Nat}{c:Array Value}(ha:h a=some (.cells c dN (0,0)))(hc:c.size=2):cG PG h (convert iM eD (pT a 0))=some (pT a 0):=by
 have hs:kI h a=some (some (dN,c.size)):=by unfold kI;rw[ha]
 rw[hc] at hs;show cG PG h (underlying iM >>= _)=_;rw[kM iM.und];show cG PG h (underlying eD >>= _)=_;rw[kM eD.und];show cG PG h (underlying iM >>= _)=_;rw[kM iM.und];show cG PG h (underlying eD >>= _)=_;rw[kM eD.und];show cG PG h (Conv.seenAt ⟨a,0,none⟩ >>= _)=_;rw[semE_seenAt (a:=⟨a,0,none⟩) hs];have hv:cG PG h (variablesAt ⟨a,0,none⟩ dN 1)=some true:=by
  show(kI h a).bind _=_;rw[hs]
  kernel_rfl
 simp only[kP];rw[aBZ dN.info];simp only[dN.size];rw[kC,hv];simp[cG,pure]
def NoEscape_ok{h:PH}{v:Value}{k:cD}(hk:k v h):aT PG aAw #[v] h k:=
 aT.entry (v:=v) (by kernel_rfl) hk
structure BAt(h:PH)(a:Nat)(bs:List UInt8)(F:List Nat):Prop where
 here:∃p v G,h a=some (.cells #[p,v] dN (0,0))∧(p= .pointer none∨p=pT a 0)∧eM h dU 1 v (bs.map jQ) G∧F=a::G∧a∉G
def BAt.upd{h h':PH}{a:Nat}{bs:List UInt8}{F G:List Nat}(H:BAt h a bs F)(u:cQ G h h')(hd:∀b∈F,b∉G):BAt h' a bs F:=by
 obtain⟨p,v,G',ha,hp,hO,rfl,hn⟩:=H;exact⟨p,v,G',u.get ha (hd a (by simp)),hp,hO.upd u (λb hb=>hd b (by simp[hb])),rfl,hn⟩
def BAt.ext{h h':PH}{a:Nat}{bs:List UInt8}{F:List Nat}(H:BAt h a bs F)(u:dD h h'):BAt h' a bs F:=H.upd u (by simp)
def BNext(h:PH)(a:Nat)(F:List Nat)(bs:List UInt8)(k:PH->Prop):Prop:=∀h' F',BAt h' a bs F'->cQ F h h'->(∀b∈F',b∈F∨h b=none)->k h'
def copyCheck_ok{h:PH}{a:Nat}{p v:Value}(ha:h a=some (.cells #[p,v] dN (0,0)))(hp:p= .pointer none∨p=pT a 0){k:cD}
  (hk:∀h',h' a=some (.cells #[pT a 0,v] dN (0,0))->cQ [a] h h'->(∀b,b≠a->h' b=h b)->k (.tuple #[]) h'):aT PG mS #[pT a 0] h k:=by
 apply nW.call;unfold nW;have hc:dB h ⟨a,0,none⟩=some p:=by simp[dB,ha]
 simp only[dN.f0,eD.load,hc,cE,reduceIte];rcases hp with rfl|rfl
 ·simp only[aDA eD.und,Option.isNone_none,cE,reduceIte];refine cG.semH (to_unsafe ha (by simp)) ?_;refine NoEscape_ok ?_;refine cG.semH (from_unsafe ha (by simp)) ?_;refine iT eD.und rfl ha (by simp) rfl eD.info eD.size ?_;exact hk _ dL (cQ.set (by simp)) (λb hb=>qY hb)
 ·simp only[aDA eD.und,Option.isNone_some,neqPtrSelf,dN.f0,eD.load,hc,cE,reduceIte];exact hk _ ha cQ.refl (λ_ _=>rfl)
def byte_lit(x:Int):jV PG (buildSlice dI 1 #[(0,.int .u8 x)])=some (.cells #[.int .u8 x] dU,λr=>pure (.slice (some ⟨r,0,none⟩) 1 1)):=by kernel_rfl
def buf_app{h:PH}{a:Nat}{p v x:Value}{bs ys:List UInt8}{G:List Nat}{t2 e2:TypeId}(hu2:PG.underlying t2=some (.slice e2))(ha:h a=some (.cells #[p,v] dN (0,0)))(hp:p= .pointer none∨p=pT a 0)(hO:eM h dU 1 v (bs.map jQ) G)(hn:a∉G)
  (hx:fZ h 1 x (ys.map jQ)) (hl:bs.length+ys.length≤140737488355328) {k:PH->Prop} (hk:BNext h a (a::G) (bs++ys) k):
  dC PG (Builtin.append_ #[dI,t2] dI #[v,x]) h λv' h'=>dC PG (dT dI (pT a 1) v') h' λ_ h''=>k h'':=by
 refine jK dI.und hu2 dU.info dU.size dU.bytes dU.zero rfl (by decide) hO hx (jQ.isCell _) (by simp;omega) ?_;intro v2 h2 F2 hO2 u2 k2 _;rw[←pO] at hO2;have ha2:=u2.get ha hn;have hn2:a∉F2:=λhm=>by
  rcases k2 a hm with h1|h1
  ·exact hn h1
  ·rw[ha] at h1;cases h1
 refine iT dI.und rfl ha2 (by simp) ?_ dI.info dI.size ?_
 ·obtain⟨_,_,rfl,-⟩:=hO2.slR.here;rfl
 ·refine hk _ (a::F2) ⟨p,v2,F2,dL,hp,hO2.upd (cQ.set (F:=[a]) (by simp)) (λb hb=>by simp;rintro rfl;exact hn2 hb),rfl,hn2⟩ ((u2.mono λb hb=>.inl (by simp[hb])).trans (cQ.set (by simp))) (λb hb=>?_);rcases gU.1 hb with rfl|hb
  ·exact .inl (by simp)
  ·rcases k2 b hb with h1|h1
   ·exact .inl (by simp[h1])
   ·exact .inr h1
def WriteByte_ok{h:PH}{a:Nat}{bs:List UInt8}{F:List Nat}(hW:BAt h a bs F)(hl:bs.length+1≤140737488355328)(x:UInt8){k:cD}(hk:BNext h a F (bs++[x]) (k .nilIface)):
  aT PG mR #[pT a 0,.int .u8 x.toNat] h k:=by
 obtain⟨p,v,G,ha,hp,hO,rfl,hn⟩:=hW;apply nU.call;unfold nU;refine copyCheck_ok ha hp λh1 ha1 u1 o1=>?_;have hc:dB h1 ⟨a,1,none⟩=some v:=by simp[dB,ha1]
 have hO1:=hO.upd u1 (λb hb hf=>by simp at hf;subst hf;exact hn hb);simp only[dN.f1,dI.load,hc,byte_lit,cE,reduceIte];intro r hr;refine fP ?_;have u2:dD h1 (h1.set r (.cells #[.int .u8 x.toNat] dU)):=cQ.new hr;have s2:fZ (h1.set r (.cells #[.int .u8 x.toNat] dU)) 1 (.slice (some ⟨r,0,none⟩) 1 1) ([x].map jQ):=(eM.lit (jQ.rows [x]) dL (by simp) (by decide) (by simp[jQ])).slR;refine buf_app dI.und (u2.get ha1) (.inr rfl) (hO1.ext u2) hn s2 (by simpa using hl) ?_;intro h3 F3 hW3 u3 k3;refine hk _ F3 hW3 ((u1.mono λb hb=>.inl (by simp at hb;simp[hb])).trans (u2.upd.trans u3)) λb hb=>?_;rcases k3 b hb with h'|h'
 ·exact .inl h'
 ·by_cases hba:b=a
  ·exact .inl (by simp[hba])
  ·have:=u2.none h';rw[o1 b hba] at this;exact .inr this
def buf_str{h:PH}{a:Nat}{p v:Value}{bs ys:List UInt8}{G:List Nat}(ha:h a=some (.cells #[p,v] dN (0,0)))(hp:p= .pointer none∨p=pT a 0)(hO:eM h dU 1 v (bs.map jQ) G)(hn:a∉G)
  (hl:bs.length+ys.length≤140737488355328) {k:PH->Prop} (hk:BNext h a (a::G) (bs++ys) k):
  dC PG (Builtin.append_ #[dI,bT] dI #[v,.string (tx ys)]) h λv' h'=>dC PG (dT dI (pT a 1) v') h' λ_ h''=>k h'':=by
 refine aOr dI.und bT.und dU.info dU.size dU.bytes dU.zero rfl (by decide) hO (by simp;omega) ?_;intro v2 h2 F2 hO2 u2 k2 _;rw[←pO] at hO2;have ha2:=u2.get ha hn;have hn2:a∉F2:=λhm=>by
  rcases k2 a hm with h1|h1
  ·exact hn h1
  ·rw[ha] at h1;cases h1
 refine iT dI.und rfl ha2 (by simp) ?_ dI.info dI.size ?_
 ·obtain⟨_,_,rfl,-⟩:=hO2.slR.here;rfl
 ·refine hk _ (a::F2) ⟨p,v2,F2,dL,hp,hO2.upd (cQ.set (F:=[a]) (by simp)) (λb hb=>by simp;rintro rfl;exact hn2 hb),rfl,hn2⟩ ((u2.mono λb hb=>.inl (by simp[hb])).trans (cQ.set (by simp))) (λb hb=>?_);rcases gU.1 hb with rfl|hb
  ·exact .inl (by simp)
  ·rcases k2 b hb with h1|h1
   ·exact .inl (by simp[h1])
   ·exact .inr h1
def WriteString_ok{h:PH}{a:Nat}{bs ys:List UInt8}{F:List Nat}(hW:BAt h a bs F)(hl:bs.length+ys.length≤140737488355328){k:cD}(hk:BNext h a F (bs++ys) (k (.tuple #[.int .i64 ys.length,.nilIface]))):
  aT PG lC #[pT a 0,.string (tx ys)] h k:=by
 obtain⟨p,v,G,ha,hp,hO,rfl,hn⟩:=hW;apply kZ.call;unfold kZ;refine copyCheck_ok ha hp λh1 ha1 u1 o1=>?_;have hc:dB h1 ⟨a,1,none⟩=some v:=by simp[dB,ha1]
 have hO1:=hO.upd u1 (λb hb hf=>by simp at hf;subst hf;exact hn hb);simp only[dN.f1,dI.load,hc,bT.len,iF,cE,reduceIte];refine buf_str ha1 (.inr rfl) hO1 hn hl ?_;intro h3 F3 hW3 u3 k3;refine hk _ F3 hW3 ((u1.mono λb hb=>.inl (by simp at hb;simp[hb])).trans u3) λb hb=>?_;rcases k3 b hb with h'|h'
 ·exact .inl h'
 ·by_cases hba:b=a
  ·exact .inl (by simp[hba])
  ·rw[o1 b hba] at h';exact .inr h'
def semE_loadBytes{h:PH}:∀(l:List UInt8) (a:Addr) (acc:ByteArray),a.spot=none->(∀j x,l[j]? =some x->dB h (a.add j)=some (.int .u8 x.toNat))->cG PG h (loadBytes a acc l.length)=some ⟨acc.data++l.toArray⟩
 | [],a,acc,_,_=>by show some acc=_;simp
 | x::xs,a,acc,hsp,hc=>by
  have h0:=hc 0 x rfl;have ha0:a.add 0=a:=by obtain⟨b,o,w⟩:=a;cases w<;>simp[Addr.add]
  rw[ha0] at h0;show(dB h a).bind _=_;rw[h0,aDW];show cG PG h (loadBytes (a.add 1) (acc.push ((x.toNat:Int).toNat.toUInt8)) xs.length)=_;rw[semE_loadBytes xs (a.add 1) _ (by obtain⟨b,o,w⟩:=a;simp at hsp;subst hsp;rw[lP]) λj y hy=>?_]
  ·congr 1;apply ByteArray.ext;show(acc.push _).data++xs.toArray=_;rw[ByteArray.data_push];apply zLw;simp
  ·have:=hc (j+1) y (by simpa using hy);have e:(a.add 1).add j=a.add (j+1):=by
    obtain⟨b,o,w⟩:=a;simp at hsp;subst hsp;rw[lP,lP,lP];congr 1;omega
   rw[e];exact this
def unsafeStr{h:PH}{g:Nat}{cs:Array Value}{bs:List UInt8}(hb:h g=some (.cells cs dU (0,0)))(hle:bs.length≤cs.size)(hcs:cs.toList.take bs.length=bs.map λb=>Value.int .u8 b.toNat)(hne:bs≠[])(hmax:bs.length≤rB){k:cD}
  (hk:∀h',cQ [g] h h'->k (.string (tx bs)) h'):dC PG (Builtin.unsafeString_ #[oX,bR] bT #[pT g 0,.int .i64 bs.length]) h k:=by
 have hl:bs.length≠0:=by simpa using hne
 have h63:¬((bs.length:Int)>IntKind.i64.max):=by
  have:IntKind.i64.max=9223372036854775807:=rfl;unfold rB at hmax;omega
 have hneg:¬(bs.length:Int)<0:=by omega
 have hz:¬(bs.length:Int)=0:=by omega
 have hdef:Builtin.unsafeString_ #[oX,bR] bT #[pT g 0,.int .i64 bs.length]=
   (do
    let n ←asInt (.int .i64 bs.length)
    if n<0 then runtimePanic (.error "unsafe.String: len out of range")
    if n>IntKind.i64.max then unsupported (.unsafePointer "String: a length above the largest int")
    if n=0 then pure (.string .empty)
    else if ←variablesAt ⟨g,0,none⟩ (←elemOf oX) n.toNat then do
     let s ←loadBytes ⟨g,0,none⟩ .empty n.toNat
     freeze ⟨g,0,none⟩ n.toNat
     pure (.string s)
    else unsupported (.unsafePointer "String: not so many bytes at ptr")):=rfl
 rw[hdef];have hs:kI h g=some (some (dU,cs.size)):=by unfold kI;rw[hb]
 have hv:cG PG h (variablesAt ⟨g,0,none⟩ dU bs.length)=some true:=by
  show(kI h g).bind _=_;rw[hs];have hc1:PG.cellsOf dU=1:=by kernel_rfl
  have:=Go.Lib.liesAt_bytes (P:=PG) hc1 (cs.size/PG.cellsOf dU) bs.length (by rw[hc1];simpa using hle);show some (liesAt PG PG.depth dU (cs.size/PG.cellsOf dU) 0 dU bs.length)=some true;rw[this]
 have hlb:=semE_loadBytes (h:=h) bs ⟨g,0,none⟩ .empty rfl (λj x hx=>by
  rw[lP];unfold dB;simp only[hb,fQ];have hj:j<bs.length:=(zLA.1 hx).1;have:(cs.toList.take bs.length)[j]? =some (.int .u8 x.toNat):=by rw[hcs,wA,hx];rfl
  rw[aJ9,if_pos hj] at this;simpa using this)
 have helem:cG PG h (elemOf oX)=some dU:=by kernel_rfl
 simp only[asInt,asIntOf,pure_bind,map_pure,hneg,h63,hz,if_false,rA];refine iD helem ?_;refine iD hv ?_;simp only[if_true];refine iD hlb ?_;show(∃o,h g=some o)∧_;refine⟨⟨_,hb⟩,?_⟩;have hfin:=hk (nJ h ⟨g,0,none⟩ bs.length) (λb o hbo hn=>by
  unfold nJ;rw[if_neg hl,if_neg (by simpa using hn)];exact hbo)
 show k (.string _) _;have e:(⟨ByteArray.empty.data++bs.toArray⟩:ByteArray)=tx bs:=by apply ByteArray.ext;simp[tx]
 rw[e];exact hfin
def unsafeNone{h:PH}{q:Option Addr}:cG PG h (Builtin.unsafeString_ #[oX,bR] bT #[.pointer q,.int .i64 0])=some (.string (tx [])):=by
 cases q<;>rfl
def String_ok{h:PH}{a:Nat}{bs:List UInt8}{F:List Nat}(hW:BAt h a bs F){k:cD}(hk:∀h',cQ F h h'->k (.string (tx bs)) h'):
  aT PG kU #[pT a 0] h k:=by
 obtain⟨p,v,G,ha,hp,hO,rfl,hn⟩:=hW;have hc:dB h ⟨a,1,none⟩=some v:=by simp[dB,ha]
 have lv:=hO.slR.len (t':=bR) dI.und;rw[iV] at lv;apply lB.call;unfold lB;simp only[dN.f1,dI.load,hc,lv,cE,reduceIte];have hload:∀h',dB h' ⟨a,1,none⟩=some v->cG PG h' (loadAt dI (pT a 1))=some v:=λh' h1=>by rw[dI.load];exact h1
 rcases hO.here with⟨rfl,hr,rfl⟩|⟨g,cap,cs,rfl,rfl,hb,hle,hmax,hsz,htk⟩
 ·have hnil:bs=[]:=by simpa using hr
  subst hnil;refine cG.semH (a:=.pointer none) rfl ?_;refine⟨hc,?_⟩;refine cG.semH unsafeNone ?_;exact hk _ cQ.refl
 ·simp only[iV] at *;by_cases hne:bs=[]
  ·subst hne;by_cases hc0:cap=0
   ·subst hc0;have hs:kI h g=some (some (dU,cs.size)):=by unfold kI;rw[hb]
    show dC PG (viewAt g >>= _) h _;refine iD (a:=none) (by rw[show viewAt g=(viewAt g >>= λx=>pure x) by simp,semE_viewAt hs];rfl) ?_;refine iD (a:=dU) (by kernel_rfl) ?_;intro r hr;have u:dD h (h.set r (.view ⟨g,0,none⟩ dU)):=cQ.new hr;refine⟨by rw[dB];simp[u.get ha],?_⟩;refine cG.semH unsafeNone ?_;exact hk _ u.upd
   ·refine cG.semH (a:=pT g 0) ?_ ?_
    ·show cG PG h (if cap≠0 then _ else _)=_;rw[if_pos hc0];rfl
    ·refine⟨hc,?_⟩;refine cG.semH unsafeNone ?_;exact hk _ cQ.refl
  ·have hpos:0<bs.length:=aIA.2 hne;refine cG.semH (a:=pT g 0) ?_ ?_
   ·show cG PG h (if cap≠0 then _ else _)=_;rw[if_pos (by omega)];rfl
   ·refine⟨hc,?_⟩;rw[Nat.mul_one,jQ.flat] at htk;refine unsafeStr hb (by omega) htk hne (by omega) λh' u=>?_;exact hk _ (u.mono λb hb=>.inl (by simp at hb;simp[hb]))
end Bld
end
section
open Go
section
variable{P:Program}{t e:TypeId}
def aM7{α:Type}{d:TypeInfo}(hi:P.info? t=some d)(f:TypeInfo->Sem α):jV P (typeInfo t >>= f)=jV P (f d):=by
 show jV P ((match P.info? t with|some d=>pure d|none=>stuck _:Sem TypeInfo).bind f)=_;rw[hi];rfl
def aQk{α:Type}{n:Nat}(f:Unit->Sem α):jV P (askRoom n >>= f)=jV P (f ()):=by
 unfold askRoom;split<;>rfl
def aTf(z:Array Value)(hz:0<z.size):∀n:Nat,((Array.range (n*z.size)).map (z[· % z.size]!)).toList=(List.replicate n z.toList).flatten:=by
 intro n;have hr:Rows z.size (List.replicate n z.toList):=λr hr=>by rw[List.eq_of_mem_replicate hr];simp
 apply List.ext_getElem?;intro j;have hfl:(List.replicate n z.toList).flatten.length=n*z.size:=by rw[hr.flat,aLX]
 by_cases hj:j<n*z.size
 ·have hi:j/z.size<n:=(Nat.div_lt_iff_lt_mul hz).2 hj;have hat:=hr.at (i:=j/z.size) (r:=z.toList) (by rw[List.getElem?_replicate,if_pos hi]);have hc:j%z.size<z.size:=zLB _ hz;have e1:(List.replicate n z.toList).flatten[j]? =z.toList[j%z.size]?:=by
   conv=>rhs;rw[←hat]
   rw[aJ9,if_pos hc,aOF];congr 1;rw[zLS];exact(Nat.div_add_mod j z.size).symm
  rw[e1];simp[hj,hc]
 ·rw[List.getElem?_eq_none (by simp;omega),List.getElem?_eq_none (by omega)]
def aCq{i:TypeInfo}{z:Value}{size bytes n:Nat}(hu:P.underlying t=some (.slice e))(hi:P.info? e=some i)(hn:i.size=size)(hb:i.bytes=bytes)(hz:i.zero=some z)(hzs:z.cells.size=size)(h0:0<size)
  (hle:bytes*n≤281474976710656) (hnn:n≤1000000000):
  ∃zs,jV P (Instr.makeSlice t (.int .i64 n) (.int .i64 n))=some (.cells zs e (0,0),λr=>pure (.slice (some ⟨r,0,none⟩) n n))∧zs.toList=(List.replicate n z.cells.toList).flatten:=by
 refine⟨(Array.range (n*z.cells.size)).map (z.cells[· % z.cells.size]!),?_,aTf _ (by omega) n⟩;have hw:IntKind.i64.wrap (n:Int)=n:=IntWalk.i64_in _ ⟨by omega,by omega⟩;unfold Instr.makeSlice;rw[aVj hu];dsimp only;show jV P (typeInfo e >>= _)=_;rw[aM7 hi,hb];have hc1:((bytes:Int)*(n:Int)>2^48)=False:=by
  apply eq_false;have:((bytes*n:Nat):Int)≤((281474976710656:Nat):Int):=Int.ofNat_le.2 hle;rw[Int.natCast_mul] at this;have h2:(2:Int)^48=((281474976710656:Nat):Int):=by rfl
  omega
 have hc2:((n:Int)<0)=False:=by apply eq_false;omega
 have hc3:((n:Int)>(n:Int))=False:=by apply eq_false;omega
 simp only[hw,hc1,hc2,hc3,decide_false,Bool.or_self,zLu,if_false,or_self];rw[aQk,kP,aM7 hi,hn];simp only[rA];by_cases hn0:n=0
 ·subst hn0;have hr:∀f:Nat->Value,(Array.range 0).map f= #[]:=λf=>by simp
  simp only[Nat.zero_mul,if_true,hr];rfl
 ·have hne:(n*size=0)=False:=by apply eq_false;intro h;rcases Nat.mul_eq_zero.1 h with h|h<;>omega
  simp only[hne,if_false];have hzv:∀(f:Value->Sem Value),jV P (zeroValue e >>= f)=jV P (f z):=λf=>by
   unfold zeroValue;show jV P ((typeInfo e >>= _) >>= f)=_;simp only[bind_assoc];rw[aM7 hi,hz];rfl
  rw[hzv,←hzs];rfl
end
end
section
open Go Bld
def aQX{h:PH}{l:List UInt8}:cG PG h (Builtin.firstCells 1 l.length (.string (tx l)))=some (l.map λb=>Value.int .u8 b.toNat).toArray:=by
 show some (((tx l).extract 0 l.length).data.map λb=>Value.int .u8 b.toNat)=_;congr 1;apply zLw;rw[ByteArray.data_extract];simp[tx,zLx]
def aWK{h:PH}{r:Nat}{c:Array Value}{l:List UInt8}(hb:h r=some (.cells c dU (0,0)))(hc:c.size=l.length)(hl:l≠[]){k:cD}
  (hk:k (.int .i64 l.length) (h.set r (.cells (l.map λb=>Value.int .u8 b.toNat).toArray dU (0,0)))):
  dC PG (Builtin.copy_ #[dI,bT] bR #[.slice (some ⟨r,0,none⟩) l.length l.length,.string (tx l)]) h k:=by
 have hmin:Nat.min l.length l.length=l.length:=Nat.min_self _;simp only[Builtin.copy_,zLK,qB,sL,qC dI.und,kP,mP dU.info,pure_bind,Builtin.lenOf,dU.size,iF,hmin];refine iD (s:=Builtin.firstCells 1 l.length (.string (tx l))) aQX ?_;refine dC.bind (P:=PG) (s:=storeCells _ _) ?_;refine rX (b:=r) (o:=0) (l.map λb=>Value.int .u8 b.toNat) 0 h c hb (by simp[hc]) (λv hv=>by obtain⟨b,-,rfl⟩:=mJ.1 hv;rfl) ?_;rw[if_neg (by simpa using hl),aOi (by simp[hc])];exact hk
def aSH{h:PH}{l:List UInt8}(hl:l.length≤1000000000){k:cD}(hk:∀h',dD h h'->k (.string (tx l)) h'):aT PG aGh #[.string (tx l)] h k:=by
 apply aGL.call;unfold aGL;apply sO.call;unfold sO;simp only[bT.len,iF,iG,cE,reduceIte];by_cases h0:l=[]
 ·subst h0;simp only[zLN,show(((0:Nat):Int)==0)=true from rfl,cE,reduceIte];exact hk _ cQ.refl
 ·have hpos:l.length≠0:=by simpa using h0
  have e0:(((l.length:Nat):Int)==0)=false:=by simpa using h0
  obtain⟨zs',hm,hz⟩:=aCq (P:=PG) (n:=l.length) dI.und dU.info dU.size dU.bytes dU.zero rfl (by decide) (by omega) hl;have hsz:zs'.size=l.length:=by
   rw[←Array.length_toList,hz];simp[Value.cells]
  simp only[e0,hm,cE,reduceIte];intro r hr;refine fP ?_
  try rw[cW]
  have u1:dD h (h.set r (.cells zs' dU (0,0))):=cQ.new hr;have a1:(h.set r (.cells zs' dU (0,0))) r=some (.cells zs' dU (0,0)):=dL;generalize h.set r (.cells zs' dU (0,0))=h1 at *;refine aWK a1 hsz h0 ?_;have u2:dD h (h1.set r (.cells (l.map λb=>Value.int .u8 b.toNat).toArray dU (0,0))):=u1.fresh (cQ.set (F:=[r]) (by simp)) (eK.one hr);have a2:(h1.set r (.cells (l.map λb=>Value.int .u8 b.toNat).toArray dU (0,0))) r=some (.cells (l.map λb=>Value.int .u8 b.toNat).toArray dU (0,0)):=dL;generalize h1.set r (.cells (l.map λb=>Value.int .u8 b.toNat).toArray dU (0,0))=h2 at *;have ea:dH PG (indexAt dI (.slice (some ⟨r,0,none⟩) l.length l.length) (.int .i64 0))=some (pT r 0):=by
   have:=aGM (P:=PG) (t:=dI) (b:=r) (o:=0) (len:=l.length) (cap:=l.length) (k:=.i64) (j:=0) dI.und dU.info dU.size (by decide) (by omega);simpa using this
  simp only[ea,dI.len,cE,reduceIte];refine unsafeStr a2 (by simp) (by rw[List.toList_toArray];exact lY (by simp)) h0 (by unfold rB;omega) λh' u=>?_;exact hk _ (u2.fresh u (eK.one hr))
def HAt(h:PH)(a:Nat)(s:S8)(r:List UInt8)(n:Nat):Prop:=h a=some (.cells (kA s (.string (tx r)) (.int .i64 n)) fJ (0,0))
def aPa(a:Nat):List Value->PH->Nat:=λ_ h=>match h a with
 | some (Obj.cells c _ _)=>match c[8]? with
  | some (Value.string t)=>t.size
  | _=>0
 | _=>0
def HAt.len{h:PH}{a:Nat}{s:S8}{r:List UInt8}{n:Nat}(H:HAt h a s r n){vs:List Value}:aPa a vs h=r.length:=by
 unfold HAt at H;simp[aPa,H,kA,iF]
def oP.ne{h:PH}(H:oP h){a:Nat}{s:S8}{x y:Value}{t:TypeId}(ha:h a=some (.cells (kA s x y) t (0,0))):a≠0:=by
 rintro rfl;obtain⟨t,fr,hb⟩:=H;rw[hb] at ha;have:=congrArg Array.size (Obj.cells.inj (aLd ha)).1;rw[List.size_toArray,iV,aK6] at this;simp[kA] at this
def oP.upd{h h':PH}(H:oP h){F:List Nat}(u:cQ F h h')(hF:0∉F):oP h':=by
 obtain⟨t,fr,hb⟩:=H;exact⟨t,fr,u.get hb hF⟩
def bAy{s:S8}{x y v:Value}:(kA s x y).setIfInBounds 9 v=kA s x v:=rfl
def aZJ{s:S8}{x y v:Value}:(kA s x y).setIfInBounds 8 v=kA s v y:=rfl
def aQ2{h:PH}{a:Nat}{s:S8}{r p:List UInt8}{n:Nat}(hK:oP h)(ha:HAt h a s r n)(hl:r.length+p.length≤1000000000)(hn:n+p.length≤1000000000000){k:cD}
  (hk:∀h',cQ [a] h h'->HAt h' a (qW s (r++p)).1 (qW s (r++p)).2 (n+p.length)->k (.tuple #[]) h'):aT PG aCW #[pT a 0,.string (tx p)] h k:=by
 apply aAg.call;unfold aAg;have hne:=hK.ne ha;have c9:dB h ⟨a,0+9,none⟩=some (.int .i64 n):=by unfold HAt at ha;simp[dB,ha,kA]
 have e1:IntKind.i64.wrap ((n:Int)+(p.length:Int))=((n+p.length:Nat):Int):=by rw[fH (by omega) (by omega)];omega
 simp only[fJ.f2,bR.load,c9,bT.len,iF,e1,cE,reduceIte];refine iT bR.und rfl ha (by simp[kA]) rfl bR.info bR.size ?_;rw[show 0+9=9 from rfl,bAy];have u1:cQ [a] h (h.set a (.cells (kA s (.string (tx r)) (.int .i64 ((n+p.length:Nat):Int))) fJ (0,0))):=cQ.set (by simp);have a1:HAt (h.set a (.cells (kA s (.string (tx r)) (.int .i64 ((n+p.length:Nat):Int))) fJ (0,0))) a s r (n+p.length):=dL;generalize h.set a (.cells (kA s (.string (tx r)) (.int .i64 ((n+p.length:Nat):Int))) fJ (0,0))=h1 at *;have c8:dB h1 ⟨a,0+8,none⟩=some (.string (tx r)):=by unfold HAt at a1;simp[dB,a1,kA]
 simp only[fJ.f1,bT.load,c8,mG (show r.length+p.length≤9223372036854775807 by omega),cE,reduceIte];refine aSH (by simpa using hl) λh2 u2=>?_;have a2:HAt h2 a s r (n+p.length):=u2.get a1;refine iT bT.und rfl a2 (by simp[kA]) rfl bT.info bT.size ?_;rw[show 0+8=8 from rfl,aZJ];have u3:cQ [a] h (h2.set a (.cells (kA s (.string (tx (r++p))) (.int .i64 ((n+p.length:Nat):Int))) fJ (0,0))):=(u1.trans u2.upd).trans (cQ.set (by simp));have a3:HAt (h2.set a (.cells (kA s (.string (tx (r++p))) (.int .i64 ((n+p.length:Nat):Int))) fJ (0,0))) a s (r++p) (n+p.length):=dL;generalize h2.set a (.cells (kA s (.string (tx (r++p))) (.int .i64 ((n+p.length:Nat):Int))) fJ (0,0))=h3 at *;generalize n+p.length=m at *;have hrl:(r++p).length≤1000000000:=by simpa using hl
 generalize hrp:r++p=q at *;refine⟨λvs h'=>∃s' r',vs=[pT a 0]∧r'.length≤1000000000∧qW s' r'=qW s q∧cQ [a] h h'∧HAt h' a s' r' m,aPa a,⟨s,q,rfl,hrl,rfl,u3,a3⟩,?_⟩;rintro ρ h' ⟨s',r',hvs,hr',hab,u',a'⟩;simp only[iH,jA,lN,and_true] at hvs;have hlen:=a'.len (vs:=[ρ 0]);simp only[hvs,iH,jA] at hlen ⊢;unfold aIh;have c8:dB h' ⟨a,0+8,none⟩=some (.string (tx r')):=by unfold HAt at a';simp[dB,a',kA]
 simp only[fJ.f1,bT.load,c8,bT.len,iF,cE,reduceIte];by_cases h64:64≤r'.length
 ·have e2:((64:Int)≤(r'.length:Int))=True:=eq_true (by omega);have ec:dH PG (Instr.sliceAt bT (.string (tx r')) none (some (.int .i64 64)) none)=some (.string (tx (r'.take 64))):=aId (i:=0) (j:=64) bT.und (.inl ⟨rfl,rfl⟩) (.inr ⟨_,rfl⟩) (by omega) h64;have ed:dH PG (Instr.sliceAt bT (.string (tx r')) (some (.int .i64 64)) none none)=some (.string (tx (r'.drop 64))):=by
   have:=aId (P:=PG) (t:=bT) (l:=r') (i:=64) (j:=r'.length) (lo:=some (.int .i64 64)) bT.und (.inr ⟨_,rfl⟩) (.inl ⟨rfl,rfl⟩) h64 (nC _);rw[zLJ] at this;exact this
  simp only[e2,fJ.f0,ec,cE,reduceIte];refine aZV (hK.upd u' (by simpa using λh=>hne h.symm)) (by simp;omega) a' λh4 u4 a4=>?_;have c8':dB h4 ⟨a,0+8,none⟩=some (.string (tx r')):=by simp[dB,a4,kA]
  simp only[fJ.f1,bT.load,c8',ed,cE,reduceIte];refine iT bT.und rfl a4 (by simp[kA]) rfl bT.info bT.size ?_;rw[show 0+8=8 from rfl,aZJ];have a5:HAt (h4.set a (.cells (kA (aKt s' (r'.take 64)) (.string (tx (r'.drop 64))) (.int .i64 (m:Int))) fJ (0,0))) a (aKt s' (r'.take 64)) (r'.drop 64) m:=dL;refine⟨⟨_,_,(by trivial),(by simp;omega),by rw[←aIX h64];exact hab,(u'.trans u4).trans (cQ.set (by simp)),a5⟩,?_⟩;rw[a5.len,hlen];simp;omega
 ·have e2:((64:Int)≤(r'.length:Int))=False:=eq_false (by omega);simp only[e2,cE,reduceIte];refine hk _ u' ?_;rw[←hab,aIc (by omega)];exact a'
def aNp:∀(n t:Nat) (acc:Array Value),(Extern.BytealgMakeNoZero.digits n t acc).size=acc.size+n
 | 0,_,acc=>rfl
 | n+1,t,acc=>by
  show(Extern.BytealgMakeNoZero.digits n (t/256) (acc.push _)).size=_;rw[aNp n];simp;omega
def aSI{n:Int}{h:PH}{Q:Next->PH->Prop}:dC PG (callFunc vP #[.int .i64 n]) h Q=dC PG (Extern.BytealgMakeNoZero.makeNoZero #[] #[dI] #[.int .i64 n] >>= λv=>pure (Next.value v)) h Q:=by kernel_rfl
def aQf{h:PH}{n:Nat}(hn:n≤140737488355328){k:cD}
  (hk:∀r cap (cs:Array Value),n≤cap->cap≤rB->cs.size=cap->h r=none->k (.slice (some ⟨r,0,none⟩) n cap) (h.set r (.cells cs dU (0,0)))):aT PG vP #[.int .i64 n] h k:=by
 refine .inr ?_;rw[aSI];refine dC.bind (P:=PG) (s:=Extern.BytealgMakeNoZero.makeNoZero #[] #[dI] #[.int .i64 n]) ?_;have h1:((decide ((n:Int)<0)||decide ((n:Int)>2^48))=true)=False:=by
  apply eq_false;have:¬((n:Int)>2^48):=by
   have h2:(2:Int)^48=281474976710656:=by rfl
   omega
  have h3:¬((n:Int)<0):=by omega
  simp[h3];omega
 show dC PG (underlying dI >>= _) h _;rw[qC dI.und];dsimp only;simp only[h1,if_false,pure_bind,rA];rw[aAe];intro tt;rw[aHM,aAe];intro bb;have hforced:(Question.appendCap n 0 5).forced=false:=rfl;rw[hforced];have hcut:n≤(Question.appendCap n 0 5).cut tt∧(Question.appendCap n 0 5).cut tt≤rB:=by
  have hpos:0<2^63-n:=by omega
  have:=zLB tt hpos;simp only[Question.cut,rB];omega
 generalize (if (Question.extern "internal/bytealg.MakeNoZero.bytes" 0).forced=true then 0 else(Question.extern "internal/bytealg.MakeNoZero.bytes" 0).cut bb)=B;show dC PG (newRow 5 _ >>= _) h _;intro r hr;exact⟨_,rfl,hk r _ _ hcut.1 hcut.2 (by rw[aNp];exact fQ _) hr⟩
def zB:dV PG dN= #[.pointer none,.slice none 0 0]:=by rw[dN.zc];rfl
def BAt.zero{h:PH}{a:Nat}(ha:h a=some (.cells #[.pointer none,.slice none 0 0] dN (0,0))):BAt h a [] [a]:=⟨_,_,[],ha,.inl rfl,eM.nil,rfl,by simp⟩
def aSf:dH PG (Builtin.cap_ #[dI] bR #[.slice none 0 0])=some (.int .i64 0):=by kernel_rfl
def bAP{r cap:Nat}{n:Nat}:dH PG (Instr.sliceAt dI (.slice (some ⟨r,0,none⟩) n cap) none (some (.int .i64 ((0:Nat):Int))) none)=some (.slice (some ⟨r,0,none⟩) 0 cap):=by
 have:=aJP (P:=PG) (t:=dI) (a:=some ⟨r,0,none⟩) (len:=n) (cap:=cap) (l:=0) (hh:=0) (lo:=none) (hi:=some (.int .i64 ((0:Nat):Int))) dI.und dU.info (.inl ⟨rfl,rfl⟩) (.inr ⟨_,rfl⟩) (by omega) (by omega);rw[this];by_cases hc:cap=0
 ·subst hc;simp
 ·rw[if_neg hc];simp[lP]
structure FB(h:PH)(a g cap:Nat)(bs:List UInt8):Prop where
 here:∃(cs:Array Value) (f:Nat),h a=some (.cells #[pT a 0,.slice (some ⟨g,0,none⟩) bs.length cap] dN (0,0))∧h g=some (.cells cs dU (0,f))∧f≤bs.length∧bs.length≤cap∧cs.size=cap∧cs.toList.take bs.length=(bs.map λb=>Value.int .u8 b.toNat)∧g≠a∧cap≤rB
def aPi(r n:Nat):List Value->PH->Nat:=λ_ h=>match h r with
 | some (Obj.cells c _ _)=>match c[1]? with
  | some (Value.slice _ m _)=>n-m
  | _=>0
 | _=>0
def FB.mu{h:PH}{a g cap:Nat}{bs:List UInt8}(H:FB h a g cap bs){n:Nat}{vs:List Value}:aPi a n vs h=n-bs.length:=by
 obtain⟨cs,f,ha,-⟩:=H;simp[aPi,ha]
def aYE{h:PH}{a n:Nat}(ha:h a=some (.cells #[.pointer none,.slice none 0 0] dN (0,0)))(hn:0<n)(hn2:n≤1000000){k:cD}
  (hk:∀h' g cap,FB h' a g cap []->n≤cap->cQ [a] h h'->h g=none->k (.tuple #[]) h'):aT PG aBG #[pT a 0,.int .i64 n] h k:=by
 apply rF.call;unfold rF;refine copyCheck_ok ha (.inl rfl) λh1 a1 u1 o1=>?_;have e1:((n:Int)<0)=False:=eq_false (by omega);have c1:dB h1 ⟨a,0+1,none⟩=some (.slice none 0 0):=by simp[dB,a1]
 have e2:IntKind.i64.wrap ((0:Int)-((0:Nat):Int))=0:=by rw[fH (by omega) (by omega)];omega
 have e3:((0:Int)<(n:Int))=True:=eq_true (by omega);simp only[e1,cE,reduceIte];unfold aFg;simp only[dN.f1,dI.load,c1,aSf,dI.len,e2,e3,cE,reduceIte];apply rD.call;unfold rD;have e4:IntKind.i64.wrap (2*(0:Int))=0:=by rw[fH (by omega) (by omega)];omega
 have e5:IntKind.i64.wrap ((0:Int)+(n:Int))=(n:Int):=by rw[fH (by omega) (by omega)];omega
 simp only[dN.f1,dI.load,c1,aSf,dI.len,e4,e5,cE,reduceIte];refine aQf (by omega) λr cap cs h2 h3 hsz hr=>?_;have u2:dD h1 (h1.set r (.cells cs dU (0,0))):=cQ.new hr;have b2:(h1.set r (.cells cs dU (0,0))) r=some (.cells cs dU (0,0)):=dL;generalize h1.set r (.cells cs dU (0,0))=h2' at *;have a2:=u2.get a1;have c1':dB h2' ⟨a,0+1,none⟩=some (.slice none 0 0):=by simp[dB,a2]
 have hne:r≠a:=λe=>by subst e;rw[a1] at hr;cases hr
 refine⟨c1',?_⟩;simp only[dN.f1,dI.load,c1',bAP,cE,reduceIte];have hcp:cG PG h2' (Builtin.copy_ #[dI,dI] bR #[.slice (some ⟨r,0,none⟩) 0 cap,.slice none 0 0])=some (.int .i64 0):=by kernel_rfl
 refine cG.semH hcp ?_;refine iT dI.und rfl a2 (by simp) rfl dI.info dI.size ?_;refine hk _ r cap ⟨cs,0,dL,by rw[qY hne];exact b2,by simp,by simp,by omega,by simp,hne,h3⟩ h2 ((u1.trans u2.upd).trans (cQ.set (by simp))) ?_;rw[←o1 r hne];exact hr
def aV0:dH PG (binOp .and cA (.int .u64 0) (.int .u64 4294967295))=some (.int .u64 0):=by kernel_rfl
def aXV:dH PG (binOp .and cA (.int .u64 1) (.int .u64 4294967295))=some (.int .u64 1):=by kernel_rfl
def bAS:∀n:Fin 64,(BitVec.ofInt 64 (n.val:Int) &&& BitVec.ofInt 64 4294967295).toNat=n.val:=by decide
def aZU{n:Nat}(hn:n<64):dH PG (binOp .and cA (.int .u64 (n:Int)) (.int .u64 4294967295))=some (.int .u64 (n:Int)):=by
 have e:dH PG (binOp .and cA (.int .u64 (n:Int)) (.int .u64 4294967295))=some (.int .u64 (IntKind.u64.wrap ((BitVec.ofInt 64 (n:Int) &&& BitVec.ofInt 64 4294967295).toNat:Int))):=rfl;have:=bAS ⟨n,hn⟩;simp only at this;rw[e,this,gO (by omega) (by omega)]
def aTe{n:Nat}(hn:n<64):dH PG (binOp .shr cA (.int .u64 (n:Int)) (.int .u64 32))=some (.int .u64 0):=by
 rw[aJn (by decide)];congr 2;show(n:Int).fdiv (2^32)=0;rw[Int.fdiv_eq_ediv_of_nonneg _ (by decide)];have:(2:Int)^32=4294967296:=by rfl
 omega
def aZ1:dH PG (binOp .shr cA (.int .u64 0) (.int .u64 32))=some (.int .u64 0):=aTe (n:=0) (by decide)
def aY5:dH PG (binOp .shr cA (.int .u64 1) (.int .u64 32))=some (.int .u64 0):=aTe (n:=1) (by decide)
def aZL{h:PH}{n:Nat}(hn:n<64){k:cD}(hk:k (.tuple #[.int .u64 0,.int .u64 n]) h):aT PG aGa #[.int .u64 1,.int .u64 n] h k:=by
 apply aGF.call;unfold aGF;simp only[cE,reduceIte];apply aEV.call;unfold aEV;have w0:IntKind.u64.wrap 0=0:=rfl;have wn:IntKind.u64.wrap (n:Int)=n:=gO (by omega) (by omega);simp only[aXV,aY5,aZU hn,aTe hn,Int.one_mul,Int.zero_mul,Int.mul_zero,wn,w0,Int.add_zero,aV0,aZ1,cE,reduceIte];exact hk
def aJy{b o f:Nat}{e:TypeId}{Q:Unit->PH->Prop}:∀(vs:List Value) (i:Nat) (h:PH) (c:Array Value),h b=some (.cells c e (0,f))->f≤o+i->o+i+vs.length≤c.size->(∀v∈vs,fW v=true)->
  Q () (if vs=[] then h else h.set b (.cells (vH c (o+i) vs) e (0,f)))->dC PG (storeCells ⟨b,o,none⟩ vs i) h Q
 | [],i,h,c,_,_,_,_,hq=>by
  show Q () h;simpa using hq
 | v::vs,i,h,c,hb,hf,hle,hv,hq=>by
  simp only[qE] at hle;have hlt:o+i<c.size:=by omega
  have ha:(⟨b,o,none⟩:Addr).add i=⟨b,o+i,none⟩:=lP ..;show fW v=true∧vX h ((⟨b,o,none⟩:Addr).add i)=false∧(∃u,dB h ((⟨b,o,none⟩:Addr).add i)=some u)∧dC PG (storeCells ⟨b,o,none⟩ vs (i+1)) (tE h ((⟨b,o,none⟩:Addr).add i) v) Q;rw[ha];refine⟨hv v (by simp),by simp[vX,hb];omega,⟨c[o+i],by simp[dB,hb,hlt]⟩,?_⟩;have hset:tE h ⟨b,o+i,none⟩ v=h.set b (.cells (c.setIfInBounds (o+i) v) e (0,f)):=by
   funext x;unfold tE PH.set;by_cases hx:x=b
   ·subst hx;simp[hb]
   ·simp[hx]
  rw[hset];refine aJy vs (i+1) _ _ dL (by omega) (by simp;omega) (λu hu=>hv u (by simp[hu])) ?_;have h2:∀o1 o2:Obj,(h.set b o1).set b o2=h.set b o2:=λo1 o2=>by funext x;unfold PH.set;split<;>rfl
  simp only[List.cons_ne_nil,if_false] at hq;split
  ·rename_i hvs;subst hvs;simpa[vH] using hq
  ·rw[h2];simpa[vH,Nat.add_assoc] using hq
def aTD{h:PH}{g:Nat}{cs:Array Value}{fr:Nat×Nat}{bs:List UInt8}(hb:h g=some (.cells cs dU fr))(hle:bs.length≤cs.size)(hcs:cs.toList.take bs.length=bs.map λb=>Value.int .u8 b.toNat)(hne:bs≠[])(hmax:bs.length≤rB){k:cD}
  (hk:k (.string (tx bs)) (nJ h ⟨g,0,none⟩ bs.length)):dC PG (Builtin.unsafeString_ #[oX,bR] bT #[pT g 0,.int .i64 bs.length]) h k:=by
 have hl:bs.length≠0:=by simpa using hne
 have h63:¬((bs.length:Int)>IntKind.i64.max):=by
  have:IntKind.i64.max=9223372036854775807:=rfl;unfold rB at hmax;omega
 have hneg:¬(bs.length:Int)<0:=by omega
 have hz:¬(bs.length:Int)=0:=by omega
 have hdef:Builtin.unsafeString_ #[oX,bR] bT #[pT g 0,.int .i64 bs.length]=
   (do
    let n ←asInt (.int .i64 bs.length)
    if n<0 then runtimePanic (.error "unsafe.String: len out of range")
    if n>IntKind.i64.max then unsupported (.unsafePointer "String: a length above the largest int")
    if n=0 then pure (.string .empty)
    else if ←variablesAt ⟨g,0,none⟩ (←elemOf oX) n.toNat then do
     let s ←loadBytes ⟨g,0,none⟩ .empty n.toNat
     freeze ⟨g,0,none⟩ n.toNat
     pure (.string s)
    else unsupported (.unsafePointer "String: not so many bytes at ptr")):=rfl
 rw[hdef];have hs:kI h g=some (some (dU,cs.size)):=by unfold kI;rw[hb]
 have hv:cG PG h (variablesAt ⟨g,0,none⟩ dU bs.length)=some true:=by
  show(kI h g).bind _=_;rw[hs];have hc1:PG.cellsOf dU=1:=by kernel_rfl
  have:=Go.Lib.liesAt_bytes (P:=PG) hc1 (cs.size/PG.cellsOf dU) bs.length (by rw[hc1];simpa using hle);show some (liesAt PG PG.depth dU (cs.size/PG.cellsOf dU) 0 dU bs.length)=some true;rw[this]
 have hlb:=semE_loadBytes (h:=h) bs ⟨g,0,none⟩ .empty rfl (λj x hx=>by
  rw[lP];unfold dB;simp only[hb,fQ];have hj:j<bs.length:=(zLA.1 hx).1;have:(cs.toList.take bs.length)[j]? =some (.int .u8 x.toNat):=by rw[hcs,wA,hx];rfl
  rw[aJ9,if_pos hj] at this;simpa using this)
 have helem:cG PG h (elemOf oX)=some dU:=by kernel_rfl
 simp only[asInt,asIntOf,pure_bind,map_pure,hneg,h63,hz,if_false,rA];refine iD helem ?_;refine iD hv ?_;simp only[if_true];refine iD hlb ?_;show(∃o,h g=some o)∧_;refine⟨⟨_,hb⟩,?_⟩;show k (.string _) _;have e:(⟨ByteArray.empty.data++bs.toArray⟩:ByteArray)=tx bs:=by apply ByteArray.ext;simp[tx]
 rw[e];exact hk
def FB.len{h:PH}{a g cap:Nat}{bs:List UInt8}(H:FB h a g cap bs){k:cD}(hk:k (.int .i64 bs.length) h):aT PG sM #[pT a 0] h k:=by
 obtain⟨cs,f,ha,-⟩:=H;apply aBB.call;unfold aBB;have c1:dB h ⟨a,0+1,none⟩=some (.slice (some ⟨g,0,none⟩) bs.length cap):=by simp[dB,ha]
 simp only[dN.f1,dI.load,c1,dI.len,cE,reduceIte];exact hk
def FB.string{h:PH}{a g cap:Nat}{bs:List UInt8}(H:FB h a g cap bs)(hne:bs≠[]){k:cD}(hk:∀h',FB h' a g cap bs->cQ [g] h h'->k (.string (tx bs)) h'):aT PG kU #[pT a 0] h k:=by
 obtain⟨cs,f,ha,hg,hf,hc,hsz,htk,hga,hmx⟩:=H;have hpos:bs.length≠0:=by simpa using hne
 apply lB.call;unfold lB;have c1:dB h ⟨a,0+1,none⟩=some (.slice (some ⟨g,0,none⟩) bs.length cap):=by simp[dB,ha]
 simp only[dN.f1,dI.load,c1,dI.len,cE,reduceIte];refine cG.semH (a:=pT g 0) ?_ ?_
 ·show cG PG h (if cap≠0 then _ else _)=_;rw[if_pos (by omega)];rfl
 ·refine⟨c1,?_⟩;refine aTD hg (by omega) htk hne (by omega) ?_;have hg':nJ h ⟨g,0,none⟩ bs.length g=some (.cells cs dU (0,bs.length)):=by
   unfold nJ;rw[if_neg hpos,if_pos rfl];simp only[hg];by_cases h0:f=0
   ·subst h0;simp
   ·have:((0==f)=true)=False:=by simp;omega
    simp only[this,if_false];congr 3
    ·exact Nat.max_eq_right (by omega) |>.trans (fQ _)
  have hoth:∀b,b≠g->nJ h ⟨g,0,none⟩ bs.length b=h b:=λb hb=>by
   unfold nJ;rw[if_neg hpos,if_neg hb]
  exact hk _ ⟨cs,bs.length,by rw[hoth a hga.symm];exact ha,hg',nC _,hc,hsz,htk,hga,hmx⟩ (λb o hb hn=>by rw[hoth b (by simpa using hn)];exact hb)
def FB.write{h:PH}{a g cap:Nat}{bs ys:List UInt8}(H:FB h a g cap bs)(hle:bs.length+ys.length≤cap)(hcap:bs.length+ys.length≤1000000){k:cD}(hk:∀v h',FB h' a g cap (bs++ys)->cQ [a,g] h h'->k v h'):
  aT PG lC #[pT a 0,.string (tx ys)] h k:=by
 obtain⟨cs,f,ha,hg,hf,hc,hsz,htk,hga,hmx⟩:=H;apply kZ.call;unfold kZ;refine copyCheck_ok ha (.inr rfl) λh1 a1 u1 o1=>?_;have g1:h1 g=some (.cells cs dU (0,f)):=by rw[o1 g hga];exact hg
 have c1:dB h1 ⟨a,0+1,none⟩=some (.slice (some ⟨g,0,none⟩) bs.length cap):=by simp[dB,a1]
 simp only[dN.f1,dI.load,c1,bT.len,iF,cE,reduceIte]
 -- the append
 simp only[Builtin.append_,zLK,qB,sL,qC dI.und,qC bT.und,kP,mP dU.info,pure_bind,zLu,if_false,Builtin.lenOf,zLq,if_true,dU.size,iF];rw[if_pos hle];refine iD (aQX (l:=ys)) ?_;have hadd:(⟨g,0,none⟩:Addr).add (bs.length*1)=⟨g,bs.length,none⟩:=by rw[lP];simp
 show dC PG (storeCells ((⟨g,0,none⟩:Addr).add (bs.length*1)) (ys.map λb=>Value.int .u8 b.toNat).toArray.toList >>= λ_=>pure _) h1 _;rw[hadd];refine dC.bind (P:=PG) (s:=storeCells _ _) ?_;refine aJy (b:=g) (o:=bs.length) (f:=f) (ys.map λb=>Value.int .u8 b.toNat) 0 h1 cs g1 (by omega) (by simp;omega) (λv hv=>by obtain⟨b,-,rfl⟩:=mJ.1 hv;rfl) ?_;have key:∀h2:PH,(∃cs',h2 g=some (.cells cs' dU (0,f))∧cs'.size=cap∧cs'.toList.take (bs.length+ys.length)=((bs++ys).map λb=>Value.int .u8 b.toNat))->h2 a=h1 a->cQ [g] h1 h2->
   dC PG (dT dI (pT a (0+1)) (.slice (some ⟨g,0,none⟩) (bs.length+ys.length) cap)) h2 λ_ h3=>k (.tuple #[.int .i64 ys.length,.nilIface]) h3:=by
  intro h2 ⟨cs',hg2,hs2,ht2⟩ ha2 u2;refine iT dI.und rfl (by rw[ha2];exact a1) (by simp) rfl dI.info dI.size ?_;refine hk _ _ ⟨cs',f,?_,by rw[qY hga];exact hg2,by simp;omega,by simpa using hle,hs2,by simpa using ht2,hga,hmx⟩ (((u1.mono λb hb=>.inl (by simp at hb;simp[hb])).trans (u2.mono λb hb=>.inl (by simp at hb;simp[hb]))).trans (cQ.set (by simp)));rw[dL];simp
 by_cases hy:ys=[]
 ·subst hy;rw[if_pos (show(List.map (λb=>Value.int .u8 (b.toNat:Int)) ([]:List UInt8))=[] from rfl)];exact key h1 ⟨cs,g1,hsz,by simpa using htk⟩ rfl cQ.refl
 ·rw[if_neg (by simpa using hy)];refine key _ ⟨_,dL,by rw[aFv];exact hsz,?_⟩ (qY hga.symm) (cQ.set (by simp));rw[Nat.add_zero,aB7 _ _ _ (by simp;omega),htk];rw[zLH (by simp),lY (by simp),pO]
def aPk{n m:Nat}(h:m≤n):(List.replicate n (0:UInt8)).take m=List.replicate m 0:=by rw[List.take_replicate,aHZ h]
def bAZ{ts:Array TypeId}{t:TypeId}{k:IntKind}{x y z:Int}:dH PG (Builtin.min_ ts t #[.int k x,.int k y,.int k z])=some (.int k (if z<(if y<x then y else x) then z else(if y<x then y else x))):=(rfl)
def aSC(x:Int):dH PG (convert oA bR (.int .u64 x))=some (.int .i64 (IntKind.i64.wrap x)):=by kernel_rfl
def aUx{h:PH}{n:Nat}(hn:n<64){k:cD}(hk:∀h',dD h h'->k (.string (tx (List.replicate n 0))) h'):aT PG aFm #[.string (tx [0]),.int .i64 n] h k:=by
 apply aFd.call;unfold aFd;simp only[iG,cE,reduceIte];by_cases h0:n=0
 ·subst h0;simp only[show(((0:Nat):Int)==0)=true from rfl,cE,reduceIte];exact hk _ cQ.refl
 ·have e0:((n:Int)==0)=false:=by simpa using h0
  simp only[e0,cE,reduceIte];by_cases h1:n=1
  ·subst h1;simp only[show(((1:Nat):Int)==1)=true from rfl,cE,reduceIte];exact hk _ cQ.refl
  ·have e1:((n:Int)==1)=false:=by simp;omega
   have e2:((n:Int)<0)=False:=eq_false (by omega);simp only[e1,e2,cE,reduceIte];unfold aI7;have w1:IntKind.u64.wrap (([0]:List UInt8).length:Int)=1:=rfl;have wn:IntKind.u64.wrap (n:Int)=n:=gO (by omega) (by omega);simp only[bT.len,iF,aKw,w1,wn,cE,reduceIte];refine aZL hn ?_;have e3:((9223372036854775807:Int)<(n:Int))=False:=eq_false (by omega);simp only[aKR,aKP,show((0:Int)<0)=False from eq_false (by decide),e3,cE,reduceIte];unfold aIg;have wi:IntKind.i64.wrap (n:Int)=n:=fH (by omega) (by omega);have i0:dH PG (Instr.index bT (.string (tx [0])) (.int .i64 0))=some (.int .u8 ((0:UInt8).toNat:Int)):=aAu (j:=0) bT.und rfl;have z0:(((0:UInt8).toNat:Int))=0:=rfl;have w2:(([0]:List UInt8).length:Int)=1:=rfl;have hz:((1:Int)==0)=false:=rfl;have d1:((0:Int)==32)=false:=rfl;have d2:((0:Int)==45)=false:=rfl;have d3:((0:Int)==48)=false:=rfl;have d4:((0:Int)==61)=false:=rfl;have d5:((0:Int)==9)=false:=rfl;simp only[bT.len,iF,aSC,wi,i0,z0,w2,hz,d1,d2,d3,d4,d5,cE,reduceIte];unfold tG;simp only[cE,reduceIte];unfold aEw aIj;have e4:((8192:Int)<(n:Int))=False:=eq_false (by omega);simp only[e4,cE,reduceIte];unfold aBb;rw[zB];intro r hr
   try rw[cW]
   have u1:dD h (h.set r (.cells #[.pointer none,.slice none 0 0] dN)):=cQ.new hr;have a1:(h.set r (.cells #[.pointer none,.slice none 0 0] dN)) r=some (.cells #[.pointer none,.slice none 0 0] dN (0,0)):=dL;generalize h.set r (.cells #[.pointer none,.slice none 0 0] dN)=h1 at *;refine aYE a1 (n:=n) (by omega) (by omega) λh2 g cap hF hcap u2 hg=>?_;have ug:cQ [r,g] h h2:=(u1.upd.trans (u2.mono λb hb=>.inl (by simp at hb;simp[hb])));have hgn:h g=none:=u1.none hg;have fin:∀h',cQ [r,g] h h'->dD h h':=λh' u b o hb _=>u b o hb (by
    simp only[gU,lH,or_false,not_or];exact⟨(λe=>by rw[e,hr] at hb;cases hb),(λe=>by rw[e,hgn] at hb;cases hb)⟩)
   refine FB.write hF (ys:=[0]) (by simpa using by omega) (by simp) λv h3 hF3 u3=>?_;refine⟨λvs h'=>∃m,1≤m∧m≤n∧vs=[.int .i64 n,.int .i64 n,pT r 0]∧cQ [r,g] h h'∧FB h' r g cap (List.replicate m 0),aPi r n,⟨1,by omega,by omega,rfl,ug.trans u3,hF3⟩,?_⟩;rintro ρ h' ⟨m,hm1,hm2,hvs,u',F'⟩;simp only[iH,jA,lN,and_true] at hvs;obtain⟨v7,v8,v9⟩:=hvs;have hr':=F'.mu (n:=n) (vs:=[ρ 7,ρ 8,ρ 9]);simp only[v7,v8,v9,iH,jA,aLX] at hr' ⊢;unfold aHs;refine F'.len ?_;simp only[aLX,cE,reduceIte];by_cases hmn:m<n
   ·have f1:((m:Int)<(n:Int))=True:=eq_true (by omega);simp only[f1,cE,reduceIte];refine F'.len ?_;have f2:IntKind.i64.wrap ((n:Int)-(m:Int))=((n-m:Nat):Int):=by rw[fH (by omega) (by omega)];omega
    simp only[aLX,f2,cE,reduceIte];refine F'.len ?_;have f3:(if (n:Int)<(if (m:Int)<((n-m:Nat):Int) then(m:Int) else((n-m:Nat):Int)) then(n:Int) else(if (m:Int)<((n-m:Nat):Int) then(m:Int) else((n-m:Nat):Int)))=((min m (n-m):Nat):Int):=by
     split<;>split<;>omega
    simp only[aLX,bAZ,f3,cE,reduceIte];refine F'.string (by simp;omega) λh4 F4 u4=>?_;have ec:dH PG (Instr.sliceAt bT (.string (tx (List.replicate m 0))) none (some (.int .i64 ((min m (n-m):Nat):Int))) none)=some (.string (tx (List.replicate (min m (n-m)) 0))):=by
     have:=aId (P:=PG) (t:=bT) (l:=List.replicate m 0) (i:=0) (j:=min m (n-m)) (lo:=none) (hi:=some (.int .i64 ((min m (n-m):Nat):Int))) bT.und (.inl ⟨rfl,rfl⟩) (.inr ⟨_,rfl⟩) (by omega) (by simp;omega);rw[this,aPk (by omega),zLb]
    simp only[ec,cE,reduceIte];refine F4.write (by simp;omega) (by simp;omega) λv5 h5 F5 u5=>?_;rw[List.replicate_append_replicate] at F5;refine⟨⟨m+min m (n-m),by omega,by omega,(by trivial),(u'.trans (u4.mono λb hb=>.inl (by simp at hb;simp[hb]))).trans u5,F5⟩,?_⟩;rw[F5.mu,hr',aLX];omega
   ·have f1:((m:Int)<(n:Int))=False:=eq_false (by omega);simp only[f1,cE,reduceIte];refine F'.string (by simp;omega) λh4 F4 u4=>?_;have:m=n:=by omega
    subst this;exact hk _ (fin _ (u'.trans (u4.mono λb hb=>.inl (by simp at hb;simp[hb]))))
def aWC{s:S8}:dH PG (Instr.index eZ (.agg #[wv s.a,wv s.b,wv s.c,wv s.d,wv s.e,wv s.f,wv s.g,wv s.h]) (.int .i64 0))=some (wv s.a):=by kernel_rfl
def aV2{s:S8}:dH PG (Instr.index eZ (.agg #[wv s.a,wv s.b,wv s.c,wv s.d,wv s.e,wv s.f,wv s.g,wv s.h]) (.int .i64 1))=some (wv s.b):=by kernel_rfl
def aWt{s:S8}:dH PG (Instr.index eZ (.agg #[wv s.a,wv s.b,wv s.c,wv s.d,wv s.e,wv s.f,wv s.g,wv s.h]) (.int .i64 2))=some (wv s.c):=by kernel_rfl
def aV8{s:S8}:dH PG (Instr.index eZ (.agg #[wv s.a,wv s.b,wv s.c,wv s.d,wv s.e,wv s.f,wv s.g,wv s.h]) (.int .i64 3))=some (wv s.d):=by kernel_rfl
def aWJ{s:S8}:dH PG (Instr.index eZ (.agg #[wv s.a,wv s.b,wv s.c,wv s.d,wv s.e,wv s.f,wv s.g,wv s.h]) (.int .i64 4))=some (wv s.e):=by kernel_rfl
def aVt{s:S8}:dH PG (Instr.index eZ (.agg #[wv s.a,wv s.b,wv s.c,wv s.d,wv s.e,wv s.f,wv s.g,wv s.h]) (.int .i64 5))=some (wv s.f):=by kernel_rfl
def aV4{s:S8}:dH PG (Instr.index eZ (.agg #[wv s.a,wv s.b,wv s.c,wv s.d,wv s.e,wv s.f,wv s.g,wv s.h]) (.int .i64 6))=some (wv s.g):=by kernel_rfl
def aWN{s:S8}:dH PG (Instr.index eZ (.agg #[wv s.a,wv s.b,wv s.c,wv s.d,wv s.e,wv s.f,wv s.g,wv s.h]) (.int .i64 7))=some (wv s.h):=by kernel_rfl
def aY0{s:S8}{i:Nat}(hi:i<8):dH PG (Instr.index eZ (.agg #[wv s.a,wv s.b,wv s.c,wv s.d,wv s.e,wv s.f,wv s.g,wv s.h]) (.int .i64 (i:Int)))=some (wv (s.l.getD i 0)):=by
 have:i=0∨i=1∨i=2∨i=3∨i=4∨i=5∨i=6∨i=7:=by omega
 rcases this with rfl|rfl|rfl|rfl|rfl|rfl|rfl|rfl
 ·exact aWC
 ·exact aV2
 ·exact aWt
 ·exact aV8
 ·exact aWJ
 ·exact aVt
 ·exact aV4
 ·exact aWN
def aPe(slot:Nat):List Value->PH->Nat:=λvs _=>match vs[slot]? with
 | some (Value.int _ v)=>(v+8).toNat
 | _=>0
def aZz(x:W):Value.int .u8 (IntKind.u8.wrap (x.toNat:Int))= .int .u8 ((UInt8.ofNat x.toNat).toNat:Int):=by
 rw[aJV,UInt8.toNat_ofNat'];congr 1
def aU6(x:W):dH PG (convert cL dU (wv x))=some (.int .u8 ((UInt8.ofNat x.toNat).toNat:Int)):=by
 unfold wv;rw[aYL,aZz]
def aT7(x:W):(wb x).length=4:=rfl
def bA4(x:W){j:Nat}(hj:j<4):dH PG (binOp .shr cL (wv x) (.int .i64 (24-8*(j:Int))))=some (wv (x>>>(24-8*j))):=by
 have:=aKg (P:=PG) (t:=cL) (x:=x) (k:=.i64) (n:=24-8*j) (by omega);rw[←this];congr 3;omega
def aXn(x:W){j:Nat}(hj:j<4):(wb x).take (j+1)=(wb x).take j++[UInt8.ofNat (x>>>(24-8*j)).toNat]:=by
 have:j=0∨j=1∨j=2∨j=3:=by omega
 rcases this with rfl|rfl|rfl|rfl
 ·rfl
 ·rfl
 ·rfl
 ·show wb x=[_,_,_]++[UInt8.ofNat (x>>>0).toNat];rw[BitVec.ushiftRight_zero];rfl
def aRp(s:S8){i:Nat}(hi:i<8):(s.l.take (i+1)).flatMap wb=(s.l.take i).flatMap wb++wb (s.l.getD i 0):=by
 have:i=0∨i=1∨i=2∨i=3∨i=4∨i=5∨i=6∨i=7:=by omega
 rcases this with rfl|rfl|rfl|rfl|rfl|rfl|rfl|rfl<;>rfl
def aSh(s:S8){i:Nat}(hi:i≤8):((s.l.take i).flatMap wb).length≤32:=by
 have:i=0∨i=1∨i=2∨i=3∨i=4∨i=5∨i=6∨i=7∨i=8:=by omega
 rcases this with rfl|rfl|rfl|rfl|rfl|rfl|rfl|rfl|rfl<;>(simp[S8.l,wb])
def aTs{h:PH}{a:Nat}{s:S8}{x y:Value}(ha:h a=some (.cells (kA s x y) fJ (0,0))){k:cD}(hk:∀h',dD h h'->k (.string (tx (aJT s))) h'):
  aT PG aEE #[pT a 0] h k:=by
 apply xK.call;unfold xK;rw[zB];intro r hr
 try rw[cW]
 have u1:dD h (h.set r (.cells #[.pointer none,.slice none 0 0] dN)):=cQ.new hr;have b1:BAt (h.set r (.cells #[.pointer none,.slice none 0 0] dN)) r [] [r]:=BAt.zero dL;generalize h.set r (.cells #[.pointer none,.slice none 0 0] dN)=h1 at *;have ha1:=u1.get ha;have lA:=eZ.loadAgg (o:=0) ha1 (by simp[kA]);have lE:(kA s x y).extract 0 (0+8)= #[wv s.a,wv s.b,wv s.c,wv s.d,wv s.e,wv s.f,wv s.g,wv s.h]:=rfl;rw[lE] at lA;simp only[iA.f0,lA,cE,reduceIte];refine⟨λvs h'=>∃(i:Nat) (F:List Nat),i≤8∧vs=[pT r 0,.agg #[wv s.a,wv s.b,wv s.c,wv s.d,wv s.e,wv s.f,wv s.g,wv s.h],.int .i64 (i:Int)]∧BAt h' r ((s.l.take i).flatMap wb) F∧eK h F∧dD h h',gQ 8 2,⟨0,[r],by omega,rfl,b1,eK.one hr,u1⟩,?_⟩;rintro ρ h' ⟨i,F,hi,hvs,B,fF,u⟩;simp only[iH,jA,lN,and_true] at hvs;obtain⟨v3,v10,v11⟩:=hvs;simp only[v3,v10,v11,iH,jA];unfold aHx;by_cases hl:i<8
 ·have e1:((i:Int)<8)=True:=eq_true (by omega);simp only[e1,aY0 hl,cE,reduceIte];refine⟨λvs h'=>∃(j:Nat) (F:List Nat),j≤4∧vs=[pT r 0,wv (s.l.getD i 0),.int .i64 (24-8*(j:Int)),.agg #[wv s.a,wv s.b,wv s.c,wv s.d,wv s.e,wv s.f,wv s.g,wv s.h],.int .i64 (i:Int)]∧BAt h' r ((s.l.take i).flatMap wb++(wb (s.l.getD i 0)).take j) F∧eK h F∧dD h h',aPe 2,⟨0,F,by omega,rfl,by simpa using B,fF,u⟩,?_⟩;rintro ρ2 h2 ⟨j,F2,hj,hvs,B2,fF2,u2⟩;simp only[iH,jA,lN,and_true] at hvs;obtain⟨w3,w5,w6,w10,w11⟩:=hvs;simp only[w3,w5,w6,w10,w11,iH,jA];unfold aHA;by_cases hj4:j<4
  ·have e2:((0:Int)≤24-8*(j:Int))=True:=eq_true (by omega);have e3:IntKind.i64.wrap (24-8*(j:Int)-8)=24-8*((j+1:Nat):Int):=by rw[fH (by omega) (by omega)];omega
   have hsh:=bA4 (s.l.getD i 0) hj4;simp only[e2,hsh,aU6,cE,reduceIte];have hlen:((s.l.take i).flatMap wb++(wb (s.l.getD i 0)).take j).length+1≤140737488355328:=by
    have h1:=aSh s hi;have h2:((wb (s.l.getD i 0)).take j).length≤4:=by rw[nI,aT7];omega
    rw[jM];omega
   refine WriteByte_ok B2 hlen _ ?_;intro h3 F3 B3 u3 k3;simp only[e3,cE,reduceIte];refine⟨⟨j+1,F3,by omega,(by trivial),?_,fF2.grow u2 k3,u2.fresh u3 fF2⟩,?_⟩
   ·rw[aXn _ hj4,←nM];exact B3
   ·simp only[aPe,sL,qB];omega
  ·have hj':j=4:=by omega
   subst hj';have e2:((0:Int)≤24-8*((4:Nat):Int))=False:=eq_false (by decide);have e3:=qN (i:=i) (by omega);simp only[e2,e3,cE,reduceIte];refine⟨⟨i+1,F2,by omega,rfl,?_,fF2,u2⟩,?_⟩
   ·rw[aRp s hl];exact B2
   ·simp only[gQ,sL,qB];omega
 ·have hi':i=8:=by omega
  subst hi';simp only[show(((8:Nat):Int)<8)=False from eq_false (by decide),cE,reduceIte];refine String_ok B λh3 u3=>?_;exact hk _ (u.fresh u3 fF)
def aB1(x:Int):dH PG (convert bR cA (.int .i64 x))=some (.int .u64 (IntKind.u64.wrap x)):=by kernel_rfl
def aQj(x:Int):dH PG (convert cA dU (.int .u64 x))=some (.int .u8 (IntKind.u8.wrap x)):=by kernel_rfl
def aXJ{n:Nat}{j:Nat}(hj:j<8):dH PG (binOp .shr cA (.int .u64 (n:Int)) (.int .i64 (56-8*(j:Int))))=some (.int .u64 ((n/256^(8-1-j):Nat):Int)):=by
 rw[aJn (by omega)];congr 2;have e:min ((56-8*(j:Int)).toNat) (IntKind.u64.bits)=56-8*j:=by
  show min ((56-8*(j:Int)).toNat) 64=_;omega
 have e2:(256:Nat)^(8-1-j)=2^(56-8*j):=by
  have:j=0∨j=1∨j=2∨j=3∨j=4∨j=5∨j=6∨j=7:=by omega
  rcases this with rfl|rfl|rfl|rfl|rfl|rfl|rfl|rfl<;>decide
 rw[e,e2,Int.fdiv_eq_ediv_of_nonneg _ (Int.pow_nonneg (by decide)),Int.natCast_ediv,Int.natCast_pow];rfl
def aU9(m:Nat):Value.int .u8 (IntKind.u8.wrap (m:Int))= .int .u8 ((UInt8.ofNat (m%256)).toNat:Int):=by
 rw[aJV,UInt8.toNat_ofNat'];congr 1;omega
def aWY{s:S8}{x:ByteArray}{k:IntKind}{n:Int}:∀v∈(kA s (.string x) (.int k n)).toList,fW v=true:=by
 intro v hv;simp only[kA,gU,lH,or_false] at hv;rcases hv with rfl|rfl|rfl|rfl|rfl|rfl|rfl|rfl|rfl|rfl<;>rfl
def aTN{h:PH}{a:Nat}{s:S8}{r:List UInt8}{n:Nat}(hK:oP h)(ha:HAt h a s r n)(hr:r.length<64)(hn:n≤100000000000){k:cD}
  (hk:∀h',dD h h'->k (.string (tx (aJT (qW s (r++aJ6 n)).1))) h'):aT PG aHS #[pT a 0] h k:=by
 apply aHC.call;unfold aHC;have lA:=fJ.loadAgg (o:=0) ha (by simp[kA]);have lE:(kA s (.string (tx r)) (.int .i64 n)).extract 0 (0+10)=kA s (.string (tx r)) (.int .i64 n):=rfl;rw[lE] at lA;simp only[lA,cE,reduceIte];intro r3 hr3
 try rw[cW]
 have u1:dD h (h.set r3 (.cells (dV PG fJ) fJ)):=cQ.new hr3;have a3:(h.set r3 (.cells (dV PG fJ) fJ)) r3=some (.cells (dV PG fJ) fJ (0,0)):=dL;generalize h.set r3 (.cells (dV PG fJ) fJ)=h1 at *;refine rW a3 fJ.info rfl (by simp[kA]) (by rw[fJ.zc];rfl) aWY ?_;have u2:dD h (h1.set r3 (.cells (kA s (.string (tx r)) (.int .i64 n)) fJ (0,0))):=u1.fresh (cQ.set (F:=[r3]) (by simp)) (eK.one hr3);have a3':HAt (h1.set r3 (.cells (kA s (.string (tx r)) (.int .i64 n)) fJ (0,0))) r3 s r n:=dL;generalize h1.set r3 (.cells (kA s (.string (tx r)) (.int .i64 n)) fJ (0,0))=h2 at *;rw[zB];intro r7 hr7
 try rw[cW]
 have u3:dD h2 (h2.set r7 (.cells #[.pointer none,.slice none 0 0] dN)):=cQ.new hr7;have b7:BAt (h2.set r7 (.cells #[.pointer none,.slice none 0 0] dN)) r7 [] [r7]:=BAt.zero dL;have n7:h r7=none:=u2.none hr7;generalize h2.set r7 (.cells #[.pointer none,.slice none 0 0] dN)=h3 at *;have a3'':HAt h3 r3 s r n:=u3.get a3';have u4:=u2.trans u3;have hF7:∀b∈[r7],b≠r3:=by
  intro b hb;simp at hb;subst hb;rintro rfl;rw[a3'] at hr7;cases hr7
 refine⟨λvs h'=>∃(j:Nat) (F:List Nat),j≤8∧vs=[pT a 0,pT r3 0,pT r7 0,.int .i64 (56-8*(j:Int))]∧BAt h' r7 ((be (n*8%18446744073709551616) 8).take j) F∧eK h F∧dD h h'∧(∀b∈F,b≠r3)∧HAt h' r3 s r n,aPe 3,⟨0,[r7],by omega,rfl,b7,eK.one n7,u4,hF7,a3''⟩,?_⟩;rintro ρ h' ⟨j,F,hj,hvs,B,fF,u,hF,ha'⟩;simp only[iH,jA,lN,and_true] at hvs;obtain⟨v0,v3,v4,v5⟩:=hvs;simp only[v0,v3,v4,v5,iH,jA];unfold aJt;have hAt:=u.get ha;have c9:dB h' ⟨a,0+9,none⟩=some (.int .i64 n):=by simp[dB,hAt,kA]
 have en:n*8%18446744073709551616=n*8:=aFn (by omega);by_cases hl:j<8
 ·have e1:((0:Int)≤56-8*(j:Int))=True:=eq_true (by omega);have e2:IntKind.u64.wrap (n:Int)=(n:Int):=gO (by omega) (by omega);have e3:IntKind.u64.wrap ((n:Int)*8)=((n*8:Nat):Int):=by rw[gO (by omega) (by omega)];omega
  have e4:IntKind.i64.wrap (56-8*(j:Int)-8)=56-8*((j+1:Nat):Int):=by rw[fH (by omega) (by omega)];omega
  simp only[e1,fJ.f2,bR.load,c9,aB1,e2,e3,aXJ hl,aQj,aU9,cE,reduceIte];refine WriteByte_ok B (by rw[nI,jF];omega) _ ?_;intro h5 F5 B5 u5 k5;simp only[e4,cE,reduceIte];refine⟨⟨j+1,F5,by omega,(by trivial),?_,fF.grow u k5,u.fresh u5 fF,λb hb=>?_,u5.get ha' (λhm=>hF _ hm rfl)⟩,?_⟩
  ·rw[aKA hl,en];rw[en] at B5;exact B5
  ·rcases k5 b hb with h1|h1
   ·exact hF b h1
   ·rintro rfl;unfold HAt at ha';rw[ha'] at h1;cases h1
  ·simp only[aPe,sL,qB];omega
 ·have hj':j=8:=by omega
  subst hj';have e1:((0:Int)≤56-8*((8:Nat):Int))=False:=eq_false (by decide);have e2:((n:Int)).tmod 64=((n%64:Nat):Int):=by rw[Int.tmod_eq_emod_of_nonneg (by omega)];omega
  have e3:IntKind.i64.wrap (119-((n%64:Nat):Int))=((119-n%64:Nat):Int):=by rw[fH (by omega) (by omega)];omega
  have e4:(((119-n%64:Nat):Int)).tmod 64=(((119-n%64)%64:Nat):Int):=by rw[Int.tmod_eq_emod_of_nonneg (by omega)];omega
  have d1:∀(t:TypeId) (x:Int),dH PG (binOp .rem t (.int .i64 x) (.int .i64 64))=some (.int .i64 (x.tmod 64)):=λt x=>aHO (by decide);simp only[e1,fJ.f2,bR.load,c9,d1,e2,e3,e4,cE,reduceIte];refine aUx (zLB _ (by decide)) λh5 u5=>?_;have ex:∀(t:TypeId),dH PG (binOp .add t (.string {data:=#[128]}) (.string (tx (List.replicate ((119-n%64)%64) 0))))=some (.string (tx ([128]++List.replicate ((119-n%64)%64) 0))):=λt=>mG (a:=[128]) (by simp;omega);simp only[ex,cE,reduceIte];have B5:=B.ext u5;refine String_ok B5 λh6 u6=>?_;have et:(be (n*8%18446744073709551616) 8).take 8=be (n*8%18446744073709551616) 8:=lY (Nat.le_of_eq (jF _ _));rw[et];have ey:∀(t:TypeId),dH PG (binOp .add t (.string (tx ([128]++List.replicate ((119-n%64)%64) 0))) (.string (tx (be (n*8%18446744073709551616) 8))))=some (.string (tx (aJ6 n))):=λt=>by
   rw[mG (by simp[jF];omega)];rfl
  simp only[ey,cE,reduceIte];have a6:HAt h6 r3 s r n:=u6.get (u5.get ha') (λhm=>hF _ hm rfl);have u7:dD h h6:=(u.trans u5).fresh u6 fF;have hpl:(aJ6 n).length≤80:=by
   simp only[aJ6,qE,jM,aLX,jF];have:=zLB (119-n%64) (show 64>0 by decide);omega
  refine aQ2 (hK.ext u7) a6 (by omega) (by omega) λh8 u8 a8=>?_;simp only[fJ.f0,cE,reduceIte];refine aTs a8 λh9 u9=>?_;exact hk _ ((u7.fresh u8 (eK.one hr3)).trans u9)
def jJ(p:List UInt8):List Value:=[.string (tx p)]
def jJ.rows(l:List (List UInt8)):Rows 1 (l.map jJ):=λr hr=>by
 obtain⟨p,-,rfl⟩:=mJ.1 hr;rfl
def aUI{h:PH}{k:cD}(hk:∀h' a,h a=none->dD h h'->HAt h' a S0 [] 0->k (pT a 0) h'):aT PG aLv #[] h k:=by
 apply aNZ.call;unfold aNZ;apply aKL.call;unfold aKL;intro r1 hr1
 try rw[cW]
 have zS:dV PG iA=(zs 8).toArray:=by rw[iA.zc];rfl
 rw[zS];have u1:dD h (h.set r1 (.cells (zs 8).toArray iA)):=cQ.new hr1;have a1:(h.set r1 (.cells (zs 8).toArray iA)) r1=some (.cells (zs 8).toArray iA (0,0)):=dL;generalize h.set r1 (.cells (zs 8).toArray iA)=h1 at *;have b1:dH PG (build eZ #[(0,(Value.int IntKind.u32 1779033703)),(1,(Value.int IntKind.u32 3144134277)),(2,(Value.int IntKind.u32 1013904242)),(3,(Value.int IntKind.u32 2773480762)),(4,(Value.int IntKind.u32 1359893119)),(5,(Value.int IntKind.u32 2600822924)),(6,(Value.int IntKind.u32 528734635)),(7,(Value.int IntKind.u32 1541459225))])=some (.agg #[wv S0.a,wv S0.b,wv S0.c,wv S0.d,wv S0.e,wv S0.f,wv S0.g,wv S0.h]):=by kernel_rfl
 have b2:dH PG (build iA #[(0,.agg #[wv S0.a,wv S0.b,wv S0.c,wv S0.d,wv S0.e,wv S0.f,wv S0.g,wv S0.h])])=some (.agg #[wv S0.a,wv S0.b,wv S0.c,wv S0.d,wv S0.e,wv S0.f,wv S0.g,wv S0.h]):=by kernel_rfl
 have b3:dH PG (build fJ #[(0,.agg #[wv S0.a,wv S0.b,wv S0.c,wv S0.d,wv S0.e,wv S0.f,wv S0.g,wv S0.h])])=some (.agg (kA S0 (.string (tx [])) (.int .i64 (0:Nat)))):=by kernel_rfl
 simp only[b1,b2,cE,reduceIte];refine rW a1 iA.info rfl (by simp) rfl (by simp[isw]) ?_;have u2:dD h (h1.set r1 (.cells #[wv S0.a,wv S0.b,wv S0.c,wv S0.d,wv S0.e,wv S0.f,wv S0.g,wv S0.h] iA (0,0))):=u1.fresh (cQ.set (F:=[r1]) (by simp)) (eK.one hr1);have a2:(h1.set r1 (.cells #[wv S0.a,wv S0.b,wv S0.c,wv S0.d,wv S0.e,wv S0.f,wv S0.g,wv S0.h] iA (0,0))) r1=some (.cells #[wv S0.a,wv S0.b,wv S0.c,wv S0.d,wv S0.e,wv S0.f,wv S0.g,wv S0.h] iA (0,0)):=dL;generalize h1.set r1 (.cells #[wv S0.a,wv S0.b,wv S0.c,wv S0.d,wv S0.e,wv S0.f,wv S0.g,wv S0.h] iA (0,0))=h2 at *;have lA:=iA.loadAgg (o:=0) a2 (by simp);have lE:(#[wv S0.a,wv S0.b,wv S0.c,wv S0.d,wv S0.e,wv S0.f,wv S0.g,wv S0.h]:Array Value).extract 0 (0+8)= #[wv S0.a,wv S0.b,wv S0.c,wv S0.d,wv S0.e,wv S0.f,wv S0.g,wv S0.h]:=rfl;rw[lE] at lA;simp only[lA,b3,cE,reduceIte];intro a ha
 try rw[cW]
 exact hk _ a (u2.none ha) (u2.trans (cQ.new ha)) dL
def aOQ{h:PH}{v:Value}{jD:List (List UInt8)}(hK:oP h)(hs:fZ h 1 v (jD.map jJ))(hl:jD.flatten.length≤100000000){k:cD}(hk:∀h',dD h h'->k (.string (tx (sY jD.flatten))) h'):
  aT PG aFU #[v] h k:=by
 apply aNR.call;unfold aNR;refine aUI λh1 a hna u1 ha=>?_;have hs1:=hs.ext u1;have lv:=hs1.len (t':=bR) cP.und;rw[iV] at lv;simp only[lv,cE,reduceIte];have hsm:=hs.small;rw[iV] at hsm;unfold rB at hsm;refine⟨λvs h'=>∃i,i≤jD.length∧vs=[pT a 0,v,.int .i64 jD.length,.int .i64 (i:Int)]∧dD h h'∧HAt h' a (qW S0 (jD.take i).flatten).1 (qW S0 (jD.take i).flatten).2 (jD.take i).flatten.length,gQ jD.length 3,⟨0,by omega,rfl,u1,by simpa[aIc (s:=S0) (l:=[]) (by simp)] using ha⟩,?_⟩;rintro ρ h' ⟨i,hi,hvs,u,ha'⟩;simp only[iH,jA,lN,and_true] at hvs;obtain⟨v3,v7,v8,v9⟩:=hvs;simp only[v3,v7,v8,v9,iH,jA];unfold aO6;have hfl:(jD.take i).flatten.length≤jD.flatten.length:=by
  have:jD.flatten=(jD.take i).flatten++(jD.drop i).flatten:=by rw[←zLG,aLw]
  rw[this,jM];omega
 by_cases hlt:i<jD.length
 ·have e1:((i:Int)<(jD.length:Int))=True:=eq_true (by omega);have e2:=qN (i:=i) (by omega);have hr:(jD.map jJ)[(i:Int).toNat]? =some (jJ jD[i]):=by rw[rA,wA,lJ hlt];rfl
  obtain⟨pa,hpa,hload⟩:=(hs.ext u).loadCell (t:=cP) (k:=.i64) (j:=(i:Int)) cP.und bT.info bT.size bT.und rfl (by omega) hr;have ht:(jD.take (i+1)).flatten=(jD.take i).flatten++jD[i]:=by
   rw[aTW hlt,zLG];simp
  have hfl2:(jD.take (i+1)).flatten.length≤jD.flatten.length:=by
   have:jD.flatten=(jD.take (i+1)).flatten++(jD.drop (i+1)).flatten:=by rw[←zLG,aLw]
   rw[this,jM];omega
  rw[ht,jM] at hfl2;have hrest:=aKi S0 (jD.take i).flatten;simp only[e1,hpa,hload,cE,reduceIte];refine aQ2 (hK.ext u) ha' (by omega) (by omega) λh2 u2 ha2=>?_;simp only[e2,cE,reduceIte];refine⟨⟨i+1,by omega,rfl,u.fresh u2 (eK.one hna),?_⟩,?_⟩
  ·rw[ht,aLx,jM];exact ha2
  ·simp only[gQ,sL,qB];omega
 ·have e1:((i:Int)<(jD.length:Int))=False:=eq_false (by omega);have hi':i=jD.length:=by omega
  simp only[e1,cE,reduceIte];refine aTN (hK.ext u) ha' (aKi _ _) (by omega) λh2 u2=>?_;have:=hk h2 (u.trans u2);unfold sY at this;rw[aLx] at this;rw[hi',zLJ];exact this
structure Pr where
 (k v:Tx)
deriving DecidableEq
def Pr.cells(p:Pr):List Value:=[.string (tx p.k),.string (tx p.v)]
def Pr.val(p:Pr):Value:=.agg #[.string (tx p.k),.string (tx p.v)]
def Pr.rows(l:List Pr):Rows 2 (l.map Pr.cells):=λr hr=>by
 obtain⟨p,-,rfl⟩:=mJ.1 hr;rfl
def Pr.isCell(l:List Pr):∀r∈l.map Pr.cells,∀u∈r,fW u=true:=λr hr u hu=>by
 obtain⟨p,-,rfl⟩:=mJ.1 hr;simp only[Pr.cells,gU,lH,or_false] at hu;rcases hu with rfl|rfl<;>rfl
def aJw:∀(x y:List UInt8),Op.bytesLess x y=decide (x<y)
 | [],[]=>by simp[Op.bytesLess]
 | _::_,[]=>by simp[Op.bytesLess]
 | [],_::_=>by simp[Op.bytesLess]
 | a::x,b::y=>by
  rw[Op.bytesLess,aJw x y];simp only[List.cons_lt_cons_iff];by_cases h1:a<b<;>by_cases h2:a=b<;>by_cases h3:x<y<;>simp[h1,h2,h3]
def aC8(l:Tx):(tx l).toList=l:=by rw[ByteArray.toList_eq];simp[tx]
def aIB(a b:Tx):a<b∨a=b∨b<a:=by
 by_cases h1:a<b
 ·exact .inl h1
 ·by_cases h2:b<a
  ·exact .inr (.inr h2)
  ·exact .inr (.inl (List.le_antisymm h2 h1))
section
variable{P:Program}{t:TypeId}{a b:Tx}{h:PH}
def yM:dH P (binOp .lss t (.string (tx a)) (.string (tx b)))=some (.bool (decide (a<b))):=by
 have e:dH P (binOp .lss t (.string (tx a)) (.string (tx b)))=some (.bool (Op.bytesLess (tx a).toList (tx b).toList)):=rfl;rw[e,aC8,aC8,aJw]
def aO5:dH P (binOp .gtr t (.string (tx a)) (.string (tx b)))=some (.bool (decide (b<a))):=by
 have e:dH P (binOp .gtr t (.string (tx a)) (.string (tx b)))=some (.bool (!(Op.bytesLess (tx a).toList (tx b).toList||(tx a).toList==(tx b).toList))):=rfl;rw[e,aC8,aC8,aJw];congr 2;rcases aIB a b with h|h|h
 ·have h2:¬b<a:=List.lt_asymm h;simp[h,h2]
 ·subst h;simp[zL1]
 ·have h2:¬a<b:=List.lt_asymm h;have h3:a≠b:=by rintro rfl;exact zL1 _ h
  simp[h,h2,h3]
end
def aVd(x:Int):dH PG (convert bR dU (.int .i64 x))=some (.int .u8 (IntKind.u8.wrap x)):=by kernel_rfl
def aPL{h:PH}{n:Nat}{k:cD}(hk:∀h',dD h h'->k (.string (tx [UInt8.ofNat (n%256)])) h'):aT PG aD0 #[.int .i64 n] h k:=by
 apply aJJ.call;unfold aJJ;simp only[aVd,aU9,byte_lit,cE,reduceIte];intro r hr;refine fP ?_
 try rw[cW]
 have u:dD h (h.set r (.cells #[.int .u8 ((UInt8.ofNat (n%256)).toNat:Int)] dU)):=cQ.new hr;have s:fZ (h.set r (.cells #[.int .u8 ((UInt8.ofNat (n%256)).toNat:Int)] dU)) 1 (.slice (some ⟨r,0,none⟩) 1 1) ([UInt8.ofNat (n%256)].map jQ):=(eM.lit (jQ.rows [UInt8.ofNat (n%256)]) dL (by simp) (by decide) (by simp[jQ])).slR;have hcv:cG PG _ (convert dI bT (.slice (some ⟨r,0,none⟩) 1 1))=some (.string (tx [UInt8.ofNat (n%256)])):=aFH dI.und dU.und bT.und s;rw[hcv,aDC];exact hk _ u
def aW0(a b c:ByteArray):jV PG (buildSlice cP 3 #[(0,.string a),(1,.string b),(2,.string c)])=some (.cells #[.string a,.string b,.string c] bT,λr=>pure (.slice (some ⟨r,0,none⟩) 3 3)):=by kernel_rfl
def bAW(a b c d e:ByteArray):jV PG (buildSlice cP 5 #[(0,.string a),(1,.string b),(2,.string c),(3,.string d),(4,.string e)])=some (.cells #[.string a,.string b,.string c,.string d,.string e] bT,λr=>pure (.slice (some ⟨r,0,none⟩) 5 5)):=by kernel_rfl
def aA5(l r:Tx):Tx:=sY (1::(l++r))
def aGG(p:Pr):Tx:=sY (0::UInt8.ofNat (p.k.length%256)::(p.k++UInt8.ofNat (p.v.length%256)::p.v))
def aLI{h:PH}{l r:Tx}(hK:oP h)(hl:l.length+r.length≤10000000){k:cD}(hk:∀h',dD h h'->k (.string (tx (aA5 l r))) h'):aT PG aC2 #[.string (tx l),.string (tx r)] h k:=by
 apply aID.call;unfold aID;simp only[aW0,cE,reduceIte];intro b hb;refine fP ?_
 try rw[cW]
 have u:dD h (h.set b (.cells #[.string ⟨#[1]⟩,.string (tx l),.string (tx r)] bT)):=cQ.new hb;have s:fZ (h.set b (.cells #[.string ⟨#[1]⟩,.string (tx l),.string (tx r)] bT)) 1 (.slice (some ⟨b,0,none⟩) 3 3) ([[1],l,r].map jJ):=(eM.lit (jJ.rows [[1],l,r]) dL (by simp) (by decide) rfl).slR;refine aOQ (hK.ext u) s (by simp;omega) λh' u'=>?_;have e:aA5 l r=sY [[1],l,r].flatten:=by simp[aA5]
 rw[e] at hk;exact hk _ (u.trans u')
def aNO(p:Pr):Value.cells p.val= #[.string (tx p.k),.string (tx p.v)]:=rfl
def aSY{h:PH}{p:Pr}(hK:oP h)(hl:p.k.length+p.v.length≤10000000){k:cD}(hk:∀h',dD h h'->k (.string (tx (aGG p))) h'):aT PG aFZ #[p.val] h k:=by
 apply aD9.call;unfold aD9;rw[aNO];intro r hr
 try rw[cW]
 have u1:dD h (h.set r (.cells #[.string (tx p.k),.string (tx p.v)] cM)):=cQ.new hr;have a1:(h.set r (.cells #[.string (tx p.k),.string (tx p.v)] cM)) r=some (.cells #[.string (tx p.k),.string (tx p.v)] cM (0,0)):=dL;generalize h.set r (.cells #[.string (tx p.k),.string (tx p.v)] cM)=h1 at *;have c0:dB h1 ⟨r,0,none⟩=some (.string (tx p.k)):=by simp[dB,a1]
 have c1:dB h1 ⟨r,0+1,none⟩=some (.string (tx p.v)):=by simp[dB,a1]
 simp only[cM.f0,cM.f1,bT.load,c0,c1,bT.len,iF,cE,reduceIte];refine aPL λh2 u2=>?_;have a2:=u2.get a1;have c0':dB h2 ⟨r,0,none⟩=some (.string (tx p.k)):=by simp[dB,a2]
 have c1':dB h2 ⟨r,0+1,none⟩=some (.string (tx p.v)):=by simp[dB,a2]
 simp only[bT.load,c0',c1',true_and];refine aPL λh3 u3=>?_;have a3:=u3.get a2;have c0'':dB h3 ⟨r,0,none⟩=some (.string (tx p.k)):=by simp[dB,a3]
 have c1'':dB h3 ⟨r,0+1,none⟩=some (.string (tx p.v)):=by simp[dB,a3]
 simp only[bT.load,c0'',c1'',true_and,bAW,cE,reduceIte];intro b hb;refine fP ?_
 try rw[cW]
 have u4:dD h3 (h3.set b (.cells #[.string ⟨#[0]⟩,.string (tx [UInt8.ofNat (p.k.length%256)]),.string (tx p.k),.string (tx [UInt8.ofNat (p.v.length%256)]),.string (tx p.v)] bT)):=cQ.new hb;have s:fZ (h3.set b (.cells #[.string ⟨#[0]⟩,.string (tx [UInt8.ofNat (p.k.length%256)]),.string (tx p.k),.string (tx [UInt8.ofNat (p.v.length%256)]),.string (tx p.v)] bT)) 1 (.slice (some ⟨b,0,none⟩) 5 5) ([[0],[UInt8.ofNat (p.k.length%256)],p.k,[UInt8.ofNat (p.v.length%256)],p.v].map jJ):=(eM.lit (n:=5) (jJ.rows [[0],[UInt8.ofNat (p.k.length%256)],p.k,[UInt8.ofNat (p.v.length%256)],p.v]) dL (by simp) (by decide) rfl).slR;have u:=((u1.trans u2).trans u3).trans u4;refine aOQ (hK.ext u) s (by simp;omega) λh' u'=>?_;have e:aGG p=sY [[0],[UInt8.ofNat (p.k.length%256)],p.k,[UInt8.ofNat (p.v.length%256)],p.v].flatten:=by simp[aGG]
 rw[e] at hk;exact hk _ (u.trans u')
def aDl(x:Nat):Nat:=if x=0 then 0 else Nat.log2 x+1
def aZb:(List.range 256).all (λx=>aPG[x]? == some (UInt8.ofNat (aDl x)))=true:=by kernel_rfl
def aYa{x:Nat}(hx:x<256):aPG[x]? =some (UInt8.ofNat (aDl x)):=by
 have:=aE6.1 aZb x (aLM.2 hx);simpa using this
def aYP{x:Nat}(hx:x<256):aDl x<256:=by
 unfold aDl;split
 ·decide
 ·have:=Nat.log2_lt (n:=x) (k:=8) (by omega);have:=this.2 (by simpa using hx);omega
def aTc{x:Nat}(h1:256≤x):aDl x=aDl (x/256)+8:=by
 have h2:x/256≠0:=by omega
 unfold aDl;rw[if_neg (by omega),if_neg h2];have:Nat.log2 x=Nat.log2 (x/256)+8:=by
  rw[Nat.log2_eq_iff (by omega)];have a:=(Nat.log2_eq_iff (n:=x/256) (k:=Nat.log2 (x/256)) h2).1 rfl;rw[Nat.pow_add,Nat.pow_add,Nat.pow_add];rw[Nat.pow_add] at a;omega
 omega
def aRG(x:Int):dH PG (convert dU bR (.int .u8 x))=some (.int .i64 (IntKind.i64.wrap x)):=by kernel_rfl
def aUX{h:PH}{x n:Nat}(hx:x<256)(hn:n≤64){k:cD}(hk:k (.int .i64 ((n+aDl x:Nat):Int)) h):aAz k (.int .u64 (x:Int)) (.int .i64 (n:Int)) h:=by
 unfold aAz;have e0:(⟨aPG⟩:ByteArray)=tx aPG.toList:=by simp[tx]
 have e1:IntKind.u8.wrap (x:Int)=x:=by rw[aJV];omega
 have hl:=aYP hx;have e2:dH PG (Instr.index bT (.string ⟨aPG⟩) (.int .u8 (x:Int)))=some (.int .u8 ((UInt8.ofNat (aDl x)).toNat:Int)):=by
  rw[e0];exact aAu bT.und (by rw[aLs];exact aYa hx)
 have e3:((UInt8.ofNat (aDl x)).toNat:Int)=((aDl x:Nat):Int):=by rw[UInt8.toNat_ofNat'];congr 1;exact aFn hl
 have e4:IntKind.i64.wrap ((aDl x:Nat):Int)=((aDl x:Nat):Int):=fH (by omega) (by omega);have e5:IntKind.i64.wrap ((n:Int)+((aDl x:Nat):Int))=((n+aDl x:Nat):Int):=by rw[fH (by omega) (by omega)];omega
 simp only[aQj,e1,e2,e3,aRG,e4,e5,cE,reduceIte];exact hk
def bAn{n:Nat}:dH PG (binOp .shr cA (.int .u64 (n:Int)) (.int .u64 8))=some (.int .u64 ((n/256:Nat):Int)):=by
 rw[aJn (by decide)];congr 2;show(n:Int).fdiv (2^8)=_;rw[Int.fdiv_eq_ediv_of_nonneg _ (by decide)];have:(2:Int)^8=256:=by rfl
 omega
def aTh{h:PH}{x:Nat}(hx:x<65536){k:cD}(hk:k (.int .i64 ((aDl x:Nat):Int)) h):aT PG aGd #[.int .u64 (x:Int)] h k:=by
 apply aGP.call;unfold aGP;simp only[cE,reduceIte];apply aEW.call;unfold aEW;have e1:((4294967296:Int)≤(x:Int))=False:=eq_false (by omega);have e2:((65536:Int)≤(x:Int))=False:=eq_false (by omega);simp only[e1,cE,reduceIte];unfold aFD;simp only[e2,cE,reduceIte];unfold aEt;by_cases h8:256≤x
 ·have e3:((256:Int)≤(x:Int))=True:=eq_true (by omega);have e4:IntKind.i64.wrap ((0:Int)+8)=((8:Nat):Int):=rfl;simp only[e3,bAn,e4,cE,reduceIte];refine aUX (by omega) (by decide) ?_;rw[aTc h8,Nat.add_comm] at hk;exact hk
 ·have e3:((256:Int)≤(x:Int))=False:=eq_false (by omega);simp only[e3,cE,reduceIte];refine aUX (n:=0) (by omega) (by decide) ?_;rw[fQ];exact hk
def eO(n:Nat):Nat:=2^Nat.log2 (n-1)
def mH{n:Nat}(h:2≤n):1≤eO n∧eO n<n:=by
 unfold eO;have:=(Nat.log2_eq_iff (n:=n-1) (k:=Nat.log2 (n-1)) (by omega)).1 rfl;have h2:0<2^Nat.log2 (n-1):=Nat.pow_pos (by decide);omega
def aPw{h:PH}{n:Nat}(h2:2≤n)(hn:n≤65536){k:cD}(hk:k (.int .i64 ((eO n:Nat):Int)) h):aT PG aC6 #[.int .i64 (n:Int)] h k:=by
 apply aIL.call;unfold aIL;have e1:IntKind.i64.wrap ((n:Int)-1)=((n-1:Nat):Int):=by rw[fH (by omega) (by omega)];omega
 have e2:IntKind.u64.wrap ((n-1:Nat):Int)=((n-1:Nat):Int):=gO (by omega) (by omega);simp only[e1,aKw,e2,cE,reduceIte];refine aTh (by omega) ?_;have hlt:=mH h2;have hlen:aDl (n-1)=Nat.log2 (n-1)+1:=by unfold aDl;rw[if_neg (by omega)]
 have hlog:Nat.log2 (n-1)<16:=(Nat.log2_lt (by omega)).2 (by omega);have e3:IntKind.i64.wrap (((aDl (n-1):Nat):Int)-1)=((Nat.log2 (n-1):Nat):Int):=by rw[fH (by omega) (by omega)];omega
 have e4:∀t,dH PG (binOp .shl t (.int .i64 1) (.int .i64 ((Nat.log2 (n-1):Nat):Int)))=some (.int .i64 ((eO n:Nat):Int)):=λt=>by
  rw[aRW (by omega)];have em:min (((Nat.log2 (n-1):Nat):Int).toNat) (IntKind.i64.bits)=Nat.log2 (n-1):=by
   show min _ 64=_;omega
  have ep:(1:Int)*2^Nat.log2 (n-1)=((eO n:Nat):Int):=by
   unfold eO;rw[Int.one_mul,Int.natCast_pow];rfl
  rw[em,ep,fH (by omega) (by omega)]
 simp only[e3,e4,cE,reduceIte];exact hk
def qH(l:List Pr):Tx:=if h:2≤l.length then aA5 (qH (l.take (eO l.length))) (qH (l.drop (eO l.length))) else aGG (l.headD ⟨[],[]⟩)
termination_by l.length
decreasing_by
 ·have:=mH h;simp;omega
 ·have:=mH h;simp;omega
def aCB(l:List Pr):(qH l).length=32:=by
 rw[qH];split<;>rfl
def aAv(l:List Pr):Prop:=∀p∈l,p.k.length+p.v.length≤1000000
def fZ.pair{h:PH}{v:Value}{l:List Pr}(S:fZ h 2 v (l.map Pr.cells)){j:Nat}{p:Pr}(hp:l[j]? =some p):
  ∃b o,dH PG (indexAt cJ v (.int .i64 (j:Int)))=some (pT b o)∧dB h ⟨b,o,none⟩=some (.string (tx p.k))∧dB h ⟨b,o+1,none⟩=some (.string (tx p.v))∧cG PG h (loadAt cM (pT b o))=some p.val:=by
 obtain⟨b,o,h1,h2,h3⟩:=S.fields cJ.und cM.info cM.size (k:=.i64) (j:=j) (r:=p.cells) (by rw[wA,hp];rfl);exact⟨b,o,h1,h2 0 _ rfl,h2 1 _ rfl,h3 _ cM.und rfl⟩
def fZ.cutP{h:PH}{v:Value}{l:List Pr}(S:fZ h 2 v (l.map Pr.cells)){lo hi:Option Value}{a m:Nat}(hlo:lo=none∧a=0∨∃k,lo=some (.int k a))(hhi:hi=none∧m=l.length∨∃k,hi=some (.int k m))(h1:a≤m)(h2:m≤l.length):
  ∃v',dH PG (Instr.sliceAt cJ v lo hi none)=some v'∧fZ h 2 v' (((l.take m).drop a).map Pr.cells):=by
 obtain⟨v',e,s,-⟩:=S.cut cJ.und cM.info cM.size hlo (by simpa using hhi) h1 (by simpa using h2);refine⟨v',e,?_⟩;rw[aL2,aJo];exact s
def aLr:∀(n:Nat) {h:PH} {v:Value} {l:List Pr},l.length≤n->l≠[]->l.length≤65536->oP h->fZ h 2 v (l.map Pr.cells)->aAv l->∀{k:cD},(∀h',dD h h'->k (.string (tx (qH l))) h')->aT PG qV #[v] h k
 | 0,_,_,l,h0,hne,_,_,_,_,_,_=>by
  have:l=[]:=zLO (by omega);exact absurd this hne
 | n+1,h,v,l,hn,hne,hl,hK,S,hs,k,hk=>by
  apply aBS.call;unfold aBS;have lv:=S.len (t':=bR) cJ.und;rw[iV] at lv;have hpos:0<l.length:=aIA.2 hne;by_cases h1:l.length=1
  ·have e1:((l.length:Int)==1)=true:=by simp[h1]
   obtain⟨p,hp⟩:=List.length_eq_one_iff.1 h1;obtain⟨b,o,e2,-,-,e3⟩:=S.pair (j:=0) (p:=p) (by rw[hp];rfl);rw[show((0:Nat):Int)=0 from rfl] at e2;simp only[lv,e1,e2,e3,cE,reduceIte];have hd:qH l=aGG p:=by
    rw[qH,dif_neg (by omega),hp];rfl
   rw[hd] at hk;refine aSY hK (by have:=hs p (by rw[hp];simp);omega) λh' u=>hk h' u
  ·have e1:((l.length:Int)==1)=false:=by simp;omega
   have h2:2≤l.length:=by omega
   simp only[lv,e1,cE,reduceIte];refine aPw h2 hl ?_;have hlt:=mH h2;obtain⟨v1,s1,t1⟩:=S.cutP (lo:=none) (hi:=some (.int .i64 ((eO l.length:Nat):Int))) (a:=0) (m:=eO l.length) (.inl ⟨rfl,rfl⟩) (.inr ⟨_,rfl⟩) (by omega) (by omega);obtain⟨v2,s2,t2⟩:=S.cutP (lo:=some (.int .i64 ((eO l.length:Nat):Int))) (hi:=none) (a:=eO l.length) (m:=l.length) (.inr ⟨_,rfl⟩) (.inl ⟨rfl,rfl⟩) (by omega) (by omega);rw[zLb] at t1;rw[zLJ] at t2;simp only[s1,s2,cE,reduceIte];have hd:qH l=aA5 (qH (l.take (eO l.length))) (qH (l.drop (eO l.length))):=by
    rw[qH,dif_pos h2]
   rw[hd] at hk;refine aLr n (by simp;omega) (aKr (by first|(rw[nI];omega)|(rw[pK];omega))) (by simp;omega) hK t1 (λp hp=>hs p (aLJ hp)) λh1 u1=>?_;refine aLr n (by simp;omega) (aKr (by first|(rw[nI];omega)|(rw[pK];omega))) (by simp;omega) (hK.ext u1) (t2.ext u1) (λp hp=>hs p (aN3 hp)) λh2 u2=>?_;refine aLI (hK.ext (u1.trans u2)) (by rw[aCB,aCB];decide) λh3 u3=>?_;exact hk _ ((u1.trans u2).trans u3)
def aL5{h:PH}{v:Value}{l:List Pr}(hne:l≠[])(hl:l.length≤65536)(hK:oP h)(S:fZ h 2 v (l.map Pr.cells))(hs:aAv l){k:cD}(hk:∀h',dD h h'->k (.string (tx (qH l))) h'):aT PG qV #[v] h k:=
 aLr l.length (nC _) hne hl hK S hs hk
def aTg(x:Int):dH PG (convert cA bR (.int .u64 x))=some (.int .i64 (IntKind.i64.wrap x)):=by kernel_rfl
def aZm{t:TypeId}{m:Nat}(hm:m<18446744073709551616):dH PG (binOp .and t (.int .u64 (m:Int)) (.int .u64 255))=some (.int .u64 ((m%256:Nat):Int)):=by
 have e:dH PG (binOp .and t (.int .u64 (m:Int)) (.int .u64 255))=some (.int .u64 (IntKind.u64.wrap ((BitVec.ofInt 64 (m:Int) &&& BitVec.ofInt 64 255).toNat:Int))):=rfl;have e2:(BitVec.ofInt 64 (m:Int) &&& BitVec.ofInt 64 255).toNat=m%256:=by
  have h1:BitVec.ofInt 64 (m:Int)=BitVec.ofNat 64 m:=BitVec.ofInt_natCast ..;have h2:BitVec.ofInt 64 255=BitVec.ofNat 64 255:=by decide
  rw[h1,h2,BitVec.toNat_and,BitVec.toNat_ofNat,BitVec.toNat_ofNat,aFn (show m<2^64 from hm)];exact Nat.and_two_pow_sub_one_eq_mod m 8
 rw[e,e2,gO (by omega) (by omega)]
def aJ4(n:Nat)(d:Tx):Tx:=sY (2::(be n 8++d))
def aR6{h:PH}{n:Nat}{d:Tx}(hK:oP h)(hn:n≤1000000)(hd:d.length≤1000000){k:cD}(hk:∀h',dD h h'->k (.string (tx (aJ4 n d))) h'):aT PG aD1 #[.int .i64 (n:Int),.string (tx d)] h k:=by
 apply aI8.call;unfold aI8;have e1:(if (0:Int)<(n:Int) then(n:Int) else 0)=(n:Int):=by split<;>omega
 have e2:IntKind.u64.wrap (n:Int)=n:=gO (by omega) (by omega);simp only[aLE,e1,aB1,e2,cE,reduceIte];refine⟨λvs h'=>∃i,i≤8∧vs=[.string (tx d),.int .u64 (n:Int),.string (tx ((be n 8).take i)),.int .i64 (i:Int)]∧dD h h',gQ 8 3,⟨0,by omega,rfl,cQ.refl⟩,?_⟩;rintro ρ h' ⟨i,hi,hvs,u⟩;simp only[iH,jA,lN,and_true] at hvs;obtain⟨v1,v5,v6,v11⟩:=hvs;simp only[v1,v5,v6,v11,iH,jA];unfold aMJ;by_cases hl:i<8
 ·have f1:((i:Int)<8)=True:=eq_true (by omega);have f2:IntKind.i64.wrap (8*(i:Int))=8*(i:Int):=fH (by omega) (by omega);have f3:IntKind.i64.wrap (56-8*(i:Int))=56-8*(i:Int):=fH (by omega) (by omega);have hle:n/256^(8-1-i)≤n:=Nat.div_le_self _ _;have f4:IntKind.i64.wrap ((n/256^(8-1-i)%256:Nat):Int)=((n/256^(8-1-i)%256:Nat):Int):=fH (by omega) (by omega);have f5:=qN (i:=i) (by omega);simp only[f1,f2,f3,aXJ hl,aZm (show n/256^(8-1-i)<18446744073709551616 by omega),aTg,f4,cE,reduceIte];refine aPL λh2 u2=>?_;rw[Nat.mod_mod];have f6:∀t,dH PG (binOp .add t (.string (tx ((be n 8).take i))) (.string (tx [UInt8.ofNat (n/256^(8-1-i)%256)])))=some (.string (tx ((be n 8).take (i+1)))):=λt=>by
   rw[mG (by rw[nI,jF];simp;omega),aKA hl]
  simp only[f6,f5,cE,reduceIte];refine⟨⟨i+1,by omega,rfl,u.trans u2⟩,?_⟩;simp only[gQ,sL,qB];omega
 ·have f1:((i:Int)<8)=False:=eq_false (by omega);have hi':i=8:=by omega
  subst hi';rw[lY (Nat.le_of_eq (jF _ _))];simp only[f1,aW0,cE,reduceIte];intro b hb;refine fP ?_
  try rw[cW]
  have u1:dD h' (h'.set b (.cells #[.string ⟨#[2]⟩,.string (tx (be n 8)),.string (tx d)] bT)):=cQ.new hb;have s:fZ (h'.set b (.cells #[.string ⟨#[2]⟩,.string (tx (be n 8)),.string (tx d)] bT)) 1 (.slice (some ⟨b,0,none⟩) 3 3) ([[2],be n 8,d].map jJ):=(eM.lit (n:=3) (jJ.rows [[2],be n 8,d]) dL (by simp) (by decide) rfl).slR;refine aOQ (hK.ext (u.trans u1)) s (by simp[jF];omega) λh3 u3=>?_;have e:aJ4 n d=sY [[2],be n 8,d].flatten:=by simp[aJ4]
  rw[e] at hk;exact hk _ ((u.trans u1).trans u3)
def oD(l:List Pr):Tx:=aJ4 l.length (if l=[] then [] else qH l)
def aOI{h:PH}{v:Value}{l:List Pr}(hl:l.length≤65536)(hK:oP h)(S:fZ h 2 v (l.map Pr.cells))(hs:aAv l){k:cD}(hk:∀h',dD h h'->k (.string (tx (oD l))) h'):aT PG aCl #[v] h k:=by
 apply aIJ.call;unfold aIJ;have lv:=S.len (t':=bR) cJ.und;rw[iV] at lv;by_cases h0:l=[]
 ·subst h0;simp only[lv,zLN,show(((0:Nat):Int)==0)=true from rfl,cE,reduceIte];refine aR6 (n:=0) (d:=[]) hK (by decide) (by decide) λh' u=>?_;exact hk _ u
 ·have e0:((l.length:Int)==0)=false:=by simpa using h0
  simp only[lv,e0,cE,reduceIte];refine aL5 h0 hl hK S hs λh1 u1=>?_;refine aR6 (hK.ext u1) (by omega) (by rw[aCB];decide) λh2 u2=>?_;have:=hk h2 (u1.trans u2);unfold oD at this;rw[if_neg h0] at this;exact this
def aPd(p:Pr):Prop:=1≤p.k.length∧p.k.length≤16∧p.v.length≤64
end
section
open Go
def oT(l:List Pr)(k:Nat):List Tx:=
 if h:2≤l.length then
  if k<eO l.length then oT (l.take (eO l.length)) k++[qH (l.drop (eO l.length))]
  else oT (l.drop (eO l.length)) (k-eO l.length)++[qH (l.take (eO l.length))]
 else []
termination_by l.length
decreasing_by
 ·have:=mH h;simp;omega
 ·have:=mH h;simp;omega
def upP(p:Pr)(i n:Nat)(path:List Tx):Option (Tx×List Tx):=
 if h:2≤n then
  match path.getLast? with
  | none=>none
  | some b=>if b.length≠32 then none else
   if i<eO n then(upP p i (eO n) path.dropLast).map λx=>(aA5 x.1 b,x.2)
   else(upP p (i-eO n) (n-eO n) path.dropLast).map λx=>(aA5 b x.1,x.2)
 else some (aGG p,path)
termination_by n
decreasing_by
 ·have:=mH h;omega
 ·have:=mH h;omega
structure Lf where
 i:Int
 n:Int
 p:Pr
 path:List Tx
 deriving DecidableEq
def aZC(n:Nat):Option (Tx×List Tx)->Option Tx
 | some (d,[])=>some (aJ4 n d)
 | _=>none
def qU(f:Lf):Option Tx:=
 if f.n<1∨4096<f.n∨f.i<0∨f.n≤f.i then none else aZC f.n.toNat (upP f.p f.i.toNat f.n.toNat f.path)
def aTv:∀(n:Nat) (l:List Pr) (k:Nat),l.length=n->∀d∈oT l k,d.length=32:=by
 intro n;induction n using Nat.strongRecOn with
 | ind n ih=>
  intro l k hn d hd;by_cases h2:2≤l.length
  ·obtain⟨m1,m2⟩:=mH h2;rw[oT,dif_pos h2] at hd;split at hd
   ·rcases kB.1 hd with hd|hd
    ·exact ih (eO l.length) (by omega) _ k (by rw[nI];omega) d hd
    ·simp only[gB] at hd;rw[hd];exact aCB _
   ·rcases kB.1 hd with hd|hd
    ·exact ih (l.length-eO l.length) (by omega) _ _ (by rw[pK]) d hd
    ·simp only[gB] at hd;rw[hd];exact aCB _
  ·rw[oT,dif_neg h2] at hd;simp at hd
def aFM{n:Nat}(h:2≤n){d:Nat}(hd:n≤2^(d+1)):eO n≤2^d∧n-eO n≤2^d:=by
 unfold eO;have hne:n-1≠0:=by omega
 have h1:2^Nat.log2 (n-1)≤n-1:=Nat.log2_self_le hne;have h2:n-1<2^(Nat.log2 (n-1)+1):=Nat.lt_log2_self;have h3:Nat.log2 (n-1)<d+1:=(Nat.log2_lt hne).2 (by omega);have h4:2^Nat.log2 (n-1)≤2^d:=aLi (by decide) (by omega);rw[zLR] at h2;exact⟨h4,by omega⟩
def aFR:∀(d:Nat) (l:List Pr) (k:Nat),l.length≤2^d->(oT l k).length≤d
 | 0,l,k,h=>by rw[oT,dif_neg (by simp at h;omega)];simp
 | d+1,l,k,h=>by
  by_cases h2:2≤l.length
  ·obtain⟨a,b⟩:=aFM h2 h;rw[oT,dif_pos h2];split
   ·rw[jM];have:=aFR d (l.take (eO l.length)) k (by rw[nI];omega);simp;omega
   ·rw[jM];have:=aFR d (l.drop (eO l.length)) (k-eO l.length) (by rw[pK];omega);simp;omega
  ·rw[oT,dif_neg h2];simp
def aNX(a:ByteArray):jV PG (buildSlice cP 1 #[(0,.string a)])=some (.cells #[.string a] bT,λr=>pure (.slice (some ⟨r,0,none⟩) 1 1)):=by kernel_rfl
def jJ.isC(s:Tx):∀u∈jJ s,fW u=true:=λu hu=>by
 simp only[jJ,gU,lH,or_false] at hu;subst hu;rfl
def fnP(a b:Nat):Value:=.func (.func aDw) #[] #[pT a 0,pT b 0]
structure aL6(h0 h:PH)(a b:Nat)(acc:List Tx)(F:List Nat):Prop where
 fn:Bx h a [fnP a b]
 out:∃v,Bx h b [v]∧eM h bT 1 v (acc.map jJ) F
 ne:a≠b
 na:a∉F
 nb:b∉F
 ext:dD h0 h
 fr:eK h0 (a::b::F)
def aL6.upd{h0 h h':PH}{a b:Nat}{acc:List Tx}{F:List Nat}(H:aL6 h0 h a b acc F)(u:dD h h'):aL6 h0 h' a b acc F:=by
 obtain⟨v,B,O⟩:=H.out;exact⟨H.fn.ext u,⟨v,B.ext u,O.ext u⟩,H.ne,H.na,H.nb,H.ext.trans u,H.fr⟩
def aL6.push{h0 h:PH}{a b:Nat}{acc:List Tx}{F:List Nat}(H:aL6 h0 h a b acc F)(d:Tx){t3:Value}(ht:cG PG h (loadAt cP (pT b 0))=some t3)(hl:acc.length≤1000){R:cD}(hR:∀h' F',aL6 h0 h' a b (acc++[d]) F'->R (.tuple #[]) h'):
  (dY (jV PG (buildSlice cP 1 #[(0,.string (tx d))])) λx16=>∀r15,h r15=none->dY (dH PG (x16.2 r15)) λv17=>eN (PH.set h r15 x16.1) λh18=>
   dC PG (Builtin.append_ #[cP,cP] cP #[t3,v17]) h18 λv19 h20=>dC PG (dT cP (pT b 0) v19) h20 λ_ h22=>R (.tuple #[]) h22):=by
 obtain⟨v,B,O⟩:=H.out;rw[cP.load,B.cell] at ht;obtain rfl:v=t3:=by simpa using ht
 simp only[aNX,cE,reduceIte];intro r hr;refine fP ?_
 try rw[cW]
 have u1:dD h (h.set r (.cells #[.string (tx d)] bT)):=cQ.new hr;have s1:fZ (h.set r (.cells #[.string (tx d)] bT)) 1 (.slice (some ⟨r,0,none⟩) 1 1) ([d].map jJ):=(eM.lit (jJ.rows [d]) dL (by simp) (by decide) (by simp[jJ])).slR;generalize h.set r (.cells #[.string (tx d)] bT)=h1 at *;have H1:=H.upd u1;refine jK cP.und cP.und bT.info bT.size bT.bytes bT.zero rfl (by decide) (O.ext u1) s1 (λr hr u hu=>by
  obtain⟨s,-,rfl⟩:=mJ.1 hr;exact jJ.isC s u hu) (by simp;omega) ?_
 intro v2 h2 F2 O2 u2 g2 _;rw[←pO] at O2;have nb2:b∉F2:=λhb=>by
  rcases g2 b hb with h|h
  ·exact H.nb h
  ·exact(B.ext u1).known h
 have na2:a∉F2:=λhb=>by
  rcases g2 a hb with h|h
  ·exact H.na h
  ·exact(H.fn.ext u1).known h
 refine cP.put ((B.ext u1).upd u2 H.nb) (o:=0) (by show 0<1;decide) O2.slR.isc λh3 B3 u3=>?_;refine hR h3 F2 ⟨((H.fn.ext u1).upd u2 H.na).upd u3 (by simpa using H.ne),⟨v2,B3,O2.upd u3 (λx hx=>by simp only[gB];rintro rfl;exact nb2 hx)⟩,H.ne,na2,nb2,?_,?_⟩
 ·have f1:eK h0 F:=λx hx=>H.fr x (by simp[hx]);have f2:eK h0 [b]:=λx hx=>H.fr x (by simp at hx;simp[hx]);exact(H1.ext.fresh u2 f1).fresh u3 f2
 ·intro x hx;rcases gU.1 hx with rfl|hx
  ·exact H.fr x (by simp)
  ·rcases gU.1 hx with rfl|hx
   ·exact H.fr x (by simp)
   ·rcases g2 x hx with h|h
    ·exact H.fr x (by simp[h])
    ·exact H1.ext.none h
def aJR{f:FuncId}{cap args:Array Value}{h:PH}{k:cD}:rV PG (.func (.func f) #[] cap) args h k=aT PG f (#[]++args++cap) h k:=rfl
def aPu:∀(d:Nat) {h0 h:PH} {a b:Nat} {acc:List Tx} {F:List Nat} {v:Value} {l:List Pr} {k:Nat},l.length≤2^d->d≤16->k<l.length->l.length≤4096->acc.length+d≤1000->oP h0->fZ h0 2 v (l.map Pr.cells)->aAv l->aL6 h0 h a b acc F->
  ∀{kk:cD},(∀h' F',aL6 h0 h' a b (acc++oT l k) F'->kk (.tuple #[]) h')->aT PG aDw #[v,.int .i64 (k:Int),pT a 0,pT b 0] h kk
 | d,h0,h,a,b,acc,F,v,l,k,hd,hd16,hk,hl,hacc,hK,S,hs,H,kk,hkk=>by
  apply aBV.call;unfold aBV;have lv:=S.len (t':=bR) cJ.und;rw[iV] at lv;by_cases h1:l.length=1
  ·have e1:((l.length:Int)==1)=true:=by simp[h1]
   simp only[lv,iG,e1,cE,reduceIte,cZ,Nat.reduceAdd];have ep:oT l k=[]:=by rw[oT,dif_neg (by omega)]
   rw[ep,zLQ] at hkk;exact hkk h F H
  ·have e1:((l.length:Int)==1)=false:=by simp;omega
   have h2:2≤l.length:=by omega
   obtain⟨d,rfl⟩:∃d',d=d'+1:=by
    cases d with
    | zero=>simp at hd;omega
    | succ d'=>exact⟨d',rfl⟩
   obtain⟨q1,q2⟩:=aFM h2 hd;have hlt:=mH h2;have ld:∀{h':PH},Bx h' a [fnP a b]->cG PG h' (loadAt fS (pT a 0))=some (fnP a b):=λB=>by rw[fS.load,B.cell];rfl
   obtain⟨v1,s1,t1⟩:=S.cutP (lo:=none) (hi:=some (.int .i64 ((eO l.length:Nat):Int))) (a:=0) (m:=eO l.length) (.inl ⟨rfl,rfl⟩) (.inr ⟨_,rfl⟩) (by omega) (by omega);obtain⟨v2,s2,t2⟩:=S.cutP (lo:=some (.int .i64 ((eO l.length:Nat):Int))) (hi:=none) (a:=eO l.length) (m:=l.length) (.inr ⟨_,rfl⟩) (.inl ⟨rfl,rfl⟩) (by omega) (by omega);rw[zLb] at t1;rw[zLJ] at t2;simp only[lv,iG,e1,cE,reduceIte,cZ,Nat.reduceAdd];refine aPw h2 (by omega) ?_;have ht1:aAv (l.take (eO l.length)):=λp hp=>hs p (aLJ hp);have ht2:aAv (l.drop (eO l.length)):=λp hp=>hs p (aN3 hp);by_cases hkm:k<eO l.length
   ·have g:((k:Int)<((eO l.length:Nat):Int))=True:=eq_true (by omega);have ep:oT l k=oT (l.take (eO l.length)) k++[qH (l.drop (eO l.length))]:=by rw[oT,dif_pos h2,if_pos hkm]
    simp only[g,ld H.fn,s1,cE,reduceIte,cZ,Nat.reduceAdd];unfold fnP;rw[aJR];refine aPu d (l:=l.take (eO l.length)) (by rw[nI];omega) (by omega) (by rw[nI];omega) (by rw[nI];omega) (by omega) hK t1 ht1 H λh3 F3 H3=>?_;obtain⟨w,B3,O3⟩:=H3.out;have lw:∀{h':PH},dD h3 h'->cG PG h' (loadAt cP (pT b 0))=some w:=λu=>by rw[cP.load,(B3.ext u).cell];rfl
    simp only[lw cQ.refl,s2,cE,reduceIte,cZ,Nat.reduceAdd];refine aL5 (aKr (by rw[pK];omega)) (by rw[pK];omega) (hK.ext H3.ext) (t2.ext H3.ext) ht2 λh4 u4=>?_;refine⟨lw u4,?_⟩;refine(H3.upd u4).push _ (lw u4) (by
     have:=aFR d (l.take (eO l.length)) k (by rw[nI];omega);rw[jM];omega) (R:=kk) λh5 F5 H5=>?_
    rw[nM,←ep] at H5;exact hkk h5 F5 H5
   ·have g:((k:Int)<((eO l.length:Nat):Int))=False:=eq_false (by omega);have ep:oT l k=oT (l.drop (eO l.length)) (k-eO l.length)++[qH (l.take (eO l.length))]:=by rw[oT,dif_pos h2,if_neg hkm]
    have es:IntKind.i64.wrap ((k:Int)-((eO l.length:Nat):Int))=((k-eO l.length:Nat):Int):=by rw[fH (by omega) (by omega)];omega
    simp only[g,ld H.fn,s2,es,cE,reduceIte,cZ,Nat.reduceAdd];unfold fnP;rw[aJR];refine aPu d (l:=l.drop (eO l.length)) (by rw[pK];omega) (by omega) (by rw[pK];omega) (by rw[pK];omega) (by omega) hK t2 ht2 H λh3 F3 H3=>?_;obtain⟨w,B3,O3⟩:=H3.out;have lw:∀{h':PH},dD h3 h'->cG PG h' (loadAt cP (pT b 0))=some w:=λu=>by rw[cP.load,(B3.ext u).cell];rfl
    simp only[lw cQ.refl,s1,cE,reduceIte,cZ,Nat.reduceAdd];refine aL5 (aKr (by rw[nI];omega)) (by rw[nI];omega) (hK.ext H3.ext) (t1.ext H3.ext) ht1 λh4 u4=>?_;refine⟨lw u4,?_⟩;refine(H3.upd u4).push _ (lw u4) (by
     have:=aFR d (l.drop (eO l.length)) (k-eO l.length) (by rw[pK];omega);rw[jM];omega) (R:=kk) λh5 F5 H5=>?_
    rw[nM,←ep] at H5;exact hkk h5 F5 H5
termination_by d=>d
def aYd{h:PH}{v:Value}{l:List Pr}{k:Nat}(hk:k<l.length)(hl:l.length≤4096)(hK:oP h)(S:fZ h 2 v (l.map Pr.cells))(hs:aAv l){kk:cD}(hkk:∀v' h' F,eM h' bT 1 v' ((oT l k).map jJ) F->eK h F->dD h h'->kk v' h'):
  aT PG aHz #[v,.int .i64 (k:Int)] h kk:=by
 apply aIC.call;unfold aIC;have lv:=S.len (t':=bR) cJ.und;rw[iV] at lv;have g1:((k:Int)<0)=False:=eq_false (by omega);have g2:((l.length:Int)≤(k:Int))=False:=eq_false (by omega);simp only[lv,g1,g2,cE,reduceIte,cZ,Nat.reduceAdd];intro r17 hr17
 try rw[cW]
 have u1:dD h (h.set r17 (.cells (dV PG cP) cP)):=cQ.new hr17;have B1:=cP.zbox (h:=h) (r:=r17);generalize h.set r17 (.cells (dV PG cP) cP)=h1 at *;intro r19 hr19
 try rw[cW]
 try simp only[oR,cE,reduceIte,cZ,Nat.reduceAdd]
 refine fS.fill hr19 rfl λh2 B2 u2=>?_;have ld:cG PG h2 (loadAt fS (pT r19 0))=some (fnP r19 r17):=by rw[fS.load,B2.cell];rfl
 have ne:r19≠r17:=λe=>(B1.apart hr19) e.symm;have H:aL6 h h2 r19 r17 [] []:=⟨B2,⟨_,B1.ext u2,eM.nil⟩,ne,by simp,by simp,u1.trans u2,λx hx=>by
  rcases gU.1 hx with rfl|hx
  ·exact u1.none hr19
  ·simp at hx;subst hx;exact hr17⟩
 simp only[ld,cE,reduceIte,cZ,Nat.reduceAdd];unfold fnP;rw[aJR];refine aPu 12 (by omega) (by decide) hk hl (by simp) hK S hs H λh3 F3 H3=>?_;obtain⟨w,B3,O3⟩:=H3.out;have lw:cG PG h3 (loadAt cP (pT r17 0))=some w:=by rw[cP.load,B3.cell];rfl
 simp only[lw,cE,reduceIte,cZ,Nat.reduceAdd];rw[sK] at O3;exact hkk w h3 F3 O3 (λx hx=>H3.fr x (by simp[hx])) H3.ext
def Lf.cells(f:Lf)(v:Value):List Value:=[.int .i64 f.i,.int .i64 f.n,.string (tx f.p.k),.string (tx f.p.v),v]
def Lf.val(f:Lf)(v:Value):Value:=.agg (f.cells v).toArray
def fnU(c p o g:Nat):Value:=.func (.func aCT) #[] #[pT c 0,pT p 0,pT o 0,pT g 0]
structure aHR(h0 h:PH)(c p o g:Nat)(f:Lf)(fv:Value)(path:List Tx)(ok:Bool):Prop where
 leaf:Bx h c (f.cells fv)
 pth:∃v,Bx h p [v]∧fZ h0 1 v (path.map jJ)
 okb:Bx h o [.bool ok]
 fn:Bx h g [fnU c p o g]
 cp:c≠p
 co:c≠o
 po:p≠o
 gp:g≠p
 go:g≠o
 ext:dD h0 h
 fp:h0 p=none
 fo:h0 o=none
def aHR.upd{h0 h h':PH}{c p o g:Nat}{f:Lf}{fv:Value}{path:List Tx}{ok:Bool}(H:aHR h0 h c p o g f fv path ok)(u:dD h h'):aHR h0 h' c p o g f fv path ok:=by
 obtain⟨v,B,S⟩:=H.pth;exact⟨H.leaf.ext u,⟨v,B.ext u,S⟩,H.okb.ext u,H.fn.ext u,H.cp,H.co,H.po,H.gp,H.go,H.ext.trans u,H.fp,H.fo⟩
def aHR.fail{h0 h:PH}{c p o g:Nat}{f:Lf}{fv:Value}{path:List Tx}{ok:Bool}(H:aHR h0 h c p o g f fv path ok){R:cD}(hR:∀h',aHR h0 h' c p o g f fv path false->R undef h'):
  dC PG (dT gT (pT o 0) (.bool false)) h R:=by
 obtain⟨v,B,S⟩:=H.pth;refine gT.put H.okb (o:=0) (by show 0<1;decide) rfl λh1 B1 u1=>?_;exact hR h1 ⟨H.leaf.upd u1 (by simpa using H.co),⟨v,B.upd u1 (by simpa using H.po),S⟩,B1,H.fn.upd u1 (by simpa using H.go),H.cp,H.co,H.po,H.gp,H.go,H.ext.fresh u1 (eK.one H.fo),H.fp,H.fo⟩
def aHR.step{h0 h:PH}{c p o g:Nat}{f:Lf}{fv:Value}{path path':List Tx}{ok:Bool}(H:aHR h0 h c p o g f fv path ok){v':Value}(S':fZ h0 1 v' (path'.map jJ)){R:cD}(hR:∀h',aHR h0 h' c p o g f fv path' ok->R undef h'):
  dC PG (dT cP (pT p 0) v') h R:=by
 obtain⟨v,B,S⟩:=H.pth;refine cP.put B (o:=0) (by show 0<1;decide) S'.isc λh1 B1 u1=>?_;exact hR h1 ⟨H.leaf.upd u1 (by simpa using H.cp),⟨v',B1,S'⟩,H.okb.upd u1 (by simpa using H.po.symm),H.fn.upd u1 (by simpa using H.gp),H.cp,H.co,H.po,H.gp,H.go,H.ext.fresh u1 (eK.one H.fp),H.fp,H.fo⟩
def aUB(p:Pr):(aGG p).length=32:=rfl
def aKb(a b:Tx):(aA5 a b).length=32:=rfl
def aTk:∀(d:Nat) {h0 h:PH} {c p o g:Nat} {f:Lf} {fv:Value} {path:List Tx} {ok:Bool} {n i:Nat},n≤2^d->1≤n->n≤4096->i<n->path.length≤1000000->f.p.k.length+f.p.v.length≤10000000->oP h0->aHR h0 h c p o g f fv path ok->
  ∀{kk:cD},(∀dg rest h',upP f.p i n path=some (dg,rest)->dg.length=32->rest.length≤path.length->aHR h0 h' c p o g f fv rest ok->kk (.string (tx dg)) h')->(∀s rest h',upP f.p i n path=none->s.length≤100->aHR h0 h' c p o g f fv rest false->kk (.string (tx s)) h')->
  aT PG aCT #[.int .i64 (i:Int),.int .i64 (n:Int),pT c 0,pT p 0,pT o 0,pT g 0] h kk
 | d,h0,h,c,p,o,g,f,fv,path,ok,n,i,hd,h1n,hn,hi,hpl,hsm,hK,H,kk,hgood,hbad=>by
  apply aFL.call;unfold aFL;by_cases h1:n=1
  ·subst h1;have e1:(((1:Nat):Int)==1)=true:=rfl;have lp:cG PG h (loadAt cM (pT c 2))=some f.p.val:=cM.agg H.leaf (by show 2+2≤5;decide);simp only[iG,e1,cB.f2,fQ,lp,cE,reduceIte,cZ,Nat.reduceAdd];refine aSY (hK.ext H.ext) hsm λh2 u2=>?_;exact hgood _ path h2 (by rw[upP,dif_neg (by decide)]) (aUB _) (nC _) (H.upd u2)
  ·have h2:2≤n:=by omega
   have e1:((n:Int)==1)=false:=by simp;omega
   obtain⟨d,rfl⟩:∃d',d=d'+1:=by
    cases d with
    | zero=>simp at hd;omega
    | succ d'=>exact⟨d',rfl⟩
   obtain⟨q1,q2⟩:=aFM h2 hd;have hlt:=mH h2;obtain⟨v,B,S⟩:=H.pth;have lv:=(S.ext H.ext).len (t':=bR) cP.und;rw[iV] at lv;have lp:cG PG h (loadAt cP (pT p 0))=some v:=by rw[cP.load,B.cell];rfl
   simp only[iG,e1,cE,reduceIte,cZ,Nat.reduceAdd];refine aPw h2 (by omega) ?_;have q0:({data:=#[]}:ByteArray)=tx []:=rfl;rcases List.eq_nil_or_concat path with hnil|⟨ini,b,hpath⟩
   ·subst hnil;have e2:(((List.length ([]:List Tx):Nat):Int)==0)=true:=rfl;simp only[lp,lv,iG,e2,cE,reduceIte,cZ,Nat.reduceAdd];refine H.fail λh3 H3=>?_;rw[q0];exact hbad [] [] h3 (by rw[upP,dif_pos h2];rfl) (by simp) H3
   ·rw[List.concat_eq_append] at hpath;subst hpath;have hlen:(ini++[b]).length=ini.length+1:=by simp
    rw[hlen] at lv hpl;have e2:(((ini.length+1:Nat):Int)==0)=false:=by rw[beq_eq_false_iff_ne];omega
    have es:IntKind.i64.wrap (((ini.length+1:Nat):Int)-1)=((ini.length:Nat):Int):=by rw[fH (by omega) (by omega)];omega
    obtain⟨pa,p1,q1'⟩:=(S.ext H.ext).loadCell cP.und bT.info bT.size bT.und rfl (k:=.i64) (j:=(ini.length:Int)) (x:=.string (tx b)) (by omega) (by rw[rA,wA,List.getElem?_append_right (nC _)];simp[jJ]);have lb:dH PG (Builtin.len_ #[bT] bR #[.string (tx b)])=some (.int .i64 (b.length:Int)):=by rw[lS bT.und,iF]
    by_cases hb:b.length=32
    case neg=>
     have e3:((b.length:Int) !=32)=true:=by simp;omega
     simp only[lp,lv,iG,kW,e2,es,p1,q1',lb,e3,cE,reduceIte,cZ,Nat.reduceAdd];refine H.fail λh3 H3=>?_;rw[q0];exact hbad [] _ h3 (by rw[upP,dif_pos h2,List.getLast?_concat];simp[hb]) (by simp) H3
    have e3:((b.length:Int) !=32)=false:=by simp;omega
    obtain⟨v',c1,c2,-⟩:=S.cut cP.und bT.info bT.size (lo:=none) (hi:=some (.int .i64 (ini.length:Int))) (l:=0) (m:=ini.length) (.inl ⟨rfl,rfl⟩) (.inr ⟨_,rfl⟩) (by omega) (by simp);have ec:(((ini++[b]).map jJ).take ini.length).drop 0=ini.map jJ:=by
     rw[zLb,pO,zLH (by simp),lY (by simp)]
    rw[ec] at c2;simp only[lp,lv,iG,kW,e2,es,p1,q1',lb,e3,c1,cE,reduceIte,cZ,Nat.reduceAdd];refine H.step c2 λh3 H3=>?_;have ld:cG PG h3 (loadAt fX (pT g 0))=some (fnU c p o g):=by rw[fX.load,H3.fn.cell];rfl
    have eu:upP f.p i n (ini++[b])=if i<eO n then(upP f.p i (eO n) ini).map λx=>(aA5 x.1 b,x.2) else(upP f.p (i-eO n) (n-eO n) ini).map λx=>(aA5 b x.1,x.2):=by
     rw[upP,dif_pos h2,List.getLast?_concat,List.dropLast_concat];simp[hb]
    by_cases hil:i<eO n
    ·have g1:((i:Int)<((eO n:Nat):Int))=True:=eq_true (by omega);rw[if_pos hil] at eu;simp only[g1,ld,cE,reduceIte,cZ,Nat.reduceAdd];unfold fnU;rw[aJR];refine aTk d (n:=eO n) (i:=i) q1 hlt.1 (by omega) hil (by omega) hsm hK H3 (λdg rest h4 e4 l4 r4 H4=>?_) (λs rest h4 e4 l4 H4=>?_)
     ·refine aLI (hK.ext H4.ext) (by omega) λh5 u5=>?_;exact hgood _ rest h5 (by rw[eu,e4];rfl) (aKb _ _) (by rw[hlen];omega) (H4.upd u5)
     ·refine aLI (hK.ext H4.ext) (by omega) λh5 u5=>?_;exact hbad _ rest h5 (by rw[eu,e4];rfl) (by rw[aKb];decide) (H4.upd u5)
    ·have g1:((i:Int)<((eO n:Nat):Int))=False:=eq_false (by omega);rw[if_neg hil] at eu;have w1:IntKind.i64.wrap ((i:Int)-((eO n:Nat):Int))=((i-eO n:Nat):Int):=by rw[fH (by omega) (by omega)];omega
     have w2:IntKind.i64.wrap ((n:Int)-((eO n:Nat):Int))=((n-eO n:Nat):Int):=by rw[fH (by omega) (by omega)];omega
     simp only[g1,ld,w1,w2,cE,reduceIte,cZ,Nat.reduceAdd];unfold fnU;rw[aJR];refine aTk d (n:=n-eO n) (i:=i-eO n) q2 (by omega) (by omega) (by omega) (by omega) hsm hK H3 (λdg rest h4 e4 l4 r4 H4=>?_) (λs rest h4 e4 l4 H4=>?_)
     ·refine aLI (hK.ext H4.ext) (by omega) λh5 u5=>?_;exact hgood _ rest h5 (by rw[eu,e4];rfl) (aKb _ _) (by rw[hlen];omega) (H4.upd u5)
     ·refine aLI (hK.ext H4.ext) (by omega) λh5 u5=>?_;exact hbad _ rest h5 (by rw[eu,e4];rfl) (by rw[aKb];decide) (H4.upd u5)
termination_by d=>d
def aWi{h:PH}{f:Lf}{fv:Value}(S:fZ h 1 fv (f.path.map jJ))(hpl:f.path.length≤1000000)(hsm:f.p.k.length+f.p.v.length≤10000000)(hK:oP h){kk:cD}
  (hgood:∀t h',qU f=some t->t.length=32->dD h h'->kk (.tuple #[.string (tx t),.bool true]) h') (hbad:qU f=none->∀h',dD h h'->kk (.tuple #[.string (tx []),.bool false]) h'):
  aT PG aHf #[f.val fv] h kk:=by
 apply aHc.call;unfold aHc;intro r1 hr1
 try rw[cW]
 have u1:dD h (h.set r1 (.cells (Value.cells (f.val fv)) cB)):=cQ.new hr1;have B1:Bx (h.set r1 (.cells (Value.cells (f.val fv)) cB)) r1 (f.cells fv):=Bx.new;generalize h.set r1 (.cells (Value.cells (f.val fv)) cB)=h1 at *;have li:∀{h':PH},Bx h' r1 (f.cells fv)->cG PG h' (loadAt bR (pT r1 0))=some (.int .i64 f.i):=λB=>by rw[bR.load,B.cell];rfl
 have ln:∀{h':PH},Bx h' r1 (f.cells fv)->cG PG h' (loadAt bR (pT r1 1))=some (.int .i64 f.n):=λB=>by rw[bR.load,B.cell];rfl
 have lp:cG PG h1 (loadAt cP (pT r1 4))=some fv:=by rw[cP.load,B1.cell];rfl
 have q0:({data:=#[]}:ByteArray)=tx []:=rfl;by_cases a1:f.n<1
 ·have g1:=eq_true a1;simp only[cB.f1,fQ,ln B1,g1,q0,cE,reduceIte,cZ,Nat.reduceAdd];exact hbad (by unfold qU;rw[if_pos (.inl a1)]) _ u1
 have g1:=eq_false a1;by_cases a2:4096<f.n
 ·have g2:=eq_true a2;simp only[cB.f1,fQ,ln B1,g1,g2,q0,cE,reduceIte,cZ,Nat.reduceAdd];exact hbad (by unfold qU;rw[if_pos (.inr (.inl a2))]) _ u1
 have g2:=eq_false a2;by_cases a3:f.i<0
 ·have g3:=eq_true a3;simp only[cB.f1,cB.f0,fQ,ln B1,li B1,g1,g2,g3,q0,cE,reduceIte,cZ,Nat.reduceAdd];exact hbad (by unfold qU;rw[if_pos (.inr (.inr (.inl a3)))]) _ u1
 have g3:=eq_false a3;by_cases a4:f.n≤f.i
 ·have g4:=eq_true a4;simp only[cB.f1,cB.f0,fQ,ln B1,li B1,g1,g2,g3,g4,q0,cE,reduceIte,cZ,Nat.reduceAdd];exact hbad (by unfold qU;rw[if_pos (.inr (.inr (.inr a4)))]) _ u1
 have g4:=eq_false a4;have hc:qU f=aZC f.n.toNat (upP f.p f.i.toNat f.n.toNat f.path):=by
  unfold qU;rw[if_neg (by omega)]
 simp only[cB.f1,cB.f0,cB.f3,fQ,ln B1,li B1,lp,g1,g2,g3,g4,cE,reduceIte,cZ,Nat.reduceAdd];intro r55 hr55
 try rw[cW]
 have u2:dD h1 (h1.set r55 (.cells (dV PG cP) cP)):=cQ.new hr55;have B2:=cP.zbox (h:=h1) (r:=r55);have C1:=B1.ext u2;generalize h1.set r55 (.cells (dV PG cP) cP)=h2 at *;intro r57 hr57
 try rw[cW]
 have u3:dD h2 (h2.set r57 (.cells (dV PG gT) gT)):=cQ.new hr57;have B3:=gT.zbox (h:=h2) (r:=r57);have D1:=C1.ext u3;have D2:=B2.ext u3;have n57:r55≠r57:=B2.apart hr57;have n57':r1≠r57:=C1.apart hr57;have n55':r1≠r55:=B1.apart hr55;generalize h2.set r57 (.cells (dV PG gT) gT)=h3 at *;refine cP.put D2 (o:=0) (by decide) S.isc λh4 B4 u4=>?_;have E1:=D1.upd u4 (by simpa using n55');have E3:=B3.upd u4 (by simpa using n57.symm);refine gT.put E3 (o:=0) (by decide) rfl λh5 B5 u5=>?_;have G1:=E1.upd u5 (by simpa using n57');have G4:=B4.upd u5 (by simpa using n57);intro r63 hr63
 try rw[cW]
 try simp only[oR,cE,reduceIte,cZ,Nat.reduceAdd]
 refine fX.fill hr63 rfl λh6 B6 u6=>?_;have k55:h r55=none:=u1.none hr55;have k57:h r57=none:=(u1.trans u2).none hr57;have ex6:dD h h6:=(((((u1.trans u2).trans u3).fresh u4 (eK.one k55)).fresh u5 (eK.one k57))).trans u6;have n63p:r63≠r55:=(G4.apart hr63).symm;have n63o:r63≠r57:=(B5.apart hr63).symm;have H:aHR h h6 r1 r55 r57 r63 f fv f.path true:=⟨G1.ext u6,⟨fv,G4.ext u6,S⟩,B5.ext u6,B6,n55',n57',n57,n63p,n63o,ex6,k55,k57⟩;have ld:cG PG h6 (loadAt fX (pT r63 0))=some (fnU r1 r55 r57 r63):=by rw[fX.load,B6.cell];rfl
 have lo:∀{h':PH} {path ok},aHR h h' r1 r55 r57 r63 f fv path ok->cG PG h' (loadAt gT (pT r57 0))=some (.bool ok):=λH=>by rw[gT.load,H.okb.cell];rfl
 obtain⟨i,hi⟩:=zLn (Int.not_lt.1 a3);obtain⟨n,hn⟩:=zLn (show 0≤f.n by omega);rw[hi,hn,rA,rA] at hc;simp only[ld,cB.f0,cB.f1,fQ,li H.leaf,ln H.leaf,hi,hn,cE,reduceIte,cZ,Nat.reduceAdd];unfold fnU;rw[aJR];refine aTk 12 (by omega) (by omega) (by omega) (by omega) hpl hsm hK H (λdg rest h7 e7 l7 r7 H7=>?_) (λs rest h7 e7 l7 H7=>?_)
 ·obtain⟨v7,B7,S7⟩:=H7.pth;have l55:cG PG h7 (loadAt cP (pT r55 0))=some v7:=by rw[cP.load,B7.cell];rfl
  have lv:=S7.len (t':=bR) cP.und;rw[iV] at lv;cases rest with
  | nil=>
   have hg:((0:Int)<((([]:List Tx).length:Nat):Int))=False:=eq_false (by simp);simp only[lo H7,l55,lv,hg,cB.f1,fQ,ln H7.leaf,hn,cE,reduceIte,cZ,Nat.reduceAdd];refine aR6 (hK.ext H7.ext) (by omega) (by omega) λh8 u8=>?_;exact hgood _ h8 (by rw[hc,e7];rfl) rfl (H7.ext.trans u8)
  | cons x rest=>
   have hg:((0:Int)<(((x::rest).length:Nat):Int))=True:=eq_true (by rw[qE];omega);simp only[lo H7,l55,lv,hg,q0,cE,reduceIte,cZ,Nat.reduceAdd];exact hbad (by rw[hc,e7];rfl) _ H7.ext
 ·simp only[lo H7,q0,cE,reduceIte,cZ,Nat.reduceAdd];exact hbad (by rw[hc,e7];rfl) _ H7.ext
structure It where
 p:Pk
 g:Int
 deriving DecidableEq
instance:Inhabited It:=⟨⟨default,0⟩⟩
def It.cells(i:It):List Value:=[.int .i64 i.p.f,.int .u64 i.p.s,.int .u64 i.p.t,.string i.p.d,.int .i64 i.g]
abbrev Ky:=Int×Int
def Pk.key(p:Pk):Ky:=(p.f,p.s)
def It.key(i:It):Ky:=i.p.key
def wF(k:Ky):Value:=.agg #[.int .i64 k.1,.int .u64 k.2]
def It.val(i:It):Value:=.agg i.cells.toArray
def It.allCell(p:It):∀v∈p.cells.toArray.toList,fW v=true:=by simp[It.cells,fW]
def It.rows(l:List It):Rows 5 (l.map It.cells):=λr hr=>by obtain⟨m,_,rfl⟩:=mJ.1 hr;rfl
def Bx.it{h:PH}{r:Nat}{n:It}(H:Bx h r n.cells):cG PG h (loadAt dE (pT r 0))=some n.val:=by
 obtain⟨e,h1⟩:=H;rw[dE.loadAgg h1 (by show 0+5≤5;decide)];rfl
def Bx.id{h:PH}{r:Nat}{k:Ky}(H:Bx h r [.int .i64 k.1,.int .u64 k.2]):cG PG h (loadAt gZ (pT r 0))=some (wF k):=by
 obtain⟨e,h1⟩:=H;rw[gZ.loadAgg h1 (by show 0+2≤2;decide)];rfl
def aFp(a b:Int):Int:=if a<b then -1 else if b<a then 1 else 0
def aPV{h:PH}(a b:Int){k:cD}(hk:k (.int .i64 (aFp a b)) h):aT PG aEx #[.int .i64 a,.int .i64 b] h k:=by
 have hn:∀(x:Int) {k':cD},k' (.bool false) h->aT PG aDb #[.int .i64 x] h k':=λx k' hk'=>by
  apply aGR.call;unfold aGR;have e:(x !=x)=false:=by simp
  simp only[e,cE,reduceIte];exact hk'
 apply aEZ.call;unfold aEZ;refine hn a (hn b ?_);unfold aFp at hk;by_cases h1:a<b
 ·simp only[h1,cE,reduceIte] at hk ⊢;exact hk
 ·by_cases h2:b<a
  ·simp only[h1,h2,cE,reduceIte] at hk ⊢;exact hk
  ·simp only[h1,h2,cE,reduceIte] at hk ⊢;exact hk
def aNb{h:PH}(a b:Int){k:cD}(hk:k (.int .i64 (aFp a b)) h):aT PG aCg #[.int .u64 a,.int .u64 b] h k:=by
 have hn:∀(x:Int) {k':cD},k' (.bool false) h->aT PG aA0 #[.int .u64 x] h k':=λx k' hk'=>by
  apply aDK.call;unfold aDK;have e:(x !=x)=false:=by simp
  simp only[e,cE,reduceIte];exact hk'
 apply aBm.call;unfold aBm;refine hn a (hn b ?_);unfold aFp at hk;by_cases h1:a<b
 ·simp only[h1,cE,reduceIte] at hk ⊢;exact hk
 ·by_cases h2:b<a
  ·simp only[h1,h2,cE,reduceIte] at hk ⊢;exact hk
  ·simp only[h1,h2,cE,reduceIte] at hk ⊢;exact hk
def aNV(x:Int):List Value:=[.int .i64 x]
def aNV.rows(l:List Int):Rows 1 (l.map aNV):=λr hr=>by obtain⟨m,_,rfl⟩:=mJ.1 hr;rfl
def bAh{h:PH}{v:Value}{a b:Int}(H:fZ h 1 v ([a,b].map aNV)){k:cD}(hk:k (.int .i64 (if a≠0 then a else b)) h):aT PG aIr #[v] h k:=by
 have lv:=H.len (t':=bR) nQ.und;obtain⟨x,x1,x2⟩:=H.loadCell (k:=.i64) (j:=0) (x:=.int .i64 a) nQ.und bR.info bR.size bR.und rfl (by decide) rfl;obtain⟨y,y1,y2⟩:=H.loadCell (k:=.i64) (j:=1) (x:=.int .i64 b) nQ.und bR.info bR.size bR.und rfl (by decide) rfl;apply aJO.call;unfold aJO;have e0:(([a,b].map aNV).length:Int)=2:=rfl;rw[e0] at lv;simp only[lv,cE,reduceIte];refine⟨λvs h'=>∃i:Nat,i≤2∧vs=[.int .i64 0,v,.int .i64 2,.int .i64 i]∧h'=h∧(1≤i->a=0)∧(2≤i->b=0),gQ 2 3,⟨0,by omega,rfl,rfl,by omega,by omega⟩,?_⟩;rintro ρ h' ⟨i,hi,hvs,rfl,ha,hb⟩;simp only[iH,jA,lN,and_true] at hvs;obtain⟨e0,e1,e2,e3⟩:=hvs;rw[e0,e1,e2,e3];unfold aME;have hc:i=0∨i=1∨i=2:=by omega
 rcases hc with rfl|rfl|rfl
 ·have d0:(((0:Nat):Int)<2)=True:=by simp
  have w0:IntKind.i64.wrap (((0:Nat):Int)+1)=((1:Nat):Int):=by rw[fH (by omega) (by omega)];rfl
  simp only[d0,Int.natCast_zero,x1,x2,cE,reduceIte];by_cases hz:a=0
  ·have e:(a !=0)=false:=by simp[hz]
   have w0':IntKind.i64.wrap ((0:Int)+1)=((1:Nat):Int):=w0;simp only[e,w0',cE,reduceIte];exact⟨⟨1,by omega,rfl,by trivial,λ_=>hz,by omega⟩,by simp[gQ,e3]⟩
  ·have e:(a !=0)=true:=by simp[hz]
   simp only[e,cE,reduceIte];rw[if_pos hz] at hk;exact hk
 ·have d0:(((1:Nat):Int)<2)=True:=by simp
  have w0:IntKind.i64.wrap ((1:Int)+1)=((2:Nat):Int):=by rw[fH (by omega) (by omega)];rfl
  have c1:((1:Nat):Int)=1:=rfl;have hz:=ha (by omega);simp only[d0,c1,y1,y2,cE,reduceIte];by_cases hy:b=0
  ·have e:(b !=0)=false:=by simp[hy]
   simp only[e,w0,cE,reduceIte];exact⟨⟨2,by omega,rfl,by trivial,λ_=>hz,λ_=>hy⟩,by simp[gQ,e3]⟩
  ·have e:(b !=0)=true:=by simp[hy]
   simp only[e,cE,reduceIte];rw[if_neg (by simp[hz])] at hk;exact hk
 ·have d0:(((2:Nat):Int)<2)=False:=by simp
  simp only[d0,cE,reduceIte];rw[if_neg (by simp[ha (by omega)]),hb (by omega)] at hk;exact hk
def cfI(a b:It):Int:=if aFp a.p.f b.p.f≠0 then aFp a.p.f b.p.f else aFp a.p.s b.p.s
def aX2{h:PH}(a b:It){k:cD}(hk:∀h',dD h h'->k (.int .i64 (cfI a b)) h'):aT PG sN #[.agg a.cells.toArray,.agg b.cells.toArray] h k:=by
 apply sF.call;unfold sF;intro r1 hr1;rw[cW];intro r3 hr3;rw[cW];have u1:dD h (h.set r1 (.cells a.cells.toArray dE)):=cQ.new hr1;have b1:Bx (h.set r1 (.cells a.cells.toArray dE)) r1 a.cells:=Bx.new;show dY _ _;have u3:dD (h.set r1 (.cells a.cells.toArray dE)) ((h.set r1 (.cells a.cells.toArray dE)).set r3 (.cells b.cells.toArray dE)):=cQ.new hr3;have b3:Bx ((h.set r1 (.cells a.cells.toArray dE)).set r3 (.cells b.cells.toArray dE)) r3 b.cells:=Bx.new;have b1':=b1.ext u3;have u:=u1.trans u3;change dD h ((h.set r1 (.cells (Value.cells (.agg a.cells.toArray)) dE)).set r3 (.cells (Value.cells (.agg b.cells.toArray)) dE)) at u;change Bx ((h.set r1 (.cells (Value.cells (.agg a.cells.toArray)) dE)).set r3 (.cells (Value.cells (.agg b.cells.toArray)) dE)) r3 _ at b3;change Bx ((h.set r1 (.cells (Value.cells (.agg a.cells.toArray)) dE)).set r3 (.cells (Value.cells (.agg b.cells.toArray)) dE)) r1 _ at b1';generalize (h.set r1 (.cells (Value.cells (.agg a.cells.toArray)) dE)).set r3 (.cells (Value.cells (.agg b.cells.toArray)) dE)=h4 at *;have c1:dB h4 ⟨r1,0,none⟩=some (.int .i64 a.p.f):=b1'.cell 0;have c2:dB h4 ⟨r1,1,none⟩=some (.int .u64 a.p.s):=b1'.cell 1;have c3:dB h4 ⟨r3,0,none⟩=some (.int .i64 b.p.f):=b3.cell 0;have c4:dB h4 ⟨r3,1,none⟩=some (.int .u64 b.p.s):=b3.cell 1;simp only[dE.f0,aR.f0,aR.f1,fQ,bR.load,cA.load,c1,c2,c3,c4,cE,reduceIte];refine aPV _ _ ⟨c4,c2,?_⟩;refine aNb _ _ ?_;have hb:jV PG (buildSlice nQ 2 #[(0,.int .i64 (aFp a.p.f b.p.f)),(1,.int .i64 (aFp a.p.s b.p.s))])=some (.cells #[.int .i64 (aFp a.p.f b.p.f),.int .i64 (aFp a.p.s b.p.s)] bR (0,0),λr=>pure (.slice (some ⟨r,0,none⟩) 2 2)):=by kernel_rfl
 rw[hb,aDC];intro r hr;refine fP ?_
 try rw[cW]
 have hO:eM (h4.set r (.cells #[.int .i64 (aFp a.p.f b.p.f),.int .i64 (aFp a.p.s b.p.s)] bR (0,0))) bR 1 (.slice (some ⟨r,0,none⟩) 2 2) ([aFp a.p.f b.p.f,aFp a.p.s b.p.s].map aNV) [r]:=
  eM.lit (aNV.rows _) dL rfl (by decide) rfl
 refine bAh hO.slR (hk _ ?_);exact u.trans (cQ.new hr)
def tB(k:Tx):Value:=.string (tx k)
def bAM{h:PH}{n:Nat}(a b:Tx):cG PG h (Op.equalIn (n+1) bT (.string (tx a)) (.string (tx b)))=some (decide (a=b)):=by
 rw[aF1 bT.und,aE4];congr 1;rw[zLm];simp only[decide_eq_true_eq];exact⟨aMe,λe=>by rw[e]⟩
def aGC{h:PH}{t:TypeId}{x y:Operand}(a b:Tx):cG PG h (jT .neq t x y (.string (tx a)) (.string (tx b)))=some (.bool (!decide (a=b))):=by
 have e:cG PG h (jT .neq t x y (.string (tx a)) (.string (tx b)))=some (.bool (!((tx a).toList==(tx b).toList))):=rfl;rw[e,aC8,aC8];congr 3;rw[zLm];simp
def aF5{h:PH}{t:TypeId}{x y:Operand}(a b:Tx):cG PG h (jT .eql t x y (.string (tx a)) (.string (tx b)))=some (.bool (decide (a=b))):=by
 have e:cG PG h (jT .eql t x y (.string (tx a)) (.string (tx b)))=some (.bool ((tx a).toList==(tx b).toList)):=rfl;rw[e,aC8,aC8];congr 2;rw[zLm];simp
def aJk:aKN PG bT tB where
 chk:=λh b a=>by unfold tB;cases b<;>kernel_rfl
 eq:=λh a b=>bAM (n:=9999) a b
 bits:=λa=>by
  show Instr.sameBits (9999+1) (.string (tx a)) (.string (tx a))=true;simp[Instr.sameBits,aE4]
 now:=⟨_,bT.und,.inr λa b=>by
  unfold tB;show some (tx a==tx b)=_;rw[aE4];congr 1;rw[zLm];simp only[decide_eq_true_eq];exact⟨aMe,λe=>by rw[e]⟩⟩
def aGn{h:PH}{e:TypeId}{n:Nat}{v:Value}{rows:List (List Value)}{F:List Nat}(O:eM h e n v rows F):aDG v F:=λy m c e1=>by
 rcases O.here with⟨e2,_,_⟩|⟨b,cap',cs,e2,e3,_⟩
 ·rw[e2] at e1;cases e1
 ·rw[e2] at e1;simp only[Value.slice.injEq,zL9] at e1;rw[←e1.1,e3];simp
structure Msg where
 kind:Int
 dest:Int
 height:Int
 pfrom:Int
 pseq:Int
 ptimeout:Int
 pdata:ByteArray
 proof:ByteArray
 deriving DecidableEq
def mv(l:List Msg)(k to:Nat)(m:Msg):List Msg:=
 if k<to then l.take k++(l.drop (k+1)).take (to-k)++[m]++l.drop (to+1) else l.take to++[m]++(l.drop to).take (k-to)++l.drop (k+1)
def aQd(x:Int):dH PG (convert bR oA (.int .i64 x))=some (.int .u64 (IntKind.u64.wrap x)):=by kernel_rfl
def aQc(x:Int):dH PG (convert oA bR (.int .u64 x))=some (.int .i64 (IntKind.i64.wrap x)):=by kernel_rfl
def aUp{h:PH}{n:Nat}{fid:FuncId}{cap:Array Value}{f:Nat->Bool}(hn:n≤1000000000)(hm:∀i j,i≤j->j<n->f i=true->f j=true)
  (hf:∀i,i<n->∀k',k' (.bool (f i)) h->aT PG fid (#[] ++ #[.int .i64 i]++cap) h k') {k:cD}
  (hk:∀m,m≤n->(∀i,i<m->f i=false)->(∀i,m≤i->i<n->f i=true)->k (.int .i64 m) h):
  aT PG aH9 #[.int .i64 n,.func (.func fid) #[] cap] h k:=by
 apply aIH.call;unfold aIH;refine⟨λvs h'=>∃i j:Nat,i≤j∧j≤n∧vs=[.func (.func fid) #[] cap,.int .i64 i,.int .i64 j]∧h'=h∧(∀x,x<i->f x=false)∧(∀x,j≤x->x<n->f x=true),λvs _=>match vs with|[_,.int _ i,.int _ j]=>(j-i).toNat|_=>0,⟨0,n,by omega,by omega,rfl,rfl,by omega,by omega⟩,?_⟩;rintro ρ h' ⟨i,j,hij,hj,hvs,rfl,h1,h2⟩;simp only[iH,jA,lN,and_true] at hvs;obtain⟨e0,e1,e2⟩:=hvs;rw[e0,e1,e2];unfold aLH;by_cases hc:i<j
 ·have hd:((i:Int)<(j:Int))=True:=by simp only[eq_iff_iff,iff_true];omega
  have a1:IntKind.i64.wrap ((i:Int)+(j:Int))=((i+j:Nat):Int):=by rw[fH (by omega) (by omega)];omega
  have a2:IntKind.u64.wrap ((i+j:Nat):Int)=((i+j:Nat):Int):=by
   unfold IntKind.wrap;simp[IntKind.signed,IntKind.bits];omega
  have a3:((i+j:Nat):Int).fdiv (2^(min (1:Int).toNat IntKind.u64.bits))=(((i+j)/2:Nat):Int):=by
   have:min (1:Int).toNat IntKind.u64.bits=1:=by decide
   rw[this,Int.fdiv_eq_ediv_of_nonneg _ (by decide)];omega
  have a4:IntKind.i64.wrap (((i+j)/2:Nat):Int)=(((i+j)/2:Nat):Int):=by rw[fH (by omega) (by omega)]
  have a5:IntKind.i64.wrap ((((i+j)/2:Nat):Int)+1)=(((i+j)/2+1:Nat):Int):=by rw[fH (by omega) (by omega)];omega
  simp only[hd,a1,aQd,a2,aJn (show(0:Int)≤1 by decide),a3,aQc,a4,cE,reduceIte];refine hf ((i+j)/2) (by omega) _ ?_;cases e:f ((i+j)/2) with
  | false=>
   simp only[a5,cE,reduceIte];refine⟨⟨(i+j)/2+1,j,by omega,hj,rfl,rfl,λx hx=>?_,h2⟩,by simp[e1,e2];omega⟩;cases e':f x with
   | false=>rfl
   | true=>rw[hm x ((i+j)/2) (by omega) (by omega) e'] at e;cases e
  | true=>
   simp only[cE,reduceIte];exact⟨⟨i,(i+j)/2,by omega,by omega,rfl,rfl,h1,λx hx hx2=>hm _ _ hx hx2 e⟩,by simp[e1,e2];omega⟩
 ·have hd:((i:Int)<(j:Int))=False:=by apply eq_false;omega
  simp only[hd,cE,reduceIte];have:i=j:=by omega
  subst this;exact hk i hj h1 h2
structure hZ where
 height:Int
 root:ByteArray
 deriving DecidableEq
def hZ.cells(m:hZ):List Value:=[.int .u64 m.height,.string m.root]
def hZ.rows(l:List hZ):Rows 2 (l.map hZ.cells):=λr hr=>by
 obtain⟨m,_,rfl⟩:=mJ.1 hr;rfl
def hZ.isCell(l:List hZ):∀r∈l.map hZ.cells,∀u∈r,fW u=true:=λr hr u hu=>by
 obtain⟨m,_,rfl⟩:=mJ.1 hr;simp only[hZ.cells,gU,lH,or_false] at hu;rcases hu with rfl|rfl<;>rfl
def aFT(x:Int):List Value:=[.int .u64 x]
def aFT.rows(l:List Int):Rows 1 (l.map aFT):=λr hr=>by
 obtain⟨m,_,rfl⟩:=mJ.1 hr;rfl
def aFT.isCell(l:List Int):∀r∈l.map aFT,∀u∈r,fW u=true:=λr hr u hu=>by
 obtain⟨m,_,rfl⟩:=mJ.1 hr;simp only[aFT,gU,lH,or_false] at hu;subst hu;rfl
def hts(l:List hZ):List Int:=l.map hZ.height
def aLT(hs:List Int):Int:=hs.getLast?.getD 0
def mC(l:List hZ)(x:Int):Option ByteArray:=(l.find? λp=>decide (x=p.height)).map hZ.root
def aAq(l:List hZ)(x:hZ):Int×List hZ:=if x.root.size≠32 then(1,l) else if x.height∈hts l then(4,l) else if 4096≤l.length then(2,l) else(0,l++[x])
structure wV(hs:List Int)(l:List hZ):Prop where
 perm:hs.Perm (hts l)
 up:hs.Pairwise (· < ·)
def wV.mem{hs:List Int}{l:List hZ}(H:wV hs l){x:Int}:x∈hs↔x∈hts l:=H.perm.mem_iff
def wV.len{hs:List Int}{l:List hZ}(H:wV hs l):hs.length=l.length:=by rw[H.perm.length_eq];simp[hts]
def aOL(l:List hZ)(x:Int):(mC l x).isSome=decide (x∈hts l):=by
 unfold mC hts;induction l with
 | nil=>rfl
 | cons p ps ih=>
  simp only[aNw,iH,gU];by_cases e:x=p.height
  ·simp[e]
  ·simp only[e,decide_false,false_or];exact ih
def hZ.ent(p:hZ):Int×Value:=(p.height,.string p.root)
def aR5(l:List hZ)(x:Int):aBH (l.map hZ.ent) x=(mC l x).map Value.string:=by
 unfold mC aBH;induction l with
 | nil=>rfl
 | cons p ps ih=>
  simp only[aNw,iH,hZ.ent];by_cases e:x=p.height
  ·simp[e]
  ·simp only[e,decide_false];exact ih
def aVV(l:List hZ):uU (l.map hZ.ent)=hts l:=by simp[uU,hts,hZ.ent]
def wV.cut{hs:List Int}{l:List hZ}(H:wV hs l){x:hZ}(hx:x.height∉hts l){m:Nat}(h1:∀y∈hs.take m,y<x.height)(h2:∀y∈hs.drop m,x.height≤y):wV (hs.take m++[x.height]++hs.drop m) (l++[x]) where
 perm:=by
  have:hts (l++[x])=hts l++[x.height]:=by simp[hts]
  rw[this];refine((List.perm_append_comm (l₁:=hs.take m) (l₂:=[x.height])).append_right _).trans ?_;rw[nM,aLw];exact List.perm_append_comm.trans (H.perm.append_right _)
 up:=by
  have hs':=H.up;rw[←aLw m hs,List.pairwise_append] at hs';have h2':∀y∈hs.drop m,x.height<y:=λy hy=>by
   have h3:=h2 y hy;have:y≠x.height:=by rintro rfl;exact hx (H.mem.1 (aN3 hy))
   omega
  rw[nM,List.pairwise_append];refine⟨hs'.1,?_,?_⟩
  ·rw[List.singleton_append,zL3];exact⟨h2',hs'.2.1⟩
  ·intro a ha b hb;rcases gU.1 (by simpa using hb) with rfl|hb
   ·exact h1 a ha
   ·exact hs'.2.2 a ha b hb
structure rP(h:PH)(a:Nat)(l:List hZ)(hs:List Int)(F:List Nat):Prop where
 here:∃r v G,h a=some (.cells #[.map (some r),v] iC (0,0))∧jR aL8 h r (l.map hZ.ent)∧eM h cA 1 v (hs.map aFT) G∧F=a::r::G∧a≠r∧a∉G∧r∉G
 rank:wV hs l
 few:l.length≤4096
def rP.known{h:PH}{a:Nat}{l:List hZ}{hs:List Int}{F:List Nat}(H:rP h a l hs F):∀b∈F,h b≠none:=by
 obtain⟨r,v,G,ha,hM,hO,rfl,-⟩:=H.here;intro b hb;simp only[gU] at hb;rcases hb with rfl|rfl|hb
 ·rw[ha];simp
 ·exact hM.known
 ·exact hO.known b hb
def rP.upd{h h':PH}{a:Nat}{l:List hZ}{hs:List Int}{F G:List Nat}(H:rP h a l hs F)(u:cQ G h h')(hd:∀b∈F,b∉G):rP h' a l hs F:=by
 obtain⟨r,v,G',ha,hM,hO,rfl,hn⟩:=H.here;exact⟨⟨r,v,G',u.get ha (hd a (by simp)),hM.upd u (hd r (by simp)),hO.upd u (λb hb=>hd b (by simp[hb])),rfl,hn⟩,H.rank,H.few⟩
def rP.ext{h h':PH}{a:Nat}{l:List hZ}{hs:List Int}{F:List Nat}(H:rP h a l hs F)(u:dD h h'):rP h' a l hs F:=H.upd u (by simp)
def aXk{h:PH}{k:cD}(hk:∀a h' F,rP h' a [] [] F->dD h h'->eK h F->k (pT a 0) h'):aT PG aIs #[] h k:=by
 apply aJC.call;unfold aJC;simp only[aFX,cE,reduceIte];intro r hr;refine fP ?_;have e1:dH PG (build iC #[(0,Value.map (some r))])=some (.agg #[.map (some r),.slice none 0 0]):=by kernel_rfl
 simp only[e1,cE,reduceIte];intro a ha;have hne:a≠r:=by rintro rfl;rw[dL] at ha;cases ha
 have ha0:h a=none:=by rwa [qY hne] at ha
 refine hk a _ [a,r] ⟨⟨r,.slice none 0 0,[],dL,jR.new.ext (cQ.new ha),eM.nil,rfl,hne,by simp,by simp⟩,⟨by simp[hts],by simp⟩,by simp⟩ ((cQ.new hr).trans (cQ.new ha)) ?_;intro b hb;simp only[gU,lH,or_false] at hb;rcases hb with rfl|rfl
 ·exact ha0
 ·exact hr
def fZ.u64{h:PH}{x:Value}{xs:List Int}(H:fZ h 1 x (xs.map aFT)){k:IntKind}{j:Nat}{m:Int}(hm:xs[j]? =some m):
  ∃a,dH PG (indexAt eH x (.int k j))=some (.pointer (some a))∧cG PG h (loadAt cA (.pointer (some a)))=some (.int .u64 m):=
 H.loadCell eH.und cA.info cA.size cA.und rfl (by omega) (by simp[wA,hm,aFT])
def aVx{h:PH}{a:Nat}{mv v:Value}{hs:List Int}{G:List Nat}(ha0:h a=some (.cells #[mv,v] iC (0,0)))(hO0:eM h cA 1 v (hs.map aFT) G)(hup:hs.Pairwise (· < ·))(hfew:hs.length≤4096)(x:Int){k:cD}
  (hk:∀m h',m≤hs.length->(∀y∈hs.take m,y<x)->(∀y∈hs.drop m,x≤y)->dD h h'->k (.int .i64 (m:Nat)) h'):aT PG aB4 #[pT a 0,.int .u64 x] h k:=by
 apply aAx.call;unfold aAx;intro r1 hr1;simp only[cE,reduceIte];intro r3 hr3;have u1:dD h (h.set r1 (.cells (Value.cells (pT a 0)) jG)):=cQ.new hr1;have hne:r1≠r3:=aVD dL hr3;have e1:(h.set r1 (.cells (Value.cells (pT a 0)) jG)) r1=some (.cells #[pT a 0] jG):=dL;generalize h.set r1 (.cells (Value.cells (pT a 0)) jG)=h1 at *;have u2:dD h1 (h1.set r3 (.cells (Value.cells (.int .u64 x)) cA)):=cQ.new hr3;have e2:(h1.set r3 (.cells (Value.cells (.int .u64 x)) cA)) r3=some (.cells #[.int .u64 x] cA):=dL;have e3:=u2.get e1;generalize h1.set r3 (.cells (Value.cells (.int .u64 x)) cA)=h2 at *;have w:=u1.trans u2;have ha:=w.get ha0;have hO:=hO0.ext w;have hlv:=hO.slR.len (t':=bR) eH.und;rw[iV] at hlv;simp only[jG.load,dB,e3,iC.f1,fQ,eH.load,ha,hlv,cE,reduceIte];refine aUp (f:=λi=>decide (x≤hs.getD i 0)) (by omega) ?_ ?_ ?_
 ·intro i j hij hj hfi;simp only[decide_eq_true_eq] at hfi ⊢;by_cases e:i=j
  ·subst e;exact hfi
  ·have:=List.pairwise_iff_getElem.1 hup i j (by omega) hj (by omega);rw[aBM,lJ (by omega)] at hfi ⊢;simp only[aIu] at hfi ⊢;omega
 ·intro i hi k' hk';show aT PG aAl #[.int .i64 i,pT r1 0,pT r3 0] h2 k';apply qJ.call;unfold qJ;obtain⟨p,p1,p2⟩:=hO.slR.u64 (k:=.i64) (j:=i) (m:=hs.getD i 0) (by rw[aBM,lJ hi];rfl);have p3:cG PG h2 (loadAt cA (pT r3 0))=some (.int .u64 x):=by rw[cA.load];simp[dB,e2]
  simp only[jG.load,dB,e3,iC.f1,fQ,eH.load,ha,p1,p2,p3,cE,reduceIte];exact hk'
 ·intro m hm h1 h2;refine hk m _ hm ?_ ?_ w
  ·intro y hy;obtain⟨i,hi,rfl⟩:=List.mem_iff_getElem.1 hy;rw[nI] at hi;have:=h1 i (by omega);rw[aBM,lJ (by omega)] at this;simp only[aIu,decide_eq_false_iff_not] at this;rw[List.getElem_take];omega
  ·intro y hy;obtain⟨i,hi,rfl⟩:=List.mem_iff_getElem.1 hy;rw[pK] at hi;have:=h2 (m+i) (by omega) (by omega);rw[aBM,lJ (by omega)] at this;simp only[aIu,decide_eq_true_eq] at this;rw[List.getElem_drop];exact this
def aXe{h:PH}{a:Nat}{l:List hZ}{hs:List Int}{F:List Nat}(hC:rP h a l hs F)(x:Int){k:cD}
  (hk:k (.tuple #[.string ((mC l x).getD ⟨#[]⟩),.bool (mC l x).isSome]) h):aT PG aC0 #[pT a 0,.int .u64 x] h k:=by
 apply aBf.call;unfold aBf;obtain⟨r,v,G,ha,hM,hO,rfl,hn⟩:=hC.here;have hl:=aHV (aRu cA.und) iB.und bT.info bT.zero hM x true;rw[aR5] at hl;have hl':cG PG h (Instr.lookup iB (.map (some r)) (.int .u64 x) true)=some (.tuple #[.string ((mC l x).getD ⟨#[]⟩),.bool (mC l x).isSome]):=by
  rw[show(Value.int .u64 x)=aL8 x from rfl,hl];cases mC l x<;>rfl
 simp only[dB,iC.f0,iB.load,ha,hl',cE,reduceIte];exact hk
def aUQ{h:PH}{a:Nat}{l:List hZ}{hs:List Int}{F:List Nat}(hC:rP h a l hs F){k:cD}
  (hk:k (.int .u64 (aLT hs)) h):aT PG aBN #[pT a 0] h k:=by
 have hlen:=hC.rank.len;have hfew:=hC.few;apply rC.call;unfold rC;obtain⟨r,v,G,ha,hM,hO,rfl,hn⟩:=hC.here;have hlv:=hO.slR.len (t':=bR) eH.und;rw[iV] at hlv;simp only[dB,iC.f1,fQ,eH.load,ha,hlv,cE,reduceIte];unfold aLT at hk;rw[List.getLast?_eq_getElem?] at hk;by_cases hc:hs.length=0
 ·have e:((hs.length:Int)==0)=true:=by simp[hc]
  have e2:hs=[]:=zLO hc;simp only[e,cE,reduceIte];rw[e2] at hk;exact hk
 ·have e:((hs.length:Int)==0)=false:=by simpa using hc
  have e2:IntKind.i64.wrap ((hs.length:Int)-1)=((hs.length-1:Nat):Int):=by rw[fH (by omega) (by omega)];omega
  obtain⟨y,hy⟩:∃y,hs[hs.length-1]? =some y:=⟨_,lJ (by omega)⟩;obtain⟨p,p1,p2⟩:=hO.slR.u64 (k:=.i64) hy;simp only[e,e2,p1,p2,cE,reduceIte];rw[hy] at hk;exact hk
def aY6(x:Int):jV PG (buildSlice eH 1 #[(0,.int .u64 x)])=some (.cells #[.int .u64 x] cA,λr=>pure (.slice (some ⟨r,0,none⟩) 1 1)):=by kernel_rfl
def aY8{h:PH}{a:Nat}{l:List hZ}{hs:List Int}{F:List Nat}(hC:rP h a l hs F)(x:hZ){k:cD}
  (hk:∀h' hs' F',rP h' a (aAq l x).2 hs' F'->cQ F h h'->(∀b∈F',b∈F∨h b=none)->k (.int .i64 (aAq l x).1) h'):aT PG aDu #[pT a 0,.int .u64 x.height,.string x.root] h k:=by
 have hlen:=hC.rank.len;have hfew:=hC.few;apply vQ.call;unfold vQ;unfold aAq at hk;have hsame:=hk;simp only[bT.len,cE,reduceIte];by_cases c1:x.root.size=32
 ·have e1:((x.root.size:Int) !=32)=false:=by simp[c1]
  rw[if_neg (by simpa using c1)] at hk;obtain⟨r,v,G,ha,hM,hO,hF,n1,n2,n3⟩:=hC.here;have hl:=aHV (aRu cA.und) iB.und bT.info bT.zero hM x.height true;rw[aR5] at hl;have hl':cG PG h (Instr.lookup iB (.map (some r)) (.int .u64 x.height) true)=some (.tuple #[.string ((mC l x.height).getD ⟨#[]⟩),.bool (mC l x.height).isSome]):=by
   rw[show(Value.int .u64 x.height)=aL8 x.height from rfl,hl];cases mC l x.height<;>rfl
  simp only[e1,dB,iC.f0,iB.load,ha,hl',aOL,cE,reduceIte];by_cases c2:x.height∈hts l
  ·simp only[c2,cE,reduceIte];rw[if_pos c2] at hk;exact hk _ _ _ hC cQ.refl (λb hb=>.inl hb)
  ·rw[if_neg c2] at hk;have hml:=hM.len (t':=bR) iB.und;rw[iV] at hml;simp only[c2,hml,cE,reduceIte];by_cases c3:4096≤l.length
   ·have e3:((4096:Int)≤(l.length:Int))=True:=by apply eq_true;omega
    simp only[e3,cE,reduceIte];rw[if_pos c3] at hk;exact hk _ _ _ hC cQ.refl (λb hb=>.inl hb)
   ·have e3:((4096:Int)≤(l.length:Int))=False:=by apply eq_false;omega
    rw[if_neg c3] at hk;simp only[e3,cE,reduceIte];refine aKy (enc:=aL8) (aRu cA.und) iB.und hM x.height (.string x.root) λh1 hM1 u1=>?_;have hput:aDv (l.map hZ.ent) x.height (.string x.root)=(l++[x]).map hZ.ent:=by
     unfold aDv;rw[aVV,if_neg c2];simp[hZ.ent]
    rw[hput] at hM1;have ha1:=u1.get ha (by simp[n1]);have hO1:=hO.upd u1 (λb hb hf=>by simp at hf;subst hf;exact n3 hb);refine aVx ha1 hO1 hC.rank.up (by omega) x.height λm h2 hm p1 p2 u2=>?_;have ha2:=u2.get ha1;have hO2:=hO1.ext u2;have hM2:=hM1.ext u2;obtain⟨va,w1,w2⟩:=hO2.slR.full eH.und cA.info (m:=m) (k2:=.i64) (k3:=.i64) (by simpa using hm);obtain⟨y,y1,y2,-⟩:=hO2.slR.cut eH.und cA.info cA.size (hi:=none) (.inr ⟨.i64,rfl⟩) (.inl ⟨rfl,rfl⟩) (show m≤_ by simpa using hm) (nC _);rw[lY (nC _)] at y2;simp only[dB,iC.f1,fQ,eH.load,ha2,w1,y1,aY6,cE,reduceIte];intro r3 hr3;refine fP ?_;have u3:dD h2 (h2.set r3 (.cells #[.int .u64 x.height] cA)):=cQ.new hr3;have hx3:fZ (h2.set r3 (.cells #[.int .u64 x.height] cA)) 1 (.slice (some ⟨r3,0,none⟩) 1 1) ([x.height].map aFT):=(eM.lit (aFT.rows _) dL (by simp) (by decide) (by simp[aFT])).slR;generalize h2.set r3 (.cells #[.int .u64 x.height] cA)=h3 at *;refine aSJ eH.und eH.und cA.info cA.size cA.bytes cA.zero rfl (by decide) (w2.ext u3) rfl hx3 (by simp;omega) (by simp) λv4 h4 F4 hO4 u4 k4=>?_;have ha4:=(u3.trans u4).get ha2;refine⟨by simp[ha4],?_⟩;rw[←aJo,←pO] at hO4;have y4:=(y2.ext u3).ext u4;rw[←aL2] at y4;refine jK eH.und eH.und cA.info cA.size cA.bytes cA.zero rfl (by decide) hO4 y4 (aFT.isCell _) (by simp;omega) ?_;intro v5 h5 F5 hO5 u5 k5 _;rw[←pO] at hO5;have na4:a∉F4:=λhm'=>by have:=k4 a hm';rw[u3.get ha2] at this;cases this
    have nr4:r∉F4:=λhm'=>(hM2.ext u3).known (k4 r hm');have ha5:=u5.get ha4 na4;have hM5:=((hM2.ext u3).ext u4).upd u5 nr4;have na5:a∉F5:=λhm'=>by
     rcases k5 a hm' with h|h
     ·exact na4 h
     ·rw[ha4] at h;cases h
    have nr5:r∉F5:=λhm'=>by
     rcases k5 r hm' with h|h
     ·exact nr4 h
     ·exact(((hM2.ext u3).ext u4)).known h
    refine iT eH.und rfl ha5 (by simp) ?_ eH.info eH.size ?_
    ·obtain⟨_,_,rfl,-⟩:=hO5.slR.here;rfl
    have u6:cQ [a] h5 (h5.set a (.cells ((#[.map (some r),v]:Array Value).setIfInBounds 1 v5) iC (0,0))):=cQ.set (by simp);have ua:cQ F h h4:=by
     have:cQ [r] h h4:=(u1.trans u2.upd).trans (u3.trans u4).upd;exact this.mono λb hb=>.inl (by simp at hb;subst hb;rw[hF];simp)
    have g4:∀b∈F4,h b=none:=λb hb=>by
     have hb3:h2 b=none:=u3.none (k4 b hb);have hb1:h1 b=none:=u2.none hb3;cases e:h b with
     | none=>rfl
     | some o=>
      by_cases hbr:b=r
      ·subst hbr;exact absurd hb1 hM1.known
      ·have:=u1.get e (by simp[hbr]);rw[hb1] at this;cases this
    have g5:∀b∈F5,h b=none:=λb hb=>by
     rcases k5 b hb with h'|h'
     ·exact g4 b h'
     ·cases e:h b with
      | none=>rfl
      | some o=>
       by_cases hbF:b∈F
       ·rw[hF] at hbF;simp only[gU] at hbF;rcases hbF with rfl|rfl|hbG
        ·rw[ha4] at h';cases h'
        ·exact absurd h' ((hM2.ext u3).ext u4).known
        ·exact absurd h' (((hO2.ext u3).ext u4).known b hbG)
       ·have:=ua.get e hbF;rw[h'] at this;cases this
    refine hk _ (hs.take m++[x.height]++hs.drop m) (a::r::F5) ⟨⟨r,v5,F5,dL,hM5.upd u6 (by simp;exact n1.symm),hO5.upd u6 (λb hb hf=>by simp at hf;subst hf;exact na5 hb),rfl,n1,na5,nr5⟩,hC.rank.cut c2 p1 p2,by simp;omega⟩ ?_ ?_
    ·exact(ua.then u5 (λb hb=>.inr (g4 b hb))).then u6 (λb hb=>.inl (by simp at hb;subst hb;rw[hF];simp))
    ·intro b hb;simp only[gU] at hb;rcases hb with rfl|rfl|hb
     ·exact .inl (by rw[hF];simp)
     ·exact .inl (by rw[hF];simp)
     ·exact .inr (g5 b hb)
 ·have e1:((x.root.size:Int) !=32)=true:=by simp;omega
  rw[if_pos (by simpa using c1)] at hk;simp only[e1,cE,reduceIte];exact hk _ _ _ hC cQ.refl (λb hb=>.inl hb)
def pS(n:Nat):List Value:=[.int .u64 (n:Int)]
def pS.rows(l:List Nat):Rows 1 (l.map pS):=λr hr=>by
 obtain⟨p,-,rfl⟩:=mJ.1 hr;rfl
def jU:List Nat->Nat
 | []=>0
 | d::l=>d+4294967296*jU l
def Dig(l:List Nat):Prop:=∀d∈l,d<4294967296
def bAz(n:Nat):0<4294967296^n:=Nat.pow_pos (by decide)
def aOG:∀(l:List Nat) (i d:Nat) (x:Nat),l[i]? =some x->jU (l.set i d)+x*4294967296^i=jU l+d*4294967296^i
 | [],i,d,x,h=>by simp at h
 | a::l,0,d,x,h=>by
  simp only[qB,zL9] at h;subst h;simp only[List.set_cons_zero,jU,Nat.pow_zero,Nat.mul_one];omega
 | a::l,i+1,d,x,h=>by
  have ih:=aOG l i d x (by simpa using h);simp only[List.set_cons_succ,jU];have e1:x*4294967296^(i+1)=4294967296*(x*4294967296^i):=by rw[zLR,zLS (4294967296^i),Nat.mul_left_comm]
  have e2:d*4294967296^(i+1)=4294967296*(d*4294967296^i):=by rw[zLR,zLS (4294967296^i),Nat.mul_left_comm]
  rw[e1,e2];omega
def aK8:∀{l:List Nat},Dig l->jU l<4294967296^l.length
 | [],_=>by simp[jU]
 | a::l,h=>by
  have ih:=aK8 (l:=l) λd hd=>h d (by simp[hd]);have ha:=h a (by simp);simp only[jU,qE,zLR];omega
def aLV:∀{l:List Nat},Dig l->∀i,jU l/4294967296^i%4294967296=l.getD i 0
 | [],_,i=>by simp[jU]
 | a::l,h,0=>by
  have ha:=h a (by simp);simp only[jU,Nat.pow_zero,Nat.div_one,List.getD_cons_zero];omega
 | a::l,h,i+1=>by
  have ih:=aLV (l:=l) (λd hd=>h d (by simp[hd])) i;have ha:=h a (by simp);have e:(a+4294967296*jU l)/4294967296=jU l:=by omega
  simp only[jU,List.getD_cons_succ];rw[zLR,zLS (4294967296^i),←Nat.div_div_eq_div_mul,e,ih]
def aMo:∀(l:List Nat) (i x:Nat),l[i]? =some x->jU (l.take (i+1))=jU (l.take i)+x*4294967296^i
 | [],i,x,h=>by simp at h
 | a::l,0,x,h=>by
  simp only[qB,zL9] at h;subst h;simp[jU]
 | a::l,i+1,x,h=>by
  have ih:=aMo l i x (by simpa using h);simp only[zLc,jU];have e1:x*4294967296^(i+1)=4294967296*(x*4294967296^i):=by rw[zLR,zLS (4294967296^i),Nat.mul_left_comm]
  rw[ih,e1];omega
def aMh(l:List Nat):∀i,jU (l.take i)≤jU l:=by
 induction l with
 | nil=>intro i;simp
 | cons a l ih=>
  intro i;cases i with
  | zero=>simp[jU]
  | succ i=>
   have:=ih i;simp only[zLc,jU];omega
def aLO(n:Nat):jU (List.replicate n 0)=0:=by
 induction n with
 | zero=>rfl
 | succ n ih=>simp only[List.replicate_succ,jU,ih]
def aMV(n:Nat):Dig (List.replicate n 0):=λd hd=>by
 rw[List.mem_replicate] at hd;omega
abbrev aG9(h:PH)(v:Value)(l:List Nat)(F:List Nat):Prop:=eM h cA 1 v (l.map pS) F
def aMw{h:PH}{v:Value}{l:List Nat}(S:fZ h 1 v (l.map pS)){i x:Nat}(hx:l[i]? =some x):∃a,dH PG (indexAt eH v (.int .i64 (i:Int)))=some (.pointer (some a))∧cG PG h (loadAt cA (.pointer (some a)))=some (.int .u64 (x:Int)):=
 S.loadCell (t:=eH) (k:=.i64) (j:=(i:Int)) eH.und cA.info cA.size cA.und rfl (by omega) (by rw[rA,wA,hx];rfl)
def aLc{h:PH}{v:Value}{l:List Nat}(S:fZ h 1 v (l.map pS)):dH PG (Builtin.len_ #[eH] bR #[v])=some (.int .i64 l.length):=by
 have:=S.len (t':=bR) eH.und;rw[iV] at this;exact this
def aRP{h:PH}{n:Nat}(hn:n≤1000):∃zs,jV PG (Instr.makeSlice eH (.int .i64 n) (.int .i64 n))=some (.cells zs cA (0,0),λr=>pure (.slice (some ⟨r,0,none⟩) n n))∧zs.toList=((List.replicate n 0).map pS).flatten:=by
 obtain⟨zs',hm,hz⟩:=aCq (P:=PG) (n:=n) eH.und cA.info cA.size cA.bytes cA.zero rfl (by decide) (by omega) (by omega);refine⟨zs',hm,?_⟩;rw[hz,List.map_replicate];rfl
def aQn{h:PH}{v:Value}{l:List Nat}{F:List Nat}(O:aG9 h v l F)(hd:Dig l)(pos x:Nat)(hp:pos≤1000)(hx:x≤18446744069414584320)(hT:jU l+x*4294967296^pos<4294967296^l.length)(hl:l.length≤1000){k:cD}
  (hk:∀h' l',aG9 h' v l' F->Dig l'->l'.length=l.length->jU l'=jU l+x*4294967296^pos->cQ F h h'->k (.tuple #[]) h'):aT PG wW #[v,.int .i64 (pos:Int),.int .u64 (x:Int)] h k:=by
 apply aDt.call;unfold aDt;generalize hTT:jU l+x*4294967296^pos=T at *;refine⟨λvs h'=>∃(l':List Nat) (p y:Nat),vs=[v,.int .i64 (p:Int),.int .u64 (y:Int)]∧aG9 h' v l' F∧Dig l'∧l'.length=l.length∧p≤1001∧y≤18446744069414584320∧jU l'+y*4294967296^p=T∧cQ F h h',gQ l.length 1,⟨l,pos,x,rfl,O,hd,rfl,by omega,hx,hTT,cQ.refl⟩,?_⟩;rintro ρ h' ⟨l',p,y,hvs,O',hd',hl',hp',hy,hv,u⟩;simp only[iH,jA,lN,and_true] at hvs;obtain⟨v0,v1,v2⟩:=hvs;simp only[v0,v1,v2,iH,jA];unfold aHt;have lv:=aLc O'.slR;by_cases h0:y=0
 ·subst h0;have g1:((0:Int)<((0:Nat):Int))=False:=eq_false (by decide);simp only[g1,cE,reduceIte];exact hk h' l' O' hd' hl' (by rw[←hv];simp) u
 have g1:((0:Int)<(y:Int))=True:=eq_true (by omega);by_cases hlt:p<l'.length
 ·have g2:((p:Int)<(l'.length:Int))=True:=eq_true (by omega);have hx':l'[p]? =some l'[p]:=lJ hlt;have hdx:=hd' _ (aMf hlt);generalize l'[p]=d at *;obtain⟨pa,p1,p2⟩:=aMw O'.slR hx';have e1:Int.tmod (y:Int) 4294967296=((y%4294967296:Nat):Int):=(Int.ofNat_tmod _ 4294967296).symm;have e2:IntKind.u64.wrap (((y%4294967296:Nat):Int)+(d:Int))=((y%4294967296+d:Nat):Int):=by rw[gO (by omega) (by omega)];omega
  have e3:Int.tdiv (y:Int) 4294967296=((y/4294967296:Nat):Int):=rfl;have e4:IntKind.u64.wrap ((y/4294967296:Nat):Int)=((y/4294967296:Nat):Int):=gO (by omega) (by omega);have e5:IntKind.u64.wrap (((y/4294967296:Nat):Int)*4294967296)=((y/4294967296*4294967296:Nat):Int):=by rw[gO (by omega) (by omega)];omega
  have e6:IntKind.u64.wrap (((y%4294967296+d:Nat):Int)+((y/4294967296*4294967296:Nat):Int))=((y+d:Nat):Int):=by rw[gO (by omega) (by omega)];omega
  have e7:Int.tmod ((y+d:Nat):Int) 4294967296=(((y+d)%4294967296:Nat):Int):=(Int.ofNat_tmod _ 4294967296).symm;have e8:Int.tdiv ((y+d:Nat):Int) 4294967296=(((y+d)/4294967296:Nat):Int):=rfl;have e9:IntKind.u64.wrap (((y+d)/4294967296:Nat):Int)=(((y+d)/4294967296:Nat):Int):=gO (by omega) (by omega);have e10:=qN (i:=p) (by omega);have rm:∀(t:TypeId) (a:Int),dH PG (binOp .rem t (.int .u64 a) (.int .u64 4294967296))=some (.int .u64 (a.tmod 4294967296)):=λt a=>aHO (by decide);have qu:∀(t:TypeId) (a:Int),dH PG (binOp .quo t (.int .u64 a) (.int .u64 4294967296))=some (.int .u64 (IntKind.u64.wrap (a.tdiv 4294967296))):=λt a=>aNB (by decide);obtain⟨pb,q1,q2⟩:=O'.storeCell (t:=eH) (k:=.i64) (j:=p) eH.und cA.info cA.size cA.und rfl (by simpa using hlt) (x:=.int .u64 (((y+d)%4294967296:Nat):Int)) rfl;rw[p1] at q1;obtain rfl:pa=pb:=by simpa using q1
  simp only[g1,lv,g2,rm,qu,e1,p1,p2,e2,e3,e4,e5,e6,e7,cE,reduceIte];refine q2 _ λh2 O2 u2=>?_;have hrows:(l'.map pS).take p++[[(.int .u64 (((y+d)%4294967296:Nat):Int):Value)]]++(l'.map pS).drop (p+1)=(l'.set p ((y+d)%4294967296)).map pS:=by
   rw[List.set_eq_take_append_cons_drop,if_pos hlt,pO,iH,aJo,aL2];simp[pS]
  rw[hrows] at O2;simp only[e8,e9,e10,cE,reduceIte];refine⟨⟨_,p+1,(y+d)/4294967296,rfl,O2,λz hz=>?_,by simpa using hl',by omega,by omega,?_,u.trans u2⟩,?_⟩
  ·rcases List.mem_or_eq_of_mem_set hz with hz|rfl
   ·exact hd' z hz
   ·exact zLB _ (by decide)
  ·have:=aOG l' p ((y+d)%4294967296) d hx';have e:(y+d)%4294967296*4294967296^p+(y+d)/4294967296*4294967296^(p+1)=(y+d)*4294967296^p:=by
    rw[zLR,zLS (4294967296^p) 4294967296,←Nat.mul_assoc,←zLF];congr 1;omega
   rw[zLF] at e;omega
  ·simp only[gQ,sL,qB];omega
 ·exfalso;have h1:4294967296^l.length≤4294967296^p:=aLi (by decide) (by omega);have h2:4294967296^p≤y*4294967296^p:=Nat.le_mul_of_pos_left _ (by omega);omega
def aTz{h:PH}{v:Value}{l:List Nat}(S:fZ h 1 v (l.map pS))(hs:∀d∈l,d≤18446744069414584320)(hT:jU l<4294967296^(l.length+1))(hl:l.length≤100){k:cD}
  (hk:∀h' v' l' F',aG9 h' v' l' F'->Dig l'->l'.length=l.length+1->jU l'=jU l->eK h F'->dD h h'->k v' h'):aT PG aCC #[v] h k:=by
 apply aA7.call;unfold aA7;have lv:=aLc S;have e1:IntKind.i64.wrap ((l.length:Int)+1)=((l.length+1:Nat):Int):=by rw[fH (by omega) (by omega)];omega
 obtain⟨zs,m1,m2⟩:=aRP (h:=h) (n:=l.length+1) (by omega);simp only[lv,e1,m1,cE,reduceIte];intro r hr;refine fP ?_
 try rw[cW]
 have u1:dD h (h.set r (.cells zs cA (0,0))):=cQ.new hr;have O1:aG9 (h.set r (.cells zs cA (0,0))) (.slice (some ⟨r,0,none⟩) (l.length+1) (l.length+1)) (List.replicate (l.length+1) 0) [r]:=eM.lit (n:=l.length+1) (pS.rows _) dL (by simp) (by unfold rB;omega) m2;generalize h.set r (.cells zs cA (0,0))=h1 at *;refine⟨λvs h'=>∃(i:Nat) (l':List Nat),i≤l.length∧vs=[v,.slice (some ⟨r,0,none⟩) (l.length+1) (l.length+1),.int .i64 (i:Int)]∧aG9 h' (.slice (some ⟨r,0,none⟩) (l.length+1) (l.length+1)) l' [r]∧Dig l'∧l'.length=l.length+1∧jU l'=jU (l.take i)∧dD h h',gQ l.length 2,⟨0,_,by omega,rfl,O1,aMV _,by simp,by rw[aLO];rfl,u1⟩,?_⟩;rintro ρ h' ⟨i,l',hi,hvs,O',hd',hl',hv,u⟩;simp only[iH,jA,lN,and_true] at hvs;obtain⟨v0,v3,v4⟩:=hvs;simp only[v0,v3,v4,iH,jA];unfold aGD;by_cases hlt:i<l.length
 ·have g1:((i:Int)<(l.length:Int))=True:=eq_true (by omega);have gi:=qN (i:=i) (by omega);have hx':l[i]? =some l[i]:=lJ hlt;have hdx:=hs _ (aMf hlt);generalize l[i]=d at *;obtain⟨pa,p1,p2⟩:=aMw (S.ext u) hx';simp only[lv,g1,p1,p2,cE,reduceIte];have ht:=aMo l i d hx';have hle:=aMh l (i+1);refine aQn O' hd' i d (by omega) hdx (by rw[hl',hv,←ht];omega) (by omega) λh2 l2 O2 hd2 hl2 hv2 u2=>?_;simp only[gi,cE,reduceIte];refine⟨⟨i+1,l2,by omega,rfl,O2,hd2,by omega,by rw[hv2,hv,ht],u.fresh u2 (eK.one hr)⟩,?_⟩;simp only[gQ,sL,qB];omega
 ·have g1:((i:Int)<(l.length:Int))=False:=eq_false (by omega);simp only[lv,g1,cE,reduceIte];rw[lY (by omega)] at hv;exact hk h' _ l' [r] O' hd' hl' hv (eK.one hr) u
def aSD{h:PH}{v:Value}{l:List Nat}(S:fZ h 1 v (l.map pS))(hs:∀d∈l,d≤18446744069414584320)(hT:jU l<4294967296^(l.length+1))(hl:l.length≤50)(x:Nat)(hx:x<137438953472){k:cD}
  (hk:∀h' v' l' F',aG9 h' v' l' F'->Dig l'->l'.length=l.length+4->jU l'=jU l*x->eK h F'->dD h h'->k v' h'):aT PG aAn #[v,.int .u64 (x:Int)] h k:=by
 apply zI.call;unfold zI;refine aTz S hs hT (by omega) λh1 w p F1 O1 hd1 hl1 hv1 f1 u1=>?_;have S1:=O1.slR;have lw:=aLc S1;have e1:IntKind.i64.wrap ((p.length:Int)+3)=((p.length+3:Nat):Int):=by rw[fH (by omega) (by omega)];omega
 have e2:Int.tmod (x:Int) 4294967296=((x%4294967296:Nat):Int):=(Int.ofNat_tmod _ 4294967296).symm;have e3:Int.tdiv (x:Int) 4294967296=((x/4294967296:Nat):Int):=rfl;have e4:IntKind.u64.wrap ((x/4294967296:Nat):Int)=((x/4294967296:Nat):Int):=gO (by omega) (by omega);have rm:∀(t:TypeId) (a:Int),dH PG (binOp .rem t (.int .u64 a) (.int .u64 4294967296))=some (.int .u64 (a.tmod 4294967296)):=λt a=>aHO (by decide);have qu:∀(t:TypeId) (a:Int),dH PG (binOp .quo t (.int .u64 a) (.int .u64 4294967296))=some (.int .u64 (IntKind.u64.wrap (a.tdiv 4294967296))):=λt a=>aNB (by decide);obtain⟨zs,m1,m2⟩:=aRP (h:=h) (n:=p.length+3) (by omega);simp only[rm,qu,e2,e3,e4,lw,e1,m1,cE,reduceIte];intro r hr;refine fP ?_
 try rw[cW]
 have u2:dD h1 (h1.set r (.cells zs cA (0,0))):=cQ.new hr;have O2:aG9 (h1.set r (.cells zs cA (0,0))) (.slice (some ⟨r,0,none⟩) (p.length+3) (p.length+3)) (List.replicate (p.length+3) 0) [r]:=eM.lit (n:=p.length+3) (pS.rows _) dL (by simp) (by unfold rB;omega) m2;generalize h1.set r (.cells zs cA (0,0))=h2 at *;have hr0:h r=none:=u1.none hr;have hpl:=aK8 hd1;have hF1r:∀b∈F1,b∉[r]:=λb hb hm=>by
  simp only[gB] at hm;subst hm;exact O1.known _ hb hr
 have hbig:jU p*x<4294967296^(p.length+3):=by
  have hx2:x<4294967296^2:=by
   have:(4294967296:Nat)^2=18446744073709551616:=by decide
   omega
  calc jU p*x≤jU p*4294967296^2:=Nat.mul_le_mul_left _ (by omega)
   _<4294967296^p.length*4294967296^2:=Nat.mul_lt_mul_of_pos_right hpl (bAz 2)
   _=4294967296^(p.length+2):=by rw[←Nat.pow_add]
   _≤4294967296^(p.length+3):=aLi (by decide) (by omega)
 refine⟨λvs h'=>∃(i:Nat) (l':List Nat),i≤p.length∧vs=[w,.int .u64 ((x%4294967296:Nat):Int),.int .u64 ((x/4294967296:Nat):Int),.slice (some ⟨r,0,none⟩) (p.length+3) (p.length+3),.int .i64 (i:Int)]∧aG9 h' (.slice (some ⟨r,0,none⟩) (p.length+3) (p.length+3)) l' [r]∧Dig l'∧l'.length=p.length+3∧jU l'=jU (p.take i)*x∧cQ [r] h2 h',gQ p.length 4,⟨0,_,by omega,rfl,O2,aMV _,by simp,by rw[aLO];simp[jU],cQ.refl⟩,?_⟩;rintro ρ h' ⟨i,l',hi,hvs,O',hd',hl',hv,u⟩;simp only[iH,jA,lN,and_true] at hvs;obtain⟨v0,v5,v6,v7,v8⟩:=hvs;simp only[v0,v5,v6,v7,v8,iH,jA];unfold aEX;have Sw:=((O1.ext u2).upd u hF1r);by_cases hlt:i<p.length
 ·have g1:((i:Int)<(p.length:Int))=True:=eq_true (by omega);have gi:=qN (i:=i) (by omega);have hx':p[i]? =some p[i]:=lJ hlt;have hdx:=hd1 _ (aMf hlt);generalize p[i]=d at *;obtain⟨pa,p1,p2⟩:=aMw Sw.slR hx';have hm1:d*(x%4294967296)≤4294967295*4294967295:=Nat.mul_le_mul (by omega) (by omega);have hm2:d*(x/4294967296)≤4294967295*31:=Nat.mul_le_mul (by omega) (by omega);have f1':IntKind.u64.wrap ((d:Int)*((x%4294967296:Nat):Int))=((d*(x%4294967296):Nat):Int):=by rw[←Int.natCast_mul,gO (Int.natCast_nonneg _) (by omega)]
  have f2':IntKind.u64.wrap ((d:Int)*((x/4294967296:Nat):Int))=((d*(x/4294967296):Nat):Int):=by rw[←Int.natCast_mul,gO (Int.natCast_nonneg _) (by omega)]
  have ht:=aMo p i d hx';have hle:=zLP x (aMh p (i+1));have hsum:d*(x%4294967296)*4294967296^i+d*(x/4294967296)*4294967296^(i+1)=d*4294967296^i*x:=by
   have e:x%4294967296+x/4294967296*4294967296=x:=by omega
   calc d*(x%4294967296)*4294967296^i+d*(x/4294967296)*4294967296^(i+1)
     =d*4294967296^i*(x%4294967296+x/4294967296*4294967296):=by rw[zLR,Nat.mul_add];ac_rfl
    _=_:=by rw[e]
  have htx:jU (p.take (i+1))*x=jU (p.take i)*x+d*4294967296^i*x:=by rw[ht,zLF]
  simp only[lw,g1,p1,p2,f1',cE,reduceIte];refine aQn O' hd' i _ (by omega) (by omega) (by rw[hl',hv];omega) (by omega) λh3 l3 O3 hd3 hl3 hv3 u3=>?_;have Sw3:=Sw.upd u3 hF1r;obtain⟨pb,q1,q2⟩:=aMw Sw3.slR hx';rw[p1] at q1;obtain rfl:pa=pb:=by simpa using q1
  simp only[gi,p1,q2,f2',cE,reduceIte];refine aQn O3 hd3 (i+1) _ (by omega) (by omega) (by rw[hl3,hl',hv3,hv];omega) (by omega) λh4 l4 O4 hd4 hl4 hv4 u4=>?_
  try simp only[gi,cE,reduceIte]
  refine⟨⟨i+1,l4,by omega,rfl,O4,hd4,by omega,by rw[hv4,hv3,hv];omega,(u.trans u3).trans u4⟩,?_⟩;simp only[gQ,sL,qB];omega
 ·have g1:((i:Int)<(p.length:Int))=False:=eq_false (by omega);simp only[lw,g1,cE,reduceIte];rw[lY (by omega)] at hv;exact hk h' _ l' [r] O' hd' (by omega) (by rw[hv,hv1]) (eK.one hr0) ((u1.trans u2).fresh u (eK.one hr0))
end
end Go.Proofs.YtppgkeodaejgcaaGreatDoor
