/- The texts of this claim, put together. -/
import Derived.Test.YtppgkeodaejgcaaGreatDoorSnQVC4
import Derived.WalkKit
import Derived.ProofKit
import Derived.ChangeMaps5
import Derived.Lib.UnsafeStr
set_option linter.all false
set_option maxRecDepth 100000
open Go.Instr (loadAt fieldAt indexAt extract buildSlice build)
namespace Go.Proofs.YtppgkeodaejgcaaGreatDoor
section
open Go
def aSL{α:Type}{x:Option α}{a:α}{k:α->Prop}(h:x=some a)(hk:k a):eD x k:=by rw[h];exact hk
def fE{x:Int}(h1: -9223372036854775808≤x)(h2:x≤9223372036854775807):IntKind.i64.wrap x=x:=IntWalk.i64_in _ ⟨h1,h2⟩
def qZ{i:Nat}(h:i<9223372036854775807):IntKind.i64.wrap ((i:Int)+1)=((i+1:Nat):Int):=by rw[fE (by omega) (by omega)];omega
def gT(n:Nat)(i:Nat):List Value->PH->Nat:=λvs _=>match vs[i]? with
 | some (.int _ j)=>n-j.toNat
 | _=>0
def eM(h:PH)(F:List Nat):Prop:=∀b∈F,h b=none
def eM.one{h:PH}{a:Nat}(ha:h a=none):eM h [a]:=λb hb=>by simp at hb;subst hb;exact ha
def dD.none{h h1:PH}(u:dD h h1){b:Nat}(hb:h1 b=none):h b=none:=by
 cases e:h b with
 | none=>rfl
 | some o=>rw[u.get e] at hb;cases hb
def eM.grow{h h1:PH}{F F':List Nat}(f:eM h F)(u:dD h h1)(hg:∀b∈F',b∈F∨h1 b=none):eM h F':=λb hb=>by
 rcases hg b hb with h1|h1
 ·exact f b h1
 ·exact u.none h1
def eM.of{h h1:PH}{F:List Nat}(f:eM h1 F)(u:dD h h1):eM h F:=λb hb=>u.none (f b hb)
def dD.trans{h h1 h2:PH}(u:dD h h1)(v:dD h1 h2):dD h h2:=cT.trans u v
def dD.fresh{h h1 h2:PH}{F:List Nat}(u:dD h h1)(v:cT F h1 h2)(f:eM h F):dD h h2:=λb o hb _=>
 v b o (u.get hb) λhm=>by rw[f b hm] at hb;cases hb
def eN.ext{h h':PH}{e:TypeId}{size:Nat}{v:Value}{rows:List (List Value)}{F:List Nat}(H:eN h e size v rows F)(u:dD h h'):eN h' e size v rows F:=H.upd u (by simp)
def fT{α:Type}{v:α}{k:α->Prop}(hk:k v):eD (dH PG (pure v)) k:=hk
def gO{x:Int}(h1:0≤x)(h2:x<18446744073709551616):IntKind.u64.wrap x=x:=by
 unfold IntKind.wrap;simp[IntKind.signed,IntKind.bits];omega
def aI7(x:Int):IntKind.u8.wrap x=x%256:=by
 unfold IntKind.wrap;simp[IntKind.signed,IntKind.bits]
def aNm:yV undef=none:=(rfl)
def aLz{X:(Value->PH->Prop)->Prop}{h:PH}{kv:cD}{w:Bool}:nL none w X h kv=kv undef h:=by simp[nL]
def cE:type_of% @aEZ∧type_of% @cW∧type_of% @aOC∧type_of% @aOM∧type_of% @aNC∧type_of% @aSF∧type_of% @aRo∧type_of% @aR2∧type_of% @aR8∧type_of% @aRp∧type_of% @aR4∧type_of% @aRz∧type_of% @aON∧type_of% @aQk∧type_of% @aRT∧type_of% @aN3∧type_of% @aQR∧type_of% @aRW∧type_of% @aUj∧type_of% @aRG∧type_of% @aUX∧type_of% @aUK∧type_of% @aMz∧type_of% @aKh∧type_of% @aMI∧type_of% @aL2∧type_of% @aPk∧type_of% @iD∧type_of% @kN∧type_of% @oO∧type_of% @decide_true∧type_of% @decide_false∧type_of% @if_true.{0}∧type_of% @if_true.{1}∧type_of% @if_false.{0}∧type_of% @if_false.{1}∧type_of% @Bool.false_eq_true∧type_of% @Bool.not_true∧type_of% @Bool.not_false∧type_of% @List.getElem?_toArray.{0}∧type_of% @List.getElem?_cons_zero.{0}∧type_of% @List.getElem?_cons_succ.{0}∧type_of% @Option.isSome_none.{0}∧type_of% @List.length_map.{0,0}∧type_of% @zPP:=⟨@aEZ,@cW,@aOC,@aOM,@aNC,@aSF,@aRo,@aR2,@aR8,@aRp,@aR4,@aRz,@aON,@aQk,@aRT,@aN3,@aQR,@aRW,@aUj,@aRG,@aUX,@aUK,@aMz,@aKh,@aMI,@aL2,@aPk,@iD,@kN,@oO,@decide_true,@decide_false,@if_true.{0},@if_true.{1},@if_false.{0},@if_false.{1},@Bool.false_eq_true,@Bool.not_true,@Bool.not_false,@List.getElem?_toArray.{0},@List.getElem?_cons_zero.{0},@List.getElem?_cons_succ.{0},@Option.isSome_none.{0},@List.length_map.{0,0},@zPP⟩
def cU:type_of% @aNm∧type_of% @aLz∧type_of% @Nat.zero_add∧type_of% @beq_self_eq_true.{0}∧type_of% @bne_self_eq_false.{0}∧type_of% @and_self∧type_of% @Bool.true_and∧type_of% @Bool.false_and∧type_of% @Bool.and_true∧type_of% @Bool.and_false∧type_of% @Bool.true_or∧type_of% @Bool.false_or∧type_of% @Bool.or_true∧type_of% @Bool.or_false:=⟨@aNm,@aLz,@Nat.zero_add,@beq_self_eq_true.{0},@bne_self_eq_false.{0},@and_self,@Bool.true_and,@Bool.false_and,@Bool.and_true,@Bool.and_false,@Bool.true_or,@Bool.false_or,@Bool.or_true,@Bool.or_false⟩
end
section
open Go Go.RowKit Go.ChangeShapes
def aYT:Kids PG (· < PG.types.size):=kids_rows (by kernel_rfl) (by kernel_rfl)
def aYB:∀t e,t<PG.types.size->PG.underlying t=some (.slice e)->0<PG.cellsOf e:=slices_full_of PG (by kernel_rfl)
def aVz{H:Type}{enc:TypeId×Value->H}{P:Program}{w:World}{spare:Nat->Bool}{held:Bool}{t:TypeId}{v:Value}{d:DataW H}{p:List MemPlace}(hd:DataW.Trod enc P w 0 spare held t v d p):Rd enc P w spare held t v.cells.toList:=by
 obtain⟨k,hk⟩:=hd;exact⟨k,_,hk⟩
def aMK{n:Int}(h:(Lit.int .u64 n).wf=true):0≤n∧n<18446744073709551616:=by
 simp[Lit.wf,IntKind.min,IntKind.max,IntKind.signed,IntKind.bits] at h;omega
end
section
open Go
abbrev mR:=PH->List Nat->Prop
structure mL(A:mR):Prop where
 known:∀{h F},A h F->∀b∈F,h b≠none
 upd:∀{h h' F K},A h F->cT K h h'->(∀b∈F,b∉K)->A h' F
def eQ(A B:mR):mR:=λh F=>∃Fa Fb,F=Fa++Fb∧A h Fa∧B h Fb∧∀b∈Fa,b∉Fb
def mL.star{A B:mR}(a:mL A)(b:mL B):mL (eQ A B) where
 known:=by
  rintro h F ⟨Fa,Fb,rfl,ha,hb,-⟩ x hx;rcases jX.1 hx with hx|hx
  ·exact a.known ha x hx
  ·exact b.known hb x hx
 upd:=by
  rintro h h' F K ⟨Fa,Fb,rfl,ha,hb,hd⟩ u hK;exact⟨Fa,Fb,rfl,a.upd ha u λx hx=>hK x (by simp[hx]),b.upd hb u λx hx=>hK x (by simp[hx]),hd⟩
def mL.ext{A:mR}(a:mL A){h h':PH}{F:List Nat}(H:A h F)(u:dD h h'):A h' F:=a.upd H u (by simp)
structure jG(h:PH)(F:List Nat)(h':PH)(F':List Nat):Prop where
 upd:cT F h h'
 grow:∀b∈F',b∈F∨h b=none
def jG.refl{h:PH}{F:List Nat}:jG h F h F:=⟨cT.refl,λb hb=>.inl hb⟩
def jG.ext{h h':PH}{F:List Nat}(u:dD h h'):jG h F h' F:=⟨u.upd,λb hb=>.inl hb⟩
def jG.trans{h h1 h2:PH}{F F1 F2:List Nat}(a:jG h F h1 F1)(b:jG h1 F1 h2 F2):jG h F h2 F2 where
 upd:=a.upd.then b.upd a.grow
 grow:=λx hx=>by
  rcases b.grow x hx with hx|hx
  ·exact a.grow x hx
  ·by_cases hF:x∈F
   ·exact .inl hF
   ·right;cases e:h x with
    | none=>rfl
    | some o=>have:=a.upd x o e hF;rw[hx] at this;cases this
def zU(h:PH)(F:List Nat)(A:mR)(W:mR->mR):Prop:=
 ∃Fa,A h Fa∧(∀b∈Fa,b∈F)∧∀(A':mR) (h':PH) (Fa':List Nat),A' h' Fa'->jG h Fa h' Fa'->∃F',W A' h' F'∧jG h F h' F'
def eQ.left{A B:mR}(b:mL B){h:PH}{F:List Nat}(H:(eQ A B) h F):zU h F A (λA'=>eQ (A') B):=by
 obtain⟨Fa,Fb,rfl,ha,hb,hd⟩:=H;refine⟨Fa,ha,λx hx=>by simp[hx],λA' h' Fa' hA s=>⟨Fa'++Fb,⟨Fa',Fb,rfl,hA,b.upd hb s.upd (λx hx hx'=>hd x hx' hx),λx hx hx'=>?_⟩,⟨λx o hx hn=>s.upd x o hx (λhm=>hn (by simp[hm])),λx hx=>?_⟩⟩⟩
 ·rcases s.grow x hx with h1|h1
  ·exact hd x h1 hx'
  ·exact b.known hb x hx' h1
 ·rcases jX.1 hx with hx|hx
  ·rcases s.grow x hx with h1|h1
   ·exact .inl (by simp[h1])
   ·exact .inr h1
  ·exact .inl (by simp[hx])
def eQ.right{A B:mR}(a:mL A){h:PH}{F:List Nat}(H:(eQ A B) h F):zU h F B (λB'=>eQ A (B')):=by
 obtain⟨Fa,Fb,rfl,ha,hb,hd⟩:=H;refine⟨Fb,hb,λx hx=>by simp[hx],λB' h' Fb' hB s=>⟨Fa++Fb',⟨Fa,Fb',rfl,a.upd ha s.upd (λx hx hx'=>hd x hx hx'),hB,λx hx hx'=>?_⟩,⟨λx o hx hn=>s.upd x o hx (λhm=>hn (by simp[hm])),λx hx=>?_⟩⟩⟩
 ·rcases s.grow x hx' with h1|h1
  ·exact hd x hx h1
  ·exact a.known ha x hx h1
 ·rcases jX.1 hx with hx|hx
  ·exact .inl (by simp[hx])
  ·rcases s.grow x hx with h1|h1
   ·exact .inl (by simp[h1])
   ·exact .inr h1
def zU.comp{h:PH}{F:List Nat}{A B:mR}{W V:mR->mR}(f:zU h F A W)(g:∀Fa,A h Fa->zU h Fa B V):zU h F B (λB'=>W (V B')):=by
 obtain⟨Fa,ha,hFa,c⟩:=f;obtain⟨Fb,hb,hFb,d⟩:=g Fa ha;refine⟨Fb,hb,λx hx=>hFa x (hFb x hx),λB' h' Fb' hB s=>?_⟩;obtain⟨Fa',hV,s'⟩:=d B' h' Fb' hB s;exact c _ h' Fa' hV s'
def uA(r:Nat)(cs:List Value):mR:=λh F=>F=[r]∧Bx h r cs
def uA.good(r:Nat)(cs:List Value):mL (uA r cs) where
 known:=by
  rintro h F ⟨rfl,B⟩ b hb;simp only[gA] at hb;subst hb;exact B.known
 upd:=by
  rintro h h' F K ⟨rfl,B⟩ u hK;exact⟨rfl,B.upd u (hK r (by simp))⟩
def xJ(e:TypeId)(n:Nat)(v:Value)(rows:List (List Value)):mR:=λh F=>eN h e n v rows F
def xJ.good(e:TypeId)(n:Nat)(v:Value)(rows:List (List Value)):mL (xJ e n v rows) where
 known:=λH b hb=>eN.known H b hb
 upd:=λH u hK=>eN.upd H u hK
def eQ.mk{A B:mR}{h:PH}{Fa Fb:List Nat}(ha:A h Fa)(hb:B h Fb)(hd:∀b∈Fa,b∉Fb):(eQ A B) h (Fa++Fb):=⟨Fa,Fb,rfl,ha,hb,hd⟩
section
variable{P:Program}{h:PH}{t t' kt et:TypeId}{α:Type}[DecidableEq α]{enc:α->Value}
def aL9(l:List (α×Value))(a:α):List (α×Value):=l.filter λp=>decide (p.1≠a)
def aMW{β:Type}:∀(L:List (α×β)) (a:α) (q:Nat),(L.map (·.1)).Nodup->(L.map (·.1))[q]? =some a->L.eraseIdx q=L.filter λp=>decide (p.1≠a)
 | [],a,q,_,hq=>by simp at hq
 | p::ps,a,0,hnd,hq=>by
  simp only[iG,pO,yB] at hq;simp only[iG,aKO] at hnd;simp only[List.eraseIdx_cons_zero,zLt,hq,ne_eq,not_true,decide_false,zLu,if_false];symm;rw[aLV];intro x hx;simp only[decide_eq_true_eq];rintro e;exact hnd.1 (by rw[hq,←e];exact zL9 hx)
 | p::ps,a,q+1,hnd,hq=>by
  simp only[iG,rZ] at hq;simp only[iG,aKO] at hnd;have hne:p.1≠a:=λe=>hnd.1 (by rw[e];exact uW hq);simp only[List.eraseIdx_cons_succ,zLt,hne,ne_eq,not_false_eq_true,decide_true,if_true];rw[aMW ps a q hnd.2 hq]
def aMA{β γ:Type}(f:β->γ):∀(L:List β) (q:Nat),(L.map f).eraseIdx q=(L.eraseIdx q).map f
 | [],_=>rfl
 | _::_,0=>rfl
 | x::xs,q+1=>by simp only[iG,List.eraseIdx_cons_succ,aMA f xs q]
def aJm{β:Type}:∀(D L:List β),D.Nodup->(∀p∈D,p∈L)->D.length≤L.length
 | [],_,_,_=>aGr _
 | p::ps,L,hn,hs=>by
  obtain⟨a,b,rfl⟩:=List.append_of_mem (hs p (by simp));simp only[aKO] at hn;have:=aJm ps (a++b) hn.2 λq hq=>by
   have:=hs q (by simp[hq]);simp only[jX,gU] at this ⊢;rcases this with h|rfl|h
   ·exact .inl h
   ·exact absurd hq hn.1
   ·exact .inr h
  simp only[pY,jR] at this ⊢;omega
def aSv{a:α}{L:List (α×Value×Nat)}(e2:a∉L.map (·.1)):(L.filter λp=>decide (p.1≠a))=L:=by
 rw[aLV];intro x hx;simp only[decide_eq_true_eq];rintro e;exact e2 (by rw[←e];exact zL9 hx)
def aO6(L:List (α×Value×Nat))(a:α):aL9 (L.map λp=>(p.1,p.2.1)) a=(L.filter λp=>decide (p.1≠a)).map λp=>(p.1,p.2.1):=by
 unfold aL9;rw[List.filter_map];rfl
def aMv{r:Nat}{l:List (α×Value)}(K:aJ7 P kt enc)(hu:P.underlying t=some (.map kt et))(H:jL enc h r l)(a:α){ts:Array TypeId}(hts:ts[0]? =some t){k:cD}
  (hk:∀h',jL enc h' r (aL9 l a)->cT [r] h h'->k (.tuple #[]) h'):dA P (Builtin.delete_ ts t' #[.map (some r),enc a]) h k:=by
 obtain⟨es,c,L,h1,h2,rfl,hb1,hb2⟩:=H.here;have hnd:=H.nodup;rw[aDA] at hnd;unfold Builtin.delete_;simp only[hts,zLK,pO,rZ];show dA P (underlying t >>= _) h _;rw[pN hu];dsimp only;refine aDr h1 ?_;dsimp only;refine iB (K.chk h _ a) ?_;rw[h2];refine iB (aLQ K a L) ?_;have hnd2:(uG (aL9 (L.map λp=>(p.1,p.2.1)) a)).Nodup:=by
  rw[aO6,aDA];exact List.Nodup.sublist (List.Sublist.map _ List.filter_sublist) hnd
 have hb3:((L.filter λp=>decide (p.1≠a)).map (·.2.2)).Nodup:=List.Nodup.sublist (List.Sublist.map _ List.filter_sublist) hb1;have hb4:∀p∈L.filter λp=>decide (p.1≠a),p.2.2<c:=λp hp=>hb2 p (zL3.1 hp).1;rcases aNY a L 0 with⟨q,w,e1,e2,e3⟩|⟨e1,e2⟩
 ·rw[e1,fP];show(∃u,h r=some u∧(∀c e f,u≠ .cells c e f))∧_;refine⟨⟨_,h1,by intros;simp⟩,?_⟩;show k (.tuple #[]) _;refine hk _ ⟨hnd2,_,c,L.filter (λp=>decide (p.1≠a)),dJ,?_,aO6 L a,hb3,hb4⟩ (cT.set (by simp));rw[←aMW L a q hnd e2];have hq:q<es.size:=by
   rw[←Array.length_toList,h2];have:=(zLA.1 e2).1;simpa[aCW] using this
  rw[Array.eraseIdxIfInBounds,dif_pos hq,Array.toList_eraseIdx,h2];unfold aCW;exact aMA _ _ _
 ·rw[e1];show(∃u,h r=some u∧(∀c e f,u≠ .cells c e f))∧_;refine⟨⟨_,h1,by intros;simp⟩,?_⟩;show k (.tuple #[]) _;refine hk _ ⟨hnd2,_,c,L,dJ,h2,?_,hb1,hb2⟩ (cT.set (by simp));rw[aO6,aSv e2]
structure aC6(enc:α->Value)(h:PH)(r it:Nat)(l D:List (α×Value)):Prop where
 nodup:(uG l).Nodup
 here:∃(es:Array MapEntry) (c:Nat) (L DL:List (α×Value×Nat)) (S:Array Nat),h r=some (.map es c)∧es.toList=aCW enc L∧l=L.map (λp=>(p.1,p.2.1))∧(L.map (·.2.2)).Nodup∧(∀p∈L,p.2.2<c)∧
  h it=some (.mapIter (some r) c S c)∧S.toList=DL.map (·.2.2)∧(∀p∈DL,p∈L)∧DL.Nodup∧D=DL.map (λp=>(p.1,p.2.1))
def aC6.upd{h h':PH}{r it:Nat}{l D:List (α×Value)}{G:List Nat}(H:aC6 enc h r it l D)(u:cT G h h')(hr:r∉G)(hi:it∉G):aC6 enc h' r it l D:=by
 obtain⟨es,c,L,DL,S,h1,h2,h3,h4,h5,h6,h7⟩:=H.here;exact⟨H.nodup,es,c,L,DL,S,u.get h1 hr,h2,h3,h4,h5,u.get h6 hi,h7⟩
def aC6.known{r it:Nat}{l D:List (α×Value)}(H:aC6 enc h r it l D):h it≠none:=by
 obtain⟨es,c,L,DL,S,h1,h2,h3,h4,h5,h6,_⟩:=H.here;rw[h6];simp
def aN8(n:Nat)(it:Nat)(h:PH):Nat:=match h it with
 | some (.mapIter _ _ S _)=>n-S.size
 | _=>0
def aC6.left{r it:Nat}{l D:List (α×Value)}(H:aC6 enc h r it l D)(n:Nat):aN8 n it h=n-D.length:=by
 obtain⟨es,c,L,DL,S,h1,h2,h3,h4,h5,h6,h7,_,_,h8⟩:=H.here;unfold aN8;rw[h6];have:S.size=D.length:=by rw[←Array.length_toList,h7,h8];simp
 simp only[this]
def aC6.le{r it:Nat}{l D:List (α×Value)}(H:aC6 enc h r it l D):D.length≤l.length:=by
 obtain⟨es,c,L,DL,S,h1,h2,rfl,h4,h5,h6,h7,h9,h10,rfl⟩:=H.here;rw[iY,iY];exact aJm _ _ h10 h9
def aQo{r:Nat}{l:List (α×Value)}(hu:P.underlying t=some (.map kt et))(H:jL enc h r l){k:cD}
  (hk:∀it h',h it=none->aC6 enc h' r it l []->dD h h'->k (pT it 0) h'):dA P (Instr.range t (.map (some r))) h k:=by
 obtain⟨es,c,L,h1,h2,rfl,hb1,hb2⟩:=H.here;unfold Instr.range;show dA P (underlying t >>= _) h _;rw[pN hu];have key:∀(X:Sem Obj) (f:Obj->Sem Value),dA P X h (λo h'=>dA P (f o) h' k)->dA P (X >>= f) h k:=λX f hX=>dA.bind (P:=P) (s:=X) hX;refine key _ _ ?_;refine aDr h1 ?_;intro it hit;exact hk it _ hit ⟨H.nodup,es,c,L,[],#[],aRy hit h1,h2,rfl,hb1,hb2,dJ,rfl,by simp,by simp,rfl⟩ (cT.new hit)
def aG0{β γ:Type}(f:β->γ):∀{L:List β},(L.map f).Nodup->L.Nodup
 | [],_=>List.nodup_nil
 | x::xs,hnd=>by
  simp only[iG,aKO] at hnd ⊢;exact⟨λhm=>hnd.1 (zL9 hm),aG0 f hnd.2⟩
def aEe{β γ:Type}{f:β->γ}:∀{L:List β},(L.map f).Nodup->∀{p q:β},p∈L->q∈L->f p=f q->p=q
 | [],_,p,q,hp,_,_=>by cases hp
 | x::xs,hnd,p,q,hp,hq,e=>by
  simp only[iG,aKO] at hnd;rcases gU.1 hp with hp|hp
  ·rcases gU.1 hq with hq|hq
   ·rw[hp,hq]
   ·exact absurd (by rw[←hp,e];exact zL9 hq) hnd.1
  ·rcases gU.1 hq with hq|hq
   ·exact absurd (by rw[←hq,←e];exact zL9 hp) hnd.1
   ·exact aEe hnd.2 hp hq e
def aPT{r:Nat}{o:Obj}{β:Type}{Q:β->PH->Prop}(hr:h r=some o)(hc:∀c e f,o≠ .cells c e f){f:Obj->Sem β}(hq:dA P (f o) h Q):dA P (getObj r >>= f) h Q:=by
 show ∃o,h r=some o∧(∀c e f,o≠ .cells c e f)∧dA P _ h Q;exact⟨o,hr,hc,hq⟩
def aSN{r it:Nat}{l D:List (α×Value)}(H:aC6 enc h r it l D){k:cD}
  (hnil:D.Perm l->k (.tuple #[.bool false]) h)
  (hcons:∀a v h',(a,v)∈l->a∉uG D->aC6 enc h' r it l (D++[(a,v)])->cT [it] h h'->k (.tuple #[.bool true,enc a,v]) h'):dA P (Instr.next (pT it 0) false t) h k:=by
 obtain⟨es,c,L,DL,S,h1,h2,h3,hb1,hb2,hi,hS,hDL,hDn,hD⟩:=H.here;unfold Instr.next;refine aPT hi (by intros;simp) ?_;dsimp only;refine aDr h1 ?_;dsimp only;have hborn:∀e∈es.toList,e.born<c:=λe he=>by
  rw[h2] at he;obtain⟨p,hp,rfl⟩:=mE.1 he;exact hb2 p hp
 have hgo:(!S.isEmpty && !es.isEmpty&&es.all (·.born ≥ c))=false:=by
  by_cases he:es.isEmpty=true
  ·simp[he]
  ·have:es.all (·.born ≥ c)=false:=by
    rw[Bool.eq_false_iff];intro hall;have hne:es.toList≠[]:=by intro e;apply he;simpa using e
    obtain⟨x,xs,hx⟩:=List.exists_cons_of_ne_nil hne;have h1:=hborn x (by rw[hx];simp);have h2:=Array.all_eq_true_iff_forall_mem.1 hall x (by rw[←Array.mem_toList_iff,hx];simp);simp only[ge_iff_le,decide_eq_true_eq] at h2;omega
   simp[this]
 rw[hgo];simp only[zLu,if_false];obtain⟨LL,hLL⟩:∃LL:List (α×Value×Nat),LL=L.filter λp=>decide (p.2.2∉DL.map (·.2.2)):=⟨_,rfl⟩;have hleft:(es.filter λe=>!S.contains e.born).toList=aCW enc LL:=by
  rw[Array.toList_filter,h2,hLL];unfold aCW;rw[List.filter_map];congr 1;apply List.filter_congr;intro p _;simp only[Function.comp];rw[←Array.contains_toList,hS];by_cases hm:p.2.2∈DL.map (·.2.2)
  ·simp[hm]
  ·simp[hm]
 have hmemLL:∀p,p∈LL↔p∈L∧p.2.2∉DL.map (·.2.2):=λp=>by rw[hLL,zL3];simp
 have hold:((es.filter λe=>!S.contains e.born).filter (·.born<c)).toList=aCW enc LL:=by
  rw[Array.toList_filter,hleft,aLV];intro e he;obtain⟨p,hp,rfl⟩:=mE.1 he;simpa using hb2 p ((hmemLL p).1 hp).1
 have hnew:((es.filter λe=>!S.contains e.born).filter (·.born ≥ c))= #[]:=by
  rw[←Array.toList_inj,Array.toList_filter,hleft];show _=[];rw[List.filter_eq_nil_iff];intro e he;obtain⟨p,hp,rfl⟩:=mE.1 he;have:=hb2 p ((hmemLL p).1 hp).1;simp only[ge_iff_le,decide_eq_true_eq];omega
 generalize ho:(es.filter λe=>!S.contains e.born).filter (·.born<c)=old at hold;rw[hnew];simp only[Array.append_empty];by_cases hemp:LL=[]
 ·have hold0:old= #[]:=by rw[←Array.toList_inj,hold,hemp];rfl
  subst hold0;simp only[List.isEmpty_toArray,List.isEmpty_nil,if_true,List.map_toArray,iX,Array.append_empty,List.size_toArray,pY,zLN,fP];rw[aAM];intro tt;have:(if Question.forced (.mapNext 1) then 0 else Question.cut (.mapNext 1) tt)=0:=by simp[Question.forced]
  rw[this];show k (.tuple #[.bool false]) h;refine hnil ?_;rw[hD,h3];apply List.Perm.map;refine(List.perm_ext_iff_of_nodup hDn ?_).2 λp=>⟨hDL p,λhp=>?_⟩
  ·exact aG0 _ hb1
  ·by_cases hm:p.2.2∈DL.map (·.2.2)
   ·obtain⟨q,hq,e⟩:=mE.1 hm;rw[aEe (f:=λp:α×Value×Nat=>p.2.2) hb1 hp (hDL q hq) e.symm];exact hq
   ·have:=(hmemLL p).2 ⟨hp,hm⟩;rw[hemp] at this;cases this
 ·have hne:old.isEmpty=false:=by
   rw[Bool.eq_false_iff];intro e;have:old.toList=[]:=by simpa using e
   rw[hold] at this;exact hemp (List.map_eq_nil_iff.1 this)
  rw[hne];simp only[zLu,if_false,Array.empty_append,Array.size_map];have hpos:0<old.size:=by
   rw[←Array.length_toList,hold];unfold aCW;rw[iY];exact aHW.2 hemp
  rw[aAM];intro tt;obtain⟨j,hj,hjlt⟩:∃j,(if Question.forced (.mapNext old.size) then 0 else Question.cut (.mapNext old.size) tt)=j∧j<old.size:=by
   refine⟨_,rfl,?_⟩;split
   ·exact hpos
   ·exact zLB _ hpos
  rw[hj];have hjl:j<LL.length:=by
   have:old.size=LL.length:=by rw[←Array.length_toList,hold];simp[aCW]
   omega
  have hget:(old.map some)[j]? =some (some ⟨enc LL[j].1,LL[j].2.1,LL[j].2.2⟩):=by
   rw[Array.getElem?_map,←aLY,hold];simp[aCW,hjl]
  rw[hget];dsimp only;have hp:=(hmemLL LL[j]).1 (aMU hjl);generalize LL[j]=p at hp;obtain⟨hpL,hpD⟩:=hp;show(∃u,h it=some u∧(∀c e f,u≠ .cells c e f))∧_;refine⟨⟨_,hi,by intros;simp⟩,?_⟩;have hri:r≠it:=λe=>by rw[e,hi] at h1;cases h1
  refine hcons p.1 p.2.1 _ ?_ ?_ ⟨H.nodup,es,c,L,DL++[p],S.push p.2.2,(by rw[qI hri];exact h1),h2,h3,hb1,hb2,dJ,?_,?_,?_,?_⟩ (cT.set (by simp))
  ·rw[h3];exact zL9 hpL
  ·intro hm;rw[hD,aDA] at hm;obtain⟨q,hq,e⟩:=mE.1 hm;have hnd:=H.nodup;rw[h3,aDA] at hnd;have hqL:=hDL q hq;have:q=p:=aEe (f:=λp:α×Value×Nat=>p.1) hnd hqL hpL e;exact hpD (by rw[←this];exact zL9 hq)
  ·rw[Array.toList_push,hS];simp
  ·intro q hq;rcases jX.1 hq with hq|hq
   ·exact hDL q hq
   ·simp only[gA] at hq;subst hq;exact hpL
  ·rw[List.nodup_append];refine⟨hDn,by simp,?_⟩;intro x hx y hy;simp only[gA] at hy;subst hy;rintro rfl;exact hpD (zL9 hx)
  ·rw[hD];simp
def aQf{r it:Nat}{l D:List (α×Value)}{a:α}{v:Value}(H:aC6 enc h r it l (D++[(a,v)])){k:cD}(hk:k (.tuple #[enc a,v]) h):dA P (Instr.entry (pT it 0)) h k:=by
 obtain⟨es,c,L,DL,S,h1,h2,h3,hb1,hb2,hi,hS,hDL,hDn,hD⟩:=H.here;obtain⟨DL',p,rfl,hp1⟩:∃DL' p,DL=DL'++[p]∧(a,v)=(p.1,p.2.1):=by
  rcases List.eq_nil_or_concat DL with rfl|⟨DL',p,rfl⟩
  ·simp at hD
  ·refine⟨DL',p,by simp,?_⟩;simp only[List.concat_eq_append,qE,iG,iX] at hD;have:=List.append_inj_right' hD rfl;simpa using this
 simp only[Prod.mk.injEq] at hp1;obtain⟨rfl,rfl⟩:=hp1;have hpL:=hDL p (by simp);unfold Instr.entry;refine aPT hi (by intros;simp) ?_;dsimp only;have hback:S.back? =some p.2.2:=by
  rw[←Array.getLast?_toList,hS];simp
 rw[hback];dsimp only;refine aDr h1 ?_;dsimp only;simp only[bne_self_eq_false,zLu,if_false];have hfind:es.find? (·.born==p.2.2)=some ⟨enc p.1,p.2.1,p.2.2⟩:=by
  rw[←Array.find?_toList,h2];unfold aCW;rw[List.find?_map];have:L.find? ((λe:MapEntry=>e.born==p.2.2) ∘ λp=>⟨enc p.1,p.2.1,p.2.2⟩)=some p:=by
   cases hf:L.find? ((λe:MapEntry=>e.born==p.2.2) ∘ λp=>⟨enc p.1,p.2.1,p.2.2⟩) with
   | none=>
    rw[List.find?_eq_none] at hf;have:=hf p hpL;simp at this
   | some q=>
    have hq:=List.mem_of_find?_eq_some hf;have he:=List.find?_some hf;simp only[Function.comp,beq_iff_eq] at he;rw[aEe (f:=λp:α×Value×Nat=>p.2.2) hb1 hq hpL he]
  rw[this];rfl
 rw[hfind];exact hk
def aUM{r:Nat}{l:List (α×Value)}(H:jL enc h r l){k:cD}
  (hk:∀r' h',h r'=none->jL enc h' r' l->dD h h'->k (.iface t (.map (some r'))) h'):dA P (Extern.MapsClone.clone #[.iface t (.map (some r))]) h k:=by
 obtain⟨es,c,L,h1,h2,h3,hb1,hb2⟩:=H.here;unfold Extern.MapsClone.clone;refine aDr h1 ?_;intro r' hr';exact hk r' _ hr' ⟨H.nodup,es,c,L,dJ,h2,h3,hb1,hb2⟩ (cT.new hr')
end
structure Pk where
 f:Int
 s:Int
 t:Int
 d:ByteArray
 deriving DecidableEq
instance:Inhabited Pk:=⟨⟨0,0,0,⟨#[]⟩⟩⟩
def Pk.cells(p:Pk):List Value:=[.int .i64 p.f,.int .u64 p.s,.int .u64 p.t,.string p.d]
def Pk.allCell(p:Pk):∀v∈p.cells.toArray.toList,fW v=true:=by simp[Pk.cells,fW]
def Bx.pk{h:PH}{r:Nat}{cs:List Value}(H:Bx h r cs){o:Nat}{p:Pk}(ho:(cs.drop o).take 4=p.cells):cH PG h (loadAt aR (pT r o))=some (.agg p.cells.toArray):=by
 obtain⟨e,h1⟩:=H;have hl:o+4≤cs.length:=by
  have:((cs.drop o).take 4).length=4:=by rw[ho];rfl
  rw[nW,nJ] at this;omega
 rw[aR.loadAgg h1 (by simpa using hl)];congr 2;rw[←ho];simp[zLy]
def Pk.right(p:Pk):Bool:=decide (0≤p.f)&&decide (p.f≤1)&&decide (p.s≠0)&&decide (p.t≠0)&&decide (p.d.size≤64)
def aLM{h:PH}(p:Pk){k:cD}(hk:∀h',dD h h'->k (.int .i64 (if p.right then 0 else 1)) h'):aT PG yZ #[.agg p.cells.toArray] h k:=by
 apply aGv.call;unfold aGv;intro r hr;rw[cW];have u:dD h (h.set r (.cells (Value.cells (.agg p.cells.toArray)) aR)):=cT.new hr;have b:Bx (h.set r (.cells (Value.cells (.agg p.cells.toArray)) aR)) r p.cells:=Bx.new;generalize h.set r (.cells (Value.cells (.agg p.cells.toArray)) aR)=h1 at *;have c0:dC h1 ⟨r,0,none⟩=some (.int .i64 p.f):=b.cell 0;have c1:dC h1 ⟨r,0+1,none⟩=some (.int .u64 p.s):=b.cell 1;have c2:dC h1 ⟨r,0+2,none⟩=some (.int .u64 p.t):=b.cell 2;have c3:dC h1 ⟨r,0+3,none⟩=some (.string p.d):=b.cell 3;have hk:=hk h1 u;unfold Pk.right at hk;simp only[aR.f0,aR.f1,aR.f2,aR.f3,bT.load,cA.load,bR.load,c0,cE,reduceIte];by_cases d1:p.f<0
 ·have e1:(0≤p.f)=False:=by apply eq_false;omega
  simp only[aR.f0,aR.f1,aR.f2,aR.f3,bT.load,cA.load,bR.load,c0,d1,e1,vK,decide_false,cE,reduceIte] at hk ⊢;exact hk
 ·have e1:(0≤p.f)=True:=by apply eq_true;omega
  by_cases d2:1<p.f
  ·have e2:(p.f≤1)=False:=by apply eq_false;omega
   simp only[aR.f0,aR.f1,aR.f2,aR.f3,bT.load,cA.load,bR.load,c0,d1,e1,d2,e2,vK,aFU,decide_false,cE,reduceIte] at hk ⊢;exact hk
  ·have e2:(p.f≤1)=True:=by apply eq_true;omega
   by_cases d3:p.s=0
   ·have e3:(p.s==0)=true:=by simp[d3]
    have e3':(p.s≠0)=False:=by simp[d3]
    simp only[aR.f0,aR.f1,aR.f2,aR.f3,bT.load,cA.load,bR.load,c0,d1,e1,d2,e2,c1,e3,e3',vK,aFU,decide_false,cE,reduceIte] at hk ⊢;exact hk
   ·have e3:(p.s==0)=false:=by simp[d3]
    have e3':(p.s≠0)=True:=by simp[d3]
    by_cases d4:p.t=0
    ·have e4:(p.t==0)=true:=by simp[d4]
     have e4':(p.t≠0)=False:=by simp[d4]
     simp only[aR.f0,aR.f1,aR.f2,aR.f3,bT.load,cA.load,bR.load,c0,d1,e1,d2,e2,c1,e3,e3',c2,e4,e4',vK,aFU,decide_false,cE,reduceIte] at hk ⊢;exact hk
    ·have e4:(p.t==0)=false:=by simp[d4]
     have e4':(p.t≠0)=True:=by simp[d4]
     by_cases d5:p.d.size≤64
     ·have e5:((64:Int)<(p.d.size:Int))=False:=by apply eq_false;omega
      simp only[aR.f0,aR.f1,aR.f2,aR.f3,bT.load,cA.load,bR.load,c0,d1,e1,d2,e2,c1,e3,e3',c2,e4,e4',c3,mI bR.und,e5,d5,Bool.and_self,zLp,cE,reduceIte] at hk ⊢;exact hk
     ·have e5:((64:Int)<(p.d.size:Int))=True:=by apply eq_true;omega
      simp only[aR.f0,aR.f1,aR.f2,aR.f3,bT.load,cA.load,bR.load,c0,d1,e1,d2,e2,c1,e3,e3',c2,e4,e4',c3,mI bR.und,e5,d5,aFU,decide_false,cE,reduceIte] at hk ⊢;exact hk
structure Nt where
 k:Int
 p:Pk
 deriving DecidableEq
def Nt.cells(n:Nt):List Value:=[.int .i64 n.k,.int .i64 n.p.f,.int .u64 n.p.s,.int .u64 n.p.t,.string n.p.d]
def Nt.rows(l:List Nt):Rows 5 (l.map Nt.cells):=λr hr=>by obtain⟨m,_,rfl⟩:=mE.1 hr;rfl
def Bx.nt{h:PH}{r:Nat}{n:Nt}(H:Bx h r n.cells):cH PG h (loadAt dK (pT r 0))=some (.agg n.cells.toArray):=by
 obtain⟨e,h1⟩:=H;rw[dK.loadAgg h1 (by show 0+5≤5;decide)];rfl
def Nt.right(n:Nt):Bool:=decide (1≤n.k)&&decide (n.k≤4)&&n.p.right
def aUV{h:PH}(n:Nt){k:cD}(hk:∀h',dD h h'->k (.int .i64 (if n.right then 0 else 1)) h'):aT PG aIO #[.agg n.cells.toArray] h k:=by
 apply aI0.call;unfold aI0;intro r hr;rw[cW];have u:dD h (h.set r (.cells (Value.cells (.agg n.cells.toArray)) dK)):=cT.new hr;have b:Bx (h.set r (.cells (Value.cells (.agg n.cells.toArray)) dK)) r n.cells:=Bx.new;generalize h.set r (.cells (Value.cells (.agg n.cells.toArray)) dK)=h1 at *;have c0:dC h1 ⟨r,0,none⟩=some (.int .i64 n.k):=b.cell 0;have p1:=b.pk (o:=0+1) (p:=n.p) rfl;unfold Nt.right at hk;simp only[dK.f0,dK.f1,bT.load,c0,cE,reduceIte];by_cases d1:n.k<1
 ·have e1:(1≤n.k)=False:=by apply eq_false;omega
  simp only[dK.f0,dK.f1,bT.load,c0,d1,e1,vK,decide_false,cE,reduceIte] at hk ⊢;exact hk _ u
 ·have e1:(1≤n.k)=True:=by apply eq_true;omega
  by_cases d2:4<n.k
  ·have e2:(n.k≤4)=False:=by apply eq_false;omega
   simp only[dK.f0,dK.f1,bT.load,c0,d1,e1,d2,e2,vK,aFU,decide_false,cE,reduceIte] at hk ⊢;exact hk _ u
  ·have e2:(n.k≤4)=True:=by apply eq_true;omega
   simp only[dK.f0,dK.f1,bT.load,c0,d1,e1,d2,e2,p1,zLp,cE,reduceIte] at hk ⊢;refine aLM n.p λh2 u2=>hk _ (u.trans u2)
def aUd(x:Int):dH PG (convert cA dT (.int .u64 x))=some (.int .u8 (IntKind.u8.wrap x)):=by kernel_rfl
def aLs(x:Int):jU PG (buildSlice dF 1 #[(0,.int .u8 x)])=some (.cells #[.int .u8 x] dT,λr=>pure (.slice (some ⟨r,0,none⟩) 1 1)):=by kernel_rfl
def tC{h:PH}{n c:Nat}(hn:n<18446744073709551616)(hc:c≤1000){k:cD}(hk:∀h',dD h h'->k (.string (tx (be n c))) h'):aT PG jF #[.int .u64 n,.int .i64 c] h k:=by
 apply aBX.call;unfold aBX;refine⟨λvs h'=>∃i:Nat,i≤c∧vs=[.int .u64 ((n/256^i:Nat):Int),.int .i64 c,.string (tx ((be n c).drop (c-i))),.int .i64 i]∧dD h h',gT c 3,⟨0,by omega,by rw[aK6 (by rw[jD];omega)];simp[aZI],cT.refl⟩,?_⟩;rintro ρ h' ⟨i,hi,hvs,w⟩;simp only[iG,iX,lN,and_true] at hvs;obtain⟨s0,s1,s2,s3⟩:=hvs;rw[s0,s1,s2,s3];unfold aGY;by_cases hlt:i<c
 ·have hd:((i:Int)<(c:Int))=True:=by apply eq_true;omega
  have hle:n/256^i≤n:=Nat.div_le_self _ _;have e1:Int.tmod ((n/256^i:Nat):Int) 256=((n/256^i%256:Nat):Int):=(Int.ofNat_tmod _ 256).symm;have e2:IntKind.u8.wrap ((n/256^i%256:Nat):Int)=((UInt8.ofNat (n/256^i%256)).toNat:Int):=by rw[aI7];simp
  have e3:IntKind.u64.wrap (Int.tdiv ((n/256^i:Nat):Int) 256)=((n/256^(i+1):Nat):Int):=by
   have:Int.tdiv ((n/256^i:Nat):Int) 256=((n/256^i/256:Nat):Int):=rfl;have hd2:n/256^i/256=n/256^(i+1):=by rw[Nat.div_div_eq_div_mul,zLS]
   rw[this,hd2];exact gO (Int.natCast_nonneg _) (by have:=Nat.div_le_self n (256^(i+1));omega)
  have ei:=qZ (i:=i) (by omega);simp only[hd,aHv (show(256:Int)≠0 by decide),aMS (show(256:Int)≠0 by decide),e1,aUd,e2,aLs,cE,reduceIte];intro r hr;refine fT ?_;have u1:dD h' (h'.set r (.cells #[.int .u8 (UInt8.ofNat (n/256^i%256)).toNat] dT)):=cT.new hr;have s1:gF (h'.set r (.cells #[.int .u8 (UInt8.ofNat (n/256^i%256)).toNat] dT)) 1 (.slice (some ⟨r,0,none⟩) 1 1) ([UInt8.ofNat (n/256^i%256)].map jN):=(eN.lit (jN.rows [_]) dJ (by simp) (by decide) (by simp[jN])).slR;generalize h'.set r (.cells #[.int .u8 (UInt8.ofNat (n/256^i%256)).toNat] dT)=h1 at *;have hcv:=aFG dF.und dT.und bR.und s1;have hcv':cH PG h1 (convert dF bR (.slice (some ⟨r,0,none⟩) 1 1))=some (.string (tx [UInt8.ofNat (n/256^i%256)])):=hcv;have hadd:dH PG (binOp .add bR (.string (tx [UInt8.ofNat (n/256^i%256)])) (.string (tx ((be n c).drop (c-i)))))=some (.string (tx ((be n c).drop (c-(i+1))))):=by
   rw[mA (by rw[nJ,jD];simp;omega)];congr 3;have hg:=aOe n c (c-(i+1)) (by omega);have:c-1-(c-(i+1))=i:=by omega
   rw[this] at hg;obtain⟨hlt',hg'⟩:=zLA.1 hg;rw[aIZ hlt',hg'];have:c-(i+1)+1=c-i:=by omega
   rw[this];rfl
  simp only[hcv',hadd,e3,ei,cE,reduceIte];exact⟨⟨i+1,by omega,rfl,w.trans u1⟩,by simp[gT,s3];omega⟩
 ·have hd:((i:Int)<(c:Int))=False:=by apply eq_false;omega
  have hic:i=c:=by omega
  subst hic;rw[Nat.sub_self,zLb];simp only[hd,cE,reduceIte];exact hk _ w
abbrev W:=BitVec 32
def wv(x:W):Value:=.int .u32 (x.toNat:Int)
def tn(x:W)(n:Nat):W:=(x <<< (32-n)) ||| (x>>>n)
def w4(a b c d:UInt8):W:=((((BitVec.ofNat 32 a.toNat) <<< 24) ||| ((BitVec.ofNat 32 b.toNat) <<< 16)) ||| ((BitVec.ofNat 32 c.toNat) <<< 8)) ||| (BitVec.ofNat 32 d.toNat)
def wat(b:List UInt8)(t:Nat):W:=w4 (b.getD (4*t) 0) (b.getD (4*t+1) 0) (b.getD (4*t+2) 0) (b.getD (4*t+3) 0)
def aMu(l:List W)(t:Nat):W:=
 let x:=l.getD (t-15) 0;let y:=l.getD (t-2) 0
 ((l.getD (t-16) 0+((tn x 7 ^^^ tn x 18) ^^^ (x>>>3)))+l.getD (t-7) 0)+((tn y 17 ^^^ tn y 19) ^^^ (y>>>10))
def xW(b:List UInt8)(n:Nat):List W:=(List.range n).map (wat b)
def mZ(b:List UInt8):Nat->List W
 | 0=>xW b 16
 | n+1=>mZ b n++[aMu (mZ b n) (n+16)]
def aFm(b:List UInt8):List W:=mZ b 48
def aHA(b:List UInt8)(n:Nat):(xW b n).length=n:=by simp[xW]
def aNF(b:List UInt8)(n:Nat):xW b (n+1)=xW b n++[wat b n]:=by simp[xW,List.range_succ]
def aJn(b:List UInt8):∀n,(mZ b n).length=n+16
 | 0=>by simp[mZ,aHA]
 | n+1=>by simp only[mZ,jR,aJn b n,zLU]
def aLD(b:List UInt8):(aFm b).length=64:=aJn b 48
structure S8 where
 (a b c d e f g h:W)
def S8.l(s:S8):List W:=[s.a,s.b,s.c,s.d,s.e,s.f,s.g,s.h]
def S8.add(s t:S8):S8:=⟨s.a+t.a,s.b+t.b,s.c+t.c,s.d+t.d,s.e+t.e,s.f+t.f,s.g+t.g,s.h+t.h⟩
def rnd(s:S8)(k w:W):S8:=
 let t1:=(((s.h+((tn s.e 6 ^^^ tn s.e 11) ^^^ tn s.e 25))+((s.e &&& s.f) ^^^ (~~~s.e &&& s.g)))+k)+w;let t2:=((tn s.a 2 ^^^ tn s.a 13) ^^^ tn s.a 22)+(((s.a &&& s.b) ^^^ (s.a &&& s.c)) ^^^ (s.b &&& s.c))
 ⟨t1+t2,s.a,s.b,s.c,s.d+t1,s.e,s.f,s.g⟩
def kT:List W:=[
 0x428a2f98,0x71374491,0xb5c0fbcf,0xe9b5dba5,0x3956c25b,0x59f111f1,0x923f82a4,0xab1c5ed5,
 0xd807aa98,0x12835b01,0x243185be,0x550c7dc3,0x72be5d74,0x80deb1fe,0x9bdc06a7,0xc19bf174,
 0xe49b69c1,0xefbe4786,0x0fc19dc6,0x240ca1cc,0x2de92c6f,0x4a7484aa,0x5cb0a9dc,0x76f988da,
 0x983e5152,0xa831c66d,0xb00327c8,0xbf597fc7,0xc6e00bf3,0xd5a79147,0x06ca6351,0x14292967,
 0x27b70a85,0x2e1b2138,0x4d2c6dfc,0x53380d13,0x650a7354,0x766a0abb,0x81c2c92e,0x92722c85,
 0xa2bfe8a1,0xa81a664b,0xc24b8b70,0xc76c51a3,0xd192e819,0xd6990624,0xf40e3585,0x106aa070,
 0x19a4c116,0x1e376c08,0x2748774c,0x34b0bcb5,0x391c0cb3,0x4ed8aa4a,0x5b9cca4f,0x682e6ff3,
 0x748f82ee,0x78a5636f,0x84c87814,0x8cc70208,0x90befffa,0xa4506ceb,0xbef9a3f7,0xc67178f2]
def aKT:kT.length=64:=rfl
def aH2(ws:List W)(s:S8):Nat->S8
 | 0=>s
 | n+1=>rnd (aH2 ws s n) (kT.getD n 0) (ws.getD n 0)
def aKR(s:S8)(b:List UInt8):S8:=s.add (aH2 (aFm b) s 64)
def S0:S8:=⟨1779033703,3144134277,1013904242,2773480762,1359893119,2600822924,528734635,1541459225⟩
def qD(s:S8)(l:List UInt8):S8×List UInt8:=if h:64≤l.length then qD (aKR s (l.take 64)) (l.drop 64) else(s,l)
termination_by l.length
decreasing_by simp;omega
def aIK{s:S8}{l:List UInt8}(h:l.length<64):qD s l=(s,l):=by rw[qD,dif_neg (by omega)]
def aH1{s:S8}{l:List UInt8}(h:64≤l.length):qD s l=qD (aKR s (l.take 64)) (l.drop 64):=by rw[qD,dif_pos h]
def aKu(s:S8)(a b:List UInt8):qD s (a++b)=qD (qD s a).1 ((qD s a).2++b):=by
 by_cases h:64≤a.length
 ·have e1:(a++b).take 64=a.take 64:=by rw[zLH h]
  have e2:(a++b).drop 64=a.drop 64++b:=by rw[List.drop_append_of_le_length h]
  rw[aH1 (l:=a++b) (by simp;omega),aH1 h,e1,e2];exact aKu (aKR s (a.take 64)) (a.drop 64) b
 ·rw[aIK (l:=a) (by omega)]
termination_by a.length
decreasing_by simp;omega
def aKH(s:S8)(a:List UInt8):(qD s a).2.length<64:=by
 by_cases h:64≤a.length
 ·rw[aH1 h];exact aKH _ _
 ·rw[aIK (by omega)];show a.length<64;omega
termination_by a.length
decreasing_by simp;omega
def wb(x:W):List UInt8:=[UInt8.ofNat ((x>>>24).toNat),UInt8.ofNat ((x>>>16).toNat),UInt8.ofNat ((x>>>8).toNat),UInt8.ofNat x.toNat]
def aI2(s:S8):List UInt8:=s.l.flatMap wb
def aJJ(n:Nat):List UInt8:=128::(List.replicate ((119-n%64)%64) 0++be (n*8%18446744073709551616) 8)
def sL(l:List UInt8):List UInt8:=aI2 (qD S0 (l++aJJ l.length)).1
section
variable{P:Program}{t:TypeId}{x y:W}{h:PH}
def aGM(x:Int):IntKind.u32.wrap x=x%4294967296:=by
 rfl
def aEf(x:W):BitVec.ofInt 32 (x.toNat:Int)=x:=by
 apply BitVec.eq_of_toInt_eq;rw[BitVec.toInt_ofInt,BitVec.toInt_eq_toNat_bmod]
def aF6:dH P (binOp .add t (wv x) (wv y))=some (wv (x+y)):=by
 unfold wv;rw[aRT,aGM,BitVec.toNat_add,←Int.natCast_add];rfl
def aOo(x:W):IntKind.u32.wrap (x.toNat:Int)=x.toNat:=by
 rw[aGM];have:=x.isLt;omega
def aQC:dH P (binOp .and t (wv x) (wv y))=some (wv (x &&& y)):=by
 have e:dH P (binOp .and t (wv x) (wv y))=some (.int .u32 (IntKind.u32.wrap ((BitVec.ofInt 32 (x.toNat:Int) &&& BitVec.ofInt 32 (y.toNat:Int)).toNat:Int))):=rfl;rw[e,aEf,aEf,aOo];rfl
def aWT:dH P (binOp .or t (wv x) (wv y))=some (wv (x ||| y)):=by
 have e:dH P (binOp .or t (wv x) (wv y))=some (.int .u32 (IntKind.u32.wrap ((BitVec.ofInt 32 (x.toNat:Int) ||| BitVec.ofInt 32 (y.toNat:Int)).toNat:Int))):=rfl;rw[e,aEf,aEf,aOo];rfl
def aEK:dH P (binOp .xor t (wv x) (wv y))=some (wv (x ^^^ y)):=by
 have e:dH P (binOp .xor t (wv x) (wv y))=some (.int .u32 (IntKind.u32.wrap ((BitVec.ofInt 32 (x.toNat:Int) ^^^ BitVec.ofInt 32 (y.toNat:Int)).toNat:Int))):=rfl;rw[e,aEf,aEf,aOo];rfl
def aWf:dH P (Op.unary .xor (wv x))=some (wv (~~~x)):=by
 have e:dH P (Op.unary .xor (wv x))=some (.int .u32 (IntKind.u32.wrap ((BitVec.ofInt 32 4294967295 ^^^ BitVec.ofInt 32 (x.toNat:Int)).toNat:Int))):=rfl;rw[e,aEf,aOo];have:BitVec.ofInt 32 4294967295 ^^^ x= ~~~x:=by
  have:BitVec.ofInt 32 4294967295=BitVec.allOnes 32:=by decide
  rw[this,BitVec.allOnes_xor]
 rw[this];rfl
def aJ5{k:IntKind}{n:Nat}(hn:n≤32):dH P (binOp .shr t (wv x) (.int k n))=some (wv (x>>>n)):=by
 unfold wv;rw[aJR (by omega)];congr 2;rw[BitVec.toNat_ushiftRight,Nat.shiftRight_eq_div_pow];have e:min ((n:Int).toNat) (IntKind.u32.bits)=n:=by
  show min n 32=n;omega
 rw[e,Int.fdiv_eq_ediv_of_nonneg _ (Int.pow_nonneg (by decide)),Int.natCast_ediv,Int.natCast_pow];rfl
def aOK{k:IntKind}{n:Nat}(hn:n≤32):dH P (binOp .shl t (wv x) (.int k n))=some (wv (x <<< n)):=by
 unfold wv;rw[aQn (by omega)];congr 2;have e:min ((n:Int).toNat) (IntKind.u32.bits)=n:=by
  show min n 32=n;omega
 rw[e,aGM,BitVec.toNat_shiftLeft,Nat.shiftLeft_eq,Int.natCast_emod,Int.natCast_mul,Int.natCast_pow];rfl
end
def aKF(x:Int):dH PG (convert bT nU (.int .i64 x))=some (.int .u64 (IntKind.u64.wrap x)):=by kernel_rfl
def aSM(x:Int):dH PG (convert dT cL (.int .u8 x))=some (.int .u32 (IntKind.u32.wrap x)):=by kernel_rfl
def aXO(x:Int):dH PG (convert cL dT (.int .u32 x))=some (.int .u8 (IntKind.u8.wrap x)):=by kernel_rfl
def aZQ:∀n:Fin 32,((BitVec.ofInt 64 (18446744073709551616-(n.val:Int)) &&& BitVec.ofInt 64 31).toNat:Int)=(32-(n.val:Int))%32:=by decide
def aY0(n:Nat)(h1:1≤n)(h2:n≤31):dH PG (binOp .and nU (.int .u64 (18446744073709551616-(n:Int))) (.int .u64 31))=some (.int .u64 ((32-n:Nat):Int)):=by
 have e:dH PG (binOp .and nU (.int .u64 (18446744073709551616-(n:Int))) (.int .u64 31))=some (.int .u64 (IntKind.u64.wrap ((BitVec.ofInt 64 (18446744073709551616-(n:Int)) &&& BitVec.ofInt 64 31).toNat:Int))):=rfl;have:=aZQ ⟨n,by omega⟩;simp only at this;rw[e,this,gO (by omega) (by omega)];congr 2;omega
def aDn{h:PH}{x:W}{n:Nat}(h1:1≤n)(h2:n≤31){k:cD}(hk:k (wv (tn x n)) h):aT PG qM #[wv x,.int .i64 n] h k:=by
 apply aLK.call;unfold aLK;have e1:dH PG (Op.unary .neg (.int .i64 (n:Int)))=some (.int .i64 (-(n:Int))):=by
  have:dH PG (Op.unary .neg (.int .i64 (n:Int)))=some (.int .i64 (IntKind.i64.wrap (0-(n:Int)))):=rfl;rw[this,fE (by omega) (by omega)];simp
 simp only[e1,cE,reduceIte];apply xP.call;unfold xP;have e2:IntKind.u64.wrap (-(n:Int))=18446744073709551616-(n:Int):=by
  unfold IntKind.wrap;simp[IntKind.signed,IntKind.bits];omega
 have e3:IntKind.u64.wrap (32-((32-n:Nat):Int))=((n:Nat):Int):=by rw[gO (by omega) (by omega)];omega
 simp only[aKF,e2,aY0 n h1 h2,aN3,e3,aOK (show 32-n≤32 by omega),aJ5 (show n≤32 by omega),aWT,cE,reduceIte];exact hk
def aRs{l r:List Value}{x v:Value}{n:Nat}(hn:n=l.length):(l++x::r).toArray.setIfInBounds n v=(l++v::r).toArray:=by
 subst hn;apply zLw;simp
def zs(n:Nat):List Value:=List.replicate n (wv 0)
def aR0(n:Nat):zs (n+1)=wv 0::zs n:=rfl
def aL5{b:Nat}{j:Int}(h0:0≤j)(h1:j<64):dH PG (indexAt fH (pT b 0) (.int .i64 j))=some (pT b j.toNat):=by
 rw[aBE fH.und cL.info cL.size h0 (by exact_mod_cast h1)];simp
def at8{b:Nat}{j:Int}(h0:0≤j)(h1:j<8):dH PG (indexAt eX (pT b 0) (.int .i64 j))=some (pT b j.toNat):=by
 rw[aBE eX.und cL.info cL.size h0 (by exact_mod_cast h1)];simp
def isw(x:W):fW (wv x)=true:=rfl
def aMF{h:PH}{b o:Nat}{l:List W}{r:List Value}{t:TypeId}{fr:Nat×Nat}(hb:h b=some (.cells (l.map wv++r).toArray t fr))(ho:o<l.length):dC h ⟨b,o,none⟩=some (wv (l.getD o 0)):=by
 unfold dC;simp only[hb];rw[zLK,List.getElem?_append_left (by simpa using ho),vL,lS ho];simp[aA3,lS ho]
def w8(x:UInt8):Value.int .u32 (IntKind.u32.wrap (x.toNat:Int))=wv (BitVec.ofNat 32 x.toNat):=by
 have hx:=x.toNat_lt;unfold wv;rw[aGM,BitVec.toNat_ofNat];congr 1
def bAQ{t:TypeId}{x:W}{k:IntKind}:dH PG (binOp .shl t (wv x) (.int k 24))=some (wv (x <<< 24)):=aOK (n:=24) (by decide)
def bAS{t:TypeId}{x:W}{k:IntKind}:dH PG (binOp .shl t (wv x) (.int k 16))=some (wv (x <<< 16)):=aOK (n:=16) (by decide)
def sh8{t:TypeId}{x:W}{k:IntKind}:dH PG (binOp .shl t (wv x) (.int k 8))=some (wv (x <<< 8)):=aOK (n:=8) (by decide)
def sr3{t:TypeId}{x:W}{k:IntKind}:dH PG (binOp .shr t (wv x) (.int k 3))=some (wv (x>>>3)):=aJ5 (n:=3) (by decide)
def aYO{t:TypeId}{x:W}{k:IntKind}:dH PG (binOp .shr t (wv x) (.int k 10))=some (wv (x>>>10)):=aJ5 (n:=10) (by decide)
def z64:dR PG fH=(zs 64).toArray:=by rw[fH.zc];rfl
def z8:dR PG eX=(zs 8).toArray:=by rw[eX.zc];rfl
def aWQ{b:List UInt8}(hb:b.length=64){i r1 r3:Nat}(hi:i<16){h:PH}{R:cD}{n5:gJ}
  (h3:h r3=some (.cells ((xW b i).map wv++zs (64-i)).toArray fH (0,0)))
  (hn:n5 [.string (tx b),pT r1 0,pT r3 0,.int .i64 ((i+1:Nat):Int)] (h.set r3 (.cells ((xW b (i+1)).map wv++zs (64-(i+1))).toArray fH (0,0)))):
  aGu R n5 (.string (tx b)) (pT r1 0) (pT r3 0) (.int .i64 (i:Int)) h:=by
 unfold aGu;have e1:((i:Int)<16)=True:=eq_true (by omega);have e2:IntKind.i64.wrap (4*(i:Int))=((4*i:Nat):Int):=by rw[fE (by omega) (by omega)];omega
 have e3:IntKind.i64.wrap (((4*i:Nat):Int)+4)=((4*i+4:Nat):Int):=by rw[fE (by omega) (by omega)];omega
 have e4:=qZ (i:=i) (by omega);have ec:dH PG (Instr.sliceAt bR (.string (tx b)) (some (.int .i64 ((4*i:Nat):Int))) (some (.int .i64 ((4*i+4:Nat):Int))) none)=some (.string (tx ((b.take (4*i+4)).drop (4*i)))):=
  aIJ bR.und (.inr ⟨_,rfl⟩) (.inr ⟨_,rfl⟩) (by omega) (by omega)
 have ix:∀j,j<4->((b.take (4*i+4)).drop (4*i))[j]? =some (b.getD (4*i+j) 0):=λj hj=>by
  rw[aNr,aJH,if_pos (by omega),aA3,lS (by omega)];rfl
 have i0:dH PG (Instr.index bR (.string (tx ((b.take (4*i+4)).drop (4*i)))) (.int .i64 0))=_:=aAb (j:=0) bR.und (ix 0 (by omega));have i1:dH PG (Instr.index bR (.string (tx ((b.take (4*i+4)).drop (4*i)))) (.int .i64 1))=_:=aAb (j:=1) bR.und (ix 1 (by omega));have i2:dH PG (Instr.index bR (.string (tx ((b.take (4*i+4)).drop (4*i)))) (.int .i64 2))=_:=aAb (j:=2) bR.und (ix 2 (by omega));have i3:dH PG (Instr.index bR (.string (tx ((b.take (4*i+4)).drop (4*i)))) (.int .i64 3))=_:=aAb (j:=3) bR.und (ix 3 (by omega));have ea:=aL5 (b:=r3) (j:=(i:Int)) (by omega) (by omega);rw[qN] at ea;simp only[e1,e2,e3,e4,ec,i0,i1,i2,i3,aSM,w8,bAQ,bAS,sh8,aWT,ea,cE,reduceIte];refine iZ cL.und rfl h3 (by simp[aHA,zs];omega) (isw _) cL.info cL.size ?_;have es:((xW b i).map wv++zs (64-i)).toArray.setIfInBounds i (wv (w4 (b.getD (4*i+0) 0) (b.getD (4*i+1) 0) (b.getD (4*i+2) 0) (b.getD (4*i+3) 0)))=((xW b (i+1)).map wv++zs (64-(i+1))).toArray:=by
  rw[show 64-i=(64-(i+1))+1 by omega,aR0,aRs (by simp[aHA]),aNF];simp[wat]
 have es':=es;unfold w4 at es';rw[es'];exact hn
def aTf{b:List UInt8}{i r1 r3:Nat}(hi:i<48){h:PH}{R:cD}{n5:gJ}
  (h3:h r3=some (.cells ((mZ b i).map wv++zs (48-i)).toArray fH (0,0)))
  (hn:n5 [pT r1 0,pT r3 0,.int .i64 ((i+1+16:Nat):Int)] (h.set r3 (.cells ((mZ b (i+1)).map wv++zs (48-(i+1))).toArray fH (0,0)))):
  aF5 R n5 (pT r1 0) (pT r3 0) (.int .i64 ((i+16:Nat):Int)) h:=by
 unfold aF5;have hl:=aJn b i;have e1:(((i+16:Nat):Int)<64)=True:=eq_true (by omega);have e2:IntKind.i64.wrap (((i+16:Nat):Int)-15)=((i+1:Nat):Int):=by rw[fE (by omega) (by omega)];omega
 have e3:IntKind.i64.wrap (((i+16:Nat):Int)-2)=((i+14:Nat):Int):=by rw[fE (by omega) (by omega)];omega
 have e4:IntKind.i64.wrap (((i+16:Nat):Int)-16)=((i:Nat):Int):=by rw[fE (by omega) (by omega)];omega
 have e5:IntKind.i64.wrap (((i+16:Nat):Int)-7)=((i+9:Nat):Int):=by rw[fE (by omega) (by omega)];omega
 have e6:IntKind.i64.wrap (((i+16:Nat):Int)+1)=((i+1+16:Nat):Int):=by rw[fE (by omega) (by omega)];omega
 have a1:=aL5 (b:=r3) (j:=((i+1:Nat):Int)) (by omega) (by omega);have a2:=aL5 (b:=r3) (j:=((i+14:Nat):Int)) (by omega) (by omega);have a3:=aL5 (b:=r3) (j:=((i:Nat):Int)) (by omega) (by omega);have a4:=aL5 (b:=r3) (j:=((i+9:Nat):Int)) (by omega) (by omega);have a5:=aL5 (b:=r3) (j:=((i+16:Nat):Int)) (by omega) (by omega);rw[qN] at a1 a2 a3 a4 a5;have c1:=aMF (o:=i+1) h3 (by omega);have c2:=aMF (o:=i+14) h3 (by omega);have c3:=aMF (o:=i) h3 (by omega);have c4:=aMF (o:=i+9) h3 (by omega);simp only[e1,e2,e3,e4,e5,a1,a2,a3,a4,cL.load,c1,c2,c3,c4,sr3,aYO,cE,reduceIte];refine aDn (n:=7) (by decide) (by decide) ?_;refine⟨by simp only[cL.load,c4],by simp only[cL.load,c3],?_⟩;refine aDn (n:=18) (by decide) (by decide) ?_;refine⟨by simp only[cL.load,c4],by simp only[cL.load,c3],?_⟩;simp only[aEK,aF6,cE,reduceIte];refine aDn (n:=17) (by decide) (by decide) ?_;refine⟨by simp only[cL.load,c4],by simp only[cL.load,c3],?_⟩;refine aDn (n:=19) (by decide) (by decide) ?_;refine⟨by simp only[cL.load,c4],by simp only[cL.load,c3],?_⟩;simp only[aEK,aF6,a5,e6,cE,reduceIte];refine iZ cL.und rfl h3 (by simp[hl,zs];omega) (isw _) cL.info cL.size ?_;have es:((mZ b i).map wv++zs (48-i)).toArray.setIfInBounds (i+16) (wv (aMu (mZ b i) (i+16)))=((mZ b (i+1)).map wv++zs (48-(i+1))).toArray:=by
  rw[show 48-i=(48-(i+1))+1 by omega,aR0,aRs (by simp[hl]),mZ];simp
 have es':=es;unfold aMu at es';rw[show i+16-15=i+1 by omega,show i+16-2=i+14 by omega,show i+16-16=i by omega,show i+16-7=i+9 by omega] at es';simp only at es';rw[es'];exact hn
def aVH{h:PH}{b:List UInt8}(hb:b.length=64){k:cD}(hk:∀h',dD h h'->k (.agg ((aFm b).map wv).toArray) h'):aT PG aJE #[.string (tx b)] h k:=by
 apply aGR.call;unfold aGR;rw[z64];intro r1 hr1
 try simp only[cW]
 have u1:dD h (h.set r1 (.cells (zs 64).toArray fH)):=cT.new hr1;have a1:(h.set r1 (.cells (zs 64).toArray fH)) r1=some (.cells (zs 64).toArray fH (0,0)):=dJ;generalize h.set r1 (.cells (zs 64).toArray fH)=h1 at *;intro r3 hr3
 try simp only[cW]
 have u3:dD h1 (h1.set r3 (.cells (zs 64).toArray fH)):=cT.new hr3;have a3:(h1.set r3 (.cells (zs 64).toArray fH)) r3=some (.cells (zs 64).toArray fH (0,0)):=dJ;have hne:r1≠r3:=λe=>by subst e;rw[a1] at hr3;cases hr3
 have n3:h r3=none:=u1.none hr3;have b1:=u3.get a1;generalize h1.set r3 (.cells (zs 64).toArray fH)=h2 at *;have u:=u1.trans u3;refine⟨λvs h'=>∃i,i≤16∧vs=[.string (tx b),pT r1 0,pT r3 0,.int .i64 ((i:Nat):Int)]∧dD h h'∧h' r1=some (.cells (zs 64).toArray fH (0,0))∧h' r3=some (.cells ((xW b i).map wv++zs (64-i)).toArray fH (0,0)),gT 16 3,⟨0,by omega,rfl,u,b1,by simpa[xW] using a3⟩,?_⟩;rintro ρ h' ⟨i,hi,hvs,u',b1',b3'⟩;simp only[iG,iX,lN,and_true] at hvs;obtain⟨v0,v2,v3,v9⟩:=hvs;simp only[v0,v2,v3,v9,iG,iX];by_cases hl:i<16
 ·refine aWQ hb hl b3' ⟨⟨i+1,by omega,rfl,u'.fresh (cT.set (F:=[r3]) (by simp)) (eM.one n3),by rw[qI hne];exact b1',dJ⟩,?_⟩;simp only[gT,rZ,pO];omega
 ·have hi':i=16:=by omega
  subst hi';unfold aGu;simp only[show(((16:Nat):Int)<16)=False from eq_false (by decide),cE,reduceIte];refine⟨λvs h'=>∃i,i≤48∧vs=[pT r1 0,pT r3 0,.int .i64 ((i+16:Nat):Int)]∧dD h h'∧h' r1=some (.cells (zs 64).toArray fH (0,0))∧h' r3=some (.cells ((mZ b i).map wv++zs (48-i)).toArray fH (0,0)),gT 64 2,⟨0,by omega,rfl,u',b1',b3'⟩,?_⟩;rintro ρ2 h2' ⟨i,hi,hvs,u2,c1,c3⟩;simp only[iG,iX,lN,and_true] at hvs;obtain⟨v2',v3',v6'⟩:=hvs;simp only[v2',v3',v6',iG,iX];by_cases hl:i<48
  ·refine aTf hl c3 ⟨⟨i+1,by omega,rfl,u2.fresh (cT.set (F:=[r3]) (by simp)) (eM.one n3),by rw[qI hne];exact c1,dJ⟩,?_⟩;simp only[gT,rZ,pO];omega
  ·have hi':i=48:=by omega
   subst hi';have hw:((mZ b 48).map wv++zs (48-48)).toArray=((aFm b).map wv).toArray:=by simp[aFm,zs]
   rw[hw] at c3;have hsz:((aFm b).map wv).toArray.size=64:=by rw[List.size_toArray,iY,aLD]
   have hic:∀v∈((aFm b).map wv).toArray.toList,fW v=true:=λv hv=>by
    rw[List.toList_toArray,mE] at hv;obtain⟨w,-,rfl⟩:=hv;rfl
   generalize ((aFm b).map wv).toArray=cs at *;unfold aF5;have l3:=fH.loadAgg (o:=0) c3 (by omega);rw[Array.extract_eq_self_of_le (by omega)] at l3;simp only[show(((48+16:Nat):Int)<64)=False from eq_false (by decide),l3,cE,reduceIte];refine qH c1 fH.info (by rw[hsz];rfl) (by omega) (by rw[hsz];rfl) hic ?_;have l1:=fH.loadAgg (h:=h2'.set r1 (.cells cs fH (0,0))) (o:=0) dJ (by omega);rw[Array.extract_eq_self_of_le (by omega)] at l1;simp only[l1,cE,reduceIte];exact hk _ (u2.fresh (cT.set (F:=[r1]) (by simp)) (eM.one hr1))
def oM(h:PH):Prop:=∃t fr,h 0=some (.cells (kT.map wv).toArray t fr)
def oM.ext{h h':PH}(H:oM h)(u:dD h h'):oM h':=by
 obtain⟨t,fr,hb⟩:=H;exact⟨t,fr,u.get hb⟩
def aTe{h:PH}{b o:Nat}{l:List W}{t:TypeId}{fr:Nat×Nat}(hb:h b=some (.cells (l.map wv).toArray t fr))(ho:o<l.length):dC h ⟨b,o,none⟩=some (wv (l.getD o 0)):=by
 refine aMF (r:=[]) (t:=t) (fr:=fr) ?_ ho;rw[zLR];exact hb
def aZi{h:PH}{r:Nat}{a b c d e f g x:Value}(hb:h r=some (.cells #[a,b,c,d,e,f,g,x] eX (0,0)))(hc:∀v∈[a,b,c,d,e,f,g],fW v=true){k:cD}
  (hk:k (.int .i64 7) (h.set r (.cells #[a,a,b,c,d,e,f,g] eX (0,0)))):
  dA PG (Builtin.copy_ #[eZ,eZ] bT #[.slice (some ⟨r,1,none⟩) 7 7,.slice (some ⟨r,0,none⟩) 7 8]) h k:=by
 have S:gF h 1 (.slice (some ⟨r,0,none⟩) 7 8) [[a],[b],[c],[d],[e],[f],[g]]:=by
  refine⟨λq hq=>by simp at hq;rcases hq with rfl|rfl|rfl|rfl|rfl|rfl|rfl<;>rfl,some ⟨r,0,none⟩,8,rfl,by simp,by unfold rC;omega,λ_=>⟨r,0,_,_,_,rfl,hb,by simp,by simp⟩,trivial⟩
 have hfirst:=S.first (P:=PG);simp only[Builtin.copy_,zLK,pO,rZ,pN eZ.und,kL,mK cL.info,pure_bind,Builtin.lenOf,cL.size];refine iB (s:=Builtin.firstCells 1 7 (.slice (some ⟨r,0,none⟩) 7 8)) (a:=#[a,b,c,d,e,f,g]) hfirst ?_;refine dA.bind (P:=PG) (s:=storeCells _ _) ?_;refine rJ [a,b,c,d,e,f,g] 0 h #[a,b,c,d,e,f,g,x] hb (by simp) hc ?_;have e:(if [a,b,c,d,e,f,g]=[] then h else h.set r (.cells (uX #[a,b,c,d,e,f,g,x] (1+0) [a,b,c,d,e,f,g]) eX (0,0)))=h.set r (.cells #[a,a,b,c,d,e,f,g] eX (0,0)):=by
  rw[if_neg (by simp)];rfl
 rw[e];exact hk
def bAH{r:Nat}:dH PG (Instr.sliceAt eX (pT r 0) (some (.int .i64 1)) none none)=some (.slice (some ⟨r,1,none⟩) 7 7):=by kernel_rfl
def bAU{r:Nat}:dH PG (Instr.sliceAt eX (pT r 0) none (some (.int .i64 7)) none)=some (.slice (some ⟨r,0,none⟩) 7 8):=by kernel_rfl
def aXP{ws:List W}(hws:ws.length=64){s:S8}{i a r3 r10:Nat}(hi:i<64){h:PH}{R:cD}{n:gJ}(hK:oM h)
  (h3:h r3=some (.cells (ws.map wv).toArray fH (0,0))) (h10:h r10=some (.cells #[wv s.a,wv s.b,wv s.c,wv s.d,wv s.e,wv s.f,wv s.g,wv s.h] eX (0,0)))
  (hn:∀s',s'=rnd s (kT.getD i 0) (ws.getD i 0)->n [pT a 0,pT r3 0,pT r10 0,.int .i64 ((i+1:Nat):Int)] (h.set r10 (.cells #[wv s'.a,wv s'.b,wv s'.c,wv s'.d,wv s'.e,wv s'.f,wv s'.g,wv s'.h] eX (0,0)))):
  aCG R n (pT a 0) (pT r3 0) (pT r10 0) (.int .i64 (i:Int)) h:=by
 obtain⟨kt,fr,hK⟩:=hK;unfold aCG;have e1:((i:Int)<64)=True:=eq_true (by omega);have e4:=qZ (i:=i) (by omega);have m:∀j:Nat,j<8->dH PG (indexAt eX (pT r10 0) (.int .i64 j))=some (pT r10 j):=λj hj=>by rw[at8 (by omega) (by omega),qN]
 have m0:dH PG (indexAt eX (pT r10 0) (.int .i64 0))=some (pT r10 0):=m 0 (by decide);have m1:dH PG (indexAt eX (pT r10 0) (.int .i64 1))=some (pT r10 1):=m 1 (by decide);have m2:dH PG (indexAt eX (pT r10 0) (.int .i64 2))=some (pT r10 2):=m 2 (by decide);have m4:dH PG (indexAt eX (pT r10 0) (.int .i64 4))=some (pT r10 4):=m 4 (by decide);have m5:dH PG (indexAt eX (pT r10 0) (.int .i64 5))=some (pT r10 5):=m 5 (by decide);have m6:dH PG (indexAt eX (pT r10 0) (.int .i64 6))=some (pT r10 6):=m 6 (by decide);have m7:dH PG (indexAt eX (pT r10 0) (.int .i64 7))=some (pT r10 7):=m 7 (by decide);have c0:dC h ⟨r10,0,none⟩=some (wv s.a):=by simp[dC,h10]
 have c1:dC h ⟨r10,1,none⟩=some (wv s.b):=by simp[dC,h10]
 have c2:dC h ⟨r10,2,none⟩=some (wv s.c):=by simp[dC,h10]
 have c4:dC h ⟨r10,4,none⟩=some (wv s.e):=by simp[dC,h10]
 have c5:dC h ⟨r10,5,none⟩=some (wv s.f):=by simp[dC,h10]
 have c6:dC h ⟨r10,6,none⟩=some (wv s.g):=by simp[dC,h10]
 have c7:dC h ⟨r10,7,none⟩=some (wv s.h):=by simp[dC,h10]
 have a0:=aL5 (b:=0) (j:=(i:Int)) (by omega) (by omega);have a3:=aL5 (b:=r3) (j:=(i:Int)) (by omega) (by omega);rw[qN] at a0 a3;have ck:=aTe (o:=i) hK (by rw[aKT];exact hi);have cw:=aTe (o:=i) h3 (by omega);simp only[e1,m0,m1,m2,m4,m5,m6,m7,cL.load,c0,c1,c2,c4,c5,c6,c7,a0,a3,ck,cw,aQC,aEK,aWf,cE,reduceIte];refine aDn (n:=6) (by decide) (by decide) ?_;simp only[cL.load,c0,c1,c2,c4,c5,c6,c7,ck,cw,true_and];refine aDn (n:=11) (by decide) (by decide) ?_;simp only[cL.load,c0,c1,c2,c4,c5,c6,c7,ck,cw,true_and,aEK,cE,reduceIte];refine aDn (n:=25) (by decide) (by decide) ?_;simp only[e1,m0,m1,m2,m4,m5,m6,m7,cL.load,c0,c1,c2,c4,c5,c6,c7,a0,a3,ck,cw,aQC,aEK,aWf,aF6,true_and,cE,reduceIte];refine aDn (n:=2) (by decide) (by decide) ?_;simp only[cL.load,c0,c1,c2,c4,c5,c6,c7,ck,cw,true_and];refine aDn (n:=13) (by decide) (by decide) ?_;simp only[cL.load,c0,c1,c2,c4,c5,c6,c7,ck,cw,true_and,aEK,cE,reduceIte];refine aDn (n:=22) (by decide) (by decide) ?_;simp only[cL.load,c0,c1,c2,c4,c5,c6,c7,ck,cw,true_and,aEK,aF6,bAH,bAU,cE,reduceIte];refine aZi h10 (by simp[isw]) ?_;have c4':dC (h.set r10 (.cells #[wv s.a,wv s.a,wv s.b,wv s.c,wv s.d,wv s.e,wv s.f,wv s.g] eX (0,0))) ⟨r10,4,none⟩=some (wv s.d):=by simp[dC,dJ]
 simp only[m4,cL.load,c4',aF6,cE,reduceIte];refine iZ cL.und rfl dJ (by simp) (isw _) cL.info cL.size ?_;rw[rY]
 try simp only[m0,aF6,cE,reduceIte]
 refine iZ cL.und rfl dJ (by simp) (isw _) cL.info cL.size ?_;rw[rY]
 try simp only[e4,cE,reduceIte]
 exact hn _ rfl
def S8.some(s t:S8)(n:Nat):S8:=⟨if 0<n then s.a+t.a else s.a,if 1<n then s.b+t.b else s.b,if 2<n then s.c+t.c else s.c,if 3<n then s.d+t.d else s.d,if 4<n then s.e+t.e else s.e,if 5<n then s.f+t.f else s.f,if 6<n then s.g+t.g else s.g,if 7<n then s.h+t.h else s.h⟩
def S8.some8(s t:S8):s.some t 8=s.add t:=rfl
def aV7(s t:S8){i:Nat}(hi:i<8)(x y:Value):(#[wv (s.some t i).a,wv (s.some t i).b,wv (s.some t i).c,wv (s.some t i).d,wv (s.some t i).e,wv (s.some t i).f,wv (s.some t i).g,wv (s.some t i).h,x,y]:Array Value).setIfInBounds i (wv (s.l.getD i 0+t.l.getD i 0))=
  #[wv (s.some t (i+1)).a,wv (s.some t (i+1)).b,wv (s.some t (i+1)).c,wv (s.some t (i+1)).d,wv (s.some t (i+1)).e,wv (s.some t (i+1)).f,wv (s.some t (i+1)).g,wv (s.some t (i+1)).h,x,y]:=by
 have:i=0∨i=1∨i=2∨i=3∨i=4∨i=5∨i=6∨i=7:=by omega
 rcases this with rfl|rfl|rfl|rfl|rfl|rfl|rfl|rfl<;>rfl
def aWA(s t:S8){i:Nat}(hi:i<8)(x y:Value):(#[wv (s.some t i).a,wv (s.some t i).b,wv (s.some t i).c,wv (s.some t i).d,wv (s.some t i).e,wv (s.some t i).f,wv (s.some t i).g,wv (s.some t i).h,x,y]:Array Value)[i]? =Option.some (wv (s.l.getD i 0)):=by
 have:i=0∨i=1∨i=2∨i=3∨i=4∨i=5∨i=6∨i=7:=by omega
 rcases this with rfl|rfl|rfl|rfl|rfl|rfl|rfl|rfl<;>rfl
def aZu(t:S8){i:Nat}(hi:i<8):(#[wv t.a,wv t.b,wv t.c,wv t.d,wv t.e,wv t.f,wv t.g,wv t.h]:Array Value)[i]? =Option.some (wv (t.l.getD i 0)):=by
 have:i=0∨i=1∨i=2∨i=3∨i=4∨i=5∨i=6∨i=7:=by omega
 rcases this with rfl|rfl|rfl|rfl|rfl|rfl|rfl|rfl<;>rfl
def jT(s:S8)(x y:Value):Array Value:=#[wv s.a,wv s.b,wv s.c,wv s.d,wv s.e,wv s.f,wv s.g,wv s.h,x,y]
def aXz{s v:S8}{i a r10:Nat}{x y:Value}(hi:i<8){h:PH}{R:cD}{n:gJ}
  (ha:h a=Option.some (.cells (jT (s.some v i) x y) fI (0,0))) (h10:h r10=Option.some (.cells #[wv v.a,wv v.b,wv v.c,wv v.d,wv v.e,wv v.f,wv v.g,wv v.h] eX (0,0)))
  (hn:n [.pointer (Option.some ⟨a,0,none⟩),.pointer (Option.some ⟨r10,0,none⟩),.int .i64 ((i+1:Nat):Int)] (h.set a (.cells (jT (s.some v (i+1)) x y) fI (0,0)))):
  aCB R n (.pointer (Option.some ⟨a,0,none⟩)) (.pointer (Option.some ⟨r10,0,none⟩)) (.int .i64 (i:Int)) h:=by
 unfold aCB;have e1:((i:Int)<8)=True:=eq_true (by omega);have e4:=qZ (i:=i) (by omega);have m1:=at8 (b:=a) (j:=(i:Int)) (by omega) (by omega);have m2:=at8 (b:=r10) (j:=(i:Int)) (by omega) (by omega);rw[qN] at m1 m2;have c1:dC h ⟨a,i,none⟩=Option.some (wv (s.l.getD i 0)):=by
  unfold dC;simp only[ha];exact aWA s v hi x y
 have c2:dC h ⟨r10,i,none⟩=Option.some (wv (v.l.getD i 0)):=by
  unfold dC;simp only[h10];exact aZu v hi
 simp only[e1,hQ.f0,m1,m2,cL.load,c1,c2,aF6,cE,reduceIte];refine iZ cL.und rfl ha (by simp[jT];omega) (isw _) cL.info cL.size ?_;have es:=aV7 s v hi x y;change (jT (s.some v i) x y).setIfInBounds i _=jT (s.some v (i+1)) x y at es;rw[es]
 try simp only[e4,cE,reduceIte]
 exact hn
def aYj{h:PH}{a:Nat}{s:S8}{x y:Value}{b:List UInt8}(hK:oM h)(hb:b.length=64)(ha:h a=Option.some (.cells (jT s x y) fI (0,0))){k:cD}
  (hk:∀h',cT [a] h h'->h' a=Option.some (.cells (jT (aKR s b) x y) fI (0,0))->k (.tuple #[]) h'):aT PG aGJ #[.pointer (Option.some ⟨a,0,none⟩),.string (tx b)] h k:=by
 apply aBD.call;unfold aBD;refine aVH hb λh1 u1=>?_;have hwl:=aLD b;have hmx:aKR s b=s.add (aH2 (aFm b) s 64):=rfl;rw[hmx] at hk;clear hmx;generalize aFm b=ws at *;have hsz:(ws.map wv).toArray.size=64:=by rw[List.size_toArray,iY,hwl]
 have hic:∀v∈(ws.map wv).toArray.toList,fW v=true:=λv hv=>by
  rw[List.toList_toArray,mE] at hv;obtain⟨w,-,rfl⟩:=hv;rfl
 rw[z64,z8];intro r3 hr3
 try rw[cW]
 have u3:dD h1 (h1.set r3 (.cells (zs 64).toArray fH)):=cT.new hr3;have n3:h r3=none:=u1.none hr3;have a3:(h1.set r3 (.cells (zs 64).toArray fH)) r3=Option.some (.cells (zs 64).toArray fH (0,0)):=dJ;generalize h1.set r3 (.cells (zs 64).toArray fH)=h2 at *;refine qH a3 fH.info (by rw[hsz];rfl) (by omega) (by rw[hsz];rfl) hic ?_;have u4:dD h (h2.set r3 (.cells (ws.map wv).toArray fH (0,0))):=(u1.trans u3).fresh (cT.set (F:=[r3]) (by simp)) (eM.one n3);have a3':(h2.set r3 (.cells (ws.map wv).toArray fH (0,0))) r3=Option.some (.cells (ws.map wv).toArray fH (0,0)):=dJ;generalize h2.set r3 (.cells (ws.map wv).toArray fH (0,0))=h3 at *;have ha3:=u4.get ha;have lA:=eX.loadAgg (o:=0) ha3 (by simp[jT]);have lE:(jT s x y).extract 0 (0+8)= #[wv s.a,wv s.b,wv s.c,wv s.d,wv s.e,wv s.f,wv s.g,wv s.h]:=rfl;rw[lE] at lA;simp only[hQ.f0,lA,cE,reduceIte];intro r10 hr10
 try rw[cW]
 have u5:dD h3 (h3.set r10 (.cells (zs 8).toArray eX)):=cT.new hr10;have n10:h r10=none:=u4.none hr10;have a10:(h3.set r10 (.cells (zs 8).toArray eX)) r10=Option.some (.cells (zs 8).toArray eX (0,0)):=dJ;generalize h3.set r10 (.cells (zs 8).toArray eX)=h4 at *;refine qH a10 eX.info rfl (by simp) rfl (by simp[isw]) ?_;have u6:dD h (h4.set r10 (.cells #[wv s.a,wv s.b,wv s.c,wv s.d,wv s.e,wv s.f,wv s.g,wv s.h] eX (0,0))):=(u4.trans u5).fresh (cT.set (F:=[r10]) (by simp)) (eM.one n10);have hne3:r3≠r10:=λe=>by subst e;rw[a3'] at hr10;cases hr10
 have a3'':(h4.set r10 (.cells #[wv s.a,wv s.b,wv s.c,wv s.d,wv s.e,wv s.f,wv s.g,wv s.h] eX (0,0))) r3=Option.some (.cells (ws.map wv).toArray fH (0,0)):=by rw[qI hne3];exact u5.get a3'
 have a10':(h4.set r10 (.cells #[wv s.a,wv s.b,wv s.c,wv s.d,wv s.e,wv s.f,wv s.g,wv s.h] eX (0,0))) r10=Option.some (.cells #[wv s.a,wv s.b,wv s.c,wv s.d,wv s.e,wv s.f,wv s.g,wv s.h] eX (0,0)):=dJ;generalize h4.set r10 (.cells #[wv s.a,wv s.b,wv s.c,wv s.d,wv s.e,wv s.f,wv s.g,wv s.h] eX (0,0))=h5 at *;have hne:a≠r10:=λe=>by subst e;rw[ha] at n10;cases n10
 refine⟨λvs h'=>∃i s',i≤64∧s'=aH2 ws s i∧vs=[.pointer (Option.some ⟨a,0,none⟩),.pointer (Option.some ⟨r3,0,none⟩),.pointer (Option.some ⟨r10,0,none⟩),.int .i64 ((i:Nat):Int)]∧dD h h'∧h' r3=Option.some (.cells (ws.map wv).toArray fH (0,0))∧h' r10=Option.some (.cells #[wv s'.a,wv s'.b,wv s'.c,wv s'.d,wv s'.e,wv s'.f,wv s'.g,wv s'.h] eX (0,0)),gT 64 3,⟨0,s,by omega,rfl,rfl,u6,a3'',a10'⟩,?_⟩;rintro ρ h' ⟨i,s',hi,hs',hvs,u',b3,b10⟩;simp only[iG,iX,lN,and_true] at hvs;obtain⟨v0,v4,v5,v18⟩:=hvs;simp only[v0,v4,v5,v18,iG,iX];by_cases hl:i<64
 ·refine aXP hwl hl (hK.ext u') b3 b10 λs2 hs2=>⟨⟨i+1,s2,by omega,by rw[hs2,hs',aH2],rfl,u'.fresh (cT.set (F:=[r10]) (by simp)) (eM.one n10),by rw[qI hne3];exact b3,dJ⟩,?_⟩;simp only[gT,rZ,pO];omega
 ·have hi':i=64:=by omega
  subst hi';unfold aCG;simp only[show(((64:Nat):Int)<64)=False from eq_false (by decide),cE,reduceIte];have hup:cT [a] h h':=u'.upd;refine⟨λvs h2'=>∃i,i≤8∧vs=[.pointer (Option.some ⟨a,0,none⟩),.pointer (Option.some ⟨r10,0,none⟩),.int .i64 ((i:Nat):Int)]∧cT [a] h h2'∧h2' a=Option.some (.cells (jT (s.some s' i) x y) fI (0,0))∧h2' r10=Option.some (.cells #[wv s'.a,wv s'.b,wv s'.c,wv s'.d,wv s'.e,wv s'.f,wv s'.g,wv s'.h] eX (0,0)),gT 8 2,⟨0,by omega,rfl,hup,u'.get ha,b10⟩,?_⟩;rintro ρ2 h2' ⟨i,hi,hvs,u2,ca,c10⟩;simp only[iG,iX,lN,and_true] at hvs;obtain⟨v0',v5',v92'⟩:=hvs;simp only[v0',v5',v92',iG,iX];by_cases hl:i<8
  ·refine aXz hl ca c10 ⟨⟨i+1,by omega,rfl,u2.trans (cT.set (by simp)),dJ,by rw[qI (Ne.symm hne)];exact c10⟩,?_⟩;simp only[gT,rZ,pO];omega
  ·have hi':i=8:=by omega
   subst hi';unfold aCB;simp only[show(((8:Nat):Int)<8)=False from eq_false (by decide),cE,reduceIte];refine hk _ u2 ?_;rw[ca,S8.some8,hs']
end
section
open Go
namespace Bld
def neqPtrSelf{h:PH}{x y:Operand}(a:Addr):cH PG h (jY .neq dX x y (.pointer (some a)) (.pointer (some a)))=some (.bool false):=by
 show cH PG h (Op.equalIn (9999+1) dX (.pointer (some a)) (.pointer (some a)) >>= λb=>(pure (Value.bool (!b)):Sem Value))=_;rw[jV];have:cH PG h (Op.equalIn (9999+1) dX (.pointer (some a)) (.pointer (some a)))=some true:=by
  rw[Op.equalIn,kI dX.und];simp only[kL];rw[aBP dM.info];simp[dM.size,sameAddr,cH,pure]
 rw[this];rfl
def semE_viewAt{h:PH}{r:Nat}{x:TypeId×Nat}{α:Type}(hs:kE h r=some (some x))(f:Option (Addr×TypeId)->Sem α):cH PG h (viewAt r >>= f)=cH PG h (f none):=by
 rw[jV];have:cH PG h (viewAt r)=some none:=by
  show(kE h r).bind _=_;rw[hs];rfl
 rw[this];rfl
def semE_seenAt{h:PH}{a:Addr}{x:TypeId×Nat}{α:Type}(hs:kE h a.block=some (some x))(f:Addr->Sem α):cH PG h (Conv.seenAt a >>= f)=cH PG h (f a):=by
 rw[jV];have:cH PG h (Conv.seenAt a)=some a:=by
  unfold Conv.seenAt;rw[semE_viewAt hs];rfl
 rw[this];rfl
def semE_cellsIn{h:PH}{r:Nat}{x:TypeId×Nat}{α:Type}(hs:kE h r=some (some x))(f:Option Nat->Sem α):cH PG h (cellsIn r >>= f)=cH PG h (f (some x.2)):=by
 rw[jV];have:cH PG h (cellsIn r)=some (some x.2):=by
  show(kE h r).bind _=_;rw[hs];rfl
 rw[this];rfl
def to_unsafe{h:PH}{a:Nat}{c:Array Value}(ha:h a=some (.cells c dM (0,0)))(hc:0<c.size):cH PG h (convert dX iI (pT a 0))=some (pT a 0):=by
 have hs:kE h a=some (some (dM,c.size)):=by unfold kE;rw[ha]
 show cH PG h (underlying dX >>= _)=_;rw[kI dX.und];show cH PG h (underlying iI >>= _)=_;rw[kI iI.und];show cH PG h (underlying dX >>= _)=_;rw[kI dX.und];show cH PG h (underlying iI >>= _)=_;rw[kI iI.und];show cH PG h (Conv.seenAt ⟨a,0,none⟩ >>= _)=_;rw[semE_seenAt (a:=⟨a,0,none⟩) hs];show cH PG h (cellsIn a >>= _)=_;rw[semE_cellsIn hs];have h1:¬(0 ≥ c.size):=by omega
 simp only[kL];rw[aBP dM.info];simp[dM.size,h1,cH,pure]
def from_unsafe{h:PH}{a:Nat}{c:Array Value}(ha:h a=some (.cells c dM (0,0)))(hc:c.size=2):cH PG h (convert iI dX (pT a 0))=some (pT a 0):=by
 have hs:kE h a=some (some (dM,c.size)):=by unfold kE;rw[ha]
 rw[hc] at hs;show cH PG h (underlying iI >>= _)=_;rw[kI iI.und];show cH PG h (underlying dX >>= _)=_;rw[kI dX.und];show cH PG h (underlying iI >>= _)=_;rw[kI iI.und];show cH PG h (underlying dX >>= _)=_;rw[kI dX.und];show cH PG h (Conv.seenAt ⟨a,0,none⟩ >>= _)=_;rw[semE_seenAt (a:=⟨a,0,none⟩) hs];have hv:cH PG h (variablesAt ⟨a,0,none⟩ dM 1)=some true:=by
  show(kE h a).bind _=_;rw[hs]
  kernel_rfl
 simp only[kL];rw[aBP dM.info];simp only[dM.size];rw[jV,hv];simp[cH,pure]
def NoEscape_ok{h:PH}{v:Value}{k:cD}(hk:k v h):aT PG aAe #[v] h k:=
 aT.entry (v:=v) (by kernel_rfl) hk
structure BAt(h:PH)(a:Nat)(bs:List UInt8)(F:List Nat):Prop where
 here:∃p v G,h a=some (.cells #[p,v] dM (0,0))∧(p= .pointer none∨p=pT a 0)∧eN h dT 1 v (bs.map jN) G∧F=a::G∧a∉G
def BAt.upd{h h':PH}{a:Nat}{bs:List UInt8}{F G:List Nat}(H:BAt h a bs F)(u:cT G h h')(hd:∀b∈F,b∉G):BAt h' a bs F:=by
 obtain⟨p,v,G',ha,hp,hO,rfl,hn⟩:=H;exact⟨p,v,G',u.get ha (hd a (by simp)),hp,hO.upd u (λb hb=>hd b (by simp[hb])),rfl,hn⟩
def BAt.ext{h h':PH}{a:Nat}{bs:List UInt8}{F:List Nat}(H:BAt h a bs F)(u:dD h h'):BAt h' a bs F:=H.upd u (by simp)
def BNext(h:PH)(a:Nat)(F:List Nat)(bs:List UInt8)(k:PH->Prop):Prop:=∀h' F',BAt h' a bs F'->cT F h h'->(∀b∈F',b∈F∨h b=none)->k h'
def copyCheck_ok{h:PH}{a:Nat}{p v:Value}(ha:h a=some (.cells #[p,v] dM (0,0)))(hp:p= .pointer none∨p=pT a 0){k:cD}
  (hk:∀h',h' a=some (.cells #[pT a 0,v] dM (0,0))->cT [a] h h'->(∀b,b≠a->h' b=h b)->k (.tuple #[]) h'):aT PG mM #[pT a 0] h k:=by
 apply nP.call;unfold nP;have hc:dC h ⟨a,0,none⟩=some p:=by simp[dC,ha]
 simp only[dM.f0,dX.load,hc,cE,reduceIte];rcases hp with rfl|rfl
 ·simp only[aCu dX.und,Option.isNone_none,cE,reduceIte];refine cH.semH (to_unsafe ha (by simp)) ?_;refine NoEscape_ok ?_;refine cH.semH (from_unsafe ha (by simp)) ?_;refine iZ dX.und rfl ha (by simp) rfl dX.info dX.size ?_;exact hk _ dJ (cT.set (by simp)) (λb hb=>qI hb)
 ·simp only[aCu dX.und,Option.isNone_some,neqPtrSelf,dM.f0,dX.load,hc,cE,reduceIte];exact hk _ ha cT.refl (λ_ _=>rfl)
def byte_lit(x:Int):jU PG (buildSlice dF 1 #[(0,.int .u8 x)])=some (.cells #[.int .u8 x] dT,λr=>pure (.slice (some ⟨r,0,none⟩) 1 1)):=by kernel_rfl
def buf_app{h:PH}{a:Nat}{p v x:Value}{bs ys:List UInt8}{G:List Nat}{t2 e2:TypeId}(hu2:PG.underlying t2=some (.slice e2))(ha:h a=some (.cells #[p,v] dM (0,0)))(hp:p= .pointer none∨p=pT a 0)(hO:eN h dT 1 v (bs.map jN) G)(hn:a∉G)
  (hx:gF h 1 x (ys.map jN)) (hl:bs.length+ys.length≤140737488355328) {k:PH->Prop} (hk:BNext h a (a::G) (bs++ys) k):
  dA PG (Builtin.append_ #[dF,t2] dF #[v,x]) h λv' h'=>dA PG (dS dF (pT a 1) v') h' λ_ h''=>k h'':=by
 refine jK dF.und hu2 dT.info dT.size dT.bytes dT.zero rfl (by decide) hO hx (jN.isCell _) (by simp;omega) ?_;intro v2 h2 F2 hO2 u2 k2 _;rw[←qE] at hO2;have ha2:=u2.get ha hn;have hn2:a∉F2:=λhm=>by
  rcases k2 a hm with h1|h1
  ·exact hn h1
  ·rw[ha] at h1;cases h1
 refine iZ dF.und rfl ha2 (by simp) ?_ dF.info dF.size ?_
 ·obtain⟨_,_,rfl,-⟩:=hO2.slR.here;rfl
 ·refine hk _ (a::F2) ⟨p,v2,F2,dJ,hp,hO2.upd (cT.set (F:=[a]) (by simp)) (λb hb=>by simp;rintro rfl;exact hn2 hb),rfl,hn2⟩ ((u2.mono λb hb=>.inl (by simp[hb])).trans (cT.set (by simp))) (λb hb=>?_);rcases gU.1 hb with rfl|hb
  ·exact .inl (by simp)
  ·rcases k2 b hb with h1|h1
   ·exact .inl (by simp[h1])
   ·exact .inr h1
def WriteByte_ok{h:PH}{a:Nat}{bs:List UInt8}{F:List Nat}(hW:BAt h a bs F)(hl:bs.length+1≤140737488355328)(x:UInt8){k:cD}(hk:BNext h a F (bs++[x]) (k .nilIface)):
  aT PG mN #[pT a 0,.int .u8 x.toNat] h k:=by
 obtain⟨p,v,G,ha,hp,hO,rfl,hn⟩:=hW;apply nQ.call;unfold nQ;refine copyCheck_ok ha hp λh1 ha1 u1 o1=>?_;have hc:dC h1 ⟨a,1,none⟩=some v:=by simp[dC,ha1]
 have hO1:=hO.upd u1 (λb hb hf=>by simp at hf;subst hf;exact hn hb);simp only[dM.f1,dF.load,hc,byte_lit,cE,reduceIte];intro r hr;refine fT ?_;have u2:dD h1 (h1.set r (.cells #[.int .u8 x.toNat] dT)):=cT.new hr;have s2:gF (h1.set r (.cells #[.int .u8 x.toNat] dT)) 1 (.slice (some ⟨r,0,none⟩) 1 1) ([x].map jN):=(eN.lit (jN.rows [x]) dJ (by simp) (by decide) (by simp[jN])).slR;refine buf_app dF.und (u2.get ha1) (.inr rfl) (hO1.ext u2) hn s2 (by simpa using hl) ?_;intro h3 F3 hW3 u3 k3;refine hk _ F3 hW3 ((u1.mono λb hb=>.inl (by simp at hb;simp[hb])).trans (u2.upd.trans u3)) λb hb=>?_;rcases k3 b hb with h'|h'
 ·exact .inl h'
 ·by_cases hba:b=a
  ·exact .inl (by simp[hba])
  ·have:=u2.none h';rw[o1 b hba] at this;exact .inr this
def buf_str{h:PH}{a:Nat}{p v:Value}{bs ys:List UInt8}{G:List Nat}(ha:h a=some (.cells #[p,v] dM (0,0)))(hp:p= .pointer none∨p=pT a 0)(hO:eN h dT 1 v (bs.map jN) G)(hn:a∉G)
  (hl:bs.length+ys.length≤140737488355328) {k:PH->Prop} (hk:BNext h a (a::G) (bs++ys) k):
  dA PG (Builtin.append_ #[dF,bR] dF #[v,.string (tx ys)]) h λv' h'=>dA PG (dS dF (pT a 1) v') h' λ_ h''=>k h'':=by
 refine aN0 dF.und bR.und dT.info dT.size dT.bytes dT.zero rfl (by decide) hO (by simp;omega) ?_;intro v2 h2 F2 hO2 u2 k2 _;rw[←qE] at hO2;have ha2:=u2.get ha hn;have hn2:a∉F2:=λhm=>by
  rcases k2 a hm with h1|h1
  ·exact hn h1
  ·rw[ha] at h1;cases h1
 refine iZ dF.und rfl ha2 (by simp) ?_ dF.info dF.size ?_
 ·obtain⟨_,_,rfl,-⟩:=hO2.slR.here;rfl
 ·refine hk _ (a::F2) ⟨p,v2,F2,dJ,hp,hO2.upd (cT.set (F:=[a]) (by simp)) (λb hb=>by simp;rintro rfl;exact hn2 hb),rfl,hn2⟩ ((u2.mono λb hb=>.inl (by simp[hb])).trans (cT.set (by simp))) (λb hb=>?_);rcases gU.1 hb with rfl|hb
  ·exact .inl (by simp)
  ·rcases k2 b hb with h1|h1
   ·exact .inl (by simp[h1])
   ·exact .inr h1
def WriteString_ok{h:PH}{a:Nat}{bs ys:List UInt8}{F:List Nat}(hW:BAt h a bs F)(hl:bs.length+ys.length≤140737488355328){k:cD}(hk:BNext h a F (bs++ys) (k (.tuple #[.int .i64 ys.length,.nilIface]))):
  aT PG kY #[pT a 0,.string (tx ys)] h k:=by
 obtain⟨p,v,G,ha,hp,hO,rfl,hn⟩:=hW;apply kW.call;unfold kW;refine copyCheck_ok ha hp λh1 ha1 u1 o1=>?_;have hc:dC h1 ⟨a,1,none⟩=some v:=by simp[dC,ha1]
 have hO1:=hO.upd u1 (λb hb hf=>by simp at hf;subst hf;exact hn hb);simp only[dM.f1,dF.load,hc,bR.len,iC,cE,reduceIte];refine buf_str ha1 (.inr rfl) hO1 hn hl ?_;intro h3 F3 hW3 u3 k3;refine hk _ F3 hW3 ((u1.mono λb hb=>.inl (by simp at hb;simp[hb])).trans u3) λb hb=>?_;rcases k3 b hb with h'|h'
 ·exact .inl h'
 ·by_cases hba:b=a
  ·exact .inl (by simp[hba])
  ·rw[o1 b hba] at h';exact .inr h'
def semE_loadBytes{h:PH}:∀(l:List UInt8) (a:Addr) (acc:ByteArray),a.spot=none->(∀j x,l[j]? =some x->dC h (a.add j)=some (.int .u8 x.toNat))->cH PG h (loadBytes a acc l.length)=some ⟨acc.data++l.toArray⟩
 | [],a,acc,_,_=>by show some acc=_;simp
 | x::xs,a,acc,hsp,hc=>by
  have h0:=hc 0 x rfl;have ha0:a.add 0=a:=by obtain⟨b,o,w⟩:=a;cases w<;>simp[Addr.add]
  rw[ha0] at h0;show(dC h a).bind _=_;rw[h0,aDE];show cH PG h (loadBytes (a.add 1) (acc.push ((x.toNat:Int).toNat.toUInt8)) xs.length)=_;rw[semE_loadBytes xs (a.add 1) _ (by obtain⟨b,o,w⟩:=a;simp at hsp;subst hsp;rw[lL]) λj y hy=>?_]
  ·congr 1;apply ByteArray.ext;show(acc.push _).data++xs.toArray=_;rw[ByteArray.data_push];apply zLw;simp
  ·have:=hc (j+1) y (by simpa using hy);have e:(a.add 1).add j=a.add (j+1):=by
    obtain⟨b,o,w⟩:=a;simp at hsp;subst hsp;rw[lL,lL,lL];congr 1;omega
   rw[e];exact this
def unsafeStr{h:PH}{g:Nat}{cs:Array Value}{bs:List UInt8}(hb:h g=some (.cells cs dT (0,0)))(hle:bs.length≤cs.size)(hcs:cs.toList.take bs.length=bs.map λb=>Value.int .u8 b.toNat)(hne:bs≠[])(hmax:bs.length≤rC){k:cD}
  (hk:∀h',cT [g] h h'->k (.string (tx bs)) h'):dA PG (Builtin.unsafeString_ #[oR,bT] bR #[pT g 0,.int .i64 bs.length]) h k:=by
 have hl:bs.length≠0:=by simpa using hne
 have h63:¬((bs.length:Int)>IntKind.i64.max):=by
  have:IntKind.i64.max=9223372036854775807:=rfl;unfold rC at hmax;omega
 have hneg:¬(bs.length:Int)<0:=by omega
 have hz:¬(bs.length:Int)=0:=by omega
 have hdef:Builtin.unsafeString_ #[oR,bT] bR #[pT g 0,.int .i64 bs.length]=
   (do
    let n ←asInt (.int .i64 bs.length)
    if n<0 then runtimePanic (.error "unsafe.String: len out of range")
    if n>IntKind.i64.max then unsupported (.unsafePointer "String: a length above the largest int")
    if n=0 then pure (.string .empty)
    else if ←variablesAt ⟨g,0,none⟩ (←elemOf oR) n.toNat then do
     let s ←loadBytes ⟨g,0,none⟩ .empty n.toNat
     freeze ⟨g,0,none⟩ n.toNat
     pure (.string s)
    else unsupported (.unsafePointer "String: not so many bytes at ptr")):=rfl
 rw[hdef];have hs:kE h g=some (some (dT,cs.size)):=by unfold kE;rw[hb]
 have hv:cH PG h (variablesAt ⟨g,0,none⟩ dT bs.length)=some true:=by
  show(kE h g).bind _=_;rw[hs];have hc1:PG.cellsOf dT=1:=by kernel_rfl
  have:=Go.Lib.liesAt_bytes (P:=PG) hc1 (cs.size/PG.cellsOf dT) bs.length (by rw[hc1];simpa using hle);show some (liesAt PG PG.depth dT (cs.size/PG.cellsOf dT) 0 dT bs.length)=some true;rw[this]
 have hlb:=semE_loadBytes (h:=h) bs ⟨g,0,none⟩ .empty rfl (λj x hx=>by
  rw[lL];unfold dC;simp only[hb,fP];have hj:j<bs.length:=(zLA.1 hx).1;have:(cs.toList.take bs.length)[j]? =some (.int .u8 x.toNat):=by rw[hcs,vL,hx];rfl
  rw[aJH,if_pos hj] at this;simpa using this)
 have helem:cH PG h (elemOf oR)=some dT:=by kernel_rfl
 simp only[asInt,asIntOf,pure_bind,map_pure,hneg,h63,hz,if_false,qN];refine iB helem ?_;refine iB hv ?_;simp only[if_true];refine iB hlb ?_;show(∃o,h g=some o)∧_;refine⟨⟨_,hb⟩,?_⟩;have hfin:=hk (nD h ⟨g,0,none⟩ bs.length) (λb o hbo hn=>by
  unfold nD;rw[if_neg hl,if_neg (by simpa using hn)];exact hbo)
 show k (.string _) _;have e:(⟨ByteArray.empty.data++bs.toArray⟩:ByteArray)=tx bs:=by apply ByteArray.ext;simp[tx]
 rw[e];exact hfin
def unsafeNone{h:PH}{q:Option Addr}:cH PG h (Builtin.unsafeString_ #[oR,bT] bR #[.pointer q,.int .i64 0])=some (.string (tx [])):=by
 cases q<;>rfl
def String_ok{h:PH}{a:Nat}{bs:List UInt8}{F:List Nat}(hW:BAt h a bs F){k:cD}(hk:∀h',cT F h h'->k (.string (tx bs)) h'):
  aT PG kO #[pT a 0] h k:=by
 obtain⟨p,v,G,ha,hp,hO,rfl,hn⟩:=hW;have hc:dC h ⟨a,1,none⟩=some v:=by simp[dC,ha]
 have lv:=hO.slR.len (t':=bT) dF.und;rw[iY] at lv;apply kX.call;unfold kX;simp only[dM.f1,dF.load,hc,lv,cE,reduceIte];have hload:∀h',dC h' ⟨a,1,none⟩=some v->cH PG h' (loadAt dF (pT a 1))=some v:=λh' h1=>by rw[dF.load];exact h1
 rcases hO.here with⟨rfl,hr,rfl⟩|⟨g,cap,cs,rfl,rfl,hb,hle,hmax,hsz,htk⟩
 ·have hnil:bs=[]:=by simpa using hr
  subst hnil;refine cH.semH (a:=.pointer none) rfl ?_;refine⟨hc,?_⟩;refine cH.semH unsafeNone ?_;exact hk _ cT.refl
 ·simp only[iY] at *;by_cases hne:bs=[]
  ·subst hne;by_cases hc0:cap=0
   ·subst hc0;have hs:kE h g=some (some (dT,cs.size)):=by unfold kE;rw[hb]
    show dA PG (viewAt g >>= _) h _;refine iB (a:=none) (by rw[show viewAt g=(viewAt g >>= λx=>pure x) by simp,semE_viewAt hs];rfl) ?_;refine iB (a:=dT) (by kernel_rfl) ?_;intro r hr;have u:dD h (h.set r (.view ⟨g,0,none⟩ dT)):=cT.new hr;refine⟨by rw[dC];simp[u.get ha],?_⟩;refine cH.semH unsafeNone ?_;exact hk _ u.upd
   ·refine cH.semH (a:=pT g 0) ?_ ?_
    ·show cH PG h (if cap≠0 then _ else _)=_;rw[if_pos hc0];rfl
    ·refine⟨hc,?_⟩;refine cH.semH unsafeNone ?_;exact hk _ cT.refl
  ·have hpos:0<bs.length:=aHW.2 hne;refine cH.semH (a:=pT g 0) ?_ ?_
   ·show cH PG h (if cap≠0 then _ else _)=_;rw[if_pos (by omega)];rfl
   ·refine⟨hc,?_⟩;rw[Nat.mul_one,jN.flat] at htk;refine unsafeStr hb (by omega) htk hne (by omega) λh' u=>?_;exact hk _ (u.mono λb hb=>.inl (by simp at hb;simp[hb]))
end Bld
end
section
open Go
section
variable{P:Program}{t e:TypeId}
def aMX{α:Type}{d:TypeInfo}(hi:P.info? t=some d)(f:TypeInfo->Sem α):jU P (typeInfo t >>= f)=jU P (f d):=by
 show jU P ((match P.info? t with|some d=>pure d|none=>stuck _:Sem TypeInfo).bind f)=_;rw[hi];rfl
def aQa{α:Type}{n:Nat}(f:Unit->Sem α):jU P (askRoom n >>= f)=jU P (f ()):=by
 unfold askRoom;split<;>rfl
def aSr(z:Array Value)(hz:0<z.size):∀n:Nat,((Array.range (n*z.size)).map (z[· % z.size]!)).toList=(List.replicate n z.toList).flatten:=by
 intro n;have hr:Rows z.size (List.replicate n z.toList):=λr hr=>by rw[List.eq_of_mem_replicate hr];simp
 apply List.ext_getElem?;intro j;have hfl:(List.replicate n z.toList).flatten.length=n*z.size:=by rw[hr.flat,aLG]
 by_cases hj:j<n*z.size
 ·have hi:j/z.size<n:=(Nat.div_lt_iff_lt_mul hz).2 hj;have hat:=hr.at (i:=j/z.size) (r:=z.toList) (by rw[List.getElem?_replicate,if_pos hi]);have hc:j%z.size<z.size:=zLB _ hz;have e1:(List.replicate n z.toList).flatten[j]? =z.toList[j%z.size]?:=by
   conv=>rhs;rw[←hat]
   rw[aJH,if_pos hc,aNr];congr 1;rw[zLT];exact(Nat.div_add_mod j z.size).symm
  rw[e1];simp[hj,hc]
 ·rw[List.getElem?_eq_none (by simp;omega),List.getElem?_eq_none (by omega)]
def aCZ{i:TypeInfo}{z:Value}{size bytes n:Nat}(hu:P.underlying t=some (.slice e))(hi:P.info? e=some i)(hn:i.size=size)(hb:i.bytes=bytes)(hz:i.zero=some z)(hzs:z.cells.size=size)(h0:0<size)
  (hle:bytes*n≤281474976710656) (hnn:n≤1000000000):
  ∃zs,jU P (Instr.makeSlice t (.int .i64 n) (.int .i64 n))=some (.cells zs e (0,0),λr=>pure (.slice (some ⟨r,0,none⟩) n n))∧zs.toList=(List.replicate n z.cells.toList).flatten:=by
 refine⟨(Array.range (n*z.cells.size)).map (z.cells[· % z.cells.size]!),?_,aSr _ (by omega) n⟩;have hw:IntKind.i64.wrap (n:Int)=n:=IntWalk.i64_in _ ⟨by omega,by omega⟩;unfold Instr.makeSlice;rw[aVh hu];dsimp only;show jU P (typeInfo e >>= _)=_;rw[aMX hi,hb];have hc1:((bytes:Int)*(n:Int)>2^48)=False:=by
  apply eq_false;have:((bytes*n:Nat):Int)≤((281474976710656:Nat):Int):=Int.ofNat_le.2 hle;rw[Int.natCast_mul] at this;have h2:(2:Int)^48=((281474976710656:Nat):Int):=by rfl
  omega
 have hc2:((n:Int)<0)=False:=by apply eq_false;omega
 have hc3:((n:Int)>(n:Int))=False:=by apply eq_false;omega
 simp only[hw,hc1,hc2,hc3,decide_false,Bool.or_self,zLu,if_false,or_self];rw[aQa,kL,aMX hi,hn];simp only[qN];by_cases hn0:n=0
 ·subst hn0;have hr:∀f:Nat->Value,(Array.range 0).map f= #[]:=λf=>by simp
  simp only[Nat.zero_mul,if_true,hr];rfl
 ·have hne:(n*size=0)=False:=by apply eq_false;intro h;rcases Nat.mul_eq_zero.1 h with h|h<;>omega
  simp only[hne,if_false];have hzv:∀(f:Value->Sem Value),jU P (zeroValue e >>= f)=jU P (f z):=λf=>by
   unfold zeroValue;show jU P ((typeInfo e >>= _) >>= f)=_;simp only[bind_assoc];rw[aMX hi,hz];rfl
  rw[hzv,←hzs];rfl
end
end
section
open Go Bld
def aP1{h:PH}{l:List UInt8}:cH PG h (Builtin.firstCells 1 l.length (.string (tx l)))=some (l.map λb=>Value.int .u8 b.toNat).toArray:=by
 show some (((tx l).extract 0 l.length).data.map λb=>Value.int .u8 b.toNat)=_;congr 1;apply zLw;rw[ByteArray.data_extract];simp[tx,zLx]
def aVj{h:PH}{r:Nat}{c:Array Value}{l:List UInt8}(hb:h r=some (.cells c dT (0,0)))(hc:c.size=l.length)(hl:l≠[]){k:cD}
  (hk:k (.int .i64 l.length) (h.set r (.cells (l.map λb=>Value.int .u8 b.toNat).toArray dT (0,0)))):
  dA PG (Builtin.copy_ #[dF,bR] bT #[.slice (some ⟨r,0,none⟩) l.length l.length,.string (tx l)]) h k:=by
 have hmin:Nat.min l.length l.length=l.length:=Nat.min_self _;simp only[Builtin.copy_,zLK,pO,rZ,pN dF.und,kL,mK dT.info,pure_bind,Builtin.lenOf,dT.size,iC,hmin];refine iB (s:=Builtin.firstCells 1 l.length (.string (tx l))) aP1 ?_;refine dA.bind (P:=PG) (s:=storeCells _ _) ?_;refine rJ (b:=r) (o:=0) (l.map λb=>Value.int .u8 b.toNat) 0 h c hb (by simp[hc]) (λv hv=>by obtain⟨b,-,rfl⟩:=mE.1 hv;rfl) ?_;rw[if_neg (by simpa using hl),aOV (by simp[hc])];exact hk
def aRj{h:PH}{l:List UInt8}(hl:l.length≤1000000000){k:cD}(hk:∀h',dD h h'->k (.string (tx l)) h'):aT PG aF9 #[.string (tx l)] h k:=by
 apply aF7.call;unfold aF7;apply sH.call;unfold sH;simp only[bR.len,iC,iD,cE,reduceIte];by_cases h0:l=[]
 ·subst h0;simp only[zLN,show(((0:Nat):Int)==0)=true from rfl,cE,reduceIte];exact hk _ cT.refl
 ·have hpos:l.length≠0:=by simpa using h0
  have e0:(((l.length:Nat):Int)==0)=false:=by simpa using h0
  obtain⟨zs',hm,hz⟩:=aCZ (P:=PG) (n:=l.length) dF.und dT.info dT.size dT.bytes dT.zero rfl (by decide) (by omega) hl;have hsz:zs'.size=l.length:=by
   rw[←Array.length_toList,hz];simp[Value.cells]
  simp only[e0,hm,cE,reduceIte];intro r hr;refine fT ?_
  try rw[cW]
  have u1:dD h (h.set r (.cells zs' dT (0,0))):=cT.new hr;have a1:(h.set r (.cells zs' dT (0,0))) r=some (.cells zs' dT (0,0)):=dJ;generalize h.set r (.cells zs' dT (0,0))=h1 at *;refine aVj a1 hsz h0 ?_;have u2:dD h (h1.set r (.cells (l.map λb=>Value.int .u8 b.toNat).toArray dT (0,0))):=u1.fresh (cT.set (F:=[r]) (by simp)) (eM.one hr);have a2:(h1.set r (.cells (l.map λb=>Value.int .u8 b.toNat).toArray dT (0,0))) r=some (.cells (l.map λb=>Value.int .u8 b.toNat).toArray dT (0,0)):=dJ;generalize h1.set r (.cells (l.map λb=>Value.int .u8 b.toNat).toArray dT (0,0))=h2 at *;have ea:dH PG (indexAt dF (.slice (some ⟨r,0,none⟩) l.length l.length) (.int .i64 0))=some (pT r 0):=by
   have:=aIc (P:=PG) (t:=dF) (b:=r) (o:=0) (len:=l.length) (cap:=l.length) (k:=.i64) (j:=0) dF.und dT.info dT.size (by decide) (by omega);simpa using this
  simp only[ea,dF.len,cE,reduceIte];refine unsafeStr a2 (by simp) (by rw[List.toList_toArray];exact mS (by simp)) h0 (by unfold rC;omega) λh' u=>?_;exact hk _ (u2.fresh u (eM.one hr))
def HAt(h:PH)(a:Nat)(s:S8)(r:List UInt8)(n:Nat):Prop:=h a=some (.cells (jT s (.string (tx r)) (.int .i64 n)) fI (0,0))
def aOz(a:Nat):List Value->PH->Nat:=λ_ h=>match h a with
 | some (Obj.cells c _ _)=>match c[8]? with
  | some (Value.string t)=>t.size
  | _=>0
 | _=>0
def HAt.len{h:PH}{a:Nat}{s:S8}{r:List UInt8}{n:Nat}(H:HAt h a s r n){vs:List Value}:aOz a vs h=r.length:=by
 unfold HAt at H;simp[aOz,H,jT,iC]
def oM.ne{h:PH}(H:oM h){a:Nat}{s:S8}{x y:Value}{t:TypeId}(ha:h a=some (.cells (jT s x y) t (0,0))):a≠0:=by
 rintro rfl;obtain⟨t,fr,hb⟩:=H;rw[hb] at ha;have:=congrArg Array.size (Obj.cells.inj (aLT ha)).1;rw[List.size_toArray,iY,aKT] at this;simp[jT] at this
def oM.upd{h h':PH}(H:oM h){F:List Nat}(u:cT F h h')(hF:0∉F):oM h':=by
 obtain⟨t,fr,hb⟩:=H;exact⟨t,fr,u.get hb hF⟩
def bAJ{s:S8}{x y v:Value}:(jT s x y).setIfInBounds 9 v=jT s x v:=rfl
def aYq{s:S8}{x y v:Value}:(jT s x y).setIfInBounds 8 v=jT s v y:=rfl
def aQy{h:PH}{a:Nat}{s:S8}{r p:List UInt8}{n:Nat}(hK:oM h)(ha:HAt h a s r n)(hl:r.length+p.length≤1000000000)(hn:n+p.length≤1000000000000){k:cD}
  (hk:∀h',cT [a] h h'->HAt h' a (qD s (r++p)).1 (qD s (r++p)).2 (n+p.length)->k (.tuple #[]) h'):aT PG aCF #[pT a 0,.string (tx p)] h k:=by
 apply aAS.call;unfold aAS;have hne:=hK.ne ha;have c9:dC h ⟨a,0+9,none⟩=some (.int .i64 n):=by unfold HAt at ha;simp[dC,ha,jT]
 have e1:IntKind.i64.wrap ((n:Int)+(p.length:Int))=((n+p.length:Nat):Int):=by rw[fE (by omega) (by omega)];omega
 simp only[fI.f2,bT.load,c9,bR.len,iC,e1,cE,reduceIte];refine iZ bT.und rfl ha (by simp[jT]) rfl bT.info bT.size ?_;rw[show 0+9=9 from rfl,bAJ];have u1:cT [a] h (h.set a (.cells (jT s (.string (tx r)) (.int .i64 ((n+p.length:Nat):Int))) fI (0,0))):=cT.set (by simp);have a1:HAt (h.set a (.cells (jT s (.string (tx r)) (.int .i64 ((n+p.length:Nat):Int))) fI (0,0))) a s r (n+p.length):=dJ;generalize h.set a (.cells (jT s (.string (tx r)) (.int .i64 ((n+p.length:Nat):Int))) fI (0,0))=h1 at *;have c8:dC h1 ⟨a,0+8,none⟩=some (.string (tx r)):=by unfold HAt at a1;simp[dC,a1,jT]
 simp only[fI.f1,bR.load,c8,mA (show r.length+p.length≤9223372036854775807 by omega),cE,reduceIte];refine aRj (by simpa using hl) λh2 u2=>?_;have a2:HAt h2 a s r (n+p.length):=u2.get a1;refine iZ bR.und rfl a2 (by simp[jT]) rfl bR.info bR.size ?_;rw[show 0+8=8 from rfl,aYq];have u3:cT [a] h (h2.set a (.cells (jT s (.string (tx (r++p))) (.int .i64 ((n+p.length:Nat):Int))) fI (0,0))):=(u1.trans u2.upd).trans (cT.set (by simp));have a3:HAt (h2.set a (.cells (jT s (.string (tx (r++p))) (.int .i64 ((n+p.length:Nat):Int))) fI (0,0))) a s (r++p) (n+p.length):=dJ;generalize h2.set a (.cells (jT s (.string (tx (r++p))) (.int .i64 ((n+p.length:Nat):Int))) fI (0,0))=h3 at *;generalize n+p.length=m at *;have hrl:(r++p).length≤1000000000:=by simpa using hl
 generalize hrp:r++p=q at *;refine⟨λvs h'=>∃s' r',vs=[pT a 0]∧r'.length≤1000000000∧qD s' r'=qD s q∧cT [a] h h'∧HAt h' a s' r' m,aOz a,⟨s,q,rfl,hrl,rfl,u3,a3⟩,?_⟩;rintro ρ h' ⟨s',r',hvs,hr',hab,u',a'⟩;simp only[iG,iX,lN,and_true] at hvs;have hlen:=a'.len (vs:=[ρ 0]);simp only[hvs,iG,iX] at hlen ⊢;unfold aHz;have c8:dC h' ⟨a,0+8,none⟩=some (.string (tx r')):=by unfold HAt at a';simp[dC,a',jT]
 simp only[fI.f1,bR.load,c8,bR.len,iC,cE,reduceIte];by_cases h64:64≤r'.length
 ·have e2:((64:Int)≤(r'.length:Int))=True:=eq_true (by omega);have ec:dH PG (Instr.sliceAt bR (.string (tx r')) none (some (.int .i64 64)) none)=some (.string (tx (r'.take 64))):=aIJ (i:=0) (j:=64) bR.und (.inl ⟨rfl,rfl⟩) (.inr ⟨_,rfl⟩) (by omega) h64;have ed:dH PG (Instr.sliceAt bR (.string (tx r')) (some (.int .i64 64)) none none)=some (.string (tx (r'.drop 64))):=by
   have:=aIJ (P:=PG) (t:=bR) (l:=r') (i:=64) (j:=r'.length) (lo:=some (.int .i64 64)) bR.und (.inr ⟨_,rfl⟩) (.inl ⟨rfl,rfl⟩) h64 (oF _);rw[zLJ] at this;exact this
  simp only[e2,fI.f0,ec,cE,reduceIte];refine aYj (hK.upd u' (by simpa using λh=>hne h.symm)) (by simp;omega) a' λh4 u4 a4=>?_;have c8':dC h4 ⟨a,0+8,none⟩=some (.string (tx r')):=by simp[dC,a4,jT]
  simp only[fI.f1,bR.load,c8',ed,cE,reduceIte];refine iZ bR.und rfl a4 (by simp[jT]) rfl bR.info bR.size ?_;rw[show 0+8=8 from rfl,aYq];have a5:HAt (h4.set a (.cells (jT (aKR s' (r'.take 64)) (.string (tx (r'.drop 64))) (.int .i64 (m:Int))) fI (0,0))) a (aKR s' (r'.take 64)) (r'.drop 64) m:=dJ;refine⟨⟨_,_,(by trivial),(by simp;omega),by rw[←aH1 h64];exact hab,(u'.trans u4).trans (cT.set (by simp)),a5⟩,?_⟩;rw[a5.len,hlen];simp;omega
 ·have e2:((64:Int)≤(r'.length:Int))=False:=eq_false (by omega);simp only[e2,cE,reduceIte];refine hk _ u' ?_;rw[←hab,aIK (by omega)];exact a'
def aNA:∀(n t:Nat) (acc:Array Value),(Extern.BytealgMakeNoZero.digits n t acc).size=acc.size+n
 | 0,_,acc=>rfl
 | n+1,t,acc=>by
  show(Extern.BytealgMakeNoZero.digits n (t/256) (acc.push _)).size=_;rw[aNA n];simp;omega
def aRa{n:Int}{h:PH}{Q:Next->PH->Prop}:dA PG (callFunc uU #[.int .i64 n]) h Q=dA PG (Extern.BytealgMakeNoZero.makeNoZero #[] #[dF] #[.int .i64 n] >>= λv=>pure (Next.value v)) h Q:=by kernel_rfl
def aP8{h:PH}{n:Nat}(hn:n≤140737488355328){k:cD}
  (hk:∀r cap (cs:Array Value),n≤cap->cap≤rC->cs.size=cap->h r=none->k (.slice (some ⟨r,0,none⟩) n cap) (h.set r (.cells cs dT (0,0)))):aT PG uU #[.int .i64 n] h k:=by
 refine .inr ?_;rw[aRa];refine dA.bind (P:=PG) (s:=Extern.BytealgMakeNoZero.makeNoZero #[] #[dF] #[.int .i64 n]) ?_;have h1:((decide ((n:Int)<0)||decide ((n:Int)>2^48))=true)=False:=by
  apply eq_false;have:¬((n:Int)>2^48):=by
   have h2:(2:Int)^48=281474976710656:=by rfl
   omega
  have h3:¬((n:Int)<0):=by omega
  simp[h3];omega
 show dA PG (underlying dF >>= _) h _;rw[pN dF.und];dsimp only;simp only[h1,if_false,pure_bind,qN];rw[aAM];intro tt;rw[aGy,aAM];intro bb;have hforced:(Question.appendCap n 0 5).forced=false:=rfl;rw[hforced];have hcut:n≤(Question.appendCap n 0 5).cut tt∧(Question.appendCap n 0 5).cut tt≤rC:=by
  have hpos:0<2^63-n:=by omega
  have:=zLB tt hpos;simp only[Question.cut,rC];omega
 generalize (if (Question.extern "internal/bytealg.MakeNoZero.bytes" 0).forced=true then 0 else(Question.extern "internal/bytealg.MakeNoZero.bytes" 0).cut bb)=B;show dA PG (newRow 5 _ >>= _) h _;intro r hr;exact⟨_,rfl,hk r _ _ hcut.1 hcut.2 (by rw[aNA];exact fP _) hr⟩
def zB:dR PG dM= #[.pointer none,.slice none 0 0]:=by rw[dM.zc];rfl
def BAt.zero{h:PH}{a:Nat}(ha:h a=some (.cells #[.pointer none,.slice none 0 0] dM (0,0))):BAt h a [] [a]:=⟨_,_,[],ha,.inl rfl,eN.nil,rfl,by simp⟩
def aSO:dH PG (Builtin.cap_ #[dF] bT #[.slice none 0 0])=some (.int .i64 0):=by kernel_rfl
def aZn{r cap:Nat}{n:Nat}:dH PG (Instr.sliceAt dF (.slice (some ⟨r,0,none⟩) n cap) none (some (.int .i64 ((0:Nat):Int))) none)=some (.slice (some ⟨r,0,none⟩) 0 cap):=by
 have:=aIr (P:=PG) (t:=dF) (a:=some ⟨r,0,none⟩) (len:=n) (cap:=cap) (l:=0) (hh:=0) (lo:=none) (hi:=some (.int .i64 ((0:Nat):Int))) dF.und dT.info (.inl ⟨rfl,rfl⟩) (.inr ⟨_,rfl⟩) (by omega) (by omega);rw[this];by_cases hc:cap=0
 ·subst hc;simp
 ·rw[if_neg hc];simp[lL]
structure FB(h:PH)(a g cap:Nat)(bs:List UInt8):Prop where
 here:∃(cs:Array Value) (f:Nat),h a=some (.cells #[pT a 0,.slice (some ⟨g,0,none⟩) bs.length cap] dM (0,0))∧h g=some (.cells cs dT (0,f))∧f≤bs.length∧bs.length≤cap∧cs.size=cap∧cs.toList.take bs.length=(bs.map λb=>Value.int .u8 b.toNat)∧g≠a∧cap≤rC
def aOx(r n:Nat):List Value->PH->Nat:=λ_ h=>match h r with
 | some (Obj.cells c _ _)=>match c[1]? with
  | some (Value.slice _ m _)=>n-m
  | _=>0
 | _=>0
def FB.mu{h:PH}{a g cap:Nat}{bs:List UInt8}(H:FB h a g cap bs){n:Nat}{vs:List Value}:aOx a n vs h=n-bs.length:=by
 obtain⟨cs,f,ha,-⟩:=H;simp[aOx,ha]
def aXZ{h:PH}{a n:Nat}(ha:h a=some (.cells #[.pointer none,.slice none 0 0] dM (0,0)))(hn:0<n)(hn2:n≤1000000){k:cD}
  (hk:∀h' g cap,FB h' a g cap []->n≤cap->cT [a] h h'->h g=none->k (.tuple #[]) h'):aT PG aA9 #[pT a 0,.int .i64 n] h k:=by
 apply qV.call;unfold qV;refine copyCheck_ok ha (.inl rfl) λh1 a1 u1 o1=>?_;have e1:((n:Int)<0)=False:=eq_false (by omega);have c1:dC h1 ⟨a,0+1,none⟩=some (.slice none 0 0):=by simp[dC,a1]
 have e2:IntKind.i64.wrap ((0:Int)-((0:Nat):Int))=0:=by rw[fE (by omega) (by omega)];omega
 have e3:((0:Int)<(n:Int))=True:=eq_true (by omega);simp only[e1,cE,reduceIte];unfold aFJ;simp only[dM.f1,dF.load,c1,aSO,dF.len,e2,e3,cE,reduceIte];apply qR.call;unfold qR;have e4:IntKind.i64.wrap (2*(0:Int))=0:=by rw[fE (by omega) (by omega)];omega
 have e5:IntKind.i64.wrap ((0:Int)+(n:Int))=(n:Int):=by rw[fE (by omega) (by omega)];omega
 simp only[dM.f1,dF.load,c1,aSO,dF.len,e4,e5,cE,reduceIte];refine aP8 (by omega) λr cap cs h2 h3 hsz hr=>?_;have u2:dD h1 (h1.set r (.cells cs dT (0,0))):=cT.new hr;have b2:(h1.set r (.cells cs dT (0,0))) r=some (.cells cs dT (0,0)):=dJ;generalize h1.set r (.cells cs dT (0,0))=h2' at *;have a2:=u2.get a1;have c1':dC h2' ⟨a,0+1,none⟩=some (.slice none 0 0):=by simp[dC,a2]
 have hne:r≠a:=λe=>by subst e;rw[a1] at hr;cases hr
 refine⟨c1',?_⟩;simp only[dM.f1,dF.load,c1',aZn,cE,reduceIte];have hcp:cH PG h2' (Builtin.copy_ #[dF,dF] bT #[.slice (some ⟨r,0,none⟩) 0 cap,.slice none 0 0])=some (.int .i64 0):=by kernel_rfl
 refine cH.semH hcp ?_;refine iZ dF.und rfl a2 (by simp) rfl dF.info dF.size ?_;refine hk _ r cap ⟨cs,0,dJ,by rw[qI hne];exact b2,by simp,by simp,by omega,by simp,hne,h3⟩ h2 ((u1.trans u2.upd).trans (cT.set (by simp))) ?_;rw[←o1 r hne];exact hr
def aVS:dH PG (binOp .and cA (.int .u64 0) (.int .u64 4294967295))=some (.int .u64 0):=by kernel_rfl
def aXl:dH PG (binOp .and cA (.int .u64 1) (.int .u64 4294967295))=some (.int .u64 1):=by kernel_rfl
def aZk:∀n:Fin 64,(BitVec.ofInt 64 (n.val:Int) &&& BitVec.ofInt 64 4294967295).toNat=n.val:=by decide
def aYF{n:Nat}(hn:n<64):dH PG (binOp .and cA (.int .u64 (n:Int)) (.int .u64 4294967295))=some (.int .u64 (n:Int)):=by
 have e:dH PG (binOp .and cA (.int .u64 (n:Int)) (.int .u64 4294967295))=some (.int .u64 (IntKind.u64.wrap ((BitVec.ofInt 64 (n:Int) &&& BitVec.ofInt 64 4294967295).toNat:Int))):=rfl;have:=aZk ⟨n,hn⟩;simp only at this;rw[e,this,gO (by omega) (by omega)]
def aTM{n:Nat}(hn:n<64):dH PG (binOp .shr cA (.int .u64 (n:Int)) (.int .u64 32))=some (.int .u64 0):=by
 rw[aJR (by decide)];congr 2;show(n:Int).fdiv (2^32)=0;rw[Int.fdiv_eq_ediv_of_nonneg _ (by decide)];have:(2:Int)^32=4294967296:=by rfl
 omega
def aYM:dH PG (binOp .shr cA (.int .u64 0) (.int .u64 32))=some (.int .u64 0):=aTM (n:=0) (by decide)
def aYH:dH PG (binOp .shr cA (.int .u64 1) (.int .u64 32))=some (.int .u64 0):=aTM (n:=1) (by decide)
def aYJ{h:PH}{n:Nat}(hn:n<64){k:cD}(hk:k (.tuple #[.int .u64 0,.int .u64 n]) h):aT PG aGD #[.int .u64 1,.int .u64 n] h k:=by
 apply aF3.call;unfold aF3;simp only[cE,reduceIte];apply aEB.call;unfold aEB;have w0:IntKind.u64.wrap 0=0:=rfl;have wn:IntKind.u64.wrap (n:Int)=n:=gO (by omega) (by omega);simp only[aXl,aYH,aYF hn,aTM hn,Int.one_mul,Int.zero_mul,Int.mul_zero,wn,w0,Int.add_zero,aVS,aYM,cE,reduceIte];exact hk
def aJj{b o f:Nat}{e:TypeId}{Q:Unit->PH->Prop}:∀(vs:List Value) (i:Nat) (h:PH) (c:Array Value),h b=some (.cells c e (0,f))->f≤o+i->o+i+vs.length≤c.size->(∀v∈vs,fW v=true)->
  Q () (if vs=[] then h else h.set b (.cells (uX c (o+i) vs) e (0,f)))->dA PG (storeCells ⟨b,o,none⟩ vs i) h Q
 | [],i,h,c,_,_,_,_,hq=>by
  show Q () h;simpa using hq
 | v::vs,i,h,c,hb,hf,hle,hv,hq=>by
  simp only[pY] at hle;have hlt:o+i<c.size:=by omega
  have ha:(⟨b,o,none⟩:Addr).add i=⟨b,o+i,none⟩:=lL ..;show fW v=true∧vB h ((⟨b,o,none⟩:Addr).add i)=false∧(∃u,dC h ((⟨b,o,none⟩:Addr).add i)=some u)∧dA PG (storeCells ⟨b,o,none⟩ vs (i+1)) (sN h ((⟨b,o,none⟩:Addr).add i) v) Q;rw[ha];refine⟨hv v (by simp),by simp[vB,hb];omega,⟨c[o+i],by simp[dC,hb,hlt]⟩,?_⟩;have hset:sN h ⟨b,o+i,none⟩ v=h.set b (.cells (c.setIfInBounds (o+i) v) e (0,f)):=by
   funext x;unfold sN PH.set;by_cases hx:x=b
   ·subst hx;simp[hb]
   ·simp[hx]
  rw[hset];refine aJj vs (i+1) _ _ dJ (by omega) (by simp;omega) (λu hu=>hv u (by simp[hu])) ?_;have h2:∀o1 o2:Obj,(h.set b o1).set b o2=h.set b o2:=λo1 o2=>by funext x;unfold PH.set;split<;>rfl
  simp only[List.cons_ne_nil,if_false] at hq;split
  ·rename_i hvs;subst hvs;simpa[uX] using hq
  ·rw[h2];simpa[uX,Nat.add_assoc] using hq
def aSp{h:PH}{g:Nat}{cs:Array Value}{fr:Nat×Nat}{bs:List UInt8}(hb:h g=some (.cells cs dT fr))(hle:bs.length≤cs.size)(hcs:cs.toList.take bs.length=bs.map λb=>Value.int .u8 b.toNat)(hne:bs≠[])(hmax:bs.length≤rC){k:cD}
  (hk:k (.string (tx bs)) (nD h ⟨g,0,none⟩ bs.length)):dA PG (Builtin.unsafeString_ #[oR,bT] bR #[pT g 0,.int .i64 bs.length]) h k:=by
 have hl:bs.length≠0:=by simpa using hne
 have h63:¬((bs.length:Int)>IntKind.i64.max):=by
  have:IntKind.i64.max=9223372036854775807:=rfl;unfold rC at hmax;omega
 have hneg:¬(bs.length:Int)<0:=by omega
 have hz:¬(bs.length:Int)=0:=by omega
 have hdef:Builtin.unsafeString_ #[oR,bT] bR #[pT g 0,.int .i64 bs.length]=
   (do
    let n ←asInt (.int .i64 bs.length)
    if n<0 then runtimePanic (.error "unsafe.String: len out of range")
    if n>IntKind.i64.max then unsupported (.unsafePointer "String: a length above the largest int")
    if n=0 then pure (.string .empty)
    else if ←variablesAt ⟨g,0,none⟩ (←elemOf oR) n.toNat then do
     let s ←loadBytes ⟨g,0,none⟩ .empty n.toNat
     freeze ⟨g,0,none⟩ n.toNat
     pure (.string s)
    else unsupported (.unsafePointer "String: not so many bytes at ptr")):=rfl
 rw[hdef];have hs:kE h g=some (some (dT,cs.size)):=by unfold kE;rw[hb]
 have hv:cH PG h (variablesAt ⟨g,0,none⟩ dT bs.length)=some true:=by
  show(kE h g).bind _=_;rw[hs];have hc1:PG.cellsOf dT=1:=by kernel_rfl
  have:=Go.Lib.liesAt_bytes (P:=PG) hc1 (cs.size/PG.cellsOf dT) bs.length (by rw[hc1];simpa using hle);show some (liesAt PG PG.depth dT (cs.size/PG.cellsOf dT) 0 dT bs.length)=some true;rw[this]
 have hlb:=semE_loadBytes (h:=h) bs ⟨g,0,none⟩ .empty rfl (λj x hx=>by
  rw[lL];unfold dC;simp only[hb,fP];have hj:j<bs.length:=(zLA.1 hx).1;have:(cs.toList.take bs.length)[j]? =some (.int .u8 x.toNat):=by rw[hcs,vL,hx];rfl
  rw[aJH,if_pos hj] at this;simpa using this)
 have helem:cH PG h (elemOf oR)=some dT:=by kernel_rfl
 simp only[asInt,asIntOf,pure_bind,map_pure,hneg,h63,hz,if_false,qN];refine iB helem ?_;refine iB hv ?_;simp only[if_true];refine iB hlb ?_;show(∃o,h g=some o)∧_;refine⟨⟨_,hb⟩,?_⟩;show k (.string _) _;have e:(⟨ByteArray.empty.data++bs.toArray⟩:ByteArray)=tx bs:=by apply ByteArray.ext;simp[tx]
 rw[e];exact hk
def FB.len{h:PH}{a g cap:Nat}{bs:List UInt8}(H:FB h a g cap bs){k:cD}(hk:k (.int .i64 bs.length) h):aT PG rW #[pT a 0] h k:=by
 obtain⟨cs,f,ha,-⟩:=H;apply aAh.call;unfold aAh;have c1:dC h ⟨a,0+1,none⟩=some (.slice (some ⟨g,0,none⟩) bs.length cap):=by simp[dC,ha]
 simp only[dM.f1,dF.load,c1,dF.len,cE,reduceIte];exact hk
def FB.string{h:PH}{a g cap:Nat}{bs:List UInt8}(H:FB h a g cap bs)(hne:bs≠[]){k:cD}(hk:∀h',FB h' a g cap bs->cT [g] h h'->k (.string (tx bs)) h'):aT PG kO #[pT a 0] h k:=by
 obtain⟨cs,f,ha,hg,hf,hc,hsz,htk,hga,hmx⟩:=H;have hpos:bs.length≠0:=by simpa using hne
 apply kX.call;unfold kX;have c1:dC h ⟨a,0+1,none⟩=some (.slice (some ⟨g,0,none⟩) bs.length cap):=by simp[dC,ha]
 simp only[dM.f1,dF.load,c1,dF.len,cE,reduceIte];refine cH.semH (a:=pT g 0) ?_ ?_
 ·show cH PG h (if cap≠0 then _ else _)=_;rw[if_pos (by omega)];rfl
 ·refine⟨c1,?_⟩;refine aSp hg (by omega) htk hne (by omega) ?_;have hg':nD h ⟨g,0,none⟩ bs.length g=some (.cells cs dT (0,bs.length)):=by
   unfold nD;rw[if_neg hpos,if_pos rfl];simp only[hg];by_cases h0:f=0
   ·subst h0;simp
   ·have:((0==f)=true)=False:=by simp;omega
    simp only[this,if_false];congr 3
    ·exact Nat.max_eq_right (by omega) |>.trans (fP _)
  have hoth:∀b,b≠g->nD h ⟨g,0,none⟩ bs.length b=h b:=λb hb=>by
   unfold nD;rw[if_neg hpos,if_neg hb]
  exact hk _ ⟨cs,bs.length,by rw[hoth a hga.symm];exact ha,hg',oF _,hc,hsz,htk,hga,hmx⟩ (λb o hb hn=>by rw[hoth b (by simpa using hn)];exact hb)
def FB.write{h:PH}{a g cap:Nat}{bs ys:List UInt8}(H:FB h a g cap bs)(hle:bs.length+ys.length≤cap)(hcap:bs.length+ys.length≤1000000){k:cD}(hk:∀v h',FB h' a g cap (bs++ys)->cT [a,g] h h'->k v h'):
  aT PG kY #[pT a 0,.string (tx ys)] h k:=by
 obtain⟨cs,f,ha,hg,hf,hc,hsz,htk,hga,hmx⟩:=H;apply kW.call;unfold kW;refine copyCheck_ok ha (.inr rfl) λh1 a1 u1 o1=>?_;have g1:h1 g=some (.cells cs dT (0,f)):=by rw[o1 g hga];exact hg
 have c1:dC h1 ⟨a,0+1,none⟩=some (.slice (some ⟨g,0,none⟩) bs.length cap):=by simp[dC,a1]
 simp only[dM.f1,dF.load,c1,bR.len,iC,cE,reduceIte]
 -- the append
 simp only[Builtin.append_,zLK,pO,rZ,pN dF.und,pN bR.und,kL,mK dT.info,pure_bind,zLu,if_false,Builtin.lenOf,zLq,if_true,dT.size,iC];rw[if_pos hle];refine iB (aP1 (l:=ys)) ?_;have hadd:(⟨g,0,none⟩:Addr).add (bs.length*1)=⟨g,bs.length,none⟩:=by rw[lL];simp
 show dA PG (storeCells ((⟨g,0,none⟩:Addr).add (bs.length*1)) (ys.map λb=>Value.int .u8 b.toNat).toArray.toList >>= λ_=>pure _) h1 _;rw[hadd];refine dA.bind (P:=PG) (s:=storeCells _ _) ?_;refine aJj (b:=g) (o:=bs.length) (f:=f) (ys.map λb=>Value.int .u8 b.toNat) 0 h1 cs g1 (by omega) (by simp;omega) (λv hv=>by obtain⟨b,-,rfl⟩:=mE.1 hv;rfl) ?_;have key:∀h2:PH,(∃cs',h2 g=some (.cells cs' dT (0,f))∧cs'.size=cap∧cs'.toList.take (bs.length+ys.length)=((bs++ys).map λb=>Value.int .u8 b.toNat))->h2 a=h1 a->cT [g] h1 h2->
   dA PG (dS dF (pT a (0+1)) (.slice (some ⟨g,0,none⟩) (bs.length+ys.length) cap)) h2 λ_ h3=>k (.tuple #[.int .i64 ys.length,.nilIface]) h3:=by
  intro h2 ⟨cs',hg2,hs2,ht2⟩ ha2 u2;refine iZ dF.und rfl (by rw[ha2];exact a1) (by simp) rfl dF.info dF.size ?_;refine hk _ _ ⟨cs',f,?_,by rw[qI hga];exact hg2,by simp;omega,by simpa using hle,hs2,by simpa using ht2,hga,hmx⟩ (((u1.mono λb hb=>.inl (by simp at hb;simp[hb])).trans (u2.mono λb hb=>.inl (by simp at hb;simp[hb]))).trans (cT.set (by simp)));rw[dJ];simp
 by_cases hy:ys=[]
 ·subst hy;rw[if_pos (show(List.map (λb=>Value.int .u8 (b.toNat:Int)) ([]:List UInt8))=[] from rfl)];exact key h1 ⟨cs,g1,hsz,by simpa using htk⟩ rfl cT.refl
 ·rw[if_neg (by simpa using hy)];refine key _ ⟨_,dJ,by rw[aFe];exact hsz,?_⟩ (qI hga.symm) (cT.set (by simp));rw[zLQ,aBv _ _ _ (by simp;omega),htk];rw[zLH (by simp),mS (by simp),qE]
def aPG{n m:Nat}(h:m≤n):(List.replicate n (0:UInt8)).take m=List.replicate m 0:=by rw[List.take_replicate,aHZ h]
def aZS{ts:Array TypeId}{t:TypeId}{k:IntKind}{x y z:Int}:dH PG (Builtin.min_ ts t #[.int k x,.int k y,.int k z])=some (.int k (if z<(if y<x then y else x) then z else(if y<x then y else x))):=(rfl)
def aRf(x:Int):dH PG (convert nU bT (.int .u64 x))=some (.int .i64 (IntKind.i64.wrap x)):=by kernel_rfl
def aUr{h:PH}{n:Nat}(hn:n<64){k:cD}(hk:∀h',dD h h'->k (.string (tx (List.replicate n 0))) h'):aT PG aFR #[.string (tx [0]),.int .i64 n] h k:=by
 apply aFI.call;unfold aFI;simp only[iD,cE,reduceIte];by_cases h0:n=0
 ·subst h0;simp only[show(((0:Nat):Int)==0)=true from rfl,cE,reduceIte];exact hk _ cT.refl
 ·have e0:((n:Int)==0)=false:=by simpa using h0
  simp only[e0,cE,reduceIte];by_cases h1:n=1
  ·subst h1;simp only[show(((1:Nat):Int)==1)=true from rfl,cE,reduceIte];exact hk _ cT.refl
  ·have e1:((n:Int)==1)=false:=by simp;omega
   have e2:((n:Int)<0)=False:=eq_false (by omega);simp only[e1,e2,cE,reduceIte];unfold aIg;have w1:IntKind.u64.wrap (([0]:List UInt8).length:Int)=1:=rfl;have wn:IntKind.u64.wrap (n:Int)=n:=gO (by omega) (by omega);simp only[bR.len,iC,aKF,w1,wn,cE,reduceIte];refine aYJ hn ?_;have e3:((9223372036854775807:Int)<(n:Int))=False:=eq_false (by omega);simp only[aMI,aL2,show((0:Int)<0)=False from eq_false (by decide),e3,cE,reduceIte];unfold aH3;have wi:IntKind.i64.wrap (n:Int)=n:=fE (by omega) (by omega);have i0:dH PG (Instr.index bR (.string (tx [0])) (.int .i64 0))=some (.int .u8 ((0:UInt8).toNat:Int)):=aAb (j:=0) bR.und rfl;have z0:(((0:UInt8).toNat:Int))=0:=rfl;have w2:(([0]:List UInt8).length:Int)=1:=rfl;have hz:((1:Int)==0)=false:=rfl;have d1:((0:Int)==32)=false:=rfl;have d2:((0:Int)==45)=false:=rfl;have d3:((0:Int)==48)=false:=rfl;have d4:((0:Int)==61)=false:=rfl;have d5:((0:Int)==9)=false:=rfl;simp only[bR.len,iC,aRf,wi,i0,z0,w2,hz,d1,d2,d3,d4,d5,cE,reduceIte];unfold tM;simp only[cE,reduceIte];unfold aEj aHw;have e4:((8192:Int)<(n:Int))=False:=eq_false (by omega);simp only[e4,cE,reduceIte];unfold aBW;rw[zB];intro r hr
   try rw[cW]
   have u1:dD h (h.set r (.cells #[.pointer none,.slice none 0 0] dM)):=cT.new hr;have a1:(h.set r (.cells #[.pointer none,.slice none 0 0] dM)) r=some (.cells #[.pointer none,.slice none 0 0] dM (0,0)):=dJ;generalize h.set r (.cells #[.pointer none,.slice none 0 0] dM)=h1 at *;refine aXZ a1 (n:=n) (by omega) (by omega) λh2 g cap hF hcap u2 hg=>?_;have ug:cT [r,g] h h2:=(u1.upd.trans (u2.mono λb hb=>.inl (by simp at hb;simp[hb])));have hgn:h g=none:=u1.none hg;have fin:∀h',cT [r,g] h h'->dD h h':=λh' u b o hb _=>u b o hb (by
    simp only[gU,lJ,or_false,not_or];exact⟨(λe=>by rw[e,hr] at hb;cases hb),(λe=>by rw[e,hgn] at hb;cases hb)⟩)
   refine FB.write hF (ys:=[0]) (by simpa using by omega) (by simp) λv h3 hF3 u3=>?_;refine⟨λvs h'=>∃m,1≤m∧m≤n∧vs=[.int .i64 n,.int .i64 n,pT r 0]∧cT [r,g] h h'∧FB h' r g cap (List.replicate m 0),aOx r n,⟨1,by omega,by omega,rfl,ug.trans u3,hF3⟩,?_⟩;rintro ρ h' ⟨m,hm1,hm2,hvs,u',F'⟩;simp only[iG,iX,lN,and_true] at hvs;obtain⟨v7,v8,v9⟩:=hvs;have hr':=F'.mu (n:=n) (vs:=[ρ 7,ρ 8,ρ 9]);simp only[v7,v8,v9,iG,iX,aLG] at hr' ⊢;unfold aHL;refine F'.len ?_;simp only[aLG,cE,reduceIte];by_cases hmn:m<n
   ·have f1:((m:Int)<(n:Int))=True:=eq_true (by omega);simp only[f1,cE,reduceIte];refine F'.len ?_;have f2:IntKind.i64.wrap ((n:Int)-(m:Int))=((n-m:Nat):Int):=by rw[fE (by omega) (by omega)];omega
    simp only[aLG,f2,cE,reduceIte];refine F'.len ?_;have f3:(if (n:Int)<(if (m:Int)<((n-m:Nat):Int) then(m:Int) else((n-m:Nat):Int)) then(n:Int) else(if (m:Int)<((n-m:Nat):Int) then(m:Int) else((n-m:Nat):Int)))=((min m (n-m):Nat):Int):=by
     split<;>split<;>omega
    simp only[aLG,aZS,f3,cE,reduceIte];refine F'.string (by simp;omega) λh4 F4 u4=>?_;have ec:dH PG (Instr.sliceAt bR (.string (tx (List.replicate m 0))) none (some (.int .i64 ((min m (n-m):Nat):Int))) none)=some (.string (tx (List.replicate (min m (n-m)) 0))):=by
     have:=aIJ (P:=PG) (t:=bR) (l:=List.replicate m 0) (i:=0) (j:=min m (n-m)) (lo:=none) (hi:=some (.int .i64 ((min m (n-m):Nat):Int))) bR.und (.inl ⟨rfl,rfl⟩) (.inr ⟨_,rfl⟩) (by omega) (by simp;omega);rw[this,aPG (by omega),zLb]
    simp only[ec,cE,reduceIte];refine F4.write (by simp;omega) (by simp;omega) λv5 h5 F5 u5=>?_;rw[List.replicate_append_replicate] at F5;refine⟨⟨m+min m (n-m),by omega,by omega,(by trivial),(u'.trans (u4.mono λb hb=>.inl (by simp at hb;simp[hb]))).trans u5,F5⟩,?_⟩;rw[F5.mu,hr',aLG];omega
   ·have f1:((m:Int)<(n:Int))=False:=eq_false (by omega);simp only[f1,cE,reduceIte];refine F'.string (by simp;omega) λh4 F4 u4=>?_;have:m=n:=by omega
    subst this;exact hk _ (fin _ (u'.trans (u4.mono λb hb=>.inl (by simp at hb;simp[hb]))))
def aWR{s:S8}:dH PG (Instr.index eX (.agg #[wv s.a,wv s.b,wv s.c,wv s.d,wv s.e,wv s.f,wv s.g,wv s.h]) (.int .i64 0))=some (wv s.a):=by kernel_rfl
def aVJ{s:S8}:dH PG (Instr.index eX (.agg #[wv s.a,wv s.b,wv s.c,wv s.d,wv s.e,wv s.f,wv s.g,wv s.h]) (.int .i64 1))=some (wv s.b):=by kernel_rfl
def aV2{s:S8}:dH PG (Instr.index eX (.agg #[wv s.a,wv s.b,wv s.c,wv s.d,wv s.e,wv s.f,wv s.g,wv s.h]) (.int .i64 2))=some (wv s.c):=by kernel_rfl
def aV1{s:S8}:dH PG (Instr.index eX (.agg #[wv s.a,wv s.b,wv s.c,wv s.d,wv s.e,wv s.f,wv s.g,wv s.h]) (.int .i64 3))=some (wv s.d):=by kernel_rfl
def aWG{s:S8}:dH PG (Instr.index eX (.agg #[wv s.a,wv s.b,wv s.c,wv s.d,wv s.e,wv s.f,wv s.g,wv s.h]) (.int .i64 4))=some (wv s.e):=by kernel_rfl
def aVc{s:S8}:dH PG (Instr.index eX (.agg #[wv s.a,wv s.b,wv s.c,wv s.d,wv s.e,wv s.f,wv s.g,wv s.h]) (.int .i64 5))=some (wv s.f):=by kernel_rfl
def aVY{s:S8}:dH PG (Instr.index eX (.agg #[wv s.a,wv s.b,wv s.c,wv s.d,wv s.e,wv s.f,wv s.g,wv s.h]) (.int .i64 6))=some (wv s.g):=by kernel_rfl
def aWO{s:S8}:dH PG (Instr.index eX (.agg #[wv s.a,wv s.b,wv s.c,wv s.d,wv s.e,wv s.f,wv s.g,wv s.h]) (.int .i64 7))=some (wv s.h):=by kernel_rfl
def aYc{s:S8}{i:Nat}(hi:i<8):dH PG (Instr.index eX (.agg #[wv s.a,wv s.b,wv s.c,wv s.d,wv s.e,wv s.f,wv s.g,wv s.h]) (.int .i64 (i:Int)))=some (wv (s.l.getD i 0)):=by
 have:i=0∨i=1∨i=2∨i=3∨i=4∨i=5∨i=6∨i=7:=by omega
 rcases this with rfl|rfl|rfl|rfl|rfl|rfl|rfl|rfl
 ·exact aWR
 ·exact aVJ
 ·exact aV2
 ·exact aV1
 ·exact aWG
 ·exact aVc
 ·exact aVY
 ·exact aWO
def aPK(slot:Nat):List Value->PH->Nat:=λvs _=>match vs[slot]? with
 | some (Value.int _ v)=>(v+8).toNat
 | _=>0
def aYm(x:W):Value.int .u8 (IntKind.u8.wrap (x.toNat:Int))= .int .u8 ((UInt8.ofNat x.toNat).toNat:Int):=by
 rw[aI7,UInt8.toNat_ofNat'];congr 1
def aUl(x:W):dH PG (convert cL dT (wv x))=some (.int .u8 ((UInt8.ofNat x.toNat).toNat:Int)):=by
 unfold wv;rw[aXO,aYm]
def aUn(x:W):(wb x).length=4:=rfl
def bAB(x:W){j:Nat}(hj:j<4):dH PG (binOp .shr cL (wv x) (.int .i64 (24-8*(j:Int))))=some (wv (x>>>(24-8*j))):=by
 have:=aJ5 (P:=PG) (t:=cL) (x:=x) (k:=.i64) (n:=24-8*j) (by omega);rw[←this];congr 3;omega
def aXi(x:W){j:Nat}(hj:j<4):(wb x).take (j+1)=(wb x).take j++[UInt8.ofNat (x>>>(24-8*j)).toNat]:=by
 have:j=0∨j=1∨j=2∨j=3:=by omega
 rcases this with rfl|rfl|rfl|rfl
 ·rfl
 ·rfl
 ·rfl
 ·show wb x=[_,_,_]++[UInt8.ofNat (x>>>0).toNat];rw[BitVec.ushiftRight_zero];rfl
def aRY(s:S8){i:Nat}(hi:i<8):(s.l.take (i+1)).flatMap wb=(s.l.take i).flatMap wb++wb (s.l.getD i 0):=by
 have:i=0∨i=1∨i=2∨i=3∨i=4∨i=5∨i=6∨i=7:=by omega
 rcases this with rfl|rfl|rfl|rfl|rfl|rfl|rfl|rfl<;>rfl
def aSV(s:S8){i:Nat}(hi:i≤8):((s.l.take i).flatMap wb).length≤32:=by
 have:i=0∨i=1∨i=2∨i=3∨i=4∨i=5∨i=6∨i=7∨i=8:=by omega
 rcases this with rfl|rfl|rfl|rfl|rfl|rfl|rfl|rfl|rfl<;>(simp[S8.l,wb])
def aTS{h:PH}{a:Nat}{s:S8}{x y:Value}(ha:h a=some (.cells (jT s x y) fI (0,0))){k:cD}(hk:∀h',dD h h'->k (.string (tx (aI2 s))) h'):
  aT PG aD5 #[pT a 0] h k:=by
 apply wY.call;unfold wY;rw[zB];intro r hr
 try rw[cW]
 have u1:dD h (h.set r (.cells #[.pointer none,.slice none 0 0] dM)):=cT.new hr;have b1:BAt (h.set r (.cells #[.pointer none,.slice none 0 0] dM)) r [] [r]:=BAt.zero dJ;generalize h.set r (.cells #[.pointer none,.slice none 0 0] dM)=h1 at *;have ha1:=u1.get ha;have lA:=eX.loadAgg (o:=0) ha1 (by simp[jT]);have lE:(jT s x y).extract 0 (0+8)= #[wv s.a,wv s.b,wv s.c,wv s.d,wv s.e,wv s.f,wv s.g,wv s.h]:=rfl;rw[lE] at lA;simp only[hQ.f0,lA,cE,reduceIte];refine⟨λvs h'=>∃(i:Nat) (F:List Nat),i≤8∧vs=[pT r 0,.agg #[wv s.a,wv s.b,wv s.c,wv s.d,wv s.e,wv s.f,wv s.g,wv s.h],.int .i64 (i:Int)]∧BAt h' r ((s.l.take i).flatMap wb) F∧eM h F∧dD h h',gT 8 2,⟨0,[r],by omega,rfl,b1,eM.one hr,u1⟩,?_⟩;rintro ρ h' ⟨i,F,hi,hvs,B,fF,u⟩;simp only[iG,iX,lN,and_true] at hvs;obtain⟨v3,v10,v11⟩:=hvs;simp only[v3,v10,v11,iG,iX];unfold aHQ;by_cases hl:i<8
 ·have e1:((i:Int)<8)=True:=eq_true (by omega);simp only[e1,aYc hl,cE,reduceIte];refine⟨λvs h'=>∃(j:Nat) (F:List Nat),j≤4∧vs=[pT r 0,wv (s.l.getD i 0),.int .i64 (24-8*(j:Int)),.agg #[wv s.a,wv s.b,wv s.c,wv s.d,wv s.e,wv s.f,wv s.g,wv s.h],.int .i64 (i:Int)]∧BAt h' r ((s.l.take i).flatMap wb++(wb (s.l.getD i 0)).take j) F∧eM h F∧dD h h',aPK 2,⟨0,F,by omega,rfl,by simpa using B,fF,u⟩,?_⟩;rintro ρ2 h2 ⟨j,F2,hj,hvs,B2,fF2,u2⟩;simp only[iG,iX,lN,and_true] at hvs;obtain⟨w3,w5,w6,w10,w11⟩:=hvs;simp only[w3,w5,w6,w10,w11,iG,iX];unfold aGs;by_cases hj4:j<4
  ·have e2:((0:Int)≤24-8*(j:Int))=True:=eq_true (by omega);have e3:IntKind.i64.wrap (24-8*(j:Int)-8)=24-8*((j+1:Nat):Int):=by rw[fE (by omega) (by omega)];omega
   have hsh:=bAB (s.l.getD i 0) hj4;simp only[e2,hsh,aUl,cE,reduceIte];have hlen:((s.l.take i).flatMap wb++(wb (s.l.getD i 0)).take j).length+1≤140737488355328:=by
    have h1:=aSV s hi;have h2:((wb (s.l.getD i 0)).take j).length≤4:=by rw[nW,aUn];omega
    rw[jR];omega
   refine WriteByte_ok B2 hlen _ ?_;intro h3 F3 B3 u3 k3;simp only[e3,cE,reduceIte];refine⟨⟨j+1,F3,by omega,(by trivial),?_,fF2.grow u2 k3,u2.fresh u3 fF2⟩,?_⟩
   ·rw[aXi _ hj4,←nE];exact B3
   ·simp only[aPK,rZ,pO];omega
  ·have hj':j=4:=by omega
   subst hj';have e2:((0:Int)≤24-8*((4:Nat):Int))=False:=eq_false (by decide);have e3:=qZ (i:=i) (by omega);simp only[e2,e3,cE,reduceIte];refine⟨⟨i+1,F2,by omega,rfl,?_,fF2,u2⟩,?_⟩
   ·rw[aRY s hl];exact B2
   ·simp only[gT,rZ,pO];omega
 ·have hi':i=8:=by omega
  subst hi';simp only[show(((8:Nat):Int)<8)=False from eq_false (by decide),cE,reduceIte];refine String_ok B λh3 u3=>?_;exact hk _ (u.fresh u3 fF)
def aBa(x:Int):dH PG (convert bT cA (.int .i64 x))=some (.int .u64 (IntKind.u64.wrap x)):=by kernel_rfl
def aRX(x:Int):dH PG (convert cA dT (.int .u64 x))=some (.int .u8 (IntKind.u8.wrap x)):=by kernel_rfl
def aWn{n:Nat}{j:Nat}(hj:j<8):dH PG (binOp .shr cA (.int .u64 (n:Int)) (.int .i64 (56-8*(j:Int))))=some (.int .u64 ((n/256^(8-1-j):Nat):Int)):=by
 rw[aJR (by omega)];congr 2;have e:min ((56-8*(j:Int)).toNat) (IntKind.u64.bits)=56-8*j:=by
  show min ((56-8*(j:Int)).toNat) 64=_;omega
 have e2:(256:Nat)^(8-1-j)=2^(56-8*j):=by
  have:j=0∨j=1∨j=2∨j=3∨j=4∨j=5∨j=6∨j=7:=by omega
  rcases this with rfl|rfl|rfl|rfl|rfl|rfl|rfl|rfl<;>decide
 rw[e,e2,Int.fdiv_eq_ediv_of_nonneg _ (Int.pow_nonneg (by decide)),Int.natCast_ediv,Int.natCast_pow];rfl
def aTY(m:Nat):Value.int .u8 (IntKind.u8.wrap (m:Int))= .int .u8 ((UInt8.ofNat (m%256)).toNat:Int):=by
 rw[aI7,UInt8.toNat_ofNat'];congr 1;omega
def aWH{s:S8}{x:ByteArray}{k:IntKind}{n:Int}:∀v∈(jT s (.string x) (.int k n)).toList,fW v=true:=by
 intro v hv;simp only[jT,gU,lJ,or_false] at hv;rcases hv with rfl|rfl|rfl|rfl|rfl|rfl|rfl|rfl|rfl|rfl<;>rfl
def aTP{h:PH}{a:Nat}{s:S8}{r:List UInt8}{n:Nat}(hK:oM h)(ha:HAt h a s r n)(hr:r.length<64)(hn:n≤100000000000){k:cD}
  (hk:∀h',dD h h'->k (.string (tx (aI2 (qD s (r++aJJ n)).1))) h'):aT PG aHC #[pT a 0] h k:=by
 apply aGm.call;unfold aGm;have lA:=fI.loadAgg (o:=0) ha (by simp[jT]);have lE:(jT s (.string (tx r)) (.int .i64 n)).extract 0 (0+10)=jT s (.string (tx r)) (.int .i64 n):=rfl;rw[lE] at lA;simp only[lA,cE,reduceIte];intro r3 hr3
 try rw[cW]
 have u1:dD h (h.set r3 (.cells (dR PG fI) fI)):=cT.new hr3;have a3:(h.set r3 (.cells (dR PG fI) fI)) r3=some (.cells (dR PG fI) fI (0,0)):=dJ;generalize h.set r3 (.cells (dR PG fI) fI)=h1 at *;refine qH a3 fI.info rfl (by simp[jT]) (by rw[fI.zc];rfl) aWH ?_;have u2:dD h (h1.set r3 (.cells (jT s (.string (tx r)) (.int .i64 n)) fI (0,0))):=u1.fresh (cT.set (F:=[r3]) (by simp)) (eM.one hr3);have a3':HAt (h1.set r3 (.cells (jT s (.string (tx r)) (.int .i64 n)) fI (0,0))) r3 s r n:=dJ;generalize h1.set r3 (.cells (jT s (.string (tx r)) (.int .i64 n)) fI (0,0))=h2 at *;rw[zB];intro r7 hr7
 try rw[cW]
 have u3:dD h2 (h2.set r7 (.cells #[.pointer none,.slice none 0 0] dM)):=cT.new hr7;have b7:BAt (h2.set r7 (.cells #[.pointer none,.slice none 0 0] dM)) r7 [] [r7]:=BAt.zero dJ;have n7:h r7=none:=u2.none hr7;generalize h2.set r7 (.cells #[.pointer none,.slice none 0 0] dM)=h3 at *;have a3'':HAt h3 r3 s r n:=u3.get a3';have u4:=u2.trans u3;have hF7:∀b∈[r7],b≠r3:=by
  intro b hb;simp at hb;subst hb;rintro rfl;rw[a3'] at hr7;cases hr7
 refine⟨λvs h'=>∃(j:Nat) (F:List Nat),j≤8∧vs=[pT a 0,pT r3 0,pT r7 0,.int .i64 (56-8*(j:Int))]∧BAt h' r7 ((be (n*8%18446744073709551616) 8).take j) F∧eM h F∧dD h h'∧(∀b∈F,b≠r3)∧HAt h' r3 s r n,aPK 3,⟨0,[r7],by omega,rfl,b7,eM.one n7,u4,hF7,a3''⟩,?_⟩;rintro ρ h' ⟨j,F,hj,hvs,B,fF,u,hF,ha'⟩;simp only[iG,iX,lN,and_true] at hvs;obtain⟨v0,v3,v4,v5⟩:=hvs;simp only[v0,v3,v4,v5,iG,iX];unfold aJV;have hAt:=u.get ha;have c9:dC h' ⟨a,0+9,none⟩=some (.int .i64 n):=by simp[dC,hAt,jT]
 have en:n*8%18446744073709551616=n*8:=aFQ (by omega);by_cases hl:j<8
 ·have e1:((0:Int)≤56-8*(j:Int))=True:=eq_true (by omega);have e2:IntKind.u64.wrap (n:Int)=(n:Int):=gO (by omega) (by omega);have e3:IntKind.u64.wrap ((n:Int)*8)=((n*8:Nat):Int):=by rw[gO (by omega) (by omega)];omega
  have e4:IntKind.i64.wrap (56-8*(j:Int)-8)=56-8*((j+1:Nat):Int):=by rw[fE (by omega) (by omega)];omega
  simp only[e1,fI.f2,bT.load,c9,aBa,e2,e3,aWn hl,aRX,aTY,cE,reduceIte];refine WriteByte_ok B (by rw[nW,jD];omega) _ ?_;intro h5 F5 B5 u5 k5;simp only[e4,cE,reduceIte];refine⟨⟨j+1,F5,by omega,(by trivial),?_,fF.grow u k5,u.fresh u5 fF,λb hb=>?_,u5.get ha' (λhm=>hF _ hm rfl)⟩,?_⟩
  ·rw[aJa hl,en];rw[en] at B5;exact B5
  ·rcases k5 b hb with h1|h1
   ·exact hF b h1
   ·rintro rfl;unfold HAt at ha';rw[ha'] at h1;cases h1
  ·simp only[aPK,rZ,pO];omega
 ·have hj':j=8:=by omega
  subst hj';have e1:((0:Int)≤56-8*((8:Nat):Int))=False:=eq_false (by decide);have e2:((n:Int)).tmod 64=((n%64:Nat):Int):=by rw[Int.tmod_eq_emod_of_nonneg (by omega)];omega
  have e3:IntKind.i64.wrap (119-((n%64:Nat):Int))=((119-n%64:Nat):Int):=by rw[fE (by omega) (by omega)];omega
  have e4:(((119-n%64:Nat):Int)).tmod 64=(((119-n%64)%64:Nat):Int):=by rw[Int.tmod_eq_emod_of_nonneg (by omega)];omega
  have d1:∀(t:TypeId) (x:Int),dH PG (binOp .rem t (.int .i64 x) (.int .i64 64))=some (.int .i64 (x.tmod 64)):=λt x=>aHv (by decide);simp only[e1,fI.f2,bT.load,c9,d1,e2,e3,e4,cE,reduceIte];refine aUr (zLB _ (by decide)) λh5 u5=>?_;have ex:∀(t:TypeId),dH PG (binOp .add t (.string {data:=#[128]}) (.string (tx (List.replicate ((119-n%64)%64) 0))))=some (.string (tx ([128]++List.replicate ((119-n%64)%64) 0))):=λt=>mA (a:=[128]) (by simp;omega);simp only[ex,cE,reduceIte];have B5:=B.ext u5;refine String_ok B5 λh6 u6=>?_;have et:(be (n*8%18446744073709551616) 8).take 8=be (n*8%18446744073709551616) 8:=mS (Nat.le_of_eq (jD _ _));rw[et];have ey:∀(t:TypeId),dH PG (binOp .add t (.string (tx ([128]++List.replicate ((119-n%64)%64) 0))) (.string (tx (be (n*8%18446744073709551616) 8))))=some (.string (tx (aJJ n))):=λt=>by
   rw[mA (by simp[jD];omega)];rfl
  simp only[ey,cE,reduceIte];have a6:HAt h6 r3 s r n:=u6.get (u5.get ha') (λhm=>hF _ hm rfl);have u7:dD h h6:=(u.trans u5).fresh u6 fF;have hpl:(aJJ n).length≤80:=by
   simp only[aJJ,pY,jR,aLG,jD];have:=zLB (119-n%64) (show 64>0 by decide);omega
  refine aQy (hK.ext u7) a6 (by omega) (by omega) λh8 u8 a8=>?_;simp only[fI.f0,cE,reduceIte];refine aTS a8 λh9 u9=>?_;exact hk _ ((u7.fresh u8 (eM.one hr3)).trans u9)
def jH(p:List UInt8):List Value:=[.string (tx p)]
def jH.rows(l:List (List UInt8)):Rows 1 (l.map jH):=λr hr=>by
 obtain⟨p,-,rfl⟩:=mE.1 hr;rfl
def aTz{h:PH}{k:cD}(hk:∀h' a,h a=none->dD h h'->HAt h' a S0 [] 0->k (pT a 0) h'):aT PG aLF #[] h k:=by
 apply aMk.call;unfold aMk;apply aJ6.call;unfold aJ6;intro r1 hr1
 try rw[cW]
 have zS:dR PG hQ=(zs 8).toArray:=by rw[hQ.zc];rfl
 rw[zS];have u1:dD h (h.set r1 (.cells (zs 8).toArray hQ)):=cT.new hr1;have a1:(h.set r1 (.cells (zs 8).toArray hQ)) r1=some (.cells (zs 8).toArray hQ (0,0)):=dJ;generalize h.set r1 (.cells (zs 8).toArray hQ)=h1 at *;have b1:dH PG (build eX #[(0,(Value.int IntKind.u32 1779033703)),(1,(Value.int IntKind.u32 3144134277)),(2,(Value.int IntKind.u32 1013904242)),(3,(Value.int IntKind.u32 2773480762)),(4,(Value.int IntKind.u32 1359893119)),(5,(Value.int IntKind.u32 2600822924)),(6,(Value.int IntKind.u32 528734635)),(7,(Value.int IntKind.u32 1541459225))])=some (.agg #[wv S0.a,wv S0.b,wv S0.c,wv S0.d,wv S0.e,wv S0.f,wv S0.g,wv S0.h]):=by kernel_rfl
 have b2:dH PG (build hQ #[(0,.agg #[wv S0.a,wv S0.b,wv S0.c,wv S0.d,wv S0.e,wv S0.f,wv S0.g,wv S0.h])])=some (.agg #[wv S0.a,wv S0.b,wv S0.c,wv S0.d,wv S0.e,wv S0.f,wv S0.g,wv S0.h]):=by kernel_rfl
 have b3:dH PG (build fI #[(0,.agg #[wv S0.a,wv S0.b,wv S0.c,wv S0.d,wv S0.e,wv S0.f,wv S0.g,wv S0.h])])=some (.agg (jT S0 (.string (tx [])) (.int .i64 (0:Nat)))):=by kernel_rfl
 simp only[b1,b2,cE,reduceIte];refine qH a1 hQ.info rfl (by simp) rfl (by simp[isw]) ?_;have u2:dD h (h1.set r1 (.cells #[wv S0.a,wv S0.b,wv S0.c,wv S0.d,wv S0.e,wv S0.f,wv S0.g,wv S0.h] hQ (0,0))):=u1.fresh (cT.set (F:=[r1]) (by simp)) (eM.one hr1);have a2:(h1.set r1 (.cells #[wv S0.a,wv S0.b,wv S0.c,wv S0.d,wv S0.e,wv S0.f,wv S0.g,wv S0.h] hQ (0,0))) r1=some (.cells #[wv S0.a,wv S0.b,wv S0.c,wv S0.d,wv S0.e,wv S0.f,wv S0.g,wv S0.h] hQ (0,0)):=dJ;generalize h1.set r1 (.cells #[wv S0.a,wv S0.b,wv S0.c,wv S0.d,wv S0.e,wv S0.f,wv S0.g,wv S0.h] hQ (0,0))=h2 at *;have lA:=hQ.loadAgg (o:=0) a2 (by simp);have lE:(#[wv S0.a,wv S0.b,wv S0.c,wv S0.d,wv S0.e,wv S0.f,wv S0.g,wv S0.h]:Array Value).extract 0 (0+8)= #[wv S0.a,wv S0.b,wv S0.c,wv S0.d,wv S0.e,wv S0.f,wv S0.g,wv S0.h]:=rfl;rw[lE] at lA;simp only[lA,b3,cE,reduceIte];intro a ha
 try rw[cW]
 exact hk _ a (u2.none ha) (u2.trans (cT.new ha)) dJ
def aOR{h:PH}{v:Value}{jC:List (List UInt8)}(hK:oM h)(hs:gF h 1 v (jC.map jH))(hl:jC.flatten.length≤100000000){k:cD}(hk:∀h',dD h h'->k (.string (tx (sL jC.flatten))) h'):
  aT PG aE7 #[v] h k:=by
 apply aMy.call;unfold aMy;refine aTz λh1 a hna u1 ha=>?_;have hs1:=hs.ext u1;have lv:=hs1.len (t':=bT) cP.und;rw[iY] at lv;simp only[lv,cE,reduceIte];have hsm:=hs.small;rw[iY] at hsm;unfold rC at hsm;refine⟨λvs h'=>∃i,i≤jC.length∧vs=[pT a 0,v,.int .i64 jC.length,.int .i64 (i:Int)]∧dD h h'∧HAt h' a (qD S0 (jC.take i).flatten).1 (qD S0 (jC.take i).flatten).2 (jC.take i).flatten.length,gT jC.length 3,⟨0,by omega,rfl,u1,by simpa[aIK (s:=S0) (l:=[]) (by simp)] using ha⟩,?_⟩;rintro ρ h' ⟨i,hi,hvs,u,ha'⟩;simp only[iG,iX,lN,and_true] at hvs;obtain⟨v3,v7,v8,v9⟩:=hvs;simp only[v3,v7,v8,v9,iG,iX];unfold aOk;have hfl:(jC.take i).flatten.length≤jC.flatten.length:=by
  have:jC.flatten=(jC.take i).flatten++(jC.drop i).flatten:=by rw[←zLG,aNb]
  rw[this,jR];omega
 by_cases hlt:i<jC.length
 ·have e1:((i:Int)<(jC.length:Int))=True:=eq_true (by omega);have e2:=qZ (i:=i) (by omega);have hr:(jC.map jH)[(i:Int).toNat]? =some (jH jC[i]):=by rw[qN,vL,lS hlt];rfl
  obtain⟨pa,hpa,hload⟩:=(hs.ext u).loadCell (t:=cP) (k:=.i64) (j:=(i:Int)) cP.und bR.info bR.size bR.und rfl (by omega) hr;have ht:(jC.take (i+1)).flatten=(jC.take i).flatten++jC[i]:=by
   rw[aS9 hlt,zLG];simp
  have hfl2:(jC.take (i+1)).flatten.length≤jC.flatten.length:=by
   have:jC.flatten=(jC.take (i+1)).flatten++(jC.drop (i+1)).flatten:=by rw[←zLG,aNb]
   rw[this,jR];omega
  rw[ht,jR] at hfl2;have hrest:=aKH S0 (jC.take i).flatten;simp only[e1,hpa,hload,cE,reduceIte];refine aQy (hK.ext u) ha' (by omega) (by omega) λh2 u2 ha2=>?_;simp only[e2,cE,reduceIte];refine⟨⟨i+1,by omega,rfl,u.fresh u2 (eM.one hna),?_⟩,?_⟩
  ·rw[ht,aKu,jR];exact ha2
  ·simp only[gT,rZ,pO];omega
 ·have e1:((i:Int)<(jC.length:Int))=False:=eq_false (by omega);have hi':i=jC.length:=by omega
  simp only[e1,cE,reduceIte];refine aTP (hK.ext u) ha' (aKH _ _) (by omega) λh2 u2=>?_;have:=hk h2 (u.trans u2);unfold sL at this;rw[aKu] at this;rw[hi',zLJ];exact this
structure Pr where
 (k v:Tx)
deriving DecidableEq
def Pr.cells(p:Pr):List Value:=[.string (tx p.k),.string (tx p.v)]
def Pr.val(p:Pr):Value:=.agg #[.string (tx p.k),.string (tx p.v)]
def Pr.rows(l:List Pr):Rows 2 (l.map Pr.cells):=λr hr=>by
 obtain⟨p,-,rfl⟩:=mE.1 hr;rfl
def Pr.isCell(l:List Pr):∀r∈l.map Pr.cells,∀u∈r,fW u=true:=λr hr u hu=>by
 obtain⟨p,-,rfl⟩:=mE.1 hr;simp only[Pr.cells,gU,lJ,or_false] at hu;rcases hu with rfl|rfl<;>rfl
def aI9:∀(x y:List UInt8),Op.bytesLess x y=decide (x<y)
 | [],[]=>by simp[Op.bytesLess]
 | _::_,[]=>by simp[Op.bytesLess]
 | [],_::_=>by simp[Op.bytesLess]
 | a::x,b::y=>by
  rw[Op.bytesLess,aI9 x y];simp only[List.cons_lt_cons_iff];by_cases h1:a<b<;>by_cases h2:a=b<;>by_cases h3:x<y<;>simp[h1,h2,h3]
def aCs(l:Tx):(tx l).toList=l:=by rw[ByteArray.toList_eq];simp[tx]
def aHc(a b:Tx):a<b∨a=b∨b<a:=by
 by_cases h1:a<b
 ·exact .inl h1
 ·by_cases h2:b<a
  ·exact .inr (.inr h2)
  ·exact .inr (.inl (List.le_antisymm h2 h1))
section
variable{P:Program}{t:TypeId}{a b:Tx}{h:PH}
def xR:dH P (binOp .lss t (.string (tx a)) (.string (tx b)))=some (.bool (decide (a<b))):=by
 have e:dH P (binOp .lss t (.string (tx a)) (.string (tx b)))=some (.bool (Op.bytesLess (tx a).toList (tx b).toList)):=rfl;rw[e,aCs,aCs,aI9]
def aOg:dH P (binOp .gtr t (.string (tx a)) (.string (tx b)))=some (.bool (decide (b<a))):=by
 have e:dH P (binOp .gtr t (.string (tx a)) (.string (tx b)))=some (.bool (!(Op.bytesLess (tx a).toList (tx b).toList||(tx a).toList==(tx b).toList))):=rfl;rw[e,aCs,aCs,aI9];congr 2;rcases aHc a b with h|h|h
 ·have h2:¬b<a:=List.lt_asymm h;simp[h,h2]
 ·subst h;simp[zL2]
 ·have h2:¬a<b:=List.lt_asymm h;have h3:a≠b:=by rintro rfl;exact zL2 _ h
  simp[h,h2,h3]
end
def aV5(x:Int):dH PG (convert bT dT (.int .i64 x))=some (.int .u8 (IntKind.u8.wrap x)):=by kernel_rfl
def aPC{h:PH}{n:Nat}{k:cD}(hk:∀h',dD h h'->k (.string (tx [UInt8.ofNat (n%256)])) h'):aT PG aDi #[.int .i64 n] h k:=by
 apply aI1.call;unfold aI1;simp only[aV5,aTY,byte_lit,cE,reduceIte];intro r hr;refine fT ?_
 try rw[cW]
 have u:dD h (h.set r (.cells #[.int .u8 ((UInt8.ofNat (n%256)).toNat:Int)] dT)):=cT.new hr;have s:gF (h.set r (.cells #[.int .u8 ((UInt8.ofNat (n%256)).toNat:Int)] dT)) 1 (.slice (some ⟨r,0,none⟩) 1 1) ([UInt8.ofNat (n%256)].map jN):=(eN.lit (jN.rows [UInt8.ofNat (n%256)]) dJ (by simp) (by decide) (by simp[jN])).slR;have hcv:cH PG _ (convert dF bR (.slice (some ⟨r,0,none⟩) 1 1))=some (.string (tx [UInt8.ofNat (n%256)])):=aFG dF.und dT.und bR.und s;rw[hcv,aEZ];exact hk _ u
def aWg(a b c:ByteArray):jU PG (buildSlice cP 3 #[(0,.string a),(1,.string b),(2,.string c)])=some (.cells #[.string a,.string b,.string c] bR,λr=>pure (.slice (some ⟨r,0,none⟩) 3 3)):=by kernel_rfl
def aZd(a b c d e:ByteArray):jU PG (buildSlice cP 5 #[(0,.string a),(1,.string b),(2,.string c),(3,.string d),(4,.string e)])=some (.cells #[.string a,.string b,.string c,.string d,.string e] bR,λr=>pure (.slice (some ⟨r,0,none⟩) 5 5)):=by kernel_rfl
def aAn(l r:Tx):Tx:=sL (1::(l++r))
def aF1(p:Pr):Tx:=sL (0::UInt8.ofNat (p.k.length%256)::(p.k++UInt8.ofNat (p.v.length%256)::p.v))
def aKa{h:PH}{l r:Tx}(hK:oM h)(hl:l.length+r.length≤10000000){k:cD}(hk:∀h',dD h h'->k (.string (tx (aAn l r))) h'):aT PG aCc #[.string (tx l),.string (tx r)] h k:=by
 apply aHi.call;unfold aHi;simp only[aWg,cE,reduceIte];intro b hb;refine fT ?_
 try rw[cW]
 have u:dD h (h.set b (.cells #[.string ⟨#[1]⟩,.string (tx l),.string (tx r)] bR)):=cT.new hb;have s:gF (h.set b (.cells #[.string ⟨#[1]⟩,.string (tx l),.string (tx r)] bR)) 1 (.slice (some ⟨b,0,none⟩) 3 3) ([[1],l,r].map jH):=(eN.lit (jH.rows [[1],l,r]) dJ (by simp) (by decide) rfl).slR;refine aOR (hK.ext u) s (by simp;omega) λh' u'=>?_;have e:aAn l r=sL [[1],l,r].flatten:=by simp[aAn]
 rw[e] at hk;exact hk _ (u.trans u')
def aMi(p:Pr):Value.cells p.val= #[.string (tx p.k),.string (tx p.v)]:=rfl
def aSC{h:PH}{p:Pr}(hK:oM h)(hl:p.k.length+p.v.length≤10000000){k:cD}(hk:∀h',dD h h'->k (.string (tx (aF1 p))) h'):aT PG aE3 #[p.val] h k:=by
 apply aDs.call;unfold aDs;rw[aMi];intro r hr
 try rw[cW]
 have u1:dD h (h.set r (.cells #[.string (tx p.k),.string (tx p.v)] cM)):=cT.new hr;have a1:(h.set r (.cells #[.string (tx p.k),.string (tx p.v)] cM)) r=some (.cells #[.string (tx p.k),.string (tx p.v)] cM (0,0)):=dJ;generalize h.set r (.cells #[.string (tx p.k),.string (tx p.v)] cM)=h1 at *;have c0:dC h1 ⟨r,0,none⟩=some (.string (tx p.k)):=by simp[dC,a1]
 have c1:dC h1 ⟨r,0+1,none⟩=some (.string (tx p.v)):=by simp[dC,a1]
 simp only[cM.f0,cM.f1,bR.load,c0,c1,bR.len,iC,cE,reduceIte];refine aPC λh2 u2=>?_;have a2:=u2.get a1;have c0':dC h2 ⟨r,0,none⟩=some (.string (tx p.k)):=by simp[dC,a2]
 have c1':dC h2 ⟨r,0+1,none⟩=some (.string (tx p.v)):=by simp[dC,a2]
 simp only[bR.load,c0',c1',true_and];refine aPC λh3 u3=>?_;have a3:=u3.get a2;have c0'':dC h3 ⟨r,0,none⟩=some (.string (tx p.k)):=by simp[dC,a3]
 have c1'':dC h3 ⟨r,0+1,none⟩=some (.string (tx p.v)):=by simp[dC,a3]
 simp only[bR.load,c0'',c1'',true_and,aZd,cE,reduceIte];intro b hb;refine fT ?_
 try rw[cW]
 have u4:dD h3 (h3.set b (.cells #[.string ⟨#[0]⟩,.string (tx [UInt8.ofNat (p.k.length%256)]),.string (tx p.k),.string (tx [UInt8.ofNat (p.v.length%256)]),.string (tx p.v)] bR)):=cT.new hb;have s:gF (h3.set b (.cells #[.string ⟨#[0]⟩,.string (tx [UInt8.ofNat (p.k.length%256)]),.string (tx p.k),.string (tx [UInt8.ofNat (p.v.length%256)]),.string (tx p.v)] bR)) 1 (.slice (some ⟨b,0,none⟩) 5 5) ([[0],[UInt8.ofNat (p.k.length%256)],p.k,[UInt8.ofNat (p.v.length%256)],p.v].map jH):=(eN.lit (n:=5) (jH.rows [[0],[UInt8.ofNat (p.k.length%256)],p.k,[UInt8.ofNat (p.v.length%256)],p.v]) dJ (by simp) (by decide) rfl).slR;have u:=((u1.trans u2).trans u3).trans u4;refine aOR (hK.ext u) s (by simp;omega) λh' u'=>?_;have e:aF1 p=sL [[0],[UInt8.ofNat (p.k.length%256)],p.k,[UInt8.ofNat (p.v.length%256)],p.v].flatten:=by simp[aF1]
 rw[e] at hk;exact hk _ (u.trans u')
def aCx(x:Nat):Nat:=if x=0 then 0 else Nat.log2 x+1
def aYd:(List.range 256).all (λx=>aPP[x]? == some (UInt8.ofNat (aCx x)))=true:=by kernel_rfl
def aXU{x:Nat}(hx:x<256):aPP[x]? =some (UInt8.ofNat (aCx x)):=by
 have:=aEk.1 aYd x (aLP.2 hx);simpa using this
def aWv{x:Nat}(hx:x<256):aCx x<256:=by
 unfold aCx;split
 ·decide
 ·have:=Nat.log2_lt (n:=x) (k:=8) (by omega);have:=this.2 (by simpa using hx);omega
def aTL{x:Nat}(h1:256≤x):aCx x=aCx (x/256)+8:=by
 have h2:x/256≠0:=by omega
 unfold aCx;rw[if_neg (by omega),if_neg h2];have:Nat.log2 x=Nat.log2 (x/256)+8:=by
  rw[Nat.log2_eq_iff (by omega)];have a:=(Nat.log2_eq_iff (n:=x/256) (k:=Nat.log2 (x/256)) h2).1 rfl;rw[Nat.pow_add,Nat.pow_add,Nat.pow_add];rw[Nat.pow_add] at a;omega
 omega
def aU4(x:Int):dH PG (convert dT bT (.int .u8 x))=some (.int .i64 (IntKind.i64.wrap x)):=by kernel_rfl
def aT0{h:PH}{x n:Nat}(hx:x<256)(hn:n≤64){k:cD}(hk:k (.int .i64 ((n+aCx x:Nat):Int)) h):aAk k (.int .u64 (x:Int)) (.int .i64 (n:Int)) h:=by
 unfold aAk;have e0:(⟨aPP⟩:ByteArray)=tx aPP.toList:=by simp[tx]
 have e1:IntKind.u8.wrap (x:Int)=x:=by rw[aI7];omega
 have hl:=aWv hx;have e2:dH PG (Instr.index bR (.string ⟨aPP⟩) (.int .u8 (x:Int)))=some (.int .u8 ((UInt8.ofNat (aCx x)).toNat:Int)):=by
  rw[e0];exact aAb bR.und (by rw[aLY];exact aXU hx)
 have e3:((UInt8.ofNat (aCx x)).toNat:Int)=((aCx x:Nat):Int):=by rw[UInt8.toNat_ofNat'];congr 1;exact aFQ hl
 have e4:IntKind.i64.wrap ((aCx x:Nat):Int)=((aCx x:Nat):Int):=fE (by omega) (by omega);have e5:IntKind.i64.wrap ((n:Int)+((aCx x:Nat):Int))=((n+aCx x:Nat):Int):=by rw[fE (by omega) (by omega)];omega
 simp only[aRX,e1,e2,e3,aU4,e4,e5,cE,reduceIte];exact hk
def bAK{n:Nat}:dH PG (binOp .shr cA (.int .u64 (n:Int)) (.int .u64 8))=some (.int .u64 ((n/256:Nat):Int)):=by
 rw[aJR (by decide)];congr 2;show(n:Int).fdiv (2^8)=_;rw[Int.fdiv_eq_ediv_of_nonneg _ (by decide)];have:(2:Int)^8=256:=by rfl
 omega
def aSa{h:PH}{x:Nat}(hx:x<65536){k:cD}(hk:k (.int .i64 ((aCx x:Nat):Int)) h):aT PG aGE #[.int .u64 (x:Int)] h k:=by
 apply aFw.call;unfold aFw;simp only[cE,reduceIte];apply aEW.call;unfold aEW;have e1:((4294967296:Int)≤(x:Int))=False:=eq_false (by omega);have e2:((65536:Int)≤(x:Int))=False:=eq_false (by omega);simp only[e1,cE,reduceIte];unfold aEi;simp only[e2,cE,reduceIte];unfold aEm;by_cases h8:256≤x
 ·have e3:((256:Int)≤(x:Int))=True:=eq_true (by omega);have e4:IntKind.i64.wrap ((0:Int)+8)=((8:Nat):Int):=rfl;simp only[e3,bAK,e4,cE,reduceIte];refine aT0 (by omega) (by decide) ?_;rw[aTL h8,Nat.add_comm] at hk;exact hk
 ·have e3:((256:Int)≤(x:Int))=False:=eq_false (by omega);simp only[e3,cE,reduceIte];refine aT0 (n:=0) (by omega) (by decide) ?_;rw[fP];exact hk
def eK(n:Nat):Nat:=2^Nat.log2 (n-1)
def mC{n:Nat}(h:2≤n):1≤eK n∧eK n<n:=by
 unfold eK;have:=(Nat.log2_eq_iff (n:=n-1) (k:=Nat.log2 (n-1)) (by omega)).1 rfl;have h2:0<2^Nat.log2 (n-1):=Nat.pow_pos (by decide);omega
def aO1{h:PH}{n:Nat}(h2:2≤n)(hn:n≤65536){k:cD}(hk:k (.int .i64 ((eK n:Nat):Int)) h):aT PG aCa #[.int .i64 (n:Int)] h k:=by
 apply aHm.call;unfold aHm;have e1:IntKind.i64.wrap ((n:Int)-1)=((n-1:Nat):Int):=by rw[fE (by omega) (by omega)];omega
 have e2:IntKind.u64.wrap ((n-1:Nat):Int)=((n-1:Nat):Int):=gO (by omega) (by omega);simp only[e1,aKF,e2,cE,reduceIte];refine aSa (by omega) ?_;have hlt:=mC h2;have hlen:aCx (n-1)=Nat.log2 (n-1)+1:=by unfold aCx;rw[if_neg (by omega)]
 have hlog:Nat.log2 (n-1)<16:=(Nat.log2_lt (by omega)).2 (by omega);have e3:IntKind.i64.wrap (((aCx (n-1):Nat):Int)-1)=((Nat.log2 (n-1):Nat):Int):=by rw[fE (by omega) (by omega)];omega
 have e4:∀t,dH PG (binOp .shl t (.int .i64 1) (.int .i64 ((Nat.log2 (n-1):Nat):Int)))=some (.int .i64 ((eK n:Nat):Int)):=λt=>by
  rw[aQn (by omega)];have em:min (((Nat.log2 (n-1):Nat):Int).toNat) (IntKind.i64.bits)=Nat.log2 (n-1):=by
   show min _ 64=_;omega
  have ep:(1:Int)*2^Nat.log2 (n-1)=((eK n:Nat):Int):=by
   unfold eK;rw[Int.one_mul,Int.natCast_pow];rfl
  rw[em,ep,fE (by omega) (by omega)]
 simp only[e3,e4,cE,reduceIte];exact hk
def pS(l:List Pr):Tx:=if h:2≤l.length then aAn (pS (l.take (eK l.length))) (pS (l.drop (eK l.length))) else aF1 (l.headD ⟨[],[]⟩)
termination_by l.length
decreasing_by
 ·have:=mC h;simp;omega
 ·have:=mC h;simp;omega
def aB1(l:List Pr):(pS l).length=32:=by
 rw[pS];split<;>rfl
def aAY(l:List Pr):Prop:=∀p∈l,p.k.length+p.v.length≤1000000
def gF.pair{h:PH}{v:Value}{l:List Pr}(S:gF h 2 v (l.map Pr.cells)){j:Nat}{p:Pr}(hp:l[j]? =some p):
  ∃b o,dH PG (indexAt cJ v (.int .i64 (j:Int)))=some (pT b o)∧dC h ⟨b,o,none⟩=some (.string (tx p.k))∧dC h ⟨b,o+1,none⟩=some (.string (tx p.v))∧cH PG h (loadAt cM (pT b o))=some p.val:=by
 obtain⟨b,o,h1,h2,h3⟩:=S.fields cJ.und cM.info cM.size (k:=.i64) (j:=j) (r:=p.cells) (by rw[vL,hp];rfl);exact⟨b,o,h1,h2 0 _ rfl,h2 1 _ rfl,h3 _ cM.und rfl⟩
def gF.cutP{h:PH}{v:Value}{l:List Pr}(S:gF h 2 v (l.map Pr.cells)){lo hi:Option Value}{a m:Nat}(hlo:lo=none∧a=0∨∃k,lo=some (.int k a))(hhi:hi=none∧m=l.length∨∃k,hi=some (.int k m))(h1:a≤m)(h2:m≤l.length):
  ∃v',dH PG (Instr.sliceAt cJ v lo hi none)=some v'∧gF h 2 v' (((l.take m).drop a).map Pr.cells):=by
 obtain⟨v',e,s,-⟩:=S.cut cJ.und cM.info cM.size hlo (by simpa using hhi) h1 (by simpa using h2);refine⟨v',e,?_⟩;rw[aLC,aKP];exact s
def aK8:∀(n:Nat) {h:PH} {v:Value} {l:List Pr},l.length≤n->l≠[]->l.length≤65536->oM h->gF h 2 v (l.map Pr.cells)->aAY l->∀{k:cD},(∀h',dD h h'->k (.string (tx (pS l))) h')->aT PG qL #[v] h k
 | 0,_,_,l,h0,hne,_,_,_,_,_,_=>by
  have:l=[]:=zLO (by omega);exact absurd this hne
 | n+1,h,v,l,hn,hne,hl,hK,S,hs,k,hk=>by
  apply aBG.call;unfold aBG;have lv:=S.len (t':=bT) cJ.und;rw[iY] at lv;have hpos:0<l.length:=aHW.2 hne;by_cases h1:l.length=1
  ·have e1:((l.length:Int)==1)=true:=by simp[h1]
   obtain⟨p,hp⟩:=List.length_eq_one_iff.1 h1;obtain⟨b,o,e2,-,-,e3⟩:=S.pair (j:=0) (p:=p) (by rw[hp];rfl);rw[show((0:Nat):Int)=0 from rfl] at e2;simp only[lv,e1,e2,e3,cE,reduceIte];have hd:pS l=aF1 p:=by
    rw[pS,dif_neg (by omega),hp];rfl
   rw[hd] at hk;refine aSC hK (by have:=hs p (by rw[hp];simp);omega) λh' u=>hk h' u
  ·have e1:((l.length:Int)==1)=false:=by simp;omega
   have h2:2≤l.length:=by omega
   simp only[lv,e1,cE,reduceIte];refine aO1 h2 hl ?_;have hlt:=mC h2;obtain⟨v1,s1,t1⟩:=S.cutP (lo:=none) (hi:=some (.int .i64 ((eK l.length:Nat):Int))) (a:=0) (m:=eK l.length) (.inl ⟨rfl,rfl⟩) (.inr ⟨_,rfl⟩) (by omega) (by omega);obtain⟨v2,s2,t2⟩:=S.cutP (lo:=some (.int .i64 ((eK l.length:Nat):Int))) (hi:=none) (a:=eK l.length) (m:=l.length) (.inr ⟨_,rfl⟩) (.inl ⟨rfl,rfl⟩) (by omega) (by omega);rw[zLb] at t1;rw[zLJ] at t2;simp only[s1,s2,cE,reduceIte];have hd:pS l=aAn (pS (l.take (eK l.length))) (pS (l.drop (eK l.length))):=by
    rw[pS,dif_pos h2]
   rw[hd] at hk;refine aK8 n (by simp;omega) (aKQ (by first|(rw[nW];omega)|(rw[nJ];omega))) (by simp;omega) hK t1 (λp hp=>hs p (aKs hp)) λh1 u1=>?_;refine aK8 n (by simp;omega) (aKQ (by first|(rw[nW];omega)|(rw[nJ];omega))) (by simp;omega) (hK.ext u1) (t2.ext u1) (λp hp=>hs p (aMc hp)) λh2 u2=>?_;refine aKa (hK.ext (u1.trans u2)) (by rw[aB1,aB1];decide) λh3 u3=>?_;exact hk _ ((u1.trans u2).trans u3)
def aKy{h:PH}{v:Value}{l:List Pr}(hne:l≠[])(hl:l.length≤65536)(hK:oM h)(S:gF h 2 v (l.map Pr.cells))(hs:aAY l){k:cD}(hk:∀h',dD h h'->k (.string (tx (pS l))) h'):aT PG qL #[v] h k:=
 aK8 l.length (oF _) hne hl hK S hs hk
def aSb(x:Int):dH PG (convert cA bT (.int .u64 x))=some (.int .i64 (IntKind.i64.wrap x)):=by kernel_rfl
def aYQ{t:TypeId}{m:Nat}(hm:m<18446744073709551616):dH PG (binOp .and t (.int .u64 (m:Int)) (.int .u64 255))=some (.int .u64 ((m%256:Nat):Int)):=by
 have e:dH PG (binOp .and t (.int .u64 (m:Int)) (.int .u64 255))=some (.int .u64 (IntKind.u64.wrap ((BitVec.ofInt 64 (m:Int) &&& BitVec.ofInt 64 255).toNat:Int))):=rfl;have e2:(BitVec.ofInt 64 (m:Int) &&& BitVec.ofInt 64 255).toNat=m%256:=by
  have h1:BitVec.ofInt 64 (m:Int)=BitVec.ofNat 64 m:=BitVec.ofInt_natCast ..;have h2:BitVec.ofInt 64 255=BitVec.ofNat 64 255:=by decide
  rw[h1,h2,BitVec.toNat_and,BitVec.toNat_ofNat,BitVec.toNat_ofNat,aFQ (show m<2^64 from hm)];exact Nat.and_two_pow_sub_one_eq_mod m 8
 rw[e,e2,gO (by omega) (by omega)]
def aJQ(n:Nat)(d:Tx):Tx:=sL (2::(be n 8++d))
def aQb{h:PH}{n:Nat}{d:Tx}(hK:oM h)(hn:n≤1000000)(hd:d.length≤1000000){k:cD}(hk:∀h',dD h h'->k (.string (tx (aJQ n d))) h'):aT PG aDg #[.int .i64 (n:Int),.string (tx d)] h k:=by
 apply aIu.call;unfold aIu;have e1:(if (0:Int)<(n:Int) then(n:Int) else 0)=(n:Int):=by split<;>omega
 have e2:IntKind.u64.wrap (n:Int)=n:=gO (by omega) (by omega);simp only[aKh,e1,aBa,e2,cE,reduceIte];refine⟨λvs h'=>∃i,i≤8∧vs=[.string (tx d),.int .u64 (n:Int),.string (tx ((be n 8).take i)),.int .i64 (i:Int)]∧dD h h',gT 8 3,⟨0,by omega,rfl,cT.refl⟩,?_⟩;rintro ρ h' ⟨i,hi,hvs,u⟩;simp only[iG,iX,lN,and_true] at hvs;obtain⟨v1,v5,v6,v11⟩:=hvs;simp only[v1,v5,v6,v11,iG,iX];unfold aLn;by_cases hl:i<8
 ·have f1:((i:Int)<8)=True:=eq_true (by omega);have f2:IntKind.i64.wrap (8*(i:Int))=8*(i:Int):=fE (by omega) (by omega);have f3:IntKind.i64.wrap (56-8*(i:Int))=56-8*(i:Int):=fE (by omega) (by omega);have hle:n/256^(8-1-i)≤n:=Nat.div_le_self _ _;have f4:IntKind.i64.wrap ((n/256^(8-1-i)%256:Nat):Int)=((n/256^(8-1-i)%256:Nat):Int):=fE (by omega) (by omega);have f5:=qZ (i:=i) (by omega);simp only[f1,f2,f3,aWn hl,aYQ (show n/256^(8-1-i)<18446744073709551616 by omega),aSb,f4,cE,reduceIte];refine aPC λh2 u2=>?_;rw[Nat.mod_mod];have f6:∀t,dH PG (binOp .add t (.string (tx ((be n 8).take i))) (.string (tx [UInt8.ofNat (n/256^(8-1-i)%256)])))=some (.string (tx ((be n 8).take (i+1)))):=λt=>by
   rw[mA (by rw[nW,jD];simp;omega),aJa hl]
  simp only[f6,f5,cE,reduceIte];refine⟨⟨i+1,by omega,rfl,u.trans u2⟩,?_⟩;simp only[gT,rZ,pO];omega
 ·have f1:((i:Int)<8)=False:=eq_false (by omega);have hi':i=8:=by omega
  subst hi';rw[mS (Nat.le_of_eq (jD _ _))];simp only[f1,aWg,cE,reduceIte];intro b hb;refine fT ?_
  try rw[cW]
  have u1:dD h' (h'.set b (.cells #[.string ⟨#[2]⟩,.string (tx (be n 8)),.string (tx d)] bR)):=cT.new hb;have s:gF (h'.set b (.cells #[.string ⟨#[2]⟩,.string (tx (be n 8)),.string (tx d)] bR)) 1 (.slice (some ⟨b,0,none⟩) 3 3) ([[2],be n 8,d].map jH):=(eN.lit (n:=3) (jH.rows [[2],be n 8,d]) dJ (by simp) (by decide) rfl).slR;refine aOR (hK.ext (u.trans u1)) s (by simp[jD];omega) λh3 u3=>?_;have e:aJQ n d=sL [[2],be n 8,d].flatten:=by simp[aJQ]
  rw[e] at hk;exact hk _ ((u.trans u1).trans u3)
def oA(l:List Pr):Tx:=aJQ l.length (if l=[] then [] else pS l)
def aNi{h:PH}{v:Value}{l:List Pr}(hl:l.length≤65536)(hK:oM h)(S:gF h 2 v (l.map Pr.cells))(hs:aAY l){k:cD}(hk:∀h',dD h h'->k (.string (tx (oA l))) h'):aT PG aCj #[v] h k:=by
 apply aHt.call;unfold aHt;have lv:=S.len (t':=bT) cJ.und;rw[iY] at lv;by_cases h0:l=[]
 ·subst h0;simp only[lv,zLN,show(((0:Nat):Int)==0)=true from rfl,cE,reduceIte];refine aQb (n:=0) (d:=[]) hK (by decide) (by decide) λh' u=>?_;exact hk _ u
 ·have e0:((l.length:Int)==0)=false:=by simpa using h0
  simp only[lv,e0,cE,reduceIte];refine aKy h0 hl hK S hs λh1 u1=>?_;refine aQb (hK.ext u1) (by omega) (by rw[aB1];decide) λh2 u2=>?_;have:=hk h2 (u1.trans u2);unfold oA at this;rw[if_neg h0] at this;exact this
def aO4(p:Pr):Prop:=1≤p.k.length∧p.k.length≤16∧p.v.length≤64
end
section
open Go
def oN(l:List Pr)(k:Nat):List Tx:=
 if h:2≤l.length then
  if k<eK l.length then oN (l.take (eK l.length)) k++[pS (l.drop (eK l.length))]
  else oN (l.drop (eK l.length)) (k-eK l.length)++[pS (l.take (eK l.length))]
 else []
termination_by l.length
decreasing_by
 ·have:=mC h;simp;omega
 ·have:=mC h;simp;omega
def upP(p:Pr)(i n:Nat)(path:List Tx):Option (Tx×List Tx):=
 if h:2≤n then
  match path.getLast? with
  | none=>none
  | some b=>if b.length≠32 then none else
   if i<eK n then(upP p i (eK n) path.dropLast).map λx=>(aAn x.1 b,x.2)
   else(upP p (i-eK n) (n-eK n) path.dropLast).map λx=>(aAn b x.1,x.2)
 else some (aF1 p,path)
termination_by n
decreasing_by
 ·have:=mC h;omega
 ·have:=mC h;omega
structure Lf where
 i:Int
 n:Int
 p:Pr
 path:List Tx
 deriving DecidableEq
def aYN(n:Nat):Option (Tx×List Tx)->Option Tx
 | some (d,[])=>some (aJQ n d)
 | _=>none
def qF(f:Lf):Option Tx:=
 if f.n<1∨4096<f.n∨f.i<0∨f.n≤f.i then none else aYN f.n.toNat (upP f.p f.i.toNat f.n.toNat f.path)
def aT1:∀(n:Nat) (l:List Pr) (k:Nat),l.length=n->∀d∈oN l k,d.length=32:=by
 intro n;induction n using Nat.strongRecOn with
 | ind n ih=>
  intro l k hn d hd;by_cases h2:2≤l.length
  ·obtain⟨m1,m2⟩:=mC h2;rw[oN,dif_pos h2] at hd;split at hd
   ·rcases jX.1 hd with hd|hd
    ·exact ih (eK l.length) (by omega) _ k (by rw[nW];omega) d hd
    ·simp only[gA] at hd;rw[hd];exact aB1 _
   ·rcases jX.1 hd with hd|hd
    ·exact ih (l.length-eK l.length) (by omega) _ _ (by rw[nJ]) d hd
    ·simp only[gA] at hd;rw[hd];exact aB1 _
  ·rw[oN,dif_neg h2] at hd;simp at hd
def aEw{n:Nat}(h:2≤n){d:Nat}(hd:n≤2^(d+1)):eK n≤2^d∧n-eK n≤2^d:=by
 unfold eK;have hne:n-1≠0:=by omega
 have h1:2^Nat.log2 (n-1)≤n-1:=Nat.log2_self_le hne;have h2:n-1<2^(Nat.log2 (n-1)+1):=Nat.lt_log2_self;have h3:Nat.log2 (n-1)<d+1:=(Nat.log2_lt hne).2 (by omega);have h4:2^Nat.log2 (n-1)≤2^d:=aKz (by decide) (by omega);rw[zLS] at h2;exact⟨h4,by omega⟩
def aEy:∀(d:Nat) (l:List Pr) (k:Nat),l.length≤2^d->(oN l k).length≤d
 | 0,l,k,h=>by rw[oN,dif_neg (by simp at h;omega)];simp
 | d+1,l,k,h=>by
  by_cases h2:2≤l.length
  ·obtain⟨a,b⟩:=aEw h2 h;rw[oN,dif_pos h2];split
   ·rw[jR];have:=aEy d (l.take (eK l.length)) k (by rw[nW];omega);simp;omega
   ·rw[jR];have:=aEy d (l.drop (eK l.length)) (k-eK l.length) (by rw[nJ];omega);simp;omega
  ·rw[oN,dif_neg h2];simp
def aMt(a:ByteArray):jU PG (buildSlice cP 1 #[(0,.string a)])=some (.cells #[.string a] bR,λr=>pure (.slice (some ⟨r,0,none⟩) 1 1)):=by kernel_rfl
def jH.isC(s:Tx):∀u∈jH s,fW u=true:=λu hu=>by
 simp only[jH,gU,lJ,or_false] at hu;subst hu;rfl
def fnP(a b:Nat):Value:=.func (.func aDe) #[] #[pT a 0,pT b 0]
structure aK1(h0 h:PH)(a b:Nat)(acc:List Tx)(F:List Nat):Prop where
 fn:Bx h a [fnP a b]
 out:∃v,Bx h b [v]∧eN h bR 1 v (acc.map jH) F
 ne:a≠b
 na:a∉F
 nb:b∉F
 ext:dD h0 h
 fr:eM h0 (a::b::F)
def aK1.upd{h0 h h':PH}{a b:Nat}{acc:List Tx}{F:List Nat}(H:aK1 h0 h a b acc F)(u:dD h h'):aK1 h0 h' a b acc F:=by
 obtain⟨v,B,O⟩:=H.out;exact⟨H.fn.ext u,⟨v,B.ext u,O.ext u⟩,H.ne,H.na,H.nb,H.ext.trans u,H.fr⟩
def aK1.push{h0 h:PH}{a b:Nat}{acc:List Tx}{F:List Nat}(H:aK1 h0 h a b acc F)(d:Tx){t3:Value}(ht:cH PG h (loadAt cP (pT b 0))=some t3)(hl:acc.length≤1000){R:cD}(hR:∀h' F',aK1 h0 h' a b (acc++[d]) F'->R (.tuple #[]) h'):
  (eD (jU PG (buildSlice cP 1 #[(0,.string (tx d))])) λx16=>∀r15,h r15=none->eD (dH PG (x16.2 r15)) λv17=>eJ (PH.set h r15 x16.1) λh18=>
   dA PG (Builtin.append_ #[cP,cP] cP #[t3,v17]) h18 λv19 h20=>dA PG (dS cP (pT b 0) v19) h20 λ_ h22=>R (.tuple #[]) h22):=by
 obtain⟨v,B,O⟩:=H.out;rw[cP.load,B.cell] at ht;obtain rfl:v=t3:=by simpa using ht
 simp only[aMt,cE,reduceIte];intro r hr;refine fT ?_
 try rw[cW]
 have u1:dD h (h.set r (.cells #[.string (tx d)] bR)):=cT.new hr;have s1:gF (h.set r (.cells #[.string (tx d)] bR)) 1 (.slice (some ⟨r,0,none⟩) 1 1) ([d].map jH):=(eN.lit (jH.rows [d]) dJ (by simp) (by decide) (by simp[jH])).slR;generalize h.set r (.cells #[.string (tx d)] bR)=h1 at *;have H1:=H.upd u1;refine jK cP.und cP.und bR.info bR.size bR.bytes bR.zero rfl (by decide) (O.ext u1) s1 (λr hr u hu=>by
  obtain⟨s,-,rfl⟩:=mE.1 hr;exact jH.isC s u hu) (by simp;omega) ?_
 intro v2 h2 F2 O2 u2 g2 _;rw[←qE] at O2;have nb2:b∉F2:=λhb=>by
  rcases g2 b hb with h|h
  ·exact H.nb h
  ·exact(B.ext u1).known h
 have na2:a∉F2:=λhb=>by
  rcases g2 a hb with h|h
  ·exact H.na h
  ·exact(H.fn.ext u1).known h
 refine cP.put ((B.ext u1).upd u2 H.nb) (o:=0) (by show 0<1;decide) O2.slR.isc λh3 B3 u3=>?_;refine hR h3 F2 ⟨((H.fn.ext u1).upd u2 H.na).upd u3 (by simpa using H.ne),⟨v2,B3,O2.upd u3 (λx hx=>by simp only[gA];rintro rfl;exact nb2 hx)⟩,H.ne,na2,nb2,?_,?_⟩
 ·have f1:eM h0 F:=λx hx=>H.fr x (by simp[hx]);have f2:eM h0 [b]:=λx hx=>H.fr x (by simp at hx;simp[hx]);exact(H1.ext.fresh u2 f1).fresh u3 f2
 ·intro x hx;rcases gU.1 hx with rfl|hx
  ·exact H.fr x (by simp)
  ·rcases gU.1 hx with rfl|hx
   ·exact H.fr x (by simp)
   ·rcases g2 x hx with h|h
    ·exact H.fr x (by simp[h])
    ·exact H1.ext.none h
def aI4{f:FuncId}{cap args:Array Value}{h:PH}{k:cD}:rF PG (.func (.func f) #[] cap) args h k=aT PG f (#[]++args++cap) h k:=rfl
def aOv:∀(d:Nat) {h0 h:PH} {a b:Nat} {acc:List Tx} {F:List Nat} {v:Value} {l:List Pr} {k:Nat},l.length≤2^d->d≤16->k<l.length->l.length≤4096->acc.length+d≤1000->oM h0->gF h0 2 v (l.map Pr.cells)->aAY l->aK1 h0 h a b acc F->
  ∀{kk:cD},(∀h' F',aK1 h0 h' a b (acc++oN l k) F'->kk (.tuple #[]) h')->aT PG aDe #[v,.int .i64 (k:Int),pT a 0,pT b 0] h kk
 | d,h0,h,a,b,acc,F,v,l,k,hd,hd16,hk,hl,hacc,hK,S,hs,H,kk,hkk=>by
  apply aBC.call;unfold aBC;have lv:=S.len (t':=bT) cJ.und;rw[iY] at lv;by_cases h1:l.length=1
  ·have e1:((l.length:Int)==1)=true:=by simp[h1]
   simp only[lv,iD,e1,cE,reduceIte,cU,Nat.reduceAdd];have ep:oN l k=[]:=by rw[oN,dif_neg (by omega)]
   rw[ep,zLR] at hkk;exact hkk h F H
  ·have e1:((l.length:Int)==1)=false:=by simp;omega
   have h2:2≤l.length:=by omega
   obtain⟨d,rfl⟩:∃d',d=d'+1:=by
    cases d with
    | zero=>simp at hd;omega
    | succ d'=>exact⟨d',rfl⟩
   obtain⟨q1,q2⟩:=aEw h2 hd;have hlt:=mC h2;have ld:∀{h':PH},Bx h' a [fnP a b]->cH PG h' (loadAt fR (pT a 0))=some (fnP a b):=λB=>by rw[fR.load,B.cell];rfl
   obtain⟨v1,s1,t1⟩:=S.cutP (lo:=none) (hi:=some (.int .i64 ((eK l.length:Nat):Int))) (a:=0) (m:=eK l.length) (.inl ⟨rfl,rfl⟩) (.inr ⟨_,rfl⟩) (by omega) (by omega);obtain⟨v2,s2,t2⟩:=S.cutP (lo:=some (.int .i64 ((eK l.length:Nat):Int))) (hi:=none) (a:=eK l.length) (m:=l.length) (.inr ⟨_,rfl⟩) (.inl ⟨rfl,rfl⟩) (by omega) (by omega);rw[zLb] at t1;rw[zLJ] at t2;simp only[lv,iD,e1,cE,reduceIte,cU,Nat.reduceAdd];refine aO1 h2 (by omega) ?_;have ht1:aAY (l.take (eK l.length)):=λp hp=>hs p (aKs hp);have ht2:aAY (l.drop (eK l.length)):=λp hp=>hs p (aMc hp);by_cases hkm:k<eK l.length
   ·have g:((k:Int)<((eK l.length:Nat):Int))=True:=eq_true (by omega);have ep:oN l k=oN (l.take (eK l.length)) k++[pS (l.drop (eK l.length))]:=by rw[oN,dif_pos h2,if_pos hkm]
    simp only[g,ld H.fn,s1,cE,reduceIte,cU,Nat.reduceAdd];unfold fnP;rw[aI4];refine aOv d (l:=l.take (eK l.length)) (by rw[nW];omega) (by omega) (by rw[nW];omega) (by rw[nW];omega) (by omega) hK t1 ht1 H λh3 F3 H3=>?_;obtain⟨w,B3,O3⟩:=H3.out;have lw:∀{h':PH},dD h3 h'->cH PG h' (loadAt cP (pT b 0))=some w:=λu=>by rw[cP.load,(B3.ext u).cell];rfl
    simp only[lw cT.refl,s2,cE,reduceIte,cU,Nat.reduceAdd];refine aKy (aKQ (by rw[nJ];omega)) (by rw[nJ];omega) (hK.ext H3.ext) (t2.ext H3.ext) ht2 λh4 u4=>?_;refine⟨lw u4,?_⟩;refine(H3.upd u4).push _ (lw u4) (by
     have:=aEy d (l.take (eK l.length)) k (by rw[nW];omega);rw[jR];omega) (R:=kk) λh5 F5 H5=>?_
    rw[nE,←ep] at H5;exact hkk h5 F5 H5
   ·have g:((k:Int)<((eK l.length:Nat):Int))=False:=eq_false (by omega);have ep:oN l k=oN (l.drop (eK l.length)) (k-eK l.length)++[pS (l.take (eK l.length))]:=by rw[oN,dif_pos h2,if_neg hkm]
    have es:IntKind.i64.wrap ((k:Int)-((eK l.length:Nat):Int))=((k-eK l.length:Nat):Int):=by rw[fE (by omega) (by omega)];omega
    simp only[g,ld H.fn,s2,es,cE,reduceIte,cU,Nat.reduceAdd];unfold fnP;rw[aI4];refine aOv d (l:=l.drop (eK l.length)) (by rw[nJ];omega) (by omega) (by rw[nJ];omega) (by rw[nJ];omega) (by omega) hK t2 ht2 H λh3 F3 H3=>?_;obtain⟨w,B3,O3⟩:=H3.out;have lw:∀{h':PH},dD h3 h'->cH PG h' (loadAt cP (pT b 0))=some w:=λu=>by rw[cP.load,(B3.ext u).cell];rfl
    simp only[lw cT.refl,s1,cE,reduceIte,cU,Nat.reduceAdd];refine aKy (aKQ (by rw[nW];omega)) (by rw[nW];omega) (hK.ext H3.ext) (t1.ext H3.ext) ht1 λh4 u4=>?_;refine⟨lw u4,?_⟩;refine(H3.upd u4).push _ (lw u4) (by
     have:=aEy d (l.drop (eK l.length)) (k-eK l.length) (by rw[nJ];omega);rw[jR];omega) (R:=kk) λh5 F5 H5=>?_
    rw[nE,←ep] at H5;exact hkk h5 F5 H5
termination_by d=>d
def aWt{h:PH}{v:Value}{l:List Pr}{k:Nat}(hk:k<l.length)(hl:l.length≤4096)(hK:oM h)(S:gF h 2 v (l.map Pr.cells))(hs:aAY l){kk:cD}(hkk:∀v' h' F,eN h' bR 1 v' ((oN l k).map jH) F->eM h F->dD h h'->kk v' h'):
  aT PG aHd #[v,.int .i64 (k:Int)] h kk:=by
 apply aHl.call;unfold aHl;have lv:=S.len (t':=bT) cJ.und;rw[iY] at lv;have g1:((k:Int)<0)=False:=eq_false (by omega);have g2:((l.length:Int)≤(k:Int))=False:=eq_false (by omega);simp only[lv,g1,g2,cE,reduceIte,cU,Nat.reduceAdd];intro r17 hr17
 try rw[cW]
 have u1:dD h (h.set r17 (.cells (dR PG cP) cP)):=cT.new hr17;have B1:=cP.zbox (h:=h) (r:=r17);generalize h.set r17 (.cells (dR PG cP) cP)=h1 at *;intro r19 hr19
 try rw[cW]
 try simp only[oO,cE,reduceIte,cU,Nat.reduceAdd]
 refine fR.fill hr19 rfl λh2 B2 u2=>?_;have ld:cH PG h2 (loadAt fR (pT r19 0))=some (fnP r19 r17):=by rw[fR.load,B2.cell];rfl
 have ne:r19≠r17:=λe=>(B1.apart hr19) e.symm;have H:aK1 h h2 r19 r17 [] []:=⟨B2,⟨_,B1.ext u2,eN.nil⟩,ne,by simp,by simp,u1.trans u2,λx hx=>by
  rcases gU.1 hx with rfl|hx
  ·exact u1.none hr19
  ·simp at hx;subst hx;exact hr17⟩
 simp only[ld,cE,reduceIte,cU,Nat.reduceAdd];unfold fnP;rw[aI4];refine aOv 12 (by omega) (by decide) hk hl (by simp) hK S hs H λh3 F3 H3=>?_;obtain⟨w,B3,O3⟩:=H3.out;have lw:cH PG h3 (loadAt cP (pT r17 0))=some w:=by rw[cP.load,B3.cell];rfl
 simp only[lw,cE,reduceIte,cU,Nat.reduceAdd];rw[xS] at O3;exact hkk w h3 F3 O3 (λx hx=>H3.fr x (by simp[hx])) H3.ext
def Lf.cells(f:Lf)(v:Value):List Value:=[.int .i64 f.i,.int .i64 f.n,.string (tx f.p.k),.string (tx f.p.v),v]
def Lf.val(f:Lf)(v:Value):Value:=.agg (f.cells v).toArray
def fnU(c p o g:Nat):Value:=.func (.func aCO) #[] #[pT c 0,pT p 0,pT o 0,pT g 0]
structure aHE(h0 h:PH)(c p o g:Nat)(f:Lf)(fv:Value)(path:List Tx)(ok:Bool):Prop where
 leaf:Bx h c (f.cells fv)
 pth:∃v,Bx h p [v]∧gF h0 1 v (path.map jH)
 okb:Bx h o [.bool ok]
 fn:Bx h g [fnU c p o g]
 cp:c≠p
 co:c≠o
 po:p≠o
 gp:g≠p
 go:g≠o
 ext:dD h0 h
 fp:h0 p=none
 fo:h0 o=none
def aHE.upd{h0 h h':PH}{c p o g:Nat}{f:Lf}{fv:Value}{path:List Tx}{ok:Bool}(H:aHE h0 h c p o g f fv path ok)(u:dD h h'):aHE h0 h' c p o g f fv path ok:=by
 obtain⟨v,B,S⟩:=H.pth;exact⟨H.leaf.ext u,⟨v,B.ext u,S⟩,H.okb.ext u,H.fn.ext u,H.cp,H.co,H.po,H.gp,H.go,H.ext.trans u,H.fp,H.fo⟩
def aHE.fail{h0 h:PH}{c p o g:Nat}{f:Lf}{fv:Value}{path:List Tx}{ok:Bool}(H:aHE h0 h c p o g f fv path ok){R:cD}(hR:∀h',aHE h0 h' c p o g f fv path false->R undef h'):
  dA PG (dS gP (pT o 0) (.bool false)) h R:=by
 obtain⟨v,B,S⟩:=H.pth;refine gP.put H.okb (o:=0) (by show 0<1;decide) rfl λh1 B1 u1=>?_;exact hR h1 ⟨H.leaf.upd u1 (by simpa using H.co),⟨v,B.upd u1 (by simpa using H.po),S⟩,B1,H.fn.upd u1 (by simpa using H.go),H.cp,H.co,H.po,H.gp,H.go,H.ext.fresh u1 (eM.one H.fo),H.fp,H.fo⟩
def aHE.step{h0 h:PH}{c p o g:Nat}{f:Lf}{fv:Value}{path path':List Tx}{ok:Bool}(H:aHE h0 h c p o g f fv path ok){v':Value}(S':gF h0 1 v' (path'.map jH)){R:cD}(hR:∀h',aHE h0 h' c p o g f fv path' ok->R undef h'):
  dA PG (dS cP (pT p 0) v') h R:=by
 obtain⟨v,B,S⟩:=H.pth;refine cP.put B (o:=0) (by show 0<1;decide) S'.isc λh1 B1 u1=>?_;exact hR h1 ⟨H.leaf.upd u1 (by simpa using H.cp),⟨v',B1,S'⟩,H.okb.upd u1 (by simpa using H.po.symm),H.fn.upd u1 (by simpa using H.gp),H.cp,H.co,H.po,H.gp,H.go,H.ext.fresh u1 (eM.one H.fp),H.fp,H.fo⟩
def aTj(p:Pr):(aF1 p).length=32:=rfl
def aJw(a b:Tx):(aAn a b).length=32:=rfl
def aTB:∀(d:Nat) {h0 h:PH} {c p o g:Nat} {f:Lf} {fv:Value} {path:List Tx} {ok:Bool} {n i:Nat},n≤2^d->1≤n->n≤4096->i<n->path.length≤1000000->f.p.k.length+f.p.v.length≤10000000->oM h0->aHE h0 h c p o g f fv path ok->
  ∀{kk:cD},(∀dg rest h',upP f.p i n path=some (dg,rest)->dg.length=32->rest.length≤path.length->aHE h0 h' c p o g f fv rest ok->kk (.string (tx dg)) h')->(∀s rest h',upP f.p i n path=none->s.length≤100->aHE h0 h' c p o g f fv rest false->kk (.string (tx s)) h')->
  aT PG aCO #[.int .i64 (i:Int),.int .i64 (n:Int),pT c 0,pT p 0,pT o 0,pT g 0] h kk
 | d,h0,h,c,p,o,g,f,fv,path,ok,n,i,hd,h1n,hn,hi,hpl,hsm,hK,H,kk,hgood,hbad=>by
  apply aE6.call;unfold aE6;by_cases h1:n=1
  ·subst h1;have e1:(((1:Nat):Int)==1)=true:=rfl;have lp:cH PG h (loadAt cM (pT c 2))=some f.p.val:=cM.agg H.leaf (by show 2+2≤5;decide);simp only[iD,e1,cB.f2,fP,lp,cE,reduceIte,cU,Nat.reduceAdd];refine aSC (hK.ext H.ext) hsm λh2 u2=>?_;exact hgood _ path h2 (by rw[upP,dif_neg (by decide)]) (aTj _) (oF _) (H.upd u2)
  ·have h2:2≤n:=by omega
   have e1:((n:Int)==1)=false:=by simp;omega
   obtain⟨d,rfl⟩:∃d',d=d'+1:=by
    cases d with
    | zero=>simp at hd;omega
    | succ d'=>exact⟨d',rfl⟩
   obtain⟨q1,q2⟩:=aEw h2 hd;have hlt:=mC h2;obtain⟨v,B,S⟩:=H.pth;have lv:=(S.ext H.ext).len (t':=bT) cP.und;rw[iY] at lv;have lp:cH PG h (loadAt cP (pT p 0))=some v:=by rw[cP.load,B.cell];rfl
   simp only[iD,e1,cE,reduceIte,cU,Nat.reduceAdd];refine aO1 h2 (by omega) ?_;have q0:({data:=#[]}:ByteArray)=tx []:=rfl;rcases List.eq_nil_or_concat path with hnil|⟨ini,b,hpath⟩
   ·subst hnil;have e2:(((List.length ([]:List Tx):Nat):Int)==0)=true:=rfl;simp only[lp,lv,iD,e2,cE,reduceIte,cU,Nat.reduceAdd];refine H.fail λh3 H3=>?_;rw[q0];exact hbad [] [] h3 (by rw[upP,dif_pos h2];rfl) (by simp) H3
   ·rw[List.concat_eq_append] at hpath;subst hpath;have hlen:(ini++[b]).length=ini.length+1:=by simp
    rw[hlen] at lv hpl;have e2:(((ini.length+1:Nat):Int)==0)=false:=by rw[beq_eq_false_iff_ne];omega
    have es:IntKind.i64.wrap (((ini.length+1:Nat):Int)-1)=((ini.length:Nat):Int):=by rw[fE (by omega) (by omega)];omega
    obtain⟨pa,p1,q1'⟩:=(S.ext H.ext).loadCell cP.und bR.info bR.size bR.und rfl (k:=.i64) (j:=(ini.length:Int)) (x:=.string (tx b)) (by omega) (by rw[qN,vL,List.getElem?_append_right (oF _)];simp[jH]);have lb:dH PG (Builtin.len_ #[bR] bT #[.string (tx b)])=some (.int .i64 (b.length:Int)):=by rw[mI bR.und,iC]
    by_cases hb:b.length=32
    case neg=>
     have e3:((b.length:Int) !=32)=true:=by simp;omega
     simp only[lp,lv,iD,kN,e2,es,p1,q1',lb,e3,cE,reduceIte,cU,Nat.reduceAdd];refine H.fail λh3 H3=>?_;rw[q0];exact hbad [] _ h3 (by rw[upP,dif_pos h2,List.getLast?_concat];simp[hb]) (by simp) H3
    have e3:((b.length:Int) !=32)=false:=by simp;omega
    obtain⟨v',c1,c2,-⟩:=S.cut cP.und bR.info bR.size (lo:=none) (hi:=some (.int .i64 (ini.length:Int))) (l:=0) (m:=ini.length) (.inl ⟨rfl,rfl⟩) (.inr ⟨_,rfl⟩) (by omega) (by simp);have ec:(((ini++[b]).map jH).take ini.length).drop 0=ini.map jH:=by
     rw[zLb,qE,zLH (by simp),mS (by simp)]
    rw[ec] at c2;simp only[lp,lv,iD,kN,e2,es,p1,q1',lb,e3,c1,cE,reduceIte,cU,Nat.reduceAdd];refine H.step c2 λh3 H3=>?_;have ld:cH PG h3 (loadAt fX (pT g 0))=some (fnU c p o g):=by rw[fX.load,H3.fn.cell];rfl
    have eu:upP f.p i n (ini++[b])=if i<eK n then(upP f.p i (eK n) ini).map λx=>(aAn x.1 b,x.2) else(upP f.p (i-eK n) (n-eK n) ini).map λx=>(aAn b x.1,x.2):=by
     rw[upP,dif_pos h2,List.getLast?_concat,List.dropLast_concat];simp[hb]
    by_cases hil:i<eK n
    ·have g1:((i:Int)<((eK n:Nat):Int))=True:=eq_true (by omega);rw[if_pos hil] at eu;simp only[g1,ld,cE,reduceIte,cU,Nat.reduceAdd];unfold fnU;rw[aI4];refine aTB d (n:=eK n) (i:=i) q1 hlt.1 (by omega) hil (by omega) hsm hK H3 (λdg rest h4 e4 l4 r4 H4=>?_) (λs rest h4 e4 l4 H4=>?_)
     ·refine aKa (hK.ext H4.ext) (by omega) λh5 u5=>?_;exact hgood _ rest h5 (by rw[eu,e4];rfl) (aJw _ _) (by rw[hlen];omega) (H4.upd u5)
     ·refine aKa (hK.ext H4.ext) (by omega) λh5 u5=>?_;exact hbad _ rest h5 (by rw[eu,e4];rfl) (by rw[aJw];decide) (H4.upd u5)
    ·have g1:((i:Int)<((eK n:Nat):Int))=False:=eq_false (by omega);rw[if_neg hil] at eu;have w1:IntKind.i64.wrap ((i:Int)-((eK n:Nat):Int))=((i-eK n:Nat):Int):=by rw[fE (by omega) (by omega)];omega
     have w2:IntKind.i64.wrap ((n:Int)-((eK n:Nat):Int))=((n-eK n:Nat):Int):=by rw[fE (by omega) (by omega)];omega
     simp only[g1,ld,w1,w2,cE,reduceIte,cU,Nat.reduceAdd];unfold fnU;rw[aI4];refine aTB d (n:=n-eK n) (i:=i-eK n) q2 (by omega) (by omega) (by omega) (by omega) hsm hK H3 (λdg rest h4 e4 l4 r4 H4=>?_) (λs rest h4 e4 l4 H4=>?_)
     ·refine aKa (hK.ext H4.ext) (by omega) λh5 u5=>?_;exact hgood _ rest h5 (by rw[eu,e4];rfl) (aJw _ _) (by rw[hlen];omega) (H4.upd u5)
     ·refine aKa (hK.ext H4.ext) (by omega) λh5 u5=>?_;exact hbad _ rest h5 (by rw[eu,e4];rfl) (by rw[aJw];decide) (H4.upd u5)
termination_by d=>d
def aVx{h:PH}{f:Lf}{fv:Value}(S:gF h 1 fv (f.path.map jH))(hpl:f.path.length≤1000000)(hsm:f.p.k.length+f.p.v.length≤10000000)(hK:oM h){kk:cD}
  (hgood:∀t h',qF f=some t->t.length=32->dD h h'->kk (.tuple #[.string (tx t),.bool true]) h') (hbad:qF f=none->∀h',dD h h'->kk (.tuple #[.string (tx []),.bool false]) h'):
  aT PG aGw #[f.val fv] h kk:=by
 apply aGx.call;unfold aGx;intro r1 hr1
 try rw[cW]
 have u1:dD h (h.set r1 (.cells (Value.cells (f.val fv)) cB)):=cT.new hr1;have B1:Bx (h.set r1 (.cells (Value.cells (f.val fv)) cB)) r1 (f.cells fv):=Bx.new;generalize h.set r1 (.cells (Value.cells (f.val fv)) cB)=h1 at *;have li:∀{h':PH},Bx h' r1 (f.cells fv)->cH PG h' (loadAt bT (pT r1 0))=some (.int .i64 f.i):=λB=>by rw[bT.load,B.cell];rfl
 have ln:∀{h':PH},Bx h' r1 (f.cells fv)->cH PG h' (loadAt bT (pT r1 1))=some (.int .i64 f.n):=λB=>by rw[bT.load,B.cell];rfl
 have lp:cH PG h1 (loadAt cP (pT r1 4))=some fv:=by rw[cP.load,B1.cell];rfl
 have q0:({data:=#[]}:ByteArray)=tx []:=rfl;by_cases a1:f.n<1
 ·have g1:=eq_true a1;simp only[cB.f1,fP,ln B1,g1,q0,cE,reduceIte,cU,Nat.reduceAdd];exact hbad (by unfold qF;rw[if_pos (.inl a1)]) _ u1
 have g1:=eq_false a1;by_cases a2:4096<f.n
 ·have g2:=eq_true a2;simp only[cB.f1,fP,ln B1,g1,g2,q0,cE,reduceIte,cU,Nat.reduceAdd];exact hbad (by unfold qF;rw[if_pos (.inr (.inl a2))]) _ u1
 have g2:=eq_false a2;by_cases a3:f.i<0
 ·have g3:=eq_true a3;simp only[cB.f1,cB.f0,fP,ln B1,li B1,g1,g2,g3,q0,cE,reduceIte,cU,Nat.reduceAdd];exact hbad (by unfold qF;rw[if_pos (.inr (.inr (.inl a3)))]) _ u1
 have g3:=eq_false a3;by_cases a4:f.n≤f.i
 ·have g4:=eq_true a4;simp only[cB.f1,cB.f0,fP,ln B1,li B1,g1,g2,g3,g4,q0,cE,reduceIte,cU,Nat.reduceAdd];exact hbad (by unfold qF;rw[if_pos (.inr (.inr (.inr a4)))]) _ u1
 have g4:=eq_false a4;have hc:qF f=aYN f.n.toNat (upP f.p f.i.toNat f.n.toNat f.path):=by
  unfold qF;rw[if_neg (by omega)]
 simp only[cB.f1,cB.f0,cB.f3,fP,ln B1,li B1,lp,g1,g2,g3,g4,cE,reduceIte,cU,Nat.reduceAdd];intro r55 hr55
 try rw[cW]
 have u2:dD h1 (h1.set r55 (.cells (dR PG cP) cP)):=cT.new hr55;have B2:=cP.zbox (h:=h1) (r:=r55);have C1:=B1.ext u2;generalize h1.set r55 (.cells (dR PG cP) cP)=h2 at *;intro r57 hr57
 try rw[cW]
 have u3:dD h2 (h2.set r57 (.cells (dR PG gP) gP)):=cT.new hr57;have B3:=gP.zbox (h:=h2) (r:=r57);have D1:=C1.ext u3;have D2:=B2.ext u3;have n57:r55≠r57:=B2.apart hr57;have n57':r1≠r57:=C1.apart hr57;have n55':r1≠r55:=B1.apart hr55;generalize h2.set r57 (.cells (dR PG gP) gP)=h3 at *;refine cP.put D2 (o:=0) (by decide) S.isc λh4 B4 u4=>?_;have E1:=D1.upd u4 (by simpa using n55');have E3:=B3.upd u4 (by simpa using n57.symm);refine gP.put E3 (o:=0) (by decide) rfl λh5 B5 u5=>?_;have G1:=E1.upd u5 (by simpa using n57');have G4:=B4.upd u5 (by simpa using n57);intro r63 hr63
 try rw[cW]
 try simp only[oO,cE,reduceIte,cU,Nat.reduceAdd]
 refine fX.fill hr63 rfl λh6 B6 u6=>?_;have k55:h r55=none:=u1.none hr55;have k57:h r57=none:=(u1.trans u2).none hr57;have ex6:dD h h6:=(((((u1.trans u2).trans u3).fresh u4 (eM.one k55)).fresh u5 (eM.one k57))).trans u6;have n63p:r63≠r55:=(G4.apart hr63).symm;have n63o:r63≠r57:=(B5.apart hr63).symm;have H:aHE h h6 r1 r55 r57 r63 f fv f.path true:=⟨G1.ext u6,⟨fv,G4.ext u6,S⟩,B5.ext u6,B6,n55',n57',n57,n63p,n63o,ex6,k55,k57⟩;have ld:cH PG h6 (loadAt fX (pT r63 0))=some (fnU r1 r55 r57 r63):=by rw[fX.load,B6.cell];rfl
 have lo:∀{h':PH} {path ok},aHE h h' r1 r55 r57 r63 f fv path ok->cH PG h' (loadAt gP (pT r57 0))=some (.bool ok):=λH=>by rw[gP.load,H.okb.cell];rfl
 obtain⟨i,hi⟩:=zLn (Int.not_lt.1 a3);obtain⟨n,hn⟩:=zLn (show 0≤f.n by omega);rw[hi,hn,qN,qN] at hc;simp only[ld,cB.f0,cB.f1,fP,li H.leaf,ln H.leaf,hi,hn,cE,reduceIte,cU,Nat.reduceAdd];unfold fnU;rw[aI4];refine aTB 12 (by omega) (by omega) (by omega) (by omega) hpl hsm hK H (λdg rest h7 e7 l7 r7 H7=>?_) (λs rest h7 e7 l7 H7=>?_)
 ·obtain⟨v7,B7,S7⟩:=H7.pth;have l55:cH PG h7 (loadAt cP (pT r55 0))=some v7:=by rw[cP.load,B7.cell];rfl
  have lv:=S7.len (t':=bT) cP.und;rw[iY] at lv;cases rest with
  | nil=>
   have hg:((0:Int)<((([]:List Tx).length:Nat):Int))=False:=eq_false (by simp);simp only[lo H7,l55,lv,hg,cB.f1,fP,ln H7.leaf,hn,cE,reduceIte,cU,Nat.reduceAdd];refine aQb (hK.ext H7.ext) (by omega) (by omega) λh8 u8=>?_;exact hgood _ h8 (by rw[hc,e7];rfl) rfl (H7.ext.trans u8)
  | cons x rest=>
   have hg:((0:Int)<(((x::rest).length:Nat):Int))=True:=eq_true (by rw[pY];omega);simp only[lo H7,l55,lv,hg,q0,cE,reduceIte,cU,Nat.reduceAdd];exact hbad (by rw[hc,e7];rfl) _ H7.ext
 ·simp only[lo H7,q0,cE,reduceIte,cU,Nat.reduceAdd];exact hbad (by rw[hc,e7];rfl) _ H7.ext
structure It where
 p:Pk
 g:Int
 deriving DecidableEq
instance:Inhabited It:=⟨⟨default,0⟩⟩
def It.cells(i:It):List Value:=[.int .i64 i.p.f,.int .u64 i.p.s,.int .u64 i.p.t,.string i.p.d,.int .i64 i.g]
abbrev Ky:=Int×Int
def Pk.key(p:Pk):Ky:=(p.f,p.s)
def It.key(i:It):Ky:=i.p.key
def vO(k:Ky):Value:=.agg #[.int .i64 k.1,.int .u64 k.2]
def It.val(i:It):Value:=.agg i.cells.toArray
def It.allCell(p:It):∀v∈p.cells.toArray.toList,fW v=true:=by simp[It.cells,fW]
def It.rows(l:List It):Rows 5 (l.map It.cells):=λr hr=>by obtain⟨m,_,rfl⟩:=mE.1 hr;rfl
def Bx.it{h:PH}{r:Nat}{n:It}(H:Bx h r n.cells):cH PG h (loadAt dW (pT r 0))=some n.val:=by
 obtain⟨e,h1⟩:=H;rw[dW.loadAgg h1 (by show 0+5≤5;decide)];rfl
def Bx.id{h:PH}{r:Nat}{k:Ky}(H:Bx h r [.int .i64 k.1,.int .u64 k.2]):cH PG h (loadAt gB (pT r 0))=some (vO k):=by
 obtain⟨e,h1⟩:=H;rw[gB.loadAgg h1 (by show 0+2≤2;decide)];rfl
def aFN(a b:Int):Int:=if a<b then -1 else if b<a then 1 else 0
def aOt{h:PH}(a b:Int){k:cD}(hk:k (.int .i64 (aFN a b)) h):aT PG aEr #[.int .i64 a,.int .i64 b] h k:=by
 have hn:∀(x:Int) {k':cD},k' (.bool false) h->aT PG aDJ #[.int .i64 x] h k':=λx k' hk'=>by
  apply aFv.call;unfold aFv;have e:(x !=x)=false:=by simp
  simp only[e,cE,reduceIte];exact hk'
 apply aED.call;unfold aED;refine hn a (hn b ?_);unfold aFN at hk;by_cases h1:a<b
 ·simp only[h1,cE,reduceIte] at hk ⊢;exact hk
 ·by_cases h2:b<a
  ·simp only[h1,h2,cE,reduceIte] at hk ⊢;exact hk
  ·simp only[h1,h2,cE,reduceIte] at hk ⊢;exact hk
def aM4{h:PH}(a b:Int){k:cD}(hk:k (.int .i64 (aFN a b)) h):aT PG aCd #[.int .u64 a,.int .u64 b] h k:=by
 have hn:∀(x:Int) {k':cD},k' (.bool false) h->aT PG aAr #[.int .u64 x] h k':=λx k' hk'=>by
  apply aDP.call;unfold aDP;have e:(x !=x)=false:=by simp
  simp only[e,cE,reduceIte];exact hk'
 apply aBp.call;unfold aBp;refine hn a (hn b ?_);unfold aFN at hk;by_cases h1:a<b
 ·simp only[h1,cE,reduceIte] at hk ⊢;exact hk
 ·by_cases h2:b<a
  ·simp only[h1,h2,cE,reduceIte] at hk ⊢;exact hk
  ·simp only[h1,h2,cE,reduceIte] at hk ⊢;exact hk
def aMp(x:Int):List Value:=[.int .i64 x]
def aMp.rows(l:List Int):Rows 1 (l.map aMp):=λr hr=>by obtain⟨m,_,rfl⟩:=mE.1 hr;rfl
def aZw{h:PH}{v:Value}{a b:Int}(H:gF h 1 v ([a,b].map aMp)){k:cD}(hk:k (.int .i64 (if a≠0 then a else b)) h):aT PG aId #[v] h k:=by
 have lv:=H.len (t':=bT) nK.und;obtain⟨x,x1,x2⟩:=H.loadCell (k:=.i64) (j:=0) (x:=.int .i64 a) nK.und bT.info bT.size bT.und rfl (by decide) rfl;obtain⟨y,y1,y2⟩:=H.loadCell (k:=.i64) (j:=1) (x:=.int .i64 b) nK.und bT.info bT.size bT.und rfl (by decide) rfl;apply aIv.call;unfold aIv;have e0:(([a,b].map aMp).length:Int)=2:=rfl;rw[e0] at lv;simp only[lv,cE,reduceIte];refine⟨λvs h'=>∃i:Nat,i≤2∧vs=[.int .i64 0,v,.int .i64 2,.int .i64 i]∧h'=h∧(1≤i->a=0)∧(2≤i->b=0),gT 2 3,⟨0,by omega,rfl,rfl,by omega,by omega⟩,?_⟩;rintro ρ h' ⟨i,hi,hvs,rfl,ha,hb⟩;simp only[iG,iX,lN,and_true] at hvs;obtain⟨e0,e1,e2,e3⟩:=hvs;rw[e0,e1,e2,e3];unfold aLf;have hc:i=0∨i=1∨i=2:=by omega
 rcases hc with rfl|rfl|rfl
 ·have d0:(((0:Nat):Int)<2)=True:=by simp
  have w0:IntKind.i64.wrap (((0:Nat):Int)+1)=((1:Nat):Int):=by rw[fE (by omega) (by omega)];rfl
  simp only[d0,Int.natCast_zero,x1,x2,cE,reduceIte];by_cases hz:a=0
  ·have e:(a !=0)=false:=by simp[hz]
   have w0':IntKind.i64.wrap ((0:Int)+1)=((1:Nat):Int):=w0;simp only[e,w0',cE,reduceIte];exact⟨⟨1,by omega,rfl,by trivial,λ_=>hz,by omega⟩,by simp[gT,e3]⟩
  ·have e:(a !=0)=true:=by simp[hz]
   simp only[e,cE,reduceIte];rw[if_pos hz] at hk;exact hk
 ·have d0:(((1:Nat):Int)<2)=True:=by simp
  have w0:IntKind.i64.wrap ((1:Int)+1)=((2:Nat):Int):=by rw[fE (by omega) (by omega)];rfl
  have c1:((1:Nat):Int)=1:=rfl;have hz:=ha (by omega);simp only[d0,c1,y1,y2,cE,reduceIte];by_cases hy:b=0
  ·have e:(b !=0)=false:=by simp[hy]
   simp only[e,w0,cE,reduceIte];exact⟨⟨2,by omega,rfl,by trivial,λ_=>hz,λ_=>hy⟩,by simp[gT,e3]⟩
  ·have e:(b !=0)=true:=by simp[hy]
   simp only[e,cE,reduceIte];rw[if_neg (by simp[hz])] at hk;exact hk
 ·have d0:(((2:Nat):Int)<2)=False:=by simp
  simp only[d0,cE,reduceIte];rw[if_neg (by simp[ha (by omega)]),hb (by omega)] at hk;exact hk
def cfI(a b:It):Int:=if aFN a.p.f b.p.f≠0 then aFN a.p.f b.p.f else aFN a.p.s b.p.s
def aXC{h:PH}(a b:It){k:cD}(hk:∀h',dD h h'->k (.int .i64 (cfI a b)) h'):aT PG rX #[.agg a.cells.toArray,.agg b.cells.toArray] h k:=by
 apply rM.call;unfold rM;intro r1 hr1;rw[cW];intro r3 hr3;rw[cW];have u1:dD h (h.set r1 (.cells a.cells.toArray dW)):=cT.new hr1;have b1:Bx (h.set r1 (.cells a.cells.toArray dW)) r1 a.cells:=Bx.new;show eD _ _;have u3:dD (h.set r1 (.cells a.cells.toArray dW)) ((h.set r1 (.cells a.cells.toArray dW)).set r3 (.cells b.cells.toArray dW)):=cT.new hr3;have b3:Bx ((h.set r1 (.cells a.cells.toArray dW)).set r3 (.cells b.cells.toArray dW)) r3 b.cells:=Bx.new;have b1':=b1.ext u3;have u:=u1.trans u3;change dD h ((h.set r1 (.cells (Value.cells (.agg a.cells.toArray)) dW)).set r3 (.cells (Value.cells (.agg b.cells.toArray)) dW)) at u;change Bx ((h.set r1 (.cells (Value.cells (.agg a.cells.toArray)) dW)).set r3 (.cells (Value.cells (.agg b.cells.toArray)) dW)) r3 _ at b3;change Bx ((h.set r1 (.cells (Value.cells (.agg a.cells.toArray)) dW)).set r3 (.cells (Value.cells (.agg b.cells.toArray)) dW)) r1 _ at b1';generalize (h.set r1 (.cells (Value.cells (.agg a.cells.toArray)) dW)).set r3 (.cells (Value.cells (.agg b.cells.toArray)) dW)=h4 at *;have c1:dC h4 ⟨r1,0,none⟩=some (.int .i64 a.p.f):=b1'.cell 0;have c2:dC h4 ⟨r1,1,none⟩=some (.int .u64 a.p.s):=b1'.cell 1;have c3:dC h4 ⟨r3,0,none⟩=some (.int .i64 b.p.f):=b3.cell 0;have c4:dC h4 ⟨r3,1,none⟩=some (.int .u64 b.p.s):=b3.cell 1;simp only[dW.f0,aR.f0,aR.f1,fP,bT.load,cA.load,c1,c2,c3,c4,cE,reduceIte];refine aOt _ _ ⟨c4,c2,?_⟩;refine aM4 _ _ ?_;have hb:jU PG (buildSlice nK 2 #[(0,.int .i64 (aFN a.p.f b.p.f)),(1,.int .i64 (aFN a.p.s b.p.s))])=some (.cells #[.int .i64 (aFN a.p.f b.p.f),.int .i64 (aFN a.p.s b.p.s)] bT (0,0),λr=>pure (.slice (some ⟨r,0,none⟩) 2 2)):=by kernel_rfl
 rw[hb,aEZ];intro r hr;refine fT ?_
 try rw[cW]
 have hO:eN (h4.set r (.cells #[.int .i64 (aFN a.p.f b.p.f),.int .i64 (aFN a.p.s b.p.s)] bT (0,0))) bT 1 (.slice (some ⟨r,0,none⟩) 2 2) ([aFN a.p.f b.p.f,aFN a.p.s b.p.s].map aMp) [r]:=
  eN.lit (aMp.rows _) dJ rfl (by decide) rfl
 refine aZw hO.slR (hk _ ?_);exact u.trans (cT.new hr)
def sO(k:Tx):Value:=.string (tx k)
def aZW{h:PH}{n:Nat}(a b:Tx):cH PG h (Op.equalIn (n+1) bR (.string (tx a)) (.string (tx b)))=some (decide (a=b)):=by
 rw[aHn bR.und,aGQ];congr 1;rw[zLm];simp only[decide_eq_true_eq];exact⟨aMN,λe=>by rw[e]⟩
def aFp{h:PH}{t:TypeId}{x y:Operand}(a b:Tx):cH PG h (jY .neq t x y (.string (tx a)) (.string (tx b)))=some (.bool (!decide (a=b))):=by
 have e:cH PG h (jY .neq t x y (.string (tx a)) (.string (tx b)))=some (.bool (!((tx a).toList==(tx b).toList))):=rfl;rw[e,aCs,aCs];congr 3;rw[zLm];simp
def aFa{h:PH}{t:TypeId}{x y:Operand}(a b:Tx):cH PG h (jY .eql t x y (.string (tx a)) (.string (tx b)))=some (.bool (decide (a=b))):=by
 have e:cH PG h (jY .eql t x y (.string (tx a)) (.string (tx b)))=some (.bool ((tx a).toList==(tx b).toList)):=rfl;rw[e,aCs,aCs];congr 2;rw[zLm];simp
def aI8:aJ7 PG bR sO where
 chk:=λh b a=>by unfold sO;cases b<;>kernel_rfl
 eq:=λh a b=>aZW (n:=9999) a b
 bits:=λa=>by
  show Instr.sameBits (9999+1) (.string (tx a)) (.string (tx a))=true;simp[Instr.sameBits,aGQ]
 now:=⟨_,bR.und,.inr λa b=>by
  unfold sO;show some (tx a==tx b)=_;rw[aGQ];congr 1;rw[zLm];simp only[decide_eq_true_eq];exact⟨aMN,λe=>by rw[e]⟩⟩
def aGc{h:PH}{e:TypeId}{n:Nat}{v:Value}{rows:List (List Value)}{F:List Nat}(O:eN h e n v rows F):aDM v F:=λy m c e1=>by
 rcases O.here with⟨e2,_,_⟩|⟨b,cap',cs,e2,e3,_⟩
 ·rw[e2] at e1;cases e1
 ·rw[e2] at e1;simp only[Value.slice.injEq,yB] at e1;rw[←e1.1,e3];simp
structure Msg where
 kind:Int
 dest:Int
 height:Int
 pfrom:Int
 pseq:Int
 ptimeout:Int
 pdata:ByteArray
 proof:ByteArray
 deriving DecidableEq
def mv(l:List Msg)(k to:Nat)(m:Msg):List Msg:=
 if k<to then l.take k++(l.drop (k+1)).take (to-k)++[m]++l.drop (to+1) else l.take to++[m]++(l.drop to).take (k-to)++l.drop (k+1)
def aP4(x:Int):dH PG (convert bT nU (.int .i64 x))=some (.int .u64 (IntKind.u64.wrap x)):=by kernel_rfl
def aP6(x:Int):dH PG (convert nU bT (.int .u64 x))=some (.int .i64 (IntKind.i64.wrap x)):=by kernel_rfl
def aUC{h:PH}{n:Nat}{fid:FuncId}{cap:Array Value}{f:Nat->Bool}(hn:n≤1000000000)(hm:∀i j,i≤j->j<n->f i=true->f j=true)
  (hf:∀i,i<n->∀k',k' (.bool (f i)) h->aT PG fid (#[] ++ #[.int .i64 i]++cap) h k') {k:cD}
  (hk:∀m,m≤n->(∀i,i<m->f i=false)->(∀i,m≤i->i<n->f i=true)->k (.int .i64 m) h):
  aT PG aHb #[.int .i64 n,.func (.func fid) #[] cap] h k:=by
 apply aHq.call;unfold aHq;refine⟨λvs h'=>∃i j:Nat,i≤j∧j≤n∧vs=[.func (.func fid) #[] cap,.int .i64 i,.int .i64 j]∧h'=h∧(∀x,x<i->f x=false)∧(∀x,j≤x->x<n->f x=true),λvs _=>match vs with|[_,.int _ i,.int _ j]=>(j-i).toNat|_=>0,⟨0,n,by omega,by omega,rfl,rfl,by omega,by omega⟩,?_⟩;rintro ρ h' ⟨i,j,hij,hj,hvs,rfl,h1,h2⟩;simp only[iG,iX,lN,and_true] at hvs;obtain⟨e0,e1,e2⟩:=hvs;rw[e0,e1,e2];unfold aKY;by_cases hc:i<j
 ·have hd:((i:Int)<(j:Int))=True:=by simp only[eq_iff_iff,iff_true];omega
  have a1:IntKind.i64.wrap ((i:Int)+(j:Int))=((i+j:Nat):Int):=by rw[fE (by omega) (by omega)];omega
  have a2:IntKind.u64.wrap ((i+j:Nat):Int)=((i+j:Nat):Int):=by
   unfold IntKind.wrap;simp[IntKind.signed,IntKind.bits];omega
  have a3:((i+j:Nat):Int).fdiv (2^(min (1:Int).toNat IntKind.u64.bits))=(((i+j)/2:Nat):Int):=by
   have:min (1:Int).toNat IntKind.u64.bits=1:=by decide
   rw[this,Int.fdiv_eq_ediv_of_nonneg _ (by decide)];omega
  have a4:IntKind.i64.wrap (((i+j)/2:Nat):Int)=(((i+j)/2:Nat):Int):=by rw[fE (by omega) (by omega)]
  have a5:IntKind.i64.wrap ((((i+j)/2:Nat):Int)+1)=(((i+j)/2+1:Nat):Int):=by rw[fE (by omega) (by omega)];omega
  simp only[hd,a1,aP4,a2,aJR (show(0:Int)≤1 by decide),a3,aP6,a4,cE,reduceIte];refine hf ((i+j)/2) (by omega) _ ?_;cases e:f ((i+j)/2) with
  | false=>
   simp only[a5,cE,reduceIte];refine⟨⟨(i+j)/2+1,j,by omega,hj,rfl,rfl,λx hx=>?_,h2⟩,by simp[e1,e2];omega⟩;cases e':f x with
   | false=>rfl
   | true=>rw[hm x ((i+j)/2) (by omega) (by omega) e'] at e;cases e
  | true=>
   simp only[cE,reduceIte];exact⟨⟨i,(i+j)/2,by omega,by omega,rfl,rfl,h1,λx hx hx2=>hm _ _ hx hx2 e⟩,by simp[e1,e2];omega⟩
 ·have hd:((i:Int)<(j:Int))=False:=by apply eq_false;omega
  simp only[hd,cE,reduceIte];have:i=j:=by omega
  subst this;exact hk i hj h1 h2
structure gZ where
 height:Int
 root:ByteArray
 deriving DecidableEq
def gZ.cells(m:gZ):List Value:=[.int .u64 m.height,.string m.root]
def gZ.rows(l:List gZ):Rows 2 (l.map gZ.cells):=λr hr=>by
 obtain⟨m,_,rfl⟩:=mE.1 hr;rfl
def gZ.isCell(l:List gZ):∀r∈l.map gZ.cells,∀u∈r,fW u=true:=λr hr u hu=>by
 obtain⟨m,_,rfl⟩:=mE.1 hr;simp only[gZ.cells,gU,lJ,or_false] at hu;rcases hu with rfl|rfl<;>rfl
def aEz(x:Int):List Value:=[.int .u64 x]
def aEz.rows(l:List Int):Rows 1 (l.map aEz):=λr hr=>by
 obtain⟨m,_,rfl⟩:=mE.1 hr;rfl
def aEz.isCell(l:List Int):∀r∈l.map aEz,∀u∈r,fW u=true:=λr hr u hu=>by
 obtain⟨m,_,rfl⟩:=mE.1 hr;simp only[aEz,gU,lJ,or_false] at hu;subst hu;rfl
def hts(l:List gZ):List Int:=l.map gZ.height
def aLW(hs:List Int):Int:=hs.getLast?.getD 0
def lX(l:List gZ)(x:Int):Option ByteArray:=(l.find? λp=>decide (x=p.height)).map gZ.root
def aAc(l:List gZ)(x:gZ):Int×List gZ:=if x.root.size≠32 then(1,l) else if x.height∈hts l then(4,l) else if 4096≤l.length then(2,l) else(0,l++[x])
structure wI(hs:List Int)(l:List gZ):Prop where
 perm:hs.Perm (hts l)
 up:hs.Pairwise (· < ·)
def wI.mem{hs:List Int}{l:List gZ}(H:wI hs l){x:Int}:x∈hs↔x∈hts l:=H.perm.mem_iff
def wI.len{hs:List Int}{l:List gZ}(H:wI hs l):hs.length=l.length:=by rw[H.perm.length_eq];simp[hts]
def aOa(l:List gZ)(x:Int):(lX l x).isSome=decide (x∈hts l):=by
 unfold lX hts;induction l with
 | nil=>rfl
 | cons p ps ih=>
  simp only[List.find?_cons,iG,gU];by_cases e:x=p.height
  ·simp[e]
  ·simp only[e,decide_false,false_or];exact ih
def gZ.ent(p:gZ):Int×Value:=(p.height,.string p.root)
def aQj(l:List gZ)(x:Int):aA7 (l.map gZ.ent) x=(lX l x).map Value.string:=by
 unfold lX aA7;induction l with
 | nil=>rfl
 | cons p ps ih=>
  simp only[List.find?_cons,iG,gZ.ent];by_cases e:x=p.height
  ·simp[e]
  ·simp only[e,decide_false];exact ih
def aVK(l:List gZ):uG (l.map gZ.ent)=hts l:=by simp[uG,hts,gZ.ent]
def wI.cut{hs:List Int}{l:List gZ}(H:wI hs l){x:gZ}(hx:x.height∉hts l){m:Nat}(h1:∀y∈hs.take m,y<x.height)(h2:∀y∈hs.drop m,x.height≤y):wI (hs.take m++[x.height]++hs.drop m) (l++[x]) where
 perm:=by
  have:hts (l++[x])=hts l++[x.height]:=by simp[hts]
  rw[this];refine((List.perm_append_comm (l₁:=hs.take m) (l₂:=[x.height])).append_right _).trans ?_;rw[nE,aNb];exact List.perm_append_comm.trans (H.perm.append_right _)
 up:=by
  have hs':=H.up;rw[←aNb m hs,List.pairwise_append] at hs';have h2':∀y∈hs.drop m,x.height<y:=λy hy=>by
   have h3:=h2 y hy;have:y≠x.height:=by rintro rfl;exact hx (H.mem.1 (aMc hy))
   omega
  rw[nE,List.pairwise_append];refine⟨hs'.1,?_,?_⟩
  ·rw[List.singleton_append,zL4];exact⟨h2',hs'.2.1⟩
  ·intro a ha b hb;rcases gU.1 (by simpa using hb) with rfl|hb
   ·exact h1 a ha
   ·exact hs'.2.2 a ha b hb
structure rD(h:PH)(a:Nat)(l:List gZ)(hs:List Int)(F:List Nat):Prop where
 here:∃r v G,h a=some (.cells #[.map (some r),v] iA (0,0))∧jL aK3 h r (l.map gZ.ent)∧eN h cA 1 v (hs.map aEz) G∧F=a::r::G∧a≠r∧a∉G∧r∉G
 rank:wI hs l
 few:l.length≤4096
def rD.known{h:PH}{a:Nat}{l:List gZ}{hs:List Int}{F:List Nat}(H:rD h a l hs F):∀b∈F,h b≠none:=by
 obtain⟨r,v,G,ha,hM,hO,rfl,-⟩:=H.here;intro b hb;simp only[gU] at hb;rcases hb with rfl|rfl|hb
 ·rw[ha];simp
 ·exact hM.known
 ·exact hO.known b hb
def rD.upd{h h':PH}{a:Nat}{l:List gZ}{hs:List Int}{F G:List Nat}(H:rD h a l hs F)(u:cT G h h')(hd:∀b∈F,b∉G):rD h' a l hs F:=by
 obtain⟨r,v,G',ha,hM,hO,rfl,hn⟩:=H.here;exact⟨⟨r,v,G',u.get ha (hd a (by simp)),hM.upd u (hd r (by simp)),hO.upd u (λb hb=>hd b (by simp[hb])),rfl,hn⟩,H.rank,H.few⟩
def rD.ext{h h':PH}{a:Nat}{l:List gZ}{hs:List Int}{F:List Nat}(H:rD h a l hs F)(u:dD h h'):rD h' a l hs F:=H.upd u (by simp)
def aW8{h:PH}{k:cD}(hk:∀a h' F,rD h' a [] [] F->dD h h'->eM h F->k (pT a 0) h'):aT PG aIa #[] h k:=by
 apply aIt.call;unfold aIt;simp only[aE9,cE,reduceIte];intro r hr;refine fT ?_;have e1:dH PG (build iA #[(0,Value.map (some r))])=some (.agg #[.map (some r),.slice none 0 0]):=by kernel_rfl
 simp only[e1,cE,reduceIte];intro a ha;have hne:a≠r:=by rintro rfl;rw[dJ] at ha;cases ha
 have ha0:h a=none:=by rwa [qI hne] at ha
 refine hk a _ [a,r] ⟨⟨r,.slice none 0 0,[],dJ,jL.new.ext (cT.new ha),eN.nil,rfl,hne,by simp,by simp⟩,⟨by simp[hts],by simp⟩,by simp⟩ ((cT.new hr).trans (cT.new ha)) ?_;intro b hb;simp only[gU,lJ,or_false] at hb;rcases hb with rfl|rfl
 ·exact ha0
 ·exact hr
def gF.u64{h:PH}{x:Value}{xs:List Int}(H:gF h 1 x (xs.map aEz)){k:IntKind}{j:Nat}{m:Int}(hm:xs[j]? =some m):
  ∃a,dH PG (indexAt dZ x (.int k j))=some (.pointer (some a))∧cH PG h (loadAt cA (.pointer (some a)))=some (.int .u64 m):=
 H.loadCell dZ.und cA.info cA.size cA.und rfl (by omega) (by simp[vL,hm,aEz])
def aVg{h:PH}{a:Nat}{mv v:Value}{hs:List Int}{G:List Nat}(ha0:h a=some (.cells #[mv,v] iA (0,0)))(hO0:eN h cA 1 v (hs.map aEz) G)(hup:hs.Pairwise (· < ·))(hfew:hs.length≤4096)(x:Int){k:cD}
  (hk:∀m h',m≤hs.length->(∀y∈hs.take m,y<x)->(∀y∈hs.drop m,x≤y)->dD h h'->k (.int .i64 (m:Nat)) h'):aT PG aB4 #[pT a 0,.int .u64 x] h k:=by
 apply aAp.call;unfold aAp;intro r1 hr1;simp only[cE,reduceIte];intro r3 hr3;have u1:dD h (h.set r1 (.cells (Value.cells (pT a 0)) jE)):=cT.new hr1;have hne:r1≠r3:=aUJ dJ hr3;have e1:(h.set r1 (.cells (Value.cells (pT a 0)) jE)) r1=some (.cells #[pT a 0] jE):=dJ;generalize h.set r1 (.cells (Value.cells (pT a 0)) jE)=h1 at *;have u2:dD h1 (h1.set r3 (.cells (Value.cells (.int .u64 x)) cA)):=cT.new hr3;have e2:(h1.set r3 (.cells (Value.cells (.int .u64 x)) cA)) r3=some (.cells #[.int .u64 x] cA):=dJ;have e3:=u2.get e1;generalize h1.set r3 (.cells (Value.cells (.int .u64 x)) cA)=h2 at *;have w:=u1.trans u2;have ha:=w.get ha0;have hO:=hO0.ext w;have hlv:=hO.slR.len (t':=bT) dZ.und;rw[iY] at hlv;simp only[jE.load,dC,e3,iA.f1,fP,dZ.load,ha,hlv,cE,reduceIte];refine aUC (f:=λi=>decide (x≤hs.getD i 0)) (by omega) ?_ ?_ ?_
 ·intro i j hij hj hfi;simp only[decide_eq_true_eq] at hfi ⊢;by_cases e:i=j
  ·subst e;exact hfi
  ·have:=List.pairwise_iff_getElem.1 hup i j (by omega) hj (by omega);rw[aA3,lS (by omega)] at hfi ⊢;simp only[aJZ] at hfi ⊢;omega
 ·intro i hi k' hk';show aT PG aAf #[.int .i64 i,pT r1 0,pT r3 0] h2 k';apply pU.call;unfold pU;obtain⟨p,p1,p2⟩:=hO.slR.u64 (k:=.i64) (j:=i) (m:=hs.getD i 0) (by rw[aA3,lS hi];rfl);have p3:cH PG h2 (loadAt cA (pT r3 0))=some (.int .u64 x):=by rw[cA.load];simp[dC,e2]
  simp only[jE.load,dC,e3,iA.f1,fP,dZ.load,ha,p1,p2,p3,cE,reduceIte];exact hk'
 ·intro m hm h1 h2;refine hk m _ hm ?_ ?_ w
  ·intro y hy;obtain⟨i,hi,rfl⟩:=List.mem_iff_getElem.1 hy;rw[nW] at hi;have:=h1 i (by omega);rw[aA3,lS (by omega)] at this;simp only[aJZ,decide_eq_false_iff_not] at this;rw[List.getElem_take];omega
  ·intro y hy;obtain⟨i,hi,rfl⟩:=List.mem_iff_getElem.1 hy;rw[nJ] at hi;have:=h2 (m+i) (by omega) (by omega);rw[aA3,lS (by omega)] at this;simp only[aJZ,decide_eq_true_eq] at this;rw[List.getElem_drop];exact this
def aXK{h:PH}{a:Nat}{l:List gZ}{hs:List Int}{F:List Nat}(hC:rD h a l hs F)(x:Int){k:cD}
  (hk:k (.tuple #[.string ((lX l x).getD ⟨#[]⟩),.bool (lX l x).isSome]) h):aT PG aCV #[pT a 0,.int .u64 x] h k:=by
 apply aBM.call;unfold aBM;obtain⟨r,v,G,ha,hM,hO,rfl,hn⟩:=hC.here;have hl:=aHF (aQ2 cA.und) hZ.und bR.info bR.zero hM x true;rw[aQj] at hl;have hl':cH PG h (Instr.lookup hZ (.map (some r)) (.int .u64 x) true)=some (.tuple #[.string ((lX l x).getD ⟨#[]⟩),.bool (lX l x).isSome]):=by
  rw[show(Value.int .u64 x)=aK3 x from rfl,hl];cases lX l x<;>rfl
 simp only[dC,iA.f0,hZ.load,ha,hl',cE,reduceIte];exact hk
def aTo{h:PH}{a:Nat}{l:List gZ}{hs:List Int}{F:List Nat}(hC:rD h a l hs F){k:cD}
  (hk:k (.int .u64 (aLW hs)) h):aT PG aA4 #[pT a 0] h k:=by
 have hlen:=hC.rank.len;have hfew:=hC.few;apply qO.call;unfold qO;obtain⟨r,v,G,ha,hM,hO,rfl,hn⟩:=hC.here;have hlv:=hO.slR.len (t':=bT) dZ.und;rw[iY] at hlv;simp only[dC,iA.f1,fP,dZ.load,ha,hlv,cE,reduceIte];unfold aLW at hk;rw[List.getLast?_eq_getElem?] at hk;by_cases hc:hs.length=0
 ·have e:((hs.length:Int)==0)=true:=by simp[hc]
  have e2:hs=[]:=zLO hc;simp only[e,cE,reduceIte];rw[e2] at hk;exact hk
 ·have e:((hs.length:Int)==0)=false:=by simpa using hc
  have e2:IntKind.i64.wrap ((hs.length:Int)-1)=((hs.length-1:Nat):Int):=by rw[fE (by omega) (by omega)];omega
  obtain⟨y,hy⟩:∃y,hs[hs.length-1]? =some y:=⟨_,lS (by omega)⟩;obtain⟨p,p1,p2⟩:=hO.slR.u64 (k:=.i64) hy;simp only[e,e2,p1,p2,cE,reduceIte];rw[hy] at hk;exact hk
def aYv(x:Int):jU PG (buildSlice dZ 1 #[(0,.int .u64 x)])=some (.cells #[.int .u64 x] cA,λr=>pure (.slice (some ⟨r,0,none⟩) 1 1)):=by kernel_rfl
def aYh{h:PH}{a:Nat}{l:List gZ}{hs:List Int}{F:List Nat}(hC:rD h a l hs F)(x:gZ){k:cD}
  (hk:∀h' hs' F',rD h' a (aAc l x).2 hs' F'->cT F h h'->(∀b∈F',b∈F∨h b=none)->k (.int .i64 (aAc l x).1) h'):aT PG aDI #[pT a 0,.int .u64 x.height,.string x.root] h k:=by
 have hlen:=hC.rank.len;have hfew:=hC.few;apply vI.call;unfold vI;unfold aAc at hk;have hsame:=hk;simp only[bR.len,cE,reduceIte];by_cases c1:x.root.size=32
 ·have e1:((x.root.size:Int) !=32)=false:=by simp[c1]
  rw[if_neg (by simpa using c1)] at hk;obtain⟨r,v,G,ha,hM,hO,hF,n1,n2,n3⟩:=hC.here;have hl:=aHF (aQ2 cA.und) hZ.und bR.info bR.zero hM x.height true;rw[aQj] at hl;have hl':cH PG h (Instr.lookup hZ (.map (some r)) (.int .u64 x.height) true)=some (.tuple #[.string ((lX l x.height).getD ⟨#[]⟩),.bool (lX l x.height).isSome]):=by
   rw[show(Value.int .u64 x.height)=aK3 x.height from rfl,hl];cases lX l x.height<;>rfl
  simp only[e1,dC,iA.f0,hZ.load,ha,hl',aOa,cE,reduceIte];by_cases c2:x.height∈hts l
  ·simp only[c2,cE,reduceIte];rw[if_pos c2] at hk;exact hk _ _ _ hC cT.refl (λb hb=>.inl hb)
  ·rw[if_neg c2] at hk;have hml:=hM.len (t':=bT) hZ.und;rw[iY] at hml;simp only[c2,hml,cE,reduceIte];by_cases c3:4096≤l.length
   ·have e3:((4096:Int)≤(l.length:Int))=True:=by apply eq_true;omega
    simp only[e3,cE,reduceIte];rw[if_pos c3] at hk;exact hk _ _ _ hC cT.refl (λb hb=>.inl hb)
   ·have e3:((4096:Int)≤(l.length:Int))=False:=by apply eq_false;omega
    rw[if_neg c3] at hk;simp only[e3,cE,reduceIte];refine aKZ (enc:=aK3) (aQ2 cA.und) hZ.und hM x.height (.string x.root) λh1 hM1 u1=>?_;have hput:aCw (l.map gZ.ent) x.height (.string x.root)=(l++[x]).map gZ.ent:=by
     unfold aCw;rw[aVK,if_neg c2];simp[gZ.ent]
    rw[hput] at hM1;have ha1:=u1.get ha (by simp[n1]);have hO1:=hO.upd u1 (λb hb hf=>by simp at hf;subst hf;exact n3 hb);refine aVg ha1 hO1 hC.rank.up (by omega) x.height λm h2 hm p1 p2 u2=>?_;have ha2:=u2.get ha1;have hO2:=hO1.ext u2;have hM2:=hM1.ext u2;obtain⟨va,w1,w2⟩:=hO2.slR.full dZ.und cA.info (m:=m) (k2:=.i64) (k3:=.i64) (by simpa using hm);obtain⟨y,y1,y2,-⟩:=hO2.slR.cut dZ.und cA.info cA.size (hi:=none) (.inr ⟨.i64,rfl⟩) (.inl ⟨rfl,rfl⟩) (show m≤_ by simpa using hm) (oF _);rw[mS (oF _)] at y2;simp only[dC,iA.f1,fP,dZ.load,ha2,w1,y1,aYv,cE,reduceIte];intro r3 hr3;refine fT ?_;have u3:dD h2 (h2.set r3 (.cells #[.int .u64 x.height] cA)):=cT.new hr3;have hx3:gF (h2.set r3 (.cells #[.int .u64 x.height] cA)) 1 (.slice (some ⟨r3,0,none⟩) 1 1) ([x.height].map aEz):=(eN.lit (aEz.rows _) dJ (by simp) (by decide) (by simp[aEz])).slR;generalize h2.set r3 (.cells #[.int .u64 x.height] cA)=h3 at *;refine aRk dZ.und dZ.und cA.info cA.size cA.bytes cA.zero rfl (by decide) (w2.ext u3) rfl hx3 (by simp;omega) (by simp) λv4 h4 F4 hO4 u4 k4=>?_;have ha4:=(u3.trans u4).get ha2;refine⟨by simp[ha4],?_⟩;rw[←aKP,←qE] at hO4;have y4:=(y2.ext u3).ext u4;rw[←aLC] at y4;refine jK dZ.und dZ.und cA.info cA.size cA.bytes cA.zero rfl (by decide) hO4 y4 (aEz.isCell _) (by simp;omega) ?_;intro v5 h5 F5 hO5 u5 k5 _;rw[←qE] at hO5;have na4:a∉F4:=λhm'=>by have:=k4 a hm';rw[u3.get ha2] at this;cases this
    have nr4:r∉F4:=λhm'=>(hM2.ext u3).known (k4 r hm');have ha5:=u5.get ha4 na4;have hM5:=((hM2.ext u3).ext u4).upd u5 nr4;have na5:a∉F5:=λhm'=>by
     rcases k5 a hm' with h|h
     ·exact na4 h
     ·rw[ha4] at h;cases h
    have nr5:r∉F5:=λhm'=>by
     rcases k5 r hm' with h|h
     ·exact nr4 h
     ·exact(((hM2.ext u3).ext u4)).known h
    refine iZ dZ.und rfl ha5 (by simp) ?_ dZ.info dZ.size ?_
    ·obtain⟨_,_,rfl,-⟩:=hO5.slR.here;rfl
    have u6:cT [a] h5 (h5.set a (.cells ((#[.map (some r),v]:Array Value).setIfInBounds 1 v5) iA (0,0))):=cT.set (by simp);have ua:cT F h h4:=by
     have:cT [r] h h4:=(u1.trans u2.upd).trans (u3.trans u4).upd;exact this.mono λb hb=>.inl (by simp at hb;subst hb;rw[hF];simp)
    have g4:∀b∈F4,h b=none:=λb hb=>by
     have hb3:h2 b=none:=u3.none (k4 b hb);have hb1:h1 b=none:=u2.none hb3;cases e:h b with
     | none=>rfl
     | some o=>
      by_cases hbr:b=r
      ·subst hbr;exact absurd hb1 hM1.known
      ·have:=u1.get e (by simp[hbr]);rw[hb1] at this;cases this
    have g5:∀b∈F5,h b=none:=λb hb=>by
     rcases k5 b hb with h'|h'
     ·exact g4 b h'
     ·cases e:h b with
      | none=>rfl
      | some o=>
       by_cases hbF:b∈F
       ·rw[hF] at hbF;simp only[gU] at hbF;rcases hbF with rfl|rfl|hbG
        ·rw[ha4] at h';cases h'
        ·exact absurd h' ((hM2.ext u3).ext u4).known
        ·exact absurd h' (((hO2.ext u3).ext u4).known b hbG)
       ·have:=ua.get e hbF;rw[h'] at this;cases this
    refine hk _ (hs.take m++[x.height]++hs.drop m) (a::r::F5) ⟨⟨r,v5,F5,dJ,hM5.upd u6 (by simp;exact n1.symm),hO5.upd u6 (λb hb hf=>by simp at hf;subst hf;exact na5 hb),rfl,n1,na5,nr5⟩,hC.rank.cut c2 p1 p2,by simp;omega⟩ ?_ ?_
    ·exact(ua.then u5 (λb hb=>.inr (g4 b hb))).then u6 (λb hb=>.inl (by simp at hb;subst hb;rw[hF];simp))
    ·intro b hb;simp only[gU] at hb;rcases hb with rfl|rfl|hb
     ·exact .inl (by rw[hF];simp)
     ·exact .inl (by rw[hF];simp)
     ·exact .inr (g5 b hb)
 ·have e1:((x.root.size:Int) !=32)=true:=by simp;omega
  rw[if_pos (by simpa using c1)] at hk;simp only[e1,cE,reduceIte];exact hk _ _ _ hC cT.refl (λb hb=>.inl hb)
def pI(n:Nat):List Value:=[.int .u64 (n:Int)]
def pI.rows(l:List Nat):Rows 1 (l.map pI):=λr hr=>by
 obtain⟨p,-,rfl⟩:=mE.1 hr;rfl
def jP:List Nat->Nat
 | []=>0
 | d::l=>d+4294967296*jP l
def Dig(l:List Nat):Prop:=∀d∈l,d<4294967296
def bAF(n:Nat):0<4294967296^n:=Nat.pow_pos (by decide)
def aNa:∀(l:List Nat) (i d:Nat) (x:Nat),l[i]? =some x->jP (l.set i d)+x*4294967296^i=jP l+d*4294967296^i
 | [],i,d,x,h=>by simp at h
 | a::l,0,d,x,h=>by
  simp only[pO,yB] at h;subst h;simp only[List.set_cons_zero,jP,Nat.pow_zero,Nat.mul_one];omega
 | a::l,i+1,d,x,h=>by
  have ih:=aNa l i d x (by simpa using h);simp only[List.set_cons_succ,jP];have e1:x*4294967296^(i+1)=4294967296*(x*4294967296^i):=by rw[zLS,zLT (4294967296^i),Nat.mul_left_comm]
  have e2:d*4294967296^(i+1)=4294967296*(d*4294967296^i):=by rw[zLS,zLT (4294967296^i),Nat.mul_left_comm]
  rw[e1,e2];omega
def aKe:∀{l:List Nat},Dig l->jP l<4294967296^l.length
 | [],_=>by simp[jP]
 | a::l,h=>by
  have ih:=aKe (l:=l) λd hd=>h d (by simp[hd]);have ha:=h a (by simp);simp only[jP,pY,zLS];omega
def aLB:∀{l:List Nat},Dig l->∀i,jP l/4294967296^i%4294967296=l.getD i 0
 | [],_,i=>by simp[jP]
 | a::l,h,0=>by
  have ha:=h a (by simp);simp only[jP,Nat.pow_zero,Nat.div_one,List.getD_cons_zero];omega
 | a::l,h,i+1=>by
  have ih:=aLB (l:=l) (λd hd=>h d (by simp[hd])) i;have ha:=h a (by simp);have e:(a+4294967296*jP l)/4294967296=jP l:=by omega
  simp only[jP,List.getD_cons_succ];rw[zLS,zLT (4294967296^i),←Nat.div_div_eq_div_mul,e,ih]
def aMC:∀(l:List Nat) (i x:Nat),l[i]? =some x->jP (l.take (i+1))=jP (l.take i)+x*4294967296^i
 | [],i,x,h=>by simp at h
 | a::l,0,x,h=>by
  simp only[pO,yB] at h;subst h;simp[jP]
 | a::l,i+1,x,h=>by
  have ih:=aMC l i x (by simpa using h);simp only[zLc,jP];have e1:x*4294967296^(i+1)=4294967296*(x*4294967296^i):=by rw[zLS,zLT (4294967296^i),Nat.mul_left_comm]
  rw[ih,e1];omega
def aMV(l:List Nat):∀i,jP (l.take i)≤jP l:=by
 induction l with
 | nil=>intro i;simp
 | cons a l ih=>
  intro i;cases i with
  | zero=>simp[jP]
  | succ i=>
   have:=ih i;simp only[zLc,jP];omega
def aLX(n:Nat):jP (List.replicate n 0)=0:=by
 induction n with
 | zero=>rfl
 | succ n ih=>simp only[List.replicate_succ,jP,ih]
def aLu(n:Nat):Dig (List.replicate n 0):=λd hd=>by
 rw[List.mem_replicate] at hd;omega
abbrev aGe(h:PH)(v:Value)(l:List Nat)(F:List Nat):Prop:=eN h cA 1 v (l.map pI) F
def aMB{h:PH}{v:Value}{l:List Nat}(S:gF h 1 v (l.map pI)){i x:Nat}(hx:l[i]? =some x):∃a,dH PG (indexAt dZ v (.int .i64 (i:Int)))=some (.pointer (some a))∧cH PG h (loadAt cA (.pointer (some a)))=some (.int .u64 (x:Int)):=
 S.loadCell (t:=dZ) (k:=.i64) (j:=(i:Int)) dZ.und cA.info cA.size cA.und rfl (by omega) (by rw[qN,vL,hx];rfl)
def aKv{h:PH}{v:Value}{l:List Nat}(S:gF h 1 v (l.map pI)):dH PG (Builtin.len_ #[dZ] bT #[v])=some (.int .i64 l.length):=by
 have:=S.len (t':=bT) dZ.und;rw[iY] at this;exact this
def aQ6{h:PH}{n:Nat}(hn:n≤1000):∃zs,jU PG (Instr.makeSlice dZ (.int .i64 n) (.int .i64 n))=some (.cells zs cA (0,0),λr=>pure (.slice (some ⟨r,0,none⟩) n n))∧zs.toList=((List.replicate n 0).map pI).flatten:=by
 obtain⟨zs',hm,hz⟩:=aCZ (P:=PG) (n:=n) dZ.und cA.info cA.size cA.bytes cA.zero rfl (by decide) (by omega) (by omega);refine⟨zs',hm,?_⟩;rw[hz,List.map_replicate];rfl
def aQh{h:PH}{v:Value}{l:List Nat}{F:List Nat}(O:aGe h v l F)(hd:Dig l)(pos x:Nat)(hp:pos≤1000)(hx:x≤18446744069414584320)(hT:jP l+x*4294967296^pos<4294967296^l.length)(hl:l.length≤1000){k:cD}
  (hk:∀h' l',aGe h' v l' F->Dig l'->l'.length=l.length->jP l'=jP l+x*4294967296^pos->cT F h h'->k (.tuple #[]) h'):aT PG wL #[v,.int .i64 (pos:Int),.int .u64 (x:Int)] h k:=by
 apply aDT.call;unfold aDT;generalize hTT:jP l+x*4294967296^pos=T at *;refine⟨λvs h'=>∃(l':List Nat) (p y:Nat),vs=[v,.int .i64 (p:Int),.int .u64 (y:Int)]∧aGe h' v l' F∧Dig l'∧l'.length=l.length∧p≤1001∧y≤18446744069414584320∧jP l'+y*4294967296^p=T∧cT F h h',gT l.length 1,⟨l,pos,x,rfl,O,hd,rfl,by omega,hx,hTT,cT.refl⟩,?_⟩;rintro ρ h' ⟨l',p,y,hvs,O',hd',hl',hp',hy,hv,u⟩;simp only[iG,iX,lN,and_true] at hvs;obtain⟨v0,v1,v2⟩:=hvs;simp only[v0,v1,v2,iG,iX];unfold aHR;have lv:=aKv O'.slR;by_cases h0:y=0
 ·subst h0;have g1:((0:Int)<((0:Nat):Int))=False:=eq_false (by decide);simp only[g1,cE,reduceIte];exact hk h' l' O' hd' hl' (by rw[←hv];simp) u
 have g1:((0:Int)<(y:Int))=True:=eq_true (by omega);by_cases hlt:p<l'.length
 ·have g2:((p:Int)<(l'.length:Int))=True:=eq_true (by omega);have hx':l'[p]? =some l'[p]:=lS hlt;have hdx:=hd' _ (aMU hlt);generalize l'[p]=d at *;obtain⟨pa,p1,p2⟩:=aMB O'.slR hx';have e1:Int.tmod (y:Int) 4294967296=((y%4294967296:Nat):Int):=(Int.ofNat_tmod _ 4294967296).symm;have e2:IntKind.u64.wrap (((y%4294967296:Nat):Int)+(d:Int))=((y%4294967296+d:Nat):Int):=by rw[gO (by omega) (by omega)];omega
  have e3:Int.tdiv (y:Int) 4294967296=((y/4294967296:Nat):Int):=rfl;have e4:IntKind.u64.wrap ((y/4294967296:Nat):Int)=((y/4294967296:Nat):Int):=gO (by omega) (by omega);have e5:IntKind.u64.wrap (((y/4294967296:Nat):Int)*4294967296)=((y/4294967296*4294967296:Nat):Int):=by rw[gO (by omega) (by omega)];omega
  have e6:IntKind.u64.wrap (((y%4294967296+d:Nat):Int)+((y/4294967296*4294967296:Nat):Int))=((y+d:Nat):Int):=by rw[gO (by omega) (by omega)];omega
  have e7:Int.tmod ((y+d:Nat):Int) 4294967296=(((y+d)%4294967296:Nat):Int):=(Int.ofNat_tmod _ 4294967296).symm;have e8:Int.tdiv ((y+d:Nat):Int) 4294967296=(((y+d)/4294967296:Nat):Int):=rfl;have e9:IntKind.u64.wrap (((y+d)/4294967296:Nat):Int)=(((y+d)/4294967296:Nat):Int):=gO (by omega) (by omega);have e10:=qZ (i:=p) (by omega);have rm:∀(t:TypeId) (a:Int),dH PG (binOp .rem t (.int .u64 a) (.int .u64 4294967296))=some (.int .u64 (a.tmod 4294967296)):=λt a=>aHv (by decide);have qu:∀(t:TypeId) (a:Int),dH PG (binOp .quo t (.int .u64 a) (.int .u64 4294967296))=some (.int .u64 (IntKind.u64.wrap (a.tdiv 4294967296))):=λt a=>aMS (by decide);obtain⟨pb,q1,q2⟩:=O'.storeCell (t:=dZ) (k:=.i64) (j:=p) dZ.und cA.info cA.size cA.und rfl (by simpa using hlt) (x:=.int .u64 (((y+d)%4294967296:Nat):Int)) rfl;rw[p1] at q1;obtain rfl:pa=pb:=by simpa using q1
  simp only[g1,lv,g2,rm,qu,e1,p1,p2,e2,e3,e4,e5,e6,e7,cE,reduceIte];refine q2 _ λh2 O2 u2=>?_;have hrows:(l'.map pI).take p++[[(.int .u64 (((y+d)%4294967296:Nat):Int):Value)]]++(l'.map pI).drop (p+1)=(l'.set p ((y+d)%4294967296)).map pI:=by
   rw[List.set_eq_take_append_cons_drop,if_pos hlt,qE,iG,aKP,aLC];simp[pI]
  rw[hrows] at O2;simp only[e8,e9,e10,cE,reduceIte];refine⟨⟨_,p+1,(y+d)/4294967296,rfl,O2,λz hz=>?_,by simpa using hl',by omega,by omega,?_,u.trans u2⟩,?_⟩
  ·rcases List.mem_or_eq_of_mem_set hz with hz|rfl
   ·exact hd' z hz
   ·exact zLB _ (by decide)
  ·have:=aNa l' p ((y+d)%4294967296) d hx';have e:(y+d)%4294967296*4294967296^p+(y+d)/4294967296*4294967296^(p+1)=(y+d)*4294967296^p:=by
    rw[zLS,zLT (4294967296^p) 4294967296,←Nat.mul_assoc,←zLF];congr 1;omega
   rw[zLF] at e;omega
  ·simp only[gT,rZ,pO];omega
 ·exfalso;have h1:4294967296^l.length≤4294967296^p:=aKz (by decide) (by omega);have h2:4294967296^p≤y*4294967296^p:=Nat.le_mul_of_pos_left _ (by omega);omega
def aUs{h:PH}{v:Value}{l:List Nat}(S:gF h 1 v (l.map pI))(hs:∀d∈l,d≤18446744069414584320)(hT:jP l<4294967296^(l.length+1))(hl:l.length≤100){k:cD}
  (hk:∀h' v' l' F',aGe h' v' l' F'->Dig l'->l'.length=l.length+1->jP l'=jP l->eM h F'->dD h h'->k v' h'):aT PG aBz #[v] h k:=by
 apply aAv.call;unfold aAv;have lv:=aKv S;have e1:IntKind.i64.wrap ((l.length:Int)+1)=((l.length+1:Nat):Int):=by rw[fE (by omega) (by omega)];omega
 obtain⟨zs,m1,m2⟩:=aQ6 (h:=h) (n:=l.length+1) (by omega);simp only[lv,e1,m1,cE,reduceIte];intro r hr;refine fT ?_
 try rw[cW]
 have u1:dD h (h.set r (.cells zs cA (0,0))):=cT.new hr;have O1:aGe (h.set r (.cells zs cA (0,0))) (.slice (some ⟨r,0,none⟩) (l.length+1) (l.length+1)) (List.replicate (l.length+1) 0) [r]:=eN.lit (n:=l.length+1) (pI.rows _) dJ (by simp) (by unfold rC;omega) m2;generalize h.set r (.cells zs cA (0,0))=h1 at *;refine⟨λvs h'=>∃(i:Nat) (l':List Nat),i≤l.length∧vs=[v,.slice (some ⟨r,0,none⟩) (l.length+1) (l.length+1),.int .i64 (i:Int)]∧aGe h' (.slice (some ⟨r,0,none⟩) (l.length+1) (l.length+1)) l' [r]∧Dig l'∧l'.length=l.length+1∧jP l'=jP (l.take i)∧dD h h',gT l.length 2,⟨0,_,by omega,rfl,O1,aLu _,by simp,by rw[aLX];rfl,u1⟩,?_⟩;rintro ρ h' ⟨i,l',hi,hvs,O',hd',hl',hv,u⟩;simp only[iG,iX,lN,and_true] at hvs;obtain⟨v0,v3,v4⟩:=hvs;simp only[v0,v3,v4,iG,iX];unfold aFs;by_cases hlt:i<l.length
 ·have g1:((i:Int)<(l.length:Int))=True:=eq_true (by omega);have gi:=qZ (i:=i) (by omega);have hx':l[i]? =some l[i]:=lS hlt;have hdx:=hs _ (aMU hlt);generalize l[i]=d at *;obtain⟨pa,p1,p2⟩:=aMB (S.ext u) hx';simp only[lv,g1,p1,p2,cE,reduceIte];have ht:=aMC l i d hx';have hle:=aMV l (i+1);refine aQh O' hd' i d (by omega) hdx (by rw[hl',hv,←ht];omega) (by omega) λh2 l2 O2 hd2 hl2 hv2 u2=>?_;simp only[gi,cE,reduceIte];refine⟨⟨i+1,l2,by omega,rfl,O2,hd2,by omega,by rw[hv2,hv,ht],u.fresh u2 (eM.one hr)⟩,?_⟩;simp only[gT,rZ,pO];omega
 ·have g1:((i:Int)<(l.length:Int))=False:=eq_false (by omega);simp only[lv,g1,cE,reduceIte];rw[mS (by omega)] at hv;exact hk h' _ l' [r] O' hd' hl' hv (eM.one hr) u
def aRe{h:PH}{v:Value}{l:List Nat}(S:gF h 1 v (l.map pI))(hs:∀d∈l,d≤18446744069414584320)(hT:jP l<4294967296^(l.length+1))(hl:l.length≤50)(x:Nat)(hx:x<137438953472){k:cD}
  (hk:∀h' v' l' F',aGe h' v' l' F'->Dig l'->l'.length=l.length+4->jP l'=jP l*x->eM h F'->dD h h'->k v' h'):aT PG aAa #[v,.int .u64 (x:Int)] h k:=by
 apply yP.call;unfold yP;refine aUs S hs hT (by omega) λh1 w p F1 O1 hd1 hl1 hv1 f1 u1=>?_;have S1:=O1.slR;have lw:=aKv S1;have e1:IntKind.i64.wrap ((p.length:Int)+3)=((p.length+3:Nat):Int):=by rw[fE (by omega) (by omega)];omega
 have e2:Int.tmod (x:Int) 4294967296=((x%4294967296:Nat):Int):=(Int.ofNat_tmod _ 4294967296).symm;have e3:Int.tdiv (x:Int) 4294967296=((x/4294967296:Nat):Int):=rfl;have e4:IntKind.u64.wrap ((x/4294967296:Nat):Int)=((x/4294967296:Nat):Int):=gO (by omega) (by omega);have rm:∀(t:TypeId) (a:Int),dH PG (binOp .rem t (.int .u64 a) (.int .u64 4294967296))=some (.int .u64 (a.tmod 4294967296)):=λt a=>aHv (by decide);have qu:∀(t:TypeId) (a:Int),dH PG (binOp .quo t (.int .u64 a) (.int .u64 4294967296))=some (.int .u64 (IntKind.u64.wrap (a.tdiv 4294967296))):=λt a=>aMS (by decide);obtain⟨zs,m1,m2⟩:=aQ6 (h:=h) (n:=p.length+3) (by omega);simp only[rm,qu,e2,e3,e4,lw,e1,m1,cE,reduceIte];intro r hr;refine fT ?_
 try rw[cW]
 have u2:dD h1 (h1.set r (.cells zs cA (0,0))):=cT.new hr;have O2:aGe (h1.set r (.cells zs cA (0,0))) (.slice (some ⟨r,0,none⟩) (p.length+3) (p.length+3)) (List.replicate (p.length+3) 0) [r]:=eN.lit (n:=p.length+3) (pI.rows _) dJ (by simp) (by unfold rC;omega) m2;generalize h1.set r (.cells zs cA (0,0))=h2 at *;have hr0:h r=none:=u1.none hr;have hpl:=aKe hd1;have hF1r:∀b∈F1,b∉[r]:=λb hb hm=>by
  simp only[gA] at hm;subst hm;exact O1.known _ hb hr
 have hbig:jP p*x<4294967296^(p.length+3):=by
  have hx2:x<4294967296^2:=by
   have:(4294967296:Nat)^2=18446744073709551616:=by decide
   omega
  calc jP p*x≤jP p*4294967296^2:=Nat.mul_le_mul_left _ (by omega)
   _<4294967296^p.length*4294967296^2:=Nat.mul_lt_mul_of_pos_right hpl (bAF 2)
   _=4294967296^(p.length+2):=by rw[←Nat.pow_add]
   _≤4294967296^(p.length+3):=aKz (by decide) (by omega)
 refine⟨λvs h'=>∃(i:Nat) (l':List Nat),i≤p.length∧vs=[w,.int .u64 ((x%4294967296:Nat):Int),.int .u64 ((x/4294967296:Nat):Int),.slice (some ⟨r,0,none⟩) (p.length+3) (p.length+3),.int .i64 (i:Int)]∧aGe h' (.slice (some ⟨r,0,none⟩) (p.length+3) (p.length+3)) l' [r]∧Dig l'∧l'.length=p.length+3∧jP l'=jP (p.take i)*x∧cT [r] h2 h',gT p.length 4,⟨0,_,by omega,rfl,O2,aLu _,by simp,by rw[aLX];simp[jP],cT.refl⟩,?_⟩;rintro ρ h' ⟨i,l',hi,hvs,O',hd',hl',hv,u⟩;simp only[iG,iX,lN,and_true] at hvs;obtain⟨v0,v5,v6,v7,v8⟩:=hvs;simp only[v0,v5,v6,v7,v8,iG,iX];unfold aEC;have Sw:=((O1.ext u2).upd u hF1r);by_cases hlt:i<p.length
 ·have g1:((i:Int)<(p.length:Int))=True:=eq_true (by omega);have gi:=qZ (i:=i) (by omega);have hx':p[i]? =some p[i]:=lS hlt;have hdx:=hd1 _ (aMU hlt);generalize p[i]=d at *;obtain⟨pa,p1,p2⟩:=aMB Sw.slR hx';have hm1:d*(x%4294967296)≤4294967295*4294967295:=Nat.mul_le_mul (by omega) (by omega);have hm2:d*(x/4294967296)≤4294967295*31:=Nat.mul_le_mul (by omega) (by omega);have f1':IntKind.u64.wrap ((d:Int)*((x%4294967296:Nat):Int))=((d*(x%4294967296):Nat):Int):=by rw[←Int.natCast_mul,gO (Int.natCast_nonneg _) (by omega)]
  have f2':IntKind.u64.wrap ((d:Int)*((x/4294967296:Nat):Int))=((d*(x/4294967296):Nat):Int):=by rw[←Int.natCast_mul,gO (Int.natCast_nonneg _) (by omega)]
  have ht:=aMC p i d hx';have hle:=zLP x (aMV p (i+1));have hsum:d*(x%4294967296)*4294967296^i+d*(x/4294967296)*4294967296^(i+1)=d*4294967296^i*x:=by
   have e:x%4294967296+x/4294967296*4294967296=x:=by omega
   calc d*(x%4294967296)*4294967296^i+d*(x/4294967296)*4294967296^(i+1)
     =d*4294967296^i*(x%4294967296+x/4294967296*4294967296):=by rw[zLS,Nat.mul_add];ac_rfl
    _=_:=by rw[e]
  have htx:jP (p.take (i+1))*x=jP (p.take i)*x+d*4294967296^i*x:=by rw[ht,zLF]
  simp only[lw,g1,p1,p2,f1',cE,reduceIte];refine aQh O' hd' i _ (by omega) (by omega) (by rw[hl',hv];omega) (by omega) λh3 l3 O3 hd3 hl3 hv3 u3=>?_;have Sw3:=Sw.upd u3 hF1r;obtain⟨pb,q1,q2⟩:=aMB Sw3.slR hx';rw[p1] at q1;obtain rfl:pa=pb:=by simpa using q1
  simp only[gi,p1,q2,f2',cE,reduceIte];refine aQh O3 hd3 (i+1) _ (by omega) (by omega) (by rw[hl3,hl',hv3,hv];omega) (by omega) λh4 l4 O4 hd4 hl4 hv4 u4=>?_
  try simp only[gi,cE,reduceIte]
  refine⟨⟨i+1,l4,by omega,rfl,O4,hd4,by omega,by rw[hv4,hv3,hv];omega,(u.trans u3).trans u4⟩,?_⟩;simp only[gT,rZ,pO];omega
 ·have g1:((i:Int)<(p.length:Int))=False:=eq_false (by omega);simp only[lw,g1,cE,reduceIte];rw[mS (by omega)] at hv;exact hk h' _ l' [r] O' hd' (by omega) (by rw[hv,hv1]) (eM.one hr0) ((u1.trans u2).fresh u (eM.one hr0))
end
end Go.Proofs.YtppgkeodaejgcaaGreatDoor
