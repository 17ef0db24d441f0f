/- The texts of this claim, put together. -/
import Derived.Test.YtppgkeodaejgcaaGreatDoorSnOVC4
import Derived.WalkKit
import Derived.ProofKit
import Derived.ChangeMaps5
import Derived.Lib.UnsafeStr
set_option linter.all false
set_option maxRecDepth 100000
open Go.Instr (loadAt fieldAt indexAt extract buildSlice build)
namespace Go.Proofs.YtppgkeodaejgcaaGreatDoor
section
open Go
def aSE{α:Type}{x:Option α}{a:α}{k:α->Prop}(h:x=some a)(hk:k a):dY x k:=by rw[h];exact hk
def fI{x:Int}(h1: -9223372036854775808≤x)(h2:x≤9223372036854775807):IntKind.i64.wrap x=x:=IntWalk.i64_in _ ⟨h1,h2⟩
def qQ{i:Nat}(h:i<9223372036854775807):IntKind.i64.wrap ((i:Int)+1)=((i+1:Nat):Int):=by rw[fI (by omega) (by omega)];omega
def gV(n:Nat)(i:Nat):List Value->PH->Nat:=λvs _=>match vs[i]? with
 | some (.int _ j)=>n-j.toNat
 | _=>0
def eN(h:PH)(F:List Nat):Prop:=∀b∈F,h b=none
def eN.one{h:PH}{a:Nat}(ha:h a=none):eN h [a]:=λb hb=>by simp at hb;subst hb;exact ha
def dC.none{h h1:PH}(u:dC h h1){b:Nat}(hb:h1 b=none):h b=none:=by
 cases e:h b with
 | none=>rfl
 | some o=>rw[u.get e] at hb;cases hb
def eN.grow{h h1:PH}{F F':List Nat}(f:eN h F)(u:dC h h1)(hg:∀b∈F',b∈F∨h1 b=none):eN h F':=λb hb=>by
 rcases hg b hb with h1|h1
 ·exact f b h1
 ·exact u.none h1
def eN.of{h h1:PH}{F:List Nat}(f:eN h1 F)(u:dC h h1):eN h F:=λb hb=>u.none (f b hb)
def dC.trans{h h1 h2:PH}(u:dC h h1)(v:dC h1 h2):dC h h2:=cT.trans u v
def dC.fresh{h h1 h2:PH}{F:List Nat}(u:dC h h1)(v:cT F h1 h2)(f:eN h F):dC h h2:=λb o hb _=>
 v b o (u.get hb) λhm=>by rw[f b hm] at hb;cases hb
def eO.ext{h h':PH}{e:TypeId}{size:Nat}{v:Value}{rows:List (List Value)}{F:List Nat}(H:eO h e size v rows F)(u:dC h h'):eO h' e size v rows F:=H.upd u (by simp)
def fT{α:Type}{v:α}{k:α->Prop}(hk:k v):dY (dG PG (pure v)) k:=hk
def gL{x:Int}(h1:0≤x)(h2:x<18446744073709551616):IntKind.u64.wrap x=x:=by
 unfold IntKind.wrap;simp[IntKind.signed,IntKind.bits];omega
def aJC(x:Int):IntKind.u8.wrap x=x%256:=by
 unfold IntKind.wrap;simp[IntKind.signed,IntKind.bits]
def aNZ:yV undef=none:=(rfl)
def aL0{X:(Value->PH->Prop)->Prop}{h:PH}{kv:cD}{w:Bool}:nD none w X h kv=kv undef h:=by simp[nD]
def cE:type_of% @aGY∧type_of% @cW∧type_of% @aOV∧type_of% @aOK∧type_of% @aNN∧type_of% @aSU∧type_of% @aR6∧type_of% @aSC∧type_of% @aST∧type_of% @aSK∧type_of% @aSY∧type_of% @aSN∧type_of% @aOX∧type_of% @aQL∧type_of% @aQw∧type_of% @aOH∧type_of% @aQy∧type_of% @aQ5∧type_of% @aUp∧type_of% @aQR∧type_of% @aUH∧type_of% @aUY∧type_of% @aMx∧type_of% @aKk∧type_of% @aL2∧type_of% @aMC∧type_of% @aPZ∧type_of% @iG∧type_of% @kP∧type_of% @oM∧type_of% @decide_true∧type_of% @decide_false∧type_of% @if_true.{0}∧type_of% @if_true.{1}∧type_of% @if_false.{0}∧type_of% @if_false.{1}∧type_of% @Bool.false_eq_true∧type_of% @Bool.not_true∧type_of% @Bool.not_false∧type_of% @List.getElem?_toArray.{0}∧type_of% @List.getElem?_cons_zero.{0}∧type_of% @List.getElem?_cons_succ.{0}∧type_of% @Option.isSome_none.{0}∧type_of% @List.length_map.{0,0}∧type_of% @zPP:=⟨@aGY,@cW,@aOV,@aOK,@aNN,@aSU,@aR6,@aSC,@aST,@aSK,@aSY,@aSN,@aOX,@aQL,@aQw,@aOH,@aQy,@aQ5,@aUp,@aQR,@aUH,@aUY,@aMx,@aKk,@aL2,@aMC,@aPZ,@iG,@kP,@oM,@decide_true,@decide_false,@if_true.{0},@if_true.{1},@if_false.{0},@if_false.{1},@Bool.false_eq_true,@Bool.not_true,@Bool.not_false,@List.getElem?_toArray.{0},@List.getElem?_cons_zero.{0},@List.getElem?_cons_succ.{0},@Option.isSome_none.{0},@List.length_map.{0,0},@zPP⟩
def cV:type_of% @aNZ∧type_of% @aL0∧type_of% @Nat.zero_add∧type_of% @beq_self_eq_true.{0}∧type_of% @bne_self_eq_false.{0}∧type_of% @and_self∧type_of% @Bool.true_and∧type_of% @Bool.false_and∧type_of% @Bool.and_true∧type_of% @Bool.and_false∧type_of% @Bool.true_or∧type_of% @Bool.false_or∧type_of% @Bool.or_true∧type_of% @Bool.or_false:=⟨@aNZ,@aL0,@Nat.zero_add,@beq_self_eq_true.{0},@bne_self_eq_false.{0},@and_self,@Bool.true_and,@Bool.false_and,@Bool.and_true,@Bool.and_false,@Bool.true_or,@Bool.false_or,@Bool.or_true,@Bool.or_false⟩
end
section
open Go Go.RowKit Go.ChangeShapes
def aY2:Kids PG (· < PG.types.size):=kids_rows (by kernel_rfl) (by kernel_rfl)
def aZN:∀t e,t<PG.types.size->PG.underlying t=some (.slice e)->0<PG.cellsOf e:=slices_full_of PG (by kernel_rfl)
def aVR{H:Type}{enc:TypeId×Value->H}{P:Program}{w:World}{spare:Nat->Bool}{held:Bool}{t:TypeId}{v:Value}{d:DataW H}{p:List MemPlace}(hd:DataW.Trod enc P w 0 spare held t v d p):Rd enc P w spare held t v.cells.toList:=by
 obtain⟨k,hk⟩:=hd;exact⟨k,_,hk⟩
def aL8{n:Int}(h:(Lit.int .u64 n).wf=true):0≤n∧n<18446744073709551616:=by
 simp[Lit.wf,IntKind.min,IntKind.max,IntKind.signed,IntKind.bits] at h;omega
end
section
open Go
abbrev mT:=PH->List Nat->Prop
structure mE(A:mT):Prop where
 known:∀{h F},A h F->∀b∈F,h b≠none
 upd:∀{h h' F K},A h F->cT K h h'->(∀b∈F,b∉K)->A h' F
def eI(A B:mT):mT:=λh F=>∃Fa Fb,F=Fa++Fb∧A h Fa∧B h Fb∧∀b∈Fa,b∉Fb
def mE.star{A B:mT}(a:mE A)(b:mE B):mE (eI A B) where
 known:=by
  rintro h F ⟨Fa,Fb,rfl,ha,hb,-⟩ x hx;rcases kA.1 hx with hx|hx
  ·exact a.known ha x hx
  ·exact b.known hb x hx
 upd:=by
  rintro h h' F K ⟨Fa,Fb,rfl,ha,hb,hd⟩ u hK;exact⟨Fa,Fb,rfl,a.upd ha u λx hx=>hK x (by simp[hx]),b.upd hb u λx hx=>hK x (by simp[hx]),hd⟩
def mE.ext{A:mT}(a:mE A){h h':PH}{F:List Nat}(H:A h F)(u:dC h h'):A h' F:=a.upd H u (by simp)
structure jJ(h:PH)(F:List Nat)(h':PH)(F':List Nat):Prop where
 upd:cT F h h'
 grow:∀b∈F',b∈F∨h b=none
def jJ.refl{h:PH}{F:List Nat}:jJ h F h F:=⟨cT.refl,λb hb=>.inl hb⟩
def jJ.ext{h h':PH}{F:List Nat}(u:dC h h'):jJ h F h' F:=⟨u.upd,λb hb=>.inl hb⟩
def jJ.trans{h h1 h2:PH}{F F1 F2:List Nat}(a:jJ h F h1 F1)(b:jJ h1 F1 h2 F2):jJ h F h2 F2 where
 upd:=a.upd.then b.upd a.grow
 grow:=λx hx=>by
  rcases b.grow x hx with hx|hx
  ·exact a.grow x hx
  ·by_cases hF:x∈F
   ·exact .inl hF
   ·right;cases e:h x with
    | none=>rfl
    | some o=>have:=a.upd x o e hF;rw[hx] at this;cases this
def uC(h:PH)(F:List Nat)(A:mT)(W:mT->mT):Prop:=
 ∃Fa,A h Fa∧(∀b∈Fa,b∈F)∧∀(A':mT) (h':PH) (Fa':List Nat),A' h' Fa'->jJ h Fa h' Fa'->∃F',W A' h' F'∧jJ h F h' F'
def eI.left{A B:mT}(b:mE B){h:PH}{F:List Nat}(H:(eI A B) h F):uC h F A (λA'=>eI (A') B):=by
 obtain⟨Fa,Fb,rfl,ha,hb,hd⟩:=H;refine⟨Fa,ha,λx hx=>by simp[hx],λA' h' Fa' hA s=>⟨Fa'++Fb,⟨Fa',Fb,rfl,hA,b.upd hb s.upd (λx hx hx'=>hd x hx' hx),λx hx hx'=>?_⟩,⟨λx o hx hn=>s.upd x o hx (λhm=>hn (by simp[hm])),λx hx=>?_⟩⟩⟩
 ·rcases s.grow x hx with h1|h1
  ·exact hd x h1 hx'
  ·exact b.known hb x hx' h1
 ·rcases kA.1 hx with hx|hx
  ·rcases s.grow x hx with h1|h1
   ·exact .inl (by simp[h1])
   ·exact .inr h1
  ·exact .inl (by simp[hx])
def eI.right{A B:mT}(a:mE A){h:PH}{F:List Nat}(H:(eI A B) h F):uC h F B (λB'=>eI A (B')):=by
 obtain⟨Fa,Fb,rfl,ha,hb,hd⟩:=H;refine⟨Fb,hb,λx hx=>by simp[hx],λB' h' Fb' hB s=>⟨Fa++Fb',⟨Fa,Fb',rfl,a.upd ha s.upd (λx hx hx'=>hd x hx hx'),hB,λx hx hx'=>?_⟩,⟨λx o hx hn=>s.upd x o hx (λhm=>hn (by simp[hm])),λx hx=>?_⟩⟩⟩
 ·rcases s.grow x hx' with h1|h1
  ·exact hd x hx h1
  ·exact a.known ha x hx h1
 ·rcases kA.1 hx with hx|hx
  ·exact .inl (by simp[hx])
  ·rcases s.grow x hx with h1|h1
   ·exact .inl (by simp[h1])
   ·exact .inr h1
def uC.comp{h:PH}{F:List Nat}{A B:mT}{W V:mT->mT}(f:uC h F A W)(g:∀Fa,A h Fa->uC h Fa B V):uC h F B (λB'=>W (V B')):=by
 obtain⟨Fa,ha,hFa,c⟩:=f;obtain⟨Fb,hb,hFb,d⟩:=g Fa ha;refine⟨Fb,hb,λx hx=>hFa x (hFb x hx),λB' h' Fb' hB s=>?_⟩;obtain⟨Fa',hV,s'⟩:=d B' h' Fb' hB s;exact c _ h' Fa' hV s'
def oJ(r:Nat)(cs:List Value):mT:=λh F=>F=[r]∧Bx h r cs
def oJ.good(r:Nat)(cs:List Value):mE (oJ r cs) where
 known:=by
  rintro h F ⟨rfl,B⟩ b hb;simp only[gE] at hb;subst hb;exact B.known
 upd:=by
  rintro h h' F K ⟨rfl,B⟩ u hK;exact⟨rfl,B.upd u (hK r (by simp))⟩
def xV(e:TypeId)(n:Nat)(v:Value)(rows:List (List Value)):mT:=λh F=>eO h e n v rows F
def xV.good(e:TypeId)(n:Nat)(v:Value)(rows:List (List Value)):mE (xV e n v rows) where
 known:=λH b hb=>eO.known H b hb
 upd:=λH u hK=>eO.upd H u hK
def eI.mk{A B:mT}{h:PH}{Fa Fb:List Nat}(ha:A h Fa)(hb:B h Fb)(hd:∀b∈Fa,b∉Fb):(eI A B) h (Fa++Fb):=⟨Fa,Fb,rfl,ha,hb,hd⟩
section
variable{P:Program}{h:PH}{t t' kt et:TypeId}{α:Type}[DecidableEq α]{enc:α->Value}
def aMX(l:List (α×Value))(a:α):List (α×Value):=l.filter λp=>decide (p.1≠a)
def aMW{β:Type}:∀(L:List (α×β)) (a:α) (q:Nat),(L.map (·.1)).Nodup->(L.map (·.1))[q]? =some a->L.eraseIdx q=L.filter λp=>decide (p.1≠a)
 | [],a,q,_,hq=>by simp at hq
 | p::ps,a,0,hnd,hq=>by
  simp only[iJ,pU,zL9] at hq;simp only[iJ,aKQ] at hnd;simp only[List.eraseIdx_cons_zero,zLt,hq,ne_eq,not_true,decide_false,zLu,if_false];symm;rw[aKs];intro x hx;simp only[decide_eq_true_eq];rintro e;exact hnd.1 (by rw[hq,←e];exact zL8 hx)
 | p::ps,a,q+1,hnd,hq=>by
  simp only[iJ,rZ] at hq;simp only[iJ,aKQ] at hnd;have hne:p.1≠a:=λe=>hnd.1 (by rw[e];exact vR hq);simp only[List.eraseIdx_cons_succ,zLt,hne,ne_eq,not_false_eq_true,decide_true,if_true];rw[aMW ps a q hnd.2 hq]
def aMV{β γ:Type}(f:β->γ):∀(L:List β) (q:Nat),(L.map f).eraseIdx q=(L.eraseIdx q).map f
 | [],_=>rfl
 | _::_,0=>rfl
 | x::xs,q+1=>by simp only[iJ,List.eraseIdx_cons_succ,aMV f xs q]
def aJ9{β:Type}:∀(D L:List β),D.Nodup->(∀p∈D,p∈L)->D.length≤L.length
 | [],_,_,_=>aG9 _
 | p::ps,L,hn,hs=>by
  obtain⟨a,b,rfl⟩:=List.append_of_mem (hs p (by simp));simp only[aKQ] at hn;have:=aJ9 ps (a++b) hn.2 λq hq=>by
   have:=hs q (by simp[hq]);simp only[kA,gU] at this ⊢;rcases this with h|rfl|h
   ·exact .inl h
   ·exact absurd hq hn.1
   ·exact .inr h
  simp only[rN,jS] at this ⊢;omega
def aTL{a:α}{L:List (α×Value×Nat)}(e2:a∉L.map (·.1)):(L.filter λp=>decide (p.1≠a))=L:=by
 rw[aKs];intro x hx;simp only[decide_eq_true_eq];rintro e;exact e2 (by rw[←e];exact zL8 hx)
def aPN(L:List (α×Value×Nat))(a:α):aMX (L.map λp=>(p.1,p.2.1)) a=(L.filter λp=>decide (p.1≠a)).map λp=>(p.1,p.2.1):=by
 unfold aMX;rw[List.filter_map];rfl
def aO9{r:Nat}{l:List (α×Value)}(K:aJ7 P kt enc)(hu:P.underlying t=some (.map kt et))(H:jP enc h r l)(a:α){ts:Array TypeId}(hts:ts[0]? =some t){k:cD}
  (hk:∀h',jP enc h' r (aMX l a)->cT [r] h h'->k (.tuple #[]) h'):dA P (Builtin.delete_ ts t' #[.map (some r),enc a]) h k:=by
 obtain⟨es,c,L,h1,h2,rfl,hb1,hb2⟩:=H.here;have hnd:=H.nodup;rw[aDT] at hnd;unfold Builtin.delete_;simp only[hts,zLK,pU,rZ];show dA P (underlying t >>= _) h _;rw[pS hu];dsimp only;refine aDt h1 ?_;dsimp only;refine iE (K.chk h _ a) ?_;rw[h2];refine iE (aLC K a L) ?_;have hnd2:(uT (aMX (L.map λp=>(p.1,p.2.1)) a)).Nodup:=by
  rw[aPN,aDT];exact List.Nodup.sublist (List.Sublist.map _ List.filter_sublist) hnd
 have hb3:((L.filter λp=>decide (p.1≠a)).map (·.2.2)).Nodup:=List.Nodup.sublist (List.Sublist.map _ List.filter_sublist) hb1;have hb4:∀p∈L.filter λp=>decide (p.1≠a),p.2.2<c:=λp hp=>hb2 p (zL2.1 hp).1;rcases aNY a L 0 with⟨q,w,e1,e2,e3⟩|⟨e1,e2⟩
 ·rw[e1,fO];show(∃u,h r=some u∧(∀c e f,u≠ .cells c e f))∧_;refine⟨⟨_,h1,by intros;simp⟩,?_⟩;show k (.tuple #[]) _;refine hk _ ⟨hnd2,_,c,L.filter (λp=>decide (p.1≠a)),dJ,?_,aPN L a,hb3,hb4⟩ (cT.set (by simp));rw[←aMW L a q hnd e2];have hq:q<es.size:=by
   rw[←Array.length_toList,h2];have:=(zLA.1 e2).1;simpa[aCr] using this
  rw[Array.eraseIdxIfInBounds,dif_pos hq,Array.toList_eraseIdx,h2];unfold aCr;exact aMV _ _ _
 ·rw[e1];show(∃u,h r=some u∧(∀c e f,u≠ .cells c e f))∧_;refine⟨⟨_,h1,by intros;simp⟩,?_⟩;show k (.tuple #[]) _;refine hk _ ⟨hnd2,_,c,L,dJ,h2,?_,hb1,hb2⟩ (cT.set (by simp));rw[aPN,aTL e2]
structure aC4(enc:α->Value)(h:PH)(r it:Nat)(l D:List (α×Value)):Prop where
 nodup:(uT l).Nodup
 here:∃(es:Array MapEntry) (c:Nat) (L DL:List (α×Value×Nat)) (S:Array Nat),h r=some (.map es c)∧es.toList=aCr enc L∧l=L.map (λp=>(p.1,p.2.1))∧(L.map (·.2.2)).Nodup∧(∀p∈L,p.2.2<c)∧
  h it=some (.mapIter (some r) c S c)∧S.toList=DL.map (·.2.2)∧(∀p∈DL,p∈L)∧DL.Nodup∧D=DL.map (λp=>(p.1,p.2.1))
def aC4.upd{h h':PH}{r it:Nat}{l D:List (α×Value)}{G:List Nat}(H:aC4 enc h r it l D)(u:cT G h h')(hr:r∉G)(hi:it∉G):aC4 enc h' r it l D:=by
 obtain⟨es,c,L,DL,S,h1,h2,h3,h4,h5,h6,h7⟩:=H.here;exact⟨H.nodup,es,c,L,DL,S,u.get h1 hr,h2,h3,h4,h5,u.get h6 hi,h7⟩
def aC4.known{r it:Nat}{l D:List (α×Value)}(H:aC4 enc h r it l D):h it≠none:=by
 obtain⟨es,c,L,DL,S,h1,h2,h3,h4,h5,h6,_⟩:=H.here;rw[h6];simp
def aOi(n:Nat)(it:Nat)(h:PH):Nat:=match h it with
 | some (.mapIter _ _ S _)=>n-S.size
 | _=>0
def aC4.left{r it:Nat}{l D:List (α×Value)}(H:aC4 enc h r it l D)(n:Nat):aOi n it h=n-D.length:=by
 obtain⟨es,c,L,DL,S,h1,h2,h3,h4,h5,h6,h7,_,_,h8⟩:=H.here;unfold aOi;rw[h6];have:S.size=D.length:=by rw[←Array.length_toList,h7,h8];simp
 simp only[this]
def aC4.le{r it:Nat}{l D:List (α×Value)}(H:aC4 enc h r it l D):D.length≤l.length:=by
 obtain⟨es,c,L,DL,S,h1,h2,rfl,h4,h5,h6,h7,h9,h10,rfl⟩:=H.here;rw[jB,jB];exact aJ9 _ _ h10 h9
def aQo{r:Nat}{l:List (α×Value)}(hu:P.underlying t=some (.map kt et))(H:jP enc h r l){k:cD}
  (hk:∀it h',h it=none->aC4 enc h' r it l []->dC h h'->k (pT it 0) h'):dA P (Instr.range t (.map (some r))) h k:=by
 obtain⟨es,c,L,h1,h2,rfl,hb1,hb2⟩:=H.here;unfold Instr.range;show dA P (underlying t >>= _) h _;rw[pS hu];have key:∀(X:Sem Obj) (f:Obj->Sem Value),dA P X h (λo h'=>dA P (f o) h' k)->dA P (X >>= f) h k:=λX f hX=>dA.bind (P:=P) (s:=X) hX;refine key _ _ ?_;refine aDt h1 ?_;intro it hit;exact hk it _ hit ⟨H.nodup,es,c,L,[],#[],aSV hit h1,h2,rfl,hb1,hb2,dJ,rfl,by simp,by simp,rfl⟩ (cT.new hit)
def aGx{β γ:Type}(f:β->γ):∀{L:List β},(L.map f).Nodup->L.Nodup
 | [],_=>List.nodup_nil
 | x::xs,hnd=>by
  simp only[iJ,aKQ] at hnd ⊢;exact⟨λhm=>hnd.1 (zL8 hm),aGx f hnd.2⟩
def aEn{β γ:Type}{f:β->γ}:∀{L:List β},(L.map f).Nodup->∀{p q:β},p∈L->q∈L->f p=f q->p=q
 | [],_,p,q,hp,_,_=>by cases hp
 | x::xs,hnd,p,q,hp,hq,e=>by
  simp only[iJ,aKQ] at hnd;rcases gU.1 hp with hp|hp
  ·rcases gU.1 hq with hq|hq
   ·rw[hp,hq]
   ·exact absurd (by rw[←hp,e];exact zL8 hq) hnd.1
  ·rcases gU.1 hq with hq|hq
   ·exact absurd (by rw[←hq,←e];exact zL8 hp) hnd.1
   ·exact aEn hnd.2 hp hq e
def aPv{r:Nat}{o:Obj}{β:Type}{Q:β->PH->Prop}(hr:h r=some o)(hc:∀c e f,o≠ .cells c e f){f:Obj->Sem β}(hq:dA P (f o) h Q):dA P (getObj r >>= f) h Q:=by
 show ∃o,h r=some o∧(∀c e f,o≠ .cells c e f)∧dA P _ h Q;exact⟨o,hr,hc,hq⟩
def aSS{r it:Nat}{l D:List (α×Value)}(H:aC4 enc h r it l D){k:cD}
  (hnil:D.Perm l->k (.tuple #[.bool false]) h)
  (hcons:∀a v h',(a,v)∈l->a∉uT D->aC4 enc h' r it l (D++[(a,v)])->cT [it] h h'->k (.tuple #[.bool true,enc a,v]) h'):dA P (Instr.next (pT it 0) false t) h k:=by
 obtain⟨es,c,L,DL,S,h1,h2,h3,hb1,hb2,hi,hS,hDL,hDn,hD⟩:=H.here;unfold Instr.next;refine aPv hi (by intros;simp) ?_;dsimp only;refine aDt h1 ?_;dsimp only;have hborn:∀e∈es.toList,e.born<c:=λe he=>by
  rw[h2] at he;obtain⟨p,hp,rfl⟩:=mG.1 he;exact hb2 p hp
 have hgo:(!S.isEmpty && !es.isEmpty&&es.all (·.born ≥ c))=false:=by
  by_cases he:es.isEmpty=true
  ·simp[he]
  ·have:es.all (·.born ≥ c)=false:=by
    rw[Bool.eq_false_iff];intro hall;have hne:es.toList≠[]:=by intro e;apply he;simpa using e
    obtain⟨x,xs,hx⟩:=List.exists_cons_of_ne_nil hne;have h1:=hborn x (by rw[hx];simp);have h2:=Array.all_eq_true_iff_forall_mem.1 hall x (by rw[←Array.mem_toList_iff,hx];simp);simp only[ge_iff_le,decide_eq_true_eq] at h2;omega
   simp[this]
 rw[hgo];simp only[zLu,if_false];obtain⟨LL,hLL⟩:∃LL:List (α×Value×Nat),LL=L.filter λp=>decide (p.2.2∉DL.map (·.2.2)):=⟨_,rfl⟩;have hleft:(es.filter λe=>!S.contains e.born).toList=aCr enc LL:=by
  rw[Array.toList_filter,h2,hLL];unfold aCr;rw[List.filter_map];congr 1;apply List.filter_congr;intro p _;simp only[Function.comp];rw[←Array.contains_toList,hS];by_cases hm:p.2.2∈DL.map (·.2.2)
  ·simp[hm]
  ·simp[hm]
 have hmemLL:∀p,p∈LL↔p∈L∧p.2.2∉DL.map (·.2.2):=λp=>by rw[hLL,zL2];simp
 have hold:((es.filter λe=>!S.contains e.born).filter (·.born<c)).toList=aCr enc LL:=by
  rw[Array.toList_filter,hleft,aKs];intro e he;obtain⟨p,hp,rfl⟩:=mG.1 he;simpa using hb2 p ((hmemLL p).1 hp).1
 have hnew:((es.filter λe=>!S.contains e.born).filter (·.born ≥ c))= #[]:=by
  rw[←Array.toList_inj,Array.toList_filter,hleft];show _=[];rw[List.filter_eq_nil_iff];intro e he;obtain⟨p,hp,rfl⟩:=mG.1 he;have:=hb2 p ((hmemLL p).1 hp).1;simp only[ge_iff_le,decide_eq_true_eq];omega
 generalize ho:(es.filter λe=>!S.contains e.born).filter (·.born<c)=old at hold;rw[hnew];simp only[Array.append_empty];by_cases hemp:LL=[]
 ·have hold0:old= #[]:=by rw[←Array.toList_inj,hold,hemp];rfl
  subst hold0;simp only[List.isEmpty_toArray,List.isEmpty_nil,if_true,List.map_toArray,iZ,Array.append_empty,List.size_toArray,rN,zLN,fO];rw[aAQ];intro tt;have:(if Question.forced (.mapNext 1) then 0 else Question.cut (.mapNext 1) tt)=0:=by simp[Question.forced]
  rw[this];show k (.tuple #[.bool false]) h;refine hnil ?_;rw[hD,h3];apply List.Perm.map;refine(List.perm_ext_iff_of_nodup hDn ?_).2 λp=>⟨hDL p,λhp=>?_⟩
  ·exact aGx _ hb1
  ·by_cases hm:p.2.2∈DL.map (·.2.2)
   ·obtain⟨q,hq,e⟩:=mG.1 hm;rw[aEn (f:=λp:α×Value×Nat=>p.2.2) hb1 hp (hDL q hq) e.symm];exact hq
   ·have:=(hmemLL p).2 ⟨hp,hm⟩;rw[hemp] at this;cases this
 ·have hne:old.isEmpty=false:=by
   rw[Bool.eq_false_iff];intro e;have:old.toList=[]:=by simpa using e
   rw[hold] at this;exact hemp (List.map_eq_nil_iff.1 this)
  rw[hne];simp only[zLu,if_false,Array.empty_append,Array.size_map];have hpos:0<old.size:=by
   rw[←Array.length_toList,hold];unfold aCr;rw[jB];exact aHd.2 hemp
  rw[aAQ];intro tt;obtain⟨j,hj,hjlt⟩:∃j,(if Question.forced (.mapNext old.size) then 0 else Question.cut (.mapNext old.size) tt)=j∧j<old.size:=by
   refine⟨_,rfl,?_⟩;split
   ·exact hpos
   ·exact zLB _ hpos
  rw[hj];have hjl:j<LL.length:=by
   have:old.size=LL.length:=by rw[←Array.length_toList,hold];simp[aCr]
   omega
  have hget:(old.map some)[j]? =some (some ⟨enc LL[j].1,LL[j].2.1,LL[j].2.2⟩):=by
   rw[Array.getElem?_map,←aLY,hold];simp[aCr,hjl]
  rw[hget];dsimp only;have hp:=(hmemLL LL[j]).1 (aMD hjl);generalize LL[j]=p at hp;obtain⟨hpL,hpD⟩:=hp;show(∃u,h it=some u∧(∀c e f,u≠ .cells c e f))∧_;refine⟨⟨_,hi,by intros;simp⟩,?_⟩;have hri:r≠it:=λe=>by rw[e,hi] at h1;cases h1
  refine hcons p.1 p.2.1 _ ?_ ?_ ⟨H.nodup,es,c,L,DL++[p],S.push p.2.2,(by rw[qL hri];exact h1),h2,h3,hb1,hb2,dJ,?_,?_,?_,?_⟩ (cT.set (by simp))
  ·rw[h3];exact zL8 hpL
  ·intro hm;rw[hD,aDT] at hm;obtain⟨q,hq,e⟩:=mG.1 hm;have hnd:=H.nodup;rw[h3,aDT] at hnd;have hqL:=hDL q hq;have:q=p:=aEn (f:=λp:α×Value×Nat=>p.1) hnd hqL hpL e;exact hpD (by rw[←this];exact zL8 hq)
  ·rw[Array.toList_push,hS];simp
  ·intro q hq;rcases kA.1 hq with hq|hq
   ·exact hDL q hq
   ·simp only[gE] at hq;subst hq;exact hpL
  ·rw[List.nodup_append];refine⟨hDn,by simp,?_⟩;intro x hx y hy;simp only[gE] at hy;subst hy;rintro rfl;exact hpD (zL8 hx)
  ·rw[hD];simp
def aQm{r it:Nat}{l D:List (α×Value)}{a:α}{v:Value}(H:aC4 enc h r it l (D++[(a,v)])){k:cD}(hk:k (.tuple #[enc a,v]) h):dA P (Instr.entry (pT it 0)) h k:=by
 obtain⟨es,c,L,DL,S,h1,h2,h3,hb1,hb2,hi,hS,hDL,hDn,hD⟩:=H.here;obtain⟨DL',p,rfl,hp1⟩:∃DL' p,DL=DL'++[p]∧(a,v)=(p.1,p.2.1):=by
  rcases List.eq_nil_or_concat DL with rfl|⟨DL',p,rfl⟩
  ·simp at hD
  ·refine⟨DL',p,by simp,?_⟩;simp only[List.concat_eq_append,pY,iJ,iZ] at hD;have:=List.append_inj_right' hD rfl;simpa using this
 simp only[Prod.mk.injEq] at hp1;obtain⟨rfl,rfl⟩:=hp1;have hpL:=hDL p (by simp);unfold Instr.entry;refine aPv hi (by intros;simp) ?_;dsimp only;have hback:S.back? =some p.2.2:=by
  rw[←Array.getLast?_toList,hS];simp
 rw[hback];dsimp only;refine aDt h1 ?_;dsimp only;simp only[bne_self_eq_false,zLu,if_false];have hfind:es.find? (·.born==p.2.2)=some ⟨enc p.1,p.2.1,p.2.2⟩:=by
  rw[←Array.find?_toList,h2];unfold aCr;rw[List.find?_map];have:L.find? ((λe:MapEntry=>e.born==p.2.2) ∘ λp=>⟨enc p.1,p.2.1,p.2.2⟩)=some p:=by
   cases hf:L.find? ((λe:MapEntry=>e.born==p.2.2) ∘ λp=>⟨enc p.1,p.2.1,p.2.2⟩) with
   | none=>
    rw[List.find?_eq_none] at hf;have:=hf p hpL;simp at this
   | some q=>
    have hq:=List.mem_of_find?_eq_some hf;have he:=List.find?_some hf;simp only[Function.comp,beq_iff_eq] at he;rw[aEn (f:=λp:α×Value×Nat=>p.2.2) hb1 hq hpL he]
  rw[this];rfl
 rw[hfind];exact hk
def aUS{r:Nat}{l:List (α×Value)}(H:jP enc h r l){k:cD}
  (hk:∀r' h',h r'=none->jP enc h' r' l->dC h h'->k (.iface t (.map (some r'))) h'):dA P (Extern.MapsClone.clone #[.iface t (.map (some r))]) h k:=by
 obtain⟨es,c,L,h1,h2,h3,hb1,hb2⟩:=H.here;unfold Extern.MapsClone.clone;refine aDt h1 ?_;intro r' hr';exact hk r' _ hr' ⟨H.nodup,es,c,L,dJ,h2,h3,hb1,hb2⟩ (cT.new hr')
end
structure Pk where
 f:Int
 s:Int
 t:Int
 d:ByteArray
 deriving DecidableEq
instance:Inhabited Pk:=⟨⟨0,0,0,⟨#[]⟩⟩⟩
def Pk.cells(p:Pk):List Value:=[.int .i64 p.f,.int .u64 p.s,.int .u64 p.t,.string p.d]
def Pk.allCell(p:Pk):∀v∈p.cells.toArray.toList,fX v=true:=by simp[Pk.cells,fX]
def Bx.pk{h:PH}{r:Nat}{cs:List Value}(H:Bx h r cs){o:Nat}{p:Pk}(ho:(cs.drop o).take 4=p.cells):cH PG h (loadAt aR (pT r o))=some (.agg p.cells.toArray):=by
 obtain⟨e,h1⟩:=H;have hl:o+4≤cs.length:=by
  have:((cs.drop o).take 4).length=4:=by rw[ho];rfl
  rw[nC,pB] at this;omega
 rw[aR.loadAgg h1 (by simpa using hl)];congr 2;rw[←ho];simp[zLy]
def Pk.right(p:Pk):Bool:=decide (0≤p.f)&&decide (p.f≤1)&&decide (p.s≠0)&&decide (p.t≠0)&&decide (p.d.size≤64)
def aLX{h:PH}(p:Pk){k:cD}(hk:∀h',dC h h'->k (.int .i64 (if p.right then 0 else 1)) h'):aT PG zD #[.agg p.cells.toArray] h k:=by
 apply aHD.call;unfold aHD;intro r hr;rw[cW];have u:dC h (h.set r (.cells (Value.cells (.agg p.cells.toArray)) aR)):=cT.new hr;have b:Bx (h.set r (.cells (Value.cells (.agg p.cells.toArray)) aR)) r p.cells:=Bx.new;generalize h.set r (.cells (Value.cells (.agg p.cells.toArray)) aR)=h1 at *;have c0:dB h1 ⟨r,0,none⟩=some (.int .i64 p.f):=b.cell 0;have c1:dB h1 ⟨r,0+1,none⟩=some (.int .u64 p.s):=b.cell 1;have c2:dB h1 ⟨r,0+2,none⟩=some (.int .u64 p.t):=b.cell 2;have c3:dB h1 ⟨r,0+3,none⟩=some (.string p.d):=b.cell 3;have hk:=hk h1 u;unfold Pk.right at hk;simp only[aR.f0,aR.f1,aR.f2,aR.f3,bT.load,cA.load,bR.load,c0,cE,reduceIte];by_cases d1:p.f<0
 ·have e1:(0≤p.f)=False:=by apply eq_false;omega
  simp only[aR.f0,aR.f1,aR.f2,aR.f3,bT.load,cA.load,bR.load,c0,d1,e1,vN,decide_false,cE,reduceIte] at hk ⊢;exact hk
 ·have e1:(0≤p.f)=True:=by apply eq_true;omega
  by_cases d2:1<p.f
  ·have e2:(p.f≤1)=False:=by apply eq_false;omega
   simp only[aR.f0,aR.f1,aR.f2,aR.f3,bT.load,cA.load,bR.load,c0,d1,e1,d2,e2,vN,aFa,decide_false,cE,reduceIte] at hk ⊢;exact hk
  ·have e2:(p.f≤1)=True:=by apply eq_true;omega
   by_cases d3:p.s=0
   ·have e3:(p.s==0)=true:=by simp[d3]
    have e3':(p.s≠0)=False:=by simp[d3]
    simp only[aR.f0,aR.f1,aR.f2,aR.f3,bT.load,cA.load,bR.load,c0,d1,e1,d2,e2,c1,e3,e3',vN,aFa,decide_false,cE,reduceIte] at hk ⊢;exact hk
   ·have e3:(p.s==0)=false:=by simp[d3]
    have e3':(p.s≠0)=True:=by simp[d3]
    by_cases d4:p.t=0
    ·have e4:(p.t==0)=true:=by simp[d4]
     have e4':(p.t≠0)=False:=by simp[d4]
     simp only[aR.f0,aR.f1,aR.f2,aR.f3,bT.load,cA.load,bR.load,c0,d1,e1,d2,e2,c1,e3,e3',c2,e4,e4',vN,aFa,decide_false,cE,reduceIte] at hk ⊢;exact hk
    ·have e4:(p.t==0)=false:=by simp[d4]
     have e4':(p.t≠0)=True:=by simp[d4]
     by_cases d5:p.d.size≤64
     ·have e5:((64:Int)<(p.d.size:Int))=False:=by apply eq_false;omega
      simp only[aR.f0,aR.f1,aR.f2,aR.f3,bT.load,cA.load,bR.load,c0,d1,e1,d2,e2,c1,e3,e3',c2,e4,e4',c3,mL bR.und,e5,d5,Bool.and_self,zLp,cE,reduceIte] at hk ⊢;exact hk
     ·have e5:((64:Int)<(p.d.size:Int))=True:=by apply eq_true;omega
      simp only[aR.f0,aR.f1,aR.f2,aR.f3,bT.load,cA.load,bR.load,c0,d1,e1,d2,e2,c1,e3,e3',c2,e4,e4',c3,mL bR.und,e5,d5,aFa,decide_false,cE,reduceIte] at hk ⊢;exact hk
structure Nt where
 k:Int
 p:Pk
 deriving DecidableEq
def Nt.cells(n:Nt):List Value:=[.int .i64 n.k,.int .i64 n.p.f,.int .u64 n.p.s,.int .u64 n.p.t,.string n.p.d]
def Nt.rows(l:List Nt):Rows 5 (l.map Nt.cells):=λr hr=>by obtain⟨m,_,rfl⟩:=mG.1 hr;rfl
def Bx.nt{h:PH}{r:Nat}{n:Nt}(H:Bx h r n.cells):cH PG h (loadAt dI (pT r 0))=some (.agg n.cells.toArray):=by
 obtain⟨e,h1⟩:=H;rw[dI.loadAgg h1 (by show 0+5≤5;decide)];rfl
def Nt.right(n:Nt):Bool:=decide (1≤n.k)&&decide (n.k≤4)&&n.p.right
def aTu{h:PH}(n:Nt){k:cD}(hk:∀h',dC h h'->k (.int .i64 (if n.right then 0 else 1)) h'):aT PG aIZ #[.agg n.cells.toArray] h k:=by
 apply aI8.call;unfold aI8;intro r hr;rw[cW];have u:dC h (h.set r (.cells (Value.cells (.agg n.cells.toArray)) dI)):=cT.new hr;have b:Bx (h.set r (.cells (Value.cells (.agg n.cells.toArray)) dI)) r n.cells:=Bx.new;generalize h.set r (.cells (Value.cells (.agg n.cells.toArray)) dI)=h1 at *;have c0:dB h1 ⟨r,0,none⟩=some (.int .i64 n.k):=b.cell 0;have p1:=b.pk (o:=0+1) (p:=n.p) rfl;unfold Nt.right at hk;simp only[dI.f0,dI.f1,bT.load,c0,cE,reduceIte];by_cases d1:n.k<1
 ·have e1:(1≤n.k)=False:=by apply eq_false;omega
  simp only[dI.f0,dI.f1,bT.load,c0,d1,e1,vN,decide_false,cE,reduceIte] at hk ⊢;exact hk _ u
 ·have e1:(1≤n.k)=True:=by apply eq_true;omega
  by_cases d2:4<n.k
  ·have e2:(n.k≤4)=False:=by apply eq_false;omega
   simp only[dI.f0,dI.f1,bT.load,c0,d1,e1,d2,e2,vN,aFa,decide_false,cE,reduceIte] at hk ⊢;exact hk _ u
  ·have e2:(n.k≤4)=True:=by apply eq_true;omega
   simp only[dI.f0,dI.f1,bT.load,c0,d1,e1,d2,e2,p1,zLp,cE,reduceIte] at hk ⊢;refine aLX n.p λh2 u2=>hk _ (u.trans u2)
def aTs(x:Int):dG PG (convert cA dQ (.int .u64 x))=some (.int .u8 (IntKind.u8.wrap x)):=by kernel_rfl
def aMU(x:Int):jZ PG (buildSlice dE 1 #[(0,.int .u8 x)])=some (.cells #[.int .u8 x] dQ,λr=>pure (.slice (some ⟨r,0,none⟩) 1 1)):=by kernel_rfl
def sS{h:PH}{n c:Nat}(hn:n<18446744073709551616)(hc:c≤1000){k:cD}(hk:∀h',dC h h'->k (.string (tx (be n c))) h'):aT PG jI #[.int .u64 n,.int .i64 c] h k:=by
 apply aBo.call;unfold aBo;refine⟨λvs h'=>∃i:Nat,i≤c∧vs=[.int .u64 ((n/256^i:Nat):Int),.int .i64 c,.string (tx ((be n c).drop (c-i))),.int .i64 i]∧dC h h',gV c 3,⟨0,by omega,by rw[aLb (by rw[jG];omega)];simp[aZL],cT.refl⟩,?_⟩;rintro ρ h' ⟨i,hi,hvs,w⟩;simp only[iJ,iZ,lP,and_true] at hvs;obtain⟨s0,s1,s2,s3⟩:=hvs;rw[s0,s1,s2,s3];unfold aGe;by_cases hlt:i<c
 ·have hd:((i:Int)<(c:Int))=True:=by apply eq_true;omega
  have hle:n/256^i≤n:=Nat.div_le_self _ _;have e1:Int.tmod ((n/256^i:Nat):Int) 256=((n/256^i%256:Nat):Int):=(Int.ofNat_tmod _ 256).symm;have e2:IntKind.u8.wrap ((n/256^i%256:Nat):Int)=((UInt8.ofNat (n/256^i%256)).toNat:Int):=by rw[aJC];simp
  have e3:IntKind.u64.wrap (Int.tdiv ((n/256^i:Nat):Int) 256)=((n/256^(i+1):Nat):Int):=by
   have:Int.tdiv ((n/256^i:Nat):Int) 256=((n/256^i/256:Nat):Int):=rfl;have hd2:n/256^i/256=n/256^(i+1):=by rw[Nat.div_div_eq_div_mul,zLR]
   rw[this,hd2];exact gL (Int.natCast_nonneg _) (by have:=Nat.div_le_self n (256^(i+1));omega)
  have ei:=qQ (i:=i) (by omega);simp only[hd,aIK (show(256:Int)≠0 by decide),aL3 (show(256:Int)≠0 by decide),e1,aTs,e2,aMU,cE,reduceIte];intro r hr;refine fT ?_;have u1:dC h' (h'.set r (.cells #[.int .u8 (UInt8.ofNat (n/256^i%256)).toNat] dQ)):=cT.new hr;have s1:gB (h'.set r (.cells #[.int .u8 (UInt8.ofNat (n/256^i%256)).toNat] dQ)) 1 (.slice (some ⟨r,0,none⟩) 1 1) ([UInt8.ofNat (n/256^i%256)].map jQ):=(eO.lit (jQ.rows [_]) dJ (by simp) (by decide) (by simp[jQ])).slR;generalize h'.set r (.cells #[.int .u8 (UInt8.ofNat (n/256^i%256)).toNat] dQ)=h1 at *;have hcv:=aFI dE.und dQ.und bR.und s1;have hcv':cH PG h1 (convert dE bR (.slice (some ⟨r,0,none⟩) 1 1))=some (.string (tx [UInt8.ofNat (n/256^i%256)])):=hcv;have hadd:dG PG (binOp .add bR (.string (tx [UInt8.ofNat (n/256^i%256)])) (.string (tx ((be n c).drop (c-i)))))=some (.string (tx ((be n c).drop (c-(i+1))))):=by
   rw[mC (by rw[pB,jG];simp;omega)];congr 3;have hg:=aN6 n c (c-(i+1)) (by omega);have:c-1-(c-(i+1))=i:=by omega
   rw[this] at hg;obtain⟨hlt',hg'⟩:=zLA.1 hg;rw[aHh hlt',hg'];have:c-(i+1)+1=c-i:=by omega
   rw[this];rfl
  simp only[hcv',hadd,e3,ei,cE,reduceIte];exact⟨⟨i+1,by omega,rfl,w.trans u1⟩,by simp[gV,s3];omega⟩
 ·have hd:((i:Int)<(c:Int))=False:=by apply eq_false;omega
  have hic:i=c:=by omega
  subst hic;rw[Nat.sub_self,zLb];simp only[hd,cE,reduceIte];exact hk _ w
abbrev W:=BitVec 32
def wv(x:W):Value:=.int .u32 (x.toNat:Int)
def tn(x:W)(n:Nat):W:=(x <<< (32-n)) ||| (x>>>n)
def w4(a b c d:UInt8):W:=((((BitVec.ofNat 32 a.toNat) <<< 24) ||| ((BitVec.ofNat 32 b.toNat) <<< 16)) ||| ((BitVec.ofNat 32 c.toNat) <<< 8)) ||| (BitVec.ofNat 32 d.toNat)
def wat(b:List UInt8)(t:Nat):W:=w4 (b.getD (4*t) 0) (b.getD (4*t+1) 0) (b.getD (4*t+2) 0) (b.getD (4*t+3) 0)
def aM7(l:List W)(t:Nat):W:=
 let x:=l.getD (t-15) 0;let y:=l.getD (t-2) 0
 ((l.getD (t-16) 0+((tn x 7 ^^^ tn x 18) ^^^ (x>>>3)))+l.getD (t-7) 0)+((tn y 17 ^^^ tn y 19) ^^^ (y>>>10))
def yA(b:List UInt8)(n:Nat):List W:=(List.range n).map (wat b)
def mZ(b:List UInt8):Nat->List W
 | 0=>yA b 16
 | n+1=>mZ b n++[aM7 (mZ b n) (n+16)]
def aFk(b:List UInt8):List W:=mZ b 48
def aHE(b:List UInt8)(n:Nat):(yA b n).length=n:=by simp[yA]
def aNB(b:List UInt8)(n:Nat):yA b (n+1)=yA b n++[wat b n]:=by simp[yA,List.range_succ]
def aKJ(b:List UInt8):∀n,(mZ b n).length=n+16
 | 0=>by simp[mZ,aHE]
 | n+1=>by simp only[mZ,jS,aKJ b n,zLT]
def aLS(b:List UInt8):(aFk b).length=64:=aKJ b 48
structure S8 where
 (a b c d e f g h:W)
def S8.l(s:S8):List W:=[s.a,s.b,s.c,s.d,s.e,s.f,s.g,s.h]
def S8.add(s t:S8):S8:=⟨s.a+t.a,s.b+t.b,s.c+t.c,s.d+t.d,s.e+t.e,s.f+t.f,s.g+t.g,s.h+t.h⟩
def rnd(s:S8)(k w:W):S8:=
 let t1:=(((s.h+((tn s.e 6 ^^^ tn s.e 11) ^^^ tn s.e 25))+((s.e &&& s.f) ^^^ (~~~s.e &&& s.g)))+k)+w;let t2:=((tn s.a 2 ^^^ tn s.a 13) ^^^ tn s.a 22)+(((s.a &&& s.b) ^^^ (s.a &&& s.c)) ^^^ (s.b &&& s.c))
 ⟨t1+t2,s.a,s.b,s.c,s.d+t1,s.e,s.f,s.g⟩
def kT:List W:=[
 0x428a2f98,0x71374491,0xb5c0fbcf,0xe9b5dba5,0x3956c25b,0x59f111f1,0x923f82a4,0xab1c5ed5,
 0xd807aa98,0x12835b01,0x243185be,0x550c7dc3,0x72be5d74,0x80deb1fe,0x9bdc06a7,0xc19bf174,
 0xe49b69c1,0xefbe4786,0x0fc19dc6,0x240ca1cc,0x2de92c6f,0x4a7484aa,0x5cb0a9dc,0x76f988da,
 0x983e5152,0xa831c66d,0xb00327c8,0xbf597fc7,0xc6e00bf3,0xd5a79147,0x06ca6351,0x14292967,
 0x27b70a85,0x2e1b2138,0x4d2c6dfc,0x53380d13,0x650a7354,0x766a0abb,0x81c2c92e,0x92722c85,
 0xa2bfe8a1,0xa81a664b,0xc24b8b70,0xc76c51a3,0xd192e819,0xd6990624,0xf40e3585,0x106aa070,
 0x19a4c116,0x1e376c08,0x2748774c,0x34b0bcb5,0x391c0cb3,0x4ed8aa4a,0x5b9cca4f,0x682e6ff3,
 0x748f82ee,0x78a5636f,0x84c87814,0x8cc70208,0x90befffa,0xa4506ceb,0xbef9a3f7,0xc67178f2]
def aKc:kT.length=64:=rfl
def aH4(ws:List W)(s:S8):Nat->S8
 | 0=>s
 | n+1=>rnd (aH4 ws s n) (kT.getD n 0) (ws.getD n 0)
def aKP(s:S8)(b:List UInt8):S8:=s.add (aH4 (aFk b) s 64)
def S0:S8:=⟨1779033703,3144134277,1013904242,2773480762,1359893119,2600822924,528734635,1541459225⟩
def qN(s:S8)(l:List UInt8):S8×List UInt8:=if h:64≤l.length then qN (aKP s (l.take 64)) (l.drop 64) else(s,l)
termination_by l.length
decreasing_by simp;omega
def aH9{s:S8}{l:List UInt8}(h:l.length<64):qN s l=(s,l):=by rw[qN,dif_neg (by omega)]
def aIQ{s:S8}{l:List UInt8}(h:64≤l.length):qN s l=qN (aKP s (l.take 64)) (l.drop 64):=by rw[qN,dif_pos h]
def aK9(s:S8)(a b:List UInt8):qN s (a++b)=qN (qN s a).1 ((qN s a).2++b):=by
 by_cases h:64≤a.length
 ·have e1:(a++b).take 64=a.take 64:=by rw[zLH h]
  have e2:(a++b).drop 64=a.drop 64++b:=by rw[List.drop_append_of_le_length h]
  rw[aIQ (l:=a++b) (by simp;omega),aIQ h,e1,e2];exact aK9 (aKP s (a.take 64)) (a.drop 64) b
 ·rw[aH9 (l:=a) (by omega)]
termination_by a.length
decreasing_by simp;omega
def aKT(s:S8)(a:List UInt8):(qN s a).2.length<64:=by
 by_cases h:64≤a.length
 ·rw[aIQ h];exact aKT _ _
 ·rw[aH9 (by omega)];show a.length<64;omega
termination_by a.length
decreasing_by simp;omega
def wb(x:W):List UInt8:=[UInt8.ofNat ((x>>>24).toNat),UInt8.ofNat ((x>>>16).toNat),UInt8.ofNat ((x>>>8).toNat),UInt8.ofNat x.toNat]
def aJE(s:S8):List UInt8:=s.l.flatMap wb
def aJk(n:Nat):List UInt8:=128::(List.replicate ((119-n%64)%64) 0++be (n*8%18446744073709551616) 8)
def sL(l:List UInt8):List UInt8:=aJE (qN S0 (l++aJk l.length)).1
section
variable{P:Program}{t:TypeId}{x y:W}{h:PH}
def aGQ(x:Int):IntKind.u32.wrap x=x%4294967296:=by
 rfl
def aEz(x:W):BitVec.ofInt 32 (x.toNat:Int)=x:=by
 apply BitVec.eq_of_toInt_eq;rw[BitVec.toInt_ofInt,BitVec.toInt_eq_toNat_bmod]
def aGG:dG P (binOp .add t (wv x) (wv y))=some (wv (x+y)):=by
 unfold wv;rw[aQw,aGQ,BitVec.toNat_add,←Int.natCast_add];rfl
def aOT(x:W):IntKind.u32.wrap (x.toNat:Int)=x.toNat:=by
 rw[aGQ];have:=x.isLt;omega
def aQG:dG P (binOp .and t (wv x) (wv y))=some (wv (x &&& y)):=by
 have e:dG P (binOp .and t (wv x) (wv y))=some (.int .u32 (IntKind.u32.wrap ((BitVec.ofInt 32 (x.toNat:Int) &&& BitVec.ofInt 32 (y.toNat:Int)).toNat:Int))):=rfl;rw[e,aEz,aEz,aOT];rfl
def aWB:dG P (binOp .or t (wv x) (wv y))=some (wv (x ||| y)):=by
 have e:dG P (binOp .or t (wv x) (wv y))=some (.int .u32 (IntKind.u32.wrap ((BitVec.ofInt 32 (x.toNat:Int) ||| BitVec.ofInt 32 (y.toNat:Int)).toNat:Int))):=rfl;rw[e,aEz,aEz,aOT];rfl
def aER:dG P (binOp .xor t (wv x) (wv y))=some (wv (x ^^^ y)):=by
 have e:dG P (binOp .xor t (wv x) (wv y))=some (.int .u32 (IntKind.u32.wrap ((BitVec.ofInt 32 (x.toNat:Int) ^^^ BitVec.ofInt 32 (y.toNat:Int)).toNat:Int))):=rfl;rw[e,aEz,aEz,aOT];rfl
def aWm:dG P (Op.unary .xor (wv x))=some (wv (~~~x)):=by
 have e:dG P (Op.unary .xor (wv x))=some (.int .u32 (IntKind.u32.wrap ((BitVec.ofInt 32 4294967295 ^^^ BitVec.ofInt 32 (x.toNat:Int)).toNat:Int))):=rfl;rw[e,aEz,aOT];have:BitVec.ofInt 32 4294967295 ^^^ x= ~~~x:=by
  have:BitVec.ofInt 32 4294967295=BitVec.allOnes 32:=by decide
  rw[this,BitVec.allOnes_xor]
 rw[this];rfl
def aJr{k:IntKind}{n:Nat}(hn:n≤32):dG P (binOp .shr t (wv x) (.int k n))=some (wv (x>>>n)):=by
 unfold wv;rw[aJS (by omega)];congr 2;rw[BitVec.toNat_ushiftRight,Nat.shiftRight_eq_div_pow];have e:min ((n:Int).toNat) (IntKind.u32.bits)=n:=by
  show min n 32=n;omega
 rw[e,Int.fdiv_eq_ediv_of_nonneg _ (Int.pow_nonneg (by decide)),Int.natCast_ediv,Int.natCast_pow];rfl
def aOD{k:IntKind}{n:Nat}(hn:n≤32):dG P (binOp .shl t (wv x) (.int k n))=some (wv (x <<< n)):=by
 unfold wv;rw[aQI (by omega)];congr 2;have e:min ((n:Int).toNat) (IntKind.u32.bits)=n:=by
  show min n 32=n;omega
 rw[e,aGQ,BitVec.toNat_shiftLeft,Nat.shiftLeft_eq,Int.natCast_emod,Int.natCast_mul,Int.natCast_pow];rfl
end
def aKN(x:Int):dG PG (convert bT nV (.int .i64 x))=some (.int .u64 (IntKind.u64.wrap x)):=by kernel_rfl
def aSL(x:Int):dG PG (convert dQ cL (.int .u8 x))=some (.int .u32 (IntKind.u32.wrap x)):=by kernel_rfl
def aXW(x:Int):dG PG (convert cL dQ (.int .u32 x))=some (.int .u8 (IntKind.u8.wrap x)):=by kernel_rfl
def aZu:∀n:Fin 32,((BitVec.ofInt 64 (18446744073709551616-(n.val:Int)) &&& BitVec.ofInt 64 31).toNat:Int)=(32-(n.val:Int))%32:=by decide
def aZA(n:Nat)(h1:1≤n)(h2:n≤31):dG PG (binOp .and nV (.int .u64 (18446744073709551616-(n:Int))) (.int .u64 31))=some (.int .u64 ((32-n:Nat):Int)):=by
 have e:dG PG (binOp .and nV (.int .u64 (18446744073709551616-(n:Int))) (.int .u64 31))=some (.int .u64 (IntKind.u64.wrap ((BitVec.ofInt 64 (18446744073709551616-(n:Int)) &&& BitVec.ofInt 64 31).toNat:Int))):=rfl;have:=aZu ⟨n,by omega⟩;simp only at this;rw[e,this,gL (by omega) (by omega)];congr 2;omega
def aDs{h:PH}{x:W}{n:Nat}(h1:1≤n)(h2:n≤31){k:cD}(hk:k (wv (tn x n)) h):aT PG qO #[wv x,.int .i64 n] h k:=by
 apply aLN.call;unfold aLN;have e1:dG PG (Op.unary .neg (.int .i64 (n:Int)))=some (.int .i64 (-(n:Int))):=by
  have:dG PG (Op.unary .neg (.int .i64 (n:Int)))=some (.int .i64 (IntKind.i64.wrap (0-(n:Int)))):=rfl;rw[this,fI (by omega) (by omega)];simp
 simp only[e1,cE,reduceIte];apply xS.call;unfold xS;have e2:IntKind.u64.wrap (-(n:Int))=18446744073709551616-(n:Int):=by
  unfold IntKind.wrap;simp[IntKind.signed,IntKind.bits];omega
 have e3:IntKind.u64.wrap (32-((32-n:Nat):Int))=((n:Nat):Int):=by rw[gL (by omega) (by omega)];omega
 simp only[aKN,e2,aZA n h1 h2,aOH,e3,aOD (show 32-n≤32 by omega),aJr (show n≤32 by omega),aWB,cE,reduceIte];exact hk
def aR8{l r:List Value}{x v:Value}{n:Nat}(hn:n=l.length):(l++x::r).toArray.setIfInBounds n v=(l++v::r).toArray:=by
 subst hn;apply zLw;simp
def zs(n:Nat):List Value:=List.replicate n (wv 0)
def aR5(n:Nat):zs (n+1)=wv 0::zs n:=rfl
def aMQ{b:Nat}{j:Int}(h0:0≤j)(h1:j<64):dG PG (indexAt fE (pT b 0) (.int .i64 j))=some (pT b j.toNat):=by
 rw[aBH fE.und cL.info cL.size h0 (by exact_mod_cast h1)];simp
def at8{b:Nat}{j:Int}(h0:0≤j)(h1:j<8):dG PG (indexAt eX (pT b 0) (.int .i64 j))=some (pT b j.toNat):=by
 rw[aBH eX.und cL.info cL.size h0 (by exact_mod_cast h1)];simp
def isw(x:W):fX (wv x)=true:=rfl
def aMH{h:PH}{b o:Nat}{l:List W}{r:List Value}{t:TypeId}{fr:Nat×Nat}(hb:h b=some (.cells (l.map wv++r).toArray t fr))(ho:o<l.length):dB h ⟨b,o,none⟩=some (wv (l.getD o 0)):=by
 unfold dB;simp only[hb];rw[zLK,List.getElem?_append_left (by simpa using ho),wK,lU ho];simp[aA7,lU ho]
def w8(x:UInt8):Value.int .u32 (IntKind.u32.wrap (x.toNat:Int))=wv (BitVec.ofNat 32 x.toNat):=by
 have hx:=x.toNat_lt;unfold wv;rw[aGQ,BitVec.toNat_ofNat];congr 1
def bAG{t:TypeId}{x:W}{k:IntKind}:dG PG (binOp .shl t (wv x) (.int k 24))=some (wv (x <<< 24)):=aOD (n:=24) (by decide)
def bAQ{t:TypeId}{x:W}{k:IntKind}:dG PG (binOp .shl t (wv x) (.int k 16))=some (wv (x <<< 16)):=aOD (n:=16) (by decide)
def sh8{t:TypeId}{x:W}{k:IntKind}:dG PG (binOp .shl t (wv x) (.int k 8))=some (wv (x <<< 8)):=aOD (n:=8) (by decide)
def sr3{t:TypeId}{x:W}{k:IntKind}:dG PG (binOp .shr t (wv x) (.int k 3))=some (wv (x>>>3)):=aJr (n:=3) (by decide)
def aYy{t:TypeId}{x:W}{k:IntKind}:dG PG (binOp .shr t (wv x) (.int k 10))=some (wv (x>>>10)):=aJr (n:=10) (by decide)
def z64:dS PG fE=(zs 64).toArray:=by rw[fE.zc];rfl
def z8:dS PG eX=(zs 8).toArray:=by rw[eX.zc];rfl
def aU0{b:List UInt8}(hb:b.length=64){i r1 r3:Nat}(hi:i<16){h:PH}{R:cD}{n5:gO}
  (h3:h r3=some (.cells ((yA b i).map wv++zs (64-i)).toArray fE (0,0)))
  (hn:n5 [.string (tx b),pT r1 0,pT r3 0,.int .i64 ((i+1:Nat):Int)] (h.set r3 (.cells ((yA b (i+1)).map wv++zs (64-(i+1))).toArray fE (0,0)))):
  aHU R n5 (.string (tx b)) (pT r1 0) (pT r3 0) (.int .i64 (i:Int)) h:=by
 unfold aHU;have e1:((i:Int)<16)=True:=eq_true (by omega);have e2:IntKind.i64.wrap (4*(i:Int))=((4*i:Nat):Int):=by rw[fI (by omega) (by omega)];omega
 have e3:IntKind.i64.wrap (((4*i:Nat):Int)+4)=((4*i+4:Nat):Int):=by rw[fI (by omega) (by omega)];omega
 have e4:=qQ (i:=i) (by omega);have ec:dG PG (Instr.sliceAt bR (.string (tx b)) (some (.int .i64 ((4*i:Nat):Int))) (some (.int .i64 ((4*i+4:Nat):Int))) none)=some (.string (tx ((b.take (4*i+4)).drop (4*i)))):=
  aH8 bR.und (.inr ⟨_,rfl⟩) (.inr ⟨_,rfl⟩) (by omega) (by omega)
 have ix:∀j,j<4->((b.take (4*i+4)).drop (4*i))[j]? =some (b.getD (4*i+j) 0):=λj hj=>by
  rw[aNo,aJb,if_pos (by omega),aA7,lU (by omega)];rfl
 have i0:dG PG (Instr.index bR (.string (tx ((b.take (4*i+4)).drop (4*i)))) (.int .i64 0))=_:=aAi (j:=0) bR.und (ix 0 (by omega));have i1:dG PG (Instr.index bR (.string (tx ((b.take (4*i+4)).drop (4*i)))) (.int .i64 1))=_:=aAi (j:=1) bR.und (ix 1 (by omega));have i2:dG PG (Instr.index bR (.string (tx ((b.take (4*i+4)).drop (4*i)))) (.int .i64 2))=_:=aAi (j:=2) bR.und (ix 2 (by omega));have i3:dG PG (Instr.index bR (.string (tx ((b.take (4*i+4)).drop (4*i)))) (.int .i64 3))=_:=aAi (j:=3) bR.und (ix 3 (by omega));have ea:=aMQ (b:=r3) (j:=(i:Int)) (by omega) (by omega);rw[qP] at ea;simp only[e1,e2,e3,e4,ec,i0,i1,i2,i3,aSL,w8,bAG,bAQ,sh8,aWB,ea,cE,reduceIte];refine jD cL.und rfl h3 (by simp[aHE,zs];omega) (isw _) cL.info cL.size ?_;have es:((yA b i).map wv++zs (64-i)).toArray.setIfInBounds i (wv (w4 (b.getD (4*i+0) 0) (b.getD (4*i+1) 0) (b.getD (4*i+2) 0) (b.getD (4*i+3) 0)))=((yA b (i+1)).map wv++zs (64-(i+1))).toArray:=by
  rw[show 64-i=(64-(i+1))+1 by omega,aR5,aR8 (by simp[aHE]),aNB];simp[wat]
 have es':=es;unfold w4 at es';rw[es'];exact hn
def aTz{b:List UInt8}{i r1 r3:Nat}(hi:i<48){h:PH}{R:cD}{n5:gO}
  (h3:h r3=some (.cells ((mZ b i).map wv++zs (48-i)).toArray fE (0,0)))
  (hn:n5 [pT r1 0,pT r3 0,.int .i64 ((i+1+16:Nat):Int)] (h.set r3 (.cells ((mZ b (i+1)).map wv++zs (48-(i+1))).toArray fE (0,0)))):
  aGB R n5 (pT r1 0) (pT r3 0) (.int .i64 ((i+16:Nat):Int)) h:=by
 unfold aGB;have hl:=aKJ b i;have e1:(((i+16:Nat):Int)<64)=True:=eq_true (by omega);have e2:IntKind.i64.wrap (((i+16:Nat):Int)-15)=((i+1:Nat):Int):=by rw[fI (by omega) (by omega)];omega
 have e3:IntKind.i64.wrap (((i+16:Nat):Int)-2)=((i+14:Nat):Int):=by rw[fI (by omega) (by omega)];omega
 have e4:IntKind.i64.wrap (((i+16:Nat):Int)-16)=((i:Nat):Int):=by rw[fI (by omega) (by omega)];omega
 have e5:IntKind.i64.wrap (((i+16:Nat):Int)-7)=((i+9:Nat):Int):=by rw[fI (by omega) (by omega)];omega
 have e6:IntKind.i64.wrap (((i+16:Nat):Int)+1)=((i+1+16:Nat):Int):=by rw[fI (by omega) (by omega)];omega
 have a1:=aMQ (b:=r3) (j:=((i+1:Nat):Int)) (by omega) (by omega);have a2:=aMQ (b:=r3) (j:=((i+14:Nat):Int)) (by omega) (by omega);have a3:=aMQ (b:=r3) (j:=((i:Nat):Int)) (by omega) (by omega);have a4:=aMQ (b:=r3) (j:=((i+9:Nat):Int)) (by omega) (by omega);have a5:=aMQ (b:=r3) (j:=((i+16:Nat):Int)) (by omega) (by omega);rw[qP] at a1 a2 a3 a4 a5;have c1:=aMH (o:=i+1) h3 (by omega);have c2:=aMH (o:=i+14) h3 (by omega);have c3:=aMH (o:=i) h3 (by omega);have c4:=aMH (o:=i+9) h3 (by omega);simp only[e1,e2,e3,e4,e5,a1,a2,a3,a4,cL.load,c1,c2,c3,c4,sr3,aYy,cE,reduceIte];refine aDs (n:=7) (by decide) (by decide) ?_;refine⟨by simp only[cL.load,c4],by simp only[cL.load,c3],?_⟩;refine aDs (n:=18) (by decide) (by decide) ?_;refine⟨by simp only[cL.load,c4],by simp only[cL.load,c3],?_⟩;simp only[aER,aGG,cE,reduceIte];refine aDs (n:=17) (by decide) (by decide) ?_;refine⟨by simp only[cL.load,c4],by simp only[cL.load,c3],?_⟩;refine aDs (n:=19) (by decide) (by decide) ?_;refine⟨by simp only[cL.load,c4],by simp only[cL.load,c3],?_⟩;simp only[aER,aGG,a5,e6,cE,reduceIte];refine jD cL.und rfl h3 (by simp[hl,zs];omega) (isw _) cL.info cL.size ?_;have es:((mZ b i).map wv++zs (48-i)).toArray.setIfInBounds (i+16) (wv (aM7 (mZ b i) (i+16)))=((mZ b (i+1)).map wv++zs (48-(i+1))).toArray:=by
  rw[show 48-i=(48-(i+1))+1 by omega,aR5,aR8 (by simp[hl]),mZ];simp
 have es':=es;unfold aM7 at es';rw[show i+16-15=i+1 by omega,show i+16-2=i+14 by omega,show i+16-16=i by omega,show i+16-7=i+9 by omega] at es';simp only at es';rw[es'];exact hn
def aVM{h:PH}{b:List UInt8}(hb:b.length=64){k:cD}(hk:∀h',dC h h'->k (.agg ((aFk b).map wv).toArray) h'):aT PG aJf #[.string (tx b)] h k:=by
 apply aGg.call;unfold aGg;rw[z64];intro r1 hr1
 try simp only[cW]
 have u1:dC h (h.set r1 (.cells (zs 64).toArray fE)):=cT.new hr1;have a1:(h.set r1 (.cells (zs 64).toArray fE)) r1=some (.cells (zs 64).toArray fE (0,0)):=dJ;generalize h.set r1 (.cells (zs 64).toArray fE)=h1 at *;intro r3 hr3
 try simp only[cW]
 have u3:dC h1 (h1.set r3 (.cells (zs 64).toArray fE)):=cT.new hr3;have a3:(h1.set r3 (.cells (zs 64).toArray fE)) r3=some (.cells (zs 64).toArray fE (0,0)):=dJ;have hne:r1≠r3:=λe=>by subst e;rw[a1] at hr3;cases hr3
 have n3:h r3=none:=u1.none hr3;have b1:=u3.get a1;generalize h1.set r3 (.cells (zs 64).toArray fE)=h2 at *;have u:=u1.trans u3;refine⟨λvs h'=>∃i,i≤16∧vs=[.string (tx b),pT r1 0,pT r3 0,.int .i64 ((i:Nat):Int)]∧dC h h'∧h' r1=some (.cells (zs 64).toArray fE (0,0))∧h' r3=some (.cells ((yA b i).map wv++zs (64-i)).toArray fE (0,0)),gV 16 3,⟨0,by omega,rfl,u,b1,by simpa[yA] using a3⟩,?_⟩;rintro ρ h' ⟨i,hi,hvs,u',b1',b3'⟩;simp only[iJ,iZ,lP,and_true] at hvs;obtain⟨v0,v2,v3,v9⟩:=hvs;simp only[v0,v2,v3,v9,iJ,iZ];by_cases hl:i<16
 ·refine aU0 hb hl b3' ⟨⟨i+1,by omega,rfl,u'.fresh (cT.set (F:=[r3]) (by simp)) (eN.one n3),by rw[qL hne];exact b1',dJ⟩,?_⟩;simp only[gV,rZ,pU];omega
 ·have hi':i=16:=by omega
  subst hi';unfold aHU;simp only[show(((16:Nat):Int)<16)=False from eq_false (by decide),cE,reduceIte];refine⟨λvs h'=>∃i,i≤48∧vs=[pT r1 0,pT r3 0,.int .i64 ((i+16:Nat):Int)]∧dC h h'∧h' r1=some (.cells (zs 64).toArray fE (0,0))∧h' r3=some (.cells ((mZ b i).map wv++zs (48-i)).toArray fE (0,0)),gV 64 2,⟨0,by omega,rfl,u',b1',b3'⟩,?_⟩;rintro ρ2 h2' ⟨i,hi,hvs,u2,c1,c3⟩;simp only[iJ,iZ,lP,and_true] at hvs;obtain⟨v2',v3',v6'⟩:=hvs;simp only[v2',v3',v6',iJ,iZ];by_cases hl:i<48
  ·refine aTz hl c3 ⟨⟨i+1,by omega,rfl,u2.fresh (cT.set (F:=[r3]) (by simp)) (eN.one n3),by rw[qL hne];exact c1,dJ⟩,?_⟩;simp only[gV,rZ,pU];omega
  ·have hi':i=48:=by omega
   subst hi';have hw:((mZ b 48).map wv++zs (48-48)).toArray=((aFk b).map wv).toArray:=by simp[aFk,zs]
   rw[hw] at c3;have hsz:((aFk b).map wv).toArray.size=64:=by rw[List.size_toArray,jB,aLS]
   have hic:∀v∈((aFk b).map wv).toArray.toList,fX v=true:=λv hv=>by
    rw[List.toList_toArray,mG] at hv;obtain⟨w,-,rfl⟩:=hv;rfl
   generalize ((aFk b).map wv).toArray=cs at *;unfold aGB;have l3:=fE.loadAgg (o:=0) c3 (by omega);rw[Array.extract_eq_self_of_le (by omega)] at l3;simp only[show(((48+16:Nat):Int)<64)=False from eq_false (by decide),l3,cE,reduceIte];refine rI c1 fE.info (by rw[hsz];rfl) (by omega) (by rw[hsz];rfl) hic ?_;have l1:=fE.loadAgg (h:=h2'.set r1 (.cells cs fE (0,0))) (o:=0) dJ (by omega);rw[Array.extract_eq_self_of_le (by omega)] at l1;simp only[l1,cE,reduceIte];exact hk _ (u2.fresh (cT.set (F:=[r1]) (by simp)) (eN.one hr1))
def oL(h:PH):Prop:=∃t fr,h 0=some (.cells (kT.map wv).toArray t fr)
def oL.ext{h h':PH}(H:oL h)(u:dC h h'):oL h':=by
 obtain⟨t,fr,hb⟩:=H;exact⟨t,fr,u.get hb⟩
def aTh{h:PH}{b o:Nat}{l:List W}{t:TypeId}{fr:Nat×Nat}(hb:h b=some (.cells (l.map wv).toArray t fr))(ho:o<l.length):dB h ⟨b,o,none⟩=some (wv (l.getD o 0)):=by
 refine aMH (r:=[]) (t:=t) (fr:=fr) ?_ ho;rw[zLQ];exact hb
def aZp{h:PH}{r:Nat}{a b c d e f g x:Value}(hb:h r=some (.cells #[a,b,c,d,e,f,g,x] eX (0,0)))(hc:∀v∈[a,b,c,d,e,f,g],fX v=true){k:cD}
  (hk:k (.int .i64 7) (h.set r (.cells #[a,a,b,c,d,e,f,g] eX (0,0)))):
  dA PG (Builtin.copy_ #[eZ,eZ] bT #[.slice (some ⟨r,1,none⟩) 7 7,.slice (some ⟨r,0,none⟩) 7 8]) h k:=by
 have S:gB h 1 (.slice (some ⟨r,0,none⟩) 7 8) [[a],[b],[c],[d],[e],[f],[g]]:=by
  refine⟨λq hq=>by simp at hq;rcases hq with rfl|rfl|rfl|rfl|rfl|rfl|rfl<;>rfl,some ⟨r,0,none⟩,8,rfl,by simp,by unfold rF;omega,λ_=>⟨r,0,_,_,_,rfl,hb,by simp,by simp⟩,trivial⟩
 have hfirst:=S.first (P:=PG);simp only[Builtin.copy_,zLK,pU,rZ,pS eZ.und,kO,mM cL.info,pure_bind,Builtin.lenOf,cL.size];refine iE (s:=Builtin.firstCells 1 7 (.slice (some ⟨r,0,none⟩) 7 8)) (a:=#[a,b,c,d,e,f,g]) hfirst ?_;refine dA.bind (P:=PG) (s:=storeCells _ _) ?_;refine rH [a,b,c,d,e,f,g] 0 h #[a,b,c,d,e,f,g,x] hb (by simp) hc ?_;have e:(if [a,b,c,d,e,f,g]=[] then h else h.set r (.cells (uU #[a,b,c,d,e,f,g,x] (1+0) [a,b,c,d,e,f,g]) eX (0,0)))=h.set r (.cells #[a,a,b,c,d,e,f,g] eX (0,0)):=by
  rw[if_neg (by simp)];rfl
 rw[e];exact hk
def bAJ{r:Nat}:dG PG (Instr.sliceAt eX (pT r 0) (some (.int .i64 1)) none none)=some (.slice (some ⟨r,1,none⟩) 7 7):=by kernel_rfl
def aZ9{r:Nat}:dG PG (Instr.sliceAt eX (pT r 0) none (some (.int .i64 7)) none)=some (.slice (some ⟨r,0,none⟩) 7 8):=by kernel_rfl
def aXK{ws:List W}(hws:ws.length=64){s:S8}{i a r3 r10:Nat}(hi:i<64){h:PH}{R:cD}{n:gO}(hK:oL h)
  (h3:h r3=some (.cells (ws.map wv).toArray fE (0,0))) (h10:h r10=some (.cells #[wv s.a,wv s.b,wv s.c,wv s.d,wv s.e,wv s.f,wv s.g,wv s.h] eX (0,0)))
  (hn:∀s',s'=rnd s (kT.getD i 0) (ws.getD i 0)->n [pT a 0,pT r3 0,pT r10 0,.int .i64 ((i+1:Nat):Int)] (h.set r10 (.cells #[wv s'.a,wv s'.b,wv s'.c,wv s'.d,wv s'.e,wv s'.f,wv s'.g,wv s'.h] eX (0,0)))):
  aCD R n (pT a 0) (pT r3 0) (pT r10 0) (.int .i64 (i:Int)) h:=by
 obtain⟨kt,fr,hK⟩:=hK;unfold aCD;have e1:((i:Int)<64)=True:=eq_true (by omega);have e4:=qQ (i:=i) (by omega);have m:∀j:Nat,j<8->dG PG (indexAt eX (pT r10 0) (.int .i64 j))=some (pT r10 j):=λj hj=>by rw[at8 (by omega) (by omega),qP]
 have m0:dG PG (indexAt eX (pT r10 0) (.int .i64 0))=some (pT r10 0):=m 0 (by decide);have m1:dG PG (indexAt eX (pT r10 0) (.int .i64 1))=some (pT r10 1):=m 1 (by decide);have m2:dG PG (indexAt eX (pT r10 0) (.int .i64 2))=some (pT r10 2):=m 2 (by decide);have m4:dG PG (indexAt eX (pT r10 0) (.int .i64 4))=some (pT r10 4):=m 4 (by decide);have m5:dG PG (indexAt eX (pT r10 0) (.int .i64 5))=some (pT r10 5):=m 5 (by decide);have m6:dG PG (indexAt eX (pT r10 0) (.int .i64 6))=some (pT r10 6):=m 6 (by decide);have m7:dG PG (indexAt eX (pT r10 0) (.int .i64 7))=some (pT r10 7):=m 7 (by decide);have c0:dB h ⟨r10,0,none⟩=some (wv s.a):=by simp[dB,h10]
 have c1:dB h ⟨r10,1,none⟩=some (wv s.b):=by simp[dB,h10]
 have c2:dB h ⟨r10,2,none⟩=some (wv s.c):=by simp[dB,h10]
 have c4:dB h ⟨r10,4,none⟩=some (wv s.e):=by simp[dB,h10]
 have c5:dB h ⟨r10,5,none⟩=some (wv s.f):=by simp[dB,h10]
 have c6:dB h ⟨r10,6,none⟩=some (wv s.g):=by simp[dB,h10]
 have c7:dB h ⟨r10,7,none⟩=some (wv s.h):=by simp[dB,h10]
 have a0:=aMQ (b:=0) (j:=(i:Int)) (by omega) (by omega);have a3:=aMQ (b:=r3) (j:=(i:Int)) (by omega) (by omega);rw[qP] at a0 a3;have ck:=aTh (o:=i) hK (by rw[aKc];exact hi);have cw:=aTh (o:=i) h3 (by omega);simp only[e1,m0,m1,m2,m4,m5,m6,m7,cL.load,c0,c1,c2,c4,c5,c6,c7,a0,a3,ck,cw,aQG,aER,aWm,cE,reduceIte];refine aDs (n:=6) (by decide) (by decide) ?_;simp only[cL.load,c0,c1,c2,c4,c5,c6,c7,ck,cw,true_and];refine aDs (n:=11) (by decide) (by decide) ?_;simp only[cL.load,c0,c1,c2,c4,c5,c6,c7,ck,cw,true_and,aER,cE,reduceIte];refine aDs (n:=25) (by decide) (by decide) ?_;simp only[e1,m0,m1,m2,m4,m5,m6,m7,cL.load,c0,c1,c2,c4,c5,c6,c7,a0,a3,ck,cw,aQG,aER,aWm,aGG,true_and,cE,reduceIte];refine aDs (n:=2) (by decide) (by decide) ?_;simp only[cL.load,c0,c1,c2,c4,c5,c6,c7,ck,cw,true_and];refine aDs (n:=13) (by decide) (by decide) ?_;simp only[cL.load,c0,c1,c2,c4,c5,c6,c7,ck,cw,true_and,aER,cE,reduceIte];refine aDs (n:=22) (by decide) (by decide) ?_;simp only[cL.load,c0,c1,c2,c4,c5,c6,c7,ck,cw,true_and,aER,aGG,bAJ,aZ9,cE,reduceIte];refine aZp h10 (by simp[isw]) ?_;have c4':dB (h.set r10 (.cells #[wv s.a,wv s.a,wv s.b,wv s.c,wv s.d,wv s.e,wv s.f,wv s.g] eX (0,0))) ⟨r10,4,none⟩=some (wv s.d):=by simp[dB,dJ]
 simp only[m4,cL.load,c4',aGG,cE,reduceIte];refine jD cL.und rfl dJ (by simp) (isw _) cL.info cL.size ?_;rw[uR]
 try simp only[m0,aGG,cE,reduceIte]
 refine jD cL.und rfl dJ (by simp) (isw _) cL.info cL.size ?_;rw[uR]
 try simp only[e4,cE,reduceIte]
 exact hn _ rfl
def S8.some(s t:S8)(n:Nat):S8:=⟨if 0<n then s.a+t.a else s.a,if 1<n then s.b+t.b else s.b,if 2<n then s.c+t.c else s.c,if 3<n then s.d+t.d else s.d,if 4<n then s.e+t.e else s.e,if 5<n then s.f+t.f else s.f,if 6<n then s.g+t.g else s.g,if 7<n then s.h+t.h else s.h⟩
def S8.some8(s t:S8):s.some t 8=s.add t:=rfl
def aWS(s t:S8){i:Nat}(hi:i<8)(x y:Value):(#[wv (s.some t i).a,wv (s.some t i).b,wv (s.some t i).c,wv (s.some t i).d,wv (s.some t i).e,wv (s.some t i).f,wv (s.some t i).g,wv (s.some t i).h,x,y]:Array Value).setIfInBounds i (wv (s.l.getD i 0+t.l.getD i 0))=
  #[wv (s.some t (i+1)).a,wv (s.some t (i+1)).b,wv (s.some t (i+1)).c,wv (s.some t (i+1)).d,wv (s.some t (i+1)).e,wv (s.some t (i+1)).f,wv (s.some t (i+1)).g,wv (s.some t (i+1)).h,x,y]:=by
 have:i=0∨i=1∨i=2∨i=3∨i=4∨i=5∨i=6∨i=7:=by omega
 rcases this with rfl|rfl|rfl|rfl|rfl|rfl|rfl|rfl<;>rfl
def aWU(s t:S8){i:Nat}(hi:i<8)(x y:Value):(#[wv (s.some t i).a,wv (s.some t i).b,wv (s.some t i).c,wv (s.some t i).d,wv (s.some t i).e,wv (s.some t i).f,wv (s.some t i).g,wv (s.some t i).h,x,y]:Array Value)[i]? =Option.some (wv (s.l.getD i 0)):=by
 have:i=0∨i=1∨i=2∨i=3∨i=4∨i=5∨i=6∨i=7:=by omega
 rcases this with rfl|rfl|rfl|rfl|rfl|rfl|rfl|rfl<;>rfl
def aZr(t:S8){i:Nat}(hi:i<8):(#[wv t.a,wv t.b,wv t.c,wv t.d,wv t.e,wv t.f,wv t.g,wv t.h]:Array Value)[i]? =Option.some (wv (t.l.getD i 0)):=by
 have:i=0∨i=1∨i=2∨i=3∨i=4∨i=5∨i=6∨i=7:=by omega
 rcases this with rfl|rfl|rfl|rfl|rfl|rfl|rfl|rfl<;>rfl
def jY(s:S8)(x y:Value):Array Value:=#[wv s.a,wv s.b,wv s.c,wv s.d,wv s.e,wv s.f,wv s.g,wv s.h,x,y]
def aXY{s v:S8}{i a r10:Nat}{x y:Value}(hi:i<8){h:PH}{R:cD}{n:gO}
  (ha:h a=Option.some (.cells (jY (s.some v i) x y) fH (0,0))) (h10:h r10=Option.some (.cells #[wv v.a,wv v.b,wv v.c,wv v.d,wv v.e,wv v.f,wv v.g,wv v.h] eX (0,0)))
  (hn:n [.pointer (Option.some ⟨a,0,none⟩),.pointer (Option.some ⟨r10,0,none⟩),.int .i64 ((i+1:Nat):Int)] (h.set a (.cells (jY (s.some v (i+1)) x y) fH (0,0)))):
  aCM R n (.pointer (Option.some ⟨a,0,none⟩)) (.pointer (Option.some ⟨r10,0,none⟩)) (.int .i64 (i:Int)) h:=by
 unfold aCM;have e1:((i:Int)<8)=True:=eq_true (by omega);have e4:=qQ (i:=i) (by omega);have m1:=at8 (b:=a) (j:=(i:Int)) (by omega) (by omega);have m2:=at8 (b:=r10) (j:=(i:Int)) (by omega) (by omega);rw[qP] at m1 m2;have c1:dB h ⟨a,i,none⟩=Option.some (wv (s.l.getD i 0)):=by
  unfold dB;simp only[ha];exact aWU s v hi x y
 have c2:dB h ⟨r10,i,none⟩=Option.some (wv (v.l.getD i 0)):=by
  unfold dB;simp only[h10];exact aZr v hi
 simp only[e1,iB.f0,m1,m2,cL.load,c1,c2,aGG,cE,reduceIte];refine jD cL.und rfl ha (by simp[jY];omega) (isw _) cL.info cL.size ?_;have es:=aWS s v hi x y;change (jY (s.some v i) x y).setIfInBounds i _=jY (s.some v (i+1)) x y at es;rw[es]
 try simp only[e4,cE,reduceIte]
 exact hn
def aYd{h:PH}{a:Nat}{s:S8}{x y:Value}{b:List UInt8}(hK:oL h)(hb:b.length=64)(ha:h a=Option.some (.cells (jY s x y) fH (0,0))){k:cD}
  (hk:∀h',cT [a] h h'->h' a=Option.some (.cells (jY (aKP s b) x y) fH (0,0))->k (.tuple #[]) h'):aT PG aGN #[.pointer (Option.some ⟨a,0,none⟩),.string (tx b)] h k:=by
 apply aBK.call;unfold aBK;refine aVM hb λh1 u1=>?_;have hwl:=aLS b;have hmx:aKP s b=s.add (aH4 (aFk b) s 64):=rfl;rw[hmx] at hk;clear hmx;generalize aFk b=ws at *;have hsz:(ws.map wv).toArray.size=64:=by rw[List.size_toArray,jB,hwl]
 have hic:∀v∈(ws.map wv).toArray.toList,fX v=true:=λv hv=>by
  rw[List.toList_toArray,mG] at hv;obtain⟨w,-,rfl⟩:=hv;rfl
 rw[z64,z8];intro r3 hr3
 try rw[cW]
 have u3:dC h1 (h1.set r3 (.cells (zs 64).toArray fE)):=cT.new hr3;have n3:h r3=none:=u1.none hr3;have a3:(h1.set r3 (.cells (zs 64).toArray fE)) r3=Option.some (.cells (zs 64).toArray fE (0,0)):=dJ;generalize h1.set r3 (.cells (zs 64).toArray fE)=h2 at *;refine rI a3 fE.info (by rw[hsz];rfl) (by omega) (by rw[hsz];rfl) hic ?_;have u4:dC h (h2.set r3 (.cells (ws.map wv).toArray fE (0,0))):=(u1.trans u3).fresh (cT.set (F:=[r3]) (by simp)) (eN.one n3);have a3':(h2.set r3 (.cells (ws.map wv).toArray fE (0,0))) r3=Option.some (.cells (ws.map wv).toArray fE (0,0)):=dJ;generalize h2.set r3 (.cells (ws.map wv).toArray fE (0,0))=h3 at *;have ha3:=u4.get ha;have lA:=eX.loadAgg (o:=0) ha3 (by simp[jY]);have lE:(jY s x y).extract 0 (0+8)= #[wv s.a,wv s.b,wv s.c,wv s.d,wv s.e,wv s.f,wv s.g,wv s.h]:=rfl;rw[lE] at lA;simp only[iB.f0,lA,cE,reduceIte];intro r10 hr10
 try rw[cW]
 have u5:dC h3 (h3.set r10 (.cells (zs 8).toArray eX)):=cT.new hr10;have n10:h r10=none:=u4.none hr10;have a10:(h3.set r10 (.cells (zs 8).toArray eX)) r10=Option.some (.cells (zs 8).toArray eX (0,0)):=dJ;generalize h3.set r10 (.cells (zs 8).toArray eX)=h4 at *;refine rI a10 eX.info rfl (by simp) rfl (by simp[isw]) ?_;have u6:dC h (h4.set r10 (.cells #[wv s.a,wv s.b,wv s.c,wv s.d,wv s.e,wv s.f,wv s.g,wv s.h] eX (0,0))):=(u4.trans u5).fresh (cT.set (F:=[r10]) (by simp)) (eN.one n10);have hne3:r3≠r10:=λe=>by subst e;rw[a3'] at hr10;cases hr10
 have a3'':(h4.set r10 (.cells #[wv s.a,wv s.b,wv s.c,wv s.d,wv s.e,wv s.f,wv s.g,wv s.h] eX (0,0))) r3=Option.some (.cells (ws.map wv).toArray fE (0,0)):=by rw[qL hne3];exact u5.get a3'
 have a10':(h4.set r10 (.cells #[wv s.a,wv s.b,wv s.c,wv s.d,wv s.e,wv s.f,wv s.g,wv s.h] eX (0,0))) r10=Option.some (.cells #[wv s.a,wv s.b,wv s.c,wv s.d,wv s.e,wv s.f,wv s.g,wv s.h] eX (0,0)):=dJ;generalize h4.set r10 (.cells #[wv s.a,wv s.b,wv s.c,wv s.d,wv s.e,wv s.f,wv s.g,wv s.h] eX (0,0))=h5 at *;have hne:a≠r10:=λe=>by subst e;rw[ha] at n10;cases n10
 refine⟨λvs h'=>∃i s',i≤64∧s'=aH4 ws s i∧vs=[.pointer (Option.some ⟨a,0,none⟩),.pointer (Option.some ⟨r3,0,none⟩),.pointer (Option.some ⟨r10,0,none⟩),.int .i64 ((i:Nat):Int)]∧dC h h'∧h' r3=Option.some (.cells (ws.map wv).toArray fE (0,0))∧h' r10=Option.some (.cells #[wv s'.a,wv s'.b,wv s'.c,wv s'.d,wv s'.e,wv s'.f,wv s'.g,wv s'.h] eX (0,0)),gV 64 3,⟨0,s,by omega,rfl,rfl,u6,a3'',a10'⟩,?_⟩;rintro ρ h' ⟨i,s',hi,hs',hvs,u',b3,b10⟩;simp only[iJ,iZ,lP,and_true] at hvs;obtain⟨v0,v4,v5,v18⟩:=hvs;simp only[v0,v4,v5,v18,iJ,iZ];by_cases hl:i<64
 ·refine aXK hwl hl (hK.ext u') b3 b10 λs2 hs2=>⟨⟨i+1,s2,by omega,by rw[hs2,hs',aH4],rfl,u'.fresh (cT.set (F:=[r10]) (by simp)) (eN.one n10),by rw[qL hne3];exact b3,dJ⟩,?_⟩;simp only[gV,rZ,pU];omega
 ·have hi':i=64:=by omega
  subst hi';unfold aCD;simp only[show(((64:Nat):Int)<64)=False from eq_false (by decide),cE,reduceIte];have hup:cT [a] h h':=u'.upd;refine⟨λvs h2'=>∃i,i≤8∧vs=[.pointer (Option.some ⟨a,0,none⟩),.pointer (Option.some ⟨r10,0,none⟩),.int .i64 ((i:Nat):Int)]∧cT [a] h h2'∧h2' a=Option.some (.cells (jY (s.some s' i) x y) fH (0,0))∧h2' r10=Option.some (.cells #[wv s'.a,wv s'.b,wv s'.c,wv s'.d,wv s'.e,wv s'.f,wv s'.g,wv s'.h] eX (0,0)),gV 8 2,⟨0,by omega,rfl,hup,u'.get ha,b10⟩,?_⟩;rintro ρ2 h2' ⟨i,hi,hvs,u2,ca,c10⟩;simp only[iJ,iZ,lP,and_true] at hvs;obtain⟨v0',v5',v92'⟩:=hvs;simp only[v0',v5',v92',iJ,iZ];by_cases hl:i<8
  ·refine aXY hl ca c10 ⟨⟨i+1,by omega,rfl,u2.trans (cT.set (by simp)),dJ,by rw[qL (Ne.symm hne)];exact c10⟩,?_⟩;simp only[gV,rZ,pU];omega
  ·have hi':i=8:=by omega
   subst hi';unfold aCM;simp only[show(((8:Nat):Int)<8)=False from eq_false (by decide),cE,reduceIte];refine hk _ u2 ?_;rw[ca,S8.some8,hs']
end
section
open Go
namespace Bld
def neqPtrSelf{h:PH}{x y:Operand}(a:Addr):cH PG h (jW .neq dW x y (.pointer (some a)) (.pointer (some a)))=some (.bool false):=by
 show cH PG h (Op.equalIn (9999+1) dW (.pointer (some a)) (.pointer (some a)) >>= λb=>(pure (Value.bool (!b)):Sem Value))=_;rw[kB];have:cH PG h (Op.equalIn (9999+1) dW (.pointer (some a)) (.pointer (some a)))=some true:=by
  rw[Op.equalIn,kL dW.und];simp only[kO];rw[aBs dK.info];simp[dK.size,sameAddr,cH,pure]
 rw[this];rfl
def semE_viewAt{h:PH}{r:Nat}{x:TypeId×Nat}{α:Type}(hs:kI h r=some (some x))(f:Option (Addr×TypeId)->Sem α):cH PG h (viewAt r >>= f)=cH PG h (f none):=by
 rw[kB];have:cH PG h (viewAt r)=some none:=by
  show(kI h r).bind _=_;rw[hs];rfl
 rw[this];rfl
def semE_seenAt{h:PH}{a:Addr}{x:TypeId×Nat}{α:Type}(hs:kI h a.block=some (some x))(f:Addr->Sem α):cH PG h (Conv.seenAt a >>= f)=cH PG h (f a):=by
 rw[kB];have:cH PG h (Conv.seenAt a)=some a:=by
  unfold Conv.seenAt;rw[semE_viewAt hs];rfl
 rw[this];rfl
def semE_cellsIn{h:PH}{r:Nat}{x:TypeId×Nat}{α:Type}(hs:kI h r=some (some x))(f:Option Nat->Sem α):cH PG h (cellsIn r >>= f)=cH PG h (f (some x.2)):=by
 rw[kB];have:cH PG h (cellsIn r)=some (some x.2):=by
  show(kI h r).bind _=_;rw[hs];rfl
 rw[this];rfl
def to_unsafe{h:PH}{a:Nat}{c:Array Value}(ha:h a=some (.cells c dK (0,0)))(hc:0<c.size):cH PG h (convert dW iL (pT a 0))=some (pT a 0):=by
 have hs:kI h a=some (some (dK,c.size)):=by unfold kI;rw[ha]
 show cH PG h (underlying dW >>= _)=_;rw[kL dW.und];show cH PG h (underlying iL >>= _)=_;rw[kL iL.und];show cH PG h (underlying dW >>= _)=_;rw[kL dW.und];show cH PG h (underlying iL >>= _)=_;rw[kL iL.und];show cH PG h (Conv.seenAt ⟨a,0,none⟩ >>= _)=_;rw[semE_seenAt (a:=⟨a,0,none⟩) hs];show cH PG h (cellsIn a >>= _)=_;rw[semE_cellsIn hs];have h1:¬(0 ≥ c.size):=by omega
 simp only[kO];rw[aBs dK.info];simp[dK.size,h1,cH,pure]
def from_unsafe{h:PH}{a:Nat}{c:Array Value}(ha:h a=some (.cells c dK (0,0)))(hc:c.size=2):cH PG h (convert iL dW (pT a 0))=some (pT a 0):=by
 have hs:kI h a=some (some (dK,c.size)):=by unfold kI;rw[ha]
 rw[hc] at hs;show cH PG h (underlying iL >>= _)=_;rw[kL iL.und];show cH PG h (underlying dW >>= _)=_;rw[kL dW.und];show cH PG h (underlying iL >>= _)=_;rw[kL iL.und];show cH PG h (underlying dW >>= _)=_;rw[kL dW.und];show cH PG h (Conv.seenAt ⟨a,0,none⟩ >>= _)=_;rw[semE_seenAt (a:=⟨a,0,none⟩) hs];have hv:cH PG h (variablesAt ⟨a,0,none⟩ dK 1)=some true:=by
  show(kI h a).bind _=_;rw[hs]
  kernel_rfl
 simp only[kO];rw[aBs dK.info];simp only[dK.size];rw[kB,hv];simp[cH,pure]
def NoEscape_ok{h:PH}{v:Value}{k:cD}(hk:k v h):aT PG aAZ #[v] h k:=
 aT.entry (v:=v) (by kernel_rfl) hk
structure BAt(h:PH)(a:Nat)(bs:List UInt8)(F:List Nat):Prop where
 here:∃p v G,h a=some (.cells #[p,v] dK (0,0))∧(p= .pointer none∨p=pT a 0)∧eO h dQ 1 v (bs.map jQ) G∧F=a::G∧a∉G
def BAt.upd{h h':PH}{a:Nat}{bs:List UInt8}{F G:List Nat}(H:BAt h a bs F)(u:cT G h h')(hd:∀b∈F,b∉G):BAt h' a bs F:=by
 obtain⟨p,v,G',ha,hp,hO,rfl,hn⟩:=H;exact⟨p,v,G',u.get ha (hd a (by simp)),hp,hO.upd u (λb hb=>hd b (by simp[hb])),rfl,hn⟩
def BAt.ext{h h':PH}{a:Nat}{bs:List UInt8}{F:List Nat}(H:BAt h a bs F)(u:dC h h'):BAt h' a bs F:=H.upd u (by simp)
def BNext(h:PH)(a:Nat)(F:List Nat)(bs:List UInt8)(k:PH->Prop):Prop:=∀h' F',BAt h' a bs F'->cT F h h'->(∀b∈F',b∈F∨h b=none)->k h'
def copyCheck_ok{h:PH}{a:Nat}{p v:Value}(ha:h a=some (.cells #[p,v] dK (0,0)))(hp:p= .pointer none∨p=pT a 0){k:cD}
  (hk:∀h',h' a=some (.cells #[pT a 0,v] dK (0,0))->cT [a] h h'->(∀b,b≠a->h' b=h b)->k (.tuple #[]) h'):aT PG mO #[pT a 0] h k:=by
 apply nS.call;unfold nS;have hc:dB h ⟨a,0,none⟩=some p:=by simp[dB,ha]
 simp only[dK.f0,dW.load,hc,cE,reduceIte];rcases hp with rfl|rfl
 ·simp only[aCx dW.und,Option.isNone_none,cE,reduceIte];refine cH.semH (to_unsafe ha (by simp)) ?_;refine NoEscape_ok ?_;refine cH.semH (from_unsafe ha (by simp)) ?_;refine jD dW.und rfl ha (by simp) rfl dW.info dW.size ?_;exact hk _ dJ (cT.set (by simp)) (λb hb=>qL hb)
 ·simp only[aCx dW.und,Option.isNone_some,neqPtrSelf,dK.f0,dW.load,hc,cE,reduceIte];exact hk _ ha cT.refl (λ_ _=>rfl)
def byte_lit(x:Int):jZ PG (buildSlice dE 1 #[(0,.int .u8 x)])=some (.cells #[.int .u8 x] dQ,λr=>pure (.slice (some ⟨r,0,none⟩) 1 1)):=by kernel_rfl
def buf_app{h:PH}{a:Nat}{p v x:Value}{bs ys:List UInt8}{G:List Nat}{t2 e2:TypeId}(hu2:PG.underlying t2=some (.slice e2))(ha:h a=some (.cells #[p,v] dK (0,0)))(hp:p= .pointer none∨p=pT a 0)(hO:eO h dQ 1 v (bs.map jQ) G)(hn:a∉G)
  (hx:gB h 1 x (ys.map jQ)) (hl:bs.length+ys.length≤140737488355328) {k:PH->Prop} (hk:BNext h a (a::G) (bs++ys) k):
  dA PG (Builtin.append_ #[dE,t2] dE #[v,x]) h λv' h'=>dA PG (dR dE (pT a 1) v') h' λ_ h''=>k h'':=by
 refine jL dE.und hu2 dQ.info dQ.size dQ.bytes dQ.zero rfl (by decide) hO hx (jQ.isCell _) (by simp;omega) ?_;intro v2 h2 F2 hO2 u2 k2 _;rw[←pY] at hO2;have ha2:=u2.get ha hn;have hn2:a∉F2:=λhm=>by
  rcases k2 a hm with h1|h1
  ·exact hn h1
  ·rw[ha] at h1;cases h1
 refine jD dE.und rfl ha2 (by simp) ?_ dE.info dE.size ?_
 ·obtain⟨_,_,rfl,-⟩:=hO2.slR.here;rfl
 ·refine hk _ (a::F2) ⟨p,v2,F2,dJ,hp,hO2.upd (cT.set (F:=[a]) (by simp)) (λb hb=>by simp;rintro rfl;exact hn2 hb),rfl,hn2⟩ ((u2.mono λb hb=>.inl (by simp[hb])).trans (cT.set (by simp))) (λb hb=>?_);rcases gU.1 hb with rfl|hb
  ·exact .inl (by simp)
  ·rcases k2 b hb with h1|h1
   ·exact .inl (by simp[h1])
   ·exact .inr h1
def WriteByte_ok{h:PH}{a:Nat}{bs:List UInt8}{F:List Nat}(hW:BAt h a bs F)(hl:bs.length+1≤140737488355328)(x:UInt8){k:cD}(hk:BNext h a F (bs++[x]) (k .nilIface)):
  aT PG mP #[pT a 0,.int .u8 x.toNat] h k:=by
 obtain⟨p,v,G,ha,hp,hO,rfl,hn⟩:=hW;apply nT.call;unfold nT;refine copyCheck_ok ha hp λh1 ha1 u1 o1=>?_;have hc:dB h1 ⟨a,1,none⟩=some v:=by simp[dB,ha1]
 have hO1:=hO.upd u1 (λb hb hf=>by simp at hf;subst hf;exact hn hb);simp only[dK.f1,dE.load,hc,byte_lit,cE,reduceIte];intro r hr;refine fT ?_;have u2:dC h1 (h1.set r (.cells #[.int .u8 x.toNat] dQ)):=cT.new hr;have s2:gB (h1.set r (.cells #[.int .u8 x.toNat] dQ)) 1 (.slice (some ⟨r,0,none⟩) 1 1) ([x].map jQ):=(eO.lit (jQ.rows [x]) dJ (by simp) (by decide) (by simp[jQ])).slR;refine buf_app dE.und (u2.get ha1) (.inr rfl) (hO1.ext u2) hn s2 (by simpa using hl) ?_;intro h3 F3 hW3 u3 k3;refine hk _ F3 hW3 ((u1.mono λb hb=>.inl (by simp at hb;simp[hb])).trans (u2.upd.trans u3)) λb hb=>?_;rcases k3 b hb with h'|h'
 ·exact .inl h'
 ·by_cases hba:b=a
  ·exact .inl (by simp[hba])
  ·have:=u2.none h';rw[o1 b hba] at this;exact .inr this
def buf_str{h:PH}{a:Nat}{p v:Value}{bs ys:List UInt8}{G:List Nat}(ha:h a=some (.cells #[p,v] dK (0,0)))(hp:p= .pointer none∨p=pT a 0)(hO:eO h dQ 1 v (bs.map jQ) G)(hn:a∉G)
  (hl:bs.length+ys.length≤140737488355328) {k:PH->Prop} (hk:BNext h a (a::G) (bs++ys) k):
  dA PG (Builtin.append_ #[dE,bR] dE #[v,.string (tx ys)]) h λv' h'=>dA PG (dR dE (pT a 1) v') h' λ_ h''=>k h'':=by
 refine aOC dE.und bR.und dQ.info dQ.size dQ.bytes dQ.zero rfl (by decide) hO (by simp;omega) ?_;intro v2 h2 F2 hO2 u2 k2 _;rw[←pY] at hO2;have ha2:=u2.get ha hn;have hn2:a∉F2:=λhm=>by
  rcases k2 a hm with h1|h1
  ·exact hn h1
  ·rw[ha] at h1;cases h1
 refine jD dE.und rfl ha2 (by simp) ?_ dE.info dE.size ?_
 ·obtain⟨_,_,rfl,-⟩:=hO2.slR.here;rfl
 ·refine hk _ (a::F2) ⟨p,v2,F2,dJ,hp,hO2.upd (cT.set (F:=[a]) (by simp)) (λb hb=>by simp;rintro rfl;exact hn2 hb),rfl,hn2⟩ ((u2.mono λb hb=>.inl (by simp[hb])).trans (cT.set (by simp))) (λb hb=>?_);rcases gU.1 hb with rfl|hb
  ·exact .inl (by simp)
  ·rcases k2 b hb with h1|h1
   ·exact .inl (by simp[h1])
   ·exact .inr h1
def WriteString_ok{h:PH}{a:Nat}{bs ys:List UInt8}{F:List Nat}(hW:BAt h a bs F)(hl:bs.length+ys.length≤140737488355328){k:cD}(hk:BNext h a F (bs++ys) (k (.tuple #[.int .i64 ys.length,.nilIface]))):
  aT PG lF #[pT a 0,.string (tx ys)] h k:=by
 obtain⟨p,v,G,ha,hp,hO,rfl,hn⟩:=hW;apply kZ.call;unfold kZ;refine copyCheck_ok ha hp λh1 ha1 u1 o1=>?_;have hc:dB h1 ⟨a,1,none⟩=some v:=by simp[dB,ha1]
 have hO1:=hO.upd u1 (λb hb hf=>by simp at hf;subst hf;exact hn hb);simp only[dK.f1,dE.load,hc,bR.len,iF,cE,reduceIte];refine buf_str ha1 (.inr rfl) hO1 hn hl ?_;intro h3 F3 hW3 u3 k3;refine hk _ F3 hW3 ((u1.mono λb hb=>.inl (by simp at hb;simp[hb])).trans u3) λb hb=>?_;rcases k3 b hb with h'|h'
 ·exact .inl h'
 ·by_cases hba:b=a
  ·exact .inl (by simp[hba])
  ·rw[o1 b hba] at h';exact .inr h'
def semE_loadBytes{h:PH}:∀(l:List UInt8) (a:Addr) (acc:ByteArray),a.spot=none->(∀j x,l[j]? =some x->dB h (a.add j)=some (.int .u8 x.toNat))->cH PG h (loadBytes a acc l.length)=some ⟨acc.data++l.toArray⟩
 | [],a,acc,_,_=>by show some acc=_;simp
 | x::xs,a,acc,hsp,hc=>by
  have h0:=hc 0 x rfl;have ha0:a.add 0=a:=by obtain⟨b,o,w⟩:=a;cases w<;>simp[Addr.add]
  rw[ha0] at h0;show(dB h a).bind _=_;rw[h0,aDS];show cH PG h (loadBytes (a.add 1) (acc.push ((x.toNat:Int).toNat.toUInt8)) xs.length)=_;rw[semE_loadBytes xs (a.add 1) _ (by obtain⟨b,o,w⟩:=a;simp at hsp;subst hsp;rw[lO]) λj y hy=>?_]
  ·congr 1;apply ByteArray.ext;show(acc.push _).data++xs.toArray=_;rw[ByteArray.data_push];apply zLw;simp
  ·have:=hc (j+1) y (by simpa using hy);have e:(a.add 1).add j=a.add (j+1):=by
    obtain⟨b,o,w⟩:=a;simp at hsp;subst hsp;rw[lO,lO,lO];congr 1;omega
   rw[e];exact this
def unsafeStr{h:PH}{g:Nat}{cs:Array Value}{bs:List UInt8}(hb:h g=some (.cells cs dQ (0,0)))(hle:bs.length≤cs.size)(hcs:cs.toList.take bs.length=bs.map λb=>Value.int .u8 b.toNat)(hne:bs≠[])(hmax:bs.length≤rF){k:cD}
  (hk:∀h',cT [g] h h'->k (.string (tx bs)) h'):dA PG (Builtin.unsafeString_ #[oT,bT] bR #[pT g 0,.int .i64 bs.length]) h k:=by
 have hl:bs.length≠0:=by simpa using hne
 have h63:¬((bs.length:Int)>IntKind.i64.max):=by
  have:IntKind.i64.max=9223372036854775807:=rfl;unfold rF at hmax;omega
 have hneg:¬(bs.length:Int)<0:=by omega
 have hz:¬(bs.length:Int)=0:=by omega
 have hdef:Builtin.unsafeString_ #[oT,bT] bR #[pT g 0,.int .i64 bs.length]=
   (do
    let n ←asInt (.int .i64 bs.length)
    if n<0 then runtimePanic (.error "unsafe.String: len out of range")
    if n>IntKind.i64.max then unsupported (.unsafePointer "String: a length above the largest int")
    if n=0 then pure (.string .empty)
    else if ←variablesAt ⟨g,0,none⟩ (←elemOf oT) n.toNat then do
     let s ←loadBytes ⟨g,0,none⟩ .empty n.toNat
     freeze ⟨g,0,none⟩ n.toNat
     pure (.string s)
    else unsupported (.unsafePointer "String: not so many bytes at ptr")):=rfl
 rw[hdef];have hs:kI h g=some (some (dQ,cs.size)):=by unfold kI;rw[hb]
 have hv:cH PG h (variablesAt ⟨g,0,none⟩ dQ bs.length)=some true:=by
  show(kI h g).bind _=_;rw[hs];have hc1:PG.cellsOf dQ=1:=by kernel_rfl
  have:=Go.Lib.liesAt_bytes (P:=PG) hc1 (cs.size/PG.cellsOf dQ) bs.length (by rw[hc1];simpa using hle);show some (liesAt PG PG.depth dQ (cs.size/PG.cellsOf dQ) 0 dQ bs.length)=some true;rw[this]
 have hlb:=semE_loadBytes (h:=h) bs ⟨g,0,none⟩ .empty rfl (λj x hx=>by
  rw[lO];unfold dB;simp only[hb,fO];have hj:j<bs.length:=(zLA.1 hx).1;have:(cs.toList.take bs.length)[j]? =some (.int .u8 x.toNat):=by rw[hcs,wK,hx];rfl
  rw[aJb,if_pos hj] at this;simpa using this)
 have helem:cH PG h (elemOf oT)=some dQ:=by kernel_rfl
 simp only[asInt,asIntOf,pure_bind,map_pure,hneg,h63,hz,if_false,qP];refine iE helem ?_;refine iE hv ?_;simp only[if_true];refine iE hlb ?_;show(∃o,h g=some o)∧_;refine⟨⟨_,hb⟩,?_⟩;have hfin:=hk (nI h ⟨g,0,none⟩ bs.length) (λb o hbo hn=>by
  unfold nI;rw[if_neg hl,if_neg (by simpa using hn)];exact hbo)
 show k (.string _) _;have e:(⟨ByteArray.empty.data++bs.toArray⟩:ByteArray)=tx bs:=by apply ByteArray.ext;simp[tx]
 rw[e];exact hfin
def unsafeNone{h:PH}{q:Option Addr}:cH PG h (Builtin.unsafeString_ #[oT,bT] bR #[.pointer q,.int .i64 0])=some (.string (tx [])):=by
 cases q<;>rfl
def String_ok{h:PH}{a:Nat}{bs:List UInt8}{F:List Nat}(hW:BAt h a bs F){k:cD}(hk:∀h',cT F h h'->k (.string (tx bs)) h'):
  aT PG kR #[pT a 0] h k:=by
 obtain⟨p,v,G,ha,hp,hO,rfl,hn⟩:=hW;have hc:dB h ⟨a,1,none⟩=some v:=by simp[dB,ha]
 have lv:=hO.slR.len (t':=bT) dE.und;rw[jB] at lv;apply lB.call;unfold lB;simp only[dK.f1,dE.load,hc,lv,cE,reduceIte];have hload:∀h',dB h' ⟨a,1,none⟩=some v->cH PG h' (loadAt dE (pT a 1))=some v:=λh' h1=>by rw[dE.load];exact h1
 rcases hO.here with⟨rfl,hr,rfl⟩|⟨g,cap,cs,rfl,rfl,hb,hle,hmax,hsz,htk⟩
 ·have hnil:bs=[]:=by simpa using hr
  subst hnil;refine cH.semH (a:=.pointer none) rfl ?_;refine⟨hc,?_⟩;refine cH.semH unsafeNone ?_;exact hk _ cT.refl
 ·simp only[jB] at *;by_cases hne:bs=[]
  ·subst hne;by_cases hc0:cap=0
   ·subst hc0;have hs:kI h g=some (some (dQ,cs.size)):=by unfold kI;rw[hb]
    show dA PG (viewAt g >>= _) h _;refine iE (a:=none) (by rw[show viewAt g=(viewAt g >>= λx=>pure x) by simp,semE_viewAt hs];rfl) ?_;refine iE (a:=dQ) (by kernel_rfl) ?_;intro r hr;have u:dC h (h.set r (.view ⟨g,0,none⟩ dQ)):=cT.new hr;refine⟨by rw[dB];simp[u.get ha],?_⟩;refine cH.semH unsafeNone ?_;exact hk _ u.upd
   ·refine cH.semH (a:=pT g 0) ?_ ?_
    ·show cH PG h (if cap≠0 then _ else _)=_;rw[if_pos hc0];rfl
    ·refine⟨hc,?_⟩;refine cH.semH unsafeNone ?_;exact hk _ cT.refl
  ·have hpos:0<bs.length:=aHd.2 hne;refine cH.semH (a:=pT g 0) ?_ ?_
   ·show cH PG h (if cap≠0 then _ else _)=_;rw[if_pos (by omega)];rfl
   ·refine⟨hc,?_⟩;rw[Nat.mul_one,jQ.flat] at htk;refine unsafeStr hb (by omega) htk hne (by omega) λh' u=>?_;exact hk _ (u.mono λb hb=>.inl (by simp at hb;simp[hb]))
end Bld
end
section
open Go
section
variable{P:Program}{t e:TypeId}
def aLy{α:Type}{d:TypeInfo}(hi:P.info? t=some d)(f:TypeInfo->Sem α):jZ P (typeInfo t >>= f)=jZ P (f d):=by
 show jZ P ((match P.info? t with|some d=>pure d|none=>stuck _:Sem TypeInfo).bind f)=_;rw[hi];rfl
def aQ2{α:Type}{n:Nat}(f:Unit->Sem α):jZ P (askRoom n >>= f)=jZ P (f ()):=by
 unfold askRoom;split<;>rfl
def aTM(z:Array Value)(hz:0<z.size):∀n:Nat,((Array.range (n*z.size)).map (z[· % z.size]!)).toList=(List.replicate n z.toList).flatten:=by
 intro n;have hr:Rows z.size (List.replicate n z.toList):=λr hr=>by rw[List.eq_of_mem_replicate hr];simp
 apply List.ext_getElem?;intro j;have hfl:(List.replicate n z.toList).flatten.length=n*z.size:=by rw[hr.flat,aLc]
 by_cases hj:j<n*z.size
 ·have hi:j/z.size<n:=(Nat.div_lt_iff_lt_mul hz).2 hj;have hat:=hr.at (i:=j/z.size) (r:=z.toList) (by rw[List.getElem?_replicate,if_pos hi]);have hc:j%z.size<z.size:=zLB _ hz;have e1:(List.replicate n z.toList).flatten[j]? =z.toList[j%z.size]?:=by
   conv=>rhs;rw[←hat]
   rw[aJb,if_pos hc,aNo];congr 1;rw[zLS];exact(Nat.div_add_mod j z.size).symm
  rw[e1];simp[hj,hc]
 ·rw[List.getElem?_eq_none (by simp;omega),List.getElem?_eq_none (by omega)]
def aCc{i:TypeInfo}{z:Value}{size bytes n:Nat}(hu:P.underlying t=some (.slice e))(hi:P.info? e=some i)(hn:i.size=size)(hb:i.bytes=bytes)(hz:i.zero=some z)(hzs:z.cells.size=size)(h0:0<size)
  (hle:bytes*n≤281474976710656) (hnn:n≤1000000000):
  ∃zs,jZ P (Instr.makeSlice t (.int .i64 n) (.int .i64 n))=some (.cells zs e (0,0),λr=>pure (.slice (some ⟨r,0,none⟩) n n))∧zs.toList=(List.replicate n z.cells.toList).flatten:=by
 refine⟨(Array.range (n*z.cells.size)).map (z.cells[· % z.cells.size]!),?_,aTM _ (by omega) n⟩;have hw:IntKind.i64.wrap (n:Int)=n:=IntWalk.i64_in _ ⟨by omega,by omega⟩;unfold Instr.makeSlice;rw[aUx hu];dsimp only;show jZ P (typeInfo e >>= _)=_;rw[aLy hi,hb];have hc1:((bytes:Int)*(n:Int)>2^48)=False:=by
  apply eq_false;have:((bytes*n:Nat):Int)≤((281474976710656:Nat):Int):=Int.ofNat_le.2 hle;rw[Int.natCast_mul] at this;have h2:(2:Int)^48=((281474976710656:Nat):Int):=by rfl
  omega
 have hc2:((n:Int)<0)=False:=by apply eq_false;omega
 have hc3:((n:Int)>(n:Int))=False:=by apply eq_false;omega
 simp only[hw,hc1,hc2,hc3,decide_false,Bool.or_self,zLu,if_false,or_self];rw[aQ2,kO,aLy hi,hn];simp only[qP];by_cases hn0:n=0
 ·subst hn0;have hr:∀f:Nat->Value,(Array.range 0).map f= #[]:=λf=>by simp
  simp only[Nat.zero_mul,if_true,hr];rfl
 ·have hne:(n*size=0)=False:=by apply eq_false;intro h;rcases Nat.mul_eq_zero.1 h with h|h<;>omega
  simp only[hne,if_false];have hzv:∀(f:Value->Sem Value),jZ P (zeroValue e >>= f)=jZ P (f z):=λf=>by
   unfold zeroValue;show jZ P ((typeInfo e >>= _) >>= f)=_;simp only[bind_assoc];rw[aLy hi,hz];rfl
  rw[hzv,←hzs];rfl
end
end
section
open Go Bld
def aPo{h:PH}{l:List UInt8}:cH PG h (Builtin.firstCells 1 l.length (.string (tx l)))=some (l.map λb=>Value.int .u8 b.toNat).toArray:=by
 show some (((tx l).extract 0 l.length).data.map λb=>Value.int .u8 b.toNat)=_;congr 1;apply zLw;rw[ByteArray.data_extract];simp[tx,zLx]
def aU8{h:PH}{r:Nat}{c:Array Value}{l:List UInt8}(hb:h r=some (.cells c dQ (0,0)))(hc:c.size=l.length)(hl:l≠[]){k:cD}
  (hk:k (.int .i64 l.length) (h.set r (.cells (l.map λb=>Value.int .u8 b.toNat).toArray dQ (0,0)))):
  dA PG (Builtin.copy_ #[dE,bR] bT #[.slice (some ⟨r,0,none⟩) l.length l.length,.string (tx l)]) h k:=by
 have hmin:Nat.min l.length l.length=l.length:=Nat.min_self _;simp only[Builtin.copy_,zLK,pU,rZ,pS dE.und,kO,mM dQ.info,pure_bind,Builtin.lenOf,dQ.size,iF,hmin];refine iE (s:=Builtin.firstCells 1 l.length (.string (tx l))) aPo ?_;refine dA.bind (P:=PG) (s:=storeCells _ _) ?_;refine rH (b:=r) (o:=0) (l.map λb=>Value.int .u8 b.toNat) 0 h c hb (by simp[hc]) (λv hv=>by obtain⟨b,-,rfl⟩:=mG.1 hv;rfl) ?_;rw[if_neg (by simpa using hl),aOZ (by simp[hc])];exact hk
def aRo{h:PH}{l:List UInt8}(hl:l.length≤1000000000){k:cD}(hk:∀h',dC h h'->k (.string (tx l)) h'):aT PG aGH #[.string (tx l)] h k:=by
 apply aF5.call;unfold aF5;apply sJ.call;unfold sJ;simp only[bR.len,iF,iG,cE,reduceIte];by_cases h0:l=[]
 ·subst h0;simp only[zLN,show(((0:Nat):Int)==0)=true from rfl,cE,reduceIte];exact hk _ cT.refl
 ·have hpos:l.length≠0:=by simpa using h0
  have e0:(((l.length:Nat):Int)==0)=false:=by simpa using h0
  obtain⟨zs',hm,hz⟩:=aCc (P:=PG) (n:=l.length) dE.und dQ.info dQ.size dQ.bytes dQ.zero rfl (by decide) (by omega) hl;have hsz:zs'.size=l.length:=by
   rw[←Array.length_toList,hz];simp[Value.cells]
  simp only[e0,hm,cE,reduceIte];intro r hr;refine fT ?_
  try rw[cW]
  have u1:dC h (h.set r (.cells zs' dQ (0,0))):=cT.new hr;have a1:(h.set r (.cells zs' dQ (0,0))) r=some (.cells zs' dQ (0,0)):=dJ;generalize h.set r (.cells zs' dQ (0,0))=h1 at *;refine aU8 a1 hsz h0 ?_;have u2:dC h (h1.set r (.cells (l.map λb=>Value.int .u8 b.toNat).toArray dQ (0,0))):=u1.fresh (cT.set (F:=[r]) (by simp)) (eN.one hr);have a2:(h1.set r (.cells (l.map λb=>Value.int .u8 b.toNat).toArray dQ (0,0))) r=some (.cells (l.map λb=>Value.int .u8 b.toNat).toArray dQ (0,0)):=dJ;generalize h1.set r (.cells (l.map λb=>Value.int .u8 b.toNat).toArray dQ (0,0))=h2 at *;have ea:dG PG (indexAt dE (.slice (some ⟨r,0,none⟩) l.length l.length) (.int .i64 0))=some (pT r 0):=by
   have:=aIj (P:=PG) (t:=dE) (b:=r) (o:=0) (len:=l.length) (cap:=l.length) (k:=.i64) (j:=0) dE.und dQ.info dQ.size (by decide) (by omega);simpa using this
  simp only[ea,dE.len,cE,reduceIte];refine unsafeStr a2 (by simp) (by rw[List.toList_toArray];exact mX (by simp)) h0 (by unfold rF;omega) λh' u=>?_;exact hk _ (u2.fresh u (eN.one hr))
def HAt(h:PH)(a:Nat)(s:S8)(r:List UInt8)(n:Nat):Prop:=h a=some (.cells (jY s (.string (tx r)) (.int .i64 n)) fH (0,0))
def aPD(a:Nat):List Value->PH->Nat:=λ_ h=>match h a with
 | some (Obj.cells c _ _)=>match c[8]? with
  | some (Value.string t)=>t.size
  | _=>0
 | _=>0
def HAt.len{h:PH}{a:Nat}{s:S8}{r:List UInt8}{n:Nat}(H:HAt h a s r n){vs:List Value}:aPD a vs h=r.length:=by
 unfold HAt at H;simp[aPD,H,jY,iF]
def oL.ne{h:PH}(H:oL h){a:Nat}{s:S8}{x y:Value}{t:TypeId}(ha:h a=some (.cells (jY s x y) t (0,0))):a≠0:=by
 rintro rfl;obtain⟨t,fr,hb⟩:=H;rw[hb] at ha;have:=congrArg Array.size (Obj.cells.inj (aKu ha)).1;rw[List.size_toArray,jB,aKc] at this;simp[jY] at this
def oL.upd{h h':PH}(H:oL h){F:List Nat}(u:cT F h h')(hF:0∉F):oL h':=by
 obtain⟨t,fr,hb⟩:=H;exact⟨t,fr,u.get hb hF⟩
def bAC{s:S8}{x y v:Value}:(jY s x y).setIfInBounds 9 v=jY s x v:=rfl
def aX9{s:S8}{x y v:Value}:(jY s x y).setIfInBounds 8 v=jY s v y:=rfl
def aRG{h:PH}{a:Nat}{s:S8}{r p:List UInt8}{n:Nat}(hK:oL h)(ha:HAt h a s r n)(hl:r.length+p.length≤1000000000)(hn:n+p.length≤1000000000000){k:cD}
  (hk:∀h',cT [a] h h'->HAt h' a (qN s (r++p)).1 (qN s (r++p)).2 (n+p.length)->k (.tuple #[]) h'):aT PG aCB #[pT a 0,.string (tx p)] h k:=by
 apply aAT.call;unfold aAT;have hne:=hK.ne ha;have c9:dB h ⟨a,0+9,none⟩=some (.int .i64 n):=by unfold HAt at ha;simp[dB,ha,jY]
 have e1:IntKind.i64.wrap ((n:Int)+(p.length:Int))=((n+p.length:Nat):Int):=by rw[fI (by omega) (by omega)];omega
 simp only[fH.f2,bT.load,c9,bR.len,iF,e1,cE,reduceIte];refine jD bT.und rfl ha (by simp[jY]) rfl bT.info bT.size ?_;rw[show 0+9=9 from rfl,bAC];have u1:cT [a] h (h.set a (.cells (jY s (.string (tx r)) (.int .i64 ((n+p.length:Nat):Int))) fH (0,0))):=cT.set (by simp);have a1:HAt (h.set a (.cells (jY s (.string (tx r)) (.int .i64 ((n+p.length:Nat):Int))) fH (0,0))) a s r (n+p.length):=dJ;generalize h.set a (.cells (jY s (.string (tx r)) (.int .i64 ((n+p.length:Nat):Int))) fH (0,0))=h1 at *;have c8:dB h1 ⟨a,0+8,none⟩=some (.string (tx r)):=by unfold HAt at a1;simp[dB,a1,jY]
 simp only[fH.f1,bR.load,c8,mC (show r.length+p.length≤9223372036854775807 by omega),cE,reduceIte];refine aRo (by simpa using hl) λh2 u2=>?_;have a2:HAt h2 a s r (n+p.length):=u2.get a1;refine jD bR.und rfl a2 (by simp[jY]) rfl bR.info bR.size ?_;rw[show 0+8=8 from rfl,aX9];have u3:cT [a] h (h2.set a (.cells (jY s (.string (tx (r++p))) (.int .i64 ((n+p.length:Nat):Int))) fH (0,0))):=(u1.trans u2.upd).trans (cT.set (by simp));have a3:HAt (h2.set a (.cells (jY s (.string (tx (r++p))) (.int .i64 ((n+p.length:Nat):Int))) fH (0,0))) a s (r++p) (n+p.length):=dJ;generalize h2.set a (.cells (jY s (.string (tx (r++p))) (.int .i64 ((n+p.length:Nat):Int))) fH (0,0))=h3 at *;generalize n+p.length=m at *;have hrl:(r++p).length≤1000000000:=by simpa using hl
 generalize hrp:r++p=q at *;refine⟨λvs h'=>∃s' r',vs=[pT a 0]∧r'.length≤1000000000∧qN s' r'=qN s q∧cT [a] h h'∧HAt h' a s' r' m,aPD a,⟨s,q,rfl,hrl,rfl,u3,a3⟩,?_⟩;rintro ρ h' ⟨s',r',hvs,hr',hab,u',a'⟩;simp only[iJ,iZ,lP,and_true] at hvs;have hlen:=a'.len (vs:=[ρ 0]);simp only[hvs,iJ,iZ] at hlen ⊢;unfold aIH;have c8:dB h' ⟨a,0+8,none⟩=some (.string (tx r')):=by unfold HAt at a';simp[dB,a',jY]
 simp only[fH.f1,bR.load,c8,bR.len,iF,cE,reduceIte];by_cases h64:64≤r'.length
 ·have e2:((64:Int)≤(r'.length:Int))=True:=eq_true (by omega);have ec:dG PG (Instr.sliceAt bR (.string (tx r')) none (some (.int .i64 64)) none)=some (.string (tx (r'.take 64))):=aH8 (i:=0) (j:=64) bR.und (.inl ⟨rfl,rfl⟩) (.inr ⟨_,rfl⟩) (by omega) h64;have ed:dG PG (Instr.sliceAt bR (.string (tx r')) (some (.int .i64 64)) none none)=some (.string (tx (r'.drop 64))):=by
   have:=aH8 (P:=PG) (t:=bR) (l:=r') (i:=64) (j:=r'.length) (lo:=some (.int .i64 64)) bR.und (.inr ⟨_,rfl⟩) (.inl ⟨rfl,rfl⟩) h64 (pF _);rw[zLJ] at this;exact this
  simp only[e2,fH.f0,ec,cE,reduceIte];refine aYd (hK.upd u' (by simpa using λh=>hne h.symm)) (by simp;omega) a' λh4 u4 a4=>?_;have c8':dB h4 ⟨a,0+8,none⟩=some (.string (tx r')):=by simp[dB,a4,jY]
  simp only[fH.f1,bR.load,c8',ed,cE,reduceIte];refine jD bR.und rfl a4 (by simp[jY]) rfl bR.info bR.size ?_;rw[show 0+8=8 from rfl,aX9];have a5:HAt (h4.set a (.cells (jY (aKP s' (r'.take 64)) (.string (tx (r'.drop 64))) (.int .i64 (m:Int))) fH (0,0))) a (aKP s' (r'.take 64)) (r'.drop 64) m:=dJ;refine⟨⟨_,_,(by trivial),(by simp;omega),by rw[←aIQ h64];exact hab,(u'.trans u4).trans (cT.set (by simp)),a5⟩,?_⟩;rw[a5.len,hlen];simp;omega
 ·have e2:((64:Int)≤(r'.length:Int))=False:=eq_false (by omega);simp only[e2,cE,reduceIte];refine hk _ u' ?_;rw[←hab,aH9 (by omega)];exact a'
def aNI:∀(n t:Nat) (acc:Array Value),(Extern.BytealgMakeNoZero.digits n t acc).size=acc.size+n
 | 0,_,acc=>rfl
 | n+1,t,acc=>by
  show(Extern.BytealgMakeNoZero.digits n (t/256) (acc.push _)).size=_;rw[aNI n];simp;omega
def aRq{n:Int}{h:PH}{Q:Next->PH->Prop}:dA PG (callFunc uK #[.int .i64 n]) h Q=dA PG (Extern.BytealgMakeNoZero.makeNoZero #[] #[dE] #[.int .i64 n] >>= λv=>pure (Next.value v)) h Q:=by kernel_rfl
def aQA{h:PH}{n:Nat}(hn:n≤140737488355328){k:cD}
  (hk:∀r cap (cs:Array Value),n≤cap->cap≤rF->cs.size=cap->h r=none->k (.slice (some ⟨r,0,none⟩) n cap) (h.set r (.cells cs dQ (0,0)))):aT PG uK #[.int .i64 n] h k:=by
 refine .inr ?_;rw[aRq];refine dA.bind (P:=PG) (s:=Extern.BytealgMakeNoZero.makeNoZero #[] #[dE] #[.int .i64 n]) ?_;have h1:((decide ((n:Int)<0)||decide ((n:Int)>2^48))=true)=False:=by
  apply eq_false;have:¬((n:Int)>2^48):=by
   have h2:(2:Int)^48=281474976710656:=by rfl
   omega
  have h3:¬((n:Int)<0):=by omega
  simp[h3];omega
 show dA PG (underlying dE >>= _) h _;rw[pS dE.und];dsimp only;simp only[h1,if_false,pure_bind,qP];rw[aAQ];intro tt;rw[aGw,aAQ];intro bb;have hforced:(Question.appendCap n 0 5).forced=false:=rfl;rw[hforced];have hcut:n≤(Question.appendCap n 0 5).cut tt∧(Question.appendCap n 0 5).cut tt≤rF:=by
  have hpos:0<2^63-n:=by omega
  have:=zLB tt hpos;simp only[Question.cut,rF];omega
 generalize (if (Question.extern "internal/bytealg.MakeNoZero.bytes" 0).forced=true then 0 else(Question.extern "internal/bytealg.MakeNoZero.bytes" 0).cut bb)=B;show dA PG (newRow 5 _ >>= _) h _;intro r hr;exact⟨_,rfl,hk r _ _ hcut.1 hcut.2 (by rw[aNI];exact fO _) hr⟩
def zB:dS PG dK= #[.pointer none,.slice none 0 0]:=by rw[dK.zc];rfl
def BAt.zero{h:PH}{a:Nat}(ha:h a=some (.cells #[.pointer none,.slice none 0 0] dK (0,0))):BAt h a [] [a]:=⟨_,_,[],ha,.inl rfl,eO.nil,rfl,by simp⟩
def aR3:dG PG (Builtin.cap_ #[dE] bT #[.slice none 0 0])=some (.int .i64 0):=by kernel_rfl
def aZq{r cap:Nat}{n:Nat}:dG PG (Instr.sliceAt dE (.slice (some ⟨r,0,none⟩) n cap) none (some (.int .i64 ((0:Nat):Int))) none)=some (.slice (some ⟨r,0,none⟩) 0 cap):=by
 have:=aI7 (P:=PG) (t:=dE) (a:=some ⟨r,0,none⟩) (len:=n) (cap:=cap) (l:=0) (hh:=0) (lo:=none) (hi:=some (.int .i64 ((0:Nat):Int))) dE.und dQ.info (.inl ⟨rfl,rfl⟩) (.inr ⟨_,rfl⟩) (by omega) (by omega);rw[this];by_cases hc:cap=0
 ·subst hc;simp
 ·rw[if_neg hc];simp[lO]
structure FB(h:PH)(a g cap:Nat)(bs:List UInt8):Prop where
 here:∃(cs:Array Value) (f:Nat),h a=some (.cells #[pT a 0,.slice (some ⟨g,0,none⟩) bs.length cap] dK (0,0))∧h g=some (.cells cs dQ (0,f))∧f≤bs.length∧bs.length≤cap∧cs.size=cap∧cs.toList.take bs.length=(bs.map λb=>Value.int .u8 b.toNat)∧g≠a∧cap≤rF
def aOt(r n:Nat):List Value->PH->Nat:=λ_ h=>match h r with
 | some (Obj.cells c _ _)=>match c[1]? with
  | some (Value.slice _ m _)=>n-m
  | _=>0
 | _=>0
def FB.mu{h:PH}{a g cap:Nat}{bs:List UInt8}(H:FB h a g cap bs){n:Nat}{vs:List Value}:aOt a n vs h=n-bs.length:=by
 obtain⟨cs,f,ha,-⟩:=H;simp[aOt,ha]
def aXM{h:PH}{a n:Nat}(ha:h a=some (.cells #[.pointer none,.slice none 0 0] dK (0,0)))(hn:0<n)(hn2:n≤1000000){k:cD}
  (hk:∀h' g cap,FB h' a g cap []->n≤cap->cT [a] h h'->h g=none->k (.tuple #[]) h'):aT PG aA9 #[pT a 0,.int .i64 n] h k:=by
 apply qW.call;unfold qW;refine copyCheck_ok ha (.inl rfl) λh1 a1 u1 o1=>?_;have e1:((n:Int)<0)=False:=eq_false (by omega);have c1:dB h1 ⟨a,0+1,none⟩=some (.slice none 0 0):=by simp[dB,a1]
 have e2:IntKind.i64.wrap ((0:Int)-((0:Nat):Int))=0:=by rw[fI (by omega) (by omega)];omega
 have e3:((0:Int)<(n:Int))=True:=eq_true (by omega);simp only[e1,cE,reduceIte];unfold aFQ;simp only[dK.f1,dE.load,c1,aR3,dE.len,e2,e3,cE,reduceIte];apply qS.call;unfold qS;have e4:IntKind.i64.wrap (2*(0:Int))=0:=by rw[fI (by omega) (by omega)];omega
 have e5:IntKind.i64.wrap ((0:Int)+(n:Int))=(n:Int):=by rw[fI (by omega) (by omega)];omega
 simp only[dK.f1,dE.load,c1,aR3,dE.len,e4,e5,cE,reduceIte];refine aQA (by omega) λr cap cs h2 h3 hsz hr=>?_;have u2:dC h1 (h1.set r (.cells cs dQ (0,0))):=cT.new hr;have b2:(h1.set r (.cells cs dQ (0,0))) r=some (.cells cs dQ (0,0)):=dJ;generalize h1.set r (.cells cs dQ (0,0))=h2' at *;have a2:=u2.get a1;have c1':dB h2' ⟨a,0+1,none⟩=some (.slice none 0 0):=by simp[dB,a2]
 have hne:r≠a:=λe=>by subst e;rw[a1] at hr;cases hr
 refine⟨c1',?_⟩;simp only[dK.f1,dE.load,c1',aZq,cE,reduceIte];have hcp:cH PG h2' (Builtin.copy_ #[dE,dE] bT #[.slice (some ⟨r,0,none⟩) 0 cap,.slice none 0 0])=some (.int .i64 0):=by kernel_rfl
 refine cH.semH hcp ?_;refine jD dE.und rfl a2 (by simp) rfl dE.info dE.size ?_;refine hk _ r cap ⟨cs,0,dJ,by rw[qL hne];exact b2,by simp,by simp,by omega,by simp,hne,h3⟩ h2 ((u1.trans u2.upd).trans (cT.set (by simp))) ?_;rw[←o1 r hne];exact hr
def aVc:dG PG (binOp .and cA (.int .u64 0) (.int .u64 4294967295))=some (.int .u64 0):=by kernel_rfl
def aW2:dG PG (binOp .and cA (.int .u64 1) (.int .u64 4294967295))=some (.int .u64 1):=by kernel_rfl
def aZg:∀n:Fin 64,(BitVec.ofInt 64 (n.val:Int) &&& BitVec.ofInt 64 4294967295).toNat=n.val:=by decide
def aYM{n:Nat}(hn:n<64):dG PG (binOp .and cA (.int .u64 (n:Int)) (.int .u64 4294967295))=some (.int .u64 (n:Int)):=by
 have e:dG PG (binOp .and cA (.int .u64 (n:Int)) (.int .u64 4294967295))=some (.int .u64 (IntKind.u64.wrap ((BitVec.ofInt 64 (n:Int) &&& BitVec.ofInt 64 4294967295).toNat:Int))):=rfl;have:=aZg ⟨n,hn⟩;simp only at this;rw[e,this,gL (by omega) (by omega)]
def aTC{n:Nat}(hn:n<64):dG PG (binOp .shr cA (.int .u64 (n:Int)) (.int .u64 32))=some (.int .u64 0):=by
 rw[aJS (by decide)];congr 2;show(n:Int).fdiv (2^32)=0;rw[Int.fdiv_eq_ediv_of_nonneg _ (by decide)];have:(2:Int)^32=4294967296:=by rfl
 omega
def aYA:dG PG (binOp .shr cA (.int .u64 0) (.int .u64 32))=some (.int .u64 0):=aTC (n:=0) (by decide)
def aZM:dG PG (binOp .shr cA (.int .u64 1) (.int .u64 32))=some (.int .u64 0):=aTC (n:=1) (by decide)
def aZP{h:PH}{n:Nat}(hn:n<64){k:cD}(hk:k (.tuple #[.int .u64 0,.int .u64 n]) h):aT PG aGI #[.int .u64 1,.int .u64 n] h k:=by
 apply aGF.call;unfold aGF;simp only[cE,reduceIte];apply aEZ.call;unfold aEZ;have w0:IntKind.u64.wrap 0=0:=rfl;have wn:IntKind.u64.wrap (n:Int)=n:=gL (by omega) (by omega);simp only[aW2,aZM,aYM hn,aTC hn,Int.one_mul,Int.zero_mul,Int.mul_zero,wn,w0,Int.add_zero,aVc,aYA,cE,reduceIte];exact hk
def aJR{b o f:Nat}{e:TypeId}{Q:Unit->PH->Prop}:∀(vs:List Value) (i:Nat) (h:PH) (c:Array Value),h b=some (.cells c e (0,f))->f≤o+i->o+i+vs.length≤c.size->(∀v∈vs,fX v=true)->
  Q () (if vs=[] then h else h.set b (.cells (uU c (o+i) vs) e (0,f)))->dA PG (storeCells ⟨b,o,none⟩ vs i) h Q
 | [],i,h,c,_,_,_,_,hq=>by
  show Q () h;simpa using hq
 | v::vs,i,h,c,hb,hf,hle,hv,hq=>by
  simp only[rN] at hle;have hlt:o+i<c.size:=by omega
  have ha:(⟨b,o,none⟩:Addr).add i=⟨b,o+i,none⟩:=lO ..;show fX v=true∧vK h ((⟨b,o,none⟩:Addr).add i)=false∧(∃u,dB h ((⟨b,o,none⟩:Addr).add i)=some u)∧dA PG (storeCells ⟨b,o,none⟩ vs (i+1)) (sM h ((⟨b,o,none⟩:Addr).add i) v) Q;rw[ha];refine⟨hv v (by simp),by simp[vK,hb];omega,⟨c[o+i],by simp[dB,hb,hlt]⟩,?_⟩;have hset:sM h ⟨b,o+i,none⟩ v=h.set b (.cells (c.setIfInBounds (o+i) v) e (0,f)):=by
   funext x;unfold sM PH.set;by_cases hx:x=b
   ·subst hx;simp[hb]
   ·simp[hx]
  rw[hset];refine aJR vs (i+1) _ _ dJ (by omega) (by simp;omega) (λu hu=>hv u (by simp[hu])) ?_;have h2:∀o1 o2:Obj,(h.set b o1).set b o2=h.set b o2:=λo1 o2=>by funext x;unfold PH.set;split<;>rfl
  simp only[List.cons_ne_nil,if_false] at hq;split
  ·rename_i hvs;subst hvs;simpa[uU] using hq
  ·rw[h2];simpa[uU,Nat.add_assoc] using hq
def aSz{h:PH}{g:Nat}{cs:Array Value}{fr:Nat×Nat}{bs:List UInt8}(hb:h g=some (.cells cs dQ fr))(hle:bs.length≤cs.size)(hcs:cs.toList.take bs.length=bs.map λb=>Value.int .u8 b.toNat)(hne:bs≠[])(hmax:bs.length≤rF){k:cD}
  (hk:k (.string (tx bs)) (nI h ⟨g,0,none⟩ bs.length)):dA PG (Builtin.unsafeString_ #[oT,bT] bR #[pT g 0,.int .i64 bs.length]) h k:=by
 have hl:bs.length≠0:=by simpa using hne
 have h63:¬((bs.length:Int)>IntKind.i64.max):=by
  have:IntKind.i64.max=9223372036854775807:=rfl;unfold rF at hmax;omega
 have hneg:¬(bs.length:Int)<0:=by omega
 have hz:¬(bs.length:Int)=0:=by omega
 have hdef:Builtin.unsafeString_ #[oT,bT] bR #[pT g 0,.int .i64 bs.length]=
   (do
    let n ←asInt (.int .i64 bs.length)
    if n<0 then runtimePanic (.error "unsafe.String: len out of range")
    if n>IntKind.i64.max then unsupported (.unsafePointer "String: a length above the largest int")
    if n=0 then pure (.string .empty)
    else if ←variablesAt ⟨g,0,none⟩ (←elemOf oT) n.toNat then do
     let s ←loadBytes ⟨g,0,none⟩ .empty n.toNat
     freeze ⟨g,0,none⟩ n.toNat
     pure (.string s)
    else unsupported (.unsafePointer "String: not so many bytes at ptr")):=rfl
 rw[hdef];have hs:kI h g=some (some (dQ,cs.size)):=by unfold kI;rw[hb]
 have hv:cH PG h (variablesAt ⟨g,0,none⟩ dQ bs.length)=some true:=by
  show(kI h g).bind _=_;rw[hs];have hc1:PG.cellsOf dQ=1:=by kernel_rfl
  have:=Go.Lib.liesAt_bytes (P:=PG) hc1 (cs.size/PG.cellsOf dQ) bs.length (by rw[hc1];simpa using hle);show some (liesAt PG PG.depth dQ (cs.size/PG.cellsOf dQ) 0 dQ bs.length)=some true;rw[this]
 have hlb:=semE_loadBytes (h:=h) bs ⟨g,0,none⟩ .empty rfl (λj x hx=>by
  rw[lO];unfold dB;simp only[hb,fO];have hj:j<bs.length:=(zLA.1 hx).1;have:(cs.toList.take bs.length)[j]? =some (.int .u8 x.toNat):=by rw[hcs,wK,hx];rfl
  rw[aJb,if_pos hj] at this;simpa using this)
 have helem:cH PG h (elemOf oT)=some dQ:=by kernel_rfl
 simp only[asInt,asIntOf,pure_bind,map_pure,hneg,h63,hz,if_false,qP];refine iE helem ?_;refine iE hv ?_;simp only[if_true];refine iE hlb ?_;show(∃o,h g=some o)∧_;refine⟨⟨_,hb⟩,?_⟩;show k (.string _) _;have e:(⟨ByteArray.empty.data++bs.toArray⟩:ByteArray)=tx bs:=by apply ByteArray.ext;simp[tx]
 rw[e];exact hk
def FB.len{h:PH}{a g cap:Nat}{bs:List UInt8}(H:FB h a g cap bs){k:cD}(hk:k (.int .i64 bs.length) h):aT PG rY #[pT a 0] h k:=by
 obtain⟨cs,f,ha,-⟩:=H;apply aAx.call;unfold aAx;have c1:dB h ⟨a,0+1,none⟩=some (.slice (some ⟨g,0,none⟩) bs.length cap):=by simp[dB,ha]
 simp only[dK.f1,dE.load,c1,dE.len,cE,reduceIte];exact hk
def FB.string{h:PH}{a g cap:Nat}{bs:List UInt8}(H:FB h a g cap bs)(hne:bs≠[]){k:cD}(hk:∀h',FB h' a g cap bs->cT [g] h h'->k (.string (tx bs)) h'):aT PG kR #[pT a 0] h k:=by
 obtain⟨cs,f,ha,hg,hf,hc,hsz,htk,hga,hmx⟩:=H;have hpos:bs.length≠0:=by simpa using hne
 apply lB.call;unfold lB;have c1:dB h ⟨a,0+1,none⟩=some (.slice (some ⟨g,0,none⟩) bs.length cap):=by simp[dB,ha]
 simp only[dK.f1,dE.load,c1,dE.len,cE,reduceIte];refine cH.semH (a:=pT g 0) ?_ ?_
 ·show cH PG h (if cap≠0 then _ else _)=_;rw[if_pos (by omega)];rfl
 ·refine⟨c1,?_⟩;refine aSz hg (by omega) htk hne (by omega) ?_;have hg':nI h ⟨g,0,none⟩ bs.length g=some (.cells cs dQ (0,bs.length)):=by
   unfold nI;rw[if_neg hpos,if_pos rfl];simp only[hg];by_cases h0:f=0
   ·subst h0;simp
   ·have:((0==f)=true)=False:=by simp;omega
    simp only[this,if_false];congr 3
    ·exact Nat.max_eq_right (by omega) |>.trans (fO _)
  have hoth:∀b,b≠g->nI h ⟨g,0,none⟩ bs.length b=h b:=λb hb=>by
   unfold nI;rw[if_neg hpos,if_neg hb]
  exact hk _ ⟨cs,bs.length,by rw[hoth a hga.symm];exact ha,hg',pF _,hc,hsz,htk,hga,hmx⟩ (λb o hb hn=>by rw[hoth b (by simpa using hn)];exact hb)
def FB.write{h:PH}{a g cap:Nat}{bs ys:List UInt8}(H:FB h a g cap bs)(hle:bs.length+ys.length≤cap)(hcap:bs.length+ys.length≤1000000){k:cD}(hk:∀v h',FB h' a g cap (bs++ys)->cT [a,g] h h'->k v h'):
  aT PG lF #[pT a 0,.string (tx ys)] h k:=by
 obtain⟨cs,f,ha,hg,hf,hc,hsz,htk,hga,hmx⟩:=H;apply kZ.call;unfold kZ;refine copyCheck_ok ha (.inr rfl) λh1 a1 u1 o1=>?_;have g1:h1 g=some (.cells cs dQ (0,f)):=by rw[o1 g hga];exact hg
 have c1:dB h1 ⟨a,0+1,none⟩=some (.slice (some ⟨g,0,none⟩) bs.length cap):=by simp[dB,a1]
 simp only[dK.f1,dE.load,c1,bR.len,iF,cE,reduceIte]
 -- the append
 simp only[Builtin.append_,zLK,pU,rZ,pS dE.und,pS bR.und,kO,mM dQ.info,pure_bind,zLu,if_false,Builtin.lenOf,zLq,if_true,dQ.size,iF];rw[if_pos hle];refine iE (aPo (l:=ys)) ?_;have hadd:(⟨g,0,none⟩:Addr).add (bs.length*1)=⟨g,bs.length,none⟩:=by rw[lO];simp
 show dA PG (storeCells ((⟨g,0,none⟩:Addr).add (bs.length*1)) (ys.map λb=>Value.int .u8 b.toNat).toArray.toList >>= λ_=>pure _) h1 _;rw[hadd];refine dA.bind (P:=PG) (s:=storeCells _ _) ?_;refine aJR (b:=g) (o:=bs.length) (f:=f) (ys.map λb=>Value.int .u8 b.toNat) 0 h1 cs g1 (by omega) (by simp;omega) (λv hv=>by obtain⟨b,-,rfl⟩:=mG.1 hv;rfl) ?_;have key:∀h2:PH,(∃cs',h2 g=some (.cells cs' dQ (0,f))∧cs'.size=cap∧cs'.toList.take (bs.length+ys.length)=((bs++ys).map λb=>Value.int .u8 b.toNat))->h2 a=h1 a->cT [g] h1 h2->
   dA PG (dR dE (pT a (0+1)) (.slice (some ⟨g,0,none⟩) (bs.length+ys.length) cap)) h2 λ_ h3=>k (.tuple #[.int .i64 ys.length,.nilIface]) h3:=by
  intro h2 ⟨cs',hg2,hs2,ht2⟩ ha2 u2;refine jD dE.und rfl (by rw[ha2];exact a1) (by simp) rfl dE.info dE.size ?_;refine hk _ _ ⟨cs',f,?_,by rw[qL hga];exact hg2,by simp;omega,by simpa using hle,hs2,by simpa using ht2,hga,hmx⟩ (((u1.mono λb hb=>.inl (by simp at hb;simp[hb])).trans (u2.mono λb hb=>.inl (by simp at hb;simp[hb]))).trans (cT.set (by simp)));rw[dJ];simp
 by_cases hy:ys=[]
 ·subst hy;rw[if_pos (show(List.map (λb=>Value.int .u8 (b.toNat:Int)) ([]:List UInt8))=[] from rfl)];exact key h1 ⟨cs,g1,hsz,by simpa using htk⟩ rfl cT.refl
 ·rw[if_neg (by simpa using hy)];refine key _ ⟨_,dJ,by rw[aFw];exact hsz,?_⟩ (qL hga.symm) (cT.set (by simp));rw[Nat.add_zero,aBt _ _ _ (by simp;omega),htk];rw[zLH (by simp),mX (by simp),pY]
def aPB{n m:Nat}(h:m≤n):(List.replicate n (0:UInt8)).take m=List.replicate m 0:=by rw[List.take_replicate,aGy h]
def aZS{ts:Array TypeId}{t:TypeId}{k:IntKind}{x y z:Int}:dG PG (Builtin.min_ ts t #[.int k x,.int k y,.int k z])=some (.int k (if z<(if y<x then y else x) then z else(if y<x then y else x))):=(rfl)
def aRn(x:Int):dG PG (convert nV bT (.int .u64 x))=some (.int .i64 (IntKind.i64.wrap x)):=by kernel_rfl
def aTw{h:PH}{n:Nat}(hn:n<64){k:cD}(hk:∀h',dC h h'->k (.string (tx (List.replicate n 0))) h'):aT PG aFX #[.string (tx [0]),.int .i64 n] h k:=by
 apply aFN.call;unfold aFN;simp only[iG,cE,reduceIte];by_cases h0:n=0
 ·subst h0;simp only[show(((0:Nat):Int)==0)=true from rfl,cE,reduceIte];exact hk _ cT.refl
 ·have e0:((n:Int)==0)=false:=by simpa using h0
  simp only[e0,cE,reduceIte];by_cases h1:n=1
  ·subst h1;simp only[show(((1:Nat):Int)==1)=true from rfl,cE,reduceIte];exact hk _ cT.refl
  ·have e1:((n:Int)==1)=false:=by simp;omega
   have e2:((n:Int)<0)=False:=eq_false (by omega);simp only[e1,e2,cE,reduceIte];unfold aIp;have w1:IntKind.u64.wrap (([0]:List UInt8).length:Int)=1:=rfl;have wn:IntKind.u64.wrap (n:Int)=n:=gL (by omega) (by omega);simp only[bR.len,iF,aKN,w1,wn,cE,reduceIte];refine aZP hn ?_;have e3:((9223372036854775807:Int)<(n:Int))=False:=eq_false (by omega);simp only[aL2,aMC,show((0:Int)<0)=False from eq_false (by decide),e3,cE,reduceIte];unfold aIU;have wi:IntKind.i64.wrap (n:Int)=n:=fI (by omega) (by omega);have i0:dG PG (Instr.index bR (.string (tx [0])) (.int .i64 0))=some (.int .u8 ((0:UInt8).toNat:Int)):=aAi (j:=0) bR.und rfl;have z0:(((0:UInt8).toNat:Int))=0:=rfl;have w2:(([0]:List UInt8).length:Int)=1:=rfl;have hz:((1:Int)==0)=false:=rfl;have d1:((0:Int)==32)=false:=rfl;have d2:((0:Int)==45)=false:=rfl;have d3:((0:Int)==48)=false:=rfl;have d4:((0:Int)==61)=false:=rfl;have d5:((0:Int)==9)=false:=rfl;simp only[bR.len,iF,aRn,wi,i0,z0,w2,hz,d1,d2,d3,d4,d5,cE,reduceIte];unfold tK;simp only[cE,reduceIte];unfold aEk aH6;have e4:((8192:Int)<(n:Int))=False:=eq_false (by omega);simp only[e4,cE,reduceIte];unfold aBc;rw[zB];intro r hr
   try rw[cW]
   have u1:dC h (h.set r (.cells #[.pointer none,.slice none 0 0] dK)):=cT.new hr;have a1:(h.set r (.cells #[.pointer none,.slice none 0 0] dK)) r=some (.cells #[.pointer none,.slice none 0 0] dK (0,0)):=dJ;generalize h.set r (.cells #[.pointer none,.slice none 0 0] dK)=h1 at *;refine aXM a1 (n:=n) (by omega) (by omega) λh2 g cap hF hcap u2 hg=>?_;have ug:cT [r,g] h h2:=(u1.upd.trans (u2.mono λb hb=>.inl (by simp at hb;simp[hb])));have hgn:h g=none:=u1.none hg;have fin:∀h',cT [r,g] h h'->dC h h':=λh' u b o hb _=>u b o hb (by
    simp only[gU,lH,or_false,not_or];exact⟨(λe=>by rw[e,hr] at hb;cases hb),(λe=>by rw[e,hgn] at hb;cases hb)⟩)
   refine FB.write hF (ys:=[0]) (by simpa using by omega) (by simp) λv h3 hF3 u3=>?_;refine⟨λvs h'=>∃m,1≤m∧m≤n∧vs=[.int .i64 n,.int .i64 n,pT r 0]∧cT [r,g] h h'∧FB h' r g cap (List.replicate m 0),aOt r n,⟨1,by omega,by omega,rfl,ug.trans u3,hF3⟩,?_⟩;rintro ρ h' ⟨m,hm1,hm2,hvs,u',F'⟩;simp only[iJ,iZ,lP,and_true] at hvs;obtain⟨v7,v8,v9⟩:=hvs;have hr':=F'.mu (n:=n) (vs:=[ρ 7,ρ 8,ρ 9]);simp only[v7,v8,v9,iJ,iZ,aLc] at hr' ⊢;unfold aHZ;refine F'.len ?_;simp only[aLc,cE,reduceIte];by_cases hmn:m<n
   ·have f1:((m:Int)<(n:Int))=True:=eq_true (by omega);simp only[f1,cE,reduceIte];refine F'.len ?_;have f2:IntKind.i64.wrap ((n:Int)-(m:Int))=((n-m:Nat):Int):=by rw[fI (by omega) (by omega)];omega
    simp only[aLc,f2,cE,reduceIte];refine F'.len ?_;have f3:(if (n:Int)<(if (m:Int)<((n-m:Nat):Int) then(m:Int) else((n-m:Nat):Int)) then(n:Int) else(if (m:Int)<((n-m:Nat):Int) then(m:Int) else((n-m:Nat):Int)))=((min m (n-m):Nat):Int):=by
     split<;>split<;>omega
    simp only[aLc,aZS,f3,cE,reduceIte];refine F'.string (by simp;omega) λh4 F4 u4=>?_;have ec:dG PG (Instr.sliceAt bR (.string (tx (List.replicate m 0))) none (some (.int .i64 ((min m (n-m):Nat):Int))) none)=some (.string (tx (List.replicate (min m (n-m)) 0))):=by
     have:=aH8 (P:=PG) (t:=bR) (l:=List.replicate m 0) (i:=0) (j:=min m (n-m)) (lo:=none) (hi:=some (.int .i64 ((min m (n-m):Nat):Int))) bR.und (.inl ⟨rfl,rfl⟩) (.inr ⟨_,rfl⟩) (by omega) (by simp;omega);rw[this,aPB (by omega),zLb]
    simp only[ec,cE,reduceIte];refine F4.write (by simp;omega) (by simp;omega) λv5 h5 F5 u5=>?_;rw[List.replicate_append_replicate] at F5;refine⟨⟨m+min m (n-m),by omega,by omega,(by trivial),(u'.trans (u4.mono λb hb=>.inl (by simp at hb;simp[hb]))).trans u5,F5⟩,?_⟩;rw[F5.mu,hr',aLc];omega
   ·have f1:((m:Int)<(n:Int))=False:=eq_false (by omega);simp only[f1,cE,reduceIte];refine F'.string (by simp;omega) λh4 F4 u4=>?_;have:m=n:=by omega
    subst this;exact hk _ (fin _ (u'.trans (u4.mono λb hb=>.inl (by simp at hb;simp[hb]))))
def aWI{s:S8}:dG PG (Instr.index eX (.agg #[wv s.a,wv s.b,wv s.c,wv s.d,wv s.e,wv s.f,wv s.g,wv s.h]) (.int .i64 0))=some (wv s.a):=by kernel_rfl
def aVN{s:S8}:dG PG (Instr.index eX (.agg #[wv s.a,wv s.b,wv s.c,wv s.d,wv s.e,wv s.f,wv s.g,wv s.h]) (.int .i64 1))=some (wv s.b):=by kernel_rfl
def aVI{s:S8}:dG PG (Instr.index eX (.agg #[wv s.a,wv s.b,wv s.c,wv s.d,wv s.e,wv s.f,wv s.g,wv s.h]) (.int .i64 2))=some (wv s.c):=by kernel_rfl
def aV6{s:S8}:dG PG (Instr.index eX (.agg #[wv s.a,wv s.b,wv s.c,wv s.d,wv s.e,wv s.f,wv s.g,wv s.h]) (.int .i64 3))=some (wv s.d):=by kernel_rfl
def aU9{s:S8}:dG PG (Instr.index eX (.agg #[wv s.a,wv s.b,wv s.c,wv s.d,wv s.e,wv s.f,wv s.g,wv s.h]) (.int .i64 4))=some (wv s.e):=by kernel_rfl
def aVH{s:S8}:dG PG (Instr.index eX (.agg #[wv s.a,wv s.b,wv s.c,wv s.d,wv s.e,wv s.f,wv s.g,wv s.h]) (.int .i64 5))=some (wv s.f):=by kernel_rfl
def aVl{s:S8}:dG PG (Instr.index eX (.agg #[wv s.a,wv s.b,wv s.c,wv s.d,wv s.e,wv s.f,wv s.g,wv s.h]) (.int .i64 6))=some (wv s.g):=by kernel_rfl
def aVZ{s:S8}:dG PG (Instr.index eX (.agg #[wv s.a,wv s.b,wv s.c,wv s.d,wv s.e,wv s.f,wv s.g,wv s.h]) (.int .i64 7))=some (wv s.h):=by kernel_rfl
def aYU{s:S8}{i:Nat}(hi:i<8):dG PG (Instr.index eX (.agg #[wv s.a,wv s.b,wv s.c,wv s.d,wv s.e,wv s.f,wv s.g,wv s.h]) (.int .i64 (i:Int)))=some (wv (s.l.getD i 0)):=by
 have:i=0∨i=1∨i=2∨i=3∨i=4∨i=5∨i=6∨i=7:=by omega
 rcases this with rfl|rfl|rfl|rfl|rfl|rfl|rfl|rfl
 ·exact aWI
 ·exact aVN
 ·exact aVI
 ·exact aV6
 ·exact aU9
 ·exact aVH
 ·exact aVl
 ·exact aVZ
def aPL(slot:Nat):List Value->PH->Nat:=λvs _=>match vs[slot]? with
 | some (Value.int _ v)=>(v+8).toNat
 | _=>0
def aYn(x:W):Value.int .u8 (IntKind.u8.wrap (x.toNat:Int))= .int .u8 ((UInt8.ofNat x.toNat).toNat:Int):=by
 rw[aJC,UInt8.toNat_ofNat'];congr 1
def aUP(x:W):dG PG (convert cL dQ (wv x))=some (.int .u8 ((UInt8.ofNat x.toNat).toNat:Int)):=by
 unfold wv;rw[aXW,aYn]
def aUM(x:W):(wb x).length=4:=rfl
def bAL(x:W){j:Nat}(hj:j<4):dG PG (binOp .shr cL (wv x) (.int .i64 (24-8*(j:Int))))=some (wv (x>>>(24-8*j))):=by
 have:=aJr (P:=PG) (t:=cL) (x:=x) (k:=.i64) (n:=24-8*j) (by omega);rw[←this];congr 3;omega
def aWu(x:W){j:Nat}(hj:j<4):(wb x).take (j+1)=(wb x).take j++[UInt8.ofNat (x>>>(24-8*j)).toNat]:=by
 have:j=0∨j=1∨j=2∨j=3:=by omega
 rcases this with rfl|rfl|rfl|rfl
 ·rfl
 ·rfl
 ·rfl
 ·show wb x=[_,_,_]++[UInt8.ofNat (x>>>0).toNat];rw[BitVec.ushiftRight_zero];rfl
def aRO(s:S8){i:Nat}(hi:i<8):(s.l.take (i+1)).flatMap wb=(s.l.take i).flatMap wb++wb (s.l.getD i 0):=by
 have:i=0∨i=1∨i=2∨i=3∨i=4∨i=5∨i=6∨i=7:=by omega
 rcases this with rfl|rfl|rfl|rfl|rfl|rfl|rfl|rfl<;>rfl
def aRu(s:S8){i:Nat}(hi:i≤8):((s.l.take i).flatMap wb).length≤32:=by
 have:i=0∨i=1∨i=2∨i=3∨i=4∨i=5∨i=6∨i=7∨i=8:=by omega
 rcases this with rfl|rfl|rfl|rfl|rfl|rfl|rfl|rfl|rfl<;>(simp[S8.l,wb])
def aUX{h:PH}{a:Nat}{s:S8}{x y:Value}(ha:h a=some (.cells (jY s x y) fH (0,0))){k:cD}(hk:∀h',dC h h'->k (.string (tx (aJE s))) h'):
  aT PG aD4 #[pT a 0] h k:=by
 apply wQ.call;unfold wQ;rw[zB];intro r hr
 try rw[cW]
 have u1:dC h (h.set r (.cells #[.pointer none,.slice none 0 0] dK)):=cT.new hr;have b1:BAt (h.set r (.cells #[.pointer none,.slice none 0 0] dK)) r [] [r]:=BAt.zero dJ;generalize h.set r (.cells #[.pointer none,.slice none 0 0] dK)=h1 at *;have ha1:=u1.get ha;have lA:=eX.loadAgg (o:=0) ha1 (by simp[jY]);have lE:(jY s x y).extract 0 (0+8)= #[wv s.a,wv s.b,wv s.c,wv s.d,wv s.e,wv s.f,wv s.g,wv s.h]:=rfl;rw[lE] at lA;simp only[iB.f0,lA,cE,reduceIte];refine⟨λvs h'=>∃(i:Nat) (F:List Nat),i≤8∧vs=[pT r 0,.agg #[wv s.a,wv s.b,wv s.c,wv s.d,wv s.e,wv s.f,wv s.g,wv s.h],.int .i64 (i:Int)]∧BAt h' r ((s.l.take i).flatMap wb) F∧eN h F∧dC h h',gV 8 2,⟨0,[r],by omega,rfl,b1,eN.one hr,u1⟩,?_⟩;rintro ρ h' ⟨i,F,hi,hvs,B,fF,u⟩;simp only[iJ,iZ,lP,and_true] at hvs;obtain⟨v3,v10,v11⟩:=hvs;simp only[v3,v10,v11,iJ,iZ];unfold aHX;by_cases hl:i<8
 ·have e1:((i:Int)<8)=True:=eq_true (by omega);simp only[e1,aYU hl,cE,reduceIte];refine⟨λvs h'=>∃(j:Nat) (F:List Nat),j≤4∧vs=[pT r 0,wv (s.l.getD i 0),.int .i64 (24-8*(j:Int)),.agg #[wv s.a,wv s.b,wv s.c,wv s.d,wv s.e,wv s.f,wv s.g,wv s.h],.int .i64 (i:Int)]∧BAt h' r ((s.l.take i).flatMap wb++(wb (s.l.getD i 0)).take j) F∧eN h F∧dC h h',aPL 2,⟨0,F,by omega,rfl,by simpa using B,fF,u⟩,?_⟩;rintro ρ2 h2 ⟨j,F2,hj,hvs,B2,fF2,u2⟩;simp only[iJ,iZ,lP,and_true] at hvs;obtain⟨w3,w5,w6,w10,w11⟩:=hvs;simp only[w3,w5,w6,w10,w11,iJ,iZ];unfold aGo;by_cases hj4:j<4
  ·have e2:((0:Int)≤24-8*(j:Int))=True:=eq_true (by omega);have e3:IntKind.i64.wrap (24-8*(j:Int)-8)=24-8*((j+1:Nat):Int):=by rw[fI (by omega) (by omega)];omega
   have hsh:=bAL (s.l.getD i 0) hj4;simp only[e2,hsh,aUP,cE,reduceIte];have hlen:((s.l.take i).flatMap wb++(wb (s.l.getD i 0)).take j).length+1≤140737488355328:=by
    have h1:=aRu s hi;have h2:((wb (s.l.getD i 0)).take j).length≤4:=by rw[nC,aUM];omega
    rw[jS];omega
   refine WriteByte_ok B2 hlen _ ?_;intro h3 F3 B3 u3 k3;simp only[e3,cE,reduceIte];refine⟨⟨j+1,F3,by omega,(by trivial),?_,fF2.grow u2 k3,u2.fresh u3 fF2⟩,?_⟩
   ·rw[aWu _ hj4,←nK];exact B3
   ·simp only[aPL,rZ,pU];omega
  ·have hj':j=4:=by omega
   subst hj';have e2:((0:Int)≤24-8*((4:Nat):Int))=False:=eq_false (by decide);have e3:=qQ (i:=i) (by omega);simp only[e2,e3,cE,reduceIte];refine⟨⟨i+1,F2,by omega,rfl,?_,fF2,u2⟩,?_⟩
   ·rw[aRO s hl];exact B2
   ·simp only[gV,rZ,pU];omega
 ·have hi':i=8:=by omega
  subst hi';simp only[show(((8:Nat):Int)<8)=False from eq_false (by decide),cE,reduceIte];refine String_ok B λh3 u3=>?_;exact hk _ (u.fresh u3 fF)
def aBP(x:Int):dG PG (convert bT cA (.int .i64 x))=some (.int .u64 (IntKind.u64.wrap x)):=by kernel_rfl
def aRF(x:Int):dG PG (convert cA dQ (.int .u64 x))=some (.int .u8 (IntKind.u8.wrap x)):=by kernel_rfl
def aWo{n:Nat}{j:Nat}(hj:j<8):dG PG (binOp .shr cA (.int .u64 (n:Int)) (.int .i64 (56-8*(j:Int))))=some (.int .u64 ((n/256^(8-1-j):Nat):Int)):=by
 rw[aJS (by omega)];congr 2;have e:min ((56-8*(j:Int)).toNat) (IntKind.u64.bits)=56-8*j:=by
  show min ((56-8*(j:Int)).toNat) 64=_;omega
 have e2:(256:Nat)^(8-1-j)=2^(56-8*j):=by
  have:j=0∨j=1∨j=2∨j=3∨j=4∨j=5∨j=6∨j=7:=by omega
  rcases this with rfl|rfl|rfl|rfl|rfl|rfl|rfl|rfl<;>decide
 rw[e,e2,Int.fdiv_eq_ediv_of_nonneg _ (Int.pow_nonneg (by decide)),Int.natCast_ediv,Int.natCast_pow];rfl
def aTn(m:Nat):Value.int .u8 (IntKind.u8.wrap (m:Int))= .int .u8 ((UInt8.ofNat (m%256)).toNat:Int):=by
 rw[aJC,UInt8.toNat_ofNat'];congr 1;omega
def aVm{s:S8}{x:ByteArray}{k:IntKind}{n:Int}:∀v∈(jY s (.string x) (.int k n)).toList,fX v=true:=by
 intro v hv;simp only[jY,gU,lH,or_false] at hv;rcases hv with rfl|rfl|rfl|rfl|rfl|rfl|rfl|rfl|rfl|rfl<;>rfl
def aTQ{h:PH}{a:Nat}{s:S8}{r:List UInt8}{n:Nat}(hK:oL h)(ha:HAt h a s r n)(hr:r.length<64)(hn:n≤100000000000){k:cD}
  (hk:∀h',dC h h'->k (.string (tx (aJE (qN s (r++aJk n)).1))) h'):aT PG aHP #[pT a 0] h k:=by
 apply aHM.call;unfold aHM;have lA:=fH.loadAgg (o:=0) ha (by simp[jY]);have lE:(jY s (.string (tx r)) (.int .i64 n)).extract 0 (0+10)=jY s (.string (tx r)) (.int .i64 n):=rfl;rw[lE] at lA;simp only[lA,cE,reduceIte];intro r3 hr3
 try rw[cW]
 have u1:dC h (h.set r3 (.cells (dS PG fH) fH)):=cT.new hr3;have a3:(h.set r3 (.cells (dS PG fH) fH)) r3=some (.cells (dS PG fH) fH (0,0)):=dJ;generalize h.set r3 (.cells (dS PG fH) fH)=h1 at *;refine rI a3 fH.info rfl (by simp[jY]) (by rw[fH.zc];rfl) aVm ?_;have u2:dC h (h1.set r3 (.cells (jY s (.string (tx r)) (.int .i64 n)) fH (0,0))):=u1.fresh (cT.set (F:=[r3]) (by simp)) (eN.one hr3);have a3':HAt (h1.set r3 (.cells (jY s (.string (tx r)) (.int .i64 n)) fH (0,0))) r3 s r n:=dJ;generalize h1.set r3 (.cells (jY s (.string (tx r)) (.int .i64 n)) fH (0,0))=h2 at *;rw[zB];intro r7 hr7
 try rw[cW]
 have u3:dC h2 (h2.set r7 (.cells #[.pointer none,.slice none 0 0] dK)):=cT.new hr7;have b7:BAt (h2.set r7 (.cells #[.pointer none,.slice none 0 0] dK)) r7 [] [r7]:=BAt.zero dJ;have n7:h r7=none:=u2.none hr7;generalize h2.set r7 (.cells #[.pointer none,.slice none 0 0] dK)=h3 at *;have a3'':HAt h3 r3 s r n:=u3.get a3';have u4:=u2.trans u3;have hF7:∀b∈[r7],b≠r3:=by
  intro b hb;simp at hb;subst hb;rintro rfl;rw[a3'] at hr7;cases hr7
 refine⟨λvs h'=>∃(j:Nat) (F:List Nat),j≤8∧vs=[pT a 0,pT r3 0,pT r7 0,.int .i64 (56-8*(j:Int))]∧BAt h' r7 ((be (n*8%18446744073709551616) 8).take j) F∧eN h F∧dC h h'∧(∀b∈F,b≠r3)∧HAt h' r3 s r n,aPL 3,⟨0,[r7],by omega,rfl,b7,eN.one n7,u4,hF7,a3''⟩,?_⟩;rintro ρ h' ⟨j,F,hj,hvs,B,fF,u,hF,ha'⟩;simp only[iJ,iZ,lP,and_true] at hvs;obtain⟨v0,v3,v4,v5⟩:=hvs;simp only[v0,v3,v4,v5,iJ,iZ];unfold aJU;have hAt:=u.get ha;have c9:dB h' ⟨a,0+9,none⟩=some (.int .i64 n):=by simp[dB,hAt,jY]
 have en:n*8%18446744073709551616=n*8:=aFZ (by omega);by_cases hl:j<8
 ·have e1:((0:Int)≤56-8*(j:Int))=True:=eq_true (by omega);have e2:IntKind.u64.wrap (n:Int)=(n:Int):=gL (by omega) (by omega);have e3:IntKind.u64.wrap ((n:Int)*8)=((n*8:Nat):Int):=by rw[gL (by omega) (by omega)];omega
  have e4:IntKind.i64.wrap (56-8*(j:Int)-8)=56-8*((j+1:Nat):Int):=by rw[fI (by omega) (by omega)];omega
  simp only[e1,fH.f2,bT.load,c9,aBP,e2,e3,aWo hl,aRF,aTn,cE,reduceIte];refine WriteByte_ok B (by rw[nC,jG];omega) _ ?_;intro h5 F5 B5 u5 k5;simp only[e4,cE,reduceIte];refine⟨⟨j+1,F5,by omega,(by trivial),?_,fF.grow u k5,u.fresh u5 fF,λb hb=>?_,u5.get ha' (λhm=>hF _ hm rfl)⟩,?_⟩
  ·rw[aJZ hl,en];rw[en] at B5;exact B5
  ·rcases k5 b hb with h1|h1
   ·exact hF b h1
   ·rintro rfl;unfold HAt at ha';rw[ha'] at h1;cases h1
  ·simp only[aPL,rZ,pU];omega
 ·have hj':j=8:=by omega
  subst hj';have e1:((0:Int)≤56-8*((8:Nat):Int))=False:=eq_false (by decide);have e2:((n:Int)).tmod 64=((n%64:Nat):Int):=by rw[Int.tmod_eq_emod_of_nonneg (by omega)];omega
  have e3:IntKind.i64.wrap (119-((n%64:Nat):Int))=((119-n%64:Nat):Int):=by rw[fI (by omega) (by omega)];omega
  have e4:(((119-n%64:Nat):Int)).tmod 64=(((119-n%64)%64:Nat):Int):=by rw[Int.tmod_eq_emod_of_nonneg (by omega)];omega
  have d1:∀(t:TypeId) (x:Int),dG PG (binOp .rem t (.int .i64 x) (.int .i64 64))=some (.int .i64 (x.tmod 64)):=λt x=>aIK (by decide);simp only[e1,fH.f2,bT.load,c9,d1,e2,e3,e4,cE,reduceIte];refine aTw (zLB _ (by decide)) λh5 u5=>?_;have ex:∀(t:TypeId),dG PG (binOp .add t (.string {data:=#[128]}) (.string (tx (List.replicate ((119-n%64)%64) 0))))=some (.string (tx ([128]++List.replicate ((119-n%64)%64) 0))):=λt=>mC (a:=[128]) (by simp;omega);simp only[ex,cE,reduceIte];have B5:=B.ext u5;refine String_ok B5 λh6 u6=>?_;have et:(be (n*8%18446744073709551616) 8).take 8=be (n*8%18446744073709551616) 8:=mX (Nat.le_of_eq (jG _ _));rw[et];have ey:∀(t:TypeId),dG PG (binOp .add t (.string (tx ([128]++List.replicate ((119-n%64)%64) 0))) (.string (tx (be (n*8%18446744073709551616) 8))))=some (.string (tx (aJk n))):=λt=>by
   rw[mC (by simp[jG];omega)];rfl
  simp only[ey,cE,reduceIte];have a6:HAt h6 r3 s r n:=u6.get (u5.get ha') (λhm=>hF _ hm rfl);have u7:dC h h6:=(u.trans u5).fresh u6 fF;have hpl:(aJk n).length≤80:=by
   simp only[aJk,rN,jS,aLc,jG];have:=zLB (119-n%64) (show 64>0 by decide);omega
  refine aRG (hK.ext u7) a6 (by omega) (by omega) λh8 u8 a8=>?_;simp only[fH.f0,cE,reduceIte];refine aUX a8 λh9 u9=>?_;exact hk _ ((u7.fresh u8 (eN.one hr3)).trans u9)
def jK(p:List UInt8):List Value:=[.string (tx p)]
def jK.rows(l:List (List UInt8)):Rows 1 (l.map jK):=λr hr=>by
 obtain⟨p,-,rfl⟩:=mG.1 hr;rfl
def aUN{h:PH}{k:cD}(hk:∀h' a,h a=none->dC h h'->HAt h' a S0 [] 0->k (pT a 0) h'):aT PG aLa #[] h k:=by
 apply aM1.call;unfold aM1;apply aJs.call;unfold aJs;intro r1 hr1
 try rw[cW]
 have zS:dS PG iB=(zs 8).toArray:=by rw[iB.zc];rfl
 rw[zS];have u1:dC h (h.set r1 (.cells (zs 8).toArray iB)):=cT.new hr1;have a1:(h.set r1 (.cells (zs 8).toArray iB)) r1=some (.cells (zs 8).toArray iB (0,0)):=dJ;generalize h.set r1 (.cells (zs 8).toArray iB)=h1 at *;have b1:dG PG (build eX #[(0,(Value.int IntKind.u32 1779033703)),(1,(Value.int IntKind.u32 3144134277)),(2,(Value.int IntKind.u32 1013904242)),(3,(Value.int IntKind.u32 2773480762)),(4,(Value.int IntKind.u32 1359893119)),(5,(Value.int IntKind.u32 2600822924)),(6,(Value.int IntKind.u32 528734635)),(7,(Value.int IntKind.u32 1541459225))])=some (.agg #[wv S0.a,wv S0.b,wv S0.c,wv S0.d,wv S0.e,wv S0.f,wv S0.g,wv S0.h]):=by kernel_rfl
 have b2:dG PG (build iB #[(0,.agg #[wv S0.a,wv S0.b,wv S0.c,wv S0.d,wv S0.e,wv S0.f,wv S0.g,wv S0.h])])=some (.agg #[wv S0.a,wv S0.b,wv S0.c,wv S0.d,wv S0.e,wv S0.f,wv S0.g,wv S0.h]):=by kernel_rfl
 have b3:dG PG (build fH #[(0,.agg #[wv S0.a,wv S0.b,wv S0.c,wv S0.d,wv S0.e,wv S0.f,wv S0.g,wv S0.h])])=some (.agg (jY S0 (.string (tx [])) (.int .i64 (0:Nat)))):=by kernel_rfl
 simp only[b1,b2,cE,reduceIte];refine rI a1 iB.info rfl (by simp) rfl (by simp[isw]) ?_;have u2:dC h (h1.set r1 (.cells #[wv S0.a,wv S0.b,wv S0.c,wv S0.d,wv S0.e,wv S0.f,wv S0.g,wv S0.h] iB (0,0))):=u1.fresh (cT.set (F:=[r1]) (by simp)) (eN.one hr1);have a2:(h1.set r1 (.cells #[wv S0.a,wv S0.b,wv S0.c,wv S0.d,wv S0.e,wv S0.f,wv S0.g,wv S0.h] iB (0,0))) r1=some (.cells #[wv S0.a,wv S0.b,wv S0.c,wv S0.d,wv S0.e,wv S0.f,wv S0.g,wv S0.h] iB (0,0)):=dJ;generalize h1.set r1 (.cells #[wv S0.a,wv S0.b,wv S0.c,wv S0.d,wv S0.e,wv S0.f,wv S0.g,wv S0.h] iB (0,0))=h2 at *;have lA:=iB.loadAgg (o:=0) a2 (by simp);have lE:(#[wv S0.a,wv S0.b,wv S0.c,wv S0.d,wv S0.e,wv S0.f,wv S0.g,wv S0.h]:Array Value).extract 0 (0+8)= #[wv S0.a,wv S0.b,wv S0.c,wv S0.d,wv S0.e,wv S0.f,wv S0.g,wv S0.h]:=rfl;rw[lE] at lA;simp only[lA,b3,cE,reduceIte];intro a ha
 try rw[cW]
 exact hk _ a (u2.none ha) (u2.trans (cT.new ha)) dJ
def aOe{h:PH}{v:Value}{jE:List (List UInt8)}(hK:oL h)(hs:gB h 1 v (jE.map jK))(hl:jE.flatten.length≤100000000){k:cD}(hk:∀h',dC h h'->k (.string (tx (sL jE.flatten))) h'):
  aT PG aE3 #[v] h k:=by
 apply aMs.call;unfold aMs;refine aUN λh1 a hna u1 ha=>?_;have hs1:=hs.ext u1;have lv:=hs1.len (t':=bT) cP.und;rw[jB] at lv;simp only[lv,cE,reduceIte];have hsm:=hs.small;rw[jB] at hsm;unfold rF at hsm;refine⟨λvs h'=>∃i,i≤jE.length∧vs=[pT a 0,v,.int .i64 jE.length,.int .i64 (i:Int)]∧dC h h'∧HAt h' a (qN S0 (jE.take i).flatten).1 (qN S0 (jE.take i).flatten).2 (jE.take i).flatten.length,gV jE.length 3,⟨0,by omega,rfl,u1,by simpa[aH9 (s:=S0) (l:=[]) (by simp)] using ha⟩,?_⟩;rintro ρ h' ⟨i,hi,hvs,u,ha'⟩;simp only[iJ,iZ,lP,and_true] at hvs;obtain⟨v3,v7,v8,v9⟩:=hvs;simp only[v3,v7,v8,v9,iJ,iZ];unfold aN3;have hfl:(jE.take i).flatten.length≤jE.flatten.length:=by
  have:jE.flatten=(jE.take i).flatten++(jE.drop i).flatten:=by rw[←zLG,aML]
  rw[this,jS];omega
 by_cases hlt:i<jE.length
 ·have e1:((i:Int)<(jE.length:Int))=True:=eq_true (by omega);have e2:=qQ (i:=i) (by omega);have hr:(jE.map jK)[(i:Int).toNat]? =some (jK jE[i]):=by rw[qP,wK,lU hlt];rfl
  obtain⟨pa,hpa,hload⟩:=(hs.ext u).loadCell (t:=cP) (k:=.i64) (j:=(i:Int)) cP.und bR.info bR.size bR.und rfl (by omega) hr;have ht:(jE.take (i+1)).flatten=(jE.take i).flatten++jE[i]:=by
   rw[aTN hlt,zLG];simp
  have hfl2:(jE.take (i+1)).flatten.length≤jE.flatten.length:=by
   have:jE.flatten=(jE.take (i+1)).flatten++(jE.drop (i+1)).flatten:=by rw[←zLG,aML]
   rw[this,jS];omega
  rw[ht,jS] at hfl2;have hrest:=aKT S0 (jE.take i).flatten;simp only[e1,hpa,hload,cE,reduceIte];refine aRG (hK.ext u) ha' (by omega) (by omega) λh2 u2 ha2=>?_;simp only[e2,cE,reduceIte];refine⟨⟨i+1,by omega,rfl,u.fresh u2 (eN.one hna),?_⟩,?_⟩
  ·rw[ht,aK9,jS];exact ha2
  ·simp only[gV,rZ,pU];omega
 ·have e1:((i:Int)<(jE.length:Int))=False:=eq_false (by omega);have hi':i=jE.length:=by omega
  simp only[e1,cE,reduceIte];refine aTQ (hK.ext u) ha' (aKT _ _) (by omega) λh2 u2=>?_;have:=hk h2 (u.trans u2);unfold sL at this;rw[aK9] at this;rw[hi',zLJ];exact this
structure Pr where
 (k v:Tx)
deriving DecidableEq
def Pr.cells(p:Pr):List Value:=[.string (tx p.k),.string (tx p.v)]
def Pr.val(p:Pr):Value:=.agg #[.string (tx p.k),.string (tx p.v)]
def Pr.rows(l:List Pr):Rows 2 (l.map Pr.cells):=λr hr=>by
 obtain⟨p,-,rfl⟩:=mG.1 hr;rfl
def Pr.isCell(l:List Pr):∀r∈l.map Pr.cells,∀u∈r,fX u=true:=λr hr u hu=>by
 obtain⟨p,-,rfl⟩:=mG.1 hr;simp only[Pr.cells,gU,lH,or_false] at hu;rcases hu with rfl|rfl<;>rfl
def aJh:∀(x y:List UInt8),Op.bytesLess x y=decide (x<y)
 | [],[]=>by simp[Op.bytesLess]
 | _::_,[]=>by simp[Op.bytesLess]
 | [],_::_=>by simp[Op.bytesLess]
 | a::x,b::y=>by
  rw[Op.bytesLess,aJh x y];simp only[List.cons_lt_cons_iff];by_cases h1:a<b<;>by_cases h2:a=b<;>by_cases h3:x<y<;>simp[h1,h2,h3]
def aCy(l:Tx):(tx l).toList=l:=by rw[ByteArray.toList_eq];simp[tx]
def aHc(a b:Tx):a<b∨a=b∨b<a:=by
 by_cases h1:a<b
 ·exact .inl h1
 ·by_cases h2:b<a
  ·exact .inr (.inr h2)
  ·exact .inr (.inl (List.le_antisymm h2 h1))
section
variable{P:Program}{t:TypeId}{a b:Tx}{h:PH}
def yE:dG P (binOp .lss t (.string (tx a)) (.string (tx b)))=some (.bool (decide (a<b))):=by
 have e:dG P (binOp .lss t (.string (tx a)) (.string (tx b)))=some (.bool (Op.bytesLess (tx a).toList (tx b).toList)):=rfl;rw[e,aCy,aCy,aJh]
def aOU:dG P (binOp .gtr t (.string (tx a)) (.string (tx b)))=some (.bool (decide (b<a))):=by
 have e:dG P (binOp .gtr t (.string (tx a)) (.string (tx b)))=some (.bool (!(Op.bytesLess (tx a).toList (tx b).toList||(tx a).toList==(tx b).toList))):=rfl;rw[e,aCy,aCy,aJh];congr 2;rcases aHc a b with h|h|h
 ·have h2:¬b<a:=List.lt_asymm h;simp[h,h2]
 ·subst h;simp[zL1]
 ·have h2:¬a<b:=List.lt_asymm h;have h3:a≠b:=by rintro rfl;exact zL1 _ h
  simp[h,h2,h3]
end
def aVk(x:Int):dG PG (convert bT dQ (.int .i64 x))=some (.int .u8 (IntKind.u8.wrap x)):=by kernel_rfl
def aPH{h:PH}{n:Nat}{k:cD}(hk:∀h',dC h h'->k (.string (tx [UInt8.ofNat (n%256)])) h'):aT PG aDl #[.int .i64 n] h k:=by
 apply aIs.call;unfold aIs;simp only[aVk,aTn,byte_lit,cE,reduceIte];intro r hr;refine fT ?_
 try rw[cW]
 have u:dC h (h.set r (.cells #[.int .u8 ((UInt8.ofNat (n%256)).toNat:Int)] dQ)):=cT.new hr;have s:gB (h.set r (.cells #[.int .u8 ((UInt8.ofNat (n%256)).toNat:Int)] dQ)) 1 (.slice (some ⟨r,0,none⟩) 1 1) ([UInt8.ofNat (n%256)].map jQ):=(eO.lit (jQ.rows [UInt8.ofNat (n%256)]) dJ (by simp) (by decide) (by simp[jQ])).slR;have hcv:cH PG _ (convert dE bR (.slice (some ⟨r,0,none⟩) 1 1))=some (.string (tx [UInt8.ofNat (n%256)])):=aFI dE.und dQ.und bR.und s;rw[hcv,aGY];exact hk _ u
def aWe(a b c:ByteArray):jZ PG (buildSlice cP 3 #[(0,.string a),(1,.string b),(2,.string c)])=some (.cells #[.string a,.string b,.string c] bR,λr=>pure (.slice (some ⟨r,0,none⟩) 3 3)):=by kernel_rfl
def aZi(a b c d e:ByteArray):jZ PG (buildSlice cP 5 #[(0,.string a),(1,.string b),(2,.string c),(3,.string d),(4,.string e)])=some (.cells #[.string a,.string b,.string c,.string d,.string e] bR,λr=>pure (.slice (some ⟨r,0,none⟩) 5 5)):=by kernel_rfl
def aAn(l r:Tx):Tx:=sL (1::(l++r))
def aGD(p:Pr):Tx:=sL (0::UInt8.ofNat (p.k.length%256)::(p.k++UInt8.ofNat (p.v.length%256)::p.v))
def aKe{h:PH}{l r:Tx}(hK:oL h)(hl:l.length+r.length≤10000000){k:cD}(hk:∀h',dC h h'->k (.string (tx (aAn l r))) h'):aT PG aCo #[.string (tx l),.string (tx r)] h k:=by
 apply aHx.call;unfold aHx;simp only[aWe,cE,reduceIte];intro b hb;refine fT ?_
 try rw[cW]
 have u:dC h (h.set b (.cells #[.string ⟨#[1]⟩,.string (tx l),.string (tx r)] bR)):=cT.new hb;have s:gB (h.set b (.cells #[.string ⟨#[1]⟩,.string (tx l),.string (tx r)] bR)) 1 (.slice (some ⟨b,0,none⟩) 3 3) ([[1],l,r].map jK):=(eO.lit (jK.rows [[1],l,r]) dJ (by simp) (by decide) rfl).slR;refine aOe (hK.ext u) s (by simp;omega) λh' u'=>?_;have e:aAn l r=sL [[1],l,r].flatten:=by simp[aAn]
 rw[e] at hk;exact hk _ (u.trans u')
def aMw(p:Pr):Value.cells p.val= #[.string (tx p.k),.string (tx p.v)]:=rfl
def aSA{h:PH}{p:Pr}(hK:oL h)(hl:p.k.length+p.v.length≤10000000){k:cD}(hk:∀h',dC h h'->k (.string (tx (aGD p))) h'):aT PG aFO #[p.val] h k:=by
 apply aDw.call;unfold aDw;rw[aMw];intro r hr
 try rw[cW]
 have u1:dC h (h.set r (.cells #[.string (tx p.k),.string (tx p.v)] cM)):=cT.new hr;have a1:(h.set r (.cells #[.string (tx p.k),.string (tx p.v)] cM)) r=some (.cells #[.string (tx p.k),.string (tx p.v)] cM (0,0)):=dJ;generalize h.set r (.cells #[.string (tx p.k),.string (tx p.v)] cM)=h1 at *;have c0:dB h1 ⟨r,0,none⟩=some (.string (tx p.k)):=by simp[dB,a1]
 have c1:dB h1 ⟨r,0+1,none⟩=some (.string (tx p.v)):=by simp[dB,a1]
 simp only[cM.f0,cM.f1,bR.load,c0,c1,bR.len,iF,cE,reduceIte];refine aPH λh2 u2=>?_;have a2:=u2.get a1;have c0':dB h2 ⟨r,0,none⟩=some (.string (tx p.k)):=by simp[dB,a2]
 have c1':dB h2 ⟨r,0+1,none⟩=some (.string (tx p.v)):=by simp[dB,a2]
 simp only[bR.load,c0',c1',true_and];refine aPH λh3 u3=>?_;have a3:=u3.get a2;have c0'':dB h3 ⟨r,0,none⟩=some (.string (tx p.k)):=by simp[dB,a3]
 have c1'':dB h3 ⟨r,0+1,none⟩=some (.string (tx p.v)):=by simp[dB,a3]
 simp only[bR.load,c0'',c1'',true_and,aZi,cE,reduceIte];intro b hb;refine fT ?_
 try rw[cW]
 have u4:dC h3 (h3.set b (.cells #[.string ⟨#[0]⟩,.string (tx [UInt8.ofNat (p.k.length%256)]),.string (tx p.k),.string (tx [UInt8.ofNat (p.v.length%256)]),.string (tx p.v)] bR)):=cT.new hb;have s:gB (h3.set b (.cells #[.string ⟨#[0]⟩,.string (tx [UInt8.ofNat (p.k.length%256)]),.string (tx p.k),.string (tx [UInt8.ofNat (p.v.length%256)]),.string (tx p.v)] bR)) 1 (.slice (some ⟨b,0,none⟩) 5 5) ([[0],[UInt8.ofNat (p.k.length%256)],p.k,[UInt8.ofNat (p.v.length%256)],p.v].map jK):=(eO.lit (n:=5) (jK.rows [[0],[UInt8.ofNat (p.k.length%256)],p.k,[UInt8.ofNat (p.v.length%256)],p.v]) dJ (by simp) (by decide) rfl).slR;have u:=((u1.trans u2).trans u3).trans u4;refine aOe (hK.ext u) s (by simp;omega) λh' u'=>?_;have e:aGD p=sL [[0],[UInt8.ofNat (p.k.length%256)],p.k,[UInt8.ofNat (p.v.length%256)],p.v].flatten:=by simp[aGD]
 rw[e] at hk;exact hk _ (u.trans u')
def aDa(x:Nat):Nat:=if x=0 then 0 else Nat.log2 x+1
def aYu:(List.range 256).all (λx=>aPA[x]? == some (UInt8.ofNat (aDa x)))=true:=by kernel_rfl
def aXL{x:Nat}(hx:x<256):aPA[x]? =some (UInt8.ofNat (aDa x)):=by
 have:=aEw.1 aYu x (aLZ.2 hx);simpa using this
def aXr{x:Nat}(hx:x<256):aDa x<256:=by
 unfold aDa;split
 ·decide
 ·have:=Nat.log2_lt (n:=x) (k:=8) (by omega);have:=this.2 (by simpa using hx);omega
def aS3{x:Nat}(h1:256≤x):aDa x=aDa (x/256)+8:=by
 have h2:x/256≠0:=by omega
 unfold aDa;rw[if_neg (by omega),if_neg h2];have:Nat.log2 x=Nat.log2 (x/256)+8:=by
  rw[Nat.log2_eq_iff (by omega)];have a:=(Nat.log2_eq_iff (n:=x/256) (k:=Nat.log2 (x/256)) h2).1 rfl;rw[Nat.pow_add,Nat.pow_add,Nat.pow_add];rw[Nat.pow_add] at a;omega
 omega
def aVQ(x:Int):dG PG (convert dQ bT (.int .u8 x))=some (.int .i64 (IntKind.i64.wrap x)):=by kernel_rfl
def aUJ{h:PH}{x n:Nat}(hx:x<256)(hn:n≤64){k:cD}(hk:k (.int .i64 ((n+aDa x:Nat):Int)) h):aAj k (.int .u64 (x:Int)) (.int .i64 (n:Int)) h:=by
 unfold aAj;have e0:(⟨aPA⟩:ByteArray)=tx aPA.toList:=by simp[tx]
 have e1:IntKind.u8.wrap (x:Int)=x:=by rw[aJC];omega
 have hl:=aXr hx;have e2:dG PG (Instr.index bR (.string ⟨aPA⟩) (.int .u8 (x:Int)))=some (.int .u8 ((UInt8.ofNat (aDa x)).toNat:Int)):=by
  rw[e0];exact aAi bR.und (by rw[aLY];exact aXL hx)
 have e3:((UInt8.ofNat (aDa x)).toNat:Int)=((aDa x:Nat):Int):=by rw[UInt8.toNat_ofNat'];congr 1;exact aFZ hl
 have e4:IntKind.i64.wrap ((aDa x:Nat):Int)=((aDa x:Nat):Int):=fI (by omega) (by omega);have e5:IntKind.i64.wrap ((n:Int)+((aDa x:Nat):Int))=((n+aDa x:Nat):Int):=by rw[fI (by omega) (by omega)];omega
 simp only[aRF,e1,e2,e3,aVQ,e4,e5,cE,reduceIte];exact hk
def bAF{n:Nat}:dG PG (binOp .shr cA (.int .u64 (n:Int)) (.int .u64 8))=some (.int .u64 ((n/256:Nat):Int)):=by
 rw[aJS (by decide)];congr 2;show(n:Int).fdiv (2^8)=_;rw[Int.fdiv_eq_ediv_of_nonneg _ (by decide)];have:(2:Int)^8=256:=by rfl
 omega
def aSy{h:PH}{x:Nat}(hx:x<65536){k:cD}(hk:k (.int .i64 ((aDa x:Nat):Int)) h):aT PG aGK #[.int .u64 (x:Int)] h k:=by
 apply aF6.call;unfold aF6;simp only[cE,reduceIte];apply aEG.call;unfold aEG;have e1:((4294967296:Int)≤(x:Int))=False:=eq_false (by omega);have e2:((65536:Int)≤(x:Int))=False:=eq_false (by omega);simp only[e1,cE,reduceIte];unfold aEp;simp only[e2,cE,reduceIte];unfold aE0;by_cases h8:256≤x
 ·have e3:((256:Int)≤(x:Int))=True:=eq_true (by omega);have e4:IntKind.i64.wrap ((0:Int)+8)=((8:Nat):Int):=rfl;simp only[e3,bAF,e4,cE,reduceIte];refine aUJ (by omega) (by decide) ?_;rw[aS3 h8,Nat.add_comm] at hk;exact hk
 ·have e3:((256:Int)≤(x:Int))=False:=eq_false (by omega);simp only[e3,cE,reduceIte];refine aUJ (n:=0) (by omega) (by decide) ?_;rw[fO];exact hk
def eJ(n:Nat):Nat:=2^Nat.log2 (n-1)
def mF{n:Nat}(h:2≤n):1≤eJ n∧eJ n<n:=by
 unfold eJ;have:=(Nat.log2_eq_iff (n:=n-1) (k:=Nat.log2 (n-1)) (by omega)).1 rfl;have h2:0<2^Nat.log2 (n-1):=Nat.pow_pos (by decide);omega
def aPJ{h:PH}{n:Nat}(h2:2≤n)(hn:n≤65536){k:cD}(hk:k (.int .i64 ((eJ n:Nat):Int)) h):aT PG aCl #[.int .i64 (n:Int)] h k:=by
 apply aH1.call;unfold aH1;have e1:IntKind.i64.wrap ((n:Int)-1)=((n-1:Nat):Int):=by rw[fI (by omega) (by omega)];omega
 have e2:IntKind.u64.wrap ((n-1:Nat):Int)=((n-1:Nat):Int):=gL (by omega) (by omega);simp only[e1,aKN,e2,cE,reduceIte];refine aSy (by omega) ?_;have hlt:=mF h2;have hlen:aDa (n-1)=Nat.log2 (n-1)+1:=by unfold aDa;rw[if_neg (by omega)]
 have hlog:Nat.log2 (n-1)<16:=(Nat.log2_lt (by omega)).2 (by omega);have e3:IntKind.i64.wrap (((aDa (n-1):Nat):Int)-1)=((Nat.log2 (n-1):Nat):Int):=by rw[fI (by omega) (by omega)];omega
 have e4:∀t,dG PG (binOp .shl t (.int .i64 1) (.int .i64 ((Nat.log2 (n-1):Nat):Int)))=some (.int .i64 ((eJ n:Nat):Int)):=λt=>by
  rw[aQI (by omega)];have em:min (((Nat.log2 (n-1):Nat):Int).toNat) (IntKind.i64.bits)=Nat.log2 (n-1):=by
   show min _ 64=_;omega
  have ep:(1:Int)*2^Nat.log2 (n-1)=((eJ n:Nat):Int):=by
   unfold eJ;rw[Int.one_mul,Int.natCast_pow];rfl
  rw[em,ep,fI (by omega) (by omega)]
 simp only[e3,e4,cE,reduceIte];exact hk
def pX(l:List Pr):Tx:=if h:2≤l.length then aAn (pX (l.take (eJ l.length))) (pX (l.drop (eJ l.length))) else aGD (l.headD ⟨[],[]⟩)
termination_by l.length
decreasing_by
 ·have:=mF h;simp;omega
 ·have:=mF h;simp;omega
def aBx(l:List Pr):(pX l).length=32:=by
 rw[pX];split<;>rfl
def aAc(l:List Pr):Prop:=∀p∈l,p.k.length+p.v.length≤1000000
def gB.pair{h:PH}{v:Value}{l:List Pr}(S:gB h 2 v (l.map Pr.cells)){j:Nat}{p:Pr}(hp:l[j]? =some p):
  ∃b o,dG PG (indexAt cJ v (.int .i64 (j:Int)))=some (pT b o)∧dB h ⟨b,o,none⟩=some (.string (tx p.k))∧dB h ⟨b,o+1,none⟩=some (.string (tx p.v))∧cH PG h (loadAt cM (pT b o))=some p.val:=by
 obtain⟨b,o,h1,h2,h3⟩:=S.fields cJ.und cM.info cM.size (k:=.i64) (j:=j) (r:=p.cells) (by rw[wK,hp];rfl);exact⟨b,o,h1,h2 0 _ rfl,h2 1 _ rfl,h3 _ cM.und rfl⟩
def gB.cutP{h:PH}{v:Value}{l:List Pr}(S:gB h 2 v (l.map Pr.cells)){lo hi:Option Value}{a m:Nat}(hlo:lo=none∧a=0∨∃k,lo=some (.int k a))(hhi:hi=none∧m=l.length∨∃k,hi=some (.int k m))(h1:a≤m)(h2:m≤l.length):
  ∃v',dG PG (Instr.sliceAt cJ v lo hi none)=some v'∧gB h 2 v' (((l.take m).drop a).map Pr.cells):=by
 obtain⟨v',e,s,-⟩:=S.cut cJ.und cM.info cM.size hlo (by simpa using hhi) h1 (by simpa using h2);refine⟨v',e,?_⟩;rw[aMI,aKU];exact s
def aKt:∀(n:Nat) {h:PH} {v:Value} {l:List Pr},l.length≤n->l≠[]->l.length≤65536->oL h->gB h 2 v (l.map Pr.cells)->aAc l->∀{k:cD},(∀h',dC h h'->k (.string (tx (pX l))) h')->aT PG qM #[v] h k
 | 0,_,_,l,h0,hne,_,_,_,_,_,_=>by
  have:l=[]:=zLO (by omega);exact absurd this hne
 | n+1,h,v,l,hn,hne,hl,hK,S,hs,k,hk=>by
  apply aBI.call;unfold aBI;have lv:=S.len (t':=bT) cJ.und;rw[jB] at lv;have hpos:0<l.length:=aHd.2 hne;by_cases h1:l.length=1
  ·have e1:((l.length:Int)==1)=true:=by simp[h1]
   obtain⟨p,hp⟩:=List.length_eq_one_iff.1 h1;obtain⟨b,o,e2,-,-,e3⟩:=S.pair (j:=0) (p:=p) (by rw[hp];rfl);rw[show((0:Nat):Int)=0 from rfl] at e2;simp only[lv,e1,e2,e3,cE,reduceIte];have hd:pX l=aGD p:=by
    rw[pX,dif_neg (by omega),hp];rfl
   rw[hd] at hk;refine aSA hK (by have:=hs p (by rw[hp];simp);omega) λh' u=>hk h' u
  ·have e1:((l.length:Int)==1)=false:=by simp;omega
   have h2:2≤l.length:=by omega
   simp only[lv,e1,cE,reduceIte];refine aPJ h2 hl ?_;have hlt:=mF h2;obtain⟨v1,s1,t1⟩:=S.cutP (lo:=none) (hi:=some (.int .i64 ((eJ l.length:Nat):Int))) (a:=0) (m:=eJ l.length) (.inl ⟨rfl,rfl⟩) (.inr ⟨_,rfl⟩) (by omega) (by omega);obtain⟨v2,s2,t2⟩:=S.cutP (lo:=some (.int .i64 ((eJ l.length:Nat):Int))) (hi:=none) (a:=eJ l.length) (m:=l.length) (.inr ⟨_,rfl⟩) (.inl ⟨rfl,rfl⟩) (by omega) (by omega);rw[zLb] at t1;rw[zLJ] at t2;simp only[s1,s2,cE,reduceIte];have hd:pX l=aAn (pX (l.take (eJ l.length))) (pX (l.drop (eJ l.length))):=by
    rw[pX,dif_pos h2]
   rw[hd] at hk;refine aKt n (by simp;omega) (aKL (by first|(rw[nC];omega)|(rw[pB];omega))) (by simp;omega) hK t1 (λp hp=>hs p (aLU hp)) λh1 u1=>?_;refine aKt n (by simp;omega) (aKL (by first|(rw[nC];omega)|(rw[pB];omega))) (by simp;omega) (hK.ext u1) (t2.ext u1) (λp hp=>hs p (aNf hp)) λh2 u2=>?_;refine aKe (hK.ext (u1.trans u2)) (by rw[aBx,aBx];decide) λh3 u3=>?_;exact hk _ ((u1.trans u2).trans u3)
def aKv{h:PH}{v:Value}{l:List Pr}(hne:l≠[])(hl:l.length≤65536)(hK:oL h)(S:gB h 2 v (l.map Pr.cells))(hs:aAc l){k:cD}(hk:∀h',dC h h'->k (.string (tx (pX l))) h'):aT PG qM #[v] h k:=
 aKt l.length (pF _) hne hl hK S hs hk
def aSg(x:Int):dG PG (convert cA bT (.int .u64 x))=some (.int .i64 (IntKind.i64.wrap x)):=by kernel_rfl
def aYQ{t:TypeId}{m:Nat}(hm:m<18446744073709551616):dG PG (binOp .and t (.int .u64 (m:Int)) (.int .u64 255))=some (.int .u64 ((m%256:Nat):Int)):=by
 have e:dG PG (binOp .and t (.int .u64 (m:Int)) (.int .u64 255))=some (.int .u64 (IntKind.u64.wrap ((BitVec.ofInt 64 (m:Int) &&& BitVec.ofInt 64 255).toNat:Int))):=rfl;have e2:(BitVec.ofInt 64 (m:Int) &&& BitVec.ofInt 64 255).toNat=m%256:=by
  have h1:BitVec.ofInt 64 (m:Int)=BitVec.ofNat 64 m:=BitVec.ofInt_natCast ..;have h2:BitVec.ofInt 64 255=BitVec.ofNat 64 255:=by decide
  rw[h1,h2,BitVec.toNat_and,BitVec.toNat_ofNat,BitVec.toNat_ofNat,aFZ (show m<2^64 from hm)];exact Nat.and_two_pow_sub_one_eq_mod m 8
 rw[e,e2,gL (by omega) (by omega)]
def aJP(n:Nat)(d:Tx):Tx:=sL (2::(be n 8++d))
def aQQ{h:PH}{n:Nat}{d:Tx}(hK:oL h)(hn:n≤1000000)(hd:d.length≤1000000){k:cD}(hk:∀h',dC h h'->k (.string (tx (aJP n d))) h'):aT PG aDj #[.int .i64 (n:Int),.string (tx d)] h k:=by
 apply aI2.call;unfold aI2;have e1:(if (0:Int)<(n:Int) then(n:Int) else 0)=(n:Int):=by split<;>omega
 have e2:IntKind.u64.wrap (n:Int)=n:=gL (by omega) (by omega);simp only[aKk,e1,aBP,e2,cE,reduceIte];refine⟨λvs h'=>∃i,i≤8∧vs=[.string (tx d),.int .u64 (n:Int),.string (tx ((be n 8).take i)),.int .i64 (i:Int)]∧dC h h',gV 8 3,⟨0,by omega,rfl,cT.refl⟩,?_⟩;rintro ρ h' ⟨i,hi,hvs,u⟩;simp only[iJ,iZ,lP,and_true] at hvs;obtain⟨v1,v5,v6,v11⟩:=hvs;simp only[v1,v5,v6,v11,iJ,iZ];unfold aLu;by_cases hl:i<8
 ·have f1:((i:Int)<8)=True:=eq_true (by omega);have f2:IntKind.i64.wrap (8*(i:Int))=8*(i:Int):=fI (by omega) (by omega);have f3:IntKind.i64.wrap (56-8*(i:Int))=56-8*(i:Int):=fI (by omega) (by omega);have hle:n/256^(8-1-i)≤n:=Nat.div_le_self _ _;have f4:IntKind.i64.wrap ((n/256^(8-1-i)%256:Nat):Int)=((n/256^(8-1-i)%256:Nat):Int):=fI (by omega) (by omega);have f5:=qQ (i:=i) (by omega);simp only[f1,f2,f3,aWo hl,aYQ (show n/256^(8-1-i)<18446744073709551616 by omega),aSg,f4,cE,reduceIte];refine aPH λh2 u2=>?_;rw[Nat.mod_mod];have f6:∀t,dG PG (binOp .add t (.string (tx ((be n 8).take i))) (.string (tx [UInt8.ofNat (n/256^(8-1-i)%256)])))=some (.string (tx ((be n 8).take (i+1)))):=λt=>by
   rw[mC (by rw[nC,jG];simp;omega),aJZ hl]
  simp only[f6,f5,cE,reduceIte];refine⟨⟨i+1,by omega,rfl,u.trans u2⟩,?_⟩;simp only[gV,rZ,pU];omega
 ·have f1:((i:Int)<8)=False:=eq_false (by omega);have hi':i=8:=by omega
  subst hi';rw[mX (Nat.le_of_eq (jG _ _))];simp only[f1,aWe,cE,reduceIte];intro b hb;refine fT ?_
  try rw[cW]
  have u1:dC h' (h'.set b (.cells #[.string ⟨#[2]⟩,.string (tx (be n 8)),.string (tx d)] bR)):=cT.new hb;have s:gB (h'.set b (.cells #[.string ⟨#[2]⟩,.string (tx (be n 8)),.string (tx d)] bR)) 1 (.slice (some ⟨b,0,none⟩) 3 3) ([[2],be n 8,d].map jK):=(eO.lit (n:=3) (jK.rows [[2],be n 8,d]) dJ (by simp) (by decide) rfl).slR;refine aOe (hK.ext (u.trans u1)) s (by simp[jG];omega) λh3 u3=>?_;have e:aJP n d=sL [[2],be n 8,d].flatten:=by simp[aJP]
  rw[e] at hk;exact hk _ ((u.trans u1).trans u3)
def oC(l:List Pr):Tx:=aJP l.length (if l=[] then [] else pX l)
def aNW{h:PH}{v:Value}{l:List Pr}(hl:l.length≤65536)(hK:oL h)(S:gB h 2 v (l.map Pr.cells))(hs:aAc l){k:cD}(hk:∀h',dC h h'->k (.string (tx (oC l))) h'):aT PG aCj #[v] h k:=by
 apply aHv.call;unfold aHv;have lv:=S.len (t':=bT) cJ.und;rw[jB] at lv;by_cases h0:l=[]
 ·subst h0;simp only[lv,zLN,show(((0:Nat):Int)==0)=true from rfl,cE,reduceIte];refine aQQ (n:=0) (d:=[]) hK (by decide) (by decide) λh' u=>?_;exact hk _ u
 ·have e0:((l.length:Int)==0)=false:=by simpa using h0
  simp only[lv,e0,cE,reduceIte];refine aKv h0 hl hK S hs λh1 u1=>?_;refine aQQ (hK.ext u1) (by omega) (by rw[aBx];decide) λh2 u2=>?_;have:=hk h2 (u1.trans u2);unfold oC at this;rw[if_neg h0] at this;exact this
def aPI(p:Pr):Prop:=1≤p.k.length∧p.k.length≤16∧p.v.length≤64
end
section
open Go
def oN(l:List Pr)(k:Nat):List Tx:=
 if h:2≤l.length then
  if k<eJ l.length then oN (l.take (eJ l.length)) k++[pX (l.drop (eJ l.length))]
  else oN (l.drop (eJ l.length)) (k-eJ l.length)++[pX (l.take (eJ l.length))]
 else []
termination_by l.length
decreasing_by
 ·have:=mF h;simp;omega
 ·have:=mF h;simp;omega
def upP(p:Pr)(i n:Nat)(path:List Tx):Option (Tx×List Tx):=
 if h:2≤n then
  match path.getLast? with
  | none=>none
  | some b=>if b.length≠32 then none else
   if i<eJ n then(upP p i (eJ n) path.dropLast).map λx=>(aAn x.1 b,x.2)
   else(upP p (i-eJ n) (n-eJ n) path.dropLast).map λx=>(aAn b x.1,x.2)
 else some (aGD p,path)
termination_by n
decreasing_by
 ·have:=mF h;omega
 ·have:=mF h;omega
structure Lf where
 i:Int
 n:Int
 p:Pr
 path:List Tx
 deriving DecidableEq
def aYe(n:Nat):Option (Tx×List Tx)->Option Tx
 | some (d,[])=>some (aJP n d)
 | _=>none
def qH(f:Lf):Option Tx:=
 if f.n<1∨4096<f.n∨f.i<0∨f.n≤f.i then none else aYe f.n.toNat (upP f.p f.i.toNat f.n.toNat f.path)
def aT5:∀(n:Nat) (l:List Pr) (k:Nat),l.length=n->∀d∈oN l k,d.length=32:=by
 intro n;induction n using Nat.strongRecOn with
 | ind n ih=>
  intro l k hn d hd;by_cases h2:2≤l.length
  ·obtain⟨m1,m2⟩:=mF h2;rw[oN,dif_pos h2] at hd;split at hd
   ·rcases kA.1 hd with hd|hd
    ·exact ih (eJ l.length) (by omega) _ k (by rw[nC];omega) d hd
    ·simp only[gE] at hd;rw[hd];exact aBx _
   ·rcases kA.1 hd with hd|hd
    ·exact ih (l.length-eJ l.length) (by omega) _ _ (by rw[pB]) d hd
    ·simp only[gE] at hd;rw[hd];exact aBx _
  ·rw[oN,dif_neg h2] at hd;simp at hd
def aE6{n:Nat}(h:2≤n){d:Nat}(hd:n≤2^(d+1)):eJ n≤2^d∧n-eJ n≤2^d:=by
 unfold eJ;have hne:n-1≠0:=by omega
 have h1:2^Nat.log2 (n-1)≤n-1:=Nat.log2_self_le hne;have h2:n-1<2^(Nat.log2 (n-1)+1):=Nat.lt_log2_self;have h3:Nat.log2 (n-1)<d+1:=(Nat.log2_lt hne).2 (by omega);have h4:2^Nat.log2 (n-1)≤2^d:=aLE (by decide) (by omega);rw[zLR] at h2;exact⟨h4,by omega⟩
def aFK:∀(d:Nat) (l:List Pr) (k:Nat),l.length≤2^d->(oN l k).length≤d
 | 0,l,k,h=>by rw[oN,dif_neg (by simp at h;omega)];simp
 | d+1,l,k,h=>by
  by_cases h2:2≤l.length
  ·obtain⟨a,b⟩:=aE6 h2 h;rw[oN,dif_pos h2];split
   ·rw[jS];have:=aFK d (l.take (eJ l.length)) k (by rw[nC];omega);simp;omega
   ·rw[jS];have:=aFK d (l.drop (eJ l.length)) (k-eJ l.length) (by rw[pB];omega);simp;omega
  ·rw[oN,dif_neg h2];simp
def aMz(a:ByteArray):jZ PG (buildSlice cP 1 #[(0,.string a)])=some (.cells #[.string a] bR,λr=>pure (.slice (some ⟨r,0,none⟩) 1 1)):=by kernel_rfl
def jK.isC(s:Tx):∀u∈jK s,fX u=true:=λu hu=>by
 simp only[jK,gU,lH,or_false] at hu;subst hu;rfl
def fnP(a b:Nat):Value:=.func (.func aC3) #[] #[pT a 0,pT b 0]
structure aLI(h0 h:PH)(a b:Nat)(acc:List Tx)(F:List Nat):Prop where
 fn:Bx h a [fnP a b]
 out:∃v,Bx h b [v]∧eO h bR 1 v (acc.map jK) F
 ne:a≠b
 na:a∉F
 nb:b∉F
 ext:dC h0 h
 fr:eN h0 (a::b::F)
def aLI.upd{h0 h h':PH}{a b:Nat}{acc:List Tx}{F:List Nat}(H:aLI h0 h a b acc F)(u:dC h h'):aLI h0 h' a b acc F:=by
 obtain⟨v,B,O⟩:=H.out;exact⟨H.fn.ext u,⟨v,B.ext u,O.ext u⟩,H.ne,H.na,H.nb,H.ext.trans u,H.fr⟩
def aLI.push{h0 h:PH}{a b:Nat}{acc:List Tx}{F:List Nat}(H:aLI h0 h a b acc F)(d:Tx){t3:Value}(ht:cH PG h (loadAt cP (pT b 0))=some t3)(hl:acc.length≤1000){R:cD}(hR:∀h' F',aLI h0 h' a b (acc++[d]) F'->R (.tuple #[]) h'):
  (dY (jZ PG (buildSlice cP 1 #[(0,.string (tx d))])) λx16=>∀r15,h r15=none->dY (dG PG (x16.2 r15)) λv17=>eM (PH.set h r15 x16.1) λh18=>
   dA PG (Builtin.append_ #[cP,cP] cP #[t3,v17]) h18 λv19 h20=>dA PG (dR cP (pT b 0) v19) h20 λ_ h22=>R (.tuple #[]) h22):=by
 obtain⟨v,B,O⟩:=H.out;rw[cP.load,B.cell] at ht;obtain rfl:v=t3:=by simpa using ht
 simp only[aMz,cE,reduceIte];intro r hr;refine fT ?_
 try rw[cW]
 have u1:dC h (h.set r (.cells #[.string (tx d)] bR)):=cT.new hr;have s1:gB (h.set r (.cells #[.string (tx d)] bR)) 1 (.slice (some ⟨r,0,none⟩) 1 1) ([d].map jK):=(eO.lit (jK.rows [d]) dJ (by simp) (by decide) (by simp[jK])).slR;generalize h.set r (.cells #[.string (tx d)] bR)=h1 at *;have H1:=H.upd u1;refine jL cP.und cP.und bR.info bR.size bR.bytes bR.zero rfl (by decide) (O.ext u1) s1 (λr hr u hu=>by
  obtain⟨s,-,rfl⟩:=mG.1 hr;exact jK.isC s u hu) (by simp;omega) ?_
 intro v2 h2 F2 O2 u2 g2 _;rw[←pY] at O2;have nb2:b∉F2:=λhb=>by
  rcases g2 b hb with h|h
  ·exact H.nb h
  ·exact(B.ext u1).known h
 have na2:a∉F2:=λhb=>by
  rcases g2 a hb with h|h
  ·exact H.na h
  ·exact(H.fn.ext u1).known h
 refine cP.put ((B.ext u1).upd u2 H.nb) (o:=0) (by show 0<1;decide) O2.slR.isc λh3 B3 u3=>?_;refine hR h3 F2 ⟨((H.fn.ext u1).upd u2 H.na).upd u3 (by simpa using H.ne),⟨v2,B3,O2.upd u3 (λx hx=>by simp only[gE];rintro rfl;exact nb2 hx)⟩,H.ne,na2,nb2,?_,?_⟩
 ·have f1:eN h0 F:=λx hx=>H.fr x (by simp[hx]);have f2:eN h0 [b]:=λx hx=>H.fr x (by simp at hx;simp[hx]);exact(H1.ext.fresh u2 f1).fresh u3 f2
 ·intro x hx;rcases gU.1 hx with rfl|hx
  ·exact H.fr x (by simp)
  ·rcases gU.1 hx with rfl|hx
   ·exact H.fr x (by simp)
   ·rcases g2 x hx with h|h
    ·exact H.fr x (by simp[h])
    ·exact H1.ext.none h
def aJA{f:FuncId}{cap args:Array Value}{h:PH}{k:cD}:rK PG (.func (.func f) #[] cap) args h k=aT PG f (#[]++args++cap) h k:=rfl
def aPF:∀(d:Nat) {h0 h:PH} {a b:Nat} {acc:List Tx} {F:List Nat} {v:Value} {l:List Pr} {k:Nat},l.length≤2^d->d≤16->k<l.length->l.length≤4096->acc.length+d≤1000->oL h0->gB h0 2 v (l.map Pr.cells)->aAc l->aLI h0 h a b acc F->
  ∀{kk:cD},(∀h' F',aLI h0 h' a b (acc++oN l k) F'->kk (.tuple #[]) h')->aT PG aC3 #[v,.int .i64 (k:Int),pT a 0,pT b 0] h kk
 | d,h0,h,a,b,acc,F,v,l,k,hd,hd16,hk,hl,hacc,hK,S,hs,H,kk,hkk=>by
  apply aBJ.call;unfold aBJ;have lv:=S.len (t':=bT) cJ.und;rw[jB] at lv;by_cases h1:l.length=1
  ·have e1:((l.length:Int)==1)=true:=by simp[h1]
   simp only[lv,iG,e1,cE,reduceIte,cV,Nat.reduceAdd];have ep:oN l k=[]:=by rw[oN,dif_neg (by omega)]
   rw[ep,zLQ] at hkk;exact hkk h F H
  ·have e1:((l.length:Int)==1)=false:=by simp;omega
   have h2:2≤l.length:=by omega
   obtain⟨d,rfl⟩:∃d',d=d'+1:=by
    cases d with
    | zero=>simp at hd;omega
    | succ d'=>exact⟨d',rfl⟩
   obtain⟨q1,q2⟩:=aE6 h2 hd;have hlt:=mF h2;have ld:∀{h':PH},Bx h' a [fnP a b]->cH PG h' (loadAt fR (pT a 0))=some (fnP a b):=λB=>by rw[fR.load,B.cell];rfl
   obtain⟨v1,s1,t1⟩:=S.cutP (lo:=none) (hi:=some (.int .i64 ((eJ l.length:Nat):Int))) (a:=0) (m:=eJ l.length) (.inl ⟨rfl,rfl⟩) (.inr ⟨_,rfl⟩) (by omega) (by omega);obtain⟨v2,s2,t2⟩:=S.cutP (lo:=some (.int .i64 ((eJ l.length:Nat):Int))) (hi:=none) (a:=eJ l.length) (m:=l.length) (.inr ⟨_,rfl⟩) (.inl ⟨rfl,rfl⟩) (by omega) (by omega);rw[zLb] at t1;rw[zLJ] at t2;simp only[lv,iG,e1,cE,reduceIte,cV,Nat.reduceAdd];refine aPJ h2 (by omega) ?_;have ht1:aAc (l.take (eJ l.length)):=λp hp=>hs p (aLU hp);have ht2:aAc (l.drop (eJ l.length)):=λp hp=>hs p (aNf hp);by_cases hkm:k<eJ l.length
   ·have g:((k:Int)<((eJ l.length:Nat):Int))=True:=eq_true (by omega);have ep:oN l k=oN (l.take (eJ l.length)) k++[pX (l.drop (eJ l.length))]:=by rw[oN,dif_pos h2,if_pos hkm]
    simp only[g,ld H.fn,s1,cE,reduceIte,cV,Nat.reduceAdd];unfold fnP;rw[aJA];refine aPF d (l:=l.take (eJ l.length)) (by rw[nC];omega) (by omega) (by rw[nC];omega) (by rw[nC];omega) (by omega) hK t1 ht1 H λh3 F3 H3=>?_;obtain⟨w,B3,O3⟩:=H3.out;have lw:∀{h':PH},dC h3 h'->cH PG h' (loadAt cP (pT b 0))=some w:=λu=>by rw[cP.load,(B3.ext u).cell];rfl
    simp only[lw cT.refl,s2,cE,reduceIte,cV,Nat.reduceAdd];refine aKv (aKL (by rw[pB];omega)) (by rw[pB];omega) (hK.ext H3.ext) (t2.ext H3.ext) ht2 λh4 u4=>?_;refine⟨lw u4,?_⟩;refine(H3.upd u4).push _ (lw u4) (by
     have:=aFK d (l.take (eJ l.length)) k (by rw[nC];omega);rw[jS];omega) (R:=kk) λh5 F5 H5=>?_
    rw[nK,←ep] at H5;exact hkk h5 F5 H5
   ·have g:((k:Int)<((eJ l.length:Nat):Int))=False:=eq_false (by omega);have ep:oN l k=oN (l.drop (eJ l.length)) (k-eJ l.length)++[pX (l.take (eJ l.length))]:=by rw[oN,dif_pos h2,if_neg hkm]
    have es:IntKind.i64.wrap ((k:Int)-((eJ l.length:Nat):Int))=((k-eJ l.length:Nat):Int):=by rw[fI (by omega) (by omega)];omega
    simp only[g,ld H.fn,s2,es,cE,reduceIte,cV,Nat.reduceAdd];unfold fnP;rw[aJA];refine aPF d (l:=l.drop (eJ l.length)) (by rw[pB];omega) (by omega) (by rw[pB];omega) (by rw[pB];omega) (by omega) hK t2 ht2 H λh3 F3 H3=>?_;obtain⟨w,B3,O3⟩:=H3.out;have lw:∀{h':PH},dC h3 h'->cH PG h' (loadAt cP (pT b 0))=some w:=λu=>by rw[cP.load,(B3.ext u).cell];rfl
    simp only[lw cT.refl,s1,cE,reduceIte,cV,Nat.reduceAdd];refine aKv (aKL (by rw[nC];omega)) (by rw[nC];omega) (hK.ext H3.ext) (t1.ext H3.ext) ht1 λh4 u4=>?_;refine⟨lw u4,?_⟩;refine(H3.upd u4).push _ (lw u4) (by
     have:=aFK d (l.drop (eJ l.length)) (k-eJ l.length) (by rw[pB];omega);rw[jS];omega) (R:=kk) λh5 F5 H5=>?_
    rw[nK,←ep] at H5;exact hkk h5 F5 H5
termination_by d=>d
def aXc{h:PH}{v:Value}{l:List Pr}{k:Nat}(hk:k<l.length)(hl:l.length≤4096)(hK:oL h)(S:gB h 2 v (l.map Pr.cells))(hs:aAc l){kk:cD}(hkk:∀v' h' F,eO h' bR 1 v' ((oN l k).map jK) F->eN h F->dC h h'->kk v' h'):
  aT PG aHq #[v,.int .i64 (k:Int)] h kk:=by
 apply aHz.call;unfold aHz;have lv:=S.len (t':=bT) cJ.und;rw[jB] at lv;have g1:((k:Int)<0)=False:=eq_false (by omega);have g2:((l.length:Int)≤(k:Int))=False:=eq_false (by omega);simp only[lv,g1,g2,cE,reduceIte,cV,Nat.reduceAdd];intro r17 hr17
 try rw[cW]
 have u1:dC h (h.set r17 (.cells (dS PG cP) cP)):=cT.new hr17;have B1:=cP.zbox (h:=h) (r:=r17);generalize h.set r17 (.cells (dS PG cP) cP)=h1 at *;intro r19 hr19
 try rw[cW]
 try simp only[oM,cE,reduceIte,cV,Nat.reduceAdd]
 refine fR.fill hr19 rfl λh2 B2 u2=>?_;have ld:cH PG h2 (loadAt fR (pT r19 0))=some (fnP r19 r17):=by rw[fR.load,B2.cell];rfl
 have ne:r19≠r17:=λe=>(B1.apart hr19) e.symm;have H:aLI h h2 r19 r17 [] []:=⟨B2,⟨_,B1.ext u2,eO.nil⟩,ne,by simp,by simp,u1.trans u2,λx hx=>by
  rcases gU.1 hx with rfl|hx
  ·exact u1.none hr19
  ·simp at hx;subst hx;exact hr17⟩
 simp only[ld,cE,reduceIte,cV,Nat.reduceAdd];unfold fnP;rw[aJA];refine aPF 12 (by omega) (by decide) hk hl (by simp) hK S hs H λh3 F3 H3=>?_;obtain⟨w,B3,O3⟩:=H3.out;have lw:cH PG h3 (loadAt cP (pT r17 0))=some w:=by rw[cP.load,B3.cell];rfl
 simp only[lw,cE,reduceIte,cV,Nat.reduceAdd];rw[uL] at O3;exact hkk w h3 F3 O3 (λx hx=>H3.fr x (by simp[hx])) H3.ext
def Lf.cells(f:Lf)(v:Value):List Value:=[.int .i64 f.i,.int .i64 f.n,.string (tx f.p.k),.string (tx f.p.v),v]
def Lf.val(f:Lf)(v:Value):Value:=.agg (f.cells v).toArray
def fnU(c p o g:Nat):Value:=.func (.func aCJ) #[] #[pT c 0,pT p 0,pT o 0,pT g 0]
structure aHC(h0 h:PH)(c p o g:Nat)(f:Lf)(fv:Value)(path:List Tx)(ok:Bool):Prop where
 leaf:Bx h c (f.cells fv)
 pth:∃v,Bx h p [v]∧gB h0 1 v (path.map jK)
 okb:Bx h o [.bool ok]
 fn:Bx h g [fnU c p o g]
 cp:c≠p
 co:c≠o
 po:p≠o
 gp:g≠p
 go:g≠o
 ext:dC h0 h
 fp:h0 p=none
 fo:h0 o=none
def aHC.upd{h0 h h':PH}{c p o g:Nat}{f:Lf}{fv:Value}{path:List Tx}{ok:Bool}(H:aHC h0 h c p o g f fv path ok)(u:dC h h'):aHC h0 h' c p o g f fv path ok:=by
 obtain⟨v,B,S⟩:=H.pth;exact⟨H.leaf.ext u,⟨v,B.ext u,S⟩,H.okb.ext u,H.fn.ext u,H.cp,H.co,H.po,H.gp,H.go,H.ext.trans u,H.fp,H.fo⟩
def aHC.fail{h0 h:PH}{c p o g:Nat}{f:Lf}{fv:Value}{path:List Tx}{ok:Bool}(H:aHC h0 h c p o g f fv path ok){R:cD}(hR:∀h',aHC h0 h' c p o g f fv path false->R undef h'):
  dA PG (dR gQ (pT o 0) (.bool false)) h R:=by
 obtain⟨v,B,S⟩:=H.pth;refine gQ.put H.okb (o:=0) (by show 0<1;decide) rfl λh1 B1 u1=>?_;exact hR h1 ⟨H.leaf.upd u1 (by simpa using H.co),⟨v,B.upd u1 (by simpa using H.po),S⟩,B1,H.fn.upd u1 (by simpa using H.go),H.cp,H.co,H.po,H.gp,H.go,H.ext.fresh u1 (eN.one H.fo),H.fp,H.fo⟩
def aHC.step{h0 h:PH}{c p o g:Nat}{f:Lf}{fv:Value}{path path':List Tx}{ok:Bool}(H:aHC h0 h c p o g f fv path ok){v':Value}(S':gB h0 1 v' (path'.map jK)){R:cD}(hR:∀h',aHC h0 h' c p o g f fv path' ok->R undef h'):
  dA PG (dR cP (pT p 0) v') h R:=by
 obtain⟨v,B,S⟩:=H.pth;refine cP.put B (o:=0) (by show 0<1;decide) S'.isc λh1 B1 u1=>?_;exact hR h1 ⟨H.leaf.upd u1 (by simpa using H.cp),⟨v',B1,S'⟩,H.okb.upd u1 (by simpa using H.po.symm),H.fn.upd u1 (by simpa using H.gp),H.cp,H.co,H.po,H.gp,H.go,H.ext.fresh u1 (eN.one H.fp),H.fp,H.fo⟩
def aTU(p:Pr):(aGD p).length=32:=rfl
def aJx(a b:Tx):(aAn a b).length=32:=rfl
def aTO:∀(d:Nat) {h0 h:PH} {c p o g:Nat} {f:Lf} {fv:Value} {path:List Tx} {ok:Bool} {n i:Nat},n≤2^d->1≤n->n≤4096->i<n->path.length≤1000000->f.p.k.length+f.p.v.length≤10000000->oL h0->aHC h0 h c p o g f fv path ok->
  ∀{kk:cD},(∀dg rest h',upP f.p i n path=some (dg,rest)->dg.length=32->rest.length≤path.length->aHC h0 h' c p o g f fv rest ok->kk (.string (tx dg)) h')->(∀s rest h',upP f.p i n path=none->s.length≤100->aHC h0 h' c p o g f fv rest false->kk (.string (tx s)) h')->
  aT PG aCJ #[.int .i64 (i:Int),.int .i64 (n:Int),pT c 0,pT p 0,pT o 0,pT g 0] h kk
 | d,h0,h,c,p,o,g,f,fv,path,ok,n,i,hd,h1n,hn,hi,hpl,hsm,hK,H,kk,hgood,hbad=>by
  apply aFE.call;unfold aFE;by_cases h1:n=1
  ·subst h1;have e1:(((1:Nat):Int)==1)=true:=rfl;have lp:cH PG h (loadAt cM (pT c 2))=some f.p.val:=cM.agg H.leaf (by show 2+2≤5;decide);simp only[iG,e1,cB.f2,fO,lp,cE,reduceIte,cV,Nat.reduceAdd];refine aSA (hK.ext H.ext) hsm λh2 u2=>?_;exact hgood _ path h2 (by rw[upP,dif_neg (by decide)]) (aTU _) (pF _) (H.upd u2)
  ·have h2:2≤n:=by omega
   have e1:((n:Int)==1)=false:=by simp;omega
   obtain⟨d,rfl⟩:∃d',d=d'+1:=by
    cases d with
    | zero=>simp at hd;omega
    | succ d'=>exact⟨d',rfl⟩
   obtain⟨q1,q2⟩:=aE6 h2 hd;have hlt:=mF h2;obtain⟨v,B,S⟩:=H.pth;have lv:=(S.ext H.ext).len (t':=bT) cP.und;rw[jB] at lv;have lp:cH PG h (loadAt cP (pT p 0))=some v:=by rw[cP.load,B.cell];rfl
   simp only[iG,e1,cE,reduceIte,cV,Nat.reduceAdd];refine aPJ h2 (by omega) ?_;have q0:({data:=#[]}:ByteArray)=tx []:=rfl;rcases List.eq_nil_or_concat path with hnil|⟨ini,b,hpath⟩
   ·subst hnil;have e2:(((List.length ([]:List Tx):Nat):Int)==0)=true:=rfl;simp only[lp,lv,iG,e2,cE,reduceIte,cV,Nat.reduceAdd];refine H.fail λh3 H3=>?_;rw[q0];exact hbad [] [] h3 (by rw[upP,dif_pos h2];rfl) (by simp) H3
   ·rw[List.concat_eq_append] at hpath;subst hpath;have hlen:(ini++[b]).length=ini.length+1:=by simp
    rw[hlen] at lv hpl;have e2:(((ini.length+1:Nat):Int)==0)=false:=by rw[beq_eq_false_iff_ne];omega
    have es:IntKind.i64.wrap (((ini.length+1:Nat):Int)-1)=((ini.length:Nat):Int):=by rw[fI (by omega) (by omega)];omega
    obtain⟨pa,p1,q1'⟩:=(S.ext H.ext).loadCell cP.und bR.info bR.size bR.und rfl (k:=.i64) (j:=(ini.length:Int)) (x:=.string (tx b)) (by omega) (by rw[qP,wK,List.getElem?_append_right (pF _)];simp[jK]);have lb:dG PG (Builtin.len_ #[bR] bT #[.string (tx b)])=some (.int .i64 (b.length:Int)):=by rw[mL bR.und,iF]
    by_cases hb:b.length=32
    case neg=>
     have e3:((b.length:Int) !=32)=true:=by simp;omega
     simp only[lp,lv,iG,kP,e2,es,p1,q1',lb,e3,cE,reduceIte,cV,Nat.reduceAdd];refine H.fail λh3 H3=>?_;rw[q0];exact hbad [] _ h3 (by rw[upP,dif_pos h2,List.getLast?_concat];simp[hb]) (by simp) H3
    have e3:((b.length:Int) !=32)=false:=by simp;omega
    obtain⟨v',c1,c2,-⟩:=S.cut cP.und bR.info bR.size (lo:=none) (hi:=some (.int .i64 (ini.length:Int))) (l:=0) (m:=ini.length) (.inl ⟨rfl,rfl⟩) (.inr ⟨_,rfl⟩) (by omega) (by simp);have ec:(((ini++[b]).map jK).take ini.length).drop 0=ini.map jK:=by
     rw[zLb,pY,zLH (by simp),mX (by simp)]
    rw[ec] at c2;simp only[lp,lv,iG,kP,e2,es,p1,q1',lb,e3,c1,cE,reduceIte,cV,Nat.reduceAdd];refine H.step c2 λh3 H3=>?_;have ld:cH PG h3 (loadAt fY (pT g 0))=some (fnU c p o g):=by rw[fY.load,H3.fn.cell];rfl
    have eu:upP f.p i n (ini++[b])=if i<eJ n then(upP f.p i (eJ n) ini).map λx=>(aAn x.1 b,x.2) else(upP f.p (i-eJ n) (n-eJ n) ini).map λx=>(aAn b x.1,x.2):=by
     rw[upP,dif_pos h2,List.getLast?_concat,List.dropLast_concat];simp[hb]
    by_cases hil:i<eJ n
    ·have g1:((i:Int)<((eJ n:Nat):Int))=True:=eq_true (by omega);rw[if_pos hil] at eu;simp only[g1,ld,cE,reduceIte,cV,Nat.reduceAdd];unfold fnU;rw[aJA];refine aTO d (n:=eJ n) (i:=i) q1 hlt.1 (by omega) hil (by omega) hsm hK H3 (λdg rest h4 e4 l4 r4 H4=>?_) (λs rest h4 e4 l4 H4=>?_)
     ·refine aKe (hK.ext H4.ext) (by omega) λh5 u5=>?_;exact hgood _ rest h5 (by rw[eu,e4];rfl) (aJx _ _) (by rw[hlen];omega) (H4.upd u5)
     ·refine aKe (hK.ext H4.ext) (by omega) λh5 u5=>?_;exact hbad _ rest h5 (by rw[eu,e4];rfl) (by rw[aJx];decide) (H4.upd u5)
    ·have g1:((i:Int)<((eJ n:Nat):Int))=False:=eq_false (by omega);rw[if_neg hil] at eu;have w1:IntKind.i64.wrap ((i:Int)-((eJ n:Nat):Int))=((i-eJ n:Nat):Int):=by rw[fI (by omega) (by omega)];omega
     have w2:IntKind.i64.wrap ((n:Int)-((eJ n:Nat):Int))=((n-eJ n:Nat):Int):=by rw[fI (by omega) (by omega)];omega
     simp only[g1,ld,w1,w2,cE,reduceIte,cV,Nat.reduceAdd];unfold fnU;rw[aJA];refine aTO d (n:=n-eJ n) (i:=i-eJ n) q2 (by omega) (by omega) (by omega) (by omega) hsm hK H3 (λdg rest h4 e4 l4 r4 H4=>?_) (λs rest h4 e4 l4 H4=>?_)
     ·refine aKe (hK.ext H4.ext) (by omega) λh5 u5=>?_;exact hgood _ rest h5 (by rw[eu,e4];rfl) (aJx _ _) (by rw[hlen];omega) (H4.upd u5)
     ·refine aKe (hK.ext H4.ext) (by omega) λh5 u5=>?_;exact hbad _ rest h5 (by rw[eu,e4];rfl) (by rw[aJx];decide) (H4.upd u5)
termination_by d=>d
def aVx{h:PH}{f:Lf}{fv:Value}(S:gB h 1 fv (f.path.map jK))(hpl:f.path.length≤1000000)(hsm:f.p.k.length+f.p.v.length≤10000000)(hK:oL h){kk:cD}
  (hgood:∀t h',qH f=some t->t.length=32->dC h h'->kk (.tuple #[.string (tx t),.bool true]) h') (hbad:qH f=none->∀h',dC h h'->kk (.tuple #[.string (tx []),.bool false]) h'):
  aT PG aHO #[f.val fv] h kk:=by
 apply aGz.call;unfold aGz;intro r1 hr1
 try rw[cW]
 have u1:dC h (h.set r1 (.cells (Value.cells (f.val fv)) cB)):=cT.new hr1;have B1:Bx (h.set r1 (.cells (Value.cells (f.val fv)) cB)) r1 (f.cells fv):=Bx.new;generalize h.set r1 (.cells (Value.cells (f.val fv)) cB)=h1 at *;have li:∀{h':PH},Bx h' r1 (f.cells fv)->cH PG h' (loadAt bT (pT r1 0))=some (.int .i64 f.i):=λB=>by rw[bT.load,B.cell];rfl
 have ln:∀{h':PH},Bx h' r1 (f.cells fv)->cH PG h' (loadAt bT (pT r1 1))=some (.int .i64 f.n):=λB=>by rw[bT.load,B.cell];rfl
 have lp:cH PG h1 (loadAt cP (pT r1 4))=some fv:=by rw[cP.load,B1.cell];rfl
 have q0:({data:=#[]}:ByteArray)=tx []:=rfl;by_cases a1:f.n<1
 ·have g1:=eq_true a1;simp only[cB.f1,fO,ln B1,g1,q0,cE,reduceIte,cV,Nat.reduceAdd];exact hbad (by unfold qH;rw[if_pos (.inl a1)]) _ u1
 have g1:=eq_false a1;by_cases a2:4096<f.n
 ·have g2:=eq_true a2;simp only[cB.f1,fO,ln B1,g1,g2,q0,cE,reduceIte,cV,Nat.reduceAdd];exact hbad (by unfold qH;rw[if_pos (.inr (.inl a2))]) _ u1
 have g2:=eq_false a2;by_cases a3:f.i<0
 ·have g3:=eq_true a3;simp only[cB.f1,cB.f0,fO,ln B1,li B1,g1,g2,g3,q0,cE,reduceIte,cV,Nat.reduceAdd];exact hbad (by unfold qH;rw[if_pos (.inr (.inr (.inl a3)))]) _ u1
 have g3:=eq_false a3;by_cases a4:f.n≤f.i
 ·have g4:=eq_true a4;simp only[cB.f1,cB.f0,fO,ln B1,li B1,g1,g2,g3,g4,q0,cE,reduceIte,cV,Nat.reduceAdd];exact hbad (by unfold qH;rw[if_pos (.inr (.inr (.inr a4)))]) _ u1
 have g4:=eq_false a4;have hc:qH f=aYe f.n.toNat (upP f.p f.i.toNat f.n.toNat f.path):=by
  unfold qH;rw[if_neg (by omega)]
 simp only[cB.f1,cB.f0,cB.f3,fO,ln B1,li B1,lp,g1,g2,g3,g4,cE,reduceIte,cV,Nat.reduceAdd];intro r55 hr55
 try rw[cW]
 have u2:dC h1 (h1.set r55 (.cells (dS PG cP) cP)):=cT.new hr55;have B2:=cP.zbox (h:=h1) (r:=r55);have C1:=B1.ext u2;generalize h1.set r55 (.cells (dS PG cP) cP)=h2 at *;intro r57 hr57
 try rw[cW]
 have u3:dC h2 (h2.set r57 (.cells (dS PG gQ) gQ)):=cT.new hr57;have B3:=gQ.zbox (h:=h2) (r:=r57);have D1:=C1.ext u3;have D2:=B2.ext u3;have n57:r55≠r57:=B2.apart hr57;have n57':r1≠r57:=C1.apart hr57;have n55':r1≠r55:=B1.apart hr55;generalize h2.set r57 (.cells (dS PG gQ) gQ)=h3 at *;refine cP.put D2 (o:=0) (by decide) S.isc λh4 B4 u4=>?_;have E1:=D1.upd u4 (by simpa using n55');have E3:=B3.upd u4 (by simpa using n57.symm);refine gQ.put E3 (o:=0) (by decide) rfl λh5 B5 u5=>?_;have G1:=E1.upd u5 (by simpa using n57');have G4:=B4.upd u5 (by simpa using n57);intro r63 hr63
 try rw[cW]
 try simp only[oM,cE,reduceIte,cV,Nat.reduceAdd]
 refine fY.fill hr63 rfl λh6 B6 u6=>?_;have k55:h r55=none:=u1.none hr55;have k57:h r57=none:=(u1.trans u2).none hr57;have ex6:dC h h6:=(((((u1.trans u2).trans u3).fresh u4 (eN.one k55)).fresh u5 (eN.one k57))).trans u6;have n63p:r63≠r55:=(G4.apart hr63).symm;have n63o:r63≠r57:=(B5.apart hr63).symm;have H:aHC h h6 r1 r55 r57 r63 f fv f.path true:=⟨G1.ext u6,⟨fv,G4.ext u6,S⟩,B5.ext u6,B6,n55',n57',n57,n63p,n63o,ex6,k55,k57⟩;have ld:cH PG h6 (loadAt fY (pT r63 0))=some (fnU r1 r55 r57 r63):=by rw[fY.load,B6.cell];rfl
 have lo:∀{h':PH} {path ok},aHC h h' r1 r55 r57 r63 f fv path ok->cH PG h' (loadAt gQ (pT r57 0))=some (.bool ok):=λH=>by rw[gQ.load,H.okb.cell];rfl
 obtain⟨i,hi⟩:=zLn (Int.not_lt.1 a3);obtain⟨n,hn⟩:=zLn (show 0≤f.n by omega);rw[hi,hn,qP,qP] at hc;simp only[ld,cB.f0,cB.f1,fO,li H.leaf,ln H.leaf,hi,hn,cE,reduceIte,cV,Nat.reduceAdd];unfold fnU;rw[aJA];refine aTO 12 (by omega) (by omega) (by omega) (by omega) hpl hsm hK H (λdg rest h7 e7 l7 r7 H7=>?_) (λs rest h7 e7 l7 H7=>?_)
 ·obtain⟨v7,B7,S7⟩:=H7.pth;have l55:cH PG h7 (loadAt cP (pT r55 0))=some v7:=by rw[cP.load,B7.cell];rfl
  have lv:=S7.len (t':=bT) cP.und;rw[jB] at lv;cases rest with
  | nil=>
   have hg:((0:Int)<((([]:List Tx).length:Nat):Int))=False:=eq_false (by simp);simp only[lo H7,l55,lv,hg,cB.f1,fO,ln H7.leaf,hn,cE,reduceIte,cV,Nat.reduceAdd];refine aQQ (hK.ext H7.ext) (by omega) (by omega) λh8 u8=>?_;exact hgood _ h8 (by rw[hc,e7];rfl) rfl (H7.ext.trans u8)
  | cons x rest=>
   have hg:((0:Int)<(((x::rest).length:Nat):Int))=True:=eq_true (by rw[rN];omega);simp only[lo H7,l55,lv,hg,q0,cE,reduceIte,cV,Nat.reduceAdd];exact hbad (by rw[hc,e7];rfl) _ H7.ext
 ·simp only[lo H7,q0,cE,reduceIte,cV,Nat.reduceAdd];exact hbad (by rw[hc,e7];rfl) _ H7.ext
structure It where
 p:Pk
 g:Int
 deriving DecidableEq
instance:Inhabited It:=⟨⟨default,0⟩⟩
def It.cells(i:It):List Value:=[.int .i64 i.p.f,.int .u64 i.p.s,.int .u64 i.p.t,.string i.p.d,.int .i64 i.g]
abbrev Ky:=Int×Int
def Pk.key(p:Pk):Ky:=(p.f,p.s)
def It.key(i:It):Ky:=i.p.key
def vO(k:Ky):Value:=.agg #[.int .i64 k.1,.int .u64 k.2]
def It.val(i:It):Value:=.agg i.cells.toArray
def It.allCell(p:It):∀v∈p.cells.toArray.toList,fX v=true:=by simp[It.cells,fX]
def It.rows(l:List It):Rows 5 (l.map It.cells):=λr hr=>by obtain⟨m,_,rfl⟩:=mG.1 hr;rfl
def Bx.it{h:PH}{r:Nat}{n:It}(H:Bx h r n.cells):cH PG h (loadAt dV (pT r 0))=some n.val:=by
 obtain⟨e,h1⟩:=H;rw[dV.loadAgg h1 (by show 0+5≤5;decide)];rfl
def Bx.id{h:PH}{r:Nat}{k:Ky}(H:Bx h r [.int .i64 k.1,.int .u64 k.2]):cH PG h (loadAt hZ (pT r 0))=some (vO k):=by
 obtain⟨e,h1⟩:=H;rw[hZ.loadAgg h1 (by show 0+2≤2;decide)];rfl
def aFW(a b:Int):Int:=if a<b then -1 else if b<a then 1 else 0
def aO3{h:PH}(a b:Int){k:cD}(hk:k (.int .i64 (aFW a b)) h):aT PG aEq #[.int .i64 a,.int .i64 b] h k:=by
 have hn:∀(x:Int) {k':cD},k' (.bool false) h->aT PG aC9 #[.int .i64 x] h k':=λx k' hk'=>by
  apply aF8.call;unfold aF8;have e:(x !=x)=false:=by simp
  simp only[e,cE,reduceIte];exact hk'
 apply aEP.call;unfold aEP;refine hn a (hn b ?_);unfold aFW at hk;by_cases h1:a<b
 ·simp only[h1,cE,reduceIte] at hk ⊢;exact hk
 ·by_cases h2:b<a
  ·simp only[h1,h2,cE,reduceIte] at hk ⊢;exact hk
  ·simp only[h1,h2,cE,reduceIte] at hk ⊢;exact hk
def aM9{h:PH}(a b:Int){k:cD}(hk:k (.int .i64 (aFW a b)) h):aT PG aCt #[.int .u64 a,.int .u64 b] h k:=by
 have hn:∀(x:Int) {k':cD},k' (.bool false) h->aT PG aAz #[.int .u64 x] h k':=λx k' hk'=>by
  apply aDb.call;unfold aDb;have e:(x !=x)=false:=by simp
  simp only[e,cE,reduceIte];exact hk'
 apply aBe.call;unfold aBe;refine hn a (hn b ?_);unfold aFW at hk;by_cases h1:a<b
 ·simp only[h1,cE,reduceIte] at hk ⊢;exact hk
 ·by_cases h2:b<a
  ·simp only[h1,h2,cE,reduceIte] at hk ⊢;exact hk
  ·simp only[h1,h2,cE,reduceIte] at hk ⊢;exact hk
def aM5(x:Int):List Value:=[.int .i64 x]
def aM5.rows(l:List Int):Rows 1 (l.map aM5):=λr hr=>by obtain⟨m,_,rfl⟩:=mG.1 hr;rfl
def aZj{h:PH}{v:Value}{a b:Int}(H:gB h 1 v ([a,b].map aM5)){k:cD}(hk:k (.int .i64 (if a≠0 then a else b)) h):aT PG aIg #[v] h k:=by
 have lv:=H.len (t':=bT) nM.und;obtain⟨x,x1,x2⟩:=H.loadCell (k:=.i64) (j:=0) (x:=.int .i64 a) nM.und bT.info bT.size bT.und rfl (by decide) rfl;obtain⟨y,y1,y2⟩:=H.loadCell (k:=.i64) (j:=1) (x:=.int .i64 b) nM.und bT.info bT.size bT.und rfl (by decide) rfl;apply aIt.call;unfold aIt;have e0:(([a,b].map aM5).length:Int)=2:=rfl;rw[e0] at lv;simp only[lv,cE,reduceIte];refine⟨λvs h'=>∃i:Nat,i≤2∧vs=[.int .i64 0,v,.int .i64 2,.int .i64 i]∧h'=h∧(1≤i->a=0)∧(2≤i->b=0),gV 2 3,⟨0,by omega,rfl,rfl,by omega,by omega⟩,?_⟩;rintro ρ h' ⟨i,hi,hvs,rfl,ha,hb⟩;simp only[iJ,iZ,lP,and_true] at hvs;obtain⟨e0,e1,e2,e3⟩:=hvs;rw[e0,e1,e2,e3];unfold aLl;have hc:i=0∨i=1∨i=2:=by omega
 rcases hc with rfl|rfl|rfl
 ·have d0:(((0:Nat):Int)<2)=True:=by simp
  have w0:IntKind.i64.wrap (((0:Nat):Int)+1)=((1:Nat):Int):=by rw[fI (by omega) (by omega)];rfl
  simp only[d0,Int.natCast_zero,x1,x2,cE,reduceIte];by_cases hz:a=0
  ·have e:(a !=0)=false:=by simp[hz]
   have w0':IntKind.i64.wrap ((0:Int)+1)=((1:Nat):Int):=w0;simp only[e,w0',cE,reduceIte];exact⟨⟨1,by omega,rfl,by trivial,λ_=>hz,by omega⟩,by simp[gV,e3]⟩
  ·have e:(a !=0)=true:=by simp[hz]
   simp only[e,cE,reduceIte];rw[if_pos hz] at hk;exact hk
 ·have d0:(((1:Nat):Int)<2)=True:=by simp
  have w0:IntKind.i64.wrap ((1:Int)+1)=((2:Nat):Int):=by rw[fI (by omega) (by omega)];rfl
  have c1:((1:Nat):Int)=1:=rfl;have hz:=ha (by omega);simp only[d0,c1,y1,y2,cE,reduceIte];by_cases hy:b=0
  ·have e:(b !=0)=false:=by simp[hy]
   simp only[e,w0,cE,reduceIte];exact⟨⟨2,by omega,rfl,by trivial,λ_=>hz,λ_=>hy⟩,by simp[gV,e3]⟩
  ·have e:(b !=0)=true:=by simp[hy]
   simp only[e,cE,reduceIte];rw[if_neg (by simp[hz])] at hk;exact hk
 ·have d0:(((2:Nat):Int)<2)=False:=by simp
  simp only[d0,cE,reduceIte];rw[if_neg (by simp[ha (by omega)]),hb (by omega)] at hk;exact hk
def cfI(a b:It):Int:=if aFW a.p.f b.p.f≠0 then aFW a.p.f b.p.f else aFW a.p.s b.p.s
def aWv{h:PH}(a b:It){k:cD}(hk:∀h',dC h h'->k (.int .i64 (cfI a b)) h'):aT PG rX #[.agg a.cells.toArray,.agg b.cells.toArray] h k:=by
 apply rT.call;unfold rT;intro r1 hr1;rw[cW];intro r3 hr3;rw[cW];have u1:dC h (h.set r1 (.cells a.cells.toArray dV)):=cT.new hr1;have b1:Bx (h.set r1 (.cells a.cells.toArray dV)) r1 a.cells:=Bx.new;show dY _ _;have u3:dC (h.set r1 (.cells a.cells.toArray dV)) ((h.set r1 (.cells a.cells.toArray dV)).set r3 (.cells b.cells.toArray dV)):=cT.new hr3;have b3:Bx ((h.set r1 (.cells a.cells.toArray dV)).set r3 (.cells b.cells.toArray dV)) r3 b.cells:=Bx.new;have b1':=b1.ext u3;have u:=u1.trans u3;change dC h ((h.set r1 (.cells (Value.cells (.agg a.cells.toArray)) dV)).set r3 (.cells (Value.cells (.agg b.cells.toArray)) dV)) at u;change Bx ((h.set r1 (.cells (Value.cells (.agg a.cells.toArray)) dV)).set r3 (.cells (Value.cells (.agg b.cells.toArray)) dV)) r3 _ at b3;change Bx ((h.set r1 (.cells (Value.cells (.agg a.cells.toArray)) dV)).set r3 (.cells (Value.cells (.agg b.cells.toArray)) dV)) r1 _ at b1';generalize (h.set r1 (.cells (Value.cells (.agg a.cells.toArray)) dV)).set r3 (.cells (Value.cells (.agg b.cells.toArray)) dV)=h4 at *;have c1:dB h4 ⟨r1,0,none⟩=some (.int .i64 a.p.f):=b1'.cell 0;have c2:dB h4 ⟨r1,1,none⟩=some (.int .u64 a.p.s):=b1'.cell 1;have c3:dB h4 ⟨r3,0,none⟩=some (.int .i64 b.p.f):=b3.cell 0;have c4:dB h4 ⟨r3,1,none⟩=some (.int .u64 b.p.s):=b3.cell 1;simp only[dV.f0,aR.f0,aR.f1,fO,bT.load,cA.load,c1,c2,c3,c4,cE,reduceIte];refine aO3 _ _ ⟨c4,c2,?_⟩;refine aM9 _ _ ?_;have hb:jZ PG (buildSlice nM 2 #[(0,.int .i64 (aFW a.p.f b.p.f)),(1,.int .i64 (aFW a.p.s b.p.s))])=some (.cells #[.int .i64 (aFW a.p.f b.p.f),.int .i64 (aFW a.p.s b.p.s)] bT (0,0),λr=>pure (.slice (some ⟨r,0,none⟩) 2 2)):=by kernel_rfl
 rw[hb,aGY];intro r hr;refine fT ?_
 try rw[cW]
 have hO:eO (h4.set r (.cells #[.int .i64 (aFW a.p.f b.p.f),.int .i64 (aFW a.p.s b.p.s)] bT (0,0))) bT 1 (.slice (some ⟨r,0,none⟩) 2 2) ([aFW a.p.f b.p.f,aFW a.p.s b.p.s].map aM5) [r]:=
  eO.lit (aM5.rows _) dJ rfl (by decide) rfl
 refine aZj hO.slR (hk _ ?_);exact u.trans (cT.new hr)
def sN(k:Tx):Value:=.string (tx k)
def aZh{h:PH}{n:Nat}(a b:Tx):cH PG h (Op.equalIn (n+1) bR (.string (tx a)) (.string (tx b)))=some (decide (a=b)):=by
 rw[aFn bR.und,aEc];congr 1;rw[zLm];simp only[decide_eq_true_eq];exact⟨aMk,λe=>by rw[e]⟩
def aFz{h:PH}{t:TypeId}{x y:Operand}(a b:Tx):cH PG h (jW .neq t x y (.string (tx a)) (.string (tx b)))=some (.bool (!decide (a=b))):=by
 have e:cH PG h (jW .neq t x y (.string (tx a)) (.string (tx b)))=some (.bool (!((tx a).toList==(tx b).toList))):=rfl;rw[e,aCy,aCy];congr 3;rw[zLm];simp
def aFx{h:PH}{t:TypeId}{x y:Operand}(a b:Tx):cH PG h (jW .eql t x y (.string (tx a)) (.string (tx b)))=some (.bool (decide (a=b))):=by
 have e:cH PG h (jW .eql t x y (.string (tx a)) (.string (tx b)))=some (.bool ((tx a).toList==(tx b).toList)):=rfl;rw[e,aCy,aCy];congr 2;rw[zLm];simp
def aJg:aJ7 PG bR sN where
 chk:=λh b a=>by unfold sN;cases b<;>kernel_rfl
 eq:=λh a b=>aZh (n:=9999) a b
 bits:=λa=>by
  show Instr.sameBits (9999+1) (.string (tx a)) (.string (tx a))=true;simp[Instr.sameBits,aEc]
 now:=⟨_,bR.und,.inr λa b=>by
  unfold sN;show some (tx a==tx b)=_;rw[aEc];congr 1;rw[zLm];simp only[decide_eq_true_eq];exact⟨aMk,λe=>by rw[e]⟩⟩
def aGf{h:PH}{e:TypeId}{n:Nat}{v:Value}{rows:List (List Value)}{F:List Nat}(O:eO h e n v rows F):aDf v F:=λy m c e1=>by
 rcases O.here with⟨e2,_,_⟩|⟨b,cap',cs,e2,e3,_⟩
 ·rw[e2] at e1;cases e1
 ·rw[e2] at e1;simp only[Value.slice.injEq,zL9] at e1;rw[←e1.1,e3];simp
structure Msg where
 kind:Int
 dest:Int
 height:Int
 pfrom:Int
 pseq:Int
 ptimeout:Int
 pdata:ByteArray
 proof:ByteArray
 deriving DecidableEq
def mv(l:List Msg)(k to:Nat)(m:Msg):List Msg:=
 if k<to then l.take k++(l.drop (k+1)).take (to-k)++[m]++l.drop (to+1) else l.take to++[m]++(l.drop to).take (k-to)++l.drop (k+1)
def aQE(x:Int):dG PG (convert bT nV (.int .i64 x))=some (.int .u64 (IntKind.u64.wrap x)):=by kernel_rfl
def aP8(x:Int):dG PG (convert nV bT (.int .u64 x))=some (.int .i64 (IntKind.i64.wrap x)):=by kernel_rfl
def aUL{h:PH}{n:Nat}{fid:FuncId}{cap:Array Value}{f:Nat->Bool}(hn:n≤1000000000)(hm:∀i j,i≤j->j<n->f i=true->f j=true)
  (hf:∀i,i<n->∀k',k' (.bool (f i)) h->aT PG fid (#[] ++ #[.int .i64 i]++cap) h k') {k:cD}
  (hk:∀m,m≤n->(∀i,i<m->f i=false)->(∀i,m≤i->i<n->f i=true)->k (.int .i64 m) h):
  aT PG aHp #[.int .i64 n,.func (.func fid) #[] cap] h k:=by
 apply aHu.call;unfold aHu;refine⟨λvs h'=>∃i j:Nat,i≤j∧j≤n∧vs=[.func (.func fid) #[] cap,.int .i64 i,.int .i64 j]∧h'=h∧(∀x,x<i->f x=false)∧(∀x,j≤x->x<n->f x=true),λvs _=>match vs with|[_,.int _ i,.int _ j]=>(j-i).toNat|_=>0,⟨0,n,by omega,by omega,rfl,rfl,by omega,by omega⟩,?_⟩;rintro ρ h' ⟨i,j,hij,hj,hvs,rfl,h1,h2⟩;simp only[iJ,iZ,lP,and_true] at hvs;obtain⟨e0,e1,e2⟩:=hvs;rw[e0,e1,e2];unfold aKg;by_cases hc:i<j
 ·have hd:((i:Int)<(j:Int))=True:=by simp only[eq_iff_iff,iff_true];omega
  have a1:IntKind.i64.wrap ((i:Int)+(j:Int))=((i+j:Nat):Int):=by rw[fI (by omega) (by omega)];omega
  have a2:IntKind.u64.wrap ((i+j:Nat):Int)=((i+j:Nat):Int):=by
   unfold IntKind.wrap;simp[IntKind.signed,IntKind.bits];omega
  have a3:((i+j:Nat):Int).fdiv (2^(min (1:Int).toNat IntKind.u64.bits))=(((i+j)/2:Nat):Int):=by
   have:min (1:Int).toNat IntKind.u64.bits=1:=by decide
   rw[this,Int.fdiv_eq_ediv_of_nonneg _ (by decide)];omega
  have a4:IntKind.i64.wrap (((i+j)/2:Nat):Int)=(((i+j)/2:Nat):Int):=by rw[fI (by omega) (by omega)]
  have a5:IntKind.i64.wrap ((((i+j)/2:Nat):Int)+1)=(((i+j)/2+1:Nat):Int):=by rw[fI (by omega) (by omega)];omega
  simp only[hd,a1,aQE,a2,aJS (show(0:Int)≤1 by decide),a3,aP8,a4,cE,reduceIte];refine hf ((i+j)/2) (by omega) _ ?_;cases e:f ((i+j)/2) with
  | false=>
   simp only[a5,cE,reduceIte];refine⟨⟨(i+j)/2+1,j,by omega,hj,rfl,rfl,λx hx=>?_,h2⟩,by simp[e1,e2];omega⟩;cases e':f x with
   | false=>rfl
   | true=>rw[hm x ((i+j)/2) (by omega) (by omega) e'] at e;cases e
  | true=>
   simp only[cE,reduceIte];exact⟨⟨i,(i+j)/2,by omega,by omega,rfl,rfl,h1,λx hx hx2=>hm _ _ hx hx2 e⟩,by simp[e1,e2];omega⟩
 ·have hd:((i:Int)<(j:Int))=False:=by apply eq_false;omega
  simp only[hd,cE,reduceIte];have:i=j:=by omega
  subst this;exact hk i hj h1 h2
structure iA where
 height:Int
 root:ByteArray
 deriving DecidableEq
def iA.cells(m:iA):List Value:=[.int .u64 m.height,.string m.root]
def iA.rows(l:List iA):Rows 2 (l.map iA.cells):=λr hr=>by
 obtain⟨m,_,rfl⟩:=mG.1 hr;rfl
def iA.isCell(l:List iA):∀r∈l.map iA.cells,∀u∈r,fX u=true:=λr hr u hu=>by
 obtain⟨m,_,rfl⟩:=mG.1 hr;simp only[iA.cells,gU,lH,or_false] at hu;rcases hu with rfl|rfl<;>rfl
def aFC(x:Int):List Value:=[.int .u64 x]
def aFC.rows(l:List Int):Rows 1 (l.map aFC):=λr hr=>by
 obtain⟨m,_,rfl⟩:=mG.1 hr;rfl
def aFC.isCell(l:List Int):∀r∈l.map aFC,∀u∈r,fX u=true:=λr hr u hu=>by
 obtain⟨m,_,rfl⟩:=mG.1 hr;simp only[aFC,gU,lH,or_false] at hu;subst hu;rfl
def hts(l:List iA):List Int:=l.map iA.height
def aLO(hs:List Int):Int:=hs.getLast?.getD 0
def lZ(l:List iA)(x:Int):Option ByteArray:=(l.find? λp=>decide (x=p.height)).map iA.root
def aAa(l:List iA)(x:iA):Int×List iA:=if x.root.size≠32 then(1,l) else if x.height∈hts l then(4,l) else if 4096≤l.length then(2,l) else(0,l++[x])
structure wJ(hs:List Int)(l:List iA):Prop where
 perm:hs.Perm (hts l)
 up:hs.Pairwise (· < ·)
def wJ.mem{hs:List Int}{l:List iA}(H:wJ hs l){x:Int}:x∈hs↔x∈hts l:=H.perm.mem_iff
def wJ.len{hs:List Int}{l:List iA}(H:wJ hs l):hs.length=l.length:=by rw[H.perm.length_eq];simp[hts]
def aOP(l:List iA)(x:Int):(lZ l x).isSome=decide (x∈hts l):=by
 unfold lZ hts;induction l with
 | nil=>rfl
 | cons p ps ih=>
  simp only[List.find?_cons,iJ,gU];by_cases e:x=p.height
  ·simp[e]
  ·simp only[e,decide_false,false_or];exact ih
def iA.ent(p:iA):Int×Value:=(p.height,.string p.root)
def aRB(l:List iA)(x:Int):aBC (l.map iA.ent) x=(lZ l x).map Value.string:=by
 unfold lZ aBC;induction l with
 | nil=>rfl
 | cons p ps ih=>
  simp only[List.find?_cons,iJ,iA.ent];by_cases e:x=p.height
  ·simp[e]
  ·simp only[e,decide_false];exact ih
def aWT(l:List iA):uT (l.map iA.ent)=hts l:=by simp[uT,hts,iA.ent]
def wJ.cut{hs:List Int}{l:List iA}(H:wJ hs l){x:iA}(hx:x.height∉hts l){m:Nat}(h1:∀y∈hs.take m,y<x.height)(h2:∀y∈hs.drop m,x.height≤y):wJ (hs.take m++[x.height]++hs.drop m) (l++[x]) where
 perm:=by
  have:hts (l++[x])=hts l++[x.height]:=by simp[hts]
  rw[this];refine((List.perm_append_comm (l₁:=hs.take m) (l₂:=[x.height])).append_right _).trans ?_;rw[nK,aML];exact List.perm_append_comm.trans (H.perm.append_right _)
 up:=by
  have hs':=H.up;rw[←aML m hs,List.pairwise_append] at hs';have h2':∀y∈hs.drop m,x.height<y:=λy hy=>by
   have h3:=h2 y hy;have:y≠x.height:=by rintro rfl;exact hx (H.mem.1 (aNf hy))
   omega
  rw[nK,List.pairwise_append];refine⟨hs'.1,?_,?_⟩
  ·rw[List.singleton_append,zL3];exact⟨h2',hs'.2.1⟩
  ·intro a ha b hb;rcases gU.1 (by simpa using hb) with rfl|hb
   ·exact h1 a ha
   ·exact hs'.2.2 a ha b hb
structure rG(h:PH)(a:Nat)(l:List iA)(hs:List Int)(F:List Nat):Prop where
 here:∃r v G,h a=some (.cells #[.map (some r),v] iD (0,0))∧jP aLL h r (l.map iA.ent)∧eO h cA 1 v (hs.map aFC) G∧F=a::r::G∧a≠r∧a∉G∧r∉G
 rank:wJ hs l
 few:l.length≤4096
def rG.known{h:PH}{a:Nat}{l:List iA}{hs:List Int}{F:List Nat}(H:rG h a l hs F):∀b∈F,h b≠none:=by
 obtain⟨r,v,G,ha,hM,hO,rfl,-⟩:=H.here;intro b hb;simp only[gU] at hb;rcases hb with rfl|rfl|hb
 ·rw[ha];simp
 ·exact hM.known
 ·exact hO.known b hb
def rG.upd{h h':PH}{a:Nat}{l:List iA}{hs:List Int}{F G:List Nat}(H:rG h a l hs F)(u:cT G h h')(hd:∀b∈F,b∉G):rG h' a l hs F:=by
 obtain⟨r,v,G',ha,hM,hO,rfl,hn⟩:=H.here;exact⟨⟨r,v,G',u.get ha (hd a (by simp)),hM.upd u (hd r (by simp)),hO.upd u (λb hb=>hd b (by simp[hb])),rfl,hn⟩,H.rank,H.few⟩
def rG.ext{h h':PH}{a:Nat}{l:List iA}{hs:List Int}{F:List Nat}(H:rG h a l hs F)(u:dC h h'):rG h' a l hs F:=H.upd u (by simp)
def aXV{h:PH}{k:cD}(hk:∀a h' F,rG h' a [] [] F->dC h h'->eN h F->k (pT a 0) h'):aT PG aIa #[] h k:=by
 apply aI6.call;unfold aI6;simp only[aFM,cE,reduceIte];intro r hr;refine fT ?_;have e1:dG PG (build iD #[(0,Value.map (some r))])=some (.agg #[.map (some r),.slice none 0 0]):=by kernel_rfl
 simp only[e1,cE,reduceIte];intro a ha;have hne:a≠r:=by rintro rfl;rw[dJ] at ha;cases ha
 have ha0:h a=none:=by rwa [qL hne] at ha
 refine hk a _ [a,r] ⟨⟨r,.slice none 0 0,[],dJ,jP.new.ext (cT.new ha),eO.nil,rfl,hne,by simp,by simp⟩,⟨by simp[hts],by simp⟩,by simp⟩ ((cT.new hr).trans (cT.new ha)) ?_;intro b hb;simp only[gU,lH,or_false] at hb;rcases hb with rfl|rfl
 ·exact ha0
 ·exact hr
def gB.u64{h:PH}{x:Value}{xs:List Int}(H:gB h 1 x (xs.map aFC)){k:IntKind}{j:Nat}{m:Int}(hm:xs[j]? =some m):
  ∃a,dG PG (indexAt dZ x (.int k j))=some (.pointer (some a))∧cH PG h (loadAt cA (.pointer (some a)))=some (.int .u64 m):=
 H.loadCell dZ.und cA.info cA.size cA.und rfl (by omega) (by simp[wK,hm,aFC])
def aVB{h:PH}{a:Nat}{mv v:Value}{hs:List Int}{G:List Nat}(ha0:h a=some (.cells #[mv,v] iD (0,0)))(hO0:eO h cA 1 v (hs.map aFC) G)(hup:hs.Pairwise (· < ·))(hfew:hs.length≤4096)(x:Int){k:cD}
  (hk:∀m h',m≤hs.length->(∀y∈hs.take m,y<x)->(∀y∈hs.drop m,x≤y)->dC h h'->k (.int .i64 (m:Nat)) h'):aT PG aB0 #[pT a 0,.int .u64 x] h k:=by
 apply aAk.call;unfold aAk;intro r1 hr1;simp only[cE,reduceIte];intro r3 hr3;have u1:dC h (h.set r1 (.cells (Value.cells (pT a 0)) jH)):=cT.new hr1;have hne:r1≠r3:=aUT dJ hr3;have e1:(h.set r1 (.cells (Value.cells (pT a 0)) jH)) r1=some (.cells #[pT a 0] jH):=dJ;generalize h.set r1 (.cells (Value.cells (pT a 0)) jH)=h1 at *;have u2:dC h1 (h1.set r3 (.cells (Value.cells (.int .u64 x)) cA)):=cT.new hr3;have e2:(h1.set r3 (.cells (Value.cells (.int .u64 x)) cA)) r3=some (.cells #[.int .u64 x] cA):=dJ;have e3:=u2.get e1;generalize h1.set r3 (.cells (Value.cells (.int .u64 x)) cA)=h2 at *;have w:=u1.trans u2;have ha:=w.get ha0;have hO:=hO0.ext w;have hlv:=hO.slR.len (t':=bT) dZ.und;rw[jB] at hlv;simp only[jH.load,dB,e3,iD.f1,fO,dZ.load,ha,hlv,cE,reduceIte];refine aUL (f:=λi=>decide (x≤hs.getD i 0)) (by omega) ?_ ?_ ?_
 ·intro i j hij hj hfi;simp only[decide_eq_true_eq] at hfi ⊢;by_cases e:i=j
  ·subst e;exact hfi
  ·have:=List.pairwise_iff_getElem.1 hup i j (by omega) hj (by omega);rw[aA7,lU (by omega)] at hfi ⊢;simp only[aIm] at hfi ⊢;omega
 ·intro i hi k' hk';show aT PG aAe #[.int .i64 i,pT r1 0,pT r3 0] h2 k';apply qD.call;unfold qD;obtain⟨p,p1,p2⟩:=hO.slR.u64 (k:=.i64) (j:=i) (m:=hs.getD i 0) (by rw[aA7,lU hi];rfl);have p3:cH PG h2 (loadAt cA (pT r3 0))=some (.int .u64 x):=by rw[cA.load];simp[dB,e2]
  simp only[jH.load,dB,e3,iD.f1,fO,dZ.load,ha,p1,p2,p3,cE,reduceIte];exact hk'
 ·intro m hm h1 h2;refine hk m _ hm ?_ ?_ w
  ·intro y hy;obtain⟨i,hi,rfl⟩:=List.mem_iff_getElem.1 hy;rw[nC] at hi;have:=h1 i (by omega);rw[aA7,lU (by omega)] at this;simp only[aIm,decide_eq_false_iff_not] at this;rw[List.getElem_take];omega
  ·intro y hy;obtain⟨i,hi,rfl⟩:=List.mem_iff_getElem.1 hy;rw[pB] at hi;have:=h2 (m+i) (by omega) (by omega);rw[aA7,lU (by omega)] at this;simp only[aIm,decide_eq_true_eq] at this;rw[List.getElem_drop];exact this
def aXT{h:PH}{a:Nat}{l:List iA}{hs:List Int}{F:List Nat}(hC:rG h a l hs F)(x:Int){k:cD}
  (hk:k (.tuple #[.string ((lZ l x).getD ⟨#[]⟩),.bool (lZ l x).isSome]) h):aT PG aCv #[pT a 0,.int .u64 x] h k:=by
 apply aBm.call;unfold aBm;obtain⟨r,v,G,ha,hM,hO,rfl,hn⟩:=hC.here;have hl:=aHG (aQu cA.und) iC.und bR.info bR.zero hM x true;rw[aRB] at hl;have hl':cH PG h (Instr.lookup iC (.map (some r)) (.int .u64 x) true)=some (.tuple #[.string ((lZ l x).getD ⟨#[]⟩),.bool (lZ l x).isSome]):=by
  rw[show(Value.int .u64 x)=aLL x from rfl,hl];cases lZ l x<;>rfl
 simp only[dB,iD.f0,iC.load,ha,hl',cE,reduceIte];exact hk
def aUt{h:PH}{a:Nat}{l:List iA}{hs:List Int}{F:List Nat}(hC:rG h a l hs F){k:cD}
  (hk:k (.int .u64 (aLO hs)) h):aT PG aA8 #[pT a 0] h k:=by
 have hlen:=hC.rank.len;have hfew:=hC.few;apply qZ.call;unfold qZ;obtain⟨r,v,G,ha,hM,hO,rfl,hn⟩:=hC.here;have hlv:=hO.slR.len (t':=bT) dZ.und;rw[jB] at hlv;simp only[dB,iD.f1,fO,dZ.load,ha,hlv,cE,reduceIte];unfold aLO at hk;rw[List.getLast?_eq_getElem?] at hk;by_cases hc:hs.length=0
 ·have e:((hs.length:Int)==0)=true:=by simp[hc]
  have e2:hs=[]:=zLO hc;simp only[e,cE,reduceIte];rw[e2] at hk;exact hk
 ·have e:((hs.length:Int)==0)=false:=by simpa using hc
  have e2:IntKind.i64.wrap ((hs.length:Int)-1)=((hs.length-1:Nat):Int):=by rw[fI (by omega) (by omega)];omega
  obtain⟨y,hy⟩:∃y,hs[hs.length-1]? =some y:=⟨_,lU (by omega)⟩;obtain⟨p,p1,p2⟩:=hO.slR.u64 (k:=.i64) hy;simp only[e,e2,p1,p2,cE,reduceIte];rw[hy] at hk;exact hk
def aYI(x:Int):jZ PG (buildSlice dZ 1 #[(0,.int .u64 x)])=some (.cells #[.int .u64 x] cA,λr=>pure (.slice (some ⟨r,0,none⟩) 1 1)):=by kernel_rfl
def aYD{h:PH}{a:Nat}{l:List iA}{hs:List Int}{F:List Nat}(hC:rG h a l hs F)(x:iA){k:cD}
  (hk:∀h' hs' F',rG h' a (aAa l x).2 hs' F'->cT F h h'->(∀b∈F',b∈F∨h b=none)->k (.int .i64 (aAa l x).1) h'):aT PG aDM #[pT a 0,.int .u64 x.height,.string x.root] h k:=by
 have hlen:=hC.rank.len;have hfew:=hC.few;apply vH.call;unfold vH;unfold aAa at hk;have hsame:=hk;simp only[bR.len,cE,reduceIte];by_cases c1:x.root.size=32
 ·have e1:((x.root.size:Int) !=32)=false:=by simp[c1]
  rw[if_neg (by simpa using c1)] at hk;obtain⟨r,v,G,ha,hM,hO,hF,n1,n2,n3⟩:=hC.here;have hl:=aHG (aQu cA.und) iC.und bR.info bR.zero hM x.height true;rw[aRB] at hl;have hl':cH PG h (Instr.lookup iC (.map (some r)) (.int .u64 x.height) true)=some (.tuple #[.string ((lZ l x.height).getD ⟨#[]⟩),.bool (lZ l x.height).isSome]):=by
   rw[show(Value.int .u64 x.height)=aLL x.height from rfl,hl];cases lZ l x.height<;>rfl
  simp only[e1,dB,iD.f0,iC.load,ha,hl',aOP,cE,reduceIte];by_cases c2:x.height∈hts l
  ·simp only[c2,cE,reduceIte];rw[if_pos c2] at hk;exact hk _ _ _ hC cT.refl (λb hb=>.inl hb)
  ·rw[if_neg c2] at hk;have hml:=hM.len (t':=bT) iC.und;rw[jB] at hml;simp only[c2,hml,cE,reduceIte];by_cases c3:4096≤l.length
   ·have e3:((4096:Int)≤(l.length:Int))=True:=by apply eq_true;omega
    simp only[e3,cE,reduceIte];rw[if_pos c3] at hk;exact hk _ _ _ hC cT.refl (λb hb=>.inl hb)
   ·have e3:((4096:Int)≤(l.length:Int))=False:=by apply eq_false;omega
    rw[if_neg c3] at hk;simp only[e3,cE,reduceIte];refine aKq (enc:=aLL) (aQu cA.und) iC.und hM x.height (.string x.root) λh1 hM1 u1=>?_;have hput:aDe (l.map iA.ent) x.height (.string x.root)=(l++[x]).map iA.ent:=by
     unfold aDe;rw[aWT,if_neg c2];simp[iA.ent]
    rw[hput] at hM1;have ha1:=u1.get ha (by simp[n1]);have hO1:=hO.upd u1 (λb hb hf=>by simp at hf;subst hf;exact n3 hb);refine aVB ha1 hO1 hC.rank.up (by omega) x.height λm h2 hm p1 p2 u2=>?_;have ha2:=u2.get ha1;have hO2:=hO1.ext u2;have hM2:=hM1.ext u2;obtain⟨va,w1,w2⟩:=hO2.slR.full dZ.und cA.info (m:=m) (k2:=.i64) (k3:=.i64) (by simpa using hm);obtain⟨y,y1,y2,-⟩:=hO2.slR.cut dZ.und cA.info cA.size (hi:=none) (.inr ⟨.i64,rfl⟩) (.inl ⟨rfl,rfl⟩) (show m≤_ by simpa using hm) (pF _);rw[mX (pF _)] at y2;simp only[dB,iD.f1,fO,dZ.load,ha2,w1,y1,aYI,cE,reduceIte];intro r3 hr3;refine fT ?_;have u3:dC h2 (h2.set r3 (.cells #[.int .u64 x.height] cA)):=cT.new hr3;have hx3:gB (h2.set r3 (.cells #[.int .u64 x.height] cA)) 1 (.slice (some ⟨r3,0,none⟩) 1 1) ([x.height].map aFC):=(eO.lit (aFC.rows _) dJ (by simp) (by decide) (by simp[aFC])).slR;generalize h2.set r3 (.cells #[.int .u64 x.height] cA)=h3 at *;refine aRf dZ.und dZ.und cA.info cA.size cA.bytes cA.zero rfl (by decide) (w2.ext u3) rfl hx3 (by simp;omega) (by simp) λv4 h4 F4 hO4 u4 k4=>?_;have ha4:=(u3.trans u4).get ha2;refine⟨by simp[ha4],?_⟩;rw[←aKU,←pY] at hO4;have y4:=(y2.ext u3).ext u4;rw[←aMI] at y4;refine jL dZ.und dZ.und cA.info cA.size cA.bytes cA.zero rfl (by decide) hO4 y4 (aFC.isCell _) (by simp;omega) ?_;intro v5 h5 F5 hO5 u5 k5 _;rw[←pY] at hO5;have na4:a∉F4:=λhm'=>by have:=k4 a hm';rw[u3.get ha2] at this;cases this
    have nr4:r∉F4:=λhm'=>(hM2.ext u3).known (k4 r hm');have ha5:=u5.get ha4 na4;have hM5:=((hM2.ext u3).ext u4).upd u5 nr4;have na5:a∉F5:=λhm'=>by
     rcases k5 a hm' with h|h
     ·exact na4 h
     ·rw[ha4] at h;cases h
    have nr5:r∉F5:=λhm'=>by
     rcases k5 r hm' with h|h
     ·exact nr4 h
     ·exact(((hM2.ext u3).ext u4)).known h
    refine jD dZ.und rfl ha5 (by simp) ?_ dZ.info dZ.size ?_
    ·obtain⟨_,_,rfl,-⟩:=hO5.slR.here;rfl
    have u6:cT [a] h5 (h5.set a (.cells ((#[.map (some r),v]:Array Value).setIfInBounds 1 v5) iD (0,0))):=cT.set (by simp);have ua:cT F h h4:=by
     have:cT [r] h h4:=(u1.trans u2.upd).trans (u3.trans u4).upd;exact this.mono λb hb=>.inl (by simp at hb;subst hb;rw[hF];simp)
    have g4:∀b∈F4,h b=none:=λb hb=>by
     have hb3:h2 b=none:=u3.none (k4 b hb);have hb1:h1 b=none:=u2.none hb3;cases e:h b with
     | none=>rfl
     | some o=>
      by_cases hbr:b=r
      ·subst hbr;exact absurd hb1 hM1.known
      ·have:=u1.get e (by simp[hbr]);rw[hb1] at this;cases this
    have g5:∀b∈F5,h b=none:=λb hb=>by
     rcases k5 b hb with h'|h'
     ·exact g4 b h'
     ·cases e:h b with
      | none=>rfl
      | some o=>
       by_cases hbF:b∈F
       ·rw[hF] at hbF;simp only[gU] at hbF;rcases hbF with rfl|rfl|hbG
        ·rw[ha4] at h';cases h'
        ·exact absurd h' ((hM2.ext u3).ext u4).known
        ·exact absurd h' (((hO2.ext u3).ext u4).known b hbG)
       ·have:=ua.get e hbF;rw[h'] at this;cases this
    refine hk _ (hs.take m++[x.height]++hs.drop m) (a::r::F5) ⟨⟨r,v5,F5,dJ,hM5.upd u6 (by simp;exact n1.symm),hO5.upd u6 (λb hb hf=>by simp at hf;subst hf;exact na5 hb),rfl,n1,na5,nr5⟩,hC.rank.cut c2 p1 p2,by simp;omega⟩ ?_ ?_
    ·exact(ua.then u5 (λb hb=>.inr (g4 b hb))).then u6 (λb hb=>.inl (by simp at hb;subst hb;rw[hF];simp))
    ·intro b hb;simp only[gU] at hb;rcases hb with rfl|rfl|hb
     ·exact .inl (by rw[hF];simp)
     ·exact .inl (by rw[hF];simp)
     ·exact .inr (g5 b hb)
 ·have e1:((x.root.size:Int) !=32)=true:=by simp;omega
  rw[if_pos (by simpa using c1)] at hk;simp only[e1,cE,reduceIte];exact hk _ _ _ hC cT.refl (λb hb=>.inl hb)
def pL(n:Nat):List Value:=[.int .u64 (n:Int)]
def pL.rows(l:List Nat):Rows 1 (l.map pL):=λr hr=>by
 obtain⟨p,-,rfl⟩:=mG.1 hr;rfl
def jT:List Nat->Nat
 | []=>0
 | d::l=>d+4294967296*jT l
def Dig(l:List Nat):Prop:=∀d∈l,d<4294967296
def bAB(n:Nat):0<4294967296^n:=Nat.pow_pos (by decide)
def aNt:∀(l:List Nat) (i d:Nat) (x:Nat),l[i]? =some x->jT (l.set i d)+x*4294967296^i=jT l+d*4294967296^i
 | [],i,d,x,h=>by simp at h
 | a::l,0,d,x,h=>by
  simp only[pU,zL9] at h;subst h;simp only[List.set_cons_zero,jT,Nat.pow_zero,Nat.mul_one];omega
 | a::l,i+1,d,x,h=>by
  have ih:=aNt l i d x (by simpa using h);simp only[List.set_cons_succ,jT];have e1:x*4294967296^(i+1)=4294967296*(x*4294967296^i):=by rw[zLR,zLS (4294967296^i),Nat.mul_left_comm]
  have e2:d*4294967296^(i+1)=4294967296*(d*4294967296^i):=by rw[zLR,zLS (4294967296^i),Nat.mul_left_comm]
  rw[e1,e2];omega
def aKd:∀{l:List Nat},Dig l->jT l<4294967296^l.length
 | [],_=>by simp[jT]
 | a::l,h=>by
  have ih:=aKd (l:=l) λd hd=>h d (by simp[hd]);have ha:=h a (by simp);simp only[jT,rN,zLR];omega
def aK2:∀{l:List Nat},Dig l->∀i,jT l/4294967296^i%4294967296=l.getD i 0
 | [],_,i=>by simp[jT]
 | a::l,h,0=>by
  have ha:=h a (by simp);simp only[jT,Nat.pow_zero,Nat.div_one,List.getD_cons_zero];omega
 | a::l,h,i+1=>by
  have ih:=aK2 (l:=l) (λd hd=>h d (by simp[hd])) i;have ha:=h a (by simp);have e:(a+4294967296*jT l)/4294967296=jT l:=by omega
  simp only[jT,List.getD_cons_succ];rw[zLR,zLS (4294967296^i),←Nat.div_div_eq_div_mul,e,ih]
def aLz:∀(l:List Nat) (i x:Nat),l[i]? =some x->jT (l.take (i+1))=jT (l.take i)+x*4294967296^i
 | [],i,x,h=>by simp at h
 | a::l,0,x,h=>by
  simp only[pU,zL9] at h;subst h;simp[jT]
 | a::l,i+1,x,h=>by
  have ih:=aLz l i x (by simpa using h);simp only[zLc,jT];have e1:x*4294967296^(i+1)=4294967296*(x*4294967296^i):=by rw[zLR,zLS (4294967296^i),Nat.mul_left_comm]
  rw[ih,e1];omega
def aMf(l:List Nat):∀i,jT (l.take i)≤jT l:=by
 induction l with
 | nil=>intro i;simp
 | cons a l ih=>
  intro i;cases i with
  | zero=>simp[jT]
  | succ i=>
   have:=ih i;simp only[zLc,jT];omega
def aLP(n:Nat):jT (List.replicate n 0)=0:=by
 induction n with
 | zero=>rfl
 | succ n ih=>simp only[List.replicate_succ,jT,ih]
def aMp(n:Nat):Dig (List.replicate n 0):=λd hd=>by
 rw[List.mem_replicate] at hd;omega
abbrev aGp(h:PH)(v:Value)(l:List Nat)(F:List Nat):Prop:=eO h cA 1 v (l.map pL) F
def aMA{h:PH}{v:Value}{l:List Nat}(S:gB h 1 v (l.map pL)){i x:Nat}(hx:l[i]? =some x):∃a,dG PG (indexAt dZ v (.int .i64 (i:Int)))=some (.pointer (some a))∧cH PG h (loadAt cA (.pointer (some a)))=some (.int .u64 (x:Int)):=
 S.loadCell (t:=dZ) (k:=.i64) (j:=(i:Int)) dZ.und cA.info cA.size cA.und rfl (by omega) (by rw[qP,wK,hx];rfl)
def aLJ{h:PH}{v:Value}{l:List Nat}(S:gB h 1 v (l.map pL)):dG PG (Builtin.len_ #[dZ] bT #[v])=some (.int .i64 l.length):=by
 have:=S.len (t':=bT) dZ.und;rw[jB] at this;exact this
def aQU{h:PH}{n:Nat}(hn:n≤1000):∃zs,jZ PG (Instr.makeSlice dZ (.int .i64 n) (.int .i64 n))=some (.cells zs cA (0,0),λr=>pure (.slice (some ⟨r,0,none⟩) n n))∧zs.toList=((List.replicate n 0).map pL).flatten:=by
 obtain⟨zs',hm,hz⟩:=aCc (P:=PG) (n:=n) dZ.und cA.info cA.size cA.bytes cA.zero rfl (by decide) (by omega) (by omega);refine⟨zs',hm,?_⟩;rw[hz,List.map_replicate];rfl
def aQc{h:PH}{v:Value}{l:List Nat}{F:List Nat}(O:aGp h v l F)(hd:Dig l)(pos x:Nat)(hp:pos≤1000)(hx:x≤18446744069414584320)(hT:jT l+x*4294967296^pos<4294967296^l.length)(hl:l.length≤1000){k:cD}
  (hk:∀h' l',aGp h' v l' F->Dig l'->l'.length=l.length->jT l'=jT l+x*4294967296^pos->cT F h h'->k (.tuple #[]) h'):aT PG wP #[v,.int .i64 (pos:Int),.int .u64 (x:Int)] h k:=by
 apply aDE.call;unfold aDE;generalize hTT:jT l+x*4294967296^pos=T at *;refine⟨λvs h'=>∃(l':List Nat) (p y:Nat),vs=[v,.int .i64 (p:Int),.int .u64 (y:Int)]∧aGp h' v l' F∧Dig l'∧l'.length=l.length∧p≤1001∧y≤18446744069414584320∧jT l'+y*4294967296^p=T∧cT F h h',gV l.length 1,⟨l,pos,x,rfl,O,hd,rfl,by omega,hx,hTT,cT.refl⟩,?_⟩;rintro ρ h' ⟨l',p,y,hvs,O',hd',hl',hp',hy,hv,u⟩;simp only[iJ,iZ,lP,and_true] at hvs;obtain⟨v0,v1,v2⟩:=hvs;simp only[v0,v1,v2,iJ,iZ];unfold aHW;have lv:=aLJ O'.slR;by_cases h0:y=0
 ·subst h0;have g1:((0:Int)<((0:Nat):Int))=False:=eq_false (by decide);simp only[g1,cE,reduceIte];exact hk h' l' O' hd' hl' (by rw[←hv];simp) u
 have g1:((0:Int)<(y:Int))=True:=eq_true (by omega);by_cases hlt:p<l'.length
 ·have g2:((p:Int)<(l'.length:Int))=True:=eq_true (by omega);have hx':l'[p]? =some l'[p]:=lU hlt;have hdx:=hd' _ (aMD hlt);generalize l'[p]=d at *;obtain⟨pa,p1,p2⟩:=aMA O'.slR hx';have e1:Int.tmod (y:Int) 4294967296=((y%4294967296:Nat):Int):=(Int.ofNat_tmod _ 4294967296).symm;have e2:IntKind.u64.wrap (((y%4294967296:Nat):Int)+(d:Int))=((y%4294967296+d:Nat):Int):=by rw[gL (by omega) (by omega)];omega
  have e3:Int.tdiv (y:Int) 4294967296=((y/4294967296:Nat):Int):=rfl;have e4:IntKind.u64.wrap ((y/4294967296:Nat):Int)=((y/4294967296:Nat):Int):=gL (by omega) (by omega);have e5:IntKind.u64.wrap (((y/4294967296:Nat):Int)*4294967296)=((y/4294967296*4294967296:Nat):Int):=by rw[gL (by omega) (by omega)];omega
  have e6:IntKind.u64.wrap (((y%4294967296+d:Nat):Int)+((y/4294967296*4294967296:Nat):Int))=((y+d:Nat):Int):=by rw[gL (by omega) (by omega)];omega
  have e7:Int.tmod ((y+d:Nat):Int) 4294967296=(((y+d)%4294967296:Nat):Int):=(Int.ofNat_tmod _ 4294967296).symm;have e8:Int.tdiv ((y+d:Nat):Int) 4294967296=(((y+d)/4294967296:Nat):Int):=rfl;have e9:IntKind.u64.wrap (((y+d)/4294967296:Nat):Int)=(((y+d)/4294967296:Nat):Int):=gL (by omega) (by omega);have e10:=qQ (i:=p) (by omega);have rm:∀(t:TypeId) (a:Int),dG PG (binOp .rem t (.int .u64 a) (.int .u64 4294967296))=some (.int .u64 (a.tmod 4294967296)):=λt a=>aIK (by decide);have qu:∀(t:TypeId) (a:Int),dG PG (binOp .quo t (.int .u64 a) (.int .u64 4294967296))=some (.int .u64 (IntKind.u64.wrap (a.tdiv 4294967296))):=λt a=>aL3 (by decide);obtain⟨pb,q1,q2⟩:=O'.storeCell (t:=dZ) (k:=.i64) (j:=p) dZ.und cA.info cA.size cA.und rfl (by simpa using hlt) (x:=.int .u64 (((y+d)%4294967296:Nat):Int)) rfl;rw[p1] at q1;obtain rfl:pa=pb:=by simpa using q1
  simp only[g1,lv,g2,rm,qu,e1,p1,p2,e2,e3,e4,e5,e6,e7,cE,reduceIte];refine q2 _ λh2 O2 u2=>?_;have hrows:(l'.map pL).take p++[[(.int .u64 (((y+d)%4294967296:Nat):Int):Value)]]++(l'.map pL).drop (p+1)=(l'.set p ((y+d)%4294967296)).map pL:=by
   rw[List.set_eq_take_append_cons_drop,if_pos hlt,pY,iJ,aKU,aMI];simp[pL]
  rw[hrows] at O2;simp only[e8,e9,e10,cE,reduceIte];refine⟨⟨_,p+1,(y+d)/4294967296,rfl,O2,λz hz=>?_,by simpa using hl',by omega,by omega,?_,u.trans u2⟩,?_⟩
  ·rcases List.mem_or_eq_of_mem_set hz with hz|rfl
   ·exact hd' z hz
   ·exact zLB _ (by decide)
  ·have:=aNt l' p ((y+d)%4294967296) d hx';have e:(y+d)%4294967296*4294967296^p+(y+d)/4294967296*4294967296^(p+1)=(y+d)*4294967296^p:=by
    rw[zLR,zLS (4294967296^p) 4294967296,←Nat.mul_assoc,←zLF];congr 1;omega
   rw[zLF] at e;omega
  ·simp only[gV,rZ,pU];omega
 ·exfalso;have h1:4294967296^l.length≤4294967296^p:=aLE (by decide) (by omega);have h2:4294967296^p≤y*4294967296^p:=Nat.le_mul_of_pos_left _ (by omega);omega
def aUb{h:PH}{v:Value}{l:List Nat}(S:gB h 1 v (l.map pL))(hs:∀d∈l,d≤18446744069414584320)(hT:jT l<4294967296^(l.length+1))(hl:l.length≤100){k:cD}
  (hk:∀h' v' l' F',aGp h' v' l' F'->Dig l'->l'.length=l.length+1->jT l'=jT l->eN h F'->dC h h'->k v' h'):aT PG aB3 #[v] h k:=by
 apply aA0.call;unfold aA0;have lv:=aLJ S;have e1:IntKind.i64.wrap ((l.length:Int)+1)=((l.length+1:Nat):Int):=by rw[fI (by omega) (by omega)];omega
 obtain⟨zs,m1,m2⟩:=aQU (h:=h) (n:=l.length+1) (by omega);simp only[lv,e1,m1,cE,reduceIte];intro r hr;refine fT ?_
 try rw[cW]
 have u1:dC h (h.set r (.cells zs cA (0,0))):=cT.new hr;have O1:aGp (h.set r (.cells zs cA (0,0))) (.slice (some ⟨r,0,none⟩) (l.length+1) (l.length+1)) (List.replicate (l.length+1) 0) [r]:=eO.lit (n:=l.length+1) (pL.rows _) dJ (by simp) (by unfold rF;omega) m2;generalize h.set r (.cells zs cA (0,0))=h1 at *;refine⟨λvs h'=>∃(i:Nat) (l':List Nat),i≤l.length∧vs=[v,.slice (some ⟨r,0,none⟩) (l.length+1) (l.length+1),.int .i64 (i:Int)]∧aGp h' (.slice (some ⟨r,0,none⟩) (l.length+1) (l.length+1)) l' [r]∧Dig l'∧l'.length=l.length+1∧jT l'=jT (l.take i)∧dC h h',gV l.length 2,⟨0,_,by omega,rfl,O1,aMp _,by simp,by rw[aLP];rfl,u1⟩,?_⟩;rintro ρ h' ⟨i,l',hi,hvs,O',hd',hl',hv,u⟩;simp only[iJ,iZ,lP,and_true] at hvs;obtain⟨v0,v3,v4⟩:=hvs;simp only[v0,v3,v4,iJ,iZ];unfold aFs;by_cases hlt:i<l.length
 ·have g1:((i:Int)<(l.length:Int))=True:=eq_true (by omega);have gi:=qQ (i:=i) (by omega);have hx':l[i]? =some l[i]:=lU hlt;have hdx:=hs _ (aMD hlt);generalize l[i]=d at *;obtain⟨pa,p1,p2⟩:=aMA (S.ext u) hx';simp only[lv,g1,p1,p2,cE,reduceIte];have ht:=aLz l i d hx';have hle:=aMf l (i+1);refine aQc O' hd' i d (by omega) hdx (by rw[hl',hv,←ht];omega) (by omega) λh2 l2 O2 hd2 hl2 hv2 u2=>?_;simp only[gi,cE,reduceIte];refine⟨⟨i+1,l2,by omega,rfl,O2,hd2,by omega,by rw[hv2,hv,ht],u.fresh u2 (eN.one hr)⟩,?_⟩;simp only[gV,rZ,pU];omega
 ·have g1:((i:Int)<(l.length:Int))=False:=eq_false (by omega);simp only[lv,g1,cE,reduceIte];rw[mX (by omega)] at hv;exact hk h' _ l' [r] O' hd' hl' hv (eN.one hr) u
def aRg{h:PH}{v:Value}{l:List Nat}(S:gB h 1 v (l.map pL))(hs:∀d∈l,d≤18446744069414584320)(hT:jT l<4294967296^(l.length+1))(hl:l.length≤50)(x:Nat)(hx:x<137438953472){k:cD}
  (hk:∀h' v' l' F',aGp h' v' l' F'->Dig l'->l'.length=l.length+4->jT l'=jT l*x->eN h F'->dC h h'->k v' h'):aT PG aAh #[v,.int .u64 (x:Int)] h k:=by
 apply zC.call;unfold zC;refine aUb S hs hT (by omega) λh1 w p F1 O1 hd1 hl1 hv1 f1 u1=>?_;have S1:=O1.slR;have lw:=aLJ S1;have e1:IntKind.i64.wrap ((p.length:Int)+3)=((p.length+3:Nat):Int):=by rw[fI (by omega) (by omega)];omega
 have e2:Int.tmod (x:Int) 4294967296=((x%4294967296:Nat):Int):=(Int.ofNat_tmod _ 4294967296).symm;have e3:Int.tdiv (x:Int) 4294967296=((x/4294967296:Nat):Int):=rfl;have e4:IntKind.u64.wrap ((x/4294967296:Nat):Int)=((x/4294967296:Nat):Int):=gL (by omega) (by omega);have rm:∀(t:TypeId) (a:Int),dG PG (binOp .rem t (.int .u64 a) (.int .u64 4294967296))=some (.int .u64 (a.tmod 4294967296)):=λt a=>aIK (by decide);have qu:∀(t:TypeId) (a:Int),dG PG (binOp .quo t (.int .u64 a) (.int .u64 4294967296))=some (.int .u64 (IntKind.u64.wrap (a.tdiv 4294967296))):=λt a=>aL3 (by decide);obtain⟨zs,m1,m2⟩:=aQU (h:=h) (n:=p.length+3) (by omega);simp only[rm,qu,e2,e3,e4,lw,e1,m1,cE,reduceIte];intro r hr;refine fT ?_
 try rw[cW]
 have u2:dC h1 (h1.set r (.cells zs cA (0,0))):=cT.new hr;have O2:aGp (h1.set r (.cells zs cA (0,0))) (.slice (some ⟨r,0,none⟩) (p.length+3) (p.length+3)) (List.replicate (p.length+3) 0) [r]:=eO.lit (n:=p.length+3) (pL.rows _) dJ (by simp) (by unfold rF;omega) m2;generalize h1.set r (.cells zs cA (0,0))=h2 at *;have hr0:h r=none:=u1.none hr;have hpl:=aKd hd1;have hF1r:∀b∈F1,b∉[r]:=λb hb hm=>by
  simp only[gE] at hm;subst hm;exact O1.known _ hb hr
 have hbig:jT p*x<4294967296^(p.length+3):=by
  have hx2:x<4294967296^2:=by
   have:(4294967296:Nat)^2=18446744073709551616:=by decide
   omega
  calc jT p*x≤jT p*4294967296^2:=Nat.mul_le_mul_left _ (by omega)
   _<4294967296^p.length*4294967296^2:=Nat.mul_lt_mul_of_pos_right hpl (bAB 2)
   _=4294967296^(p.length+2):=by rw[←Nat.pow_add]
   _≤4294967296^(p.length+3):=aLE (by decide) (by omega)
 refine⟨λvs h'=>∃(i:Nat) (l':List Nat),i≤p.length∧vs=[w,.int .u64 ((x%4294967296:Nat):Int),.int .u64 ((x/4294967296:Nat):Int),.slice (some ⟨r,0,none⟩) (p.length+3) (p.length+3),.int .i64 (i:Int)]∧aGp h' (.slice (some ⟨r,0,none⟩) (p.length+3) (p.length+3)) l' [r]∧Dig l'∧l'.length=p.length+3∧jT l'=jT (p.take i)*x∧cT [r] h2 h',gV p.length 4,⟨0,_,by omega,rfl,O2,aMp _,by simp,by rw[aLP];simp[jT],cT.refl⟩,?_⟩;rintro ρ h' ⟨i,l',hi,hvs,O',hd',hl',hv,u⟩;simp only[iJ,iZ,lP,and_true] at hvs;obtain⟨v0,v5,v6,v7,v8⟩:=hvs;simp only[v0,v5,v6,v7,v8,iJ,iZ];unfold aEM;have Sw:=((O1.ext u2).upd u hF1r);by_cases hlt:i<p.length
 ·have g1:((i:Int)<(p.length:Int))=True:=eq_true (by omega);have gi:=qQ (i:=i) (by omega);have hx':p[i]? =some p[i]:=lU hlt;have hdx:=hd1 _ (aMD hlt);generalize p[i]=d at *;obtain⟨pa,p1,p2⟩:=aMA Sw.slR hx';have hm1:d*(x%4294967296)≤4294967295*4294967295:=Nat.mul_le_mul (by omega) (by omega);have hm2:d*(x/4294967296)≤4294967295*31:=Nat.mul_le_mul (by omega) (by omega);have f1':IntKind.u64.wrap ((d:Int)*((x%4294967296:Nat):Int))=((d*(x%4294967296):Nat):Int):=by rw[←Int.natCast_mul,gL (Int.natCast_nonneg _) (by omega)]
  have f2':IntKind.u64.wrap ((d:Int)*((x/4294967296:Nat):Int))=((d*(x/4294967296):Nat):Int):=by rw[←Int.natCast_mul,gL (Int.natCast_nonneg _) (by omega)]
  have ht:=aLz p i d hx';have hle:=zLP x (aMf p (i+1));have hsum:d*(x%4294967296)*4294967296^i+d*(x/4294967296)*4294967296^(i+1)=d*4294967296^i*x:=by
   have e:x%4294967296+x/4294967296*4294967296=x:=by omega
   calc d*(x%4294967296)*4294967296^i+d*(x/4294967296)*4294967296^(i+1)
     =d*4294967296^i*(x%4294967296+x/4294967296*4294967296):=by rw[zLR,Nat.mul_add];ac_rfl
    _=_:=by rw[e]
  have htx:jT (p.take (i+1))*x=jT (p.take i)*x+d*4294967296^i*x:=by rw[ht,zLF]
  simp only[lw,g1,p1,p2,f1',cE,reduceIte];refine aQc O' hd' i _ (by omega) (by omega) (by rw[hl',hv];omega) (by omega) λh3 l3 O3 hd3 hl3 hv3 u3=>?_;have Sw3:=Sw.upd u3 hF1r;obtain⟨pb,q1,q2⟩:=aMA Sw3.slR hx';rw[p1] at q1;obtain rfl:pa=pb:=by simpa using q1
  simp only[gi,p1,q2,f2',cE,reduceIte];refine aQc O3 hd3 (i+1) _ (by omega) (by omega) (by rw[hl3,hl',hv3,hv];omega) (by omega) λh4 l4 O4 hd4 hl4 hv4 u4=>?_
  try simp only[gi,cE,reduceIte]
  refine⟨⟨i+1,l4,by omega,rfl,O4,hd4,by omega,by rw[hv4,hv3,hv];omega,(u.trans u3).trans u4⟩,?_⟩;simp only[gV,rZ,pU];omega
 ·have g1:((i:Int)<(p.length:Int))=False:=eq_false (by omega);simp only[lw,g1,cE,reduceIte];rw[mX (by omega)] at hv;exact hk h' _ l' [r] O' hd' (by omega) (by rw[hv,hv1]) (eN.one hr0) ((u1.trans u2).fresh u (eN.one hr0))
end
end Go.Proofs.YtppgkeodaejgcaaGreatDoor
