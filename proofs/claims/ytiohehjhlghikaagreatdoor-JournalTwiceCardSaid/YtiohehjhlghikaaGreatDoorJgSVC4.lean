/- The texts of this claim, put together. -/
import Derived.Test.YtiohehjhlghikaaGreatDoorJgSVC3
import Derived.WalkKit
import Derived.ProofKit
import Derived.ChangeMaps5
import Derived.Lib.UnsafeStr
set_option linter.all false
set_option maxRecDepth 100000
open Go.Instr (loadAt fieldAt indexAt extract buildSlice build)
namespace Go.Proofs.YtiohehjhlghikaaGreatDoor
section
open Go
def eB{x:Int}(h1: -9223372036854775808≤x)(h2:x≤9223372036854775807):IntKind.i64.wrap x=x:=IntWalk.i64_in _ ⟨h1,h2⟩
def nR{i:Nat}(h:i<9223372036854775807):IntKind.i64.wrap ((i:Int)+1)=((i+1:Nat):Int):=by rw[eB (by omega) (by omega)];omega
def fT(n:Nat)(i:Nat):List Value->PH->Nat:=λvs _=>match vs[i]? with
 | some (.int _ j)=>n-j.toNat
 | _=>0
def eD(h:PH)(F:List Nat):Prop:=∀b∈F,h b=none
def eD.one{h:PH}{a:Nat}(ha:h a=none):eD h [a]:=λb hb=>by simp at hb;subst hb;exact ha
def dA.none{h h1:PH}(u:dA h h1){b:Nat}(hb:h1 b=none):h b=none:=by
 cases e:h b with
 | none=>rfl
 | some o=>rw[u.get e] at hb;cases hb
def eD.grow{h h1:PH}{F F':List Nat}(f:eD h F)(u:dA h h1)(hg:∀b∈F',b∈F∨h1 b=none):eD h F':=λb hb=>by
 rcases hg b hb with h1|h1
 ·exact f b h1
 ·exact u.none h1
def eD.of{h h1:PH}{F:List Nat}(f:eD h1 F)(u:dA h h1):eD h F:=λb hb=>u.none (f b hb)
def dA.trans{h h1 h2:PH}(u:dA h h1)(v:dA h1 h2):dA h h2:=cX.trans u v
def dA.fresh{h h1 h2:PH}{F:List Nat}(u:dA h h1)(v:cX F h1 h2)(f:eD h F):dA h h2:=λb o hb _=>
 v b o (u.get hb) λhm=>by rw[f b hm] at hb;cases hb
def eH.ext{h h':PH}{e:TypeId}{size:Nat}{v:Value}{rows:List (List Value)}{F:List Nat}(H:eH h e size v rows F)(u:dA h h'):eH h' e size v rows F:=H.upd u (by simp)
def iB{α:Type}{v:α}{k:α->Prop}(hk:k v):bY (cB PG (pure v)) k:=hk
def kI{x:Int}(h1:0≤x)(h2:x<18446744073709551616):IntKind.u64.wrap x=x:=by
 unfold IntKind.wrap;simp[IntKind.signed,IntKind.bits];omega
def aJV(x:Int):IntKind.u8.wrap x=x%256:=by
 unfold IntKind.wrap;simp[IntKind.signed,IntKind.bits]
def aBv:yV undef=none:=(rfl)
def aAc{X:(Value->PH->Prop)->Prop}{h:PH}{kv:cE}{w:Bool}:eZ none w X h kv=kv undef h:=by simp[eZ]
def cC:type_of% @iO∧type_of% @cR∧type_of% @aNT∧type_of% @aJe∧type_of% @aJG∧type_of% @aNi∧type_of% @aNd∧type_of% @aRG∧type_of% @aQ8∧type_of% @aNg∧type_of% @aN7∧type_of% @aNm∧type_of% @aM7∧type_of% @aJr∧type_of% @aUM∧type_of% @aKv∧type_of% @nU∧type_of% @aSx∧type_of% @aS1∧type_of% @aPI∧type_of% @aTs∧type_of% @aTL∧type_of% @aLW∧type_of% @aLS∧type_of% @aIe∧type_of% @aIo∧type_of% @aOs∧type_of% @gA∧type_of% @eI∧type_of% @aD6∧type_of% @decide_true∧type_of% @decide_false∧type_of% @if_true.{0}∧type_of% @if_true.{1}∧type_of% @if_false.{0}∧type_of% @if_false.{1}∧type_of% @Bool.false_eq_true∧type_of% @Bool.not_true∧type_of% @Bool.not_false∧type_of% @List.getElem?_toArray.{0}∧type_of% @List.getElem?_cons_zero.{0}∧type_of% @List.getElem?_cons_succ.{0}∧type_of% @Option.isSome_none.{0}∧type_of% @List.length_map.{0,0}∧type_of% @zPP:=⟨@iO,@cR,@aNT,@aJe,@aJG,@aNi,@aNd,@aRG,@aQ8,@aNg,@aN7,@aNm,@aM7,@aJr,@aUM,@aKv,@nU,@aSx,@aS1,@aPI,@aTs,@aTL,@aLW,@aLS,@aIe,@aIo,@aOs,@gA,@eI,@aD6,@decide_true,@decide_false,@if_true.{0},@if_true.{1},@if_false.{0},@if_false.{1},@Bool.false_eq_true,@Bool.not_true,@Bool.not_false,@List.getElem?_toArray.{0},@List.getElem?_cons_zero.{0},@List.getElem?_cons_succ.{0},@Option.isSome_none.{0},@List.length_map.{0,0},@zPP⟩
def cI:type_of% @aBv∧type_of% @aAc∧type_of% @Nat.zero_add∧type_of% @beq_self_eq_true.{0}∧type_of% @bne_self_eq_false.{0}∧type_of% @and_self∧type_of% @Bool.true_and∧type_of% @Bool.false_and∧type_of% @Bool.and_true∧type_of% @Bool.and_false∧type_of% @Bool.true_or∧type_of% @Bool.false_or∧type_of% @Bool.or_true∧type_of% @Bool.or_false:=⟨@aBv,@aAc,@Nat.zero_add,@beq_self_eq_true.{0},@bne_self_eq_false.{0},@and_self,@Bool.true_and,@Bool.false_and,@Bool.and_true,@Bool.and_false,@Bool.true_or,@Bool.false_or,@Bool.or_true,@Bool.or_false⟩
end
section
open Go Go.RowKit Go.ChangeShapes
def aYF:Kids PG (· < PG.types.size):=kids_rows (by kernel_rfl) (by kernel_rfl)
def aXc:∀t e,t<PG.types.size->PG.underlying t=some (.slice e)->0<PG.cellsOf e:=slices_full_of PG (by kernel_rfl)
def aUm{H:Type}{enc:TypeId×Value->H}{P:Program}{w:World}{spare:Nat->Bool}{held:Bool}{t:TypeId}{v:Value}{d:DataW H}{p:List MemPlace}(hd:DataW.Trod enc P w 0 spare held t v d p):Rd enc P w spare held t v.cells.toList:=by
 obtain⟨k,hk⟩:=hd;exact⟨k,_,hk⟩
def aPP{n:Int}(h:(Lit.int .u64 n).wf=true):0≤n∧n<18446744073709551616:=by
 simp[Lit.wf,IntKind.min,IntKind.max,IntKind.signed,IntKind.bits] at h;omega
def aXI{n:Int}(h:(Lit.int .i64 n).wf=true): -9223372036854775808≤n∧n<9223372036854775808:=by
 simp[Lit.wf,IntKind.min,IntKind.max,IntKind.signed,IntKind.bits] at h;omega
end
section
open Go
abbrev W:=BitVec 32
def wv(x:W):Value:=.int .u32 (x.toNat:Int)
def w4(a b c d:UInt8):W:=((((BitVec.ofNat 32 a.toNat) <<< 24) ||| ((BitVec.ofNat 32 b.toNat) <<< 16)) ||| ((BitVec.ofNat 32 c.toNat) <<< 8)) ||| (BitVec.ofNat 32 d.toNat)
structure S8 where
 (a b c d e f g h:W)
def S0:S8:=⟨1779033703,3144134277,1013904242,2773480762,1359893119,2600822924,528734635,1541459225⟩
section
variable{P:Program}{t:TypeId}{x y:W}{h:PH}
def aGA(x:Int):IntKind.u32.wrap x=x%4294967296:=by
 rfl
def aGq(x:W):BitVec.ofInt 32 (x.toNat:Int)=x:=by
 apply BitVec.eq_of_toInt_eq;rw[BitVec.toInt_ofInt,BitVec.toInt_eq_toNat_bmod]
def aQK(x:W):IntKind.u32.wrap (x.toNat:Int)=x.toNat:=by
 rw[aGA];have:=x.isLt;omega
def aYV:cB P (binOp .and t (wv x) (wv y))=some (wv (x &&& y)):=by
 have e:cB P (binOp .and t (wv x) (wv y))=some (.int .u32 (IntKind.u32.wrap ((BitVec.ofInt 32 (x.toNat:Int) &&& BitVec.ofInt 32 (y.toNat:Int)).toNat:Int))):=rfl;rw[e,aGq,aGq,aQK];rfl
def aPA:cB P (binOp .xor t (wv x) (wv y))=some (wv (x ^^^ y)):=by
 have e:cB P (binOp .xor t (wv x) (wv y))=some (.int .u32 (IntKind.u32.wrap ((BitVec.ofInt 32 (x.toNat:Int) ^^^ BitVec.ofInt 32 (y.toNat:Int)).toNat:Int))):=rfl;rw[e,aGq,aGq,aQK];rfl
def aYX:cB P (Op.unary .xor (wv x))=some (wv (~~~x)):=by
 have e:cB P (Op.unary .xor (wv x))=some (.int .u32 (IntKind.u32.wrap ((BitVec.ofInt 32 4294967295 ^^^ BitVec.ofInt 32 (x.toNat:Int)).toNat:Int))):=rfl;rw[e,aGq,aQK];have:BitVec.ofInt 32 4294967295 ^^^ x= ~~~x:=by
  have:BitVec.ofInt 32 4294967295=BitVec.allOnes 32:=by decide
  rw[this,BitVec.allOnes_xor]
 rw[this];rfl
def aSN{k:IntKind}{n:Nat}(hn:n≤32):cB P (binOp .shr t (wv x) (.int k n))=some (wv (x>>>n)):=by
 unfold wv;rw[aP5 (by omega)];congr 2;rw[BitVec.toNat_ushiftRight,Nat.shiftRight_eq_div_pow];have e:min ((n:Int).toNat) (IntKind.u32.bits)=n:=by
  show min n 32=n;omega
 rw[e,Int.fdiv_eq_ediv_of_nonneg _ (Int.pow_nonneg (by decide)),Int.natCast_ediv,Int.natCast_pow];rfl
end
section
variable{P:Program}{h:PH}{t t' kt et:TypeId}{α:Type}[DecidableEq α]{enc:α->Value}
def aN2(l:List (α×Value))(a:α):List (α×Value):=l.filter λp=>decide (p.1≠a)
def aKq{β:Type}:∀(L:List (α×β)) (a:α) (q:Nat),(L.map (·.1)).Nodup->(L.map (·.1))[q]? =some a->L.eraseIdx q=L.filter λp=>decide (p.1≠a)
 | [],a,q,_,hq=>by simp at hq
 | p::ps,a,0,hnd,hq=>by
  simp only[iG,zLK,zL4] at hq;simp only[iG,aF7] at hnd;simp only[List.eraseIdx_cons_zero,zLr,hq,ne_eq,not_true,decide_false,zLs,if_false];symm;rw[aME];intro x hx;simp only[decide_eq_true_eq];rintro e;exact hnd.1 (by rw[hq,←e];exact zL3 hx)
 | p::ps,a,q+1,hnd,hq=>by
  simp only[iG,zLL] at hq;simp only[iG,aF7] at hnd;have hne:p.1≠a:=λe=>hnd.1 (by rw[e];exact zX hq);simp only[List.eraseIdx_cons_succ,zLr,hne,ne_eq,not_false_eq_true,decide_true,if_true];rw[aKq ps a q hnd.2 hq]
def aLK{β γ:Type}(f:β->γ):∀(L:List β) (q:Nat),(L.map f).eraseIdx q=(L.eraseIdx q).map f
 | [],_=>rfl
 | _::_,0=>rfl
 | x::xs,q+1=>by simp only[iG,List.eraseIdx_cons_succ,aLK f xs q]
def aOl{β:Type}:∀(D L:List β),D.Nodup->(∀p∈D,p∈L)->D.length≤L.length
 | [],_,_,_=>kT _
 | p::ps,L,hn,hs=>by
  obtain⟨a,b,rfl⟩:=List.append_of_mem (hs p (by simp));simp only[aF7] at hn;have:=aOl ps (a++b) hn.2 λq hq=>by
   have:=hs q (by simp[hq]);simp only[tK,iW] at this ⊢;rcases this with h|rfl|h
   ·exact .inl h
   ·exact absurd hq hn.1
   ·exact .inr h
  simp only[iU,jM] at this ⊢;omega
def aSa{a:α}{L:List (α×Value×Nat)}(e2:a∉L.map (·.1)):(L.filter λp=>decide (p.1≠a))=L:=by
 rw[aME];intro x hx;simp only[decide_eq_true_eq];rintro e;exact e2 (by rw[←e];exact zL3 hx)
def aNw(L:List (α×Value×Nat))(a:α):aN2 (L.map λp=>(p.1,p.2.1)) a=(L.filter λp=>decide (p.1≠a)).map λp=>(p.1,p.2.1):=by
 unfold aN2;rw[List.filter_map];rfl
def aWO{r:Nat}{l:List (α×Value)}(K:aLY P kt enc)(hu:P.underlying t=some (.map kt et))(H:oU enc h r l)(a:α){ts:Array TypeId}(hts:ts[0]? =some t){k:cE}
  (hk:∀h',oU enc h' r (aN2 l a)->cX [r] h h'->k (.tuple #[]) h'):cN P (Builtin.delete_ ts t' #[.map (some r),enc a]) h k:=by
 obtain⟨es,c,L,h1,h2,rfl,hb1,hb2⟩:=H.here;have hnd:=H.nodup;rw[aBy] at hnd;unfold Builtin.delete_;simp only[hts,List.getElem?_toArray,zLK,zLL];show cN P (underlying t >>= _) h _;rw[sO hu];dsimp only;refine aD0 h1 ?_;dsimp only;refine gZ (K.chk h _ a) ?_;rw[h2];refine gZ (aJh K a L) ?_;have hnd2:(aCu (aN2 (L.map λp=>(p.1,p.2.1)) a)).Nodup:=by
  rw[aNw,aBy];exact List.Nodup.sublist (List.Sublist.map _ List.filter_sublist) hnd
 have hb3:((L.filter λp=>decide (p.1≠a)).map (·.2.2)).Nodup:=List.Nodup.sublist (List.Sublist.map _ List.filter_sublist) hb1;have hb4:∀p∈L.filter λp=>decide (p.1≠a),p.2.2<c:=λp hp=>hb2 p (zLY.1 hp).1;rcases aMD a L 0 with⟨q,w,e1,e2,e3⟩|⟨e1,e2⟩
 ·rw[e1,iZ];show(∃u,h r=some u∧(∀c e f,u≠ .cells c e f))∧_;refine⟨⟨_,h1,by intros;simp⟩,?_⟩;show k (.tuple #[]) _;refine hk _ ⟨hnd2,_,c,L.filter (λp=>decide (p.1≠a)),eN,?_,aNw L a,hb3,hb4⟩ (cX.set (by simp));rw[←aKq L a q hnd e2];have hq:q<es.size:=by
   rw[←Array.length_toList,h2];have:=(zLA.1 e2).1;simpa[aBO] using this
  rw[Array.eraseIdxIfInBounds,dif_pos hq,Array.toList_eraseIdx,h2];unfold aBO;exact aLK _ _ _
 ·rw[e1];show(∃u,h r=some u∧(∀c e f,u≠ .cells c e f))∧_;refine⟨⟨_,h1,by intros;simp⟩,?_⟩;show k (.tuple #[]) _;refine hk _ ⟨hnd2,_,c,L,eN,h2,?_,hb1,hb2⟩ (cX.set (by simp));rw[aNw,aSa e2]
structure aCo(enc:α->Value)(h:PH)(r it:Nat)(l D:List (α×Value)):Prop where
 nodup:(aCu l).Nodup
 here:∃(es:Array MapEntry) (c:Nat) (L DL:List (α×Value×Nat)) (S:Array Nat),h r=some (.map es c)∧es.toList=aBO enc L∧l=L.map (λp=>(p.1,p.2.1))∧(L.map (·.2.2)).Nodup∧(∀p∈L,p.2.2<c)∧
  h it=some (.mapIter (some r) c S c)∧S.toList=DL.map (·.2.2)∧(∀p∈DL,p∈L)∧DL.Nodup∧D=DL.map (λp=>(p.1,p.2.1))
def aCo.upd{h h':PH}{r it:Nat}{l D:List (α×Value)}{G:List Nat}(H:aCo enc h r it l D)(u:cX G h h')(hr:r∉G)(hi:it∉G):aCo enc h' r it l D:=by
 obtain⟨es,c,L,DL,S,h1,h2,h3,h4,h5,h6,h7⟩:=H.here;exact⟨H.nodup,es,c,L,DL,S,u.get h1 hr,h2,h3,h4,h5,u.get h6 hi,h7⟩
def aCo.known{r it:Nat}{l D:List (α×Value)}(H:aCo enc h r it l D):h it≠none:=by
 obtain⟨es,c,L,DL,S,h1,h2,h3,h4,h5,h6,_⟩:=H.here;rw[h6];simp
def aP4(n:Nat)(it:Nat)(h:PH):Nat:=match h it with
 | some (.mapIter _ _ S _)=>n-S.size
 | _=>0
def aCo.left{r it:Nat}{l D:List (α×Value)}(H:aCo enc h r it l D)(n:Nat):aP4 n it h=n-D.length:=by
 obtain⟨es,c,L,DL,S,h1,h2,h3,h4,h5,h6,h7,_,_,h8⟩:=H.here;unfold aP4;rw[h6];have:S.size=D.length:=by rw[←Array.length_toList,h7,h8];simp
 simp only[this]
def aCo.le{r it:Nat}{l D:List (α×Value)}(H:aCo enc h r it l D):D.length≤l.length:=by
 obtain⟨es,c,L,DL,S,h1,h2,rfl,h4,h5,h6,h7,h9,h10,rfl⟩:=H.here;rw[iL,iL];exact aOl _ _ h10 h9
def aUz{r:Nat}{l:List (α×Value)}(hu:P.underlying t=some (.map kt et))(H:oU enc h r l){k:cE}
  (hk:∀it h',h it=none->aCo enc h' r it l []->dA h h'->k (pT it 0) h'):cN P (Instr.range t (.map (some r))) h k:=by
 obtain⟨es,c,L,h1,h2,rfl,hb1,hb2⟩:=H.here;unfold Instr.range;show cN P (underlying t >>= _) h _;rw[sO hu];have key:∀(X:Sem Obj) (f:Obj->Sem Value),cN P X h (λo h'=>cN P (f o) h' k)->cN P (X >>= f) h k:=λX f hX=>cN.bind (P:=P) (s:=X) hX;refine key _ _ ?_;refine aD0 h1 ?_;intro it hit;exact hk it _ hit ⟨H.nodup,es,c,L,[],#[],aQs hit h1,h2,rfl,hb1,hb2,eN,rfl,by simp,by simp,rfl⟩ (cX.new hit)
def aLN{β γ:Type}(f:β->γ):∀{L:List β},(L.map f).Nodup->L.Nodup
 | [],_=>List.nodup_nil
 | x::xs,hnd=>by
  simp only[iG,aF7] at hnd ⊢;exact⟨λhm=>hnd.1 (zL3 hm),aLN f hnd.2⟩
def aGh{β γ:Type}{f:β->γ}:∀{L:List β},(L.map f).Nodup->∀{p q:β},p∈L->q∈L->f p=f q->p=q
 | [],_,p,q,hp,_,_=>by cases hp
 | x::xs,hnd,p,q,hp,hq,e=>by
  simp only[iG,aF7] at hnd;rcases iW.1 hp with hp|hp
  ·rcases iW.1 hq with hq|hq
   ·rw[hp,hq]
   ·exact absurd (by rw[←hp,e];exact zL3 hq) hnd.1
  ·rcases iW.1 hq with hq|hq
   ·exact absurd (by rw[←hq,←e];exact zL3 hp) hnd.1
   ·exact aGh hnd.2 hp hq e
def aOi{r:Nat}{o:Obj}{β:Type}{Q:β->PH->Prop}(hr:h r=some o)(hc:∀c e f,o≠ .cells c e f){f:Obj->Sem β}(hq:cN P (f o) h Q):cN P (getObj r >>= f) h Q:=by
 show ∃o,h r=some o∧(∀c e f,o≠ .cells c e f)∧cN P _ h Q;exact⟨o,hr,hc,hq⟩
def aWd{r it:Nat}{l D:List (α×Value)}(H:aCo enc h r it l D){k:cE}
  (hnil:D.Perm l->k (.tuple #[.bool false]) h)
  (hcons:∀a v h',(a,v)∈l->a∉aCu D->aCo enc h' r it l (D++[(a,v)])->cX [it] h h'->k (.tuple #[.bool true,enc a,v]) h'):cN P (Instr.next (pT it 0) false t) h k:=by
 obtain⟨es,c,L,DL,S,h1,h2,h3,hb1,hb2,hi,hS,hDL,hDn,hD⟩:=H.here;unfold Instr.next;refine aOi hi (by intros;simp) ?_;dsimp only;refine aD0 h1 ?_;dsimp only;have hborn:∀e∈es.toList,e.born<c:=λe he=>by
  rw[h2] at he;obtain⟨p,hp,rfl⟩:=pQ.1 he;exact hb2 p hp
 have hgo:(!S.isEmpty && !es.isEmpty&&es.all (·.born ≥ c))=false:=by
  by_cases he:es.isEmpty=true
  ·simp[he]
  ·have:es.all (·.born ≥ c)=false:=by
    rw[Bool.eq_false_iff];intro hall;have hne:es.toList≠[]:=by intro e;apply he;simpa using e
    obtain⟨x,xs,hx⟩:=List.exists_cons_of_ne_nil hne;have h1:=hborn x (by rw[hx];simp);have h2:=Array.all_eq_true_iff_forall_mem.1 hall x (by rw[←Array.mem_toList_iff,hx];simp);simp only[ge_iff_le,decide_eq_true_eq] at h2;omega
   simp[this]
 rw[hgo];simp only[zLs,if_false];obtain⟨LL,hLL⟩:∃LL:List (α×Value×Nat),LL=L.filter λp=>decide (p.2.2∉DL.map (·.2.2)):=⟨_,rfl⟩;have hleft:(es.filter λe=>!S.contains e.born).toList=aBO enc LL:=by
  rw[Array.toList_filter,h2,hLL];unfold aBO;rw[List.filter_map];congr 1;apply List.filter_congr;intro p _;simp only[Function.comp];rw[←Array.contains_toList,hS];by_cases hm:p.2.2∈DL.map (·.2.2)
  ·simp[hm]
  ·simp[hm]
 have hmemLL:∀p,p∈LL↔p∈L∧p.2.2∉DL.map (·.2.2):=λp=>by rw[hLL,zLY];simp
 have hold:((es.filter λe=>!S.contains e.born).filter (·.born<c)).toList=aBO enc LL:=by
  rw[Array.toList_filter,hleft,aME];intro e he;obtain⟨p,hp,rfl⟩:=pQ.1 he;simpa using hb2 p ((hmemLL p).1 hp).1
 have hnew:((es.filter λe=>!S.contains e.born).filter (·.born ≥ c))= #[]:=by
  rw[←Array.toList_inj,Array.toList_filter,hleft];show _=[];rw[List.filter_eq_nil_iff];intro e he;obtain⟨p,hp,rfl⟩:=pQ.1 he;have:=hb2 p ((hmemLL p).1 hp).1;simp only[ge_iff_le,decide_eq_true_eq];omega
 generalize ho:(es.filter λe=>!S.contains e.born).filter (·.born<c)=old at hold;rw[hnew];simp only[Array.append_empty];by_cases hemp:LL=[]
 ·have hold0:old= #[]:=by rw[←Array.toList_inj,hold,hemp];rfl
  subst hold0;simp only[List.isEmpty_toArray,List.isEmpty_nil,if_true,List.map_toArray,jB,Array.append_empty,List.size_toArray,iU,kV,iZ];rw[aAn];intro tt;have:(if Question.forced (.mapNext 1) then 0 else Question.cut (.mapNext 1) tt)=0:=by simp[Question.forced]
  rw[this];show k (.tuple #[.bool false]) h;refine hnil ?_;rw[hD,h3];apply List.Perm.map;refine(List.perm_ext_iff_of_nodup hDn ?_).2 λp=>⟨hDL p,λhp=>?_⟩
  ·exact aLN _ hb1
  ·by_cases hm:p.2.2∈DL.map (·.2.2)
   ·obtain⟨q,hq,e⟩:=pQ.1 hm;rw[aGh (f:=λp:α×Value×Nat=>p.2.2) hb1 hp (hDL q hq) e.symm];exact hq
   ·have:=(hmemLL p).2 ⟨hp,hm⟩;rw[hemp] at this;cases this
 ·have hne:old.isEmpty=false:=by
   rw[Bool.eq_false_iff];intro e;have:old.toList=[]:=by simpa using e
   rw[hold] at this;exact hemp (List.map_eq_nil_iff.1 this)
  rw[hne];simp only[zLs,if_false,Array.empty_append,Array.size_map];have hpos:0<old.size:=by
   rw[←Array.length_toList,hold];unfold aBO;rw[iL];exact aJ6.2 hemp
  rw[aAn];intro tt;obtain⟨j,hj,hjlt⟩:∃j,(if Question.forced (.mapNext old.size) then 0 else Question.cut (.mapNext old.size) tt)=j∧j<old.size:=by
   refine⟨_,rfl,?_⟩;split
   ·exact hpos
   ·exact zLB _ hpos
  rw[hj];have hjl:j<LL.length:=by
   have:old.size=LL.length:=by rw[←Array.length_toList,hold];simp[aBO]
   omega
  have hget:(old.map some)[j]? =some (some ⟨enc LL[j].1,LL[j].2.1,LL[j].2.2⟩):=by
   rw[Array.getElem?_map,←aLO,hold];simp[aBO,hjl]
  rw[hget];dsimp only;have hp:=(hmemLL LL[j]).1 (aHO hjl);generalize LL[j]=p at hp;obtain⟨hpL,hpD⟩:=hp;show(∃u,h it=some u∧(∀c e f,u≠ .cells c e f))∧_;refine⟨⟨_,hi,by intros;simp⟩,?_⟩;have hri:r≠it:=λe=>by rw[e,hi] at h1;cases h1
  refine hcons p.1 p.2.1 _ ?_ ?_ ⟨H.nodup,es,c,L,DL++[p],S.push p.2.2,(by rw[aAD hri];exact h1),h2,h3,hb1,hb2,eN,?_,?_,?_,?_⟩ (cX.set (by simp))
  ·rw[h3];exact zL3 hpL
  ·intro hm;rw[hD,aBy] at hm;obtain⟨q,hq,e⟩:=pQ.1 hm;have hnd:=H.nodup;rw[h3,aBy] at hnd;have hqL:=hDL q hq;have:q=p:=aGh (f:=λp:α×Value×Nat=>p.1) hnd hqL hpL e;exact hpD (by rw[←this];exact zL3 hq)
  ·rw[Array.toList_push,hS];simp
  ·intro q hq;rcases tK.1 hq with hq|hq
   ·exact hDL q hq
   ·simp only[iC] at hq;subst hq;exact hpL
  ·rw[List.nodup_append];refine⟨hDn,by simp,?_⟩;intro x hx y hy;simp only[iC] at hy;subst hy;rintro rfl;exact hpD (zL3 hx)
  ·rw[hD];simp
def aUl{r it:Nat}{l D:List (α×Value)}{a:α}{v:Value}(H:aCo enc h r it l (D++[(a,v)])){k:cE}(hk:k (.tuple #[enc a,v]) h):cN P (Instr.entry (pT it 0)) h k:=by
 obtain⟨es,c,L,DL,S,h1,h2,h3,hb1,hb2,hi,hS,hDL,hDn,hD⟩:=H.here;obtain⟨DL',p,rfl,hp1⟩:∃DL' p,DL=DL'++[p]∧(a,v)=(p.1,p.2.1):=by
  rcases List.eq_nil_or_concat DL with rfl|⟨DL',p,rfl⟩
  ·simp at hD
  ·refine⟨DL',p,by simp,?_⟩;simp only[List.concat_eq_append,xJ,iG,jB] at hD;have:=List.append_inj_right' hD rfl;simpa using this
 simp only[Prod.mk.injEq] at hp1;obtain⟨rfl,rfl⟩:=hp1;have hpL:=hDL p (by simp);unfold Instr.entry;refine aOi hi (by intros;simp) ?_;dsimp only;have hback:S.back? =some p.2.2:=by
  rw[←Array.getLast?_toList,hS];simp
 rw[hback];dsimp only;refine aD0 h1 ?_;dsimp only;simp only[bne_self_eq_false,zLs,if_false];have hfind:es.find? (·.born==p.2.2)=some ⟨enc p.1,p.2.1,p.2.2⟩:=by
  rw[←Array.find?_toList,h2];unfold aBO;rw[List.find?_map];have:L.find? ((λe:MapEntry=>e.born==p.2.2) ∘ λp=>⟨enc p.1,p.2.1,p.2.2⟩)=some p:=by
   cases hf:L.find? ((λe:MapEntry=>e.born==p.2.2) ∘ λp=>⟨enc p.1,p.2.1,p.2.2⟩) with
   | none=>
    rw[List.find?_eq_none] at hf;have:=hf p hpL;simp at this
   | some q=>
    have hq:=List.mem_of_find?_eq_some hf;have he:=List.find?_some hf;simp only[Function.comp,beq_iff_eq] at he;rw[aGh (f:=λp:α×Value×Nat=>p.2.2) hb1 hq hpL he]
  rw[this];rfl
 rw[hfind];exact hk
end
structure Pk where
 f:Int
 s:Int
 t:Int
 d:ByteArray
 deriving DecidableEq
instance:Inhabited Pk:=⟨⟨0,0,0,⟨#[]⟩⟩⟩
def Pk.cells(p:Pk):List Value:=[.int .i64 p.f,.int .u64 p.s,.int .u64 p.t,.string p.d]
def Pk.allCell(p:Pk):∀v∈p.cells.toArray.toList,fL v=true:=by simp[Pk.cells,fL]
def Bx.pk{h:PH}{r:Nat}{cs:List Value}(H:Bx h r cs){o:Nat}{p:Pk}(ho:(cs.drop o).take 4=p.cells):cD PG h (loadAt bX (pT r o))=some (.agg p.cells.toArray):=by
 obtain⟨e,h1⟩:=H;have hl:o+4≤cs.length:=by
  have:((cs.drop o).take 4).length=4:=by rw[ho];rfl
  rw[lU,jC] at this;omega
 rw[bX.loadAgg h1 (by simpa using hl)];congr 2;rw[←ho];simp[zLy]
def Pk.right(p:Pk):Bool:=decide (0≤p.f)&&decide (p.f≤1)&&decide (p.s≠0)&&decide (p.t≠0)&&decide (p.d.size≤64)
def aJn{h:PH}(p:Pk){k:cE}(hk:∀h',dA h h'->k (.int .i64 (if p.right then 0 else 1)) h'):bT PG vR #[.agg p.cells.toArray] h k:=by
 apply aFn.call;unfold aFn;intro r hr;rw[cR];have u:dA h (h.set r (.cells (Value.cells (.agg p.cells.toArray)) bX)):=cX.new hr;have b:Bx (h.set r (.cells (Value.cells (.agg p.cells.toArray)) bX)) r p.cells:=Bx.new;generalize h.set r (.cells (Value.cells (.agg p.cells.toArray)) bX)=h1 at *;have c0:cV h1 ⟨r,0,none⟩=some (.int .i64 p.f):=b.cell 0;have c1:cV h1 ⟨r,0+1,none⟩=some (.int .u64 p.s):=b.cell 1;have c2:cV h1 ⟨r,0+2,none⟩=some (.int .u64 p.t):=b.cell 2;have c3:cV h1 ⟨r,0+3,none⟩=some (.string p.d):=b.cell 3;have hk:=hk h1 u;unfold Pk.right at hk;simp only[bX.f0,bX.f1,bX.f2,bX.f3,aR.load,cJ.load,aT.load,c0,cC,reduceIte];by_cases d1:p.f<0
 ·have e1:(0≤p.f)=False:=by apply eq_false;omega
  simp only[bX.f0,bX.f1,bX.f2,bX.f3,aR.load,cJ.load,aT.load,c0,d1,e1,zLn,decide_false,cC,reduceIte] at hk ⊢;exact hk
 ·have e1:(0≤p.f)=True:=by apply eq_true;omega
  by_cases d2:1<p.f
  ·have e2:(p.f≤1)=False:=by apply eq_false;omega
   simp only[bX.f0,bX.f1,bX.f2,bX.f3,aR.load,cJ.load,aT.load,c0,d1,e1,d2,e2,zLn,aI3,decide_false,cC,reduceIte] at hk ⊢;exact hk
  ·have e2:(p.f≤1)=True:=by apply eq_true;omega
   by_cases d3:p.s=0
   ·have e3:(p.s==0)=true:=by simp[d3]
    have e3':(p.s≠0)=False:=by simp[d3]
    simp only[bX.f0,bX.f1,bX.f2,bX.f3,aR.load,cJ.load,aT.load,c0,d1,e1,d2,e2,c1,e3,e3',zLn,aI3,decide_false,cC,reduceIte] at hk ⊢;exact hk
   ·have e3:(p.s==0)=false:=by simp[d3]
    have e3':(p.s≠0)=True:=by simp[d3]
    by_cases d4:p.t=0
    ·have e4:(p.t==0)=true:=by simp[d4]
     have e4':(p.t≠0)=False:=by simp[d4]
     simp only[bX.f0,bX.f1,bX.f2,bX.f3,aR.load,cJ.load,aT.load,c0,d1,e1,d2,e2,c1,e3,e3',c2,e4,e4',zLn,aI3,decide_false,cC,reduceIte] at hk ⊢;exact hk
    ·have e4:(p.t==0)=false:=by simp[d4]
     have e4':(p.t≠0)=True:=by simp[d4]
     by_cases d5:p.d.size≤64
     ·have e5:((64:Int)<(p.d.size:Int))=False:=by apply eq_false;omega
      simp only[bX.f0,bX.f1,bX.f2,bX.f3,aR.load,cJ.load,aT.load,c0,d1,e1,d2,e2,c1,e3,e3',c2,e4,e4',c3,uZ aT.und,e5,d5,Bool.and_self,zLo,cC,reduceIte] at hk ⊢;exact hk
     ·have e5:((64:Int)<(p.d.size:Int))=True:=by apply eq_true;omega
      simp only[bX.f0,bX.f1,bX.f2,bX.f3,aR.load,cJ.load,aT.load,c0,d1,e1,d2,e2,c1,e3,e3',c2,e4,e4',c3,uZ aT.und,e5,d5,aI3,decide_false,cC,reduceIte] at hk ⊢;exact hk
structure Nt where
 k:Int
 p:Pk
 deriving DecidableEq
def Nt.cells(n:Nt):List Value:=[.int .i64 n.k,.int .i64 n.p.f,.int .u64 n.p.s,.int .u64 n.p.t,.string n.p.d]
def Nt.rows(l:List Nt):Rows 5 (l.map Nt.cells):=λr hr=>by obtain⟨m,_,rfl⟩:=pQ.1 hr;rfl
def Bx.nt{h:PH}{r:Nat}{n:Nt}(H:Bx h r n.cells):cD PG h (loadAt cL (pT r 0))=some (.agg n.cells.toArray):=by
 obtain⟨e,h1⟩:=H;rw[cL.loadAgg h1 (by show 0+5≤5;decide)];rfl
def Nt.right(n:Nt):Bool:=decide (1≤n.k)&&decide (n.k≤4)&&n.p.right
def aTc{h:PH}(n:Nt){k:cE}(hk:∀h',dA h h'->k (.int .i64 (if n.right then 0 else 1)) h'):bT PG aHF #[.agg n.cells.toArray] h k:=by
 apply aHk.call;unfold aHk;intro r hr;rw[cR];have u:dA h (h.set r (.cells (Value.cells (.agg n.cells.toArray)) cL)):=cX.new hr;have b:Bx (h.set r (.cells (Value.cells (.agg n.cells.toArray)) cL)) r n.cells:=Bx.new;generalize h.set r (.cells (Value.cells (.agg n.cells.toArray)) cL)=h1 at *;have c0:cV h1 ⟨r,0,none⟩=some (.int .i64 n.k):=b.cell 0;have p1:=b.pk (o:=0+1) (p:=n.p) rfl;unfold Nt.right at hk;simp only[cL.f0,cL.f1,aR.load,c0,cC,reduceIte];by_cases d1:n.k<1
 ·have e1:(1≤n.k)=False:=by apply eq_false;omega
  simp only[cL.f0,cL.f1,aR.load,c0,d1,e1,zLn,decide_false,cC,reduceIte] at hk ⊢;exact hk _ u
 ·have e1:(1≤n.k)=True:=by apply eq_true;omega
  by_cases d2:4<n.k
  ·have e2:(n.k≤4)=False:=by apply eq_false;omega
   simp only[cL.f0,cL.f1,aR.load,c0,d1,e1,d2,e2,zLn,aI3,decide_false,cC,reduceIte] at hk ⊢;exact hk _ u
  ·have e2:(n.k≤4)=True:=by apply eq_true;omega
   simp only[cL.f0,cL.f1,aR.load,c0,d1,e1,d2,e2,p1,zLo,cC,reduceIte] at hk ⊢;refine aJn n.p λh2 u2=>hk _ (u.trans u2)
structure It where
 p:Pk
 g:Int
 deriving DecidableEq
instance:Inhabited It:=⟨⟨default,0⟩⟩
def It.cells(i:It):List Value:=[.int .i64 i.p.f,.int .u64 i.p.s,.int .u64 i.p.t,.string i.p.d,.int .i64 i.g]
abbrev Ky:=Int×Int
def Pk.key(p:Pk):Ky:=(p.f,p.s)
def It.key(i:It):Ky:=i.p.key
def sL(k:Ky):Value:=.agg #[.int .i64 k.1,.int .u64 k.2]
def It.val(i:It):Value:=.agg i.cells.toArray
def It.allCell(p:It):∀v∈p.cells.toArray.toList,fL v=true:=by simp[It.cells,fL]
def It.rows(l:List It):Rows 5 (l.map It.cells):=λr hr=>by obtain⟨m,_,rfl⟩:=pQ.1 hr;rfl
def Bx.it{h:PH}{r:Nat}{n:It}(H:Bx h r n.cells):cD PG h (loadAt cF (pT r 0))=some n.val:=by
 obtain⟨e,h1⟩:=H;rw[cF.loadAgg h1 (by show 0+5≤5;decide)];rfl
def Bx.id{h:PH}{r:Nat}{k:Ky}(H:Bx h r [.int .i64 k.1,.int .u64 k.2]):cD PG h (loadAt fQ (pT r 0))=some (sL k):=by
 obtain⟨e,h1⟩:=H;rw[fQ.loadAgg h1 (by show 0+2≤2;decide)];rfl
def aDp(a b:Int):Int:=if a<b then -1 else if b<a then 1 else 0
def aNx{h:PH}(a b:Int){k:cE}(hk:k (.int .i64 (aDp a b)) h):bT PG aC8 #[.int .i64 a,.int .i64 b] h k:=by
 have hn:∀(x:Int) {k':cE},k' (.bool false) h->bT PG aCC #[.int .i64 x] h k':=λx k' hk'=>by
  apply aED.call;unfold aED;have e:(x !=x)=false:=by simp
  simp only[e,cC,reduceIte];exact hk'
 apply aCx.call;unfold aCx;refine hn a (hn b ?_);unfold aDp at hk;by_cases h1:a<b
 ·simp only[h1,cC,reduceIte] at hk ⊢;exact hk
 ·by_cases h2:b<a
  ·simp only[h1,h2,cC,reduceIte] at hk ⊢;exact hk
  ·simp only[h1,h2,cC,reduceIte] at hk ⊢;exact hk
def aLj{h:PH}(a b:Int){k:cE}(hk:k (.int .i64 (aDp a b)) h):bT PG aBU #[.int .u64 a,.int .u64 b] h k:=by
 have hn:∀(x:Int) {k':cE},k' (.bool false) h->bT PG zO #[.int .u64 x] h k':=λx k' hk'=>by
  apply aBl.call;unfold aBl;have e:(x !=x)=false:=by simp
  simp only[e,cC,reduceIte];exact hk'
 apply aAk.call;unfold aAk;refine hn a (hn b ?_);unfold aDp at hk;by_cases h1:a<b
 ·simp only[h1,cC,reduceIte] at hk ⊢;exact hk
 ·by_cases h2:b<a
  ·simp only[h1,h2,cC,reduceIte] at hk ⊢;exact hk
  ·simp only[h1,h2,cC,reduceIte] at hk ⊢;exact hk
def aLc(x:Int):List Value:=[.int .i64 x]
def aLc.rows(l:List Int):Rows 1 (l.map aLc):=λr hr=>by obtain⟨m,_,rfl⟩:=pQ.1 hr;rfl
def aYS{h:PH}{v:Value}{a b:Int}(H:iH h 1 v ([a,b].map aLc)){k:cE}(hk:k (.int .i64 (if a≠0 then a else b)) h):bT PG aHI #[v] h k:=by
 have lv:=H.len (t':=aR) mD.und;obtain⟨x,x1,x2⟩:=H.loadCell (k:=.i64) (j:=0) (x:=.int .i64 a) mD.und aR.info aR.size aR.und rfl (by decide) rfl;obtain⟨y,y1,y2⟩:=H.loadCell (k:=.i64) (j:=1) (x:=.int .i64 b) mD.und aR.info aR.size aR.und rfl (by decide) rfl;apply aHc.call;unfold aHc;have e0:(([a,b].map aLc).length:Int)=2:=rfl;rw[e0] at lv;simp only[lv,cC,reduceIte];refine⟨λvs h'=>∃i:Nat,i≤2∧vs=[.int .i64 0,v,.int .i64 2,.int .i64 i]∧h'=h∧(1≤i->a=0)∧(2≤i->b=0),fT 2 3,⟨0,by omega,rfl,rfl,by omega,by omega⟩,?_⟩;rintro ρ h' ⟨i,hi,hvs,rfl,ha,hb⟩;simp only[iG,jB,kZ,and_true] at hvs;obtain⟨e0,e1,e2,e3⟩:=hvs;rw[e0,e1,e2,e3];unfold aKL;have hc:i=0∨i=1∨i=2:=by omega
 rcases hc with rfl|rfl|rfl
 ·have d0:(((0:Nat):Int)<2)=True:=by simp
  have w0:IntKind.i64.wrap (((0:Nat):Int)+1)=((1:Nat):Int):=by rw[eB (by omega) (by omega)];rfl
  simp only[d0,Int.natCast_zero,x1,x2,cC,reduceIte];by_cases hz:a=0
  ·have e:(a !=0)=false:=by simp[hz]
   have w0':IntKind.i64.wrap ((0:Int)+1)=((1:Nat):Int):=w0;simp only[e,w0',cC,reduceIte];exact⟨⟨1,by omega,rfl,by trivial,λ_=>hz,by omega⟩,by simp[fT,e3]⟩
  ·have e:(a !=0)=true:=by simp[hz]
   simp only[e,cC,reduceIte];rw[if_pos hz] at hk;exact hk
 ·have d0:(((1:Nat):Int)<2)=True:=by simp
  have w0:IntKind.i64.wrap ((1:Int)+1)=((2:Nat):Int):=by rw[eB (by omega) (by omega)];rfl
  have c1:((1:Nat):Int)=1:=rfl;have hz:=ha (by omega);simp only[d0,c1,y1,y2,cC,reduceIte];by_cases hy:b=0
  ·have e:(b !=0)=false:=by simp[hy]
   simp only[e,w0,cC,reduceIte];exact⟨⟨2,by omega,rfl,by trivial,λ_=>hz,λ_=>hy⟩,by simp[fT,e3]⟩
  ·have e:(b !=0)=true:=by simp[hy]
   simp only[e,cC,reduceIte];rw[if_neg (by simp[hz])] at hk;exact hk
 ·have d0:(((2:Nat):Int)<2)=False:=by simp
  simp only[d0,cC,reduceIte];rw[if_neg (by simp[ha (by omega)]),hb (by omega)] at hk;exact hk
def cfI(a b:It):Int:=if aDp a.p.f b.p.f≠0 then aDp a.p.f b.p.f else aDp a.p.s b.p.s
def aWR{h:PH}(a b:It){k:cE}(hk:∀h',dA h h'->k (.int .i64 (cfI a b)) h'):bT PG qU #[.agg a.cells.toArray,.agg b.cells.toArray] h k:=by
 apply qQ.call;unfold qQ;intro r1 hr1;rw[cR];intro r3 hr3;rw[cR];have u1:dA h (h.set r1 (.cells a.cells.toArray cF)):=cX.new hr1;have b1:Bx (h.set r1 (.cells a.cells.toArray cF)) r1 a.cells:=Bx.new;show bY _ _;have u3:dA (h.set r1 (.cells a.cells.toArray cF)) ((h.set r1 (.cells a.cells.toArray cF)).set r3 (.cells b.cells.toArray cF)):=cX.new hr3;have b3:Bx ((h.set r1 (.cells a.cells.toArray cF)).set r3 (.cells b.cells.toArray cF)) r3 b.cells:=Bx.new;have b1':=b1.ext u3;have u:=u1.trans u3;change dA h ((h.set r1 (.cells (Value.cells (.agg a.cells.toArray)) cF)).set r3 (.cells (Value.cells (.agg b.cells.toArray)) cF)) at u;change Bx ((h.set r1 (.cells (Value.cells (.agg a.cells.toArray)) cF)).set r3 (.cells (Value.cells (.agg b.cells.toArray)) cF)) r3 _ at b3;change Bx ((h.set r1 (.cells (Value.cells (.agg a.cells.toArray)) cF)).set r3 (.cells (Value.cells (.agg b.cells.toArray)) cF)) r1 _ at b1';generalize (h.set r1 (.cells (Value.cells (.agg a.cells.toArray)) cF)).set r3 (.cells (Value.cells (.agg b.cells.toArray)) cF)=h4 at *;have c1:cV h4 ⟨r1,0,none⟩=some (.int .i64 a.p.f):=b1'.cell 0;have c2:cV h4 ⟨r1,1,none⟩=some (.int .u64 a.p.s):=b1'.cell 1;have c3:cV h4 ⟨r3,0,none⟩=some (.int .i64 b.p.f):=b3.cell 0;have c4:cV h4 ⟨r3,1,none⟩=some (.int .u64 b.p.s):=b3.cell 1;simp only[cF.f0,bX.f0,bX.f1,iZ,aR.load,cJ.load,c1,c2,c3,c4,cC,reduceIte];refine aNx _ _ ⟨c4,c2,?_⟩;refine aLj _ _ ?_;have hb:kC PG (buildSlice mD 2 #[(0,.int .i64 (aDp a.p.f b.p.f)),(1,.int .i64 (aDp a.p.s b.p.s))])=some (.cells #[.int .i64 (aDp a.p.f b.p.f),.int .i64 (aDp a.p.s b.p.s)] aR (0,0),λr=>pure (.slice (some ⟨r,0,none⟩) 2 2)):=by kernel_rfl
 rw[hb,iO];intro r hr;refine iB ?_
 try rw[cR]
 have hO:eH (h4.set r (.cells #[.int .i64 (aDp a.p.f b.p.f),.int .i64 (aDp a.p.s b.p.s)] aR (0,0))) aR 1 (.slice (some ⟨r,0,none⟩) 2 2) ([aDp a.p.f b.p.f,aDp a.p.s b.p.s].map aLc) [r]:=
  eH.lit (aLc.rows _) eN rfl (by decide) rfl
 refine aYS hO.slR (hk _ ?_);exact u.trans (cX.new hr)
section
variable{P:Program}{t e:TypeId}
def aLM{α:Type}{d:TypeInfo}(hi:P.info? t=some d)(f:TypeInfo->Sem α):kC P (typeInfo t >>= f)=kC P (f d):=by
 show kC P ((match P.info? t with|some d=>pure d|none=>stuck _:Sem TypeInfo).bind f)=_;rw[hi];rfl
def aPS{α:Type}{n:Nat}(f:Unit->Sem α):kC P (askRoom n >>= f)=kC P (f ()):=by
 unfold askRoom;split<;>rfl
def aR4(z:Array Value)(hz:0<z.size):∀n:Nat,((Array.range (n*z.size)).map (z[· % z.size]!)).toList=(List.replicate n z.toList).flatten:=by
 intro n;have hr:Rows z.size (List.replicate n z.toList):=λr hr=>by rw[List.eq_of_mem_replicate hr];simp
 apply aMH;intro j;have hfl:(List.replicate n z.toList).flatten.length=n*z.size:=by rw[hr.flat,aG3]
 by_cases hj:j<n*z.size
 ·have hi:j/z.size<n:=(Nat.div_lt_iff_lt_mul hz).2 hj;have hat:=hr.at (i:=j/z.size) (r:=z.toList) (by rw[List.getElem?_replicate,if_pos hi]);have hc:j%z.size<z.size:=zLB _ hz;have e1:(List.replicate n z.toList).flatten[j]? =z.toList[j%z.size]?:=by
   conv=>rhs;rw[←hat]
   rw[aDn,if_pos hc,aJs];congr 1;rw[Nat.mul_comm];exact(Nat.div_add_mod j z.size).symm
  rw[e1];simp[hj,hc]
 ·rw[List.getElem?_eq_none (by simp;omega),List.getElem?_eq_none (by omega)]
def aFW{i:TypeInfo}{z:Value}{size bytes n:Nat}(hu:P.underlying t=some (.slice e))(hi:P.info? e=some i)(hn:i.size=size)(hb:i.bytes=bytes)(hz:i.zero=some z)(hzs:z.cells.size=size)(h0:0<size)
  (hle:bytes*n≤281474976710656) (hnn:n≤1000000000):
  ∃zs,kC P (Instr.makeSlice t (.int .i64 n) (.int .i64 n))=some (.cells zs e (0,0),λr=>pure (.slice (some ⟨r,0,none⟩) n n))∧zs.toList=(List.replicate n z.cells.toList).flatten:=by
 refine⟨(Array.range (n*z.cells.size)).map (z.cells[· % z.cells.size]!),?_,aR4 _ (by omega) n⟩;have hw:IntKind.i64.wrap (n:Int)=n:=IntWalk.i64_in _ ⟨by omega,by omega⟩;unfold Instr.makeSlice;rw[aVX hu];dsimp only;show kC P (typeInfo e >>= _)=_;rw[aLM hi,hb];have hc1:((bytes:Int)*(n:Int)>2^48)=False:=by
  apply eq_false;have:((bytes*n:Nat):Int)≤((281474976710656:Nat):Int):=Int.ofNat_le.2 hle;rw[Int.natCast_mul] at this;have h2:(2:Int)^48=((281474976710656:Nat):Int):=by rfl
  omega
 have hc2:((n:Int)<0)=False:=by apply eq_false;omega
 have hc3:((n:Int)>(n:Int))=False:=by apply eq_false;omega
 simp only[hw,hc1,hc2,hc3,decide_false,Bool.or_self,zLs,if_false,or_self];rw[aPS,lA,aLM hi,hn];simp only[xK];by_cases hn0:n=0
 ·subst hn0;have hr:∀f:Nat->Value,(Array.range 0).map f= #[]:=λf=>by simp
  simp only[Nat.zero_mul,if_true,hr];rfl
 ·have hne:(n*size=0)=False:=by apply eq_false;intro h;rcases Nat.mul_eq_zero.1 h with h|h<;>omega
  simp only[hne,if_false];have hzv:∀(f:Value->Sem Value),kC P (zeroValue e >>= f)=kC P (f z):=λf=>by
   unfold zeroValue;show kC P ((typeInfo e >>= _) >>= f)=_;simp only[bind_assoc];rw[aLM hi,hz];rfl
  rw[hzv,←hzs];rfl
end
end
section
open Go Go.RowKit Go.ChangeShapes
def bX.cells:PG.cellsOf bX=4:=by kernel_rfl
def cL.cells:PG.cellsOf cL=5:=by kernel_rfl
def aR.cells:PG.cellsOf aR=1:=by kernel_rfl
def gR.cells:PG.cellsOf gR=1:=by kernel_rfl
def cJ.cells:PG.cellsOf cJ=1:=by kernel_rfl
def aT.cells:PG.cellsOf aT=1:=by kernel_rfl
section
variable{H:Type}{enc:TypeId×Value->H}{w:World}{spare:Nat->Bool}{held:Bool}
def Pk.ok(p:Pk):Prop:=0≤p.s∧0≤p.t
end
end
section
open Go
def aQn(x:Int):cB PG (convert aR aC9 (.int .i64 x))=some (.int .u64 (IntKind.u64.wrap x)):=by kernel_rfl
def zs(n:Nat):List Value:=List.replicate n (wv 0)
def aUI(s:S8)(x y:Value):Array Value:=#[wv s.a,wv s.b,wv s.c,wv s.d,wv s.e,wv s.f,wv s.g,wv s.h,x,y]
end
section
open Go
namespace Bld
def neqPtrSelf{h:PH}{x y:Operand}(a:Addr):cD PG h (fV .neq dP x y (.pointer (some a)) (.pointer (some a)))=some (.bool false):=by
 show cD PG h (Op.equalIn (9999+1) dP (.pointer (some a)) (.pointer (some a)) >>= λb=>(pure (Value.bool (!b)):Sem Value))=_;rw[iI];have:cD PG h (Op.equalIn (9999+1) dP (.pointer (some a)) (.pointer (some a)))=some true:=by
  rw[Op.equalIn,jO dP.und];simp only[lA];rw[xZ dH.info];simp[dH.size,sameAddr,cD,pure]
 rw[this];rfl
def semE_viewAt{h:PH}{r:Nat}{x:TypeId×Nat}{α:Type}(hs:jE h r=some (some x))(f:Option (Addr×TypeId)->Sem α):cD PG h (viewAt r >>= f)=cD PG h (f none):=by
 rw[iI];have:cD PG h (viewAt r)=some none:=by
  show(jE h r).bind _=_;rw[hs];rfl
 rw[this];rfl
def semE_seenAt{h:PH}{a:Addr}{x:TypeId×Nat}{α:Type}(hs:jE h a.block=some (some x))(f:Addr->Sem α):cD PG h (Conv.seenAt a >>= f)=cD PG h (f a):=by
 rw[iI];have:cD PG h (Conv.seenAt a)=some a:=by
  unfold Conv.seenAt;rw[semE_viewAt hs];rfl
 rw[this];rfl
def semE_cellsIn{h:PH}{r:Nat}{x:TypeId×Nat}{α:Type}(hs:jE h r=some (some x))(f:Option Nat->Sem α):cD PG h (cellsIn r >>= f)=cD PG h (f (some x.2)):=by
 rw[iI];have:cD PG h (cellsIn r)=some (some x.2):=by
  show(jE h r).bind _=_;rw[hs];rfl
 rw[this];rfl
def to_unsafe{h:PH}{a:Nat}{c:Array Value}(ha:h a=some (.cells c dH (0,0)))(hc:0<c.size):cD PG h (convert dP gP (pT a 0))=some (pT a 0):=by
 have hs:jE h a=some (some (dH,c.size)):=by unfold jE;rw[ha]
 show cD PG h (underlying dP >>= _)=_;rw[jO dP.und];show cD PG h (underlying gP >>= _)=_;rw[jO gP.und];show cD PG h (underlying dP >>= _)=_;rw[jO dP.und];show cD PG h (underlying gP >>= _)=_;rw[jO gP.und];show cD PG h (Conv.seenAt ⟨a,0,none⟩ >>= _)=_;rw[semE_seenAt (a:=⟨a,0,none⟩) hs];show cD PG h (cellsIn a >>= _)=_;rw[semE_cellsIn hs];have h1:¬(0 ≥ c.size):=by omega
 simp only[lA];rw[xZ dH.info];simp[dH.size,h1,cD,pure]
def from_unsafe{h:PH}{a:Nat}{c:Array Value}(ha:h a=some (.cells c dH (0,0)))(hc:c.size=2):cD PG h (convert gP dP (pT a 0))=some (pT a 0):=by
 have hs:jE h a=some (some (dH,c.size)):=by unfold jE;rw[ha]
 rw[hc] at hs;show cD PG h (underlying gP >>= _)=_;rw[jO gP.und];show cD PG h (underlying dP >>= _)=_;rw[jO dP.und];show cD PG h (underlying gP >>= _)=_;rw[jO gP.und];show cD PG h (underlying dP >>= _)=_;rw[jO dP.und];show cD PG h (Conv.seenAt ⟨a,0,none⟩ >>= _)=_;rw[semE_seenAt (a:=⟨a,0,none⟩) hs];have hv:cD PG h (variablesAt ⟨a,0,none⟩ dH 1)=some true:=by
  show(jE h a).bind _=_;rw[hs]
  kernel_rfl
 simp only[lA];rw[xZ dH.info];simp only[dH.size];rw[iI,hv];simp[cD,pure]
def NoEscape_ok{h:PH}{v:Value}{k:cE}(hk:k v h):bT PG yP #[v] h k:=
 bT.entry (v:=v) (by kernel_rfl) hk
structure BAt(h:PH)(a:Nat)(bs:List UInt8)(F:List Nat):Prop where
 here:∃p v G,h a=some (.cells #[p,v] dH (0,0))∧(p= .pointer none∨p=pT a 0)∧eH h dM 1 v (bs.map jZ) G∧F=a::G∧a∉G
def BAt.upd{h h':PH}{a:Nat}{bs:List UInt8}{F G:List Nat}(H:BAt h a bs F)(u:cX G h h')(hd:∀b∈F,b∉G):BAt h' a bs F:=by
 obtain⟨p,v,G',ha,hp,hO,rfl,hn⟩:=H;exact⟨p,v,G',u.get ha (hd a (by simp)),hp,hO.upd u (λb hb=>hd b (by simp[hb])),rfl,hn⟩
def BAt.ext{h h':PH}{a:Nat}{bs:List UInt8}{F:List Nat}(H:BAt h a bs F)(u:dA h h'):BAt h' a bs F:=H.upd u (by simp)
def BNext(h:PH)(a:Nat)(F:List Nat)(bs:List UInt8)(k:PH->Prop):Prop:=∀h' F',BAt h' a bs F'->cX F h h'->(∀b∈F',b∈F∨h b=none)->k h'
def copyCheck_ok{h:PH}{a:Nat}{p v:Value}(ha:h a=some (.cells #[p,v] dH (0,0)))(hp:p= .pointer none∨p=pT a 0){k:cE}
  (hk:∀h',h' a=some (.cells #[pT a 0,v] dH (0,0))->cX [a] h h'->(∀b,b≠a->h' b=h b)->k (.tuple #[]) h'):bT PG lP #[pT a 0] h k:=by
 apply mS.call;unfold mS;have hc:cV h ⟨a,0,none⟩=some p:=by simp[cV,ha]
 simp only[dH.f0,dP.load,hc,cC,reduceIte];rcases hp with rfl|rfl
 ·simp only[yE dP.und,Option.isNone_none,cC,reduceIte];refine cD.semH (to_unsafe ha (by simp)) ?_;refine NoEscape_ok ?_;refine cD.semH (from_unsafe ha (by simp)) ?_;refine lC dP.und rfl ha (by simp) rfl dP.info dP.size ?_;exact hk _ eN (cX.set (by simp)) (λb hb=>aAD hb)
 ·simp only[yE dP.und,aLC,neqPtrSelf,dH.f0,dP.load,hc,cC,reduceIte];exact hk _ ha cX.refl (λ_ _=>rfl)
def byte_lit(x:Int):kC PG (buildSlice cY 1 #[(0,.int .u8 x)])=some (.cells #[.int .u8 x] dM,λr=>pure (.slice (some ⟨r,0,none⟩) 1 1)):=by kernel_rfl
def buf_app{h:PH}{a:Nat}{p v x:Value}{bs ys:List UInt8}{G:List Nat}{t2 e2:TypeId}(hu2:PG.underlying t2=some (.slice e2))(ha:h a=some (.cells #[p,v] dH (0,0)))(hp:p= .pointer none∨p=pT a 0)(hO:eH h dM 1 v (bs.map jZ) G)(hn:a∉G)
  (hx:iH h 1 x (ys.map jZ)) (hl:bs.length+ys.length≤140737488355328) {k:PH->Prop} (hk:BNext h a (a::G) (bs++ys) k):
  cN PG (Builtin.append_ #[cY,t2] cY #[v,x]) h λv' h'=>cN PG (cP cY (pT a 1) v') h' λ_ h''=>k h'':=by
 refine lV cY.und hu2 dM.info dM.size dM.bytes dM.zero rfl (by decide) hO hx (jZ.isCell _) (by simp;omega) ?_;intro v2 h2 F2 hO2 u2 k2 _;rw[←xJ] at hO2;have ha2:=u2.get ha hn;have hn2:a∉F2:=λhm=>by
  rcases k2 a hm with h1|h1
  ·exact hn h1
  ·rw[ha] at h1;cases h1
 refine lC cY.und rfl ha2 (by simp) ?_ cY.info cY.size ?_
 ·obtain⟨_,_,rfl,-⟩:=hO2.slR.here;rfl
 ·refine hk _ (a::F2) ⟨p,v2,F2,eN,hp,hO2.upd (cX.set (F:=[a]) (by simp)) (λb hb=>by simp;rintro rfl;exact hn2 hb),rfl,hn2⟩ ((u2.mono λb hb=>.inl (by simp[hb])).trans (cX.set (by simp))) (λb hb=>?_);rcases iW.1 hb with rfl|hb
  ·exact .inl (by simp)
  ·rcases k2 b hb with h1|h1
   ·exact .inl (by simp[h1])
   ·exact .inr h1
def WriteByte_ok{h:PH}{a:Nat}{bs:List UInt8}{F:List Nat}(hW:BAt h a bs F)(hl:bs.length+1≤140737488355328)(x:UInt8){k:cE}(hk:BNext h a F (bs++[x]) (k .nilIface)):
  bT PG pY #[pT a 0,.int .u8 x.toNat] h k:=by
 obtain⟨p,v,G,ha,hp,hO,rfl,hn⟩:=hW;apply mU.call;unfold mU;refine copyCheck_ok ha hp λh1 ha1 u1 o1=>?_;have hc:cV h1 ⟨a,1,none⟩=some v:=by simp[cV,ha1]
 have hO1:=hO.upd u1 (λb hb hf=>by simp at hf;subst hf;exact hn hb);simp only[dH.f1,cY.load,hc,byte_lit,cC,reduceIte];intro r hr;refine iB ?_;have u2:dA h1 (h1.set r (.cells #[.int .u8 x.toNat] dM)):=cX.new hr;have s2:iH (h1.set r (.cells #[.int .u8 x.toNat] dM)) 1 (.slice (some ⟨r,0,none⟩) 1 1) ([x].map jZ):=(eH.lit (jZ.rows [x]) eN (by simp) (by decide) (by simp[jZ])).slR;refine buf_app cY.und (u2.get ha1) (.inr rfl) (hO1.ext u2) hn s2 (by simpa using hl) ?_;intro h3 F3 hW3 u3 k3;refine hk _ F3 hW3 ((u1.mono λb hb=>.inl (by simp at hb;simp[hb])).trans (u2.upd.trans u3)) λb hb=>?_;rcases k3 b hb with h'|h'
 ·exact .inl h'
 ·by_cases hba:b=a
  ·exact .inl (by simp[hba])
  ·have:=u2.none h';rw[o1 b hba] at this;exact .inr this
def buf_str{h:PH}{a:Nat}{p v:Value}{bs ys:List UInt8}{G:List Nat}(ha:h a=some (.cells #[p,v] dH (0,0)))(hp:p= .pointer none∨p=pT a 0)(hO:eH h dM 1 v (bs.map jZ) G)(hn:a∉G)
  (hl:bs.length+ys.length≤140737488355328) {k:PH->Prop} (hk:BNext h a (a::G) (bs++ys) k):
  cN PG (Builtin.append_ #[cY,aT] cY #[v,.string (tx ys)]) h λv' h'=>cN PG (cP cY (pT a 1) v') h' λ_ h''=>k h'':=by
 refine aMt cY.und aT.und dM.info dM.size dM.bytes dM.zero rfl (by decide) hO (by simp;omega) ?_;intro v2 h2 F2 hO2 u2 k2 _;rw[←xJ] at hO2;have ha2:=u2.get ha hn;have hn2:a∉F2:=λhm=>by
  rcases k2 a hm with h1|h1
  ·exact hn h1
  ·rw[ha] at h1;cases h1
 refine lC cY.und rfl ha2 (by simp) ?_ cY.info cY.size ?_
 ·obtain⟨_,_,rfl,-⟩:=hO2.slR.here;rfl
 ·refine hk _ (a::F2) ⟨p,v2,F2,eN,hp,hO2.upd (cX.set (F:=[a]) (by simp)) (λb hb=>by simp;rintro rfl;exact hn2 hb),rfl,hn2⟩ ((u2.mono λb hb=>.inl (by simp[hb])).trans (cX.set (by simp))) (λb hb=>?_);rcases iW.1 hb with rfl|hb
  ·exact .inl (by simp)
  ·rcases k2 b hb with h1|h1
   ·exact .inl (by simp[h1])
   ·exact .inr h1
def WriteString_ok{h:PH}{a:Nat}{bs ys:List UInt8}{F:List Nat}(hW:BAt h a bs F)(hl:bs.length+ys.length≤140737488355328){k:cE}(hk:BNext h a F (bs++ys) (k (.tuple #[.int .i64 ys.length,.nilIface]))):
  bT PG jF #[pT a 0,.string (tx ys)] h k:=by
 obtain⟨p,v,G,ha,hp,hO,rfl,hn⟩:=hW;apply kA.call;unfold kA;refine copyCheck_ok ha hp λh1 ha1 u1 o1=>?_;have hc:cV h1 ⟨a,1,none⟩=some v:=by simp[cV,ha1]
 have hO1:=hO.upd u1 (λb hb hf=>by simp at hf;subst hf;exact hn hb);simp only[dH.f1,cY.load,hc,aT.len,lJ,cC,reduceIte];refine buf_str ha1 (.inr rfl) hO1 hn hl ?_;intro h3 F3 hW3 u3 k3;refine hk _ F3 hW3 ((u1.mono λb hb=>.inl (by simp at hb;simp[hb])).trans u3) λb hb=>?_;rcases k3 b hb with h'|h'
 ·exact .inl h'
 ·by_cases hba:b=a
  ·exact .inl (by simp[hba])
  ·rw[o1 b hba] at h';exact .inr h'
def semE_loadBytes{h:PH}:∀(l:List UInt8) (a:Addr) (acc:ByteArray),a.spot=none->(∀j x,l[j]? =some x->cV h (a.add j)=some (.int .u8 x.toNat))->cD PG h (loadBytes a acc l.length)=some ⟨acc.data++l.toArray⟩
 | [],a,acc,_,_=>by show some acc=_;simp
 | x::xs,a,acc,hsp,hc=>by
  have h0:=hc 0 x rfl;have ha0:a.add 0=a:=by obtain⟨b,o,w⟩:=a;cases w<;>simp[Addr.add]
  rw[ha0] at h0;show(cV h a).bind _=_;rw[h0,zY];show cD PG h (loadBytes (a.add 1) (acc.push ((x.toNat:Int).toNat.toUInt8)) xs.length)=_;rw[semE_loadBytes xs (a.add 1) _ (by obtain⟨b,o,w⟩:=a;simp at hsp;subst hsp;rw[kW]) λj y hy=>?_]
  ·congr 1;apply ByteArray.ext;show(acc.push _).data++xs.toArray=_;rw[ByteArray.data_push];apply zLw;simp
  ·have:=hc (j+1) y (by simpa using hy);have e:(a.add 1).add j=a.add (j+1):=by
    obtain⟨b,o,w⟩:=a;simp at hsp;subst hsp;rw[kW,kW,kW];congr 1;omega
   rw[e];exact this
def unsafeStr{h:PH}{g:Nat}{cs:Array Value}{bs:List UInt8}(hb:h g=some (.cells cs dM (0,0)))(hle:bs.length≤cs.size)(hcs:cs.toList.take bs.length=bs.map λb=>Value.int .u8 b.toNat)(hne:bs≠[])(hmax:bs.length≤xC){k:cE}
  (hk:∀h',cX [g] h h'->k (.string (tx bs)) h'):cN PG (Builtin.unsafeString_ #[oO,aR] aT #[pT g 0,.int .i64 bs.length]) h k:=by
 have hl:bs.length≠0:=by simpa using hne
 have h63:¬((bs.length:Int)>IntKind.i64.max):=by
  have:IntKind.i64.max=9223372036854775807:=rfl;unfold xC at hmax;omega
 have hneg:¬(bs.length:Int)<0:=by omega
 have hz:¬(bs.length:Int)=0:=by omega
 have hdef:Builtin.unsafeString_ #[oO,aR] aT #[pT g 0,.int .i64 bs.length]=
   (do
    let n ←asInt (.int .i64 bs.length)
    if n<0 then runtimePanic (.error "unsafe.String: len out of range")
    if n>IntKind.i64.max then unsupported (.unsafePointer "String: a length above the largest int")
    if n=0 then pure (.string .empty)
    else if ←variablesAt ⟨g,0,none⟩ (←elemOf oO) n.toNat then do
     let s ←loadBytes ⟨g,0,none⟩ .empty n.toNat
     freeze ⟨g,0,none⟩ n.toNat
     pure (.string s)
    else unsupported (.unsafePointer "String: not so many bytes at ptr")):=rfl
 rw[hdef];have hs:jE h g=some (some (dM,cs.size)):=by unfold jE;rw[hb]
 have hv:cD PG h (variablesAt ⟨g,0,none⟩ dM bs.length)=some true:=by
  show(jE h g).bind _=_;rw[hs];have hc1:PG.cellsOf dM=1:=by kernel_rfl
  have:=Go.Lib.liesAt_bytes (P:=PG) hc1 (cs.size/PG.cellsOf dM) bs.length (by rw[hc1];simpa using hle);show some (liesAt PG PG.depth dM (cs.size/PG.cellsOf dM) 0 dM bs.length)=some true;rw[this]
 have hlb:=semE_loadBytes (h:=h) bs ⟨g,0,none⟩ .empty rfl (λj x hx=>by
  rw[kW];unfold cV;simp only[hb,iZ];have hj:j<bs.length:=(zLA.1 hx).1;have:(cs.toList.take bs.length)[j]? =some (.int .u8 x.toNat):=by rw[hcs,wG,hx];rfl
  rw[aDn,if_pos hj] at this;simpa using this)
 have helem:cD PG h (elemOf oO)=some dM:=by kernel_rfl
 simp only[asInt,asIntOf,pure_bind,map_pure,hneg,h63,hz,if_false,xK];refine gZ helem ?_;refine gZ hv ?_;simp only[if_true];refine gZ hlb ?_;show(∃o,h g=some o)∧_;refine⟨⟨_,hb⟩,?_⟩;have hfin:=hk (mF h ⟨g,0,none⟩ bs.length) (λb o hbo hn=>by
  unfold mF;rw[if_neg hl,if_neg (by simpa using hn)];exact hbo)
 show k (.string _) _;have e:(⟨ByteArray.empty.data++bs.toArray⟩:ByteArray)=tx bs:=by apply ByteArray.ext;simp[tx]
 rw[e];exact hfin
def unsafeNone{h:PH}{q:Option Addr}:cD PG h (Builtin.unsafeString_ #[oO,aR] aT #[.pointer q,.int .i64 0])=some (.string (tx [])):=by
 cases q<;>rfl
def String_ok{h:PH}{a:Nat}{bs:List UInt8}{F:List Nat}(hW:BAt h a bs F){k:cE}(hk:∀h',cX F h h'->k (.string (tx bs)) h'):
  bT PG kX #[pT a 0] h k:=by
 obtain⟨p,v,G,ha,hp,hO,rfl,hn⟩:=hW;have hc:cV h ⟨a,1,none⟩=some v:=by simp[cV,ha]
 have lv:=hO.slR.len (t':=aR) cY.und;rw[iL] at lv;apply kB.call;unfold kB;simp only[dH.f1,cY.load,hc,lv,cC,reduceIte];have hload:∀h',cV h' ⟨a,1,none⟩=some v->cD PG h' (loadAt cY (pT a 1))=some v:=λh' h1=>by rw[cY.load];exact h1
 rcases hO.here with⟨rfl,hr,rfl⟩|⟨g,cap,cs,rfl,rfl,hb,hle,hmax,hsz,htk⟩
 ·have hnil:bs=[]:=by simpa using hr
  subst hnil;refine cD.semH (a:=.pointer none) rfl ?_;refine⟨hc,?_⟩;refine cD.semH unsafeNone ?_;exact hk _ cX.refl
 ·simp only[iL] at *;by_cases hne:bs=[]
  ·subst hne;by_cases hc0:cap=0
   ·subst hc0;have hs:jE h g=some (some (dM,cs.size)):=by unfold jE;rw[hb]
    show cN PG (viewAt g >>= _) h _;refine gZ (a:=none) (by rw[show viewAt g=(viewAt g >>= λx=>pure x) by simp,semE_viewAt hs];rfl) ?_;refine gZ (a:=dM) (by kernel_rfl) ?_;intro r hr;have u:dA h (h.set r (.view ⟨g,0,none⟩ dM)):=cX.new hr;refine⟨by rw[cV];simp[u.get ha],?_⟩;refine cD.semH unsafeNone ?_;exact hk _ u.upd
   ·refine cD.semH (a:=pT g 0) ?_ ?_
    ·show cD PG h (if cap≠0 then _ else _)=_;rw[if_pos hc0];rfl
    ·refine⟨hc,?_⟩;refine cD.semH unsafeNone ?_;exact hk _ cX.refl
  ·have hpos:0<bs.length:=aJ6.2 hne;refine cD.semH (a:=pT g 0) ?_ ?_
   ·show cD PG h (if cap≠0 then _ else _)=_;rw[if_pos (by omega)];rfl
   ·refine⟨hc,?_⟩;rw[Nat.mul_one,jZ.flat] at htk;refine unsafeStr hb (by omega) htk hne (by omega) λh' u=>?_;exact hk _ (u.mono λb hb=>.inl (by simp at hb;simp[hb]))
end Bld
end
section
open Go Bld
def aTq{h:PH}{l:List UInt8}:cD PG h (Builtin.firstCells 1 l.length (.string (tx l)))=some (l.map λb=>Value.int .u8 b.toNat).toArray:=by
 show some (((tx l).extract 0 l.length).data.map λb=>Value.int .u8 b.toNat)=_;congr 1;apply zLw;rw[ByteArray.data_extract];simp[tx,zLx]
def aLx:∀(n t:Nat) (acc:Array Value),(Extern.BytealgMakeNoZero.digits n t acc).size=acc.size+n
 | 0,_,acc=>rfl
 | n+1,t,acc=>by
  show(Extern.BytealgMakeNoZero.digits n (t/256) (acc.push _)).size=_;rw[aLx n];simp;omega
def aQi{n:Int}{h:PH}{Q:Next->PH->Prop}:cN PG (callFunc sY #[.int .i64 n]) h Q=cN PG (Extern.BytealgMakeNoZero.makeNoZero #[] #[cY] #[.int .i64 n] >>= λv=>pure (Next.value v)) h Q:=by kernel_rfl
def aO4{h:PH}{n:Nat}(hn:n≤140737488355328){k:cE}
  (hk:∀r cap (cs:Array Value),n≤cap->cap≤xC->cs.size=cap->h r=none->k (.slice (some ⟨r,0,none⟩) n cap) (h.set r (.cells cs dM (0,0)))):bT PG sY #[.int .i64 n] h k:=by
 refine .inr ?_;rw[aQi];refine cN.bind (P:=PG) (s:=Extern.BytealgMakeNoZero.makeNoZero #[] #[cY] #[.int .i64 n]) ?_;have h1:((decide ((n:Int)<0)||decide ((n:Int)>2^48))=true)=False:=by
  apply eq_false;have:¬((n:Int)>2^48):=by
   have h2:(2:Int)^48=281474976710656:=by rfl
   omega
  have h3:¬((n:Int)<0):=by omega
  simp[h3];omega
 show cN PG (underlying cY >>= _) h _;rw[sO cY.und];dsimp only;simp only[h1,if_false,pure_bind,xK];rw[aAn];intro tt;rw[aH3,aAn];intro bb;have hforced:(Question.appendCap n 0 5).forced=false:=rfl;rw[hforced];have hcut:n≤(Question.appendCap n 0 5).cut tt∧(Question.appendCap n 0 5).cut tt≤xC:=by
  have hpos:0<2^63-n:=by omega
  have:=zLB tt hpos;simp only[Question.cut,xC];omega
 generalize (if (Question.extern "internal/bytealg.MakeNoZero.bytes" 0).forced=true then 0 else(Question.extern "internal/bytealg.MakeNoZero.bytes" 0).cut bb)=B;show cN PG (newRow 5 _ >>= _) h _;intro r hr;exact⟨_,rfl,hk r _ _ hcut.1 hcut.2 (by rw[aLx];exact iZ _) hr⟩
def zB:dJ PG dH= #[.pointer none,.slice none 0 0]:=by rw[dH.zc];rfl
def BAt.zero{h:PH}{a:Nat}(ha:h a=some (.cells #[.pointer none,.slice none 0 0] dH (0,0))):BAt h a [] [a]:=⟨_,_,[],ha,.inl rfl,eH.nil,rfl,by simp⟩
def aRO:cB PG (Builtin.cap_ #[cY] aR #[.slice none 0 0])=some (.int .i64 0):=by kernel_rfl
def aYh{r cap:Nat}{n:Nat}:cB PG (Instr.sliceAt cY (.slice (some ⟨r,0,none⟩) n cap) none (some (.int .i64 ((0:Nat):Int))) none)=some (.slice (some ⟨r,0,none⟩) 0 cap):=by
 have:=aHi (P:=PG) (t:=cY) (a:=some ⟨r,0,none⟩) (len:=n) (cap:=cap) (l:=0) (hh:=0) (lo:=none) (hi:=some (.int .i64 ((0:Nat):Int))) cY.und dM.info (.inl ⟨rfl,rfl⟩) (.inr ⟨_,rfl⟩) (by omega) (by omega);rw[this];by_cases hc:cap=0
 ·subst hc;simp
 ·rw[if_neg hc];simp[kW]
structure FB(h:PH)(a g cap:Nat)(bs:List UInt8):Prop where
 here:∃(cs:Array Value) (f:Nat),h a=some (.cells #[pT a 0,.slice (some ⟨g,0,none⟩) bs.length cap] dH (0,0))∧h g=some (.cells cs dM (0,f))∧f≤bs.length∧bs.length≤cap∧cs.size=cap∧cs.toList.take bs.length=(bs.map λb=>Value.int .u8 b.toNat)∧g≠a∧cap≤xC
def aNj(r n:Nat):List Value->PH->Nat:=λ_ h=>match h r with
 | some (Obj.cells c _ _)=>match c[1]? with
  | some (Value.slice _ m _)=>n-m
  | _=>0
 | _=>0
def FB.mu{h:PH}{a g cap:Nat}{bs:List UInt8}(H:FB h a g cap bs){n:Nat}{vs:List Value}:aNj a n vs h=n-bs.length:=by
 obtain⟨cs,f,ha,-⟩:=H;simp[aNj,ha]
def aWX{h:PH}{a n:Nat}(ha:h a=some (.cells #[.pointer none,.slice none 0 0] dH (0,0)))(hn:0<n)(hn2:n≤1000000){k:cE}
  (hk:∀h' g cap,FB h' a g cap []->n≤cap->cX [a] h h'->h g=none->k (.tuple #[]) h'):bT PG zT #[pT a 0,.int .i64 n] h k:=by
 apply qH.call;unfold qH;refine copyCheck_ok ha (.inl rfl) λh1 a1 u1 o1=>?_;have e1:((n:Int)<0)=False:=eq_false (by omega);have c1:cV h1 ⟨a,0+1,none⟩=some (.slice none 0 0):=by simp[cV,a1]
 have e2:IntKind.i64.wrap ((0:Int)-((0:Nat):Int))=0:=by rw[eB (by omega) (by omega)];omega
 have e3:((0:Int)<(n:Int))=True:=eq_true (by omega);simp only[e1,cC,reduceIte];unfold aDe;simp only[dH.f1,cY.load,c1,aRO,cY.len,e2,e3,cC,reduceIte];apply qF.call;unfold qF;have e4:IntKind.i64.wrap (2*(0:Int))=0:=by rw[eB (by omega) (by omega)];omega
 have e5:IntKind.i64.wrap ((0:Int)+(n:Int))=(n:Int):=by rw[eB (by omega) (by omega)];omega
 simp only[dH.f1,cY.load,c1,aRO,cY.len,e4,e5,cC,reduceIte];refine aO4 (by omega) λr cap cs h2 h3 hsz hr=>?_;have u2:dA h1 (h1.set r (.cells cs dM (0,0))):=cX.new hr;have b2:(h1.set r (.cells cs dM (0,0))) r=some (.cells cs dM (0,0)):=eN;generalize h1.set r (.cells cs dM (0,0))=h2' at *;have a2:=u2.get a1;have c1':cV h2' ⟨a,0+1,none⟩=some (.slice none 0 0):=by simp[cV,a2]
 have hne:r≠a:=λe=>by subst e;rw[a1] at hr;cases hr
 refine⟨c1',?_⟩;simp only[dH.f1,cY.load,c1',aYh,cC,reduceIte];have hcp:cD PG h2' (Builtin.copy_ #[cY,cY] aR #[.slice (some ⟨r,0,none⟩) 0 cap,.slice none 0 0])=some (.int .i64 0):=by kernel_rfl
 refine cD.semH hcp ?_;refine lC cY.und rfl a2 (by simp) rfl cY.info cY.size ?_;refine hk _ r cap ⟨cs,0,eN,by rw[aAD hne];exact b2,by simp,by simp,by omega,by simp,hne,h3⟩ h2 ((u1.trans u2.upd).trans (cX.set (by simp))) ?_;rw[←o1 r hne];exact hr
def aU2:cB PG (binOp .and cJ (.int .u64 0) (.int .u64 4294967295))=some (.int .u64 0):=by kernel_rfl
def aWZ:cB PG (binOp .and cJ (.int .u64 1) (.int .u64 4294967295))=some (.int .u64 1):=by kernel_rfl
def aYe{n:Nat}(hn:n<1000):(BitVec.ofInt 64 (n:Int) &&& BitVec.ofInt 64 4294967295).toNat=n:=by
 have h1:(BitVec.ofInt 64 (n:Int)).toNat=n:=by
  rw[BitVec.toNat_ofInt];omega
 have h2:(BitVec.ofInt 64 4294967295).toNat=2^32-1:=by decide
 rw[BitVec.toNat_and,h1,h2,Nat.and_two_pow_sub_one_eq_mod];omega
def aYH{n:Nat}(hn:n<1000):cB PG (binOp .and cJ (.int .u64 (n:Int)) (.int .u64 4294967295))=some (.int .u64 (n:Int)):=by
 have e:cB PG (binOp .and cJ (.int .u64 (n:Int)) (.int .u64 4294967295))=some (.int .u64 (IntKind.u64.wrap ((BitVec.ofInt 64 (n:Int) &&& BitVec.ofInt 64 4294967295).toNat:Int))):=rfl;rw[e,aYe hn,kI (by omega) (by omega)]
def aSe{n:Nat}(hn:n<1000):cB PG (binOp .shr cJ (.int .u64 (n:Int)) (.int .u64 32))=some (.int .u64 0):=by
 rw[aP5 (by decide)];congr 2;show(n:Int).fdiv (2^32)=0;rw[Int.fdiv_eq_ediv_of_nonneg _ (by decide)];have:(2:Int)^32=4294967296:=by rfl
 omega
def aXH:cB PG (binOp .shr cJ (.int .u64 0) (.int .u64 32))=some (.int .u64 0):=aSe (n:=0) (by decide)
def aXX:cB PG (binOp .shr cJ (.int .u64 1) (.int .u64 32))=some (.int .u64 0):=aSe (n:=1) (by decide)
def aYB{h:PH}{n:Nat}(hn:n<1000){k:cE}(hk:k (.tuple #[.int .u64 0,.int .u64 n]) h):bT PG aET #[.int .u64 1,.int .u64 n] h k:=by
 apply aEL.call;unfold aEL;simp only[cC,reduceIte];apply aCe.call;unfold aCe;have w0:IntKind.u64.wrap 0=0:=rfl;have wn:IntKind.u64.wrap (n:Int)=n:=kI (by omega) (by omega);simp only[aWZ,aXX,aYH hn,aSe hn,Int.one_mul,Int.zero_mul,Int.mul_zero,wn,w0,Int.add_zero,aU2,aXH,cC,reduceIte];exact hk
def aIH{b o f:Nat}{e:TypeId}{Q:Unit->PH->Prop}:∀(vs:List Value) (i:Nat) (h:PH) (c:Array Value),h b=some (.cells c e (0,f))->f≤o+i->o+i+vs.length≤c.size->(∀v∈vs,fL v=true)->
  Q () (if vs=[] then h else h.set b (.cells (tU c (o+i) vs) e (0,f)))->cN PG (storeCells ⟨b,o,none⟩ vs i) h Q
 | [],i,h,c,_,_,_,_,hq=>by
  show Q () h;simpa using hq
 | v::vs,i,h,c,hb,hf,hle,hv,hq=>by
  simp only[iU] at hle;have hlt:o+i<c.size:=by omega
  have ha:(⟨b,o,none⟩:Addr).add i=⟨b,o+i,none⟩:=kW ..;show fL v=true∧tG h ((⟨b,o,none⟩:Addr).add i)=false∧(∃u,cV h ((⟨b,o,none⟩:Addr).add i)=some u)∧cN PG (storeCells ⟨b,o,none⟩ vs (i+1)) (rJ h ((⟨b,o,none⟩:Addr).add i) v) Q;rw[ha];refine⟨hv v (by simp),by simp[tG,hb];omega,⟨c[o+i],by simp[cV,hb,hlt]⟩,?_⟩;have hset:rJ h ⟨b,o+i,none⟩ v=h.set b (.cells (c.setIfInBounds (o+i) v) e (0,f)):=by
   funext x;unfold rJ PH.set;by_cases hx:x=b
   ·subst hx;simp[hb]
   ·simp[hx]
  rw[hset];refine aIH vs (i+1) _ _ eN (by omega) (by simp;omega) (λu hu=>hv u (by simp[hu])) ?_;have h2:∀o1 o2:Obj,(h.set b o1).set b o2=h.set b o2:=λo1 o2=>by funext x;unfold PH.set;split<;>rfl
  simp only[List.cons_ne_nil,if_false] at hq;split
  ·rename_i hvs;subst hvs;simpa[tU] using hq
  ·rw[h2];simpa[tU,Nat.add_assoc] using hq
def aRt{h:PH}{g:Nat}{cs:Array Value}{fr:Nat×Nat}{bs:List UInt8}(hb:h g=some (.cells cs dM fr))(hle:bs.length≤cs.size)(hcs:cs.toList.take bs.length=bs.map λb=>Value.int .u8 b.toNat)(hne:bs≠[])(hmax:bs.length≤xC){k:cE}
  (hk:k (.string (tx bs)) (mF h ⟨g,0,none⟩ bs.length)):cN PG (Builtin.unsafeString_ #[oO,aR] aT #[pT g 0,.int .i64 bs.length]) h k:=by
 have hl:bs.length≠0:=by simpa using hne
 have h63:¬((bs.length:Int)>IntKind.i64.max):=by
  have:IntKind.i64.max=9223372036854775807:=rfl;unfold xC at hmax;omega
 have hneg:¬(bs.length:Int)<0:=by omega
 have hz:¬(bs.length:Int)=0:=by omega
 have hdef:Builtin.unsafeString_ #[oO,aR] aT #[pT g 0,.int .i64 bs.length]=
   (do
    let n ←asInt (.int .i64 bs.length)
    if n<0 then runtimePanic (.error "unsafe.String: len out of range")
    if n>IntKind.i64.max then unsupported (.unsafePointer "String: a length above the largest int")
    if n=0 then pure (.string .empty)
    else if ←variablesAt ⟨g,0,none⟩ (←elemOf oO) n.toNat then do
     let s ←loadBytes ⟨g,0,none⟩ .empty n.toNat
     freeze ⟨g,0,none⟩ n.toNat
     pure (.string s)
    else unsupported (.unsafePointer "String: not so many bytes at ptr")):=rfl
 rw[hdef];have hs:jE h g=some (some (dM,cs.size)):=by unfold jE;rw[hb]
 have hv:cD PG h (variablesAt ⟨g,0,none⟩ dM bs.length)=some true:=by
  show(jE h g).bind _=_;rw[hs];have hc1:PG.cellsOf dM=1:=by kernel_rfl
  have:=Go.Lib.liesAt_bytes (P:=PG) hc1 (cs.size/PG.cellsOf dM) bs.length (by rw[hc1];simpa using hle);show some (liesAt PG PG.depth dM (cs.size/PG.cellsOf dM) 0 dM bs.length)=some true;rw[this]
 have hlb:=semE_loadBytes (h:=h) bs ⟨g,0,none⟩ .empty rfl (λj x hx=>by
  rw[kW];unfold cV;simp only[hb,iZ];have hj:j<bs.length:=(zLA.1 hx).1;have:(cs.toList.take bs.length)[j]? =some (.int .u8 x.toNat):=by rw[hcs,wG,hx];rfl
  rw[aDn,if_pos hj] at this;simpa using this)
 have helem:cD PG h (elemOf oO)=some dM:=by kernel_rfl
 simp only[asInt,asIntOf,pure_bind,map_pure,hneg,h63,hz,if_false,xK];refine gZ helem ?_;refine gZ hv ?_;simp only[if_true];refine gZ hlb ?_;show(∃o,h g=some o)∧_;refine⟨⟨_,hb⟩,?_⟩;show k (.string _) _;have e:(⟨ByteArray.empty.data++bs.toArray⟩:ByteArray)=tx bs:=by apply ByteArray.ext;simp[tx]
 rw[e];exact hk
def FB.len{h:PH}{a g cap:Nat}{bs:List UInt8}(H:FB h a g cap bs){k:cE}(hk:k (.int .i64 bs.length) h):bT PG qS #[pT a 0] h k:=by
 obtain⟨cs,f,ha,-⟩:=H;apply zF.call;unfold zF;have c1:cV h ⟨a,0+1,none⟩=some (.slice (some ⟨g,0,none⟩) bs.length cap):=by simp[cV,ha]
 simp only[dH.f1,cY.load,c1,cY.len,cC,reduceIte];exact hk
def FB.string{h:PH}{a g cap:Nat}{bs:List UInt8}(H:FB h a g cap bs)(hne:bs≠[]){k:cE}(hk:∀h',FB h' a g cap bs->cX [g] h h'->k (.string (tx bs)) h'):bT PG kX #[pT a 0] h k:=by
 obtain⟨cs,f,ha,hg,hf,hc,hsz,htk,hga,hmx⟩:=H;have hpos:bs.length≠0:=by simpa using hne
 apply kB.call;unfold kB;have c1:cV h ⟨a,0+1,none⟩=some (.slice (some ⟨g,0,none⟩) bs.length cap):=by simp[cV,ha]
 simp only[dH.f1,cY.load,c1,cY.len,cC,reduceIte];refine cD.semH (a:=pT g 0) ?_ ?_
 ·show cD PG h (if cap≠0 then _ else _)=_;rw[if_pos (by omega)];rfl
 ·refine⟨c1,?_⟩;refine aRt hg (by omega) htk hne (by omega) ?_;have hg':mF h ⟨g,0,none⟩ bs.length g=some (.cells cs dM (0,bs.length)):=by
   unfold mF;rw[if_neg hpos,if_pos rfl];simp only[hg];by_cases h0:f=0
   ·subst h0;simp
   ·have:((0==f)=true)=False:=by simp;omega
    simp only[this,if_false];congr 3
    ·exact Nat.max_eq_right (by omega) |>.trans (iZ _)
  have hoth:∀b,b≠g->mF h ⟨g,0,none⟩ bs.length b=h b:=λb hb=>by
   unfold mF;rw[if_neg hpos,if_neg hb]
  exact hk _ ⟨cs,bs.length,by rw[hoth a hga.symm];exact ha,hg',lM _,hc,hsz,htk,hga,hmx⟩ (λb o hb hn=>by rw[hoth b (by simpa using hn)];exact hb)
def FB.write{h:PH}{a g cap:Nat}{bs ys:List UInt8}(H:FB h a g cap bs)(hle:bs.length+ys.length≤cap)(hcap:bs.length+ys.length≤1000000){k:cE}(hk:∀v h',FB h' a g cap (bs++ys)->cX [a,g] h h'->k v h'):
  bT PG jF #[pT a 0,.string (tx ys)] h k:=by
 obtain⟨cs,f,ha,hg,hf,hc,hsz,htk,hga,hmx⟩:=H;apply kA.call;unfold kA;refine copyCheck_ok ha (.inr rfl) λh1 a1 u1 o1=>?_;have g1:h1 g=some (.cells cs dM (0,f)):=by rw[o1 g hga];exact hg
 have c1:cV h1 ⟨a,0+1,none⟩=some (.slice (some ⟨g,0,none⟩) bs.length cap):=by simp[cV,a1]
 simp only[dH.f1,cY.load,c1,aT.len,lJ,cC,reduceIte]
 -- the append
 simp only[Builtin.append_,List.getElem?_toArray,zLK,zLL,sO cY.und,sO aT.und,lA,qM dM.info,pure_bind,zLs,if_false,Builtin.lenOf,Bool.not_false,if_true,dM.size,lJ];rw[if_pos hle];refine gZ (aTq (l:=ys)) ?_;have hadd:(⟨g,0,none⟩:Addr).add (bs.length*1)=⟨g,bs.length,none⟩:=by rw[kW];simp
 show cN PG (storeCells ((⟨g,0,none⟩:Addr).add (bs.length*1)) (ys.map λb=>Value.int .u8 b.toNat).toArray.toList >>= λ_=>pure _) h1 _;rw[hadd];refine cN.bind (P:=PG) (s:=storeCells _ _) ?_;refine aIH (b:=g) (o:=bs.length) (f:=f) (ys.map λb=>Value.int .u8 b.toNat) 0 h1 cs g1 (by omega) (by simp;omega) (λv hv=>by obtain⟨b,-,rfl⟩:=pQ.1 hv;rfl) ?_;have key:∀h2:PH,(∃cs',h2 g=some (.cells cs' dM (0,f))∧cs'.size=cap∧cs'.toList.take (bs.length+ys.length)=((bs++ys).map λb=>Value.int .u8 b.toNat))->h2 a=h1 a->cX [g] h1 h2->
   cN PG (cP cY (pT a (0+1)) (.slice (some ⟨g,0,none⟩) (bs.length+ys.length) cap)) h2 λ_ h3=>k (.tuple #[.int .i64 ys.length,.nilIface]) h3:=by
  intro h2 ⟨cs',hg2,hs2,ht2⟩ ha2 u2;refine lC cY.und rfl (by rw[ha2];exact a1) (by simp) rfl cY.info cY.size ?_;refine hk _ _ ⟨cs',f,?_,by rw[aAD hga];exact hg2,by simp;omega,by simpa using hle,hs2,by simpa using ht2,hga,hmx⟩ (((u1.mono λb hb=>.inl (by simp at hb;simp[hb])).trans (u2.mono λb hb=>.inl (by simp at hb;simp[hb]))).trans (cX.set (by simp)));rw[eN];simp
 by_cases hy:ys=[]
 ·subst hy;rw[if_pos (show(List.map (λb=>Value.int .u8 (b.toNat:Int)) ([]:List UInt8))=[] from rfl)];exact key h1 ⟨cs,g1,hsz,by simpa using htk⟩ rfl cX.refl
 ·rw[if_neg (by simpa using hy)];refine key _ ⟨_,eN,by rw[aD5];exact hsz,?_⟩ (aAD hga.symm) (cX.set (by simp));rw[zLP,aAm _ _ _ (by simp;omega),htk];rw[zLH (by simp),sK (by simp),xJ]
def aN6{n m:Nat}(h:m≤n):(List.replicate n (0:UInt8)).take m=List.replicate m 0:=by rw[List.take_replicate,aG6 h]
def aYq{ts:Array TypeId}{t:TypeId}{k:IntKind}{x y z:Int}:cB PG (Builtin.min_ ts t #[.int k x,.int k y,.int k z])=some (.int k (if z<(if y<x then y else x) then z else(if y<x then y else x))):=(rfl)
def aQe(x:Int):cB PG (convert aC9 aR (.int .u64 x))=some (.int .i64 (IntKind.i64.wrap x)):=by kernel_rfl
def aKw{h:PH}{n:Nat}(hn:n<1000){k:cE}(hk:∀h',dA h h'->k (.string (tx (List.replicate n 0))) h'):bT PG xI #[.string (tx [0]),.int .i64 n] h k:=by
 apply aDX.call;unfold aDX;simp only[gA,cC,reduceIte];by_cases h0:n=0
 ·subst h0;simp only[show(((0:Nat):Int)==0)=true from rfl,cC,reduceIte];exact hk _ cX.refl
 ·have e0:((n:Int)==0)=false:=by simpa using h0
  simp only[e0,cC,reduceIte];by_cases h1:n=1
  ·subst h1;simp only[show(((1:Nat):Int)==1)=true from rfl,cC,reduceIte];exact hk _ cX.refl
  ·have e1:((n:Int)==1)=false:=by simp;omega
   have e2:((n:Int)<0)=False:=eq_false (by omega);simp only[e1,e2,cC,reduceIte];unfold aHR;have w1:IntKind.u64.wrap (([0]:List UInt8).length:Int)=1:=rfl;have wn:IntKind.u64.wrap (n:Int)=n:=kI (by omega) (by omega);simp only[aT.len,lJ,aQn,w1,wn,cC,reduceIte];refine aYB hn ?_;have e3:((9223372036854775807:Int)<(n:Int))=False:=eq_false (by omega);simp only[aIe,aIo,show((0:Int)<0)=False from eq_false (by decide),e3,cC,reduceIte];unfold aG1;have wi:IntKind.i64.wrap (n:Int)=n:=eB (by omega) (by omega);have i0:cB PG (Instr.index aT (.string (tx [0])) (.int .i64 0))=some (.int .u8 ((0:UInt8).toNat:Int)):=oB (j:=0) aT.und rfl;have z0:(((0:UInt8).toNat:Int))=0:=rfl;have w2:(([0]:List UInt8).length:Int)=1:=rfl;have hz:((1:Int)==0)=false:=rfl;have d1:((0:Int)==32)=false:=rfl;have d2:((0:Int)==45)=false:=rfl;have d3:((0:Int)==48)=false:=rfl;have d4:((0:Int)==61)=false:=rfl;have d5:((0:Int)==9)=false:=rfl;simp only[aT.len,lJ,aQe,wi,i0,z0,w2,hz,d1,d2,d3,d4,d5,cC,reduceIte];unfold rN;simp only[cC,reduceIte];unfold aC4 aGj;have e4:((8192:Int)<(n:Int))=False:=eq_false (by omega);simp only[e4,cC,reduceIte];unfold aAj;rw[zB];intro r hr
   try rw[cR]
   have u1:dA h (h.set r (.cells #[.pointer none,.slice none 0 0] dH)):=cX.new hr;have a1:(h.set r (.cells #[.pointer none,.slice none 0 0] dH)) r=some (.cells #[.pointer none,.slice none 0 0] dH (0,0)):=eN;generalize h.set r (.cells #[.pointer none,.slice none 0 0] dH)=h1 at *;refine aWX a1 (n:=n) (by omega) (by omega) λh2 g cap hF hcap u2 hg=>?_;have ug:cX [r,g] h h2:=(u1.upd.trans (u2.mono λb hb=>.inl (by simp at hb;simp[hb])));have hgn:h g=none:=u1.none hg;have fin:∀h',cX [r,g] h h'->dA h h':=λh' u b o hb _=>u b o hb (by
    simp only[iW,zLg,or_false,not_or];exact⟨(λe=>by rw[e,hr] at hb;cases hb),(λe=>by rw[e,hgn] at hb;cases hb)⟩)
   refine FB.write hF (ys:=[0]) (by simpa using by omega) (by simp) λv h3 hF3 u3=>?_;refine⟨λvs h'=>∃m,1≤m∧m≤n∧vs=[.int .i64 n,.int .i64 n,pT r 0]∧cX [r,g] h h'∧FB h' r g cap (List.replicate m 0),aNj r n,⟨1,by omega,by omega,rfl,ug.trans u3,hF3⟩,?_⟩;rintro ρ h' ⟨m,hm1,hm2,hvs,u',F'⟩;simp only[iG,jB,kZ,and_true] at hvs;obtain⟨v7,v8,v9⟩:=hvs;have hr':=F'.mu (n:=n) (vs:=[ρ 7,ρ 8,ρ 9]);simp only[v7,v8,v9,iG,jB,aG3] at hr' ⊢;unfold aFx;refine F'.len ?_;simp only[aG3,cC,reduceIte];by_cases hmn:m<n
   ·have f1:((m:Int)<(n:Int))=True:=eq_true (by omega);simp only[f1,cC,reduceIte];refine F'.len ?_;have f2:IntKind.i64.wrap ((n:Int)-(m:Int))=((n-m:Nat):Int):=by rw[eB (by omega) (by omega)];omega
    simp only[aG3,f2,cC,reduceIte];refine F'.len ?_;have f3:(if (n:Int)<(if (m:Int)<((n-m:Nat):Int) then(m:Int) else((n-m:Nat):Int)) then(n:Int) else(if (m:Int)<((n-m:Nat):Int) then(m:Int) else((n-m:Nat):Int)))=((min m (n-m):Nat):Int):=by
     split<;>split<;>omega
    simp only[aG3,aYq,f3,cC,reduceIte];refine F'.string (by simp;omega) λh4 F4 u4=>?_;have ec:cB PG (Instr.sliceAt aT (.string (tx (List.replicate m 0))) none (some (.int .i64 ((min m (n-m):Nat):Int))) none)=some (.string (tx (List.replicate (min m (n-m)) 0))):=by
     have:=kD (P:=PG) (t:=aT) (l:=List.replicate m 0) (i:=0) (j:=min m (n-m)) (lo:=none) (hi:=some (.int .i64 ((min m (n-m):Nat):Int))) aT.und (.inl ⟨rfl,rfl⟩) (.inr ⟨_,rfl⟩) (by omega) (by simp;omega);rw[this,aN6 (by omega),zLb]
    simp only[ec,cC,reduceIte];refine F4.write (by simp;omega) (by simp;omega) λv5 h5 F5 u5=>?_;rw[List.replicate_append_replicate] at F5;refine⟨⟨m+min m (n-m),by omega,by omega,(by trivial),(u'.trans (u4.mono λb hb=>.inl (by simp at hb;simp[hb]))).trans u5,F5⟩,?_⟩;rw[F5.mu,hr',aG3];omega
   ·have f1:((m:Int)<(n:Int))=False:=eq_false (by omega);simp only[f1,cC,reduceIte];refine F'.string (by simp;omega) λh4 F4 u4=>?_;have:m=n:=by omega
    subst this;exact hk _ (fin _ (u'.trans (u4.mono λb hb=>.inl (by simp at hb;simp[hb]))))
end
section
open Go
abbrev aPm:=PH->List Nat->Prop
structure aH7(A:aPm):Prop where
 known:∀{h F},A h F->∀b∈F,h b≠none
 upd:∀{h h' F K},A h F->cX K h h'->(∀b∈F,b∉K)->A h' F
def aH7.ext{A:aPm}(a:aH7 A){h h':PH}{F:List Nat}(H:A h F)(u:dA h h'):A h' F:=a.upd H u (by simp)
structure eA(h:PH)(F:List Nat)(h':PH)(F':List Nat):Prop where
 upd:cX F h h'
 grow:∀b∈F',b∈F∨h b=none
def eA.refl{h:PH}{F:List Nat}:eA h F h F:=⟨cX.refl,λb hb=>.inl hb⟩
def eA.ext{h h':PH}{F:List Nat}(u:dA h h'):eA h F h' F:=⟨u.upd,λb hb=>.inl hb⟩
def eA.trans{h h1 h2:PH}{F F1 F2:List Nat}(a:eA h F h1 F1)(b:eA h1 F1 h2 F2):eA h F h2 F2 where
 upd:=a.upd.then b.upd a.grow
 grow:=λx hx=>by
  rcases b.grow x hx with hx|hx
  ·exact a.grow x hx
  ·by_cases hF:x∈F
   ·exact .inl hF
   ·right;cases e:h x with
    | none=>rfl
    | some o=>have:=a.upd x o e hF;rw[hx] at this;cases this
def box(r:Nat)(cs:List Value):aPm:=λh F=>F=[r]∧Bx h r cs
def aXR(x:Int):cB PG (convert cJ dM (.int .u64 x))=some (.int .u8 (IntKind.u8.wrap x)):=by kernel_rfl
def aTM(x:Int):kC PG (buildSlice cY 1 #[(0,.int .u8 x)])=some (.cells #[.int .u8 x] dM,λr=>pure (.slice (some ⟨r,0,none⟩) 1 1)):=by kernel_rfl
def mJ{h:PH}{n c:Nat}(hn:n<18446744073709551616)(hc:c≤1000){k:cE}(hk:∀h',dA h h'->k (.string (tx (be n c))) h'):bT PG gF #[.int .u64 n,.int .i64 c] h k:=by
 apply aAi.call;unfold aAi;refine⟨λvs h'=>∃i:Nat,i≤c∧vs=[.int .u64 ((n/256^i:Nat):Int),.int .i64 c,.string (tx ((be n c).drop (c-i))),.int .i64 i]∧dA h h',fT c 3,⟨0,by omega,by rw[yQ (by rw[hY];omega)];simp[aXh],cX.refl⟩,?_⟩;rintro ρ h' ⟨i,hi,hvs,w⟩;simp only[iG,jB,kZ,and_true] at hvs;obtain⟨s0,s1,s2,s3⟩:=hvs;rw[s0,s1,s2,s3];unfold aEu;by_cases hlt:i<c
 ·have hd:((i:Int)<(c:Int))=True:=by apply eq_true;omega
  have hle:n/256^i≤n:=Nat.div_le_self _ _;have e1:Int.tmod ((n/256^i:Nat):Int) 256=((n/256^i%256:Nat):Int):=(Int.ofNat_tmod _ 256).symm;have e2:IntKind.u8.wrap ((n/256^i%256:Nat):Int)=((UInt8.ofNat (n/256^i%256)).toNat:Int):=by rw[aJV];simp
  have e3:IntKind.u64.wrap (Int.tdiv ((n/256^i:Nat):Int) 256)=((n/256^(i+1):Nat):Int):=by
   have:Int.tdiv ((n/256^i:Nat):Int) 256=((n/256^i/256:Nat):Int):=rfl;have hd2:n/256^i/256=n/256^(i+1):=by rw[Nat.div_div_eq_div_mul,Nat.pow_succ]
   rw[this,hd2];exact kI (Int.natCast_nonneg _) (by have:=Nat.div_le_self n (256^(i+1));omega)
  have ei:=nR (i:=i) (by omega);simp only[hd,aPt (show(256:Int)≠0 by decide),aKZ (show(256:Int)≠0 by decide),e1,aXR,e2,aTM,cC,reduceIte];intro r hr;refine iB ?_;have u1:dA h' (h'.set r (.cells #[.int .u8 (UInt8.ofNat (n/256^i%256)).toNat] dM)):=cX.new hr;have s1:iH (h'.set r (.cells #[.int .u8 (UInt8.ofNat (n/256^i%256)).toNat] dM)) 1 (.slice (some ⟨r,0,none⟩) 1 1) ([UInt8.ofNat (n/256^i%256)].map jZ):=(eH.lit (jZ.rows [_]) eN (by simp) (by decide) (by simp[jZ])).slR;generalize h'.set r (.cells #[.int .u8 (UInt8.ofNat (n/256^i%256)).toNat] dM)=h1 at *;have hcv:=aFQ cY.und dM.und aT.und s1;have hcv':cD PG h1 (convert cY aT (.slice (some ⟨r,0,none⟩) 1 1))=some (.string (tx [UInt8.ofNat (n/256^i%256)])):=hcv;have hadd:cB PG (binOp .add aT (.string (tx [UInt8.ofNat (n/256^i%256)])) (.string (tx ((be n c).drop (c-i)))))=some (.string (tx ((be n c).drop (c-(i+1))))):=by
   rw[jW (by rw[jC,hY];simp;omega)];congr 3;have hg:=aPs n c (c-(i+1)) (by omega);have:c-1-(c-(i+1))=i:=by omega
   rw[this] at hg;obtain⟨hlt',hg'⟩:=zLA.1 hg;rw[aAs hlt',hg'];have:c-(i+1)+1=c-i:=by omega
   rw[this];rfl
  simp only[hcv',hadd,e3,ei,cC,reduceIte];exact⟨⟨i+1,by omega,rfl,w.trans u1⟩,by simp[fT,s3];omega⟩
 ·have hd:((i:Int)<(c:Int))=False:=by apply eq_false;omega
  have hic:i=c:=by omega
  subst hic;rw[aJE,zLb];simp only[hd,cC,reduceIte];exact hk _ w
def neqPtrSelf{h:PH}{x y:Operand}(a:Addr):cD PG h (fV .neq dP x y (.pointer (some a)) (.pointer (some a)))=some (.bool false):=by
 show cD PG h (Op.equalIn (9999+1) dP (.pointer (some a)) (.pointer (some a)) >>= λb=>(pure (Value.bool (!b)):Sem Value))=_;rw[iI];have:cD PG h (Op.equalIn (9999+1) dP (.pointer (some a)) (.pointer (some a)))=some true:=by
  rw[Op.equalIn,jO dP.und];simp only[lA];rw[xZ dH.info];simp[dH.size,sameAddr,cD,pure]
 rw[this];rfl
def semE_viewAt{h:PH}{r:Nat}{x:TypeId×Nat}{α:Type}(hs:jE h r=some (some x))(f:Option (Addr×TypeId)->Sem α):cD PG h (viewAt r >>= f)=cD PG h (f none):=by
 rw[iI];have:cD PG h (viewAt r)=some none:=by
  show(jE h r).bind _=_;rw[hs];rfl
 rw[this];rfl
def semE_seenAt{h:PH}{a:Addr}{x:TypeId×Nat}{α:Type}(hs:jE h a.block=some (some x))(f:Addr->Sem α):cD PG h (Conv.seenAt a >>= f)=cD PG h (f a):=by
 rw[iI];have:cD PG h (Conv.seenAt a)=some a:=by
  unfold Conv.seenAt;rw[semE_viewAt hs];rfl
 rw[this];rfl
def semE_cellsIn{h:PH}{r:Nat}{x:TypeId×Nat}{α:Type}(hs:jE h r=some (some x))(f:Option Nat->Sem α):cD PG h (cellsIn r >>= f)=cD PG h (f (some x.2)):=by
 rw[iI];have:cD PG h (cellsIn r)=some (some x.2):=by
  show(jE h r).bind _=_;rw[hs];rfl
 rw[this];rfl
def to_unsafe{h:PH}{a:Nat}{c:Array Value}(ha:h a=some (.cells c fB (0,0)))(hc:1<c.size):cD PG h (convert dP gP (pT a 1))=some (pT a 1):=by
 have hs:jE h a=some (some (fB,c.size)):=by unfold jE;rw[ha]
 show cD PG h (underlying dP >>= _)=_;rw[jO dP.und];show cD PG h (underlying gP >>= _)=_;rw[jO gP.und];show cD PG h (underlying dP >>= _)=_;rw[jO dP.und];show cD PG h (underlying gP >>= _)=_;rw[jO gP.und];show cD PG h (Conv.seenAt ⟨a,1,none⟩ >>= _)=_;rw[semE_seenAt (a:=⟨a,1,none⟩) hs];show cD PG h (cellsIn a >>= _)=_;rw[semE_cellsIn hs];have h1:¬(1 ≥ c.size):=by omega
 simp only[lA];rw[xZ dH.info];simp[dH.size,h1,cD,pure]
def from_unsafe{h:PH}{a:Nat}{c:Array Value}(ha:h a=some (.cells c fB (0,0)))(hc:c.size=3):cD PG h (convert gP dP (pT a 1))=some (pT a 1):=by
 have hs:jE h a=some (some (fB,c.size)):=by unfold jE;rw[ha]
 rw[hc] at hs;show cD PG h (underlying gP >>= _)=_;rw[jO gP.und];show cD PG h (underlying dP >>= _)=_;rw[jO dP.und];show cD PG h (underlying gP >>= _)=_;rw[jO gP.und];show cD PG h (underlying dP >>= _)=_;rw[jO dP.und];show cD PG h (Conv.seenAt ⟨a,1,none⟩ >>= _)=_;rw[semE_seenAt (a:=⟨a,1,none⟩) hs];have hv:cD PG h (variablesAt ⟨a,1,none⟩ dH 1)=some true:=by
  show(jE h a).bind _=_;rw[hs]
  kernel_rfl
 simp only[lA];rw[xZ dH.info];simp only[dH.size];rw[iI,hv];simp[cD,pure]
def NoEscape_ok{h:PH}{v:Value}{k:cE}(hk:k v h):bT PG yP #[v] h k:=
 bT.entry (v:=v) (by kernel_rfl) hk
structure WAt(h:PH)(a:Nat)(e:Int)(bs:List UInt8)(F:List Nat):Prop where
 here:∃p v G,h a=some (.cells #[.int .i64 e,p,v] fB (0,0))∧(p= .pointer none∨p=pT a 1)∧eH h dM 1 v (bs.map jZ) G∧F=a::G∧a∉G
def WAt.known{h:PH}{a:Nat}{e:Int}{bs:List UInt8}{F:List Nat}(H:WAt h a e bs F):∀b∈F,h b≠none:=by
 obtain⟨p,v,G,ha,hp,hO,rfl,hn⟩:=H;intro b hb;rcases iW.1 hb with rfl|hb
 ·rw[ha];simp
 ·exact hO.known b hb
def WAt.upd{h h':PH}{a:Nat}{e:Int}{bs:List UInt8}{F G:List Nat}(H:WAt h a e bs F)(u:cX G h h')(hd:∀b∈F,b∉G):WAt h' a e bs F:=by
 obtain⟨p,v,G',ha,hp,hO,rfl,hn⟩:=H;exact⟨p,v,G',u.get ha (hd a (by simp)),hp,hO.upd u (λb hb=>hd b (by simp[hb])),rfl,hn⟩
def WAt.ext{h h':PH}{a:Nat}{e:Int}{bs:List UInt8}{F:List Nat}(H:WAt h a e bs F)(u:dA h h'):WAt h' a e bs F:=H.upd u (by simp)
def aFU(h:PH)(a:Nat)(F:List Nat)(e:Int)(bs:List UInt8)(k:PH->Prop):Prop:=∀h' F',WAt h' a e bs F'->cX F h h'->(∀b∈F',b∈F∨h b=none)->k h'
def copyCheck_ok{h:PH}{a:Nat}{m p v:Value}(ha:h a=some (.cells #[m,p,v] fB (0,0)))(hp:p= .pointer none∨p=pT a 1){k:cE}
  (hk:∀h',h' a=some (.cells #[m,pT a 1,v] fB (0,0))->cX [a] h h'->(∀b,b≠a->h' b=h b)->k (.tuple #[]) h'):bT PG lP #[pT a 1] h k:=by
 apply mS.call;unfold mS;have hc:cV h ⟨a,1,none⟩=some p:=by simp[cV,ha]
 simp only[dH.f0,dP.load,hc,cC,reduceIte];rcases hp with rfl|rfl
 ·simp only[yE dP.und,Option.isNone_none,cC,reduceIte];refine cD.semH (to_unsafe ha (by simp)) ?_;refine NoEscape_ok ?_;refine cD.semH (from_unsafe ha (by simp)) ?_;refine lC dP.und rfl ha (by simp) rfl dP.info dP.size ?_;exact hk _ eN (cX.set (by simp)) (λb hb=>aAD hb)
 ·simp only[yE dP.und,aLC,neqPtrSelf,dH.f0,dP.load,hc,cC,reduceIte];exact hk _ ha cX.refl (λ_ _=>rfl)
def byte_lit(x:Int):kC PG (buildSlice cY 1 #[(0,.int .u8 x)])=some (.cells #[.int .u8 x] dM,λr=>pure (.slice (some ⟨r,0,none⟩) 1 1)):=by kernel_rfl
def buf_app{h:PH}{a:Nat}{e:Int}{p v x:Value}{bs ys:List UInt8}{G:List Nat}{t2 e2:TypeId}(hu2:PG.underlying t2=some (.slice e2))(ha:h a=some (.cells #[.int .i64 e,p,v] fB (0,0)))(hp:p= .pointer none∨p=pT a 1)(hO:eH h dM 1 v (bs.map jZ) G)(hn:a∉G)
  (hx:iH h 1 x (ys.map jZ)) (hl:bs.length+ys.length≤140737488355328) {k:PH->Prop} (hk:aFU h a (a::G) e (bs++ys) k):
  cN PG (Builtin.append_ #[cY,t2] cY #[v,x]) h λv' h'=>cN PG (cP cY (pT a 2) v') h' λ_ h''=>k h'':=by
 refine lV cY.und hu2 dM.info dM.size dM.bytes dM.zero rfl (by decide) hO hx (jZ.isCell _) (by simp;omega) ?_;intro v2 h2 F2 hO2 u2 k2 _;rw[←xJ] at hO2;have ha2:=u2.get ha hn;have hn2:a∉F2:=λhm=>by
  rcases k2 a hm with h1|h1
  ·exact hn h1
  ·rw[ha] at h1;cases h1
 refine lC cY.und rfl ha2 (by simp) ?_ cY.info cY.size ?_
 ·obtain⟨_,_,rfl,-⟩:=hO2.slR.here;rfl
 ·refine hk _ (a::F2) ⟨p,v2,F2,eN,hp,hO2.upd (cX.set (F:=[a]) (by simp)) (λb hb=>by simp;rintro rfl;exact hn2 hb),rfl,hn2⟩ ((u2.mono λb hb=>.inl (by simp[hb])).trans (cX.set (by simp))) (λb hb=>?_);rcases iW.1 hb with rfl|hb
  ·exact .inl (by simp)
  ·rcases k2 b hb with h1|h1
   ·exact .inl (by simp[h1])
   ·exact .inr h1
def WriteByte_ok{h:PH}{a:Nat}{e:Int}{bs:List UInt8}{F:List Nat}(hW:WAt h a e bs F)(hl:bs.length+1≤140737488355328)(x:UInt8){k:cE}(hk:aFU h a F e (bs++[x]) (k .nilIface)):
  bT PG pY #[pT a 1,.int .u8 x.toNat] h k:=by
 obtain⟨p,v,G,ha,hp,hO,rfl,hn⟩:=hW;apply mU.call;unfold mU;refine copyCheck_ok ha hp λh1 ha1 u1 o1=>?_;have hc:cV h1 ⟨a,2,none⟩=some v:=by simp[cV,ha1]
 have hO1:=hO.upd u1 (λb hb hf=>by simp at hf;subst hf;exact hn hb);simp only[dH.f1,cY.load,hc,byte_lit,cC,reduceIte];intro r hr;refine iB ?_;have u2:dA h1 (h1.set r (.cells #[.int .u8 x.toNat] dM)):=cX.new hr;have s2:iH (h1.set r (.cells #[.int .u8 x.toNat] dM)) 1 (.slice (some ⟨r,0,none⟩) 1 1) ([x].map jZ):=(eH.lit (jZ.rows [x]) eN (by simp) (by decide) (by simp[jZ])).slR;refine buf_app cY.und (u2.get ha1) (.inr rfl) (hO1.ext u2) hn s2 (by simpa using hl) ?_;intro h3 F3 hW3 u3 k3;refine hk _ F3 hW3 ((u1.mono λb hb=>.inl (by simp at hb;simp[hb])).trans (u2.upd.trans u3)) λb hb=>?_;rcases k3 b hb with h'|h'
 ·exact .inl h'
 ·by_cases hba:b=a
  ·exact .inl (by simp[hba])
  ·have:=u2.none h';rw[o1 b hba] at this;exact .inr this
def buf_str{h:PH}{a:Nat}{e:Int}{p v:Value}{bs ys:List UInt8}{G:List Nat}(ha:h a=some (.cells #[.int .i64 e,p,v] fB (0,0)))(hp:p= .pointer none∨p=pT a 1)(hO:eH h dM 1 v (bs.map jZ) G)(hn:a∉G)
  (hl:bs.length+ys.length≤140737488355328) {k:PH->Prop} (hk:aFU h a (a::G) e (bs++ys) k):
  cN PG (Builtin.append_ #[cY,aT] cY #[v,.string (tx ys)]) h λv' h'=>cN PG (cP cY (pT a 2) v') h' λ_ h''=>k h'':=by
 refine aMt cY.und aT.und dM.info dM.size dM.bytes dM.zero rfl (by decide) hO (by simp;omega) ?_;intro v2 h2 F2 hO2 u2 k2 _;rw[←xJ] at hO2;have ha2:=u2.get ha hn;have hn2:a∉F2:=λhm=>by
  rcases k2 a hm with h1|h1
  ·exact hn h1
  ·rw[ha] at h1;cases h1
 refine lC cY.und rfl ha2 (by simp) ?_ cY.info cY.size ?_
 ·obtain⟨_,_,rfl,-⟩:=hO2.slR.here;rfl
 ·refine hk _ (a::F2) ⟨p,v2,F2,eN,hp,hO2.upd (cX.set (F:=[a]) (by simp)) (λb hb=>by simp;rintro rfl;exact hn2 hb),rfl,hn2⟩ ((u2.mono λb hb=>.inl (by simp[hb])).trans (cX.set (by simp))) (λb hb=>?_);rcases iW.1 hb with rfl|hb
  ·exact .inl (by simp)
  ·rcases k2 b hb with h1|h1
   ·exact .inl (by simp[h1])
   ·exact .inr h1
def WriteString_ok{h:PH}{a:Nat}{e:Int}{bs ys:List UInt8}{F:List Nat}(hW:WAt h a e bs F)(hl:bs.length+ys.length≤140737488355328){k:cE}(hk:aFU h a F e (bs++ys) (k (.tuple #[.int .i64 ys.length,.nilIface]))):
  bT PG jF #[pT a 1,.string (tx ys)] h k:=by
 obtain⟨p,v,G,ha,hp,hO,rfl,hn⟩:=hW;apply kA.call;unfold kA;refine copyCheck_ok ha hp λh1 ha1 u1 o1=>?_;have hc:cV h1 ⟨a,2,none⟩=some v:=by simp[cV,ha1]
 have hO1:=hO.upd u1 (λb hb hf=>by simp at hf;subst hf;exact hn hb);simp only[dH.f1,cY.load,hc,aT.len,lJ,cC,reduceIte];refine buf_str ha1 (.inr rfl) hO1 hn hl ?_;intro h3 F3 hW3 u3 k3;refine hk _ F3 hW3 ((u1.mono λb hb=>.inl (by simp at hb;simp[hb])).trans u3) λb hb=>?_;rcases k3 b hb with h'|h'
 ·exact .inl h'
 ·by_cases hba:b=a
  ·exact .inl (by simp[hba])
  ·rw[o1 b hba] at h';exact .inr h'
def semE_loadBytes{h:PH}:∀(l:List UInt8) (a:Addr) (acc:ByteArray),a.spot=none->(∀j x,l[j]? =some x->cV h (a.add j)=some (.int .u8 x.toNat))->cD PG h (loadBytes a acc l.length)=some ⟨acc.data++l.toArray⟩
 | [],a,acc,_,_=>by show some acc=_;simp
 | x::xs,a,acc,hsp,hc=>by
  have h0:=hc 0 x rfl;have ha0:a.add 0=a:=by obtain⟨b,o,w⟩:=a;cases w<;>simp[Addr.add]
  rw[ha0] at h0;show(cV h a).bind _=_;rw[h0,zY];show cD PG h (loadBytes (a.add 1) (acc.push ((x.toNat:Int).toNat.toUInt8)) xs.length)=_;rw[semE_loadBytes xs (a.add 1) _ (by obtain⟨b,o,w⟩:=a;simp at hsp;subst hsp;rw[kW]) λj y hy=>?_]
  ·congr 1;apply ByteArray.ext;show(acc.push _).data++xs.toArray=_;rw[ByteArray.data_push];apply zLw;simp
  ·have:=hc (j+1) y (by simpa using hy);have e:(a.add 1).add j=a.add (j+1):=by
    obtain⟨b,o,w⟩:=a;simp at hsp;subst hsp;rw[kW,kW,kW];congr 1;omega
   rw[e];exact this
def unsafeStr{h:PH}{g:Nat}{cs:Array Value}{bs:List UInt8}(hb:h g=some (.cells cs dM (0,0)))(hle:bs.length≤cs.size)(hcs:cs.toList.take bs.length=bs.map λb=>Value.int .u8 b.toNat)(hne:bs≠[])(hmax:bs.length≤xC){k:cE}
  (hk:∀h',cX [g] h h'->k (.string (tx bs)) h'):cN PG (Builtin.unsafeString_ #[oO,aR] aT #[pT g 0,.int .i64 bs.length]) h k:=by
 have hl:bs.length≠0:=by simpa using hne
 have h63:¬((bs.length:Int)>IntKind.i64.max):=by
  have:IntKind.i64.max=9223372036854775807:=rfl;unfold xC at hmax;omega
 have hneg:¬(bs.length:Int)<0:=by omega
 have hz:¬(bs.length:Int)=0:=by omega
 have hdef:Builtin.unsafeString_ #[oO,aR] aT #[pT g 0,.int .i64 bs.length]=
   (do
    let n ←asInt (.int .i64 bs.length)
    if n<0 then runtimePanic (.error "unsafe.String: len out of range")
    if n>IntKind.i64.max then unsupported (.unsafePointer "String: a length above the largest int")
    if n=0 then pure (.string .empty)
    else if ←variablesAt ⟨g,0,none⟩ (←elemOf oO) n.toNat then do
     let s ←loadBytes ⟨g,0,none⟩ .empty n.toNat
     freeze ⟨g,0,none⟩ n.toNat
     pure (.string s)
    else unsupported (.unsafePointer "String: not so many bytes at ptr")):=rfl
 rw[hdef];have hs:jE h g=some (some (dM,cs.size)):=by unfold jE;rw[hb]
 have hv:cD PG h (variablesAt ⟨g,0,none⟩ dM bs.length)=some true:=by
  show(jE h g).bind _=_;rw[hs];have hc1:PG.cellsOf dM=1:=by kernel_rfl
  have:=Go.Lib.liesAt_bytes (P:=PG) hc1 (cs.size/PG.cellsOf dM) bs.length (by rw[hc1];simpa using hle);show some (liesAt PG PG.depth dM (cs.size/PG.cellsOf dM) 0 dM bs.length)=some true;rw[this]
 have hlb:=semE_loadBytes (h:=h) bs ⟨g,0,none⟩ .empty rfl (λj x hx=>by
  rw[kW];unfold cV;simp only[hb,iZ];have hj:j<bs.length:=(zLA.1 hx).1;have:(cs.toList.take bs.length)[j]? =some (.int .u8 x.toNat):=by rw[hcs,wG,hx];rfl
  rw[aDn,if_pos hj] at this;simpa using this)
 have helem:cD PG h (elemOf oO)=some dM:=by kernel_rfl
 simp only[asInt,asIntOf,pure_bind,map_pure,hneg,h63,hz,if_false,xK];refine gZ helem ?_;refine gZ hv ?_;simp only[if_true];refine gZ hlb ?_;show(∃o,h g=some o)∧_;refine⟨⟨_,hb⟩,?_⟩;have hfin:=hk (mF h ⟨g,0,none⟩ bs.length) (λb o hbo hn=>by
  unfold mF;rw[if_neg hl,if_neg (by simpa using hn)];exact hbo)
 show k (.string _) _;have e:(⟨ByteArray.empty.data++bs.toArray⟩:ByteArray)=tx bs:=by apply ByteArray.ext;simp[tx]
 rw[e];exact hfin
def unsafeNone{h:PH}{q:Option Addr}:cD PG h (Builtin.unsafeString_ #[oO,aR] aT #[.pointer q,.int .i64 0])=some (.string (tx [])):=by
 cases q<;>rfl
def String_ok{h:PH}{a:Nat}{e:Int}{bs:List UInt8}{F:List Nat}(hW:WAt h a e bs F){k:cE}(hk:∀h',cX F h h'->k (.string (tx bs)) h'):
  bT PG kX #[pT a 1] h k:=by
 obtain⟨p,v,G,ha,hp,hO,rfl,hn⟩:=hW;have hc:cV h ⟨a,2,none⟩=some v:=by simp[cV,ha]
 have lv:=hO.slR.len (t':=aR) cY.und;rw[iL] at lv;apply kB.call;unfold kB;simp only[dH.f1,cY.load,hc,lv,cC,reduceIte];have hload:∀h',cV h' ⟨a,2,none⟩=some v->cD PG h' (loadAt cY (pT a 2))=some v:=λh' h1=>by rw[cY.load];exact h1
 rcases hO.here with⟨rfl,hr,rfl⟩|⟨g,cap,cs,rfl,rfl,hb,hle,hmax,hsz,htk⟩
 ·have hnil:bs=[]:=by simpa using hr
  subst hnil;refine cD.semH (a:=.pointer none) rfl ?_;refine⟨hc,?_⟩;refine cD.semH unsafeNone ?_;exact hk _ cX.refl
 ·simp only[iL] at *;by_cases hne:bs=[]
  ·subst hne;by_cases hc0:cap=0
   ·subst hc0;have hs:jE h g=some (some (dM,cs.size)):=by unfold jE;rw[hb]
    show cN PG (viewAt g >>= _) h _;refine gZ (a:=none) (by rw[show viewAt g=(viewAt g >>= λx=>pure x) by simp,semE_viewAt hs];rfl) ?_;refine gZ (a:=dM) (by kernel_rfl) ?_;intro r hr;have u:dA h (h.set r (.view ⟨g,0,none⟩ dM)):=cX.new hr;refine⟨by rw[cV];simp[u.get ha],?_⟩;refine cD.semH unsafeNone ?_;exact hk _ u.upd
   ·refine cD.semH (a:=pT g 0) ?_ ?_
    ·show cD PG h (if cap≠0 then _ else _)=_;rw[if_pos hc0];rfl
    ·refine⟨hc,?_⟩;refine cD.semH unsafeNone ?_;exact hk _ cX.refl
  ·have hpos:0<bs.length:=aJ6.2 hne;refine cD.semH (a:=pT g 0) ?_ ?_
   ·show cD PG h (if cap≠0 then _ else _)=_;rw[if_pos (by omega)];rfl
   ·refine⟨hc,?_⟩;rw[Nat.mul_one,jZ.flat] at htk;refine unsafeStr hb (by omega) htk hne (by omega) λh' u=>?_;exact hk _ (u.mono λb hb=>.inl (by simp at hb;simp[hb]))
structure WS(h0:PH)(F0:List Nat)(h:PH)(a:Nat)(e:Int)(bs:List UInt8)(F:List Nat):Prop where
 at_:WAt h a e bs F
 upd:cX F0 h0 h
 grow:∀b∈F,b∈F0∨h0 b=none
def WS.refl{h:PH}{a:Nat}{e:Int}{bs:List UInt8}{F:List Nat}(H:WAt h a e bs F):WS h F h a e bs F:=⟨H,cX.refl,λb hb=>.inl hb⟩
def WS.step{h0 h h':PH}{F0 F F':List Nat}{a:Nat}{e e':Int}{bs bs':List UInt8}(S:WS h0 F0 h a e bs F)(H:WAt h' a e' bs' F')(u:cX F h h')(g:∀b∈F',b∈F∨h b=none):WS h0 F0 h' a e' bs' F':=
 ⟨H,S.upd.then u S.grow,λb hb=>by
  rcases g b hb with h1|h1
  ·exact S.grow b h1
  ·by_cases hF:b∈F0
   ·exact .inl hF
   ·right;cases hh:h0 b with
    | none=>rfl
    | some o=>rw[S.upd.get hh hF] at h1;cases h1⟩
def WS.ext{h0 h h':PH}{F0 F:List Nat}{a:Nat}{e:Int}{bs:List UInt8}(S:WS h0 F0 h a e bs F)(u:dA h h'):WS h0 F0 h' a e bs F:=S.step (S.at_.ext u) u.upd (λb hb=>.inl hb)
def WS.next{h:PH}{a:Nat}{F:List Nat}{e:Int}{bs:List UInt8}{k:PH->Prop}(hk:aFU h a F e bs k){h':PH}{F':List Nat}(S:WS h F h' a e bs F'):k h':=hk h' F' S.at_ S.upd S.grow
def aNz(x:Int):cB PG (convert aR cJ (.int .i64 x))=some (.int .u64 (IntKind.u64.wrap x)):=by kernel_rfl
def aWs(x:Int):cB PG (convert cJ dM (.int .u64 x))=some (.int .u8 (IntKind.u8.wrap x)):=by kernel_rfl
def aNf(x:Int):cB PG (convert cJ aR (.int .u64 x))=some (.int .i64 (IntKind.i64.wrap x)):=by kernel_rfl
def aQv(x:Int):cB PG (convert dM cJ (.int .u8 x))=some (.int .u64 (IntKind.u64.wrap x)):=by kernel_rfl
def aVF{n k:Nat}(hk:k<8):((n:Int).fdiv (2^(min (((8*k:Nat):Int)).toNat IntKind.u64.bits)))=((n/256^k:Nat):Int):=by
 have e1:min (((8*k:Nat):Int)).toNat IntKind.u64.bits=8*k:=by
  have:IntKind.u64.bits=64:=rfl;rw[this];omega
 have e2:(2:Nat)^(8*k)=256^k:=by rw[Nat.pow_mul]
 rw[e1];have e3:((2:Int)^(8*k))=((256^k:Nat):Int):=by
  rw[←e2];exact(Int.natCast_pow 2 (8*k)).symm
 rw[e3,Int.fdiv_eq_ediv_of_nonneg _ (Int.natCast_nonneg _)];exact(Int.natCast_ediv n (256^k)).symm
def aQH{h:PH}{a:Nat}{e:Int}{bs:List UInt8}{F:List Nat}(hW:WAt h a e bs F){n c:Nat}(hc:c≤8)(hn:n<18446744073709551616)(hl:bs.length≤140737488355000){k:cE}(hk:aFU h a F e (bs++be n c) (k (.tuple #[]))):
  bT PG vE #[pT a 0,.int .u64 n,.int .i64 c] h k:=by
 apply wE.call;unfold wE;have e0:IntKind.i64.wrap ((c:Int)-1)=(c:Int)-1:=eB (by omega) (by omega);simp only[e0,cC,reduceIte];refine⟨λvs h'=>∃(i:Nat) (F':List Nat),i≤c∧vs=[pT a 0,.int .u64 n,.int .i64 ((c:Int)-1-i)]∧WS h F h' a e (bs++(be n c).take i) F',λvs _=>match vs with|[_,_,.int _ j]=>(j+1).toNat|_=>0,⟨0,F,by omega,by simp,by simpa using WS.refl hW⟩,?_⟩;rintro ρ h' ⟨i,F',hi,hvs,S⟩;simp only[iG,jB,kZ,and_true] at hvs;obtain⟨s0,s1,s2⟩:=hvs;rw[s0,s1,s2];unfold aGr;by_cases hlt:i<c
 ·have hd:(0≤(c:Int)-1-i)=True:=by apply eq_true;omega
  obtain⟨q,hq⟩:∃q:Nat,c-1-i=q:=⟨_,rfl⟩;have hqi:(c:Int)-1-i=(q:Int):=by omega
  have e1:IntKind.i64.wrap (8*(q:Int))=((8*q:Nat):Int):=by rw[eB (by omega) (by omega)];omega
  have e2:IntKind.i64.wrap ((q:Int)-1)=(c:Int)-1-((i+1:Nat):Int):=by rw[eB (by omega) (by omega)];omega
  have h8:(0:Int)≤((8*q:Nat):Int):=by omega
  have e3:IntKind.u8.wrap (((n/256^q:Nat):Int))=((UInt8.ofNat (n/256^q%256)).toNat:Int):=by
   rw[aJV];simp
  rw[hqi] at hd ⊢;simp only[hd,fB.f1,iZ,e1,aP5 h8,aVF (show q<8 by omega),aWs,e3,e2,cC,reduceIte];have hlen:(bs++(be n c).take i).length≤140737488355100:=by
   rw[jM,lU,hY];omega
  refine WriteByte_ok S.at_ (by omega) _ λh3 F3 hW3 u3 k3=>?_;have ht:=aQT (n:=n) hlt;rw[hq] at ht;rw[uS,←ht] at hW3;exact⟨⟨i+1,F3,by omega,rfl,S.step hW3 u3 k3⟩,by simp[s2];omega⟩
 ·have hd:(0≤(c:Int)-1-i)=False:=by apply eq_false;omega
  rw[sK (by rw[hY];omega)] at S;simp only[hd,cC,reduceIte];exact S.next hk
def aRI{h:PH}{a:Nat}{e:Int}{bs:List UInt8}{F:List Nat}(hW:WAt h a e bs F)(x:Int){k:cE}(hk:aFU h a F (if e=0 then x else e) bs (k (.tuple #[]))):
  bT PG jG #[pT a 0,.int .i64 x] h k:=by
 have hW':=hW;obtain⟨p,v,G,ha,hp,hO,rfl,hn⟩:=hW;have hc:cV h ⟨a,0,none⟩=some (.int .i64 e):=by simp[cV,ha]
 apply pR.call;unfold pR;by_cases h0:e=0
 ·have q:(e==0)=true:=by simp[h0]
  rw[if_pos h0] at hk;simp only[mY.f0,dK.load,hc,q,cC,reduceIte];refine lC dK.und rfl ha (by simp) rfl dK.info dK.size ?_;refine hk _ (a::G) ⟨p,v,G,eN,hp,hO.upd (cX.set (F:=[a]) (by simp)) (λb hb=>by simp;rintro rfl;exact hn hb),rfl,hn⟩ (cX.set (by simp)) (λb hb=>.inl hb)
 ·have q:(e==0)=false:=by simp[h0]
  rw[if_neg h0] at hk;simp only[mY.f0,dK.load,hc,q,cC,reduceIte];exact hk _ _ hW' cX.refl (λb hb=>.inl hb)
def kQ(s:Int×List UInt8)(n:Int):Int×List UInt8:=if 0≤n∧n≤255 then(s.1,s.2++be n.toNat 1) else(if s.1=0 then 1 else s.1,s.2)
def aFe(s:Int×List UInt8)(l:List UInt8):Int×List UInt8:=if l.length≤65535 then(s.1,s.2++(be l.length 2++l)) else(if s.1=0 then 1 else s.1,s.2)
def aV6{h:PH}{a:Nat}{e:Int}{bs:List UInt8}{F:List Nat}(hW:WAt h a e bs F)(hl:bs.length≤140737488355000)(n:Int){k:cE}(hk:aFU h a F (kQ (e,bs) n).1 (kQ (e,bs) n).2 (k (.tuple #[]))):
  bT PG iR #[pT a 0,.int .i64 n] h k:=by
 apply aBs.call;unfold aBs;unfold kQ at hk;have bad:¬(0≤n∧n≤255)->bT PG jG #[pT a 0,.int .i64 1] h λv12 h13=>k (.tuple #[]) h13:=by
  intro hb;rw[if_neg hb] at hk;exact aRI hW 1 hk
 by_cases h1:n<0
 ·simp only[h1,fB.f0,cC,reduceIte];exact bad (by omega)
 ·by_cases h2:255<n
  ·simp only[h1,h2,fB.f0,cC,reduceIte];exact bad (by omega)
  ·rw[if_pos (by omega)] at hk;obtain⟨m,rfl⟩:=zLm (a:=n) (by omega);have e1:IntKind.u64.wrap (m:Int)=(m:Int):=kI (by omega) (by omega);simp only[h1,h2,aNz,e1,cC,reduceIte];exact aQH hW (c:=1) (by omega) (by omega) hl hk
def aUK{h:PH}{a:Nat}{e:Int}{bs:List UInt8}{F:List Nat}(hW:WAt h a e bs F)(hl:bs.length≤140737488355000){n:Nat}(hn:n<18446744073709551616){k:cE}(hk:aFU h a F e (bs++be n 8) (k (.tuple #[]))):
  bT PG kL #[pT a 0,.int .u64 n] h k:=by
 apply aAR.call;unfold aAR;exact aQH hW (c:=8) (by omega) hn hl hk
def aRa{h:PH}{a:Nat}{e:Int}{bs ys:List UInt8}{F:List Nat}(hW:WAt h a e bs F)(hl:bs.length+ys.length≤140737488355328){k:cE}(hk:aFU h a F e (bs++ys) (k (.tuple #[]))):
  bT PG nQ #[pT a 0,.string (tx ys)] h k:=by
 apply aCy.call;unfold aCy;simp only[fB.f1,iZ,cC,reduceIte];exact WriteString_ok hW hl hk
def aWv{h:PH}{a:Nat}{e:Int}{bs ys:List UInt8}{F:List Nat}(hW:WAt h a e bs F)(hl:bs.length≤140737488200000){k:cE}(hk:aFU h a F (aFe (e,bs) ys).1 (aFe (e,bs) ys).2 (k (.tuple #[]))):
  bT PG tX #[pT a 0,.string (tx ys)] h k:=by
 apply aB1.call;unfold aB1;unfold aFe at hk;by_cases h1:ys.length≤65535
 ·have q:((65535:Int)<(ys.length:Int))=False:=by apply eq_false;omega
  rw[if_pos h1] at hk;have e1:IntKind.u64.wrap (ys.length:Int)=(ys.length:Int):=kI (by omega) (by omega);simp only[aT.len,lJ,q,aNz,e1,cC,reduceIte];refine aQH hW (c:=2) (by omega) (by omega) (by omega) λh2 F2 hW2 u2 k2=>?_;have hl2:=hY ys.length 2;refine aRa hW2 (by rw[jM,hl2];omega) λh3 F3 hW3 u3 k3=>?_;rw[uS] at hW3;exact WS.next hk (((WS.refl hW).step hW2 u2 k2).step hW3 u3 k3)
 ·have q:((65535:Int)<(ys.length:Int))=True:=by apply eq_true;omega
  rw[if_neg h1] at hk;simp only[aT.len,lJ,q,fB.f0,cC,reduceIte];exact aRI hW 1 hk
def aLX{h:PH}{a:Nat}{e:Int}{c:Array Value}{T:TypeId}{fr:Nat×Nat}(ha:h a=some (.cells c T fr))(hc:c[0]? =some (.int .i64 e)){k:cE}(hk:k (.int .i64 e) h):bT PG iP #[pT a 0] h k:=by
 apply aCs.call;unfold aCs;have hc':cV h ⟨a,0,none⟩=some (.int .i64 e):=by simp[cV,ha,hc]
 simp only[mY.f0,dK.load,hc',cC,reduceIte];exact hk
def aDs(s:Int×List UInt8):List UInt8×Int:=if s.1=0 then(s.2,0) else([],s.1)
def aMI{h:PH}{a:Nat}{e:Int}{bs:List UInt8}{F:List Nat}(hW:WAt h a e bs F){k:cE}(hk:∀h',cX F h h'->k (.tuple #[.string (tx (aDs (e,bs)).1),.int .i64 (aDs (e,bs)).2]) h'):
  bT PG nZ #[pT a 0] h k:=by
 have hW':=hW;obtain⟨p,v,G,ha,hp,hO,rfl,hn⟩:=hW;apply aA9.call;unfold aA9;unfold aDs at hk;simp only[fB.f0,fB.f1,iZ,cC,reduceIte];refine aLX ha rfl ?_;by_cases h0:e=0
 ·have q:(e !=0)=false:=by simp[h0]
  rw[if_pos h0] at hk;simp only[q,cC,reduceIte];exact String_ok hW' hk
 ·have q:(e !=0)=true:=by simp[h0]
  rw[if_neg h0] at hk;simp only[q,cC,reduceIte];exact hk _ cX.refl
def aY1{t:TypeId}{x b:Nat}(hx:x*256+255<18446744073709551616)(hb:b<256):cB PG (binOp .or t (.int .u64 ((x*256:Nat):Int)) (.int .u64 (b:Int)))=some (.int .u64 ((x*256+b:Nat):Int)):=by
 have e:cB PG (binOp .or t (.int .u64 ((x*256:Nat):Int)) (.int .u64 (b:Int)))=some (.int .u64 (IntKind.u64.wrap ((BitVec.ofInt IntKind.u64.bits ((x*256:Nat):Int) ||| BitVec.ofInt IntKind.u64.bits (b:Int)).toNat))):=rfl;rw[e];congr 2;have h64:IntKind.u64.bits=64:=rfl;rw[h64,BitVec.toNat_or,BitVec.ofInt_natCast,BitVec.ofInt_natCast,BitVec.toNat_ofNat,BitVec.toNat_ofNat,aJf (by omega),aJf (by omega)];have:=Nat.shiftLeft_add_eq_or_of_lt (i:=8) (b:=b) (by omega) x;rw[Nat.shiftLeft_eq] at this;have e2:(x*256 ||| b)=x*256+b:=this.symm;rw[e2,kI (by omega) (by omega)]
structure lF(h:PH)(a:Nat)(e:Int)(s:List UInt8):Prop where
 here:h a=some (.cells #[.int .i64 e,.string (tx s)] eV (0,0))
def lF.upd{h h':PH}{a:Nat}{e:Int}{s:List UInt8}{G:List Nat}(H:lF h a e s)(u:cX G h h')(hd:a∉G):lF h' a e s:=⟨u.get H.here hd⟩
def lF.ext{h h':PH}{a:Nat}{e:Int}{s:List UInt8}(H:lF h a e s)(u:dA h h'):lF h' a e s:=H.upd u (by simp)
def aIA{h:PH}(s:List UInt8){k:cE}(hk:∀a h',lF h' a 0 s->dA h h'->h a=none->k (pT a 0) h'):bT PG xG #[.string (tx s)] h k:=by
 apply aDP.call;unfold aDP;have e1:cB PG (build eV #[(1,.string (tx s))])=some (.agg #[.int .i64 0,.string (tx s)]):=by kernel_rfl
 simp only[e1,cC,reduceIte];intro r hr;exact hk r _ ⟨eN⟩ (cX.new hr) hr
def mL(st:Int×List UInt8)(n:Int):List UInt8×(Int×List UInt8):=
 if st.1=0∧0≤n∧n≤st.2.length then(st.2.take n.toNat,(0,st.2.drop n.toNat)) else([],(if st.1=0 then 6 else st.1,st.2))
def aNC{h:PH}{a:Nat}{e:Int}{s:List UInt8}(hR:lF h a e s)(n:Int){k:cE}(hk:∀h',lF h' a (mL (e,s) n).2.1 (mL (e,s) n).2.2->cX [a] h h'->k (.string (tx (mL (e,s) n).1)) h'):
  bT PG sA #[pT a 0,.int .i64 n] h k:=by
 have ha:=hR.here;have c1:cV h ⟨a,1,none⟩=some (.string (tx s)):=by simp[cV,ha]
 have c0:cV h ⟨a,0,none⟩=some (.int .i64 e):=by simp[cV,ha]
 apply aCp.call;unfold aCp;have tail:∀(e':Int),(e'≠0->∀h',h' a=some (.cells #[.int .i64 e',.string (tx s)] eV (0,0))->cX [a] h h'->k (.string (tx [])) h')->(e'=0->0≤n∧n≤s.length)->(e'=0->e=0)->∀h',h' a=some (.cells #[.int .i64 e',.string (tx s)] eV (0,0))->cX [a] h h'->tV k (pT a 0) (.int .i64 n) h':=by
  intro e' hbad hgood he h' ha' u';unfold tV;simp only[eV.f0,eV.f1,iZ,cC,reduceIte];refine aLX ha' rfl ?_;by_cases h0:e'=0
  ·have q:(e' !=0)=false:=by simp[h0]
   obtain⟨g1,g2⟩:=hgood h0;have c1':cV h' ⟨a,1,none⟩=some (.string (tx s)):=by simp[cV,ha']
   obtain⟨m,rfl⟩:=zLm g1;have hm:m≤s.length:=by omega
   simp only[q,eV.f1,iZ,aT.load,c1',kD (lo:=none) aT.und (.inl ⟨rfl,rfl⟩) (.inr ⟨.i64,rfl⟩) (kT m) hm,kD (hi:=none) aT.und (.inr ⟨.i64,rfl⟩) (.inl ⟨rfl,rfl⟩) hm (lM _),cC,reduceIte];refine lC aT.und rfl ha' (by simp) rfl aT.info aT.size ?_;have hr:mL (e,s) (m:Int)=(s.take m,(0,s.drop m)):=by
    unfold mL;rw[if_pos ⟨he h0,by omega,by simpa using hm⟩];simp
   rw[hr] at hk;rw[zLb,sK (lM _)];refine hk _ ⟨?_⟩ (u'.trans (cX.set (by simp)));rw[eN,h0];rfl
  ·have q:(e' !=0)=true:=by simp[h0]
   simp only[q,cC,reduceIte];exact hbad h0 h' ha' u'
 have hin:e=0->¬(0≤n∧n≤s.length)->mL (e,s) n=([],(6,s)):=λh0 hb=>by
  unfold mL;rw[if_neg (by rintro⟨_,h2⟩;exact hb h2),if_pos h0]
 have hne:e≠0->mL (e,s) n=([],(e,s)):=λh0=>by
  unfold mL;rw[if_neg (by rintro⟨h1,_⟩;exact h0 h1),if_neg h0]
 have fails:¬(0≤n∧n≤s.length)->bT PG jG #[pT a 0,.int .i64 6] h λv h'=>tV k (pT a 0) (.int .i64 n) h':=by
  intro hb;apply pR.call;unfold pR;by_cases h0:e=0
  ·have q:(e==0)=true:=by simp[h0]
   simp only[mY.f0,dK.load,c0,q,cC,reduceIte];refine lC dK.und rfl ha (by simp) rfl dK.info dK.size ?_;refine tail 6 (λ_ h' ha' u'=>?_) (λh=>absurd h (by decide)) (λh=>absurd h (by decide)) _ eN (cX.set (by simp));have:=hk h';rw[hin h0 hb] at this;exact this ⟨ha'⟩ u'
  ·have q:(e==0)=false:=by simp[h0]
   simp only[mY.f0,dK.load,c0,q,cC,reduceIte];refine tail e (λ_ h' ha' u'=>?_) (λh1=>absurd h1 h0) (λh1=>h1) _ ha cX.refl;have:=hk h';rw[hne h0] at this;exact this ⟨ha'⟩ u'
 by_cases h1:n<0
 ·simp only[h1,eV.f0,cC,reduceIte];exact fails (by omega)
 ·by_cases h2:(s.length:Int)<n
  ·simp only[h1,eV.f0,eV.f1,iZ,aT.load,c1,aT.len,lJ,h2,cC,reduceIte];exact fails (by omega)
  ·simp only[h1,eV.f1,iZ,aT.load,c1,aT.len,lJ,h2,cC,reduceIte];refine tail e (λh0 h' ha' u'=>?_) (λ_=>by omega) (λh1=>h1) _ ha cX.refl;have:=hk h';rw[hne h0] at this;exact this ⟨ha'⟩ u'
def fK(st:Int×List UInt8)(c:Nat):Nat×(Int×List UInt8):=(lG (mL st c).1,(mL st c).2)
def aJq(st:Int×List UInt8)(c:Nat):(mL st c).1.length≤c:=by
 unfold mL;split
 ·simp;omega
 ·simp
def aQB{l:List UInt8}{i:Nat}{b:UInt8}(hb:l[i]? =some b):lG (l.take (i+1))=lG (l.take i)*256+b.toNat:=by
 rw[zLR,hb];exact aJ2 _ _
def aOV{l:List UInt8}{i:Nat}(hi:i<l.length)(hl:l.length≤8):lG (l.take i)*256+255<18446744073709551616:=by
 have h1:=aJY (l.take i);rw[lU,aG6 (by omega)] at h1;have h2:256^i≤256^7:=aNb (by decide) (by omega);have h3:(256:Nat)^7=72057594037927936:=by decide
 omega
def aPc{h:PH}{a:Nat}{e:Int}{s:List UInt8}(hR:lF h a e s){c:Nat}(hc:c≤8){k:cE}(hk:∀h',lF h' a (fK (e,s) c).2.1 (fK (e,s) c).2.2->cX [a] h h'->k (.int .u64 (fK (e,s) c).1) h'):
  bT PG vL #[pT a 0,.int .i64 c] h k:=by
 apply aCi.call;unfold aCi;refine aNC hR c λh1 hR1 u1=>?_;have hlen:=aJq (e,s) c;unfold fK at hk;generalize hrr:mL (e,s) (c:Int)=rr at *;refine aUx aT.und cY.und dM.und (by omega) λv h2 hS u2=>?_;have lv:=hS.len (t':=aR) cY.und;rw[iL] at lv;simp only[lv,cC,reduceIte];refine⟨λvs h'=>∃i:Nat,i≤rr.1.length∧vs=[.int .u64 (lG (rr.1.take i)),v,.int .i64 rr.1.length,.int .i64 i]∧h'=h2,fT rr.1.length 3,⟨0,by omega,rfl,rfl⟩,?_⟩;rintro ρ h' ⟨i,hi,hvs,rfl⟩;simp only[iG,jB,kZ,and_true] at hvs;obtain⟨s0,s1,s2,s3⟩:=hvs;rw[s0,s1,s2,s3];unfold aGf;by_cases hlt:i<rr.1.length
 ·have hd:((i:Int)<(rr.1.length:Int))=True:=by apply eq_true;omega
  obtain⟨b,hb⟩:∃b,rr.1[i]? =some b:=⟨_,kF hlt⟩;obtain⟨p,p1,p2⟩:=hS.loadCell cY.und dM.info dM.size dM.und rfl (k:=.i64) (j:=(i:Int)) (x:=.int .u8 b.toNat) (by omega) (by simp[wG,hb,jZ]);have hsm:=aOV hlt (by omega);have ei:=nR (i:=i) (by omega);have e1:min (8:Int).toNat IntKind.u64.bits=8:=by decide
  have e2:IntKind.u64.wrap ((lG (rr.1.take i):Int)*2^8)=((lG (rr.1.take i)*256:Nat):Int):=by rw[kI (by omega) (by omega)];omega
  have hb8:=b.toNat_lt;have e3:IntKind.u64.wrap (b.toNat:Int)=(b.toNat:Int):=kI (by omega) (by omega);simp only[hd,p1,p2,aXV (show(0:Int)≤8 by decide),e1,e2,aQv,e3,aY1 hsm hb8,ei,cC,reduceIte];exact⟨⟨i+1,by omega,by rw[aQB hb],by trivial⟩,by simp[fT,s3];omega⟩
 ·have hd:((i:Int)<(rr.1.length:Int))=False:=by apply eq_false;omega
  rw[sK (by omega)];simp only[hd,cC,reduceIte];exact hk _ (hR1.ext u2) (u1.trans u2.upd)
def aAw{h:PH}{a:Nat}{e:Int}{s:List UInt8}(hR:lF h a e s){k:cE}(hk:∀h',lF h' a (fK (e,s) 1).2.1 (fK (e,s) 1).2.2->cX [a] h h'->k (.int .i64 (fK (e,s) 1).1) h'):
  bT PG jV #[pT a 0] h k:=by
 apply aBt.call;unfold aBt;refine aPc hR (c:=1) (by omega) λh1 hR1 u1=>?_;have hlt:=aJY (mL (e,s) ((1:Nat):Int)).1;have hlen:=aJq (e,s) 1;have h2:256^(mL (e,s) ((1:Nat):Int)).1.length≤256^1:=aNb (by decide) hlen;have e1:IntKind.i64.wrap ((fK (e,s) 1).1:Int)=((fK (e,s) 1).1:Int):=by unfold fK;rw[eB (by omega) (by omega)]
 simp only[aNf,e1,cC,reduceIte];exact hk _ hR1 u1
def aB5{h:PH}{a:Nat}{e:Int}{s:List UInt8}(hR:lF h a e s){k:cE}(hk:∀h',lF h' a (fK (e,s) 8).2.1 (fK (e,s) 8).2.2->cX [a] h h'->k (.int .u64 (fK (e,s) 8).1) h'):
  bT PG lH #[pT a 0] h k:=by
 apply aAC.call;unfold aAC;exact aPc hR (c:=8) (by omega) hk
def vT(st:Int×List UInt8):List UInt8×(Int×List UInt8):=mL (fK st 2).2 (fK st 2).1
def wX(st:Int×List UInt8)(c:Nat):(fK st c).1<256^c:=by
 unfold fK;have hlt:=aJY (mL st (c:Int)).1;exact aNn hlt (aNb (by decide) (aJq st c))
def aPb{h:PH}{a:Nat}{e:Int}{s:List UInt8}(hR:lF h a e s){k:cE}(hk:∀h',lF h' a (vT (e,s)).2.1 (vT (e,s)).2.2->cX [a] h h'->k (.string (tx (vT (e,s)).1)) h'):
  bT PG zJ #[pT a 0] h k:=by
 apply aB4.call;unfold aB4;refine aPc hR (c:=2) (by omega) λh1 hR1 u1=>?_;have hlt:=wX (e,s) 2;have e1:IntKind.i64.wrap ((fK (e,s) 2).1:Int)=((fK (e,s) 2).1:Int):=by rw[eB (by omega) (by omega)]
 simp only[aNf,e1,cC,reduceIte];exact aNC hR1 _ λh2 hR2 u2=>hk _ hR2 (u1.trans u2)
def aQI{h:PH}{a:Nat}{e:Int}{s:List UInt8}(hR:lF h a e s){k:cE}(hk:k (.int .i64 (if e=0 then(s.length:Int) else 0)) h):
  bT PG zR #[pT a 0] h k:=by
 have ha:=hR.here;have c1:cV h ⟨a,1,none⟩=some (.string (tx s)):=by simp[cV,ha]
 apply aB3.call;unfold aB3;simp only[eV.f0,cC,reduceIte];refine aLX ha rfl ?_;by_cases h0:e=0
 ·have q:(e !=0)=false:=by simp[h0]
  rw[if_pos h0] at hk;simp only[q,eV.f1,iZ,aT.load,c1,aT.len,lJ,cC,reduceIte];exact hk
 ·have q:(e !=0)=true:=by simp[h0]
  rw[if_neg h0] at hk;simp only[q,cC,reduceIte];exact hk
abbrev gY:=Int×List UInt8
def yO(st:gY)(n:Nat):gY:=(st.1,st.2++be n 8)
def pM(st:gY)(n:Int):(kQ st n).2.length≤st.2.length+1:=by
 unfold kQ;split<;>simp[hY]
def aEb(st:gY)(n:Nat):(yO st n).2.length≤st.2.length+8:=by simp[yO,hY]
def aUA(st:gY)(l:List UInt8):(aFe st l).2.length≤st.2.length+65537:=by
 unfold aFe;split
 ·simp[hY];omega
 ·simp
abbrev WN(h0:PH)(h:PH)(a:Nat)(st:gY)(F:List Nat):Prop:=WS h0 [] h a st.1 st.2 F
def WN.upd{h0 h:PH}{a:Nat}{st:gY}{F:List Nat}(S:WN h0 h a st F):dA h0 h:=WS.upd S
def WN.fresh{h0 h:PH}{a:Nat}{st:gY}{F:List Nat}(S:WN h0 h a st F):eD h0 F:=λb hb=>by
 rcases S.grow b hb with h1|h1
 ·cases h1
 ·exact h1
def tN(h:PH)(F:List Nat)(h':PH)(F':List Nat):Prop:=∀r o,h r=some o->r∉F->h' r=some o∧r∉F'
def aMq{h h':PH}{F F':List Nat}(u:cX F h h')(g:∀b∈F',b∈F∨h b=none):tN h F h' F':=λr o hr hn=>⟨u.get hr hn,λhm=>by
 rcases g r hm with h1|h1
 ·exact hn h1
 ·rw[h1] at hr;cases hr⟩
def aBQ{h0 h:PH}{a:Nat}{st:gY}{F:List Nat}(S:WN h0 h a st F)(hl:st.2.length≤1000000000)(n:Int){k:cE}(hk:∀h' F' x,x=kQ st n->WN h0 h' a x F'->tN h F h' F'->k (.tuple #[]) h'):bT PG iR #[pT a 0,.int .i64 n] h k:=
 aV6 S.at_ (by omega) n λh' F' hW u g=>hk h' F' _ rfl (S.step hW u g) (aMq u g)
def aEO{h0 h:PH}{a:Nat}{st:gY}{F:List Nat}(S:WN h0 h a st F)(hl:st.2.length≤1000000000){n:Nat}(hn:n<18446744073709551616){k:cE}(hk:∀h' F' x,x=yO st n->WN h0 h' a x F'->tN h F h' F'->k (.tuple #[]) h'):bT PG kL #[pT a 0,.int .u64 n] h k:=
 aUK S.at_ (by omega) hn λh' F' hW u g=>hk h' F' (yO st n) rfl (S.step hW u g) (aMq u g)
def aS2{h0 h:PH}{a:Nat}{st:gY}{F:List Nat}(S:WN h0 h a st F)(hl:st.2.length≤1000000000)(ys:List UInt8){k:cE}(hk:∀h' F' x,x=aFe st ys->WN h0 h' a x F'->tN h F h' F'->k (.tuple #[]) h'):bT PG tX #[pT a 0,.string (tx ys)] h k:=
 aWv S.at_ (by omega) λh' F' hW u g=>hk h' F' _ rfl (S.step hW u g) (aMq u g)
def WN.box{h0 h:PH}{a:Nat}{st:gY}{F:List Nat}(S:WN h0 h a st F){r:Nat}(hr:h r=none):r∉F:=λhm=>S.at_.known r hm hr
def WN.new{h0 h:PH}{a:Nat}{st:gY}{F:List Nat}(S:WN h0 h a st F){r:Nat}(hr:h r=none)(o:Obj):WN h0 (h.set r o) a st F:=WS.ext S (cX.new hr)
def zW:dJ PG fB= #[.int .i64 0,.pointer none,.slice none 0 0]:=by rw[fB.zc];rfl
def WN.start{h:PH}{r:Nat}(hr:h r=none):WN h (h.set r (.cells (dJ PG fB) fB)) r (0,[]) [r]:=by
 have hW:WAt (h.set r (.cells (dJ PG fB) fB)) r 0 [] [r]:=by
  rw[zW];exact⟨_,_,[],eN,.inl rfl,eH.nil,rfl,by simp⟩
 exact⟨hW,cX.new hr,λb hb=>.inr (by simp only[iC] at hb;subst hb;exact hr)⟩
def aPB{h0 h:PH}{a:Nat}{st:gY}{F:List Nat}(S:WN h0 h a st F)(hl:st.2.length≤1000000000){ys:List UInt8}(hy:ys.length≤1000000000){k:cE}(hk:∀h' F' x,x=(st.1,st.2++ys)->WN h0 h' a x F'->tN h F h' F'->k (.tuple #[]) h'):bT PG nQ #[pT a 0,.string (tx ys)] h k:=
 aRa S.at_ (by omega) λh' F' hW u g=>hk h' F' (st.1,st.2++ys) rfl (S.step hW u g) (aMq u g)
def Pk.tx(p:Pk):Tx:=p.d.data.toList
def wPk(st:gY)(p:Pk):gY:=if p.right then aFe (yO (yO (kQ st p.f) p.s.toNat) p.t.toNat) p.tx else kQ st (-1)
def aIU(n g:Int):Int:=if n<1∨g<n then -1 else n
def aBY(st:gY)(x:Int×Pk):gY:=wPk (kQ st x.1) x.2
def aFh(st:gY)(l:List (Int×Pk)):gY:=l.foldl aBY (kQ st l.length)
structure Pl where
 h:Int
 i:Int
 deriving DecidableEq
def Pl.cells(q:Pl):List Value:=[.int .u64 q.h,.int .i64 q.i]
def Pl.zero:Pl:=⟨0,0⟩
def wPl(st:gY)(q:Pl):gY:=yO (yO (if q.i<0∨65535<q.i then kQ st (-1) else st) q.h.toNat) (IntKind.u64.wrap q.i).toNat
def aG0{st:gY}(h:st.1=1)(n:Int):(kQ st n).1=1:=by unfold kQ;split<;>simp[h]
def aPW{st:gY}(h:st.1=1)(n:Nat):(yO st n).1=1:=h
def aUN{st:gY}(h:st.1=1)(l:Tx):(aFe st l).1=1:=by unfold aFe;split<;>simp[h]
def aRP{st:gY}(h:st.1=1)(p:Pk):(wPk st p).1=1:=by
 unfold wPk;split
 ·exact aUN (aPW (aPW (aG0 h _) _) _) _
 ·exact aG0 h _
def aIb:∀(l:List (Int×Pk)) {st:gY},st.1=1->(l.foldl aBY st).1=1
 | [],_,h=>h
 | x::l,st,h=>aIb l (aRP (aG0 h _) _)
def aKa{st:gY}(h:st.1=1)(l:List (Int×Pk)):(aFh st l).1=1:=aIb l (aG0 h _)
def aW0{st:gY}(h:st.1=1)(q:Pl):(wPl st q).1=1:=by
 unfold wPl;split
 ·exact aG0 h _
 ·exact h
def Pk.bs(p:Pk):Tx:=be p.f.toNat 1++(be p.s.toNat 8++(be p.t.toNat 8++(be p.tx.length 2++p.tx)))
def aH8(p:Pk):p.tx.length=p.d.size:=rfl
def Pk.right_iff{p:Pk}:p.right=true↔0≤p.f∧p.f≤1∧p.s≠0∧p.t≠0∧p.d.size≤64:=by
 unfold Pk.right;simp only[sU,decide_eq_true_eq,and_assoc]
def aU3{p:Pk}(h:p.right=true)(b:Tx):wPk (0,b) p=(0,b++p.bs):=by
 obtain⟨h1,h2,-,-,h5⟩:=Pk.right_iff.1 h;unfold wPk;rw[if_pos h];unfold kQ yO aFe;rw[if_pos (show p.tx.length≤65535 by rw[aH8];omega),if_pos (show 0≤p.f∧p.f≤255 from⟨h1,by omega⟩)];simp only[Pk.bs,uS]
def aSy{p:Pk}(h:p.right=false)(b:Tx):(wPk (0,b) p).1=1:=by
 unfold wPk;rw[if_neg (by simp[h])];rfl
def aDa(x:Int×Pk):Tx:=be x.1.toNat 1++x.2.bs
def lN:List (Int×Pk)->Tx
 | []=>[]
 | x::l=>aDa x++lN l
def sP(l:List (Int×Pk)):Tx:=be l.length 1++lN l
def aCh(x:Int×Pk):Prop:=0≤x.1∧x.1≤255∧x.2.right=true
instance (x:Int×Pk):Decidable (aCh x):=by unfold aCh;infer_instance
def aOA{x:Int×Pk}(h:aCh x)(b:Tx):aBY (0,b) x=(0,b++aDa x):=by
 unfold aBY kQ;rw[if_pos ⟨h.1,h.2.1⟩,aU3 h.2.2,aDa,uS]
def aSE{x:Int×Pk}(h:¬aCh x)(b:Tx):(aBY (0,b) x).1=1:=by
 unfold aBY;by_cases h1:0≤x.1∧x.1≤255
 ·have h2:x.2.right=false:=by
   cases e:x.2.right with
   | false=>rfl
   | true=>exact absurd ⟨h1.1,h1.2,e⟩ h
  unfold kQ;rw[if_pos h1];exact aSy h2 _
 ·refine aRP ?_ _;unfold kQ;rw[if_neg h1];rfl
def aM9:∀(l:List (Int×Pk)) (b:Tx),(∀x∈l,aCh x)->l.foldl aBY (0,b)=(0,b++lN l)
 | [],b,_=>by simp[lN]
 | x::l,b,h=>by
  rw[zLt,aOA (h x (by simp)),aM9 l _ (λy hy=>h y (by simp[hy])),lN,uS]
def aL6:∀(l:List (Int×Pk)) (b:Tx),¬(∀x∈l,aCh x)->(l.foldl aBY (0,b)).1=1
 | [],b,h=>absurd (by simp) h
 | x::l,b,h=>by
  rw[zLt];by_cases hx:aCh x
  ·rw[aOA hx];exact aL6 l _ λhl=>h λy hy=>by
    rcases iW.1 hy with rfl|hy
    ·exact hx
    ·exact hl y hy
  ·exact aIb l (aSE hx b)
def aGp(l:List (Int×Pk)):Prop:=l.length≤255∧∀x∈l,aCh x
def aNN{l:List (Int×Pk)}(h:aGp l)(b:Tx):aFh (0,b) l=(0,b++sP l):=by
 unfold aFh kQ;have h1:=h.1;rw[if_pos ⟨by omega,by omega⟩,aM9 l _ h.2,sP,uS,xK]
def aLm{l:List (Int×Pk)}(h:¬aGp l)(b:Tx):(aFh (0,b) l).1=1:=by
 unfold aFh;by_cases h1:l.length≤255
 ·unfold kQ;rw[if_pos ⟨by omega,by omega⟩];exact aL6 l _ λhl=>h ⟨h1,hl⟩
 ·refine aIb l ?_;unfold kQ;rw[if_neg (by omega)];rfl
def jU(q:Pl):Prop:=0≤q.i∧q.i≤65535
instance (q:Pl):Decidable (jU q):=by unfold jU;infer_instance
def Pl.bs(q:Pl):Tx:=be q.h.toNat 8++be q.i.toNat 8
def aEN{q:Pl}(h:jU q)(b:Tx):wPl (0,b) q=(0,b++q.bs):=by
 unfold jU at h;unfold wPl yO;rw[if_neg (by omega),kI (by omega) (by omega),Pl.bs,uS]
def aLI{q:Pl}(h:¬jU q)(b:Tx):(wPl (0,b) q).1=1:=by
 unfold jU at h;unfold wPl yO;rw[if_pos (by omega)];rfl
def xR(st:gY)(e:Int):gY:=(if st.1=0 then e else st.1,st.2)
def rA(st:gY):(Int×ByteArray)×gY:=((((fK st 8).1:Int),tx (vT (fK st 8).2).1),(vT (fK st 8).2).2)
def rB(st:gY):(Int×Int×ByteArray)×gY:=((((fK st 8).1:Int),(rA (fK st 8).2).1),(rA (fK st 8).2).2)
def rC(st:gY):Pk×gY:=(⟨((fK st 1).1:Int),(rB (fK st 1).2).1.1,(rB (fK st 1).2).1.2.1,(rB (fK st 1).2).1.2.2⟩,(rB (fK st 1).2).2)
def oP(st:gY):Pk×gY:=
 let st':=if (rC st).1.right then(rC st).2 else xR (rC st).2 5
 (if st'.1=0 then(rC st).1 else default,st')
def aAx(g:Int)(st:gY):(Int×Pk)×gY:=
 let a:=fK st 1;let b:=oP a.2
 (((a.1:Int),b.1),if (a.1:Int)<1∨g<a.1 then xR b.2 5 else b.2)
def jQ(g:Int):Nat->gY->List (Int×Pk)->List (Int×Pk)×gY
 | 0,st,acc=>(acc,st)
 | n+1,st,acc=>if st.1=0 then jQ g n (aAx g st).2 (acc++[(aAx g st).1]) else(acc,st)
def fJ(g:Int)(st:gY):List (Int×Pk)×gY:=
 let a:=fK st 1;let b:=jQ g a.1 a.2 []
 (if b.2.1=0 then b.1 else [],b.2)
def gU(st:gY):Pl×gY:=
 let a:=fK st 8;let b:=fK a.2 8;let st':=if 65535<b.1 then xR b.2 5 else b.2
 (if st'.1=0 then⟨a.1,b.1⟩ else Pl.zero,st')
structure qY{α:Type}(R:gY->α×gY)(bs:Tx)(v:α):Prop where
 all:∀rest,R (0,bs++rest)=(v,(0,rest))
 cut:∀n,n<bs.length->(R (0,bs.take n)).2.1=6
def tY{α:Type}(R:gY->α×gY):Prop:=∀e s,e≠0->(R (e,s)).2.1=e
def tY.keep{α:Type}{R:gY->α×gY}(h:tY R){st:gY}{e:Int}(he:st.1=e)(h0:e≠0):(R st).2.1=e:=by
 obtain⟨a,b⟩:=st;simp only at he;subst he;exact h _ _ h0
def qY.bind{α β γ:Type}{R:gY->α×gY}{S:α->gY->β×gY}{f:α->β->γ}{bs cs:Tx}{v:α}{w:β}(h1:qY R bs v)(h2:qY (S v) cs w)(hs:∀x,tY (S x)):
  qY (λst=>(f (R st).1 (S (R st).1 (R st).2).1,(S (R st).1 (R st).2).2)) (bs++cs) (f v w):=by
 refine⟨λrest=>?_,λn hn=>?_⟩
 ·simp only[uS,h1.all,h2.all]
 ·simp only;by_cases hb:n<bs.length
  ·have e:(bs++cs).take n=bs.take n:=by rw[zLH (by omega)]
   rw[e];exact(hs _).keep (h1.cut n hb) (by decide)
  ·have e:(bs++cs).take n=bs++cs.take (n-bs.length):=by
    rw[List.take_append,sK (by omega)]
   rw[e,h1.all];exact h2.cut _ (by rw[jM] at hn;omega)
def aHY(l:Tx):qY (λst=>mL st (l.length:Int)) l l:=by
 refine⟨λrest=>?_,λn hn=>?_⟩
 ·unfold mL;rw[if_pos ⟨rfl,by omega,by rw[jM];omega⟩];simp
 ·unfold mL;rw[if_neg (by simp;omega)];rfl
def aGQ(n:Int):tY (λst=>mL st n):=λe s h=>by
 simp only[mL];rw[if_neg (by simp[h])];simp[h]
def mO{n c:Nat}(h:n<256^c):qY (λst=>fK st c) (be n c) n:=by
 have:=aHY (be n c);rw[hY] at this;refine⟨λrest=>?_,λm hm=>?_⟩
 ·unfold fK;rw[this.all,aXA,aJf h]
 ·unfold fK;exact this.cut m hm
def uT(c:Nat):tY (λst=>fK st c):=λe s h=>aGQ _ e s h
def aLq{l:Tx}(h:l.length≤65535):qY vT (be l.length 2++l) l:=
 qY.bind (R:=λst=>fK st 2) (S:=λn st=>mL st (n:Int)) (f:=λ_ w=>w) (mO (by omega)) (aHY l) λx=>aGQ _
def aKl:tY vT:=λe s h=>(aGQ _).keep (uT 2 e s h) h
def aDG{st:gY}{e x:Int}(he:st.1=e)(h0:e≠0):(xR st x).1=e:=by
 unfold xR;rw[if_neg (by rw[he];exact h0)];exact he
def Pk.wf(p:Pk):Prop:=0≤p.s∧p.s<18446744073709551616∧0≤p.t∧p.t<18446744073709551616
def aSU(p:Pk):tx p.tx=p.d:=aWA p.d
def aOb:tY rA:=λe s h=>aKl.keep (uT 8 e s h) h
def aOP:tY rB:=λe s h=>aOb.keep (uT 8 e s h) h
def aUB:tY rC:=λe s h=>aOP.keep (uT 1 e s h) h
def aTY{p:Pk}(h:p.right=true)(w:p.wf):qY oP p.bs p:=by
 obtain⟨h1,h2,-,-,h5⟩:=Pk.right_iff.1 h;obtain⟨w1,w2,w3,w4⟩:=w;have r1:=mO (n:=p.f.toNat) (c:=1) (by omega);have r2:=mO (n:=p.s.toNat) (c:=8) (by omega);have r3:=mO (n:=p.t.toNat) (c:=8) (by omega);have r4:=aLq (l:=p.tx) (by rw[aH8];omega);have hp:(⟨(p.f.toNat:Int),(p.s.toNat:Int),(p.t.toNat:Int),tx p.tx⟩:Pk)=p:=by
  rw[aSU,zLu h1,zLu w1,zLu w3]
 have ra:qY rA _ _:=r3.bind (S:=λ_ st=>vT st) (f:=λ(c:Nat) (d:Tx)=>((c:Int),tx d)) r4 λ_=>aKl;have rb:qY rB _ _:=r2.bind (S:=λ_ st=>rA st) (f:=λ(b:Nat) (x:Int×ByteArray)=>((b:Int),x)) ra λ_=>aOb;have rc:qY rC _ _:=r1.bind (S:=λ_ st=>rB st) (f:=λ(a:Nat) (x:Int×Int×ByteArray)=>(⟨(a:Int),x.1,x.2.1,x.2.2⟩:Pk)) rb λ_=>aOP;rw[hp] at rc;refine⟨λrest=>?_,λn hn=>?_⟩
 ·have e:=rc.all rest;unfold oP Pk.bs;rw[e];simp only[h,if_true]
 ·have e:=rc.cut n hn;unfold oP Pk.bs;simp only;split
  ·exact e
  ·exact aDG e (by decide)
def aRi:tY oP:=λe s h=>by
 unfold oP;have:=aUB e s h;simp only;split
 ·exact this
 ·exact aDG this h
def aR8{g:Int}{x:Int×Pk}(h1:1≤x.1)(h2:x.1≤g)(hg:g≤255)(h:x.2.right=true)(w:x.2.wf):qY (aAx g) (aDa x) x:=by
 have r:=(mO (n:=x.1.toNat) (c:=1) (by omega)).bind (S:=λ_ st=>oP st) (f:=λ(a:Nat) (p:Pk)=>((a:Int),p)) (aTY h w) λ_=>aRi;have hx:((x.1.toNat:Int),x.2)=x:=by rw[zLu (by omega)]
 simp only[hx] at r;refine⟨λrest=>?_,λn hn=>?_⟩
 ·have e:=r.all rest;have e1:=congrArg Prod.fst e;have e2:=congrArg Prod.snd e;have e3:=congrArg Prod.fst e1;simp only at e1 e2 e3;unfold aAx aDa;refine Prod.ext e1 ?_;show(if _ then _ else _)=_;rw[if_neg (by rw[e3];omega)];exact e2
 ·have:=r.cut n hn;unfold aAx aDa;simp only at this ⊢;split
  ·exact aDG this (by decide)
  ·exact this
def aIS(g:Int):∀(n:Nat) (acc:List (Int×Pk)),tY (λst=>jQ g n st acc)
 | 0,acc=>λe s h=>rfl
 | n+1,acc=>λe s h=>by
  simp only[jQ];rw[if_neg h]
def aLp{g:Int}(hg:g≤255):∀(l:List (Int×Pk)) (acc:List (Int×Pk)),(∀x∈l,1≤x.1∧x.1≤g∧x.2.right=true∧x.2.wf)->qY (λst=>jQ g l.length st acc) (lN l) (acc++l)
 | [],acc,_=>⟨λrest=>by simp[jQ,lN],λn hn=>by simp[lN] at hn⟩
 | x::l,acc,h=>by
  obtain⟨h1,h2,h3,h4⟩:=h x (by simp);have r1:=aR8 h1 h2 hg h3 h4;have r2:=aLp hg l (acc++[x]) λy hy=>h y (by simp[hy]);have r:=r1.bind (S:=λx st=>jQ g l.length st (acc++[x])) (f:=λ_ w=>w) r2 λ_=>aIS g _ _;rw[uS] at r;refine⟨λrest=>?_,λn hn=>?_⟩
  ·have:=r.all rest;simp only[iU,jQ];rw[if_pos (by trivial)];exact this
  ·have:=r.cut n hn;simp only[iU,jQ];rw[if_pos (by trivial)];exact this
def aFs(g:Int):tY (fJ g):=λe s h=>by
 unfold fJ;exact(aIS g _ _).keep (uT 1 e s h) h
def aL7{g:Int}(hg:g≤255){l:List (Int×Pk)}(hl:l.length≤255)(h:∀x∈l,1≤x.1∧x.1≤g∧x.2.right=true∧x.2.wf):qY (fJ g) (sP l) l:=by
 have r:=(mO (n:=l.length) (c:=1) (by omega)).bind (S:=λn st=>jQ g n st []) (f:=λ_ w=>w) (aLp hg l [] h) λ_=>aIS g _ _;rw[zLU] at r;refine⟨λrest=>?_,λn hn=>?_⟩
 ·have:=r.all rest;unfold fJ sP;simp only[Prod.mk.injEq] at this ⊢;obtain⟨e1,e2⟩:=this;rw[e1,e2,if_pos rfl];exact⟨rfl,rfl⟩
 ·have:=r.cut n hn;unfold fJ sP;exact this
def aKD:tY gU:=λe s h=>by
 unfold gU;have:=(uT 8).keep (uT 8 e s h) h;simp only at this ⊢;split
 ·exact aDG this h
 ·exact this
def aKi{q:Pl}(h:jU q)(w1:0≤q.h)(w2:q.h<18446744073709551616):qY gU q.bs q:=by
 obtain⟨h1,h2⟩:=h;have r:=(mO (n:=q.h.toNat) (c:=8) (by omega)).bind (S:=λ_ st=>fK st 8) (f:=λ(a b:Nat)=>(a,b)) (mO (n:=q.i.toNat) (c:=8) (by omega)) λ_=>uT 8;have hq:(⟨(q.h.toNat:Int),(q.i.toNat:Int)⟩:Pl)=q:=by rw[zLu w1,zLu h1]
 refine⟨λrest=>?_,λn hn=>?_⟩
 ·have:=r.all rest;unfold gU Pl.bs;simp only[Prod.mk.injEq] at this ⊢;obtain⟨⟨e1,e2⟩,e3⟩:=this;rw[e1,e2,e3,if_neg (show ¬65535<q.i.toNat by omega),if_pos rfl,hq];exact⟨rfl,rfl⟩
 ·have:=r.cut n hn;unfold gU Pl.bs;simp only at this ⊢;split
  ·exact aDG this (by decide)
  ·exact this
def aFg(x:W):W:=(x>>>1) ^^^ ((x &&& 1)*3988292384)
def yG:Nat->W->W
 | 0,x=>x
 | n+1,x=>aFg (yG n x)
def aE4(n:Nat):W:=yG 8 (BitVec.ofNat 32 n)
def aJL(x:W)(b:UInt8):W:=(x>>>8) ^^^ aE4 ((UInt8.ofNat x.toNat) ^^^ b).toNat
def rZ(x:W)(s:Tx):W:=s.foldl aJL x
def aNc(s:Tx):W:= ~~~(rZ 4294967295 s)
def aF8(x:W):Tx:=[UInt8.ofNat x.toNat,UInt8.ofNat (x>>>8).toNat,UInt8.ofNat (x>>>16).toNat,UInt8.ofNat (x>>>24).toNat]
def aN5(s:Tx):Tx:=aF8 (aNc s)
def aU7(s:Tx):(aN5 s).length=4:=rfl
def mQ(s:Tx):Tx:=s++aN5 s
def aEe(s:Tx):(mQ s).length=s.length+4:=by unfold mQ;rw[jM,aU7]
def oE(s:Tx):Bool:=decide (4≤s.length∧aN5 (s.take (s.length-4))=s.drop (s.length-4))
def aLz(s:Tx):oE (mQ s)=true:=by
 unfold oE;have h:(mQ s).length-4=s.length:=by rw[aEe];omega
 rw[decide_eq_true_eq,h];refine⟨by rw[aEe];omega,?_⟩;unfold mQ;rw[List.take_left,List.drop_left]
def gB(n:Nat):Prop:=64≤n∧n≤512
instance (n:Nat):Decidable (gB n):=by unfold gB;infer_instance
def dL(size n:Nat):Nat:=if gB size∧n≤4096 then max 1 ((n+(size-25)-1)/(size-25)) else 0
def kJ(n:Nat):Tx:=List.replicate n 0
def jJ(room:Nat)(s:Tx)(k:Nat):Tx:=(s.drop (k*room)).take room
def mX(size gen ser k parts:Nat)(b:Tx):Tx:=[82]++(be gen 8++(be ser 8++(be k 1++(be parts 1++((be b.length 2++b)++kJ (size-25-b.length))))))
def nC(size gen ser k parts:Nat)(b:Tx):Tx:=mQ (mX size gen ser k parts b)
def fR(size gen ser:Nat)(s:Tx):List Tx:=(List.range (dL size s.length)).map λk=>nC size gen ser k (dL size s.length) (jJ (size-25) s k)
structure kK where
 (gen ser part parts:Nat)
 b:Tx
deriving DecidableEq
def kK.zero:kK:=⟨0,0,0,0,[]⟩
def aJp(st:gY):Nat:=if st.1=0 then st.2.length else 0
def frG(s:Tx):Nat×gY:=fK (mL (0,s) 1).2 8
def frN(s:Tx):Nat×gY:=fK (frG s).2 8
def yD(s:Tx):Nat×gY:=fK (frN s).2 1
def vQ(s:Tx):Nat×gY:=fK (yD s).2 1
def yC(s:Tx):Tx×gY:=vT (vQ s).2
def frZ(s:Tx):Tx×gY:=mL (yC s).2 (aJp (yC s).2:Nat)
def aBI(s:Tx):kK:=⟨(frG s).1,(frN s).1,(yD s).1,(vQ s).1,(yC s).1⟩
def aIk(s:Tx):Prop:=(frZ s).2.1=0∧(mL (0,s) 1).1=[82]∧(∀x∈(frZ s).1,x=0)∧(yD s).1<(vQ s).1
def aHn(size:Nat)(f:kK):Prop:=(f.part+1≠f.parts->f.b.length=size-25)∧(f.part+1=f.parts->1<f.parts->f.b≠[])
def aIu(size:Nat)(f:kK):Prop:=dL size (f.part*(size-25)+f.b.length)≠0∧f.parts≤dL size 4096
instance (s:Tx):Decidable (aIk s):=by unfold aIk;infer_instance
instance (n:Nat) (f:kK):Decidable (aHn n f):=by unfold aHn;infer_instance
instance (n:Nat) (f:kK):Decidable (aIu n f):=by unfold aIu;infer_instance
def fW(size:Nat)(s:Tx):kK×Int:=
 if ¬gB size then(kK.zero,1) else if s.length≠size then(kK.zero,6) else if oE s=false then(kK.zero,8)
 else if aIk (s.take (size-4))∧aHn size (aBI (s.take (size-4)))∧aIu size (aBI (s.take (size-4))) then(aBI (s.take (size-4)),0) else(kK.zero,5)
def aGd(gen ser k parts:Nat)(p:kK×Int):Prop:=p.2≠0∨p.1.gen≠gen∨p.1.ser≠ser∨p.1.part≠k∨p.1.parts≠parts
instance (gen ser k parts:Nat) (p:kK×Int):Decidable (aGd gen ser k parts p):=by unfold aGd;infer_instance
def iY(size gen ser:Nat):List Tx->Nat->Nat->Tx->Tx×Nat
 | [],_,_,_=>([],0)
 | x::xs,k,parts,text=>
  if aGd gen ser k (if k=0 then(fW size x).1.parts else parts) (fW size x) then([],0)
  else if k+1=(fW size x).1.parts then(text++(fW size x).1.b,(fW size x).1.parts)
  else iY size gen ser xs (k+1) (if k=0 then(fW size x).1.parts else parts) (text++(fW size x).1.b)
def jD(size gen:Nat):Nat->List Tx->Nat->List Tx×Nat
 | 0,_,_=>([],0)
 | f+1,xs,ser=>
  if (iY size gen ser xs 0 0 []).2=0 then([],0)
  else((iY size gen ser xs 0 0 []).1::(jD size gen f (xs.drop (iY size gen ser xs 0 0 []).2) (ser+1)).1,(iY size gen ser xs 0 0 []).2+(jD size gen f (xs.drop (iY size gen ser xs 0 0 []).2) (ser+1)).2)
structure Hd where
 (gen seg:Nat)
deriving DecidableEq
def Hd.zero:Hd:=⟨0,0⟩
def nM(size:Nat)(h:Hd):Tx:=[72]++(be h.gen 8++(be h.seg 1++kJ (size-14)))
def fO(size:Nat)(h:Hd):Tx×Int:=if ¬gB size∨h.gen=0∨1<h.seg then([],1) else(mQ (nM size h),0)
def vF(s:Tx):Hd:=⟨(fK (0,s.drop 1) 8).1,(fK (fK (0,s.drop 1) 8).2 1).1⟩
def fI(size:Nat)(s:Tx):Hd×Int:=
 if ¬gB size then(Hd.zero,1) else if s.length≠size then(Hd.zero,6) else if oE s=false then(Hd.zero,8)
 else if (fO size (vF s)).2=0∧(fO size (vF s)).1=s then(vF s,0) else(Hd.zero,5)
def nP(b:Hd×Int)(k:Int)(h:Hd):Hd×Int:=if h≠Hd.zero∧b.1.gen<h.gen then(h,k) else b
def jX(size:Nat)(x y:Tx):Hd×Int:=nP (nP (Hd.zero,-1) 0 (fI size x).1) 1 (fI size y).1
def gT(h:Hd):Hd×Int:=if h.gen=18446744073709551615 then(Hd.zero,12) else(⟨h.gen+1,if h.seg=0 then 1 else 0⟩,0)
def xD(n:Nat):(kJ n).length=n:=by simp[kJ]
def aGe{size gen ser k parts:Nat}{b:Tx}(h:b.length+25≤size):(mX size gen ser k parts b).length=size-4:=by
 unfold mX;simp only[jM,hY,xD,iU,kV];omega
def aJ7{size gen ser k parts:Nat}{b:Tx}(h:b.length+25≤size):(nC size gen ser k parts b).length=size:=by
 unfold nC;rw[aEe,aGe h];omega
def aRh{size gen ser k parts:Nat}{b:Tx}(h:b.length+25≤size)(hs:size≤512)(g1:gen<18446744073709551616)(g2:ser<18446744073709551616)(g3:k<256)(g4:parts<256):
  aBI (mX size gen ser k parts b)=⟨gen,ser,k,parts,b⟩∧(frZ (mX size gen ser k parts b)).2.1=0∧(mL (0,mX size gen ser k parts b) 1).1=[82]∧(frZ (mX size gen ser k parts b)).1=kJ (size-25-b.length):=by
 have r0:=(aHY [82]).all (be gen 8++(be ser 8++(be k 1++(be parts 1++((be b.length 2++b)++kJ (size-25-b.length))))));have r1:=(mO (n:=gen) (c:=8) (by omega)).all (be ser 8++(be k 1++(be parts 1++((be b.length 2++b)++kJ (size-25-b.length)))));have r2:=(mO (n:=ser) (c:=8) (by omega)).all (be k 1++(be parts 1++((be b.length 2++b)++kJ (size-25-b.length))));have r3:=(mO (n:=k) (c:=1) (by omega)).all (be parts 1++((be b.length 2++b)++kJ (size-25-b.length)));have r4:=(mO (n:=parts) (c:=1) (by omega)).all ((be b.length 2++b)++kJ (size-25-b.length));have r5:=(aLq (l:=b) (by omega)).all (kJ (size-25-b.length));have r6:=(aHY (kJ (size-25-b.length))).all [];rw[zLQ] at r6;have r0:mL (0,mX size gen ser k parts b) 1=([82],((0:Int),(be gen 8++(be ser 8++(be k 1++(be parts 1++((be b.length 2++b)++kJ (size-25-b.length)))))))):=r0;have e1:frG (mX size gen ser k parts b)=(gen,((0:Int),(be ser 8++(be k 1++(be parts 1++((be b.length 2++b)++kJ (size-25-b.length))))))):=by unfold frG;rw[r0];exact r1
 have e2:frN (mX size gen ser k parts b)=(ser,((0:Int),(be k 1++(be parts 1++((be b.length 2++b)++kJ (size-25-b.length)))))):=by unfold frN;rw[e1];exact r2
 have e3:yD (mX size gen ser k parts b)=(k,((0:Int),(be parts 1++((be b.length 2++b)++kJ (size-25-b.length))))):=by unfold yD;rw[e2];exact r3
 have e4:vQ (mX size gen ser k parts b)=(parts,((0:Int),((be b.length 2++b)++kJ (size-25-b.length)))):=by unfold vQ;rw[e3];exact r4
 have e5:yC (mX size gen ser k parts b)=(b,(0,kJ (size-25-b.length))):=by unfold yC;rw[e4];exact r5
 have e6:frZ (mX size gen ser k parts b)=(kJ (size-25-b.length),(0,[])):=by unfold frZ;rw[e5];exact r6
 refine⟨?_,by rw[e6],by rw[r0],by rw[e6]⟩;unfold aBI;rw[e1,e2,e3,e4,e5]
def aMm{s:Tx}{n:Nat}(h:n=s.length):(mQ s).take n=s:=by
 unfold mQ;rw[h,List.take_left]
def aSK{size gen ser k parts:Nat}{b:Tx}(ok:gB size)(h:b.length+25≤size)(g1:gen<18446744073709551616)(g2:ser<18446744073709551616)(g3:k<parts)(g4:parts<256)(c2:aHn size ⟨gen,ser,k,parts,b⟩)(c3:aIu size ⟨gen,ser,k,parts,b⟩):
  fW size (nC size gen ser k parts b)=(⟨gen,ser,k,parts,b⟩,0):=by
 obtain⟨a1,a2,a3,a4⟩:=aRh (size:=size) (k:=k) h ok.2 g1 g2 (by omega) g4;have ef:(nC size gen ser k parts b).take (size-4)=mX size gen ser k parts b:=aMm (by rw[aGe h]);unfold fW;rw[if_neg (by simpa using ok),if_neg (by rw[aJ7 h];simp),if_neg (by unfold nC;rw[aLz];simp),ef,if_pos,a1];rw[a1];refine⟨⟨a2,a3,?_,?_⟩,c2,c3⟩
 ·rw[a4];intro x hx;exact List.eq_of_mem_replicate hx
 ·have:(aBI (mX size gen ser k parts b)).part=k:=by rw[a1]
  have e2:(aBI (mX size gen ser k parts b)).parts=parts:=by rw[a1]
  show(aBI (mX size gen ser k parts b)).part<(aBI (mX size gen ser k parts b)).parts;omega
def aL8{size:Nat}{s:Tx}(h:(fW size s).2=0):s.head? =some 82∧s.length=size∧gB size:=by
 unfold fW at h;split at h
 ·cases h
 ·rename_i h0;split at h
  ·cases h
  ·rename_i h1;split at h
   ·cases h
   ·split at h
    ·rename_i h3;have ok:gB size:=by simpa using h0
     have hl:s.length=size:=by simpa using h1
     have h4:(mL (0,s.take (size-4)) 1).1=[82]:=h3.1.2.1;refine⟨?_,hl,ok⟩;cases s with
     | nil=>simp at hl;have:=ok.1;omega
     | cons x xs=>
      obtain⟨n,hn⟩:∃n,size-4=n+1:=⟨size-5,by have:=ok.1;omega⟩;rw[hn,zLc] at h4;unfold mL at h4;rw[if_pos ⟨rfl,by decide,by simp only[iU];omega⟩] at h4;simpa using h4
    ·cases h
def aKF{size:Nat}{h:Hd}(ok:gB size)(g:h.gen≠0)(g1:h.gen<18446744073709551616)(g2:h.seg≤1):fI size (fO size h).1=(h,0):=by
 have e:fO size h=(mQ (nM size h),0):=by unfold fO;rw[if_neg (by rintro(c|c|c);exact c ok;exact g c;omega)]
 have hl:(mQ (nM size h)).length=size:=by
  rw[aEe];unfold nM;simp only[jM,hY,xD,iU,kV];have:=ok.1;omega
 have r1:=(mO (n:=h.gen) (c:=8) (by omega)).all (be h.seg 1++(kJ (size-14)++aN5 (nM size h)));have r2:=(mO (n:=h.seg) (c:=1) (by omega)).all (kJ (size-14)++aN5 (nM size h));have ed:(mQ (nM size h)).drop 1=be h.gen 8++(be h.seg 1++(kJ (size-14)++aN5 (nM size h))):=by
  unfold mQ
  conv=>lhs;arg 2;arg 1;unfold nM
  simp only[uS];rfl
 have eh:vF (mQ (nM size h))=h:=by
  unfold vF;rw[ed,r1,r2]
 unfold fI;rw[e];rw[if_neg (by simpa using ok),if_neg (by rw[hl];simp),if_neg (by rw[aLz];simp),eh,if_pos ⟨by rw[e],by rw[e]⟩]
def aRu{size:Nat}{s:Tx}(h:(fI size s).2=0):s.head? =some 72:=by
 unfold fI at h;split at h
 ·cases h
 ·split at h
  ·cases h
  ·split at h
   ·cases h
   ·split at h
    ·rename_i h3;rw[←h3.2];have h2:=h3.1;unfold fO at h2 ⊢;split at h2
     ·cases h2
     ·rename_i h4;rw[if_neg h4];rfl
    ·cases h
def aMA{size:Nat}{s:Tx}(h:(fI size s).2≠0):(fI size s).1=Hd.zero:=by
 unfold fI at h ⊢;split
 ·rfl
 ·split
  ·rfl
  ·split
   ·rfl
   ·split
    ·rename_i a b c d;rw[if_neg a,if_neg b,if_neg c,if_pos d] at h;exact absurd rfl h
    ·rfl
def aLB(x:W):W:=if x.toNat%2=1 then(x>>>1) ^^^ 3988292384 else x>>>1
def aJ3:Nat->W->W
 | 0,x=>x
 | n+1,x=>aLB (aJ3 n x)
def aMj(x:W)(b:UInt8):W:=aJ3 8 (x ^^^ BitVec.ofNat 32 b.toNat)
def aHX(x:W)(s:Tx):W:=s.foldl aMj x
def aTj(x:W):x &&& 1=if x.toNat%2=1 then 1 else 0:=by
 apply BitVec.eq_of_toNat_eq;rw[BitVec.toNat_and];have h1:(1:W).toNat=1:=rfl;rw[h1,Nat.and_one_is_mod];split
 ·rename_i c;rw[c];rfl
 ·rename_i c;have:x.toNat%2=0:=by omega
  rw[this];rfl
def aJW(x:W):aLB x=aFg x:=by
 unfold aLB aFg;rw[aTj];split
 ·have:(1:W)*3988292384=3988292384:=by decide
  rw[this]
 ·have:(0:W)*3988292384=0#32:=by decide
  rw[this,BitVec.xor_zero]
def aVO(n:Nat)(x:W):aJ3 n x=yG n x:=by
 induction n with
 | zero=>rfl
 | succ n ih=>show aLB (aJ3 n x)=aFg (yG n x);rw[aJW,ih]
def aWg(x y:Nat):(x ^^^ y)%2=(x%2+y%2)%2:=by
 have h:=Nat.xor_mod_two_pow (a:=x) (b:=y) (n:=1);rw[Nat.pow_one] at h;rw[h];have hx:x%2=0∨x%2=1:=by omega
 have hy:y%2=0∨y%2=1:=by omega
 rcases hx with hx|hx<;>rcases hy with hy|hy<;>rw[hx,hy]<;>rfl
def aSZ(x y:W):aFg (x ^^^ y)=aFg x ^^^ aFg y:=by
 rw[←aJW,←aJW,←aJW];unfold aLB;rw[BitVec.toNat_xor,BitVec.ushiftRight_xor_distrib,aWg];have hx:x.toNat%2=0∨x.toNat%2=1:=by omega
 have hy:y.toNat%2=0∨y.toNat%2=1:=by omega
 rcases hx with hx|hx<;>rcases hy with hy|hy<;>rw[hx,hy]<;>simp
 ·rw[BitVec.xor_assoc]
 ·rw[BitVec.xor_assoc,BitVec.xor_assoc,BitVec.xor_comm (y>>>1)]
 ·rw[BitVec.xor_comm (y>>>1),BitVec.xor_assoc,←BitVec.xor_assoc 3988292384#32,BitVec.xor_self,BitVec.zero_xor]
def aQl(n:Nat)(x y:W):yG n (x ^^^ y)=yG n x ^^^ yG n y:=by
 induction n with
 | zero=>rfl
 | succ n ih=>show aFg (yG n (x ^^^ y))=_;rw[ih,aSZ];rfl
def aKP{x:W}(m:Nat)(h:x.toNat%2^m=0):∀n,n≤m->yG n x=x>>>n
 | 0,_=>by simp[yG]
 | n+1,hn=>by
  show aFg (yG n x)=_;rw[aKP m h n (by omega),←aJW];have e:(x>>>n).toNat%2=0:=by
   rw[BitVec.toNat_ushiftRight,Nat.shiftRight_eq_div_pow];obtain⟨k,hk⟩:=Nat.dvd_of_mod_eq_zero h;rw[hk,show(2:Nat)^m=2^n*(2*2^(m-n-1)) by rw[←Nat.pow_succ',←Nat.pow_add];congr 1;omega,Nat.mul_assoc,Nat.mul_div_cancel_left _ (Nat.two_pow_pos n),Nat.mul_assoc,Nat.mul_mod_right]
  unfold aLB;rw[e,if_neg (by decide),←BitVec.shiftRight_add]
def aXY(x:W):x=(x>>>8 <<< 8) ^^^ BitVec.ofNat 32 (x.toNat%256):=by
 apply BitVec.eq_of_getLsbD_eq;intro i hi;rw[BitVec.getLsbD_xor,BitVec.getLsbD_shiftLeft,BitVec.getLsbD_ushiftRight,BitVec.getLsbD_ofNat];have e:(x.toNat%256).testBit i=(decide (i<8)&&x.toNat.testBit i):=Nat.testBit_mod_two_pow x.toNat 8 i;rw[e];have e2:x.getLsbD i=x.toNat.testBit i:=rfl;by_cases c:i<8
 ·simp[c,hi];exact e2
 ·have:8+(i-8)=i:=by omega
  simp[c,hi,this]
def aVS(x:W)(b:UInt8):(x ^^^ BitVec.ofNat 32 b.toNat).toNat%256=((UInt8.ofNat x.toNat) ^^^ b).toNat∧(x ^^^ BitVec.ofNat 32 b.toNat)>>>8=x>>>8:=by
 have hb:b.toNat<256:=b.toNat_lt;have e1:(BitVec.ofNat 32 b.toNat).toNat=b.toNat:=by rw[BitVec.toNat_ofNat,aJf (by omega)]
 constructor
 ·rw[BitVec.toNat_xor,e1,UInt8.toNat_xor,UInt8.toNat_ofNat'];have h:=Nat.xor_mod_two_pow (a:=x.toNat) (b:=b.toNat) (n:=8);have h2:b.toNat%2^8=b.toNat:=aJf hb;rw[h2] at h;exact h
 ·rw[BitVec.ushiftRight_xor_distrib];have:(BitVec.ofNat 32 b.toNat)>>>8=0#32:=by
   apply BitVec.eq_of_toNat_eq;rw[BitVec.toNat_ushiftRight,e1,Nat.shiftRight_eq_div_pow,Nat.div_eq_of_lt hb];rfl
  rw[this,BitVec.xor_zero]
def aVR(x:W)(b:UInt8):aMj x b=aJL x b:=by
 unfold aMj aJL aE4;obtain⟨h1,h2⟩:=aVS x b;rw[aVO]
 conv=>lhs;rw[aXY (x ^^^ BitVec.ofNat 32 b.toNat)]
 rw[aQl,h1,h2];congr 1;rw[aKP 8 _ 8 (lM _)]
 ·apply BitVec.eq_of_getLsbD_eq;intro i hi;rw[BitVec.getLsbD_ushiftRight,BitVec.getLsbD_shiftLeft,BitVec.getLsbD_ushiftRight];have e:8+i-8=i:=by omega
  rw[e,BitVec.getLsbD_ushiftRight];by_cases c:8+i<32
  ·simp[c]
  ·have:x.getLsbD (8+i)=false:=BitVec.getLsbD_of_ge _ _ (by omega);simp[c,this]
 ·rw[BitVec.toNat_shiftLeft,Nat.shiftLeft_eq];have h3:(x>>>8).toNat<2^24:=by
   rw[BitVec.toNat_ushiftRight,Nat.shiftRight_eq_div_pow];have:=x.isLt;omega
  rw[aJf (a:=(x>>>8).toNat*2^8) (b:=2^32) (by omega)];exact Nat.mul_mod_left _ _
def aVd(s:Tx):∀x,aHX x s=rZ x s:=by
 induction s with
 | nil=>intro x;rfl
 | cons b s ih=>
  intro x;show aHX (aMj x b) s=rZ (aJL x b) s;rw[aVR,ih]
def tN.refl{h:PH}{F:List Nat}:tN h F h F:=λr o hr hn=>⟨hr,hn⟩
def tN.trans{h h1 h2:PH}{F F1 F2:List Nat}(a:tN h F h1 F1)(b:tN h1 F1 h2 F2):tN h F h2 F2:=λr o hr hn=>b r o (a r o hr hn).1 (a r o hr hn).2
def tN.ext{h h1:PH}{F:List Nat}(u:dA h h1):tN h F h1 F:=λr o hr hn=>⟨u.get hr,hn⟩
structure BK(h:PH)(F:List Nat)(r:Nat)(cs:List Value):Prop where
 bx:Bx h r cs
 out:r∉F
def BK.keep{h h':PH}{F F':List Nat}{r:Nat}{cs:List Value}(H:BK h F r cs)(K:tN h F h' F'):BK h' F' r cs:=by
 obtain⟨e,h1⟩:=H.bx;exact⟨⟨e,(K r _ h1 H.out).1⟩,(K r _ h1 H.out).2⟩
def BK.ext{h h':PH}{F:List Nat}{r:Nat}{cs:List Value}(H:BK h F r cs)(u:dA h h'):BK h' F r cs:=⟨H.bx.ext u,H.out⟩
def aW7(st:gY)(p:Pk):(wPk st p).2.length≤st.2.length+65600:=by
 unfold wPk;split
 ·have h1:=aUA (yO (yO (kQ st p.f) p.s.toNat) p.t.toNat) p.tx;have h2:=aEb (yO (kQ st p.f) p.s.toNat) p.t.toNat;have h3:=aEb (kQ st p.f) p.s.toNat;have h4:=pM st p.f;omega
 ·have:=pM st (-1);omega
def aVn(st:gY)(x:Int×Pk):(aBY st x).2.length≤st.2.length+65601:=by
 unfold aBY;have h1:=aW7 (kQ st x.1) x.2;have h2:=pM st x.1;omega
def aLL:∀(l:List (Int×Pk)) (st:gY),(l.foldl aBY st).2.length≤st.2.length+65601*l.length
 | [],st=>by simp
 | x::l,st=>by
  have h1:=aLL l (aBY st x);have h2:=aVn st x;simp only[zLt,iU];omega
def aNq(st:gY)(q:Pl):(wPl st q).2.length≤st.2.length+17:=by
 unfold wPl;have h1:=aEb (yO (if q.i<0∨65535<q.i then kQ st (-1) else st) q.h.toNat) (IntKind.u64.wrap q.i).toNat;have h2:=aEb (if q.i<0∨65535<q.i then kQ st (-1) else st) q.h.toNat;have h3:=pM st (-1);have h4:(if q.i<0∨65535<q.i then kQ st (-1) else st).2.length≤st.2.length+1:=by split<;>omega
 omega
def aV3{h0 h:PH}{a:Nat}{st:gY}{F:List Nat}(S:WN h0 h a st F)(hl:st.2.length≤900000000)(p:Pk)(w:p.wf){k:cE}(hk:∀h' F',WN h0 h' a (wPk st p) F'->tN h F h' F'->k (.tuple #[]) h'):
  bT PG aD8 #[pT a 0,.agg p.cells.toArray] h k:=by
 apply aHW.call;unfold aHW;intro r hr
 try rw[cR]
 have S1:=S.new hr (.cells (Value.cells (.agg p.cells.toArray)) bX);have u1:dA h (h.set r (.cells (Value.cells (.agg p.cells.toArray)) bX)):=cX.new hr;have B1:BK (h.set r (.cells (Value.cells (.agg p.cells.toArray)) bX)) F r p.cells:=⟨Bx.new,S.box hr⟩;generalize h.set r (.cells (Value.cells (.agg p.cells.toArray)) bX)=h1 at *;have l1:cD PG h1 (loadAt bX (pT r 0))=some (.agg p.cells.toArray):=bX.agg B1.bx (by show 0+4≤4;decide);simp only[l1,cC,reduceIte];refine aJn p λh2 u2=>?_;have S2:=WS.ext S1 u2;have B2:=B1.ext u2;have K2:tN h F h2 F:=tN.ext (u1.trans u2);unfold wPk at hk;obtain⟨w1,w2,w3,w4⟩:=w;cases hp:p.right with
 | false=>
  rw[hp] at hk;simp only[zLs,if_false,eI,show((1:Int) !=0)=true from rfl,cC,reduceIte] at hk ⊢;exact aBQ S2 (by omega) (-1) λh3 F3 x e S3 K3=>by subst e;exact hk _ _ S3 (K2.trans K3)
 | true=>
  rw[hp] at hk;have n1:((p.s.toNat:Nat):Int)=p.s:=zLu w1;have n2:((p.t.toNat:Nat):Int)=p.t:=zLu w3;have n3:p.d=tx p.tx:=(aSU p).symm;simp only[if_true,eI,show((0:Int) !=0)=false from rfl,bX.f0,aR.load,B2.bx.cell,Pk.cells,cC,reduceIte] at hk ⊢;refine aBQ S2 (by omega) p.f λh3 F3 x3 e3 S3 K3=>?_;have B3:=B2.keep K3;have b3:=pM st p.f;rw[←e3] at b3 hk;simp only[bX.f1,cJ.load,B3.bx.cell,Pk.cells,iZ,cC,reduceIte];rw[←n1];refine aEO S3 (by omega) (n:=p.s.toNat) (by omega) λh4 F4 x4 e4 S4 K4=>?_;have B4:=B3.keep K4;have b4:=aEb x3 p.s.toNat;rw[←e4] at b4 hk;simp only[bX.f2,cJ.load,B4.bx.cell,Pk.cells,iZ,cC,reduceIte];rw[←n2];refine aEO S4 (by omega) (n:=p.t.toNat) (by omega) λh5 F5 x5 e5 S5 K5=>?_;have B5:=B4.keep K5;have b5:=aEb x4 p.t.toNat;rw[←e5] at b5 hk;simp only[bX.f3,aT.load,B5.bx.cell,Pk.cells,iZ,cC,reduceIte];rw[n3];refine aS2 S5 (by omega) p.tx λh6 F6 x6 e6 S6 K6=>?_;subst e6;exact hk _ _ S6 ((((K2.trans K3).trans K4).trans K5).trans K6)
def aQ6{h:PH}(n g:Int){k:cE}(hk:k (.int .i64 (aIU n g)) h):bT PG aFT #[.int .i64 n,.int .i64 g] h k:=by
 apply aIW.call;unfold aIW;unfold aIU at hk;by_cases h1:n<1
 ·rw[if_pos (.inl h1)] at hk;simp only[h1,aBv,aAc,cC,reduceIte];exact hk
 ·by_cases h2:g<n
  ·rw[if_pos (.inr h2)] at hk;simp only[h1,h2,cC,reduceIte];exact hk
  ·rw[if_neg (by omega)] at hk;simp only[h1,h2,cC,reduceIte];exact hk
def aMo{h0 h:PH}{a:Nat}{st:gY}{F:List Nat}(S:WN h0 h a st F)(hl:st.2.length≤900000000)(q:Pl)(w1:0≤q.h)(w2:q.h<18446744073709551616){k:cE}(hk:∀h' F',WN h0 h' a (wPl st q) F'->tN h F h' F'->k (.tuple #[]) h'):
  bT PG aCA #[pT a 0,.agg q.cells.toArray] h k:=by
 apply aEC.call;unfold aEC;intro r hr
 try rw[cR]
 have S1:=S.new hr (.cells (Value.cells (.agg q.cells.toArray)) cG);have u1:dA h (h.set r (.cells (Value.cells (.agg q.cells.toArray)) cG)):=cX.new hr;have B1:BK (h.set r (.cells (Value.cells (.agg q.cells.toArray)) cG)) F r q.cells:=⟨Bx.new,S.box hr⟩;generalize h.set r (.cells (Value.cells (.agg q.cells.toArray)) cG)=h1 at *;have K1:tN h F h1 F:=tN.ext u1;have n1:((q.h.toNat:Nat):Int)=q.h:=zLu w1;have hu:0≤IntKind.u64.wrap q.i∧IntKind.u64.wrap q.i<18446744073709551616:=by
  unfold IntKind.wrap;simp[IntKind.signed,IntKind.bits];omega
 have n2:(((IntKind.u64.wrap q.i).toNat:Nat):Int)=IntKind.u64.wrap q.i:=zLu hu.1;have fin:∀{h2:PH} {F2:List Nat} {st2:gY},WN h0 h2 a st2 F2->st2.2.length≤950000000->tN h1 F h2 F2->wPl st q=yO (yO st2 q.h.toNat) (IntKind.u64.wrap q.i).toNat->aBB k (pT a 0) (pT r 0) h2:=by
  intro h2 F2 st2 S2 hl2 K2 e2;have B2:=B1.keep K2;unfold aBB;simp only[cG.f0,cJ.load,B2.bx.cell,Pl.cells,cC,reduceIte];rw[←n1];refine aEO S2 (by omega) (n:=q.h.toNat) (by omega) λh3 F3 x3 e3 S3 K3=>?_;have B3:=B2.keep K3;have b3:=aEb st2 q.h.toNat;rw[←e3] at b3 e2;simp only[cG.f1,aR.load,B3.bx.cell,Pl.cells,iZ,aNz,cC,reduceIte];rw[←n2];refine aEO S3 (by omega) (n:=(IntKind.u64.wrap q.i).toNat) (by omega) λh4 F4 x4 e4 S4 K4=>?_;subst e4;rw[←e2] at S4;exact hk _ _ S4 (((K1.trans K2).trans K3).trans K4)
 simp only[cG.f1,aR.load,B1.bx.cell,Pl.cells,iZ,cC,reduceIte];by_cases h1':q.i<0
 ·simp only[h1',aBv,aAc,cC,reduceIte];refine aBQ S1 (by omega) (-1) λh3 F3 x e S3 K3=>?_;have b3:=pM st (-1);subst e;exact fin S3 (by omega) K3 (by unfold wPl;rw[if_pos (.inl h1')])
 ·by_cases h2':65535<q.i
  ·simp only[h1',h2',aR.load,B1.bx.cell,Pl.cells,cC,reduceIte];refine aBQ S1 (by omega) (-1) λh3 F3 x e S3 K3=>?_;have b3:=pM st (-1);subst e;exact fin S3 (by omega) K3 (by unfold wPl;rw[if_pos (.inr h2')])
  ·simp only[h1',h2',aR.load,B1.bx.cell,Pl.cells,cC,reduceIte];exact fin S1 (by omega) tN.refl (by unfold wPl;rw[if_neg (by omega)])
def It.x(i:It):Int×Pk:=(aIU i.g 2,i.p)
def Nt.x(n:Nt):Int×Pk:=(aIU n.k 4,n.p)
def aQQ{h:PH}(x:Nt){k:cE}(hk:∀h',dA h h'->k (.tuple #[.int .i64 x.x.1,.agg x.x.2.cells.toArray]) h'):bT PG vG #[.agg x.cells.toArray] h k:=by
 apply wA.call;unfold wA;intro r hr
 try rw[cR]
 have u1:dA h (h.set r (.cells (Value.cells (.agg x.cells.toArray)) cL)):=cX.new hr;have B1:Bx (h.set r (.cells (Value.cells (.agg x.cells.toArray)) cL)) r x.cells:=Bx.new;generalize h.set r (.cells (Value.cells (.agg x.cells.toArray)) cL)=h1 at *;intro r2 hr2
 try rw[cR]
 have u2:dA h1 (h1.set r2 (.cells (dJ PG bX) bX)):=cX.new hr2;have Z:=bX.zbox (h:=h1) (r:=r2);have B2:=B1.ext u2;have hne:r≠r2:=B1.apart hr2;generalize h1.set r2 (.cells (dJ PG bX) bX)=h2 at *;have l2:cD PG h2 (loadAt bX (pT r 1))=some (.agg x.p.cells.toArray):=bX.agg B2 (by show 1+4≤5;decide);simp only[cL.f0,cL.f1,aR.load,B2.cell,Nt.cells,iZ,l2,cC,reduceIte];refine aQ6 x.k 4 ?_;refine⟨l2,?_⟩;refine bX.put Z rfl (by show 0+4≤4;decide) (by simp[Pk.cells,fL]) λh3 B3 u3=>?_;have l3:cD PG h3 (loadAt bX (pT r2 0))=some (.agg x.p.cells.toArray):=bX.agg B3 (by show 0+4≤4;decide);simp only[l3,cC,reduceIte];exact hk _ ((u1.trans u2).fresh u3 (eD.one (u1.none hr2)))
def iH.wNote{h:PH}{v:Value}{l:List Nt}(S:iH h 5 v (l.map Nt.cells)){j:Nat}{x:Nt}(hx:l[j]? =some x):
  ∃a,cB PG (indexAt cZ v (.int .i64 (j:Int)))=some (.pointer (some a))∧cD PG h (loadAt cL (.pointer (some a)))=some (.agg x.cells.toArray):=
 S.loadAgg (k:=.i64) (j:=(j:Int)) cZ.und cL.info cL.size cL.und rfl (by omega) (by rw[xK,wG,hx];rfl)
def aSF{h0 h:PH}{a:Nat}{st:gY}{F:List Nat}(S:WN h0 h a st F)(hl:st.2.length≤100000000){v:Value}{l:List Nt}(V:iH h0 5 v (l.map Nt.cells))(hn:l.length≤1000)(hw:∀x∈l,x.p.wf){k:cE}(hk:∀h' F',WN h0 h' a (aFh st (l.map Nt.x)) F'->tN h F h' F'->k (.tuple #[]) h'):
  bT PG aER #[pT a 0,v] h k:=by
 apply aEH.call;unfold aEH;apply aBA.call;unfold aBA;have lv:=V.len (t':=aR) cZ.und;rw[iL] at lv;simp only[lv,cC,reduceIte];refine aBQ S (by omega) l.length λh1 F1 x1 e1 S1 K1=>?_;have b1:=pM st l.length;rw[←e1] at b1;refine⟨λvs h'=>∃(i:Nat) (st':gY) (F':List Nat),i≤l.length∧vs=[pT a 0,.func (.func vG) #[] #[],v,.int .i64 (l.length:Int),.int .i64 (i:Int)]∧WN h0 h' a st' F'∧tN h F h' F'∧st'=((l.map Nt.x).take i).foldl aBY (kQ st l.length),fT l.length 4,⟨0,x1,F1,by omega,rfl,S1,K1,e1⟩,?_⟩;rintro ρ h' ⟨i,st',F',hi,hvs,S',K',e'⟩;simp only[iG,jB,kZ,and_true] at hvs;obtain⟨v0,v1,v14,v15,v16⟩:=hvs;simp only[v0,v1,v14,v15,v16,iG,jB];unfold aFP;by_cases hlt:i<l.length
 ·have g1:((i:Int)<(l.length:Int))=True:=eq_true (by omega);have gi:=nR (i:=i) (by omega);have hx:l[i]? =some l[i]:=kF hlt;have hwx:=hw _ (aHO hlt);obtain⟨pa,p1,p2⟩:=(V.ext S'.upd).wNote hx;have htk:((l.map Nt.x).take (i+1)).foldl aBY (kQ st l.length)=aBY (((l.map Nt.x).take i).foldl aBY (kQ st l.length)) (l[i]).x:=by
   rw[zL7 (by simpa using hlt),List.foldl_append,List.getElem_map];rfl
  have hlen':st'.2.length≤st.2.length+1+65601*l.length:=by
   have h1:=aLL ((l.map Nt.x).take i) (kQ st l.length);have h2:=pM st l.length;have h3:((l.map Nt.x).take i).length≤l.length:=by simp;omega
   have h4:=Nat.mul_le_mul_left 65601 h3;rw[e'];omega
  rw[←e'] at htk;generalize l[i]=x at *;have hmul:=Nat.mul_le_mul_left 65601 hn;simp only[g1,p1,p2,cC,reduceIte];intro r hr
  try rw[cR]
  refine cL.fill hr rfl (by simp[Nt.cells,fL]) λh2 B2 u2=>?_;have l2:cD PG h2 (loadAt cL (pT r 0))=some (.agg x.cells.toArray):=cL.agg B2 (by show 0+5≤5;decide);simp only[l2,cC,reduceIte];show bT PG vG #[.agg x.cells.toArray] h2 _;refine aQQ x λh3 u3=>?_;simp only[cC,reduceIte];intro r4 hr4
  try rw[cR]
  refine bX.fill hr4 rfl (by simp[Pk.cells,fL]) λh4 B4 u4=>?_;have u:=(u2.trans u3).trans u4;have S4:=WS.ext S' u;have hr4':r4∉F':=λhm=>S'.at_.known r4 hm ((u2.trans u3).none hr4);have BK4:BK h4 F' r4 x.x.2.cells:=⟨B4,hr4'⟩;refine aBQ S4 (by omega) x.x.1 λh5 F5 x5 e5 S5 K5=>?_;have BK5:=BK4.keep K5;have l5:cD PG h5 (loadAt bX (pT r4 0))=some (.agg x.x.2.cells.toArray):=bX.agg BK5.bx (by show 0+4≤4;decide);have b5:=pM st' x.x.1;rw[←e5] at b5;simp only[l5,cC,reduceIte];refine aV3 S5 (by omega) x.x.2 hwx λh6 F6 S6 K6=>?_;simp only[gi,cC,reduceIte];refine⟨⟨i+1,_,F6,by omega,rfl,S6,((K'.trans (tN.ext u)).trans K5).trans K6,?_⟩,?_⟩
  ·rw[htk,e5];rfl
  ·simp only[fT,zLL,zLK];omega
 ·have g1:((i:Int)<(l.length:Int))=False:=eq_false (by omega);simp only[g1,cC,reduceIte];rw[sK (by simp;omega)] at e';refine hk h' F' ?_ K';unfold aFh;rw[iL,←e'];exact S'
def aQL{h:PH}(x:It){k:cE}(hk:∀h',dA h h'->k (.tuple #[.int .i64 x.x.1,.agg x.x.2.cells.toArray]) h'):bT PG vB #[.agg x.cells.toArray] h k:=by
 apply wD.call;unfold wD;intro r hr
 try rw[cR]
 have u1:dA h (h.set r (.cells (Value.cells (.agg x.cells.toArray)) cF)):=cX.new hr;have B1:Bx (h.set r (.cells (Value.cells (.agg x.cells.toArray)) cF)) r x.cells:=Bx.new;generalize h.set r (.cells (Value.cells (.agg x.cells.toArray)) cF)=h1 at *;intro r2 hr2
 try rw[cR]
 have u2:dA h1 (h1.set r2 (.cells (dJ PG bX) bX)):=cX.new hr2;have Z:=bX.zbox (h:=h1) (r:=r2);have B2:=B1.ext u2;have hne:r≠r2:=B1.apart hr2;generalize h1.set r2 (.cells (dJ PG bX) bX)=h2 at *;have l2:cD PG h2 (loadAt bX (pT r 0))=some (.agg x.p.cells.toArray):=bX.agg B2 (by show 0+4≤5;decide);simp only[cF.f0,cF.f1,aR.load,B2.cell,It.cells,iZ,l2,cC,reduceIte];refine aQ6 x.g 2 ?_;refine⟨l2,?_⟩;refine bX.put Z rfl (by show 0+4≤4;decide) (by simp[Pk.cells,fL]) λh3 B3 u3=>?_;have l3:cD PG h3 (loadAt bX (pT r2 0))=some (.agg x.p.cells.toArray):=bX.agg B3 (by show 0+4≤4;decide);simp only[l3,cC,reduceIte];exact hk _ ((u1.trans u2).fresh u3 (eD.one (u1.none hr2)))
def iH.wItem{h:PH}{v:Value}{l:List It}(S:iH h 5 v (l.map It.cells)){j:Nat}{x:It}(hx:l[j]? =some x):
  ∃a,cB PG (indexAt bZ v (.int .i64 (j:Int)))=some (.pointer (some a))∧cD PG h (loadAt cF (.pointer (some a)))=some (.agg x.cells.toArray):=
 S.loadAgg (k:=.i64) (j:=(j:Int)) bZ.und cF.info cF.size cF.und rfl (by omega) (by rw[xK,wG,hx];rfl)
def aRo{h0 h:PH}{a:Nat}{st:gY}{F:List Nat}(S:WN h0 h a st F)(hl:st.2.length≤100000000){v:Value}{l:List It}(V:iH h0 5 v (l.map It.cells))(hn:l.length≤1000)(hw:∀x∈l,x.p.wf){k:cE}(hk:∀h' F',WN h0 h' a (aFh st (l.map It.x)) F'->tN h F h' F'->k (.tuple #[]) h'):
  bT PG aEY #[pT a 0,v] h k:=by
 apply aD7.call;unfold aD7;apply aA8.call;unfold aA8;have lv:=V.len (t':=aR) bZ.und;rw[iL] at lv;simp only[lv,cC,reduceIte];refine aBQ S (by omega) l.length λh1 F1 x1 e1 S1 K1=>?_;have b1:=pM st l.length;rw[←e1] at b1;refine⟨λvs h'=>∃(i:Nat) (st':gY) (F':List Nat),i≤l.length∧vs=[pT a 0,.func (.func vB) #[] #[],v,.int .i64 (l.length:Int),.int .i64 (i:Int)]∧WN h0 h' a st' F'∧tN h F h' F'∧st'=((l.map It.x).take i).foldl aBY (kQ st l.length),fT l.length 4,⟨0,x1,F1,by omega,rfl,S1,K1,e1⟩,?_⟩;rintro ρ h' ⟨i,st',F',hi,hvs,S',K',e'⟩;simp only[iG,jB,kZ,and_true] at hvs;obtain⟨v0,v1,v14,v15,v16⟩:=hvs;simp only[v0,v1,v14,v15,v16,iG,jB];unfold aFA;by_cases hlt:i<l.length
 ·have g1:((i:Int)<(l.length:Int))=True:=eq_true (by omega);have gi:=nR (i:=i) (by omega);have hx:l[i]? =some l[i]:=kF hlt;have hwx:=hw _ (aHO hlt);obtain⟨pa,p1,p2⟩:=(V.ext S'.upd).wItem hx;have htk:((l.map It.x).take (i+1)).foldl aBY (kQ st l.length)=aBY (((l.map It.x).take i).foldl aBY (kQ st l.length)) (l[i]).x:=by
   rw[zL7 (by simpa using hlt),List.foldl_append,List.getElem_map];rfl
  have hlen':st'.2.length≤st.2.length+1+65601*l.length:=by
   have h1:=aLL ((l.map It.x).take i) (kQ st l.length);have h2:=pM st l.length;have h3:((l.map It.x).take i).length≤l.length:=by simp;omega
   have h4:=Nat.mul_le_mul_left 65601 h3;rw[e'];omega
  rw[←e'] at htk;generalize l[i]=x at *;have hmul:=Nat.mul_le_mul_left 65601 hn;simp only[g1,p1,p2,cC,reduceIte];intro r hr
  try rw[cR]
  refine cF.fill hr rfl (by simp[It.cells,fL]) λh2 B2 u2=>?_;have l2:cD PG h2 (loadAt cF (pT r 0))=some (.agg x.cells.toArray):=cF.agg B2 (by show 0+5≤5;decide);simp only[l2,cC,reduceIte];show bT PG vB #[.agg x.cells.toArray] h2 _;refine aQL x λh3 u3=>?_;simp only[cC,reduceIte];intro r4 hr4
  try rw[cR]
  refine bX.fill hr4 rfl (by simp[Pk.cells,fL]) λh4 B4 u4=>?_;have u:=(u2.trans u3).trans u4;have S4:=WS.ext S' u;have hr4':r4∉F':=λhm=>S'.at_.known r4 hm ((u2.trans u3).none hr4);have BK4:BK h4 F' r4 x.x.2.cells:=⟨B4,hr4'⟩;refine aBQ S4 (by omega) x.x.1 λh5 F5 x5 e5 S5 K5=>?_;have BK5:=BK4.keep K5;have l5:cD PG h5 (loadAt bX (pT r4 0))=some (.agg x.x.2.cells.toArray):=bX.agg BK5.bx (by show 0+4≤4;decide);have b5:=pM st' x.x.1;rw[←e5] at b5;simp only[l5,cC,reduceIte];refine aV3 S5 (by omega) x.x.2 hwx λh6 F6 S6 K6=>?_;simp only[gi,cC,reduceIte];refine⟨⟨i+1,_,F6,by omega,rfl,S6,((K'.trans (tN.ext u)).trans K5).trans K6,?_⟩,?_⟩
  ·rw[htk,e5];rfl
  ·simp only[fT,zLL,zLK];omega
 ·have g1:((i:Int)<(l.length:Int))=False:=eq_false (by omega);simp only[g1,cC,reduceIte];rw[sK (by simp;omega)] at e';refine hk h' F' ?_ K';unfold aFh;rw[iL,←e'];exact S'
def aIw(i:Nat):List Value->PH->Nat:=λvs _=>match vs[i]? with
 | some (Value.int _ j)=>j.toNat
 | _=>0
def aEl{h:PH}{a:Nat}{st:gY}(R:lF h a st.1 st.2){k:cE}(hk:k (.int .i64 st.1) h):bT PG iP #[pT a 0] h k:=
 aLX R.here rfl hk
def aEP{h:PH}{a:Nat}{st:gY}(R:lF h a st.1 st.2)(x:Int){k:cE}(hk:∀h',lF h' a (xR st x).1 (xR st x).2->cX [a] h h'->k (.tuple #[]) h'):bT PG jG #[pT a 0,.int .i64 x] h k:=by
 apply pR.call;unfold pR;have ha:=R.here;have c0:cV h ⟨a,0,none⟩=some (.int .i64 st.1):=by simp[cV,ha]
 unfold xR at hk;by_cases h0:st.1=0
 ·have q:(st.1==0)=true:=by simp[h0]
  rw[if_pos h0] at hk;simp only[mY.f0,dK.load,c0,gA,q,cC,reduceIte];refine lC dK.und rfl ha (by simp) rfl dK.info dK.size ?_;exact hk _ ⟨eN⟩ (cX.set (by simp))
 ·have q:(st.1==0)=false:=by simp[h0]
  rw[if_neg h0] at hk;simp only[mY.f0,dK.load,c0,gA,q,cC,reduceIte];exact hk h ⟨ha⟩ cX.refl
def aG9(st:gY):Int:=if st.1=0∧st.2≠[] then 7 else st.1
def aWe{h:PH}{a:Nat}{st:gY}(R:lF h a st.1 st.2){k:cE}(hk:k (.int .i64 (aG9 st)) h):bT PG aDA #[pT a 0] h k:=by
 apply aCv.call;unfold aCv;refine aQI R ?_;unfold aG9 at hk;by_cases h0:st.1=0∧st.2≠[]
 ·rw[if_pos h0] at hk;have hp:=aJ6.2 h0.2;have g:((0:Int)<(st.2.length:Int))=True:=eq_true (by omega);simp only[h0.1,if_true,g,cC,reduceIte];exact hk
 ·rw[if_neg h0] at hk;have g:((0:Int)<(if st.1=0 then(st.2.length:Int) else 0))=False:=by
   apply eq_false;split
   ·rename_i h1;have:st.2=[]:=Classical.byContradiction λh2=>h0 ⟨h1,h2⟩;rw[this];simp
   ·decide
  simp only[g,eV.f0,cC,reduceIte];exact aEl R hk
def aU0(f:Nat)(s t:Nat)(d:ByteArray):cB PG (build bX #[(0,.int .i64 (f:Int)),(1,.int .u64 (s:Int)),(2,.int .u64 (t:Int)),(3,.string d)])=some (.agg (Pk.cells ⟨f,s,t,d⟩).toArray):=by kernel_rfl
def aLf:cB PG (build bX #[])=some (.agg (Pk.cells default).toArray):=by kernel_rfl
def cX.ext{F:List Nat}{h h1 h2:PH}(a:cX F h h1)(u:dA h1 h2):cX F h h2:=a.trans u.upd
def aVr{h:PH}{a:Nat}{st:gY}(R:lF h a st.1 st.2){k:cE}(hk:∀h',lF h' a (oP st).2.1 (oP st).2.2->cX [a] h h'->k (.agg (oP st).1.cells.toArray) h'):bT PG aD9 #[pT a 0] h k:=by
 apply aHb.call;unfold aHb;intro r hr
 try rw[cR]
 have u1:dA h (h.set r (.cells (dJ PG bX) bX)):=cX.new hr;have Z:=bX.zbox (h:=h) (r:=r);generalize h.set r (.cells (dJ PG bX) bX)=h1 at *;have hra:r≠a:=λe=>by have:=R.here;rw[←e,hr] at this;cases this
 have na:r∉[a]:=by simpa using hra
 refine aAw (R.ext u1) λh2 R2 u2=>?_;refine aB5 R2 λh3 R3 u3=>?_;refine aB5 R3 λh4 R4 u4=>?_;refine aPb R4 λh5 R5 u5=>?_;have Z5:=(((Z.upd u2 na).upd u3 na).upd u4 na).upd u5 na;have v5:=((u2.trans u3).trans u4).trans u5;have hc:rC st=(⟨((fK st 1).1:Int),((fK (fK st 1).2 8).1:Int),((fK (fK (fK st 1).2 8).2 8).1:Int),tx (vT (fK (fK (fK st 1).2 8).2 8).2).1⟩,(vT (fK (fK (fK st 1).2 8).2 8).2).2):=rfl;simp only[Prod.eta] at R2 R3 R4 R5;simp only[Prod.eta,aU0,cC,reduceIte];unfold oP at hk;rw[hc] at hk;simp only at hk;generalize (⟨((fK st 1).1:Int),((fK (fK st 1).2 8).1:Int),((fK (fK (fK st 1).2 8).2 8).1:Int),tx (vT (fK (fK (fK st 1).2 8).2 8).2).1⟩:Pk)=p at *;generalize (vT (fK (fK (fK st 1).2 8).2 8).2).2=st5 at *;intro r6 hr6
 try rw[cR]
 refine bX.fill hr6 rfl (by simp[Pk.cells,fL]) λh6 B6 u6=>?_;have l6:cD PG h6 (loadAt bX (pT r6 0))=some (.agg p.cells.toArray):=bX.agg B6 (by show 0+4≤4;decide);simp only[l6,cC,reduceIte];refine aJn p λh7 u7=>?_;have R7:=(R5.ext u6).ext u7;have Z7:=(Z5.ext u6).ext u7;have B7:=B6.ext u7;have n6:r6≠a:=λe=>by have:=R5.here;rw[←e,hr6] at this;cases this
 have n6r:r6≠r:=λe=>by subst e;exact Z5.known hr6
 have ra5:cX [a] h h7:=((dA.upd u1).trans v5).trans ((u6.trans u7).upd);have hr6':h r6=none:=by
  cases e:h r6 with
  | none=>rfl
  | some o=>
   have:=(u1.upd.trans v5).get e (by simpa using n6);rw[hr6] at this;cases this
 have fin:∀{h8:PH} {st8:gY},lF h8 a st8.1 st8.2->cX [a] h7 h8->Bx h8 r [.int .i64 0,.int .u64 0,.int .u64 0,.string ⟨#[]⟩]->Bx h8 r6 p.cells->(∀h',lF h' a st8.1 st8.2->cX [a] h h'->k (.agg ((if st8.1=0 then p else default):Pk).cells.toArray) h')->aDZ k (pT a 0) (pT r 0) (pT r6 0) h8:=by
  intro h8 st8 R8 u8 Z8 B8 hk8;unfold aDZ;simp only[eV.f0,cC,reduceIte];refine aEl R8 ?_;have ra8:cX [a] h h8:=ra5.trans u8;have last:∀(q:Pk) (h9:PH),Bx h9 r q.cells->cX [r] h8 h9->lF h9 a st8.1 st8.2->(∀h',lF h' a st8.1 st8.2->cX [a] h h'->k (.agg q.cells.toArray) h')->bY (cD PG h9 (loadAt bX (pT r 0))) λv=>k v h9:=by
   intro q h9 B9 u9 R9 hkq;have l9:cD PG h9 (loadAt bX (pT r 0))=some (.agg q.cells.toArray):=bX.agg B9 (by show 0+4≤4;decide);simp only[l9,cC,reduceIte];exact hkq h9 R9 (ra8.then u9 λb hb=>.inr (by simp only[iC] at hb;subst hb;exact hr))
  have nra:a∉[r]:=by simpa using λe=>hra e.symm
  by_cases h0:st8.1=0
  ·rw[if_pos h0] at hk8;have l8:cD PG h8 (loadAt bX (pT r6 0))=some (.agg p.cells.toArray):=bX.agg B8 (by show 0+4≤4;decide);have q:(st8.1 !=0)=false:=by simp[h0]
   simp only[eI,q,l8,cC,reduceIte];refine bX.put Z8 rfl (by show 0+4≤4;decide) (by simp[Pk.cells,fL]) λh9 B9 u9=>?_;exact last p h9 B9 u9 (R8.upd u9 nra) hk8
  ·rw[if_neg h0] at hk8;have q:(st8.1 !=0)=true:=by simp[h0]
   simp only[eI,q,aLf,cC,reduceIte];refine bX.put Z8 rfl (by show 0+4≤4;decide) (by simp[Pk.cells,fL]) λh9 B9 u9=>?_;exact last default h9 B9 u9 (R8.upd u9 nra) hk8
 cases hp:p.right with
 | true=>
  rw[hp] at hk;simp only[if_true,eI,show((0:Int) !=0)=false from rfl,cC,reduceIte] at hk ⊢;exact fin R7 cX.refl Z7 B7 hk
 | false=>
  rw[hp] at hk;simp only[zLs,if_false,eI,show((1:Int) !=0)=true from rfl,eV.f0,cC,reduceIte] at hk ⊢;refine aEP R7 5 λh8 R8 u8=>?_;exact fin R8 u8 (Z7.upd u8 na) (B7.upd u8 (by simpa using n6)) hk
def aU8(x y:Nat):cB PG (build cG #[(0,.int .u64 (x:Int)),(1,.int .i64 (y:Int))])=some (.agg (Pl.cells ⟨x,y⟩).toArray):=by kernel_rfl
def aLi:cB PG (build cG #[])=some (.agg Pl.zero.cells.toArray):=by kernel_rfl
def aRb{h:PH}{a:Nat}{st:gY}(R:lF h a st.1 st.2){k:cE}(hk:∀h',lF h' a (gU st).2.1 (gU st).2.2->cX [a] h h'->k (.agg (gU st).1.cells.toArray) h'):bT PG aEE #[pT a 0] h k:=by
 apply aHf.call;unfold aHf;intro r hr
 try rw[cR]
 have u1:dA h (h.set r (.cells (dJ PG cG) cG)):=cX.new hr;have Z:=cG.zbox (h:=h) (r:=r);generalize h.set r (.cells (dJ PG cG) cG)=h1 at *;have hra:r≠a:=λe=>by have:=R.here;rw[←e,hr] at this;cases this
 have na:r∉[a]:=by simpa using hra
 have nra:a∉[r]:=by simpa using λe=>hra e.symm
 refine aB5 (R.ext u1) λh2 R2 u2=>?_;refine aB5 R2 λh3 R3 u3=>?_;have Z3:=(Z.upd u2 na).upd u3 na;have ra3:cX [a] h h3:=(u1.upd.trans u2).trans u3;simp only[Prod.eta] at R2 R3;unfold gU at hk;simp only at hk;have hlt:=wX (fK st 8).2 8;generalize (fK st 8).1=x at *;generalize (fK (fK st 8).2 8).1=y at *;generalize (fK (fK st 8).2 8).2=st3 at *;have fin:∀{h8:PH} {st8:gY},(st8.1=0->y≤65535)->lF h8 a st8.1 st8.2->cX [a] h3 h8->Bx h8 r [.int .u64 0,.int .i64 0]->(∀h',lF h' a st8.1 st8.2->cX [a] h h'->k (.agg ((if st8.1=0 then⟨x,y⟩ else Pl.zero):Pl).cells.toArray) h')->aDW k (pT a 0) (pT r 0) (.int .u64 (x:Int)) (.int .u64 (y:Int)) h8:=by
  intro h8 st8 hy R8 u8 Z8 hk8;unfold aDW;simp only[eV.f0,cC,reduceIte];refine aEl R8 ?_;have ra8:cX [a] h h8:=ra3.trans u8;have last:∀(q:Pl) (h9:PH),Bx h9 r q.cells->cX [r] h8 h9->lF h9 a st8.1 st8.2->(∀h',lF h' a st8.1 st8.2->cX [a] h h'->k (.agg q.cells.toArray) h')->bY (cD PG h9 (loadAt cG (pT r 0))) λv=>k v h9:=by
   intro q h9 B9 u9 R9 hkq;have l9:cD PG h9 (loadAt cG (pT r 0))=some (.agg q.cells.toArray):=cG.agg B9 (by show 0+2≤2;decide);simp only[l9,cC,reduceIte];exact hkq h9 R9 (ra8.then u9 λb hb=>.inr (by simp only[iC] at hb;subst hb;exact hr))
  by_cases h0:st8.1=0
  ·rw[if_pos h0] at hk8;have q:(st8.1 !=0)=false:=by simp[h0]
   have hy':=hy h0;have e1:IntKind.i64.wrap (y:Int)=(y:Int):=eB (by omega) (by omega);simp only[eI,q,aNf,e1,aU8,cC,reduceIte];refine cG.put Z8 rfl (by show 0+2≤2;decide) (by simp[Pl.cells,fL]) λh9 B9 u9=>?_;exact last _ h9 B9 u9 (R8.upd u9 nra) hk8
  ·rw[if_neg h0] at hk8;have q:(st8.1 !=0)=true:=by simp[h0]
   simp only[eI,q,aLi,cC,reduceIte];refine cG.put Z8 rfl (by show 0+2≤2;decide) (by simp[Pl.cells,Pl.zero,fL]) λh9 B9 u9=>?_;exact last _ h9 B9 u9 (R8.upd u9 nra) hk8
 by_cases hy:65535<y
 ·have g:((65535:Int)<(y:Int))=True:=eq_true (by omega);rw[if_pos hy] at hk;simp only[g,eV.f0,cC,reduceIte];refine aEP R3 5 λh8 R8 u8=>?_;refine fin (λh0=>?_) R8 u8 (Z3.upd u8 na) hk;unfold xR at h0;simp only at h0;split at h0
  ·cases h0
  ·contradiction
 ·have g:((65535:Int)<(y:Int))=False:=eq_false (by omega);rw[if_neg hy] at hk;simp only[g,cC,reduceIte];exact fin (λ_=>by omega) R3 cX.refl Z3 hk
def Nt.of(x:Int×Pk):Nt:=⟨x.1,x.2⟩
def aTf(x:Int×Pk):cB PG (build cL #[(0,.int .i64 x.1),(1,.agg x.2.cells.toArray)])=some (.agg (Nt.of x).cells.toArray):=by kernel_rfl
def aRd{h:PH}(x:Int×Pk){k:cE}(hk:∀h',dA h h'->k (.agg (Nt.of x).cells.toArray) h'):bT PG mI #[.int .i64 x.1,.agg x.2.cells.toArray] h k:=by
 apply aFm.call;unfold aFm;intro r hr
 try rw[cR]
 have u1:dA h (h.set r (.cells (Value.cells (.agg x.2.cells.toArray)) bX)):=cX.new hr;have B1:Bx (h.set r (.cells (Value.cells (.agg x.2.cells.toArray)) bX)) r x.2.cells:=Bx.new;generalize h.set r (.cells (Value.cells (.agg x.2.cells.toArray)) bX)=h1 at *;intro r2 hr2
 try rw[cR]
 have u2:dA h1 (h1.set r2 (.cells (dJ PG cL) cL)):=cX.new hr2;have Z:=cL.zbox (h:=h1) (r:=r2);have B2:=B1.ext u2;generalize h1.set r2 (.cells (dJ PG cL) cL)=h2 at *;have l2:cD PG h2 (loadAt bX (pT r 0))=some (.agg x.2.cells.toArray):=bX.agg B2 (by show 0+4≤4;decide);simp only[l2,aTf,cC,reduceIte];refine cL.put Z rfl (by show 0+5≤5;decide) (by simp[Nt.cells,fL]) λh3 B3 u3=>?_;have l3:cD PG h3 (loadAt cL (pT r2 0))=some (.agg (Nt.of x).cells.toArray):=cL.agg B3 (by show 0+5≤5;decide);simp only[l3,cC,reduceIte];exact hk _ ((u1.trans u2).fresh u3 (eD.one (u1.none hr2)))
def aUw(x:Nt):kC PG (buildSlice cZ 1 #[(0,.agg x.cells.toArray)])=some (.cells x.cells.toArray cL (0,0),λr=>pure (.slice (some ⟨r,0,none⟩) 1 1)):=by kernel_rfl
def Nt.isC(l:List Nt):∀r∈l.map Nt.cells,∀u∈r,fL u=true:=λr hr u hu=>by
 obtain⟨m,_,rfl⟩:=pQ.1 hr;simp only[Nt.cells,iW,zLg,or_false] at hu;rcases hu with rfl|rfl|rfl|rfl|rfl<;>rfl
def aWW{h:PH}{a:Nat}{st:gY}(R:lF h a st.1 st.2){k:cE}
  (hk:∀h' v F,lF h' a (fJ 4 st).2.1 (fJ 4 st).2.2->eH h' cL 5 v (((fJ 4 st).1.map Nt.of).map Nt.cells) F->eD h F->cX [a] h h'->k v h'):bT PG aHD #[pT a 0] h k:=by
 apply aHe.call;unfold aHe;apply aBD.call;unfold aBD;refine aAw R λh1 R1 u1=>?_;simp only[Prod.eta] at R1;have hb:=wX st 1;unfold fJ at hk;simp only[Prod.eta] at hk hb ⊢;generalize (fK st 1).1=n at *;generalize (fK st 1).2=st1 at *;refine⟨λvs h'=>∃(i:Nat) (st':gY) (l:List (Int×Pk)) (v:Value) (F:List Nat),i≤n∧l.length+i≤n∧vs=[pT a 0,.int .i64 4,.func (.func mI) #[] #[],v,.int .i64 (i:Int)]∧lF h' a st'.1 st'.2∧eH h' cL 5 v ((l.map Nt.of).map Nt.cells) F∧eD h F∧cX [a] h h'∧a∉F∧jQ 4 i st' l=jQ 4 n st1 [],aIw 4,⟨n,st1,[],_,[],by omega,by simp,rfl,R1,eH.nil,(λb hb=>by cases hb),u1,by simp,rfl⟩,?_⟩;rintro ρ h' ⟨i,st',l,v,F,hi,hln,hvs,R',O,fF,u,naF,hrm⟩;simp only[iG,jB,kZ,and_true] at hvs;obtain⟨v0,v1,v2,v7,v8⟩:=hvs;simp only[v0,v1,v2,v7,v8,iG,jB];unfold aFp;have fin:jQ 4 n st1 []=(l,st')->bT PG iP #[pT a 0] h' λv64 h65=>bY (cD PG h65 (fV BinOp.neq dK (.tmp 49) (.const (Value.int IntKind.i64 0)) v64 (Value.int IntKind.i64 0))) λv66=>cQ v66 (k (Value.slice none 0 0) h65) (k v h65):=by
  intro e;rw[e] at hk;refine aEl R' ?_;by_cases h0:st'.1=0
  ·have q:(st'.1 !=0)=false:=by simp[h0]
   rw[if_pos h0] at hk;simp only[eI,q,cC,reduceIte];exact hk h' v F R' O fF u
  ·have q:(st'.1 !=0)=true:=by simp[h0]
   rw[if_neg h0] at hk;simp only[eI,q,cC,reduceIte];exact hk h' _ [] R' eH.nil (λb hb=>by cases hb) u
 cases i with
 | zero=>
  have g:((0:Int)<((0:Nat):Int))=False:=eq_false (by decide);simp only[g,aBv,aAc,eV.f0,cC,reduceIte];exact fin (by rw[←hrm];rfl)
 | succ i=>
  have g:((0:Int)<((i+1:Nat):Int))=True:=eq_true (by omega);simp only[g,eV.f0,cC,reduceIte];refine aEl R' ?_;by_cases h0:st'.1=0
  ·have q:(st'.1==0)=true:=by simp[h0]
   have hstep:jQ 4 (i+1) st' l=jQ 4 i (aAx 4 st').2 (l++[(aAx 4 st').1]):=by
    rw[jQ,if_pos h0]
   rw[hstep] at hrm;simp only[gA,q,cC,reduceIte];refine aAw R' λh2 R2 u2=>?_;simp only[Prod.eta] at R2;refine aVr R2 λh3 R3 u3=>?_;unfold aAx at hrm;simp only[Prod.eta] at hrm R3 ⊢;have hkd:=wX st' 1;generalize (fK st' 1).1=kd at *;generalize (fK st' 1).2=st2 at *;generalize (oP st2).1=p at *;generalize (oP st2).2=st3 at *;have u':=(u.trans u2).trans u3;have O3:=(O.upd u2 (λb hb hm=>naF (by simp only[iC] at hm;exact hm▸hb))).upd u3 (λb hb hm=>naF (by simp only[iC] at hm;exact hm▸hb));intro r hr
   try rw[cR]
   refine bX.fill hr rfl (by simp[Pk.cells,fL]) λh4 B4 u4=>?_;have R4:=R3.ext u4;have O4:=O3.ext u4;have nra:r≠a:=λe=>by have:=R3.here;rw[←e,hr] at this;cases this
   have nr:r∉[a]:=by simpa using nra
   have gi:IntKind.i64.wrap (((i+1:Nat):Int)-1)=((i:Nat):Int):=by rw[eB (by omega) (by omega)];omega
   have rest:∀{n3:gH} {h5:PH} {st5:gY},lF h5 a st5.1 st5.2->cX [a] h4 h5->(∀h8 v8 F8,lF h8 a st5.1 st5.2->eH h8 cL 5 v8 (((l++[((kd:Int),p)]).map Nt.of).map Nt.cells) F8->eD h F8->cX [a] h h8->a∉F8->n3 [pT a 0,.int .i64 4,.func (.func mI) #[] #[],v8,.int .i64 (i:Int)] h8)->vY k n3 (pT a 0) (.int .i64 4) (.func (.func mI) #[] #[]) v (.int .i64 ((i+1:Nat):Int)) (.int .i64 (kd:Int)) (pT r 0) h5:=by
    intro n3 h5 st5 R5 u5 hn3;unfold vY;have B5:=B4.upd u5 nr;have O5:=O4.upd u5 (λb hb hm=>naF (by simp only[iC] at hm;exact hm▸hb));have l5:cD PG h5 (loadAt bX (pT r 0))=some (.agg p.cells.toArray):=bX.agg B5 (by show 0+4≤4;decide);simp only[l5,cC,reduceIte];show bT PG mI #[.int .i64 (kd:Int),.agg p.cells.toArray] h5 _;refine aRd ((kd:Int),p) λh6 u6=>?_;simp only[aUw,cC,reduceIte];intro r7 hr7;refine iB ?_
    try rw[cR]
    have u7:dA h6 (h6.set r7 (.cells (Nt.of ((kd:Int),p)).cells.toArray cL (0,0))):=cX.new hr7;have S7:iH (h6.set r7 (.cells (Nt.of ((kd:Int),p)).cells.toArray cL (0,0))) 5 (.slice (some ⟨r7,0,none⟩) 1 1) ([Nt.of ((kd:Int),p)].map Nt.cells):=(eH.lit (n:=1) (Nt.rows [_]) eN (by simp) (by decide) (by simp)).slR;generalize h6.set r7 (.cells (Nt.of ((kd:Int),p)).cells.toArray cL (0,0))=h7 at *;refine lV cZ.und cZ.und cL.info cL.size cL.bytes cL.zero rfl (by decide) ((O5.ext u6).ext u7) S7 (Nt.isC _) (by simp only[iL,iU,kV];omega) ?_;intro v8 h8 F8 O8 u8 k8 _;have e8:(l.map Nt.of).map Nt.cells++[Nt.of ((kd:Int),p)].map Nt.cells=((l++[((kd:Int),p)]).map Nt.of).map Nt.cells:=by simp
    rw[e8] at O8;simp only[gi,cC,reduceIte];have R7:=(R5.ext u6).ext u7;have u57:=u6.trans u7;have aF:a∉F:=naF;have hh7:cX [a] h h7:=((u'.trans (u4.upd)).trans u5).ext u57;refine hn3 h8 v8 F8 (R7.upd u8 aF) O8 (λb hb=>?_) (hh7.then u8 λb hb=>.inr (fF b hb)) (λhm=>?_)
    ·rcases k8 b hb with h1|h1
     ·exact fF b h1
     ·cases e:h b with
      | none=>rfl
      | some o=>
       by_cases hba:b=a
       ·subst hba;have:=R7.here;rw[h1] at this;cases this
       ·have:=hh7.get e (by simpa using hba);rw[h1] at this;cases this
    ·rcases k8 a hm with h1|h1
     ·exact aF h1
     ·have:=R7.here;rw[h1] at this;cases this
   have put:∀{st5:gY} {h8:PH} {v8:Value} {F8:List Nat},jQ 4 i st5 (l++[((kd:Int),p)])=jQ 4 n st1 []->lF h8 a st5.1 st5.2->eH h8 cL 5 v8 (((l++[((kd:Int),p)]).map Nt.of).map Nt.cells) F8->eD h F8->cX [a] h h8->a∉F8->∃(i':Nat) (st':gY) (l':List (Int×Pk)) (v':Value) (F':List Nat),i'≤n∧l'.length+i'≤n∧[(pT a 0:Value),.int .i64 4,.func (.func mI) #[] #[],v8,.int .i64 (i:Int)]=[pT a 0,.int .i64 4,.func (.func mI) #[] #[],v',.int .i64 (i':Int)]∧lF h8 a st'.1 st'.2∧eH h8 cL 5 v' ((l'.map Nt.of).map Nt.cells) F'∧eD h F'∧cX [a] h h8∧a∉F'∧jQ 4 i' st' l'=jQ 4 n st1 []:=λe r1 r2 r3 r4 r5=>
    ⟨i,_,_,_,_,by omega,by simp only[jM,iU,kV];omega,rfl,r1,r2,r3,r4,r5,e⟩
   have mu:∀{v8:Value} {h8:PH},aIw 4 [(pT a 0:Value),.int .i64 4,.func (.func mI) #[] #[],v8,.int .i64 (i:Int)] h8<aIw 4 [(pT a 0:Value),.int .i64 4,.func (.func mI) #[] #[],v,.int .i64 ((i+1:Nat):Int)] h':=fun {v8 h8}=>by
    simp only[aIw,zLL,zLK,xK];omega
   by_cases hk1:(kd:Int)<1
   ·rw[if_pos (.inl hk1)] at hrm;simp only[hk1,aBv,aAc,eV.f0,cC,reduceIte];refine aEP R4 5 λh5 R5 u5=>?_;exact rest R5 u5 λh8 v8 F8 r1 r2 r3 r4 r5=>⟨put hrm r1 r2 r3 r4 r5,mu⟩
   ·by_cases hk2:(4:Int)<(kd:Int)
    ·rw[if_pos (.inr hk2)] at hrm;simp only[hk1,hk2,eV.f0,cC,reduceIte];refine aEP R4 5 λh5 R5 u5=>?_;exact rest R5 u5 λh8 v8 F8 r1 r2 r3 r4 r5=>⟨put hrm r1 r2 r3 r4 r5,mu⟩
    ·rw[if_neg (by omega)] at hrm;simp only[hk1,hk2,cC,reduceIte];exact rest R4 cX.refl λh8 v8 F8 r1 r2 r3 r4 r5=>⟨put hrm r1 r2 r3 r4 r5,mu⟩
  ·have q:(st'.1==0)=false:=by simp[h0]
   simp only[gA,q,cC,reduceIte];exact fin (by rw[←hrm,jQ,if_neg h0])
def It.of(x:Int×Pk):It:=⟨x.2,x.1⟩
def aTZ(x:Int×Pk):cB PG (build cF #[(0,.agg x.2.cells.toArray),(1,.int .i64 x.1)])=some (.agg (It.of x).cells.toArray):=by kernel_rfl
def aSD{h:PH}(x:Int×Pk){k:cE}(hk:∀h',dA h h'->k (.agg (It.of x).cells.toArray) h'):bT PG mN #[.int .i64 x.1,.agg x.2.cells.toArray] h k:=by
 apply aE5.call;unfold aE5;intro r hr
 try rw[cR]
 have u1:dA h (h.set r (.cells (Value.cells (.agg x.2.cells.toArray)) bX)):=cX.new hr;have B1:Bx (h.set r (.cells (Value.cells (.agg x.2.cells.toArray)) bX)) r x.2.cells:=Bx.new;generalize h.set r (.cells (Value.cells (.agg x.2.cells.toArray)) bX)=h1 at *;intro r2 hr2
 try rw[cR]
 have u2:dA h1 (h1.set r2 (.cells (dJ PG cF) cF)):=cX.new hr2;have Z:=cF.zbox (h:=h1) (r:=r2);have B2:=B1.ext u2;generalize h1.set r2 (.cells (dJ PG cF) cF)=h2 at *;have l2:cD PG h2 (loadAt bX (pT r 0))=some (.agg x.2.cells.toArray):=bX.agg B2 (by show 0+4≤4;decide);simp only[l2,aTZ,cC,reduceIte];refine cF.put Z rfl (by show 0+5≤5;decide) (by simp[It.cells,fL]) λh3 B3 u3=>?_;have l3:cD PG h3 (loadAt cF (pT r2 0))=some (.agg (It.of x).cells.toArray):=cF.agg B3 (by show 0+5≤5;decide);simp only[l3,cC,reduceIte];exact hk _ ((u1.trans u2).fresh u3 (eD.one (u1.none hr2)))
def aUh(x:It):kC PG (buildSlice bZ 1 #[(0,.agg x.cells.toArray)])=some (.cells x.cells.toArray cF (0,0),λr=>pure (.slice (some ⟨r,0,none⟩) 1 1)):=by kernel_rfl
def It.isC(l:List It):∀r∈l.map It.cells,∀u∈r,fL u=true:=λr hr u hu=>by
 obtain⟨m,_,rfl⟩:=pQ.1 hr;simp only[It.cells,iW,zLg,or_false] at hu;rcases hu with rfl|rfl|rfl|rfl|rfl<;>rfl
def aWF{h:PH}{a:Nat}{st:gY}(R:lF h a st.1 st.2){k:cE}
  (hk:∀h' v F,lF h' a (fJ 2 st).2.1 (fJ 2 st).2.2->eH h' cF 5 v (((fJ 2 st).1.map It.of).map It.cells) F->eD h F->cX [a] h h'->k v h'):bT PG aHB #[pT a 0] h k:=by
 apply aHm.call;unfold aHm;apply aA7.call;unfold aA7;refine aAw R λh1 R1 u1=>?_;simp only[Prod.eta] at R1;have hb:=wX st 1;unfold fJ at hk;simp only[Prod.eta] at hk hb ⊢;generalize (fK st 1).1=n at *;generalize (fK st 1).2=st1 at *;refine⟨λvs h'=>∃(i:Nat) (st':gY) (l:List (Int×Pk)) (v:Value) (F:List Nat),i≤n∧l.length+i≤n∧vs=[pT a 0,.int .i64 2,.func (.func mN) #[] #[],v,.int .i64 (i:Int)]∧lF h' a st'.1 st'.2∧eH h' cF 5 v ((l.map It.of).map It.cells) F∧eD h F∧cX [a] h h'∧a∉F∧jQ 2 i st' l=jQ 2 n st1 [],aIw 4,⟨n,st1,[],_,[],by omega,by simp,rfl,R1,eH.nil,(λb hb=>by cases hb),u1,by simp,rfl⟩,?_⟩;rintro ρ h' ⟨i,st',l,v,F,hi,hln,hvs,R',O,fF,u,naF,hrm⟩;simp only[iG,jB,kZ,and_true] at hvs;obtain⟨v0,v1,v2,v7,v8⟩:=hvs;simp only[v0,v1,v2,v7,v8,iG,jB];unfold aFE;have fin:jQ 2 n st1 []=(l,st')->bT PG iP #[pT a 0] h' λv64 h65=>bY (cD PG h65 (fV BinOp.neq dK (.tmp 49) (.const (Value.int IntKind.i64 0)) v64 (Value.int IntKind.i64 0))) λv66=>cQ v66 (k (Value.slice none 0 0) h65) (k v h65):=by
  intro e;rw[e] at hk;refine aEl R' ?_;by_cases h0:st'.1=0
  ·have q:(st'.1 !=0)=false:=by simp[h0]
   rw[if_pos h0] at hk;simp only[eI,q,cC,reduceIte];exact hk h' v F R' O fF u
  ·have q:(st'.1 !=0)=true:=by simp[h0]
   rw[if_neg h0] at hk;simp only[eI,q,cC,reduceIte];exact hk h' _ [] R' eH.nil (λb hb=>by cases hb) u
 cases i with
 | zero=>
  have g:((0:Int)<((0:Nat):Int))=False:=eq_false (by decide);simp only[g,aBv,aAc,eV.f0,cC,reduceIte];exact fin (by rw[←hrm];rfl)
 | succ i=>
  have g:((0:Int)<((i+1:Nat):Int))=True:=eq_true (by omega);simp only[g,eV.f0,cC,reduceIte];refine aEl R' ?_;by_cases h0:st'.1=0
  ·have q:(st'.1==0)=true:=by simp[h0]
   have hstep:jQ 2 (i+1) st' l=jQ 2 i (aAx 2 st').2 (l++[(aAx 2 st').1]):=by
    rw[jQ,if_pos h0]
   rw[hstep] at hrm;simp only[gA,q,cC,reduceIte];refine aAw R' λh2 R2 u2=>?_;simp only[Prod.eta] at R2;refine aVr R2 λh3 R3 u3=>?_;unfold aAx at hrm;simp only[Prod.eta] at hrm R3 ⊢;have hkd:=wX st' 1;generalize (fK st' 1).1=kd at *;generalize (fK st' 1).2=st2 at *;generalize (oP st2).1=p at *;generalize (oP st2).2=st3 at *;have u':=(u.trans u2).trans u3;have O3:=(O.upd u2 (λb hb hm=>naF (by simp only[iC] at hm;exact hm▸hb))).upd u3 (λb hb hm=>naF (by simp only[iC] at hm;exact hm▸hb));intro r hr
   try rw[cR]
   refine bX.fill hr rfl (by simp[Pk.cells,fL]) λh4 B4 u4=>?_;have R4:=R3.ext u4;have O4:=O3.ext u4;have nra:r≠a:=λe=>by have:=R3.here;rw[←e,hr] at this;cases this
   have nr:r∉[a]:=by simpa using nra
   have gi:IntKind.i64.wrap (((i+1:Nat):Int)-1)=((i:Nat):Int):=by rw[eB (by omega) (by omega)];omega
   have rest:∀{n3:gH} {h5:PH} {st5:gY},lF h5 a st5.1 st5.2->cX [a] h4 h5->(∀h8 v8 F8,lF h8 a st5.1 st5.2->eH h8 cF 5 v8 (((l++[((kd:Int),p)]).map It.of).map It.cells) F8->eD h F8->cX [a] h h8->a∉F8->n3 [pT a 0,.int .i64 2,.func (.func mN) #[] #[],v8,.int .i64 (i:Int)] h8)->vP k n3 (pT a 0) (.int .i64 2) (.func (.func mN) #[] #[]) v (.int .i64 ((i+1:Nat):Int)) (.int .i64 (kd:Int)) (pT r 0) h5:=by
    intro n3 h5 st5 R5 u5 hn3;unfold vP;have B5:=B4.upd u5 nr;have O5:=O4.upd u5 (λb hb hm=>naF (by simp only[iC] at hm;exact hm▸hb));have l5:cD PG h5 (loadAt bX (pT r 0))=some (.agg p.cells.toArray):=bX.agg B5 (by show 0+4≤4;decide);simp only[l5,cC,reduceIte];show bT PG mN #[.int .i64 (kd:Int),.agg p.cells.toArray] h5 _;refine aSD ((kd:Int),p) λh6 u6=>?_;simp only[aUh,cC,reduceIte];intro r7 hr7;refine iB ?_
    try rw[cR]
    have u7:dA h6 (h6.set r7 (.cells (It.of ((kd:Int),p)).cells.toArray cF (0,0))):=cX.new hr7;have S7:iH (h6.set r7 (.cells (It.of ((kd:Int),p)).cells.toArray cF (0,0))) 5 (.slice (some ⟨r7,0,none⟩) 1 1) ([It.of ((kd:Int),p)].map It.cells):=(eH.lit (n:=1) (It.rows [_]) eN (by simp) (by decide) (by simp)).slR;generalize h6.set r7 (.cells (It.of ((kd:Int),p)).cells.toArray cF (0,0))=h7 at *;refine lV bZ.und bZ.und cF.info cF.size cF.bytes cF.zero rfl (by decide) ((O5.ext u6).ext u7) S7 (It.isC _) (by simp only[iL,iU,kV];omega) ?_;intro v8 h8 F8 O8 u8 k8 _;have e8:(l.map It.of).map It.cells++[It.of ((kd:Int),p)].map It.cells=((l++[((kd:Int),p)]).map It.of).map It.cells:=by simp
    rw[e8] at O8;simp only[gi,cC,reduceIte];have R7:=(R5.ext u6).ext u7;have u57:=u6.trans u7;have aF:a∉F:=naF;have hh7:cX [a] h h7:=((u'.trans (u4.upd)).trans u5).ext u57;refine hn3 h8 v8 F8 (R7.upd u8 aF) O8 (λb hb=>?_) (hh7.then u8 λb hb=>.inr (fF b hb)) (λhm=>?_)
    ·rcases k8 b hb with h1|h1
     ·exact fF b h1
     ·cases e:h b with
      | none=>rfl
      | some o=>
       by_cases hba:b=a
       ·subst hba;have:=R7.here;rw[h1] at this;cases this
       ·have:=hh7.get e (by simpa using hba);rw[h1] at this;cases this
    ·rcases k8 a hm with h1|h1
     ·exact aF h1
     ·have:=R7.here;rw[h1] at this;cases this
   have put:∀{st5:gY} {h8:PH} {v8:Value} {F8:List Nat},jQ 2 i st5 (l++[((kd:Int),p)])=jQ 2 n st1 []->lF h8 a st5.1 st5.2->eH h8 cF 5 v8 (((l++[((kd:Int),p)]).map It.of).map It.cells) F8->eD h F8->cX [a] h h8->a∉F8->∃(i':Nat) (st':gY) (l':List (Int×Pk)) (v':Value) (F':List Nat),i'≤n∧l'.length+i'≤n∧[(pT a 0:Value),.int .i64 2,.func (.func mN) #[] #[],v8,.int .i64 (i:Int)]=[pT a 0,.int .i64 2,.func (.func mN) #[] #[],v',.int .i64 (i':Int)]∧lF h8 a st'.1 st'.2∧eH h8 cF 5 v' ((l'.map It.of).map It.cells) F'∧eD h F'∧cX [a] h h8∧a∉F'∧jQ 2 i' st' l'=jQ 2 n st1 []:=λe r1 r2 r3 r4 r5=>
    ⟨i,_,_,_,_,by omega,by simp only[jM,iU,kV];omega,rfl,r1,r2,r3,r4,r5,e⟩
   have mu:∀{v8:Value} {h8:PH},aIw 4 [(pT a 0:Value),.int .i64 2,.func (.func mN) #[] #[],v8,.int .i64 (i:Int)] h8<aIw 4 [(pT a 0:Value),.int .i64 2,.func (.func mN) #[] #[],v,.int .i64 ((i+1:Nat):Int)] h':=fun {v8 h8}=>by
    simp only[aIw,zLL,zLK,xK];omega
   by_cases hk1:(kd:Int)<1
   ·rw[if_pos (.inl hk1)] at hrm;simp only[hk1,aBv,aAc,eV.f0,cC,reduceIte];refine aEP R4 5 λh5 R5 u5=>?_;exact rest R5 u5 λh8 v8 F8 r1 r2 r3 r4 r5=>⟨put hrm r1 r2 r3 r4 r5,mu⟩
   ·by_cases hk2:(2:Int)<(kd:Int)
    ·rw[if_pos (.inr hk2)] at hrm;simp only[hk1,hk2,eV.f0,cC,reduceIte];refine aEP R4 5 λh5 R5 u5=>?_;exact rest R5 u5 λh8 v8 F8 r1 r2 r3 r4 r5=>⟨put hrm r1 r2 r3 r4 r5,mu⟩
    ·rw[if_neg (by omega)] at hrm;simp only[hk1,hk2,cC,reduceIte];exact rest R4 cX.refl λh8 v8 F8 r1 r2 r3 r4 r5=>⟨put hrm r1 r2 r3 r4 r5,mu⟩
  ·have q:(st'.1==0)=false:=by simp[h0]
   simp only[gA,q,cC,reduceIte];exact fin (by rw[←hrm,jQ,if_neg h0])
structure Dm where
 p0:Pl
 p1:Pl
 its:List It
 deriving DecidableEq
structure Rc where
 k:Int
 s:Dm
 ch:Int
 pl:Pl
 ns:List Nt
 deriving DecidableEq
def Dm.zero:Dm:=⟨Pl.zero,Pl.zero,[]⟩
def Rc.zero:Rc:=⟨0,Dm.zero,0,Pl.zero,[]⟩
def Dm.cells(d:Dm)(v:Value):List Value:=[.int .u64 d.p0.h,.int .i64 d.p0.i,.int .u64 d.p1.h,.int .i64 d.p1.i,v]
def Rc.cells(r:Rc)(v w:Value):List Value:=[.int .i64 r.k,.int .u64 r.s.p0.h,.int .i64 r.s.p0.i,.int .u64 r.s.p1.h,.int .i64 r.s.p1.i,v,.int .i64 r.ch,.int .u64 r.pl.h,.int .i64 r.pl.i,w]
def Dm.v(d:Dm)(v:Value):Value:=.agg (d.cells v).toArray
def Rc.v(r:Rc)(v w:Value):Value:=.agg (r.cells v w).toArray
abbrev jT(h:PH)(v:Value)(l:List It):Prop:=iH h 5 v (l.map It.cells)
abbrev wN(h:PH)(v:Value)(l:List Nt):Prop:=iH h 5 v (l.map Nt.cells)
def Pl.wf(q:Pl):Prop:=0≤q.h∧q.h<18446744073709551616
structure Dm.wf(d:Dm):Prop where
 a:d.p0.wf
 b:d.p1.wf
 i:∀x∈d.its,x.p.wf
structure Rc.wf(r:Rc):Prop where
 s:r.s.wf
 pl:r.pl.wf
 n:∀x∈r.ns,x.p.wf
def iQ(h:PH)(v:Value):Prop:=∀a n c,v= .slice (some a) n c->h a.block=none
def iQ.nil{h:PH}:iQ h (.slice none 0 0):=λa n c e=>by cases e
def iQ.of{h h1:PH}{v:Value}(H:iQ h1 v)(u:dA h h1):iQ h v:=λa n c e=>u.none (H a n c e)
def eH.newV{h0 h:PH}{e:TypeId}{n:Nat}{v:Value}{rows:List (List Value)}{F:List Nat}(O:eH h e n v rows F)(f:eD h0 F):iQ h0 v:=λa m c ev=>by
 rcases O.here with⟨e2,_,_⟩|⟨b,cap',cs,e2,e3,_⟩
 ·rw[e2] at ev;cases ev
 ·rw[e2] at ev;simp only[Value.slice.injEq,zL4] at ev;rw[←ev.1];exact f b (by rw[e3];simp)
def Pl.eqIn{h:PH}{d:Nat}(q q':Pl):cD PG h (Op.equalIn (d+1+1) cG (.agg q.cells.toArray) (.agg q'.cells.toArray))=some (decide (q=q')):=by
 rw[aAq cG.und (by kernel_rfl) (λf=>match f.offset with|0=>q.h==q'.h|_=>q.i==q'.i)]
 ·congr 1;rw[xF];obtain⟨a,b⟩:=q;obtain⟨a',b'⟩:=q';simp
 ·intro f hf;simp only[iW,zLg,or_false] at hf;rcases hf with rfl|rfl
  ·exact⟨by decide,_,_,iM cJ.und rfl rfl,iM cJ.und rfl rfl,rH cJ.und⟩
  ·exact⟨by decide,_,_,iM aR.und rfl rfl,iM aR.und rfl rfl,rH aR.und⟩
def Pl.eql{h:PH}{x y:Operand}(q q':Pl):cD PG h (fV .eql cG x y (.agg q.cells.toArray) (.agg q'.cells.toArray))=some (.bool (decide (q=q'))):=aIY (by kernel_rfl) (Pl.eqIn (d:=9998) q q')
def lO(p q:Pl):Value:=.agg (p.cells++q.cells).toArray
def lO.eql{h:PH}{x y:Operand}(p q p' q':Pl):cD PG h (fV .eql cU x y (lO p q) (lO p' q'))=some (.bool (decide (p=p'∧q=q'))):=by
 refine aIY (by kernel_rfl) ?_;rw[aNR cU.und cG.info cG.size (λj=>if j=0 then decide (p=p') else decide (q=q'))]
 ·congr 1;simp[List.range,List.range.loop]
 ·intro j hj;have:j=0∨j=1:=by omega
  rcases this with rfl|rfl
  ·exact⟨_,_,aAv cG.und rfl cG.info cG.size,aAv cG.und rfl cG.info cG.size,Pl.eqIn (d:=9997) p p'⟩
  ·exact⟨_,_,aAv cG.und rfl cG.info cG.size,aAv cG.und rfl cG.info cG.size,Pl.eqIn (d:=9997) q q'⟩
def aH5:cB PG (build cU #[])=some (lO Pl.zero Pl.zero):=by kernel_rfl
def Rc.plain(r:Rc):Bool:=
 if r.k=1 then decide (r.ch=0)&&decide (r.pl=Pl.zero)&&decide (r.ns.length=0)&&decide (r.s.its.length≤40)
 else if r.k=2 then decide (r.s.p0=Pl.zero∧r.s.p1=Pl.zero)&&decide (r.s.its.length=0)&&(decide (r.ch=0)||decide (r.ch=1))&&decide (r.ns.length≤16)
 else false
def It.len{h:PH}{v:Value}{l:List It}(S:jT h v l):cB PG (Builtin.len_ #[bZ] aR #[v])=some (.int .i64 l.length):=by
 have:=S.len (t':=aR) bZ.und;rw[iL] at this;exact this
def Nt.len{h:PH}{v:Value}{l:List Nt}(S:wN h v l):cB PG (Builtin.len_ #[cZ] aR #[v])=some (.int .i64 l.length):=by
 have:=S.len (t':=aR) cZ.und;rw[iL] at this;exact this
def aN3{n:Nat}:(((n:Nat):Int)==0)=decide (n=0):=by rw[xF];simp
def leN{n m:Nat}:((n:Int)≤(m:Int))=(n≤m):=by rw[Int.ofNat_le]
def aQR{h:PH}{r:Rc}{v w:Value}(V:jT h v r.s.its)(W:wN h w r.ns){k:cE}(hk:∀h',dA h h'->k (.bool r.plain) h'):bT PG aCm #[r.v v w] h k:=by
 apply aFC.call;unfold aFC;intro r1 hr
 try rw[cR]
 have u1:dA h (h.set r1 (.cells (Value.cells (r.v v w)) bW)):=cX.new hr;have B:Bx (h.set r1 (.cells (Value.cells (r.v v w)) bW)) r1 (r.cells v w):=Bx.new;generalize h.set r1 (.cells (Value.cells (r.v v w)) bW)=h1 at *;have hk:=hk h1 u1;have lp:cD PG h1 (loadAt cG (pT r1 7))=some (.agg r.pl.cells.toArray):=cG.agg B (by show 7+2≤10;decide);have l2:cD PG h1 (loadAt cU (pT r1 1))=some (lO r.s.p0 r.s.p1):=cU.agg B (by show 1+4≤10;decide);have lv:=It.len V;have lw:=Nt.len W;have g40:((r.s.its.length:Int)≤40)=(r.s.its.length≤40):=leN (m:=40);have g16:((r.ns.length:Int)≤16)=(r.ns.length≤16):=leN (m:=16);unfold Rc.plain at hk;simp only[bW.f0,bW.f1,bW.f2,bW.f3,bW.f4,bR.f0,bR.f1,aR.load,B.cell,Rc.cells,iZ,Nat.reduceAdd,gA,cC,reduceIte];by_cases k1:r.k=1
 ·have q:(r.k==1)=true:=by simp[k1]
  rw[if_pos k1] at hk;by_cases c0:r.ch=0
  ·have q0:(r.ch==0)=true:=by simp[c0]
   by_cases c1:r.pl=Pl.zero
   ·by_cases c2:r.ns.length=0
    ·simp only[q,q0,lp,aLi,Pl.eql,c0,c1,c2,g40,cZ.load,bZ.load,B.cell,Rc.cells,iZ,Nat.reduceAdd,lv,lw,gA,aN3,bW.f4,bW.f1,bR.f1,decide_true,cC,reduceIte,cI,Nat.reduceAdd] at hk ⊢;exact hk
    ·simp only[q,q0,lp,aLi,Pl.eql,c0,c1,c2,g40,cZ.load,bZ.load,B.cell,Rc.cells,iZ,Nat.reduceAdd,lv,lw,gA,aN3,bW.f4,bW.f1,bR.f1,decide_true,decide_false,zLo,zLn,cC,reduceIte,cI,Nat.reduceAdd] at hk ⊢;exact hk
   ·simp only[q,q0,lp,aLi,Pl.eql,c0,c1,decide_true,decide_false,zLo,zLn,cC,reduceIte,cI,Nat.reduceAdd] at hk ⊢;exact hk
  ·have q0:(r.ch==0)=false:=by simp[c0]
   simp only[q,q0,c0,decide_false,zLn,cC,reduceIte,cI,Nat.reduceAdd] at hk ⊢;exact hk
 ·have q:(r.k==1)=false:=by simp[k1]
  rw[if_neg k1] at hk;by_cases k2:r.k=2
  ·have q2:(r.k==2)=true:=by simp[k2]
   rw[if_pos k2] at hk;simp only[q,q2,l2,aH5,lO.eql,cC,reduceIte];by_cases c0:r.s.p0=Pl.zero∧r.s.p1=Pl.zero
   ·by_cases c1:r.s.its.length=0
    ·by_cases c2:r.ch=0
     ·have q3:(r.ch==0)=true:=by simp[c2]
      simp only[q3,c0,c1,c2,g16,cZ.load,bZ.load,aR.load,B.cell,Rc.cells,iZ,Nat.reduceAdd,lv,lw,gA,aN3,bW.f4,bW.f2,bW.f1,bR.f1,and_self,decide_true,decide_false,zLo,Bool.true_or,cC,reduceIte,cI,Nat.reduceAdd] at hk ⊢;exact hk
     ·have q3:(r.ch==0)=false:=by simp[c2]
      by_cases c3:r.ch=1
      ·have q4:(r.ch==1)=true:=by simp[c3]
       simp only[q3,q4,c0,c1,c2,c3,g16,cZ.load,bZ.load,aR.load,B.cell,Rc.cells,iZ,Nat.reduceAdd,lv,lw,gA,aN3,bW.f4,bW.f2,bW.f1,bR.f1,and_self,decide_true,decide_false,zLo,Bool.false_or,cC,reduceIte,cI,Nat.reduceAdd,show((1:Int)==0)=false from rfl,show((1:Int)=0)=False from eq_false (by decide)] at hk ⊢;exact hk
      ·have q4:(r.ch==1)=false:=by simp[c3]
       simp only[q3,q4,c0,c1,c2,c3,g16,cZ.load,bZ.load,aR.load,B.cell,Rc.cells,iZ,Nat.reduceAdd,lv,lw,gA,aN3,bW.f4,bW.f2,bW.f1,bR.f1,and_self,cC,reduceIte,cI,Nat.reduceAdd] at hk ⊢;exact hk
    ·simp only[c0,c1,cZ.load,bZ.load,B.cell,Rc.cells,iZ,Nat.reduceAdd,lv,lw,gA,aN3,bW.f1,bR.f1,and_self,decide_true,decide_false,zLo,zLn,cC,reduceIte,cI,Nat.reduceAdd] at hk ⊢;exact hk
   ·simp only[c0,decide_false,zLn,cC,reduceIte,cI,Nat.reduceAdd] at hk ⊢;exact hk
  ·have q2:(r.k==2)=false:=by simp[k2]
   rw[if_neg k2] at hk;simp only[q,q2,cC,reduceIte];exact hk
def Rc.wr(r:Rc):gY:=
 if r.k=1 then aFh (wPl (wPl (kQ (0,[]) r.k) r.s.p0) r.s.p1) (r.s.its.map It.x)
 else aFh (wPl (kQ (kQ (0,[]) r.k) r.ch) r.pl) (r.ns.map Nt.x)
def Rc.bytes(r:Rc):Tx×Int:=if r.plain then aDs r.wr else([],1)
def aVH{p q:Pl}:cB PG (Instr.index cU (lO p q) (.int .i64 0))=some (.agg p.cells.toArray):=by kernel_rfl
def aVW{p q:Pl}:cB PG (Instr.index cU (lO p q) (.int .i64 1))=some (.agg q.cells.toArray):=by kernel_rfl
def aXu{p q:Pl}{i:Nat}(hi:i<2):cB PG (Instr.index cU (lO p q) (.int .i64 (i:Int)))=some (.agg (if i=0 then p else q).cells.toArray):=by
 have:i=0∨i=1:=by omega
 rcases this with rfl|rfl
 ·exact aVH
 ·exact aVW
def aMJ{h:PH}{r:Rc}{v w:Value}(V:jT h v r.s.its)(W:wN h w r.ns)(wf:r.wf){k:cE}(hk:∀h',dA h h'->k (.tuple #[.string (tx r.bytes.1),.int .i64 r.bytes.2]) h'):bT PG aAT #[r.v v w] h k:=by
 apply aFL.call;unfold aFL;intro r1 hr
 try rw[cR]
 have u1:dA h (h.set r1 (.cells (Value.cells (r.v v w)) bW)):=cX.new hr;have B:Bx (h.set r1 (.cells (Value.cells (r.v v w)) bW)) r1 (r.cells v w):=Bx.new;generalize h.set r1 (.cells (Value.cells (r.v v w)) bW)=h1 at *;have lr:cD PG h1 (loadAt bW (pT r1 0))=some (r.v v w):=bW.agg B (by show 0+10≤10;decide);simp only[lr,cC,reduceIte];refine aQR (V.ext u1) (W.ext u1) λh2 u2=>?_;have e2:=u1.trans u2;have B2:=B.ext u2;unfold Rc.bytes at hk;cases hp:r.plain with
 | false=>
  rw[hp] at hk;simp only[cC,reduceIte,cI,Nat.reduceAdd] at hk ⊢;exact hk _ e2
 | true=>
  rw[hp] at hk;simp only[if_true] at hk;simp only[cC,reduceIte,cI,Nat.reduceAdd];intro rw_ hrw
  try rw[cR]
  have S0:=WN.start hrw;have u3:dA h2 (h2.set rw_ (.cells (dJ PG fB) fB)):=cX.new hrw;generalize h2.set rw_ (.cells (dJ PG fB) fB)=h3 at *
  -- what was there when the writer was made stays
  have bx:∀{h':PH},dA h2 h'->Bx h' r1 (r.cells v w):=λu=>B2.ext u;have vv:∀{h':PH},dA h2 h'->jT h' v r.s.its:=λu=>V.ext (e2.trans u);have ww:∀{h':PH},dA h2 h'->wN h' w r.ns:=λu=>W.ext (e2.trans u);have few:r.s.its.length≤40∧r.ns.length≤16∧(r.k=1∨r.k=2):=by
   unfold Rc.plain at hp;split at hp
   ·rename_i hk1;simp only[sU,decide_eq_true_eq] at hp;exact⟨hp.2,by omega,.inl hk1⟩
   ·split at hp
    ·rename_i hk2;simp only[sU,decide_eq_true_eq] at hp;exact⟨by omega,hp.2,.inr hk2⟩
    ·cases hp
  obtain⟨f1,f2,fk⟩:=few;simp only[bW.f0,aR.load,(bx S0.upd).cell,Rc.cells,cC,reduceIte,cI,Nat.reduceAdd];refine aBQ S0 (by simp) r.k λh4 F4 x4 e4 S4 K4=>?_;have b4:=pM (0,[]) r.k;rw[←e4] at b4;simp only[kV] at b4;have fin:∀{st:gY} {h':PH} {F':List Nat},WN h2 h' rw_ st F'->st=r.wr->bT PG nZ #[pT rw_ 0] h' λv36 h37=>bY (cB PG (extract v36 0)) λv38=>bY (cB PG (extract v36 1)) λv39=>k (.tuple #[v38,v39]) h37:=by
   intro st h' F' S' est;refine aMI S'.at_ λh9 u9=>?_;simp only[cC,reduceIte];rw[←est] at hk;exact hk h9 (e2.trans (S'.upd.fresh u9 S'.fresh))
  simp only[bW.f0,bW.f1,bW.f2,bR.f0,aR.load,(bx S4.upd).cell,Rc.cells,gA,cC,reduceIte,cI,Nat.reduceAdd];by_cases k1:r.k=1
  ·have q:(r.k==1)=true:=by simp[k1]
   have l2:cD PG h4 (loadAt cU (pT r1 1))=some (lO r.s.p0 r.s.p1):=cU.agg (bx S4.upd) (by show 1+4≤10;decide);simp only[q,l2,cC,reduceIte,cI,Nat.reduceAdd];refine⟨λvs h'=>∃(i:Nat) (st:gY) (F:List Nat),i≤2∧vs=[pT r1 0,pT rw_ 0,lO r.s.p0 r.s.p1,.int .i64 (i:Int)]∧WN h2 h' rw_ st F∧st=(if i=0 then x4 else if i=1 then wPl x4 r.s.p0 else wPl (wPl x4 r.s.p0) r.s.p1),fT 2 3,⟨0,_,_,by omega,rfl,S4,rfl⟩,?_⟩;rintro ρ h' ⟨i,st,F,hi,hvs,S',est⟩;simp only[iG,jB,kZ,and_true] at hvs;obtain⟨v1,v4,v18,v19⟩:=hvs;simp only[v1,v4,v18,v19,iG,jB];unfold aIE;have hst:st.2.length≤100:=by
    have h1:=aNq x4 r.s.p0;have h2:=aNq (wPl x4 r.s.p0) r.s.p1;rw[est];split
    ·omega
    ·split<;>omega
   by_cases hl:i<2
   ·have g1:((i:Int)<2)=True:=eq_true (by omega);have gi:=nR (i:=i) (by omega);simp only[g1,aXu hl,cC,reduceIte];intro r5 hr5
    try rw[cR]
    refine cG.fill hr5 rfl (by simp[Pl.cells,fL]) λh5 B5 u5=>?_;have l5:cD PG h5 (loadAt cG (pT r5 0))=some (.agg (if i=0 then r.s.p0 else r.s.p1).cells.toArray):=cG.agg B5 (by show 0+2≤2;decide);simp only[l5,cC,reduceIte];have wq:(if i=0 then r.s.p0 else r.s.p1).wf:=by split;exact wf.s.a;exact wf.s.b
    refine aMo (WS.ext S' u5) (by omega) _ wq.1 wq.2 λh6 F6 S6 K6=>?_;simp only[gi,cC,reduceIte];refine⟨⟨i+1,_,F6,by omega,rfl,S6,?_⟩,?_⟩
    ·have:i=0∨i=1:=by omega
     rcases this with rfl|rfl
     ·rw[est];rfl
     ·rw[est];rfl
    ·simp only[fT,zLL,zLK];omega
   ·obtain rfl:i=2:=by omega
    have g1:(((2:Nat):Int)<2)=False:=eq_false (by omega);simp only[g1,bW.f1,bR.f1,bZ.load,(bx S'.upd).cell,Rc.cells,cC,reduceIte,cI,Nat.reduceAdd];refine aRo S' (by omega) (vv cX.refl) (by omega) wf.s.i λh6 F6 S6 K6=>?_;refine fin S6 ?_;unfold Rc.wr;rw[if_pos k1,est,e4];rfl
  ·have q:(r.k==1)=false:=by simp[k1]
   simp only[q,cC,reduceIte,cI,Nat.reduceAdd];refine aBQ S4 (by omega) r.ch λh5 F5 x5 e5 S5 K5=>?_;have b5:=pM x4 r.ch;rw[←e5] at b5;have l5:cD PG h5 (loadAt cG (pT r1 7))=some (.agg r.pl.cells.toArray):=cG.agg (bx S5.upd) (by show 7+2≤10;decide);simp only[bW.f3,l5,cC,reduceIte,cI,Nat.reduceAdd];refine aMo S5 (by omega) r.pl wf.pl.1 wf.pl.2 λh6 F6 S6 K6=>?_;have b6:=aNq x5 r.pl;simp only[bW.f4,cZ.load,(bx S6.upd).cell,Rc.cells,cC,reduceIte,cI,Nat.reduceAdd];refine aSF S6 (by omega) (ww cX.refl) (by omega) wf.n λh7 F7 S7 K7=>?_;refine fin S7 ?_;unfold Rc.wr;rw[if_neg k1,e5,e4]
def Rc.rd(s:Tx):Rc×gY:=
 if (fK (0,s) 1).1=1 then
  (⟨1,⟨(gU (fK (0,s) 1).2).1,(gU (gU (fK (0,s) 1).2).2).1,(fJ 2 (gU (gU (fK (0,s) 1).2).2).2).1.map It.of⟩,0,Pl.zero,[]⟩,(fJ 2 (gU (gU (fK (0,s) 1).2).2).2).2)
 else if (fK (0,s) 1).1=2 then
  (⟨2,Dm.zero,(fK (fK (0,s) 1).2 1).1,(gU (fK (fK (0,s) 1).2 1).2).1,(fJ 4 (gU (fK (fK (0,s) 1).2 1).2).2).1.map Nt.of⟩,(fJ 4 (gU (fK (fK (0,s) 1).2 1).2).2).2)
 else(⟨(fK (0,s) 1).1,Dm.zero,0,Pl.zero,[]⟩,(fK (0,s) 1).2)
def wL(s:Tx):gY:=if (Rc.rd s).1.plain then(Rc.rd s).2 else xR (Rc.rd s).2 5
def gM(s:Tx):Rc×Int:=if aG9 (wL s)≠0 then(Rc.zero,aG9 (wL s)) else((Rc.rd s).1,0)
def aVb(k:Nat):cB PG (build bW #[(0,.int .i64 (k:Int))])=some (Rc.v ⟨k,Dm.zero,0,Pl.zero,[]⟩ (.slice none 0 0) (.slice none 0 0)):=by kernel_rfl
def vW:cB PG (build bW #[])=some (Rc.v Rc.zero (.slice none 0 0) (.slice none 0 0)):=by kernel_rfl
def qO:cB PG (build bR #[])=some (Dm.v Dm.zero (.slice none 0 0)):=by kernel_rfl
def Rc.isC(r:Rc){v w:Value}(hv:fL v=true)(hw:fL w=true):∀u∈r.cells v w,fL u=true:=λu hu=>by
 simp only[Rc.cells,iW,zLg,or_false] at hu;rcases hu with rfl|rfl|rfl|rfl|rfl|rfl|rfl|rfl|rfl|rfl<;>first|rfl|exact hv|exact hw
def Dm.isC(d:Dm){v:Value}(hv:fL v=true):∀u∈d.cells v,fL u=true:=λu hu=>by
 simp only[Dm.cells,iW,zLg,or_false] at hu;rcases hu with rfl|rfl|rfl|rfl|rfl<;>first|rfl|exact hv
def aDq{h:PH}:jT h (.slice none 0 0) []:=(eH.nil (e:=cF)).slR
def aMN{h:PH}:wN h (.slice none 0 0) []:=(eH.nil (e:=cL)).slR
def aPR{h:PH}{s:Tx}{k:cE}(hk:∀h' v w,jT h' v (gM s).1.s.its->wN h' w (gM s).1.ns->iQ h v->iQ h w->dA h h'->k (.tuple #[(gM s).1.v v w,.int .i64 (gM s).2]) h'):bT PG aCq #[.string (tx s)] h k:=by
 apply aFb.call;unfold aFb;intro r1 hr1
 try rw[cR]
 have u1:dA h (h.set r1 (.cells (dJ PG bW) bW)):=cX.new hr1;have Z:=bW.zbox (h:=h) (r:=r1);generalize h.set r1 (.cells (dJ PG bW) bW)=h1 at *;refine aIA s λa h2 R2 u2 na=>?_;have e2:=u1.trans u2;have Z2:=Z.ext u2;have hra:r1≠a:=Z.apart na;refine aAw R2 λh3 R3 u3=>?_;have fa:eD h [a]:=eD.one (u1.none na);have e3:=e2.fresh u3 fa;have Z3:=Z2.upd u3 (by simpa using hra)
 try simp only[cC,reduceIte]
 simp only[aVb,cC,reduceIte];intro r8 hr8
 try rw[cR]
 refine bW.fill hr8 rfl (Rc.isC _ rfl rfl) λh4 B4 u4=>?_;have e4:=e3.trans u4;have R4:=R3.ext u4;have Z4:=Z3.ext u4;have n8a:r8≠a:=λe=>by have:=R3.here;rw[←e,hr8] at this;cases this
 have n81:r8≠r1:=λe=>by subst e;exact Z3.known hr8
 have f8:eD h [r8]:=eD.one (e3.none hr8);have f1:eD h [r1]:=eD.one hr1
 -- the end: plain? at the end?
 have fin:∀{h5:PH} {v w:Value},lF h5 a (Rc.rd s).2.1 (Rc.rd s).2.2->Bx h5 r8 ((Rc.rd s).1.cells v w)->Bx h5 r1 (Rc.zero.cells (.slice none 0 0) (.slice none 0 0))->jT h5 v (Rc.rd s).1.s.its->wN h5 w (Rc.rd s).1.ns->iQ h v->iQ h w->(∀x n c,v= .slice (some x) n c->x.block≠a∧x.block≠r1)->(∀x n c,w= .slice (some x) n c->x.block≠a∧x.block≠r1)->dA h h5->aEW k (pT r1 0) (pT a 0) (pT r8 0) h5:=by
  intro h5 v w R5 B5 Z5 V5 W5 nv nw hv hw e5;unfold aEW;have l5:cD PG h5 (loadAt bW (pT r8 0))=some ((Rc.rd s).1.v v w):=bW.agg B5 (by show 0+10≤10;decide);simp only[l5,cC,reduceIte];refine aQR V5 W5 λh6 u6=>?_;have last:∀{h7:PH},lF h7 a (wL s).1 (wL s).2->cX [a] h6 h7->aCE k (pT r1 0) (pT a 0) (pT r8 0) h7:=by
   intro h7 R7 u7;unfold aCE;have u57:cX [a] h5 h7:=u6.upd.trans u7;have B7:=B5.upd u57 (by simpa using n8a);have Z7:=Z5.upd u57 (by simpa using hra);have V7:jT h7 v (Rc.rd s).1.s.its:=V5.upd u57 λx n c e=>by simpa using(hv x n c e).1
   have W7:wN h7 w (Rc.rd s).1.ns:=W5.upd u57 λx n c e=>by simpa using(hw x n c e).1
   have e7:=e5.fresh u57 fa;refine aWe R7 ?_;unfold gM at hk;by_cases h0:aG9 (wL s)=0
   ·rw[if_neg (by simp[h0])] at hk;have l7:cD PG h7 (loadAt bW (pT r8 0))=some ((Rc.rd s).1.v v w):=bW.agg B7 (by show 0+10≤10;decide);simp only[h0,eI,bne_self_eq_false,l7,cC,reduceIte];refine bW.put Z7 rfl (by show 0+10≤10;decide) (Rc.isC _ V7.isc W7.isc) λh8 B8 u8=>?_;have l8:cD PG h8 (loadAt bW (pT r1 0))=some ((Rc.rd s).1.v v w):=bW.agg B8 (by show 0+10≤10;decide);simp only[l8,cC,reduceIte];exact hk h8 v w (V7.upd u8 λx n c e=>by simpa using(hv x n c e).2) (W7.upd u8 λx n c e=>by simpa using(hw x n c e).2) nv nw (e7.fresh u8 f1)
   ·rw[if_pos h0] at hk;have q:(aG9 (wL s) !=0)=true:=by simp[h0]
    simp only[eI,q,vW,cC,reduceIte];refine bW.put Z7 rfl (by show 0+10≤10;decide) (Rc.isC _ rfl rfl) λh8 B8 u8=>?_;have l8:cD PG h8 (loadAt bW (pT r1 0))=some (Rc.zero.v (.slice none 0 0) (.slice none 0 0)):=bW.agg B8 (by show 0+10≤10;decide);simp only[l8,cC,reduceIte];exact hk h8 _ _ aDq aMN iQ.nil iQ.nil (e7.fresh u8 f1)
  have hst:wL s=if (Rc.rd s).1.plain then(Rc.rd s).2 else xR (Rc.rd s).2 5:=rfl
  cases hp:(Rc.rd s).1.plain with
  | true=>
   rw[hp] at hst;simp only[if_true] at hst;simp only[cC,reduceIte];exact last (by rw[hst];exact R5.ext u6) cX.refl
  | false=>
   rw[hp] at hst;simp only[zLs,if_false] at hst;simp only[eV.f0,cC,reduceIte];refine aEP (R5.ext u6) 5 λh7 R7 u7=>?_;exact last (by rw[hst];exact R7) u7
 have newOf:∀{h5 h6:PH} {e:TypeId} {rows:List (List Value)} {v:Value} {F:List Nat},dA h h5->Bx h5 r1 (Rc.zero.cells (.slice none 0 0) (.slice none 0 0))->Bx h5 r8 ((Rc.cells ⟨(fK (0,s) 1).1,Dm.zero,0,Pl.zero,[]⟩ (.slice none 0 0) (.slice none 0 0)))∨(h5 r8≠none)->h5 a≠none->eH h6 e 5 v rows F->eD h5 F->iQ h v∧(∀x n c,v= .slice (some x) n c->x.block≠a∧x.block≠r1)∧(∀x n c,v= .slice (some x) n c->x.block≠r8):=by
  intro h5 h6 e rows v F e5 Z5 B5 A5 O f;have nv:=O.newV f;refine⟨nv.of e5,λx n c ev=>⟨λe=>A5 (by rw[←e];exact nv x n c ev),λe=>Z5.known (by rw[←e];exact nv x n c ev)⟩,λx n c ev e=>?_⟩;have hn:=nv x n c ev;rw[e] at hn;rcases B5 with B5|B5
  ·exact B5.known hn
  ·exact B5 hn
 simp only[bW.f0,aR.load,B4.cell,Rc.cells,gA,cC,reduceIte,cI,Nat.reduceAdd];have hrd:Rc.rd s=if (fK (0,s) 1).1=1 then _ else _:=rfl
 by_cases k1:(fK (0,s) 1).1=1
 ·have q:(((fK (0,s) 1).1:Int)==1)=true:=by simp[k1]
  rw[if_pos k1] at hrd;rw[k1] at B4;generalize (fK (0,s) 1).2=st1 at *;simp only[q,cC,reduceIte,cI,Nat.reduceAdd];refine⟨λvs h'=>∃(i:Nat) (st:gY) (p0 p1:Pl),i≤2∧vs=[pT r1 0,pT a 0,pT r8 0,.int .i64 (i:Int)]∧lF h' a st.1 st.2∧Bx h' r8 (Rc.cells ⟨1,⟨p0,p1,[]⟩,0,Pl.zero,[]⟩ (.slice none 0 0) (.slice none 0 0))∧Bx h' r1 (Rc.zero.cells (.slice none 0 0) (.slice none 0 0))∧dA h h'∧(i=0->st=st1∧p0=Pl.zero∧p1=Pl.zero)∧(i=1->st=(gU st1).2∧p0=(gU st1).1∧p1=Pl.zero)∧(i=2->st=(gU (gU st1).2).2∧p0=(gU st1).1∧p1=(gU (gU st1).2).1),fT 2 3,⟨0,st1,_,_,by omega,rfl,R4,B4,Z4,e4,λ_=>⟨rfl,rfl,rfl⟩,λh=>by omega,λh=>by omega⟩,?_⟩;rintro ρ h' ⟨i,st,p0,p1,hi,hvs,R',B',Z',e',c0,c1,c2⟩;simp only[iG,jB,kZ,and_true] at hvs;obtain⟨v2,v4,v5,v17⟩:=hvs;simp only[v2,v4,v5,v17,iG,jB];unfold aIO;by_cases hl:i<2
  ·have g1:((i:Int)<2)=True:=eq_true (by omega);have gi:=nR (i:=i) (by omega);simp only[g1,cC,reduceIte];refine aRb R' λh5 R5 u5=>?_;have B5:=B'.upd u5 (by simpa using n8a);have Z5:=Z'.upd u5 (by simpa using hra);have e5:=e'.fresh u5 fa;have ix:=tJ (P:=PG) (t:=cU) (b:=r8) (o:=1) (k:=.i64) (j:=(i:Int)) cU.und cG.info cG.size (by omega) (by omega);rw[xK] at ix;simp only[bW.f1,bR.f0,iZ,ix,cC,reduceIte];have:i=0∨i=1:=by omega
   rcases this with rfl|rfl
   ·obtain⟨rfl,rfl,rfl⟩:=c0 rfl;refine cG.put B5 (o:=1) rfl (by show 1+2≤10;decide) (by simp[Pl.cells,fL]) λh6 B6 u6=>?_;simp only[gi,cC,reduceIte];refine⟨⟨1,_,(gU st).1,_,by omega,rfl,R5.upd u6 (by simpa using n8a.symm),B6,Z5.upd u6 (by simpa using n81.symm),e5.fresh u6 f8,λh=>by omega,λ_=>⟨rfl,rfl,rfl⟩,λh=>by omega⟩,?_⟩;simp only[fT,zLL,zLK];omega
   ·obtain⟨rfl,rfl,rfl⟩:=c1 rfl;refine cG.put B5 (o:=3) rfl (by show 3+2≤10;decide) (by simp[Pl.cells,fL]) λh6 B6 u6=>?_;simp only[gi,cC,reduceIte];refine⟨⟨2,_,(gU st1).1,(gU (gU st1).2).1,by omega,rfl,R5.upd u6 (by simpa using n8a.symm),B6,Z5.upd u6 (by simpa using n81.symm),e5.fresh u6 f8,λh=>by omega,λh=>by omega,λ_=>⟨rfl,rfl,rfl⟩⟩,?_⟩;simp only[fT,zLL,zLK];omega
  ·obtain rfl:i=2:=by omega
   obtain⟨rfl,rfl,rfl⟩:=c2 rfl;have g1:(((2:Nat):Int)<2)=False:=eq_false (by omega);simp only[g1,cC,reduceIte];refine aWF R' λh5 v F R5 O5 f5 u5=>?_;have B5:=B'.upd u5 (by simpa using n8a);have Z5:=Z'.upd u5 (by simpa using hra);have e5:=e'.fresh u5 fa;obtain⟨nv,hv,hv8⟩:=newOf e' Z' (.inr B'.known) (by rw[R'.here];simp) O5 f5;simp only[bW.f1,bR.f1,iZ,Nat.reduceAdd,cC,reduceIte];refine bZ.put B5 (o:=5) (by show 5<10;decide) O5.slR.isc λh6 B6 u6=>?_;unfold uR;rw[hrd] at fin;refine fin (v:=v) (w:=.slice none 0 0) (R5.upd u6 (by simpa using n8a.symm)) B6 (Z5.upd u6 (by simpa using n81.symm)) (O5.slR.upd u6 λx n c e=>by simpa using hv8 x n c e) aMN nv iQ.nil hv (λx n c e=>by cases e) (e5.fresh u6 f8)
 ·have q:(((fK (0,s) 1).1:Int)==1)=false:=by simp;omega
  rw[if_neg k1] at hrd;simp only[q,cC,reduceIte,cI,Nat.reduceAdd];by_cases k2:(fK (0,s) 1).1=2
  ·have q2:(((fK (0,s) 1).1:Int)==2)=true:=by simp[k2]
   rw[if_pos k2] at hrd;rw[k2] at B4;generalize (fK (0,s) 1).2=st1 at *;simp only[q2,cC,reduceIte,cI,Nat.reduceAdd];refine aAw R4 λh5 R5 u5=>?_;simp only[Prod.eta] at R5;have B5:=B4.upd u5 (by simpa using n8a);have Z5:=Z4.upd u5 (by simpa using hra);have e5:=e4.fresh u5 fa;simp only[bW.f2,iZ,Nat.reduceAdd,cC,reduceIte];refine aR.put B5 (o:=6) (by show 6<10;decide) rfl λh6 B6 u6=>?_;have R6:=R5.upd u6 (by simpa using n8a.symm);have Z6:=Z5.upd u6 (by simpa using n81.symm);have e6:=e5.fresh u6 f8;refine aRb R6 λh7 R7 u7=>?_;have B7:=B6.upd u7 (by simpa using n8a);have Z7:=Z6.upd u7 (by simpa using hra);have e7:=e6.fresh u7 fa;simp only[bW.f3,iZ,Nat.reduceAdd,cC,reduceIte];refine cG.put B7 (o:=7) rfl (by show 7+2≤10;decide) (by simp[Pl.cells,fL]) λh8 B8 u8=>?_;have R8:=R7.upd u8 (by simpa using n8a.symm);have Z8:=Z7.upd u8 (by simpa using n81.symm);have e8:=e7.fresh u8 f8;refine aWW R8 λh9 v F R9 O9 f9 u9=>?_;have B9:=B8.upd u9 (by simpa using n8a);have Z9:=Z8.upd u9 (by simpa using hra);have e9:=e8.fresh u9 fa;obtain⟨nv,hv,hv8⟩:=newOf e8 Z8 (.inr B8.known) (by rw[R8.here];simp) O9 f9;simp only[bW.f4,iZ,Nat.reduceAdd,cC,reduceIte];refine cZ.put B9 (o:=9) (by show 9<10;decide) O9.slR.isc λh10 B10 u10=>?_;unfold uR;rw[hrd] at fin;refine fin (v:=.slice none 0 0) (w:=v) (R9.upd u10 (by simpa using n8a.symm)) B10 (Z9.upd u10 (by simpa using n81.symm)) aDq (O9.slR.upd u10 λx n c e=>by simpa using hv8 x n c e) iQ.nil nv (λx n c e=>by cases e) hv (e9.fresh u10 f8)
  ·have q2:(((fK (0,s) 1).1:Int)==2)=false:=by simp;omega
   rw[if_neg k2] at hrd;simp only[q2,cC,reduceIte,cI,Nat.reduceAdd];unfold uR;rw[hrd] at fin;exact fin (v:=.slice none 0 0) (w:=.slice none 0 0) R4 B4 Z4 aDq aMN iQ.nil iQ.nil (λx n c e=>by cases e) (λx n c e=>by cases e) e4
end
end Go.Proofs.YtiohehjhlghikaaGreatDoor
