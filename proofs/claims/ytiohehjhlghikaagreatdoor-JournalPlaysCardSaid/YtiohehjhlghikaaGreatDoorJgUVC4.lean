/- The texts of this claim, put together. -/
import Derived.Test.YtiohehjhlghikaaGreatDoorJgUVC3
import Derived.WalkKit
import Derived.ProofKit
import Derived.ChangeMaps5
import Derived.Lib.UnsafeStr
set_option linter.all false
set_option maxRecDepth 100000
open Go.Instr (loadAt fieldAt indexAt extract buildSlice build)
namespace Go.Proofs.YtiohehjhlghikaaGreatDoor
section
open Go
def fW{x:Int}(h1: -9223372036854775808≤x)(h2:x≤9223372036854775807):IntKind.i64.wrap x=x:=IntWalk.i64_in _ ⟨h1,h2⟩
def oM{i:Nat}(h:i<9223372036854775807):IntKind.i64.wrap ((i:Int)+1)=((i+1:Nat):Int):=by rw[fW (by omega) (by omega)];omega
def gT(n:Nat)(i:Nat):List Value->PH->Nat:=λvs _=>match vs[i]? with
 | some (.int _ j)=>n-j.toNat
 | _=>0
def fX(h:PH)(F:List Nat):Prop:=∀b∈F,h b=none
def fX.one{h:PH}{a:Nat}(ha:h a=none):fX h [a]:=λb hb=>by simp at hb;subst hb;exact ha
def eM.none{h h1:PH}(u:eM h h1){b:Nat}(hb:h1 b=none):h b=none:=by
 cases e:h b with
 | none=>rfl
 | some o=>rw[u.get e] at hb;cases hb
def fX.grow{h h1:PH}{F F':List Nat}(f:fX h F)(u:eM h h1)(hg:∀b∈F',b∈F∨h1 b=none):fX h F':=λb hb=>by
 rcases hg b hb with h1|h1
 ·exact f b h1
 ·exact u.none h1
def fX.of{h h1:PH}{F:List Nat}(f:fX h1 F)(u:eM h h1):fX h F:=λb hb=>u.none (f b hb)
def eM.trans{h h1 h2:PH}(u:eM h h1)(v:eM h1 h2):eM h h2:=eH.trans u v
def eM.fresh{h h1 h2:PH}{F:List Nat}(u:eM h h1)(v:eH F h1 h2)(f:fX h F):eM h h2:=λb o hb _=>
 v b o (u.get hb) λhm=>by rw[f b hm] at hb;cases hb
def fY.ext{h h':PH}{e:TypeId}{size:Nat}{v:Value}{rows:List (List Value)}{F:List Nat}(H:fY h e size v rows F)(u:eM h h'):fY h' e size v rows F:=H.upd u (by simp)
def jC{α:Type}{v:α}{k:α->Prop}(hk:k v):dA (dE PG (pure v)) k:=hk
def lJ{x:Int}(h1:0≤x)(h2:x<18446744073709551616):IntKind.u64.wrap x=x:=by
 unfold IntKind.wrap;simp[IntKind.signed,IntKind.bits];omega
def aJy(x:Int):IntKind.u8.wrap x=x%256:=by
 unfold IntKind.wrap;simp[IntKind.signed,IntKind.bits]
def aCb:yV undef=none:=(rfl)
def aA1{X:(Value->PH->Prop)->Prop}{h:PH}{kv:dI}{w:Bool}:gG none w X h kv=kv undef h:=by simp[gG]
def dF:type_of% @jQ∧type_of% @dY∧type_of% @aNA∧type_of% @aKS∧type_of% @aJg∧type_of% @aNa∧type_of% @aN2∧type_of% @aRV∧type_of% @aQv∧type_of% @aNs∧type_of% @aNm∧type_of% @aNe∧type_of% @aMz∧type_of% @aKU∧type_of% @aT4∧type_of% @aK1∧type_of% @oQ∧type_of% @aTx∧type_of% @aTY∧type_of% @aPB∧type_of% @aTw∧type_of% @aS1∧type_of% @aLv∧type_of% @aLp∧type_of% @aJO∧type_of% @aI7∧type_of% @aOm∧type_of% @gX∧type_of% @fZ∧type_of% @aEQ∧type_of% @decide_true∧type_of% @decide_false∧type_of% @if_true.{0}∧type_of% @if_true.{1}∧type_of% @if_false.{0}∧type_of% @if_false.{1}∧type_of% @Bool.false_eq_true∧type_of% @Bool.not_true∧type_of% @Bool.not_false∧type_of% @List.getElem?_toArray.{0}∧type_of% @List.getElem?_cons_zero.{0}∧type_of% @List.getElem?_cons_succ.{0}∧type_of% @Option.isSome_none.{0}∧type_of% @List.length_map.{0,0}∧type_of% @zPP:=⟨@jQ,@dY,@aNA,@aKS,@aJg,@aNa,@aN2,@aRV,@aQv,@aNs,@aNm,@aNe,@aMz,@aKU,@aT4,@aK1,@oQ,@aTx,@aTY,@aPB,@aTw,@aS1,@aLv,@aLp,@aJO,@aI7,@aOm,@gX,@fZ,@aEQ,@decide_true,@decide_false,@if_true.{0},@if_true.{1},@if_false.{0},@if_false.{1},@Bool.false_eq_true,@Bool.not_true,@Bool.not_false,@List.getElem?_toArray.{0},@List.getElem?_cons_zero.{0},@List.getElem?_cons_succ.{0},@Option.isSome_none.{0},@List.length_map.{0,0},@zPP⟩
def dM:type_of% @aCb∧type_of% @aA1∧type_of% @Nat.zero_add∧type_of% @beq_self_eq_true.{0}∧type_of% @bne_self_eq_false.{0}∧type_of% @and_self∧type_of% @Bool.true_and∧type_of% @Bool.false_and∧type_of% @Bool.and_true∧type_of% @Bool.and_false∧type_of% @Bool.true_or∧type_of% @Bool.false_or∧type_of% @Bool.or_true∧type_of% @Bool.or_false:=⟨@aCb,@aA1,@Nat.zero_add,@beq_self_eq_true.{0},@bne_self_eq_false.{0},@and_self,@Bool.true_and,@Bool.false_and,@Bool.and_true,@Bool.and_false,@Bool.true_or,@Bool.false_or,@Bool.or_true,@Bool.or_false⟩
end
section
open Go Go.RowKit Go.ChangeShapes
def aXm:Kids PG (· < PG.types.size):=kids_rows (by kernel_rfl) (by kernel_rfl)
def aXx:∀t e,t<PG.types.size->PG.underlying t=some (.slice e)->0<PG.cellsOf e:=slices_full_of PG (by kernel_rfl)
def aUQ{H:Type}{enc:TypeId×Value->H}{P:Program}{w:World}{spare:Nat->Bool}{held:Bool}{t:TypeId}{v:Value}{d:DataW H}{p:List MemPlace}(hd:DataW.Trod enc P w 0 spare held t v d p):Rd enc P w spare held t v.cells.toList:=by
 obtain⟨k,hk⟩:=hd;exact⟨k,_,hk⟩
def aPR{n:Int}(h:(Lit.int .u64 n).wf=true):0≤n∧n<18446744073709551616:=by
 simp[Lit.wf,IntKind.min,IntKind.max,IntKind.signed,IntKind.bits] at h;omega
def aXX{n:Int}(h:(Lit.int .i64 n).wf=true): -9223372036854775808≤n∧n<9223372036854775808:=by
 simp[Lit.wf,IntKind.min,IntKind.max,IntKind.signed,IntKind.bits] at h;omega
end
section
open Go
abbrev W:=BitVec 32
def wv(x:W):Value:=.int .u32 (x.toNat:Int)
def w4(a b c d:UInt8):W:=((((BitVec.ofNat 32 a.toNat) <<< 24) ||| ((BitVec.ofNat 32 b.toNat) <<< 16)) ||| ((BitVec.ofNat 32 c.toNat) <<< 8)) ||| (BitVec.ofNat 32 d.toNat)
structure S8 where
 (a b c d e f g h:W)
def S0:S8:=⟨1779033703,3144134277,1013904242,2773480762,1359893119,2600822924,528734635,1541459225⟩
section
variable{P:Program}{t:TypeId}{x y:W}{h:PH}
def aGY(x:Int):IntKind.u32.wrap x=x%4294967296:=by
 rfl
def aG3(x:W):BitVec.ofInt 32 (x.toNat:Int)=x:=by
 apply BitVec.eq_of_toInt_eq;rw[BitVec.toInt_ofInt,BitVec.toInt_eq_toNat_bmod]
def aPL(x:W):IntKind.u32.wrap (x.toNat:Int)=x.toNat:=by
 rw[aGY];have:=x.isLt;omega
def aYT:dE P (binOp .and t (wv x) (wv y))=some (wv (x &&& y)):=by
 have e:dE P (binOp .and t (wv x) (wv y))=some (.int .u32 (IntKind.u32.wrap ((BitVec.ofInt 32 (x.toNat:Int) &&& BitVec.ofInt 32 (y.toNat:Int)).toNat:Int))):=rfl;rw[e,aG3,aG3,aPL];rfl
def aO9:dE P (binOp .xor t (wv x) (wv y))=some (wv (x ^^^ y)):=by
 have e:dE P (binOp .xor t (wv x) (wv y))=some (.int .u32 (IntKind.u32.wrap ((BitVec.ofInt 32 (x.toNat:Int) ^^^ BitVec.ofInt 32 (y.toNat:Int)).toNat:Int))):=rfl;rw[e,aG3,aG3,aPL];rfl
def aYb:dE P (Op.unary .xor (wv x))=some (wv (~~~x)):=by
 have e:dE P (Op.unary .xor (wv x))=some (.int .u32 (IntKind.u32.wrap ((BitVec.ofInt 32 4294967295 ^^^ BitVec.ofInt 32 (x.toNat:Int)).toNat:Int))):=rfl;rw[e,aG3,aPL];have:BitVec.ofInt 32 4294967295 ^^^ x= ~~~x:=by
  have:BitVec.ofInt 32 4294967295=BitVec.allOnes 32:=by decide
  rw[this,BitVec.allOnes_xor]
 rw[this];rfl
def aSP{k:IntKind}{n:Nat}(hn:n≤32):dE P (binOp .shr t (wv x) (.int k n))=some (wv (x>>>n)):=by
 unfold wv;rw[aPC (by omega)];congr 2;rw[BitVec.toNat_ushiftRight,Nat.shiftRight_eq_div_pow];have e:min ((n:Int).toNat) (IntKind.u32.bits)=n:=by
  show min n 32=n;omega
 rw[e,Int.fdiv_eq_ediv_of_nonneg _ (Int.pow_nonneg (by decide)),Int.natCast_ediv,Int.natCast_pow];rfl
end
section
variable{P:Program}{h:PH}{t t' kt et:TypeId}{α:Type}[DecidableEq α]{enc:α->Value}
def aNn(l:List (α×Value))(a:α):List (α×Value):=l.filter λp=>decide (p.1≠a)
def aLZ{β:Type}:∀(L:List (α×β)) (a:α) (q:Nat),(L.map (·.1)).Nodup->(L.map (·.1))[q]? =some a->L.eraseIdx q=L.filter λp=>decide (p.1≠a)
 | [],a,q,_,hq=>by simp at hq
 | p::ps,a,0,hnd,hq=>by
  simp only[jF,zLK,zL4] at hq;simp only[jF,aGT] at hnd;simp only[List.eraseIdx_cons_zero,zLr,hq,ne_eq,not_true,decide_false,zLs,if_false];symm;rw[aMh];intro x hx;simp only[decide_eq_true_eq];rintro e;exact hnd.1 (by rw[hq,←e];exact zL3 hx)
 | p::ps,a,q+1,hnd,hq=>by
  simp only[jF,zLL] at hq;simp only[jF,aGT] at hnd;have hne:p.1≠a:=λe=>hnd.1 (by rw[e];exact wE hq);simp only[List.eraseIdx_cons_succ,zLr,hne,ne_eq,not_false_eq_true,decide_true,if_true];rw[aLZ ps a q hnd.2 hq]
def aK5{β γ:Type}(f:β->γ):∀(L:List β) (q:Nat),(L.map f).eraseIdx q=(L.eraseIdx q).map f
 | [],_=>rfl
 | _::_,0=>rfl
 | x::xs,q+1=>by simp only[jF,List.eraseIdx_cons_succ,aK5 f xs q]
def aOR{β:Type}:∀(D L:List β),D.Nodup->(∀p∈D,p∈L)->D.length≤L.length
 | [],_,_,_=>mK _
 | p::ps,L,hn,hs=>by
  obtain⟨a,b,rfl⟩:=List.append_of_mem (hs p (by simp));simp only[aGT] at hn;have:=aOR ps (a++b) hn.2 λq hq=>by
   have:=hs q (by simp[hq]);simp only[wQ,jW] at this ⊢;rcases this with h|rfl|h
   ·exact .inl h
   ·exact absurd hq hn.1
   ·exact .inr h
  simp only[jY,kO] at this ⊢;omega
def aRv{a:α}{L:List (α×Value×Nat)}(e2:a∉L.map (·.1)):(L.filter λp=>decide (p.1≠a))=L:=by
 rw[aMh];intro x hx;simp only[decide_eq_true_eq];rintro e;exact e2 (by rw[←e];exact zL3 hx)
def aNd(L:List (α×Value×Nat))(a:α):aNn (L.map λp=>(p.1,p.2.1)) a=(L.filter λp=>decide (p.1≠a)).map λp=>(p.1,p.2.1):=by
 unfold aNn;rw[List.filter_map];rfl
def aWb{r:Nat}{l:List (α×Value)}(K:aLs P kt enc)(hu:P.underlying t=some (.map kt et))(H:qB enc h r l)(a:α){ts:Array TypeId}(hts:ts[0]? =some t){k:dI}
  (hk:∀h',qB enc h' r (aNn l a)->eH [r] h h'->k (.tuple #[]) h'):dT P (Builtin.delete_ ts t' #[.map (some r),enc a]) h k:=by
 obtain⟨es,c,L,h1,h2,rfl,hb1,hb2⟩:=H.here;have hnd:=H.nodup;rw[aCa] at hnd;unfold Builtin.delete_;simp only[hts,List.getElem?_toArray,zLK,zLL];show dT P (underlying t >>= _) h _;rw[tJ hu];dsimp only;refine aEK h1 ?_;dsimp only;refine iY (K.chk h _ a) ?_;rw[h2];refine iY (aKB K a L) ?_;have hnd2:(aC8 (aNn (L.map λp=>(p.1,p.2.1)) a)).Nodup:=by
  rw[aNd,aCa];exact List.Nodup.sublist (List.Sublist.map _ List.filter_sublist) hnd
 have hb3:((L.filter λp=>decide (p.1≠a)).map (·.2.2)).Nodup:=List.Nodup.sublist (List.Sublist.map _ List.filter_sublist) hb1;have hb4:∀p∈L.filter λp=>decide (p.1≠a),p.2.2<c:=λp hp=>hb2 p (zLY.1 hp).1;rcases aMW a L 0 with⟨q,w,e1,e2,e3⟩|⟨e1,e2⟩
 ·rw[e1,kB];show(∃u,h r=some u∧(∀c e f,u≠ .cells c e f))∧_;refine⟨⟨_,h1,by intros;simp⟩,?_⟩;show k (.tuple #[]) _;refine hk _ ⟨hnd2,_,c,L.filter (λp=>decide (p.1≠a)),gB,?_,aNd L a,hb3,hb4⟩ (eH.set (by simp));rw[←aLZ L a q hnd e2];have hq:q<es.size:=by
   rw[←Array.length_toList,h2];have:=(zLA.1 e2).1;simpa[aBr] using this
  rw[Array.eraseIdxIfInBounds,dif_pos hq,Array.toList_eraseIdx,h2];unfold aBr;exact aK5 _ _ _
 ·rw[e1];show(∃u,h r=some u∧(∀c e f,u≠ .cells c e f))∧_;refine⟨⟨_,h1,by intros;simp⟩,?_⟩;show k (.tuple #[]) _;refine hk _ ⟨hnd2,_,c,L,gB,h2,?_,hb1,hb2⟩ (eH.set (by simp));rw[aNd,aRv e2]
structure aDE(enc:α->Value)(h:PH)(r it:Nat)(l D:List (α×Value)):Prop where
 nodup:(aC8 l).Nodup
 here:∃(es:Array MapEntry) (c:Nat) (L DL:List (α×Value×Nat)) (S:Array Nat),h r=some (.map es c)∧es.toList=aBr enc L∧l=L.map (λp=>(p.1,p.2.1))∧(L.map (·.2.2)).Nodup∧(∀p∈L,p.2.2<c)∧
  h it=some (.mapIter (some r) c S c)∧S.toList=DL.map (·.2.2)∧(∀p∈DL,p∈L)∧DL.Nodup∧D=DL.map (λp=>(p.1,p.2.1))
def aDE.upd{h h':PH}{r it:Nat}{l D:List (α×Value)}{G:List Nat}(H:aDE enc h r it l D)(u:eH G h h')(hr:r∉G)(hi:it∉G):aDE enc h' r it l D:=by
 obtain⟨es,c,L,DL,S,h1,h2,h3,h4,h5,h6,h7⟩:=H.here;exact⟨H.nodup,es,c,L,DL,S,u.get h1 hr,h2,h3,h4,h5,u.get h6 hi,h7⟩
def aDE.known{r it:Nat}{l D:List (α×Value)}(H:aDE enc h r it l D):h it≠none:=by
 obtain⟨es,c,L,DL,S,h1,h2,h3,h4,h5,h6,_⟩:=H.here;rw[h6];simp
def aPq(n:Nat)(it:Nat)(h:PH):Nat:=match h it with
 | some (.mapIter _ _ S _)=>n-S.size
 | _=>0
def aDE.left{r it:Nat}{l D:List (α×Value)}(H:aDE enc h r it l D)(n:Nat):aPq n it h=n-D.length:=by
 obtain⟨es,c,L,DL,S,h1,h2,h3,h4,h5,h6,h7,_,_,h8⟩:=H.here;unfold aPq;rw[h6];have:S.size=D.length:=by rw[←Array.length_toList,h7,h8];simp
 simp only[this]
def aDE.le{r it:Nat}{l D:List (α×Value)}(H:aDE enc h r it l D):D.length≤l.length:=by
 obtain⟨es,c,L,DL,S,h1,h2,rfl,h4,h5,h6,h7,h9,h10,rfl⟩:=H.here;rw[jJ,jJ];exact aOR _ _ h10 h9
def aUi{r:Nat}{l:List (α×Value)}(hu:P.underlying t=some (.map kt et))(H:qB enc h r l){k:dI}
  (hk:∀it h',h it=none->aDE enc h' r it l []->eM h h'->k (pT it 0) h'):dT P (Instr.range t (.map (some r))) h k:=by
 obtain⟨es,c,L,h1,h2,rfl,hb1,hb2⟩:=H.here;unfold Instr.range;show dT P (underlying t >>= _) h _;rw[tJ hu];have key:∀(X:Sem Obj) (f:Obj->Sem Value),dT P X h (λo h'=>dT P (f o) h' k)->dT P (X >>= f) h k:=λX f hX=>dT.bind (P:=P) (s:=X) hX;refine key _ _ ?_;refine aEK h1 ?_;intro it hit;exact hk it _ hit ⟨H.nodup,es,c,L,[],#[],aRG hit h1,h2,rfl,hb1,hb2,gB,rfl,by simp,by simp,rfl⟩ (eH.new hit)
def aKq{β γ:Type}(f:β->γ):∀{L:List β},(L.map f).Nodup->L.Nodup
 | [],_=>List.nodup_nil
 | x::xs,hnd=>by
  simp only[jF,aGT] at hnd ⊢;exact⟨λhm=>hnd.1 (zL3 hm),aKq f hnd.2⟩
def aG5{β γ:Type}{f:β->γ}:∀{L:List β},(L.map f).Nodup->∀{p q:β},p∈L->q∈L->f p=f q->p=q
 | [],_,p,q,hp,_,_=>by cases hp
 | x::xs,hnd,p,q,hp,hq,e=>by
  simp only[jF,aGT] at hnd;rcases jW.1 hp with hp|hp
  ·rcases jW.1 hq with hq|hq
   ·rw[hp,hq]
   ·exact absurd (by rw[←hp,e];exact zL3 hq) hnd.1
  ·rcases jW.1 hq with hq|hq
   ·exact absurd (by rw[←hq,←e];exact zL3 hp) hnd.1
   ·exact aG5 hnd.2 hp hq e
def aOz{r:Nat}{o:Obj}{β:Type}{Q:β->PH->Prop}(hr:h r=some o)(hc:∀c e f,o≠ .cells c e f){f:Obj->Sem β}(hq:dT P (f o) h Q):dT P (getObj r >>= f) h Q:=by
 show ∃o,h r=some o∧(∀c e f,o≠ .cells c e f)∧dT P _ h Q;exact⟨o,hr,hc,hq⟩
def aWN{r it:Nat}{l D:List (α×Value)}(H:aDE enc h r it l D){k:dI}
  (hnil:D.Perm l->k (.tuple #[.bool false]) h)
  (hcons:∀a v h',(a,v)∈l->a∉aC8 D->aDE enc h' r it l (D++[(a,v)])->eH [it] h h'->k (.tuple #[.bool true,enc a,v]) h'):dT P (Instr.next (pT it 0) false t) h k:=by
 obtain⟨es,c,L,DL,S,h1,h2,h3,hb1,hb2,hi,hS,hDL,hDn,hD⟩:=H.here;unfold Instr.next;refine aOz hi (by intros;simp) ?_;dsimp only;refine aEK h1 ?_;dsimp only;have hborn:∀e∈es.toList,e.born<c:=λe he=>by
  rw[h2] at he;obtain⟨p,hp,rfl⟩:=rS.1 he;exact hb2 p hp
 have hgo:(!S.isEmpty && !es.isEmpty&&es.all (·.born ≥ c))=false:=by
  by_cases he:es.isEmpty=true
  ·simp[he]
  ·have:es.all (·.born ≥ c)=false:=by
    rw[Bool.eq_false_iff];intro hall;have hne:es.toList≠[]:=by intro e;apply he;simpa using e
    obtain⟨x,xs,hx⟩:=List.exists_cons_of_ne_nil hne;have h1:=hborn x (by rw[hx];simp);have h2:=Array.all_eq_true_iff_forall_mem.1 hall x (by rw[←Array.mem_toList_iff,hx];simp);simp only[ge_iff_le,decide_eq_true_eq] at h2;omega
   simp[this]
 rw[hgo];simp only[zLs,if_false];obtain⟨LL,hLL⟩:∃LL:List (α×Value×Nat),LL=L.filter λp=>decide (p.2.2∉DL.map (·.2.2)):=⟨_,rfl⟩;have hleft:(es.filter λe=>!S.contains e.born).toList=aBr enc LL:=by
  rw[Array.toList_filter,h2,hLL];unfold aBr;rw[List.filter_map];congr 1;apply List.filter_congr;intro p _;simp only[Function.comp];rw[←Array.contains_toList,hS];by_cases hm:p.2.2∈DL.map (·.2.2)
  ·simp[hm]
  ·simp[hm]
 have hmemLL:∀p,p∈LL↔p∈L∧p.2.2∉DL.map (·.2.2):=λp=>by rw[hLL,zLY];simp
 have hold:((es.filter λe=>!S.contains e.born).filter (·.born<c)).toList=aBr enc LL:=by
  rw[Array.toList_filter,hleft,aMh];intro e he;obtain⟨p,hp,rfl⟩:=rS.1 he;simpa using hb2 p ((hmemLL p).1 hp).1
 have hnew:((es.filter λe=>!S.contains e.born).filter (·.born ≥ c))= #[]:=by
  rw[←Array.toList_inj,Array.toList_filter,hleft];show _=[];rw[List.filter_eq_nil_iff];intro e he;obtain⟨p,hp,rfl⟩:=rS.1 he;have:=hb2 p ((hmemLL p).1 hp).1;simp only[ge_iff_le,decide_eq_true_eq];omega
 generalize ho:(es.filter λe=>!S.contains e.born).filter (·.born<c)=old at hold;rw[hnew];simp only[Array.append_empty];by_cases hemp:LL=[]
 ·have hold0:old= #[]:=by rw[←Array.toList_inj,hold,hemp];rfl
  subst hold0;simp only[List.isEmpty_toArray,List.isEmpty_nil,if_true,List.map_toArray,kF,Array.append_empty,List.size_toArray,jY,lU,kB];rw[aBF];intro tt;have:(if Question.forced (.mapNext 1) then 0 else Question.cut (.mapNext 1) tt)=0:=by simp[Question.forced]
  rw[this];show k (.tuple #[.bool false]) h;refine hnil ?_;rw[hD,h3];apply List.Perm.map;refine(List.perm_ext_iff_of_nodup hDn ?_).2 λp=>⟨hDL p,λhp=>?_⟩
  ·exact aKq _ hb1
  ·by_cases hm:p.2.2∈DL.map (·.2.2)
   ·obtain⟨q,hq,e⟩:=rS.1 hm;rw[aG5 (f:=λp:α×Value×Nat=>p.2.2) hb1 hp (hDL q hq) e.symm];exact hq
   ·have:=(hmemLL p).2 ⟨hp,hm⟩;rw[hemp] at this;cases this
 ·have hne:old.isEmpty=false:=by
   rw[Bool.eq_false_iff];intro e;have:old.toList=[]:=by simpa using e
   rw[hold] at this;exact hemp (List.map_eq_nil_iff.1 this)
  rw[hne];simp only[zLs,if_false,Array.empty_append,Array.size_map];have hpos:0<old.size:=by
   rw[←Array.length_toList,hold];unfold aBr;rw[jJ];exact aKL.2 hemp
  rw[aBF];intro tt;obtain⟨j,hj,hjlt⟩:∃j,(if Question.forced (.mapNext old.size) then 0 else Question.cut (.mapNext old.size) tt)=j∧j<old.size:=by
   refine⟨_,rfl,?_⟩;split
   ·exact hpos
   ·exact zLB _ hpos
  rw[hj];have hjl:j<LL.length:=by
   have:old.size=LL.length:=by rw[←Array.length_toList,hold];simp[aBr]
   omega
  have hget:(old.map some)[j]? =some (some ⟨enc LL[j].1,LL[j].2.1,LL[j].2.2⟩):=by
   rw[Array.getElem?_map,←aKx,hold];simp[aBr,hjl]
  rw[hget];dsimp only;have hp:=(hmemLL LL[j]).1 (aIQ hjl);generalize LL[j]=p at hp;obtain⟨hpL,hpD⟩:=hp;show(∃u,h it=some u∧(∀c e f,u≠ .cells c e f))∧_;refine⟨⟨_,hi,by intros;simp⟩,?_⟩;have hri:r≠it:=λe=>by rw[e,hi] at h1;cases h1
  refine hcons p.1 p.2.1 _ ?_ ?_ ⟨H.nodup,es,c,L,DL++[p],S.push p.2.2,(by rw[aAr hri];exact h1),h2,h3,hb1,hb2,gB,?_,?_,?_,?_⟩ (eH.set (by simp))
  ·rw[h3];exact zL3 hpL
  ·intro hm;rw[hD,aCa] at hm;obtain⟨q,hq,e⟩:=rS.1 hm;have hnd:=H.nodup;rw[h3,aCa] at hnd;have hqL:=hDL q hq;have:q=p:=aG5 (f:=λp:α×Value×Nat=>p.1) hnd hqL hpL e;exact hpD (by rw[←this];exact zL3 hq)
  ·rw[Array.toList_push,hS];simp
  ·intro q hq;rcases wQ.1 hq with hq|hq
   ·exact hDL q hq
   ·simp only[jI] at hq;subst hq;exact hpL
  ·rw[List.nodup_append];refine⟨hDn,by simp,?_⟩;intro x hx y hy;simp only[jI] at hy;subst hy;rintro rfl;exact hpD (zL3 hx)
  ·rw[hD];simp
def aVk{r it:Nat}{l D:List (α×Value)}{a:α}{v:Value}(H:aDE enc h r it l (D++[(a,v)])){k:dI}(hk:k (.tuple #[enc a,v]) h):dT P (Instr.entry (pT it 0)) h k:=by
 obtain⟨es,c,L,DL,S,h1,h2,h3,hb1,hb2,hi,hS,hDL,hDn,hD⟩:=H.here;obtain⟨DL',p,rfl,hp1⟩:∃DL' p,DL=DL'++[p]∧(a,v)=(p.1,p.2.1):=by
  rcases List.eq_nil_or_concat DL with rfl|⟨DL',p,rfl⟩
  ·simp at hD
  ·refine⟨DL',p,by simp,?_⟩;simp only[List.concat_eq_append,xX,jF,kF] at hD;have:=List.append_inj_right' hD rfl;simpa using this
 simp only[Prod.mk.injEq] at hp1;obtain⟨rfl,rfl⟩:=hp1;have hpL:=hDL p (by simp);unfold Instr.entry;refine aOz hi (by intros;simp) ?_;dsimp only;have hback:S.back? =some p.2.2:=by
  rw[←Array.getLast?_toList,hS];simp
 rw[hback];dsimp only;refine aEK h1 ?_;dsimp only;simp only[bne_self_eq_false,zLs,if_false];have hfind:es.find? (·.born==p.2.2)=some ⟨enc p.1,p.2.1,p.2.2⟩:=by
  rw[←Array.find?_toList,h2];unfold aBr;rw[List.find?_map];have:L.find? ((λe:MapEntry=>e.born==p.2.2) ∘ λp=>⟨enc p.1,p.2.1,p.2.2⟩)=some p:=by
   cases hf:L.find? ((λe:MapEntry=>e.born==p.2.2) ∘ λp=>⟨enc p.1,p.2.1,p.2.2⟩) with
   | none=>
    rw[List.find?_eq_none] at hf;have:=hf p hpL;simp at this
   | some q=>
    have hq:=List.mem_of_find?_eq_some hf;have he:=List.find?_some hf;simp only[Function.comp,beq_iff_eq] at he;rw[aG5 (f:=λp:α×Value×Nat=>p.2.2) hb1 hq hpL he]
  rw[this];rfl
 rw[hfind];exact hk
end
structure Pk where
 f:Int
 s:Int
 t:Int
 d:ByteArray
 deriving DecidableEq
instance:Inhabited Pk:=⟨⟨0,0,0,⟨#[]⟩⟩⟩
def Pk.cells(p:Pk):List Value:=[.int .i64 p.f,.int .u64 p.s,.int .u64 p.t,.string p.d]
def Pk.allCell(p:Pk):∀v∈p.cells.toArray.toList,gN v=true:=by simp[Pk.cells,gN]
def Bx.pk{h:PH}{r:Nat}{cs:List Value}(H:Bx h r cs){o:Nat}{p:Pk}(ho:(cs.drop o).take 4=p.cells):dH PG h (loadAt cT (pT r o))=some (.agg p.cells.toArray):=by
 obtain⟨e,h1⟩:=H;have hl:o+4≤cs.length:=by
  have:((cs.drop o).take 4).length=4:=by rw[ho];rfl
  rw[mT,kD] at this;omega
 rw[cT.loadAgg h1 (by simpa using hl)];congr 2;rw[←ho];simp[zLy]
def Pk.right(p:Pk):Bool:=decide (0≤p.f)&&decide (p.f≤1)&&decide (p.s≠0)&&decide (p.t≠0)&&decide (p.d.size≤64)
def aJ5{h:PH}(p:Pk){k:dI}(hk:∀h',eM h h'->k (.int .i64 (if p.right then 0 else 1)) h'):bR PG wS #[.agg p.cells.toArray] h k:=by
 apply aFt.call;unfold aFt;intro r hr;rw[dY];have u:eM h (h.set r (.cells (Value.cells (.agg p.cells.toArray)) cT)):=eH.new hr;have b:Bx (h.set r (.cells (Value.cells (.agg p.cells.toArray)) cT)) r p.cells:=Bx.new;generalize h.set r (.cells (Value.cells (.agg p.cells.toArray)) cT)=h1 at *;have c0:eA h1 ⟨r,0,none⟩=some (.int .i64 p.f):=b.cell 0;have c1:eA h1 ⟨r,0+1,none⟩=some (.int .u64 p.s):=b.cell 1;have c2:eA h1 ⟨r,0+2,none⟩=some (.int .u64 p.t):=b.cell 2;have c3:eA h1 ⟨r,0+3,none⟩=some (.string p.d):=b.cell 3;have hk:=hk h1 u;unfold Pk.right at hk;simp only[cT.f0,cT.f1,cT.f2,cT.f3,aR.load,dN.load,aT.load,c0,dF,reduceIte];by_cases d1:p.f<0
 ·have e1:(0≤p.f)=False:=by apply eq_false;omega
  simp only[cT.f0,cT.f1,cT.f2,cT.f3,aR.load,dN.load,aT.load,c0,d1,e1,zLn,decide_false,dF,reduceIte] at hk ⊢;exact hk
 ·have e1:(0≤p.f)=True:=by apply eq_true;omega
  by_cases d2:1<p.f
  ·have e2:(p.f≤1)=False:=by apply eq_false;omega
   simp only[cT.f0,cT.f1,cT.f2,cT.f3,aR.load,dN.load,aT.load,c0,d1,e1,d2,e2,zLn,aJY,decide_false,dF,reduceIte] at hk ⊢;exact hk
  ·have e2:(p.f≤1)=True:=by apply eq_true;omega
   by_cases d3:p.s=0
   ·have e3:(p.s==0)=true:=by simp[d3]
    have e3':(p.s≠0)=False:=by simp[d3]
    simp only[cT.f0,cT.f1,cT.f2,cT.f3,aR.load,dN.load,aT.load,c0,d1,e1,d2,e2,c1,e3,e3',zLn,aJY,decide_false,dF,reduceIte] at hk ⊢;exact hk
   ·have e3:(p.s==0)=false:=by simp[d3]
    have e3':(p.s≠0)=True:=by simp[d3]
    by_cases d4:p.t=0
    ·have e4:(p.t==0)=true:=by simp[d4]
     have e4':(p.t≠0)=False:=by simp[d4]
     simp only[cT.f0,cT.f1,cT.f2,cT.f3,aR.load,dN.load,aT.load,c0,d1,e1,d2,e2,c1,e3,e3',c2,e4,e4',zLn,aJY,decide_false,dF,reduceIte] at hk ⊢;exact hk
    ·have e4:(p.t==0)=false:=by simp[d4]
     have e4':(p.t≠0)=True:=by simp[d4]
     by_cases d5:p.d.size≤64
     ·have e5:((64:Int)<(p.d.size:Int))=False:=by apply eq_false;omega
      simp only[cT.f0,cT.f1,cT.f2,cT.f3,aR.load,dN.load,aT.load,c0,d1,e1,d2,e2,c1,e3,e3',c2,e4,e4',c3,vP aT.und,e5,d5,Bool.and_self,zLo,dF,reduceIte] at hk ⊢;exact hk
     ·have e5:((64:Int)<(p.d.size:Int))=True:=by apply eq_true;omega
      simp only[cT.f0,cT.f1,cT.f2,cT.f3,aR.load,dN.load,aT.load,c0,d1,e1,d2,e2,c1,e3,e3',c2,e4,e4',c3,vP aT.und,e5,d5,aJY,decide_false,dF,reduceIte] at hk ⊢;exact hk
structure Nt where
 k:Int
 p:Pk
 deriving DecidableEq
def Nt.cells(n:Nt):List Value:=[.int .i64 n.k,.int .i64 n.p.f,.int .u64 n.p.s,.int .u64 n.p.t,.string n.p.d]
def Nt.rows(l:List Nt):Rows 5 (l.map Nt.cells):=λr hr=>by obtain⟨m,_,rfl⟩:=rS.1 hr;rfl
def Bx.nt{h:PH}{r:Nat}{n:Nt}(H:Bx h r n.cells):dH PG h (loadAt dP (pT r 0))=some (.agg n.cells.toArray):=by
 obtain⟨e,h1⟩:=H;rw[dP.loadAgg h1 (by show 0+5≤5;decide)];rfl
def Nt.right(n:Nt):Bool:=decide (1≤n.k)&&decide (n.k≤4)&&n.p.right
def aTe{h:PH}(n:Nt){k:dI}(hk:∀h',eM h h'->k (.int .i64 (if n.right then 0 else 1)) h'):bR PG aHa #[.agg n.cells.toArray] h k:=by
 apply aHx.call;unfold aHx;intro r hr;rw[dY];have u:eM h (h.set r (.cells (Value.cells (.agg n.cells.toArray)) dP)):=eH.new hr;have b:Bx (h.set r (.cells (Value.cells (.agg n.cells.toArray)) dP)) r n.cells:=Bx.new;generalize h.set r (.cells (Value.cells (.agg n.cells.toArray)) dP)=h1 at *;have c0:eA h1 ⟨r,0,none⟩=some (.int .i64 n.k):=b.cell 0;have p1:=b.pk (o:=0+1) (p:=n.p) rfl;unfold Nt.right at hk;simp only[dP.f0,dP.f1,aR.load,c0,dF,reduceIte];by_cases d1:n.k<1
 ·have e1:(1≤n.k)=False:=by apply eq_false;omega
  simp only[dP.f0,dP.f1,aR.load,c0,d1,e1,zLn,decide_false,dF,reduceIte] at hk ⊢;exact hk _ u
 ·have e1:(1≤n.k)=True:=by apply eq_true;omega
  by_cases d2:4<n.k
  ·have e2:(n.k≤4)=False:=by apply eq_false;omega
   simp only[dP.f0,dP.f1,aR.load,c0,d1,e1,d2,e2,zLn,aJY,decide_false,dF,reduceIte] at hk ⊢;exact hk _ u
  ·have e2:(n.k≤4)=True:=by apply eq_true;omega
   simp only[dP.f0,dP.f1,aR.load,c0,d1,e1,d2,e2,p1,zLo,dF,reduceIte] at hk ⊢;refine aJ5 n.p λh2 u2=>hk _ (u.trans u2)
structure It where
 p:Pk
 g:Int
 deriving DecidableEq
instance:Inhabited It:=⟨⟨default,0⟩⟩
def It.cells(i:It):List Value:=[.int .i64 i.p.f,.int .u64 i.p.s,.int .u64 i.p.t,.string i.p.d,.int .i64 i.g]
abbrev Ky:=Int×Int
def Pk.key(p:Pk):Ky:=(p.f,p.s)
def It.key(i:It):Ky:=i.p.key
def tO(k:Ky):Value:=.agg #[.int .i64 k.1,.int .u64 k.2]
def It.val(i:It):Value:=.agg i.cells.toArray
def It.allCell(p:It):∀v∈p.cells.toArray.toList,gN v=true:=by simp[It.cells,gN]
def It.rows(l:List It):Rows 5 (l.map It.cells):=λr hr=>by obtain⟨m,_,rfl⟩:=rS.1 hr;rfl
def Bx.it{h:PH}{r:Nat}{n:It}(H:Bx h r n.cells):dH PG h (loadAt dJ (pT r 0))=some n.val:=by
 obtain⟨e,h1⟩:=H;rw[dJ.loadAgg h1 (by show 0+5≤5;decide)];rfl
def Bx.id{h:PH}{r:Nat}{k:Ky}(H:Bx h r [.int .i64 k.1,.int .u64 k.2]):dH PG h (loadAt gR (pT r 0))=some (tO k):=by
 obtain⟨e,h1⟩:=H;rw[gR.loadAgg h1 (by show 0+2≤2;decide)];rfl
def aEG(a b:Int):Int:=if a<b then -1 else if b<a then 1 else 0
def aNt{h:PH}(a b:Int){k:dI}(hk:k (.int .i64 (aEG a b)) h):bR PG aDT #[.int .i64 a,.int .i64 b] h k:=by
 have hn:∀(x:Int) {k':dI},k' (.bool false) h->bR PG aCR #[.int .i64 x] h k':=λx k' hk'=>by
  apply aEX.call;unfold aEX;have e:(x !=x)=false:=by simp
  simp only[e,dF,reduceIte];exact hk'
 apply aC6.call;unfold aC6;refine hn a (hn b ?_);unfold aEG at hk;by_cases h1:a<b
 ·simp only[h1,dF,reduceIte] at hk ⊢;exact hk
 ·by_cases h2:b<a
  ·simp only[h1,h2,dF,reduceIte] at hk ⊢;exact hk
  ·simp only[h1,h2,dF,reduceIte] at hk ⊢;exact hk
def aLw{h:PH}(a b:Int){k:dI}(hk:k (.int .i64 (aEG a b)) h):bR PG aBo #[.int .u64 a,.int .u64 b] h k:=by
 have hn:∀(x:Int) {k':dI},k' (.bool false) h->bR PG zY #[.int .u64 x] h k':=λx k' hk'=>by
  apply aCe.call;unfold aCe;have e:(x !=x)=false:=by simp
  simp only[e,dF,reduceIte];exact hk'
 apply aAo.call;unfold aAo;refine hn a (hn b ?_);unfold aEG at hk;by_cases h1:a<b
 ·simp only[h1,dF,reduceIte] at hk ⊢;exact hk
 ·by_cases h2:b<a
  ·simp only[h1,h2,dF,reduceIte] at hk ⊢;exact hk
  ·simp only[h1,h2,dF,reduceIte] at hk ⊢;exact hk
def aLm(x:Int):List Value:=[.int .i64 x]
def aLm.rows(l:List Int):Rows 1 (l.map aLm):=λr hr=>by obtain⟨m,_,rfl⟩:=rS.1 hr;rfl
def aYc{h:PH}{v:Value}{a b:Int}(H:jE h 1 v ([a,b].map aLm)){k:dI}(hk:k (.int .i64 (if a≠0 then a else b)) h):bR PG aHf #[v] h k:=by
 have lv:=H.len (t':=aR) nA.und;obtain⟨x,x1,x2⟩:=H.loadCell (k:=.i64) (j:=0) (x:=.int .i64 a) nA.und aR.info aR.size aR.und rfl (by decide) rfl;obtain⟨y,y1,y2⟩:=H.loadCell (k:=.i64) (j:=1) (x:=.int .i64 b) nA.und aR.info aR.size aR.und rfl (by decide) rfl;apply aIF.call;unfold aIF;have e0:(([a,b].map aLm).length:Int)=2:=rfl;rw[e0] at lv;simp only[lv,dF,reduceIte];refine⟨λvs h'=>∃i:Nat,i≤2∧vs=[.int .i64 0,v,.int .i64 2,.int .i64 i]∧h'=h∧(1≤i->a=0)∧(2≤i->b=0),gT 2 3,⟨0,by omega,rfl,rfl,by omega,by omega⟩,?_⟩;rintro ρ h' ⟨i,hi,hvs,rfl,ha,hb⟩;simp only[jF,kF,lT,and_true] at hvs;obtain⟨e0,e1,e2,e3⟩:=hvs;rw[e0,e1,e2,e3];unfold aKa;have hc:i=0∨i=1∨i=2:=by omega
 rcases hc with rfl|rfl|rfl
 ·have d0:(((0:Nat):Int)<2)=True:=by simp
  have w0:IntKind.i64.wrap (((0:Nat):Int)+1)=((1:Nat):Int):=by rw[fW (by omega) (by omega)];rfl
  simp only[d0,Int.natCast_zero,x1,x2,dF,reduceIte];by_cases hz:a=0
  ·have e:(a !=0)=false:=by simp[hz]
   have w0':IntKind.i64.wrap ((0:Int)+1)=((1:Nat):Int):=w0;simp only[e,w0',dF,reduceIte];exact⟨⟨1,by omega,rfl,by trivial,λ_=>hz,by omega⟩,by simp[gT,e3]⟩
  ·have e:(a !=0)=true:=by simp[hz]
   simp only[e,dF,reduceIte];rw[if_pos hz] at hk;exact hk
 ·have d0:(((1:Nat):Int)<2)=True:=by simp
  have w0:IntKind.i64.wrap ((1:Int)+1)=((2:Nat):Int):=by rw[fW (by omega) (by omega)];rfl
  have c1:((1:Nat):Int)=1:=rfl;have hz:=ha (by omega);simp only[d0,c1,y1,y2,dF,reduceIte];by_cases hy:b=0
  ·have e:(b !=0)=false:=by simp[hy]
   simp only[e,w0,dF,reduceIte];exact⟨⟨2,by omega,rfl,by trivial,λ_=>hz,λ_=>hy⟩,by simp[gT,e3]⟩
  ·have e:(b !=0)=true:=by simp[hy]
   simp only[e,dF,reduceIte];rw[if_neg (by simp[hz])] at hk;exact hk
 ·have d0:(((2:Nat):Int)<2)=False:=by simp
  simp only[d0,dF,reduceIte];rw[if_neg (by simp[ha (by omega)]),hb (by omega)] at hk;exact hk
def cfI(a b:It):Int:=if aEG a.p.f b.p.f≠0 then aEG a.p.f b.p.f else aEG a.p.s b.p.s
def aWK{h:PH}(a b:It){k:dI}(hk:∀h',eM h h'->k (.int .i64 (cfI a b)) h'):bR PG sC #[.agg a.cells.toArray,.agg b.cells.toArray] h k:=by
 apply rV.call;unfold rV;intro r1 hr1;rw[dY];intro r3 hr3;rw[dY];have u1:eM h (h.set r1 (.cells a.cells.toArray dJ)):=eH.new hr1;have b1:Bx (h.set r1 (.cells a.cells.toArray dJ)) r1 a.cells:=Bx.new;show dA _ _;have u3:eM (h.set r1 (.cells a.cells.toArray dJ)) ((h.set r1 (.cells a.cells.toArray dJ)).set r3 (.cells b.cells.toArray dJ)):=eH.new hr3;have b3:Bx ((h.set r1 (.cells a.cells.toArray dJ)).set r3 (.cells b.cells.toArray dJ)) r3 b.cells:=Bx.new;have b1':=b1.ext u3;have u:=u1.trans u3;change eM h ((h.set r1 (.cells (Value.cells (.agg a.cells.toArray)) dJ)).set r3 (.cells (Value.cells (.agg b.cells.toArray)) dJ)) at u;change Bx ((h.set r1 (.cells (Value.cells (.agg a.cells.toArray)) dJ)).set r3 (.cells (Value.cells (.agg b.cells.toArray)) dJ)) r3 _ at b3;change Bx ((h.set r1 (.cells (Value.cells (.agg a.cells.toArray)) dJ)).set r3 (.cells (Value.cells (.agg b.cells.toArray)) dJ)) r1 _ at b1';generalize (h.set r1 (.cells (Value.cells (.agg a.cells.toArray)) dJ)).set r3 (.cells (Value.cells (.agg b.cells.toArray)) dJ)=h4 at *;have c1:eA h4 ⟨r1,0,none⟩=some (.int .i64 a.p.f):=b1'.cell 0;have c2:eA h4 ⟨r1,1,none⟩=some (.int .u64 a.p.s):=b1'.cell 1;have c3:eA h4 ⟨r3,0,none⟩=some (.int .i64 b.p.f):=b3.cell 0;have c4:eA h4 ⟨r3,1,none⟩=some (.int .u64 b.p.s):=b3.cell 1;simp only[dJ.f0,cT.f0,cT.f1,kB,aR.load,dN.load,c1,c2,c3,c4,dF,reduceIte];refine aNt _ _ ⟨c4,c2,?_⟩;refine aLw _ _ ?_;have hb:lH PG (buildSlice nA 2 #[(0,.int .i64 (aEG a.p.f b.p.f)),(1,.int .i64 (aEG a.p.s b.p.s))])=some (.cells #[.int .i64 (aEG a.p.f b.p.f),.int .i64 (aEG a.p.s b.p.s)] aR (0,0),λr=>pure (.slice (some ⟨r,0,none⟩) 2 2)):=by kernel_rfl
 rw[hb,jQ];intro r hr;refine jC ?_
 try rw[dY]
 have hO:fY (h4.set r (.cells #[.int .i64 (aEG a.p.f b.p.f),.int .i64 (aEG a.p.s b.p.s)] aR (0,0))) aR 1 (.slice (some ⟨r,0,none⟩) 2 2) ([aEG a.p.f b.p.f,aEG a.p.s b.p.s].map aLm) [r]:=
  fY.lit (aLm.rows _) gB rfl (by decide) rfl
 refine aYc hO.slR (hk _ ?_);exact u.trans (eH.new hr)
section
variable{P:Program}{t e:TypeId}
def aKs{α:Type}{d:TypeInfo}(hi:P.info? t=some d)(f:TypeInfo->Sem α):lH P (typeInfo t >>= f)=lH P (f d):=by
 show lH P ((match P.info? t with|some d=>pure d|none=>stuck _:Sem TypeInfo).bind f)=_;rw[hi];rfl
def aP9{α:Type}{n:Nat}(f:Unit->Sem α):lH P (askRoom n >>= f)=lH P (f ()):=by
 unfold askRoom;split<;>rfl
def aRg(z:Array Value)(hz:0<z.size):∀n:Nat,((Array.range (n*z.size)).map (z[· % z.size]!)).toList=(List.replicate n z.toList).flatten:=by
 intro n;have hr:Rows z.size (List.replicate n z.toList):=λr hr=>by rw[List.eq_of_mem_replicate hr];simp
 apply aMR;intro j;have hfl:(List.replicate n z.toList).flatten.length=n*z.size:=by rw[hr.flat,aHT]
 by_cases hj:j<n*z.size
 ·have hi:j/z.size<n:=(Nat.div_lt_iff_lt_mul hz).2 hj;have hat:=hr.at (i:=j/z.size) (r:=z.toList) (by rw[List.getElem?_replicate,if_pos hi]);have hc:j%z.size<z.size:=zLB _ hz;have e1:(List.replicate n z.toList).flatten[j]? =z.toList[j%z.size]?:=by
   conv=>rhs;rw[←hat]
   rw[aEv,if_pos hc,aJ4];congr 1;rw[Nat.mul_comm];exact(Nat.div_add_mod j z.size).symm
  rw[e1];simp[hj,hc]
 ·rw[List.getElem?_eq_none (by simp;omega),List.getElem?_eq_none (by omega)]
def aFf{i:TypeInfo}{z:Value}{size bytes n:Nat}(hu:P.underlying t=some (.slice e))(hi:P.info? e=some i)(hn:i.size=size)(hb:i.bytes=bytes)(hz:i.zero=some z)(hzs:z.cells.size=size)(h0:0<size)
  (hle:bytes*n≤281474976710656) (hnn:n≤1000000000):
  ∃zs,lH P (Instr.makeSlice t (.int .i64 n) (.int .i64 n))=some (.cells zs e (0,0),λr=>pure (.slice (some ⟨r,0,none⟩) n n))∧zs.toList=(List.replicate n z.cells.toList).flatten:=by
 refine⟨(Array.range (n*z.cells.size)).map (z.cells[· % z.cells.size]!),?_,aRg _ (by omega) n⟩;have hw:IntKind.i64.wrap (n:Int)=n:=IntWalk.i64_in _ ⟨by omega,by omega⟩;unfold Instr.makeSlice;rw[aUN hu];dsimp only;show lH P (typeInfo e >>= _)=_;rw[aKs hi,hb];have hc1:((bytes:Int)*(n:Int)>2^48)=False:=by
  apply eq_false;have:((bytes*n:Nat):Int)≤((281474976710656:Nat):Int):=Int.ofNat_le.2 hle;rw[Int.natCast_mul] at this;have h2:(2:Int)^48=((281474976710656:Nat):Int):=by rfl
  omega
 have hc2:((n:Int)<0)=False:=by apply eq_false;omega
 have hc3:((n:Int)>(n:Int))=False:=by apply eq_false;omega
 simp only[hw,hc1,hc2,hc3,decide_false,Bool.or_self,zLs,if_false,or_self];rw[aP9,lY,aKs hi,hn];simp only[xZ];by_cases hn0:n=0
 ·subst hn0;have hr:∀f:Nat->Value,(Array.range 0).map f= #[]:=λf=>by simp
  simp only[Nat.zero_mul,if_true,hr];rfl
 ·have hne:(n*size=0)=False:=by apply eq_false;intro h;rcases Nat.mul_eq_zero.1 h with h|h<;>omega
  simp only[hne,if_false];have hzv:∀(f:Value->Sem Value),lH P (zeroValue e >>= f)=lH P (f z):=λf=>by
   unfold zeroValue;show lH P ((typeInfo e >>= _) >>= f)=_;simp only[bind_assoc];rw[aKs hi,hz];rfl
  rw[hzv,←hzs];rfl
end
end
section
open Go Go.RowKit Go.ChangeShapes
def cT.cells:PG.cellsOf cT=4:=by kernel_rfl
def dP.cells:PG.cellsOf dP=5:=by kernel_rfl
def aR.cells:PG.cellsOf aR=1:=by kernel_rfl
def iI.cells:PG.cellsOf iI=1:=by kernel_rfl
def dN.cells:PG.cellsOf dN=1:=by kernel_rfl
def aT.cells:PG.cellsOf aT=1:=by kernel_rfl
section
variable{H:Type}{enc:TypeId×Value->H}{w:World}{spare:Nat->Bool}{held:Bool}
def Pk.ok(p:Pk):Prop:=0≤p.s∧0≤p.t
end
end
section
open Go
def aQp(x:Int):dE PG (convert aR aDR (.int .i64 x))=some (.int .u64 (IntKind.u64.wrap x)):=by kernel_rfl
def zs(n:Nat):List Value:=List.replicate n (wv 0)
def aS9(s:S8)(x y:Value):Array Value:=#[wv s.a,wv s.b,wv s.c,wv s.d,wv s.e,wv s.f,wv s.g,wv s.h,x,y]
end
section
open Go
namespace Bld
def neqPtrSelf{h:PH}{x y:Operand}(a:Addr):dH PG h (gV .neq fC x y (.pointer (some a)) (.pointer (some a)))=some (.bool false):=by
 show dH PG h (Op.equalIn (9999+1) fC (.pointer (some a)) (.pointer (some a)) >>= λb=>(pure (Value.bool (!b)):Sem Value))=_;rw[jG];have:dH PG h (Op.equalIn (9999+1) fC (.pointer (some a)) (.pointer (some a)))=some true:=by
  rw[Op.equalIn,kN fC.und];simp only[lY];rw[yU eI.info];simp[eI.size,sameAddr,dH,pure]
 rw[this];rfl
def semE_viewAt{h:PH}{r:Nat}{x:TypeId×Nat}{α:Type}(hs:kE h r=some (some x))(f:Option (Addr×TypeId)->Sem α):dH PG h (viewAt r >>= f)=dH PG h (f none):=by
 rw[jG];have:dH PG h (viewAt r)=some none:=by
  show(kE h r).bind _=_;rw[hs];rfl
 rw[this];rfl
def semE_seenAt{h:PH}{a:Addr}{x:TypeId×Nat}{α:Type}(hs:kE h a.block=some (some x))(f:Addr->Sem α):dH PG h (Conv.seenAt a >>= f)=dH PG h (f a):=by
 rw[jG];have:dH PG h (Conv.seenAt a)=some a:=by
  unfold Conv.seenAt;rw[semE_viewAt hs];rfl
 rw[this];rfl
def semE_cellsIn{h:PH}{r:Nat}{x:TypeId×Nat}{α:Type}(hs:kE h r=some (some x))(f:Option Nat->Sem α):dH PG h (cellsIn r >>= f)=dH PG h (f (some x.2)):=by
 rw[jG];have:dH PG h (cellsIn r)=some (some x.2):=by
  show(kE h r).bind _=_;rw[hs];rfl
 rw[this];rfl
def to_unsafe{h:PH}{a:Nat}{c:Array Value}(ha:h a=some (.cells c eI (0,0)))(hc:0<c.size):dH PG h (convert fC iM (pT a 0))=some (pT a 0):=by
 have hs:kE h a=some (some (eI,c.size)):=by unfold kE;rw[ha]
 show dH PG h (underlying fC >>= _)=_;rw[kN fC.und];show dH PG h (underlying iM >>= _)=_;rw[kN iM.und];show dH PG h (underlying fC >>= _)=_;rw[kN fC.und];show dH PG h (underlying iM >>= _)=_;rw[kN iM.und];show dH PG h (Conv.seenAt ⟨a,0,none⟩ >>= _)=_;rw[semE_seenAt (a:=⟨a,0,none⟩) hs];show dH PG h (cellsIn a >>= _)=_;rw[semE_cellsIn hs];have h1:¬(0 ≥ c.size):=by omega
 simp only[lY];rw[yU eI.info];simp[eI.size,h1,dH,pure]
def from_unsafe{h:PH}{a:Nat}{c:Array Value}(ha:h a=some (.cells c eI (0,0)))(hc:c.size=2):dH PG h (convert iM fC (pT a 0))=some (pT a 0):=by
 have hs:kE h a=some (some (eI,c.size)):=by unfold kE;rw[ha]
 rw[hc] at hs;show dH PG h (underlying iM >>= _)=_;rw[kN iM.und];show dH PG h (underlying fC >>= _)=_;rw[kN fC.und];show dH PG h (underlying iM >>= _)=_;rw[kN iM.und];show dH PG h (underlying fC >>= _)=_;rw[kN fC.und];show dH PG h (Conv.seenAt ⟨a,0,none⟩ >>= _)=_;rw[semE_seenAt (a:=⟨a,0,none⟩) hs];have hv:dH PG h (variablesAt ⟨a,0,none⟩ eI 1)=some true:=by
  show(kE h a).bind _=_;rw[hs]
  kernel_rfl
 simp only[lY];rw[yU eI.info];simp only[eI.size];rw[jG,hv];simp[dH,pure]
def NoEscape_ok{h:PH}{v:Value}{k:dI}(hk:k v h):bR PG zN #[v] h k:=
 bR.entry (v:=v) (by kernel_rfl) hk
structure BAt(h:PH)(a:Nat)(bs:List UInt8)(F:List Nat):Prop where
 here:∃p v G,h a=some (.cells #[p,v] eI (0,0))∧(p= .pointer none∨p=pT a 0)∧fY h eZ 1 v (bs.map lA) G∧F=a::G∧a∉G
def BAt.upd{h h':PH}{a:Nat}{bs:List UInt8}{F G:List Nat}(H:BAt h a bs F)(u:eH G h h')(hd:∀b∈F,b∉G):BAt h' a bs F:=by
 obtain⟨p,v,G',ha,hp,hO,rfl,hn⟩:=H;exact⟨p,v,G',u.get ha (hd a (by simp)),hp,hO.upd u (λb hb=>hd b (by simp[hb])),rfl,hn⟩
def BAt.ext{h h':PH}{a:Nat}{bs:List UInt8}{F:List Nat}(H:BAt h a bs F)(u:eM h h'):BAt h' a bs F:=H.upd u (by simp)
def BNext(h:PH)(a:Nat)(F:List Nat)(bs:List UInt8)(k:PH->Prop):Prop:=∀h' F',BAt h' a bs F'->eH F h h'->(∀b∈F',b∈F∨h b=none)->k h'
def copyCheck_ok{h:PH}{a:Nat}{p v:Value}(ha:h a=some (.cells #[p,v] eI (0,0)))(hp:p= .pointer none∨p=pT a 0){k:dI}
  (hk:∀h',h' a=some (.cells #[pT a 0,v] eI (0,0))->eH [a] h h'->(∀b,b≠a->h' b=h b)->k (.tuple #[]) h'):bR PG mM #[pT a 0] h k:=by
 apply nW.call;unfold nW;have hc:eA h ⟨a,0,none⟩=some p:=by simp[eA,ha]
 simp only[eI.f0,fC.load,hc,dF,reduceIte];rcases hp with rfl|rfl
 ·simp only[zC fC.und,Option.isNone_none,dF,reduceIte];refine dH.semH (to_unsafe ha (by simp)) ?_;refine NoEscape_ok ?_;refine dH.semH (from_unsafe ha (by simp)) ?_;refine lX fC.und rfl ha (by simp) rfl fC.info fC.size ?_;exact hk _ gB (eH.set (by simp)) (λb hb=>aAr hb)
 ·simp only[zC fC.und,aMf,neqPtrSelf,eI.f0,fC.load,hc,dF,reduceIte];exact hk _ ha eH.refl (λ_ _=>rfl)
def byte_lit(x:Int):lH PG (buildSlice eJ 1 #[(0,.int .u8 x)])=some (.cells #[.int .u8 x] eZ,λr=>pure (.slice (some ⟨r,0,none⟩) 1 1)):=by kernel_rfl
def buf_app{h:PH}{a:Nat}{p v x:Value}{bs ys:List UInt8}{G:List Nat}{t2 e2:TypeId}(hu2:PG.underlying t2=some (.slice e2))(ha:h a=some (.cells #[p,v] eI (0,0)))(hp:p= .pointer none∨p=pT a 0)(hO:fY h eZ 1 v (bs.map lA) G)(hn:a∉G)
  (hx:jE h 1 x (ys.map lA)) (hl:bs.length+ys.length≤140737488355328) {k:PH->Prop} (hk:BNext h a (a::G) (bs++ys) k):
  dT PG (Builtin.append_ #[eJ,t2] eJ #[v,x]) h λv' h'=>dT PG (dX eJ (pT a 1) v') h' λ_ h''=>k h'':=by
 refine mQ eJ.und hu2 eZ.info eZ.size eZ.bytes eZ.zero rfl (by decide) hO hx (lA.isCell _) (by simp;omega) ?_;intro v2 h2 F2 hO2 u2 k2 _;rw[←xX] at hO2;have ha2:=u2.get ha hn;have hn2:a∉F2:=λhm=>by
  rcases k2 a hm with h1|h1
  ·exact hn h1
  ·rw[ha] at h1;cases h1
 refine lX eJ.und rfl ha2 (by simp) ?_ eJ.info eJ.size ?_
 ·obtain⟨_,_,rfl,-⟩:=hO2.slR.here;rfl
 ·refine hk _ (a::F2) ⟨p,v2,F2,gB,hp,hO2.upd (eH.set (F:=[a]) (by simp)) (λb hb=>by simp;rintro rfl;exact hn2 hb),rfl,hn2⟩ ((u2.mono λb hb=>.inl (by simp[hb])).trans (eH.set (by simp))) (λb hb=>?_);rcases jW.1 hb with rfl|hb
  ·exact .inl (by simp)
  ·rcases k2 b hb with h1|h1
   ·exact .inl (by simp[h1])
   ·exact .inr h1
def WriteByte_ok{h:PH}{a:Nat}{bs:List UInt8}{F:List Nat}(hW:BAt h a bs F)(hl:bs.length+1≤140737488355328)(x:UInt8){k:dI}(hk:BNext h a F (bs++[x]) (k .nilIface)):
  bR PG qW #[pT a 0,.int .u8 x.toNat] h k:=by
 obtain⟨p,v,G,ha,hp,hO,rfl,hn⟩:=hW;apply nV.call;unfold nV;refine copyCheck_ok ha hp λh1 ha1 u1 o1=>?_;have hc:eA h1 ⟨a,1,none⟩=some v:=by simp[eA,ha1]
 have hO1:=hO.upd u1 (λb hb hf=>by simp at hf;subst hf;exact hn hb);simp only[eI.f1,eJ.load,hc,byte_lit,dF,reduceIte];intro r hr;refine jC ?_;have u2:eM h1 (h1.set r (.cells #[.int .u8 x.toNat] eZ)):=eH.new hr;have s2:jE (h1.set r (.cells #[.int .u8 x.toNat] eZ)) 1 (.slice (some ⟨r,0,none⟩) 1 1) ([x].map lA):=(fY.lit (lA.rows [x]) gB (by simp) (by decide) (by simp[lA])).slR;refine buf_app eJ.und (u2.get ha1) (.inr rfl) (hO1.ext u2) hn s2 (by simpa using hl) ?_;intro h3 F3 hW3 u3 k3;refine hk _ F3 hW3 ((u1.mono λb hb=>.inl (by simp at hb;simp[hb])).trans (u2.upd.trans u3)) λb hb=>?_;rcases k3 b hb with h'|h'
 ·exact .inl h'
 ·by_cases hba:b=a
  ·exact .inl (by simp[hba])
  ·have:=u2.none h';rw[o1 b hba] at this;exact .inr this
def buf_str{h:PH}{a:Nat}{p v:Value}{bs ys:List UInt8}{G:List Nat}(ha:h a=some (.cells #[p,v] eI (0,0)))(hp:p= .pointer none∨p=pT a 0)(hO:fY h eZ 1 v (bs.map lA) G)(hn:a∉G)
  (hl:bs.length+ys.length≤140737488355328) {k:PH->Prop} (hk:BNext h a (a::G) (bs++ys) k):
  dT PG (Builtin.append_ #[eJ,aT] eJ #[v,.string (tx ys)]) h λv' h'=>dT PG (dX eJ (pT a 1) v') h' λ_ h''=>k h'':=by
 refine aNY eJ.und aT.und eZ.info eZ.size eZ.bytes eZ.zero rfl (by decide) hO (by simp;omega) ?_;intro v2 h2 F2 hO2 u2 k2 _;rw[←xX] at hO2;have ha2:=u2.get ha hn;have hn2:a∉F2:=λhm=>by
  rcases k2 a hm with h1|h1
  ·exact hn h1
  ·rw[ha] at h1;cases h1
 refine lX eJ.und rfl ha2 (by simp) ?_ eJ.info eJ.size ?_
 ·obtain⟨_,_,rfl,-⟩:=hO2.slR.here;rfl
 ·refine hk _ (a::F2) ⟨p,v2,F2,gB,hp,hO2.upd (eH.set (F:=[a]) (by simp)) (λb hb=>by simp;rintro rfl;exact hn2 hb),rfl,hn2⟩ ((u2.mono λb hb=>.inl (by simp[hb])).trans (eH.set (by simp))) (λb hb=>?_);rcases jW.1 hb with rfl|hb
  ·exact .inl (by simp)
  ·rcases k2 b hb with h1|h1
   ·exact .inl (by simp[h1])
   ·exact .inr h1
def WriteString_ok{h:PH}{a:Nat}{bs ys:List UInt8}{F:List Nat}(hW:BAt h a bs F)(hl:bs.length+ys.length≤140737488355328){k:dI}(hk:BNext h a F (bs++ys) (k (.tuple #[.int .i64 ys.length,.nilIface]))):
  bR PG jB #[pT a 0,.string (tx ys)] h k:=by
 obtain⟨p,v,G,ha,hp,hO,rfl,hn⟩:=hW;apply lC.call;unfold lC;refine copyCheck_ok ha hp λh1 ha1 u1 o1=>?_;have hc:eA h1 ⟨a,1,none⟩=some v:=by simp[eA,ha1]
 have hO1:=hO.upd u1 (λb hb hf=>by simp at hf;subst hf;exact hn hb);simp only[eI.f1,eJ.load,hc,aT.len,mF,dF,reduceIte];refine buf_str ha1 (.inr rfl) hO1 hn hl ?_;intro h3 F3 hW3 u3 k3;refine hk _ F3 hW3 ((u1.mono λb hb=>.inl (by simp at hb;simp[hb])).trans u3) λb hb=>?_;rcases k3 b hb with h'|h'
 ·exact .inl h'
 ·by_cases hba:b=a
  ·exact .inl (by simp[hba])
  ·rw[o1 b hba] at h';exact .inr h'
def semE_loadBytes{h:PH}:∀(l:List UInt8) (a:Addr) (acc:ByteArray),a.spot=none->(∀j x,l[j]? =some x->eA h (a.add j)=some (.int .u8 x.toNat))->dH PG h (loadBytes a acc l.length)=some ⟨acc.data++l.toArray⟩
 | [],a,acc,_,_=>by show some acc=_;simp
 | x::xs,a,acc,hsp,hc=>by
  have h0:=hc 0 x rfl;have ha0:a.add 0=a:=by obtain⟨b,o,w⟩:=a;cases w<;>simp[Addr.add]
  rw[ha0] at h0;show(eA h a).bind _=_;rw[h0,aAR];show dH PG h (loadBytes (a.add 1) (acc.push ((x.toNat:Int).toNat.toUInt8)) xs.length)=_;rw[semE_loadBytes xs (a.add 1) _ (by obtain⟨b,o,w⟩:=a;simp at hsp;subst hsp;rw[lV]) λj y hy=>?_]
  ·congr 1;apply ByteArray.ext;show(acc.push _).data++xs.toArray=_;rw[ByteArray.data_push];apply zLw;simp
  ·have:=hc (j+1) y (by simpa using hy);have e:(a.add 1).add j=a.add (j+1):=by
    obtain⟨b,o,w⟩:=a;simp at hsp;subst hsp;rw[lV,lV,lV];congr 1;omega
   rw[e];exact this
def unsafeStr{h:PH}{g:Nat}{cs:Array Value}{bs:List UInt8}(hb:h g=some (.cells cs eZ (0,0)))(hle:bs.length≤cs.size)(hcs:cs.toList.take bs.length=bs.map λb=>Value.int .u8 b.toNat)(hne:bs≠[])(hmax:bs.length≤xS){k:dI}
  (hk:∀h',eH [g] h h'->k (.string (tx bs)) h'):dT PG (Builtin.unsafeString_ #[pV,aR] aT #[pT g 0,.int .i64 bs.length]) h k:=by
 have hl:bs.length≠0:=by simpa using hne
 have h63:¬((bs.length:Int)>IntKind.i64.max):=by
  have:IntKind.i64.max=9223372036854775807:=rfl;unfold xS at hmax;omega
 have hneg:¬(bs.length:Int)<0:=by omega
 have hz:¬(bs.length:Int)=0:=by omega
 have hdef:Builtin.unsafeString_ #[pV,aR] aT #[pT g 0,.int .i64 bs.length]=
   (do
    let n ←asInt (.int .i64 bs.length)
    if n<0 then runtimePanic (.error "unsafe.String: len out of range")
    if n>IntKind.i64.max then unsupported (.unsafePointer "String: a length above the largest int")
    if n=0 then pure (.string .empty)
    else if ←variablesAt ⟨g,0,none⟩ (←elemOf pV) n.toNat then do
     let s ←loadBytes ⟨g,0,none⟩ .empty n.toNat
     freeze ⟨g,0,none⟩ n.toNat
     pure (.string s)
    else unsupported (.unsafePointer "String: not so many bytes at ptr")):=rfl
 rw[hdef];have hs:kE h g=some (some (eZ,cs.size)):=by unfold kE;rw[hb]
 have hv:dH PG h (variablesAt ⟨g,0,none⟩ eZ bs.length)=some true:=by
  show(kE h g).bind _=_;rw[hs];have hc1:PG.cellsOf eZ=1:=by kernel_rfl
  have:=Go.Lib.liesAt_bytes (P:=PG) hc1 (cs.size/PG.cellsOf eZ) bs.length (by rw[hc1];simpa using hle);show some (liesAt PG PG.depth eZ (cs.size/PG.cellsOf eZ) 0 eZ bs.length)=some true;rw[this]
 have hlb:=semE_loadBytes (h:=h) bs ⟨g,0,none⟩ .empty rfl (λj x hx=>by
  rw[lV];unfold eA;simp only[hb,kB];have hj:j<bs.length:=(zLA.1 hx).1;have:(cs.toList.take bs.length)[j]? =some (.int .u8 x.toNat):=by rw[hcs,xB,hx];rfl
  rw[aEv,if_pos hj] at this;simpa using this)
 have helem:dH PG h (elemOf pV)=some eZ:=by kernel_rfl
 simp only[asInt,asIntOf,pure_bind,map_pure,hneg,h63,hz,if_false,xZ];refine iY helem ?_;refine iY hv ?_;simp only[if_true];refine iY hlb ?_;show(∃o,h g=some o)∧_;refine⟨⟨_,hb⟩,?_⟩;have hfin:=hk (nC h ⟨g,0,none⟩ bs.length) (λb o hbo hn=>by
  unfold nC;rw[if_neg hl,if_neg (by simpa using hn)];exact hbo)
 show k (.string _) _;have e:(⟨ByteArray.empty.data++bs.toArray⟩:ByteArray)=tx bs:=by apply ByteArray.ext;simp[tx]
 rw[e];exact hfin
def unsafeNone{h:PH}{q:Option Addr}:dH PG h (Builtin.unsafeString_ #[pV,aR] aT #[.pointer q,.int .i64 0])=some (.string (tx [])):=by
 cases q<;>rfl
def String_ok{h:PH}{a:Nat}{bs:List UInt8}{F:List Nat}(hW:BAt h a bs F){k:dI}(hk:∀h',eH F h h'->k (.string (tx bs)) h'):
  bR PG kS #[pT a 0] h k:=by
 obtain⟨p,v,G,ha,hp,hO,rfl,hn⟩:=hW;have hc:eA h ⟨a,1,none⟩=some v:=by simp[eA,ha]
 have lv:=hO.slR.len (t':=aR) eJ.und;rw[jJ] at lv;apply lD.call;unfold lD;simp only[eI.f1,eJ.load,hc,lv,dF,reduceIte];have hload:∀h',eA h' ⟨a,1,none⟩=some v->dH PG h' (loadAt eJ (pT a 1))=some v:=λh' h1=>by rw[eJ.load];exact h1
 rcases hO.here with⟨rfl,hr,rfl⟩|⟨g,cap,cs,rfl,rfl,hb,hle,hmax,hsz,htk⟩
 ·have hnil:bs=[]:=by simpa using hr
  subst hnil;refine dH.semH (a:=.pointer none) rfl ?_;refine⟨hc,?_⟩;refine dH.semH unsafeNone ?_;exact hk _ eH.refl
 ·simp only[jJ] at *;by_cases hne:bs=[]
  ·subst hne;by_cases hc0:cap=0
   ·subst hc0;have hs:kE h g=some (some (eZ,cs.size)):=by unfold kE;rw[hb]
    show dT PG (viewAt g >>= _) h _;refine iY (a:=none) (by rw[show viewAt g=(viewAt g >>= λx=>pure x) by simp,semE_viewAt hs];rfl) ?_;refine iY (a:=eZ) (by kernel_rfl) ?_;intro r hr;have u:eM h (h.set r (.view ⟨g,0,none⟩ eZ)):=eH.new hr;refine⟨by rw[eA];simp[u.get ha],?_⟩;refine dH.semH unsafeNone ?_;exact hk _ u.upd
   ·refine dH.semH (a:=pT g 0) ?_ ?_
    ·show dH PG h (if cap≠0 then _ else _)=_;rw[if_pos hc0];rfl
    ·refine⟨hc,?_⟩;refine dH.semH unsafeNone ?_;exact hk _ eH.refl
  ·have hpos:0<bs.length:=aKL.2 hne;refine dH.semH (a:=pT g 0) ?_ ?_
   ·show dH PG h (if cap≠0 then _ else _)=_;rw[if_pos (by omega)];rfl
   ·refine⟨hc,?_⟩;rw[Nat.mul_one,lA.flat] at htk;refine unsafeStr hb (by omega) htk hne (by omega) λh' u=>?_;exact hk _ (u.mono λb hb=>.inl (by simp at hb;simp[hb]))
end Bld
end
section
open Go Bld
def aT6{h:PH}{l:List UInt8}:dH PG h (Builtin.firstCells 1 l.length (.string (tx l)))=some (l.map λb=>Value.int .u8 b.toNat).toArray:=by
 show some (((tx l).extract 0 l.length).data.map λb=>Value.int .u8 b.toNat)=_;congr 1;apply zLw;rw[ByteArray.data_extract];simp[tx,zLx]
def aL8:∀(n t:Nat) (acc:Array Value),(Extern.BytealgMakeNoZero.digits n t acc).size=acc.size+n
 | 0,_,acc=>rfl
 | n+1,t,acc=>by
  show(Extern.BytealgMakeNoZero.digits n (t/256) (acc.push _)).size=_;rw[aL8 n];simp;omega
def aQr{n:Int}{h:PH}{Q:Next->PH->Prop}:dT PG (callFunc tU #[.int .i64 n]) h Q=dT PG (Extern.BytealgMakeNoZero.makeNoZero #[] #[eJ] #[.int .i64 n] >>= λv=>pure (Next.value v)) h Q:=by kernel_rfl
def aO3{h:PH}{n:Nat}(hn:n≤140737488355328){k:dI}
  (hk:∀r cap (cs:Array Value),n≤cap->cap≤xS->cs.size=cap->h r=none->k (.slice (some ⟨r,0,none⟩) n cap) (h.set r (.cells cs eZ (0,0)))):bR PG tU #[.int .i64 n] h k:=by
 refine .inr ?_;rw[aQr];refine dT.bind (P:=PG) (s:=Extern.BytealgMakeNoZero.makeNoZero #[] #[eJ] #[.int .i64 n]) ?_;have h1:((decide ((n:Int)<0)||decide ((n:Int)>2^48))=true)=False:=by
  apply eq_false;have:¬((n:Int)>2^48):=by
   have h2:(2:Int)^48=281474976710656:=by rfl
   omega
  have h3:¬((n:Int)<0):=by omega
  simp[h3];omega
 show dT PG (underlying eJ >>= _) h _;rw[tJ eJ.und];dsimp only;simp only[h1,if_false,pure_bind,xZ];rw[aBF];intro tt;rw[aIn,aBF];intro bb;have hforced:(Question.appendCap n 0 5).forced=false:=rfl;rw[hforced];have hcut:n≤(Question.appendCap n 0 5).cut tt∧(Question.appendCap n 0 5).cut tt≤xS:=by
  have hpos:0<2^63-n:=by omega
  have:=zLB tt hpos;simp only[Question.cut,xS];omega
 generalize (if (Question.extern "internal/bytealg.MakeNoZero.bytes" 0).forced=true then 0 else(Question.extern "internal/bytealg.MakeNoZero.bytes" 0).cut bb)=B;show dT PG (newRow 5 _ >>= _) h _;intro r hr;exact⟨_,rfl,hk r _ _ hcut.1 hcut.2 (by rw[aL8];exact kB _) hr⟩
def zB:eX PG eI= #[.pointer none,.slice none 0 0]:=by rw[eI.zc];rfl
def BAt.zero{h:PH}{a:Nat}(ha:h a=some (.cells #[.pointer none,.slice none 0 0] eI (0,0))):BAt h a [] [a]:=⟨_,_,[],ha,.inl rfl,fY.nil,rfl,by simp⟩
def aQ6:dE PG (Builtin.cap_ #[eJ] aR #[.slice none 0 0])=some (.int .i64 0):=by kernel_rfl
def aYm{r cap:Nat}{n:Nat}:dE PG (Instr.sliceAt eJ (.slice (some ⟨r,0,none⟩) n cap) none (some (.int .i64 ((0:Nat):Int))) none)=some (.slice (some ⟨r,0,none⟩) 0 cap):=by
 have:=aHt (P:=PG) (t:=eJ) (a:=some ⟨r,0,none⟩) (len:=n) (cap:=cap) (l:=0) (hh:=0) (lo:=none) (hi:=some (.int .i64 ((0:Nat):Int))) eJ.und eZ.info (.inl ⟨rfl,rfl⟩) (.inr ⟨_,rfl⟩) (by omega) (by omega);rw[this];by_cases hc:cap=0
 ·subst hc;simp
 ·rw[if_neg hc];simp[lV]
structure FB(h:PH)(a g cap:Nat)(bs:List UInt8):Prop where
 here:∃(cs:Array Value) (f:Nat),h a=some (.cells #[pT a 0,.slice (some ⟨g,0,none⟩) bs.length cap] eI (0,0))∧h g=some (.cells cs eZ (0,f))∧f≤bs.length∧bs.length≤cap∧cs.size=cap∧cs.toList.take bs.length=(bs.map λb=>Value.int .u8 b.toNat)∧g≠a∧cap≤xS
def aNu(r n:Nat):List Value->PH->Nat:=λ_ h=>match h r with
 | some (Obj.cells c _ _)=>match c[1]? with
  | some (Value.slice _ m _)=>n-m
  | _=>0
 | _=>0
def FB.mu{h:PH}{a g cap:Nat}{bs:List UInt8}(H:FB h a g cap bs){n:Nat}{vs:List Value}:aNu a n vs h=n-bs.length:=by
 obtain⟨cs,f,ha,-⟩:=H;simp[aNu,ha]
def aRM{h:PH}{a n:Nat}(ha:h a=some (.cells #[.pointer none,.slice none 0 0] eI (0,0)))(hn:0<n)(hn2:n≤1000000){k:dI}
  (hk:∀h' g cap,FB h' a g cap []->n≤cap->eH [a] h h'->h g=none->k (.tuple #[]) h'):bR PG uS #[pT a 0,.int .i64 n] h k:=by
 apply qU.call;unfold qU;refine copyCheck_ok ha (.inl rfl) λh1 a1 u1 o1=>?_;have e1:((n:Int)<0)=False:=eq_false (by omega);have c1:eA h1 ⟨a,0+1,none⟩=some (.slice none 0 0):=by simp[eA,a1]
 have e2:IntKind.i64.wrap ((0:Int)-((0:Nat):Int))=0:=by rw[fW (by omega) (by omega)];omega
 have e3:((0:Int)<(n:Int))=True:=eq_true (by omega);simp only[e1,dF,reduceIte];unfold aD5;simp only[eI.f1,eJ.load,c1,aQ6,eJ.len,e2,e3,dF,reduceIte];apply qY.call;unfold qY;have e4:IntKind.i64.wrap (2*(0:Int))=0:=by rw[fW (by omega) (by omega)];omega
 have e5:IntKind.i64.wrap ((0:Int)+(n:Int))=(n:Int):=by rw[fW (by omega) (by omega)];omega
 simp only[eI.f1,eJ.load,c1,aQ6,eJ.len,e4,e5,dF,reduceIte];refine aO3 (by omega) λr cap cs h2 h3 hsz hr=>?_;have u2:eM h1 (h1.set r (.cells cs eZ (0,0))):=eH.new hr;have b2:(h1.set r (.cells cs eZ (0,0))) r=some (.cells cs eZ (0,0)):=gB;generalize h1.set r (.cells cs eZ (0,0))=h2' at *;have a2:=u2.get a1;have c1':eA h2' ⟨a,0+1,none⟩=some (.slice none 0 0):=by simp[eA,a2]
 have hne:r≠a:=λe=>by subst e;rw[a1] at hr;cases hr
 refine⟨c1',?_⟩;simp only[eI.f1,eJ.load,c1',aYm,dF,reduceIte];have hcp:dH PG h2' (Builtin.copy_ #[eJ,eJ] aR #[.slice (some ⟨r,0,none⟩) 0 cap,.slice none 0 0])=some (.int .i64 0):=by kernel_rfl
 refine dH.semH hcp ?_;refine lX eJ.und rfl a2 (by simp) rfl eJ.info eJ.size ?_;refine hk _ r cap ⟨cs,0,gB,by rw[aAr hne];exact b2,by simp,by simp,by omega,by simp,hne,h3⟩ h2 ((u1.trans u2.upd).trans (eH.set (by simp))) ?_;rw[←o1 r hne];exact hr
def aVA:dE PG (binOp .and dN (.int .u64 0) (.int .u64 4294967295))=some (.int .u64 0):=by kernel_rfl
def aWo:dE PG (binOp .and dN (.int .u64 1) (.int .u64 4294967295))=some (.int .u64 1):=by kernel_rfl
def aYo{n:Nat}(hn:n<1000):(BitVec.ofInt 64 (n:Int) &&& BitVec.ofInt 64 4294967295).toNat=n:=by
 have h1:(BitVec.ofInt 64 (n:Int)).toNat=n:=by
  rw[BitVec.toNat_ofInt];omega
 have h2:(BitVec.ofInt 64 4294967295).toNat=2^32-1:=by decide
 rw[BitVec.toNat_and,h1,h2,Nat.and_two_pow_sub_one_eq_mod];omega
def aX8{n:Nat}(hn:n<1000):dE PG (binOp .and dN (.int .u64 (n:Int)) (.int .u64 4294967295))=some (.int .u64 (n:Int)):=by
 have e:dE PG (binOp .and dN (.int .u64 (n:Int)) (.int .u64 4294967295))=some (.int .u64 (IntKind.u64.wrap ((BitVec.ofInt 64 (n:Int) &&& BitVec.ofInt 64 4294967295).toNat:Int))):=rfl;rw[e,aYo hn,lJ (by omega) (by omega)]
def aRy{n:Nat}(hn:n<1000):dE PG (binOp .shr dN (.int .u64 (n:Int)) (.int .u64 32))=some (.int .u64 0):=by
 rw[aPC (by decide)];congr 2;show(n:Int).fdiv (2^32)=0;rw[Int.fdiv_eq_ediv_of_nonneg _ (by decide)];have:(2:Int)^32=4294967296:=by rfl
 omega
def aXv:dE PG (binOp .shr dN (.int .u64 0) (.int .u64 32))=some (.int .u64 0):=aRy (n:=0) (by decide)
def aXi:dE PG (binOp .shr dN (.int .u64 1) (.int .u64 32))=some (.int .u64 0):=aRy (n:=1) (by decide)
def aXb{h:PH}{n:Nat}(hn:n<1000){k:dI}(hk:k (.tuple #[.int .u64 0,.int .u64 n]) h):bR PG aEo #[.int .u64 1,.int .u64 n] h k:=by
 apply aEe.call;unfold aEe;simp only[dF,reduceIte];apply aDH.call;unfold aDH;have w0:IntKind.u64.wrap 0=0:=rfl;have wn:IntKind.u64.wrap (n:Int)=n:=lJ (by omega) (by omega);simp only[aWo,aXi,aX8 hn,aRy hn,Int.one_mul,Int.zero_mul,Int.mul_zero,wn,w0,Int.add_zero,aVA,aXv,dF,reduceIte];exact hk
def aIa{b o f:Nat}{e:TypeId}{Q:Unit->PH->Prop}:∀(vs:List Value) (i:Nat) (h:PH) (c:Array Value),h b=some (.cells c e (0,f))->f≤o+i->o+i+vs.length≤c.size->(∀v∈vs,gN v=true)->
  Q () (if vs=[] then h else h.set b (.cells (uT c (o+i) vs) e (0,f)))->dT PG (storeCells ⟨b,o,none⟩ vs i) h Q
 | [],i,h,c,_,_,_,_,hq=>by
  show Q () h;simpa using hq
 | v::vs,i,h,c,hb,hf,hle,hv,hq=>by
  simp only[jY] at hle;have hlt:o+i<c.size:=by omega
  have ha:(⟨b,o,none⟩:Addr).add i=⟨b,o+i,none⟩:=lV ..;show gN v=true∧uA h ((⟨b,o,none⟩:Addr).add i)=false∧(∃u,eA h ((⟨b,o,none⟩:Addr).add i)=some u)∧dT PG (storeCells ⟨b,o,none⟩ vs (i+1)) (sG h ((⟨b,o,none⟩:Addr).add i) v) Q;rw[ha];refine⟨hv v (by simp),by simp[uA,hb];omega,⟨c[o+i],by simp[eA,hb,hlt]⟩,?_⟩;have hset:sG h ⟨b,o+i,none⟩ v=h.set b (.cells (c.setIfInBounds (o+i) v) e (0,f)):=by
   funext x;unfold sG PH.set;by_cases hx:x=b
   ·subst hx;simp[hb]
   ·simp[hx]
  rw[hset];refine aIa vs (i+1) _ _ gB (by omega) (by simp;omega) (λu hu=>hv u (by simp[hu])) ?_;have h2:∀o1 o2:Obj,(h.set b o1).set b o2=h.set b o2:=λo1 o2=>by funext x;unfold PH.set;split<;>rfl
  simp only[List.cons_ne_nil,if_false] at hq;split
  ·rename_i hvs;subst hvs;simpa[uT] using hq
  ·rw[h2];simpa[uT,Nat.add_assoc] using hq
def aRf{h:PH}{g:Nat}{cs:Array Value}{fr:Nat×Nat}{bs:List UInt8}(hb:h g=some (.cells cs eZ fr))(hle:bs.length≤cs.size)(hcs:cs.toList.take bs.length=bs.map λb=>Value.int .u8 b.toNat)(hne:bs≠[])(hmax:bs.length≤xS){k:dI}
  (hk:k (.string (tx bs)) (nC h ⟨g,0,none⟩ bs.length)):dT PG (Builtin.unsafeString_ #[pV,aR] aT #[pT g 0,.int .i64 bs.length]) h k:=by
 have hl:bs.length≠0:=by simpa using hne
 have h63:¬((bs.length:Int)>IntKind.i64.max):=by
  have:IntKind.i64.max=9223372036854775807:=rfl;unfold xS at hmax;omega
 have hneg:¬(bs.length:Int)<0:=by omega
 have hz:¬(bs.length:Int)=0:=by omega
 have hdef:Builtin.unsafeString_ #[pV,aR] aT #[pT g 0,.int .i64 bs.length]=
   (do
    let n ←asInt (.int .i64 bs.length)
    if n<0 then runtimePanic (.error "unsafe.String: len out of range")
    if n>IntKind.i64.max then unsupported (.unsafePointer "String: a length above the largest int")
    if n=0 then pure (.string .empty)
    else if ←variablesAt ⟨g,0,none⟩ (←elemOf pV) n.toNat then do
     let s ←loadBytes ⟨g,0,none⟩ .empty n.toNat
     freeze ⟨g,0,none⟩ n.toNat
     pure (.string s)
    else unsupported (.unsafePointer "String: not so many bytes at ptr")):=rfl
 rw[hdef];have hs:kE h g=some (some (eZ,cs.size)):=by unfold kE;rw[hb]
 have hv:dH PG h (variablesAt ⟨g,0,none⟩ eZ bs.length)=some true:=by
  show(kE h g).bind _=_;rw[hs];have hc1:PG.cellsOf eZ=1:=by kernel_rfl
  have:=Go.Lib.liesAt_bytes (P:=PG) hc1 (cs.size/PG.cellsOf eZ) bs.length (by rw[hc1];simpa using hle);show some (liesAt PG PG.depth eZ (cs.size/PG.cellsOf eZ) 0 eZ bs.length)=some true;rw[this]
 have hlb:=semE_loadBytes (h:=h) bs ⟨g,0,none⟩ .empty rfl (λj x hx=>by
  rw[lV];unfold eA;simp only[hb,kB];have hj:j<bs.length:=(zLA.1 hx).1;have:(cs.toList.take bs.length)[j]? =some (.int .u8 x.toNat):=by rw[hcs,xB,hx];rfl
  rw[aEv,if_pos hj] at this;simpa using this)
 have helem:dH PG h (elemOf pV)=some eZ:=by kernel_rfl
 simp only[asInt,asIntOf,pure_bind,map_pure,hneg,h63,hz,if_false,xZ];refine iY helem ?_;refine iY hv ?_;simp only[if_true];refine iY hlb ?_;show(∃o,h g=some o)∧_;refine⟨⟨_,hb⟩,?_⟩;show k (.string _) _;have e:(⟨ByteArray.empty.data++bs.toArray⟩:ByteArray)=tx bs:=by apply ByteArray.ext;simp[tx]
 rw[e];exact hk
def FB.len{h:PH}{a g cap:Nat}{bs:List UInt8}(H:FB h a g cap bs){k:dI}(hk:k (.int .i64 bs.length) h):bR PG sA #[pT a 0] h k:=by
 obtain⟨cs,f,ha,-⟩:=H;apply aAM.call;unfold aAM;have c1:eA h ⟨a,0+1,none⟩=some (.slice (some ⟨g,0,none⟩) bs.length cap):=by simp[eA,ha]
 simp only[eI.f1,eJ.load,c1,eJ.len,dF,reduceIte];exact hk
def FB.string{h:PH}{a g cap:Nat}{bs:List UInt8}(H:FB h a g cap bs)(hne:bs≠[]){k:dI}(hk:∀h',FB h' a g cap bs->eH [g] h h'->k (.string (tx bs)) h'):bR PG kS #[pT a 0] h k:=by
 obtain⟨cs,f,ha,hg,hf,hc,hsz,htk,hga,hmx⟩:=H;have hpos:bs.length≠0:=by simpa using hne
 apply lD.call;unfold lD;have c1:eA h ⟨a,0+1,none⟩=some (.slice (some ⟨g,0,none⟩) bs.length cap):=by simp[eA,ha]
 simp only[eI.f1,eJ.load,c1,eJ.len,dF,reduceIte];refine dH.semH (a:=pT g 0) ?_ ?_
 ·show dH PG h (if cap≠0 then _ else _)=_;rw[if_pos (by omega)];rfl
 ·refine⟨c1,?_⟩;refine aRf hg (by omega) htk hne (by omega) ?_;have hg':nC h ⟨g,0,none⟩ bs.length g=some (.cells cs eZ (0,bs.length)):=by
   unfold nC;rw[if_neg hpos,if_pos rfl];simp only[hg];by_cases h0:f=0
   ·subst h0;simp
   ·have:((0==f)=true)=False:=by simp;omega
    simp only[this,if_false];congr 3
    ·exact Nat.max_eq_right (by omega) |>.trans (kB _)
  have hoth:∀b,b≠g->nC h ⟨g,0,none⟩ bs.length b=h b:=λb hb=>by
   unfold nC;rw[if_neg hpos,if_neg hb]
  exact hk _ ⟨cs,bs.length,by rw[hoth a hga.symm];exact ha,hg',nQ _,hc,hsz,htk,hga,hmx⟩ (λb o hb hn=>by rw[hoth b (by simpa using hn)];exact hb)
def FB.write{h:PH}{a g cap:Nat}{bs ys:List UInt8}(H:FB h a g cap bs)(hle:bs.length+ys.length≤cap)(hcap:bs.length+ys.length≤1000000){k:dI}(hk:∀v h',FB h' a g cap (bs++ys)->eH [a,g] h h'->k v h'):
  bR PG jB #[pT a 0,.string (tx ys)] h k:=by
 obtain⟨cs,f,ha,hg,hf,hc,hsz,htk,hga,hmx⟩:=H;apply lC.call;unfold lC;refine copyCheck_ok ha (.inr rfl) λh1 a1 u1 o1=>?_;have g1:h1 g=some (.cells cs eZ (0,f)):=by rw[o1 g hga];exact hg
 have c1:eA h1 ⟨a,0+1,none⟩=some (.slice (some ⟨g,0,none⟩) bs.length cap):=by simp[eA,a1]
 simp only[eI.f1,eJ.load,c1,aT.len,mF,dF,reduceIte]
 -- the append
 simp only[Builtin.append_,List.getElem?_toArray,zLK,zLL,tJ eJ.und,tJ aT.und,lY,rU eZ.info,pure_bind,zLs,if_false,Builtin.lenOf,Bool.not_false,if_true,eZ.size,mF];rw[if_pos hle];refine iY (aT6 (l:=ys)) ?_;have hadd:(⟨g,0,none⟩:Addr).add (bs.length*1)=⟨g,bs.length,none⟩:=by rw[lV];simp
 show dT PG (storeCells ((⟨g,0,none⟩:Addr).add (bs.length*1)) (ys.map λb=>Value.int .u8 b.toNat).toArray.toList >>= λ_=>pure _) h1 _;rw[hadd];refine dT.bind (P:=PG) (s:=storeCells _ _) ?_;refine aIa (b:=g) (o:=bs.length) (f:=f) (ys.map λb=>Value.int .u8 b.toNat) 0 h1 cs g1 (by omega) (by simp;omega) (λv hv=>by obtain⟨b,-,rfl⟩:=rS.1 hv;rfl) ?_;have key:∀h2:PH,(∃cs',h2 g=some (.cells cs' eZ (0,f))∧cs'.size=cap∧cs'.toList.take (bs.length+ys.length)=((bs++ys).map λb=>Value.int .u8 b.toNat))->h2 a=h1 a->eH [g] h1 h2->
   dT PG (dX eJ (pT a (0+1)) (.slice (some ⟨g,0,none⟩) (bs.length+ys.length) cap)) h2 λ_ h3=>k (.tuple #[.int .i64 ys.length,.nilIface]) h3:=by
  intro h2 ⟨cs',hg2,hs2,ht2⟩ ha2 u2;refine lX eJ.und rfl (by rw[ha2];exact a1) (by simp) rfl eJ.info eJ.size ?_;refine hk _ _ ⟨cs',f,?_,by rw[aAr hga];exact hg2,by simp;omega,by simpa using hle,hs2,by simpa using ht2,hga,hmx⟩ (((u1.mono λb hb=>.inl (by simp at hb;simp[hb])).trans (u2.mono λb hb=>.inl (by simp at hb;simp[hb]))).trans (eH.set (by simp)));rw[gB];simp
 by_cases hy:ys=[]
 ·subst hy;rw[if_pos (show(List.map (λb=>Value.int .u8 (b.toNat:Int)) ([]:List UInt8))=[] from rfl)];exact key h1 ⟨cs,g1,hsz,by simpa using htk⟩ rfl eH.refl
 ·rw[if_neg (by simpa using hy)];refine key _ ⟨_,gB,by rw[aEH];exact hsz,?_⟩ (aAr hga.symm) (eH.set (by simp));rw[zLP,aBA _ _ _ (by simp;omega),htk];rw[zLH (by simp),sU (by simp),xX]
def aNk{n m:Nat}(h:m≤n):(List.replicate n (0:UInt8)).take m=List.replicate m 0:=by rw[List.take_replicate,aGb h]
def aYO{ts:Array TypeId}{t:TypeId}{k:IntKind}{x y z:Int}:dE PG (Builtin.min_ ts t #[.int k x,.int k y,.int k z])=some (.int k (if z<(if y<x then y else x) then z else(if y<x then y else x))):=(rfl)
def aQl(x:Int):dE PG (convert aDR aR (.int .u64 x))=some (.int .i64 (IntKind.i64.wrap x)):=by kernel_rfl
def aLf{h:PH}{n:Nat}(hn:n<1000){k:dI}(hk:∀h',eM h h'->k (.string (tx (List.replicate n 0))) h'):bR PG yB #[.string (tx [0]),.int .i64 n] h k:=by
 apply aDp.call;unfold aDp;simp only[gX,dF,reduceIte];by_cases h0:n=0
 ·subst h0;simp only[show(((0:Nat):Int)==0)=true from rfl,dF,reduceIte];exact hk _ eH.refl
 ·have e0:((n:Int)==0)=false:=by simpa using h0
  simp only[e0,dF,reduceIte];by_cases h1:n=1
  ·subst h1;simp only[show(((1:Nat):Int)==1)=true from rfl,dF,reduceIte];exact hk _ eH.refl
  ·have e1:((n:Int)==1)=false:=by simp;omega
   have e2:((n:Int)<0)=False:=eq_false (by omega);simp only[e1,e2,dF,reduceIte];unfold aHm;have w1:IntKind.u64.wrap (([0]:List UInt8).length:Int)=1:=rfl;have wn:IntKind.u64.wrap (n:Int)=n:=lJ (by omega) (by omega);simp only[aT.len,mF,aQp,w1,wn,dF,reduceIte];refine aXb hn ?_;have e3:((9223372036854775807:Int)<(n:Int))=False:=eq_false (by omega);simp only[aJO,aI7,show((0:Int)<0)=False from eq_false (by decide),e3,dF,reduceIte];unfold aG6;have wi:IntKind.i64.wrap (n:Int)=n:=fW (by omega) (by omega);have i0:dE PG (Instr.index aT (.string (tx [0])) (.int .i64 0))=some (.int .u8 ((0:UInt8).toNat:Int)):=oZ (j:=0) aT.und rfl;have z0:(((0:UInt8).toNat:Int))=0:=rfl;have w2:(([0]:List UInt8).length:Int)=1:=rfl;have hz:((1:Int)==0)=false:=rfl;have d1:((0:Int)==32)=false:=rfl;have d2:((0:Int)==45)=false:=rfl;have d3:((0:Int)==48)=false:=rfl;have d4:((0:Int)==61)=false:=rfl;have d5:((0:Int)==9)=false:=rfl;simp only[aT.len,mF,aQl,wi,i0,z0,w2,hz,d1,d2,d3,d4,d5,dF,reduceIte];unfold sX;simp only[dF,reduceIte];unfold aDi aG1;have e4:((8192:Int)<(n:Int))=False:=eq_false (by omega);simp only[e4,dF,reduceIte];unfold aAg;rw[zB];intro r hr
   try rw[dY]
   have u1:eM h (h.set r (.cells #[.pointer none,.slice none 0 0] eI)):=eH.new hr;have a1:(h.set r (.cells #[.pointer none,.slice none 0 0] eI)) r=some (.cells #[.pointer none,.slice none 0 0] eI (0,0)):=gB;generalize h.set r (.cells #[.pointer none,.slice none 0 0] eI)=h1 at *;refine aRM a1 (n:=n) (by omega) (by omega) λh2 g cap hF hcap u2 hg=>?_;have ug:eH [r,g] h h2:=(u1.upd.trans (u2.mono λb hb=>.inl (by simp at hb;simp[hb])));have hgn:h g=none:=u1.none hg;have fin:∀h',eH [r,g] h h'->eM h h':=λh' u b o hb _=>u b o hb (by
    simp only[jW,zLg,or_false,not_or];exact⟨(λe=>by rw[e,hr] at hb;cases hb),(λe=>by rw[e,hgn] at hb;cases hb)⟩)
   refine FB.write hF (ys:=[0]) (by simpa using by omega) (by simp) λv h3 hF3 u3=>?_;refine⟨λvs h'=>∃m,1≤m∧m≤n∧vs=[.int .i64 n,.int .i64 n,pT r 0]∧eH [r,g] h h'∧FB h' r g cap (List.replicate m 0),aNu r n,⟨1,by omega,by omega,rfl,ug.trans u3,hF3⟩,?_⟩;rintro ρ h' ⟨m,hm1,hm2,hvs,u',F'⟩;simp only[jF,kF,lT,and_true] at hvs;obtain⟨v7,v8,v9⟩:=hvs;have hr':=F'.mu (n:=n) (vs:=[ρ 7,ρ 8,ρ 9]);simp only[v7,v8,v9,jF,kF,aHT] at hr' ⊢;unfold aGL;refine F'.len ?_;simp only[aHT,dF,reduceIte];by_cases hmn:m<n
   ·have f1:((m:Int)<(n:Int))=True:=eq_true (by omega);simp only[f1,dF,reduceIte];refine F'.len ?_;have f2:IntKind.i64.wrap ((n:Int)-(m:Int))=((n-m:Nat):Int):=by rw[fW (by omega) (by omega)];omega
    simp only[aHT,f2,dF,reduceIte];refine F'.len ?_;have f3:(if (n:Int)<(if (m:Int)<((n-m:Nat):Int) then(m:Int) else((n-m:Nat):Int)) then(n:Int) else(if (m:Int)<((n-m:Nat):Int) then(m:Int) else((n-m:Nat):Int)))=((min m (n-m):Nat):Int):=by
     split<;>split<;>omega
    simp only[aHT,aYO,f3,dF,reduceIte];refine F'.string (by simp;omega) λh4 F4 u4=>?_;have ec:dE PG (Instr.sliceAt aT (.string (tx (List.replicate m 0))) none (some (.int .i64 ((min m (n-m):Nat):Int))) none)=some (.string (tx (List.replicate (min m (n-m)) 0))):=by
     have:=lE (P:=PG) (t:=aT) (l:=List.replicate m 0) (i:=0) (j:=min m (n-m)) (lo:=none) (hi:=some (.int .i64 ((min m (n-m):Nat):Int))) aT.und (.inl ⟨rfl,rfl⟩) (.inr ⟨_,rfl⟩) (by omega) (by simp;omega);rw[this,aNk (by omega),zLb]
    simp only[ec,dF,reduceIte];refine F4.write (by simp;omega) (by simp;omega) λv5 h5 F5 u5=>?_;rw[List.replicate_append_replicate] at F5;refine⟨⟨m+min m (n-m),by omega,by omega,(by trivial),(u'.trans (u4.mono λb hb=>.inl (by simp at hb;simp[hb]))).trans u5,F5⟩,?_⟩;rw[F5.mu,hr',aHT];omega
   ·have f1:((m:Int)<(n:Int))=False:=eq_false (by omega);simp only[f1,dF,reduceIte];refine F'.string (by simp;omega) λh4 F4 u4=>?_;have:m=n:=by omega
    subst this;exact hk _ (fin _ (u'.trans (u4.mono λb hb=>.inl (by simp at hb;simp[hb]))))
end
section
open Go
abbrev aQR:=PH->List Nat->Prop
structure aIu(A:aQR):Prop where
 known:∀{h F},A h F->∀b∈F,h b≠none
 upd:∀{h h' F K},A h F->eH K h h'->(∀b∈F,b∉K)->A h' F
def aIu.ext{A:aQR}(a:aIu A){h h':PH}{F:List Nat}(H:A h F)(u:eM h h'):A h' F:=a.upd H u (by simp)
structure fT(h:PH)(F:List Nat)(h':PH)(F':List Nat):Prop where
 upd:eH F h h'
 grow:∀b∈F',b∈F∨h b=none
def fT.refl{h:PH}{F:List Nat}:fT h F h F:=⟨eH.refl,λb hb=>.inl hb⟩
def fT.ext{h h':PH}{F:List Nat}(u:eM h h'):fT h F h' F:=⟨u.upd,λb hb=>.inl hb⟩
def fT.trans{h h1 h2:PH}{F F1 F2:List Nat}(a:fT h F h1 F1)(b:fT h1 F1 h2 F2):fT h F h2 F2 where
 upd:=a.upd.then b.upd a.grow
 grow:=λx hx=>by
  rcases b.grow x hx with hx|hx
  ·exact a.grow x hx
  ·by_cases hF:x∈F
   ·exact .inl hF
   ·right;cases e:h x with
    | none=>rfl
    | some o=>have:=a.upd x o e hF;rw[hx] at this;cases this
def box(r:Nat)(cs:List Value):aQR:=λh F=>F=[r]∧Bx h r cs
def aW8(x:Int):dE PG (convert dN eZ (.int .u64 x))=some (.int .u8 (IntKind.u8.wrap x)):=by kernel_rfl
def aS3(x:Int):lH PG (buildSlice eJ 1 #[(0,.int .u8 x)])=some (.cells #[.int .u8 x] eZ,λr=>pure (.slice (some ⟨r,0,none⟩) 1 1)):=by kernel_rfl
def nO{h:PH}{n c:Nat}(hn:n<18446744073709551616)(hc:c≤1000){k:dI}(hk:∀h',eM h h'->k (.string (tx (be n c))) h'):bR PG hM #[.int .u64 n,.int .i64 c] h k:=by
 apply aA0.call;unfold aA0;refine⟨λvs h'=>∃i:Nat,i≤c∧vs=[.int .u64 ((n/256^i:Nat):Int),.int .i64 c,.string (tx ((be n c).drop (c-i))),.int .i64 i]∧eM h h',gT c 3,⟨0,by omega,by rw[zO (by rw[iZ];omega)];simp[aXG],eH.refl⟩,?_⟩;rintro ρ h' ⟨i,hi,hvs,w⟩;simp only[jF,kF,lT,and_true] at hvs;obtain⟨s0,s1,s2,s3⟩:=hvs;rw[s0,s1,s2,s3];unfold aE8;by_cases hlt:i<c
 ·have hd:((i:Int)<(c:Int))=True:=by apply eq_true;omega
  have hle:n/256^i≤n:=Nat.div_le_self _ _;have e1:Int.tmod ((n/256^i:Nat):Int) 256=((n/256^i%256:Nat):Int):=(Int.ofNat_tmod _ 256).symm;have e2:IntKind.u8.wrap ((n/256^i%256:Nat):Int)=((UInt8.ofNat (n/256^i%256)).toNat:Int):=by rw[aJy];simp
  have e3:IntKind.u64.wrap (Int.tdiv ((n/256^i:Nat):Int) 256)=((n/256^(i+1):Nat):Int):=by
   have:Int.tdiv ((n/256^i:Nat):Int) 256=((n/256^i/256:Nat):Int):=rfl;have hd2:n/256^i/256=n/256^(i+1):=by rw[Nat.div_div_eq_div_mul,Nat.pow_succ]
   rw[this,hd2];exact lJ (Int.natCast_nonneg _) (by have:=Nat.div_le_self n (256^(i+1));omega)
  have ei:=oM (i:=i) (by omega);simp only[hd,aTZ (show(256:Int)≠0 by decide),aLe (show(256:Int)≠0 by decide),e1,aW8,e2,aS3,dF,reduceIte];intro r hr;refine jC ?_;have u1:eM h' (h'.set r (.cells #[.int .u8 (UInt8.ofNat (n/256^i%256)).toNat] eZ)):=eH.new hr;have s1:jE (h'.set r (.cells #[.int .u8 (UInt8.ofNat (n/256^i%256)).toNat] eZ)) 1 (.slice (some ⟨r,0,none⟩) 1 1) ([UInt8.ofNat (n/256^i%256)].map lA):=(fY.lit (lA.rows [_]) gB (by simp) (by decide) (by simp[lA])).slR;generalize h'.set r (.cells #[.int .u8 (UInt8.ofNat (n/256^i%256)).toNat] eZ)=h1 at *;have hcv:=aFm eJ.und eZ.und aT.und s1;have hcv':dH PG h1 (convert eJ aT (.slice (some ⟨r,0,none⟩) 1 1))=some (.string (tx [UInt8.ofNat (n/256^i%256)])):=hcv;have hadd:dE PG (binOp .add aT (.string (tx [UInt8.ofNat (n/256^i%256)])) (.string (tx ((be n c).drop (c-i)))))=some (.string (tx ((be n c).drop (c-(i+1))))):=by
   rw[kZ (by rw[kD,iZ];simp;omega)];congr 3;have hg:=aPS n c (c-(i+1)) (by omega);have:c-1-(c-(i+1))=i:=by omega
   rw[this] at hg;obtain⟨hlt',hg'⟩:=zLA.1 hg;rw[aBE hlt',hg'];have:c-(i+1)+1=c-i:=by omega
   rw[this];rfl
  simp only[hcv',hadd,e3,ei,dF,reduceIte];exact⟨⟨i+1,by omega,rfl,w.trans u1⟩,by simp[gT,s3];omega⟩
 ·have hd:((i:Int)<(c:Int))=False:=by apply eq_false;omega
  have hic:i=c:=by omega
  subst hic;rw[aJS,zLb];simp only[hd,dF,reduceIte];exact hk _ w
abbrev vD:FuncId:=6
def aAi(R:dI)(a:iC)(b c d:Value)(e:PH):Prop:=fL .add aR d (.int .i64 1) λf=>a [b,c,f] e
def pY(R:dI)(a:iC)(b c d:Value)(e:PH):Prop:=aAi R a b c d e
def qL(R:dI)(s:iC)(i d j:Value)(o:PH):Prop:=jH iT aR i λa6=>fL .lss aR j a6 λa7=>dW a7 (nP iT i j λa8=>eN o eV a8 λa9=>bR PG uO #[d,a9] o λaa ab=>(pP (Op.unary .not aa) λf=>iW f false d ab λac ad=>fV f false (gW ac) ad λae af=>fV f false (fieldAt dU ae 0) af λag ah=>gZ f false (loadAt hZ ag) ah λai aj=>iW f false d aj λak al=>fV f false (gW ak) al λam an=>fV f false (fieldAt dU am 3) an λu ao=>gZ f false (loadAt fN u) ao λv ap=>fV f false (gW v) ap λaq ar=>fV f false (fieldAt dQ aq 2) ar λw au=>gZ f false (loadAt aT w) au λx y=>gG (yV f) false (λav=>bR PG aCs #[ai] y λaw ax=>av aw ax) y λay p=>((yV f==some false)=true->dH PG p (loadAt aT w)=some x)∧((yV f==some false)=true->dH PG p (loadAt fN u)=some v)∧(gZ f false (gV .neq aT (.tmp 50) (.tmp 57) ay x) p λaz aA=>dA (gA f (.bool true) az) λe=>iW e false d aA λaB aC=>fV e false (gW aB) aC λaD aE=>fV e false (fieldAt dU aD 0) aE λaF aG=>gZ e false (loadAt hZ aF) aG λaH aI=>iW e false d aI λaJ aK=>fV e false (gW aJ) aK λaL aM=>fV e false (fieldAt dU aL 3) aM λz aN=>gZ e false (loadAt fN z) aN λA aO=>fV e false (gW A) aO λaP aQ=>fV e false (fieldAt dQ aP 3) aQ λB aS=>gZ e false (loadAt dV B) aS λC aU=>fV e false (Builtin.len_ #[dV] aR #[C]) aU λaV D=>gG (yV e) false (λaW=>bR PG aBp #[aH] D λaX aY=>aW aX aY) D λaZ q=>((yV e==some false)=true->dH PG q (loadAt dV B)=some C)∧((yV e==some false)=true->dH PG q (loadAt fN z)=some A)∧(gZ e false (gV .neq aR (.tmp 65) (.tmp 73) aZ aV) q λb0 k=>dA (gA e (.bool true) b0) λb1=>dW b1 (R (.bool false) k) (gU d λb2=>fA dU b2 1 λb3=>eN k fO b3 λb4=>iJ k .eql fO (.tmp 79) (.const (.pointer none)) b4 (.pointer none) λg=>iW g false d k λb5 b6=>fV g false (gW b5) b6 λb7 b8=>fV g false (fieldAt dU b7 4) b8 λb9 ba=>gZ g false (loadAt fJ b9) ba λbb bc=>gZ g false (gV .eql fJ (.tmp 85) (.const (.pointer none)) bb (.pointer none)) bc λbd h=>dA (gA g (.bool true) bd) λbe=>dW be (pY R s i d j h) (gU d λbf=>fA dU bf 1 λbg=>eN h fO bg λbh=>gU d λbi=>fA dU bi 4 λE=>eN h fJ E λF=>gU F λbj=>fA gC bj 2 λG=>eN h cR G λH=>bR PG qO #[bh] h λbk r=>dH PG r (loadAt cR G)=some H∧dH PG r (loadAt fJ E)=some F∧(bR PG yK #[bk,H] r λbl bm=>(pP (Op.unary .not bl) λc=>iW c false d bm λbn bo=>fV c false (gW bn) bo λbp bq=>fV c false (fieldAt dU bp 1) bq λbr bs=>gZ c false (loadAt fO br) bs λbu bv=>iW c false d bv λbw bx=>fV c false (gW bw) bx λbz bA=>fV c false (fieldAt dU bz 4) bA λI bB=>gZ c false (loadAt fJ I) bB λJ bC=>fV c false (gW J) bC λbD bE=>fV c false (fieldAt gC bD 0) bE λK bF=>gZ c false (loadAt iA K) bF λL bG=>fV c false (gW L) bG λbH bI=>fV c false (fieldAt dO bH 6) bI λM bJ=>gZ c false (loadAt iI M) bJ λN O=>gG (yV c) false (λbK=>bR PG nT #[bu] O λbL bM=>bK bL bM) O λbN l=>((yV c==some false)=true->dH PG l (loadAt iI M)=some N)∧((yV c==some false)=true->dH PG l (loadAt iA K)=some L)∧((yV c==some false)=true->dH PG l (loadAt fJ I)=some J)∧(gZ c false (gV .neq iI (.tmp 107) (.tmp 117) bN N) l λbO bP=>dA (gA c (.bool true) bO) λa=>iW a false d bP λbQ bS=>fV a false (gW bQ) bS λbU bV=>fV a false (fieldAt dU bU 1) bV λbW bX=>gZ a false (loadAt fO bW) bX λbY bZ=>fV a false (gW bY) bZ λc0 c1=>fV a false (fieldAt gS c0 0) c1 λc2 c3=>gZ a false (loadAt fU c2) c3 λc4 c5=>iW a false d c5 λc6 c7=>fV a false (gW c6) c7 λc8 c9=>fV a false (fieldAt dU c8 4) c9 λP ca=>gZ a false (loadAt fJ P) ca λQ cb=>fV a false (gW Q) cb λcc cd=>fV a false (fieldAt gC cc 0) cd λS ce=>gZ a false (loadAt iA S) ce λU cf=>fV a false (gW U) cf λcg ch=>fV a false (fieldAt dO cg 1) ch λci cj=>fV a false (fieldAt dD ci 0) cj λV ck=>gZ a false (loadAt dN V) ck λW X=>gG (yV a) false (λcl=>bR PG aGe #[c4] X λcm cn=>cl cm cn) X λco m=>((yV a==some false)=true->dH PG m (loadAt dN V)=some W)∧((yV a==some false)=true->dH PG m (loadAt iA S)=some U)∧((yV a==some false)=true->dH PG m (loadAt fJ P)=some Q)∧(gZ a false (gV .neq dN (.tmp 128) (.tmp 139) co W) m λcp cq=>dA (gA a (.bool true) cp) λb=>iW b false d cq λcr cs=>fV b false (gW cr) cs λcu cv=>fV b false (fieldAt dU cu 1) cv λcw cx=>gZ b false (loadAt fO cw) cx λcy cz=>fV b false (gW cy) cz λcA cB=>fV b false (fieldAt gS cA 0) cB λcC cD=>gZ b false (loadAt fU cC) cD λcE cF=>iW b false d cF λcG cH=>fV b false (gW cG) cH λcI cJ=>fV b false (fieldAt dU cI 4) cJ λY cK=>gZ b false (loadAt fJ Y) cK λZ cL=>fV b false (gW Z) cL λcM cN=>fV b false (fieldAt gC cM 0) cN λa0 cO=>gZ b false (loadAt iA a0) cO λa1 cP=>fV b false (gW a1) cP λcQ cS=>fV b false (fieldAt dO cQ 3) cS λa2 cU=>gZ b false (loadAt aR a2) cU λa3 a4=>gG (yV b) false (λcV=>bR PG aFo #[cE] a4 λcW cX=>cV cW cX) a4 λcY n=>((yV b==some false)=true->dH PG n (loadAt aR a2)=some a3)∧((yV b==some false)=true->dH PG n (loadAt iA a0)=some a1)∧((yV b==some false)=true->dH PG n (loadAt fJ Y)=some Z)∧(gZ b false (gV .neq aR (.tmp 150) (.tmp 160) cY a3) n λcZ a5=>dA (gA b (.bool true) cZ) λd0=>dW d0 (R (.bool false) a5) (pY R s i d j a5)))))))))))) (R (.bool true) o)
def kC(e f n o g:Value)(i:PH)(R:dI):Prop:=∀b,i b=none->fK (PH.set i b (.cells o.cells eD)) λp=>bR PG aBz #[] p λq j=>pP (Op.unary .not q) λr=>dW r (R (.bool false) j) (bR PG aCu #[e,f,g] j λs c=>pP (Op.unary .not s) λu=>dW u (R (.bool true) c) (eN c eD (pT b 0) λv=>bR PG yL #[e,f,n,v] c λd k=>iJ k .eql qG (.tmp 25) (.const (.pointer none)) d (.pointer none) λa=>iW a false d k λw l=>gG (yV a) false (λx=>bR PG kR #[w] l λy z=>x y z) l λA B=>fV a false (Op.unary .not A) B λC m=>dA (gA a (.bool true) C) λD=>dW D (R (.bool false) m) (iV [4,11,12] (λE ρ h=>qL R E (ρ 4) (ρ 11) (ρ 12) h) [g,d,.int .i64 0] m)))
def kC.ann:kW:={b:=λi=>match i with|11=>#[0,0,0,6,14,31,63,127,255,511,1023,2047,4095,255,8447,24831,57599,123135,254207,516351,1048575,2097151,4194303,8388607,16777215,33554431,67108863,134217727,8388607,276824063,813694975,1887436799,4034920447,8329887743,16919822335,34099691519,68719476735,137438953471]|14=>#[0,1,3,7,15,0,32,96,224,480,992,2016,4095,8191,16383,32767,65535,131071,262143,524287,32767,1081343,3178495,7372799,15761407,32538623,66093055,133201919,267419647,535855103,1073741823,2147483647,4294967295,8589934591,17179869183,34359738367,68719476735,137438953471,274877906943,549755813887,1099511627775,8589934591,2207613190143,6605659701247,15401752723455,32993938767871,68178310856703,138547055034367,279284543389695,560759520100351,1123709473521663,2249609380364287,4503599627370495,9007199254740991,18014398509481983,36028797018963967,72057594037927935,144115188075855871,288230376151711743,576460752303423487,1152921504606846975,2305843009213693951,4611686018427387903,36028797018963967,9259400833873739775,27706144907583291391,64599633055002394623,138386609349840601087,285960561939517014015,581108467118869839871,1171404277477575491583,2351995898194986795007,4713179139629809401855,9444732965739290427391,18889465931478580854783]|_=>#[],ord:=λi=>match i with|11=>[0,1,2,3,4,5,6,7,8,9,10,11,13,14,15,16,17,18,19,12,20,21,22,23,24,25,26,28,29,30,31,32,33,34,35,27,36,37]|14=>[0,1,2,3,5,6,7,8,9,10,11,4,12,13,14,15,16,17,18,20,21,22,23,24,25,26,27,28,29,19,30,31,32,33,34,35,36,37,38,39,41,42,43,44,45,46,47,48,49,50,51,40,52,53,54,55,56,57,58,59,60,61,63,64,65,66,67,68,69,70,71,72,62,73,74]|_=>[],keep:=λi=>match i with|9=>[4,11,12]|_=>[],n:=163}
def kC.eq(t0:Value)(t1:Value)(t2:Value)(t3:Value)(t4:Value)(h0:PH)(R:dI):aDy PG kC.ann 200 (aB0 Tryz.f6) (aUa PG Tryz.f6 R) (λt=>(#[t0,t1,t2,t3,t4]:Array Value).getD t undef) h0=kC t0 t1 t2 t3 t4 h0 R:=by kernel_rfl
def kC.call{t0:Value}{t1:Value}{t2:Value}{t3:Value}{t4:Value}{h0:PH}{R:dI}(H:kC t0 t1 t2 t3 t4 h0 R):bR PG vD #[t0,t1,t2,t3,t4] h0 R:=
 aN8 kC.ann 200 mix Tryz.func6 (by kernel_rfl) (by kernel_rfl) (by kernel_rfl) (by kernel_rfl) (by simp[Tryz.ntmps6]) (kC.eq t0 t1 t2 t3 t4 h0 R) H
def neqPtrSelf{h:PH}{x y:Operand}(a:Addr):dH PG h (gV .neq fC x y (.pointer (some a)) (.pointer (some a)))=some (.bool false):=by
 show dH PG h (Op.equalIn (9999+1) fC (.pointer (some a)) (.pointer (some a)) >>= λb=>(pure (Value.bool (!b)):Sem Value))=_;rw[jG];have:dH PG h (Op.equalIn (9999+1) fC (.pointer (some a)) (.pointer (some a)))=some true:=by
  rw[Op.equalIn,kN fC.und];simp only[lY];rw[yU eI.info];simp[eI.size,sameAddr,dH,pure]
 rw[this];rfl
def semE_viewAt{h:PH}{r:Nat}{x:TypeId×Nat}{α:Type}(hs:kE h r=some (some x))(f:Option (Addr×TypeId)->Sem α):dH PG h (viewAt r >>= f)=dH PG h (f none):=by
 rw[jG];have:dH PG h (viewAt r)=some none:=by
  show(kE h r).bind _=_;rw[hs];rfl
 rw[this];rfl
def semE_seenAt{h:PH}{a:Addr}{x:TypeId×Nat}{α:Type}(hs:kE h a.block=some (some x))(f:Addr->Sem α):dH PG h (Conv.seenAt a >>= f)=dH PG h (f a):=by
 rw[jG];have:dH PG h (Conv.seenAt a)=some a:=by
  unfold Conv.seenAt;rw[semE_viewAt hs];rfl
 rw[this];rfl
def semE_cellsIn{h:PH}{r:Nat}{x:TypeId×Nat}{α:Type}(hs:kE h r=some (some x))(f:Option Nat->Sem α):dH PG h (cellsIn r >>= f)=dH PG h (f (some x.2)):=by
 rw[jG];have:dH PG h (cellsIn r)=some (some x.2):=by
  show(kE h r).bind _=_;rw[hs];rfl
 rw[this];rfl
def to_unsafe{h:PH}{a:Nat}{c:Array Value}(ha:h a=some (.cells c gH (0,0)))(hc:1<c.size):dH PG h (convert fC iM (pT a 1))=some (pT a 1):=by
 have hs:kE h a=some (some (gH,c.size)):=by unfold kE;rw[ha]
 show dH PG h (underlying fC >>= _)=_;rw[kN fC.und];show dH PG h (underlying iM >>= _)=_;rw[kN iM.und];show dH PG h (underlying fC >>= _)=_;rw[kN fC.und];show dH PG h (underlying iM >>= _)=_;rw[kN iM.und];show dH PG h (Conv.seenAt ⟨a,1,none⟩ >>= _)=_;rw[semE_seenAt (a:=⟨a,1,none⟩) hs];show dH PG h (cellsIn a >>= _)=_;rw[semE_cellsIn hs];have h1:¬(1 ≥ c.size):=by omega
 simp only[lY];rw[yU eI.info];simp[eI.size,h1,dH,pure]
def from_unsafe{h:PH}{a:Nat}{c:Array Value}(ha:h a=some (.cells c gH (0,0)))(hc:c.size=3):dH PG h (convert iM fC (pT a 1))=some (pT a 1):=by
 have hs:kE h a=some (some (gH,c.size)):=by unfold kE;rw[ha]
 rw[hc] at hs;show dH PG h (underlying iM >>= _)=_;rw[kN iM.und];show dH PG h (underlying fC >>= _)=_;rw[kN fC.und];show dH PG h (underlying iM >>= _)=_;rw[kN iM.und];show dH PG h (underlying fC >>= _)=_;rw[kN fC.und];show dH PG h (Conv.seenAt ⟨a,1,none⟩ >>= _)=_;rw[semE_seenAt (a:=⟨a,1,none⟩) hs];have hv:dH PG h (variablesAt ⟨a,1,none⟩ eI 1)=some true:=by
  show(kE h a).bind _=_;rw[hs]
  kernel_rfl
 simp only[lY];rw[yU eI.info];simp only[eI.size];rw[jG,hv];simp[dH,pure]
def NoEscape_ok{h:PH}{v:Value}{k:dI}(hk:k v h):bR PG zN #[v] h k:=
 bR.entry (v:=v) (by kernel_rfl) hk
structure WAt(h:PH)(a:Nat)(e:Int)(bs:List UInt8)(F:List Nat):Prop where
 here:∃p v G,h a=some (.cells #[.int .i64 e,p,v] gH (0,0))∧(p= .pointer none∨p=pT a 1)∧fY h eZ 1 v (bs.map lA) G∧F=a::G∧a∉G
def WAt.known{h:PH}{a:Nat}{e:Int}{bs:List UInt8}{F:List Nat}(H:WAt h a e bs F):∀b∈F,h b≠none:=by
 obtain⟨p,v,G,ha,hp,hO,rfl,hn⟩:=H;intro b hb;rcases jW.1 hb with rfl|hb
 ·rw[ha];simp
 ·exact hO.known b hb
def WAt.upd{h h':PH}{a:Nat}{e:Int}{bs:List UInt8}{F G:List Nat}(H:WAt h a e bs F)(u:eH G h h')(hd:∀b∈F,b∉G):WAt h' a e bs F:=by
 obtain⟨p,v,G',ha,hp,hO,rfl,hn⟩:=H;exact⟨p,v,G',u.get ha (hd a (by simp)),hp,hO.upd u (λb hb=>hd b (by simp[hb])),rfl,hn⟩
def WAt.ext{h h':PH}{a:Nat}{e:Int}{bs:List UInt8}{F:List Nat}(H:WAt h a e bs F)(u:eM h h'):WAt h' a e bs F:=H.upd u (by simp)
def aFR(h:PH)(a:Nat)(F:List Nat)(e:Int)(bs:List UInt8)(k:PH->Prop):Prop:=∀h' F',WAt h' a e bs F'->eH F h h'->(∀b∈F',b∈F∨h b=none)->k h'
def copyCheck_ok{h:PH}{a:Nat}{m p v:Value}(ha:h a=some (.cells #[m,p,v] gH (0,0)))(hp:p= .pointer none∨p=pT a 1){k:dI}
  (hk:∀h',h' a=some (.cells #[m,pT a 1,v] gH (0,0))->eH [a] h h'->(∀b,b≠a->h' b=h b)->k (.tuple #[]) h'):bR PG mM #[pT a 1] h k:=by
 apply nW.call;unfold nW;have hc:eA h ⟨a,1,none⟩=some p:=by simp[eA,ha]
 simp only[eI.f0,fC.load,hc,dF,reduceIte];rcases hp with rfl|rfl
 ·simp only[zC fC.und,Option.isNone_none,dF,reduceIte];refine dH.semH (to_unsafe ha (by simp)) ?_;refine NoEscape_ok ?_;refine dH.semH (from_unsafe ha (by simp)) ?_;refine lX fC.und rfl ha (by simp) rfl fC.info fC.size ?_;exact hk _ gB (eH.set (by simp)) (λb hb=>aAr hb)
 ·simp only[zC fC.und,aMf,neqPtrSelf,eI.f0,fC.load,hc,dF,reduceIte];exact hk _ ha eH.refl (λ_ _=>rfl)
def byte_lit(x:Int):lH PG (buildSlice eJ 1 #[(0,.int .u8 x)])=some (.cells #[.int .u8 x] eZ,λr=>pure (.slice (some ⟨r,0,none⟩) 1 1)):=by kernel_rfl
def buf_app{h:PH}{a:Nat}{e:Int}{p v x:Value}{bs ys:List UInt8}{G:List Nat}{t2 e2:TypeId}(hu2:PG.underlying t2=some (.slice e2))(ha:h a=some (.cells #[.int .i64 e,p,v] gH (0,0)))(hp:p= .pointer none∨p=pT a 1)(hO:fY h eZ 1 v (bs.map lA) G)(hn:a∉G)
  (hx:jE h 1 x (ys.map lA)) (hl:bs.length+ys.length≤140737488355328) {k:PH->Prop} (hk:aFR h a (a::G) e (bs++ys) k):
  dT PG (Builtin.append_ #[eJ,t2] eJ #[v,x]) h λv' h'=>dT PG (dX eJ (pT a 2) v') h' λ_ h''=>k h'':=by
 refine mQ eJ.und hu2 eZ.info eZ.size eZ.bytes eZ.zero rfl (by decide) hO hx (lA.isCell _) (by simp;omega) ?_;intro v2 h2 F2 hO2 u2 k2 _;rw[←xX] at hO2;have ha2:=u2.get ha hn;have hn2:a∉F2:=λhm=>by
  rcases k2 a hm with h1|h1
  ·exact hn h1
  ·rw[ha] at h1;cases h1
 refine lX eJ.und rfl ha2 (by simp) ?_ eJ.info eJ.size ?_
 ·obtain⟨_,_,rfl,-⟩:=hO2.slR.here;rfl
 ·refine hk _ (a::F2) ⟨p,v2,F2,gB,hp,hO2.upd (eH.set (F:=[a]) (by simp)) (λb hb=>by simp;rintro rfl;exact hn2 hb),rfl,hn2⟩ ((u2.mono λb hb=>.inl (by simp[hb])).trans (eH.set (by simp))) (λb hb=>?_);rcases jW.1 hb with rfl|hb
  ·exact .inl (by simp)
  ·rcases k2 b hb with h1|h1
   ·exact .inl (by simp[h1])
   ·exact .inr h1
def WriteByte_ok{h:PH}{a:Nat}{e:Int}{bs:List UInt8}{F:List Nat}(hW:WAt h a e bs F)(hl:bs.length+1≤140737488355328)(x:UInt8){k:dI}(hk:aFR h a F e (bs++[x]) (k .nilIface)):
  bR PG qW #[pT a 1,.int .u8 x.toNat] h k:=by
 obtain⟨p,v,G,ha,hp,hO,rfl,hn⟩:=hW;apply nV.call;unfold nV;refine copyCheck_ok ha hp λh1 ha1 u1 o1=>?_;have hc:eA h1 ⟨a,2,none⟩=some v:=by simp[eA,ha1]
 have hO1:=hO.upd u1 (λb hb hf=>by simp at hf;subst hf;exact hn hb);simp only[eI.f1,eJ.load,hc,byte_lit,dF,reduceIte];intro r hr;refine jC ?_;have u2:eM h1 (h1.set r (.cells #[.int .u8 x.toNat] eZ)):=eH.new hr;have s2:jE (h1.set r (.cells #[.int .u8 x.toNat] eZ)) 1 (.slice (some ⟨r,0,none⟩) 1 1) ([x].map lA):=(fY.lit (lA.rows [x]) gB (by simp) (by decide) (by simp[lA])).slR;refine buf_app eJ.und (u2.get ha1) (.inr rfl) (hO1.ext u2) hn s2 (by simpa using hl) ?_;intro h3 F3 hW3 u3 k3;refine hk _ F3 hW3 ((u1.mono λb hb=>.inl (by simp at hb;simp[hb])).trans (u2.upd.trans u3)) λb hb=>?_;rcases k3 b hb with h'|h'
 ·exact .inl h'
 ·by_cases hba:b=a
  ·exact .inl (by simp[hba])
  ·have:=u2.none h';rw[o1 b hba] at this;exact .inr this
def buf_str{h:PH}{a:Nat}{e:Int}{p v:Value}{bs ys:List UInt8}{G:List Nat}(ha:h a=some (.cells #[.int .i64 e,p,v] gH (0,0)))(hp:p= .pointer none∨p=pT a 1)(hO:fY h eZ 1 v (bs.map lA) G)(hn:a∉G)
  (hl:bs.length+ys.length≤140737488355328) {k:PH->Prop} (hk:aFR h a (a::G) e (bs++ys) k):
  dT PG (Builtin.append_ #[eJ,aT] eJ #[v,.string (tx ys)]) h λv' h'=>dT PG (dX eJ (pT a 2) v') h' λ_ h''=>k h'':=by
 refine aNY eJ.und aT.und eZ.info eZ.size eZ.bytes eZ.zero rfl (by decide) hO (by simp;omega) ?_;intro v2 h2 F2 hO2 u2 k2 _;rw[←xX] at hO2;have ha2:=u2.get ha hn;have hn2:a∉F2:=λhm=>by
  rcases k2 a hm with h1|h1
  ·exact hn h1
  ·rw[ha] at h1;cases h1
 refine lX eJ.und rfl ha2 (by simp) ?_ eJ.info eJ.size ?_
 ·obtain⟨_,_,rfl,-⟩:=hO2.slR.here;rfl
 ·refine hk _ (a::F2) ⟨p,v2,F2,gB,hp,hO2.upd (eH.set (F:=[a]) (by simp)) (λb hb=>by simp;rintro rfl;exact hn2 hb),rfl,hn2⟩ ((u2.mono λb hb=>.inl (by simp[hb])).trans (eH.set (by simp))) (λb hb=>?_);rcases jW.1 hb with rfl|hb
  ·exact .inl (by simp)
  ·rcases k2 b hb with h1|h1
   ·exact .inl (by simp[h1])
   ·exact .inr h1
def WriteString_ok{h:PH}{a:Nat}{e:Int}{bs ys:List UInt8}{F:List Nat}(hW:WAt h a e bs F)(hl:bs.length+ys.length≤140737488355328){k:dI}(hk:aFR h a F e (bs++ys) (k (.tuple #[.int .i64 ys.length,.nilIface]))):
  bR PG jB #[pT a 1,.string (tx ys)] h k:=by
 obtain⟨p,v,G,ha,hp,hO,rfl,hn⟩:=hW;apply lC.call;unfold lC;refine copyCheck_ok ha hp λh1 ha1 u1 o1=>?_;have hc:eA h1 ⟨a,2,none⟩=some v:=by simp[eA,ha1]
 have hO1:=hO.upd u1 (λb hb hf=>by simp at hf;subst hf;exact hn hb);simp only[eI.f1,eJ.load,hc,aT.len,mF,dF,reduceIte];refine buf_str ha1 (.inr rfl) hO1 hn hl ?_;intro h3 F3 hW3 u3 k3;refine hk _ F3 hW3 ((u1.mono λb hb=>.inl (by simp at hb;simp[hb])).trans u3) λb hb=>?_;rcases k3 b hb with h'|h'
 ·exact .inl h'
 ·by_cases hba:b=a
  ·exact .inl (by simp[hba])
  ·rw[o1 b hba] at h';exact .inr h'
def semE_loadBytes{h:PH}:∀(l:List UInt8) (a:Addr) (acc:ByteArray),a.spot=none->(∀j x,l[j]? =some x->eA h (a.add j)=some (.int .u8 x.toNat))->dH PG h (loadBytes a acc l.length)=some ⟨acc.data++l.toArray⟩
 | [],a,acc,_,_=>by show some acc=_;simp
 | x::xs,a,acc,hsp,hc=>by
  have h0:=hc 0 x rfl;have ha0:a.add 0=a:=by obtain⟨b,o,w⟩:=a;cases w<;>simp[Addr.add]
  rw[ha0] at h0;show(eA h a).bind _=_;rw[h0,aAR];show dH PG h (loadBytes (a.add 1) (acc.push ((x.toNat:Int).toNat.toUInt8)) xs.length)=_;rw[semE_loadBytes xs (a.add 1) _ (by obtain⟨b,o,w⟩:=a;simp at hsp;subst hsp;rw[lV]) λj y hy=>?_]
  ·congr 1;apply ByteArray.ext;show(acc.push _).data++xs.toArray=_;rw[ByteArray.data_push];apply zLw;simp
  ·have:=hc (j+1) y (by simpa using hy);have e:(a.add 1).add j=a.add (j+1):=by
    obtain⟨b,o,w⟩:=a;simp at hsp;subst hsp;rw[lV,lV,lV];congr 1;omega
   rw[e];exact this
def unsafeStr{h:PH}{g:Nat}{cs:Array Value}{bs:List UInt8}(hb:h g=some (.cells cs eZ (0,0)))(hle:bs.length≤cs.size)(hcs:cs.toList.take bs.length=bs.map λb=>Value.int .u8 b.toNat)(hne:bs≠[])(hmax:bs.length≤xS){k:dI}
  (hk:∀h',eH [g] h h'->k (.string (tx bs)) h'):dT PG (Builtin.unsafeString_ #[pV,aR] aT #[pT g 0,.int .i64 bs.length]) h k:=by
 have hl:bs.length≠0:=by simpa using hne
 have h63:¬((bs.length:Int)>IntKind.i64.max):=by
  have:IntKind.i64.max=9223372036854775807:=rfl;unfold xS at hmax;omega
 have hneg:¬(bs.length:Int)<0:=by omega
 have hz:¬(bs.length:Int)=0:=by omega
 have hdef:Builtin.unsafeString_ #[pV,aR] aT #[pT g 0,.int .i64 bs.length]=
   (do
    let n ←asInt (.int .i64 bs.length)
    if n<0 then runtimePanic (.error "unsafe.String: len out of range")
    if n>IntKind.i64.max then unsupported (.unsafePointer "String: a length above the largest int")
    if n=0 then pure (.string .empty)
    else if ←variablesAt ⟨g,0,none⟩ (←elemOf pV) n.toNat then do
     let s ←loadBytes ⟨g,0,none⟩ .empty n.toNat
     freeze ⟨g,0,none⟩ n.toNat
     pure (.string s)
    else unsupported (.unsafePointer "String: not so many bytes at ptr")):=rfl
 rw[hdef];have hs:kE h g=some (some (eZ,cs.size)):=by unfold kE;rw[hb]
 have hv:dH PG h (variablesAt ⟨g,0,none⟩ eZ bs.length)=some true:=by
  show(kE h g).bind _=_;rw[hs];have hc1:PG.cellsOf eZ=1:=by kernel_rfl
  have:=Go.Lib.liesAt_bytes (P:=PG) hc1 (cs.size/PG.cellsOf eZ) bs.length (by rw[hc1];simpa using hle);show some (liesAt PG PG.depth eZ (cs.size/PG.cellsOf eZ) 0 eZ bs.length)=some true;rw[this]
 have hlb:=semE_loadBytes (h:=h) bs ⟨g,0,none⟩ .empty rfl (λj x hx=>by
  rw[lV];unfold eA;simp only[hb,kB];have hj:j<bs.length:=(zLA.1 hx).1;have:(cs.toList.take bs.length)[j]? =some (.int .u8 x.toNat):=by rw[hcs,xB,hx];rfl
  rw[aEv,if_pos hj] at this;simpa using this)
 have helem:dH PG h (elemOf pV)=some eZ:=by kernel_rfl
 simp only[asInt,asIntOf,pure_bind,map_pure,hneg,h63,hz,if_false,xZ];refine iY helem ?_;refine iY hv ?_;simp only[if_true];refine iY hlb ?_;show(∃o,h g=some o)∧_;refine⟨⟨_,hb⟩,?_⟩;have hfin:=hk (nC h ⟨g,0,none⟩ bs.length) (λb o hbo hn=>by
  unfold nC;rw[if_neg hl,if_neg (by simpa using hn)];exact hbo)
 show k (.string _) _;have e:(⟨ByteArray.empty.data++bs.toArray⟩:ByteArray)=tx bs:=by apply ByteArray.ext;simp[tx]
 rw[e];exact hfin
def unsafeNone{h:PH}{q:Option Addr}:dH PG h (Builtin.unsafeString_ #[pV,aR] aT #[.pointer q,.int .i64 0])=some (.string (tx [])):=by
 cases q<;>rfl
def String_ok{h:PH}{a:Nat}{e:Int}{bs:List UInt8}{F:List Nat}(hW:WAt h a e bs F){k:dI}(hk:∀h',eH F h h'->k (.string (tx bs)) h'):
  bR PG kS #[pT a 1] h k:=by
 obtain⟨p,v,G,ha,hp,hO,rfl,hn⟩:=hW;have hc:eA h ⟨a,2,none⟩=some v:=by simp[eA,ha]
 have lv:=hO.slR.len (t':=aR) eJ.und;rw[jJ] at lv;apply lD.call;unfold lD;simp only[eI.f1,eJ.load,hc,lv,dF,reduceIte];have hload:∀h',eA h' ⟨a,2,none⟩=some v->dH PG h' (loadAt eJ (pT a 2))=some v:=λh' h1=>by rw[eJ.load];exact h1
 rcases hO.here with⟨rfl,hr,rfl⟩|⟨g,cap,cs,rfl,rfl,hb,hle,hmax,hsz,htk⟩
 ·have hnil:bs=[]:=by simpa using hr
  subst hnil;refine dH.semH (a:=.pointer none) rfl ?_;refine⟨hc,?_⟩;refine dH.semH unsafeNone ?_;exact hk _ eH.refl
 ·simp only[jJ] at *;by_cases hne:bs=[]
  ·subst hne;by_cases hc0:cap=0
   ·subst hc0;have hs:kE h g=some (some (eZ,cs.size)):=by unfold kE;rw[hb]
    show dT PG (viewAt g >>= _) h _;refine iY (a:=none) (by rw[show viewAt g=(viewAt g >>= λx=>pure x) by simp,semE_viewAt hs];rfl) ?_;refine iY (a:=eZ) (by kernel_rfl) ?_;intro r hr;have u:eM h (h.set r (.view ⟨g,0,none⟩ eZ)):=eH.new hr;refine⟨by rw[eA];simp[u.get ha],?_⟩;refine dH.semH unsafeNone ?_;exact hk _ u.upd
   ·refine dH.semH (a:=pT g 0) ?_ ?_
    ·show dH PG h (if cap≠0 then _ else _)=_;rw[if_pos hc0];rfl
    ·refine⟨hc,?_⟩;refine dH.semH unsafeNone ?_;exact hk _ eH.refl
  ·have hpos:0<bs.length:=aKL.2 hne;refine dH.semH (a:=pT g 0) ?_ ?_
   ·show dH PG h (if cap≠0 then _ else _)=_;rw[if_pos (by omega)];rfl
   ·refine⟨hc,?_⟩;rw[Nat.mul_one,lA.flat] at htk;refine unsafeStr hb (by omega) htk hne (by omega) λh' u=>?_;exact hk _ (u.mono λb hb=>.inl (by simp at hb;simp[hb]))
structure WS(h0:PH)(F0:List Nat)(h:PH)(a:Nat)(e:Int)(bs:List UInt8)(F:List Nat):Prop where
 at_:WAt h a e bs F
 upd:eH F0 h0 h
 grow:∀b∈F,b∈F0∨h0 b=none
def WS.refl{h:PH}{a:Nat}{e:Int}{bs:List UInt8}{F:List Nat}(H:WAt h a e bs F):WS h F h a e bs F:=⟨H,eH.refl,λb hb=>.inl hb⟩
def WS.step{h0 h h':PH}{F0 F F':List Nat}{a:Nat}{e e':Int}{bs bs':List UInt8}(S:WS h0 F0 h a e bs F)(H:WAt h' a e' bs' F')(u:eH F h h')(g:∀b∈F',b∈F∨h b=none):WS h0 F0 h' a e' bs' F':=
 ⟨H,S.upd.then u S.grow,λb hb=>by
  rcases g b hb with h1|h1
  ·exact S.grow b h1
  ·by_cases hF:b∈F0
   ·exact .inl hF
   ·right;cases hh:h0 b with
    | none=>rfl
    | some o=>rw[S.upd.get hh hF] at h1;cases h1⟩
def WS.ext{h0 h h':PH}{F0 F:List Nat}{a:Nat}{e:Int}{bs:List UInt8}(S:WS h0 F0 h a e bs F)(u:eM h h'):WS h0 F0 h' a e bs F:=S.step (S.at_.ext u) u.upd (λb hb=>.inl hb)
def WS.next{h:PH}{a:Nat}{F:List Nat}{e:Int}{bs:List UInt8}{k:PH->Prop}(hk:aFR h a F e bs k){h':PH}{F':List Nat}(S:WS h F h' a e bs F'):k h':=hk h' F' S.at_ S.upd S.grow
def aNi(x:Int):dE PG (convert aR dN (.int .i64 x))=some (.int .u64 (IntKind.u64.wrap x)):=by kernel_rfl
def aWh(x:Int):dE PG (convert dN eZ (.int .u64 x))=some (.int .u8 (IntKind.u8.wrap x)):=by kernel_rfl
def aN4(x:Int):dE PG (convert dN aR (.int .u64 x))=some (.int .i64 (IntKind.i64.wrap x)):=by kernel_rfl
def aRF(x:Int):dE PG (convert eZ dN (.int .u8 x))=some (.int .u64 (IntKind.u64.wrap x)):=by kernel_rfl
def aUt{n k:Nat}(hk:k<8):((n:Int).fdiv (2^(min (((8*k:Nat):Int)).toNat IntKind.u64.bits)))=((n/256^k:Nat):Int):=by
 have e1:min (((8*k:Nat):Int)).toNat IntKind.u64.bits=8*k:=by
  have:IntKind.u64.bits=64:=rfl;rw[this];omega
 have e2:(2:Nat)^(8*k)=256^k:=by rw[Nat.pow_mul]
 rw[e1];have e3:((2:Int)^(8*k))=((256^k:Nat):Int):=by
  rw[←e2];exact(Int.natCast_pow 2 (8*k)).symm
 rw[e3,Int.fdiv_eq_ediv_of_nonneg _ (Int.natCast_nonneg _)];exact(Int.natCast_ediv n (256^k)).symm
def aPK{h:PH}{a:Nat}{e:Int}{bs:List UInt8}{F:List Nat}(hW:WAt h a e bs F){n c:Nat}(hc:c≤8)(hn:n<18446744073709551616)(hl:bs.length≤140737488355000){k:dI}(hk:aFR h a F e (bs++be n c) (k (.tuple #[]))):
  bR PG vW #[pT a 0,.int .u64 n,.int .i64 c] h k:=by
 apply xO.call;unfold xO;have e0:IntKind.i64.wrap ((c:Int)-1)=(c:Int)-1:=fW (by omega) (by omega);simp only[e0,dF,reduceIte];refine⟨λvs h'=>∃(i:Nat) (F':List Nat),i≤c∧vs=[pT a 0,.int .u64 n,.int .i64 ((c:Int)-1-i)]∧WS h F h' a e (bs++(be n c).take i) F',λvs _=>match vs with|[_,_,.int _ j]=>(j+1).toNat|_=>0,⟨0,F,by omega,by simp,by simpa using WS.refl hW⟩,?_⟩;rintro ρ h' ⟨i,F',hi,hvs,S⟩;simp only[jF,kF,lT,and_true] at hvs;obtain⟨s0,s1,s2⟩:=hvs;rw[s0,s1,s2];unfold aHK;by_cases hlt:i<c
 ·have hd:(0≤(c:Int)-1-i)=True:=by apply eq_true;omega
  obtain⟨q,hq⟩:∃q:Nat,c-1-i=q:=⟨_,rfl⟩;have hqi:(c:Int)-1-i=(q:Int):=by omega
  have e1:IntKind.i64.wrap (8*(q:Int))=((8*q:Nat):Int):=by rw[fW (by omega) (by omega)];omega
  have e2:IntKind.i64.wrap ((q:Int)-1)=(c:Int)-1-((i+1:Nat):Int):=by rw[fW (by omega) (by omega)];omega
  have h8:(0:Int)≤((8*q:Nat):Int):=by omega
  have e3:IntKind.u8.wrap (((n/256^q:Nat):Int))=((UInt8.ofNat (n/256^q%256)).toNat:Int):=by
   rw[aJy];simp
  rw[hqi] at hd ⊢;simp only[hd,gH.f1,kB,e1,aPC h8,aUt (show q<8 by omega),aWh,e3,e2,dF,reduceIte];have hlen:(bs++(be n c).take i).length≤140737488355100:=by
   rw[kO,mT,iZ];omega
  refine WriteByte_ok S.at_ (by omega) _ λh3 F3 hW3 u3 k3=>?_;have ht:=aPW (n:=n) hlt;rw[hq] at ht;rw[xN,←ht] at hW3;exact⟨⟨i+1,F3,by omega,rfl,S.step hW3 u3 k3⟩,by simp[s2];omega⟩
 ·have hd:(0≤(c:Int)-1-i)=False:=by apply eq_false;omega
  rw[sU (by rw[iZ];omega)] at S;simp only[hd,dF,reduceIte];exact S.next hk
def aRC{h:PH}{a:Nat}{e:Int}{bs:List UInt8}{F:List Nat}(hW:WAt h a e bs F)(x:Int){k:dI}(hk:aFR h a F (if e=0 then x else e) bs (k (.tuple #[]))):
  bR PG kG #[pT a 0,.int .i64 x] h k:=by
 have hW':=hW;obtain⟨p,v,G,ha,hp,hO,rfl,hn⟩:=hW;have hc:eA h ⟨a,0,none⟩=some (.int .i64 e):=by simp[eA,ha]
 apply qP.call;unfold qP;by_cases h0:e=0
 ·have q:(e==0)=true:=by simp[h0]
  rw[if_pos h0] at hk;simp only[oA.f0,eY.load,hc,q,dF,reduceIte];refine lX eY.und rfl ha (by simp) rfl eY.info eY.size ?_;refine hk _ (a::G) ⟨p,v,G,gB,hp,hO.upd (eH.set (F:=[a]) (by simp)) (λb hb=>by simp;rintro rfl;exact hn hb),rfl,hn⟩ (eH.set (by simp)) (λb hb=>.inl hb)
 ·have q:(e==0)=false:=by simp[h0]
  rw[if_neg h0] at hk;simp only[oA.f0,eY.load,hc,q,dF,reduceIte];exact hk _ _ hW' eH.refl (λb hb=>.inl hb)
def lQ(s:Int×List UInt8)(n:Int):Int×List UInt8:=if 0≤n∧n≤255 then(s.1,s.2++be n.toNat 1) else(if s.1=0 then 1 else s.1,s.2)
def aFY(s:Int×List UInt8)(l:List UInt8):Int×List UInt8:=if l.length≤65535 then(s.1,s.2++(be l.length 2++l)) else(if s.1=0 then 1 else s.1,s.2)
def aWV{h:PH}{a:Nat}{e:Int}{bs:List UInt8}{F:List Nat}(hW:WAt h a e bs F)(hl:bs.length≤140737488355000)(n:Int){k:dI}(hk:aFR h a F (lQ (e,bs) n).1 (lQ (e,bs) n).2 (k (.tuple #[]))):
  bR PG jT #[pT a 0,.int .i64 n] h k:=by
 apply aCC.call;unfold aCC;unfold lQ at hk;have bad:¬(0≤n∧n≤255)->bR PG kG #[pT a 0,.int .i64 1] h λv12 h13=>k (.tuple #[]) h13:=by
  intro hb;rw[if_neg hb] at hk;exact aRC hW 1 hk
 by_cases h1:n<0
 ·simp only[h1,gH.f0,dF,reduceIte];exact bad (by omega)
 ·by_cases h2:255<n
  ·simp only[h1,h2,gH.f0,dF,reduceIte];exact bad (by omega)
  ·rw[if_pos (by omega)] at hk;obtain⟨m,rfl⟩:=zLm (a:=n) (by omega);have e1:IntKind.u64.wrap (m:Int)=(m:Int):=lJ (by omega) (by omega);simp only[h1,h2,aNi,e1,dF,reduceIte];exact aPK hW (c:=1) (by omega) (by omega) hl hk
def aTE{h:PH}{a:Nat}{e:Int}{bs:List UInt8}{F:List Nat}(hW:WAt h a e bs F)(hl:bs.length≤140737488355000){n:Nat}(hn:n<18446744073709551616){k:dI}(hk:aFR h a F e (bs++be n 8) (k (.tuple #[]))):
  bR PG lN #[pT a 0,.int .u64 n] h k:=by
 apply aAt.call;unfold aAt;exact aPK hW (c:=8) (by omega) hn hl hk
def aQ7{h:PH}{a:Nat}{e:Int}{bs ys:List UInt8}{F:List Nat}(hW:WAt h a e bs F)(hl:bs.length+ys.length≤140737488355328){k:dI}(hk:aFR h a F e (bs++ys) (k (.tuple #[]))):
  bR PG oP #[pT a 0,.string (tx ys)] h k:=by
 apply aDI.call;unfold aDI;simp only[gH.f1,kB,dF,reduceIte];exact WriteString_ok hW hl hk
def aWi{h:PH}{a:Nat}{e:Int}{bs ys:List UInt8}{F:List Nat}(hW:WAt h a e bs F)(hl:bs.length≤140737488200000){k:dI}(hk:aFR h a F (aFY (e,bs) ys).1 (aFY (e,bs) ys).2 (k (.tuple #[]))):
  bR PG uW #[pT a 0,.string (tx ys)] h k:=by
 apply aCX.call;unfold aCX;unfold aFY at hk;by_cases h1:ys.length≤65535
 ·have q:((65535:Int)<(ys.length:Int))=False:=by apply eq_false;omega
  rw[if_pos h1] at hk;have e1:IntKind.u64.wrap (ys.length:Int)=(ys.length:Int):=lJ (by omega) (by omega);simp only[aT.len,mF,q,aNi,e1,dF,reduceIte];refine aPK hW (c:=2) (by omega) (by omega) (by omega) λh2 F2 hW2 u2 k2=>?_;have hl2:=iZ ys.length 2;refine aQ7 hW2 (by rw[kO,hl2];omega) λh3 F3 hW3 u3 k3=>?_;rw[xN] at hW3;exact WS.next hk (((WS.refl hW).step hW2 u2 k2).step hW3 u3 k3)
 ·have q:((65535:Int)<(ys.length:Int))=True:=by apply eq_true;omega
  rw[if_neg h1] at hk;simp only[aT.len,mF,q,gH.f0,dF,reduceIte];exact aRC hW 1 hk
def aLh{h:PH}{a:Nat}{e:Int}{c:Array Value}{T:TypeId}{fr:Nat×Nat}(ha:h a=some (.cells c T fr))(hc:c[0]? =some (.int .i64 e)){k:dI}(hk:k (.int .i64 e) h):bR PG jR #[pT a 0] h k:=by
 apply aDK.call;unfold aDK;have hc':eA h ⟨a,0,none⟩=some (.int .i64 e):=by simp[eA,ha,hc]
 simp only[oA.f0,eY.load,hc',dF,reduceIte];exact hk
def aEI(s:Int×List UInt8):List UInt8×Int:=if s.1=0 then(s.2,0) else([],s.1)
def aMi{h:PH}{a:Nat}{e:Int}{bs:List UInt8}{F:List Nat}(hW:WAt h a e bs F){k:dI}(hk:∀h',eH F h h'->k (.tuple #[.string (tx (aEI (e,bs)).1),.int .i64 (aEI (e,bs)).2]) h'):
  bR PG pB #[pT a 0] h k:=by
 have hW':=hW;obtain⟨p,v,G,ha,hp,hO,rfl,hn⟩:=hW;apply aBP.call;unfold aBP;unfold aEI at hk;simp only[gH.f0,gH.f1,kB,dF,reduceIte];refine aLh ha rfl ?_;by_cases h0:e=0
 ·have q:(e !=0)=false:=by simp[h0]
  rw[if_pos h0] at hk;simp only[q,dF,reduceIte];exact String_ok hW' hk
 ·have q:(e !=0)=true:=by simp[h0]
  rw[if_neg h0] at hk;simp only[q,dF,reduceIte];exact hk _ eH.refl
def aYY{t:TypeId}{x b:Nat}(hx:x*256+255<18446744073709551616)(hb:b<256):dE PG (binOp .or t (.int .u64 ((x*256:Nat):Int)) (.int .u64 (b:Int)))=some (.int .u64 ((x*256+b:Nat):Int)):=by
 have e:dE PG (binOp .or t (.int .u64 ((x*256:Nat):Int)) (.int .u64 (b:Int)))=some (.int .u64 (IntKind.u64.wrap ((BitVec.ofInt IntKind.u64.bits ((x*256:Nat):Int) ||| BitVec.ofInt IntKind.u64.bits (b:Int)).toNat))):=rfl;rw[e];congr 2;have h64:IntKind.u64.bits=64:=rfl;rw[h64,BitVec.toNat_or,BitVec.ofInt_natCast,BitVec.ofInt_natCast,BitVec.toNat_ofNat,BitVec.toNat_ofNat,aKQ (by omega),aKQ (by omega)];have:=Nat.shiftLeft_add_eq_or_of_lt (i:=8) (b:=b) (by omega) x;rw[Nat.shiftLeft_eq] at this;have e2:(x*256 ||| b)=x*256+b:=this.symm;rw[e2,lJ (by omega) (by omega)]
structure mC(h:PH)(a:Nat)(e:Int)(s:List UInt8):Prop where
 here:h a=some (.cells #[.int .i64 e,.string (tx s)] gF (0,0))
def mC.upd{h h':PH}{a:Nat}{e:Int}{s:List UInt8}{G:List Nat}(H:mC h a e s)(u:eH G h h')(hd:a∉G):mC h' a e s:=⟨u.get H.here hd⟩
def mC.ext{h h':PH}{a:Nat}{e:Int}{s:List UInt8}(H:mC h a e s)(u:eM h h'):mC h' a e s:=H.upd u (by simp)
def aIR{h:PH}(s:List UInt8){k:dI}(hk:∀a h',mC h' a 0 s->eM h h'->h a=none->k (pT a 0) h'):bR PG yF #[.string (tx s)] h k:=by
 apply aD1.call;unfold aD1;have e1:dE PG (build gF #[(1,.string (tx s))])=some (.agg #[.int .i64 0,.string (tx s)]):=by kernel_rfl
 simp only[e1,dF,reduceIte];intro r hr;exact hk r _ ⟨gB⟩ (eH.new hr) hr
def nM(st:Int×List UInt8)(n:Int):List UInt8×(Int×List UInt8):=
 if st.1=0∧0≤n∧n≤st.2.length then(st.2.take n.toNat,(0,st.2.drop n.toNat)) else([],(if st.1=0 then 6 else st.1,st.2))
def aNK{h:PH}{a:Nat}{e:Int}{s:List UInt8}(hR:mC h a e s)(n:Int){k:dI}(hk:∀h',mC h' a (nM (e,s) n).2.1 (nM (e,s) n).2.2->eH [a] h h'->k (.string (tx (nM (e,s) n).1)) h'):
  bR PG sT #[pT a 0,.int .i64 n] h k:=by
 have ha:=hR.here;have c1:eA h ⟨a,1,none⟩=some (.string (tx s)):=by simp[eA,ha]
 have c0:eA h ⟨a,0,none⟩=some (.int .i64 e):=by simp[eA,ha]
 apply aC7.call;unfold aC7;have tail:∀(e':Int),(e'≠0->∀h',h' a=some (.cells #[.int .i64 e',.string (tx s)] gF (0,0))->eH [a] h h'->k (.string (tx [])) h')->(e'=0->0≤n∧n≤s.length)->(e'=0->e=0)->∀h',h' a=some (.cells #[.int .i64 e',.string (tx s)] gF (0,0))->eH [a] h h'->uX k (pT a 0) (.int .i64 n) h':=by
  intro e' hbad hgood he h' ha' u';unfold uX;simp only[gF.f0,gF.f1,kB,dF,reduceIte];refine aLh ha' rfl ?_;by_cases h0:e'=0
  ·have q:(e' !=0)=false:=by simp[h0]
   obtain⟨g1,g2⟩:=hgood h0;have c1':eA h' ⟨a,1,none⟩=some (.string (tx s)):=by simp[eA,ha']
   obtain⟨m,rfl⟩:=zLm g1;have hm:m≤s.length:=by omega
   simp only[q,gF.f1,kB,aT.load,c1',lE (lo:=none) aT.und (.inl ⟨rfl,rfl⟩) (.inr ⟨.i64,rfl⟩) (mK m) hm,lE (hi:=none) aT.und (.inr ⟨.i64,rfl⟩) (.inl ⟨rfl,rfl⟩) hm (nQ _),dF,reduceIte];refine lX aT.und rfl ha' (by simp) rfl aT.info aT.size ?_;have hr:nM (e,s) (m:Int)=(s.take m,(0,s.drop m)):=by
    unfold nM;rw[if_pos ⟨he h0,by omega,by simpa using hm⟩];simp
   rw[hr] at hk;rw[zLb,sU (nQ _)];refine hk _ ⟨?_⟩ (u'.trans (eH.set (by simp)));rw[gB,h0];rfl
  ·have q:(e' !=0)=true:=by simp[h0]
   simp only[q,dF,reduceIte];exact hbad h0 h' ha' u'
 have hin:e=0->¬(0≤n∧n≤s.length)->nM (e,s) n=([],(6,s)):=λh0 hb=>by
  unfold nM;rw[if_neg (by rintro⟨_,h2⟩;exact hb h2),if_pos h0]
 have hne:e≠0->nM (e,s) n=([],(e,s)):=λh0=>by
  unfold nM;rw[if_neg (by rintro⟨h1,_⟩;exact h0 h1),if_neg h0]
 have fails:¬(0≤n∧n≤s.length)->bR PG kG #[pT a 0,.int .i64 6] h λv h'=>uX k (pT a 0) (.int .i64 n) h':=by
  intro hb;apply qP.call;unfold qP;by_cases h0:e=0
  ·have q:(e==0)=true:=by simp[h0]
   simp only[oA.f0,eY.load,c0,q,dF,reduceIte];refine lX eY.und rfl ha (by simp) rfl eY.info eY.size ?_;refine tail 6 (λ_ h' ha' u'=>?_) (λh=>absurd h (by decide)) (λh=>absurd h (by decide)) _ gB (eH.set (by simp));have:=hk h';rw[hin h0 hb] at this;exact this ⟨ha'⟩ u'
  ·have q:(e==0)=false:=by simp[h0]
   simp only[oA.f0,eY.load,c0,q,dF,reduceIte];refine tail e (λ_ h' ha' u'=>?_) (λh1=>absurd h1 h0) (λh1=>h1) _ ha eH.refl;have:=hk h';rw[hne h0] at this;exact this ⟨ha'⟩ u'
 by_cases h1:n<0
 ·simp only[h1,gF.f0,dF,reduceIte];exact fails (by omega)
 ·by_cases h2:(s.length:Int)<n
  ·simp only[h1,gF.f0,gF.f1,kB,aT.load,c1,aT.len,mF,h2,dF,reduceIte];exact fails (by omega)
  ·simp only[h1,gF.f1,kB,aT.load,c1,aT.len,mF,h2,dF,reduceIte];refine tail e (λh0 h' ha' u'=>?_) (λ_=>by omega) (λh1=>h1) _ ha eH.refl;have:=hk h';rw[hne h0] at this;exact this ⟨ha'⟩ u'
def gO(st:Int×List UInt8)(c:Nat):Nat×(Int×List UInt8):=(mJ (nM st c).1,(nM st c).2)
def aKF(st:Int×List UInt8)(c:Nat):(nM st c).1.length≤c:=by
 unfold nM;split
 ·simp;omega
 ·simp
def aPY{l:List UInt8}{i:Nat}{b:UInt8}(hb:l[i]? =some b):mJ (l.take (i+1))=mJ (l.take i)*256+b.toNat:=by
 rw[zLR,hb];exact aKZ _ _
def aOt{l:List UInt8}{i:Nat}(hi:i<l.length)(hl:l.length≤8):mJ (l.take i)*256+255<18446744073709551616:=by
 have h1:=aJm (l.take i);rw[mT,aGb (by omega)] at h1;have h2:256^i≤256^7:=aNb (by decide) (by omega);have h3:(256:Nat)^7=72057594037927936:=by decide
 omega
def aPQ{h:PH}{a:Nat}{e:Int}{s:List UInt8}(hR:mC h a e s){c:Nat}(hc:c≤8){k:dI}(hk:∀h',mC h' a (gO (e,s) c).2.1 (gO (e,s) c).2.2->eH [a] h h'->k (.int .u64 (gO (e,s) c).1) h'):
  bR PG wB #[pT a 0,.int .i64 c] h k:=by
 apply aDD.call;unfold aDD;refine aNK hR c λh1 hR1 u1=>?_;have hlen:=aKF (e,s) c;unfold gO at hk;generalize hrr:nM (e,s) (c:Int)=rr at *;refine aUl aT.und eJ.und eZ.und (by omega) λv h2 hS u2=>?_;have lv:=hS.len (t':=aR) eJ.und;rw[jJ] at lv;simp only[lv,dF,reduceIte];refine⟨λvs h'=>∃i:Nat,i≤rr.1.length∧vs=[.int .u64 (mJ (rr.1.take i)),v,.int .i64 rr.1.length,.int .i64 i]∧h'=h2,gT rr.1.length 3,⟨0,by omega,rfl,rfl⟩,?_⟩;rintro ρ h' ⟨i,hi,hvs,rfl⟩;simp only[jF,kF,lT,and_true] at hvs;obtain⟨s0,s1,s2,s3⟩:=hvs;rw[s0,s1,s2,s3];unfold aHJ;by_cases hlt:i<rr.1.length
 ·have hd:((i:Int)<(rr.1.length:Int))=True:=by apply eq_true;omega
  obtain⟨b,hb⟩:∃b,rr.1[i]? =some b:=⟨_,lG hlt⟩;obtain⟨p,p1,p2⟩:=hS.loadCell eJ.und eZ.info eZ.size eZ.und rfl (k:=.i64) (j:=(i:Int)) (x:=.int .u8 b.toNat) (by omega) (by simp[xB,hb,lA]);have hsm:=aOt hlt (by omega);have ei:=oM (i:=i) (by omega);have e1:min (8:Int).toNat IntKind.u64.bits=8:=by decide
  have e2:IntKind.u64.wrap ((mJ (rr.1.take i):Int)*2^8)=((mJ (rr.1.take i)*256:Nat):Int):=by rw[lJ (by omega) (by omega)];omega
  have hb8:=b.toNat_lt;have e3:IntKind.u64.wrap (b.toNat:Int)=(b.toNat:Int):=lJ (by omega) (by omega);simp only[hd,p1,p2,aXO (show(0:Int)≤8 by decide),e1,e2,aRF,e3,aYY hsm hb8,ei,dF,reduceIte];exact⟨⟨i+1,by omega,by rw[aPY hb],by trivial⟩,by simp[gT,s3];omega⟩
 ·have hd:((i:Int)<(rr.1.length:Int))=False:=by apply eq_false;omega
  rw[sU (by omega)];simp only[hd,dF,reduceIte];exact hk _ (hR1.ext u2) (u1.trans u2.upd)
def aBD{h:PH}{a:Nat}{e:Int}{s:List UInt8}(hR:mC h a e s){k:dI}(hk:∀h',mC h' a (gO (e,s) 1).2.1 (gO (e,s) 1).2.2->eH [a] h h'->k (.int .i64 (gO (e,s) 1).1) h'):
  bR PG kY #[pT a 0] h k:=by
 apply aCZ.call;unfold aCZ;refine aPQ hR (c:=1) (by omega) λh1 hR1 u1=>?_;have hlt:=aJm (nM (e,s) ((1:Nat):Int)).1;have hlen:=aKF (e,s) 1;have h2:256^(nM (e,s) ((1:Nat):Int)).1.length≤256^1:=aNb (by decide) hlen;have e1:IntKind.i64.wrap ((gO (e,s) 1).1:Int)=((gO (e,s) 1).1:Int):=by unfold gO;rw[fW (by omega) (by omega)]
 simp only[aN4,e1,dF,reduceIte];exact hk _ hR1 u1
def aCH{h:PH}{a:Nat}{e:Int}{s:List UInt8}(hR:mC h a e s){k:dI}(hk:∀h',mC h' a (gO (e,s) 8).2.1 (gO (e,s) 8).2.2->eH [a] h h'->k (.int .u64 (gO (e,s) 8).1) h'):
  bR PG mE #[pT a 0] h k:=by
 apply aAl.call;unfold aAl;exact aPQ hR (c:=8) (by omega) hk
def wR(st:Int×List UInt8):List UInt8×(Int×List UInt8):=nM (gO st 2).2 (gO st 2).1
def wZ(st:Int×List UInt8)(c:Nat):(gO st c).1<256^c:=by
 unfold gO;have hlt:=aJm (nM st (c:Int)).1;exact aNz hlt (aNb (by decide) (aKF st c))
def aQS{h:PH}{a:Nat}{e:Int}{s:List UInt8}(hR:mC h a e s){k:dI}(hk:∀h',mC h' a (wR (e,s)).2.1 (wR (e,s)).2.2->eH [a] h h'->k (.string (tx (wR (e,s)).1)) h'):
  bR PG aAP #[pT a 0] h k:=by
 apply aCO.call;unfold aCO;refine aPQ hR (c:=2) (by omega) λh1 hR1 u1=>?_;have hlt:=wZ (e,s) 2;have e1:IntKind.i64.wrap ((gO (e,s) 2).1:Int)=((gO (e,s) 2).1:Int):=by rw[fW (by omega) (by omega)]
 simp only[aN4,e1,dF,reduceIte];exact aNK hR1 _ λh2 hR2 u2=>hk _ hR2 (u1.trans u2)
def aPh{h:PH}{a:Nat}{e:Int}{s:List UInt8}(hR:mC h a e s){k:dI}(hk:k (.int .i64 (if e=0 then(s.length:Int) else 0)) h):
  bR PG aAL #[pT a 0] h k:=by
 have ha:=hR.here;have c1:eA h ⟨a,1,none⟩=some (.string (tx s)):=by simp[eA,ha]
 apply aCJ.call;unfold aCJ;simp only[gF.f0,dF,reduceIte];refine aLh ha rfl ?_;by_cases h0:e=0
 ·have q:(e !=0)=false:=by simp[h0]
  rw[if_pos h0] at hk;simp only[q,gF.f1,kB,aT.load,c1,aT.len,mF,dF,reduceIte];exact hk
 ·have q:(e !=0)=true:=by simp[h0]
  rw[if_neg h0] at hk;simp only[q,dF,reduceIte];exact hk
abbrev iX:=Int×List UInt8
def zK(st:iX)(n:Nat):iX:=(st.1,st.2++be n 8)
def qQ(st:iX)(n:Int):(lQ st n).2.length≤st.2.length+1:=by
 unfold lQ;split<;>simp[iZ]
def aEx(st:iX)(n:Nat):(zK st n).2.length≤st.2.length+8:=by simp[zK,iZ]
def aT3(st:iX)(l:List UInt8):(aFY st l).2.length≤st.2.length+65537:=by
 unfold aFY;split
 ·simp[iZ];omega
 ·simp
abbrev WN(h0:PH)(h:PH)(a:Nat)(st:iX)(F:List Nat):Prop:=WS h0 [] h a st.1 st.2 F
def WN.upd{h0 h:PH}{a:Nat}{st:iX}{F:List Nat}(S:WN h0 h a st F):eM h0 h:=WS.upd S
def WN.fresh{h0 h:PH}{a:Nat}{st:iX}{F:List Nat}(S:WN h0 h a st F):fX h0 F:=λb hb=>by
 rcases S.grow b hb with h1|h1
 ·cases h1
 ·exact h1
def uK(h:PH)(F:List Nat)(h':PH)(F':List Nat):Prop:=∀r o,h r=some o->r∉F->h' r=some o∧r∉F'
def aM4{h h':PH}{F F':List Nat}(u:eH F h h')(g:∀b∈F',b∈F∨h b=none):uK h F h' F':=λr o hr hn=>⟨u.get hr hn,λhm=>by
 rcases g r hm with h1|h1
 ·exact hn h1
 ·rw[h1] at hr;cases hr⟩
def aBm{h0 h:PH}{a:Nat}{st:iX}{F:List Nat}(S:WN h0 h a st F)(hl:st.2.length≤1000000000)(n:Int){k:dI}(hk:∀h' F' x,x=lQ st n->WN h0 h' a x F'->uK h F h' F'->k (.tuple #[]) h'):bR PG jT #[pT a 0,.int .i64 n] h k:=
 aWV S.at_ (by omega) n λh' F' hW u g=>hk h' F' _ rfl (S.step hW u g) (aM4 u g)
def aEy{h0 h:PH}{a:Nat}{st:iX}{F:List Nat}(S:WN h0 h a st F)(hl:st.2.length≤1000000000){n:Nat}(hn:n<18446744073709551616){k:dI}(hk:∀h' F' x,x=zK st n->WN h0 h' a x F'->uK h F h' F'->k (.tuple #[]) h'):bR PG lN #[pT a 0,.int .u64 n] h k:=
 aTE S.at_ (by omega) hn λh' F' hW u g=>hk h' F' (zK st n) rfl (S.step hW u g) (aM4 u g)
def aTi{h0 h:PH}{a:Nat}{st:iX}{F:List Nat}(S:WN h0 h a st F)(hl:st.2.length≤1000000000)(ys:List UInt8){k:dI}(hk:∀h' F' x,x=aFY st ys->WN h0 h' a x F'->uK h F h' F'->k (.tuple #[]) h'):bR PG uW #[pT a 0,.string (tx ys)] h k:=
 aWi S.at_ (by omega) λh' F' hW u g=>hk h' F' _ rfl (S.step hW u g) (aM4 u g)
def WN.box{h0 h:PH}{a:Nat}{st:iX}{F:List Nat}(S:WN h0 h a st F){r:Nat}(hr:h r=none):r∉F:=λhm=>S.at_.known r hm hr
def WN.new{h0 h:PH}{a:Nat}{st:iX}{F:List Nat}(S:WN h0 h a st F){r:Nat}(hr:h r=none)(o:Obj):WN h0 (h.set r o) a st F:=WS.ext S (eH.new hr)
def zW:eX PG gH= #[.int .i64 0,.pointer none,.slice none 0 0]:=by rw[gH.zc];rfl
def WN.start{h:PH}{r:Nat}(hr:h r=none):WN h (h.set r (.cells (eX PG gH) gH)) r (0,[]) [r]:=by
 have hW:WAt (h.set r (.cells (eX PG gH) gH)) r 0 [] [r]:=by
  rw[zW];exact⟨_,_,[],gB,.inl rfl,fY.nil,rfl,by simp⟩
 exact⟨hW,eH.new hr,λb hb=>.inr (by simp only[jI] at hb;subst hb;exact hr)⟩
def aPA{h0 h:PH}{a:Nat}{st:iX}{F:List Nat}(S:WN h0 h a st F)(hl:st.2.length≤1000000000){ys:List UInt8}(hy:ys.length≤1000000000){k:dI}(hk:∀h' F' x,x=(st.1,st.2++ys)->WN h0 h' a x F'->uK h F h' F'->k (.tuple #[]) h'):bR PG oP #[pT a 0,.string (tx ys)] h k:=
 aQ7 S.at_ (by omega) λh' F' hW u g=>hk h' F' (st.1,st.2++ys) rfl (S.step hW u g) (aM4 u g)
def Pk.tx(p:Pk):Tx:=p.d.data.toList
def wPk(st:iX)(p:Pk):iX:=if p.right then aFY (zK (zK (lQ st p.f) p.s.toNat) p.t.toNat) p.tx else lQ st (-1)
def aJK(n g:Int):Int:=if n<1∨g<n then -1 else n
def aBh(st:iX)(x:Int×Pk):iX:=wPk (lQ st x.1) x.2
def aF6(st:iX)(l:List (Int×Pk)):iX:=l.foldl aBh (lQ st l.length)
structure Pl where
 h:Int
 i:Int
 deriving DecidableEq
def Pl.cells(q:Pl):List Value:=[.int .u64 q.h,.int .i64 q.i]
def Pl.zero:Pl:=⟨0,0⟩
def wPl(st:iX)(q:Pl):iX:=zK (zK (if q.i<0∨65535<q.i then lQ st (-1) else st) q.h.toNat) (IntKind.u64.wrap q.i).toNat
def aHA{st:iX}(h:st.1=1)(n:Int):(lQ st n).1=1:=by unfold lQ;split<;>simp[h]
def aPP{st:iX}(h:st.1=1)(n:Nat):(zK st n).1=1:=h
def aTX{st:iX}(h:st.1=1)(l:Tx):(aFY st l).1=1:=by unfold aFY;split<;>simp[h]
def aQz{st:iX}(h:st.1=1)(p:Pk):(wPk st p).1=1:=by
 unfold wPk;split
 ·exact aTX (aPP (aPP (aHA h _) _) _) _
 ·exact aHA h _
def aI1:∀(l:List (Int×Pk)) {st:iX},st.1=1->(l.foldl aBh st).1=1
 | [],_,h=>h
 | x::l,st,h=>aI1 l (aQz (aHA h _) _)
def aLD{st:iX}(h:st.1=1)(l:List (Int×Pk)):(aF6 st l).1=1:=aI1 l (aHA h _)
def aWB{st:iX}(h:st.1=1)(q:Pl):(wPl st q).1=1:=by
 unfold wPl;split
 ·exact aHA h _
 ·exact h
def Pk.bs(p:Pk):Tx:=be p.f.toNat 1++(be p.s.toNat 8++(be p.t.toNat 8++(be p.tx.length 2++p.tx)))
def aIp(p:Pk):p.tx.length=p.d.size:=rfl
def Pk.right_iff{p:Pk}:p.right=true↔0≤p.f∧p.f≤1∧p.s≠0∧p.t≠0∧p.d.size≤64:=by
 unfold Pk.right;simp only[tM,decide_eq_true_eq,and_assoc]
def aU4{p:Pk}(h:p.right=true)(b:Tx):wPk (0,b) p=(0,b++p.bs):=by
 obtain⟨h1,h2,-,-,h5⟩:=Pk.right_iff.1 h;unfold wPk;rw[if_pos h];unfold lQ zK aFY;rw[if_pos (show p.tx.length≤65535 by rw[aIp];omega),if_pos (show 0≤p.f∧p.f≤255 from⟨h1,by omega⟩)];simp only[Pk.bs,xN]
def aTU{p:Pk}(h:p.right=false)(b:Tx):(wPk (0,b) p).1=1:=by
 unfold wPk;rw[if_neg (by simp[h])];rfl
def aD2(x:Int×Pk):Tx:=be x.1.toNat 1++x.2.bs
def mL:List (Int×Pk)->Tx
 | []=>[]
 | x::l=>aD2 x++mL l
def tP(l:List (Int×Pk)):Tx:=be l.length 1++mL l
def aDA(x:Int×Pk):Prop:=0≤x.1∧x.1≤255∧x.2.right=true
instance (x:Int×Pk):Decidable (aDA x):=by unfold aDA;infer_instance
def aOK{x:Int×Pk}(h:aDA x)(b:Tx):aBh (0,b) x=(0,b++aD2 x):=by
 unfold aBh lQ;rw[if_pos ⟨h.1,h.2.1⟩,aU4 h.2.2,aD2,xN]
def aSk{x:Int×Pk}(h:¬aDA x)(b:Tx):(aBh (0,b) x).1=1:=by
 unfold aBh;by_cases h1:0≤x.1∧x.1≤255
 ·have h2:x.2.right=false:=by
   cases e:x.2.right with
   | false=>rfl
   | true=>exact absurd ⟨h1.1,h1.2,e⟩ h
  unfold lQ;rw[if_pos h1];exact aTU h2 _
 ·refine aQz ?_ _;unfold lQ;rw[if_neg h1];rfl
def aNC:∀(l:List (Int×Pk)) (b:Tx),(∀x∈l,aDA x)->l.foldl aBh (0,b)=(0,b++mL l)
 | [],b,_=>by simp[mL]
 | x::l,b,h=>by
  rw[zLt,aOK (h x (by simp)),aNC l _ (λy hy=>h y (by simp[hy])),mL,xN]
def aL2:∀(l:List (Int×Pk)) (b:Tx),¬(∀x∈l,aDA x)->(l.foldl aBh (0,b)).1=1
 | [],b,h=>absurd (by simp) h
 | x::l,b,h=>by
  rw[zLt];by_cases hx:aDA x
  ·rw[aOK hx];exact aL2 l _ λhl=>h λy hy=>by
    rcases jW.1 hy with rfl|hy
    ·exact hx
    ·exact hl y hy
  ·exact aI1 l (aSk hx b)
def aHB(l:List (Int×Pk)):Prop:=l.length≤255∧∀x∈l,aDA x
def aM1{l:List (Int×Pk)}(h:aHB l)(b:Tx):aF6 (0,b) l=(0,b++tP l):=by
 unfold aF6 lQ;have h1:=h.1;rw[if_pos ⟨by omega,by omega⟩,aNC l _ h.2,tP,xN,xZ]
def aLy{l:List (Int×Pk)}(h:¬aHB l)(b:Tx):(aF6 (0,b) l).1=1:=by
 unfold aF6;by_cases h1:l.length≤255
 ·unfold lQ;rw[if_pos ⟨by omega,by omega⟩];exact aL2 l _ λhl=>h ⟨h1,hl⟩
 ·refine aI1 l ?_;unfold lQ;rw[if_neg (by omega)];rfl
def kX(q:Pl):Prop:=0≤q.i∧q.i≤65535
instance (q:Pl):Decidable (kX q):=by unfold kX;infer_instance
def Pl.bs(q:Pl):Tx:=be q.h.toNat 8++be q.i.toNat 8
def aEt{q:Pl}(h:kX q)(b:Tx):wPl (0,b) q=(0,b++q.bs):=by
 unfold kX at h;unfold wPl zK;rw[if_neg (by omega),lJ (by omega) (by omega),Pl.bs,xN]
def aLW{q:Pl}(h:¬kX q)(b:Tx):(wPl (0,b) q).1=1:=by
 unfold kX at h;unfold wPl zK;rw[if_pos (by omega)];rfl
def yO(st:iX)(e:Int):iX:=(if st.1=0 then e else st.1,st.2)
def rA(st:iX):(Int×ByteArray)×iX:=((((gO st 8).1:Int),tx (wR (gO st 8).2).1),(wR (gO st 8).2).2)
def rB(st:iX):(Int×Int×ByteArray)×iX:=((((gO st 8).1:Int),(rA (gO st 8).2).1),(rA (gO st 8).2).2)
def rC(st:iX):Pk×iX:=(⟨((gO st 1).1:Int),(rB (gO st 1).2).1.1,(rB (gO st 1).2).1.2.1,(rB (gO st 1).2).1.2.2⟩,(rB (gO st 1).2).2)
def pU(st:iX):Pk×iX:=
 let st':=if (rC st).1.right then(rC st).2 else yO (rC st).2 5
 (if st'.1=0 then(rC st).1 else default,st')
def aBM(g:Int)(st:iX):(Int×Pk)×iX:=
 let a:=gO st 1;let b:=pU a.2
 (((a.1:Int),b.1),if (a.1:Int)<1∨g<a.1 then yO b.2 5 else b.2)
def kT(g:Int):Nat->iX->List (Int×Pk)->List (Int×Pk)×iX
 | 0,st,acc=>(acc,st)
 | n+1,st,acc=>if st.1=0 then kT g n (aBM g st).2 (acc++[(aBM g st).1]) else(acc,st)
def gM(g:Int)(st:iX):List (Int×Pk)×iX:=
 let a:=gO st 1;let b:=kT g a.1 a.2 []
 (if b.2.1=0 then b.1 else [],b.2)
def iR(st:iX):Pl×iX:=
 let a:=gO st 8;let b:=gO a.2 8;let st':=if 65535<b.1 then yO b.2 5 else b.2
 (if st'.1=0 then⟨a.1,b.1⟩ else Pl.zero,st')
structure sE{α:Type}(R:iX->α×iX)(bs:Tx)(v:α):Prop where
 all:∀rest,R (0,bs++rest)=(v,(0,rest))
 cut:∀n,n<bs.length->(R (0,bs.take n)).2.1=6
def uU{α:Type}(R:iX->α×iX):Prop:=∀e s,e≠0->(R (e,s)).2.1=e
def uU.keep{α:Type}{R:iX->α×iX}(h:uU R){st:iX}{e:Int}(he:st.1=e)(h0:e≠0):(R st).2.1=e:=by
 obtain⟨a,b⟩:=st;simp only at he;subst he;exact h _ _ h0
def sE.bind{α β γ:Type}{R:iX->α×iX}{S:α->iX->β×iX}{f:α->β->γ}{bs cs:Tx}{v:α}{w:β}(h1:sE R bs v)(h2:sE (S v) cs w)(hs:∀x,uU (S x)):
  sE (λst=>(f (R st).1 (S (R st).1 (R st).2).1,(S (R st).1 (R st).2).2)) (bs++cs) (f v w):=by
 refine⟨λrest=>?_,λn hn=>?_⟩
 ·simp only[xN,h1.all,h2.all]
 ·simp only;by_cases hb:n<bs.length
  ·have e:(bs++cs).take n=bs.take n:=by rw[zLH (by omega)]
   rw[e];exact(hs _).keep (h1.cut n hb) (by decide)
  ·have e:(bs++cs).take n=bs++cs.take (n-bs.length):=by
    rw[List.take_append,sU (by omega)]
   rw[e,h1.all];exact h2.cut _ (by rw[kO] at hn;omega)
def aIC(l:Tx):sE (λst=>nM st (l.length:Int)) l l:=by
 refine⟨λrest=>?_,λn hn=>?_⟩
 ·unfold nM;rw[if_pos ⟨rfl,by omega,by rw[kO];omega⟩];simp
 ·unfold nM;rw[if_neg (by simp;omega)];rfl
def aGw(n:Int):uU (λst=>nM st n):=λe s h=>by
 simp only[nM];rw[if_neg (by simp[h])];simp[h]
def nD{n c:Nat}(h:n<256^c):sE (λst=>gO st c) (be n c) n:=by
 have:=aIC (be n c);rw[iZ] at this;refine⟨λrest=>?_,λm hm=>?_⟩
 ·unfold gO;rw[this.all,aXc,aKQ h]
 ·unfold gO;exact this.cut m hm
def vN(c:Nat):uU (λst=>gO st c):=λe s h=>aGw _ e s h
def aLx{l:Tx}(h:l.length≤65535):sE wR (be l.length 2++l) l:=
 sE.bind (R:=λst=>gO st 2) (S:=λn st=>nM st (n:Int)) (f:=λ_ w=>w) (nD (by omega)) (aIC l) λx=>aGw _
def aLP:uU wR:=λe s h=>(aGw _).keep (vN 2 e s h) h
def aDX{st:iX}{e x:Int}(he:st.1=e)(h0:e≠0):(yO st x).1=e:=by
 unfold yO;rw[if_neg (by rw[he];exact h0)];exact he
def Pk.wf(p:Pk):Prop:=0≤p.s∧p.s<18446744073709551616∧0≤p.t∧p.t<18446744073709551616
def aR1(p:Pk):tx p.tx=p.d:=aWx p.d
def aOC:uU rA:=λe s h=>aLP.keep (vN 8 e s h) h
def aOv:uU rB:=λe s h=>aOC.keep (vN 8 e s h) h
def aSt:uU rC:=λe s h=>aOv.keep (vN 1 e s h) h
def aTM{p:Pk}(h:p.right=true)(w:p.wf):sE pU p.bs p:=by
 obtain⟨h1,h2,-,-,h5⟩:=Pk.right_iff.1 h;obtain⟨w1,w2,w3,w4⟩:=w;have r1:=nD (n:=p.f.toNat) (c:=1) (by omega);have r2:=nD (n:=p.s.toNat) (c:=8) (by omega);have r3:=nD (n:=p.t.toNat) (c:=8) (by omega);have r4:=aLx (l:=p.tx) (by rw[aIp];omega);have hp:(⟨(p.f.toNat:Int),(p.s.toNat:Int),(p.t.toNat:Int),tx p.tx⟩:Pk)=p:=by
  rw[aR1,zLu h1,zLu w1,zLu w3]
 have ra:sE rA _ _:=r3.bind (S:=λ_ st=>wR st) (f:=λ(c:Nat) (d:Tx)=>((c:Int),tx d)) r4 λ_=>aLP;have rb:sE rB _ _:=r2.bind (S:=λ_ st=>rA st) (f:=λ(b:Nat) (x:Int×ByteArray)=>((b:Int),x)) ra λ_=>aOC;have rc:sE rC _ _:=r1.bind (S:=λ_ st=>rB st) (f:=λ(a:Nat) (x:Int×Int×ByteArray)=>(⟨(a:Int),x.1,x.2.1,x.2.2⟩:Pk)) rb λ_=>aOv;rw[hp] at rc;refine⟨λrest=>?_,λn hn=>?_⟩
 ·have e:=rc.all rest;unfold pU Pk.bs;rw[e];simp only[h,if_true]
 ·have e:=rc.cut n hn;unfold pU Pk.bs;simp only;split
  ·exact e
  ·exact aDX e (by decide)
def aSL:uU pU:=λe s h=>by
 unfold pU;have:=aSt e s h;simp only;split
 ·exact this
 ·exact aDX this h
def aSK{g:Int}{x:Int×Pk}(h1:1≤x.1)(h2:x.1≤g)(hg:g≤255)(h:x.2.right=true)(w:x.2.wf):sE (aBM g) (aD2 x) x:=by
 have r:=(nD (n:=x.1.toNat) (c:=1) (by omega)).bind (S:=λ_ st=>pU st) (f:=λ(a:Nat) (p:Pk)=>((a:Int),p)) (aTM h w) λ_=>aSL;have hx:((x.1.toNat:Int),x.2)=x:=by rw[zLu (by omega)]
 simp only[hx] at r;refine⟨λrest=>?_,λn hn=>?_⟩
 ·have e:=r.all rest;have e1:=congrArg Prod.fst e;have e2:=congrArg Prod.snd e;have e3:=congrArg Prod.fst e1;simp only at e1 e2 e3;unfold aBM aD2;refine Prod.ext e1 ?_;show(if _ then _ else _)=_;rw[if_neg (by rw[e3];omega)];exact e2
 ·have:=r.cut n hn;unfold aBM aD2;simp only at this ⊢;split
  ·exact aDX this (by decide)
  ·exact this
def aIU(g:Int):∀(n:Nat) (acc:List (Int×Pk)),uU (λst=>kT g n st acc)
 | 0,acc=>λe s h=>rfl
 | n+1,acc=>λe s h=>by
  simp only[kT];rw[if_neg h]
def aL5{g:Int}(hg:g≤255):∀(l:List (Int×Pk)) (acc:List (Int×Pk)),(∀x∈l,1≤x.1∧x.1≤g∧x.2.right=true∧x.2.wf)->sE (λst=>kT g l.length st acc) (mL l) (acc++l)
 | [],acc,_=>⟨λrest=>by simp[kT,mL],λn hn=>by simp[mL] at hn⟩
 | x::l,acc,h=>by
  obtain⟨h1,h2,h3,h4⟩:=h x (by simp);have r1:=aSK h1 h2 hg h3 h4;have r2:=aL5 hg l (acc++[x]) λy hy=>h y (by simp[hy]);have r:=r1.bind (S:=λx st=>kT g l.length st (acc++[x])) (f:=λ_ w=>w) r2 λ_=>aIU g _ _;rw[xN] at r;refine⟨λrest=>?_,λn hn=>?_⟩
  ·have:=r.all rest;simp only[jY,kT];rw[if_pos (by trivial)];exact this
  ·have:=r.cut n hn;simp only[jY,kT];rw[if_pos (by trivial)];exact this
def aF5(g:Int):uU (gM g):=λe s h=>by
 unfold gM;exact(aIU g _ _).keep (vN 1 e s h) h
def aL1{g:Int}(hg:g≤255){l:List (Int×Pk)}(hl:l.length≤255)(h:∀x∈l,1≤x.1∧x.1≤g∧x.2.right=true∧x.2.wf):sE (gM g) (tP l) l:=by
 have r:=(nD (n:=l.length) (c:=1) (by omega)).bind (S:=λn st=>kT g n st []) (f:=λ_ w=>w) (aL5 hg l [] h) λ_=>aIU g _ _;rw[zLU] at r;refine⟨λrest=>?_,λn hn=>?_⟩
 ·have:=r.all rest;unfold gM tP;simp only[Prod.mk.injEq] at this ⊢;obtain⟨e1,e2⟩:=this;rw[e1,e2,if_pos rfl];exact⟨rfl,rfl⟩
 ·have:=r.cut n hn;unfold gM tP;exact this
def aKI:uU iR:=λe s h=>by
 unfold iR;have:=(vN 8).keep (vN 8 e s h) h;simp only at this ⊢;split
 ·exact aDX this h
 ·exact this
def aLH{q:Pl}(h:kX q)(w1:0≤q.h)(w2:q.h<18446744073709551616):sE iR q.bs q:=by
 obtain⟨h1,h2⟩:=h;have r:=(nD (n:=q.h.toNat) (c:=8) (by omega)).bind (S:=λ_ st=>gO st 8) (f:=λ(a b:Nat)=>(a,b)) (nD (n:=q.i.toNat) (c:=8) (by omega)) λ_=>vN 8;have hq:(⟨(q.h.toNat:Int),(q.i.toNat:Int)⟩:Pl)=q:=by rw[zLu w1,zLu h1]
 refine⟨λrest=>?_,λn hn=>?_⟩
 ·have:=r.all rest;unfold iR Pl.bs;simp only[Prod.mk.injEq] at this ⊢;obtain⟨⟨e1,e2⟩,e3⟩:=this;rw[e1,e2,e3,if_neg (show ¬65535<q.i.toNat by omega),if_pos rfl,hq];exact⟨rfl,rfl⟩
 ·have:=r.cut n hn;unfold iR Pl.bs;simp only at this ⊢;split
  ·exact aDX this (by decide)
  ·exact this
def aF9(x:W):W:=(x>>>1) ^^^ ((x &&& 1)*3988292384)
def zG:Nat->W->W
 | 0,x=>x
 | n+1,x=>aF9 (zG n x)
def aGA(n:Nat):W:=zG 8 (BitVec.ofNat 32 n)
def aJl(x:W)(b:UInt8):W:=(x>>>8) ^^^ aGA ((UInt8.ofNat x.toNat) ^^^ b).toNat
def tD(x:W)(s:Tx):W:=s.foldl aJl x
def aNj(s:Tx):W:= ~~~(tD 4294967295 s)
def aGX(x:W):Tx:=[UInt8.ofNat x.toNat,UInt8.ofNat (x>>>8).toNat,UInt8.ofNat (x>>>16).toNat,UInt8.ofNat (x>>>24).toNat]
def aNp(s:Tx):Tx:=aGX (aNj s)
def aUY(s:Tx):(aNp s).length=4:=rfl
def oI(s:Tx):Tx:=s++aNp s
def aFM(s:Tx):(oI s).length=s.length+4:=by unfold oI;rw[kO,aUY]
def pH(s:Tx):Bool:=decide (4≤s.length∧aNp (s.take (s.length-4))=s.drop (s.length-4))
def aMA(s:Tx):pH (oI s)=true:=by
 unfold pH;have h:(oI s).length-4=s.length:=by rw[aFM];omega
 rw[decide_eq_true_eq,h];refine⟨by rw[aFM];omega,?_⟩;unfold oI;rw[List.take_left,List.drop_left]
def iB(n:Nat):Prop:=64≤n∧n≤512
instance (n:Nat):Decidable (iB n):=by unfold iB;infer_instance
def fD(size n:Nat):Nat:=if iB size∧n≤4096 then max 1 ((n+(size-25)-1)/(size-25)) else 0
def mD(n:Nat):Tx:=List.replicate n 0
def kK(room:Nat)(s:Tx)(k:Nat):Tx:=(s.drop (k*room)).take room
def oL(size gen ser k parts:Nat)(b:Tx):Tx:=[82]++(be gen 8++(be ser 8++(be k 1++(be parts 1++((be b.length 2++b)++mD (size-25-b.length))))))
def pJ(size gen ser k parts:Nat)(b:Tx):Tx:=oI (oL size gen ser k parts b)
def hY(size gen ser:Nat)(s:Tx):List Tx:=(List.range (fD size s.length)).map λk=>pJ size gen ser k (fD size s.length) (kK (size-25) s k)
structure lM where
 (gen ser part parts:Nat)
 b:Tx
deriving DecidableEq
def lM.zero:lM:=⟨0,0,0,0,[]⟩
def aKE(st:iX):Nat:=if st.1=0 then st.2.length else 0
def frG(s:Tx):Nat×iX:=gO (nM (0,s) 1).2 8
def frN(s:Tx):Nat×iX:=gO (frG s).2 8
def zD(s:Tx):Nat×iX:=gO (frN s).2 1
def xQ(s:Tx):Nat×iX:=gO (zD s).2 1
def zA(s:Tx):Tx×iX:=wR (xQ s).2
def frZ(s:Tx):Tx×iX:=nM (zA s).2 (aKE (zA s).2:Nat)
def aB1(s:Tx):lM:=⟨(frG s).1,(frN s).1,(zD s).1,(xQ s).1,(zA s).1⟩
def aIy(s:Tx):Prop:=(frZ s).2.1=0∧(nM (0,s) 1).1=[82]∧(∀x∈(frZ s).1,x=0)∧(zD s).1<(xQ s).1
def aH2(size:Nat)(f:lM):Prop:=(f.part+1≠f.parts->f.b.length=size-25)∧(f.part+1=f.parts->1<f.parts->f.b≠[])
def aJC(size:Nat)(f:lM):Prop:=fD size (f.part*(size-25)+f.b.length)≠0∧f.parts≤fD size 4096
instance (s:Tx):Decidable (aIy s):=by unfold aIy;infer_instance
instance (n:Nat) (f:lM):Decidable (aH2 n f):=by unfold aH2;infer_instance
instance (n:Nat) (f:lM):Decidable (aJC n f):=by unfold aJC;infer_instance
def hC(size:Nat)(s:Tx):lM×Int:=
 if ¬iB size then(lM.zero,1) else if s.length≠size then(lM.zero,6) else if pH s=false then(lM.zero,8)
 else if aIy (s.take (size-4))∧aH2 size (aB1 (s.take (size-4)))∧aJC size (aB1 (s.take (size-4))) then(aB1 (s.take (size-4)),0) else(lM.zero,5)
def aHG(gen ser k parts:Nat)(p:lM×Int):Prop:=p.2≠0∨p.1.gen≠gen∨p.1.ser≠ser∨p.1.part≠k∨p.1.parts≠parts
instance (gen ser k parts:Nat) (p:lM×Int):Decidable (aHG gen ser k parts p):=by unfold aHG;infer_instance
def kI(size gen ser:Nat):List Tx->Nat->Nat->Tx->Tx×Nat
 | [],_,_,_=>([],0)
 | x::xs,k,parts,text=>
  if aHG gen ser k (if k=0 then(hC size x).1.parts else parts) (hC size x) then([],0)
  else if k+1=(hC size x).1.parts then(text++(hC size x).1.b,(hC size x).1.parts)
  else kI size gen ser xs (k+1) (if k=0 then(hC size x).1.parts else parts) (text++(hC size x).1.b)
def lF(size gen:Nat):Nat->List Tx->Nat->List Tx×Nat
 | 0,_,_=>([],0)
 | f+1,xs,ser=>
  if (kI size gen ser xs 0 0 []).2=0 then([],0)
  else((kI size gen ser xs 0 0 []).1::(lF size gen f (xs.drop (kI size gen ser xs 0 0 []).2) (ser+1)).1,(kI size gen ser xs 0 0 []).2+(lF size gen f (xs.drop (kI size gen ser xs 0 0 []).2) (ser+1)).2)
structure Hd where
 (gen seg:Nat)
deriving DecidableEq
def Hd.zero:Hd:=⟨0,0⟩
def oY(size:Nat)(h:Hd):Tx:=[72]++(be h.gen 8++(be h.seg 1++mD (size-14)))
def gY(size:Nat)(h:Hd):Tx×Int:=if ¬iB size∨h.gen=0∨1<h.seg then([],1) else(oI (oY size h),0)
def wD(s:Tx):Hd:=⟨(gO (0,s.drop 1) 8).1,(gO (gO (0,s.drop 1) 8).2 1).1⟩
def iF(size:Nat)(s:Tx):Hd×Int:=
 if ¬iB size then(Hd.zero,1) else if s.length≠size then(Hd.zero,6) else if pH s=false then(Hd.zero,8)
 else if (gY size (wD s)).2=0∧(gY size (wD s)).1=s then(wD s,0) else(Hd.zero,5)
def yR(b:Hd×Int)(k:Int)(h:Hd):Hd×Int:=if h≠Hd.zero∧b.1.gen<h.gen then(h,k) else b
def oS(size:Nat)(x y:Tx):Hd×Int:=yR (yR (Hd.zero,-1) 0 (iF size x).1) 1 (iF size y).1
def iQ(h:Hd):Hd×Int:=if h.gen=18446744073709551615 then(Hd.zero,12) else(⟨h.gen+1,if h.seg=0 then 1 else 0⟩,0)
def xV(n:Nat):(mD n).length=n:=by simp[mD]
def aGz{size gen ser k parts:Nat}{b:Tx}(h:b.length+25≤size):(oL size gen ser k parts b).length=size-4:=by
 unfold oL;simp only[kO,iZ,xV,jY,lU];omega
def aKV{size gen ser k parts:Nat}{b:Tx}(h:b.length+25≤size):(pJ size gen ser k parts b).length=size:=by
 unfold pJ;rw[aFM,aGz h];omega
def aR5{size gen ser k parts:Nat}{b:Tx}(h:b.length+25≤size)(hs:size≤512)(g1:gen<18446744073709551616)(g2:ser<18446744073709551616)(g3:k<256)(g4:parts<256):
  aB1 (oL size gen ser k parts b)=⟨gen,ser,k,parts,b⟩∧(frZ (oL size gen ser k parts b)).2.1=0∧(nM (0,oL size gen ser k parts b) 1).1=[82]∧(frZ (oL size gen ser k parts b)).1=mD (size-25-b.length):=by
 have r0:=(aIC [82]).all (be gen 8++(be ser 8++(be k 1++(be parts 1++((be b.length 2++b)++mD (size-25-b.length))))));have r1:=(nD (n:=gen) (c:=8) (by omega)).all (be ser 8++(be k 1++(be parts 1++((be b.length 2++b)++mD (size-25-b.length)))));have r2:=(nD (n:=ser) (c:=8) (by omega)).all (be k 1++(be parts 1++((be b.length 2++b)++mD (size-25-b.length))));have r3:=(nD (n:=k) (c:=1) (by omega)).all (be parts 1++((be b.length 2++b)++mD (size-25-b.length)));have r4:=(nD (n:=parts) (c:=1) (by omega)).all ((be b.length 2++b)++mD (size-25-b.length));have r5:=(aLx (l:=b) (by omega)).all (mD (size-25-b.length));have r6:=(aIC (mD (size-25-b.length))).all [];rw[zLQ] at r6;have r0:nM (0,oL size gen ser k parts b) 1=([82],((0:Int),(be gen 8++(be ser 8++(be k 1++(be parts 1++((be b.length 2++b)++mD (size-25-b.length)))))))):=r0;have e1:frG (oL size gen ser k parts b)=(gen,((0:Int),(be ser 8++(be k 1++(be parts 1++((be b.length 2++b)++mD (size-25-b.length))))))):=by unfold frG;rw[r0];exact r1
 have e2:frN (oL size gen ser k parts b)=(ser,((0:Int),(be k 1++(be parts 1++((be b.length 2++b)++mD (size-25-b.length)))))):=by unfold frN;rw[e1];exact r2
 have e3:zD (oL size gen ser k parts b)=(k,((0:Int),(be parts 1++((be b.length 2++b)++mD (size-25-b.length))))):=by unfold zD;rw[e2];exact r3
 have e4:xQ (oL size gen ser k parts b)=(parts,((0:Int),((be b.length 2++b)++mD (size-25-b.length)))):=by unfold xQ;rw[e3];exact r4
 have e5:zA (oL size gen ser k parts b)=(b,(0,mD (size-25-b.length))):=by unfold zA;rw[e4];exact r5
 have e6:frZ (oL size gen ser k parts b)=(mD (size-25-b.length),(0,[])):=by unfold frZ;rw[e5];exact r6
 refine⟨?_,by rw[e6],by rw[r0],by rw[e6]⟩;unfold aB1;rw[e1,e2,e3,e4,e5]
def aNE{s:Tx}{n:Nat}(h:n=s.length):(oI s).take n=s:=by
 unfold oI;rw[h,List.take_left]
def aRz{size gen ser k parts:Nat}{b:Tx}(ok:iB size)(h:b.length+25≤size)(g1:gen<18446744073709551616)(g2:ser<18446744073709551616)(g3:k<parts)(g4:parts<256)(c2:aH2 size ⟨gen,ser,k,parts,b⟩)(c3:aJC size ⟨gen,ser,k,parts,b⟩):
  hC size (pJ size gen ser k parts b)=(⟨gen,ser,k,parts,b⟩,0):=by
 obtain⟨a1,a2,a3,a4⟩:=aR5 (size:=size) (k:=k) h ok.2 g1 g2 (by omega) g4;have ef:(pJ size gen ser k parts b).take (size-4)=oL size gen ser k parts b:=aNE (by rw[aGz h]);unfold hC;rw[if_neg (by simpa using ok),if_neg (by rw[aKV h];simp),if_neg (by unfold pJ;rw[aMA];simp),ef,if_pos,a1];rw[a1];refine⟨⟨a2,a3,?_,?_⟩,c2,c3⟩
 ·rw[a4];intro x hx;exact List.eq_of_mem_replicate hx
 ·have:(aB1 (oL size gen ser k parts b)).part=k:=by rw[a1]
  have e2:(aB1 (oL size gen ser k parts b)).parts=parts:=by rw[a1]
  show(aB1 (oL size gen ser k parts b)).part<(aB1 (oL size gen ser k parts b)).parts;omega
def aQd{size:Nat}{s:Tx}(h:(hC size s).2=0):s.head? =some 82∧s.length=size∧iB size:=by
 unfold hC at h;split at h
 ·cases h
 ·rename_i h0;split at h
  ·cases h
  ·rename_i h1;split at h
   ·cases h
   ·split at h
    ·rename_i h3;have ok:iB size:=by simpa using h0
     have hl:s.length=size:=by simpa using h1
     have h4:(nM (0,s.take (size-4)) 1).1=[82]:=h3.1.2.1;refine⟨?_,hl,ok⟩;cases s with
     | nil=>simp at hl;have:=ok.1;omega
     | cons x xs=>
      obtain⟨n,hn⟩:∃n,size-4=n+1:=⟨size-5,by have:=ok.1;omega⟩;rw[hn,zLc] at h4;unfold nM at h4;rw[if_pos ⟨rfl,by decide,by simp only[jY];omega⟩] at h4;simpa using h4
    ·cases h
def aP4{size:Nat}{h:Hd}(ok:iB size)(g:h.gen≠0)(g1:h.gen<18446744073709551616)(g2:h.seg≤1):iF size (gY size h).1=(h,0):=by
 have e:gY size h=(oI (oY size h),0):=by unfold gY;rw[if_neg (by rintro(c|c|c);exact c ok;exact g c;omega)]
 have hl:(oI (oY size h)).length=size:=by
  rw[aFM];unfold oY;simp only[kO,iZ,xV,jY,lU];have:=ok.1;omega
 have r1:=(nD (n:=h.gen) (c:=8) (by omega)).all (be h.seg 1++(mD (size-14)++aNp (oY size h)));have r2:=(nD (n:=h.seg) (c:=1) (by omega)).all (mD (size-14)++aNp (oY size h));have ed:(oI (oY size h)).drop 1=be h.gen 8++(be h.seg 1++(mD (size-14)++aNp (oY size h))):=by
  unfold oI
  conv=>lhs;arg 2;arg 1;unfold oY
  simp only[xN];rfl
 have eh:wD (oI (oY size h))=h:=by
  unfold wD;rw[ed,r1,r2]
 unfold iF;rw[e];rw[if_neg (by simpa using ok),if_neg (by rw[hl];simp),if_neg (by rw[aMA];simp),eh,if_pos ⟨by rw[e],by rw[e]⟩]
def aSS{size:Nat}{s:Tx}(h:(iF size s).2=0):s.head? =some 72:=by
 unfold iF at h;split at h
 ·cases h
 ·split at h
  ·cases h
  ·split at h
   ·cases h
   ·split at h
    ·rename_i h3;rw[←h3.2];have h2:=h3.1;unfold gY at h2 ⊢;split at h2
     ·cases h2
     ·rename_i h4;rw[if_neg h4];rfl
    ·cases h
def aQQ{size:Nat}{s:Tx}(h:(iF size s).2≠0):(iF size s).1=Hd.zero:=by
 unfold iF at h ⊢;split
 ·rfl
 ·split
  ·rfl
  ·split
   ·rfl
   ·split
    ·rename_i a b c d;rw[if_neg a,if_neg b,if_neg c,if_pos d] at h;exact absurd rfl h
    ·rfl
def aLG(x:W):W:=if x.toNat%2=1 then(x>>>1) ^^^ 3988292384 else x>>>1
def aJ0:Nat->W->W
 | 0,x=>x
 | n+1,x=>aLG (aJ0 n x)
def aMk(x:W)(b:UInt8):W:=aJ0 8 (x ^^^ BitVec.ofNat 32 b.toNat)
def aHu(x:W)(s:Tx):W:=s.foldl aMk x
def aS2(x:W):x &&& 1=if x.toNat%2=1 then 1 else 0:=by
 apply BitVec.eq_of_toNat_eq;rw[BitVec.toNat_and];have h1:(1:W).toNat=1:=rfl;rw[h1,Nat.and_one_is_mod];split
 ·rename_i c;rw[c];rfl
 ·rename_i c;have:x.toNat%2=0:=by omega
  rw[this];rfl
def aJr(x:W):aLG x=aF9 x:=by
 unfold aLG aF9;rw[aS2];split
 ·have:(1:W)*3988292384=3988292384:=by decide
  rw[this]
 ·have:(0:W)*3988292384=0#32:=by decide
  rw[this,BitVec.xor_zero]
def aVh(n:Nat)(x:W):aJ0 n x=zG n x:=by
 induction n with
 | zero=>rfl
 | succ n ih=>show aLG (aJ0 n x)=aF9 (zG n x);rw[aJr,ih]
def aWX(x y:Nat):(x ^^^ y)%2=(x%2+y%2)%2:=by
 have h:=Nat.xor_mod_two_pow (a:=x) (b:=y) (n:=1);rw[Nat.pow_one] at h;rw[h];have hx:x%2=0∨x%2=1:=by omega
 have hy:y%2=0∨y%2=1:=by omega
 rcases hx with hx|hx<;>rcases hy with hy|hy<;>rw[hx,hy]<;>rfl
def aSF(x y:W):aF9 (x ^^^ y)=aF9 x ^^^ aF9 y:=by
 rw[←aJr,←aJr,←aJr];unfold aLG;rw[BitVec.toNat_xor,BitVec.ushiftRight_xor_distrib,aWX];have hx:x.toNat%2=0∨x.toNat%2=1:=by omega
 have hy:y.toNat%2=0∨y.toNat%2=1:=by omega
 rcases hx with hx|hx<;>rcases hy with hy|hy<;>rw[hx,hy]<;>simp
 ·rw[BitVec.xor_assoc]
 ·rw[BitVec.xor_assoc,BitVec.xor_assoc,BitVec.xor_comm (y>>>1)]
 ·rw[BitVec.xor_comm (y>>>1),BitVec.xor_assoc,←BitVec.xor_assoc 3988292384#32,BitVec.xor_self,BitVec.zero_xor]
def aQc(n:Nat)(x y:W):zG n (x ^^^ y)=zG n x ^^^ zG n y:=by
 induction n with
 | zero=>rfl
 | succ n ih=>show aF9 (zG n (x ^^^ y))=_;rw[ih,aSF];rfl
def aKf{x:W}(m:Nat)(h:x.toNat%2^m=0):∀n,n≤m->zG n x=x>>>n
 | 0,_=>by simp[zG]
 | n+1,hn=>by
  show aF9 (zG n x)=_;rw[aKf m h n (by omega),←aJr];have e:(x>>>n).toNat%2=0:=by
   rw[BitVec.toNat_ushiftRight,Nat.shiftRight_eq_div_pow];obtain⟨k,hk⟩:=Nat.dvd_of_mod_eq_zero h;rw[hk,show(2:Nat)^m=2^n*(2*2^(m-n-1)) by rw[←Nat.pow_succ',←Nat.pow_add];congr 1;omega,Nat.mul_assoc,Nat.mul_div_cancel_left _ (Nat.two_pow_pos n),Nat.mul_assoc,Nat.mul_mod_right]
  unfold aLG;rw[e,if_neg (by decide),←BitVec.shiftRight_add]
def aXY(x:W):x=(x>>>8 <<< 8) ^^^ BitVec.ofNat 32 (x.toNat%256):=by
 apply BitVec.eq_of_getLsbD_eq;intro i hi;rw[BitVec.getLsbD_xor,BitVec.getLsbD_shiftLeft,BitVec.getLsbD_ushiftRight,BitVec.getLsbD_ofNat];have e:(x.toNat%256).testBit i=(decide (i<8)&&x.toNat.testBit i):=Nat.testBit_mod_two_pow x.toNat 8 i;rw[e];have e2:x.getLsbD i=x.toNat.testBit i:=rfl;by_cases c:i<8
 ·simp[c,hi];exact e2
 ·have:8+(i-8)=i:=by omega
  simp[c,hi,this]
def aVQ(x:W)(b:UInt8):(x ^^^ BitVec.ofNat 32 b.toNat).toNat%256=((UInt8.ofNat x.toNat) ^^^ b).toNat∧(x ^^^ BitVec.ofNat 32 b.toNat)>>>8=x>>>8:=by
 have hb:b.toNat<256:=b.toNat_lt;have e1:(BitVec.ofNat 32 b.toNat).toNat=b.toNat:=by rw[BitVec.toNat_ofNat,aKQ (by omega)]
 constructor
 ·rw[BitVec.toNat_xor,e1,UInt8.toNat_xor,UInt8.toNat_ofNat'];have h:=Nat.xor_mod_two_pow (a:=x.toNat) (b:=b.toNat) (n:=8);have h2:b.toNat%2^8=b.toNat:=aKQ hb;rw[h2] at h;exact h
 ·rw[BitVec.ushiftRight_xor_distrib];have:(BitVec.ofNat 32 b.toNat)>>>8=0#32:=by
   apply BitVec.eq_of_toNat_eq;rw[BitVec.toNat_ushiftRight,e1,Nat.shiftRight_eq_div_pow,Nat.div_eq_of_lt hb];rfl
  rw[this,BitVec.xor_zero]
def aUO(x:W)(b:UInt8):aMk x b=aJl x b:=by
 unfold aMk aJl aGA;obtain⟨h1,h2⟩:=aVQ x b;rw[aVh]
 conv=>lhs;rw[aXY (x ^^^ BitVec.ofNat 32 b.toNat)]
 rw[aQc,h1,h2];congr 1;rw[aKf 8 _ 8 (nQ _)]
 ·apply BitVec.eq_of_getLsbD_eq;intro i hi;rw[BitVec.getLsbD_ushiftRight,BitVec.getLsbD_shiftLeft,BitVec.getLsbD_ushiftRight];have e:8+i-8=i:=by omega
  rw[e,BitVec.getLsbD_ushiftRight];by_cases c:8+i<32
  ·simp[c]
  ·have:x.getLsbD (8+i)=false:=BitVec.getLsbD_of_ge _ _ (by omega);simp[c,this]
 ·rw[BitVec.toNat_shiftLeft,Nat.shiftLeft_eq];have h3:(x>>>8).toNat<2^24:=by
   rw[BitVec.toNat_ushiftRight,Nat.shiftRight_eq_div_pow];have:=x.isLt;omega
  rw[aKQ (a:=(x>>>8).toNat*2^8) (b:=2^32) (by omega)];exact Nat.mul_mod_left _ _
def aVj(s:Tx):∀x,aHu x s=tD x s:=by
 induction s with
 | nil=>intro x;rfl
 | cons b s ih=>
  intro x;show aHu (aMk x b) s=tD (aJl x b) s;rw[aUO,ih]
def uK.refl{h:PH}{F:List Nat}:uK h F h F:=λr o hr hn=>⟨hr,hn⟩
def uK.trans{h h1 h2:PH}{F F1 F2:List Nat}(a:uK h F h1 F1)(b:uK h1 F1 h2 F2):uK h F h2 F2:=λr o hr hn=>b r o (a r o hr hn).1 (a r o hr hn).2
def uK.ext{h h1:PH}{F:List Nat}(u:eM h h1):uK h F h1 F:=λr o hr hn=>⟨u.get hr,hn⟩
structure BK(h:PH)(F:List Nat)(r:Nat)(cs:List Value):Prop where
 bx:Bx h r cs
 out:r∉F
def BK.keep{h h':PH}{F F':List Nat}{r:Nat}{cs:List Value}(H:BK h F r cs)(K:uK h F h' F'):BK h' F' r cs:=by
 obtain⟨e,h1⟩:=H.bx;exact⟨⟨e,(K r _ h1 H.out).1⟩,(K r _ h1 H.out).2⟩
def BK.ext{h h':PH}{F:List Nat}{r:Nat}{cs:List Value}(H:BK h F r cs)(u:eM h h'):BK h' F r cs:=⟨H.bx.ext u,H.out⟩
def aW4(st:iX)(p:Pk):(wPk st p).2.length≤st.2.length+65600:=by
 unfold wPk;split
 ·have h1:=aT3 (zK (zK (lQ st p.f) p.s.toNat) p.t.toNat) p.tx;have h2:=aEx (zK (lQ st p.f) p.s.toNat) p.t.toNat;have h3:=aEx (lQ st p.f) p.s.toNat;have h4:=qQ st p.f;omega
 ·have:=qQ st (-1);omega
def aUS(st:iX)(x:Int×Pk):(aBh st x).2.length≤st.2.length+65601:=by
 unfold aBh;have h1:=aW4 (lQ st x.1) x.2;have h2:=qQ st x.1;omega
def aK0:∀(l:List (Int×Pk)) (st:iX),(l.foldl aBh st).2.length≤st.2.length+65601*l.length
 | [],st=>by simp
 | x::l,st=>by
  have h1:=aK0 l (aBh st x);have h2:=aUS st x;simp only[zLt,jY];omega
def aNg(st:iX)(q:Pl):(wPl st q).2.length≤st.2.length+17:=by
 unfold wPl;have h1:=aEx (zK (if q.i<0∨65535<q.i then lQ st (-1) else st) q.h.toNat) (IntKind.u64.wrap q.i).toNat;have h2:=aEx (if q.i<0∨65535<q.i then lQ st (-1) else st) q.h.toNat;have h3:=qQ st (-1);have h4:(if q.i<0∨65535<q.i then lQ st (-1) else st).2.length≤st.2.length+1:=by split<;>omega
 omega
def aVr{h0 h:PH}{a:Nat}{st:iX}{F:List Nat}(S:WN h0 h a st F)(hl:st.2.length≤900000000)(p:Pk)(w:p.wf){k:dI}(hk:∀h' F',WN h0 h' a (wPk st p) F'->uK h F h' F'->k (.tuple #[]) h'):
  bR PG aEk #[pT a 0,.agg p.cells.toArray] h k:=by
 apply aHs.call;unfold aHs;intro r hr
 try rw[dY]
 have S1:=S.new hr (.cells (Value.cells (.agg p.cells.toArray)) cT);have u1:eM h (h.set r (.cells (Value.cells (.agg p.cells.toArray)) cT)):=eH.new hr;have B1:BK (h.set r (.cells (Value.cells (.agg p.cells.toArray)) cT)) F r p.cells:=⟨Bx.new,S.box hr⟩;generalize h.set r (.cells (Value.cells (.agg p.cells.toArray)) cT)=h1 at *;have l1:dH PG h1 (loadAt cT (pT r 0))=some (.agg p.cells.toArray):=cT.agg B1.bx (by show 0+4≤4;decide);simp only[l1,dF,reduceIte];refine aJ5 p λh2 u2=>?_;have S2:=WS.ext S1 u2;have B2:=B1.ext u2;have K2:uK h F h2 F:=uK.ext (u1.trans u2);unfold wPk at hk;obtain⟨w1,w2,w3,w4⟩:=w;cases hp:p.right with
 | false=>
  rw[hp] at hk;simp only[zLs,if_false,fZ,show((1:Int) !=0)=true from rfl,dF,reduceIte] at hk ⊢;exact aBm S2 (by omega) (-1) λh3 F3 x e S3 K3=>by subst e;exact hk _ _ S3 (K2.trans K3)
 | true=>
  rw[hp] at hk;have n1:((p.s.toNat:Nat):Int)=p.s:=zLu w1;have n2:((p.t.toNat:Nat):Int)=p.t:=zLu w3;have n3:p.d=tx p.tx:=(aR1 p).symm;simp only[if_true,fZ,show((0:Int) !=0)=false from rfl,cT.f0,aR.load,B2.bx.cell,Pk.cells,dF,reduceIte] at hk ⊢;refine aBm S2 (by omega) p.f λh3 F3 x3 e3 S3 K3=>?_;have B3:=B2.keep K3;have b3:=qQ st p.f;rw[←e3] at b3 hk;simp only[cT.f1,dN.load,B3.bx.cell,Pk.cells,kB,dF,reduceIte];rw[←n1];refine aEy S3 (by omega) (n:=p.s.toNat) (by omega) λh4 F4 x4 e4 S4 K4=>?_;have B4:=B3.keep K4;have b4:=aEx x3 p.s.toNat;rw[←e4] at b4 hk;simp only[cT.f2,dN.load,B4.bx.cell,Pk.cells,kB,dF,reduceIte];rw[←n2];refine aEy S4 (by omega) (n:=p.t.toNat) (by omega) λh5 F5 x5 e5 S5 K5=>?_;have B5:=B4.keep K5;have b5:=aEx x4 p.t.toNat;rw[←e5] at b5 hk;simp only[cT.f3,aT.load,B5.bx.cell,Pk.cells,kB,dF,reduceIte];rw[n3];refine aTi S5 (by omega) p.tx λh6 F6 x6 e6 S6 K6=>?_;subst e6;exact hk _ _ S6 ((((K2.trans K3).trans K4).trans K5).trans K6)
def aRQ{h:PH}(n g:Int){k:dI}(hk:k (.int .i64 (aJK n g)) h):bR PG aF4 #[.int .i64 n,.int .i64 g] h k:=by
 apply aJA.call;unfold aJA;unfold aJK at hk;by_cases h1:n<1
 ·rw[if_pos (.inl h1)] at hk;simp only[h1,aCb,aA1,dF,reduceIte];exact hk
 ·by_cases h2:g<n
  ·rw[if_pos (.inr h2)] at hk;simp only[h1,h2,dF,reduceIte];exact hk
  ·rw[if_neg (by omega)] at hk;simp only[h1,h2,dF,reduceIte];exact hk
def aMr{h0 h:PH}{a:Nat}{st:iX}{F:List Nat}(S:WN h0 h a st F)(hl:st.2.length≤900000000)(q:Pl)(w1:0≤q.h)(w2:q.h<18446744073709551616){k:dI}(hk:∀h' F',WN h0 h' a (wPl st q) F'->uK h F h' F'->k (.tuple #[]) h'):
  bR PG aCT #[pT a 0,.agg q.cells.toArray] h k:=by
 apply aEi.call;unfold aEi;intro r hr
 try rw[dY]
 have S1:=S.new hr (.cells (Value.cells (.agg q.cells.toArray)) dK);have u1:eM h (h.set r (.cells (Value.cells (.agg q.cells.toArray)) dK)):=eH.new hr;have B1:BK (h.set r (.cells (Value.cells (.agg q.cells.toArray)) dK)) F r q.cells:=⟨Bx.new,S.box hr⟩;generalize h.set r (.cells (Value.cells (.agg q.cells.toArray)) dK)=h1 at *;have K1:uK h F h1 F:=uK.ext u1;have n1:((q.h.toNat:Nat):Int)=q.h:=zLu w1;have hu:0≤IntKind.u64.wrap q.i∧IntKind.u64.wrap q.i<18446744073709551616:=by
  unfold IntKind.wrap;simp[IntKind.signed,IntKind.bits];omega
 have n2:(((IntKind.u64.wrap q.i).toNat:Nat):Int)=IntKind.u64.wrap q.i:=zLu hu.1;have fin:∀{h2:PH} {F2:List Nat} {st2:iX},WN h0 h2 a st2 F2->st2.2.length≤950000000->uK h1 F h2 F2->wPl st q=zK (zK st2 q.h.toNat) (IntKind.u64.wrap q.i).toNat->aBa k (pT a 0) (pT r 0) h2:=by
  intro h2 F2 st2 S2 hl2 K2 e2;have B2:=B1.keep K2;unfold aBa;simp only[dK.f0,dN.load,B2.bx.cell,Pl.cells,dF,reduceIte];rw[←n1];refine aEy S2 (by omega) (n:=q.h.toNat) (by omega) λh3 F3 x3 e3 S3 K3=>?_;have B3:=B2.keep K3;have b3:=aEx st2 q.h.toNat;rw[←e3] at b3 e2;simp only[dK.f1,aR.load,B3.bx.cell,Pl.cells,kB,aNi,dF,reduceIte];rw[←n2];refine aEy S3 (by omega) (n:=(IntKind.u64.wrap q.i).toNat) (by omega) λh4 F4 x4 e4 S4 K4=>?_;subst e4;rw[←e2] at S4;exact hk _ _ S4 (((K1.trans K2).trans K3).trans K4)
 simp only[dK.f1,aR.load,B1.bx.cell,Pl.cells,kB,dF,reduceIte];by_cases h1':q.i<0
 ·simp only[h1',aCb,aA1,dF,reduceIte];refine aBm S1 (by omega) (-1) λh3 F3 x e S3 K3=>?_;have b3:=qQ st (-1);subst e;exact fin S3 (by omega) K3 (by unfold wPl;rw[if_pos (.inl h1')])
 ·by_cases h2':65535<q.i
  ·simp only[h1',h2',aR.load,B1.bx.cell,Pl.cells,dF,reduceIte];refine aBm S1 (by omega) (-1) λh3 F3 x e S3 K3=>?_;have b3:=qQ st (-1);subst e;exact fin S3 (by omega) K3 (by unfold wPl;rw[if_pos (.inr h2')])
  ·simp only[h1',h2',aR.load,B1.bx.cell,Pl.cells,dF,reduceIte];exact fin S1 (by omega) uK.refl (by unfold wPl;rw[if_neg (by omega)])
def It.x(i:It):Int×Pk:=(aJK i.g 2,i.p)
def Nt.x(n:Nt):Int×Pk:=(aJK n.k 4,n.p)
def aPj{h:PH}(x:Nt){k:dI}(hk:∀h',eM h h'->k (.tuple #[.int .i64 x.x.1,.agg x.x.2.cells.toArray]) h'):bR PG wH #[.agg x.cells.toArray] h k:=by
 apply xM.call;unfold xM;intro r hr
 try rw[dY]
 have u1:eM h (h.set r (.cells (Value.cells (.agg x.cells.toArray)) dP)):=eH.new hr;have B1:Bx (h.set r (.cells (Value.cells (.agg x.cells.toArray)) dP)) r x.cells:=Bx.new;generalize h.set r (.cells (Value.cells (.agg x.cells.toArray)) dP)=h1 at *;intro r2 hr2
 try rw[dY]
 have u2:eM h1 (h1.set r2 (.cells (eX PG cT) cT)):=eH.new hr2;have Z:=cT.zbox (h:=h1) (r:=r2);have B2:=B1.ext u2;have hne:r≠r2:=B1.apart hr2;generalize h1.set r2 (.cells (eX PG cT) cT)=h2 at *;have l2:dH PG h2 (loadAt cT (pT r 1))=some (.agg x.p.cells.toArray):=cT.agg B2 (by show 1+4≤5;decide);simp only[dP.f0,dP.f1,aR.load,B2.cell,Nt.cells,kB,l2,dF,reduceIte];refine aRQ x.k 4 ?_;refine⟨l2,?_⟩;refine cT.put Z rfl (by show 0+4≤4;decide) (by simp[Pk.cells,gN]) λh3 B3 u3=>?_;have l3:dH PG h3 (loadAt cT (pT r2 0))=some (.agg x.p.cells.toArray):=cT.agg B3 (by show 0+4≤4;decide);simp only[l3,dF,reduceIte];exact hk _ ((u1.trans u2).fresh u3 (fX.one (u1.none hr2)))
def jE.wNote{h:PH}{v:Value}{l:List Nt}(S:jE h 5 v (l.map Nt.cells)){j:Nat}{x:Nt}(hx:l[j]? =some x):
  ∃a,dE PG (indexAt eK v (.int .i64 (j:Int)))=some (.pointer (some a))∧dH PG h (loadAt dP (.pointer (some a)))=some (.agg x.cells.toArray):=
 S.loadAgg (k:=.i64) (j:=(j:Int)) eK.und dP.info dP.size dP.und rfl (by omega) (by rw[xZ,xB,hx];rfl)
def aRq{h0 h:PH}{a:Nat}{st:iX}{F:List Nat}(S:WN h0 h a st F)(hl:st.2.length≤100000000){v:Value}{l:List Nt}(V:jE h0 5 v (l.map Nt.cells))(hn:l.length≤1000)(hw:∀x∈l,x.p.wf){k:dI}(hk:∀h' F',WN h0 h' a (aF6 st (l.map Nt.x)) F'->uK h F h' F'->k (.tuple #[]) h'):
  bR PG aE0 #[pT a 0,v] h k:=by
 apply aEZ.call;unfold aEZ;apply aBV.call;unfold aBV;have lv:=V.len (t':=aR) eK.und;rw[jJ] at lv;simp only[lv,dF,reduceIte];refine aBm S (by omega) l.length λh1 F1 x1 e1 S1 K1=>?_;have b1:=qQ st l.length;rw[←e1] at b1;refine⟨λvs h'=>∃(i:Nat) (st':iX) (F':List Nat),i≤l.length∧vs=[pT a 0,.func (.func wH) #[] #[],v,.int .i64 (l.length:Int),.int .i64 (i:Int)]∧WN h0 h' a st' F'∧uK h F h' F'∧st'=((l.map Nt.x).take i).foldl aBh (lQ st l.length),gT l.length 4,⟨0,x1,F1,by omega,rfl,S1,K1,e1⟩,?_⟩;rintro ρ h' ⟨i,st',F',hi,hvs,S',K',e'⟩;simp only[jF,kF,lT,and_true] at hvs;obtain⟨v0,v1,v14,v15,v16⟩:=hvs;simp only[v0,v1,v14,v15,v16,jF,kF];unfold aGD;by_cases hlt:i<l.length
 ·have g1:((i:Int)<(l.length:Int))=True:=eq_true (by omega);have gi:=oM (i:=i) (by omega);have hx:l[i]? =some l[i]:=lG hlt;have hwx:=hw _ (aIQ hlt);obtain⟨pa,p1,p2⟩:=(V.ext S'.upd).wNote hx;have htk:((l.map Nt.x).take (i+1)).foldl aBh (lQ st l.length)=aBh (((l.map Nt.x).take i).foldl aBh (lQ st l.length)) (l[i]).x:=by
   rw[zL7 (by simpa using hlt),List.foldl_append,List.getElem_map];rfl
  have hlen':st'.2.length≤st.2.length+1+65601*l.length:=by
   have h1:=aK0 ((l.map Nt.x).take i) (lQ st l.length);have h2:=qQ st l.length;have h3:((l.map Nt.x).take i).length≤l.length:=by simp;omega
   have h4:=Nat.mul_le_mul_left 65601 h3;rw[e'];omega
  rw[←e'] at htk;generalize l[i]=x at *;have hmul:=Nat.mul_le_mul_left 65601 hn;simp only[g1,p1,p2,dF,reduceIte];intro r hr
  try rw[dY]
  refine dP.fill hr rfl (by simp[Nt.cells,gN]) λh2 B2 u2=>?_;have l2:dH PG h2 (loadAt dP (pT r 0))=some (.agg x.cells.toArray):=dP.agg B2 (by show 0+5≤5;decide);simp only[l2,dF,reduceIte];show bR PG wH #[.agg x.cells.toArray] h2 _;refine aPj x λh3 u3=>?_;simp only[dF,reduceIte];intro r4 hr4
  try rw[dY]
  refine cT.fill hr4 rfl (by simp[Pk.cells,gN]) λh4 B4 u4=>?_;have u:=(u2.trans u3).trans u4;have S4:=WS.ext S' u;have hr4':r4∉F':=λhm=>S'.at_.known r4 hm ((u2.trans u3).none hr4);have BK4:BK h4 F' r4 x.x.2.cells:=⟨B4,hr4'⟩;refine aBm S4 (by omega) x.x.1 λh5 F5 x5 e5 S5 K5=>?_;have BK5:=BK4.keep K5;have l5:dH PG h5 (loadAt cT (pT r4 0))=some (.agg x.x.2.cells.toArray):=cT.agg BK5.bx (by show 0+4≤4;decide);have b5:=qQ st' x.x.1;rw[←e5] at b5;simp only[l5,dF,reduceIte];refine aVr S5 (by omega) x.x.2 hwx λh6 F6 S6 K6=>?_;simp only[gi,dF,reduceIte];refine⟨⟨i+1,_,F6,by omega,rfl,S6,((K'.trans (uK.ext u)).trans K5).trans K6,?_⟩,?_⟩
  ·rw[htk,e5];rfl
  ·simp only[gT,zLL,zLK];omega
 ·have g1:((i:Int)<(l.length:Int))=False:=eq_false (by omega);simp only[g1,dF,reduceIte];rw[sU (by simp;omega)] at e';refine hk h' F' ?_ K';unfold aF6;rw[jJ,←e'];exact S'
def aPt{h:PH}(x:It){k:dI}(hk:∀h',eM h h'->k (.tuple #[.int .i64 x.x.1,.agg x.x.2.cells.toArray]) h'):bR PG vV #[.agg x.cells.toArray] h k:=by
 apply wI.call;unfold wI;intro r hr
 try rw[dY]
 have u1:eM h (h.set r (.cells (Value.cells (.agg x.cells.toArray)) dJ)):=eH.new hr;have B1:Bx (h.set r (.cells (Value.cells (.agg x.cells.toArray)) dJ)) r x.cells:=Bx.new;generalize h.set r (.cells (Value.cells (.agg x.cells.toArray)) dJ)=h1 at *;intro r2 hr2
 try rw[dY]
 have u2:eM h1 (h1.set r2 (.cells (eX PG cT) cT)):=eH.new hr2;have Z:=cT.zbox (h:=h1) (r:=r2);have B2:=B1.ext u2;have hne:r≠r2:=B1.apart hr2;generalize h1.set r2 (.cells (eX PG cT) cT)=h2 at *;have l2:dH PG h2 (loadAt cT (pT r 0))=some (.agg x.p.cells.toArray):=cT.agg B2 (by show 0+4≤5;decide);simp only[dJ.f0,dJ.f1,aR.load,B2.cell,It.cells,kB,l2,dF,reduceIte];refine aRQ x.g 2 ?_;refine⟨l2,?_⟩;refine cT.put Z rfl (by show 0+4≤4;decide) (by simp[Pk.cells,gN]) λh3 B3 u3=>?_;have l3:dH PG h3 (loadAt cT (pT r2 0))=some (.agg x.p.cells.toArray):=cT.agg B3 (by show 0+4≤4;decide);simp only[l3,dF,reduceIte];exact hk _ ((u1.trans u2).fresh u3 (fX.one (u1.none hr2)))
def jE.wItem{h:PH}{v:Value}{l:List It}(S:jE h 5 v (l.map It.cells)){j:Nat}{x:It}(hx:l[j]? =some x):
  ∃a,dE PG (indexAt dC v (.int .i64 (j:Int)))=some (.pointer (some a))∧dH PG h (loadAt dJ (.pointer (some a)))=some (.agg x.cells.toArray):=
 S.loadAgg (k:=.i64) (j:=(j:Int)) dC.und dJ.info dJ.size dJ.und rfl (by omega) (by rw[xZ,xB,hx];rfl)
def aR3{h0 h:PH}{a:Nat}{st:iX}{F:List Nat}(S:WN h0 h a st F)(hl:st.2.length≤100000000){v:Value}{l:List It}(V:jE h0 5 v (l.map It.cells))(hn:l.length≤1000)(hw:∀x∈l,x.p.wf){k:dI}(hk:∀h' F',WN h0 h' a (aF6 st (l.map It.x)) F'->uK h F h' F'->k (.tuple #[]) h'):
  bR PG aEu #[pT a 0,v] h k:=by
 apply aEd.call;unfold aEd;apply aBT.call;unfold aBT;have lv:=V.len (t':=aR) dC.und;rw[jJ] at lv;simp only[lv,dF,reduceIte];refine aBm S (by omega) l.length λh1 F1 x1 e1 S1 K1=>?_;have b1:=qQ st l.length;rw[←e1] at b1;refine⟨λvs h'=>∃(i:Nat) (st':iX) (F':List Nat),i≤l.length∧vs=[pT a 0,.func (.func vV) #[] #[],v,.int .i64 (l.length:Int),.int .i64 (i:Int)]∧WN h0 h' a st' F'∧uK h F h' F'∧st'=((l.map It.x).take i).foldl aBh (lQ st l.length),gT l.length 4,⟨0,x1,F1,by omega,rfl,S1,K1,e1⟩,?_⟩;rintro ρ h' ⟨i,st',F',hi,hvs,S',K',e'⟩;simp only[jF,kF,lT,and_true] at hvs;obtain⟨v0,v1,v14,v15,v16⟩:=hvs;simp only[v0,v1,v14,v15,v16,jF,kF];unfold aGI;by_cases hlt:i<l.length
 ·have g1:((i:Int)<(l.length:Int))=True:=eq_true (by omega);have gi:=oM (i:=i) (by omega);have hx:l[i]? =some l[i]:=lG hlt;have hwx:=hw _ (aIQ hlt);obtain⟨pa,p1,p2⟩:=(V.ext S'.upd).wItem hx;have htk:((l.map It.x).take (i+1)).foldl aBh (lQ st l.length)=aBh (((l.map It.x).take i).foldl aBh (lQ st l.length)) (l[i]).x:=by
   rw[zL7 (by simpa using hlt),List.foldl_append,List.getElem_map];rfl
  have hlen':st'.2.length≤st.2.length+1+65601*l.length:=by
   have h1:=aK0 ((l.map It.x).take i) (lQ st l.length);have h2:=qQ st l.length;have h3:((l.map It.x).take i).length≤l.length:=by simp;omega
   have h4:=Nat.mul_le_mul_left 65601 h3;rw[e'];omega
  rw[←e'] at htk;generalize l[i]=x at *;have hmul:=Nat.mul_le_mul_left 65601 hn;simp only[g1,p1,p2,dF,reduceIte];intro r hr
  try rw[dY]
  refine dJ.fill hr rfl (by simp[It.cells,gN]) λh2 B2 u2=>?_;have l2:dH PG h2 (loadAt dJ (pT r 0))=some (.agg x.cells.toArray):=dJ.agg B2 (by show 0+5≤5;decide);simp only[l2,dF,reduceIte];show bR PG vV #[.agg x.cells.toArray] h2 _;refine aPt x λh3 u3=>?_;simp only[dF,reduceIte];intro r4 hr4
  try rw[dY]
  refine cT.fill hr4 rfl (by simp[Pk.cells,gN]) λh4 B4 u4=>?_;have u:=(u2.trans u3).trans u4;have S4:=WS.ext S' u;have hr4':r4∉F':=λhm=>S'.at_.known r4 hm ((u2.trans u3).none hr4);have BK4:BK h4 F' r4 x.x.2.cells:=⟨B4,hr4'⟩;refine aBm S4 (by omega) x.x.1 λh5 F5 x5 e5 S5 K5=>?_;have BK5:=BK4.keep K5;have l5:dH PG h5 (loadAt cT (pT r4 0))=some (.agg x.x.2.cells.toArray):=cT.agg BK5.bx (by show 0+4≤4;decide);have b5:=qQ st' x.x.1;rw[←e5] at b5;simp only[l5,dF,reduceIte];refine aVr S5 (by omega) x.x.2 hwx λh6 F6 S6 K6=>?_;simp only[gi,dF,reduceIte];refine⟨⟨i+1,_,F6,by omega,rfl,S6,((K'.trans (uK.ext u)).trans K5).trans K6,?_⟩,?_⟩
  ·rw[htk,e5];rfl
  ·simp only[gT,zLL,zLK];omega
 ·have g1:((i:Int)<(l.length:Int))=False:=eq_false (by omega);simp only[g1,dF,reduceIte];rw[sU (by simp;omega)] at e';refine hk h' F' ?_ K';unfold aF6;rw[jJ,←e'];exact S'
def aJM(i:Nat):List Value->PH->Nat:=λvs _=>match vs[i]? with
 | some (Value.int _ j)=>j.toNat
 | _=>0
def aFC{h:PH}{a:Nat}{st:iX}(R:mC h a st.1 st.2){k:dI}(hk:k (.int .i64 st.1) h):bR PG jR #[pT a 0] h k:=
 aLh R.here rfl hk
def aEr{h:PH}{a:Nat}{st:iX}(R:mC h a st.1 st.2)(x:Int){k:dI}(hk:∀h',mC h' a (yO st x).1 (yO st x).2->eH [a] h h'->k (.tuple #[]) h'):bR PG kG #[pT a 0,.int .i64 x] h k:=by
 apply qP.call;unfold qP;have ha:=R.here;have c0:eA h ⟨a,0,none⟩=some (.int .i64 st.1):=by simp[eA,ha]
 unfold yO at hk;by_cases h0:st.1=0
 ·have q:(st.1==0)=true:=by simp[h0]
  rw[if_pos h0] at hk;simp only[oA.f0,eY.load,c0,gX,q,dF,reduceIte];refine lX eY.und rfl ha (by simp) rfl eY.info eY.size ?_;exact hk _ ⟨gB⟩ (eH.set (by simp))
 ·have q:(st.1==0)=false:=by simp[h0]
  rw[if_neg h0] at hk;simp only[oA.f0,eY.load,c0,gX,q,dF,reduceIte];exact hk h ⟨ha⟩ eH.refl
def aHU(st:iX):Int:=if st.1=0∧st.2≠[] then 7 else st.1
def aWa{h:PH}{a:Nat}{st:iX}(R:mC h a st.1 st.2){k:dI}(hk:k (.int .i64 (aHU st)) h):bR PG aDe #[pT a 0] h k:=by
 apply aDG.call;unfold aDG;refine aPh R ?_;unfold aHU at hk;by_cases h0:st.1=0∧st.2≠[]
 ·rw[if_pos h0] at hk;have hp:=aKL.2 h0.2;have g:((0:Int)<(st.2.length:Int))=True:=eq_true (by omega);simp only[h0.1,if_true,g,dF,reduceIte];exact hk
 ·rw[if_neg h0] at hk;have g:((0:Int)<(if st.1=0 then(st.2.length:Int) else 0))=False:=by
   apply eq_false;split
   ·rename_i h1;have:st.2=[]:=Classical.byContradiction λh2=>h0 ⟨h1,h2⟩;rw[this];simp
   ·decide
  simp only[g,gF.f0,dF,reduceIte];exact aFC R hk
def aVB(f:Nat)(s t:Nat)(d:ByteArray):dE PG (build cT #[(0,.int .i64 (f:Int)),(1,.int .u64 (s:Int)),(2,.int .u64 (t:Int)),(3,.string d)])=some (.agg (Pk.cells ⟨f,s,t,d⟩).toArray):=by kernel_rfl
def aLr:dE PG (build cT #[])=some (.agg (Pk.cells default).toArray):=by kernel_rfl
def eH.ext{F:List Nat}{h h1 h2:PH}(a:eH F h h1)(u:eM h1 h2):eH F h h2:=a.trans u.upd
def aVs{h:PH}{a:Nat}{st:iX}(R:mC h a st.1 st.2){k:dI}(hk:∀h',mC h' a (pU st).2.1 (pU st).2.2->eH [a] h h'->k (.agg (pU st).1.cells.toArray) h'):bR PG aEa #[pT a 0] h k:=by
 apply aHz.call;unfold aHz;intro r hr
 try rw[dY]
 have u1:eM h (h.set r (.cells (eX PG cT) cT)):=eH.new hr;have Z:=cT.zbox (h:=h) (r:=r);generalize h.set r (.cells (eX PG cT) cT)=h1 at *;have hra:r≠a:=λe=>by have:=R.here;rw[←e,hr] at this;cases this
 have na:r∉[a]:=by simpa using hra
 refine aBD (R.ext u1) λh2 R2 u2=>?_;refine aCH R2 λh3 R3 u3=>?_;refine aCH R3 λh4 R4 u4=>?_;refine aQS R4 λh5 R5 u5=>?_;have Z5:=(((Z.upd u2 na).upd u3 na).upd u4 na).upd u5 na;have v5:=((u2.trans u3).trans u4).trans u5;have hc:rC st=(⟨((gO st 1).1:Int),((gO (gO st 1).2 8).1:Int),((gO (gO (gO st 1).2 8).2 8).1:Int),tx (wR (gO (gO (gO st 1).2 8).2 8).2).1⟩,(wR (gO (gO (gO st 1).2 8).2 8).2).2):=rfl;simp only[Prod.eta] at R2 R3 R4 R5;simp only[Prod.eta,aVB,dF,reduceIte];unfold pU at hk;rw[hc] at hk;simp only at hk;generalize (⟨((gO st 1).1:Int),((gO (gO st 1).2 8).1:Int),((gO (gO (gO st 1).2 8).2 8).1:Int),tx (wR (gO (gO (gO st 1).2 8).2 8).2).1⟩:Pk)=p at *;generalize (wR (gO (gO (gO st 1).2 8).2 8).2).2=st5 at *;intro r6 hr6
 try rw[dY]
 refine cT.fill hr6 rfl (by simp[Pk.cells,gN]) λh6 B6 u6=>?_;have l6:dH PG h6 (loadAt cT (pT r6 0))=some (.agg p.cells.toArray):=cT.agg B6 (by show 0+4≤4;decide);simp only[l6,dF,reduceIte];refine aJ5 p λh7 u7=>?_;have R7:=(R5.ext u6).ext u7;have Z7:=(Z5.ext u6).ext u7;have B7:=B6.ext u7;have n6:r6≠a:=λe=>by have:=R5.here;rw[←e,hr6] at this;cases this
 have n6r:r6≠r:=λe=>by subst e;exact Z5.known hr6
 have ra5:eH [a] h h7:=((eM.upd u1).trans v5).trans ((u6.trans u7).upd);have hr6':h r6=none:=by
  cases e:h r6 with
  | none=>rfl
  | some o=>
   have:=(u1.upd.trans v5).get e (by simpa using n6);rw[hr6] at this;cases this
 have fin:∀{h8:PH} {st8:iX},mC h8 a st8.1 st8.2->eH [a] h7 h8->Bx h8 r [.int .i64 0,.int .u64 0,.int .u64 0,.string ⟨#[]⟩]->Bx h8 r6 p.cells->(∀h',mC h' a st8.1 st8.2->eH [a] h h'->k (.agg ((if st8.1=0 then p else default):Pk).cells.toArray) h')->aDq k (pT a 0) (pT r 0) (pT r6 0) h8:=by
  intro h8 st8 R8 u8 Z8 B8 hk8;unfold aDq;simp only[gF.f0,dF,reduceIte];refine aFC R8 ?_;have ra8:eH [a] h h8:=ra5.trans u8;have last:∀(q:Pk) (h9:PH),Bx h9 r q.cells->eH [r] h8 h9->mC h9 a st8.1 st8.2->(∀h',mC h' a st8.1 st8.2->eH [a] h h'->k (.agg q.cells.toArray) h')->dA (dH PG h9 (loadAt cT (pT r 0))) λv=>k v h9:=by
   intro q h9 B9 u9 R9 hkq;have l9:dH PG h9 (loadAt cT (pT r 0))=some (.agg q.cells.toArray):=cT.agg B9 (by show 0+4≤4;decide);simp only[l9,dF,reduceIte];exact hkq h9 R9 (ra8.then u9 λb hb=>.inr (by simp only[jI] at hb;subst hb;exact hr))
  have nra:a∉[r]:=by simpa using λe=>hra e.symm
  by_cases h0:st8.1=0
  ·rw[if_pos h0] at hk8;have l8:dH PG h8 (loadAt cT (pT r6 0))=some (.agg p.cells.toArray):=cT.agg B8 (by show 0+4≤4;decide);have q:(st8.1 !=0)=false:=by simp[h0]
   simp only[fZ,q,l8,dF,reduceIte];refine cT.put Z8 rfl (by show 0+4≤4;decide) (by simp[Pk.cells,gN]) λh9 B9 u9=>?_;exact last p h9 B9 u9 (R8.upd u9 nra) hk8
  ·rw[if_neg h0] at hk8;have q:(st8.1 !=0)=true:=by simp[h0]
   simp only[fZ,q,aLr,dF,reduceIte];refine cT.put Z8 rfl (by show 0+4≤4;decide) (by simp[Pk.cells,gN]) λh9 B9 u9=>?_;exact last default h9 B9 u9 (R8.upd u9 nra) hk8
 cases hp:p.right with
 | true=>
  rw[hp] at hk;simp only[if_true,fZ,show((0:Int) !=0)=false from rfl,dF,reduceIte] at hk ⊢;exact fin R7 eH.refl Z7 B7 hk
 | false=>
  rw[hp] at hk;simp only[zLs,if_false,fZ,show((1:Int) !=0)=true from rfl,gF.f0,dF,reduceIte] at hk ⊢;refine aEr R7 5 λh8 R8 u8=>?_;exact fin R8 u8 (Z7.upd u8 na) (B7.upd u8 (by simpa using n6)) hk
def aVL(x y:Nat):dE PG (build dK #[(0,.int .u64 (x:Int)),(1,.int .i64 (y:Int))])=some (.agg (Pl.cells ⟨x,y⟩).toArray):=by kernel_rfl
def aLq:dE PG (build dK #[])=some (.agg Pl.zero.cells.toArray):=by kernel_rfl
def aRI{h:PH}{a:Nat}{st:iX}(R:mC h a st.1 st.2){k:dI}(hk:∀h',mC h' a (iR st).2.1 (iR st).2.2->eH [a] h h'->k (.agg (iR st).1.cells.toArray) h'):bR PG aEc #[pT a 0] h k:=by
 apply aHv.call;unfold aHv;intro r hr
 try rw[dY]
 have u1:eM h (h.set r (.cells (eX PG dK) dK)):=eH.new hr;have Z:=dK.zbox (h:=h) (r:=r);generalize h.set r (.cells (eX PG dK) dK)=h1 at *;have hra:r≠a:=λe=>by have:=R.here;rw[←e,hr] at this;cases this
 have na:r∉[a]:=by simpa using hra
 have nra:a∉[r]:=by simpa using λe=>hra e.symm
 refine aCH (R.ext u1) λh2 R2 u2=>?_;refine aCH R2 λh3 R3 u3=>?_;have Z3:=(Z.upd u2 na).upd u3 na;have ra3:eH [a] h h3:=(u1.upd.trans u2).trans u3;simp only[Prod.eta] at R2 R3;unfold iR at hk;simp only at hk;have hlt:=wZ (gO st 8).2 8;generalize (gO st 8).1=x at *;generalize (gO (gO st 8).2 8).1=y at *;generalize (gO (gO st 8).2 8).2=st3 at *;have fin:∀{h8:PH} {st8:iX},(st8.1=0->y≤65535)->mC h8 a st8.1 st8.2->eH [a] h3 h8->Bx h8 r [.int .u64 0,.int .i64 0]->(∀h',mC h' a st8.1 st8.2->eH [a] h h'->k (.agg ((if st8.1=0 then⟨x,y⟩ else Pl.zero):Pl).cells.toArray) h')->aDu k (pT a 0) (pT r 0) (.int .u64 (x:Int)) (.int .u64 (y:Int)) h8:=by
  intro h8 st8 hy R8 u8 Z8 hk8;unfold aDu;simp only[gF.f0,dF,reduceIte];refine aFC R8 ?_;have ra8:eH [a] h h8:=ra3.trans u8;have last:∀(q:Pl) (h9:PH),Bx h9 r q.cells->eH [r] h8 h9->mC h9 a st8.1 st8.2->(∀h',mC h' a st8.1 st8.2->eH [a] h h'->k (.agg q.cells.toArray) h')->dA (dH PG h9 (loadAt dK (pT r 0))) λv=>k v h9:=by
   intro q h9 B9 u9 R9 hkq;have l9:dH PG h9 (loadAt dK (pT r 0))=some (.agg q.cells.toArray):=dK.agg B9 (by show 0+2≤2;decide);simp only[l9,dF,reduceIte];exact hkq h9 R9 (ra8.then u9 λb hb=>.inr (by simp only[jI] at hb;subst hb;exact hr))
  by_cases h0:st8.1=0
  ·rw[if_pos h0] at hk8;have q:(st8.1 !=0)=false:=by simp[h0]
   have hy':=hy h0;have e1:IntKind.i64.wrap (y:Int)=(y:Int):=fW (by omega) (by omega);simp only[fZ,q,aN4,e1,aVL,dF,reduceIte];refine dK.put Z8 rfl (by show 0+2≤2;decide) (by simp[Pl.cells,gN]) λh9 B9 u9=>?_;exact last _ h9 B9 u9 (R8.upd u9 nra) hk8
  ·rw[if_neg h0] at hk8;have q:(st8.1 !=0)=true:=by simp[h0]
   simp only[fZ,q,aLq,dF,reduceIte];refine dK.put Z8 rfl (by show 0+2≤2;decide) (by simp[Pl.cells,Pl.zero,gN]) λh9 B9 u9=>?_;exact last _ h9 B9 u9 (R8.upd u9 nra) hk8
 by_cases hy:65535<y
 ·have g:((65535:Int)<(y:Int))=True:=eq_true (by omega);rw[if_pos hy] at hk;simp only[g,gF.f0,dF,reduceIte];refine aEr R3 5 λh8 R8 u8=>?_;refine fin (λh0=>?_) R8 u8 (Z3.upd u8 na) hk;unfold yO at h0;simp only at h0;split at h0
  ·cases h0
  ·contradiction
 ·have g:((65535:Int)<(y:Int))=False:=eq_false (by omega);rw[if_neg hy] at hk;simp only[g,dF,reduceIte];exact fin (λ_=>by omega) R3 eH.refl Z3 hk
def Nt.of(x:Int×Pk):Nt:=⟨x.1,x.2⟩
def aTT(x:Int×Pk):dE PG (build dP #[(0,.int .i64 x.1),(1,.agg x.2.cells.toArray)])=some (.agg (Nt.of x).cells.toArray):=by kernel_rfl
def aSQ{h:PH}(x:Int×Pk){k:dI}(hk:∀h',eM h h'->k (.agg (Nt.of x).cells.toArray) h'):bR PG nN #[.int .i64 x.1,.agg x.2.cells.toArray] h k:=by
 apply aFl.call;unfold aFl;intro r hr
 try rw[dY]
 have u1:eM h (h.set r (.cells (Value.cells (.agg x.2.cells.toArray)) cT)):=eH.new hr;have B1:Bx (h.set r (.cells (Value.cells (.agg x.2.cells.toArray)) cT)) r x.2.cells:=Bx.new;generalize h.set r (.cells (Value.cells (.agg x.2.cells.toArray)) cT)=h1 at *;intro r2 hr2
 try rw[dY]
 have u2:eM h1 (h1.set r2 (.cells (eX PG dP) dP)):=eH.new hr2;have Z:=dP.zbox (h:=h1) (r:=r2);have B2:=B1.ext u2;generalize h1.set r2 (.cells (eX PG dP) dP)=h2 at *;have l2:dH PG h2 (loadAt cT (pT r 0))=some (.agg x.2.cells.toArray):=cT.agg B2 (by show 0+4≤4;decide);simp only[l2,aTT,dF,reduceIte];refine dP.put Z rfl (by show 0+5≤5;decide) (by simp[Nt.cells,gN]) λh3 B3 u3=>?_;have l3:dH PG h3 (loadAt dP (pT r2 0))=some (.agg (Nt.of x).cells.toArray):=dP.agg B3 (by show 0+5≤5;decide);simp only[l3,dF,reduceIte];exact hk _ ((u1.trans u2).fresh u3 (fX.one (u1.none hr2)))
def aUP(x:Nt):lH PG (buildSlice eK 1 #[(0,.agg x.cells.toArray)])=some (.cells x.cells.toArray dP (0,0),λr=>pure (.slice (some ⟨r,0,none⟩) 1 1)):=by kernel_rfl
def Nt.isC(l:List Nt):∀r∈l.map Nt.cells,∀u∈r,gN u=true:=λr hr u hu=>by
 obtain⟨m,_,rfl⟩:=rS.1 hr;simp only[Nt.cells,jW,zLg,or_false] at hu;rcases hu with rfl|rfl|rfl|rfl|rfl<;>rfl
def aWQ{h:PH}{a:Nat}{st:iX}(R:mC h a st.1 st.2){k:dI}
  (hk:∀h' v F,mC h' a (gM 4 st).2.1 (gM 4 st).2.2->fY h' dP 5 v (((gM 4 st).1.map Nt.of).map Nt.cells) F->fX h F->eH [a] h h'->k v h'):bR PG aHe #[pT a 0] h k:=by
 apply aH0.call;unfold aH0;apply aBW.call;unfold aBW;refine aBD R λh1 R1 u1=>?_;simp only[Prod.eta] at R1;have hb:=wZ st 1;unfold gM at hk;simp only[Prod.eta] at hk hb ⊢;generalize (gO st 1).1=n at *;generalize (gO st 1).2=st1 at *;refine⟨λvs h'=>∃(i:Nat) (st':iX) (l:List (Int×Pk)) (v:Value) (F:List Nat),i≤n∧l.length+i≤n∧vs=[pT a 0,.int .i64 4,.func (.func nN) #[] #[],v,.int .i64 (i:Int)]∧mC h' a st'.1 st'.2∧fY h' dP 5 v ((l.map Nt.of).map Nt.cells) F∧fX h F∧eH [a] h h'∧a∉F∧kT 4 i st' l=kT 4 n st1 [],aJM 4,⟨n,st1,[],_,[],by omega,by simp,rfl,R1,fY.nil,(λb hb=>by cases hb),u1,by simp,rfl⟩,?_⟩;rintro ρ h' ⟨i,st',l,v,F,hi,hln,hvs,R',O,fF,u,naF,hrm⟩;simp only[jF,kF,lT,and_true] at hvs;obtain⟨v0,v1,v2,v7,v8⟩:=hvs;simp only[v0,v1,v2,v7,v8,jF,kF];unfold aFQ;have fin:kT 4 n st1 []=(l,st')->bR PG jR #[pT a 0] h' λv64 h65=>dA (dH PG h65 (gV BinOp.neq eY (.tmp 49) (.const (Value.int IntKind.i64 0)) v64 (Value.int IntKind.i64 0))) λv66=>dW v66 (k (Value.slice none 0 0) h65) (k v h65):=by
  intro e;rw[e] at hk;refine aFC R' ?_;by_cases h0:st'.1=0
  ·have q:(st'.1 !=0)=false:=by simp[h0]
   rw[if_pos h0] at hk;simp only[fZ,q,dF,reduceIte];exact hk h' v F R' O fF u
  ·have q:(st'.1 !=0)=true:=by simp[h0]
   rw[if_neg h0] at hk;simp only[fZ,q,dF,reduceIte];exact hk h' _ [] R' fY.nil (λb hb=>by cases hb) u
 cases i with
 | zero=>
  have g:((0:Int)<((0:Nat):Int))=False:=eq_false (by decide);simp only[g,aCb,aA1,gF.f0,dF,reduceIte];exact fin (by rw[←hrm];rfl)
 | succ i=>
  have g:((0:Int)<((i+1:Nat):Int))=True:=eq_true (by omega);simp only[g,gF.f0,dF,reduceIte];refine aFC R' ?_;by_cases h0:st'.1=0
  ·have q:(st'.1==0)=true:=by simp[h0]
   have hstep:kT 4 (i+1) st' l=kT 4 i (aBM 4 st').2 (l++[(aBM 4 st').1]):=by
    rw[kT,if_pos h0]
   rw[hstep] at hrm;simp only[gX,q,dF,reduceIte];refine aBD R' λh2 R2 u2=>?_;simp only[Prod.eta] at R2;refine aVs R2 λh3 R3 u3=>?_;unfold aBM at hrm;simp only[Prod.eta] at hrm R3 ⊢;have hkd:=wZ st' 1;generalize (gO st' 1).1=kd at *;generalize (gO st' 1).2=st2 at *;generalize (pU st2).1=p at *;generalize (pU st2).2=st3 at *;have u':=(u.trans u2).trans u3;have O3:=(O.upd u2 (λb hb hm=>naF (by simp only[jI] at hm;exact hm▸hb))).upd u3 (λb hb hm=>naF (by simp only[jI] at hm;exact hm▸hb));intro r hr
   try rw[dY]
   refine cT.fill hr rfl (by simp[Pk.cells,gN]) λh4 B4 u4=>?_;have R4:=R3.ext u4;have O4:=O3.ext u4;have nra:r≠a:=λe=>by have:=R3.here;rw[←e,hr] at this;cases this
   have nr:r∉[a]:=by simpa using nra
   have gi:IntKind.i64.wrap (((i+1:Nat):Int)-1)=((i:Nat):Int):=by rw[fW (by omega) (by omega)];omega
   have rest:∀{n3:iC} {h5:PH} {st5:iX},mC h5 a st5.1 st5.2->eH [a] h4 h5->(∀h8 v8 F8,mC h8 a st5.1 st5.2->fY h8 dP 5 v8 (((l++[((kd:Int),p)]).map Nt.of).map Nt.cells) F8->fX h F8->eH [a] h h8->a∉F8->n3 [pT a 0,.int .i64 4,.func (.func nN) #[] #[],v8,.int .i64 (i:Int)] h8)->xJ k n3 (pT a 0) (.int .i64 4) (.func (.func nN) #[] #[]) v (.int .i64 ((i+1:Nat):Int)) (.int .i64 (kd:Int)) (pT r 0) h5:=by
    intro n3 h5 st5 R5 u5 hn3;unfold xJ;have B5:=B4.upd u5 nr;have O5:=O4.upd u5 (λb hb hm=>naF (by simp only[jI] at hm;exact hm▸hb));have l5:dH PG h5 (loadAt cT (pT r 0))=some (.agg p.cells.toArray):=cT.agg B5 (by show 0+4≤4;decide);simp only[l5,dF,reduceIte];show bR PG nN #[.int .i64 (kd:Int),.agg p.cells.toArray] h5 _;refine aSQ ((kd:Int),p) λh6 u6=>?_;simp only[aUP,dF,reduceIte];intro r7 hr7;refine jC ?_
    try rw[dY]
    have u7:eM h6 (h6.set r7 (.cells (Nt.of ((kd:Int),p)).cells.toArray dP (0,0))):=eH.new hr7;have S7:jE (h6.set r7 (.cells (Nt.of ((kd:Int),p)).cells.toArray dP (0,0))) 5 (.slice (some ⟨r7,0,none⟩) 1 1) ([Nt.of ((kd:Int),p)].map Nt.cells):=(fY.lit (n:=1) (Nt.rows [_]) gB (by simp) (by decide) (by simp)).slR;generalize h6.set r7 (.cells (Nt.of ((kd:Int),p)).cells.toArray dP (0,0))=h7 at *;refine mQ eK.und eK.und dP.info dP.size dP.bytes dP.zero rfl (by decide) ((O5.ext u6).ext u7) S7 (Nt.isC _) (by simp only[jJ,jY,lU];omega) ?_;intro v8 h8 F8 O8 u8 k8 _;have e8:(l.map Nt.of).map Nt.cells++[Nt.of ((kd:Int),p)].map Nt.cells=((l++[((kd:Int),p)]).map Nt.of).map Nt.cells:=by simp
    rw[e8] at O8;simp only[gi,dF,reduceIte];have R7:=(R5.ext u6).ext u7;have u57:=u6.trans u7;have aF:a∉F:=naF;have hh7:eH [a] h h7:=((u'.trans (u4.upd)).trans u5).ext u57;refine hn3 h8 v8 F8 (R7.upd u8 aF) O8 (λb hb=>?_) (hh7.then u8 λb hb=>.inr (fF b hb)) (λhm=>?_)
    ·rcases k8 b hb with h1|h1
     ·exact fF b h1
     ·cases e:h b with
      | none=>rfl
      | some o=>
       by_cases hba:b=a
       ·subst hba;have:=R7.here;rw[h1] at this;cases this
       ·have:=hh7.get e (by simpa using hba);rw[h1] at this;cases this
    ·rcases k8 a hm with h1|h1
     ·exact aF h1
     ·have:=R7.here;rw[h1] at this;cases this
   have put:∀{st5:iX} {h8:PH} {v8:Value} {F8:List Nat},kT 4 i st5 (l++[((kd:Int),p)])=kT 4 n st1 []->mC h8 a st5.1 st5.2->fY h8 dP 5 v8 (((l++[((kd:Int),p)]).map Nt.of).map Nt.cells) F8->fX h F8->eH [a] h h8->a∉F8->∃(i':Nat) (st':iX) (l':List (Int×Pk)) (v':Value) (F':List Nat),i'≤n∧l'.length+i'≤n∧[(pT a 0:Value),.int .i64 4,.func (.func nN) #[] #[],v8,.int .i64 (i:Int)]=[pT a 0,.int .i64 4,.func (.func nN) #[] #[],v',.int .i64 (i':Int)]∧mC h8 a st'.1 st'.2∧fY h8 dP 5 v' ((l'.map Nt.of).map Nt.cells) F'∧fX h F'∧eH [a] h h8∧a∉F'∧kT 4 i' st' l'=kT 4 n st1 []:=λe r1 r2 r3 r4 r5=>
    ⟨i,_,_,_,_,by omega,by simp only[kO,jY,lU];omega,rfl,r1,r2,r3,r4,r5,e⟩
   have mu:∀{v8:Value} {h8:PH},aJM 4 [(pT a 0:Value),.int .i64 4,.func (.func nN) #[] #[],v8,.int .i64 (i:Int)] h8<aJM 4 [(pT a 0:Value),.int .i64 4,.func (.func nN) #[] #[],v,.int .i64 ((i+1:Nat):Int)] h':=fun {v8 h8}=>by
    simp only[aJM,zLL,zLK,xZ];omega
   by_cases hk1:(kd:Int)<1
   ·rw[if_pos (.inl hk1)] at hrm;simp only[hk1,aCb,aA1,gF.f0,dF,reduceIte];refine aEr R4 5 λh5 R5 u5=>?_;exact rest R5 u5 λh8 v8 F8 r1 r2 r3 r4 r5=>⟨put hrm r1 r2 r3 r4 r5,mu⟩
   ·by_cases hk2:(4:Int)<(kd:Int)
    ·rw[if_pos (.inr hk2)] at hrm;simp only[hk1,hk2,gF.f0,dF,reduceIte];refine aEr R4 5 λh5 R5 u5=>?_;exact rest R5 u5 λh8 v8 F8 r1 r2 r3 r4 r5=>⟨put hrm r1 r2 r3 r4 r5,mu⟩
    ·rw[if_neg (by omega)] at hrm;simp only[hk1,hk2,dF,reduceIte];exact rest R4 eH.refl λh8 v8 F8 r1 r2 r3 r4 r5=>⟨put hrm r1 r2 r3 r4 r5,mu⟩
  ·have q:(st'.1==0)=false:=by simp[h0]
   simp only[gX,q,dF,reduceIte];exact fin (by rw[←hrm,kT,if_neg h0])
def It.of(x:Int×Pk):It:=⟨x.2,x.1⟩
def aTu(x:Int×Pk):dE PG (build dJ #[(0,.agg x.2.cells.toArray),(1,.int .i64 x.1)])=some (.agg (It.of x).cells.toArray):=by kernel_rfl
def aSs{h:PH}(x:Int×Pk){k:dI}(hk:∀h',eM h h'->k (.agg (It.of x).cells.toArray) h'):bR PG nL #[.int .i64 x.1,.agg x.2.cells.toArray] h k:=by
 apply aFO.call;unfold aFO;intro r hr
 try rw[dY]
 have u1:eM h (h.set r (.cells (Value.cells (.agg x.2.cells.toArray)) cT)):=eH.new hr;have B1:Bx (h.set r (.cells (Value.cells (.agg x.2.cells.toArray)) cT)) r x.2.cells:=Bx.new;generalize h.set r (.cells (Value.cells (.agg x.2.cells.toArray)) cT)=h1 at *;intro r2 hr2
 try rw[dY]
 have u2:eM h1 (h1.set r2 (.cells (eX PG dJ) dJ)):=eH.new hr2;have Z:=dJ.zbox (h:=h1) (r:=r2);have B2:=B1.ext u2;generalize h1.set r2 (.cells (eX PG dJ) dJ)=h2 at *;have l2:dH PG h2 (loadAt cT (pT r 0))=some (.agg x.2.cells.toArray):=cT.agg B2 (by show 0+4≤4;decide);simp only[l2,aTu,dF,reduceIte];refine dJ.put Z rfl (by show 0+5≤5;decide) (by simp[It.cells,gN]) λh3 B3 u3=>?_;have l3:dH PG h3 (loadAt dJ (pT r2 0))=some (.agg (It.of x).cells.toArray):=dJ.agg B3 (by show 0+5≤5;decide);simp only[l3,dF,reduceIte];exact hk _ ((u1.trans u2).fresh u3 (fX.one (u1.none hr2)))
def aVO(x:It):lH PG (buildSlice dC 1 #[(0,.agg x.cells.toArray)])=some (.cells x.cells.toArray dJ (0,0),λr=>pure (.slice (some ⟨r,0,none⟩) 1 1)):=by kernel_rfl
def It.isC(l:List It):∀r∈l.map It.cells,∀u∈r,gN u=true:=λr hr u hu=>by
 obtain⟨m,_,rfl⟩:=rS.1 hr;simp only[It.cells,jW,zLg,or_false] at hu;rcases hu with rfl|rfl|rfl|rfl|rfl<;>rfl
def aWR{h:PH}{a:Nat}{st:iX}(R:mC h a st.1 st.2){k:dI}
  (hk:∀h' v F,mC h' a (gM 2 st).2.1 (gM 2 st).2.2->fY h' dJ 5 v (((gM 2 st).1.map It.of).map It.cells) F->fX h F->eH [a] h h'->k v h'):bR PG aHX #[pT a 0] h k:=by
 apply aH5.call;unfold aH5;apply aBb.call;unfold aBb;refine aBD R λh1 R1 u1=>?_;simp only[Prod.eta] at R1;have hb:=wZ st 1;unfold gM at hk;simp only[Prod.eta] at hk hb ⊢;generalize (gO st 1).1=n at *;generalize (gO st 1).2=st1 at *;refine⟨λvs h'=>∃(i:Nat) (st':iX) (l:List (Int×Pk)) (v:Value) (F:List Nat),i≤n∧l.length+i≤n∧vs=[pT a 0,.int .i64 2,.func (.func nL) #[] #[],v,.int .i64 (i:Int)]∧mC h' a st'.1 st'.2∧fY h' dJ 5 v ((l.map It.of).map It.cells) F∧fX h F∧eH [a] h h'∧a∉F∧kT 2 i st' l=kT 2 n st1 [],aJM 4,⟨n,st1,[],_,[],by omega,by simp,rfl,R1,fY.nil,(λb hb=>by cases hb),u1,by simp,rfl⟩,?_⟩;rintro ρ h' ⟨i,st',l,v,F,hi,hln,hvs,R',O,fF,u,naF,hrm⟩;simp only[jF,kF,lT,and_true] at hvs;obtain⟨v0,v1,v2,v7,v8⟩:=hvs;simp only[v0,v1,v2,v7,v8,jF,kF];unfold aFy;have fin:kT 2 n st1 []=(l,st')->bR PG jR #[pT a 0] h' λv64 h65=>dA (dH PG h65 (gV BinOp.neq eY (.tmp 49) (.const (Value.int IntKind.i64 0)) v64 (Value.int IntKind.i64 0))) λv66=>dW v66 (k (Value.slice none 0 0) h65) (k v h65):=by
  intro e;rw[e] at hk;refine aFC R' ?_;by_cases h0:st'.1=0
  ·have q:(st'.1 !=0)=false:=by simp[h0]
   rw[if_pos h0] at hk;simp only[fZ,q,dF,reduceIte];exact hk h' v F R' O fF u
  ·have q:(st'.1 !=0)=true:=by simp[h0]
   rw[if_neg h0] at hk;simp only[fZ,q,dF,reduceIte];exact hk h' _ [] R' fY.nil (λb hb=>by cases hb) u
 cases i with
 | zero=>
  have g:((0:Int)<((0:Nat):Int))=False:=eq_false (by decide);simp only[g,aCb,aA1,gF.f0,dF,reduceIte];exact fin (by rw[←hrm];rfl)
 | succ i=>
  have g:((0:Int)<((i+1:Nat):Int))=True:=eq_true (by omega);simp only[g,gF.f0,dF,reduceIte];refine aFC R' ?_;by_cases h0:st'.1=0
  ·have q:(st'.1==0)=true:=by simp[h0]
   have hstep:kT 2 (i+1) st' l=kT 2 i (aBM 2 st').2 (l++[(aBM 2 st').1]):=by
    rw[kT,if_pos h0]
   rw[hstep] at hrm;simp only[gX,q,dF,reduceIte];refine aBD R' λh2 R2 u2=>?_;simp only[Prod.eta] at R2;refine aVs R2 λh3 R3 u3=>?_;unfold aBM at hrm;simp only[Prod.eta] at hrm R3 ⊢;have hkd:=wZ st' 1;generalize (gO st' 1).1=kd at *;generalize (gO st' 1).2=st2 at *;generalize (pU st2).1=p at *;generalize (pU st2).2=st3 at *;have u':=(u.trans u2).trans u3;have O3:=(O.upd u2 (λb hb hm=>naF (by simp only[jI] at hm;exact hm▸hb))).upd u3 (λb hb hm=>naF (by simp only[jI] at hm;exact hm▸hb));intro r hr
   try rw[dY]
   refine cT.fill hr rfl (by simp[Pk.cells,gN]) λh4 B4 u4=>?_;have R4:=R3.ext u4;have O4:=O3.ext u4;have nra:r≠a:=λe=>by have:=R3.here;rw[←e,hr] at this;cases this
   have nr:r∉[a]:=by simpa using nra
   have gi:IntKind.i64.wrap (((i+1:Nat):Int)-1)=((i:Nat):Int):=by rw[fW (by omega) (by omega)];omega
   have rest:∀{n3:iC} {h5:PH} {st5:iX},mC h5 a st5.1 st5.2->eH [a] h4 h5->(∀h8 v8 F8,mC h8 a st5.1 st5.2->fY h8 dJ 5 v8 (((l++[((kd:Int),p)]).map It.of).map It.cells) F8->fX h F8->eH [a] h h8->a∉F8->n3 [pT a 0,.int .i64 2,.func (.func nL) #[] #[],v8,.int .i64 (i:Int)] h8)->wL k n3 (pT a 0) (.int .i64 2) (.func (.func nL) #[] #[]) v (.int .i64 ((i+1:Nat):Int)) (.int .i64 (kd:Int)) (pT r 0) h5:=by
    intro n3 h5 st5 R5 u5 hn3;unfold wL;have B5:=B4.upd u5 nr;have O5:=O4.upd u5 (λb hb hm=>naF (by simp only[jI] at hm;exact hm▸hb));have l5:dH PG h5 (loadAt cT (pT r 0))=some (.agg p.cells.toArray):=cT.agg B5 (by show 0+4≤4;decide);simp only[l5,dF,reduceIte];show bR PG nL #[.int .i64 (kd:Int),.agg p.cells.toArray] h5 _;refine aSs ((kd:Int),p) λh6 u6=>?_;simp only[aVO,dF,reduceIte];intro r7 hr7;refine jC ?_
    try rw[dY]
    have u7:eM h6 (h6.set r7 (.cells (It.of ((kd:Int),p)).cells.toArray dJ (0,0))):=eH.new hr7;have S7:jE (h6.set r7 (.cells (It.of ((kd:Int),p)).cells.toArray dJ (0,0))) 5 (.slice (some ⟨r7,0,none⟩) 1 1) ([It.of ((kd:Int),p)].map It.cells):=(fY.lit (n:=1) (It.rows [_]) gB (by simp) (by decide) (by simp)).slR;generalize h6.set r7 (.cells (It.of ((kd:Int),p)).cells.toArray dJ (0,0))=h7 at *;refine mQ dC.und dC.und dJ.info dJ.size dJ.bytes dJ.zero rfl (by decide) ((O5.ext u6).ext u7) S7 (It.isC _) (by simp only[jJ,jY,lU];omega) ?_;intro v8 h8 F8 O8 u8 k8 _;have e8:(l.map It.of).map It.cells++[It.of ((kd:Int),p)].map It.cells=((l++[((kd:Int),p)]).map It.of).map It.cells:=by simp
    rw[e8] at O8;simp only[gi,dF,reduceIte];have R7:=(R5.ext u6).ext u7;have u57:=u6.trans u7;have aF:a∉F:=naF;have hh7:eH [a] h h7:=((u'.trans (u4.upd)).trans u5).ext u57;refine hn3 h8 v8 F8 (R7.upd u8 aF) O8 (λb hb=>?_) (hh7.then u8 λb hb=>.inr (fF b hb)) (λhm=>?_)
    ·rcases k8 b hb with h1|h1
     ·exact fF b h1
     ·cases e:h b with
      | none=>rfl
      | some o=>
       by_cases hba:b=a
       ·subst hba;have:=R7.here;rw[h1] at this;cases this
       ·have:=hh7.get e (by simpa using hba);rw[h1] at this;cases this
    ·rcases k8 a hm with h1|h1
     ·exact aF h1
     ·have:=R7.here;rw[h1] at this;cases this
   have put:∀{st5:iX} {h8:PH} {v8:Value} {F8:List Nat},kT 2 i st5 (l++[((kd:Int),p)])=kT 2 n st1 []->mC h8 a st5.1 st5.2->fY h8 dJ 5 v8 (((l++[((kd:Int),p)]).map It.of).map It.cells) F8->fX h F8->eH [a] h h8->a∉F8->∃(i':Nat) (st':iX) (l':List (Int×Pk)) (v':Value) (F':List Nat),i'≤n∧l'.length+i'≤n∧[(pT a 0:Value),.int .i64 2,.func (.func nL) #[] #[],v8,.int .i64 (i:Int)]=[pT a 0,.int .i64 2,.func (.func nL) #[] #[],v',.int .i64 (i':Int)]∧mC h8 a st'.1 st'.2∧fY h8 dJ 5 v' ((l'.map It.of).map It.cells) F'∧fX h F'∧eH [a] h h8∧a∉F'∧kT 2 i' st' l'=kT 2 n st1 []:=λe r1 r2 r3 r4 r5=>
    ⟨i,_,_,_,_,by omega,by simp only[kO,jY,lU];omega,rfl,r1,r2,r3,r4,r5,e⟩
   have mu:∀{v8:Value} {h8:PH},aJM 4 [(pT a 0:Value),.int .i64 2,.func (.func nL) #[] #[],v8,.int .i64 (i:Int)] h8<aJM 4 [(pT a 0:Value),.int .i64 2,.func (.func nL) #[] #[],v,.int .i64 ((i+1:Nat):Int)] h':=fun {v8 h8}=>by
    simp only[aJM,zLL,zLK,xZ];omega
   by_cases hk1:(kd:Int)<1
   ·rw[if_pos (.inl hk1)] at hrm;simp only[hk1,aCb,aA1,gF.f0,dF,reduceIte];refine aEr R4 5 λh5 R5 u5=>?_;exact rest R5 u5 λh8 v8 F8 r1 r2 r3 r4 r5=>⟨put hrm r1 r2 r3 r4 r5,mu⟩
   ·by_cases hk2:(2:Int)<(kd:Int)
    ·rw[if_pos (.inr hk2)] at hrm;simp only[hk1,hk2,gF.f0,dF,reduceIte];refine aEr R4 5 λh5 R5 u5=>?_;exact rest R5 u5 λh8 v8 F8 r1 r2 r3 r4 r5=>⟨put hrm r1 r2 r3 r4 r5,mu⟩
    ·rw[if_neg (by omega)] at hrm;simp only[hk1,hk2,dF,reduceIte];exact rest R4 eH.refl λh8 v8 F8 r1 r2 r3 r4 r5=>⟨put hrm r1 r2 r3 r4 r5,mu⟩
  ·have q:(st'.1==0)=false:=by simp[h0]
   simp only[gX,q,dF,reduceIte];exact fin (by rw[←hrm,kT,if_neg h0])
structure Dm where
 p0:Pl
 p1:Pl
 its:List It
 deriving DecidableEq
structure Rc where
 k:Int
 s:Dm
 ch:Int
 pl:Pl
 ns:List Nt
 deriving DecidableEq
def Dm.zero:Dm:=⟨Pl.zero,Pl.zero,[]⟩
def Rc.zero:Rc:=⟨0,Dm.zero,0,Pl.zero,[]⟩
def Dm.cells(d:Dm)(v:Value):List Value:=[.int .u64 d.p0.h,.int .i64 d.p0.i,.int .u64 d.p1.h,.int .i64 d.p1.i,v]
def Rc.cells(r:Rc)(v w:Value):List Value:=[.int .i64 r.k,.int .u64 r.s.p0.h,.int .i64 r.s.p0.i,.int .u64 r.s.p1.h,.int .i64 r.s.p1.i,v,.int .i64 r.ch,.int .u64 r.pl.h,.int .i64 r.pl.i,w]
def Dm.v(d:Dm)(v:Value):Value:=.agg (d.cells v).toArray
def Rc.v(r:Rc)(v w:Value):Value:=.agg (r.cells v w).toArray
abbrev kV(h:PH)(v:Value)(l:List It):Prop:=jE h 5 v (l.map It.cells)
abbrev wX(h:PH)(v:Value)(l:List Nt):Prop:=jE h 5 v (l.map Nt.cells)
def Pl.wf(q:Pl):Prop:=0≤q.h∧q.h<18446744073709551616
structure Dm.wf(d:Dm):Prop where
 a:d.p0.wf
 b:d.p1.wf
 i:∀x∈d.its,x.p.wf
structure Rc.wf(r:Rc):Prop where
 s:r.s.wf
 pl:r.pl.wf
 n:∀x∈r.ns,x.p.wf
def jV(h:PH)(v:Value):Prop:=∀a n c,v= .slice (some a) n c->h a.block=none
def jV.nil{h:PH}:jV h (.slice none 0 0):=λa n c e=>by cases e
def jV.of{h h1:PH}{v:Value}(H:jV h1 v)(u:eM h h1):jV h v:=λa n c e=>u.none (H a n c e)
def fY.newV{h0 h:PH}{e:TypeId}{n:Nat}{v:Value}{rows:List (List Value)}{F:List Nat}(O:fY h e n v rows F)(f:fX h0 F):jV h0 v:=λa m c ev=>by
 rcases O.here with⟨e2,_,_⟩|⟨b,cap',cs,e2,e3,_⟩
 ·rw[e2] at ev;cases ev
 ·rw[e2] at ev;simp only[Value.slice.injEq,zL4] at ev;rw[←ev.1];exact f b (by rw[e3];simp)
def Pl.eqIn{h:PH}{d:Nat}(q q':Pl):dH PG h (Op.equalIn (d+1+1) dK (.agg q.cells.toArray) (.agg q'.cells.toArray))=some (decide (q=q')):=by
 rw[aBJ dK.und (by kernel_rfl) (λf=>match f.offset with|0=>q.h==q'.h|_=>q.i==q'.i)]
 ·congr 1;rw[yA];obtain⟨a,b⟩:=q;obtain⟨a',b'⟩:=q';simp
 ·intro f hf;simp only[jW,zLg,or_false] at hf;rcases hf with rfl|rfl
  ·exact⟨by decide,_,_,jO dN.und rfl rfl,jO dN.und rfl rfl,sH dN.und⟩
  ·exact⟨by decide,_,_,jO aR.und rfl rfl,jO aR.und rfl rfl,sH aR.und⟩
def Pl.eql{h:PH}{x y:Operand}(q q':Pl):dH PG h (gV .eql dK x y (.agg q.cells.toArray) (.agg q'.cells.toArray))=some (.bool (decide (q=q'))):=aI4 (by kernel_rfl) (Pl.eqIn (d:=9998) q q')
def mP(p q:Pl):Value:=.agg (p.cells++q.cells).toArray
def mP.eql{h:PH}{x y:Operand}(p q p' q':Pl):dH PG h (gV .eql eD x y (mP p q) (mP p' q'))=some (.bool (decide (p=p'∧q=q'))):=by
 refine aI4 (by kernel_rfl) ?_;rw[aNW eD.und dK.info dK.size (λj=>if j=0 then decide (p=p') else decide (q=q'))]
 ·congr 1;simp[List.range,List.range.loop]
 ·intro j hj;have:j=0∨j=1:=by omega
  rcases this with rfl|rfl
  ·exact⟨_,_,aA9 dK.und rfl dK.info dK.size,aA9 dK.und rfl dK.info dK.size,Pl.eqIn (d:=9997) p p'⟩
  ·exact⟨_,_,aA9 dK.und rfl dK.info dK.size,aA9 dK.und rfl dK.info dK.size,Pl.eqIn (d:=9997) q q'⟩
def aIl:dE PG (build eD #[])=some (mP Pl.zero Pl.zero):=by kernel_rfl
def Rc.plain(r:Rc):Bool:=
 if r.k=1 then decide (r.ch=0)&&decide (r.pl=Pl.zero)&&decide (r.ns.length=0)&&decide (r.s.its.length≤40)
 else if r.k=2 then decide (r.s.p0=Pl.zero∧r.s.p1=Pl.zero)&&decide (r.s.its.length=0)&&(decide (r.ch=0)||decide (r.ch=1))&&decide (r.ns.length≤16)
 else false
def It.len{h:PH}{v:Value}{l:List It}(S:kV h v l):dE PG (Builtin.len_ #[dC] aR #[v])=some (.int .i64 l.length):=by
 have:=S.len (t':=aR) dC.und;rw[jJ] at this;exact this
def Nt.len{h:PH}{v:Value}{l:List Nt}(S:wX h v l):dE PG (Builtin.len_ #[eK] aR #[v])=some (.int .i64 l.length):=by
 have:=S.len (t':=aR) eK.und;rw[jJ] at this;exact this
def aNx{n:Nat}:(((n:Nat):Int)==0)=decide (n=0):=by rw[yA];simp
def leN{n m:Nat}:((n:Int)≤(m:Int))=(n≤m):=by rw[Int.ofNat_le]
def aQC{h:PH}{r:Rc}{v w:Value}(V:kV h v r.s.its)(W:wX h w r.ns){k:dI}(hk:∀h',eM h h'->k (.bool r.plain) h'):bR PG aDM #[r.v v w] h k:=by
 apply aFw.call;unfold aFw;intro r1 hr
 try rw[dY]
 have u1:eM h (h.set r1 (.cells (Value.cells (r.v v w)) bT)):=eH.new hr;have B:Bx (h.set r1 (.cells (Value.cells (r.v v w)) bT)) r1 (r.cells v w):=Bx.new;generalize h.set r1 (.cells (Value.cells (r.v v w)) bT)=h1 at *;have hk:=hk h1 u1;have lp:dH PG h1 (loadAt dK (pT r1 7))=some (.agg r.pl.cells.toArray):=dK.agg B (by show 7+2≤10;decide);have l2:dH PG h1 (loadAt eD (pT r1 1))=some (mP r.s.p0 r.s.p1):=eD.agg B (by show 1+4≤10;decide);have lv:=It.len V;have lw:=Nt.len W;have g40:((r.s.its.length:Int)≤40)=(r.s.its.length≤40):=leN (m:=40);have g16:((r.ns.length:Int)≤16)=(r.ns.length≤16):=leN (m:=16);unfold Rc.plain at hk;simp only[bT.f0,bT.f1,bT.f2,bT.f3,bT.f4,cR.f0,cR.f1,aR.load,B.cell,Rc.cells,kB,Nat.reduceAdd,gX,dF,reduceIte];by_cases k1:r.k=1
 ·have q:(r.k==1)=true:=by simp[k1]
  rw[if_pos k1] at hk;by_cases c0:r.ch=0
  ·have q0:(r.ch==0)=true:=by simp[c0]
   by_cases c1:r.pl=Pl.zero
   ·by_cases c2:r.ns.length=0
    ·simp only[q,q0,lp,aLq,Pl.eql,c0,c1,c2,g40,eK.load,dC.load,B.cell,Rc.cells,kB,Nat.reduceAdd,lv,lw,gX,aNx,bT.f4,bT.f1,cR.f1,decide_true,dF,reduceIte,dM,Nat.reduceAdd] at hk ⊢;exact hk
    ·simp only[q,q0,lp,aLq,Pl.eql,c0,c1,c2,g40,eK.load,dC.load,B.cell,Rc.cells,kB,Nat.reduceAdd,lv,lw,gX,aNx,bT.f4,bT.f1,cR.f1,decide_true,decide_false,zLo,zLn,dF,reduceIte,dM,Nat.reduceAdd] at hk ⊢;exact hk
   ·simp only[q,q0,lp,aLq,Pl.eql,c0,c1,decide_true,decide_false,zLo,zLn,dF,reduceIte,dM,Nat.reduceAdd] at hk ⊢;exact hk
  ·have q0:(r.ch==0)=false:=by simp[c0]
   simp only[q,q0,c0,decide_false,zLn,dF,reduceIte,dM,Nat.reduceAdd] at hk ⊢;exact hk
 ·have q:(r.k==1)=false:=by simp[k1]
  rw[if_neg k1] at hk;by_cases k2:r.k=2
  ·have q2:(r.k==2)=true:=by simp[k2]
   rw[if_pos k2] at hk;simp only[q,q2,l2,aIl,mP.eql,dF,reduceIte];by_cases c0:r.s.p0=Pl.zero∧r.s.p1=Pl.zero
   ·by_cases c1:r.s.its.length=0
    ·by_cases c2:r.ch=0
     ·have q3:(r.ch==0)=true:=by simp[c2]
      simp only[q3,c0,c1,c2,g16,eK.load,dC.load,aR.load,B.cell,Rc.cells,kB,Nat.reduceAdd,lv,lw,gX,aNx,bT.f4,bT.f2,bT.f1,cR.f1,and_self,decide_true,decide_false,zLo,Bool.true_or,dF,reduceIte,dM,Nat.reduceAdd] at hk ⊢;exact hk
     ·have q3:(r.ch==0)=false:=by simp[c2]
      by_cases c3:r.ch=1
      ·have q4:(r.ch==1)=true:=by simp[c3]
       simp only[q3,q4,c0,c1,c2,c3,g16,eK.load,dC.load,aR.load,B.cell,Rc.cells,kB,Nat.reduceAdd,lv,lw,gX,aNx,bT.f4,bT.f2,bT.f1,cR.f1,and_self,decide_true,decide_false,zLo,Bool.false_or,dF,reduceIte,dM,Nat.reduceAdd,show((1:Int)==0)=false from rfl,show((1:Int)=0)=False from eq_false (by decide)] at hk ⊢;exact hk
      ·have q4:(r.ch==1)=false:=by simp[c3]
       simp only[q3,q4,c0,c1,c2,c3,g16,eK.load,dC.load,aR.load,B.cell,Rc.cells,kB,Nat.reduceAdd,lv,lw,gX,aNx,bT.f4,bT.f2,bT.f1,cR.f1,and_self,dF,reduceIte,dM,Nat.reduceAdd] at hk ⊢;exact hk
    ·simp only[c0,c1,eK.load,dC.load,B.cell,Rc.cells,kB,Nat.reduceAdd,lv,lw,gX,aNx,bT.f1,cR.f1,and_self,decide_true,decide_false,zLo,zLn,dF,reduceIte,dM,Nat.reduceAdd] at hk ⊢;exact hk
   ·simp only[c0,decide_false,zLn,dF,reduceIte,dM,Nat.reduceAdd] at hk ⊢;exact hk
  ·have q2:(r.k==2)=false:=by simp[k2]
   rw[if_neg k2] at hk;simp only[q,q2,dF,reduceIte];exact hk
end
end Go.Proofs.YtiohehjhlghikaaGreatDoor
