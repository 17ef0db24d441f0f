/- The texts of this claim, put together. -/
import Derived.Calls
import Derived.Scope
import Derived.Orders
import Derived.RangeFuncLeaves
import Derived.RangeFuncRecord
import Derived.OrdersIn
import Derived.Laws.Sem
import Derived.Laws.Append
import Derived.IntWalk
import Derived.Test.YtppgkeodaejgcaaGreatDoorRows
import Derived.ReadAgain
import Derived.ChangeReads
import Derived.ChangeBears
import Derived.RowKit3
import Derived.ChangeSame
import Derived.OpenShut
import Derived.Deep.Slices
import Derived.LaidMore
import Derived.Stop.Joined
import Derived.SevenTiedAt
import Derived.Laws.Strings
set_option linter.unusedSimpArgs false
set_option linter.unusedVariables false
set_option linter.unusedSectionVars false
set_option maxRecDepth 100000
open Go.Instr (loadAt fieldAt indexAt extract buildSlice build)
namespace Go.Proofs.YtppgkeodaejgcaaGreatDoor
open Go
theorem zLa:type_of% @List.drop_succ_cons.{0}:= @List.drop_succ_cons
theorem zLb:type_of% @List.drop_zero.{0}:= @List.drop_zero
theorem zLc:type_of% @List.take_succ_cons.{0}:= @List.take_succ_cons
theorem kW:type_of% @List.cons.injEq.{0}:= @List.cons.injEq
theorem gL:type_of% @List.mem_cons.{0}:= @List.mem_cons
theorem kJ:type_of% @List.not_mem_nil.{0}:= @List.not_mem_nil
theorem fJ:type_of% @Nat.zero_add:= @Nat.zero_add
theorem iJ:type_of% @List.map_cons.{0,0}:= @List.map_cons
theorem iV:type_of% @List.map_nil.{0,0}:= @List.map_nil
theorem jG:type_of% @List.mem_append.{0}:= @List.mem_append
theorem zLk:type_of% @List.mem_append_left.{0}:= @List.mem_append_left
theorem zLl:type_of% @List.mem_append_right.{0}:= @List.mem_append_right
theorem zLm:type_of% @Bool.eq_iff_iff:= @Bool.eq_iff_iff
theorem zLn:type_of% @Int.eq_ofNat_of_zero_le:= @Int.eq_ofNat_of_zero_le
theorem wM:type_of% @Bool.false_and:= @Bool.false_and
theorem zLp:type_of% @Bool.true_and:= @Bool.true_and
theorem zLq:type_of% @Bool.not_false:= @Bool.not_false
theorem jR:type_of% @List.length_append.{0}:= @List.length_append
theorem uW:type_of% @List.length_cons.{0}:= @List.length_cons
theorem zLt:type_of% @Bool.false_eq_true:= @Bool.false_eq_true
theorem zLu:type_of% @Option.isSome_none.{0}:= @Option.isSome_none
theorem zLv:type_of% @Array.ext'.{0}:= @Array.ext'
theorem zLw:type_of% @List.extract_eq_take_drop.{0}:= @List.extract_eq_take_drop
theorem zLx:type_of% @List.drop_take.{0}:= @List.drop_take
theorem qF:type_of% @Int.toNat_natCast:= @Int.toNat_natCast
theorem zLz:type_of% @List.getElem?_eq_some_iff.{0}:= @List.getElem?_eq_some_iff
theorem zLA:type_of% @Nat.mod_lt:= @Nat.mod_lt
theorem iU:type_of% @List.length_map.{0,0}:= @List.length_map
theorem zLC:type_of% @Array.toList_extract.{0}:= @Array.toList_extract
theorem zLD:type_of% @Nat.le_trans:= @Nat.le_trans
theorem zLE:type_of% @Nat.add_mul:= @Nat.add_mul
theorem zLF:type_of% @List.flatten_append.{0}:= @List.flatten_append
theorem zLG:type_of% @List.take_append_of_le_length.{0}:= @List.take_append_of_le_length
theorem oM:type_of% @Nat.le_refl:= @Nat.le_refl
theorem zLI:type_of% @List.take_length.{0}:= @List.take_length
theorem zLJ:type_of% @List.getElem?_toArray.{0}:= @List.getElem?_toArray
theorem pR:type_of% @List.getElem?_cons_zero.{0}:= @List.getElem?_cons_zero
theorem rY:type_of% @List.getElem?_cons_succ.{0}:= @List.getElem?_cons_succ
theorem zLM:type_of% @List.length_nil.{0}:= @List.length_nil
theorem zLN:type_of% @List.eq_nil_of_length_eq_zero.{0}:= @List.eq_nil_of_length_eq_zero
theorem zLO:type_of% @Nat.mul_le_mul_right:= @Nat.mul_le_mul_right
theorem zLP:type_of% @List.append_nil.{0}:= @List.append_nil
theorem zLQ:type_of% @Nat.pow_succ:= @Nat.pow_succ
theorem zLR:type_of% @Nat.mul_comm:= @Nat.mul_comm
theorem zLS:type_of% @List.length_singleton.{0}:= @List.length_singleton
theorem zLT:type_of% @List.take_add_one.{0}:= @List.take_add_one
theorem yB:type_of% @Bool.and_eq_true:= @Bool.and_eq_true
theorem zLV:type_of% @List.cons_append.{0}:= @List.cons_append
theorem xZ:type_of% @List.nil_append.{0}:= @List.nil_append
theorem fU:type_of% @List.mem_singleton.{0}:= @List.mem_singleton
theorem wN:type_of% @List.getElem?_map.{0,0}:= @List.getElem?_map
theorem lU:type_of% @List.getElem?_eq_getElem.{0}:= @List.getElem?_eq_getElem
theorem zL0:type_of% @List.lt_irrefl.{0}:= @List.lt_irrefl
theorem zL1:type_of% @List.mem_filter.{0}:= @List.mem_filter
theorem zL2:type_of% @List.map_map.{0,0,0}:= @List.map_map
theorem zL3:type_of% @List.map_congr_left.{0,0}:= @List.map_congr_left
theorem lO:type_of% @List.mem_map.{0,0}:= @List.mem_map
theorem qX:type_of% @List.map_append.{0,0}:= @List.map_append
theorem zL6:type_of% @List.mem_map_of_mem.{0,0}:= @List.mem_map_of_mem
theorem zL7:type_of% @Nat.mul_one:= @Nat.mul_one
theorem zL8:type_of% @Option.some.injEq.{0}:= @Option.some.injEq
theorem uX:type_of% @List.length_take.{0}:= @List.length_take
theorem aMk:type_of% @List.take_append_drop.{0}:= @List.take_append_drop
theorem aR8:type_of% @List.take_succ_eq_append_getElem.{0}:= @List.take_succ_eq_append_getElem
theorem mR:type_of% @List.append_assoc.{0}:= @List.append_assoc
theorem mU:type_of% @List.take_of_length_le.{0}:= @List.take_of_length_le
theorem aLt:type_of% @List.drop_of_length_le.{0}:= @List.drop_of_length_le
theorem aCZ:type_of% @Nat.mod_eq_of_lt:= @Nat.mod_eq_of_lt
theorem rA:type_of% @List.mem_of_getElem?.{0}:= @List.mem_of_getElem?
theorem aDO:type_of% @List.all_eq_true.{0}:= @List.all_eq_true
theorem aH0:type_of% @List.map_take.{0,0}:= @List.map_take
theorem aJf:type_of% @List.mem_of_mem_take.{0}:= @List.mem_of_mem_take
theorem aJj:type_of% @List.ne_nil_of_length_pos.{0}:= @List.ne_nil_of_length_pos
theorem xD:type_of% @List.length_drop.{0}:= @List.length_drop
theorem aLF:type_of% @List.mem_of_mem_drop.{0}:= @List.mem_of_mem_drop
theorem aFo:type_of% @Bool.and_false:= @Bool.and_false
theorem aKA:type_of% @Bool.false_or:= @Bool.false_or
theorem aKD:type_of% @List.length_replicate.{0}:= @List.length_replicate
theorem aH8:type_of% @Option.getD_some.{0}:= @Option.getD_some
theorem aHy:type_of% @List.getElem?_take.{0}:= @List.getElem?_take
theorem aJm:type_of% @Nat.min_eq_left:= @Nat.min_eq_left
theorem aIc:type_of% @List.mem_cons_self.{0}:= @List.mem_cons_self
theorem aJk:type_of% @List.flatten_cons.{0}:= @List.flatten_cons
theorem aG2:type_of% @List.length_pos_iff.{0}:= @List.length_pos_iff
theorem aMf:type_of% @List.drop_eq_getElem_cons.{0}:= @List.drop_eq_getElem_cons
theorem aMz:type_of% @Nat.add_sub_cancel_left:= @Nat.add_sub_cancel_left
theorem aIn:type_of% @List.drop_drop.{0}:= @List.drop_drop
theorem vF:type_of% @Nat.le_succ:= @Nat.le_succ
theorem aJn:type_of% @Option.some.inj.{0}:= @Option.some.inj
theorem aH7:type_of% @Option.map_some.{0,0}:= @Option.map_some
theorem aMe:type_of% @Option.isSome_some.{0}:= @Option.isSome_some
theorem aC4:type_of% @Option.bind_some.{0,0}:= @Option.bind_some
theorem aAT:type_of% @List.getD_eq_getElem?_getD.{0}:= @List.getD_eq_getElem?_getD
theorem aK2:type_of% @List.getElem?_drop.{0}:= @List.getElem?_drop
theorem aHC:type_of% @Option.ne_none_iff_exists'.{0}:= @Option.ne_none_iff_exists'
theorem aMb:type_of% @List.length_filter_le.{0}:= @List.length_filter_le
theorem aKq:type_of% @Array.getElem?_toList.{0}:= @Array.getElem?_toList
theorem aLH:type_of% @List.getElem_mem.{0}:= @List.getElem_mem
theorem aKr:type_of% @List.mem_cons_of_mem.{0}:= @List.mem_cons_of_mem
theorem aKk:type_of% @List.mem_of_mem_erase.{0}:= @List.mem_of_mem_erase
theorem aKB:type_of% @List.mem_range:= @List.mem_range
theorem aH4:type_of% @Option.bind_eq_some_iff.{0,0}:= @Option.bind_eq_some_iff
theorem aI4:type_of% @Array.getElem?_eq_some_iff.{0}:= @Array.getElem?_eq_some_iff
theorem aKT:type_of% @Nat.pow_le_pow_right:= @Nat.pow_le_pow_right
theorem aKh:type_of% @Nat.lt_of_lt_of_le:= @Nat.lt_of_lt_of_le
theorem aKd:type_of% @List.nodup_cons.{0}:= @List.nodup_cons
theorem aKl:type_of% @Array.getD_eq_getD_getElem?.{0}:= @Array.getD_eq_getD_getElem?
theorem aHE:type_of% @List.filter_append.{0}:= @List.filter_append
theorem aMi:type_of% @List.filter_eq_self.{0}:= @List.filter_eq_self
@[match_pattern] abbrev pT (r o:Nat):Value:=.pointer (some ⟨r,o,none⟩)
abbrev PH:=Nat->Option Obj
abbrev cD:=Value->PH->Prop
abbrev gP:=List Value->PH->Prop
def PH.set(h:PH)(r:Nat)(o:Obj):PH:=λb=>if b=r then some o else h b
def dF(h:PH)(a:Addr):Option Value:=
 match h a.block with
 | some (.cells c _ _)=>if a.spot.isSome then none else c[a.off]?
 | _=>none
def uP(h:PH)(a:Addr):Bool:=
 match h a.block with
 | some (.cells _ _ (lo,hi))=>lo≤a.off&&a.off<hi
 | _=>false
def sE(h:PH)(a:Addr)(v:Value):PH:=λb=>
 if b=a.block then
  match h b with
  | some (.cells c e fr)=>some (.cells (if a.spot.isSome then c else c.setIfInBounds a.off v) e fr)
  | o=>o
 else h b
def mP(h:PH)(a:Addr)(n:Nat):PH:=λb=>
 if n=0 then h b else
 if b=a.block then
  match h b with
  | some (.cells c elem (lo,hi))=>some (.cells c elem (if lo==hi then(a.off,a.off+n) else(min lo a.off,max hi (a.off+n))))
  | o=>o
 else h b
def jY(h:PH)(r:Nat):Option (Option (TypeId×Nat)):=
 match h r with
 | some (.cells c elem _)=>some (some (elem,c.size))
 | some _=>some none
 | none=>none
def eP:Value->Bool
 | .agg _ | .tuple _=>false
 | _=>true
def pJ(h:PH)(w:World):Prop:=∀b o,h b=some o->w.heap[b]? =some o
structure Fr(h:PH)(w:World)(h':PH)(w':World):Prop where
 os:w'.os=w.os
 tape:w'.tape=w.tape
 output:w'.output=w.output
 drawn:w.drawn≤w'.drawn
 size:w.heap.size≤w'.heap.size
 far:∀b,b<w.heap.size->h b=none->w'.heap[b]? =w.heap[b]?
 none:∀b,b<w.heap.size->h b=Option.none->h' b=Option.none
theorem Fr.refl(h:PH)(w:World):Fr h w h w:=⟨rfl,rfl,rfl,oM _,oM _,λ_ _ _=>rfl,λ_ _ h=>h⟩
theorem Fr.trans{h h1 h2:PH}{w w1 w2:World}(a:Fr h w h1 w1)(b:Fr h1 w1 h2 w2):Fr h w h2 w2:=
 ⟨b.os.trans a.os,b.tape.trans a.tape,b.output.trans a.output,zLD a.drawn b.drawn,zLD a.size b.size,
  λi hi hn=>(b.far i (aKh hi a.size) (a.none i hi hn)).trans (a.far i hi hn),
  λi hi hn=>b.none i (aKh hi a.size) (a.none i hi hn)⟩
theorem pJ.lt{h:PH}{w:World}(hs:pJ h w){b:Nat}{o:Obj}(hb:h b=some o):b<w.heap.size:=
 (aI4.1 (hs b o hb)).1
theorem pJ.fresh{h:PH}{w:World}(hs:pJ h w):h w.heap.size=none:=by
 cases hb:h w.heap.size with
 | none=>rfl
 | some o=>exact absurd (hs.lt hb) (Nat.lt_irrefl _)
def cY(P:Program){α:Type}:Sem α->PH->(α->PH->Prop)->Prop
 | .pure a,h,Q=>Q a h
 | .load _ a k,h,Q=>∃v,dF h a=some v∧cY P (k v) h Q
 | .store _ a v k,h,Q=>eP v=true∧uP h a=false∧(∃u,dF h a=some u)∧cY P k (sE h a v) Q
 | .new o k,h,Q=>∀r,h r=none->cY P (k r) (h.set r o) Q
 | .shape r k,h,Q=>∃s,jY h r=some s∧cY P (k s) h Q
 | .freeze a n k,h,Q=>(∃o,h a.block=some o)∧cY P k (mP h a n) Q
 | .frozen a k,h,Q=>(∃o,h a.block=some o)∧cY P (k (uP h a)) h Q
 | .getObj r k,h,Q=>∃o,h r=some o∧(∀c e f,o≠ .cells c e f)∧cY P (k o) h Q
 | .setObj r o k,h,Q=>(∃u,h r=some u∧(∀c e f,u≠ .cells c e f))∧cY P k (h.set r o) Q
 | .choose q k,h,Q=>∀t,cY P (k (if q.forced then 0 else q.cut t)) h Q
 | .sys _ _,_,_=>False
 | .program k,h,Q=>cY P (k P) h Q
 | .mark _ k,h,Q=>cY P k h Q
 | .halt _,_,_=>False
def cE(P:Program){α:Type}(h:PH):Sem α->Option α
 | .pure a=>some a
 | .load _ a k=>(dF h a).bind λv=>cE P h (k v)
 | .shape r k=>(jY h r).bind λs=>cE P h (k s)
 | .frozen a k=>(h a.block).bind λ_=>cE P h (k (uP h a))
 | .program k=>cE P h (k P)
 | .mark _ k=>cE P h k
 | .getObj r k=>match h r with
  | some (.cells ..)=>none
  | some o=>cE P h (k o)
  | none=>none
 | _=>none
def cV(P:Program){α:Type}:Sem α->Option α
 | .pure a=>some a
 | .program k=>cV P (k P)
 | .mark _ k=>cV P k
 | _=>none
theorem cY.mono{P:Program}{α:Type}{s:Sem α}:∀{h:PH} {Q Q':α->PH->Prop},cY P s h Q->(∀a h,Q a h->Q' a h)->cY P s h Q':=by
 induction s with
 | pure a=>intro h Q Q' hh hq;exact hq _ _ hh
 | load m a k ih=>rintro h Q Q' ⟨v,hv,hh⟩ hq;exact⟨v,hv,ih v hh hq⟩
 | store m a v k ih=>rintro h Q Q' ⟨h1,h2,h3,hh⟩ hq;exact⟨h1,h2,h3,ih hh hq⟩
 | new o k ih=>intro h Q Q' hh hq r hr;exact ih r (hh r hr) hq
 | shape r k ih=>rintro h Q Q' ⟨v,hv,hh⟩ hq;exact⟨v,hv,ih v hh hq⟩
 | freeze a n k ih=>rintro h Q Q' ⟨h1,hh⟩ hq;exact⟨h1,ih hh hq⟩
 | frozen a k ih=>rintro h Q Q' ⟨h1,hh⟩ hq;exact⟨h1,ih _ hh hq⟩
 | getObj r k ih=>rintro h Q Q' ⟨o,ho,hc,hh⟩ hq;exact⟨o,ho,hc,ih o hh hq⟩
 | setObj r o k ih=>rintro h Q Q' ⟨h1,hh⟩ hq;exact⟨h1,ih hh hq⟩
 | choose q k ih=>intro h Q Q' hh hq t;exact ih _ (hh t) hq
 | sys c k ih=>intro h Q Q' hh;exact hh.elim
 | program k ih=>intro h Q Q' hh hq;exact ih P hh hq
 | mark m k ih=>intro h Q Q' hh hq;exact ih hh hq
 | halt x=>intro h Q Q' hh;exact hh.elim
theorem cY.bind{P:Program}{α β:Type}{s:Sem α}{f:α->Sem β}:∀{h:PH} {Q:β->PH->Prop},cY P s h (λa h'=>cY P (f a) h' Q)->cY P (s.bind f) h Q:=by
 induction s with
 | pure a=>intro h Q hh;exact hh
 | load m a k ih=>rintro h Q ⟨v,hv,hh⟩;exact⟨v,hv,ih v hh⟩
 | store m a v k ih=>rintro h Q ⟨h1,h2,h3,hh⟩;exact⟨h1,h2,h3,ih hh⟩
 | new o k ih=>intro h Q hh r hr;exact ih r (hh r hr)
 | shape r k ih=>rintro h Q ⟨v,hv,hh⟩;exact⟨v,hv,ih v hh⟩
 | freeze a n k ih=>rintro h Q ⟨h1,hh⟩;exact⟨h1,ih hh⟩
 | frozen a k ih=>rintro h Q ⟨h1,hh⟩;exact⟨h1,ih _ hh⟩
 | getObj r k ih=>rintro h Q ⟨o,ho,hc,hh⟩;exact⟨o,ho,hc,ih o hh⟩
 | setObj r o k ih=>rintro h Q ⟨h1,hh⟩;exact⟨h1,ih hh⟩
 | choose q k ih=>intro h Q hh t;exact ih _ (hh t)
 | sys c k ih=>intro h Q hh;exact hh.elim
 | program k ih=>intro h Q hh;exact ih P hh
 | mark m k ih=>intro h Q hh;exact ih hh
 | halt x=>intro h Q hh;exact hh.elim
theorem cV.semE{P:Program}{α:Type}{s:Sem α}:∀{a:α},cV P s=some a->∀h,cE P h s=some a:=by
 induction s with
 | pure a=>intro b hb h;exact hb
 | program k ih=>intro b hb h;exact ih P hb h
 | mark m k ih=>intro b hb h;exact ih hb h
 | _=>intro b hb;cases hb
theorem cE.semH{P:Program}{α:Type}{s:Sem α}:∀{a:α} {h:PH},cE P h s=some a->∀{Q:α->PH->Prop},Q a h->cY P s h Q:=by
 induction s with
 | pure a=>intro b h hb Q hq;simp only[cE,zL8] at hb;subst hb;exact hq
 | load m a k ih=>intro b h hb Q hq;obtain⟨v,hv,hb⟩:=aH4.1 hb;exact⟨v,hv,ih v hb hq⟩
 | shape r k ih=>intro b h hb Q hq;obtain⟨v,hv,hb⟩:=aH4.1 hb;exact⟨v,hv,ih v hb hq⟩
 | frozen a k ih=>intro b h hb Q hq;obtain⟨v,hv,hb⟩:=aH4.1 hb;exact⟨⟨v,hv⟩,ih _ hb hq⟩
 | program k ih=>intro b h hb Q hq;exact ih P hb hq
 | mark m k ih=>intro b h hb Q hq;exact ih hb hq
 | getObj r k ih=>
  intro b h hb Q hq;simp only[cE] at hb;split at hb
  ·cases hb
  ·rename_i o ho hr;exact⟨o,hr,λc e f hc=>ho c e f hc,ih o hb hq⟩
  ·cases hb
 | _=>intro b h hb;cases hb
theorem pJ.cell{h:PH}{w:World}(hs:pJ h w){a:Addr}{v:Value}(hv:dF h a=some v):w.cell? a=some v:=by
 unfold dF at hv;split at hv
 ·rename_i c e f hb;unfold World.cell?;rw[hs _ _ hb];exact hv
 ·cases hv
theorem pJ.shape{h:PH}{w:World}(hs:pJ h w){r:Nat}{s:Option (TypeId×Nat)}(hv:jY h r=some s):w.shape? r=s:=by
 unfold jY at hv;unfold World.shape?;split at hv
 ·rename_i c e f hb;rw[hs _ _ hb];simpa using hv
 ·rename_i o hne hb;rw[hs _ _ hb];simp only[zL8] at hv;subst hv;split
  ·rename_i c e f hc;simp only[zL8] at hc;subst hc;exact absurd hb (by simpa using hne c e f)
  ·rfl
 ·cases hv
theorem pJ.frozen{h:PH}{w:World}(hs:pJ h w){a:Addr}{o:Obj}(ho:h a.block=some o):w.frozen? a=uP h a:=by
 unfold World.frozen? uP;rw[hs _ _ ho,ho];cases o<;>rfl
theorem aOd(w:World)(o:Obj)(b:Nat):({w with heap:=w.heap.push o}:World).heap[b]? =if b=w.heap.size then some o else w.heap[b]?:=by
 simp only[Array.getElem?_push]
theorem pJ.new{h:PH}{w:World}(hs:pJ h w)(o:Obj):pJ (h.set w.heap.size o) {w with heap:=w.heap.push o}∧Fr h w (h.set w.heap.size o) {w with heap:=w.heap.push o}:=by
 refine⟨λb u hb=>?_,rfl,rfl,rfl,oM _,by simp,λb hb hn=>?_,λb hb hn=>?_⟩
 ·rw[aOd];unfold PH.set at hb;split at hb
  ·rename_i e;rw[if_pos e];exact hb
  ·rename_i e;rw[if_neg e];exact hs b u hb
 ·rw[aOd,if_neg (Nat.ne_of_lt hb)]
 ·unfold PH.set;rw[if_neg (Nat.ne_of_lt hb)];exact hn
theorem pJ.modify{h:PH}{w:World}(hs:pJ h w)(g:Nat)(f:Obj->Obj)(h':PH)(hh:∀b,h' b=if b=g then(h b).map f else h b){o:Obj}(hg:h g=some o):
  pJ h' {w with heap:=w.heap.modify g f}∧Fr h w h' {w with heap:=w.heap.modify g f}:=by
 refine⟨λb u hb=>?_,rfl,rfl,rfl,oM _,by simp,λb hb hn=>?_,λb hb hn=>?_⟩
 ·rw[hh] at hb;simp only[Array.getElem?_modify];by_cases e:b=g
  ·subst e;simp only[if_true,hg,aH7,zL8] at hb;subst hb;simp[hs _ _ hg]
  ·rw[if_neg e] at hb;rw[if_neg (Ne.symm e)];exact hs b u hb
 ·have e:g≠b:=λe=>by subst e;rw[hg] at hn;cases hn
  simp only[Array.getElem?_modify,if_neg e]
 ·rw[hh];by_cases e:b=g
  ·subst e;rw[hg] at hn;cases hn
  ·rw[if_neg e];exact hn
theorem aFI{h:PH}{a:Addr}{v:Value}(hv:dF h a=some v):∃c e f,h a.block=some (.cells c e f):=by
 unfold dF at hv;split at hv
 ·rename_i c e f hb;exact⟨c,e,f,hb⟩
 ·cases hv
theorem cY.sound{P:Program}{α:Type}{s:Sem α}:∀{h:PH} {Q:α->PH->Prop},cY P s h Q->∀{w:World},pJ h w->
  ∃a w' h',s.run P w= .ok a w'∧Q a h'∧pJ h' w'∧Fr h w h' w':=by
 induction s with
 | pure a=>intro h Q hh w hs;exact⟨a,w,h,rfl,hh,hs,Fr.refl _ _⟩
 | load m a k ih=>
  rintro h Q ⟨v,hv,hh⟩ w hs;obtain⟨x,w',h',hr,hrest⟩:=ih v hh hs;exact⟨x,w',h',by simp only[Sem.run,hs.cell hv];exact hr,hrest⟩
 | store m a v k ih=>
  rintro h Q ⟨h1,h2,⟨u,hu⟩,hh⟩ w hs;obtain⟨c,e,f,hb⟩:=aFI hu;have hm:=hs.modify a.block (fun | .cells c elem frozen=>.cells (if a.spot.isSome then c else c.setIfInBounds a.off v) elem frozen|o=>o) (sE h a v)
   (by
     intro b;unfold sE;split
     ·cases h b with
      | none=>rfl
      | some o=>cases o<;>rfl
     ·rfl) hb
  obtain⟨x,w',h',hr,hq,hs',hf⟩:=ih hh hm.1;refine⟨x,w',h',?_,hq,hs',hm.2.trans hf⟩;have hfz:w.frozen? a=false:=by rw[hs.frozen hb];exact h2
  cases v<;>simp[eP] at h1<;>simp only[Sem.run,hs.cell hu,hfz]<;>exact hr
 | new o k ih=>
  intro h Q hh w hs;have hn:=hs.new o;obtain⟨x,w',h',hr,hq,hs',hf⟩:=ih _ (hh _ hs.fresh) hn.1;exact⟨x,w',h',hr,hq,hs',hn.2.trans hf⟩
 | shape r k ih=>
  rintro h Q ⟨v,hv,hh⟩ w hs;obtain⟨x,w',h',hr,hrest⟩:=ih v hh hs;exact⟨x,w',h',by simp only[Sem.run,hs.shape hv];exact hr,hrest⟩
 | freeze a n k ih=>
  rintro h Q ⟨⟨o,ho⟩,hh⟩ w hs;by_cases hn:n=0
  ·have e:mP h a n=h:=by funext b;simp[mP,hn]
   rw[e] at hh;obtain⟨x,w',h',hr,hrest⟩:=ih hh hs;exact⟨x,w',h',by simp only[Sem.run,World.freeze,hn,if_true];exact hr,hrest⟩
  ·have hm:=hs.modify a.block (fun | .cells c elem (lo,hi)=>.cells c elem (if lo==hi then(a.off,a.off+n) else(min lo a.off,max hi (a.off+n)))|o=>o) (mP h a n)
    (by
      intro b;unfold mP;rw[if_neg hn];split
      ·cases h b with
       | none=>rfl
       | some o=>cases o<;>rfl
      ·rfl) ho
   obtain⟨x,w',h',hr,hq,hs',hf⟩:=ih hh hm.1;exact⟨x,w',h',by simp only[Sem.run,World.freeze,hn,if_false];exact hr,hq,hs',hm.2.trans hf⟩
 | frozen a k ih=>
  rintro h Q ⟨⟨o,ho⟩,hh⟩ w hs;obtain⟨x,w',h',hr,hrest⟩:=ih _ hh hs;exact⟨x,w',h',by simp only[Sem.run,hs.frozen ho];exact hr,hrest⟩
 | getObj r k ih=>
  rintro h Q ⟨o,ho,hc,hh⟩ w hs;obtain⟨x,w',h',hr,hrest⟩:=ih _ hh hs;refine⟨x,w',h',?_,hrest⟩;simp only[Sem.run,hs _ _ ho];cases o<;>first|exact absurd rfl (hc _ _ _)|exact hr
 | setObj r o k ih=>
  rintro h Q ⟨⟨u,hu,hc⟩,hh⟩ w hs;have hlt:=hs.lt hu;have hm:=hs.modify r (λ_=>o) (h.set r o) (λb=>by
   unfold PH.set;split
   ·rename_i e;subst e;rw[hu];rfl
   ·rfl) hu
  have he:w.heap.modify r (λ_=>o)=w.heap.setIfInBounds r o:=by
   apply Array.ext_getElem?;intro i;simp only[Array.getElem?_modify,Array.getElem?_setIfInBounds];by_cases e:r=i
   ·subst e;simp[hlt]
   ·simp[e]
  rw[he] at hm;obtain⟨x,w',h',hr,hq,hs',hf⟩:=ih hh hm.1;refine⟨x,w',h',?_,hq,hs',hm.2.trans hf⟩;simp only[Sem.run,hs _ _ hu];cases u<;>first|exact absurd rfl (hc _ _ _)|exact hr
 | choose q k ih=>
  intro h Q hh w hs;by_cases hq:q.forced
  ·have h0:=hh 0;simp only[hq,if_true] at h0;obtain⟨x,w',h',hr,hrest⟩:=ih _ h0 hs;exact⟨x,w',h',by simp only[Sem.run,hq,if_true];exact hr,hrest⟩
  ·have h0:=hh (w.tape w.drawn q);simp only[hq] at h0;have hs1:pJ h {w with drawn:=w.drawn+1}:=hs;obtain⟨x,w',h',hr,hqq,hs',hf⟩:=ih _ h0 hs1;exact⟨x,w',h',by simp only[Sem.run,hq];exact hr,hqq,hs',⟨hf.os,hf.tape,hf.output,zLD (vF _) hf.drawn,hf.size,hf.far,hf.none⟩⟩
 | sys c k ih=>intro h Q hh;exact hh.elim
 | program k ih=>
  intro h Q hh w hs;obtain⟨x,w',h',hr,hrest⟩:=ih P hh hs;exact⟨x,w',h',hr,hrest⟩
 | mark m k ih=>
  intro h Q hh w hs;obtain⟨x,w',h',hr,hrest⟩:=ih hh hs;exact⟨x,w',h',hr,hrest⟩
 | halt x=>intro h Q hh;exact hh.elim
theorem cY.frame{P:Program}{α:Type}{s:Sem α}(r:Nat)(o:Obj):∀{h:PH} {Q:α->PH->Prop},cY P s h Q->h r=none->
  cY P s (h.set r o) (λa h2=>∃h1:PH,h2=h1.set r o∧h1 r=none∧Q a h1):=by
 have hset:∀(h:PH) b,h r=none->(∃u,h b=some u)->(h.set r o) b=h b:=by
  intro h b hr ⟨u,hu⟩;unfold PH.set;rw[if_neg];rintro rfl;rw[hr] at hu;cases hu
 induction s with
 | pure a=>intro h Q hh hr;exact⟨h,rfl,hr,hh⟩
 | load m a k ih=>
  rintro h Q ⟨v,hv,hh⟩ hr;obtain⟨c,e,f,hb⟩:=aFI hv;exact⟨v,by unfold dF at *;rw[hset h _ hr ⟨_,hb⟩];exact hv,ih v hh hr⟩
 | store m a v k ih=>
  rintro h Q ⟨h1,h2,⟨u,hu⟩,hh⟩ hr;obtain⟨c,e,f,hb⟩:=aFI hu;have hne:a.block≠r:=by rintro rfl;rw[hr] at hb;cases hb
  refine⟨h1,by unfold uP at *;rw[hset h _ hr ⟨_,hb⟩];exact h2,⟨u,by unfold dF at *;rw[hset h _ hr ⟨_,hb⟩];exact hu⟩,?_⟩;have he:sE (h.set r o) a v=(sE h a v).set r o:=by
   funext b;unfold sE PH.set;by_cases e1:b=r
   ·subst e1;simp[Ne.symm hne]
   ·simp[e1]
  rw[he];exact ih hh (by unfold sE;rw[if_neg (Ne.symm hne)];exact hr)
 | new o' k ih=>
  intro h Q hh hr r' hr';have hne:r'≠r:=by rintro rfl;simp[PH.set] at hr'
  have hr2:h r'=none:=by unfold PH.set at hr';rw[if_neg hne] at hr';exact hr'
  have he:(h.set r o).set r' o'=(h.set r' o').set r o:=by
   funext b;unfold PH.set;by_cases e1:b=r'
   ·subst e1;simp[hne]
   ·simp[e1]
  rw[he];exact ih r' (hh r' hr2) (by unfold PH.set;rw[if_neg (Ne.symm hne)];exact hr)
 | shape r' k ih=>
  rintro h Q ⟨v,hv,hh⟩ hr;have hb:∃u,h r'=some u:=by
   unfold jY at hv;cases hx:h r' with
   | none=>rw[hx] at hv;cases hv
   | some u=>exact⟨u,rfl⟩
  exact⟨v,by unfold jY at *;rw[hset h _ hr hb];exact hv,ih v hh hr⟩
 | freeze a n k ih=>
  rintro h Q ⟨⟨u,hu⟩,hh⟩ hr;have hne:a.block≠r:=by rintro rfl;rw[hr] at hu;cases hu
  refine⟨⟨u,by rw[hset h _ hr ⟨_,hu⟩];exact hu⟩,?_⟩;have he:mP (h.set r o) a n=(mP h a n).set r o:=by
   funext b;unfold mP PH.set;by_cases e1:b=r
   ·subst e1;simp[Ne.symm hne]
   ·simp[e1]
  rw[he];exact ih hh (by unfold mP;simp[Ne.symm hne,hr])
 | frozen a k ih=>
  rintro h Q ⟨⟨u,hu⟩,hh⟩ hr;have hb:=hset h _ hr ⟨_,hu⟩;refine⟨⟨u,by rw[hb];exact hu⟩,?_⟩;have:uP (h.set r o) a=uP h a:=by unfold uP;rw[hb]
  rw[this];exact ih _ hh hr
 | getObj r' k ih=>
  rintro h Q ⟨u,hu,hc,hh⟩ hr;exact⟨u,by rw[hset h _ hr ⟨_,hu⟩];exact hu,hc,ih _ hh hr⟩
 | setObj r' o' k ih=>
  rintro h Q ⟨⟨u,hu,hc⟩,hh⟩ hr;have hne:r'≠r:=by rintro rfl;rw[hr] at hu;cases hu
  refine⟨⟨u,by rw[hset h _ hr ⟨_,hu⟩];exact hu,hc⟩,?_⟩;have he:(h.set r o).set r' o'=(h.set r' o').set r o:=by
   funext b;unfold PH.set;by_cases e1:b=r'
   ·subst e1;simp[hne]
   ·simp[e1]
  rw[he];exact ih hh (by unfold PH.set;rw[if_neg (Ne.symm hne)];exact hr)
 | choose q k ih=>intro h Q hh hr t;exact ih _ (hh t) hr
 | sys c k ih=>intro h Q hh;exact hh.elim
 | program k ih=>intro h Q hh hr;exact ih P hh hr
 | mark m k ih=>intro h Q hh hr;exact ih hh hr
 | halt x=>intro h Q hh;exact hh.elim
abbrev lI:=Nat->Value
def upd(ρ:lI)(d:Option Tmp)(v:Value):lI:=match d with
 | some d=>λt=>if t=d then v else ρ t
 | none=>ρ
def ev(ρ:lI):Operand->Value
 | .tmp t=>ρ t
 | .const v=>v
 | .global g=>pT g 0
 | .func f=>.func (.func f) #[] #[]
theorem cE.of_semH{P:Program}{α:Type}{s:Sem α}:∀{a:α} {h:PH} {Q:α->PH->Prop},cE P h s=some a->cY P s h Q->Q a h:=by
 induction s with
 | pure a=>intro b h Q hb hh;simp only[cE,zL8] at hb;subst hb;exact hh
 | load m a k ih=>rintro b h Q hb ⟨v,hv,hh⟩;simp only[cE,hv,aC4] at hb;exact ih v hb hh
 | shape r k ih=>rintro b h Q hb ⟨v,hv,hh⟩;simp only[cE,hv,aC4] at hb;exact ih v hb hh
 | frozen a k ih=>rintro b h Q hb ⟨⟨v,hv⟩,hh⟩;simp only[cE,hv,aC4] at hb;exact ih _ hb hh
 | program k ih=>intro b h Q hb hh;exact ih P hb hh
 | mark m k ih=>intro b h Q hb hh;exact ih hb hh
 | getObj r k ih=>
  rintro b h Q hb ⟨o,ho,hc,hh⟩;simp only[cE,ho] at hb;cases o<;>first|exact absurd rfl (hc _ _ _)|exact ih _ hb hh
 | _=>intro b h Q hb;cases hb
def aEL(P:Program)(f:FuncId):Bool:=match P.funcs[f]? with
 | some fn=>!(fn.name == "runtime.NumGoroutine") && !fn.body.isNone
 | none=>false
def aT(P:Program)(f:FuncId)(args:Array Value)(h:PH)(R:cD):Prop:=
 (aEL P f=true∧∀w,pJ h w->Calls P f args w λe w'=>∃v h',e= .returned v∧R v h'∧pJ h' w'∧Fr h w h' w')∨
 cY P (callFunc f args) h λn h'=>∃v,n= .value v∧R v h'
theorem aT.mono{P:Program}{f:FuncId}{args:Array Value}{h:PH}{R R':cD}(hc:aT P f args h R)(hr:∀v h,R v h->R' v h):aT P f args h R':=by
 rcases hc with⟨h1,h2⟩|hs
 ·exact .inl ⟨h1,λw hs=>(h2 w hs).mono λ_ _ ⟨v,h',e,r,rest⟩=>⟨v,h',e,hr _ _ r,rest⟩⟩
 ·exact .inr (hs.mono λn h' ⟨v,e,hv⟩=>⟨v,e,hr _ _ hv⟩)
theorem aT.entry{P:Program}{f:FuncId}{args:Array Value}{h:PH}{R:cD}{v:Value}(e:cE P h (callFunc f args)=some (.value v))(hv:R v h):aT P f args h R:=.inr (cE.semH e ⟨v,rfl,hv⟩)
def yN(P:Program)(n:Next)(h:PH)(kv:cD):Prop:=match n with
 | .value v=>kv v h
 | .skip=>kv undef h
 | .enter f args=>∀w,pJ h w->Calls P f args w λe w'=>∃v h',e= .returned v∧kv v h'∧pJ h' w'∧Fr h w h' w'
 | .round l f tmps assign body=>∀w,pJ h w->RoundIn Fence.wide 0 P l f tmps assign body w λe w'=>∃v h',e= .returned v∧kv v h'∧pJ h' w'∧Fr h w h' w'
 | _=>False
theorem yN.mono{P:Program}{n:Next}{h:PH}{k k':cD}(hn:yN P n h k)(hk:∀v h,k v h->k' v h):yN P n h k':=by
 cases n<;>first
  | exact hk _ _ hn
  | exact λw hs=>Calls.mono (hn w hs) λ_ _ ⟨v,h',e,r,rest⟩=>⟨v,h',e,hk _ _ r,rest⟩
  | exact λw hs=>RoundIn.mono (hn w hs) λ_ _ ⟨v,h',e,r,rest⟩=>⟨v,h',e,hk _ _ r,rest⟩
  | exact hn.elim
def dY{α:Type}(x:Option α)(k:α->Prop):Prop:=match x with
 | some v=>k v
 | none=>False
theorem fN{α:Type}{x:Option α}{k:α->Prop}:dY x k↔∃v,x=some v∧k v:=by
 cases x<;>simp[dY]
def fH(c a b:Value):Option Value:=match c with
 | .bool true=>some a
 | .bool false=>some b
 | _=>none
def jM(P:Program){α:Type}:Sem α->Option (Obj×(Nat->Sem α))
 | .new o k=>some (o,k)
 | .program k=>jM P (k P)
 | .mark _ k=>jM P k
 | _=>none
theorem jM.semH{P:Program}{α:Type}{s:Sem α}:∀{o:Obj} {k:Nat->Sem α},jM P s=some (o,k)->∀{h:PH} {Q:α->PH->Prop},
  (∀r,h r=none->cY P (k r) (h.set r o) Q)->cY P s h Q:=by
 induction s with
 | new o k ih=>intro o' k' hb h Q hq;simp only[jM,zL8,Prod.mk.injEq] at hb;obtain⟨rfl,rfl⟩:=hb;exact hq
 | program k ih=>intro o' k' hb h Q hq;exact ih P hb hq
 | mark m k ih=>intro o' k' hb h Q hq;exact ih hb hq
 | _=>intro o' k' hb;cases hb
inductive Cls where
 | p|r|a|e
 deriving DecidableEq,Repr
def lP(P:Program):Op->Cls
 | .move _ | .assign _ | .pick .. | .nilCheck _ | .unOp .. | .fieldAddr .. | .field .. | .indexAddr .. | .index .. | .slice .. | .extract .. | .makeFunc .. | .build .. | .makeInterface .. =>.p
 | .binOp op .. =>match op with
  | .eql | .neq=>.r
  | _=>.p
 | .load .. | .lookup .. =>.r
 | .convert _ dst _=>match P.underlying dst with
  | some (.int _)=>.p
  | some .string=>.r
  | _=>.e
 | .alloc .. | .box .. | .buildSlice .. | .makeMap .. | .makeSlice .. =>.a
 | .call c=>match c.callee with
  | .builtin .len=>match (c.argTypes[0]?).bind P.underlying with
   | some (.map ..)=>.r
   | _=>.p
  | .builtin .min | .builtin .max | .builtin .cap=>.p
  | _=>.e
 | _=>.e
def vK(ρ:lI)(o:Oper):Sem Value:=match o.op with
 | .move x | .assign x=>pure (ev ρ x)
 | .pick c a b=>do pure (if ←asBool (ev ρ c) then ev ρ a else ev ρ b)
 | .alloc elem=>Instr.alloc elem true (.tuple #[])
 | .box elem x=>Instr.box elem (ev ρ x)
 | .build t jE=>build t (jE.map λ(i,x)=>(i,ev ρ x))
 | .buildSlice t len jE=>buildSlice t len (jE.map λ(i,x)=>(i,ev ρ x))
 | .load t a=>loadAt t (ev ρ a)
 | .nilCheck x=>
  match ev ρ x with
  | .pointer none | .nilIface | .nilFunc=>.halt (.stuck "nil")
  | .func (.method _) _ _=>.halt (.stuck "method")
  | x=>pure x
 | .binOp op xType x y _=>do eqGuard op xType x y (ev ρ x) (ev ρ y);binOp op xType (ev ρ x) (ev ρ y)
 | .unOp op _ x=>Op.unary op (ev ρ x)
 | .convert src dst x=>convert src dst (ev ρ x)
 | .makeInterface xType x=>Instr.makeInterface xType (ev ρ x)
 | .makeFunc fn first captured=>Instr.makeFunc fn (first.map (ev ρ)) (captured.map (ev ρ))
 | .makeMap t r=>Instr.makeMap t (r.map (ev ρ))
 | .makeSlice t l c=>Instr.makeSlice t (ev ρ l) (ev ρ c)
 | .slice t x lo hi mx=>Instr.sliceAt t (ev ρ x) (lo.map (ev ρ)) (hi.map (ev ρ)) (mx.map (ev ρ))
 | .fieldAddr s x f=>fieldAt s (ev ρ x) f
 | .field xType x f=>Instr.field xType (ev ρ x) f
 | .indexAddr t x ix=>indexAt t (ev ρ x) (ev ρ ix)
 | .index xType x ix=>Instr.index xType (ev ρ x) (ev ρ ix)
 | .lookup xType x ix ok=>Instr.lookup xType (ev ρ x) (ev ρ ix) ok
 | .extract t ix=>extract (ev ρ t) ix
 | .range xType x=>Instr.range xType (ev ρ x)
 | .next it isString=>Instr.next (ev ρ it) isString o.type
 | .entry it=>Instr.entry (ev ρ it)
 | .mapEntry t m k=>Instr.mapEntry t (ev ρ m) (ev ρ k)
 | .typeAssert x xType asserted ok=>Instr.typeAssert (ev ρ x) xType asserted ok
 | .store t a x=>do Instr.storeAt t (ev ρ a) (ev ρ x);pure undef
 | .mapUpdate t m k x | .insert t m k x=>do Instr.mapUpdate t (ev ρ m) (ev ρ k) (ev ρ x);pure undef
 | .entryStore t m s x=>do Instr.entryStore t (ev ρ m) (ev ρ s) (ev ρ x);pure undef
 | .call c=>match c.callee with
  | .builtin .append=>Builtin.append_ c.argTypes o.type (c.args.map (ev ρ))
  | .builtin .len=>Builtin.len_ c.argTypes o.type (c.args.map (ev ρ))
  | .builtin .cap=>Builtin.cap_ c.argTypes o.type (c.args.map (ev ρ))
  | .builtin .min=>Builtin.min_ c.argTypes o.type (c.args.map (ev ρ))
  | .builtin .max=>Builtin.max_ c.argTypes o.type (c.args.map (ev ρ))
  | .builtin .copy=>Builtin.copy_ c.argTypes o.type (c.args.map (ev ρ))
  | .builtin .clear=>Builtin.clear_ c.argTypes o.type (c.args.map (ev ρ))
  | .builtin .delete=>Builtin.delete_ c.argTypes o.type (c.args.map (ev ρ))
  | .builtin .unsafeString=>Builtin.unsafeString_ c.argTypes o.type (c.args.map (ev ρ))
  | .builtin .unsafeSliceData=>Builtin.unsafeSliceData_ c.argTypes o.type (c.args.map (ev ρ))
  | .builtin .unsafeStringData=>Builtin.unsafeStringData_ c.argTypes o.type (c.args.map (ev ρ))
  | .builtin .unsafeSlice=>Builtin.unsafeSlice_ c.argTypes o.type (c.args.map (ev ρ))
  | _=>.halt (.stuck "no value")
 | _=>.halt (.stuck "no value")
def aIR(P:Program)(c:Call)(ρ:lI)(h:PH)(kv:cD):Prop:=match c.callee with
 | .value (.func f)=>aT P f (c.args.map (ev ρ)) h kv
 | .value x=>match ev ρ x with
  | .func (.func f) first captured=>aT P f (first++c.args.map (ev ρ)++captured) h kv
  | .func fn first captured=>cY P (invoke (.fn fn captured) (first++c.args.map (ev ρ))) h λn h'=>yN P n h' kv
  | _=>False
 | .invoke recv name=>cY P (callMethod (ev ρ recv) name (c.args.map (ev ρ))) h λn h'=>yN P n h' kv
 | .builtin _=>False
def opV(P:Program)(o:Oper)(ρ:lI)(h:PH)(kv:cD):Prop:=match lP P o.op with
 | .p=>match o.op with
  | .move x | .assign x=>kv (ev ρ x) h
  | .pick c a b=>dY (fH (ev ρ c) (ev ρ a) (ev ρ b)) λv=>kv v h
  | _=>dY (cV P (vK ρ o)) λv=>kv v h
 | .r=>dY (cE P h (vK ρ o)) λv=>kv v h
 | .a=>dY (jM P (vK ρ o)) λx=>∀r,h r=none->dY (cV P (x.2 r)) λv=>kv v (h.set r x.1)
 | .e=>match o.op with
  | .call c=>match c.callee with
   | .builtin _=>cY P (vK ρ o) h kv
   | _=>aIR P c ρ h kv
  | _=>cY P (vK ρ o) h kv
def aHi(ops:Array Oper)(ρ:lI)(j:Nat):Option Bool:=match (ops[j]?).bind (·.dst) with
 | some d=>match ρ d with
  | .bool b=>some b
  | _=>none
 | none=>none
def nO(y:Option Bool)(want:Bool)(X:(Value->PH->Prop)->Prop)(h:PH)(kv:cD):Prop:=
 if y==some want then X kv else kv undef h
def kI(P:Program)(all:Array Oper)(o:Oper)(ρ:lI)(h:PH)(kv:cD):Prop:=match o.guard with
 | none=>opV P o ρ h kv
 | some (j,want)=>nO (aHi all ρ j) want (opV P o ρ h) h kv
def aSN(P:Program)(all:Array Oper)(k:lI->PH->Prop):List Oper->lI->PH->Prop
 | [],ρ,h=>k ρ h
 | o::rest,ρ,h=>kI P all o ρ h λv h'=>aSN P all k rest (upd ρ o.dst v) h'
theorem opV.mono{P:Program}{o:Oper}{ρ:lI}{h:PH}{k k':cD}(hk:∀v h,k v h->k' v h)(ho:opV P o ρ h k):opV P o ρ h k':=by
 unfold opV at *;split at ho
 ·split at ho
  ·exact hk _ _ ho
  ·exact hk _ _ ho
  ·obtain⟨v,e,hv⟩:=fN.1 ho;exact fN.2 ⟨v,e,hk _ _ hv⟩
  ·obtain⟨v,e,hv⟩:=fN.1 ho;exact fN.2 ⟨v,e,hk _ _ hv⟩
 ·obtain⟨v,e,hv⟩:=fN.1 ho;exact fN.2 ⟨v,e,hk _ _ hv⟩
 ·obtain⟨x,e,hx⟩:=fN.1 ho;refine fN.2 ⟨x,e,λr hr=>?_⟩;obtain⟨v,e,hv⟩:=fN.1 (hx r hr);exact fN.2 ⟨v,e,hk _ _ hv⟩
 ·split at ho
  ·split at ho
   ·exact ho.mono hk
   ·unfold aIR at *;split at ho
    ·exact ho.mono hk
    ·split at ho
     ·exact ho.mono hk
     ·exact ho.mono λ_ _ hn=>hn.mono hk
     ·exact ho.elim
    ·exact ho.mono λ_ _ hn=>hn.mono hk
    ·exact ho.elim
  ·exact ho.mono hk
theorem kI.mono{P:Program}{all:Array Oper}{o:Oper}{ρ:lI}{h:PH}{k k':cD}(hk:∀v h,k v h->k' v h)(ho:kI P all o ρ h k):kI P all o ρ h k':=by
 unfold kI at *;split
 ·rename_i e;simp only[e] at ho;exact ho.mono hk
 ·rename_i j want e;simp only[e] at ho;unfold nO at *;split
  ·rename_i e;rw[if_pos e] at ho;exact ho.mono hk
  ·rename_i e;rw[if_neg e] at ho;exact hk _ _ ho
theorem opV.noDefer{P:Program}{o:Oper}{ρ:lI}{h:PH}{kv:cD}(ho:opV P o ρ h kv):∀c,o.op≠ .defer c:=by
 intro c hc;have e:lP P o.op= .e:=by rw[hc];rfl
 unfold opV at ho;rw[e] at ho;simp only[hc] at ho;unfold vK at ho;rw[hc] at ho;exact ho
theorem aIH{P:Program}{f:FuncId}{args:Array Value}{h:PH}(he:aEL P f=true):cE P h (callFunc f args)=some (.enter f args):=by
 unfold aEL at he;split at he
 ·rename_i fn hf;simp only[yB,Bool.not_eq_true'] at he;unfold callFunc;show cE P h (match P.funcs[f]? with|none=>_|some fn=>_)=_;simp only[hf,he.1,he.2,zLt,if_false];rfl
 ·cases he
theorem aPN{P:Program}{f:FuncId}{args:Array Value}{h:PH}{kv:cD}(hc:aT P f args h kv):
  cY P (callFunc f args) h λn h'=>yN P n h' kv:=by
 rcases hc with⟨he,hw⟩|hs
 ·exact cE.semH (aIH he) hw
 ·exact hs.mono λn h' ⟨v,e,hv⟩=>by subst e;exact hv
theorem aT.calls{P:Program}{f:FuncId}{args:Array Value}{h:PH}{R:cD}(hc:aT P f args h R)(he:aEL P f=true):∀w,pJ h w->Calls P f args w λe w'=>∃v h',e= .returned v∧R v h'∧pJ h' w'∧Fr h w h' w':=by
 rcases hc with⟨_,hw⟩|hs
 ·exact hw
 ·obtain⟨v,e,_⟩:=cE.of_semH (aIH he) hs;cases e
theorem aTk{P:Program}{s:Sem Value}{h:PH}{kv:cD}(hs:cY P s h kv):
  cY P (do pure (Next.value (←s))) h λn h'=>yN P n h' kv:=
 cY.bind (P:=P) (s:=s) (f:=λv=>pure (Next.value v)) hs
theorem aXU{P:Program}{s:Sem Unit}{h:PH}{kv:cD}(hs:cY P (do s;pure undef) h kv):
  cY P (do s;pure Next.skip) h λn h'=>yN P n h' kv:=by
 have key:∀(s:Sem Unit) (h:PH),cY P (s.bind λ_=>pure undef) h kv->cY P (s.bind λ_=>pure Next.skip) h λn h'=>yN P n h' kv:=by
  intro s;induction s with
  | pure a=>intro h hh;exact hh
  | load m a k ih=>rintro h ⟨v,hv,hh⟩;exact⟨v,hv,ih v h hh⟩
  | store m a v k ih=>rintro h ⟨h1,h2,h3,hh⟩;exact⟨h1,h2,h3,ih _ hh⟩
  | new o k ih=>intro h hh r hr;exact ih r _ (hh r hr)
  | shape r k ih=>rintro h ⟨v,hv,hh⟩;exact⟨v,hv,ih v _ hh⟩
  | freeze a n k ih=>rintro h ⟨h1,hh⟩;exact⟨h1,ih _ hh⟩
  | frozen a k ih=>rintro h ⟨h1,hh⟩;exact⟨h1,ih _ _ hh⟩
  | getObj r k ih=>rintro h ⟨o,ho,hc,hh⟩;exact⟨o,ho,hc,ih o _ hh⟩
  | setObj r o k ih=>rintro h ⟨h1,hh⟩;exact⟨h1,ih _ hh⟩
  | choose q k ih=>intro h hh t;exact ih _ _ (hh t)
  | sys c k ih=>intro h hh;exact hh.elim
  | program k ih=>intro h hh;exact ih P _ hh
  | mark m k ih=>intro h hh;exact ih _ hh
  | halt x=>intro h hh;exact hh.elim
 exact key s h hs
theorem aUy(x:Value)(xs:Array Value):(#[x]++xs)[0]? =some x:=by
 rcases xs with⟨l⟩;simp
theorem aWj(x:Value)(xs:Array Value):(#[x]++xs).extract 1 (#[x]++xs).size=xs:=by
 rcases xs with⟨l⟩;apply zLv;simp[List.drop_one]
theorem opV.exec{P:Program}{o:Oper}{ρ:lI}{h:PH}{kv:cD}(ho:opV P o ρ h kv):
  cY P (execOp (ev ρ) o) h λn h'=>yN P n h' kv:=by
 have hcases:cY P (vK ρ o) h kv∨(∃c,o.op= .call c∧aIR P c ρ h kv):=by
  unfold opV at ho;split at ho
  ·left;split at ho
   ·rename_i x hx;unfold vK;rw[hx];exact ho
   ·rename_i x hx;unfold vK;rw[hx];exact ho
   ·rename_i c a b hx;obtain⟨v,e,hv⟩:=fN.1 ho;unfold vK;rw[hx];show cY P ((asBool (ev ρ c)).bind λx=>pure (if x then ev ρ a else ev ρ b)) h kv;generalize ev ρ c=vc at *;cases vc with
    | bool t=>cases t<;>(simp only[fH,zL8] at e;subst e;exact hv)
    | _=>cases e
   ·obtain⟨v,e,hv⟩:=fN.1 ho;exact cE.semH (cV.semE e h) hv
  ·left;obtain⟨v,e,hv⟩:=fN.1 ho;exact cE.semH e hv
  ·left;obtain⟨x,e,hx⟩:=fN.1 ho;refine jM.semH (o:=x.1) (k:=x.2) e λr hr=>?_;obtain⟨v,e,hv⟩:=fN.1 (hx r hr);exact cE.semH (cV.semE e _) hv
  ·split at ho
   ·split at ho
    ·left;exact ho
    ·right;exact⟨_,by assumption,ho⟩
   ·left;exact ho
 rcases hcases with hs|⟨c,hc,hv⟩
 ·unfold vK at hs;unfold execOp;cases hop:o.op<;>simp only[hop] at hs ⊢
  case move=>exact hs
  case assign=>exact hs
  case pick c a b=>
   have hs':cY P ((asBool (ev ρ c)).bind λx=>pure (if x then ev ρ a else ev ρ b)) h kv:=hs;show cY P ((asBool (ev ρ c)).bind λx=>pure (Next.value (if x then ev ρ a else ev ρ b))) h _;generalize ev ρ c=vc at *;cases vc with
   | bool t=>exact hs'
   | _=>exact hs'.elim
  case nilCheck x=>
   generalize ev ρ x=v at *;cases v with
   | pointer a=>cases a with
    | none=>exact hs.elim
    | some a=>exact hs
   | func fn first captured=>cases fn with
    | method name=>exact hs.elim
    | _=>exact hs
   | nilIface=>exact hs.elim
   | nilFunc=>exact hs.elim
   | _=>exact hs
  case call c=>
   cases hcal:c.callee with
   | builtin b=>
    simp only[hcal] at hs;unfold resolve;simp only[hcal];cases b<;>first
     | exact hs.elim
     | exact aTk hs
   | value f=>simp only[hcal] at hs;exact hs.elim
   | invoke r n=>simp only[hcal] at hs;exact hs.elim
  all_goals first
   | exact aTk hs
   | exact aXU hs
   | exact hs.elim
 ·unfold execOp;simp only[hc];unfold resolve;unfold aIR at hv;cases hcal:c.callee with
  | builtin b=>simp only[hcal] at hv
  | invoke r n=>
   simp only[hcal] at hv;show cY P (invoke (.fn (.method n) #[]) (#[ev ρ r]++c.args.map (ev ρ))) h _;unfold invoke;simp only[aUy,aWj];exact hv
  | value f=>
   simp only[hcal];have key:∀(v:Value),ev ρ f=v->(match v with
     | .func (.func f) first captured=>aT P f (first++c.args.map (ev ρ)++captured) h kv
     | .func fn first captured=>cY P (invoke (.fn fn captured) (first++c.args.map (ev ρ))) h λn h'=>yN P n h' kv
     | _=>False)->cY P (do let d ←Deferred.ofValue (ev ρ f) (c.args.map (ev ρ));invoke d.target d.args) h λn h'=>yN P n h' kv:=by
    intro v he hh;rw[he];cases v with
    | func fn first captured=>
     show cY P (invoke (.fn fn captured) (first++c.args.map (ev ρ))) h _;cases fn with
     | func g=>exact aPN hh
     | _=>exact hh
    | _=>exact hh.elim
   cases f with
   | func g=>
    refine key _ rfl ?_;simp only[hcal] at hv;show aT P g (#[]++c.args.map (ev ρ) ++ #[]) h kv;simpa using hv
   | tmp t=>simp only[hcal] at hv;exact key _ rfl hv
   | const v=>simp only[hcal] at hv;exact key _ rfl hv
   | global g=>simp only[hcal] at hv;exact key _ rfl hv
def Rl(h:PH):Prop:=∃w,pJ h w
abbrev Tr:=PH->(Value->PH->Prop)->Prop
theorem Rl.fresh{h:PH}(hr:Rl h):∃r,h r=none:=let ⟨w,hs⟩:=hr;⟨w.heap.size,hs.fresh⟩
theorem Rl.set{h:PH}(hr:Rl h){r:Nat}(hn:h r=none)(o:Obj):Rl (h.set r o):=by
 obtain⟨w,hs⟩:=hr;let n:=max w.heap.size (r+1);refine⟨{w with heap:=(Array.range n).map λb=>if b=r then o else(w.heap[b]?).getD default},λb u hb=>?_⟩;unfold PH.set at hb;have hlt:b<n:=by
  split at hb
  ·omega
  ·have:=hs.lt hb;omega
 simp only[Array.getElem?_map,Array.getElem?_range,hlt,if_true,aH7];split at hb
 ·rename_i e;rw[if_pos e];exact hb
 ·rename_i e;rw[if_neg e,hs _ _ hb];rfl
theorem cE.set{P:Program}{α:Type}{s:Sem α}{r:Nat}{o:Obj}:∀{h:PH} {a:α},cE P h s=some a->h r=none->cE P (h.set r o) s=some a:=by
 have hset:∀(h:PH) b,h r=none->(∃u,h b=some u)->(h.set r o) b=h b:=by
  intro h b hr ⟨u,hu⟩;unfold PH.set;rw[if_neg];rintro rfl;rw[hr] at hu;cases hu
 induction s with
 | pure a=>intro h b hb _;exact hb
 | load m a k ih=>
  intro h b hb hr;obtain⟨v,hv,hb⟩:=aH4.1 hb;obtain⟨c,e,f,hblk⟩:=aFI hv;refine aH4.2 ⟨v,?_,ih v hb hr⟩;unfold dF at *;rw[hset h _ hr ⟨_,hblk⟩];exact hv
 | shape r' k ih=>
  intro h b hb hr;obtain⟨v,hv,hb⟩:=aH4.1 hb;have hblk:∃u,h r'=some u:=by
   unfold jY at hv;cases hx:h r' with
   | none=>rw[hx] at hv;cases hv
   | some u=>exact⟨u,rfl⟩
  refine aH4.2 ⟨v,?_,ih v hb hr⟩;unfold jY at *;rw[hset h _ hr hblk];exact hv
 | frozen a k ih=>
  intro h b hb hr;obtain⟨v,hv,hb⟩:=aH4.1 hb;have e:=hset h _ hr ⟨_,hv⟩;refine aH4.2 ⟨v,by rw[e];exact hv,?_⟩;have:uP (h.set r o) a=uP h a:=by unfold uP;rw[e]
  rw[this];exact ih _ hb hr
 | program k ih=>intro h b hb hr;exact ih P hb hr
 | mark m k ih=>intro h b hb hr;exact ih hb hr
 | getObj r' k ih=>
  intro h b hb hr;simp only[cE] at hb ⊢;cases hx:h r' with
  | none=>rw[hx] at hb;cases hb
  | some u=>
   rw[hset h _ hr ⟨_,hx⟩,hx];rw[hx] at hb;cases u<;>first|cases hb|exact ih _ hb hr
 | _=>intro h b hb;cases hb
theorem cY.real{P:Program}{α:Type}{s:Sem α}:∀{h:PH} {Q:α->PH->Prop},cY P s h Q->Rl h->cY P s h λa h'=>Q a h'∧Rl h':=by
 induction s with
 | pure a=>intro h Q hh hr;exact⟨hh,hr⟩
 | load m a k ih=>rintro h Q ⟨v,hv,hh⟩ hr;exact⟨v,hv,ih v hh hr⟩
 | store m a v k ih=>
  rintro h Q ⟨h1,h2,h3,hh⟩ hr;refine⟨h1,h2,h3,ih hh ?_⟩;obtain⟨w,hs⟩:=hr;obtain⟨u,hu⟩:=h3;obtain⟨c,e,f,hb⟩:=aFI hu;exact⟨_,(hs.modify a.block (fun | .cells c elem frozen=>.cells (if a.spot.isSome then c else c.setIfInBounds a.off v) elem frozen|o=>o) (sE h a v)
   (λb=>by
    unfold sE;split
    ·cases h b with
     | none=>rfl
     | some o=>cases o<;>rfl
    ·rfl) hb).1⟩
 | new o k ih=>intro h Q hh hr r hn;exact ih r (hh r hn) (hr.set hn o)
 | shape r k ih=>rintro h Q ⟨v,hv,hh⟩ hr;exact⟨v,hv,ih v hh hr⟩
 | freeze a n k ih=>
  rintro h Q ⟨⟨o,ho⟩,hh⟩ hr;refine⟨⟨o,ho⟩,ih hh ?_⟩;obtain⟨w,hs⟩:=hr;by_cases hn:n=0
  ·have e:mP h a n=h:=by funext b;simp[mP,hn]
   rw[e];exact⟨w,hs⟩
  ·exact⟨_,(hs.modify a.block (fun | .cells c elem (lo,hi)=>.cells c elem (if lo==hi then(a.off,a.off+n) else(min lo a.off,max hi (a.off+n)))|o=>o) (mP h a n)
    (λb=>by
     unfold mP;rw[if_neg hn];split
     ·cases h b with
      | none=>rfl
      | some o=>cases o<;>rfl
     ·rfl) ho).1⟩
 | frozen a k ih=>rintro h Q ⟨h1,hh⟩ hr;exact⟨h1,ih _ hh hr⟩
 | getObj r k ih=>rintro h Q ⟨o,ho,hc,hh⟩ hr;exact⟨o,ho,hc,ih o hh hr⟩
 | setObj r o k ih=>
  rintro h Q ⟨⟨u,hu,hc⟩,hh⟩ hr;refine⟨⟨u,hu,hc⟩,ih hh ?_⟩;obtain⟨w,hs⟩:=hr;exact⟨_,(hs.modify r (λ_=>o) (h.set r o) (λb=>by
   unfold PH.set;split
   ·rename_i e;subst e;rw[hu];rfl
   ·rfl) hu).1⟩
 | choose q k ih=>intro h Q hh hr t;exact ih _ (hh t) hr
 | sys c k ih=>intro h Q hh;exact hh.elim
 | program k ih=>intro h Q hh hr;exact ih P hh hr
 | mark m k ih=>intro h Q hh hr;exact ih hh hr
 | halt x=>intro h Q hh;exact hh.elim
theorem aT.real{P:Program}{f:FuncId}{args:Array Value}{h:PH}{R:cD}(hc:aT P f args h R)(hr:Rl h):aT P f args h λv h'=>R v h'∧Rl h':=by
 rcases hc with⟨h1,h2⟩|hs
 ·exact .inl ⟨h1,λw hs=>(h2 w hs).mono λ_ w' ⟨v,h',e,r,s,fr⟩=>⟨v,h',e,⟨r,w',s⟩,s,fr⟩⟩
 ·exact .inr ((hs.real hr).mono λn h' ⟨⟨v,e,hv⟩,hr'⟩=>⟨v,e,hv,hr'⟩)
theorem yN.real{P:Program}{n:Next}{h:PH}{k:cD}(hn:yN P n h k)(hr:Rl h):yN P n h λv h'=>k v h'∧Rl h':=by
 cases n<;>first
  | exact⟨hn,hr⟩
  | exact λw hs=>Calls.mono (hn w hs) λ_ w' ⟨v,h',e,r,s,fr⟩=>⟨v,h',e,⟨r,w',s⟩,s,fr⟩
  | exact λw hs=>RoundIn.mono (hn w hs) λ_ w' ⟨v,h',e,r,s,fr⟩=>⟨v,h',e,⟨r,w',s⟩,s,fr⟩
  | exact hn.elim
theorem opV.real{P:Program}{o:Oper}{ρ:lI}{h:PH}{k:cD}(ho:opV P o ρ h k)(hr:Rl h):opV P o ρ h λv h'=>k v h'∧Rl h':=by
 unfold opV at *;split at ho
 ·split at ho
  ·exact⟨ho,hr⟩
  ·exact⟨ho,hr⟩
  ·obtain⟨v,e,hv⟩:=fN.1 ho;exact fN.2 ⟨v,e,hv,hr⟩
  ·obtain⟨v,e,hv⟩:=fN.1 ho;exact fN.2 ⟨v,e,hv,hr⟩
 ·obtain⟨v,e,hv⟩:=fN.1 ho;exact fN.2 ⟨v,e,hv,hr⟩
 ·obtain⟨x,e,hx⟩:=fN.1 ho;refine fN.2 ⟨x,e,λr hn=>?_⟩;obtain⟨v,e,hv⟩:=fN.1 (hx r hn);exact fN.2 ⟨v,e,hv,hr.set hn _⟩
 ·split at ho
  ·split at ho
   ·exact ho.real hr
   ·unfold aIR at *;split at ho
    ·exact ho.real hr
    ·split at ho
     ·exact ho.real hr
     ·exact(ho.real hr).mono λ_ _ hn=>hn.1.real hn.2
     ·exact ho.elim
    ·exact(ho.real hr).mono λ_ _ hn=>hn.1.real hn.2
    ·exact ho.elim
  ·exact ho.real hr
theorem opV.falls{P:Program}{o:Oper}{ρ:lI}{h:PH}(ho:opV P o ρ h λ_ _=>False)(hr:Rl h):False:=by
 obtain⟨w,hs⟩:=hr;obtain⟨n,w',h',hrun,hn,hs',hf⟩:=ho.exec.sound hs;cases n with
 | value v=>exact hn
 | skip=>exact hn
 | enter f args=>
  obtain⟨e,w2,fr,⟨v,h2,_,hF,_⟩,_⟩:=hn w' hs' [];exact hF
 | round l f tmps assign body=>
  obtain⟨e,w2,⟨v,h2,_,hF,_⟩,_⟩:=(hn w' hs').2 default [] (room_wide _);exact hF
 | _=>exact hn.elim
theorem aT.frame{P:Program}{f:FuncId}{args:Array Value}{h:PH}{R:cD}(r:Nat)(o:Obj)(hc:aT P f args h R)(hr:h r=none):
  aT P f args (h.set r o) λv h2=>∃h1:PH,h2=h1.set r o∧h1 r=none∧R v h1:=by
 rcases hc with⟨hc1,hc2⟩|hs
 rotate_left
 ·exact .inr ((cY.frame r o hs hr).mono λn h2 ⟨h1,e,hn,v,ev,hv⟩=>⟨v,ev,h1,e,hn,hv⟩)
 refine .inl ⟨hc1,λw hs=>?_⟩;have hsub:pJ h w:=λb u hb=>hs b u (by
                         unfold PH.set;rw[if_neg];· exact hb
                         ·rintro rfl;rw[hr] at hb;cases hb)
 have hw:w.heap[r]? =some o:=hs r o (by unfold PH.set;rw[if_pos rfl]);have hlt:r<w.heap.size:=(aI4.1 hw).1;refine(hc2 w hsub).mono λe w' ⟨v,h1,he,hR,hs1,hf⟩=>?_;have hn:=hf.none r hlt hr;refine⟨v,h1.set r o,he,⟨h1,rfl,hn,hR⟩,λb u hb=>?_,hf.os,hf.tape,hf.output,hf.drawn,hf.size,λb hb hbn=>?_,λb hb hbn=>?_⟩
 ·unfold PH.set at hb;split at hb
  ·rename_i e;subst e;rw[hf.far b hlt hr,hw];exact hb
  ·exact hs1 b u hb
 ·refine hf.far b hb ?_;unfold PH.set at hbn;split at hbn
  ·cases hbn
  ·exact hbn
 ·unfold PH.set at hbn ⊢;split at hbn
  ·cases hbn
  ·rename_i e;rw[if_neg e];exact hf.none b hb hbn
theorem yN.frame{P:Program}{n:Next}{h:PH}{k:cD}(r:Nat)(o:Obj)(hn:yN P n h k)(hr:h r=none):
  yN P n (h.set r o) λv h2=>∃h1:PH,h2=h1.set r o∧h1 r=none∧k v h1:=by
 cases n with
 | value v=>exact⟨h,rfl,hr,hn⟩
 | skip=>exact⟨h,rfl,hr,hn⟩
 | enter f args=>
  intro w hs;have hsub:pJ h w:=λb u hb=>hs b u (by
                          unfold PH.set;rw[if_neg];· exact hb
                          ·rintro rfl;rw[hr] at hb;cases hb)
  have hw:w.heap[r]? =some o:=hs r o (by unfold PH.set;rw[if_pos rfl]);have hlt:r<w.heap.size:=(aI4.1 hw).1;refine(hn w hsub).mono λe w' ⟨v,h1,he,hR,hs1,hf⟩=>?_;have hn:=hf.none r hlt hr;refine⟨v,h1.set r o,he,⟨h1,rfl,hn,hR⟩,λb u hb=>?_,hf.os,hf.tape,hf.output,hf.drawn,hf.size,λb hb hbn=>?_,λb hb hbn=>?_⟩
  ·unfold PH.set at hb;split at hb
   ·rename_i e;subst e;rw[hf.far b hlt hr,hw];exact hb
   ·exact hs1 b u hb
  ·refine hf.far b hb ?_;unfold PH.set at hbn;split at hbn
   ·cases hbn
   ·exact hbn
  ·unfold PH.set at hbn ⊢;split at hbn
   ·cases hbn
   ·rename_i e;rw[if_neg e];exact hf.none b hb hbn
 | round l f tmps assign body=>
  intro w hs;have hsub:pJ h w:=λb u hb=>hs b u (by
                          unfold PH.set;rw[if_neg];· exact hb
                          ·rintro rfl;rw[hr] at hb;cases hb)
  have hw:w.heap[r]? =some o:=hs r o (by unfold PH.set;rw[if_pos rfl]);have hlt:r<w.heap.size:=(aI4.1 hw).1;refine RoundIn.mono (hn w hsub) λe w' ⟨v,h1,he,hR,hs1,hf⟩=>?_;have hn:=hf.none r hlt hr;refine⟨v,h1.set r o,he,⟨h1,rfl,hn,hR⟩,λb u hb=>?_,hf.os,hf.tape,hf.output,hf.drawn,hf.size,λb hb hbn=>?_,λb hb hbn=>?_⟩
  ·unfold PH.set at hb;split at hb
   ·rename_i e;subst e;rw[hf.far b hlt hr,hw];exact hb
   ·exact hs1 b u hb
  ·refine hf.far b hb ?_;unfold PH.set at hbn;split at hbn
   ·cases hbn
   ·exact hbn
  ·unfold PH.set at hbn ⊢;split at hbn
   ·cases hbn
   ·rename_i e;rw[if_neg e];exact hf.none b hb hbn
 | _=>exact hn.elim
def KP(T:Tr):Prop:=∃x:Option Value,∀h kv,T h kv↔dY x λv=>kv v h
def KR(T:Tr):Prop:=∃f:PH->Option Value,(∀h kv,T h kv↔dY (f h) λv=>kv v h)∧∀h r o v,f h=some v->h r=none->f (h.set r o)=some v
def KA(T:Tr):Prop:=∃y:Option (Obj×(Nat->Option Value)),∀h kv,T h kv↔dY y λx=>∀r,h r=none->dY (x.2 r) λv=>kv v (h.set r x.1)
structure KE(T:Tr):Prop where
 mono:∀{h:PH} {k k':cD},T h k->(∀v h,k v h->k' v h)->T h k'
 real:∀{h:PH} {k:cD},T h k->Rl h->T h λv h'=>k v h'∧Rl h'
 falls:∀{h:PH},T h (λ_ _=>False)->Rl h->False
 frame:∀{h:PH} {k:cD} (r:Nat) (o:Obj),T h k->h r=none->T (h.set r o) λv h2=>∃h1:PH,h2=h1.set r o∧h1 r=none∧k v h1
theorem KP.ke{T:Tr}(hT:KP T):KE T:=by
 obtain⟨x,hx⟩:=hT;refine⟨λht hk=>?_,λht hr=>?_,λht hr=>?_,λr o ht hr=>?_⟩
 ·obtain⟨v,e,hv⟩:=fN.1 ((hx _ _).1 ht);exact(hx _ _).2 (fN.2 ⟨v,e,hk _ _ hv⟩)
 ·obtain⟨v,e,hv⟩:=fN.1 ((hx _ _).1 ht);exact(hx _ _).2 (fN.2 ⟨v,e,hv,hr⟩)
 ·obtain⟨v,e,hv⟩:=fN.1 ((hx _ _).1 ht);exact hv
 ·obtain⟨v,e,hv⟩:=fN.1 ((hx _ _).1 ht);exact(hx _ _).2 (fN.2 ⟨v,e,_,rfl,hr,hv⟩)
theorem KR.ke{T:Tr}(hT:KR T):KE T:=by
 obtain⟨f,hx,hm⟩:=hT;refine⟨λht hk=>?_,λht hr=>?_,λht hr=>?_,λr o ht hr=>?_⟩
 ·obtain⟨v,e,hv⟩:=fN.1 ((hx _ _).1 ht);exact(hx _ _).2 (fN.2 ⟨v,e,hk _ _ hv⟩)
 ·obtain⟨v,e,hv⟩:=fN.1 ((hx _ _).1 ht);exact(hx _ _).2 (fN.2 ⟨v,e,hv,hr⟩)
 ·obtain⟨v,e,hv⟩:=fN.1 ((hx _ _).1 ht);exact hv
 ·obtain⟨v,e,hv⟩:=fN.1 ((hx _ _).1 ht);exact(hx _ _).2 (fN.2 ⟨v,hm _ _ _ _ e hr,_,rfl,hr,hv⟩)
theorem aNk{h:PH}{r r':Nat}{o o':Obj}(hne:r'≠r):(h.set r o).set r' o'=(h.set r' o').set r o:=by
 funext b;unfold PH.set;by_cases e1:b=r'
 ·subst e1;simp[hne]
 ·simp[e1]
theorem aP2{h:PH}{r r':Nat}{o:Obj}(hn:(h.set r o) r'=none):r'≠r∧h r'=none:=by
 unfold PH.set at hn;split at hn
 ·cases hn
 ·rename_i e;exact⟨e,hn⟩
theorem aXo{T U:Tr}(hT:KP T)(hU:KE U){h:PH}{X:Value->Value->PH->Prop}(H:T h λv h1=>U h1 λu h2=>X v u h2):U h λu h1=>T h1 λv h2=>X v u h2:=by
 obtain⟨x,hx⟩:=hT;obtain⟨v,e,hv⟩:=fN.1 ((hx _ _).1 H);exact hU.mono hv λu h1 hX=>(hx _ _).2 (fN.2 ⟨v,e,hX⟩)
theorem aHo{T U:Tr}(hT:KE T)(hU:KP U){h:PH}(hr:Rl h){X:Value->Value->PH->Prop}(H:T h λv h1=>U h1 λu h2=>X v u h2):U h λu h1=>T h1 λv h2=>X v u h2:=by
 obtain⟨x,hx⟩:=hU;cases x with
 | none=>exact(hT.falls (hT.mono H λv h1 hh=>by simpa[dY] using(hx _ _).1 hh) hr).elim
 | some u=>exact(hx _ _).2 (fN.2 ⟨u,rfl,hT.mono H λv h1 hh=>by simpa[dY] using(hx _ _).1 hh⟩)
theorem aWu{T U:Tr}(hT:KR T)(hU:KA U){h:PH}{X:Value->Value->PH->Prop}(H:T h λv h1=>U h1 λu h2=>X v u h2):U h λu h1=>T h1 λv h2=>X v u h2:=by
 obtain⟨f,hx,hm⟩:=hT;obtain⟨y,hy⟩:=hU;obtain⟨v,e,hv⟩:=fN.1 ((hx _ _).1 H);obtain⟨z,e',hz⟩:=fN.1 ((hy _ _).1 hv);refine(hy _ _).2 (fN.2 ⟨z,e',λr hr=>?_⟩);obtain⟨u,e2,hu⟩:=fN.1 (hz r hr);exact fN.2 ⟨u,e2,(hx _ _).2 (fN.2 ⟨v,hm _ _ _ _ e hr,hu⟩)⟩
theorem aXL{T U:Tr}(hT:KA T)(hU:KA U){h:PH}(hr:Rl h){X:Value->Value->PH->Prop}(H:T h λv h1=>U h1 λu h2=>X v u h2):U h λu h1=>T h1 λv h2=>X v u h2:=by
 obtain⟨x,hx⟩:=hT;obtain⟨y,hy⟩:=hU;obtain⟨z,e,hz⟩:=fN.1 ((hx _ _).1 H);have hy':∃z',y=some z':=by
  obtain⟨r,hn⟩:=hr.fresh;obtain⟨v,_,hv⟩:=fN.1 (hz r hn);obtain⟨z',e',_⟩:=fN.1 ((hy _ _).1 hv);exact⟨z',e'⟩
 obtain⟨z',e'⟩:=hy'
 -- both values are there, whatever the blocks
 have both:∀r r',h r=none->h r'=none->r'≠r->∃v u,z.2 r=some v∧z'.2 r'=some u∧X v u ((h.set r z.1).set r' z'.1):=by
  intro r r' hn hn' hne;obtain⟨v,e1,hv⟩:=fN.1 (hz r hn);obtain⟨z2,e2,hz2⟩:=fN.1 ((hy _ _).1 hv);rw[e'] at e2;cases e2;obtain⟨u,e3,hu⟩:=fN.1 (hz2 r' (by unfold PH.set;rw[if_neg hne];exact hn'));exact⟨v,u,e1,e3,hu⟩
 refine(hy _ _).2 (fN.2 ⟨z',e',λr' hn'=>?_⟩);have hu:∃u,z'.2 r'=some u:=by
  obtain⟨r,hn⟩:=(hr.set hn' z'.1).fresh;obtain⟨hne,hn⟩:=aP2 hn;obtain⟨v,u,_,eu,_⟩:=both r r' hn hn' (Ne.symm hne);exact⟨u,eu⟩
 obtain⟨u,eu⟩:=hu;refine fN.2 ⟨u,eu,(hx _ _).2 (fN.2 ⟨z,e,λr hn=>?_⟩)⟩;obtain⟨hne,hn⟩:=aP2 hn;obtain⟨v,u',ev',eu',hX⟩:=both r r' hn hn' (Ne.symm hne);rw[eu] at eu';cases eu';refine fN.2 ⟨v,ev',?_⟩;rw[←aNk (Ne.symm hne)];exact hX
theorem aW7{T U:Tr}(hT:KE T)(hU:KA U){h:PH}(hr:Rl h){X:Value->Value->PH->Prop}(H:T h λv h1=>U h1 λu h2=>X v u h2):U h λu h1=>T h1 λv h2=>X v u h2:=by
 obtain⟨y,hy⟩:=hU;have hy':∃z',y=some z':=by
  cases y with
  | some z'=>exact⟨z',rfl⟩
  | none=>exact(hT.falls (hT.mono H λv h1 hh=>by simpa[dY] using(hy _ _).1 hh) hr).elim
 obtain⟨z,e⟩:=hy';refine(hy _ _).2 (fN.2 ⟨z,e,λr hn=>?_⟩);have hf:=hT.frame r z.1 H hn;have hf2:T (h.set r z.1) λv h2=>dY (z.2 r) λu=>X v u h2:=hT.mono hf λv h2 ⟨h1,e1,hn1,hh⟩=>by
  obtain⟨z2,e2,hz2⟩:=fN.1 ((hy _ _).1 hh);rw[e] at e2;cases e2;rw[e1];exact hz2 r hn1
 cases hu:z.2 r with
 | none=>
  rw[hu] at hf2;exact(hT.falls hf2 (hr.set hn z.1)).elim
 | some u=>
  rw[hu] at hf2;exact hf2
theorem aSH{ρ:lI}{x y:Option Tmp}{v u:Value}(h:∀d,x=some d->y≠some d):upd (upd ρ x v) y u=upd (upd ρ y u) x v:=by
 cases x with
 | none=>rfl
 | some d=>
  cases y with
  | none=>rfl
  | some e=>
   have hne:d≠e:=λhe=>h d rfl (he▸rfl);funext t;simp only[upd];by_cases h1:t=d
   ·subst h1;simp[hne]
   ·simp[h1]
theorem aTb{ρ:lI}{d:Option Tmp}{v:Value}{x:Operand}(h:∀t,d=some t->x≠ .tmp t):ev (upd ρ d v) x=ev ρ x:=by
 cases d with
 | none=>rfl
 | some t=>
  cases x with
  | tmp s=>
   have:s≠t:=λe=>h t rfl (e▸rfl);simp[ev,upd,this]
  | _=>rfl
theorem aMN{ρ ρ':lI}(o:Oper)(h:∀x∈o.op.operands,ev ρ x=ev ρ' x):vK ρ o=vK ρ' o:=by
 obtain⟨dst,op,type,pos,after,guard⟩:=o;have pairs:∀ps:Array (Nat×Operand),(∀x∈ps.map (·.2),ev ρ x=ev ρ' x)->
   (ps.map λ(i,x)=>(i,ev ρ x))=(ps.map λ(i,x)=>(i,ev ρ' x)):=λps hp=>
  Array.map_congr_left λp hm=>by
   obtain⟨i,x⟩:=p;simp only[hp x (Array.mem_map.2 ⟨(i,x),hm,rfl⟩)]
 cases op<;>simp only[Op.operands] at h<;>simp only[vK]
 case build t ps=>rw[pairs ps λx hx=>h x (by simpa using hx)]
 case buildSlice t n ps=>rw[pairs ps λx hx=>h x (by simpa using hx)]
 case makeFunc fn first captured=>
  rw[Array.map_congr_left (xs:=first) λx hx=>h x (by simp[hx]),Array.map_congr_left (xs:=captured) λx hx=>h x (by simp[hx])]
 case call c=>
  have hargs:c.args.map (ev ρ)=c.args.map (ev ρ'):=Array.map_congr_left λx hx=>h x (by simp[Call.operands,hx]);rw[hargs]
 case makeMap t r=>cases r<;>simp_all
 case slice t x lo hi mx=>cases lo<;>cases hi<;>cases mx<;>simp_all
 all_goals (first|rfl|(simp_all;done))
theorem aQx{P:Program}{ρ ρ':lI}(c:Call)(h:∀x∈c.operands,ev ρ x=ev ρ' x):aIR P c ρ=aIR P c ρ':=by
 have hargs:c.args.map (ev ρ)=c.args.map (ev ρ'):=Array.map_congr_left λx hx=>h x (by simp[Call.operands,hx]);funext hh kv;unfold aIR;rw[hargs];cases hc:c.callee with
 | value f=>
  have hf:ev ρ f=ev ρ' f:=h f (by simp[Call.operands,hc]);cases f<;>simp only[hf]
 | invoke r m=>have hr:ev ρ r=ev ρ' r:=h r (by simp[Call.operands,hc]);simp only[hr]
 | builtin b=>rfl
theorem aSp{P:Program}{ρ ρ':lI}(o:Oper)(h:∀x∈o.op.operands,ev ρ x=ev ρ' x):opV P o ρ=opV P o ρ':=by
 have hs:=aMN o h;funext hh kv;unfold opV;rw[hs];cases hop:o.op
 case move x=>have hx:=h x (by simp[hop,Op.operands]);simp only[lP,hx]
 case assign x=>have hx:=h x (by simp[hop,Op.operands]);simp only[lP,hx]
 case pick c a b=>
  have h1:=h c (by simp[hop,Op.operands]);have h2:=h a (by simp[hop,Op.operands]);have h3:=h b (by simp[hop,Op.operands]);simp only[lP,h1,h2,h3]
 case call c=>
  have hc:=aQx (P:=P) c λx hx=>h x (by simp only[hop,Op.operands];exact hx);simp only[hc]
 all_goals rfl
theorem aJr{ops:Array Oper}{o:Oper}{d:Tmp}(h:d∉o.looksAt ops):∀x∈o.op.operands,x≠ .tmp d:=by
 intro x hx e;subst e;exact h (zLk _ (List.mem_filterMap.2 ⟨.tmp d,by simpa using hx,rfl⟩))
theorem aIM{ops:Array Oper}{o:Oper}{ρ:lI}{dst:Option Tmp}{v:Value}{g:Nat}{want:Bool}(hg:o.guard=some (g,want))(h:∀d,dst=some d->d∉o.looksAt ops):
  aHi ops (upd ρ dst v) g=aHi ops ρ g:=by
 cases dst with
 | none=>rfl
 | some d=>
  unfold aHi;cases ht:(ops[g]?).bind (·.dst) with
  | none=>rfl
  | some t=>
   have hne:t≠d:=λe=>h d rfl (by subst e;simp[Oper.looksAt,hg,ht]);simp only[upd,if_neg hne]
theorem aLk{ops:Array Oper}{o:Oper}{ρ:lI}{dst:Option Tmp}{v:Value}(h:∀d,dst=some d->d∉o.looksAt ops):vK (upd ρ dst v) o=vK ρ o:=
 aMN o λx hx=>aTb λt ht=>aJr (h t ht) x hx
theorem aPC{P:Program}{ops:Array Oper}{o:Oper}{ρ:lI}{dst:Option Tmp}{v:Value}(h:∀d,dst=some d->d∉o.looksAt ops):kI P ops o (upd ρ dst v)=kI P ops o ρ:=by
 have ho:opV P o (upd ρ dst v)=opV P o ρ:=aSp o λx hx=>aTb λt ht=>aJr (h t ht) x hx;funext hh kv;unfold kI;cases hg:o.guard with
 | none=>simp only[ho]
 | some gw=>
  obtain⟨g,want⟩:=gw;simp only[ho,aIM (v:=v) hg h]
theorem aUW{h:PH}{r r':Nat}{o o':Obj}{k:cD}{v:Value}(hne:r'≠r)(hr:h r=none)(hk:k v (h.set r' o')):
  ∃h1:PH,(h.set r o).set r' o'=h1.set r o∧h1 r=none∧k v h1:=
 ⟨h.set r' o',aNk hne,by unfold PH.set;rw[if_neg (Ne.symm hne)];exact hr,hk⟩
def aCB(ops:Array Oper)(o:Oper)(ρ:lI):Bool:=match o.guard with
 | none=>true
 | some (g,want)=>aHi ops ρ g==some want
theorem aAZ{P:Program}{ops:Array Oper}{o:Oper}{ρ:lI}{h:PH}{kv:cD}:kI P ops o ρ h kv↔if aCB ops o ρ then opV P o ρ h kv else kv undef h:=by
 unfold kI aCB nO;cases hg:o.guard with
 | none=>simp
 | some gw=>obtain⟨g,want⟩:=gw;simp
theorem aL4{P:Program}{ops:Array Oper}{o:Oper}{ρ:lI}(hc:lP P o.op= .p):KP (kI P ops o ρ):=by
 cases hw:aCB ops o ρ with
 | false=>exact⟨some undef,λh kv=>by rw[aAZ,hw];simp[dY]⟩
 | true=>
  have:∃x:Option Value,∀h kv,opV P o ρ h kv↔dY x λv=>kv v h:=by
   unfold opV;simp only[hc];split
   ·rename_i x _;exact⟨some (ev ρ x),λh kv=>Iff.rfl⟩
   ·rename_i x _;exact⟨some (ev ρ x),λh kv=>Iff.rfl⟩
   ·rename_i c a b _;exact⟨_,λh kv=>Iff.rfl⟩
   ·exact⟨_,λh kv=>Iff.rfl⟩
  obtain⟨x,hx⟩:=this;exact⟨x,λh kv=>by rw[aAZ,hw];simpa using hx h kv⟩
def aNm(P:Program)(ops:Array Oper)(o:Oper)(ρ:lI)(h:PH):Option Value:=if aCB ops o ρ then cE P h (vK ρ o) else some undef
theorem aOJ{P:Program}{ops:Array Oper}{o:Oper}{ρ:lI}(hc:lP P o.op= .r)(h:PH)(kv:cD):kI P ops o ρ h kv↔dY (aNm P ops o ρ h) λv=>kv v h:=by
 rw[aAZ];unfold aNm opV;cases hw:aCB ops o ρ<;>simp[hc,dY]
theorem aVp{P:Program}{ops:Array Oper}{o:Oper}{ρ:lI}(hc:lP P o.op= .r):KR (kI P ops o ρ):=
 ⟨aNm P ops o ρ,λh kv=>aOJ hc h kv,λh r b v hv hr=>by
  unfold aNm at *;split at hv
  ·rename_i e;rw[if_pos e];exact cE.set hv hr
  ·rename_i e;rw[if_neg e];exact hv⟩
theorem aMD{P:Program}{ops:Array Oper}{o:Oper}{ρ:lI}(hc:lP P o.op= .a):KA (kI P ops o ρ)∨KP (kI P ops o ρ):=by
 cases hw:aCB ops o ρ with
 | false=>exact .inr ⟨some undef,λh kv=>by rw[aAZ,hw];simp[dY]⟩
 | true=>
  refine .inl ⟨(jM P (vK ρ o)).map λx=>(x.1,λr=>cV P (x.2 r)),λh kv=>?_⟩;rw[aAZ,hw];unfold opV;simp only[hc,if_true];cases jM P (vK ρ o)<;>simp[dY]
theorem aY5{P:Program}{ops:Array Oper}{o:Oper}{ρ:lI}(hc:lP P o.op= .e):KE (kI P ops o ρ):=by
 have hframe:∀{h:PH} {k:cD} (r:Nat) (b:Obj),opV P o ρ h k->h r=none->opV P o ρ (h.set r b) λv h2=>∃h1:PH,h2=h1.set r b∧h1 r=none∧k v h1:=by
  intro h k r b ho hr;unfold opV at *;simp only[hc] at ho ⊢;split at ho
  ·split at ho
   ·exact ho.frame r b hr
   ·unfold aIR at *;split at ho
    ·exact ho.frame r b hr
    ·split at ho
     ·exact ho.frame r b hr
     ·exact(ho.frame r b hr).mono λn h2 ⟨h1,e,hn,hh⟩=>e▸hh.frame r b hn
     ·exact ho.elim
    ·exact(ho.frame r b hr).mono λn h2 ⟨h1,e,hn,hh⟩=>e▸hh.frame r b hn
    ·exact ho.elim
  ·exact ho.frame r b hr
 refine⟨λht hk=>?_,λht hr=>?_,λht hr=>?_,λr b ht hr=>?_⟩
 ·exact kI.mono hk ht
 ·rw[aAZ] at ht ⊢;split at ht
  ·rename_i e;rw[if_pos e];exact ht.real hr
  ·rename_i e;rw[if_neg e];exact⟨ht,hr⟩
 ·rw[aAZ] at ht;split at ht
  ·exact ht.falls hr
  ·exact ht
 ·rw[aAZ] at ht ⊢;split at ht
  ·rename_i e;rw[if_pos e];exact hframe r b ht hr
  ·rename_i e;rw[if_neg e];exact⟨_,rfl,hr,ht⟩
theorem aNE{P:Program}{ops:Array Oper}{o:Oper}{ρ:lI}:KE (kI P ops o ρ):=by
 cases hc:lP P o.op with
 | p=>exact(aL4 hc).ke
 | r=>exact(aVp hc).ke
 | e=>exact aY5 hc
 | a=>
  refine⟨λht hk=>kI.mono hk ht,λht hr=>?_,λht hr=>?_,λr b ht hr=>?_⟩
  ·rw[aAZ] at ht ⊢;split at ht
   ·rename_i e;rw[if_pos e];exact ht.real hr
   ·rename_i e;rw[if_neg e];exact⟨ht,hr⟩
  ·rw[aAZ] at ht;split at ht
   ·exact ht.falls hr
   ·exact ht
  ·rcases aMD (P:=P) (ops:=ops) (ρ:=ρ) hc with⟨y,hy⟩|hp
   ·obtain⟨x,e,hx⟩:=fN.1 ((hy _ _).1 ht);refine(hy _ _).2 (fN.2 ⟨x,e,λr' hr'=>?_⟩);obtain⟨hne,hn'⟩:=aP2 hr';obtain⟨v,e2,hv⟩:=fN.1 (hx r' hn');refine fN.2 ⟨v,e2,aUW hne hr hv⟩
   ·exact hp.ke.frame r b ht hr
def bit(b:Array Nat)(y x:Nat):Bool:=(b.getD y 0).testBit x
def aTP:Cls->Cls->Bool
 | .p,_|_,.p=>true
 | .r,_=>true
 | .a,.a=>true
 | .e,.a=>true
 | _,_=>false
def aGQ(P:Program)(ops:Array Oper)(o:Oper)(ρ:lI)(h:PH):Prop:=aCB ops o ρ=true->cE P h (vK ρ o)=o.dst.map ρ
def AG(P:Program)(ops:Array Oper)(b:Array Nat)(i:Nat)(rem:List Nat)(ρ:lI)(h:PH):Prop:=
 ∀oi,ops[i]? =some oi->lP P oi.op= .e->∀x ox,ops[x]? =some ox->lP P ox.op= .r->x∉rem->x≠i->bit b i x=false->aGQ P ops ox ρ h
def aGv(P:Program)(ops:Array Oper)(b:Array Nat)(k:lI->PH->Prop):Nat->List Nat->lI->PH->Prop
 | 0,_,ρ,h=>k ρ h
 | n+1,rem,ρ,h=>∀i∈rem,(∀x∈rem,bit b i x=false)->∃o,ops[i]? =some o∧kI P ops o ρ h λv h'=>AG P ops b i rem (upd ρ o.dst v) h'∧aGv P ops b k n (rem.erase i) (upd ρ o.dst v) h'
structure aVB(P:Program)(ops:Array Oper)(b:Array Nat):Prop where
 apart:∀(x y:Nat) (ox oy:Oper),ops[x]? =some ox->ops[y]? =some oy->x≠y->bit b x y=false->bit b y x=false->ox.apart ops oy=true
 look:∀(x y:Nat) (ox oy:Oper),ops[x]? =some ox->ops[y]? =some oy->lP P ox.op= .r->(x≠y->bit b x y=false)->∀d,oy.dst=some d->d∉ox.looksAt ops
 own:∀(x:Nat) (ox:Oper),ops[x]? =some ox->lP P ox.op= .r->ox.dst.isSome=true
 one:∀(x y:Nat) (ox oy:Oper),ops[x]? =some ox->ops[y]? =some oy->lP P ox.op= .r->x≠y->∀d,oy.dst=some d->ox.dst≠some d
theorem aM1{P:Program}{ops:Array Oper}{o:Oper}{ρ:lI}{h:PH}{dst:Option Tmp}{v:Value}(hl:∀d,dst=some d->d∉o.looksAt ops)(hd:∀d,dst=some d->o.dst≠some d):
  aGQ P ops o (upd ρ dst v) h↔aGQ P ops o ρ h:=by
 have h1:aCB ops o (upd ρ dst v)=aCB ops o ρ:=by
  unfold aCB;cases hg:o.guard with
  | none=>rfl
  | some gw=>obtain⟨g,want⟩:=gw;simp only[aIM (v:=v) hg hl]
 have h2:o.dst.map (upd ρ dst v)=o.dst.map ρ:=by
  cases ho:o.dst with
  | none=>rfl
  | some t=>
   cases dst with
   | none=>rfl
   | some d=>
    have hne:t≠d:=λe=>hd d rfl (e▸ho);simp[upd,hne]
 unfold aGQ;rw[h1,h2,aLk hl]
theorem aSh{P:Program}{ops:Array Oper}{o:Oper}{ρ:lI}{h:PH}{r:Nat}{b:Obj}(hs:o.dst.isSome=true)(hf:aGQ P ops o ρ h)(hr:h r=none):aGQ P ops o ρ (h.set r b):=by
 intro hw;have:=hf hw;obtain⟨d,hd⟩:=Option.isSome_iff_exists.1 hs;rw[hd] at this ⊢;exact cE.set this hr
theorem aTx{P:Program}{ops:Array Oper}{b:Array Nat}{k:lI->PH->Prop}(L:aVB P ops b){i:Nat}{oi:Oper}(hi:ops[i]? =some oi):
  ∀(n:Nat) (rem:List Nat) (ρ:lI) (h:PH),rem.length=n+1->rem.Nodup->(∀y,y∉rem->∀x∈rem,bit b y x=false)->Rl h->i∈rem->(∀x∈rem,bit b i x=false)->
   (∀j oj,j∈rem->j≠i->ops[j]? =some oj->bit b j i=false->aTP (lP P oi.op) (lP P oj.op)=true)->
   (kI P ops oi ρ h λv h'=>AG P ops b i rem (upd ρ oi.dst v) h'∧aGv P ops b k n (rem.erase i) (upd ρ oi.dst v) h')->aGv P ops b k (n+1) rem ρ h:=by
 intro n;induction n with
 | zero=>
  intro rem ρ h hlen hnd hdc hr hmem hrdy hpair H j hj hjr;obtain⟨a,rfl⟩:=List.length_eq_one_iff.1 hlen;simp only[fU] at hj hmem;subst hj;subst hmem;exact⟨oi,hi,H⟩
 | succ n ih=>
  intro rem ρ h hlen hnd hdc hr hmem hrdy hpair H j hj hjr;by_cases hji:j=i
  ·subst hji;exact⟨oi,hi,H⟩
  have hmemj:j∈rem.erase i:=(List.mem_erase_of_ne hji).2 hj;have hmemi:i∈rem.erase j:=(List.mem_erase_of_ne (Ne.symm hji)).2 hmem;have hbji:bit b j i=false:=hjr i hmem;have hbij:bit b i j=false:=hrdy j hj
  -- the other one is there
  have hoj:∃oj,ops[j]? =some oj:=by
   have hke:KE (kI P ops oi ρ):=aNE;cases hx:ops[j]? with
   | some oj=>exact⟨oj,rfl⟩
   | none=>
    refine(hke.falls (hke.mono H λv h' hh=>?_) hr).elim;obtain⟨o,ho,_⟩:=hh.2 j hmemj (λx hx'=>hjr x (aKk hx'));rw[hx] at ho;cases ho
  obtain⟨oj,hoj⟩:=hoj;refine⟨oj,hoj,?_⟩;have hap:=Oper.apart_spec (L.apart i j oi oj hi hoj (Ne.symm hji) hbij hbji);have hp:=hpair j oj hj hji hoj hbji;have eT:∀u,kI P ops oi (upd ρ oj.dst u)=kI P ops oi ρ:=λu=>aPC hap.2.2;have eU:∀v,kI P ops oj (upd ρ oi.dst v)=kI P ops oj ρ:=λv=>aPC hap.1;have eC:∀v u,upd (upd ρ oi.dst v) oj.dst u=upd (upd ρ oj.dst u) oi.dst v:=λv u=>aSH hap.2.1;have eE:(rem.erase i).erase j=(rem.erase j).erase i:=List.erase_comm i j;have keT:KE (kI P ops oi ρ):=aNE;have keU:KE (kI P ops oj ρ):=aNE
  -- as it stands
  have H1:kI P ops oi ρ h λv h1=>AG P ops b i rem (upd ρ oi.dst v) h1∧kI P ops oj ρ h1 λu h2=>
    AG P ops b j (rem.erase i) (upd (upd ρ oj.dst u) oi.dst v) h2∧aGv P ops b k n ((rem.erase j).erase i) (upd (upd ρ oj.dst u) oi.dst v) h2:=by
   refine keT.mono H λv h1 hh=>⟨hh.1,?_⟩;obtain⟨o,ho,hstep⟩:=hh.2 j hmemj (λx hx'=>hjr x (aKk hx'));rw[hoj] at ho;cases ho;rw[eU v] at hstep;refine keU.mono hstep λu h2 hx=>?_;rw[eC,eE] at hx;exact hx
  -- a look of before
  have early:∀x ox,ops[x]? =some ox->lP P ox.op= .r->x∉rem->(∀d,oi.dst=some d->d∉ox.looksAt ops)∧(∀d,oi.dst=some d->ox.dst≠some d)∧(∀d,oj.dst=some d->d∉ox.looksAt ops)∧(∀d,oj.dst=some d->ox.dst≠some d):=by
   intro x ox hox hcx hx;have nxi:x≠i:=λe=>hx (e▸hmem);have nxj:x≠j:=λe=>hx (e▸hj);exact⟨L.look x i ox oi hox hi hcx (λ_=>hdc x hx i hmem),L.one x i ox oi hox hi hcx nxi,L.look x j ox oj hox hoj hcx (λ_=>hdc x hx j hj),L.one x j ox oj hox hoj hcx nxj⟩
  -- what is wanted
  have W:kI P ops oj ρ h λu h1=>AG P ops b j rem (upd ρ oj.dst u) h1∧kI P ops oi ρ h1 λv h2=>
    AG P ops b i (rem.erase j) (upd (upd ρ oj.dst u) oi.dst v) h2∧aGv P ops b k n ((rem.erase j).erase i) (upd (upd ρ oj.dst u) oi.dst v) h2:=by
   have agI:∀v u h1,(lP P oj.op= .p∨lP P oj.op= .a)->AG P ops b i rem (upd ρ oi.dst v) h1->AG P ops b i (rem.erase j) (upd (upd ρ oj.dst u) oi.dst v) h1:=by
    intro v u h1 hcj hag oi' hi' hce x ox hox hcx hx hxi hb;have hxr:x∉rem:=λhm=>by
     by_cases e:x=j
     ·subst e;rw[hoj] at hox;cases hox;rcases hcj with hcj|hcj<;>rw[hcj] at hcx<;>cases hcx
     ·exact hx ((List.mem_erase_of_ne e).2 hm)
    obtain⟨_,_,l2,d2⟩:=early x ox hox hcx hxr;rw[←eC,aM1 l2 d2];exact hag oi' hi' hce x ox hox hcx hxr hxi hb
   have agI0:lP P oi.op≠ .e->∀rem ρ h,AG P ops b i rem ρ h:=λhc rem ρ h oi' hi' hce=>by rw[hi] at hi';cases hi';exact absurd hce hc
   have agJ0:lP P oj.op≠ .e->∀rem ρ h,AG P ops b j rem ρ h:=λhc rem ρ h oj' hj' hce=>by rw[hoj] at hj';cases hj';exact absurd hce hc
   -- from behind both to behind the second alone
   have agJ:∀v u h2,AG P ops b j (rem.erase i) (upd (upd ρ oj.dst u) oi.dst v) h2->AG P ops b j rem (upd ρ oj.dst u) h2:=by
    intro v u h2 hag oj' hj' hce x ox hox hcx hx hxj hb;obtain⟨l1,d1,_,_⟩:=early x ox hox hcx hx;have:=hag oj' hj' hce x ox hox hcx (λhm=>hx (aKk hm)) hxj hb
    rwa [aM1 l1 d1] at this
   cases ci:lP P oi.op with
   | p=>
    have hne:lP P oi.op≠ .e:=by rw[ci];intro h;cases h
    obtain⟨x,hx⟩:=aL4 (ops:=ops) (ρ:=ρ) ci;obtain⟨v,e,hv⟩:=fN.1 ((hx _ _).1 H1);exact keU.mono hv.2 λu h2 hh=>⟨agJ v u h2 hh.1,(hx _ _).2 (fN.2 ⟨v,e,agI0 hne _ _ _,hh.2⟩)⟩
   | r=>
    have hne:lP P oi.op≠ .e:=by rw[ci];intro h;cases h
    have hx:=λh kv=>aOJ (P:=P) (ops:=ops) (ρ:=ρ) ci h kv;obtain⟨v,e,hv⟩:=fN.1 ((hx _ _).1 H1);by_cases cj:lP P oj.op= .e
    ·refine keU.mono hv.2 λu h2 hh=>⟨agJ v u h2 hh.1,(hx _ _).2 (fN.2 ⟨v,?_,agI0 hne _ _ _,hh.2⟩)⟩;have hf:=hh.1 oj hoj cj i oi hi ci (λhm=>(List.Nodup.mem_erase_iff hnd).1 hm |>.1 rfl) (Ne.symm hji) hbji;have hself:=L.look i i oi oi hi hi ci (λe=>absurd rfl e);have hjl:=hap.2.2;unfold aNm at e ⊢;split at e
     ·rename_i hw;rw[if_pos hw];obtain⟨d,hd⟩:=Option.isSome_iff_exists.1 (L.own i oi hi ci);have hw2:aCB ops oi (upd (upd ρ oj.dst u) oi.dst v)=true:=by
       unfold aCB at hw ⊢;cases hg:oi.guard with
       | none=>rfl
       | some gw=>obtain⟨g,want⟩:=gw;simp only[hg] at hw;simp only[aIM hg hself,aIM hg hjl];exact hw
      have:=hf hw2;rw[aLk hself,aLk hjl,hd] at this;simpa[upd] using this
     ·rename_i hw;rw[if_neg hw];exact e
    ·cases cj':lP P oj.op with
     | e=>exact absurd cj' cj
     | p=>
      obtain⟨y,hy⟩:=aL4 (ops:=ops) (ρ:=ρ) cj';obtain⟨u,e',hu⟩:=fN.1 ((hy _ _).1 hv.2);exact(hy _ _).2 (fN.2 ⟨u,e',agJ0 cj _ _ _,(hx _ _).2 (fN.2 ⟨v,e,agI0 hne _ _ _,hu.2⟩)⟩)
     | r=>
      have hy:=λh kv=>aOJ (P:=P) (ops:=ops) (ρ:=ρ) cj' h kv;obtain⟨u,e',hu⟩:=fN.1 ((hy _ _).1 hv.2);exact(hy _ _).2 (fN.2 ⟨u,e',agJ0 cj _ _ _,(hx _ _).2 (fN.2 ⟨v,e,agI0 hne _ _ _,hu.2⟩)⟩)
     | a=>
      have H2:kI P ops oi ρ h λv h1=>kI P ops oj ρ h1 λu h2=>aGv P ops b k n ((rem.erase j).erase i) (upd (upd ρ oj.dst u) oi.dst v) h2:=
       keT.mono H1 λv h1 hh=>keU.mono hh.2 λu h2 h3=>h3.2
      have H3:kI P ops oj ρ h λu h1=>kI P ops oi ρ h1 λv h2=>aGv P ops b k n ((rem.erase j).erase i) (upd (upd ρ oj.dst u) oi.dst v) h2:=by
       rcases aMD (P:=P) (ops:=ops) (ρ:=ρ) cj' with ha|hp'
       ·exact aWu (aVp ci) ha H2
       ·exact aHo keT hp' hr H2
      exact keU.mono H3 λu h1 hh=>⟨agJ0 cj _ _ _,keT.mono hh λv h2 h3=>⟨agI0 hne _ _ _,h3⟩⟩
   | a=>
    have hne:lP P oi.op≠ .e:=by rw[ci];intro h;cases h
    have cj:lP P oj.op≠ .e:=by intro hc;rw[ci,hc] at hp;cases hp
    have H2:kI P ops oi ρ h λv h1=>kI P ops oj ρ h1 λu h2=>aGv P ops b k n ((rem.erase j).erase i) (upd (upd ρ oj.dst u) oi.dst v) h2:=
     keT.mono H1 λv h1 hh=>keU.mono hh.2 λu h2 h3=>h3.2
    have H3:kI P ops oj ρ h λu h1=>kI P ops oi ρ h1 λv h2=>aGv P ops b k n ((rem.erase j).erase i) (upd (upd ρ oj.dst u) oi.dst v) h2:=by
     cases cj':lP P oj.op with
     | e=>exact absurd cj' cj
     | p=>exact aHo keT (aL4 cj') hr H2
     | r=>rw[ci,cj'] at hp;cases hp
     | a=>
      rcases aMD (P:=P) (ops:=ops) (ρ:=ρ) ci with hti|hti
      ·rcases aMD (P:=P) (ops:=ops) (ρ:=ρ) cj' with ha|hp'
       ·exact aXL hti ha hr H2
       ·exact aHo keT hp' hr H2
      ·exact aXo hti keU H2
    exact keU.mono H3 λu h1 hh=>⟨agJ0 cj _ _ _,keT.mono hh λv h2 h3=>⟨agI0 hne _ _ _,h3⟩⟩
   | e=>
    have cj:lP P oj.op= .p∨lP P oj.op= .a:=by
     cases cj':lP P oj.op with
     | p=>exact .inl rfl
     | a=>exact .inr rfl
     | r=>rw[ci,cj'] at hp;cases hp
     | e=>rw[ci,cj'] at hp;cases hp
    have cj0:lP P oj.op≠ .e:=by rcases cj with cj|cj<;>rw[cj]<;>intro h<;>cases h
    have H2:kI P ops oi ρ h λv h1=>kI P ops oj ρ h1 λu h2=>AG P ops b i (rem.erase j) (upd (upd ρ oj.dst u) oi.dst v) h2∧aGv P ops b k n ((rem.erase j).erase i) (upd (upd ρ oj.dst u) oi.dst v) h2:=by
     refine keT.mono H1 λv h1 hh=>?_;have kp:KP (kI P ops oj ρ)->kI P ops oj ρ h1 λu h2=>AG P ops b i (rem.erase j) (upd (upd ρ oj.dst u) oi.dst v) h2∧aGv P ops b k n ((rem.erase j).erase i) (upd (upd ρ oj.dst u) oi.dst v) h2:=by
      rintro⟨y,hy⟩;obtain⟨u,e,hu⟩:=fN.1 ((hy _ _).1 hh.2);exact(hy _ _).2 (fN.2 ⟨u,e,agI v u h1 cj hh.1,hu.2⟩)
     rcases cj with cp|ca
     ·exact kp (aL4 cp)
     ·rcases aMD (P:=P) (ops:=ops) (ρ:=ρ) ca with⟨y,hy⟩|hp'
      ·obtain⟨z,e,hz⟩:=fN.1 ((hy _ _).1 hh.2);refine(hy _ _).2 (fN.2 ⟨z,e,λr hn=>?_⟩);obtain⟨u,e2,hu⟩:=fN.1 (hz r hn);refine fN.2 ⟨u,e2,?_,hu.2⟩;intro oi' hi' hce x ox hox hcx hx hxi hb;exact aSh (L.own x ox hox hcx) (agI v u h1 (.inr ca) hh.1 oi' hi' hce x ox hox hcx hx hxi hb) hn
      ·exact kp hp'
    have H3:kI P ops oj ρ h λu h1=>kI P ops oi ρ h1 λv h2=>AG P ops b i (rem.erase j) (upd (upd ρ oj.dst u) oi.dst v) h2∧aGv P ops b k n ((rem.erase j).erase i) (upd (upd ρ oj.dst u) oi.dst v) h2:=by
     rcases cj with cp|ca
     ·exact aHo keT (aL4 cp) hr H2
     ·rcases aMD (P:=P) (ops:=ops) (ρ:=ρ) ca with ha|hp'
      ·exact aW7 keT ha hr H2
      ·exact aHo keT hp' hr H2
    exact keU.mono H3 λu h1 hh=>⟨agJ0 cj0 _ _ _,hh⟩
  refine keU.mono (keU.real W hr) λu h1 ⟨⟨hag,hst⟩,hr1⟩=>⟨hag,?_⟩;rw[←eT u] at hst;refine ih (rem.erase j) (upd ρ oj.dst u) h1 (by rw[List.length_erase_of_mem hj];omega) (hnd.erase j) ?_ hr1 hmemi (λx hx=>hrdy x (aKk hx)) (λj' oj' hj' hne ho hb=>hpair j' oj' (aKk hj') hne ho hb) hst;intro y hy x hx;by_cases e:y=j
  ·subst e;exact hjr x (aKk hx)
  ·exact hdc y (λhm=>hy ((List.mem_erase_of_ne e).2 hm)) x (aKk hx)
def aOC(P:Program)(ops:Array Oper):List Nat->lI->PH->Prop->Prop
 | [],_,_,K=>K
 | x::xs,ρ,h,K=>match ops[x]? with
  | none=>False
  | some o=>match o.guard with
   | none=>cE P h (vK ρ o)=o.dst.map ρ∧aOC P ops xs ρ h K
   | some (g,want)=>((aHi ops ρ g==some want)=true->cE P h (vK ρ o)=o.dst.map ρ)∧aOC P ops xs ρ h K
def aLd(P:Program)(ops:Array Oper)(b:Array Nat)(k:lI->PH->Prop):List Nat->List Nat->lI->PH->Prop
 | _,[],ρ,h=>k ρ h
 | pend,i::rest,ρ,h=>match ops[i]? with
  | none=>False
  | some o=>kI P ops o ρ h λv h'=>match lP P o.op with
   | .e=>aOC P ops (pend.filter λx=>!bit b i x) (upd ρ o.dst v) h' (aLd P ops b k pend rest (upd ρ o.dst v) h')
   | .r=>aLd P ops b k (i::pend) rest (upd ρ o.dst v) h'
   | _=>aLd P ops b k pend rest (upd ρ o.dst v) h'
def aR0(P:Program)(ops:Array Oper)(i:Nat):Cls:=match ops[i]? with
 | some o=>lP P o.op
 | none=>.e
def isR:Cls->Bool
 | .r=>true
 | _=>false
def aR4(P:Program)(ops:Array Oper)(b:Array Nat):List Nat->Bool
 | []=>true
 | i::rest=>!bit b i i&&rest.all (λj=>!bit b i j&&(bit b j i||aTP (aR0 P ops i) (aR0 P ops j)))&&aR4 P ops b rest
def aSB(P:Program)(ops:Array Oper)(b:Array Nat):Bool:=
 (List.range ops.size).all λx=>(List.range ops.size).all λy=>match ops[x]?,ops[y]? with
  | some ox,some oy=>(x==y||bit b x y||bit b y x||ox.apart ops oy) &&
   (!isR (lP P ox.op)||((x !=y&&bit b x y)||match oy.dst with
    | none=>true
    | some d=>!(ox.looksAt ops).contains d)&&ox.dst.isSome&&(x==y||oy.dst.isNone||ox.dst !=oy.dst))
  | _,_=>true
def aR6(ops:Array Oper)(b:Array Nat):Bool:=
 (List.range ops.size).all λi=>match ops[i]? with
  | some o=>(o.after.all λe=>!Region.binds .any e||e.on<i) &&
   (List.range ops.size).all λx=>!bit b i x||o.after.any λe=>Region.binds .any e&&(e.on==x||bit b e.on x)
  | none=>true
def aQl:List Nat->Bool
 | []=>true
 | x::xs=>!xs.contains x&&aQl xs
def aQB(P:Program)(ops:Array Oper)(b:Array Nat)(ord:List Nat):Bool:=
 ord.length==ops.size&&b.size==ops.size&&ord.all (· < ops.size)&&(List.range ops.size).all (ord.contains ·)&&aQl ord&&aR4 P ops b ord&&aSB P ops b&&aR6 ops b
theorem aWd{P:Program}{ops:Array Oper}{b:Array Nat}(h:aSB P ops b=true):aVB P ops b:=by
 unfold aSB at h;simp only[aDO,aKB] at h;have lt:∀{x:Nat} {o:Oper},ops[x]? =some o->x<ops.size:=λh=>(aI4.1 h).1;have key:∀(x y:Nat) (ox oy:Oper),ops[x]? =some ox->ops[y]? =some oy->((x==y||bit b x y||bit b y x||ox.apart ops oy) &&
   (!isR (lP P ox.op)||((x !=y&&bit b x y)||match oy.dst with
    | none=>true
    | some d=>!(ox.looksAt ops).contains d)&&ox.dst.isSome&&(x==y||oy.dst.isNone||ox.dst !=oy.dst)))=true:=by
  intro x y ox oy hx hy;have:=h x (lt hx) y (lt hy);simpa only[hx,hy] using this
 have isr:∀{c:Cls},c= .r->isR c=true:=λe=>by rw[e];rfl
 constructor
 ·intro x y ox oy hx hy hne h1 h2;have:=(yB _ _▸key x y ox oy hx hy).1;simpa[hne,h1,h2] using this
 ·intro x y ox oy hx hy hc h1 d hd;have:=(yB _ _▸key x y ox oy hx hy).2;rw[isr hc] at this;simp only[Bool.not_true,aKA,yB,hd] at this;rcases Bool.or_eq_true _ _▸this.1.1 with h3|h3
  ·simp only[yB,bne_iff_ne] at h3;rw[h1 h3.1] at h3;cases h3.2
  ·simpa using h3
 ·intro x ox hx hc;have:=(yB _ _▸key x x ox ox hx hx).2;rw[isr hc] at this;simp only[Bool.not_true,aKA,yB] at this;exact this.1.2
 ·intro x y ox oy hx hy hc hne d hd;have:=(yB _ _▸key x y ox oy hx hy).2;rw[isr hc] at this;simp only[Bool.not_true,aKA,yB] at this;have h3:=this.2;rw[hd] at h3;simpa[hne] using h3
theorem aPp{P:Program}{ops:Array Oper}{ρ:lI}{h:PH}{K:Prop}:∀{l:List Nat},aOC P ops l ρ h K->K∧∀x∈l,∃o,ops[x]? =some o∧aGQ P ops o ρ h
 | [],hk=>⟨hk,λ_ hx=>by cases hx⟩
 | x::xs,hk=>by
  unfold aOC at hk;split at hk
  ·exact hk.elim
  ·rename_i o ho;have hboth:aGQ P ops o ρ h∧aOC P ops xs ρ h K:=by
    unfold aGQ aCB;cases hg:o.guard with
    | none=>simp only[hg] at hk;exact⟨λ_=>hk.1,hk.2⟩
    | some gw=>obtain⟨g,want⟩:=gw;simp only[hg] at hk;exact⟨λhw=>hk.1 hw,hk.2⟩
   obtain⟨hK,hrest⟩:=aPp hboth.2;exact⟨hK,λy hy=>by
    rcases gL.1 hy with rfl|hy
    ·exact⟨o,ho,hboth.1⟩
    ·exact hrest y hy⟩
theorem aUX{P:Program}{ops:Array Oper}{b:Array Nat}{k:lI->PH->Prop}(L:aVB P ops b):
  ∀(rest pend:List Nat) (ρ:lI) (h:PH),aR4 P ops b rest=true->rest.Nodup->(∀y,y∉rest->∀x∈rest,bit b y x=false)->Rl h->
   (∀x ox,ops[x]? =some ox->lP P ox.op= .r->x∉rest->x∈pend)->aLd P ops b k pend rest ρ h->aGv P ops b k rest.length rest ρ h:=by
 intro rest;induction rest with
 | nil=>intro pend ρ h _ _ _ _ _ H;exact H
 | cons i rest ih=>
  intro pend ρ h hord hnd hdc hr hpend H;unfold aLd at H;split at H
  ·exact H.elim
  ·rename_i o hi;simp only[aR4,yB,Bool.not_eq_true',aDO] at hord;obtain⟨⟨hii,hall⟩,hrest⟩:=hord;obtain⟨hnot,hnd'⟩:=aKd.1 hnd;have hrdy:∀x∈i::rest,bit b i x=false:=λx hx=>by
    rcases gL.1 hx with rfl|hx
    ·exact hii
    ·exact(hall x hx).1
   have hdc':∀y,y∉rest->∀x∈rest,bit b y x=false:=λy hy x hx=>by
    by_cases e:y=i
    ·subst e;exact(hall x hx).1
    ·exact hdc y (λhm=>by rcases gL.1 hm with hm|hm;exact e hm;exact hy hm) x (aKr _ hx)
   refine aTx L hi rest.length (i::rest) ρ h rfl hnd hdc hr (aIc) hrdy (λj oj hj hne hoj hb=>?_) ?_
   ·have hj':j∈rest:=(gL.1 hj).resolve_left hne;have:=(hall j hj').2;rw[hb,aKA] at this;simpa only[aR0,hi,hoj] using this
   ·have ke:KE (kI P ops o ρ):=aNE;refine ke.mono (ke.real H hr) λv h' ⟨hh,hr'⟩=>?_;rw[List.erase_cons_head];cases hc:lP P o.op with
    | e=>
     simp only[hc] at hh;obtain⟨hK,hags⟩:=aPp hh;refine⟨λoi hoi hce x ox hox hcx hx hxi hb=>?_,ih pend _ _ hrest hnd' hdc' hr' (λx ox hox hcx hx=>?_) hK⟩
     ·obtain⟨o',ho',hf⟩:=hags x (zL1.2 ⟨hpend x ox hox hcx hx,by simp[hb]⟩);rw[hox] at ho';cases ho';exact hf
     ·refine hpend x ox hox hcx λhm=>?_;rcases gL.1 hm with rfl|hm
      ·rw[hi] at hox;cases hox;rw[hc] at hcx;cases hcx
      ·exact hx hm
    | r=>
     simp only[hc] at hh;refine⟨λoi hoi hce=>(by rw[hi] at hoi;cases hoi;rw[hc] at hce;cases hce),ih (i::pend) _ _ hrest hnd' hdc' hr' (λx ox hox hcx hx=>?_) hh⟩;by_cases e:x=i
     ·subst e;exact aIc
     ·exact aKr _ (hpend x ox hox hcx λhm=>by rcases gL.1 hm with hm|hm;exact e hm;exact hx hm)
    | p=>
     simp only[hc] at hh;refine⟨λoi hoi hce=>(by rw[hi] at hoi;cases hoi;rw[hc] at hce;cases hce),ih pend _ _ hrest hnd' hdc' hr' (λx ox hox hcx hx=>?_) hh⟩;refine hpend x ox hox hcx λhm=>?_;rcases gL.1 hm with rfl|hm
     ·rw[hi] at hox;cases hox;rw[hc] at hcx;cases hcx
     ·exact hx hm
    | a=>
     simp only[hc] at hh;refine⟨λoi hoi hce=>(by rw[hi] at hoi;cases hoi;rw[hc] at hce;cases hce),ih pend _ _ hrest hnd' hdc' hr' (λx ox hox hcx hx=>?_) hh⟩;refine hpend x ox hox hcx λhm=>?_;rcases gL.1 hm with rfl|hm
     ·rw[hi] at hox;cases hox;rw[hc] at hcx;cases hcx
     ·exact hx hm
structure aAb(n:Nat)(D:List Deferred)(ρ:lI)(a:Act):Prop where
 defers:a.defers=D
 size:a.tmps.size=n
 slot:∀t,a.tmps.getD t undef=ρ t
theorem aAb.ev{n:Nat}{D:List Deferred}{ρ:lI}{a:Act}(hm:aAb n D ρ a):a.eval=ev ρ:=by
 funext x;cases x with
 | tmp t=>exact hm.slot t
 | _=>rfl
theorem aAb.put{n:Nat}{D:List Deferred}{ρ:lI}{a:Act}(hm:aAb n D ρ a){d:Option Tmp}(hd:∀t,d=some t->t<n)(v:Value):aAb n D (upd ρ d v) (a.put d v):=by
 cases d with
 | none=>exact hm
 | some t=>
  refine⟨hm.defers,by simp[Act.put,hm.size],λs=>?_⟩;have ht:t<a.tmps.size:=by rw[hm.size];exact hd t rfl
  simp only[Act.put,upd,aKl,Array.getElem?_setIfInBounds];by_cases e:s=t
  ·subst e;simp[ht]
  ·rw[if_neg (Ne.symm e),if_neg e,←aKl];exact hm.slot s
theorem aAb.want{n:Nat}{D:List Deferred}{ρ:lI}{a:Act}(hm:aAb n D ρ a)(ops:Array Oper)(o:Oper):Region.wanted o (yielded ops a.tmps)=aCB ops o ρ:=by
 unfold Region.wanted aCB;cases hg:o.guard with
 | none=>rfl
 | some gw=>
  obtain⟨g,want⟩:=gw;have:yielded ops a.tmps g=aHi ops ρ g:=by
   unfold yielded aHi;cases hd:(ops[g]?).bind (·.dst) with
   | none=>rfl
   | some t=>
    have hs:=hm.slot t;simp only[aC4];rw[aKl] at hs;cases hx:a.tmps[t]? with
    | none=>rw[hx] at hs;simp only[Option.getD_none] at hs;rw[←hs];rfl
    | some v=>rw[hx] at hs;simp only[aH8] at hs;rw[←hs];cases v<;>rfl
  simp only[this]
abbrev aHQ(r:Option Nat):Fence:={Fence.wide with round:=r}
theorem aKy{r:Option Nat}{n:Nat}{P:Program}{f:FuncId}{args:Array Value}{w:World}{R:Ending->World->Prop}(h:Calls P f args w R):CallsIn (aHQ r) n P f args w R:=
 (callsIn_wide (n:=n)).2 h
theorem aPU{r:Option Nat}{n m:Nat}{P:Program}{l:Nat}{f:FuncId}{tmps:Array Value}{assign body:Code}{w:World}{R:Ending->World->Prop}(h:RoundIn Fence.wide m P l f tmps assign body w R):RoundIn (aHQ r) n P l f tmps assign body w R:=
 ⟨trivial,λc cs _=>h.2 c cs (room_wide _)⟩
theorem aRA{r:Option Nat}{N:Nat}{P:Program}{ops:Array Oper}{i:Nat}{o:Oper}{ρ:lI}{h:PH}{kv:cD}{n:Nat}{D:List Deferred}{a:Act}{w:World}{Q:Exit->Act->World->Prop}{K:Act->World->Prop}
  (hi:ops[i]? =some o) (hs:kI P ops o ρ h kv) (hm:aAb n D ρ a) (hsub:pJ h w) (hk:∀v h' w',kv v h'->pJ h' w'->Fr h w h' w'->K (a.put o.dst v) w'):wpOpIn (aHQ r) N P ops Q i K a w:=by
 unfold wpOpIn;simp only[hi];rw[aAZ] at hs;rw[hm.want];by_cases hw:aCB ops o ρ=true
 ·rw[if_pos hw] at hs ⊢;unfold Oper.wpIn;refine⟨λ_ _=>trivial,?_⟩;rw[Oper.semAt_eq _ _ _ hs.noDefer,hm.ev];obtain⟨x,w',h',hrun,hn,hs',hf⟩:=hs.exec.sound hsub;rw[hrun];cases x with
  | value v=>exact hk v h' w' hn hs' hf
  | skip=>exact hk undef h' w' hn hs' hf
  | enter f args=>
   refine⟨λh=>by simp[Fence.wide] at h,aKy ((hn w' hs').mono λe w2 ⟨v,h2,he,hv,hs2,hf2⟩=>?_)⟩;subst he;exact hk v h2 w2 hv hs2 (hf.trans hf2)
  | round l f tmps assign body=>
   refine⟨λh=>by simp[Fence.wide] at h,aPU (RoundIn.mono (hn w' hs') λe w2 ⟨v,h2,he,hv,hs2,hf2⟩=>?_)⟩;subst he;exact hk v h2 w2 hv hs2 (hf.trans hf2)
  | _=>exact hn.elim
 ·rw[if_neg hw] at hs ⊢;exact⟨λ_ _=>trivial,hk undef h w hs hsub (Fr.refl _ _)⟩
def aMa(n:Nat)(o:Oper):Bool:=match o.dst with
 | some d=>d<n
 | none=>true
theorem aTX{n:Nat}{o:Oper}(h:aMa n o=true):∀t,o.dst=some t->t<n:=by
 intro t ht;unfold aMa at h;rw[ht] at h;simpa using h
def aJp(b:Nat):Deferred:={target:=.collected b,args:=#[]}
def aB4(w0:World)(D:List Deferred)(h:PH)(w:World):Prop:=
 ∃bs:List Nat,bs.Nodup∧D=bs.map aJp∧∀b∈bs,w0.heap.size≤b∧b<w.heap.size∧h b=none∧w.heap[b]? =some (.deferred (some []))
theorem aB4.step{w0:World}{D:List Deferred}{h h':PH}{w w':World}(hd:aB4 w0 D h w)(hf:Fr h w h' w'):aB4 w0 D h' w':=by
 obtain⟨bs,h1,h2,h3⟩:=hd;refine⟨bs,h1,h2,λb hb=>?_⟩;obtain⟨a1,a2,a3,a4⟩:=h3 b hb;exact⟨a1,aKh a2 hf.size,hf.none b a2 a3,(hf.far b a2 a3).trans a4⟩
theorem aB4.nil(w0:World)(h:PH)(w:World):aB4 w0 [] h w:=⟨[],List.nodup_nil,rfl,λb hb=>by cases hb⟩
def QW(n:Nat)(Q:Exit->lI->PH->Prop)(h0:PH)(w0:World):Exit->Act->World->Prop:=λe a w=>∃ρ h D,Q e ρ h∧aAb n D ρ a∧pJ h w∧Fr h0 w0 h w∧aB4 w0 D h w
theorem aX8{r:Option Nat}{N:Nat}{P:Program}{ops:Array Oper}{n:Nat}{D:List Deferred}{Q:Exit->lI->PH->Prop}{h0:PH}{w0:World}(hd:∀o∈ops,aMa n o=true):
  ∀(m k:Nat) (ρ:lI) (h:PH) (a:Act) (w:World),k+m=ops.size->aSN P ops (Q .normal) (ops.toList.drop k) ρ h->aAb n D ρ a->pJ h w->Fr h0 w0 h w->aB4 w0 D h w->
   wpOpsIn (aHQ r) N P ops (QW n Q h0 w0) (List.range' k m) a w:=by
 intro m;induction m with
 | zero=>
  intro k ρ h a w hk H hm hs hf hD;rw[aLt (by simp;omega)] at H;exact⟨ρ,h,D,H,hm,hs,hf,hD⟩
 | succ m ih=>
  intro k ρ h a w hk H hm hs hf hD;have hlt:k<ops.size:=by omega
  have hget:ops[k]? =some ops[k]:=Array.getElem?_eq_getElem hlt;rw[aMf (by simpa using hlt)] at H;rw[List.range'_succ,wpOpsIn_cons];refine aRA hget H hm hs λv h' w' hv hs' hf'=>?_;exact ih (k+1) _ _ _ _ (by omega) hv (hm.put (aTX (hd _ (Array.getElem_mem hlt))) v) hs' (hf.trans hf') (hD.step hf')
theorem aYQ{r:Option Nat}{N:Nat}{P:Program}{ops:Array Oper}{b:Array Nat}{n:Nat}{D:List Deferred}{Q:Exit->lI->PH->Prop}{h0:PH}{w0:World}(hd:∀o∈ops,aMa n o=true)(hc:aR6 ops b=true):
  ∀(m:Nat) (rem:List Nat) (listed:Array Bool) (ρ:lI) (h:PH) (a:Act) (w:World),rem.length=m->rem.Nodup->(∀x,x∈rem↔x<ops.size∧listed.getD x true=false)->listed.size=ops.size->
   (∀y,y∉rem->∀x∈rem,bit b y x=false)->aGv P ops b (Q .normal) m rem ρ h->aAb n D ρ a->pJ h w->Fr h0 w0 h w->aB4 w0 D h w->
   wpAnyIn (aHQ r) N P .any ops (QW n Q h0 w0) m listed a w:=by
 unfold aR6 at hc;simp only[aDO,aKB] at hc;have hcl:∀(i:Nat) (o:Oper),ops[i]? =some o->(∀e∈o.after,Region.binds .any e=true->e.on<i)∧∀x,x<ops.size->bit b i x=true->∃e∈o.after,Region.binds .any e=true∧(e.on=x∨bit b e.on x=true):=by
  intro i o hi;have:=hc i (aI4.1 hi).1;simp only[hi,yB,aDO,aKB] at this;refine⟨λe he hb=>?_,λx hx hb=>?_⟩
  ·have h1:=Array.all_eq_true_iff_forall_mem.1 this.1 e he;simpa[hb] using h1
  ·have h1:=this.2 x hx;rw[hb] at h1;simp only[Bool.not_true,aKA] at h1;obtain⟨e,he,h2⟩:=Array.any_eq_true'.1 h1;simp only[yB,Bool.or_eq_true,beq_iff_eq] at h2;exact⟨e,he,h2⟩
 intro m;induction m with
 | zero=>
  intro rem listed ρ h a w hlen hnd hrem hsz hdc H hm hs hf hD;have:rem=[]:=zLN hlen;subst this;refine⟨?_,ρ,h,D,H,hm,hs,hf,hD⟩;rw[List.eq_nil_iff_forall_not_mem];intro j hj;obtain⟨h1,o,ho,_⟩:=mem_ready.1 hj;have:=(hrem j).2 ⟨(aI4.1 ho).1,h1⟩;cases this
 | succ m ih=>
  intro rem listed ρ h a w hlen hnd hrem hsz hdc H hm hs hf hD;have hlisted:∀x,x<ops.size->x∉rem->listed.getD x false=true:=by
   intro x hx hn;cases hv:listed.getD x true with
   | false=>exact absurd ((hrem x).2 ⟨hx,hv⟩) hn
   | true=>
    have hlt:x<listed.size:=by omega
    simpa[aKl,hlt] using hv
  refine⟨λhr=>?_,λi hir=>?_⟩
  ·-- the lowest one that is left may come up
   exfalso;have hne:rem≠[]:=λe=>by rw[e] at hlen;cases hlen
   have hmin:∃i∈rem,∀x∈rem,i≤x:=by
    clear hlen hnd hrem hdc H hlisted;induction rem with
    | nil=>exact absurd rfl hne
    | cons y ys ihy=>
     by_cases hys:ys=[]
     ·subst hys;exact⟨y,aIc,λx hx=>by simp at hx;omega⟩
     ·obtain⟨i,hi,hle⟩:=ihy hys;by_cases hyi:y≤i
      ·exact⟨y,aIc,λx hx=>by
        rcases gL.1 hx with rfl|hx
        ·omega
        ·have:=hle x hx;omega⟩
      ·exact⟨i,aKr _ hi,λx hx=>by
        rcases gL.1 hx with rfl|hx
        ·omega
        ·exact hle x hx⟩
   obtain⟨i,hi,hle⟩:=hmin;obtain⟨hlt,hun⟩:=(hrem i).1 hi;have:i∈Region.ready .any ops listed:=by
    rw[mem_ready];refine⟨hun,ops[i],Array.getElem?_eq_getElem hlt,λe he hb=>?_⟩;have hlt2:=(hcl i _ (Array.getElem?_eq_getElem hlt)).1 e he hb;exact hlisted _ (by omega) (λhm=>by have:=hle _ hm;omega)
   rw[hr] at this;cases this
  ·obtain⟨hun,o,ho,hall⟩:=mem_ready.1 hir;have hlt:=(aI4.1 ho).1;have hmem:i∈rem:=(hrem i).2 ⟨hlt,hun⟩;have hrdy:∀x∈rem,bit b i x=false:=by
    intro x hx;cases hb:bit b i x with
    | false=>rfl
    | true=>
     exfalso;obtain⟨e,he,hbi,hor⟩:=(hcl i o ho).2 x ((hrem x).1 hx).1 hb;have hl:=hall e he hbi;have hlt2:=(hcl i o ho).1 e he hbi;have hne:e.on∉rem:=λhm=>by
      have:=((hrem _).1 hm).2;have hsz':e.on<listed.size:=by omega
      simp[aKl,hsz'] at this hl;rw[this] at hl;cases hl
     rcases hor with rfl|hor
     ·exact hne hx
     ·rw[hdc _ hne x hx] at hor;cases hor
   obtain⟨o',ho',hst⟩:=H i hmem hrdy;rw[ho] at ho';cases ho';refine aRA ho hst hm hs λv h' w' hv hs' hf'=>?_;refine ih (rem.erase i) (listed.setIfInBounds i true) _ _ _ _ (by rw[List.length_erase_of_mem hmem];omega) (hnd.erase i) (λx=>?_) (by simpa using hsz) ?_ hv.2 (hm.put (aTX (hd _ (Array.mem_of_getElem? ho))) v) hs' (hf.trans hf') (hD.step hf')
   ·rw[hnd.mem_erase_iff,hrem];by_cases e:x=i
    ·subst e;have:x<listed.size:=by omega
     simp[aKl,this]
    ·rw[getD_set_ne true (Ne.symm e)];simp[e]
   ·intro y hy x hx;by_cases e:y=i
    ·subst e;exact hrdy x (aKk hx)
    ·exact hdc y (λhm'=>hy ((List.mem_erase_of_ne e).2 hm')) x (aKk hx)
theorem aWX{r:Option Nat}{N:Nat}{D:List Deferred}{P:Program}{id:Nat}{ops:Array Oper}{b:Array Nat}{ord:List Nat}{n:Nat}{Q:Exit->lI->PH->Prop}{h0:PH}{w0:World}{ρ:lI}{h:PH}{a:Act}{w:World}
  (hmix:P.follows .mixedOrders=true) (hd:∀o∈ops,aMa n o=true) (hok:aQB P ops b ord=true) (H:aLd P ops b (Q .normal) [] ord ρ h) (hm:aAb n D ρ a) (hs:pJ h w) (hf:Fr h0 w0 h w) (hD:aB4 w0 D h w):
  (Code.region id ops true).wpIn (aHQ r) N P (QW n Q h0 w0) a w:=by
 unfold aQB at hok;simp only[yB,beq_iff_eq,aDO,decide_eq_true_eq] at hok;obtain⟨⟨⟨⟨⟨⟨⟨hlen,hbs⟩,hlt⟩,hcov⟩,hnd⟩,hord⟩,hlaid⟩,hclos⟩:=hok;have hnodup:ord.Nodup:=by
  clear hlen hlt hord H hcov;induction ord with
  | nil=>exact List.nodup_nil
  | cons x xs ih=>
   simp only[aQl,yB,Bool.not_eq_true'] at hnd;exact aKd.2 ⟨by simpa using hnd.1,ih hnd.2⟩
 have hall:∀x,x<ops.size->x∈ord:=λx hx=>by simpa using hcov x (aKB.2 hx)
 have hdc:∀y,y∉ord->∀x∈ord,bit b y x=false:=by
  intro y hy x hx;have hge:ops.size≤y:=by
   rcases Nat.lt_or_ge y ops.size with h1|h1
   ·exact absurd (hall y h1) hy
   ·exact h1
  unfold bit;rw[aKl,Array.getElem?_eq_none (by omega)];simp
 refine wpIn_region_any hmix ?_;have hs1:pJ h {w with drawn:=w.drawn+1}:=hs;have hf1:Fr h0 w0 h {w with drawn:=w.drawn+1}:=⟨hf.os,hf.tape,hf.output,zLD hf.drawn (vF _),hf.size,hf.far,hf.none⟩;have hany:=aUX (aWd hlaid) ord [] ρ h hord hnodup hdc ⟨w,hs⟩ (λx ox hox _ hx=>absurd (hall x (aI4.1 hox).1) hx) H;rw[hlen] at hany;exact aYQ hd hclos ops.size ord _ ρ h a _ hlen hnodup (λx=>by
  constructor
  ·intro hx;exact⟨hlt x hx,by simp[aKl,hlt x hx]⟩
  ·intro hx;exact hall x hx.1) (by simp) hdc hany hm hs1 hf1 hD
structure kG where
 b:Nat->Array Nat
 ord:Nat->List Nat
 keep:Nat->List Nat
 n:Nat:=0
def uH:Code->Nat
 | .region id _ _=>id
 | .seq x _=>uH x
 | .block _ c=>uH c
 | .loop c=>uH c
 | .scope c=>uH c
 | _=>0
abbrev QH:=Exit->lI->PH->Prop
abbrev aI7(next:lI->PH->Prop)(Q:QH):QH
 | .normal,ρ,h=>next ρ h
 | e,ρ,h=>Q e ρ h
abbrev aI1(id:Nat)(Q:QH):QH
 | .exit id',ρ,h=>if id'=id then Q .normal ρ h else Q (.exit id') ρ h
 | e,ρ,h=>Q e ρ h
abbrev aL0(Q:QH):QH
 | .goto _,_,_=>False
 | e,ρ,h=>Q e ρ h
def dI(v:Value)(A B:Prop):Prop:=match v with
 | .bool true=>A
 | .bool false=>B
 | _=>False
def iM(keep:List Nat)(step:(List Value->PH->Prop)->lI->PH->Prop)(vs:List Value)(h:PH):Prop:=
 ∃(I:gP) (μ:List Value->PH->Nat),I vs h∧∀ρ h,I (keep.map ρ) h->step (λvs' h'=>I vs' h'∧μ vs' h'<μ (keep.map ρ) h) ρ h
def aDb:Code->List Nat
 | .seq x y=>aDb x++aDb y
 | .cond _ x y=>aDb x++aDb y
 | .block _ c=>aDb c
 | .loop c=>aDb c
 | .scope c=>aDb c
 | .exit id=>[id]
 | _=>[]
def aVf(kn kr:PH->Prop)(ke:List (Nat×(PH->Prop)))(h:PH):Option Code->Prop
 | none=>kn h
 | some .ret=>kr h
 | some (.exit id)=>∃p∈ke,p.1=id∧p.2 h
 | _=>False
def aJ1(P:Program)(n:Nat)(g:Value)(ps:Array Tmp)(assign body:Code)(kn kr:PH->Prop)(ke:List (Nat×(PH->Prop)))(vals:List (Nat×Value))(h:PH):Prop:=match g with
 | .func (.func gf) first captured=>aEL P gf=true∧∀(fn:FuncId) (tmps:Array Value) (l D:Nat),(∀p∈vals,tmps.getD p.1 undef=p.2)->tmps.size=n->h l=none->
   aT P gf (first ++ #[.func (.yield l) #[] #[]]++captured) (h.set l (.loop {state:=.ready,pending:=none,fn,tmps,params:=ps,assign,body,defers:=D}))
    λ_ h'=>cY P (Instr.endLoop l) h' λjump h2=>aVf kn kr ke h2 jump
 | _=>False
def rB(P:Program)(ann:kG):Code->QH->lI->PH->Prop
 | .skip,Q,ρ,h=>Q .normal ρ h
 | .region _ ops false,Q,ρ,h=>aSN P ops (Q .normal) ops.toList ρ h
 | .region id ops true,Q,ρ,h=>aLd P ops (ann.b id) (Q .normal) [] (ann.ord id) ρ h
 | .seq x y,Q,ρ,h=>rB P ann x (aI7 (rB P ann y Q) Q) ρ h
 | .cond c x y,Q,ρ,h=>dI (ev ρ c) (rB P ann x Q ρ h) (rB P ann y Q ρ h)
 | .block id c,Q,ρ,h=>rB P ann c (aI1 id Q) ρ h
 | .loop c,Q,ρ,h=>iM (ann.keep (uH c)) (λnext ρ h=>rB P ann c (aI7 (λρ' h'=>next ((ann.keep (uH c)).map ρ') h') Q) ρ h) ((ann.keep (uH c)).map ρ) h
 | .exit id,Q,ρ,h=>Q (.exit id) ρ h
 | .ret,Q,ρ,h=>Q .ret ρ h
 | .label _,Q,ρ,h=>Q .normal ρ h
 | .scope c,Q,ρ,h=>rB P ann c (aL0 Q) ρ h
 | .rangeFunc g ps assign body,Q,ρ,h=>aJ1 P ann.n (ev ρ g) ps assign body (Q .normal ρ) (Q .ret ρ) ((aDb body).map λid=>(id,Q (.exit id) ρ)) ((ann.keep (uH body)).map λt=>(t,ρ t)) h
 | _,_,_,_=>False
def uR:Code->Bool
 | .seq x y=>uR x&&uR y
 | .cond _ x y=>uR x&&uR y
 | .block _ c=>uR c
 | .loop c=>uR c
 | .scope c=>uR c
 | .rangeFunc .. =>false
 | _=>true
def aBI(P:Program)(ann:kG)(n:Nat):Code->Bool
 | .region _ ops false=>ops.all (aMa n)
 | .region id ops true=>ops.all (aMa n)&&aQB P ops (ann.b id) (ann.ord id)
 | .seq x y=>aBI P ann n x&&aBI P ann n y
 | .cond _ x y=>aBI P ann n x&&aBI P ann n y
 | .block _ c=>aBI P ann n c
 | .loop c=>aBI P ann n c
 | .scope c=>aBI P ann n c
 | .rangeFunc _ ps _ _=>ann.n==n
 | _=>true
theorem cE.run{P:Program}{α:Type}{s:Sem α}:∀{a:α} {h:PH},cE P h s=some a->∀{w:World},pJ h w->s.run P w= .ok a w:=by
 induction s with
 | pure a=>intro b h hb w hs;simp only[cE,zL8] at hb;subst hb;rfl
 | load m a k ih=>intro b h hb w hs;obtain⟨v,hv,hb⟩:=aH4.1 hb;simp only[Sem.run,hs.cell hv];exact ih v hb hs
 | shape r k ih=>intro b h hb w hs;obtain⟨v,hv,hb⟩:=aH4.1 hb;simp only[Sem.run,hs.shape hv];exact ih v hb hs
 | frozen a k ih=>intro b h hb w hs;obtain⟨v,hv,hb⟩:=aH4.1 hb;simp only[Sem.run,hs.frozen hv];exact ih _ hb hs
 | program k ih=>intro b h hb w hs;exact ih P hb hs
 | mark m k ih=>intro b h hb w hs;exact ih hb hs
 | getObj r k ih=>
  intro b h hb w hs;simp only[cE] at hb;cases hx:h r with
  | none=>rw[hx] at hb;cases hb
  | some o=>
   rw[hx] at hb;simp only[Sem.run,hs _ _ hx];cases o<;>first|cases hb|exact ih _ hb hs
 | _=>intro b h hb;cases hb
theorem aQw{r:Option Nat}{N:Nat}{P:Program}{Q:Exit->Act->World->Prop}{c:Code}(I:Nat->Act->World->Prop)(round:∀n a w,I n a w->c.wpIn (aHQ r) N P (Exit.then (λa' w'=>∃m,m<n∧I m a' w') Q) a w):
  ∀{n:Nat} {a:Act} {w:World},I n a w->(Code.loop c).wpIn (aHQ r) N P Q a w:=by
 intro n a w h0;let J:Act->World->Prop:=λa w=>∃n,I n a w;have least:∀a w,J a w->∃n,I n a w∧∀m,I m a w->n≤m:=by
  intro a w ⟨n,hn⟩;induction n using Nat.strongRecOn with
  | _ n ih=>
   by_cases hx:∃m,m<n∧I m a w
   ·obtain⟨m,hlt,hm⟩:=hx;exact ih m hlt hm
   ·exact⟨n,hn,λm hm=>by
     rcases Nat.lt_or_ge m n with h1|h1
     ·exact absurd ⟨m,h1,hm⟩ hx
     ·exact h1⟩
 let μ:Act->World->Nat:=λa w=> @dite Nat (J a w) (Classical.propDecidable _) (λh=>Classical.choose (least a w h)) (λ_=>0);refine wpIn_loop J μ ⟨n,h0⟩ λa w hJ=>?_;have hμ:μ a w=Classical.choose (least a w hJ):=dif_pos hJ;have hsp:=Classical.choose_spec (least a w hJ);refine wpIn_mono (round _ a w hsp.1) λe a' w' he=>?_;cases e with
 | normal=>
  obtain⟨m,hlt,hm⟩:=he;have hJ':J a' w':=⟨m,hm⟩;have hμ':μ a' w'=Classical.choose (least a' w' hJ'):=dif_pos hJ';refine⟨hJ',?_⟩;rw[hμ,hμ'];exact Nat.lt_of_le_of_lt ((Classical.choose_spec (least a' w' hJ')).2 m hm) hlt
 | _=>exact he
theorem aDZ{P:Program}{b:Frame}{a:Act}{k:List Item}{cs:List Frame}{w:World}{c:Code}:step P (lone (b.atR a (.code (.scope c)::k)) cs w)= .next (lone (b.atR a (.code c :: .inScope c::k)) cs w):=
 step_lone_go (by simp[stepG,stepG.exec,Frame.atR])
theorem aPV{P:Program}{b:Frame}{a:Act}{k:List Item}{cs:List Frame}{w:World}{c:Code}:step P (lone (b.atR a (.inScope c::k)) cs w)= .next (lone (b.atR a k) cs w):=
 step_lone_go (by simp[stepG,stepG.exec,Frame.atR])
theorem aK1{F:Fence}{n:Nat}{P:Program}{Q:Exit->Act->World->Prop}{a:Act}{w:World}{c:Code}(h:c.wpIn F n P (Exit.noGoto Q) a w):(Code.scope c).wpIn F n P Q a w:=by
 intro b k cs hro hb hr;have h0:(lone (b.atR a (.code (.scope c)::k)) cs w).fenced P F:=fenced_calm hb hr rfl;obtain⟨e,a₁,w₁,hq,harr⟩:=h b (.inScope c::k) cs hro hb hr;cases e with
 | normal=>exact⟨.normal,a₁,w₁,hq,.head h0 aDZ (StepsIn.trans harr (.one (fenced_calm hb hr rfl) aPV))⟩
 | exit id=>
  have hx:exitTo id (.inScope c::k)=exitTo id k:=by simp[exitTo]
  exact⟨.exit id,a₁,w₁,hq,λk' hk=>.head h0 aDZ (harr.1 k' (by rw[hx];exact hk)),
   λhr' hk=>let ⟨k₁,h1,h2⟩:=harr.2 hr' (by rw[hx];exact hk);⟨k₁,h1,.head h0 aDZ h2⟩⟩
 | goto l=>exact hq.elim
 | ret=>exact⟨_,a₁,w₁,hq,.of_steps (.one h0 aDZ) harr⟩
 | panic ch=>exact⟨_,a₁,w₁,hq,.of_steps (.one h0 aDZ) harr⟩
 | outgrown=>exact⟨_,a₁,w₁,hq,.of_steps (.one h0 aDZ) harr⟩
theorem aJ1.sound{N:Nat}{P:Program}{n:Nat}{D:List Deferred}{h0:PH}{w0:World}{g:Operand}{ps:Array Tmp}{assign body:Code}{Q:QH}{ρ:lI}{h:PH}{vs:List Nat}
  (H:aJ1 P n (ev ρ g) ps assign body (Q .normal ρ) (Q .ret ρ) ((aDb body).map λid=>(id,Q (.exit id) ρ)) (vs.map λt=>(t,ρ t)) h) {a:Act} {w:World} (hm:aAb n D ρ a) (hs:pJ h w) (hf:Fr h0 w0 h w) (hD:aB4 w0 D h w):
  (Code.rangeFunc g ps assign body).wpIn (aHQ none) N P (QW n Q h0 w0) a w:=by
 unfold aJ1 at H;split at H
 case h_2=>exact H.elim
 rename_i gf first captured hg
 obtain⟨he,H⟩:=H;refine wpIn_rangeFunc λfn _=>?_;have hs1:pJ h (w.alloc (.deferred (some []))):=λb o hb=>by
  have:=hs b o hb;show(w.heap.push _)[b]? =some o;rw[Array.getElem?_push,if_neg (Nat.ne_of_lt (hs.lt hb))];exact this
 have hf1:Fr h w h (w.alloc (.deferred (some []))):=⟨rfl,rfl,rfl,oM _,by rw[World.size_alloc];omega,λb hb _=>by
  show(w.heap.push _)[b]? =_;rw[Array.getElem?_push,if_neg (Nat.ne_of_lt hb)],λ_ _ hn=>hn⟩
 have hfr:h (w.alloc (.deferred (some []))).heap.size=none:=hs1.fresh;have hsz:(w.alloc (.deferred (some []))).heap.size=w.heap.size+1:=World.size_alloc _ _;have hc:=H fn a.tmps (w.alloc (.deferred (some []))).heap.size w.heap.size (λp hp=>by obtain⟨t,_,rfl⟩:=lO.1 hp;exact hm.slot t) hm.size hfr;have hn2:pJ (h.set (w.alloc (.deferred (some []))).heap.size (.loop {state:=.ready,pending:=none,fn,tmps:=a.tmps,params:=ps,assign,body,defers:=w.heap.size})) ((w.alloc (.deferred (some []))).alloc (.loop {state:=.ready,pending:=none,fn,tmps:=a.tmps,params:=ps,assign,body,defers:=w.heap.size}))∧Fr h (w.alloc (.deferred (some []))) (h.set (w.alloc (.deferred (some []))).heap.size (.loop {state:=.ready,pending:=none,fn,tmps:=a.tmps,params:=ps,assign,body,defers:=w.heap.size})) ((w.alloc (.deferred (some []))).alloc (.loop {state:=.ready,pending:=none,fn,tmps:=a.tmps,params:=ps,assign,body,defers:=w.heap.size})):=hs1.new (.loop {state:=.ready,pending:=none,fn,tmps:=a.tmps,params:=ps,assign,body,defers:=w.heap.size});have g3:((w.alloc (.deferred (some []))).alloc (.loop {state:=.ready,pending:=none,fn,tmps:=a.tmps,params:=ps,assign,body,defers:=w.heap.size})).heap[w.heap.size]? =some (.deferred (some [])):=by
  show((w.heap.push _).push _)[w.heap.size]? =_;rw[Array.getElem?_push,if_neg (by simp),Array.getElem?_push,if_pos rfl]
 have g4:w.heap.size<((w.alloc (.deferred (some []))).alloc (.loop {state:=.ready,pending:=none,fn,tmps:=a.tmps,params:=ps,assign,body,defers:=w.heap.size})).heap.size:=by rw[World.size_alloc,World.size_alloc];omega
 have hent:(Instr.enterLoop fn a.tmps ps assign body none).run P w= .ok (w.heap.size+1,[aJp w.heap.size]) ((w.alloc (.deferred (some []))).alloc (.loop {state:=.ready,pending:=none,fn,tmps:=a.tmps,params:=ps,assign,body,defers:=w.heap.size})):=run_enterLoop_outer _ _ _ _ _;rw[hsz] at hc hn2;generalize (w.alloc (.deferred (some []))).alloc (.loop {state:=.ready,pending:=none,fn,tmps:=a.tmps,params:=ps,assign,body,defers:=w.heap.size})=w1 at hn2 g3 g4 hent;have hcw:=hc.calls he _ hn2.1;have heg:∀(args:Array Value) (w:World),(callFunc gf args).run P w= .ok (.enter gf args) w:=λargs w=>
  cE.run (h:=λ_=>none) (aIH he) (λ_ _ hb=>by cases hb)
 have hev:a.eval g= .func (.func gf) first captured:=by rw[hm.ev];exact hg
 have g2:(h.set (w.heap.size+1) (.loop {state:=.ready,pending:=none,fn,tmps:=a.tmps,params:=ps,assign,body,defers:=w.heap.size})) w.heap.size=none:=by
  unfold PH.set;rw[if_neg (by omega)];exact hs.fresh
 refine⟨w.heap.size+1,[aJp w.heap.size],w1,{target:=.fn (.func gf) captured,args:=first ++ #[.func (.yield (w.heap.size+1)) #[] #[]]},w1,gf,first ++ #[.func (.yield (w.heap.size+1)) #[] #[]]++captured,w1,?_,?_,?_,?_,?_,?_⟩
 ·exact hent
 ·simp only[resolve,rangeCall,hev];simp[Deferred.ofValue,Act.eval]
 ·intro f' _;trivial
 ·unfold invoke;exact heg _ _
 ·intro h;cases h
 ·refine aKy (hcw.mono λe w' hh=>?_);obtain⟨v,h',rfl,hse,hs',hf'⟩:=hh;obtain⟨jump,w4,h4,hrun,hj,hs4,hf4⟩:=hse.sound hs';have hf2:=hf'.trans hf4;have hfall:Fr h w h4 w4:=(hf1.trans hn2.2).trans hf2;have hD':aB4 w0 (aJp w.heap.size::D) h4 w4:=by
   obtain⟨bs,b1,b2,b3⟩:=hD;refine⟨w.heap.size::bs,aKd.2 ⟨λhmem=>absurd (b3 _ hmem).2.1 (Nat.lt_irrefl _),b1⟩,by rw[b2];rfl,λb hb=>?_⟩;rcases gL.1 hb with rfl|hb
   ·exact⟨hf.size,aKh g4 hf2.size,hf2.none _ g4 g2,(hf2.far _ g4 g2).trans g3⟩
   ·obtain⟨c1,c2,c3,c4⟩:=b3 b hb;exact⟨c1,aKh c2 hfall.size,hfall.none b c2 c3,(hfall.far b c2 c3).trans c4⟩
  refine⟨jump,w4,hrun,?_⟩;have hm':aAb n (aJp w.heap.size::D) ρ {a with defers:=[aJp w.heap.size]++a.defers}:=⟨by simp[hm.defers],hm.size,hm.slot⟩;unfold aVf at hj;cases jump with
  | none=>exact⟨ρ,h4,_,hj,hm',hs4,hf.trans hfall,hD'⟩
  | some c=>
   cases c with
   | ret=>exact wpIn_ret ⟨ρ,h4,_,hj,hm',hs4,hf.trans hfall,hD'⟩
   | exit id=>
    obtain⟨p,hp,e1,e2⟩:=hj;obtain⟨id',_,rfl⟩:=lO.1 hp;subst e1;exact wpIn_exit ⟨ρ,h4,_,e2,hm',hs4,hf.trans hfall,hD'⟩
   | _=>exact hj.elim
theorem rB.sound{r:Option Nat}{N:Nat}{P:Program}{ann:kG}{n:Nat}(hmix:P.follows .mixedOrders=true){h0:PH}{w0:World}:∀(c:Code) {Q:QH} {ρ:lI} {h:PH},aBI P ann n c=true->(r=none∨uR c=true)->rB P ann c Q ρ h->
  ∀{D:List Deferred} {a:Act} {w:World},aAb n D ρ a->pJ h w->Fr h0 w0 h w->aB4 w0 D h w->c.wpIn (aHQ r) N P (QW n Q h0 w0) a w:=by
 intro c;induction c with
 | skip=>intro Q ρ h _ _ H D a w hm hs hf hD;exact wpIn_skip ⟨ρ,h,D,H,hm,hs,hf,hD⟩
 | region id ops d=>
  intro Q ρ h hb _ H D a w hm hs hf hD;cases d with
  | false=>
   refine wpIn_region ?_;rw[List.range_eq_range'];exact aX8 (λo ho=>Array.all_eq_true_iff_forall_mem.1 hb o ho) ops.size 0 ρ h a w (by omega) (by simpa[rB] using H) hm hs hf hD
  | true=>
   simp only[aBI,yB] at hb;exact aWX hmix (λo ho=>Array.all_eq_true_iff_forall_mem.1 hb.1 o ho) hb.2 H hm hs hf hD
 | seq x y ihx ihy=>
  intro Q ρ h hb hr H D a w hm hs hf hD;simp only[aBI,yB] at hb;have hr':(r=none∨uR x=true)∧(r=none∨uR y=true):=by simp only[uR,yB] at hr;rcases hr with e|⟨e1,e2⟩;exact⟨.inl e,.inl e⟩;exact⟨.inr e1,.inr e2⟩
  refine wpIn_seq (wpIn_mono (ihx hb.1 hr'.1 H hm hs hf hD) λe a' w' ⟨ρ',h',D',hq,hm',hs',hf',hD'⟩=>?_);cases e with
  | normal=>exact ihy hb.2 hr'.2 hq hm' hs' hf' hD'
  | _=>exact⟨ρ',h',D',hq,hm',hs',hf',hD'⟩
 | cond c x y ihx ihy=>
  intro Q ρ h hb hr H D a w hm hs hf hD;simp only[aBI,yB] at hb;have hr':(r=none∨uR x=true)∧(r=none∨uR y=true):=by simp only[uR,yB] at hr;rcases hr with e|⟨e1,e2⟩;exact⟨.inl e,.inl e⟩;exact⟨.inr e1,.inr e2⟩
  have he:a.eval c=ev ρ c:=by rw[hm.ev]
  unfold rB dI at H;split at H
  ·rename_i hv;exact wpIn_cond_true (he.trans hv) (ihx hb.1 hr'.1 H hm hs hf hD)
  ·rename_i hv;exact wpIn_cond_false (he.trans hv) (ihy hb.2 hr'.2 H hm hs hf hD)
  ·exact H.elim
 | block id c ih=>
  intro Q ρ h hb hr H D a w hm hs hf hD;refine wpIn_block (wpIn_mono (ih hb hr H hm hs hf hD) λe a' w' ⟨ρ',h',D',hq,hm',hs',hf',hD'⟩=>?_);cases e with
  | exit id'=>
   simp only[Exit.inBlock,aI1] at hq ⊢;split
   ·rename_i e;rw[if_pos e] at hq;exact⟨ρ',h',D',hq,hm',hs',hf',hD'⟩
   ·rename_i e;rw[if_neg e] at hq;exact⟨ρ',h',D',hq,hm',hs',hf',hD'⟩
  | _=>exact⟨ρ',h',D',hq,hm',hs',hf',hD'⟩
 | loop c ih=>
  intro Q ρ h hb hr H D a w hm hs hf hD;obtain⟨I,μ,hI,hround⟩:=H;generalize ann.keep (uH c)=keep at *;refine aQw (λm a w=>∃ρ h D,I (keep.map ρ) h∧μ (keep.map ρ) h=m∧aAb n D ρ a∧pJ h w∧Fr h0 w0 h w∧aB4 w0 D h w) (λm a w ⟨ρ,h,D,hI,hμ,hm,hs,hf,hD⟩=>?_) (n:=μ (keep.map ρ) h) ⟨ρ,h,D,hI,rfl,hm,hs,hf,hD⟩;refine wpIn_mono (ih hb hr (hround ρ h hI) hm hs hf hD) λe a' w' ⟨ρ',h',D',hq,hm',hs',hf',hD'⟩=>?_;cases e with
  | normal=>exact⟨_,hμ▸hq.2,ρ',h',D',hq.1,rfl,hm',hs',hf',hD'⟩
  | _=>exact⟨ρ',h',D',hq,hm',hs',hf',hD'⟩
 | exit id=>intro Q ρ h _ _ H D a w hm hs hf hD;exact wpIn_exit ⟨ρ,h,D,H,hm,hs,hf,hD⟩
 | scope c ih=>
  intro Q ρ h hb hr H D a w hm hs hf hD;refine aK1 (wpIn_mono (ih hb hr H hm hs hf hD) λe a' w' ⟨ρ',h',D',hq,hm',hs',hf',hD'⟩=>?_);cases e with
  | goto l=>exact hq
  | _=>exact⟨ρ',h',D',hq,hm',hs',hf',hD'⟩
 | label l=>intro Q ρ h _ _ H D a w hm hs hf hD;exact wpIn_label ⟨ρ,h,D,H,hm,hs,hf,hD⟩
 | ret=>intro Q ρ h _ _ H D a w hm hs hf hD;exact wpIn_ret ⟨ρ,h,D,H,hm,hs,hf,hD⟩
 | rangeFunc f ps x y ih1 ih2=>
  intro Q ρ h hb hr H D a w hm hs hf hD;rcases hr with rfl|hr
  ·simp only[aBI,beq_iff_eq] at hb;unfold rB at H;rw[hb] at H;exact aJ1.sound H hm hs hf hD
  ·cases hr
 | goto l=>intro Q ρ h _ _ H;exact H.elim
 | refuse s=>intro Q ρ h _ _ H;exact H.elim
def aX3(P:Program)(l:Nat)(kv:cD):QH
 | .normal,_,h=>cY P (Instr.endRound l none) h kv
 | .ret,_,h=>cY P (Instr.endRound l (some .ret)) h kv
 | .exit id,_,h=>cY P (Instr.endRound l (some (.exit id))) h kv
 | _,_,_=>False
def aS6(P:Program)(ann:kG)(l:Nat)(assign body:Code)(kv:cD)(ρ:lI)(h:PH):Prop:=
 rB P ann assign (λe ρ h=>match e with
  | .normal=>cY P (Instr.beginRound l) h λ_ h'=>rB P ann body (aX3 P l kv) ρ h'
  | _=>False) ρ h
theorem aS6.next{P:Program}(ann:kG)(hmix:P.follows .mixedOrders=true){l:Nat}{f:FuncId}{tmps:Array Value}{assign body:Code}{kv:cD}{h:PH}
  (hA:(aBI P ann tmps.size assign&&uR assign&&aBI P ann tmps.size body&&uR body)=true) (H:aS6 P ann l assign body kv (λt=>tmps.getD t undef) h):
  yN P (.round l f tmps assign body) h kv:=by
 simp only[yB] at hA;obtain⟨⟨⟨a1,a2⟩,a3⟩,a4⟩:=hA;intro w hs;refine roundIn_of_wpIn trivial (wpIn_mono (rB.sound (r:=some l) (D:=[]) hmix assign a1 (.inr a2) H ⟨rfl,rfl,λ_=>rfl⟩ hs (Fr.refl h w) (aB4.nil _ _ _)) λe a' w' ⟨ρ',h',D',hq,hm',hs',hf',hD'⟩=>?_);cases e with
 | normal=>
  obtain⟨u,w2,h2,hrun,hb,hs2,hf2⟩:=hq.sound hs';refine⟨w2,hrun,wpIn_mono (rB.sound (r:=some l) hmix body a3 (.inr a4) hb hm' hs2 (hf'.trans hf2) (hD'.step hf2)) λe a3 w3 ⟨ρ3,h3,D3,hq3,hm3,hs3,hf3,hD3⟩=>?_⟩;cases e with
  | normal=>obtain⟨v,w4,h4,hrun4,hk,hs4,hf4⟩:=cY.sound hq3 hs3;exact⟨v,w4,hrun4,v,h4,rfl,hk,hs4,hf3.trans hf4⟩
  | ret=>obtain⟨v,w4,h4,hrun4,hk,hs4,hf4⟩:=cY.sound hq3 hs3;exact⟨v,w4,hrun4,v,h4,rfl,hk,hs4,hf3.trans hf4⟩
  | exit id=>obtain⟨v,w4,h4,hrun4,hk,hs4,hf4⟩:=cY.sound hq3 hs3;exact⟨v,w4,hrun4,v,h4,rfl,hk,hs4,hf3.trans hf4⟩
  | _=>exact hq3.elim
 | _=>exact hq.elim
def aOT(P:Program)(ρ:lI)(h:PH):List ResultVar->(List Value->Prop)->Prop
 | [],k=>k []
 | .tmp t::rs,k=>aOT P ρ h rs λvs=>k (ρ t::vs)
 | .cell a t::rs,k=>dY (cE P h (loadAt t (ρ a))) λv=>aOT P ρ h rs λvs=>k (v::vs)
def aSW:List Value->Value
 | [v]=>v
 | vs=>.tuple vs.toArray
def aUC(P:Program)(fn:Func)(ρ:lI)(h:PH)(R:cD):Prop:=aOT P ρ h fn.results.toList λvs=>R (aSW vs) h
def aSk(tmps:Array Value):ResultVar->Sem Value
 | .tmp t=>pure (tmps.getD t undef)
 | .cell x t=>do loadVar t (←asAddr (tmps.getD x undef))
theorem aOT.run{P:Program}{ρ:lI}{h:PH}{n:Nat}{D:List Deferred}{a:Act}{w:World}(hm:aAb n D ρ a)(hs:pJ h w):∀(l:List ResultVar) {k:List Value->Prop},aOT P ρ h l k->
  ∃vs,k vs∧(l.mapM (m:=Sem) (aSk a.tmps)).run P w= .ok vs w:=by
 intro l;induction l with
 | nil=>intro k H;exact⟨[],H,rfl⟩
 | cons r rs ih=>
  intro k H;cases r with
  | tmp t=>
   obtain⟨vs,hk,hr⟩:=ih H;refine⟨_,hk,?_⟩;have h1:(aSk a.tmps (.tmp t)).run P w= .ok (ρ t) w:=by
    show(pure (a.tmps.getD t undef):Sem Value).run P w=_;rw[hm.slot];rfl
   rw[List.mapM_cons];simp only[Sem.run_bind,Sem.run_pure,Result.andThen_ok,h1,hr]
  | cell x t=>
   obtain⟨v,hv,H'⟩:=fN.1 H;obtain⟨vs,hk,hr⟩:=ih H';refine⟨_,hk,?_⟩;rw[List.mapM_cons];have h1:(aSk a.tmps (.cell x t)).run P w= .ok v w:=by
    have h2:=cE.run hv hs;show(do loadVar t (←asAddr (a.tmps.getD x undef)):Sem Value).run P w=_;rw[hm.slot];unfold loadAt Instr.sureAddr at h2;generalize ρ x=y at *;cases y with
    | pointer p=>cases p with
     | none=>exact absurd hv (by intro hc;cases hc)
     | some p=>exact h2
    | _=>exact absurd hv (by intro hc;cases hc)
   simp only[Sem.run_bind,Sem.run_pure,Result.andThen_ok,h1,hr]
theorem aTp{P:Program}{f:FuncId}{fn:Func}{c:Code}(ann:kG)(hmix:P.follows .mixedOrders=true)(hf:P.funcs[f]? =some fn)(hb:fn.body=some c)(hen:aEL P f=true)(hB:aBI P ann fn.ntmps c=true)
  {args:Array Value} (hargs:args.size≤fn.ntmps) {h:PH} {R:cD}
  (H:rB P ann c (λe ρ h=>match e with
   | .normal | .ret=>aUC P fn ρ h R
   | _=>False) (λt=>args.getD t undef) h):aT P f args h R:=by
 refine .inl ⟨hen,λw hs=>(callsIn_wide (n:=0)).1 (callsIn_of_wp_marks hf hb trivial ?_)⟩;have hm:aAb fn.ntmps [] (λt=>args.getD t undef) {tmps:=args++Array.replicate (fn.ntmps-args.size) undef,defers:=[]}:=by
  refine⟨rfl,by simp;omega,λt=>?_⟩;simp only[aKl,Array.getElem?_append,Array.getElem?_replicate];by_cases hlt:t<args.size
  ·simp[hlt]
  ·rw[if_neg hlt];have:args[t]? =none:=Array.getElem?_eq_none (by omega);rw[this];split<;>rfl
 refine wpIn_mono (rB.sound (r:=none) hmix c hB (.inl rfl) H hm hs (Fr.refl _ _) (aB4.nil w h w)) λe a' w' ⟨ρ',h',D',hq,hm',hs',hf',hD'⟩=>?_;have fin:∀(ds:List Deferred) (w':World),pJ h' w'->Fr h w h' w'->aB4 w ds h' w'->aUC P fn ρ' h' R->LeavesInM Fence.wide 0 P fn a'.tmps (λe w'=>∃v h',e= .returned v∧R v h'∧pJ h' w'∧Fr h w h' w') ds .returning w':=by
  intro ds;induction ds with
  | nil=>
   intro w' hs' hf' _ hr;obtain⟨vs,hk,hrun⟩:=aOT.run hm' hs' fn.results.toList hr;refine⟨aSW vs,?_,_,h',rfl,hk,hs',hf'⟩;show((do let vs ←fn.results.mapM (aSk a'.tmps);pure (if h:vs.size=1 then vs[0] else .tuple vs):Sem Value)).run P w'=_;rw[Array.mapM_eq_mapM_toList];simp only[Sem.run_bind,Sem.run_map,Result.andThen_ok,hrun];simp only[Sem.run_pure];congr 1;cases vs with
   | nil=>rfl
   | cons v vs=>cases vs with
    | nil=>rfl
    | cons u us=>simp[aSW]
  | cons d ds ih=>
   intro w' hs' hf' hD' hr;obtain⟨bs,b1,b2,b3⟩:=hD';cases bs with
   | nil=>cases b2
   | cons b bs=>
    simp only[iJ,kW] at b2;obtain⟨rfl,rfl⟩:=b2;obtain⟨c1,c2,c3,c4⟩:=b3 b aIc;obtain⟨hnot,b1⟩:=aKd.1 b1;have hne:∀i,i≠b->(w'.putObj b (.deferred none)).heap[i]? =w'.heap[i]?:=λi hi=>by
     simp[World.putObj,Array.getElem?_setIfInBounds,Ne.symm hi]
    have hsz:(w'.putObj b (.deferred none)).heap.size=w'.heap.size:=by simp[World.putObj]
    refine⟨(by intro e;cases e),.inl ⟨b,_,rfl,run_takeDeferred c4,ih _ (λi o hi=>?_) ⟨hf'.os,hf'.tape,hf'.output,hf'.drawn,by rw[hsz];exact hf'.size,λi hi hn=>?_,hf'.none⟩ ⟨bs,b1,rfl,λi hi=>?_⟩ hr⟩⟩
    ·rw[hne i (λe=>by subst e;rw[c3] at hi;cases hi)];exact hs' i o hi
    ·rw[hne i (λe=>by subst e;omega)];exact hf'.far i hi hn
    ·obtain⟨e1,e2,e3,e4⟩:=b3 i (aKr _ hi);exact⟨e1,by rw[hsz];exact e2,e3,by rw[hne i (λe=>by subst e;exact hnot hi)];exact e4⟩
 have hfin:=fin D' w' hs' hf' hD';rw[←hm'.defers] at hfin;cases e with
 | normal=>exact hfin hq
 | ret=>exact hfin hq
 | _=>exact hq.elim
def aHe(fn:Func):Code:=fn.body.getD .skip
def aXd(P:Program)(fn:Func)(R:cD):QH:=λe ρ h=>match e with
 | .normal | .ret=>aUC P fn ρ h R
 | _=>False
def eJ(h:PH)(k:PH->Prop):Prop:=k h
def yV(v:Value):Option Bool:=match v with
 | .bool b=>some b
 | _=>none
def aEV(v:Value):Sem Value:=match v with
 | .pointer none | .nilIface | .nilFunc=>.halt (.stuck "nil")
 | .func (.method _) _ _=>.halt (.stuck "method")
 | x=>pure x
def kB(op:BinOp)(t:TypeId)(x y:Operand)(a b:Value):Sem Value:=do eqGuard op t x y a b;binOp op t a b
def dJ(t:TypeId)(a x:Value):Sem Value:=do Instr.storeAt t a x;pure undef
def aHA(t:TypeId)(m k x:Value):Sem Value:=do Instr.mapUpdate t m k x;pure undef
def yP(P:Program)(f:Value)(args:Array Value)(h:PH)(kv:cD):Prop:=match f with
 | .func (.func f) first captured=>aT P f (first++args++captured) h kv
 | .func fn first captured=>cY P (invoke (.fn fn captured) (first++args)) h λn h'=>yN P n h' kv
 | _=>False
def dL(P:Program)(t:TypeId):Array Value:=match P.info? t with
 | some i=>match i.zero with
  | some v=>v.cells
  | none=>#[]
 | none=>#[]
def aYl(P:Program)(ann:kG)(ih:Code->QH->lI->PH->Prop)(c:Code)(Q:QH)(ρ:lI)(h:PH):Prop:=match c with
 | .skip=>Q .normal ρ h
 | .region _ ops false=>aSN P ops (Q .normal) ops.toList ρ h
 | .region id ops true=>aLd P ops (ann.b id) (Q .normal) [] (ann.ord id) ρ h
 | .seq x y=>ih x (aI7 (ih y Q) Q) ρ h
 | .cond c x y=>dI (ev ρ c) (ih x Q ρ h) (ih y Q ρ h)
 | .block id c=>ih c (aI1 id Q) ρ h
 | .loop c=>iM (ann.keep (uH c)) (λnext ρ h=>ih c (aI7 (λρ' h'=>next ((ann.keep (uH c)).map ρ') h') Q) ρ h) ((ann.keep (uH c)).map ρ) h
 | .exit id=>Q (.exit id) ρ h
 | .ret=>Q .ret ρ h
 | .label _=>Q .normal ρ h
 | .scope c=>ih c (aL0 Q) ρ h
 | .rangeFunc g ps assign body=>aJ1 P ann.n (ev ρ g) ps assign body (Q .normal ρ) (Q .ret ρ) ((aDb body).map λid=>(id,Q (.exit id) ρ)) ((ann.keep (uH body)).map λt=>(t,ρ t)) h
 | _=>False
noncomputable def aHU(P:Program)(ann:kG)(n:Nat):Code->QH->lI->PH->Prop:=Nat.rec (λ_ _ _ _=>False) (λ_ ih=>aYl P ann ih) n
def aAO:Code->Nat
 | .seq x y=>max (aAO x) (aAO y)+1
 | .cond _ x y=>max (aAO x) (aAO y)+1
 | .block _ c=>aAO c+1
 | .loop c=>aAO c+1
 | .scope c=>aAO c+1
 | _=>0
theorem aUD{P:Program}{ann:kG}:∀(c:Code) (n:Nat),aAO c<n->aHU P ann n c=rB P ann c:=by
 intro c;induction c with
 | skip=>intro n hn;obtain⟨m,rfl⟩:∃m,n=m+1:=⟨n-1,by omega⟩;rfl
 | region id ops d=>intro n hn;obtain⟨m,rfl⟩:∃m,n=m+1:=⟨n-1,by omega⟩;cases d<;>rfl
 | seq x y ihx ihy=>
  intro n hn;obtain⟨m,rfl⟩:∃m,n=m+1:=⟨n-1,by omega⟩;simp only[aAO] at hn;funext Q ρ h;show aHU P ann m x (aI7 (aHU P ann m y Q) Q) ρ h=rB P ann x (aI7 (rB P ann y Q) Q) ρ h;rw[ihx m (by omega),ihy m (by omega)]
 | cond c x y ihx ihy=>
  intro n hn;obtain⟨m,rfl⟩:∃m,n=m+1:=⟨n-1,by omega⟩;simp only[aAO] at hn;funext Q ρ h;show dI (ev ρ c) (aHU P ann m x Q ρ h) (aHU P ann m y Q ρ h)=dI (ev ρ c) (rB P ann x Q ρ h) (rB P ann y Q ρ h);rw[ihx m (by omega),ihy m (by omega)]
 | block id c ih=>
  intro n hn;obtain⟨m,rfl⟩:∃m,n=m+1:=⟨n-1,by omega⟩;simp only[aAO] at hn;funext Q ρ h;show aHU P ann m c (aI1 id Q) ρ h=rB P ann c (aI1 id Q) ρ h;rw[ih m (by omega)]
 | loop c ih=>
  intro n hn;obtain⟨m,rfl⟩:∃m,n=m+1:=⟨n-1,by omega⟩;simp only[aAO] at hn;funext Q ρ h;show iM (ann.keep (uH c)) (λnext ρ h=>aHU P ann m c (aI7 (λρ' h'=>next ((ann.keep (uH c)).map ρ') h') Q) ρ h) ((ann.keep (uH c)).map ρ) h=iM (ann.keep (uH c)) (λnext ρ h=>rB P ann c (aI7 (λρ' h'=>next ((ann.keep (uH c)).map ρ') h') Q) ρ h) ((ann.keep (uH c)).map ρ) h;rw[ih m (by omega)]
 | scope c ih=>
  intro n hn;obtain⟨m,rfl⟩:∃m,n=m+1:=⟨n-1,by omega⟩;simp only[aAO] at hn;funext Q ρ h;show aHU P ann m c (aL0 Q) ρ h=rB P ann c (aL0 Q) ρ h;rw[ih m (by omega)]
 | _=>intro n hn;obtain⟨m,rfl⟩:∃m,n=m+1:=⟨n-1,by omega⟩;rfl
theorem aTQ{P:Program}{f:FuncId}{fn:Func}(ann:kG)(n:Nat)(hmix:P.follows .mixedOrders=true)(hf:P.funcs[f]? =some fn)(hen:aEL P f=true)(hb:fn.body.isSome=true)(hd:decide (aAO (aHe fn)<n)=true)(hB:aBI P ann fn.ntmps (aHe fn)=true)
  {args:Array Value} (hargs:args.size≤fn.ntmps) {h:PH} {R:cD} {X:Prop}
  (he:aHU P ann n (aHe fn) (aXd P fn R) (λt=>args.getD t undef) h=X) (H:X):aT P f args h R:=by
 obtain⟨c,hc⟩:=Option.isSome_iff_exists.1 hb;have e:aHe fn=c:=by unfold aHe;rw[hc];rfl
 rw[aUD _ _ (by simpa using hd)] at he;rw[e] at hB he;rw[←he] at H;exact aTp ann hmix hf hc hen hB hargs H
theorem dM{h:PH}{r:Nat}{o:Obj}:(h.set r o) r=some o:=by simp[PH.set]
theorem pD{h:PH}{r b:Nat}{o:Obj}(hne:b≠r):(h.set r o) b=h b:=by simp[PH.set,hne]
theorem aPs{h:PH}{r b:Nat}{o:Obj}(hb:h b=some o)(hr:h r=none):b≠r:=by rintro rfl;rw[hr] at hb;cases hb
theorem aNx{h:PH}{r b:Nat}{o u:Obj}(hr:h r=none)(hb:h b=some u):(h.set r o) b=some u:=by rw[pD (aPs hb hr)];exact hb
def cU(F:List Nat)(h h':PH):Prop:=∀b o,h b=some o->b∉F->h' b=some o
theorem cU.refl{F:List Nat}{h:PH}:cU F h h:=λ_ _ hb _=>hb
theorem cU.trans{F:List Nat}{h h1 h2:PH}(a:cU F h h1)(b:cU F h1 h2):cU F h h2:=λx o hx hn=>b x o (a x o hx hn) hn
theorem cU.mono{F G:List Nat}{h h':PH}(a:cU F h h')(hs:∀b,b∈F->b∈G∨h b=none):cU G h h':=λx o hx hn=>a x o hx λhm=>by
 rcases hs x hm with h1|h1
 ·exact hn h1
 ·rw[hx] at h1;cases h1
theorem cU.then{F F':List Nat}{h h1 h2:PH}(a:cU F h h1)(b:cU F' h1 h2)(hs:∀b,b∈F'->b∈F∨h b=none):cU F h h2:=λx o hx hn=>
 b x o (a x o hx hn) λhm=>by
  rcases hs x hm with h1|h1
  ·exact hn h1
  ·rw[hx] at h1;cases h1
theorem cU.new{F:List Nat}{h:PH}{r:Nat}{o:Obj}(hr:h r=none):cU F h (h.set r o):=λ_ _ hb _=>aNx hr hb
theorem cU.set{F:List Nat}{h:PH}{r:Nat}{o:Obj}(hr:r∈F):cU F h (h.set r o):=λb u hb hn=>by
 rw[pD (by rintro rfl;exact hn hr)];exact hb
theorem cU.get{F:List Nat}{h h':PH}(a:cU F h h'){b:Nat}{o:Obj}(hb:h b=some o)(hn:b∉F):h' b=some o:=a b o hb hn
abbrev dD(h h':PH):Prop:=cU [] h h'
theorem dD.get{h h':PH}(a:dD h h'){b:Nat}{o:Obj}(hb:h b=some o):h' b=some o:=a b o hb (by simp)
theorem dD.upd{F:List Nat}{h h':PH}(a:dD h h'):cU F h h':=λb o hb _=>a b o hb (by simp)
theorem aLB{α:Type}{v:α}{k:α->Prop}:dY (some v) k=k v:=(rfl)
theorem cZ{h:PH}{k:PH->Prop}:eJ h k=k h:=(rfl)
theorem aNU{A B:Prop}:dI (.bool true) A B=A:=(rfl)
theorem aMS{A B:Prop}:dI (.bool false) A B=B:=(rfl)
theorem aNf{b:Bool}{A B:Prop}:dI (.bool b) A B=if b then A else B:=by cases b<;>rfl
theorem aRi{b:Bool}:yV (.bool b)=some b:=(rfl)
theorem aRN{X:(Value->PH->Prop)->Prop}{h:PH}{kv:cD}:nO (some true) true X h kv=X kv:=(rfl)
theorem aRC{X:(Value->PH->Prop)->Prop}{h:PH}{kv:cD}:nO (some false) false X h kv=X kv:=(rfl)
theorem aRg{X:(Value->PH->Prop)->Prop}{h:PH}{kv:cD}:nO (some true) false X h kv=kv undef h:=(rfl)
theorem aRe{X:(Value->PH->Prop)->Prop}{h:PH}{kv:cD}:nO (some false) true X h kv=kv undef h:=(rfl)
theorem aRK{a b:Value}:fH (.bool true) a b=some a:=(rfl)
theorem aRc{a b:Value}:fH (.bool false) a b=some b:=(rfl)
theorem aM6{c:Bool}{a b:Value}:fH (.bool c) a b=some (if c then a else b):=by cases c<;>rfl
section
variable{P:Program}{h:PH}
theorem aQe{a:Addr}:cV P (aEV (.pointer (some a)))=some (.pointer (some a)):=(rfl)
theorem mV{f:Fn}{x y:Array Value}:cV P (Instr.makeFunc f x y)=some (.func f x y):=(rfl)
theorem aPm{t:TypeId}{k:IntKind}{a b:Int}:cV P (binOp .add t (.int k a) (.int k b))=some (.int k (k.wrap (a+b))):=by simp[binOp,Op.intArith,cV,pure]
theorem aM9{t:TypeId}{k:IntKind}{a b:Int}:cV P (binOp .sub t (.int k a) (.int k b))=some (.int k (k.wrap (a-b))):=by simp[binOp,Op.intArith,cV,pure]
theorem aPg{t:TypeId}{k:IntKind}{a b:Int}:cV P (binOp .mul t (.int k a) (.int k b))=some (.int k (k.wrap (a*b))):=by simp[binOp,Op.intArith,cV,pure]
theorem aP9{t:TypeId}{k:IntKind}{a b:Int}:cV P (binOp .lss t (.int k a) (.int k b))=some (.bool (decide (a<b))):=by simp[binOp,Op.intCmp,cV,pure]
theorem aTC{t:TypeId}{k:IntKind}{a b:Int}:cV P (binOp .leq t (.int k a) (.int k b))=some (.bool (decide (a≤b))):=by simp[binOp,Op.intCmp,cV,pure]
theorem aQU{t:TypeId}{k:IntKind}{a b:Int}:cV P (binOp .gtr t (.int k a) (.int k b))=some (.bool (decide (b<a))):=by simp[binOp,Op.intCmp,cV,pure]
theorem aK3{t:TypeId}{k:IntKind}{a b:Int}:cV P (binOp .geq t (.int k a) (.int k b))=some (.bool (decide (b≤a))):=by simp[binOp,Op.intCmp,cV,pure]
theorem aLQ{t:TypeId}{k:IntKind}{a b:Int}(hb:b≠0):cV P (binOp .quo t (.int k a) (.int k b))=some (.int k (k.wrap (a.tdiv b))):=by simp[binOp,Op.intDiv,hb,cV,pure]
theorem aHn{t:TypeId}{k:IntKind}{a b:Int}(hb:b≠0):cV P (binOp .rem t (.int k a) (.int k b))=some (.int k (a.tmod b)):=by simp[binOp,Op.intDiv,hb,cV,pure]
theorem aQI{t:TypeId}{k k':IntKind}{a b:Int}(hb:0≤b):cV P (binOp .shl t (.int k a) (.int k' b))=some (.int k (k.wrap (a*2^(min b.toNat k.bits)))):=by
 have:¬b<0:=by omega
 simp[binOp,Op.shift,this,cV,pure]
theorem aIs{t:TypeId}{k k':IntKind}{a b:Int}(hb:0≤b):cV P (binOp .shr t (.int k a) (.int k' b))=some (.int k (a.fdiv (2^(min b.toNat k.bits)))):=by
 have:¬b<0:=by omega
 simp[binOp,Op.shift,this,cV,pure]
theorem aT2{b:Bool}:cV P (Op.unary .not (.bool b))=some (.bool (!b)):=(rfl)
theorem aRh{ts:Array TypeId}{t:TypeId}{k k':IntKind}{x y:Int}:cV P (Builtin.min_ ts t #[.int k x,.int k' y])=some (.int k (if y<x then y else x)):=(rfl)
theorem aNv{ts:Array TypeId}{t:TypeId}{k k':IntKind}{x y:Int}:cV P (Builtin.max_ ts t #[.int k x,.int k' y])=some (.int k (if x<y then y else x)):=by
 rfl
theorem aLh{a:Value}{l:List Value}:cV P (extract (.tuple ⟨a::l⟩) 0)=some a:=(rfl)
theorem aLb{a b:Value}{l:List Value}:cV P (extract (.tuple ⟨a::b::l⟩) 1)=some b:=(rfl)
theorem aOs{a b c:Value}{l:List Value}:cV P (extract (.tuple ⟨a::b::c::l⟩) 2)=some c:=(rfl)
theorem iA{t:TypeId}{x y:Operand}{k:IntKind}{a b:Int}:cE P h (kB .eql t x y (.int k a) (.int k b))=some (.bool (a==b)):=by
 simp[kB,eqGuard,binOp,Op.intCmp,cE,bind,Sem.bind,pure]
theorem kK{t:TypeId}{x y:Operand}{k:IntKind}{a b:Int}:cE P h (kB .neq t x y (.int k a) (.int k b))=some (.bool (a !=b)):=by
 simp[kB,eqGuard,binOp,Op.intCmp,cE,bind,Sem.bind,pure]
end
def aEx:TypeDesc->Bool
 | .struct _ | .array _ _=>false
 | _=>true
theorem lT(b o n:Nat):(⟨b,o,none⟩:Addr).add n=⟨b,o+n,none⟩:=by unfold Addr.add;split<;>simp_all
section
variable{P:Program}{h:PH}{t t' e:TypeId}
theorem kE{α:Type}{d:TypeDesc}(hu:P.underlying t=some d)(f:TypeDesc->Sem α):cE P h (underlying t >>= f)=cE P h (f d):=by
 show cE P h ((match P.underlying t with|some d=>pure d|none=>stuck _:Sem TypeDesc).bind f)=_;rw[hu];rfl
theorem vZ{α:Type}{d:TypeDesc}(hu:P.underlying t=some d)(f:TypeDesc->Sem α):cV P (underlying t >>= f)=cV P (f d):=by
 show cV P ((match P.underlying t with|some d=>pure d|none=>stuck _:Sem TypeDesc).bind f)=_;rw[hu];rfl
theorem pY{α:Type}{d:TypeDesc}{Q:α->PH->Prop}(hu:P.underlying t=some d)(f:TypeDesc->Sem α):cY P (underlying t >>= f) h Q=cY P (f d) h Q:=by
 show cY P ((match P.underlying t with|some d=>pure d|none=>stuck _:Sem TypeDesc).bind f) h Q=_;rw[hu];rfl
theorem aUi{α:Type}{d:TypeDesc}(hu:P.underlying t=some d)(f:TypeDesc->Sem α):jM P (underlying t >>= f)=jM P (f d):=by
 show jM P ((match P.underlying t with|some d=>pure d|none=>stuck _:Sem TypeDesc).bind f)=_;rw[hu];rfl
theorem aBJ{α:Type}{d:TypeInfo}(hu:P.info? t=some d)(f:TypeInfo->Sem α):cE P h (typeInfo t >>= f)=cE P h (f d):=by
 show cE P h ((match P.info? t with|some i=>pure i|none=>stuck _:Sem TypeInfo).bind f)=_;rw[hu];rfl
theorem aJG{α:Type}{d:TypeInfo}(hu:P.info? t=some d)(f:TypeInfo->Sem α):cV P (typeInfo t >>= f)=cV P (f d):=by
 show cV P ((match P.info? t with|some i=>pure i|none=>stuck _:Sem TypeInfo).bind f)=_;rw[hu];rfl
theorem mJ{α:Type}{d:TypeInfo}{Q:α->PH->Prop}(hu:P.info? t=some d)(f:TypeInfo->Sem α):cY P (typeInfo t >>= f) h Q=cY P (f d) h Q:=by
 show cY P ((match P.info? t with|some i=>pure i|none=>stuck _:Sem TypeInfo).bind f) h Q=_;rw[hu];rfl
theorem kQ{α:Type}(f:Nat->Sem α):(sizeOf t >>= f)=(typeInfo t >>= λi=>f i.size):=by
 show(sizeOf t).bind f=(typeInfo t).bind λi=>f i.size;unfold sizeOf;show((typeInfo t).bind λi=>Sem.pure i.size).bind f=_;rw[show ∀(s:Sem TypeInfo),(s.bind λi=>Sem.pure i.size).bind f=s.bind λi=>f i.size from λs=>by
  induction s with
  | pure a=>rfl
  | load m a k ih=>simp only[Sem.bind,ih]
  | store m a v k ih=>simp only[Sem.bind,ih]
  | new o k ih=>simp only[Sem.bind,ih]
  | shape r k ih=>simp only[Sem.bind,ih]
  | freeze a n k ih=>simp only[Sem.bind,ih]
  | frozen a k ih=>simp only[Sem.bind,ih]
  | getObj r k ih=>simp only[Sem.bind,ih]
  | setObj r o k ih=>simp only[Sem.bind,ih]
  | choose q k ih=>simp only[Sem.bind,ih]
  | sys c k ih=>simp only[Sem.bind,ih]
  | program k ih=>simp only[Sem.bind,ih]
  | mark m k ih=>simp only[Sem.bind,ih]
  | halt x=>rfl]
theorem aPI{a:Option Addr}{n c:Nat}(hu:P.underlying t=some (.slice e)):cV P (Builtin.len_ #[t] t' #[.slice a n c])=some (.int .i64 n):=by
 show cV P (underlying t >>= _)=_;rw[vZ hu];rfl
theorem lQ{s:ByteArray}(hu:P.underlying t=some .string):cV P (Builtin.len_ #[t] t' #[.string s])=some (.int .i64 s.size):=by
 show cV P (underlying t >>= _)=_;rw[vZ hu];rfl
theorem aWM{r:Nat}{es:Array MapEntry}{k v:TypeId}{c:Nat}(hu:P.underlying t=some (.map k v))(hr:h r=some (.map es c)):cE P h (Builtin.len_ #[t] t' #[.map (some r)])=some (.int .i64 es.size):=by
 show cE P h (underlying t >>= _)=_;rw[kE hu];show cE P h (getObj r >>= _)=_;simp[getObj,bind,Sem.bind,cE,hr,goInt,pure]
theorem aKX{α:Type}{d:TypeDesc}(hu:P.underlying t=some d)(f:Bool->Sem α):cE P h (isAgg t >>= f)=cE P h (f (!aEx d)):=by
 unfold isAgg;rw[bind_assoc,kE hu];cases d<;>rfl
theorem iL{d:TypeDesc}{a:Addr}(hu:P.underlying t=some d)(hd:aEx d=true):cE P h (loadAt t (.pointer (some a)))=dF h a:=by
 show cE P h (loadVar t a)=_;unfold loadVar;rw[aKX hu,hd];show(dF h a).bind (λv=>some v)=_;cases dF h a<;>rfl
theorem aK9{b o:Nat}{c:Array Value}{e:TypeId}{fr:Nat×Nat}(hb:h b=some (.cells c e fr)):∀(n i:Nat) (acc:Array Value),o+i+n≤c.size->
  cE P h (loadCellsFrom ⟨b,o,none⟩ i n acc)=some (acc++c.extract (o+i) (o+i+n)):=by
 intro n;induction n with
 | zero=>intro i acc _;simp[loadCellsFrom,cE,pure];omega
 | succ n ih=>
  intro i acc hle;show(dF h ((⟨b,o,none⟩:Addr).add i)).bind (λv=>cE P h (loadCellsFrom ⟨b,o,none⟩ (i+1) n (acc.push v)))=_;have hlt:o+i<c.size:=by omega
  have hc:dF h ((⟨b,o,none⟩:Addr).add i)=some c[o+i]:=by
   rw[lT];unfold dF;simp only[hb];simp[hlt]
  rw[hc,aC4,ih (i+1) _ (by omega)];congr 1;apply zLv;simp only[Array.toList_append,Array.toList_push,zLC,mR,zLw];congr 1;rw[show o+i+(n+1)-(o+i)=n+1 from by omega,show o+(i+1)+n-(o+(i+1))=n from by omega,aMf (l:=c.toList) (i:=o+i) (by simpa using hlt),zLc];rfl
theorem aJ5{b o n:Nat}{c:Array Value}{e:TypeId}{fr:Nat×Nat}(hb:h b=some (.cells c e fr))(hle:o+n≤c.size):cE P h (loadCells ⟨b,o,none⟩ n)=some (c.extract o (o+n)):=by
 have:=aK9 (P:=P) hb n 0 #[] hle;simpa[loadCells] using this
theorem jS{α β:Type}{s:Sem α}{f:α->Sem β}:cE P h (s >>= f)=(cE P h s).bind λa=>cE P h (f a):=by
 show cE P h (s.bind f)=_;induction s with
 | pure a=>rfl
 | load m a k ih=>simp only[Sem.bind,cE,ih,Option.bind_assoc]
 | shape r k ih=>simp only[Sem.bind,cE,ih,Option.bind_assoc]
 | frozen a k ih=>simp only[Sem.bind,cE,ih,Option.bind_assoc]
 | getObj r k ih=>
  simp only[Sem.bind,cE];cases h r with
  | none=>rfl
  | some o=>cases o<;>first|rfl|exact ih _
 | program k ih=>exact ih P
 | mark m k ih=>exact ih
 | _=>rfl
theorem pG{d:TypeDesc}{b o n:Nat}{c:Array Value}{e:TypeId}{fr:Nat×Nat}{i:TypeInfo}(hu:P.underlying t=some d)(hd:aEx d=false)(hi:P.info? t=some i)(hn:i.size=n)
  (hb:h b=some (.cells c e fr)) (hle:o+n≤c.size):cE P h (loadAt t (pT b o))=some (.agg (c.extract o (o+n))):=by
 show cE P h (loadVar t ⟨b,o,none⟩)=_;unfold loadVar;rw[aKX hu,hd];show cE P h (sizeOf t >>= λm=>loadCells ⟨b,o,none⟩ m >>= λcs=>(pure (Value.agg cs):Sem Value))=some (.agg (c.extract o (o+n)));rw[kQ,aBJ hi,hn,jS,aJ5 hb hle];rfl
theorem aHx{b o n len cap:Nat}{k:IntKind}{j:Int}{i:TypeInfo}(hu:P.underlying t=some (.slice e))(hi:P.info? e=some i)(hn:i.size=n)(h0:0≤j)(h1:j<len):
  cV P (indexAt t (.slice (some ⟨b,o,none⟩) len cap) (.int k j))=some (pT b (o+j.toNat*n)):=by
 show cV P (underlying t >>= _)=_;rw[vZ hu];show cV P (underlying t >>= _)=_;rw[vZ hu];simp only[h0,h1,and_self,if_true];rw[kQ,aJG hi,hn,lT];rfl
end
def Rows(size:Nat)(rows:List (List Value)):Prop:=∀r∈rows,r.length=size
theorem Rows.flat{size:Nat}:∀{rows:List (List Value)},Rows size rows->rows.flatten.length=rows.length*size
 | [],_=>by simp
 | r::rs,h=>by
  have h1:=h r (by simp);have h2:=Rows.flat (rows:=rs) λx hx=>h x (by simp[hx]);simp only[aJk,jR,uW,h1,h2,zLE,Nat.one_mul];omega
theorem Rows.at{size:Nat}:∀{rows:List (List Value)},Rows size rows->∀{i:Nat} {r:List Value},rows[i]? =some r->(rows.flatten.drop (i*size)).take size=r
 | [],_,i,r,hi=>by simp at hi
 | x::xs,h,i,r,hi=>by
  have h1:=h x (by simp);cases i with
  | zero=>
   simp only[pR,zL8] at hi;subst hi;simp[←h1]
  | succ i=>
   have h2:=Rows.at (rows:=xs) (λy hy=>h y (by simp[hy])) (i:=i) (r:=r) (by simpa using hi);rw[aJk,Nat.succ_mul,Nat.add_comm,←aIn,←h1,List.drop_left,h1];exact h2
theorem Rows.append{size:Nat}{a b:List (List Value)}(ha:Rows size a)(hb:Rows size b):Rows size (a++b):=λr hr=>by
 rcases jG.1 hr with h|h
 ·exact ha r h
 ·exact hb r h
theorem Rows.take{size:Nat}{a:List (List Value)}(ha:Rows size a)(n:Nat):Rows size (a.take n):=λr hr=>ha r (aJf hr)
theorem Rows.drop{size:Nat}{a:List (List Value)}(ha:Rows size a)(n:Nat):Rows size (a.drop n):=λr hr=>ha r (aLF hr)
theorem Rows.flat_take{size:Nat}:∀{rows:List (List Value)},Rows size rows->∀n,(rows.take n).flatten=rows.flatten.take (n*size)
 | [],_,n=>by simp
 | r::rs,h,0=>by simp
 | r::rs,h,n+1=>by
  have h1:=h r (by simp);have h2:=Rows.flat_take (rows:=rs) (λx hx=>h x (by simp[hx])) n;rw[zLc,aJk,aJk,h2,Nat.succ_mul,Nat.add_comm,←h1,List.take_length_add_append]
theorem Rows.flat_drop{size:Nat}:∀{rows:List (List Value)},Rows size rows->∀n,(rows.drop n).flatten=rows.flatten.drop (n*size)
 | [],_,n=>by simp
 | r::rs,h,0=>by simp
 | r::rs,h,n+1=>by
  have h1:=h r (by simp);have h2:=Rows.flat_drop (rows:=rs) (λx hx=>h x (by simp[hx])) n;rw[zLa,aJk,h2,Nat.succ_mul,Nat.add_comm,←h1,←aIn,List.drop_left]
def qN:Nat:=9223372036854775807
structure fR(h:PH)(size:Nat)(v:Value)(rows:List (List Value)):Prop where
 ok:Rows size rows
 here:∃a c,v= .slice a rows.length c∧rows.length≤c∧c≤qN∧(rows≠[]->∃b o cs e fr,a=some ⟨b,o,none⟩∧h b=some (.cells cs e fr)∧o+rows.length*size≤cs.size∧(cs.extract o (o+rows.length*size)).toList=rows.flatten)∧True
structure eD(h:PH)(e:TypeId)(size:Nat)(v:Value)(rows:List (List Value))(F:List Nat):Prop where
 ok:Rows size rows
 here:(v= .slice none 0 0∧rows=[]∧F=[])∨∃b cap cs,v= .slice (some ⟨b,0,none⟩) rows.length cap∧F=[b]∧h b=some (.cells cs e (0,0))∧rows.length≤cap∧cap≤qN∧cs.size=cap*size∧cs.toList.take (rows.length*size)=rows.flatten
theorem eD.nil{h:PH}{e:TypeId}{size:Nat}:eD h e size (.slice none 0 0) [] []:=⟨λ_ h=>(by cases h),.inl ⟨rfl,rfl,rfl⟩⟩
theorem eD.slR{h:PH}{e:TypeId}{size:Nat}{v:Value}{rows:List (List Value)}{F:List Nat}(H:eD h e size v rows F):fR h size v rows:=by
 refine⟨H.ok,?_⟩;rcases H.here with⟨rfl,rfl,_⟩|⟨b,cap,cs,rfl,_,hb,hle,hm,hs,ht⟩
 ·exact⟨none,0,rfl,by simp,by simp,λh=>absurd rfl h,trivial⟩
 ·have hmul:rows.length*size≤cap*size:=zLO _ hle;exact⟨_,cap,rfl,hle,hm,λ_=>⟨b,0,cs,e,(0,0),rfl,hb,by omega,by simpa[zLw] using ht⟩,trivial⟩
theorem eD.upd{h h':PH}{e:TypeId}{size:Nat}{v:Value}{rows:List (List Value)}{F G:List Nat}(H:eD h e size v rows F)(u:cU G h h')(hd:∀b∈F,b∉G):eD h' e size v rows F:=by
 refine⟨H.ok,?_⟩;rcases H.here with h1|⟨b,cap,cs,hv,hF,hb,hrest⟩
 ·exact .inl h1
 ·exact .inr ⟨b,cap,cs,hv,hF,u.get hb (hd b (by simp[hF])),hrest⟩
theorem eD.known{h:PH}{e:TypeId}{size:Nat}{v:Value}{rows:List (List Value)}{F:List Nat}(H:eD h e size v rows F):∀b∈F,h b≠none:=by
 intro b hb;rcases H.here with⟨_,_,rfl⟩|⟨b',cap,cs,_,rfl,hb',_⟩
 ·cases hb
 ·simp only[fU] at hb;subst hb;rw[hb'];simp
def aDF(v:Value)(G:List Nat):Prop:=∀a n c,v= .slice (some a) n c->a.block∈G
theorem fR.upd{h h':PH}{size:Nat}{v:Value}{rows:List (List Value)}{G:List Nat}(H:fR h size v rows)(u:cU G h h')(hd:∀a n c,v= .slice (some a) n c->a.block∉G):fR h' size v rows:=by
 refine⟨H.ok,?_⟩;obtain⟨a,c,hv,h1,h2,h3,h4⟩:=H.here;refine⟨a,c,hv,h1,h2,λhne=>?_,h4⟩;obtain⟨b,o,cs,e,fr,ha,hb,hrest⟩:=h3 hne;exact⟨b,o,cs,e,fr,ha,u.get hb (hd ⟨b,o,none⟩ _ _ (ha▸hv)),hrest⟩
theorem fR.ext{h h':PH}{size:Nat}{v:Value}{rows:List (List Value)}(H:fR h size v rows)(u:dD h h'):fR h' size v rows:=H.upd u (by simp)
section
variable{P:Program}{h:PH}{t t' e:TypeId}
theorem fR.len{size:Nat}{v:Value}{rows:List (List Value)}(H:fR h size v rows)(hu:P.underlying t=some (.slice e)):cV P (Builtin.len_ #[t] t' #[v])=some (.int .i64 rows.length):=by
 obtain⟨a,c,rfl,_⟩:=H.here;exact aPI hu
theorem fR.small{size:Nat}{v:Value}{rows:List (List Value)}(H:fR h size v rows):rows.length≤qN:=by
 obtain⟨a,c,_,h1,h2,_⟩:=H.here;omega
theorem fR.at{size:Nat}{v:Value}{rows:List (List Value)}(H:fR h size v rows){i:TypeInfo}(hu:P.underlying t=some (.slice e))(hi:P.info? e=some i)(hn:i.size=size){k:IntKind}{j:Int}{r:List Value}(h0:0≤j)(hr:rows[j.toNat]? =some r):
  ∃b o cs e' fr,cV P (indexAt t v (.int k j))=some (pT b o)∧h b=some (.cells cs e' fr)∧o+size≤cs.size∧(cs.extract o (o+size)).toList=r:=by
 have hlt:j.toNat<rows.length:=(zLz.1 hr).1;obtain⟨a,c,rfl,h1,h2,h3,_⟩:=H.here;obtain⟨b,o,cs,e',fr,rfl,hb,hle,hex⟩:=h3 (λh=>by rw[h] at hlt;simp at hlt);have hmul:(j.toNat+1)*size≤rows.length*size:=zLO _ hlt;rw[zLE,Nat.one_mul] at hmul;refine⟨b,o+j.toNat*size,cs,e',fr,aHx hu hi hn h0 (by omega),hb,by omega,?_⟩;have:=H.ok.at hr;rw[←hex] at this;rw[←this];simp only[zLC,zLw,zLx,aIn,List.take_take];rw[show o+j.toNat*size+size-(o+j.toNat*size)=size from by omega];congr 1;omega
theorem fR.loadAgg{size:Nat}{v:Value}{rows:List (List Value)}(H:fR h size v rows){d:TypeDesc}{i:TypeInfo}(hu:P.underlying t=some (.slice e))(hi:P.info? e=some i)(hn:i.size=size)(he:P.underlying e=some d)(hd:aEx d=false)
  {k:IntKind} {j:Int} {r:List Value} (h0:0≤j) (hr:rows[j.toNat]? =some r):
  ∃a,cV P (indexAt t v (.int k j))=some (.pointer (some a))∧cE P h (loadAt e (.pointer (some a)))=some (.agg r.toArray):=by
 obtain⟨b,o,cs,e',fr,h1,hb,hle,hex⟩:=H.at hu hi hn (k:=k) h0 hr;refine⟨_,h1,?_⟩;rw[pG he hd hi hn hb hle];congr 2;exact zLv hex
theorem fR.loadCell{v:Value}{rows:List (List Value)}(H:fR h 1 v rows){d:TypeDesc}{i:TypeInfo}(hu:P.underlying t=some (.slice e))(hi:P.info? e=some i)(hn:i.size=1)(he:P.underlying e=some d)(hd:aEx d=true)
  {k:IntKind} {j:Int} {x:Value} (h0:0≤j) (hr:rows[j.toNat]? =some [x]):
  ∃a,cV P (indexAt t v (.int k j))=some (.pointer (some a))∧cE P h (loadAt e (.pointer (some a)))=some x:=by
 obtain⟨b,o,cs,e',fr,h1,hb,hle,hex⟩:=H.at hu hi hn (k:=k) h0 hr;refine⟨_,h1,?_⟩;rw[iL he hd];unfold dF;simp only[hb];have hlt:o<cs.size:=by omega
 simp only[zLC,zLw,aMz] at hex;rw[aMf (by simpa using hlt)] at hex;simp only[zLc,List.take_zero,kW,and_true] at hex;simp[hlt];exact hex
end
def xO:Array Value->Nat->List Value->Array Value
 | c,_,[]=>c
 | c,o,v::vs=>xO (c.setIfInBounds o v) (o+1) vs
theorem aFK:∀(vs:List Value) (c:Array Value) (o:Nat),(xO c o vs).size=c.size
 | [],c,o=>rfl
 | v::vs,c,o=>by rw[xO,aFK vs];simp
theorem aBn:∀(vs:List Value) (c:Array Value) (o:Nat),o+vs.length≤c.size->(xO c o vs).toList=c.toList.take o++vs++c.toList.drop (o+vs.length)
 | [],c,o,_=>by simp[xO]
 | v::vs,c,o,h=>by
  simp only[uW] at h;rw[xO,aBn vs _ _ (by simp;omega)];have hlt:o<c.toList.length:=by simp;omega
  have hlt':o<c.size:=by omega
  simp only[Array.toList_setIfInBounds,uW];rw[List.set_eq_take_append_cons_drop,if_pos hlt];have h1:(c.toList.take o++v::c.toList.drop (o+1)).take (o+1)=c.toList.take o++[v]:=by
   rw[List.take_append,uX,aJm (by omega),aMz,mU (by simp;omega)];simp
  rw[h1];have:(c.toList.take o++v::c.toList.drop (o+1)).drop (o+1+vs.length)=c.toList.drop (o+(vs.length+1)):=by
   rw[List.drop_append,uX,aJm (by omega),aLt (by simp;omega),xZ,
    show o+1+vs.length-o=vs.length+1 from by omega,zLa,aIn]
   congr 1;omega
  rw[this];simp
section
variable{P:Program}{h:PH}{t t' t2 e:TypeId}
theorem uK{b o:Nat}{e:TypeId}{Q:Unit->PH->Prop}:∀(vs:List Value) (i:Nat) (h:PH) (c:Array Value),h b=some (.cells c e (0,0))->o+i+vs.length≤c.size->(∀v∈vs,eP v=true)->
  Q () (if vs=[] then h else h.set b (.cells (xO c (o+i) vs) e (0,0)))->cY P (storeCells ⟨b,o,none⟩ vs i) h Q
 | [],i,h,c,_,_,_,hq=>by
  show Q () h;simpa using hq
 | v::vs,i,h,c,hb,hle,hv,hq=>by
  simp only[uW] at hle;have hlt:o+i<c.size:=by omega
  have ha:(⟨b,o,none⟩:Addr).add i=⟨b,o+i,none⟩:=lT ..;show eP v=true∧uP h ((⟨b,o,none⟩:Addr).add i)=false∧(∃u,dF h ((⟨b,o,none⟩:Addr).add i)=some u)∧cY P (storeCells ⟨b,o,none⟩ vs (i+1)) (sE h ((⟨b,o,none⟩:Addr).add i) v) Q;rw[ha];refine⟨hv v (by simp),by simp[uP,hb],⟨c[o+i],by simp[dF,hb,hlt]⟩,?_⟩;have hset:sE h ⟨b,o+i,none⟩ v=h.set b (.cells (c.setIfInBounds (o+i) v) e (0,0)):=by
   funext x;unfold sE PH.set;by_cases hx:x=b
   ·subst hx;simp[hb]
   ·simp[hx]
  rw[hset];refine uK vs (i+1) _ _ dM (by simp;omega) (λu hu=>hv u (by simp[hu])) ?_;have h2:∀o1 o2:Obj,(h.set b o1).set b o2=h.set b o2:=λo1 o2=>by funext x;unfold PH.set;split<;>rfl
  simp only[List.cons_ne_nil,if_false] at hq;split
  ·rename_i hvs;subst hvs;simpa[xO] using hq
  ·rw[h2];simpa[xO,Nat.add_assoc] using hq
theorem aAX{h:PH}{b:Nat}{o1 o2:Obj}:(h.set b o1).set b o2=h.set b o2:=by funext x;unfold PH.set;split<;>rfl
theorem iT{d:TypeDesc}{b o:Nat}{c:Array Value}{v:Value}{k:cD}(hu:P.underlying t=some d)(hd:aEx d=true)(hb:h b=some (.cells c e (0,0)))(ho:o<c.size)(hv:eP v=true){i:TypeInfo}(hi:P.info? t=some i)(hn:i.size=1)
  (hk:k undef (h.set b (.cells (c.setIfInBounds o v) e (0,0)))):cY P (dJ t (pT b o) v) h k:=by
 have hc:v.cells= #[v]:=by cases v<;>first|rfl|cases hv
 show cY P (storeVar t ⟨b,o,none⟩ v >>= λ_=>pure undef) h k;unfold storeVar;rw[kQ,bind_assoc,mJ hi,hn,hc];simp only[List.size_toArray,uW,zLM,fJ,ne_eq,not_true_eq_false,if_false];refine cY.bind (P:=P) (s:=storeCells ⟨b,o,none⟩ [v]) ?_;refine uK [v] 0 h c hb (by simp;omega) (by simp[hv]) ?_;show k undef (if [v]=[] then h else _);simpa[xO] using hk
theorem aOh{b o:Nat}{c:Array Value}{cs:Array Value}{k:cD}(hb:h b=some (.cells c e (0,0))){i:TypeInfo}(hi:P.info? t=some i)(hn:i.size=cs.size)(h0:0<cs.size)(ho:o+cs.size≤c.size)(hv:∀v∈cs.toList,eP v=true)
  (hk:k undef (h.set b (.cells (xO c o cs.toList) e (0,0)))):cY P (dJ t (pT b o) (.agg cs)) h k:=by
 show cY P (storeVar t ⟨b,o,none⟩ (.agg cs) >>= λ_=>pure undef) h k;unfold storeVar;rw[kQ,bind_assoc,mJ hi,hn];simp only[Value.cells,ne_eq,not_true_eq_false,if_false];refine cY.bind (P:=P) (s:=storeCells ⟨b,o,none⟩ cs.toList) ?_;refine uK cs.toList 0 h c hb (by simpa using ho) hv ?_;have:cs.toList≠[]:=by intro h;simp at h;subst h;simp at h0
 show k undef (if cs.toList=[] then h else _);simpa[this] using hk
theorem aNW{c:Array Value}{vs:List Value}(h:vs.length=c.size):xO c 0 vs=vs.toArray:=by
 apply zLv;rw[aBn vs c 0 (by omega)];simp[h]
theorem aNN{a:Option Addr}{len cap l hh:Nat}{lo hi:Option Value}{i:TypeInfo}(hu:P.underlying t=some (.slice e))(hi':P.info? e=some i)
  (hlo:lo=none∧l=0∨∃k,lo=some (.int k l)) (hhi:hi=none∧hh=len∨∃k,hi=some (.int k hh)) (h1:l≤hh) (h2:hh≤cap):
  cV P (Instr.sliceAt t (.slice a len cap) lo hi none)=some (.slice (if cap=l then a else a.map (·.add (l*i.size))) (hh-l) (cap-l)):=by
 show cV P (underlying t >>= _)=_;rw[vZ hu];show cV P (underlying t >>= _)=_;rw[vZ hu];have hb:Instr.sliceBounds true len cap lo hi none=pure (l,hh,cap):=by
  have hcast:∀n m:Nat,n≤m->(0≤(n:Int)∧(n:Int)≤(m:Int)):=λn m h=>by omega
  rcases hlo with⟨rfl,rfl⟩|⟨k,rfl⟩<;>rcases hhi with⟨rfl,rfl⟩|⟨k',rfl⟩ <;>
   simp[Instr.sliceBounds,Instr.sliceBound,asIntOf,hcast,h1,h2]
 simp only[hb,pure_bind];rw[kQ,aJG hi'];rfl
theorem fR.first{size:Nat}{v:Value}{rows:List (List Value)}(S:fR h size v rows):cE P h (Builtin.firstCells size rows.length v)=some rows.flatten.toArray:=by
 obtain⟨a,c,rfl,h1,h2,h3,_⟩:=S.here;by_cases hr:rows=[]
 ·subst hr;cases a with
  | none=>rfl
  | some a=>simp[Builtin.firstCells,loadCells,loadCellsFrom,cE,pure]
 ·obtain⟨b,o,cs,e',fr,rfl,hb,hle,hex⟩:=h3 hr;show cE P h (loadCells ⟨b,o,none⟩ (rows.length*size))=_;rw[aJ5 hb hle];congr 1;exact zLv (by simpa using hex)
theorem iN{α β:Type}{s:Sem α}{f:α->Sem β}{a:α}{Q:β->PH->Prop}(hs:cE P h s=some a)(hq:cY P (f a) h Q):cY P (s >>= f) h Q:=
 cY.bind (P:=P) (s:=s) (f:=f) (cE.semH hs hq)
theorem zZ{α:Type}{q:Question}{f:Nat->Sem α}{Q:α->PH->Prop}:cY P (choose q >>= f) h Q= ∀t,cY P (f (if q.forced then 0 else q.cut t)) h Q:=rfl
theorem aGI{α:Type}{n:Nat}{f:Unit->Sem α}{Q:α->PH->Prop}:cY P (askRoom n >>= f) h Q=cY P (f ()) h Q:=by
 unfold askRoom;split<;>rfl
def aL8:Value->Nat
 | .slice _ _ c=>c
 | _=>0
theorem jF{size bytes:Nat}{v x:Value}{rows ys:List (List Value)}{F:List Nat}{i:TypeInfo}{z:Value}{e2:TypeId}{k:cD}
  (hu:P.underlying t=some (.slice e)) (hu2:P.underlying t2=some (.slice e2)) (hi:P.info? e=some i) (hn:i.size=size) (hby:i.bytes=bytes) (hz:i.zero=some z) (hzs:z.cells.size=size) (hb0:0<bytes)
  (H:eD h e size v rows F) (S:fR h size x ys) (hcell:∀r∈ys,∀u∈r,eP u=true) (hl:(rows.length+ys.length)*bytes≤140737488355328)
  (hk:∀v' h' F',eD h' e size v' (rows++ys) F'->cU F h h'->(∀b∈F',b∈F∨h b=none)->aL8 v≤aL8 v'->k v' h'):cY P (Builtin.append_ #[t,t2] t' #[v,x]) h k:=by
 have hbig:rows.length+ys.length≤140737488355328:=zLD (Nat.le_mul_of_pos_right _ hb0) hl;obtain⟨xa,xc,hx,hx1,hx2,hx3,hx4⟩:=S.here;have hfirst:=S.first (P:=P);have hrows:Rows size (rows++ys):=H.ok.append S.ok;have hflat:∀u∈ys.flatten,eP u=true:=λu hu=>by
  obtain⟨r,hr,hur⟩:=List.mem_flatten.1 hu;exact hcell r hr u hur
 -- a new block
 have grown:∀(m:Nat),rows.length+ys.length≤m->m≤qN->aL8 v≤m->∀r,h r=none->
   k (.slice (some ⟨r,0,none⟩) (rows.length+ys.length) m) (h.set r (.cells (rows.flatten.toArray++ys.flatten.toArray++Builtin.zeroCells z.cells (m-(rows.length+ys.length))) e (0,0))):=by
  intro m hm hmax hcapv r hr;refine hk _ _ [r] ⟨hrows,.inr ⟨r,m,_,by rw[jR],rfl,dM,by simpa using hm,hmax,?_,?_⟩⟩ (cU.new hr) (λb hb=>.inr (by simp at hb;subst hb;exact hr)) hcapv
  ·simp only[Array.size_append,List.size_toArray,H.ok.flat,S.ok.flat,Builtin.zeroCells,Array.size_map,Array.size_range,hzs];rw[←zLE,←zLE];congr 1;omega
  ·have hlen:(rows++ys).length*size=(rows.flatten++ys.flatten).length:=by rw[jR,jR,H.ok.flat,S.ok.flat,zLE]
   simp only[Array.toList_append,hlen,zLF];rw[zLG (oM _),zLI]
 obtain⟨va,vc,hv,hv1,hv2,_,_⟩:=H.slR.here;have hvfirst:=H.slR.first (P:=P);subst hx;subst hv;simp only[Builtin.append_,zLJ,pR,rY,pY hu,pY hu2,kQ,mJ hi,pure_bind,zLt,if_false,Builtin.lenOf,zLq,if_true,hn];by_cases hfit:rows.length+ys.length≤vc
 ·rw[if_pos hfit];refine iN hfirst ?_;rcases H.here with⟨hv',hr,hF⟩|⟨b,cap,cs,hv',hF,hb,hle,hcap,hcs,htake⟩
  ·subst hr;simp only[zLM,Value.slice.injEq,true_and] at hv';obtain⟨rfl,rfl⟩:=hv';have hy:ys=[]:=zLN (by omega);subst hy;exact hk _ _ [] (by simpa using eD.nil) cU.refl (by simp) (oM _)
  ·simp only[Value.slice.injEq,true_and] at hv';obtain⟨rfl,rfl⟩:=hv';have hmul:(rows.length+ys.length)*size≤vc*size:=zLO _ hfit;have hadd:(⟨b,0,none⟩:Addr).add (rows.length*size)=⟨b,0+rows.length*size,none⟩:=lT ..;show cY P (storeCells ((⟨b,0,none⟩:Addr).add (rows.length*size)) ys.flatten.toArray.toList >>= λ_=>pure _) h k;rw[hadd];refine cY.bind (P:=P) (s:=storeCells _ _) ?_;refine uK _ 0 h cs hb (by simp only[S.ok.flat,hcs];rw[zLE] at hmul;omega) (by simpa using hflat) ?_;show k _ _;simp only[fJ,Nat.add_zero];have fin:∀cs':Array Value,cs'.size=cs.size->cs'.toList.take ((rows.length+ys.length)*size)=rows.flatten++ys.flatten->∀h':PH,h' b=some (.cells cs' e (0,0))->cU F h h'->
     k (.slice (some ⟨b,0,none⟩) (rows.length+ys.length) vc) h':=by
    intro cs' hsz htk h' hb' hu';refine hk _ _ [b] ⟨hrows,.inr ⟨b,vc,cs',by rw[jR],rfl,hb',by simpa using hfit,hcap,by rw[hsz,hcs],by rw[jR,htk,zLF]⟩⟩ hu' (λb' hb'=>.inl (hF▸hb')) (oM _)
   split
   ·rename_i hys;refine fin cs rfl ?_ h hb cU.refl;have:ys.length*size=0:=by rw[←S.ok.flat,hys];rfl
    rw[zLE,this,hys,zLP,Nat.add_zero];exact htake
   ·refine fin _ (aFK _ _ _) ?_ _ dM (cU.set (by rw[hF];simp));have hlen:rows.length*size+ys.flatten.length≤cs.size:=by rw[S.ok.flat,←zLE,hcs];exact hmul
    rw[aBn _ _ _ hlen,htake];have hlen2:(rows.length+ys.length)*size=(rows.flatten++ys.flatten).length:=by rw[jR,H.ok.flat,S.ok.flat,zLE]
    rw[hlen2,zLG (oM _),zLI]
 ·rw[if_neg hfit];have hlt:vc<rows.length+ys.length:=by omega
  have h63:¬(((rows.length+ys.length:Nat):Int)>IntKind.i64.max∧(False∨i.bytes=0)):=by
   rintro⟨_,hh⟩;rcases hh with hh|hh
   ·exact hh
   ·omega
  have hfits:¬(Builtin.nextslicecap (rows.length+ys.length) vc*i.bytes>2^48):=by
   rw[hby];have:=growslice_fits hlt hl;omega
  rw[mJ hi,if_neg h63,mJ hi,if_neg hfits,zZ];intro tt;rw[mJ hi,aGI];refine iN hvfirst (iN hfirst ?_);have hzv:zeroValue e=(typeInfo e >>= λi=>match i.zero with|some v=>pure v|none=>unsupported (.resourceLimit "a value of more than 2^22 cells")):=rfl;rw[hzv,bind_assoc,mJ hi,hz,pure_bind];have hcut:∀n m:Nat,n≤140737488355328->n≤(Question.appendCap n m e).cut tt∧(Question.appendCap n m e).cut tt≤qN:=by
   intro n m hn;have hpos:0<2^63-n:=by omega
   have:=zLA tt hpos;simp only[Question.cut,qN];omega
  have hforced:(Question.appendCap (rows.length+ys.length) vc e).forced=false:=rfl;rw[hforced];obtain⟨hc1,hc2⟩:=hcut (rows.length+ys.length) vc hbig;intro r hr;exact grown _ hc1 hc2 (show vc≤_ by omega) r hr
theorem aSX{a:Addr}{n:Nat}:(a.add n).block=a.block:=by unfold Addr.add;split<;>rfl
theorem fR.cut{size:Nat}{v:Value}{rows:List (List Value)}(H:fR h size v rows){i:TypeInfo}(hu:P.underlying t=some (.slice e))(hi':P.info? e=some i)(hn:i.size=size){lo hi:Option Value}{l m:Nat}
  (hlo:lo=none∧l=0∨∃k,lo=some (.int k l)) (hhi:hi=none∧m=rows.length∨∃k,hi=some (.int k m)) (h1:l≤m) (h2:m≤rows.length):
  ∃v',cV P (Instr.sliceAt t v lo hi none)=some v'∧fR h size v' ((rows.take m).drop l)∧∀x n c,v'= .slice (some x) n c->∃x0 n0 c0,v= .slice (some x0) n0 c0∧x.block=x0.block:=by
 obtain⟨a,c,rfl,hc1,hc2,hc3,hc4⟩:=H.here;refine⟨_,aNN hu hi' hlo hhi h1 (by omega),⟨(H.ok.take m).drop l,?_⟩,?_⟩
 ·have hlen:((rows.take m).drop l).length=m-l:=by simp;omega
  refine⟨_,_,by rw[hlen],by omega,by omega,λhne=>?_,trivial⟩
  ·have hpos:0<m-l:=by rw[←hlen];exact aG2.2 hne
   have hne':rows≠[]:=λh=>by subst h;simp at hlen;omega
   obtain⟨b,o,cs,e',fr,rfl,hb,hle,hex⟩:=hc3 hne';have hm1:m*size≤rows.length*size:=zLO _ h2;have hm2:m*size=l*size+(m-l)*size:=by rw[←zLE];congr 1;omega
   refine⟨b,o+l*size,cs,e',fr,?_,hb,by rw[hlen];omega,?_⟩
   ·rw[if_neg (by omega),aH7,hn,lT]
   ·rw[hlen,(H.ok.take m).flat_drop,H.ok.flat_take,←hex];simp only[zLC,zLw];rw[List.take_take,aJm (by omega),zLx,aIn];congr 1;omega
 ·intro x n c' hv;simp only[Value.slice.injEq] at hv;have hx:=hv.1;split at hx
  ·exact⟨x,_,_,by rw[hx],rfl⟩
  ·obtain⟨y,hy,rfl⟩:=Option.map_eq_some_iff.1 hx;exact⟨y,_,_,by rw[hy],aSX⟩
end
section
variable{P:Program}{h:PH}{t t' t2 e:TypeId}
theorem xF{b:Nat}{c:Array Value}{cs:Array Value}{k:cD}(hb:h b=some (.cells c e (0,0))){i:TypeInfo}(hi:P.info? t=some i)(hn:i.size=cs.size)(h0:0<cs.size)(ho:c.size=cs.size)(hv:∀v∈cs.toList,eP v=true)
  (hk:k undef (h.set b (.cells cs e (0,0)))):cY P (dJ t (pT b 0) (.agg cs)) h k:=by
 refine aOh hb hi hn h0 (by omega) hv ?_;rw[aNW (by simp[ho])];simpa using hk
theorem aQG{x y:Operand}{a:Option Addr}{n c:Nat}(hu:P.underlying t=some (.slice e)):cE P h (kB .eql t x y (.slice a n c) (.slice none 0 0))=some (.bool a.isNone):=by
 show cE P h (binOp .eql t (.slice a n c) (.slice none 0 0))=_;show cE P h (Op.equalIn Op.maxDepth t (.slice a n c) (.slice none 0 0) >>= λb=>(pure (Value.bool b):Sem Value))=_;rw[show Op.maxDepth=9999+1 from rfl];rw[jS];have:cE P h (Op.equalIn (9999+1) t (.slice a n c) (.slice none 0 0))=some a.isNone:=by
  rw[Op.equalIn];rw[kE hu];cases a<;>rfl
 rw[this];rfl
theorem aHd{x y:Operand}{a:Option Addr}(hu:P.underlying t=some (.pointer e)):cE P h (kB .eql t x y (.pointer a) (.pointer none))=some (.bool a.isNone):=by
 show cE P h (binOp .eql t (.pointer a) (.pointer none))=_;have:cE P h (Op.equalIn (9999+1) t (.pointer a) (.pointer none))=some a.isNone:=by
  rw[Op.equalIn];rw[kE hu];cases a<;>rfl
 show cE P h (Op.equalIn Op.maxDepth t (.pointer a) (.pointer none) >>= λb=>(pure (Value.bool b):Sem Value))=_;rw[show Op.maxDepth=9999+1 from rfl,jS,this];rfl
theorem eD.mk'{b cap:Nat}{size:Nat}{rows:List (List Value)}{cs:Array Value}(hr:Rows size rows)(hb:h b=some (.cells cs e (0,0)))(hle:rows.length≤cap)(hm:cap≤qN)(hs:cs.size=cap*size)(ht:cs.toList.take (rows.length*size)=rows.flatten):
  eD h e size (.slice (some ⟨b,0,none⟩) rows.length cap) rows [b]:=⟨hr,.inr ⟨b,cap,cs,rfl,rfl,hb,hle,hm,hs,ht⟩⟩
theorem eD.lit{r n:Nat}{size:Nat}{rows:List (List Value)}{cs:Array Value}(hr:Rows size rows)(hb:h r=some (.cells cs e (0,0)))(hn:n=rows.length)(hm:n≤qN)(hcs:cs.toList=rows.flatten):eD h e size (.slice (some ⟨r,0,none⟩) n n) rows [r]:=by
 subst hn;have hsz:cs.size=rows.length*size:=by rw[←hr.flat,←hcs];simp
 refine eD.mk' hr hb (oM _) hm hsz ?_;rw[←hsz,hcs,mU];rw[←hcs];simp
theorem eD.write{size l:Nat}{v:Value}{rows ys:List (List Value)}{F:List Nat}(H:eD h e size v rows F)(hy:Rows size ys)(hle:l+ys.length≤rows.length){b n cap:Nat}{c:Array Value}(hv:v= .slice (some ⟨b,0,none⟩) n cap)(hb:h b=some (.cells c e (0,0))):
  eD (h.set b (.cells (xO c (l*size) ys.flatten) e (0,0))) e size v (rows.take l++ys++rows.drop (l+ys.length)) F:=by
 have hlen:(rows.take l++ys++rows.drop (l+ys.length)).length=rows.length:=by simp;omega
 refine⟨((H.ok.take l).append hy).append (H.ok.drop _),?_⟩;rcases H.here with⟨rfl,_,_⟩|⟨b',cap',cs,rfl,rfl,hb',h1,h2,h3,h4⟩
 ·cases hv
 ·simp only[Value.slice.injEq,zL8,Addr.mk.injEq,and_true] at hv;obtain⟨rfl,rfl,rfl⟩:=hv;rw[hb] at hb';cases hb';refine .inr ⟨b',cap',_,by rw[hlen],rfl,dM,by rw[hlen];exact h1,h2,by rw[aFK];exact h3,?_⟩;have m1:(l+ys.length)*size≤rows.length*size:=zLO _ hle;have m2:rows.length*size≤cap'*size:=zLO _ h1;rw[zLE] at m1;rw[hlen,aBn _ _ _ (by rw[hy.flat,h3];omega)];rw[zLF,zLF,H.ok.flat_take,H.ok.flat_drop,←h4,hy.flat];rw[List.take_take,aJm (by omega)];rw[List.take_append];have e1:(List.take (l*size) c.toList++ys.flatten).length=l*size+ys.length*size:=by
   rw[jR,hy.flat,uX,aJm (by simp[h3];omega)]
  rw[e1,mU (by omega),zLx,zLE]
theorem eD.storeCell{j:Nat}{v:Value}{rows:List (List Value)}{F:List Nat}(H:eD h e 1 v rows F){i:TypeInfo}{d:TypeDesc}(hu:P.underlying t=some (.slice e))(hi:P.info? e=some i)(hn:i.size=1)(he:P.underlying e=some d)(hd:aEx d=true){k:IntKind}(hj:j<rows.length)
  {x:Value} (hc:eP x=true):
  ∃a,cV P (indexAt t v (.int k j))=some (.pointer (some a))∧∀K:Value->PH->Prop,(∀h',eD h' e 1 v (rows.take j++[[x]]++rows.drop (j+1)) F->cU F h h'->K undef h')->cY P (dJ e (.pointer (some a)) x) h K:=by
 rcases H.here with⟨rfl,rfl,_⟩|⟨b,cap,cs,rfl,rfl,hb,h1,h2,h3,h4⟩
 ·simp at hj
 ·refine⟨_,aHx hu hi hn (by omega) (by omega),λK hK=>?_⟩;have hw:=H.write (l:=j) (ys:=[[x]]) (by intro r hr;simp at hr;subst hr;rfl) (by simp only[uW,zLM];omega) rfl hb;have e1:(0+(j:Int).toNat*1)=j:=by simp
  rw[e1];refine iT he hd hb (by rw[h3];omega) hc hi hn ?_;have e2:([[x]]:List (List Value)).flatten=[x]:=by simp
  rw[e2,zL7] at hw;exact hK _ hw (cU.set (by simp))
end
end Go.Proofs.YtppgkeodaejgcaaGreatDoor
namespace Go.Proofs.YtppgkeodaejgcaaGreatDoor
open Go Go.RowKit Go.ChangeShapes
def aJt(W:World):PH:=λb=>W.heap[b]?
theorem aSK(W:World):pJ (aJt W) W:=λ_ _ h=>h
structure aJg(W W':World):Prop where
 os:W'.os=W.os
 output:W'.output=W.output
 heap:∀b,b<W.heap.size->W'.heap[b]? =W.heap[b]?
theorem aSQ{P:Program}{f:FuncId}{args:Array Value}{W:World}(H:aT P f args (aJt W) λv h'=>v= .bool true∧dD (aJt W) h')(he:aEL P f=true:=by kernel_rfl):
  Calls P f args W λe w'=>e= .returned (.bool true)∧aJg W w':=by
 refine(H.calls he W (aSK W)).mono ?_;rintro e w' ⟨v,h',rfl,⟨rfl,hx⟩,hs,hf⟩;refine⟨rfl,hf.os,hf.output,λb hb=>?_⟩;cases e:W.heap[b]? with
 | none=>simp at e;omega
 | some o=>exact hs b o (hx.get e)
theorem aJg.cell{W W':World}(K:aJg W W')(a:Addr)(h:a.block<W.heap.size):W'.cell? a=W.cell? a:=by
 unfold World.cell?;rw[K.heap _ h]
theorem aJg.frozen{W W':World}(K:aJg W W')(a:Addr)(h:a.block<W.heap.size):W'.frozen? a=W.frozen? a:=by
 unfold World.frozen?;rw[K.heap _ h]
theorem aJg.sameAt{W W':World}(K:aJg W W')(p:MemPlace)(h:p.block<W.heap.size):W.sameAt W' p:=by
 cases p with
 | cell b off=>exact K.cell _ h
 | map b=>exact K.heap _ h
theorem aJg.but{W W':World}(K:aJg W W')(may:MemPlace->Prop):W.keptBut W' may:=by
 refine⟨K.os,K.output,λi hi=>?_⟩;rw[K.heap i hi];cases W.heap[i]? with
 | none=>rfl
 | some o=>
  cases o with
  | cells c t fr=>exact⟨rfl,rfl,rfl,λ_ _=>rfl⟩
  | map es clock=>exact .inr ⟨rfl,rfl⟩
  | _=>rfl
theorem aKs{H:Type}{enc:TypeId×Value->H}{P:Program}{w w':World}{base:Nat}{spare:Nat->Bool}{held:Bool}:∀{ts:List TypeId} {vs:List Value} {ds:List (DataW H)} {ps:List MemPlace},
  DataW.TrodAll enc P w base spare held ts vs ds ps->(∀p∈ps,w.sameAt w' p)->DataW.TrodAll enc P w' base spare held ts vs ds ps
 | [],[],[],_,h,_=>h
 | _::_,_::_,_::_,_,⟨p,q,⟨n,h1⟩,h2,e⟩,hs=>⟨p,q,⟨n,DataW.trod_carry n _ _ _ h1 λx hx=>hs x (by rw[e];exact zLk _ hx)⟩,aKs h2 (λx hx=>hs x (by rw[e];exact zLl _ hx)),e⟩
theorem aP4{H:Type}{enc:TypeId×Value->H}{P:Program}{f:Func}{s:ChangeSpec}{apart fresh handsOn again:Bool}{W W':World}{args:Array Value}{ds gs:List (DataW H)}{before:List MemPlace}
  {T:TypeId->Prop} (KP:Kids P T) (full:∀t e,T t->P.underlying t=some (.slice e)->0<P.cellsOf e) (hT:∀t∈f.params.toList,T t) {tb:TypeId} (hb:P.underlying tb=some .bool) (hr:f.resultTypes= #[tb])
  (hs:s.vars=[]) (hW:DataW.Whole enc P f.params.toList s.vars apart W args.toList ds gs before) (hK:aJg W W')
  (e1:(s.fn H (ds++gs)).results=[.lit (.bool true)]) (e2:(s.fn H (ds++gs)).args=ds) (e3:(s.fn H (ds++gs)).vars=[]):
  s.post enc P f apart fresh handsOn again W args (.bool true) W':=by
 have hlt:=λp hp=>hW.lt p hp;have hW':=hW;obtain⟨pa,pv,hA,hV,rfl,hz,hn⟩:=hW';rw[hs] at hV;obtain⟨rfl,rfl⟩:=trodVars_none hV;simp only[zLP] at *;have hargs:∀sp:Nat->Bool,(∀p∈pa,sp p.block=true)->DataW.TrodAll enc P W' 0 sp true f.params.toList args.toList ds pa:=λsp hsp=>
  aKs (DataW.TrodAll.respare KP full hT hA hsp) λp hp=>hK.sameAt p (hlt p hp)
 have hres:∀(b:Nat) (sp:Nat->Bool) (hd:Bool),DataW.TrodAll enc P W' b sp hd f.resultTypes.toList ((Value.bool true).resultList f.resultTypes.size) (s.fn H ds).results []:=λb sp hd=>by
  rw[e1,hr];exact trodAll_cons_mk (shut_bool hb _) trodAll_mk0
 have hvars:∀sp:Nat->Bool,DataW.TrodVars enc P W' sp s.vars (s.fn H ds).vars []:=λsp=>by rw[e3,hs];rfl
 have hold:∀p∈pa,(λb=>decide (b<W.heap.size)) p.block=true:=λp hp=>by simpa using hlt p hp
 refine⟨ds,[],pa,[],pa,[],hW,by simpa using hres _ _ _,by simpa[e2] using hargs _ hold,by simpa using hvars _,World.keptBut_mono (λp hp=>⟨hp,by simp[hp]⟩) (hK.but (· ∈pa)),λ_=>?_⟩;refine⟨ok_one hr rfl (okWide_bool_mk hb _),_,_,([]++pa)++[],⟨[]++pa,[],trodAll_append (hargs _ (λ_ _=>rfl)) (hres _ _ _),hvars _,rfl,?_,?_⟩,?_⟩
 ·intro b off hp;have hp':MemPlace.cell b off∈pa:=by simpa using hp
  rw[hK.frozen ⟨b,off,none⟩ (hlt _ hp')];exact hz b off hp'
 ·intro ha;simpa using hn ha
 ·intro p hp _;simpa using hp
variable{H:Type}{enc:TypeId×Value->H}{P:Program}{w:World}{spare:Nat->Bool}{held:Bool}
def Rd(enc:TypeId×Value->H)(P:Program)(w:World)(spare:Nat->Bool)(held:Bool)(t:TypeId)(cs:List Value):Prop:=∃n x,DataW.trod enc P w 0 spare held n t cs=some x
theorem aGD{t:TypeId}{k:IntKind}{cs:List Value}(ht:P.underlying t=some (.int k))(h:Rd enc P w spare held t cs):∃n,cs=[.int k n]∧(Lit.int k n).wf=true:=by
 obtain⟨n,x,h⟩:=h;obtain⟨i,rfl,_,hw⟩:=DataW.trod_int ht h;exact⟨i,rfl,hw⟩
theorem aWx{t:TypeId}{cs:List Value}(ht:P.underlying t=some .bool)(h:Rd enc P w spare held t cs):∃b,cs=[.bool b]:=by
 obtain⟨n,x,h⟩:=h;obtain⟨i,rfl,_⟩:=DataW.trod_bool ht h;exact⟨i,rfl⟩
theorem aOV{t:TypeId}{cs:List Value}(ht:P.underlying t=some .string)(h:Rd enc P w spare held t cs):∃s:ByteArray,cs=[.string s]∧s.size≤maxLen:=by
 obtain⟨n,x,h⟩:=h;obtain⟨i,rfl,_,hw⟩:=DataW.trod_string ht h;exact⟨i,rfl,hw⟩
theorem aK7{t:TypeId}{fs:Array Field}{cs:List Value}(ht:P.underlying t=some (.struct fs))(h:Rd enc P w spare held t cs):
  cs.length=P.cellsOf t∧∀(i:Nat) (f:Field),fs[i]? =some f->Rd enc P w spare held f.type ((cs.drop f.offset).take (P.cellsOf f.type)):=by
 obtain⟨n,x,h⟩:=h;obtain⟨xs,m,rfl,_,hl,hx,hf⟩:=DataW.trod_struct ht h;refine⟨hl,λi f hi=>?_⟩;have h1:=hf i f hi;have hlt:i<xs.length:=by rw[hx];exact(aI4.1 hi).1
 rw[lU hlt] at h1;exact⟨m,_,h1⟩
theorem aUJ{t e:TypeId}{n:Nat}{cs:List Value}(ht:P.underlying t=some (.array n e))(h:Rd enc P w spare held t cs):
  cs.length=P.cellsOf t∧∀i,i<n->Rd enc P w spare held e ((cs.drop (i*P.cellsOf e)).take (P.cellsOf e)):=by
 obtain⟨m,x,h⟩:=h;cases m with
 | zero=>simp[DataW.trod] at h
 | succ m=>
  unfold DataW.trod at h;rw[ht] at h;split at h<;>simp_all;obtain⟨hl,xs,hp,hd⟩:=h;intro i hi;have:=mapM_some_get hp i i (by simp[hi]);have hlt:i<xs.length:=by have:=mapM_some_length hp;simp at this;omega
  rw[lU hlt] at this;exact⟨m,_,this⟩
theorem aO5{w:World}{a:Addr}{v:Value}(h:w.cell? a=some v):∃c t fr,w.heap[a.block]? =some (.cells c t fr)∧a.spot=none∧c[a.off]? =some v:=by
 unfold World.cell? at h;split at h
 ·rename_i c t fr e;cases hs:a.spot with
  | none=>rw[hs] at h;exact⟨c,t,fr,e,rfl,by simpa using h⟩
  | some b=>rw[hs] at h;simp at h
 ·cases h
theorem aTL{a:Addr}(h:a.spot=none)(n:Nat):a.add n=⟨a.block,a.off+n,none⟩:=by
 obtain⟨b,o,s⟩:=a;simp only at h;subst h;exact lT b o n
theorem aT8{t e:TypeId}{cs:List Value}(ht:P.underlying t=some (.slice e))(hpos:0<P.cellsOf e)(h:Rd enc P w spare held t cs):
  ∃v rows,cs=[v]∧fR (aJt w) (P.cellsOf e) v rows∧∀r∈rows,Rd enc P w spare held e r:=by
 obtain⟨n,x,h⟩:=h;rcases Go.Deep.open_slice ht h with⟨rfl,_⟩|⟨a,len,cap,m,k,D,Pl,rfl,hb,hl,hm,hmm,rfl,hx⟩
 ·exact⟨_,[],rfl,eD.nil (e:=e).slR,by simp⟩
 have hlm:len≤m:=by rw[hmm];split<;>omega
 obtain⟨R,hR⟩:=Go.Deep.choose_lt (α:=List Value) (n:=len) (p:=λi r=>w.cells? 0 (a.add (i*P.cellsOf e)) (P.cellsOf e)=some r∧Rd enc P w spare held e r) (λi hi=>by
  obtain⟨r,h1,h2⟩:=hx i (by omega);exact⟨r,h1,k,_,h2⟩)
 have hrows:Rows (P.cellsOf e) ((List.range len).map R):=λr hr=>by
  obtain⟨i,hi,rfl⟩:=lO.1 hr;exact(World.cells?_some (hR i (aKB.1 hi)).1).2.1
 refine⟨_,(List.range len).map R,rfl,⟨hrows,some a,cap,by simp,by simpa using hl,hm,λhne=>?_,trivial⟩,λr hr=>?_⟩
 ·have hlen:0<len:=by
   rcases Nat.eq_zero_or_pos len with h0|h0
   ·subst h0;simp at hne
   ·exact h0
  have cell:∀i j,i<len->j<P.cellsOf e->w.cell? (a.add (i*P.cellsOf e+j))=(R i)[j]?:=λi j hi hj=>by
   rw[←Go.Deep.add_add];exact(World.cells?_some (hR i hi).1).2.2 j hj
  have hRl:∀i,i<len->(R i).length=P.cellsOf e:=λi hi=>(World.cells?_some (hR i hi).1).2.1;have c0:=cell 0 0 hlen hpos;rw[Nat.zero_mul,fJ,show a.add 0=a by simp[Addr.add],lU (by rw[hRl 0 hlen];exact hpos)] at c0;obtain⟨c,tt,fr,hh,hs,_⟩:=aO5 c0;have at_:∀i j,i<len->j<P.cellsOf e->c[a.off+(i*P.cellsOf e+j)]? =(R i)[j]?:=λi j hi hj=>by
   have h1:=cell i j hi hj;rw[aTL hs] at h1;have hj':j<(R i).length:=by rw[hRl i hi];exact hj
   rw[lU hj'] at h1 ⊢;obtain⟨c',_,_,hh',_,h2⟩:=aO5 h1;simp only[hh,zL8,Obj.cells.injEq] at hh';rw[←hh'.1] at h2;exact h2
  have hle:a.off+len*P.cellsOf e≤c.size:=by
   have h1:=at_ (len-1) (P.cellsOf e-1) (by omega) (by omega);have hj':P.cellsOf e-1<(R (len-1)).length:=by rw[hRl _ (by omega)];omega
   rw[lU hj'] at h1;have h2:=(aI4.1 h1).1;have h3:(len-1)*P.cellsOf e+P.cellsOf e=len*P.cellsOf e:=by rw[←Nat.succ_mul];congr 1;omega
   omega
  refine⟨a.block,a.off,c,tt,fr,by rw[←hs],hh,by simpa using hle,?_⟩;have hfl:=hrows.flat;simp only[iU,List.length_range] at hfl;apply List.ext_getElem?;intro q;by_cases hq:q<len*P.cellsOf e
  ·have hq1:q/P.cellsOf e<len:=Nat.div_lt_of_lt_mul (by rw[zLR];exact hq);have hq2:=zLA q hpos;have hq3:q/P.cellsOf e*P.cellsOf e+q%P.cellsOf e=q:=by rw[zLR];exact Nat.div_add_mod _ _
   have h1:=at_ _ _ hq1 hq2;rw[hq3] at h1;have h2:=hrows.at (i:=q/P.cellsOf e) (r:=R (q/P.cellsOf e)) (by simp[hq1]);have h3:((List.range len).map R).flatten[q]? =(R (q/P.cellsOf e))[q%P.cellsOf e]?:=by
    rw[←h2,List.getElem?_take_of_lt hq2,aK2,hq3]
   rw[h3,←h1,aKq,Array.getElem?_extract];simp only[iU,List.length_range];rw[if_pos (by omega)]
  ·rw[List.getElem?_eq_none (by rw[Array.length_toList,Array.size_extract];simp;omega),List.getElem?_eq_none (by omega)]
 ·obtain⟨i,hi,rfl⟩:=lO.1 hr;exact(hR i (aKB.1 hi)).2
theorem aRo{r:Reach}{base:Nat}{t e:TypeId}{v:Value}{d:DataW H}{p:List MemPlace}(ht:P.underlying t=some (.slice e))(hpos:0<P.cellsOf e)(hval:Value.okWide P w r base t v)(hd:DataW.Trod enc P w 0 spare held t v d p):
  ∃rows,fR (aJt w) (P.cellsOf e) v rows∧∀r∈rows,Rd enc P w spare held e r:=by
 obtain⟨a,n,c,rfl⟩:=Go.WideShapes.okWide_slice ht hval;obtain⟨k,hk⟩:=hd;obtain⟨v,rows,h1,h2,h3⟩:=aT8 ht hpos ⟨k,_,hk⟩;obtain rfl:Value.slice a n c=v:=by simpa[Value.cells] using h1
 exact⟨rows,h2,h3⟩
end Go.Proofs.YtppgkeodaejgcaaGreatDoor
namespace Go.Proofs.YtppgkeodaejgcaaGreatDoor
open Go Go.RowKit Go.ChangeShapes
mutual
def aMF{H:Type}:DataW H->List Value
 | .lit (.int k n)=>[.int k n]
 | .agg jE=>aLW jE
 | _=>[]
def aLW{H:Type}:List (DataW H)->List Value
 | []=>[]
 | d::r=>aMF d++aLW r
end
def aLp(P:Program):Nat->TypeId->Bool
 | 0,_=>false
 | n+1,t=>match P.underlying t with
  | some (.int _)=>true
  | some (.array len e)=>aLp P n e&&P.cellsOf t==len*P.cellsOf e
  | _=>false
theorem aJ3{H:Type}(c:Nat):∀(xs:List (DataW H×List MemPlace)) (cs:List Value),cs.length=xs.length*c->(∀i x,xs[i]? =some x->((cs.drop (i*c)).take c)=aMF x.1)->cs=aLW (xs.map (·.1))
 | [],cs,hl,_=>by
  have:cs=[]:=zLN (by simpa using hl);simp[this,aLW]
 | x::xs,cs,hl,h=>by
  have h0:=h 0 x rfl;simp only[Nat.zero_mul,zLb] at h0;rw[uW,zLE,Nat.one_mul] at hl;have ih:=aJ3 c xs (cs.drop c) (by rw[xD];omega) λi y hy=>by
   have:=h (i+1) y (by simpa using hy);rw[zLE,Nat.one_mul] at this;rw[aIn,Nat.add_comm c,this]
  rw[iJ,aLW,←h0,←ih,aMk]
theorem aLj{H:Type}{enc:TypeId×Value->H}{P:Program}{w:World}{base:Nat}{spare:Nat->Bool}{held:Bool}:∀(m n:Nat) (t:TypeId) (cs:List Value) (x:DataW H×List MemPlace),aLp P m t=true->DataW.trod enc P w base spare held n t cs=some x->cs=aMF x.1
 | 0,_,_,_,_,hp,_=>by simp[aLp] at hp
 | m+1,n,t,cs,x,hp,h=>by
  unfold aLp at hp;split at hp
  ·rename_i k hu;obtain⟨i,rfl,rfl,_⟩:=DataW.trod_int hu h;rfl
  ·rename_i len e hu;simp only[yB,beq_iff_eq] at hp;obtain⟨xs,m',rfl,rfl,hl,hn,hel⟩:=DataW.trod_array hu h;rw[aMF];refine aJ3 (P.cellsOf e) xs cs (by rw[hl,hp.2,hn]) λi y hy=>?_;have hi:i<len:=by rw[←hn];exact(zLz.1 hy).1
   have:=hel i hi;rw[hy] at this;exact aLj m m' e _ y hp.1 this
  ·cases hp
theorem aTh{P:Program}{w:World}{n:String}{g:Nat}{cs:Array Value}(hg:P.globalNamed n=some g)(h:w.var? P n=some cs):∃e fr,w.heap[g]? =some (.cells cs e fr):=by
 simp only[World.var?,hg,aC4] at h;split at h
 ·rename_i a b c hh;cases h;exact⟨b,c,hh⟩
 ·cases h
theorem aNb{P:Program}{w:World}:∀{l:List (String×DataW Unit)} {ps:List MemPlace},DataW.LaidVars P w l ps->∀{n:String} {d:DataW Unit},(n,d)∈l->∀{g:Nat} {t:TypeId} {m:Nat},P.globalNamed n=some g->(P.globals[g]?).map (·.type)=some t->aLp P m t=true->
  ∃e fr,w.heap[g]? =some (.cells (aMF d).toArray e fr)
 | [],_,_,_,_,hm,_,_,_,_,_,_=>by cases hm
 | (n0,d0)::r,ps,H,n,d,hm,g,t,m,hg,ht,hp=>by
  obtain⟨g0,t0,cs0,f0,p0,q0,hg0,ht0,hv0,hd0,hr,_⟩:=H;rcases gL.1 hm with e|hm
  ·simp only[Prod.mk.injEq] at e;obtain⟨rfl,rfl⟩:=e;obtain rfl:=aJn (hg.symm.trans hg0);obtain rfl:=aJn (ht.symm.trans ht0);obtain⟨e,fr,hh⟩:=aTh hg0 hv0;have:=aLj m f0 t cs0.toList _ hp hd0;refine⟨e,fr,?_⟩;rw[hh];congr 2;apply zLv;simpa using this
  ·exact aNb hr hm hg ht hp
end Go.Proofs.YtppgkeodaejgcaaGreatDoor
namespace Go.Proofs.YtppgkeodaejgcaaGreatDoor
open Go
section
variable{P:Program}{h:PH}{t e:TypeId}
theorem tR{d:Nat}{k k':IntKind}{a b:Int}(hu:P.underlying t=some (.int k')):cE P h (Op.equalIn (d+1) t (.int k a) (.int k b))=some (a==b):=by
 rw[Op.equalIn,kE hu];simp[cE,pure]
theorem aCk(a b:ByteArray):(a==b)=decide (a=b):=by
 obtain⟨x⟩:=a;obtain⟨y⟩:=b;show(x==y)=_;rw[zLm];simp
theorem aBj{d:Nat}{a b:ByteArray}(hu:P.underlying t=some .string):cE P h (Op.equalIn (d+1) t (.string a) (.string b))=some (a==b):=by
 rw[Op.equalIn,kE hu];simp[cE,pure]
theorem aSD{β:Type}{fs:List Field}{s0 s1:β}{body:Field->β->Sem (ForInStep β)}(g:Field->Bool)
  (hb:∀f∈fs,cE P h (body f s0)=some (if g f then .yield s0 else .done s1)):cE P h (forIn fs s0 body)=some (if fs.all g then s0 else s1):=by
 induction fs with
 | nil=>rfl
 | cons f fs ih=>
  rw[List.forIn_cons,jS,hb f (by simp)];cases hg:g f with
  | true=>simp only[if_true,aC4,List.all_cons,hg,zLp];exact ih λx hx=>hb x (by simp[hx])
  | false=>simp[List.all_cons,hg,cE,pure]
theorem aDa{d:Nat}{fields:Array Field}{xs ys:Array Value}(hu:P.underlying t=some (.struct fields))(hs:P.stoodInHeld t=false)(g:Field->Bool)
  (hf:∀f∈fields.toList,f.name≠ "_" ∧∃a b,cE P h (part f.type xs f.offset)=some a∧cE P h (part f.type ys f.offset)=some b∧cE P h (Op.equalIn d f.type a b)=some (g f)):
  cE P h (Op.equalIn (d+1) t (.agg xs) (.agg ys))=some (fields.toList.all g):=by
 rw[Op.equalIn,kE hu];simp only[bind_pure_comp,pure_bind];have hp:∀{α:Type} (f:Program->Sem α),cE P h (program >>= f)=cE P h (f P):=λf=>rfl;have hp2:∀{α β:Type} (g:Program->β) (f:β->Sem α),cE P h ((g <$> program) >>= f)=cE P h (f (g P)):=λg f=>rfl
 first
  | rw[hp]
  | skip
 simp only[hs,zLt,if_false];rw[←Array.forIn_toList,jS,aSD (s1:=⟨some false,()⟩) g]
 ·cases hx:fields.toList.all g<;>simp[cE,pure]
 ·intro f hfm;obtain⟨hn,a,b,ha,hb,hab⟩:=hf f hfm;simp only[ne_eq,hn,not_false_eq_true,if_true];rw[jS,ha,aC4,jS,hb,aC4,jS,hab,aC4];cases g f<;>rfl
theorem aLs{x y:Operand}{xs ys:Array Value}{b:Bool}(hg:P.eqGuardType P.depth t=false)(he:cE P h (Op.equalIn (9999+1) t (.agg xs) (.agg ys))=some b):
  cE P h (kB .eql t x y (.agg xs) (.agg ys))=some (.bool b):=by
 show cE P h (eqGuard .eql t x y (.agg xs) (.agg ys) >>= λ_=>binOp .eql t (.agg xs) (.agg ys))=_;rw[jS];have:cE P h (eqGuard .eql t x y (.agg xs) (.agg ys))=some ():=by
  unfold eqGuard;show cE P h (if !P.eqGuardType P.depth t then pure () else _)=_;rw[hg];rfl
 rw[this,aC4];show cE P h (Op.equalIn (9999+1) t (.agg xs) (.agg ys) >>= λb=>(pure (Value.bool b):Sem Value))=_;rw[jS,he];rfl
theorem aOU{x y:Operand}{xs ys:Array Value}{b:Bool}(hg:P.eqGuardType P.depth t=false)(he:cE P h (Op.equalIn (9999+1) t (.agg xs) (.agg ys))=some b):
  cE P h (kB .neq t x y (.agg xs) (.agg ys))=some (.bool (!b)):=by
 show cE P h (eqGuard .neq t x y (.agg xs) (.agg ys) >>= λ_=>binOp .neq t (.agg xs) (.agg ys))=_;rw[jS];have:cE P h (eqGuard .neq t x y (.agg xs) (.agg ys))=some ():=by
  unfold eqGuard;show cE P h (if !P.eqGuardType P.depth t then pure () else _)=_;rw[hg];rfl
 rw[this,aC4];show cE P h (Op.equalIn (9999+1) t (.agg xs) (.agg ys) >>= λb=>(pure (Value.bool (!b)):Sem Value))=_;rw[jS,he];rfl
theorem iR{d:TypeDesc}{cs:Array Value}{o:Nat}{v:Value}(hu:P.underlying t=some d)(hd:aEx d=true)(hv:cs[o]? =some v):cE P h (part t cs o)=some v:=by
 unfold part;rw[aKX hu,hd];simp[hv,cE,pure]
theorem aKg{d:TypeDesc}{cs:Array Value}{o n:Nat}{i:TypeInfo}(hu:P.underlying t=some d)(hd:aEx d=false)(hi:P.info? t=some i)(hn:i.size=n):cE P h (part t cs o)=some (.agg (cs.extract o (o+n))):=by
 unfold part;rw[aKX hu,hd];simp only[zLq,if_true];rw[kQ,aBJ hi,hn];rfl
end
structure aKM(P:Program)(t:TypeId){α:Type}[DecidableEq α](enc:α->Value):Prop where
 chk:∀(h:PH) (b:Bool) (a:α),cE P h (Instr.checkKey b 10000 t (enc a))=some ()
 eq:∀(h:PH) (a b:α),cE P h (Op.equal t (enc a) (enc b))=some (decide (a=b))
 bits:∀a,Instr.sameBits 10000 (enc a) (enc a)=true
 now:∃kind,P.underlying t=some kind∧((∀a b,Instr.sameNow kind (enc a) (enc b)=none)∨∀a b,Instr.sameNow kind (enc a) (enc b)=some (decide (a=b)))
section
variable{P:Program}{h:PH}{t kt et:TypeId}{α:Type}[DecidableEq α]{enc:α->Value}
def aCe(enc:α->Value)(l:List (α×Value×Nat)):List MapEntry:=l.map λp=>⟨enc p.1,p.2.1,p.2.2⟩
def aDK(a:α):List (α×Value×Nat)->Nat->Option (Nat×Value)
 | [],_=>none
 | p::ps,i=>if a=p.1 then some (i,p.2.1) else aDK a ps (i+1)
theorem aKz(K:aKM P kt enc)(a:α):∀(l:List (α×Value×Nat)) (i:Nat),cE P h (Instr.findAsking kt (enc a) (aCe enc l) i)=some (aDK a l i)
 | [],i=>rfl
 | p::ps,i=>by
  show cE P h (Op.equal kt (enc a) (enc p.1) >>= _)=_;rw[jS,K.eq h a p.1];simp only[aC4,aDK];by_cases e:a=p.1
  ·simp[e,cE,pure]
  ·simp only[e,decide_false,zLt,if_false];exact aKz K a ps (i+1)
theorem aNR{kind:TypeDesc}(hk:∀a b:α,Instr.sameNow kind (enc a) (enc b)=some (decide (a=b)))(a:α):∀(l:List (α×Value×Nat)) (i:Nat),Instr.findNow kind (enc a) (aCe enc l) i=some (aDK a l i)
 | [],i=>rfl
 | p::ps,i=>by
  show(match Instr.sameNow kind (enc a) (enc p.1) with|some true=>_|some false=>_|none=>_)=_;rw[hk];by_cases e:a=p.1
  ·simp[e,aDK]
  ·simp only[e,decide_false,aDK,if_false];exact aNR hk a ps (i+1)
theorem aPv{kind:TypeDesc}(hk:∀a b:α,Instr.sameNow kind (enc a) (enc b)=none)(a:α):∀(l:List (α×Value×Nat)) (i:Nat),Instr.findNow kind (enc a) (aCe enc l) i=none∨(l=[]∧Instr.findNow kind (enc a) (aCe enc l) i=some none)
 | [],i=>.inr ⟨rfl,rfl⟩
 | p::ps,i=>.inl (by
  show(match Instr.sameNow kind (enc a) (enc p.1) with|some true=>_|some false=>_|none=>_)=_;rw[hk])
theorem aJ8(K:aKM P kt enc)(a:α)(l:List (α×Value×Nat)):cE P h (Instr.findKey kt (enc a) (aCe enc l))=some (aDK a l 0):=by
 obtain⟨kind,hu,hk⟩:=K.now;show cE P h (underlying kt >>= _)=_;rw[kE hu];rcases hk with hk|hk
 ·rcases aPv hk a l 0 with e|⟨rfl,e⟩
  ·rw[e];exact aKz K a l 0
  ·rw[e];rfl
 ·rw[aNR hk];rfl
def aCW(l:List (α×Value))(a:α):Option Value:=(l.find? λp=>decide (a=p.1)).map (·.2)
def wX(l:List (α×Value)):List α:=l.map (·.1)
def aEZ(l:List (α×Value))(a:α)(v:Value):List (α×Value):=if a∈wX l then l.map (λp=>if p.1=a then(a,v) else p) else l++[(a,v)]
structure jZ(enc:α->Value)(h:PH)(r:Nat)(l:List (α×Value)):Prop where
 nodup:(wX l).Nodup
 here:∃es c L,h r=some (.map es c)∧es.toList=aCe enc L∧l=L.map (λp=>(p.1,p.2.1))∧(L.map (·.2.2)).Nodup∧∀p∈L,p.2.2<c
theorem jZ.upd{h h':PH}{r:Nat}{l:List (α×Value)}{G:List Nat}(H:jZ enc h r l)(u:cU G h h')(hd:r∉G):jZ enc h' r l:=by
 obtain⟨es,c,L,h1,h2,h3⟩:=H.here;exact⟨H.nodup,es,c,L,u.get h1 hd,h2,h3⟩
theorem jZ.ext{h h':PH}{r:Nat}{l:List (α×Value)}(H:jZ enc h r l)(u:dD h h'):jZ enc h' r l:=H.upd u (by simp)
theorem jZ.known{h:PH}{r:Nat}{l:List (α×Value)}(H:jZ enc h r l):h r≠none:=by
 obtain⟨es,c,L,h1,_⟩:=H.here;rw[h1];simp
theorem aOp(a:α):∀(L:List (α×Value×Nat)) (i:Nat),(aDK a L i).map (·.2)=aCW (L.map λp=>(p.1,p.2.1)) a
 | [],_=>rfl
 | p::ps,i=>by
  simp only[aDK,aCW,iJ,List.find?_cons];by_cases e:a=p.1
  ·simp[e]
  ·simp only[e,if_false,decide_false];exact aOp a ps (i+1)
theorem aMr(a:α):∀(L:List (α×Value×Nat)) (i:Nat),(∃q v,aDK a L i=some (i+q,v)∧(L.map (·.1))[q]? =some a∧a∈L.map (·.1))∨(aDK a L i=none∧a∉L.map (·.1))
 | [],_=>.inr ⟨rfl,by simp⟩
 | p::ps,i=>by
  by_cases e:a=p.1
  ·exact .inl ⟨0,p.2.1,by simp[aDK,e],by simp[e],by simp[e]⟩
  ·rcases aMr a ps (i+1) with⟨q,v,h1,h2,h3⟩|⟨h1,h2⟩
   ·exact .inl ⟨q+1,v,by simp only[aDK,e,if_false,h1];congr 2;omega,by simpa using h2,by simp at h3;simp[h3]⟩
   ·exact .inr ⟨by simp[aDK,e,h1],by simp only[iJ,gL,e,false_or];exact h2⟩
theorem aTA{i:TypeInfo}{z:Value}(hi:P.info? et=some i)(hz:i.zero=some z):cE P h (zeroValue et)=some z:=by
 show cE P h (typeInfo et >>= _)=_;rw[aBJ hi];simp only[hz];rfl
theorem aQs{r:Nat}{es:Array MapEntry}{c:Nat}{β:Type}(hr:h r=some (.map es c))(f:Obj->Sem β):cE P h (getObj r >>= f)=cE P h (f (.map es c)):=by
 rw[jS];have:cE P h (getObj r)=some (.map es c):=by
  unfold getObj;simp only[cE,hr]
 rw[this];rfl
theorem aIE{r:Nat}{l:List (α×Value)}(K:aKM P kt enc)(hu:P.underlying t=some (.map kt et)){i:TypeInfo}{z:Value}(hi:P.info? et=some i)(hz:i.zero=some z)(H:jZ enc h r l)(a:α)(ok:Bool):
  cE P h (Instr.lookup t (.map (some r)) (enc a) ok)=some (if ok then .tuple #[(aCW l a).getD z,.bool (aCW l a).isSome] else(aCW l a).getD z):=by
 obtain⟨es,c,L,h1,h2,rfl,hb1,hb2⟩:=H.here;show cE P h (underlying t >>= _)=_;rw[kE hu];show cE P h (((getObj r) >>= _) >>= _)=_;rw[jS,aQs h1];show cE P h (Instr.checkKey es.isEmpty 10000 kt (enc a) >>= _)=_;rw[jS,K.chk h _ a];simp only[aC4];rw[h2];rw[jS,aJ8 K];simp only[aC4];have hg:=aOp a L 0;cases e:aDK a L 0 with
 | none=>
  rw[e] at hg;rw[←hg];simp only[jS,aTA hi hz];cases ok<;>rfl
 | some q=>
  rw[e] at hg;rw[←hg];cases ok<;>rfl
theorem aFD{r:Nat}{es:Array MapEntry}{c:Nat}{β:Type}{Q:β->PH->Prop}(hr:h r=some (.map es c)){f:Obj->Sem β}(hq:cY P (f (.map es c)) h Q):cY P (getObj r >>= f) h Q:=by
 refine iN (a:=.map es c) ?_ hq;unfold getObj;simp only[cE,hr]
theorem aCw{L:List (α×Value×Nat)}:wX (L.map λp=>(p.1,p.2.1))=L.map (·.1):=by simp[wX]
theorem aL7{r:Nat}{l:List (α×Value)}(K:aKM P kt enc)(hu:P.underlying t=some (.map kt et))(H:jZ enc h r l)(a:α)(v:Value){k:cD}
  (hk:∀h',jZ enc h' r (aEZ l a v)->cU [r] h h'->k undef h'):cY P (aHA t (.map (some r)) (enc a) v) h k:=by
 obtain⟨es,c,L,h1,h2,rfl,hb1,hb2⟩:=H.here;have hnd:=H.nodup;rw[aCw] at hnd;show cY P (Instr.mapUpdate t (.map (some r)) (enc a) v >>= λ_=>pure undef) h k;refine cY.bind (P:=P) (s:=Instr.mapUpdate t (.map (some r)) (enc a) v) ?_;show cY P (underlying t >>= _) h _;rw[pY hu];refine aFD h1 ?_;refine iN (K.chk h false a) ?_;rw[h2];refine iN (aJ8 K a L) ?_;rcases aMr a L 0 with⟨q,w,e1,e2,e3⟩|⟨e1,e2⟩
 ·rw[e1,fJ];have hq:es[q]? =some ⟨enc a,(L[q]?.map (·.2.1)).getD v,(L[q]?.map (·.2.2)).getD 0⟩:=by
   rw[←aKq,h2];rw[wN] at e2;obtain⟨p,hp,rfl⟩:=Option.map_eq_some_iff.1 e2;simp[aCe,wN,hp]
  show cY P (Instr.keyThatStays (((es[q]?).map (·.key)).getD (enc a)) (enc a) >>= _) h _;rw[hq];unfold Instr.keyThatStays;simp only[aH7,aH8,K.bits,if_true];show(∃u,h r=some u∧(∀c e f,u≠ .cells c e f))∧_;refine⟨⟨_,h1,by intros;simp⟩,?_⟩;show k undef _;have hbm:(L.map (λp=>if p.1=a then(a,v,p.2.2) else p)).map (·.2.2)=L.map (·.2.2):=by
   rw[zL2];apply zL3;intro p _;simp only[Function.comp];split<;>rfl
  refine hk _ ⟨?_,_,c,L.map (λp=>if p.1=a then(a,v,p.2.2) else p),dM,?_,?_,by rw[hbm];exact hb1,λp hp=>?_⟩ (cU.set (by simp))
  ·have:wX (aEZ (L.map λp=>(p.1,p.2.1)) a v)=L.map (·.1):=by
    unfold aEZ;rw[aCw,if_pos e3];simp only[wX,zL2];apply zL3;intro p _;simp only[Function.comp];split
    ·rename_i h;exact h.symm
    ·rfl
   rw[this];exact hnd
  ·rw[Array.toList_modify,h2];apply List.ext_getElem?;intro j;rw[List.getElem?_modify];simp only[aCe,wN];rw[wN] at e2;obtain⟨p0,hp0,hp1⟩:=Option.map_eq_some_iff.1 e2;cases hj:L[j]? with
   | none=>simp
   | some p=>
    by_cases hjq:q=j
    ·subst hjq;rw[hp0] at hj;cases hj;simp[hp1]
    ·have hne:p.1≠a:=by
      intro hpa;have h3:(L.map (·.1))[j]? =(L.map (·.1))[q]?:=by rw[wN,wN,hj,hp0,aH7,aH7,hpa,hp1]
      have hjl:j<(L.map (·.1)).length:=by rw[iU];exact(zLz.1 hj).1
      exact hjq ((List.getElem?_inj hjl hnd).1 h3).symm
     simp[hjq,hne]
  ·unfold aEZ;rw[aCw,if_pos e3];simp only[zL2];apply zL3;intro p _;simp only[Function.comp];split<;>rfl
  ·obtain⟨q,hq,rfl⟩:=lO.1 hp;have:=hb2 q hq;split<;>exact this
 ·rw[e1];show(∃u,h r=some u∧(∀c e f,u≠ .cells c e f))∧_;refine⟨⟨_,h1,by intros;simp⟩,?_⟩;show k undef _;refine hk _ ⟨?_,_,c+1,L++[(a,v,c)],dM,?_,?_,?_,?_⟩ (cU.set (by simp))
  ·unfold aEZ;rw[aCw,if_neg e2];have:wX (L.map (λp=>(p.1,p.2.1))++[(a,v)])=L.map (·.1)++[a]:=by simp[wX]
   rw[this,List.nodup_append];refine⟨hnd,by simp,?_⟩;intro x hx y hy;simp only[fU] at hy;subst hy;rintro rfl;exact e2 hx
  ·rw[Array.toList_push,h2];simp[aCe]
  ·unfold aEZ;rw[aCw,if_neg e2];simp
  ·rw[qX,List.nodup_append];refine⟨hb1,by simp,?_⟩;intro x hx y hy;simp only[iJ,iV,fU] at hy;subst hy;obtain⟨p,hp,rfl⟩:=lO.1 hx;have:=hb2 p hp;omega
  ·intro p hp;rcases jG.1 hp with hp|hp
   ·have:=hb2 p hp;omega
   ·simp only[fU] at hp;subst hp;simp
theorem aUm(l:List (α×Value))(a b:α)(v:Value):aCW (aEZ l a v) b=if b=a then some v else aCW l b:=by
 unfold aEZ;split
 ·rename_i hm;induction l with
  | nil=>simp[wX] at hm
  | cons p ps ih=>
   simp only[aCW,iJ,List.find?_cons];by_cases hb:b=a
   ·subst hb;by_cases hp:p.1=b
    ·simp[hp]
    ·have hm':b∈wX ps:=by
      simp only[wX,iJ,gL] at hm;rcases hm with h|h
      ·exact absurd h.symm hp
      ·exact h
     have:=ih hm';simp only[aCW] at this;simp only[hp,if_false,show(b=p.1)=False from eq_false (λh=>hp h.symm),decide_false];exact this
   ·by_cases hp:p.1=a
    ·simp only[hp,if_true,hb,decide_false,if_false];by_cases hm':a∈wX ps
     ·have:=ih hm';simp only[aCW,hb,if_false] at this;exact this
     ·have:ps.map (λp=>if p.1=a then(a,v) else p)=ps:=by
       refine(zL3 (g:=id) ?_).trans (List.map_id ps);intro x hx;exact if_neg (by rintro rfl;exact hm' (zL6 hx))
      rw[this]
    ·simp only[hp,if_false];by_cases hbp:b=p.1
     ·simp[hbp,hp]
     ·simp only[hbp,decide_false,hb,if_false];by_cases hm':a∈wX ps
      ·have:=ih hm';simp only[aCW,hb,if_false] at this;exact this
      ·have:ps.map (λp=>if p.1=a then(a,v) else p)=ps:=by
        refine(zL3 (g:=id) ?_).trans (List.map_id ps);intro x hx;exact if_neg (by rintro rfl;exact hm' (zL6 hx))
       rw[this]
 ·rename_i hm;simp only[aCW,List.find?_append];by_cases hb:b=a
  ·subst hb;have:l.find? (λp=>decide (b=p.1))=none:=by
    rw[List.find?_eq_none];intro p hp;simp only[decide_eq_true_eq];rintro rfl;exact hm (zL6 hp)
   simp[this]
  ·simp[hb]
theorem aGW:jM P (Instr.makeMap t none)=some (.map #[] 0,λr=>pure (.map (some r))):=rfl
theorem jZ.new{r:Nat}:jZ enc (h.set r (.map #[] 0)) r []:=⟨by simp[wX],#[],0,[],dM,rfl,rfl,by simp,by simp⟩
end
section
variable{P:Program}{h:PH}{t t' t2 e:TypeId}
theorem aQ7{size bytes n:Nat}{v x:Value}{rows ys:List (List Value)}{i:TypeInfo}{z:Value}{e2:TypeId}{va:Option Addr}{k:cD}
  (hu:P.underlying t=some (.slice e)) (hu2:P.underlying t2=some (.slice e2)) (hi:P.info? e=some i) (hn:i.size=size) (hby:i.bytes=bytes) (hz:i.zero=some z) (hzs:z.cells.size=size) (hb0:0<bytes)
  (H:fR h size v rows) (hv:v= .slice va n n) (S:fR h size x ys) (hl:(rows.length+ys.length)*bytes≤140737488355328) (hne:ys≠[])
  (hk:∀v' h' F',eD h' e size v' (rows++ys) F'->dD h h'->(∀b∈F',h b=none)->k v' h'):cY P (Builtin.append_ #[t,t2] t' #[v,x]) h k:=by
 have hbig:rows.length+ys.length≤140737488355328:=zLD (Nat.le_mul_of_pos_right _ hb0) hl;obtain⟨xa,xc,hx,hx1,hx2,hx3,hx4⟩:=S.here;have hfirst:=S.first (P:=P);have hrows:Rows size (rows++ys):=H.ok.append S.ok;have hpos:0<ys.length:=aG2.2 hne;have grown:∀(m:Nat),rows.length+ys.length≤m->m≤qN->∀r,h r=none->
   k (.slice (some ⟨r,0,none⟩) (rows.length+ys.length) m) (h.set r (.cells (rows.flatten.toArray++ys.flatten.toArray++Builtin.zeroCells z.cells (m-(rows.length+ys.length))) e (0,0))):=by
  intro m hm hmax r hr;refine hk _ _ [r] ⟨hrows,.inr ⟨r,m,_,by rw[jR],rfl,dM,by simpa using hm,hmax,?_,?_⟩⟩ (cU.new hr) (λb hb=>by simp at hb;subst hb;exact hr)
  ·simp only[Array.size_append,List.size_toArray,H.ok.flat,S.ok.flat,Builtin.zeroCells,Array.size_map,Array.size_range,hzs];rw[←zLE,←zLE];congr 1;omega
  ·have hlen:(rows++ys).length*size=(rows.flatten++ys.flatten).length:=by rw[jR,jR,H.ok.flat,S.ok.flat,zLE]
   simp only[Array.toList_append,hlen,zLF];rw[zLG (oM _),zLI]
 obtain⟨va',vc,hv',hv1,hv2,_,_⟩:=H.here;have hvfirst:=H.first (P:=P);have hvc:vc=rows.length:=by
  rw[hv] at hv';simp only[Value.slice.injEq] at hv';omega
 rw[hvc] at hv';subst hx;subst hv';simp only[Builtin.append_,zLJ,pR,rY,pY hu,pY hu2,kQ,mJ hi,pure_bind,zLt,if_false,Builtin.lenOf,zLq,if_true,hn];have hfit:¬rows.length+ys.length≤rows.length:=by omega
 rw[if_neg hfit];have hlt:rows.length<rows.length+ys.length:=by omega
 have h63:¬(((rows.length+ys.length:Nat):Int)>IntKind.i64.max∧(False∨i.bytes=0)):=by
  rintro⟨_,hh⟩;rcases hh with hh|hh
  ·exact hh
  ·omega
 have hfits:¬(Builtin.nextslicecap (rows.length+ys.length) rows.length*i.bytes>2^48):=by
  rw[hby];have:=growslice_fits hlt hl;omega
 rw[mJ hi,if_neg h63,mJ hi,if_neg hfits,zZ];intro tt;rw[mJ hi,aGI];refine iN hvfirst (iN hfirst ?_);have hzv:zeroValue e=(typeInfo e >>= λi=>match i.zero with|some v=>pure v|none=>unsupported (.resourceLimit "a value of more than 2^22 cells")):=rfl;rw[hzv,bind_assoc,mJ hi,hz,pure_bind];have hcut:∀n m:Nat,n≤140737488355328->n≤(Question.appendCap n m e).cut tt∧(Question.appendCap n m e).cut tt≤qN:=by
  intro n m hn;have hpos:0<2^63-n:=by omega
  have:=zLA tt hpos;simp only[Question.cut,qN];omega
 have hforced:(Question.appendCap (rows.length+ys.length) rows.length e).forced=false:=rfl;rw[hforced];obtain⟨hc1,hc2⟩:=hcut (rows.length+ys.length) rows.length hbig;intro r hr;exact grown _ hc1 hc2 r hr
theorem fR.full{size:Nat}{v:Value}{rows:List (List Value)}(H:fR h size v rows){i:TypeInfo}(hu:P.underlying t=some (.slice e))(hi':P.info? e=some i){m:Nat}{k2 k3:IntKind}(h2:m≤rows.length):
  ∃va,cV P (Instr.sliceAt t v none (some (.int k2 m)) (some (.int k3 m)))=some (.slice va m m)∧fR h size (.slice va m m) (rows.take m):=by
 obtain⟨a,c,rfl,hc1,hc2,hc3,hc4⟩:=H.here;have hlen:(rows.take m).length=m:=by simp;omega
 refine⟨a,?_,H.ok.take m,⟨a,m,by rw[hlen],by omega,by omega,λhne=>?_,trivial⟩⟩
 ·show cV P (underlying t >>= _)=_;rw[vZ hu];show cV P (underlying t >>= _)=_;rw[vZ hu];have hb:Instr.sliceBounds true rows.length c none (some (.int k2 m)) (some (.int k3 m))=pure (0,m,m):=by
   have hcast:∀n m:Nat,n≤m->(0≤(n:Int)∧(n:Int)≤(m:Int)):=λn m h=>by omega
   simp[Instr.sliceBounds,Instr.sliceBound,asIntOf,hcast,show m≤c by omega]
  simp only[hb,pure_bind];rw[kQ,aJG hi'];show some (Value.slice (if m=0 then a else a.map (·.add (0*i.size))) (m-0) (m-0))=_;have:a.map (·.add (0*i.size))=a:=by
   cases a with
   | none=>rfl
   | some x=>
    have:x.add (0*i.size)=x:=by
     obtain⟨b,o,w⟩:=x;cases w<;>simp[Addr.add]
    rw[aH7,this]
  rw[this];simp
 ·have hne':rows≠[]:=by rintro rfl;simp at hne
  obtain⟨b,o,cs,e',fr,rfl,hb,hle,hex⟩:=hc3 hne';have hm1:m*size≤rows.length*size:=zLO _ h2;refine⟨b,o,cs,e',fr,rfl,hb,by rw[hlen];omega,?_⟩;rw[hlen,H.ok.flat_take,←hex];simp only[zLC,zLw];rw[List.take_take,aJm (by omega)];congr 1;omega
theorem jZ.len{α:Type}[DecidableEq α]{enc:α->Value}{r:Nat}{l:List (α×Value)}(H:jZ enc h r l){k v:TypeId}(hu:P.underlying t=some (.map k v)):cE P h (Builtin.len_ #[t] t' #[.map (some r)])=some (.int .i64 l.length):=by
 obtain⟨es,c,L,h1,h2,rfl,_⟩:=H.here;rw[aWM hu h1];have:es.size=L.length:=by rw[←Array.length_toList,h2];simp[aCe]
 rw[this,iU]
theorem aQL{a b:Int}:(a==b)=decide (a=b):=by rw[zLm];simp
def aKH(x:Int):Value:=.int .u64 x
theorem aQH(hu:P.underlying t=some (.int .u64)):aKM P t aKH where
 chk:=λh b a=>by
  unfold aKH;rw[show(10000:Nat)=9999+1 from rfl];cases b<;>(rw[Instr.checkKey];try rw[kE hu])<;>rfl
 eq:=λh a b=>by
  unfold aKH;show cE P h (Op.equalIn (9999+1) t _ _)=_;rw[tR hu,aQL]
 bits:=λa=>by unfold aKH;rw[show(10000:Nat)=9999+1 from rfl];simp[Instr.sameBits]
 now:=⟨_,hu,.inr λa b=>by unfold aKH;simp[Instr.sameNow,aQL]⟩
end
section
variable{P:Program}{h:PH}{t t' t2 e:TypeId}
def jI(b:UInt8):List Value:=[.int .u8 b.toNat]
theorem jI.rows(l:List UInt8):Rows 1 (l.map jI):=λr hr=>by
 obtain⟨m,_,rfl⟩:=lO.1 hr;rfl
theorem jI.isCell(l:List UInt8):∀r∈l.map jI,∀u∈r,eP u=true:=λr hr u hu=>by
 obtain⟨m,_,rfl⟩:=lO.1 hr;simp only[jI,gL,kJ,or_false] at hu;subst hu;rfl
theorem jI.flat(l:List UInt8):(l.map jI).flatten=l.map λb=>Value.int .u8 b.toNat:=by
 induction l with
 | nil=>rfl
 | cons b bs ih=>simp[jI,ih]
theorem aMR{body:Value->ByteArray->Sem (ForInStep ByteArray)}(hb:∀(b:UInt8) (s:ByteArray),body (.int .u8 b.toNat) s=pure (.yield (s.push b))):∀(l:List UInt8) (s:ByteArray),
  cE P h (forIn (l.map λb=>Value.int .u8 b.toNat) s body)=some ⟨s.data++l.toArray⟩
 | [],s=>by simp[cE,pure]
 | b::bs,s=>by
  rw[iJ,List.forIn_cons,jS,hb];show cE P h (forIn (bs.map _) (s.push b) body)=_;rw[aMR hb bs (s.push b)];congr 1;apply ByteArray.ext;show(s.push b).data++bs.toArray=_;rw[ByteArray.data_push];apply zLv;simp
theorem aEt{x:Value}{l:List UInt8}(hu:P.underlying t=some (.slice e))(he:P.underlying e=some (.int .u8))(hs:P.underlying t2=some .string)(S:fR h 1 x (l.map jI)):
  cE P h (convert t t2 x)=some (.string ⟨l.toArray⟩):=by
 have hf:=S.first (P:=P);obtain⟨a,c,rfl,h1,h2,h3,h4⟩:=S.here;show cE P h (underlying t >>= _)=_;rw[kE hu];show cE P h (underlying t2 >>= _)=_;rw[kE hs];show cE P h (underlying e >>= _)=_;rw[kE he];simp only[iU,jI.flat] at hf ⊢;show cE P h (Conv.bytesToString (.slice a l.length c))=_;unfold Conv.bytesToString;cases a with
 | none=>
  have:l=[]:=by
   by_cases h0:l=[]
   ·exact h0
   ·obtain⟨b,o,cs,e,fr,hh,_⟩:=h3 (by simpa using h0);cases hh
  subst this;rfl
 | some a=>
  have hf':cE P h (loadCells a l.length)=some (l.map λb=>Value.int .u8 b.toNat).toArray:=by
   have:Builtin.firstCells 1 l.length (.slice (some a) l.length c)=loadCells a (l.length*1):=rfl;rw[this,zL7] at hf;exact hf
  show cE P h (loadCells a l.length >>= _)=_;rw[jS,hf',aC4];rw[jS,←Array.forIn_toList,aMR]
  ·rw[aC4];show some (Value.string _)=_;congr 2;apply ByteArray.ext;simp
  ·intro b s;simp
theorem fR.fields{size:Nat}{v:Value}{rows:List (List Value)}(H:fR h size v rows){i:TypeInfo}(hu:P.underlying t=some (.slice e))(hi:P.info? e=some i)(hn:i.size=size){k:IntKind}{j:Nat}{r:List Value}(hr:rows[j]? =some r):
  ∃b o,cV P (indexAt t v (.int k j))=some (pT b o)∧(∀q c,r[q]? =some c->dF h ⟨b,o+q,none⟩=some c)∧∀d,P.underlying e=some d->aEx d=false->cE P h (loadAt e (pT b o))=some (.agg r.toArray):=by
 obtain⟨b,o,cs,e',fr,h1,hb,hle,hex⟩:=H.at hu hi hn (k:=k) (j:=(j:Int)) (by omega) hr;refine⟨b,o,h1,λq c hq=>?_,λd he hd=>?_⟩
 ·have hql:q<size:=by
   have:=(zLz.1 hq).1
   rwa [H.ok r (rA hr)] at this
  unfold dF;simp only[hb];rw[←hex] at hq;simp only[zLC,zLw,aMz,aHy,aK2,hql,if_true] at hq;simpa using hq
 ·rw[pG he hd hi hn hb hle];congr 2;exact zLv hex
end
section
variable{P:Program}{h:PH}{t e:TypeId}
theorem uZ{b o n len:Nat}{k:IntKind}{j:Int}{i:TypeInfo}(hu:P.underlying t=some (.array len e))(hi:P.info? e=some i)(hn:i.size=n)(h0:0≤j)(h1:j<len):
  cV P (indexAt t (pT b o) (.int k j))=some (pT b (o+j.toNat*n)):=by
 show cV P (underlying t >>= _)=_;rw[vZ hu];show cV P (underlying t >>= _)=_;rw[vZ hu];simp only[h0,h1,and_self,if_true];rw[kQ,aJG hi,hn,lT];rfl
end
abbrev Tx:=List UInt8
def tx(l:List UInt8):ByteArray:=⟨l.toArray⟩
theorem aIY(s:ByteArray):tx s.data.toList=s:=by cases s;simp[tx]
theorem iB(l:List UInt8):(tx l).size=l.length:=by simp[tx,ByteArray.size]
theorem aLq{a b:List UInt8}(h:tx a=tx b):a=b:=by
 have:=congrArg (λs:ByteArray=>s.data.toList) h;simpa[tx] using this
theorem aYD:tx []=⟨#[]⟩:=rfl
theorem aSy(a b:List UInt8):tx a++tx b=tx (a++b):=by
 apply ByteArray.ext;rw[ByteArray.data_append];simp[tx]
section
variable{P:Program}{h:PH}{t t' t2 e:TypeId}
theorem lR{a b:List UInt8}(hs:a.length+b.length≤9223372036854775807):cV P (binOp .add t (.string (tx a)) (.string (tx b)))=some (.string (tx (a++b))):=by
 show cV P (Op.stringOp .add (tx a) (tx b))=_;have:¬(((tx a).size+(tx b).size:Nat):Int)>IntKind.i64.max:=by
  rw[iB,iB];have:IntKind.i64.max=9223372036854775807:=rfl;omega
 simp only[Op.stringOp,this,if_false];rw[aSy];rfl
theorem aHv{l:List UInt8}{i j:Nat}{lo hi:Option Value}(hu:P.underlying t=some .string)(hlo:lo=none∧i=0∨∃k,lo=some (.int k i))(hhi:hi=none∧j=l.length∨∃k,hi=some (.int k j))(h1:i≤j)(h2:j≤l.length):
  cV P (Instr.sliceAt t (.string (tx l)) lo hi none)=some (.string (tx ((l.take j).drop i))):=by
 show cV P (underlying t >>= _)=_;rw[vZ hu];show cV P (underlying t >>= _)=_;rw[vZ hu];have hb:Instr.sliceBounds false (tx l).size (tx l).size lo hi none=pure (i,j,(tx l).size):=by
  have hcast:∀n m:Nat,n≤m->(0≤(n:Int)∧(n:Int)≤(m:Int)):=λn m h=>by omega
  rw[iB];rcases hlo with⟨rfl,rfl⟩|⟨k,rfl⟩<;>rcases hhi with⟨rfl,rfl⟩|⟨k',rfl⟩ <;>
   simp[Instr.sliceBounds,Instr.sliceBound,asIntOf,hcast,h1,h2]
 simp only[hb,pure_bind,zLu,zLt,if_false];show some (Value.string ((tx l).extract i j))=_;congr 2;apply ByteArray.ext;apply zLv;rw[ByteArray.data_extract];simp[tx,zLw,zLx]
theorem zA{l:List UInt8}{k:IntKind}{j:Nat}{b:UInt8}(hu:P.underlying t=some .string)(hb:l[j]? =some b):cV P (Instr.index t (.string (tx l)) (.int k j))=some (.int .u8 b.toNat):=by
 show cV P (underlying t >>= _)=_;rw[vZ hu];have h0:(0:Int)≤(j:Int):=by omega
 simp only[h0,if_true,qF];have:(tx l)[j]? =some b:=by
  obtain⟨hlt,rfl⟩:=zLz.1 hb;have hs:j<(tx l).size:=by rw[iB];exact hlt
  rw[getElem?_pos (tx l) j hs];congr 1
 rw[this];rfl
theorem aUe{l:List UInt8}(hu:P.underlying t=some .string)(hu2:P.underlying t2=some (.slice e))(he:P.underlying e=some (.int .u8))(hl:l.length≤140737488355328){k:cD}
  (hk:∀v h',fR h' 1 v (l.map jI)->dD h h'->k v h'):cY P (convert t t2 (.string (tx l))) h k:=by
 show cY P (underlying t >>= _) h k;rw[pY hu];show cY P (underlying t2 >>= _) h k;rw[pY hu2];show cY P (underlying e >>= _) h k;rw[pY he];show cY P (choose (.appendCap (tx l).size 0 e) >>= _) h k;rw[zZ];intro tt;have hforced:(Question.appendCap (tx l).size 0 e).forced=false:=rfl;rw[hforced];have hcut:(tx l).size≤(Question.appendCap (tx l).size 0 e).cut tt∧(Question.appendCap (tx l).size 0 e).cut tt≤qN:=by
  rw[iB];have hpos:0<2^63-l.length:=by omega
  have:=zLA tt hpos;simp only[Question.cut,qN];omega
 simp only[zLt,if_false];generalize (Question.appendCap (tx l).size 0 e).cut tt=cap at *;obtain⟨c1,c2⟩:=hcut;intro r hr;generalize hcs:((tx l).data.map λb=>Value.int .u8 b.toNat)++Array.replicate (cap-(tx l).size) (.int .u8 0)=cs;have hsz:cs.size=cap:=by rw[←hcs];simp[tx,ByteArray.size] at *;omega
 have u1:dD h (h.set r (.cells cs e)):=cU.new hr;show cY P (markStringish ⟨r,0,none⟩ >>= λ_=>pure (Value.slice (some ⟨r,0,none⟩) (tx l).size cap)) (h.set r (.cells cs e)) k;unfold markStringish;have hshape:jY (h.set r (.cells cs e)) r=some (some (e,cs.size)):=by unfold jY;rw[dM]
 show ∃s,jY (h.set r (.cells cs e)) r=some s∧_;refine⟨_,hshape,?_⟩;show(∃o,(h.set r (.cells cs e)) r=some o)∧_;refine⟨⟨_,dM⟩,?_⟩;show k (.slice (some ⟨r,0,none⟩) (tx l).size cap) (mP (h.set r (.cells cs e)) ⟨r,cs.size,none⟩ 1);have hf:mP (h.set r (.cells cs e)) ⟨r,cs.size,none⟩ 1=h.set r (.cells cs e (cs.size,cs.size+1)):=by
  funext b;unfold mP PH.set;simp only[Nat.one_ne_zero,if_false];by_cases hb:b=r
  ·subst hb;simp
  ·simp[hb]
 rw[hf];refine hk _ _ ⟨jI.rows _,some ⟨r,0,none⟩,cap,by rw[iB,iU],by rw[iU,←iB];exact c1,c2,λ_=>⟨r,0,cs,e,_,rfl,dM,?_,?_⟩,trivial⟩ (cU.new hr)
 ·rw[iU,hsz,←iB];omega
 ·rw[jI.flat,iU];have e1:cs.toList=(l.map λb=>Value.int .u8 b.toNat)++List.replicate (cap-(tx l).size) (.int .u8 0):=by rw[←hcs];simp[tx]
  rw[zLC,zLw,e1];simp
theorem aM5{bytes:Nat}{v:Value}{rows:List (List Value)}{l:List UInt8}{F:List Nat}{i:TypeInfo}{z:Value}{k:cD}
  (hu:P.underlying t=some (.slice e)) (hu2:P.underlying t2=some .string) (hi:P.info? e=some i) (hn:i.size=1) (hby:i.bytes=bytes) (hz:i.zero=some z) (hzs:z.cells.size=1) (hb0:0<bytes)
  (H:eD h e 1 v rows F) (hl:(rows.length+l.length)*bytes≤140737488355328)
  (hk:∀v' h' F',eD h' e 1 v' (rows++l.map jI) F'->cU F h h'->(∀b∈F',b∈F∨h b=none)->aL8 v≤aL8 v'->k v' h'):cY P (Builtin.append_ #[t,t2] t' #[v,.string (tx l)]) h k:=by
 generalize hys:l.map jI=ys at *;have hyl:ys.length=l.length:=by rw[←hys,iU]
 have hSok:Rows 1 ys:=by rw[←hys];exact jI.rows l
 have hcell:∀r∈ys,∀u∈r,eP u=true:=by rw[←hys];exact jI.isCell l
 rw[←hyl] at hl;have hfirst:cE P h (Builtin.firstCells 1 ys.length (.string (tx l)))=some ys.flatten.toArray:=by
  show some (((tx l).extract 0 ys.length).data.map λb=>Value.int .u8 b.toNat)=_;rw[hyl,←hys,jI.flat];congr 1;apply zLv;rw[ByteArray.data_extract];simp[tx,zLw]
 have hbig:rows.length+ys.length≤140737488355328:=zLD (Nat.le_mul_of_pos_right _ hb0) hl;have hrows:Rows 1 (rows++ys):=H.ok.append hSok;have hflat:∀u∈ys.flatten,eP u=true:=λu hu=>by
  obtain⟨r,hr,hur⟩:=List.mem_flatten.1 hu;exact hcell r hr u hur
 -- a new block
 have grown:∀(m:Nat),rows.length+ys.length≤m->m≤qN->aL8 v≤m->∀r,h r=none->
   k (.slice (some ⟨r,0,none⟩) (rows.length+ys.length) m) (h.set r (.cells (rows.flatten.toArray++ys.flatten.toArray++Builtin.zeroCells z.cells (m-(rows.length+ys.length))) e (0,0))):=by
  intro m hm hmax hcapv r hr;refine hk _ _ [r] ⟨hrows,.inr ⟨r,m,_,by rw[jR],rfl,dM,by simpa using hm,hmax,?_,?_⟩⟩ (cU.new hr) (λb hb=>.inr (by simp at hb;subst hb;exact hr)) hcapv
  ·simp only[Array.size_append,List.size_toArray,H.ok.flat,hSok.flat,Builtin.zeroCells,Array.size_map,Array.size_range,hzs];rw[←zLE,←zLE];congr 1;omega
  ·have hlen:(rows++ys).length*1=(rows.flatten++ys.flatten).length:=by rw[jR,jR,H.ok.flat,hSok.flat,zLE]
   simp only[Array.toList_append,hlen,zLF];rw[zLG (oM _),zLI]
 obtain⟨va,vc,hv,hv1,hv2,_,_⟩:=H.slR.here;have hvfirst:=H.slR.first (P:=P);subst hv;simp only[Builtin.append_,zLJ,pR,rY,pY hu,pY hu2,kQ,mJ hi,pure_bind,zLt,if_false,Builtin.lenOf,zLq,if_true,hn,iB,←hyl];by_cases hfit:rows.length+ys.length≤vc
 ·rw[if_pos hfit];refine iN hfirst ?_;rcases H.here with⟨hv',hr,hF⟩|⟨b,cap,cs,hv',hF,hb,hle,hcap,hcs,htake⟩
  ·subst hr;simp only[zLM,Value.slice.injEq,true_and] at hv';obtain⟨rfl,rfl⟩:=hv';have hy:ys=[]:=zLN (by omega);subst hy;exact hk _ _ [] (by simpa using eD.nil) cU.refl (by simp) (oM _)
  ·simp only[Value.slice.injEq,true_and] at hv';obtain⟨rfl,rfl⟩:=hv';have hmul:(rows.length+ys.length)*1≤vc*1:=zLO _ hfit;have hadd:(⟨b,0,none⟩:Addr).add (rows.length*1)=⟨b,0+rows.length*1,none⟩:=lT ..;show cY P (storeCells ((⟨b,0,none⟩:Addr).add (rows.length*1)) ys.flatten.toArray.toList >>= λ_=>pure _) h k;rw[hadd];refine cY.bind (P:=P) (s:=storeCells _ _) ?_;refine uK _ 0 h cs hb (by simp only[hSok.flat,hcs];rw[zLE] at hmul;omega) (by simpa using hflat) ?_;show k _ _;simp only[fJ,Nat.add_zero];have fin:∀cs':Array Value,cs'.size=cs.size->cs'.toList.take ((rows.length+ys.length)*1)=rows.flatten++ys.flatten->∀h':PH,h' b=some (.cells cs' e (0,0))->cU F h h'->
     k (.slice (some ⟨b,0,none⟩) (rows.length+ys.length) vc) h':=by
    intro cs' hsz htk h' hb' hu';refine hk _ _ [b] ⟨hrows,.inr ⟨b,vc,cs',by rw[jR],rfl,hb',by simpa using hfit,hcap,by rw[hsz,hcs],by rw[jR,htk,zLF]⟩⟩ hu' (λb' hb'=>.inl (hF▸hb')) (oM _)
   split
   ·rename_i hys;refine fin cs rfl ?_ h hb cU.refl;have:ys.length*1=0:=by rw[←hSok.flat,hys];rfl
    rw[zLE,this,hys,zLP,Nat.add_zero];exact htake
   ·refine fin _ (aFK _ _ _) ?_ _ dM (cU.set (by rw[hF];simp));have hlen:rows.length*1+ys.flatten.length≤cs.size:=by rw[hSok.flat,←zLE,hcs];exact hmul
    rw[aBn _ _ _ hlen,htake];have hlen2:(rows.length+ys.length)*1=(rows.flatten++ys.flatten).length:=by rw[jR,H.ok.flat,hSok.flat,zLE]
    rw[hlen2,zLG (oM _),zLI]
 ·rw[if_neg hfit];have hlt:vc<rows.length+ys.length:=by omega
  have h63:¬(((rows.length+ys.length:Nat):Int)>IntKind.i64.max∧(False∨i.bytes=0)):=by
   rintro⟨_,hh⟩;rcases hh with hh|hh
   ·exact hh
   ·omega
  have hfits:¬(Builtin.nextslicecap (rows.length+ys.length) vc*i.bytes>2^48):=by
   rw[hby];have:=growslice_fits hlt hl;omega
  rw[mJ hi,if_neg h63,mJ hi,if_neg hfits,zZ];intro tt;rw[mJ hi,aGI];refine iN hvfirst (iN hfirst ?_);have hzv:zeroValue e=(typeInfo e >>= λi=>match i.zero with|some v=>pure v|none=>unsupported (.resourceLimit "a value of more than 2^22 cells")):=rfl;rw[hzv,bind_assoc,mJ hi,hz,pure_bind];have hcut:∀n m:Nat,n≤140737488355328->n≤(Question.appendCap n m e).cut tt∧(Question.appendCap n m e).cut tt≤qN:=by
   intro n m hn;have hpos:0<2^63-n:=by omega
   have:=zLA tt hpos;simp only[Question.cut,qN];omega
  have hforced:(Question.appendCap (rows.length+ys.length) vc e).forced=false:=rfl;rw[hforced];obtain⟨hc1,hc2⟩:=hcut (rows.length+ys.length) vc hbig;intro r hr;exact grown _ hc1 hc2 (show vc≤_ by omega) r hr
end
theorem aMq{α:Type}{p:List α->Prop}(h0:p [])(hs:∀l a,p l->p (l++[a]))(l:List α):p l:=by
 rw[←List.reverse_reverse l];induction l.reverse with
 | nil=>exact h0
 | cons a l ih=>rw[List.reverse_cons];exact hs _ _ ih
def val(l:List UInt8):Nat:=l.foldl (λa b=>a*256+b.toNat) 0
theorem aKp(l:List UInt8)(b:UInt8):val (l++[b])=val l*256+b.toNat:=by simp[val]
def be(n:Nat):Nat->List UInt8
 | 0=>[]
 | k+1=>be (n/256) k++[UInt8.ofNat (n%256)]
theorem iD(n k:Nat):(be n k).length=k:=by
 induction k generalizing n with
 | zero=>rfl
 | succ k ih=>simp[be,ih]
theorem aLv(n k:Nat):val (be n k)=n%256^k:=by
 induction k generalizing n with
 | zero=>simp[be,val];omega
 | succ k ih=>
  rw[be,aKp,ih];have:(UInt8.ofNat (n%256)).toNat=n%256:=by simp
  rw[this,zLQ,zLR (256^k) 256,Nat.mod_mul];omega
theorem aNl(l:List UInt8):val l<256^l.length:=by
 refine aMq (p:=λl=>val l<256^l.length) (by simp[val]) (λl b ih=>?_) l
 ·rw[aKp,jR,zLS,zLQ];have:=b.toNat_lt;have:val l+1≤256^l.length:=ih;have h2:(val l+1)*256≤256^l.length*256:=zLO _ this;omega
theorem aNZ(n:Nat):∀(k i:Nat),i<k->(be n k)[i]? =some (UInt8.ofNat (n/256^(k-1-i)%256))
 | 0,i,h=>by omega
 | k+1,i,h=>by
  rw[be,List.getElem?_append,iD];by_cases hi:i<k
  ·rw[if_pos hi,aNZ (n/256) k i hi,Nat.div_div_eq_div_mul,show k+1-1-i=(k-1-i)+1 by omega,zLQ,zLR 256]
  ·have:i=k:=by omega
   subst this;simp
theorem aIj{n k i:Nat}(hi:i<k):(be n k).take (i+1)=(be n k).take i++[UInt8.ofNat (n/256^(k-1-i)%256)]:=by
 rw[zLT,aNZ n k i hi];rfl
theorem aXv(l:List UInt8):be (val l) l.length=l:=by
 refine aMq (p:=λl=>be (val l) l.length=l) rfl (λl b ih=>?_) l
 ·rw[jR,zLS,be,aKp];have:=b.toNat_lt;have e1:(val l*256+b.toNat)/256=val l:=by omega
  have e2:(val l*256+b.toNat)%256=b.toNat:=by omega
  rw[e1,e2,ih];simp
structure Bx(h:PH)(r:Nat)(cs:List Value):Prop where
 here:∃e,h r=some (.cells cs.toArray e (0,0))
theorem Bx.upd{h h':PH}{r:Nat}{cs:List Value}{G:List Nat}(H:Bx h r cs)(u:cU G h h')(hr:r∉G):Bx h' r cs:=by
 obtain⟨e,h1⟩:=H;exact⟨e,u.get h1 hr⟩
theorem Bx.ext{h h':PH}{r:Nat}{cs:List Value}(H:Bx h r cs)(u:dD h h'):Bx h' r cs:=H.upd u (by simp)
theorem Bx.new{h:PH}{r:Nat}{cs:List Value}{e:TypeId}:Bx (h.set r (.cells cs.toArray e (0,0))) r cs:=⟨e,dM⟩
theorem Bx.cell{h:PH}{r:Nat}{cs:List Value}(H:Bx h r cs)(o:Nat):dF h ⟨r,o,none⟩=cs[o]?:=by
 obtain⟨e,h1⟩:=H;simp[dF,h1]
theorem Bx.known{h:PH}{r:Nat}{cs:List Value}(H:Bx h r cs):h r≠none:=by
 obtain⟨e,h1⟩:=H;rw[h1];simp
theorem Bx.apart{h:PH}{r x:Nat}{cs:List Value}(H:Bx h r cs)(hx:h x=none):r≠x:=λe=>H.known (e▸hx)
section
variable{P:Program}{h:PH}{t:TypeId}
theorem Bx.agg{r n o:Nat}{cs:List Value}(H:Bx h r cs){d:TypeDesc}{i:TypeInfo}(hu:P.underlying t=some d)(hd:aEx d=false)(hi:P.info? t=some i)(hn:i.size=n)(hle:o+n≤cs.length):
  cE P h (loadAt t (pT r o))=some (.agg ((cs.drop o).take n).toArray):=by
 obtain⟨e,h1⟩:=H;rw[pG hu hd hi hn h1 (by simpa using hle)];congr 2;simp[zLx]
theorem Bx.put1{r o:Nat}{cs:List Value}(H:Bx h r cs){d:TypeDesc}{i:TypeInfo}(hu:P.underlying t=some d)(hd:aEx d=true)(hi:P.info? t=some i)(hn:i.size=1){v:Value}(ho:o<cs.length)(hv:eP v=true){k:cD}
  (hk:∀h',Bx h' r (cs.set o v)->cU [r] h h'->k undef h'):cY P (dJ t (pT r o) v) h k:=by
 obtain⟨e,h1⟩:=H;refine iT hu hd h1 (by simpa using ho) hv hi hn ?_;refine hk _ ⟨e,?_⟩ (cU.set (by simp));rw[dM];simp
theorem Bx.putN{r o:Nat}{cs vs:List Value}(H:Bx h r cs){i:TypeInfo}(hi:P.info? t=some i)(hn:i.size=vs.length)(h0:0<vs.length)(ho:o+vs.length≤cs.length)(hv:∀v∈vs,eP v=true){k:cD}
  (hk:∀h',Bx h' r (cs.take o++vs++cs.drop (o+vs.length))->cU [r] h h'->k undef h'):cY P (dJ t (pT r o) (.agg vs.toArray)) h k:=by
 obtain⟨e,h1⟩:=H;refine aOh h1 hi (by simpa using hn) (by simpa using h0) (by simpa using ho) (by simpa using hv) ?_;refine hk _ ⟨e,?_⟩ (cU.set (by simp));rw[dM];congr 2;apply zLv;have:=aBn vs cs.toArray o (by simpa using ho);simpa using this
theorem Bx.fill{r:Nat}{vs:List Value}{i:TypeInfo}(hr:h r=none)(hi:P.info? t=some i)(hn:i.size=vs.length)(h0:0<vs.length)(hz:(dL P t).size=vs.length)(hv:∀v∈vs,eP v=true){k:cD}
  (hk:∀h',Bx h' r vs->dD h h'->k undef h'):cY P (dJ t (pT r 0) (.agg vs.toArray)) (h.set r (.cells (dL P t) t)) k:=by
 refine xF dM hi (by simpa using hn) (by simpa using h0) (by simpa using hz) (by simpa using hv) ?_;rw[aAX];exact hk _ ⟨_,dM⟩ (cU.new hr)
theorem Bx.fill1{r:Nat}{v:Value}{d:TypeDesc}{i:TypeInfo}(hr:h r=none)(hu:P.underlying t=some d)(hd:aEx d=true)(hi:P.info? t=some i)(hn:i.size=1)(hz:(dL P t).size=1)(hv:eP v=true){k:cD}
  (hk:∀h',Bx h' r [v]->dD h h'->k undef h'):cY P (dJ t (pT r 0) v) (h.set r (.cells (dL P t) t)) k:=by
 refine iT hu hd dM (by omega) hv hi hn ?_;rw[aAX];refine hk _ ⟨t,?_⟩ (cU.new hr);rw[dM];congr 2;apply zLv
 match dL P t,hz with
 | ⟨[x]⟩,_=>rfl
theorem Bx.zero{r:Nat}{cs:List Value}(hz:dL P t=cs.toArray):Bx (h.set r (.cells (dL P t) t)) r cs:=by rw[hz];exact Bx.new
end
theorem fR.isc{h:PH}{n:Nat}{v:Value}{rows:List (List Value)}(S:fR h n v rows):eP v=true:=by obtain⟨_,_,e,_⟩:=S.here;rw[e];rfl
theorem fR.upd0{h h':PH}{size:Nat}{v:Value}{rows:List (List Value)}{G:List Nat}(H:fR h size v rows)(u:cU G h h')(hd:rows≠[]->∀a n c,v= .slice (some a) n c->a.block∉G):fR h' size v rows:=by
 refine⟨H.ok,?_⟩;obtain⟨a,c,hv,h1,h2,h3,h4⟩:=H.here;refine⟨a,c,hv,h1,h2,λhne=>?_,h4⟩;obtain⟨b,o,cs,e,fr,ha,hb,hrest⟩:=h3 hne;exact⟨b,o,cs,e,fr,ha,u.get hb (hd hne ⟨b,o,none⟩ _ _ (ha▸hv)),hrest⟩
theorem fR.known{h:PH}{size:Nat}{v:Value}{rows:List (List Value)}(H:fR h size v rows)(hne:rows≠[]){x:Addr}{n c:Nat}(e:v= .slice (some x) n c):h x.block≠none:=by
 obtain⟨a,c',hv,h1,h2,h3,h4⟩:=H.here;obtain⟨b,o,cs,e',fr,ha,hb,_⟩:=h3 hne;rw[hv,ha] at e;simp only[Value.slice.injEq,zL8] at e;rw[←e.1,hb];simp
end Go.Proofs.YtppgkeodaejgcaaGreatDoor
