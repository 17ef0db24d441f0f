/- The texts of this claim, put together. -/
import Derived.Calls
import Derived.Scope
import Derived.Orders
import Derived.RangeFuncLeaves
import Derived.RangeFuncRecord
import Derived.OrdersIn
import Derived.Laws.Sem
import Derived.Laws.Append
import Derived.IntWalk
import Derived.Test.YtiohehjhlghikaaGreatDoorRows
import Derived.ReadAgain
import Derived.ChangeReads
import Derived.ChangeBears
import Derived.RowKit3
import Derived.ChangeSame
import Derived.OpenShut
import Derived.Deep.Slices
import Derived.LaidMore
import Derived.Stop.Joined
import Derived.SevenTiedAt
import Derived.Laws.Strings
set_option linter.all false
set_option maxRecDepth 100000
open Go.Instr (loadAt fieldAt indexAt extract buildSlice build)
namespace Go.Proofs.YtiohehjhlghikaaGreatDoor
section
open Go
def zLa:type_of% @List.drop_succ_cons.{0}:= @List.drop_succ_cons
def zLb:type_of% @List.drop_zero.{0}:= @List.drop_zero
def zLc:type_of% @List.take_succ_cons.{0}:= @List.take_succ_cons
def zLd:type_of% @List.take_zero.{0}:= @List.take_zero
def lT:type_of% @List.cons.injEq.{0}:= @List.cons.injEq
def jW:type_of% @List.mem_cons.{0}:= @List.mem_cons
def zLg:type_of% @List.not_mem_nil.{0}:= @List.not_mem_nil
def kB:type_of% @Nat.zero_add:= @Nat.zero_add
def jF:type_of% @List.map_cons.{0,0}:= @List.map_cons
def kF:type_of% @List.map_nil.{0,0}:= @List.map_nil
def wQ:type_of% @List.mem_append.{0}:= @List.mem_append
def yA:type_of% @Bool.eq_iff_iff:= @Bool.eq_iff_iff
def zLm:type_of% @Int.eq_ofNat_of_zero_le:= @Int.eq_ofNat_of_zero_le
def zLn:type_of% @Bool.false_and:= @Bool.false_and
def zLo:type_of% @Bool.true_and:= @Bool.true_and
def kO:type_of% @List.length_append.{0}:= @List.length_append
def jY:type_of% @List.length_cons.{0}:= @List.length_cons
def zLr:type_of% @List.filter_cons.{0}:= @List.filter_cons
def zLs:type_of% @Bool.false_eq_true:= @Bool.false_eq_true
def zLt:type_of% @List.foldl_cons.{0,0}:= @List.foldl_cons
def zLu:type_of% @Int.toNat_of_nonneg:= @Int.toNat_of_nonneg
def zLv:type_of% @Option.isSome_none.{0}:= @Option.isSome_none
def zLw:type_of% @Array.ext'.{0}:= @Array.ext'
def zLx:type_of% @List.extract_eq_take_drop.{0}:= @List.extract_eq_take_drop
def zLy:type_of% @List.drop_take.{0}:= @List.drop_take
def xZ:type_of% @Int.toNat_natCast:= @Int.toNat_natCast
def zLA:type_of% @List.getElem?_eq_some_iff.{0}:= @List.getElem?_eq_some_iff
def zLB:type_of% @Nat.mod_lt:= @Nat.mod_lt
def jJ:type_of% @List.length_map.{0,0}:= @List.length_map
def zLD:type_of% @Array.toList_extract.{0}:= @Array.toList_extract
def zLE:type_of% @Nat.le_trans:= @Nat.le_trans
def zLF:type_of% @Nat.add_mul:= @Nat.add_mul
def zLG:type_of% @List.flatten_append.{0}:= @List.flatten_append
def zLH:type_of% @List.take_append_of_le_length.{0}:= @List.take_append_of_le_length
def nQ:type_of% @Nat.le_refl:= @Nat.le_refl
def zLJ:type_of% @List.take_length.{0}:= @List.take_length
def zLK:type_of% @List.getElem?_cons_zero.{0}:= @List.getElem?_cons_zero
def zLL:type_of% @List.getElem?_cons_succ.{0}:= @List.getElem?_cons_succ
def lU:type_of% @List.length_nil.{0}:= @List.length_nil
def zLN:type_of% @List.eq_nil_of_length_eq_zero.{0}:= @List.eq_nil_of_length_eq_zero
def yE:type_of% @Nat.mul_le_mul_right:= @Nat.mul_le_mul_right
def zLP:type_of% @Nat.add_zero:= @Nat.add_zero
def zLQ:type_of% @List.append_nil.{0}:= @List.append_nil
def zLR:type_of% @List.take_add_one.{0}:= @List.take_add_one
def tM:type_of% @Bool.and_eq_true:= @Bool.and_eq_true
def zLT:type_of% @List.cons_append.{0}:= @List.cons_append
def zLU:type_of% @List.nil_append.{0}:= @List.nil_append
def jI:type_of% @List.mem_singleton.{0}:= @List.mem_singleton
def xB:type_of% @List.getElem?_map.{0,0}:= @List.getElem?_map
def lG:type_of% @List.getElem?_eq_getElem.{0}:= @List.getElem?_eq_getElem
def zLY:type_of% @List.mem_filter.{0}:= @List.mem_filter
def zLZ:type_of% @List.map_map.{0,0,0}:= @List.map_map
def zL0:type_of% @List.map_congr_left.{0,0}:= @List.map_congr_left
def rS:type_of% @List.mem_map.{0,0}:= @List.mem_map
def xX:type_of% @List.map_append.{0,0}:= @List.map_append
def zL3:type_of% @List.mem_map_of_mem.{0,0}:= @List.mem_map_of_mem
def zL4:type_of% @Option.some.injEq.{0}:= @Option.some.injEq
def mT:type_of% @List.length_take.{0}:= @List.length_take
def zL6:type_of% @List.take_append_drop.{0}:= @List.take_append_drop
def zL7:type_of% @List.take_succ_eq_append_getElem.{0}:= @List.take_succ_eq_append_getElem
def xN:type_of% @List.append_assoc.{0}:= @List.append_assoc
def sU:type_of% @List.take_of_length_le.{0}:= @List.take_of_length_le
def zO:type_of% @List.drop_of_length_le.{0}:= @List.drop_of_length_le
def aKQ:type_of% @Nat.mod_eq_of_lt:= @Nat.mod_eq_of_lt
def wE:type_of% @List.mem_of_getElem?.{0}:= @List.mem_of_getElem?
def aKJ:type_of% @List.all_eq_true.{0}:= @List.all_eq_true
def kD:type_of% @List.length_drop.{0}:= @List.length_drop
def aJY:type_of% @Bool.and_false:= @Bool.and_false
def aHT:type_of% @List.length_replicate.{0}:= @List.length_replicate
def aMf:type_of% @Option.isNone_some.{0}:= @Option.isNone_some
def aEv:type_of% @List.getElem?_take.{0}:= @List.getElem?_take
def aGb:type_of% @Nat.min_eq_left:= @Nat.min_eq_left
def aEw:type_of% @List.flatten_cons.{0}:= @List.flatten_cons
def mK:type_of% @Nat.zero_le:= @Nat.zero_le
def aKL:type_of% @List.length_pos_iff.{0}:= @List.length_pos_iff
def aBE:type_of% @List.drop_eq_getElem_cons.{0}:= @List.drop_eq_getElem_cons
def aCw:type_of% @Nat.add_sub_cancel_left:= @Nat.add_sub_cancel_left
def rQ:type_of% @List.drop_drop.{0}:= @List.drop_drop
def aLC:type_of% @Option.map_some.{0,0}:= @Option.map_some
def aNq:type_of% @Option.isSome_some.{0}:= @Option.isSome_some
def aAR:type_of% @Option.bind_some.{0,0}:= @Option.bind_some
def aJV:type_of% @List.take_take.{0}:= @List.take_take
def aCz:type_of% @List.getD_eq_getElem?_getD.{0}:= @List.getD_eq_getElem?_getD
def aJ4:type_of% @List.getElem?_drop.{0}:= @List.getElem?_drop
def aMR:type_of% @List.ext_getElem?.{0}:= @List.ext_getElem?
def aJS:type_of% @Nat.sub_self:= @Nat.sub_self
def aKx:type_of% @Array.getElem?_toList.{0}:= @Array.getElem?_toList
def aIQ:type_of% @List.getElem_mem.{0}:= @List.getElem_mem
def aJ2:type_of% @List.mem_cons_of_mem.{0}:= @List.mem_cons_of_mem
def aKN:type_of% @List.mem_of_mem_erase.{0}:= @List.mem_of_mem_erase
def aHY:type_of% @List.mem_range:= @List.mem_range
def aHZ:type_of% @Option.bind_eq_some_iff.{0,0}:= @Option.bind_eq_some_iff
def aIe:type_of% @Array.getElem?_eq_some_iff.{0}:= @Array.getElem?_eq_some_iff
def aNb:type_of% @Nat.pow_le_pow_right:= @Nat.pow_le_pow_right
def aNz:type_of% @Nat.lt_of_lt_of_le:= @Nat.lt_of_lt_of_le
def aHb:type_of% @Bool.or_eq_true:= @Bool.or_eq_true
def aGT:type_of% @List.nodup_cons.{0}:= @List.nodup_cons
def aFv:type_of% @Array.getD_eq_getD_getElem?.{0}:= @Array.getD_eq_getD_getElem?
def aJe:type_of% @List.forall_mem_map.{0,0}:= @List.forall_mem_map
def aMh:type_of% @List.filter_eq_self.{0}:= @List.filter_eq_self
@[match_pattern] abbrev pT (r o:Nat):Value:=.pointer (some ⟨r,o,none⟩)
abbrev PH:=Nat->Option Obj
abbrev dI:=Value->PH->Prop
abbrev iC:=List Value->PH->Prop
def PH.set(h:PH)(r:Nat)(o:Obj):PH:=λb=>if b=r then some o else h b
def eA(h:PH)(a:Addr):Option Value:=
 match h a.block with
 | some (.cells c _ _)=>if a.spot.isSome then none else c[a.off]?
 | _=>none
def uA(h:PH)(a:Addr):Bool:=
 match h a.block with
 | some (.cells _ _ (lo,hi))=>lo≤a.off&&a.off<hi
 | _=>false
def sG(h:PH)(a:Addr)(v:Value):PH:=λb=>
 if b=a.block then
  match h b with
  | some (.cells c e fr)=>some (.cells (if a.spot.isSome then c else c.setIfInBounds a.off v) e fr)
  | o=>o
 else h b
def nC(h:PH)(a:Addr)(n:Nat):PH:=λb=>
 if n=0 then h b else
 if b=a.block then
  match h b with
  | some (.cells c elem (lo,hi))=>some (.cells c elem (if lo==hi then(a.off,a.off+n) else(min lo a.off,max hi (a.off+n))))
  | o=>o
 else h b
def kE(h:PH)(r:Nat):Option (Option (TypeId×Nat)):=
 match h r with
 | some (.cells c elem _)=>some (some (elem,c.size))
 | some _=>some none
 | none=>none
def gN:Value->Bool
 | .agg _ | .tuple _=>false
 | _=>true
def qA(h:PH)(w:World):Prop:=∀b o,h b=some o->w.heap[b]? =some o
structure Fr(h:PH)(w:World)(h':PH)(w':World):Prop where
 os:w'.os=w.os
 tape:w'.tape=w.tape
 output:w'.output=w.output
 drawn:w.drawn≤w'.drawn
 size:w.heap.size≤w'.heap.size
 far:∀b,b<w.heap.size->h b=none->w'.heap[b]? =w.heap[b]?
 none:∀b,b<w.heap.size->h b=Option.none->h' b=Option.none
def Fr.refl(h:PH)(w:World):Fr h w h w:=⟨rfl,rfl,rfl,nQ _,nQ _,λ_ _ _=>rfl,λ_ _ h=>h⟩
def Fr.trans{h h1 h2:PH}{w w1 w2:World}(a:Fr h w h1 w1)(b:Fr h1 w1 h2 w2):Fr h w h2 w2:=
 ⟨b.os.trans a.os,b.tape.trans a.tape,b.output.trans a.output,zLE a.drawn b.drawn,zLE a.size b.size,
  λi hi hn=>(b.far i (aNz hi a.size) (a.none i hi hn)).trans (a.far i hi hn),
  λi hi hn=>b.none i (aNz hi a.size) (a.none i hi hn)⟩
def qA.lt{h:PH}{w:World}(hs:qA h w){b:Nat}{o:Obj}(hb:h b=some o):b<w.heap.size:=
 (aIe.1 (hs b o hb)).1
def qA.fresh{h:PH}{w:World}(hs:qA h w):h w.heap.size=none:=by
 cases hb:h w.heap.size with
 | none=>rfl
 | some o=>exact absurd (hs.lt hb) (Nat.lt_irrefl _)
def dT(P:Program){α:Type}:Sem α->PH->(α->PH->Prop)->Prop
 | .pure a,h,Q=>Q a h
 | .load _ a k,h,Q=>∃v,eA h a=some v∧dT P (k v) h Q
 | .store _ a v k,h,Q=>gN v=true∧uA h a=false∧(∃u,eA h a=some u)∧dT P k (sG h a v) Q
 | .new o k,h,Q=>∀r,h r=none->dT P (k r) (h.set r o) Q
 | .shape r k,h,Q=>∃s,kE h r=some s∧dT P (k s) h Q
 | .freeze a n k,h,Q=>(∃o,h a.block=some o)∧dT P k (nC h a n) Q
 | .frozen a k,h,Q=>(∃o,h a.block=some o)∧dT P (k (uA h a)) h Q
 | .getObj r k,h,Q=>∃o,h r=some o∧(∀c e f,o≠ .cells c e f)∧dT P (k o) h Q
 | .setObj r o k,h,Q=>(∃u,h r=some u∧(∀c e f,u≠ .cells c e f))∧dT P k (h.set r o) Q
 | .choose q k,h,Q=>∀t,dT P (k (if q.forced then 0 else q.cut t)) h Q
 | .sys _ _,_,_=>False
 | .program k,h,Q=>dT P (k P) h Q
 | .mark _ k,h,Q=>dT P k h Q
 | .halt _,_,_=>False
def dH(P:Program){α:Type}(h:PH):Sem α->Option α
 | .pure a=>some a
 | .load _ a k=>(eA h a).bind λv=>dH P h (k v)
 | .shape r k=>(kE h r).bind λs=>dH P h (k s)
 | .frozen a k=>(h a.block).bind λ_=>dH P h (k (uA h a))
 | .program k=>dH P h (k P)
 | .mark _ k=>dH P h k
 | .getObj r k=>match h r with
  | some (.cells ..)=>none
  | some o=>dH P h (k o)
  | none=>none
 | _=>none
def dE(P:Program){α:Type}:Sem α->Option α
 | .pure a=>some a
 | .program k=>dE P (k P)
 | .mark _ k=>dE P k
 | _=>none
def dT.mono{P:Program}{α:Type}{s:Sem α}:∀{h:PH} {Q Q':α->PH->Prop},dT P s h Q->(∀a h,Q a h->Q' a h)->dT P s h Q':=by
 induction s with
 | pure a=>intro h Q Q' hh hq;exact hq _ _ hh
 | load m a k ih=>rintro h Q Q' ⟨v,hv,hh⟩ hq;exact⟨v,hv,ih v hh hq⟩
 | store m a v k ih=>rintro h Q Q' ⟨h1,h2,h3,hh⟩ hq;exact⟨h1,h2,h3,ih hh hq⟩
 | new o k ih=>intro h Q Q' hh hq r hr;exact ih r (hh r hr) hq
 | shape r k ih=>rintro h Q Q' ⟨v,hv,hh⟩ hq;exact⟨v,hv,ih v hh hq⟩
 | freeze a n k ih=>rintro h Q Q' ⟨h1,hh⟩ hq;exact⟨h1,ih hh hq⟩
 | frozen a k ih=>rintro h Q Q' ⟨h1,hh⟩ hq;exact⟨h1,ih _ hh hq⟩
 | getObj r k ih=>rintro h Q Q' ⟨o,ho,hc,hh⟩ hq;exact⟨o,ho,hc,ih o hh hq⟩
 | setObj r o k ih=>rintro h Q Q' ⟨h1,hh⟩ hq;exact⟨h1,ih hh hq⟩
 | choose q k ih=>intro h Q Q' hh hq t;exact ih _ (hh t) hq
 | sys c k ih=>intro h Q Q' hh;exact hh.elim
 | program k ih=>intro h Q Q' hh hq;exact ih P hh hq
 | mark m k ih=>intro h Q Q' hh hq;exact ih hh hq
 | halt x=>intro h Q Q' hh;exact hh.elim
def dT.bind{P:Program}{α β:Type}{s:Sem α}{f:α->Sem β}:∀{h:PH} {Q:β->PH->Prop},dT P s h (λa h'=>dT P (f a) h' Q)->dT P (s.bind f) h Q:=by
 induction s with
 | pure a=>intro h Q hh;exact hh
 | load m a k ih=>rintro h Q ⟨v,hv,hh⟩;exact⟨v,hv,ih v hh⟩
 | store m a v k ih=>rintro h Q ⟨h1,h2,h3,hh⟩;exact⟨h1,h2,h3,ih hh⟩
 | new o k ih=>intro h Q hh r hr;exact ih r (hh r hr)
 | shape r k ih=>rintro h Q ⟨v,hv,hh⟩;exact⟨v,hv,ih v hh⟩
 | freeze a n k ih=>rintro h Q ⟨h1,hh⟩;exact⟨h1,ih hh⟩
 | frozen a k ih=>rintro h Q ⟨h1,hh⟩;exact⟨h1,ih _ hh⟩
 | getObj r k ih=>rintro h Q ⟨o,ho,hc,hh⟩;exact⟨o,ho,hc,ih o hh⟩
 | setObj r o k ih=>rintro h Q ⟨h1,hh⟩;exact⟨h1,ih hh⟩
 | choose q k ih=>intro h Q hh t;exact ih _ (hh t)
 | sys c k ih=>intro h Q hh;exact hh.elim
 | program k ih=>intro h Q hh;exact ih P hh
 | mark m k ih=>intro h Q hh;exact ih hh
 | halt x=>intro h Q hh;exact hh.elim
def dE.semE{P:Program}{α:Type}{s:Sem α}:∀{a:α},dE P s=some a->∀h,dH P h s=some a:=by
 induction s with
 | pure a=>intro b hb h;exact hb
 | program k ih=>intro b hb h;exact ih P hb h
 | mark m k ih=>intro b hb h;exact ih hb h
 | _=>intro b hb;cases hb
def dH.semH{P:Program}{α:Type}{s:Sem α}:∀{a:α} {h:PH},dH P h s=some a->∀{Q:α->PH->Prop},Q a h->dT P s h Q:=by
 induction s with
 | pure a=>intro b h hb Q hq;simp only[dH,zL4] at hb;subst hb;exact hq
 | load m a k ih=>intro b h hb Q hq;obtain⟨v,hv,hb⟩:=aHZ.1 hb;exact⟨v,hv,ih v hb hq⟩
 | shape r k ih=>intro b h hb Q hq;obtain⟨v,hv,hb⟩:=aHZ.1 hb;exact⟨v,hv,ih v hb hq⟩
 | frozen a k ih=>intro b h hb Q hq;obtain⟨v,hv,hb⟩:=aHZ.1 hb;exact⟨⟨v,hv⟩,ih _ hb hq⟩
 | program k ih=>intro b h hb Q hq;exact ih P hb hq
 | mark m k ih=>intro b h hb Q hq;exact ih hb hq
 | getObj r k ih=>
  intro b h hb Q hq;simp only[dH] at hb;split at hb
  ·cases hb
  ·rename_i o ho hr;exact⟨o,hr,λc e f hc=>ho c e f hc,ih o hb hq⟩
  ·cases hb
 | _=>intro b h hb;cases hb
def qA.cell{h:PH}{w:World}(hs:qA h w){a:Addr}{v:Value}(hv:eA h a=some v):w.cell? a=some v:=by
 unfold eA at hv;split at hv
 ·rename_i c e f hb;unfold World.cell?;rw[hs _ _ hb];exact hv
 ·cases hv
def qA.shape{h:PH}{w:World}(hs:qA h w){r:Nat}{s:Option (TypeId×Nat)}(hv:kE h r=some s):w.shape? r=s:=by
 unfold kE at hv;unfold World.shape?;split at hv
 ·rename_i c e f hb;rw[hs _ _ hb];simpa using hv
 ·rename_i o hne hb;rw[hs _ _ hb];simp only[zL4] at hv;subst hv;split
  ·rename_i c e f hc;simp only[zL4] at hc;subst hc;exact absurd hb (by simpa using hne c e f)
  ·rfl
 ·cases hv
def qA.frozen{h:PH}{w:World}(hs:qA h w){a:Addr}{o:Obj}(ho:h a.block=some o):w.frozen? a=uA h a:=by
 unfold World.frozen? uA;rw[hs _ _ ho,ho];cases o<;>rfl
def aOf(w:World)(o:Obj)(b:Nat):({w with heap:=w.heap.push o}:World).heap[b]? =if b=w.heap.size then some o else w.heap[b]?:=by
 simp only[Array.getElem?_push]
def qA.new{h:PH}{w:World}(hs:qA h w)(o:Obj):qA (h.set w.heap.size o) {w with heap:=w.heap.push o}∧Fr h w (h.set w.heap.size o) {w with heap:=w.heap.push o}:=by
 refine⟨λb u hb=>?_,rfl,rfl,rfl,nQ _,by simp,λb hb hn=>?_,λb hb hn=>?_⟩
 ·rw[aOf];unfold PH.set at hb;split at hb
  ·rename_i e;rw[if_pos e];exact hb
  ·rename_i e;rw[if_neg e];exact hs b u hb
 ·rw[aOf,if_neg (Nat.ne_of_lt hb)]
 ·unfold PH.set;rw[if_neg (Nat.ne_of_lt hb)];exact hn
def qA.modify{h:PH}{w:World}(hs:qA h w)(g:Nat)(f:Obj->Obj)(h':PH)(hh:∀b,h' b=if b=g then(h b).map f else h b){o:Obj}(hg:h g=some o):
  qA h' {w with heap:=w.heap.modify g f}∧Fr h w h' {w with heap:=w.heap.modify g f}:=by
 refine⟨λb u hb=>?_,rfl,rfl,rfl,nQ _,by simp,λb hb hn=>?_,λb hb hn=>?_⟩
 ·rw[hh] at hb;simp only[Array.getElem?_modify];by_cases e:b=g
  ·subst e;simp only[if_true,hg,aLC,zL4] at hb;subst hb;simp[hs _ _ hg]
  ·rw[if_neg e] at hb;rw[if_neg (Ne.symm e)];exact hs b u hb
 ·have e:g≠b:=λe=>by subst e;rw[hg] at hn;cases hn
  simp only[Array.getElem?_modify,if_neg e]
 ·rw[hh];by_cases e:b=g
  ·subst e;rw[hg] at hn;cases hn
  ·rw[if_neg e];exact hn
def aEW{h:PH}{a:Addr}{v:Value}(hv:eA h a=some v):∃c e f,h a.block=some (.cells c e f):=by
 unfold eA at hv;split at hv
 ·rename_i c e f hb;exact⟨c,e,f,hb⟩
 ·cases hv
def dT.sound{P:Program}{α:Type}{s:Sem α}:∀{h:PH} {Q:α->PH->Prop},dT P s h Q->∀{w:World},qA h w->
  ∃a w' h',s.run P w= .ok a w'∧Q a h'∧qA h' w'∧Fr h w h' w':=by
 induction s with
 | pure a=>intro h Q hh w hs;exact⟨a,w,h,rfl,hh,hs,Fr.refl _ _⟩
 | load m a k ih=>
  rintro h Q ⟨v,hv,hh⟩ w hs;obtain⟨x,w',h',hr,hrest⟩:=ih v hh hs;exact⟨x,w',h',by simp only[Sem.run,hs.cell hv];exact hr,hrest⟩
 | store m a v k ih=>
  rintro h Q ⟨h1,h2,⟨u,hu⟩,hh⟩ w hs;obtain⟨c,e,f,hb⟩:=aEW hu;have hm:=hs.modify a.block (fun | .cells c elem frozen=>.cells (if a.spot.isSome then c else c.setIfInBounds a.off v) elem frozen|o=>o) (sG h a v)
   (by
     intro b;unfold sG;split
     ·cases h b with
      | none=>rfl
      | some o=>cases o<;>rfl
     ·rfl) hb
  obtain⟨x,w',h',hr,hq,hs',hf⟩:=ih hh hm.1;refine⟨x,w',h',?_,hq,hs',hm.2.trans hf⟩;have hfz:w.frozen? a=false:=by rw[hs.frozen hb];exact h2
  cases v<;>simp[gN] at h1<;>simp only[Sem.run,hs.cell hu,hfz]<;>exact hr
 | new o k ih=>
  intro h Q hh w hs;have hn:=hs.new o;obtain⟨x,w',h',hr,hq,hs',hf⟩:=ih _ (hh _ hs.fresh) hn.1;exact⟨x,w',h',hr,hq,hs',hn.2.trans hf⟩
 | shape r k ih=>
  rintro h Q ⟨v,hv,hh⟩ w hs;obtain⟨x,w',h',hr,hrest⟩:=ih v hh hs;exact⟨x,w',h',by simp only[Sem.run,hs.shape hv];exact hr,hrest⟩
 | freeze a n k ih=>
  rintro h Q ⟨⟨o,ho⟩,hh⟩ w hs;by_cases hn:n=0
  ·have e:nC h a n=h:=by funext b;simp[nC,hn]
   rw[e] at hh;obtain⟨x,w',h',hr,hrest⟩:=ih hh hs;exact⟨x,w',h',by simp only[Sem.run,World.freeze,hn,if_true];exact hr,hrest⟩
  ·have hm:=hs.modify a.block (fun | .cells c elem (lo,hi)=>.cells c elem (if lo==hi then(a.off,a.off+n) else(min lo a.off,max hi (a.off+n)))|o=>o) (nC h a n)
    (by
      intro b;unfold nC;rw[if_neg hn];split
      ·cases h b with
       | none=>rfl
       | some o=>cases o<;>rfl
      ·rfl) ho
   obtain⟨x,w',h',hr,hq,hs',hf⟩:=ih hh hm.1;exact⟨x,w',h',by simp only[Sem.run,World.freeze,hn,if_false];exact hr,hq,hs',hm.2.trans hf⟩
 | frozen a k ih=>
  rintro h Q ⟨⟨o,ho⟩,hh⟩ w hs;obtain⟨x,w',h',hr,hrest⟩:=ih _ hh hs;exact⟨x,w',h',by simp only[Sem.run,hs.frozen ho];exact hr,hrest⟩
 | getObj r k ih=>
  rintro h Q ⟨o,ho,hc,hh⟩ w hs;obtain⟨x,w',h',hr,hrest⟩:=ih _ hh hs;refine⟨x,w',h',?_,hrest⟩;simp only[Sem.run,hs _ _ ho];cases o<;>first|exact absurd rfl (hc _ _ _)|exact hr
 | setObj r o k ih=>
  rintro h Q ⟨⟨u,hu,hc⟩,hh⟩ w hs;have hlt:=hs.lt hu;have hm:=hs.modify r (λ_=>o) (h.set r o) (λb=>by
   unfold PH.set;split
   ·rename_i e;subst e;rw[hu];rfl
   ·rfl) hu
  have he:w.heap.modify r (λ_=>o)=w.heap.setIfInBounds r o:=by
   apply Array.ext_getElem?;intro i;simp only[Array.getElem?_modify,Array.getElem?_setIfInBounds];by_cases e:r=i
   ·subst e;simp[hlt]
   ·simp[e]
  rw[he] at hm;obtain⟨x,w',h',hr,hq,hs',hf⟩:=ih hh hm.1;refine⟨x,w',h',?_,hq,hs',hm.2.trans hf⟩;simp only[Sem.run,hs _ _ hu];cases u<;>first|exact absurd rfl (hc _ _ _)|exact hr
 | choose q k ih=>
  intro h Q hh w hs;by_cases hq:q.forced
  ·have h0:=hh 0;simp only[hq,if_true] at h0;obtain⟨x,w',h',hr,hrest⟩:=ih _ h0 hs;exact⟨x,w',h',by simp only[Sem.run,hq,if_true];exact hr,hrest⟩
  ·have h0:=hh (w.tape w.drawn q);simp only[hq] at h0;have hs1:qA h {w with drawn:=w.drawn+1}:=hs;obtain⟨x,w',h',hr,hqq,hs',hf⟩:=ih _ h0 hs1;exact⟨x,w',h',by simp only[Sem.run,hq];exact hr,hqq,hs',⟨hf.os,hf.tape,hf.output,zLE (Nat.le_succ _) hf.drawn,hf.size,hf.far,hf.none⟩⟩
 | sys c k ih=>intro h Q hh;exact hh.elim
 | program k ih=>
  intro h Q hh w hs;obtain⟨x,w',h',hr,hrest⟩:=ih P hh hs;exact⟨x,w',h',hr,hrest⟩
 | mark m k ih=>
  intro h Q hh w hs;obtain⟨x,w',h',hr,hrest⟩:=ih hh hs;exact⟨x,w',h',hr,hrest⟩
 | halt x=>intro h Q hh;exact hh.elim
def dT.frame{P:Program}{α:Type}{s:Sem α}(r:Nat)(o:Obj):∀{h:PH} {Q:α->PH->Prop},dT P s h Q->h r=none->
  dT P s (h.set r o) (λa h2=>∃h1:PH,h2=h1.set r o∧h1 r=none∧Q a h1):=by
 have hset:∀(h:PH) b,h r=none->(∃u,h b=some u)->(h.set r o) b=h b:=by
  intro h b hr ⟨u,hu⟩;unfold PH.set;rw[if_neg];rintro rfl;rw[hr] at hu;cases hu
 induction s with
 | pure a=>intro h Q hh hr;exact⟨h,rfl,hr,hh⟩
 | load m a k ih=>
  rintro h Q ⟨v,hv,hh⟩ hr;obtain⟨c,e,f,hb⟩:=aEW hv;exact⟨v,by unfold eA at *;rw[hset h _ hr ⟨_,hb⟩];exact hv,ih v hh hr⟩
 | store m a v k ih=>
  rintro h Q ⟨h1,h2,⟨u,hu⟩,hh⟩ hr;obtain⟨c,e,f,hb⟩:=aEW hu;have hne:a.block≠r:=by rintro rfl;rw[hr] at hb;cases hb
  refine⟨h1,by unfold uA at *;rw[hset h _ hr ⟨_,hb⟩];exact h2,⟨u,by unfold eA at *;rw[hset h _ hr ⟨_,hb⟩];exact hu⟩,?_⟩;have he:sG (h.set r o) a v=(sG h a v).set r o:=by
   funext b;unfold sG PH.set;by_cases e1:b=r
   ·subst e1;simp[Ne.symm hne]
   ·simp[e1]
  rw[he];exact ih hh (by unfold sG;rw[if_neg (Ne.symm hne)];exact hr)
 | new o' k ih=>
  intro h Q hh hr r' hr';have hne:r'≠r:=by rintro rfl;simp[PH.set] at hr'
  have hr2:h r'=none:=by unfold PH.set at hr';rw[if_neg hne] at hr';exact hr'
  have he:(h.set r o).set r' o'=(h.set r' o').set r o:=by
   funext b;unfold PH.set;by_cases e1:b=r'
   ·subst e1;simp[hne]
   ·simp[e1]
  rw[he];exact ih r' (hh r' hr2) (by unfold PH.set;rw[if_neg (Ne.symm hne)];exact hr)
 | shape r' k ih=>
  rintro h Q ⟨v,hv,hh⟩ hr;have hb:∃u,h r'=some u:=by
   unfold kE at hv;cases hx:h r' with
   | none=>rw[hx] at hv;cases hv
   | some u=>exact⟨u,rfl⟩
  exact⟨v,by unfold kE at *;rw[hset h _ hr hb];exact hv,ih v hh hr⟩
 | freeze a n k ih=>
  rintro h Q ⟨⟨u,hu⟩,hh⟩ hr;have hne:a.block≠r:=by rintro rfl;rw[hr] at hu;cases hu
  refine⟨⟨u,by rw[hset h _ hr ⟨_,hu⟩];exact hu⟩,?_⟩;have he:nC (h.set r o) a n=(nC h a n).set r o:=by
   funext b;unfold nC PH.set;by_cases e1:b=r
   ·subst e1;simp[Ne.symm hne]
   ·simp[e1]
  rw[he];exact ih hh (by unfold nC;simp[Ne.symm hne,hr])
 | frozen a k ih=>
  rintro h Q ⟨⟨u,hu⟩,hh⟩ hr;have hb:=hset h _ hr ⟨_,hu⟩;refine⟨⟨u,by rw[hb];exact hu⟩,?_⟩;have:uA (h.set r o) a=uA h a:=by unfold uA;rw[hb]
  rw[this];exact ih _ hh hr
 | getObj r' k ih=>
  rintro h Q ⟨u,hu,hc,hh⟩ hr;exact⟨u,by rw[hset h _ hr ⟨_,hu⟩];exact hu,hc,ih _ hh hr⟩
 | setObj r' o' k ih=>
  rintro h Q ⟨⟨u,hu,hc⟩,hh⟩ hr;have hne:r'≠r:=by rintro rfl;rw[hr] at hu;cases hu
  refine⟨⟨u,by rw[hset h _ hr ⟨_,hu⟩];exact hu,hc⟩,?_⟩;have he:(h.set r o).set r' o'=(h.set r' o').set r o:=by
   funext b;unfold PH.set;by_cases e1:b=r'
   ·subst e1;simp[hne]
   ·simp[e1]
  rw[he];exact ih hh (by unfold PH.set;rw[if_neg (Ne.symm hne)];exact hr)
 | choose q k ih=>intro h Q hh hr t;exact ih _ (hh t) hr
 | sys c k ih=>intro h Q hh;exact hh.elim
 | program k ih=>intro h Q hh hr;exact ih P hh hr
 | mark m k ih=>intro h Q hh hr;exact ih hh hr
 | halt x=>intro h Q hh;exact hh.elim
abbrev lR:=Nat->Value
def upd(ρ:lR)(d:Option Tmp)(v:Value):lR:=match d with
 | some d=>λt=>if t=d then v else ρ t
 | none=>ρ
def ev(ρ:lR):Operand->Value
 | .tmp t=>ρ t
 | .const v=>v
 | .global g=>pT g 0
 | .func f=>.func (.func f) #[] #[]
def dH.of_semH{P:Program}{α:Type}{s:Sem α}:∀{a:α} {h:PH} {Q:α->PH->Prop},dH P h s=some a->dT P s h Q->Q a h:=by
 induction s with
 | pure a=>intro b h Q hb hh;simp only[dH,zL4] at hb;subst hb;exact hh
 | load m a k ih=>rintro b h Q hb ⟨v,hv,hh⟩;simp only[dH,hv,aAR] at hb;exact ih v hb hh
 | shape r k ih=>rintro b h Q hb ⟨v,hv,hh⟩;simp only[dH,hv,aAR] at hb;exact ih v hb hh
 | frozen a k ih=>rintro b h Q hb ⟨⟨v,hv⟩,hh⟩;simp only[dH,hv,aAR] at hb;exact ih _ hb hh
 | program k ih=>intro b h Q hb hh;exact ih P hb hh
 | mark m k ih=>intro b h Q hb hh;exact ih hb hh
 | getObj r k ih=>
  rintro b h Q hb ⟨o,ho,hc,hh⟩;simp only[dH,ho] at hb;cases o<;>first|exact absurd rfl (hc _ _ _)|exact ih _ hb hh
 | _=>intro b h Q hb;cases hb
def aDP(P:Program)(f:FuncId):Bool:=match P.funcs[f]? with
 | some fn=>!(fn.name == "runtime.NumGoroutine") && !fn.body.isNone
 | none=>false
def bR(P:Program)(f:FuncId)(args:Array Value)(h:PH)(R:dI):Prop:=
 (aDP P f=true∧∀w,qA h w->Calls P f args w λe w'=>∃v h',e= .returned v∧R v h'∧qA h' w'∧Fr h w h' w')∨
 dT P (callFunc f args) h λn h'=>∃v,n= .value v∧R v h'
def bR.mono{P:Program}{f:FuncId}{args:Array Value}{h:PH}{R R':dI}(hc:bR P f args h R)(hr:∀v h,R v h->R' v h):bR P f args h R':=by
 rcases hc with⟨h1,h2⟩|hs
 ·exact .inl ⟨h1,λw hs=>(h2 w hs).mono λ_ _ ⟨v,h',e,r,rest⟩=>⟨v,h',e,hr _ _ r,rest⟩⟩
 ·exact .inr (hs.mono λn h' ⟨v,e,hv⟩=>⟨v,e,hr _ _ hv⟩)
def bR.entry{P:Program}{f:FuncId}{args:Array Value}{h:PH}{R:dI}{v:Value}(e:dH P h (callFunc f args)=some (.value v))(hv:R v h):bR P f args h R:=.inr (dH.semH e ⟨v,rfl,hv⟩)
def tG(P:Program)(n:Next)(h:PH)(kv:dI):Prop:=match n with
 | .value v=>kv v h
 | .skip=>kv undef h
 | .enter f args=>∀w,qA h w->Calls P f args w λe w'=>∃v h',e= .returned v∧kv v h'∧qA h' w'∧Fr h w h' w'
 | .round l f tmps assign body=>∀w,qA h w->RoundIn Fence.wide 0 P l f tmps assign body w λe w'=>∃v h',e= .returned v∧kv v h'∧qA h' w'∧Fr h w h' w'
 | _=>False
def tG.mono{P:Program}{n:Next}{h:PH}{k k':dI}(hn:tG P n h k)(hk:∀v h,k v h->k' v h):tG P n h k':=by
 cases n<;>first
  | exact hk _ _ hn
  | exact λw hs=>Calls.mono (hn w hs) λ_ _ ⟨v,h',e,r,rest⟩=>⟨v,h',e,hk _ _ r,rest⟩
  | exact λw hs=>RoundIn.mono (hn w hs) λ_ _ ⟨v,h',e,r,rest⟩=>⟨v,h',e,hk _ _ r,rest⟩
  | exact hn.elim
def dA{α:Type}(x:Option α)(k:α->Prop):Prop:=match x with
 | some v=>k v
 | none=>False
def gJ{α:Type}{x:Option α}{k:α->Prop}:dA x k↔∃v,x=some v∧k v:=by
 cases x<;>simp[dA]
def gA(c a b:Value):Option Value:=match c with
 | .bool true=>some a
 | .bool false=>some b
 | _=>none
def lH(P:Program){α:Type}:Sem α->Option (Obj×(Nat->Sem α))
 | .new o k=>some (o,k)
 | .program k=>lH P (k P)
 | .mark _ k=>lH P k
 | _=>none
def lH.semH{P:Program}{α:Type}{s:Sem α}:∀{o:Obj} {k:Nat->Sem α},lH P s=some (o,k)->∀{h:PH} {Q:α->PH->Prop},
  (∀r,h r=none->dT P (k r) (h.set r o) Q)->dT P s h Q:=by
 induction s with
 | new o k ih=>intro o' k' hb h Q hq;simp only[lH,zL4,Prod.mk.injEq] at hb;obtain⟨rfl,rfl⟩:=hb;exact hq
 | program k ih=>intro o' k' hb h Q hq;exact ih P hb hq
 | mark m k ih=>intro o' k' hb h Q hq;exact ih hb hq
 | _=>intro o' k' hb;cases hb
inductive Cls where
 | p|r|a|e
 deriving DecidableEq,Repr
def mG(P:Program):Op->Cls
 | .move _ | .assign _ | .pick .. | .nilCheck _ | .unOp .. | .fieldAddr .. | .field .. | .indexAddr .. | .index .. | .slice .. | .extract .. | .makeFunc .. | .build .. | .makeInterface .. =>.p
 | .binOp op .. =>match op with
  | .eql | .neq=>.r
  | _=>.p
 | .load .. | .lookup .. =>.r
 | .convert _ dst _=>match P.underlying dst with
  | some (.int _)=>.p
  | some .string=>.r
  | _=>.e
 | .alloc .. | .box .. | .buildSlice .. | .makeMap .. | .makeSlice .. =>.a
 | .call c=>match c.callee with
  | .builtin .len=>match (c.argTypes[0]?).bind P.underlying with
   | some (.map ..)=>.r
   | _=>.p
  | .builtin .min | .builtin .max | .builtin .cap=>.p
  | _=>.e
 | _=>.e
def uN(ρ:lR)(o:Oper):Sem Value:=match o.op with
 | .move x | .assign x=>pure (ev ρ x)
 | .pick c a b=>do pure (if ←asBool (ev ρ c) then ev ρ a else ev ρ b)
 | .alloc elem=>Instr.alloc elem true (.tuple #[])
 | .box elem x=>Instr.box elem (ev ρ x)
 | .build t parts=>build t (parts.map λ(i,x)=>(i,ev ρ x))
 | .buildSlice t len parts=>buildSlice t len (parts.map λ(i,x)=>(i,ev ρ x))
 | .load t a=>loadAt t (ev ρ a)
 | .nilCheck x=>
  match ev ρ x with
  | .pointer none | .nilIface | .nilFunc=>.halt (.stuck "nil")
  | .func (.method _) _ _=>.halt (.stuck "method")
  | x=>pure x
 | .binOp op xType x y _=>do eqGuard op xType x y (ev ρ x) (ev ρ y);binOp op xType (ev ρ x) (ev ρ y)
 | .unOp op _ x=>Op.unary op (ev ρ x)
 | .convert src dst x=>convert src dst (ev ρ x)
 | .makeInterface xType x=>Instr.makeInterface xType (ev ρ x)
 | .makeFunc fn first captured=>Instr.makeFunc fn (first.map (ev ρ)) (captured.map (ev ρ))
 | .makeMap t r=>Instr.makeMap t (r.map (ev ρ))
 | .makeSlice t l c=>Instr.makeSlice t (ev ρ l) (ev ρ c)
 | .slice t x lo hi mx=>Instr.sliceAt t (ev ρ x) (lo.map (ev ρ)) (hi.map (ev ρ)) (mx.map (ev ρ))
 | .fieldAddr s x f=>fieldAt s (ev ρ x) f
 | .field xType x f=>Instr.field xType (ev ρ x) f
 | .indexAddr t x ix=>indexAt t (ev ρ x) (ev ρ ix)
 | .index xType x ix=>Instr.index xType (ev ρ x) (ev ρ ix)
 | .lookup xType x ix ok=>Instr.lookup xType (ev ρ x) (ev ρ ix) ok
 | .extract t ix=>extract (ev ρ t) ix
 | .range xType x=>Instr.range xType (ev ρ x)
 | .next it isString=>Instr.next (ev ρ it) isString o.type
 | .entry it=>Instr.entry (ev ρ it)
 | .mapEntry t m k=>Instr.mapEntry t (ev ρ m) (ev ρ k)
 | .typeAssert x xType asserted ok=>Instr.typeAssert (ev ρ x) xType asserted ok
 | .store t a x=>do Instr.storeAt t (ev ρ a) (ev ρ x);pure undef
 | .mapUpdate t m k x | .insert t m k x=>do Instr.mapUpdate t (ev ρ m) (ev ρ k) (ev ρ x);pure undef
 | .entryStore t m s x=>do Instr.entryStore t (ev ρ m) (ev ρ s) (ev ρ x);pure undef
 | .call c=>match c.callee with
  | .builtin .append=>Builtin.append_ c.argTypes o.type (c.args.map (ev ρ))
  | .builtin .len=>Builtin.len_ c.argTypes o.type (c.args.map (ev ρ))
  | .builtin .cap=>Builtin.cap_ c.argTypes o.type (c.args.map (ev ρ))
  | .builtin .min=>Builtin.min_ c.argTypes o.type (c.args.map (ev ρ))
  | .builtin .max=>Builtin.max_ c.argTypes o.type (c.args.map (ev ρ))
  | .builtin .copy=>Builtin.copy_ c.argTypes o.type (c.args.map (ev ρ))
  | .builtin .clear=>Builtin.clear_ c.argTypes o.type (c.args.map (ev ρ))
  | .builtin .delete=>Builtin.delete_ c.argTypes o.type (c.args.map (ev ρ))
  | .builtin .unsafeString=>Builtin.unsafeString_ c.argTypes o.type (c.args.map (ev ρ))
  | .builtin .unsafeSliceData=>Builtin.unsafeSliceData_ c.argTypes o.type (c.args.map (ev ρ))
  | .builtin .unsafeStringData=>Builtin.unsafeStringData_ c.argTypes o.type (c.args.map (ev ρ))
  | .builtin .unsafeSlice=>Builtin.unsafeSlice_ c.argTypes o.type (c.args.map (ev ρ))
  | _=>.halt (.stuck "no value")
 | _=>.halt (.stuck "no value")
def aIA(P:Program)(c:Call)(ρ:lR)(h:PH)(kv:dI):Prop:=match c.callee with
 | .value (.func f)=>bR P f (c.args.map (ev ρ)) h kv
 | .value x=>match ev ρ x with
  | .func (.func f) first captured=>bR P f (first++c.args.map (ev ρ)++captured) h kv
  | .func fn first captured=>dT P (invoke (.fn fn captured) (first++c.args.map (ev ρ))) h λn h'=>tG P n h' kv
  | _=>False
 | .invoke recv name=>dT P (callMethod (ev ρ recv) name (c.args.map (ev ρ))) h λn h'=>tG P n h' kv
 | .builtin _=>False
def zQ(P:Program)(o:Oper)(ρ:lR)(h:PH)(kv:dI):Prop:=match mG P o.op with
 | .p=>match o.op with
  | .move x | .assign x=>kv (ev ρ x) h
  | .pick c a b=>dA (gA (ev ρ c) (ev ρ a) (ev ρ b)) λv=>kv v h
  | _=>dA (dE P (uN ρ o)) λv=>kv v h
 | .r=>dA (dH P h (uN ρ o)) λv=>kv v h
 | .a=>dA (lH P (uN ρ o)) λx=>∀r,h r=none->dA (dE P (x.2 r)) λv=>kv v (h.set r x.1)
 | .e=>match o.op with
  | .call c=>match c.callee with
   | .builtin _=>dT P (uN ρ o) h kv
   | _=>aIA P c ρ h kv
  | _=>dT P (uN ρ o) h kv
def aHR(ops:Array Oper)(ρ:lR)(j:Nat):Option Bool:=match (ops[j]?).bind (·.dst) with
 | some d=>match ρ d with
  | .bool b=>some b
  | _=>none
 | none=>none
def gG(y:Option Bool)(want:Bool)(X:(Value->PH->Prop)->Prop)(h:PH)(kv:dI):Prop:=
 if y==some want then X kv else kv undef h
def kU(P:Program)(all:Array Oper)(o:Oper)(ρ:lR)(h:PH)(kv:dI):Prop:=match o.guard with
 | none=>zQ P o ρ h kv
 | some (j,want)=>gG (aHR all ρ j) want (zQ P o ρ h) h kv
def aSR(P:Program)(all:Array Oper)(k:lR->PH->Prop):List Oper->lR->PH->Prop
 | [],ρ,h=>k ρ h
 | o::rest,ρ,h=>kU P all o ρ h λv h'=>aSR P all k rest (upd ρ o.dst v) h'
def zQ.mono{P:Program}{o:Oper}{ρ:lR}{h:PH}{k k':dI}(hk:∀v h,k v h->k' v h)(ho:zQ P o ρ h k):zQ P o ρ h k':=by
 unfold zQ at *;split at ho
 ·split at ho
  ·exact hk _ _ ho
  ·exact hk _ _ ho
  ·obtain⟨v,e,hv⟩:=gJ.1 ho;exact gJ.2 ⟨v,e,hk _ _ hv⟩
  ·obtain⟨v,e,hv⟩:=gJ.1 ho;exact gJ.2 ⟨v,e,hk _ _ hv⟩
 ·obtain⟨v,e,hv⟩:=gJ.1 ho;exact gJ.2 ⟨v,e,hk _ _ hv⟩
 ·obtain⟨x,e,hx⟩:=gJ.1 ho;refine gJ.2 ⟨x,e,λr hr=>?_⟩;obtain⟨v,e,hv⟩:=gJ.1 (hx r hr);exact gJ.2 ⟨v,e,hk _ _ hv⟩
 ·split at ho
  ·split at ho
   ·exact ho.mono hk
   ·unfold aIA at *;split at ho
    ·exact ho.mono hk
    ·split at ho
     ·exact ho.mono hk
     ·exact ho.mono λ_ _ hn=>hn.mono hk
     ·exact ho.elim
    ·exact ho.mono λ_ _ hn=>hn.mono hk
    ·exact ho.elim
  ·exact ho.mono hk
def kU.mono{P:Program}{all:Array Oper}{o:Oper}{ρ:lR}{h:PH}{k k':dI}(hk:∀v h,k v h->k' v h)(ho:kU P all o ρ h k):kU P all o ρ h k':=by
 unfold kU at *;split
 ·rename_i e;simp only[e] at ho;exact ho.mono hk
 ·rename_i j want e;simp only[e] at ho;unfold gG at *;split
  ·rename_i e;rw[if_pos e] at ho;exact ho.mono hk
  ·rename_i e;rw[if_neg e] at ho;exact hk _ _ ho
def zQ.noDefer{P:Program}{o:Oper}{ρ:lR}{h:PH}{kv:dI}(ho:zQ P o ρ h kv):∀c,o.op≠ .defer c:=by
 intro c hc;have e:mG P o.op= .e:=by rw[hc];rfl
 unfold zQ at ho;rw[e] at ho;simp only[hc] at ho;unfold uN at ho;rw[hc] at ho;exact ho
def aHy{P:Program}{f:FuncId}{args:Array Value}{h:PH}(he:aDP P f=true):dH P h (callFunc f args)=some (.enter f args):=by
 unfold aDP at he;split at he
 ·rename_i fn hf;simp only[tM,Bool.not_eq_true'] at he;unfold callFunc;show dH P h (match P.funcs[f]? with|none=>_|some fn=>_)=_;simp only[hf,he.1,he.2,zLs,if_false];rfl
 ·cases he
def aO4{P:Program}{f:FuncId}{args:Array Value}{h:PH}{kv:dI}(hc:bR P f args h kv):
  dT P (callFunc f args) h λn h'=>tG P n h' kv:=by
 rcases hc with⟨he,hw⟩|hs
 ·exact dH.semH (aHy he) hw
 ·exact hs.mono λn h' ⟨v,e,hv⟩=>by subst e;exact hv
def bR.calls{P:Program}{f:FuncId}{args:Array Value}{h:PH}{R:dI}(hc:bR P f args h R)(he:aDP P f=true):∀w,qA h w->Calls P f args w λe w'=>∃v h',e= .returned v∧R v h'∧qA h' w'∧Fr h w h' w':=by
 rcases hc with⟨_,hw⟩|hs
 ·exact hw
 ·obtain⟨v,e,_⟩:=dH.of_semH (aHy he) hs;cases e
def aTt{P:Program}{s:Sem Value}{h:PH}{kv:dI}(hs:dT P s h kv):
  dT P (do pure (Next.value (←s))) h λn h'=>tG P n h' kv:=
 dT.bind (P:=P) (s:=s) (f:=λv=>pure (Next.value v)) hs
def aXE{P:Program}{s:Sem Unit}{h:PH}{kv:dI}(hs:dT P (do s;pure undef) h kv):
  dT P (do s;pure Next.skip) h λn h'=>tG P n h' kv:=by
 have key:∀(s:Sem Unit) (h:PH),dT P (s.bind λ_=>pure undef) h kv->dT P (s.bind λ_=>pure Next.skip) h λn h'=>tG P n h' kv:=by
  intro s;induction s with
  | pure a=>intro h hh;exact hh
  | load m a k ih=>rintro h ⟨v,hv,hh⟩;exact⟨v,hv,ih v h hh⟩
  | store m a v k ih=>rintro h ⟨h1,h2,h3,hh⟩;exact⟨h1,h2,h3,ih _ hh⟩
  | new o k ih=>intro h hh r hr;exact ih r _ (hh r hr)
  | shape r k ih=>rintro h ⟨v,hv,hh⟩;exact⟨v,hv,ih v _ hh⟩
  | freeze a n k ih=>rintro h ⟨h1,hh⟩;exact⟨h1,ih _ hh⟩
  | frozen a k ih=>rintro h ⟨h1,hh⟩;exact⟨h1,ih _ _ hh⟩
  | getObj r k ih=>rintro h ⟨o,ho,hc,hh⟩;exact⟨o,ho,hc,ih o _ hh⟩
  | setObj r o k ih=>rintro h ⟨h1,hh⟩;exact⟨h1,ih _ hh⟩
  | choose q k ih=>intro h hh t;exact ih _ _ (hh t)
  | sys c k ih=>intro h hh;exact hh.elim
  | program k ih=>intro h hh;exact ih P _ hh
  | mark m k ih=>intro h hh;exact ih _ hh
  | halt x=>intro h hh;exact hh.elim
 exact key s h hs
def aUh(x:Value)(xs:Array Value):(#[x]++xs)[0]? =some x:=by
 rcases xs with⟨l⟩;simp
def aWZ(x:Value)(xs:Array Value):(#[x]++xs).extract 1 (#[x]++xs).size=xs:=by
 rcases xs with⟨l⟩;apply zLw;simp[List.drop_one]
def zQ.exec{P:Program}{o:Oper}{ρ:lR}{h:PH}{kv:dI}(ho:zQ P o ρ h kv):
  dT P (execOp (ev ρ) o) h λn h'=>tG P n h' kv:=by
 have hcases:dT P (uN ρ o) h kv∨(∃c,o.op= .call c∧aIA P c ρ h kv):=by
  unfold zQ at ho;split at ho
  ·left;split at ho
   ·rename_i x hx;unfold uN;rw[hx];exact ho
   ·rename_i x hx;unfold uN;rw[hx];exact ho
   ·rename_i c a b hx;obtain⟨v,e,hv⟩:=gJ.1 ho;unfold uN;rw[hx];show dT P ((asBool (ev ρ c)).bind λx=>pure (if x then ev ρ a else ev ρ b)) h kv;generalize ev ρ c=vc at *;cases vc with
    | bool t=>cases t<;>(simp only[gA,zL4] at e;subst e;exact hv)
    | _=>cases e
   ·obtain⟨v,e,hv⟩:=gJ.1 ho;exact dH.semH (dE.semE e h) hv
  ·left;obtain⟨v,e,hv⟩:=gJ.1 ho;exact dH.semH e hv
  ·left;obtain⟨x,e,hx⟩:=gJ.1 ho;refine lH.semH (o:=x.1) (k:=x.2) e λr hr=>?_;obtain⟨v,e,hv⟩:=gJ.1 (hx r hr);exact dH.semH (dE.semE e _) hv
  ·split at ho
   ·split at ho
    ·left;exact ho
    ·right;exact⟨_,by assumption,ho⟩
   ·left;exact ho
 rcases hcases with hs|⟨c,hc,hv⟩
 ·unfold uN at hs;unfold execOp;cases hop:o.op<;>simp only[hop] at hs ⊢
  case move=>exact hs
  case assign=>exact hs
  case pick c a b=>
   have hs':dT P ((asBool (ev ρ c)).bind λx=>pure (if x then ev ρ a else ev ρ b)) h kv:=hs;show dT P ((asBool (ev ρ c)).bind λx=>pure (Next.value (if x then ev ρ a else ev ρ b))) h _;generalize ev ρ c=vc at *;cases vc with
   | bool t=>exact hs'
   | _=>exact hs'.elim
  case nilCheck x=>
   generalize ev ρ x=v at *;cases v with
   | pointer a=>cases a with
    | none=>exact hs.elim
    | some a=>exact hs
   | func fn first captured=>cases fn with
    | method name=>exact hs.elim
    | _=>exact hs
   | nilIface=>exact hs.elim
   | nilFunc=>exact hs.elim
   | _=>exact hs
  case call c=>
   cases hcal:c.callee with
   | builtin b=>
    simp only[hcal] at hs;unfold resolve;simp only[hcal];cases b<;>first
     | exact hs.elim
     | exact aTt hs
   | value f=>simp only[hcal] at hs;exact hs.elim
   | invoke r n=>simp only[hcal] at hs;exact hs.elim
  all_goals first
   | exact aTt hs
   | exact aXE hs
   | exact hs.elim
 ·unfold execOp;simp only[hc];unfold resolve;unfold aIA at hv;cases hcal:c.callee with
  | builtin b=>simp only[hcal] at hv
  | invoke r n=>
   simp only[hcal] at hv;show dT P (invoke (.fn (.method n) #[]) (#[ev ρ r]++c.args.map (ev ρ))) h _;unfold invoke;simp only[aUh,aWZ];exact hv
  | value f=>
   simp only[hcal];have key:∀(v:Value),ev ρ f=v->(match v with
     | .func (.func f) first captured=>bR P f (first++c.args.map (ev ρ)++captured) h kv
     | .func fn first captured=>dT P (invoke (.fn fn captured) (first++c.args.map (ev ρ))) h λn h'=>tG P n h' kv
     | _=>False)->dT P (do let d ←Deferred.ofValue (ev ρ f) (c.args.map (ev ρ));invoke d.target d.args) h λn h'=>tG P n h' kv:=by
    intro v he hh;rw[he];cases v with
    | func fn first captured=>
     show dT P (invoke (.fn fn captured) (first++c.args.map (ev ρ))) h _;cases fn with
     | func g=>exact aO4 hh
     | _=>exact hh
    | _=>exact hh.elim
   cases f with
   | func g=>
    refine key _ rfl ?_;simp only[hcal] at hv;show bR P g (#[]++c.args.map (ev ρ) ++ #[]) h kv;simpa using hv
   | tmp t=>simp only[hcal] at hv;exact key _ rfl hv
   | const v=>simp only[hcal] at hv;exact key _ rfl hv
   | global g=>simp only[hcal] at hv;exact key _ rfl hv
def Rl(h:PH):Prop:=∃w,qA h w
abbrev Tr:=PH->(Value->PH->Prop)->Prop
def Rl.fresh{h:PH}(hr:Rl h):∃r,h r=none:=let ⟨w,hs⟩:=hr;⟨w.heap.size,hs.fresh⟩
def Rl.set{h:PH}(hr:Rl h){r:Nat}(hn:h r=none)(o:Obj):Rl (h.set r o):=by
 obtain⟨w,hs⟩:=hr;let n:=max w.heap.size (r+1);refine⟨{w with heap:=(Array.range n).map λb=>if b=r then o else(w.heap[b]?).getD default},λb u hb=>?_⟩;unfold PH.set at hb;have hlt:b<n:=by
  split at hb
  ·omega
  ·have:=hs.lt hb;omega
 simp only[Array.getElem?_map,Array.getElem?_range,hlt,if_true,aLC];split at hb
 ·rename_i e;rw[if_pos e];exact hb
 ·rename_i e;rw[if_neg e,hs _ _ hb];rfl
def dH.set{P:Program}{α:Type}{s:Sem α}{r:Nat}{o:Obj}:∀{h:PH} {a:α},dH P h s=some a->h r=none->dH P (h.set r o) s=some a:=by
 have hset:∀(h:PH) b,h r=none->(∃u,h b=some u)->(h.set r o) b=h b:=by
  intro h b hr ⟨u,hu⟩;unfold PH.set;rw[if_neg];rintro rfl;rw[hr] at hu;cases hu
 induction s with
 | pure a=>intro h b hb _;exact hb
 | load m a k ih=>
  intro h b hb hr;obtain⟨v,hv,hb⟩:=aHZ.1 hb;obtain⟨c,e,f,hblk⟩:=aEW hv;refine aHZ.2 ⟨v,?_,ih v hb hr⟩;unfold eA at *;rw[hset h _ hr ⟨_,hblk⟩];exact hv
 | shape r' k ih=>
  intro h b hb hr;obtain⟨v,hv,hb⟩:=aHZ.1 hb;have hblk:∃u,h r'=some u:=by
   unfold kE at hv;cases hx:h r' with
   | none=>rw[hx] at hv;cases hv
   | some u=>exact⟨u,rfl⟩
  refine aHZ.2 ⟨v,?_,ih v hb hr⟩;unfold kE at *;rw[hset h _ hr hblk];exact hv
 | frozen a k ih=>
  intro h b hb hr;obtain⟨v,hv,hb⟩:=aHZ.1 hb;have e:=hset h _ hr ⟨_,hv⟩;refine aHZ.2 ⟨v,by rw[e];exact hv,?_⟩;have:uA (h.set r o) a=uA h a:=by unfold uA;rw[e]
  rw[this];exact ih _ hb hr
 | program k ih=>intro h b hb hr;exact ih P hb hr
 | mark m k ih=>intro h b hb hr;exact ih hb hr
 | getObj r' k ih=>
  intro h b hb hr;simp only[dH] at hb ⊢;cases hx:h r' with
  | none=>rw[hx] at hb;cases hb
  | some u=>
   rw[hset h _ hr ⟨_,hx⟩,hx];rw[hx] at hb;cases u<;>first|cases hb|exact ih _ hb hr
 | _=>intro h b hb;cases hb
def dT.real{P:Program}{α:Type}{s:Sem α}:∀{h:PH} {Q:α->PH->Prop},dT P s h Q->Rl h->dT P s h λa h'=>Q a h'∧Rl h':=by
 induction s with
 | pure a=>intro h Q hh hr;exact⟨hh,hr⟩
 | load m a k ih=>rintro h Q ⟨v,hv,hh⟩ hr;exact⟨v,hv,ih v hh hr⟩
 | store m a v k ih=>
  rintro h Q ⟨h1,h2,h3,hh⟩ hr;refine⟨h1,h2,h3,ih hh ?_⟩;obtain⟨w,hs⟩:=hr;obtain⟨u,hu⟩:=h3;obtain⟨c,e,f,hb⟩:=aEW hu;exact⟨_,(hs.modify a.block (fun | .cells c elem frozen=>.cells (if a.spot.isSome then c else c.setIfInBounds a.off v) elem frozen|o=>o) (sG h a v)
   (λb=>by
    unfold sG;split
    ·cases h b with
     | none=>rfl
     | some o=>cases o<;>rfl
    ·rfl) hb).1⟩
 | new o k ih=>intro h Q hh hr r hn;exact ih r (hh r hn) (hr.set hn o)
 | shape r k ih=>rintro h Q ⟨v,hv,hh⟩ hr;exact⟨v,hv,ih v hh hr⟩
 | freeze a n k ih=>
  rintro h Q ⟨⟨o,ho⟩,hh⟩ hr;refine⟨⟨o,ho⟩,ih hh ?_⟩;obtain⟨w,hs⟩:=hr;by_cases hn:n=0
  ·have e:nC h a n=h:=by funext b;simp[nC,hn]
   rw[e];exact⟨w,hs⟩
  ·exact⟨_,(hs.modify a.block (fun | .cells c elem (lo,hi)=>.cells c elem (if lo==hi then(a.off,a.off+n) else(min lo a.off,max hi (a.off+n)))|o=>o) (nC h a n)
    (λb=>by
     unfold nC;rw[if_neg hn];split
     ·cases h b with
      | none=>rfl
      | some o=>cases o<;>rfl
     ·rfl) ho).1⟩
 | frozen a k ih=>rintro h Q ⟨h1,hh⟩ hr;exact⟨h1,ih _ hh hr⟩
 | getObj r k ih=>rintro h Q ⟨o,ho,hc,hh⟩ hr;exact⟨o,ho,hc,ih o hh hr⟩
 | setObj r o k ih=>
  rintro h Q ⟨⟨u,hu,hc⟩,hh⟩ hr;refine⟨⟨u,hu,hc⟩,ih hh ?_⟩;obtain⟨w,hs⟩:=hr;exact⟨_,(hs.modify r (λ_=>o) (h.set r o) (λb=>by
   unfold PH.set;split
   ·rename_i e;subst e;rw[hu];rfl
   ·rfl) hu).1⟩
 | choose q k ih=>intro h Q hh hr t;exact ih _ (hh t) hr
 | sys c k ih=>intro h Q hh;exact hh.elim
 | program k ih=>intro h Q hh hr;exact ih P hh hr
 | mark m k ih=>intro h Q hh hr;exact ih hh hr
 | halt x=>intro h Q hh;exact hh.elim
def bR.real{P:Program}{f:FuncId}{args:Array Value}{h:PH}{R:dI}(hc:bR P f args h R)(hr:Rl h):bR P f args h λv h'=>R v h'∧Rl h':=by
 rcases hc with⟨h1,h2⟩|hs
 ·exact .inl ⟨h1,λw hs=>(h2 w hs).mono λ_ w' ⟨v,h',e,r,s,fr⟩=>⟨v,h',e,⟨r,w',s⟩,s,fr⟩⟩
 ·exact .inr ((hs.real hr).mono λn h' ⟨⟨v,e,hv⟩,hr'⟩=>⟨v,e,hv,hr'⟩)
def tG.real{P:Program}{n:Next}{h:PH}{k:dI}(hn:tG P n h k)(hr:Rl h):tG P n h λv h'=>k v h'∧Rl h':=by
 cases n<;>first
  | exact⟨hn,hr⟩
  | exact λw hs=>Calls.mono (hn w hs) λ_ w' ⟨v,h',e,r,s,fr⟩=>⟨v,h',e,⟨r,w',s⟩,s,fr⟩
  | exact λw hs=>RoundIn.mono (hn w hs) λ_ w' ⟨v,h',e,r,s,fr⟩=>⟨v,h',e,⟨r,w',s⟩,s,fr⟩
  | exact hn.elim
def zQ.real{P:Program}{o:Oper}{ρ:lR}{h:PH}{k:dI}(ho:zQ P o ρ h k)(hr:Rl h):zQ P o ρ h λv h'=>k v h'∧Rl h':=by
 unfold zQ at *;split at ho
 ·split at ho
  ·exact⟨ho,hr⟩
  ·exact⟨ho,hr⟩
  ·obtain⟨v,e,hv⟩:=gJ.1 ho;exact gJ.2 ⟨v,e,hv,hr⟩
  ·obtain⟨v,e,hv⟩:=gJ.1 ho;exact gJ.2 ⟨v,e,hv,hr⟩
 ·obtain⟨v,e,hv⟩:=gJ.1 ho;exact gJ.2 ⟨v,e,hv,hr⟩
 ·obtain⟨x,e,hx⟩:=gJ.1 ho;refine gJ.2 ⟨x,e,λr hn=>?_⟩;obtain⟨v,e,hv⟩:=gJ.1 (hx r hn);exact gJ.2 ⟨v,e,hv,hr.set hn _⟩
 ·split at ho
  ·split at ho
   ·exact ho.real hr
   ·unfold aIA at *;split at ho
    ·exact ho.real hr
    ·split at ho
     ·exact ho.real hr
     ·exact(ho.real hr).mono λ_ _ hn=>hn.1.real hn.2
     ·exact ho.elim
    ·exact(ho.real hr).mono λ_ _ hn=>hn.1.real hn.2
    ·exact ho.elim
  ·exact ho.real hr
def zQ.falls{P:Program}{o:Oper}{ρ:lR}{h:PH}(ho:zQ P o ρ h λ_ _=>False)(hr:Rl h):False:=by
 obtain⟨w,hs⟩:=hr;obtain⟨n,w',h',hrun,hn,hs',hf⟩:=ho.exec.sound hs;cases n with
 | value v=>exact hn
 | skip=>exact hn
 | enter f args=>
  obtain⟨e,w2,fr,⟨v,h2,_,hF,_⟩,_⟩:=hn w' hs' [];exact hF
 | round l f tmps assign body=>
  obtain⟨e,w2,⟨v,h2,_,hF,_⟩,_⟩:=(hn w' hs').2 default [] (room_wide _);exact hF
 | _=>exact hn.elim
def bR.frame{P:Program}{f:FuncId}{args:Array Value}{h:PH}{R:dI}(r:Nat)(o:Obj)(hc:bR P f args h R)(hr:h r=none):
  bR P f args (h.set r o) λv h2=>∃h1:PH,h2=h1.set r o∧h1 r=none∧R v h1:=by
 rcases hc with⟨hc1,hc2⟩|hs
 rotate_left
 ·exact .inr ((dT.frame r o hs hr).mono λn h2 ⟨h1,e,hn,v,ev,hv⟩=>⟨v,ev,h1,e,hn,hv⟩)
 refine .inl ⟨hc1,λw hs=>?_⟩;have hsub:qA h w:=λb u hb=>hs b u (by
                         unfold PH.set;rw[if_neg];· exact hb
                         ·rintro rfl;rw[hr] at hb;cases hb)
 have hw:w.heap[r]? =some o:=hs r o (by unfold PH.set;rw[if_pos rfl]);have hlt:r<w.heap.size:=(aIe.1 hw).1;refine(hc2 w hsub).mono λe w' ⟨v,h1,he,hR,hs1,hf⟩=>?_;have hn:=hf.none r hlt hr;refine⟨v,h1.set r o,he,⟨h1,rfl,hn,hR⟩,λb u hb=>?_,hf.os,hf.tape,hf.output,hf.drawn,hf.size,λb hb hbn=>?_,λb hb hbn=>?_⟩
 ·unfold PH.set at hb;split at hb
  ·rename_i e;subst e;rw[hf.far b hlt hr,hw];exact hb
  ·exact hs1 b u hb
 ·refine hf.far b hb ?_;unfold PH.set at hbn;split at hbn
  ·cases hbn
  ·exact hbn
 ·unfold PH.set at hbn ⊢;split at hbn
  ·cases hbn
  ·rename_i e;rw[if_neg e];exact hf.none b hb hbn
def tG.frame{P:Program}{n:Next}{h:PH}{k:dI}(r:Nat)(o:Obj)(hn:tG P n h k)(hr:h r=none):
  tG P n (h.set r o) λv h2=>∃h1:PH,h2=h1.set r o∧h1 r=none∧k v h1:=by
 cases n with
 | value v=>exact⟨h,rfl,hr,hn⟩
 | skip=>exact⟨h,rfl,hr,hn⟩
 | enter f args=>
  intro w hs;have hsub:qA h w:=λb u hb=>hs b u (by
                          unfold PH.set;rw[if_neg];· exact hb
                          ·rintro rfl;rw[hr] at hb;cases hb)
  have hw:w.heap[r]? =some o:=hs r o (by unfold PH.set;rw[if_pos rfl]);have hlt:r<w.heap.size:=(aIe.1 hw).1;refine(hn w hsub).mono λe w' ⟨v,h1,he,hR,hs1,hf⟩=>?_;have hn:=hf.none r hlt hr;refine⟨v,h1.set r o,he,⟨h1,rfl,hn,hR⟩,λb u hb=>?_,hf.os,hf.tape,hf.output,hf.drawn,hf.size,λb hb hbn=>?_,λb hb hbn=>?_⟩
  ·unfold PH.set at hb;split at hb
   ·rename_i e;subst e;rw[hf.far b hlt hr,hw];exact hb
   ·exact hs1 b u hb
  ·refine hf.far b hb ?_;unfold PH.set at hbn;split at hbn
   ·cases hbn
   ·exact hbn
  ·unfold PH.set at hbn ⊢;split at hbn
   ·cases hbn
   ·rename_i e;rw[if_neg e];exact hf.none b hb hbn
 | round l f tmps assign body=>
  intro w hs;have hsub:qA h w:=λb u hb=>hs b u (by
                          unfold PH.set;rw[if_neg];· exact hb
                          ·rintro rfl;rw[hr] at hb;cases hb)
  have hw:w.heap[r]? =some o:=hs r o (by unfold PH.set;rw[if_pos rfl]);have hlt:r<w.heap.size:=(aIe.1 hw).1;refine RoundIn.mono (hn w hsub) λe w' ⟨v,h1,he,hR,hs1,hf⟩=>?_;have hn:=hf.none r hlt hr;refine⟨v,h1.set r o,he,⟨h1,rfl,hn,hR⟩,λb u hb=>?_,hf.os,hf.tape,hf.output,hf.drawn,hf.size,λb hb hbn=>?_,λb hb hbn=>?_⟩
  ·unfold PH.set at hb;split at hb
   ·rename_i e;subst e;rw[hf.far b hlt hr,hw];exact hb
   ·exact hs1 b u hb
  ·refine hf.far b hb ?_;unfold PH.set at hbn;split at hbn
   ·cases hbn
   ·exact hbn
  ·unfold PH.set at hbn ⊢;split at hbn
   ·cases hbn
   ·rename_i e;rw[if_neg e];exact hf.none b hb hbn
 | _=>exact hn.elim
def KP(T:Tr):Prop:=∃x:Option Value,∀h kv,T h kv↔dA x λv=>kv v h
def KR(T:Tr):Prop:=∃f:PH->Option Value,(∀h kv,T h kv↔dA (f h) λv=>kv v h)∧∀h r o v,f h=some v->h r=none->f (h.set r o)=some v
def KA(T:Tr):Prop:=∃y:Option (Obj×(Nat->Option Value)),∀h kv,T h kv↔dA y λx=>∀r,h r=none->dA (x.2 r) λv=>kv v (h.set r x.1)
structure KE(T:Tr):Prop where
 mono:∀{h:PH} {k k':dI},T h k->(∀v h,k v h->k' v h)->T h k'
 real:∀{h:PH} {k:dI},T h k->Rl h->T h λv h'=>k v h'∧Rl h'
 falls:∀{h:PH},T h (λ_ _=>False)->Rl h->False
 frame:∀{h:PH} {k:dI} (r:Nat) (o:Obj),T h k->h r=none->T (h.set r o) λv h2=>∃h1:PH,h2=h1.set r o∧h1 r=none∧k v h1
def KP.ke{T:Tr}(hT:KP T):KE T:=by
 obtain⟨x,hx⟩:=hT;refine⟨λht hk=>?_,λht hr=>?_,λht hr=>?_,λr o ht hr=>?_⟩
 ·obtain⟨v,e,hv⟩:=gJ.1 ((hx _ _).1 ht);exact(hx _ _).2 (gJ.2 ⟨v,e,hk _ _ hv⟩)
 ·obtain⟨v,e,hv⟩:=gJ.1 ((hx _ _).1 ht);exact(hx _ _).2 (gJ.2 ⟨v,e,hv,hr⟩)
 ·obtain⟨v,e,hv⟩:=gJ.1 ((hx _ _).1 ht);exact hv
 ·obtain⟨v,e,hv⟩:=gJ.1 ((hx _ _).1 ht);exact(hx _ _).2 (gJ.2 ⟨v,e,_,rfl,hr,hv⟩)
def KR.ke{T:Tr}(hT:KR T):KE T:=by
 obtain⟨f,hx,hm⟩:=hT;refine⟨λht hk=>?_,λht hr=>?_,λht hr=>?_,λr o ht hr=>?_⟩
 ·obtain⟨v,e,hv⟩:=gJ.1 ((hx _ _).1 ht);exact(hx _ _).2 (gJ.2 ⟨v,e,hk _ _ hv⟩)
 ·obtain⟨v,e,hv⟩:=gJ.1 ((hx _ _).1 ht);exact(hx _ _).2 (gJ.2 ⟨v,e,hv,hr⟩)
 ·obtain⟨v,e,hv⟩:=gJ.1 ((hx _ _).1 ht);exact hv
 ·obtain⟨v,e,hv⟩:=gJ.1 ((hx _ _).1 ht);exact(hx _ _).2 (gJ.2 ⟨v,hm _ _ _ _ e hr,_,rfl,hr,hv⟩)
def aNN{h:PH}{r r':Nat}{o o':Obj}(hne:r'≠r):(h.set r o).set r' o'=(h.set r' o').set r o:=by
 funext b;unfold PH.set;by_cases e1:b=r'
 ·subst e1;simp[hne]
 ·simp[e1]
def aQG{h:PH}{r r':Nat}{o:Obj}(hn:(h.set r o) r'=none):r'≠r∧h r'=none:=by
 unfold PH.set at hn;split at hn
 ·cases hn
 ·rename_i e;exact⟨e,hn⟩
def aYB{T U:Tr}(hT:KP T)(hU:KE U){h:PH}{X:Value->Value->PH->Prop}(H:T h λv h1=>U h1 λu h2=>X v u h2):U h λu h1=>T h1 λv h2=>X v u h2:=by
 obtain⟨x,hx⟩:=hT;obtain⟨v,e,hv⟩:=gJ.1 ((hx _ _).1 H);exact hU.mono hv λu h1 hX=>(hx _ _).2 (gJ.2 ⟨v,e,hX⟩)
def aHO{T U:Tr}(hT:KE T)(hU:KP U){h:PH}(hr:Rl h){X:Value->Value->PH->Prop}(H:T h λv h1=>U h1 λu h2=>X v u h2):U h λu h1=>T h1 λv h2=>X v u h2:=by
 obtain⟨x,hx⟩:=hU;cases x with
 | none=>exact(hT.falls (hT.mono H λv h1 hh=>by simpa[dA] using(hx _ _).1 hh) hr).elim
 | some u=>exact(hx _ _).2 (gJ.2 ⟨u,rfl,hT.mono H λv h1 hh=>by simpa[dA] using(hx _ _).1 hh⟩)
def aW6{T U:Tr}(hT:KR T)(hU:KA U){h:PH}{X:Value->Value->PH->Prop}(H:T h λv h1=>U h1 λu h2=>X v u h2):U h λu h1=>T h1 λv h2=>X v u h2:=by
 obtain⟨f,hx,hm⟩:=hT;obtain⟨y,hy⟩:=hU;obtain⟨v,e,hv⟩:=gJ.1 ((hx _ _).1 H);obtain⟨z,e',hz⟩:=gJ.1 ((hy _ _).1 hv);refine(hy _ _).2 (gJ.2 ⟨z,e',λr hr=>?_⟩);obtain⟨u,e2,hu⟩:=gJ.1 (hz r hr);exact gJ.2 ⟨u,e2,(hx _ _).2 (gJ.2 ⟨v,hm _ _ _ _ e hr,hu⟩)⟩
def aWC{T U:Tr}(hT:KA T)(hU:KA U){h:PH}(hr:Rl h){X:Value->Value->PH->Prop}(H:T h λv h1=>U h1 λu h2=>X v u h2):U h λu h1=>T h1 λv h2=>X v u h2:=by
 obtain⟨x,hx⟩:=hT;obtain⟨y,hy⟩:=hU;obtain⟨z,e,hz⟩:=gJ.1 ((hx _ _).1 H);have hy':∃z',y=some z':=by
  obtain⟨r,hn⟩:=hr.fresh;obtain⟨v,_,hv⟩:=gJ.1 (hz r hn);obtain⟨z',e',_⟩:=gJ.1 ((hy _ _).1 hv);exact⟨z',e'⟩
 obtain⟨z',e'⟩:=hy'
 -- both values are there, whatever the blocks
 have both:∀r r',h r=none->h r'=none->r'≠r->∃v u,z.2 r=some v∧z'.2 r'=some u∧X v u ((h.set r z.1).set r' z'.1):=by
  intro r r' hn hn' hne;obtain⟨v,e1,hv⟩:=gJ.1 (hz r hn);obtain⟨z2,e2,hz2⟩:=gJ.1 ((hy _ _).1 hv);rw[e'] at e2;cases e2;obtain⟨u,e3,hu⟩:=gJ.1 (hz2 r' (by unfold PH.set;rw[if_neg hne];exact hn'));exact⟨v,u,e1,e3,hu⟩
 refine(hy _ _).2 (gJ.2 ⟨z',e',λr' hn'=>?_⟩);have hu:∃u,z'.2 r'=some u:=by
  obtain⟨r,hn⟩:=(hr.set hn' z'.1).fresh;obtain⟨hne,hn⟩:=aQG hn;obtain⟨v,u,_,eu,_⟩:=both r r' hn hn' (Ne.symm hne);exact⟨u,eu⟩
 obtain⟨u,eu⟩:=hu;refine gJ.2 ⟨u,eu,(hx _ _).2 (gJ.2 ⟨z,e,λr hn=>?_⟩)⟩;obtain⟨hne,hn⟩:=aQG hn;obtain⟨v,u',ev',eu',hX⟩:=both r r' hn hn' (Ne.symm hne);rw[eu] at eu';cases eu';refine gJ.2 ⟨v,ev',?_⟩;rw[←aNN (Ne.symm hne)];exact hX
def aWP{T U:Tr}(hT:KE T)(hU:KA U){h:PH}(hr:Rl h){X:Value->Value->PH->Prop}(H:T h λv h1=>U h1 λu h2=>X v u h2):U h λu h1=>T h1 λv h2=>X v u h2:=by
 obtain⟨y,hy⟩:=hU;have hy':∃z',y=some z':=by
  cases y with
  | some z'=>exact⟨z',rfl⟩
  | none=>exact(hT.falls (hT.mono H λv h1 hh=>by simpa[dA] using(hy _ _).1 hh) hr).elim
 obtain⟨z,e⟩:=hy';refine(hy _ _).2 (gJ.2 ⟨z,e,λr hn=>?_⟩);have hf:=hT.frame r z.1 H hn;have hf2:T (h.set r z.1) λv h2=>dA (z.2 r) λu=>X v u h2:=hT.mono hf λv h2 ⟨h1,e1,hn1,hh⟩=>by
  obtain⟨z2,e2,hz2⟩:=gJ.1 ((hy _ _).1 hh);rw[e] at e2;cases e2;rw[e1];exact hz2 r hn1
 cases hu:z.2 r with
 | none=>
  rw[hu] at hf2;exact(hT.falls hf2 (hr.set hn z.1)).elim
 | some u=>
  rw[hu] at hf2;exact hf2
def aR6{ρ:lR}{x y:Option Tmp}{v u:Value}(h:∀d,x=some d->y≠some d):upd (upd ρ x v) y u=upd (upd ρ y u) x v:=by
 cases x with
 | none=>rfl
 | some d=>
  cases y with
  | none=>rfl
  | some e=>
   have hne:d≠e:=λhe=>h d rfl (he▸rfl);funext t;simp only[upd];by_cases h1:t=d
   ·subst h1;simp[hne]
   ·simp[h1]
def aTA{ρ:lR}{d:Option Tmp}{v:Value}{x:Operand}(h:∀t,d=some t->x≠ .tmp t):ev (upd ρ d v) x=ev ρ x:=by
 cases d with
 | none=>rfl
 | some t=>
  cases x with
  | tmp s=>
   have:s≠t:=λe=>h t rfl (e▸rfl);simp[ev,upd,this]
  | _=>rfl
def aMC{ρ ρ':lR}(o:Oper)(h:∀x∈o.op.operands,ev ρ x=ev ρ' x):uN ρ o=uN ρ' o:=by
 obtain⟨dst,op,type,pos,after,guard⟩:=o;have pairs:∀ps:Array (Nat×Operand),(∀x∈ps.map (·.2),ev ρ x=ev ρ' x)->
   (ps.map λ(i,x)=>(i,ev ρ x))=(ps.map λ(i,x)=>(i,ev ρ' x)):=λps hp=>
  Array.map_congr_left λp hm=>by
   obtain⟨i,x⟩:=p;simp only[hp x (Array.mem_map.2 ⟨(i,x),hm,rfl⟩)]
 cases op<;>simp only[Op.operands] at h<;>simp only[uN]
 case build t ps=>rw[pairs ps λx hx=>h x (by simpa using hx)]
 case buildSlice t n ps=>rw[pairs ps λx hx=>h x (by simpa using hx)]
 case makeFunc fn first captured=>
  rw[Array.map_congr_left (xs:=first) λx hx=>h x (by simp[hx]),Array.map_congr_left (xs:=captured) λx hx=>h x (by simp[hx])]
 case call c=>
  have hargs:c.args.map (ev ρ)=c.args.map (ev ρ'):=Array.map_congr_left λx hx=>h x (by simp[Call.operands,hx]);rw[hargs]
 case makeMap t r=>cases r<;>simp_all
 case slice t x lo hi mx=>cases lo<;>cases hi<;>cases mx<;>simp_all
 all_goals (first|rfl|(simp_all;done))
def aQk{P:Program}{ρ ρ':lR}(c:Call)(h:∀x∈c.operands,ev ρ x=ev ρ' x):aIA P c ρ=aIA P c ρ':=by
 have hargs:c.args.map (ev ρ)=c.args.map (ev ρ'):=Array.map_congr_left λx hx=>h x (by simp[Call.operands,hx]);funext hh kv;unfold aIA;rw[hargs];cases hc:c.callee with
 | value f=>
  have hf:ev ρ f=ev ρ' f:=h f (by simp[Call.operands,hc]);cases f<;>simp only[hf]
 | invoke r m=>have hr:ev ρ r=ev ρ' r:=h r (by simp[Call.operands,hc]);simp only[hr]
 | builtin b=>rfl
def aTS{P:Program}{ρ ρ':lR}(o:Oper)(h:∀x∈o.op.operands,ev ρ x=ev ρ' x):zQ P o ρ=zQ P o ρ':=by
 have hs:=aMC o h;funext hh kv;unfold zQ;rw[hs];cases hop:o.op
 case move x=>have hx:=h x (by simp[hop,Op.operands]);simp only[mG,hx]
 case assign x=>have hx:=h x (by simp[hop,Op.operands]);simp only[mG,hx]
 case pick c a b=>
  have h1:=h c (by simp[hop,Op.operands]);have h2:=h a (by simp[hop,Op.operands]);have h3:=h b (by simp[hop,Op.operands]);simp only[mG,h1,h2,h3]
 case call c=>
  have hc:=aQk (P:=P) c λx hx=>h x (by simp only[hop,Op.operands];exact hx);simp only[hc]
 all_goals rfl
def aJu{ops:Array Oper}{o:Oper}{d:Tmp}(h:d∉o.looksAt ops):∀x∈o.op.operands,x≠ .tmp d:=by
 intro x hx e;subst e;exact h (List.mem_append_left _ (List.mem_filterMap.2 ⟨.tmp d,by simpa using hx,rfl⟩))
def aH1{ops:Array Oper}{o:Oper}{ρ:lR}{dst:Option Tmp}{v:Value}{g:Nat}{want:Bool}(hg:o.guard=some (g,want))(h:∀d,dst=some d->d∉o.looksAt ops):
  aHR ops (upd ρ dst v) g=aHR ops ρ g:=by
 cases dst with
 | none=>rfl
 | some d=>
  unfold aHR;cases ht:(ops[g]?).bind (·.dst) with
  | none=>rfl
  | some t=>
   have hne:t≠d:=λe=>h d rfl (by subst e;simp[Oper.looksAt,hg,ht]);simp only[upd,if_neg hne]
def aLQ{ops:Array Oper}{o:Oper}{ρ:lR}{dst:Option Tmp}{v:Value}(h:∀d,dst=some d->d∉o.looksAt ops):uN (upd ρ dst v) o=uN ρ o:=
 aMC o λx hx=>aTA λt ht=>aJu (h t ht) x hx
def aOO{P:Program}{ops:Array Oper}{o:Oper}{ρ:lR}{dst:Option Tmp}{v:Value}(h:∀d,dst=some d->d∉o.looksAt ops):kU P ops o (upd ρ dst v)=kU P ops o ρ:=by
 have ho:zQ P o (upd ρ dst v)=zQ P o ρ:=aTS o λx hx=>aTA λt ht=>aJu (h t ht) x hx;funext hh kv;unfold kU;cases hg:o.guard with
 | none=>simp only[ho]
 | some gw=>
  obtain⟨g,want⟩:=gw;simp only[ho,aH1 (v:=v) hg h]
def aVP{h:PH}{r r':Nat}{o o':Obj}{k:dI}{v:Value}(hne:r'≠r)(hr:h r=none)(hk:k v (h.set r' o')):
  ∃h1:PH,(h.set r o).set r' o'=h1.set r o∧h1 r=none∧k v h1:=
 ⟨h.set r' o',aNN hne,by unfold PH.set;rw[if_neg (Ne.symm hne)];exact hr,hk⟩
def aBR(ops:Array Oper)(o:Oper)(ρ:lR):Bool:=match o.guard with
 | none=>true
 | some (g,want)=>aHR ops ρ g==some want
def zV{P:Program}{ops:Array Oper}{o:Oper}{ρ:lR}{h:PH}{kv:dI}:kU P ops o ρ h kv↔if aBR ops o ρ then zQ P o ρ h kv else kv undef h:=by
 unfold kU aBR gG;cases hg:o.guard with
 | none=>simp
 | some gw=>obtain⟨g,want⟩:=gw;simp
def aLn{P:Program}{ops:Array Oper}{o:Oper}{ρ:lR}(hc:mG P o.op= .p):KP (kU P ops o ρ):=by
 cases hw:aBR ops o ρ with
 | false=>exact⟨some undef,λh kv=>by rw[zV,hw];simp[dA]⟩
 | true=>
  have:∃x:Option Value,∀h kv,zQ P o ρ h kv↔dA x λv=>kv v h:=by
   unfold zQ;simp only[hc];split
   ·rename_i x _;exact⟨some (ev ρ x),λh kv=>Iff.rfl⟩
   ·rename_i x _;exact⟨some (ev ρ x),λh kv=>Iff.rfl⟩
   ·rename_i c a b _;exact⟨_,λh kv=>Iff.rfl⟩
   ·exact⟨_,λh kv=>Iff.rfl⟩
  obtain⟨x,hx⟩:=this;exact⟨x,λh kv=>by rw[zV,hw];simpa using hx h kv⟩
def aNB(P:Program)(ops:Array Oper)(o:Oper)(ρ:lR)(h:PH):Option Value:=if aBR ops o ρ then dH P h (uN ρ o) else some undef
def aNh{P:Program}{ops:Array Oper}{o:Oper}{ρ:lR}(hc:mG P o.op= .r)(h:PH)(kv:dI):kU P ops o ρ h kv↔dA (aNB P ops o ρ h) λv=>kv v h:=by
 rw[zV];unfold aNB zQ;cases hw:aBR ops o ρ<;>simp[hc,dA]
def aVo{P:Program}{ops:Array Oper}{o:Oper}{ρ:lR}(hc:mG P o.op= .r):KR (kU P ops o ρ):=
 ⟨aNB P ops o ρ,λh kv=>aNh hc h kv,λh r b v hv hr=>by
  unfold aNB at *;split at hv
  ·rename_i e;rw[if_pos e];exact dH.set hv hr
  ·rename_i e;rw[if_neg e];exact hv⟩
def aLj{P:Program}{ops:Array Oper}{o:Oper}{ρ:lR}(hc:mG P o.op= .a):KA (kU P ops o ρ)∨KP (kU P ops o ρ):=by
 cases hw:aBR ops o ρ with
 | false=>exact .inr ⟨some undef,λh kv=>by rw[zV,hw];simp[dA]⟩
 | true=>
  refine .inl ⟨(lH P (uN ρ o)).map λx=>(x.1,λr=>dE P (x.2 r)),λh kv=>?_⟩;rw[zV,hw];unfold zQ;simp only[hc,if_true];cases lH P (uN ρ o)<;>simp[dA]
def aYs{P:Program}{ops:Array Oper}{o:Oper}{ρ:lR}(hc:mG P o.op= .e):KE (kU P ops o ρ):=by
 have hframe:∀{h:PH} {k:dI} (r:Nat) (b:Obj),zQ P o ρ h k->h r=none->zQ P o ρ (h.set r b) λv h2=>∃h1:PH,h2=h1.set r b∧h1 r=none∧k v h1:=by
  intro h k r b ho hr;unfold zQ at *;simp only[hc] at ho ⊢;split at ho
  ·split at ho
   ·exact ho.frame r b hr
   ·unfold aIA at *;split at ho
    ·exact ho.frame r b hr
    ·split at ho
     ·exact ho.frame r b hr
     ·exact(ho.frame r b hr).mono λn h2 ⟨h1,e,hn,hh⟩=>e▸hh.frame r b hn
     ·exact ho.elim
    ·exact(ho.frame r b hr).mono λn h2 ⟨h1,e,hn,hh⟩=>e▸hh.frame r b hn
    ·exact ho.elim
  ·exact ho.frame r b hr
 refine⟨λht hk=>?_,λht hr=>?_,λht hr=>?_,λr b ht hr=>?_⟩
 ·exact kU.mono hk ht
 ·rw[zV] at ht ⊢;split at ht
  ·rename_i e;rw[if_pos e];exact ht.real hr
  ·rename_i e;rw[if_neg e];exact⟨ht,hr⟩
 ·rw[zV] at ht;split at ht
  ·exact ht.falls hr
  ·exact ht
 ·rw[zV] at ht ⊢;split at ht
  ·rename_i e;rw[if_pos e];exact hframe r b ht hr
  ·rename_i e;rw[if_neg e];exact⟨_,rfl,hr,ht⟩
def aM5{P:Program}{ops:Array Oper}{o:Oper}{ρ:lR}:KE (kU P ops o ρ):=by
 cases hc:mG P o.op with
 | p=>exact(aLn hc).ke
 | r=>exact(aVo hc).ke
 | e=>exact aYs hc
 | a=>
  refine⟨λht hk=>kU.mono hk ht,λht hr=>?_,λht hr=>?_,λr b ht hr=>?_⟩
  ·rw[zV] at ht ⊢;split at ht
   ·rename_i e;rw[if_pos e];exact ht.real hr
   ·rename_i e;rw[if_neg e];exact⟨ht,hr⟩
  ·rw[zV] at ht;split at ht
   ·exact ht.falls hr
   ·exact ht
  ·rcases aLj (P:=P) (ops:=ops) (ρ:=ρ) hc with⟨y,hy⟩|hp
   ·obtain⟨x,e,hx⟩:=gJ.1 ((hy _ _).1 ht);refine(hy _ _).2 (gJ.2 ⟨x,e,λr' hr'=>?_⟩);obtain⟨hne,hn'⟩:=aQG hr';obtain⟨v,e2,hv⟩:=gJ.1 (hx r' hn');refine gJ.2 ⟨v,e2,aVP hne hr hv⟩
   ·exact hp.ke.frame r b ht hr
def yX(b:Array Nat)(y x:Nat):Bool:=(b.getD y 0).testBit x
def aT2:Cls->Cls->Bool
 | .p,_|_,.p=>true
 | .r,_=>true
 | .a,.a=>true
 | .e,.a=>true
 | _,_=>false
def aFZ(P:Program)(ops:Array Oper)(o:Oper)(ρ:lR)(h:PH):Prop:=aBR ops o ρ=true->dH P h (uN ρ o)=o.dst.map ρ
def AG(P:Program)(ops:Array Oper)(b:Array Nat)(i:Nat)(rem:List Nat)(ρ:lR)(h:PH):Prop:=
 ∀oi,ops[i]? =some oi->mG P oi.op= .e->∀x ox,ops[x]? =some ox->mG P ox.op= .r->x∉rem->x≠i->yX b i x=false->aFZ P ops ox ρ h
def aF2(P:Program)(ops:Array Oper)(b:Array Nat)(k:lR->PH->Prop):Nat->List Nat->lR->PH->Prop
 | 0,_,ρ,h=>k ρ h
 | n+1,rem,ρ,h=>∀i∈rem,(∀x∈rem,yX b i x=false)->∃o,ops[i]? =some o∧kU P ops o ρ h λv h'=>AG P ops b i rem (upd ρ o.dst v) h'∧aF2 P ops b k n (rem.erase i) (upd ρ o.dst v) h'
structure aVC(P:Program)(ops:Array Oper)(b:Array Nat):Prop where
 apart:∀(x y:Nat) (ox oy:Oper),ops[x]? =some ox->ops[y]? =some oy->x≠y->yX b x y=false->yX b y x=false->ox.apart ops oy=true
 look:∀(x y:Nat) (ox oy:Oper),ops[x]? =some ox->ops[y]? =some oy->mG P ox.op= .r->(x≠y->yX b x y=false)->∀d,oy.dst=some d->d∉ox.looksAt ops
 own:∀(x:Nat) (ox:Oper),ops[x]? =some ox->mG P ox.op= .r->ox.dst.isSome=true
 one:∀(x y:Nat) (ox oy:Oper),ops[x]? =some ox->ops[y]? =some oy->mG P ox.op= .r->x≠y->∀d,oy.dst=some d->ox.dst≠some d
def aNL{P:Program}{ops:Array Oper}{o:Oper}{ρ:lR}{h:PH}{dst:Option Tmp}{v:Value}(hl:∀d,dst=some d->d∉o.looksAt ops)(hd:∀d,dst=some d->o.dst≠some d):
  aFZ P ops o (upd ρ dst v) h↔aFZ P ops o ρ h:=by
 have h1:aBR ops o (upd ρ dst v)=aBR ops o ρ:=by
  unfold aBR;cases hg:o.guard with
  | none=>rfl
  | some gw=>obtain⟨g,want⟩:=gw;simp only[aH1 (v:=v) hg hl]
 have h2:o.dst.map (upd ρ dst v)=o.dst.map ρ:=by
  cases ho:o.dst with
  | none=>rfl
  | some t=>
   cases dst with
   | none=>rfl
   | some d=>
    have hne:t≠d:=λe=>hd d rfl (e▸ho);simp[upd,hne]
 unfold aFZ;rw[h1,h2,aLQ hl]
def aSJ{P:Program}{ops:Array Oper}{o:Oper}{ρ:lR}{h:PH}{r:Nat}{b:Obj}(hs:o.dst.isSome=true)(hf:aFZ P ops o ρ h)(hr:h r=none):aFZ P ops o ρ (h.set r b):=by
 intro hw;have:=hf hw;obtain⟨d,hd⟩:=Option.isSome_iff_exists.1 hs;rw[hd] at this ⊢;exact dH.set this hr
def aTI{P:Program}{ops:Array Oper}{b:Array Nat}{k:lR->PH->Prop}(L:aVC P ops b){i:Nat}{oi:Oper}(hi:ops[i]? =some oi):
  ∀(n:Nat) (rem:List Nat) (ρ:lR) (h:PH),rem.length=n+1->rem.Nodup->(∀y,y∉rem->∀x∈rem,yX b y x=false)->Rl h->i∈rem->(∀x∈rem,yX b i x=false)->
   (∀j oj,j∈rem->j≠i->ops[j]? =some oj->yX b j i=false->aT2 (mG P oi.op) (mG P oj.op)=true)->
   (kU P ops oi ρ h λv h'=>AG P ops b i rem (upd ρ oi.dst v) h'∧aF2 P ops b k n (rem.erase i) (upd ρ oi.dst v) h')->aF2 P ops b k (n+1) rem ρ h:=by
 intro n;induction n with
 | zero=>
  intro rem ρ h hlen hnd hdc hr hmem hrdy hpair H j hj hjr;obtain⟨a,rfl⟩:=List.length_eq_one_iff.1 hlen;simp only[jI] at hj hmem;subst hj;subst hmem;exact⟨oi,hi,H⟩
 | succ n ih=>
  intro rem ρ h hlen hnd hdc hr hmem hrdy hpair H j hj hjr;by_cases hji:j=i
  ·subst hji;exact⟨oi,hi,H⟩
  have hmemj:j∈rem.erase i:=(List.mem_erase_of_ne hji).2 hj;have hmemi:i∈rem.erase j:=(List.mem_erase_of_ne (Ne.symm hji)).2 hmem;have hbji:yX b j i=false:=hjr i hmem;have hbij:yX b i j=false:=hrdy j hj
  -- the other one is there
  have hoj:∃oj,ops[j]? =some oj:=by
   have hke:KE (kU P ops oi ρ):=aM5;cases hx:ops[j]? with
   | some oj=>exact⟨oj,rfl⟩
   | none=>
    refine(hke.falls (hke.mono H λv h' hh=>?_) hr).elim;obtain⟨o,ho,_⟩:=hh.2 j hmemj (λx hx'=>hjr x (aKN hx'));rw[hx] at ho;cases ho
  obtain⟨oj,hoj⟩:=hoj;refine⟨oj,hoj,?_⟩;have hap:=Oper.apart_spec (L.apart i j oi oj hi hoj (Ne.symm hji) hbij hbji);have hp:=hpair j oj hj hji hoj hbji;have eT:∀u,kU P ops oi (upd ρ oj.dst u)=kU P ops oi ρ:=λu=>aOO hap.2.2;have eU:∀v,kU P ops oj (upd ρ oi.dst v)=kU P ops oj ρ:=λv=>aOO hap.1;have eC:∀v u,upd (upd ρ oi.dst v) oj.dst u=upd (upd ρ oj.dst u) oi.dst v:=λv u=>aR6 hap.2.1;have eE:(rem.erase i).erase j=(rem.erase j).erase i:=List.erase_comm i j;have keT:KE (kU P ops oi ρ):=aM5;have keU:KE (kU P ops oj ρ):=aM5
  -- as it stands
  have H1:kU P ops oi ρ h λv h1=>AG P ops b i rem (upd ρ oi.dst v) h1∧kU P ops oj ρ h1 λu h2=>
    AG P ops b j (rem.erase i) (upd (upd ρ oj.dst u) oi.dst v) h2∧aF2 P ops b k n ((rem.erase j).erase i) (upd (upd ρ oj.dst u) oi.dst v) h2:=by
   refine keT.mono H λv h1 hh=>⟨hh.1,?_⟩;obtain⟨o,ho,hstep⟩:=hh.2 j hmemj (λx hx'=>hjr x (aKN hx'));rw[hoj] at ho;cases ho;rw[eU v] at hstep;refine keU.mono hstep λu h2 hx=>?_;rw[eC,eE] at hx;exact hx
  -- a look of before
  have early:∀x ox,ops[x]? =some ox->mG P ox.op= .r->x∉rem->(∀d,oi.dst=some d->d∉ox.looksAt ops)∧(∀d,oi.dst=some d->ox.dst≠some d)∧(∀d,oj.dst=some d->d∉ox.looksAt ops)∧(∀d,oj.dst=some d->ox.dst≠some d):=by
   intro x ox hox hcx hx;have nxi:x≠i:=λe=>hx (e▸hmem);have nxj:x≠j:=λe=>hx (e▸hj);exact⟨L.look x i ox oi hox hi hcx (λ_=>hdc x hx i hmem),L.one x i ox oi hox hi hcx nxi,L.look x j ox oj hox hoj hcx (λ_=>hdc x hx j hj),L.one x j ox oj hox hoj hcx nxj⟩
  -- what is wanted
  have W:kU P ops oj ρ h λu h1=>AG P ops b j rem (upd ρ oj.dst u) h1∧kU P ops oi ρ h1 λv h2=>
    AG P ops b i (rem.erase j) (upd (upd ρ oj.dst u) oi.dst v) h2∧aF2 P ops b k n ((rem.erase j).erase i) (upd (upd ρ oj.dst u) oi.dst v) h2:=by
   have agI:∀v u h1,(mG P oj.op= .p∨mG P oj.op= .a)->AG P ops b i rem (upd ρ oi.dst v) h1->AG P ops b i (rem.erase j) (upd (upd ρ oj.dst u) oi.dst v) h1:=by
    intro v u h1 hcj hag oi' hi' hce x ox hox hcx hx hxi hb;have hxr:x∉rem:=λhm=>by
     by_cases e:x=j
     ·subst e;rw[hoj] at hox;cases hox;rcases hcj with hcj|hcj<;>rw[hcj] at hcx<;>cases hcx
     ·exact hx ((List.mem_erase_of_ne e).2 hm)
    obtain⟨_,_,l2,d2⟩:=early x ox hox hcx hxr;rw[←eC,aNL l2 d2];exact hag oi' hi' hce x ox hox hcx hxr hxi hb
   have agI0:mG P oi.op≠ .e->∀rem ρ h,AG P ops b i rem ρ h:=λhc rem ρ h oi' hi' hce=>by rw[hi] at hi';cases hi';exact absurd hce hc
   have agJ0:mG P oj.op≠ .e->∀rem ρ h,AG P ops b j rem ρ h:=λhc rem ρ h oj' hj' hce=>by rw[hoj] at hj';cases hj';exact absurd hce hc
   -- from behind both to behind the second alone
   have agJ:∀v u h2,AG P ops b j (rem.erase i) (upd (upd ρ oj.dst u) oi.dst v) h2->AG P ops b j rem (upd ρ oj.dst u) h2:=by
    intro v u h2 hag oj' hj' hce x ox hox hcx hx hxj hb;obtain⟨l1,d1,_,_⟩:=early x ox hox hcx hx;have:=hag oj' hj' hce x ox hox hcx (λhm=>hx (aKN hm)) hxj hb
    rwa [aNL l1 d1] at this
   cases ci:mG P oi.op with
   | p=>
    have hne:mG P oi.op≠ .e:=by rw[ci];intro h;cases h
    obtain⟨x,hx⟩:=aLn (ops:=ops) (ρ:=ρ) ci;obtain⟨v,e,hv⟩:=gJ.1 ((hx _ _).1 H1);exact keU.mono hv.2 λu h2 hh=>⟨agJ v u h2 hh.1,(hx _ _).2 (gJ.2 ⟨v,e,agI0 hne _ _ _,hh.2⟩)⟩
   | r=>
    have hne:mG P oi.op≠ .e:=by rw[ci];intro h;cases h
    have hx:=λh kv=>aNh (P:=P) (ops:=ops) (ρ:=ρ) ci h kv;obtain⟨v,e,hv⟩:=gJ.1 ((hx _ _).1 H1);by_cases cj:mG P oj.op= .e
    ·refine keU.mono hv.2 λu h2 hh=>⟨agJ v u h2 hh.1,(hx _ _).2 (gJ.2 ⟨v,?_,agI0 hne _ _ _,hh.2⟩)⟩;have hf:=hh.1 oj hoj cj i oi hi ci (λhm=>(List.Nodup.mem_erase_iff hnd).1 hm |>.1 rfl) (Ne.symm hji) hbji;have hself:=L.look i i oi oi hi hi ci (λe=>absurd rfl e);have hjl:=hap.2.2;unfold aNB at e ⊢;split at e
     ·rename_i hw;rw[if_pos hw];obtain⟨d,hd⟩:=Option.isSome_iff_exists.1 (L.own i oi hi ci);have hw2:aBR ops oi (upd (upd ρ oj.dst u) oi.dst v)=true:=by
       unfold aBR at hw ⊢;cases hg:oi.guard with
       | none=>rfl
       | some gw=>obtain⟨g,want⟩:=gw;simp only[hg] at hw;simp only[aH1 hg hself,aH1 hg hjl];exact hw
      have:=hf hw2;rw[aLQ hself,aLQ hjl,hd] at this;simpa[upd] using this
     ·rename_i hw;rw[if_neg hw];exact e
    ·cases cj':mG P oj.op with
     | e=>exact absurd cj' cj
     | p=>
      obtain⟨y,hy⟩:=aLn (ops:=ops) (ρ:=ρ) cj';obtain⟨u,e',hu⟩:=gJ.1 ((hy _ _).1 hv.2);exact(hy _ _).2 (gJ.2 ⟨u,e',agJ0 cj _ _ _,(hx _ _).2 (gJ.2 ⟨v,e,agI0 hne _ _ _,hu.2⟩)⟩)
     | r=>
      have hy:=λh kv=>aNh (P:=P) (ops:=ops) (ρ:=ρ) cj' h kv;obtain⟨u,e',hu⟩:=gJ.1 ((hy _ _).1 hv.2);exact(hy _ _).2 (gJ.2 ⟨u,e',agJ0 cj _ _ _,(hx _ _).2 (gJ.2 ⟨v,e,agI0 hne _ _ _,hu.2⟩)⟩)
     | a=>
      have H2:kU P ops oi ρ h λv h1=>kU P ops oj ρ h1 λu h2=>aF2 P ops b k n ((rem.erase j).erase i) (upd (upd ρ oj.dst u) oi.dst v) h2:=
       keT.mono H1 λv h1 hh=>keU.mono hh.2 λu h2 h3=>h3.2
      have H3:kU P ops oj ρ h λu h1=>kU P ops oi ρ h1 λv h2=>aF2 P ops b k n ((rem.erase j).erase i) (upd (upd ρ oj.dst u) oi.dst v) h2:=by
       rcases aLj (P:=P) (ops:=ops) (ρ:=ρ) cj' with ha|hp'
       ·exact aW6 (aVo ci) ha H2
       ·exact aHO keT hp' hr H2
      exact keU.mono H3 λu h1 hh=>⟨agJ0 cj _ _ _,keT.mono hh λv h2 h3=>⟨agI0 hne _ _ _,h3⟩⟩
   | a=>
    have hne:mG P oi.op≠ .e:=by rw[ci];intro h;cases h
    have cj:mG P oj.op≠ .e:=by intro hc;rw[ci,hc] at hp;cases hp
    have H2:kU P ops oi ρ h λv h1=>kU P ops oj ρ h1 λu h2=>aF2 P ops b k n ((rem.erase j).erase i) (upd (upd ρ oj.dst u) oi.dst v) h2:=
     keT.mono H1 λv h1 hh=>keU.mono hh.2 λu h2 h3=>h3.2
    have H3:kU P ops oj ρ h λu h1=>kU P ops oi ρ h1 λv h2=>aF2 P ops b k n ((rem.erase j).erase i) (upd (upd ρ oj.dst u) oi.dst v) h2:=by
     cases cj':mG P oj.op with
     | e=>exact absurd cj' cj
     | p=>exact aHO keT (aLn cj') hr H2
     | r=>rw[ci,cj'] at hp;cases hp
     | a=>
      rcases aLj (P:=P) (ops:=ops) (ρ:=ρ) ci with hti|hti
      ·rcases aLj (P:=P) (ops:=ops) (ρ:=ρ) cj' with ha|hp'
       ·exact aWC hti ha hr H2
       ·exact aHO keT hp' hr H2
      ·exact aYB hti keU H2
    exact keU.mono H3 λu h1 hh=>⟨agJ0 cj _ _ _,keT.mono hh λv h2 h3=>⟨agI0 hne _ _ _,h3⟩⟩
   | e=>
    have cj:mG P oj.op= .p∨mG P oj.op= .a:=by
     cases cj':mG P oj.op with
     | p=>exact .inl rfl
     | a=>exact .inr rfl
     | r=>rw[ci,cj'] at hp;cases hp
     | e=>rw[ci,cj'] at hp;cases hp
    have cj0:mG P oj.op≠ .e:=by rcases cj with cj|cj<;>rw[cj]<;>intro h<;>cases h
    have H2:kU P ops oi ρ h λv h1=>kU P ops oj ρ h1 λu h2=>AG P ops b i (rem.erase j) (upd (upd ρ oj.dst u) oi.dst v) h2∧aF2 P ops b k n ((rem.erase j).erase i) (upd (upd ρ oj.dst u) oi.dst v) h2:=by
     refine keT.mono H1 λv h1 hh=>?_;have kp:KP (kU P ops oj ρ)->kU P ops oj ρ h1 λu h2=>AG P ops b i (rem.erase j) (upd (upd ρ oj.dst u) oi.dst v) h2∧aF2 P ops b k n ((rem.erase j).erase i) (upd (upd ρ oj.dst u) oi.dst v) h2:=by
      rintro⟨y,hy⟩;obtain⟨u,e,hu⟩:=gJ.1 ((hy _ _).1 hh.2);exact(hy _ _).2 (gJ.2 ⟨u,e,agI v u h1 cj hh.1,hu.2⟩)
     rcases cj with cp|ca
     ·exact kp (aLn cp)
     ·rcases aLj (P:=P) (ops:=ops) (ρ:=ρ) ca with⟨y,hy⟩|hp'
      ·obtain⟨z,e,hz⟩:=gJ.1 ((hy _ _).1 hh.2);refine(hy _ _).2 (gJ.2 ⟨z,e,λr hn=>?_⟩);obtain⟨u,e2,hu⟩:=gJ.1 (hz r hn);refine gJ.2 ⟨u,e2,?_,hu.2⟩;intro oi' hi' hce x ox hox hcx hx hxi hb;exact aSJ (L.own x ox hox hcx) (agI v u h1 (.inr ca) hh.1 oi' hi' hce x ox hox hcx hx hxi hb) hn
      ·exact kp hp'
    have H3:kU P ops oj ρ h λu h1=>kU P ops oi ρ h1 λv h2=>AG P ops b i (rem.erase j) (upd (upd ρ oj.dst u) oi.dst v) h2∧aF2 P ops b k n ((rem.erase j).erase i) (upd (upd ρ oj.dst u) oi.dst v) h2:=by
     rcases cj with cp|ca
     ·exact aHO keT (aLn cp) hr H2
     ·rcases aLj (P:=P) (ops:=ops) (ρ:=ρ) ca with ha|hp'
      ·exact aWP keT ha hr H2
      ·exact aHO keT hp' hr H2
    exact keU.mono H3 λu h1 hh=>⟨agJ0 cj0 _ _ _,hh⟩
  refine keU.mono (keU.real W hr) λu h1 ⟨⟨hag,hst⟩,hr1⟩=>⟨hag,?_⟩;rw[←eT u] at hst;refine ih (rem.erase j) (upd ρ oj.dst u) h1 (by rw[List.length_erase_of_mem hj];omega) (hnd.erase j) ?_ hr1 hmemi (λx hx=>hrdy x (aKN hx)) (λj' oj' hj' hne ho hb=>hpair j' oj' (aKN hj') hne ho hb) hst;intro y hy x hx;by_cases e:y=j
  ·subst e;exact hjr x (aKN hx)
  ·exact hdc y (λhm=>hy ((List.mem_erase_of_ne e).2 hm)) x (aKN hx)
def aN3(P:Program)(ops:Array Oper):List Nat->lR->PH->Prop->Prop
 | [],_,_,K=>K
 | x::xs,ρ,h,K=>match ops[x]? with
  | none=>False
  | some o=>match o.guard with
   | none=>dH P h (uN ρ o)=o.dst.map ρ∧aN3 P ops xs ρ h K
   | some (g,want)=>((aHR ops ρ g==some want)=true->dH P h (uN ρ o)=o.dst.map ρ)∧aN3 P ops xs ρ h K
def aLU(P:Program)(ops:Array Oper)(b:Array Nat)(k:lR->PH->Prop):List Nat->List Nat->lR->PH->Prop
 | _,[],ρ,h=>k ρ h
 | pend,i::rest,ρ,h=>match ops[i]? with
  | none=>False
  | some o=>kU P ops o ρ h λv h'=>match mG P o.op with
   | .e=>aN3 P ops (pend.filter λx=>!yX b i x) (upd ρ o.dst v) h' (aLU P ops b k pend rest (upd ρ o.dst v) h')
   | .r=>aLU P ops b k (i::pend) rest (upd ρ o.dst v) h'
   | _=>aLU P ops b k pend rest (upd ρ o.dst v) h'
def aSh(P:Program)(ops:Array Oper)(i:Nat):Cls:=match ops[i]? with
 | some o=>mG P o.op
 | none=>.e
def isR:Cls->Bool
 | .r=>true
 | _=>false
def aSm(P:Program)(ops:Array Oper)(b:Array Nat):List Nat->Bool
 | []=>true
 | i::rest=>!yX b i i&&rest.all (λj=>!yX b i j&&(yX b j i||aT2 (aSh P ops i) (aSh P ops j)))&&aSm P ops b rest
def aRm(P:Program)(ops:Array Oper)(b:Array Nat):Bool:=
 (List.range ops.size).all λx=>(List.range ops.size).all λy=>match ops[x]?,ops[y]? with
  | some ox,some oy=>(x==y||yX b x y||yX b y x||ox.apart ops oy) &&
   (!isR (mG P ox.op)||((x !=y&&yX b x y)||match oy.dst with
    | none=>true
    | some d=>!(ox.looksAt ops).contains d)&&ox.dst.isSome&&(x==y||oy.dst.isNone||ox.dst !=oy.dst))
  | _,_=>true
def aRe(ops:Array Oper)(b:Array Nat):Bool:=
 (List.range ops.size).all λi=>match ops[i]? with
  | some o=>(o.after.all λe=>!Region.binds .any e||e.on<i) &&
   (List.range ops.size).all λx=>!yX b i x||o.after.any λe=>Region.binds .any e&&(e.on==x||yX b e.on x)
  | none=>true
def aPM:List Nat->Bool
 | []=>true
 | x::xs=>!xs.contains x&&aPM xs
def aPG(P:Program)(ops:Array Oper)(b:Array Nat)(ord:List Nat):Bool:=
 ord.length==ops.size&&b.size==ops.size&&ord.all (· < ops.size)&&(List.range ops.size).all (ord.contains ·)&&aPM ord&&aSm P ops b ord&&aRm P ops b&&aRe ops b
def aWm{P:Program}{ops:Array Oper}{b:Array Nat}(h:aRm P ops b=true):aVC P ops b:=by
 unfold aRm at h;simp only[aKJ,aHY] at h;have lt:∀{x:Nat} {o:Oper},ops[x]? =some o->x<ops.size:=λh=>(aIe.1 h).1;have key:∀(x y:Nat) (ox oy:Oper),ops[x]? =some ox->ops[y]? =some oy->((x==y||yX b x y||yX b y x||ox.apart ops oy) &&
   (!isR (mG P ox.op)||((x !=y&&yX b x y)||match oy.dst with
    | none=>true
    | some d=>!(ox.looksAt ops).contains d)&&ox.dst.isSome&&(x==y||oy.dst.isNone||ox.dst !=oy.dst)))=true:=by
  intro x y ox oy hx hy;have:=h x (lt hx) y (lt hy);simpa only[hx,hy] using this
 have isr:∀{c:Cls},c= .r->isR c=true:=λe=>by rw[e];rfl
 constructor
 ·intro x y ox oy hx hy hne h1 h2;have:=(tM _ _▸key x y ox oy hx hy).1;simpa[hne,h1,h2] using this
 ·intro x y ox oy hx hy hc h1 d hd;have:=(tM _ _▸key x y ox oy hx hy).2;rw[isr hc] at this;simp only[Bool.not_true,Bool.false_or,tM,hd] at this;rcases aHb _ _▸this.1.1 with h3|h3
  ·simp only[tM,bne_iff_ne] at h3;rw[h1 h3.1] at h3;cases h3.2
  ·simpa using h3
 ·intro x ox hx hc;have:=(tM _ _▸key x x ox ox hx hx).2;rw[isr hc] at this;simp only[Bool.not_true,Bool.false_or,tM] at this;exact this.1.2
 ·intro x y ox oy hx hy hc hne d hd;have:=(tM _ _▸key x y ox oy hx hy).2;rw[isr hc] at this;simp only[Bool.not_true,Bool.false_or,tM] at this;have h3:=this.2;rw[hd] at h3;simpa[hne] using h3
def aPd{P:Program}{ops:Array Oper}{ρ:lR}{h:PH}{K:Prop}:∀{l:List Nat},aN3 P ops l ρ h K->K∧∀x∈l,∃o,ops[x]? =some o∧aFZ P ops o ρ h
 | [],hk=>⟨hk,λ_ hx=>by cases hx⟩
 | x::xs,hk=>by
  unfold aN3 at hk;split at hk
  ·exact hk.elim
  ·rename_i o ho;have hboth:aFZ P ops o ρ h∧aN3 P ops xs ρ h K:=by
    unfold aFZ aBR;cases hg:o.guard with
    | none=>simp only[hg] at hk;exact⟨λ_=>hk.1,hk.2⟩
    | some gw=>obtain⟨g,want⟩:=gw;simp only[hg] at hk;exact⟨λhw=>hk.1 hw,hk.2⟩
   obtain⟨hK,hrest⟩:=aPd hboth.2;exact⟨hK,λy hy=>by
    rcases jW.1 hy with rfl|hy
    ·exact⟨o,ho,hboth.1⟩
    ·exact hrest y hy⟩
def aUo{P:Program}{ops:Array Oper}{b:Array Nat}{k:lR->PH->Prop}(L:aVC P ops b):
  ∀(rest pend:List Nat) (ρ:lR) (h:PH),aSm P ops b rest=true->rest.Nodup->(∀y,y∉rest->∀x∈rest,yX b y x=false)->Rl h->
   (∀x ox,ops[x]? =some ox->mG P ox.op= .r->x∉rest->x∈pend)->aLU P ops b k pend rest ρ h->aF2 P ops b k rest.length rest ρ h:=by
 intro rest;induction rest with
 | nil=>intro pend ρ h _ _ _ _ _ H;exact H
 | cons i rest ih=>
  intro pend ρ h hord hnd hdc hr hpend H;unfold aLU at H;split at H
  ·exact H.elim
  ·rename_i o hi;simp only[aSm,tM,Bool.not_eq_true',aKJ] at hord;obtain⟨⟨hii,hall⟩,hrest⟩:=hord;obtain⟨hnot,hnd'⟩:=aGT.1 hnd;have hrdy:∀x∈i::rest,yX b i x=false:=λx hx=>by
    rcases jW.1 hx with rfl|hx
    ·exact hii
    ·exact(hall x hx).1
   have hdc':∀y,y∉rest->∀x∈rest,yX b y x=false:=λy hy x hx=>by
    by_cases e:y=i
    ·subst e;exact(hall x hx).1
    ·exact hdc y (λhm=>by rcases jW.1 hm with hm|hm;exact e hm;exact hy hm) x (aJ2 _ hx)
   refine aTI L hi rest.length (i::rest) ρ h rfl hnd hdc hr (List.mem_cons_self) hrdy (λj oj hj hne hoj hb=>?_) ?_
   ·have hj':j∈rest:=(jW.1 hj).resolve_left hne;have:=(hall j hj').2;rw[hb,Bool.false_or] at this;simpa only[aSh,hi,hoj] using this
   ·have ke:KE (kU P ops o ρ):=aM5;refine ke.mono (ke.real H hr) λv h' ⟨hh,hr'⟩=>?_;rw[List.erase_cons_head];cases hc:mG P o.op with
    | e=>
     simp only[hc] at hh;obtain⟨hK,hags⟩:=aPd hh;refine⟨λoi hoi hce x ox hox hcx hx hxi hb=>?_,ih pend _ _ hrest hnd' hdc' hr' (λx ox hox hcx hx=>?_) hK⟩
     ·obtain⟨o',ho',hf⟩:=hags x (zLY.2 ⟨hpend x ox hox hcx hx,by simp[hb]⟩);rw[hox] at ho';cases ho';exact hf
     ·refine hpend x ox hox hcx λhm=>?_;rcases jW.1 hm with rfl|hm
      ·rw[hi] at hox;cases hox;rw[hc] at hcx;cases hcx
      ·exact hx hm
    | r=>
     simp only[hc] at hh;refine⟨λoi hoi hce=>(by rw[hi] at hoi;cases hoi;rw[hc] at hce;cases hce),ih (i::pend) _ _ hrest hnd' hdc' hr' (λx ox hox hcx hx=>?_) hh⟩;by_cases e:x=i
     ·subst e;exact List.mem_cons_self
     ·exact aJ2 _ (hpend x ox hox hcx λhm=>by rcases jW.1 hm with hm|hm;exact e hm;exact hx hm)
    | p=>
     simp only[hc] at hh;refine⟨λoi hoi hce=>(by rw[hi] at hoi;cases hoi;rw[hc] at hce;cases hce),ih pend _ _ hrest hnd' hdc' hr' (λx ox hox hcx hx=>?_) hh⟩;refine hpend x ox hox hcx λhm=>?_;rcases jW.1 hm with rfl|hm
     ·rw[hi] at hox;cases hox;rw[hc] at hcx;cases hcx
     ·exact hx hm
    | a=>
     simp only[hc] at hh;refine⟨λoi hoi hce=>(by rw[hi] at hoi;cases hoi;rw[hc] at hce;cases hce),ih pend _ _ hrest hnd' hdc' hr' (λx ox hox hcx hx=>?_) hh⟩;refine hpend x ox hox hcx λhm=>?_;rcases jW.1 hm with rfl|hm
     ·rw[hi] at hox;cases hox;rw[hc] at hcx;cases hcx
     ·exact hx hm
structure aAH(n:Nat)(D:List Deferred)(ρ:lR)(a:Act):Prop where
 defers:a.defers=D
 size:a.tmps.size=n
 slot:∀t,a.tmps.getD t undef=ρ t
def aAH.ev{n:Nat}{D:List Deferred}{ρ:lR}{a:Act}(hm:aAH n D ρ a):a.eval=ev ρ:=by
 funext x;cases x with
 | tmp t=>exact hm.slot t
 | _=>rfl
def aAH.put{n:Nat}{D:List Deferred}{ρ:lR}{a:Act}(hm:aAH n D ρ a){d:Option Tmp}(hd:∀t,d=some t->t<n)(v:Value):aAH n D (upd ρ d v) (a.put d v):=by
 cases d with
 | none=>exact hm
 | some t=>
  refine⟨hm.defers,by simp[Act.put,hm.size],λs=>?_⟩;have ht:t<a.tmps.size:=by rw[hm.size];exact hd t rfl
  simp only[Act.put,upd,aFv,Array.getElem?_setIfInBounds];by_cases e:s=t
  ·subst e;simp[ht]
  ·rw[if_neg (Ne.symm e),if_neg e,←aFv];exact hm.slot s
def aAH.want{n:Nat}{D:List Deferred}{ρ:lR}{a:Act}(hm:aAH n D ρ a)(ops:Array Oper)(o:Oper):Region.wanted o (yielded ops a.tmps)=aBR ops o ρ:=by
 unfold Region.wanted aBR;cases hg:o.guard with
 | none=>rfl
 | some gw=>
  obtain⟨g,want⟩:=gw;have:yielded ops a.tmps g=aHR ops ρ g:=by
   unfold yielded aHR;cases hd:(ops[g]?).bind (·.dst) with
   | none=>rfl
   | some t=>
    have hs:=hm.slot t;simp only[aAR];rw[aFv] at hs;cases hx:a.tmps[t]? with
    | none=>rw[hx] at hs;simp only[Option.getD_none] at hs;rw[←hs];rfl
    | some v=>rw[hx] at hs;simp only[Option.getD_some] at hs;rw[←hs];cases v<;>rfl
  simp only[this]
abbrev aGl(r:Option Nat):Fence:={Fence.wide with round:=r}
def aKc{r:Option Nat}{n:Nat}{P:Program}{f:FuncId}{args:Array Value}{w:World}{R:Ending->World->Prop}(h:Calls P f args w R):CallsIn (aGl r) n P f args w R:=
 (callsIn_wide (n:=n)).2 h
def aO2{r:Option Nat}{n m:Nat}{P:Program}{l:Nat}{f:FuncId}{tmps:Array Value}{assign body:Code}{w:World}{R:Ending->World->Prop}(h:RoundIn Fence.wide m P l f tmps assign body w R):RoundIn (aGl r) n P l f tmps assign body w R:=
 ⟨trivial,λc cs _=>h.2 c cs (room_wide _)⟩
def aRc{r:Option Nat}{N:Nat}{P:Program}{ops:Array Oper}{i:Nat}{o:Oper}{ρ:lR}{h:PH}{kv:dI}{n:Nat}{D:List Deferred}{a:Act}{w:World}{Q:Exit->Act->World->Prop}{K:Act->World->Prop}
  (hi:ops[i]? =some o) (hs:kU P ops o ρ h kv) (hm:aAH n D ρ a) (hsub:qA h w) (hk:∀v h' w',kv v h'->qA h' w'->Fr h w h' w'->K (a.put o.dst v) w'):wpOpIn (aGl r) N P ops Q i K a w:=by
 unfold wpOpIn;simp only[hi];rw[zV] at hs;rw[hm.want];by_cases hw:aBR ops o ρ=true
 ·rw[if_pos hw] at hs ⊢;unfold Oper.wpIn;refine⟨λ_ _=>trivial,?_⟩;rw[Oper.semAt_eq _ _ _ hs.noDefer,hm.ev];obtain⟨x,w',h',hrun,hn,hs',hf⟩:=hs.exec.sound hsub;rw[hrun];cases x with
  | value v=>exact hk v h' w' hn hs' hf
  | skip=>exact hk undef h' w' hn hs' hf
  | enter f args=>
   refine⟨λh=>by simp[Fence.wide] at h,aKc ((hn w' hs').mono λe w2 ⟨v,h2,he,hv,hs2,hf2⟩=>?_)⟩;subst he;exact hk v h2 w2 hv hs2 (hf.trans hf2)
  | round l f tmps assign body=>
   refine⟨λh=>by simp[Fence.wide] at h,aO2 (RoundIn.mono (hn w' hs') λe w2 ⟨v,h2,he,hv,hs2,hf2⟩=>?_)⟩;subst he;exact hk v h2 w2 hv hs2 (hf.trans hf2)
  | _=>exact hn.elim
 ·rw[if_neg hw] at hs ⊢;exact⟨λ_ _=>trivial,hk undef h w hs hsub (Fr.refl _ _)⟩
def aMM(n:Nat)(o:Oper):Bool:=match o.dst with
 | some d=>d<n
 | none=>true
def aSu{n:Nat}{o:Oper}(h:aMM n o=true):∀t,o.dst=some t->t<n:=by
 intro t ht;unfold aMM at h;rw[ht] at h;simpa using h
def aJo(b:Nat):Deferred:={target:=.collected b,args:=#[]}
def aBc(w0:World)(D:List Deferred)(h:PH)(w:World):Prop:=
 ∃bs:List Nat,bs.Nodup∧D=bs.map aJo∧∀b∈bs,w0.heap.size≤b∧b<w.heap.size∧h b=none∧w.heap[b]? =some (.deferred (some []))
def aBc.step{w0:World}{D:List Deferred}{h h':PH}{w w':World}(hd:aBc w0 D h w)(hf:Fr h w h' w'):aBc w0 D h' w':=by
 obtain⟨bs,h1,h2,h3⟩:=hd;refine⟨bs,h1,h2,λb hb=>?_⟩;obtain⟨a1,a2,a3,a4⟩:=h3 b hb;exact⟨a1,aNz a2 hf.size,hf.none b a2 a3,(hf.far b a2 a3).trans a4⟩
def aBc.nil(w0:World)(h:PH)(w:World):aBc w0 [] h w:=⟨[],List.nodup_nil,rfl,λb hb=>by cases hb⟩
def QW(n:Nat)(Q:Exit->lR->PH->Prop)(h0:PH)(w0:World):Exit->Act->World->Prop:=λe a w=>∃ρ h D,Q e ρ h∧aAH n D ρ a∧qA h w∧Fr h0 w0 h w∧aBc w0 D h w
def aXL{r:Option Nat}{N:Nat}{P:Program}{ops:Array Oper}{n:Nat}{D:List Deferred}{Q:Exit->lR->PH->Prop}{h0:PH}{w0:World}(hd:∀o∈ops,aMM n o=true):
  ∀(m k:Nat) (ρ:lR) (h:PH) (a:Act) (w:World),k+m=ops.size->aSR P ops (Q .normal) (ops.toList.drop k) ρ h->aAH n D ρ a->qA h w->Fr h0 w0 h w->aBc w0 D h w->
   wpOpsIn (aGl r) N P ops (QW n Q h0 w0) (List.range' k m) a w:=by
 intro m;induction m with
 | zero=>
  intro k ρ h a w hk H hm hs hf hD;rw[zO (by simp;omega)] at H;exact⟨ρ,h,D,H,hm,hs,hf,hD⟩
 | succ m ih=>
  intro k ρ h a w hk H hm hs hf hD;have hlt:k<ops.size:=by omega
  have hget:ops[k]? =some ops[k]:=Array.getElem?_eq_getElem hlt;rw[aBE (by simpa using hlt)] at H;rw[List.range'_succ,wpOpsIn_cons];refine aRc hget H hm hs λv h' w' hv hs' hf'=>?_;exact ih (k+1) _ _ _ _ (by omega) hv (hm.put (aSu (hd _ (Array.getElem_mem hlt))) v) hs' (hf.trans hf') (hD.step hf')
def aXj{r:Option Nat}{N:Nat}{P:Program}{ops:Array Oper}{b:Array Nat}{n:Nat}{D:List Deferred}{Q:Exit->lR->PH->Prop}{h0:PH}{w0:World}(hd:∀o∈ops,aMM n o=true)(hc:aRe ops b=true):
  ∀(m:Nat) (rem:List Nat) (listed:Array Bool) (ρ:lR) (h:PH) (a:Act) (w:World),rem.length=m->rem.Nodup->(∀x,x∈rem↔x<ops.size∧listed.getD x true=false)->listed.size=ops.size->
   (∀y,y∉rem->∀x∈rem,yX b y x=false)->aF2 P ops b (Q .normal) m rem ρ h->aAH n D ρ a->qA h w->Fr h0 w0 h w->aBc w0 D h w->
   wpAnyIn (aGl r) N P .any ops (QW n Q h0 w0) m listed a w:=by
 unfold aRe at hc;simp only[aKJ,aHY] at hc;have hcl:∀(i:Nat) (o:Oper),ops[i]? =some o->(∀e∈o.after,Region.binds .any e=true->e.on<i)∧∀x,x<ops.size->yX b i x=true->∃e∈o.after,Region.binds .any e=true∧(e.on=x∨yX b e.on x=true):=by
  intro i o hi;have:=hc i (aIe.1 hi).1;simp only[hi,tM,aKJ,aHY] at this;refine⟨λe he hb=>?_,λx hx hb=>?_⟩
  ·have h1:=Array.all_eq_true_iff_forall_mem.1 this.1 e he;simpa[hb] using h1
  ·have h1:=this.2 x hx;rw[hb] at h1;simp only[Bool.not_true,Bool.false_or] at h1;obtain⟨e,he,h2⟩:=Array.any_eq_true'.1 h1;simp only[tM,aHb,beq_iff_eq] at h2;exact⟨e,he,h2⟩
 intro m;induction m with
 | zero=>
  intro rem listed ρ h a w hlen hnd hrem hsz hdc H hm hs hf hD;have:rem=[]:=zLN hlen;subst this;refine⟨?_,ρ,h,D,H,hm,hs,hf,hD⟩;rw[List.eq_nil_iff_forall_not_mem];intro j hj;obtain⟨h1,o,ho,_⟩:=mem_ready.1 hj;have:=(hrem j).2 ⟨(aIe.1 ho).1,h1⟩;cases this
 | succ m ih=>
  intro rem listed ρ h a w hlen hnd hrem hsz hdc H hm hs hf hD;have hlisted:∀x,x<ops.size->x∉rem->listed.getD x false=true:=by
   intro x hx hn;cases hv:listed.getD x true with
   | false=>exact absurd ((hrem x).2 ⟨hx,hv⟩) hn
   | true=>
    have hlt:x<listed.size:=by omega
    simpa[aFv,hlt] using hv
  refine⟨λhr=>?_,λi hir=>?_⟩
  ·-- the lowest one that is left may come up
   exfalso;have hne:rem≠[]:=λe=>by rw[e] at hlen;cases hlen
   have hmin:∃i∈rem,∀x∈rem,i≤x:=by
    clear hlen hnd hrem hdc H hlisted;induction rem with
    | nil=>exact absurd rfl hne
    | cons y ys ihy=>
     by_cases hys:ys=[]
     ·subst hys;exact⟨y,List.mem_cons_self,λx hx=>by simp at hx;omega⟩
     ·obtain⟨i,hi,hle⟩:=ihy hys;by_cases hyi:y≤i
      ·exact⟨y,List.mem_cons_self,λx hx=>by
        rcases jW.1 hx with rfl|hx
        ·omega
        ·have:=hle x hx;omega⟩
      ·exact⟨i,aJ2 _ hi,λx hx=>by
        rcases jW.1 hx with rfl|hx
        ·omega
        ·exact hle x hx⟩
   obtain⟨i,hi,hle⟩:=hmin;obtain⟨hlt,hun⟩:=(hrem i).1 hi;have:i∈Region.ready .any ops listed:=by
    rw[mem_ready];refine⟨hun,ops[i],Array.getElem?_eq_getElem hlt,λe he hb=>?_⟩;have hlt2:=(hcl i _ (Array.getElem?_eq_getElem hlt)).1 e he hb;exact hlisted _ (by omega) (λhm=>by have:=hle _ hm;omega)
   rw[hr] at this;cases this
  ·obtain⟨hun,o,ho,hall⟩:=mem_ready.1 hir;have hlt:=(aIe.1 ho).1;have hmem:i∈rem:=(hrem i).2 ⟨hlt,hun⟩;have hrdy:∀x∈rem,yX b i x=false:=by
    intro x hx;cases hb:yX b i x with
    | false=>rfl
    | true=>
     exfalso;obtain⟨e,he,hbi,hor⟩:=(hcl i o ho).2 x ((hrem x).1 hx).1 hb;have hl:=hall e he hbi;have hlt2:=(hcl i o ho).1 e he hbi;have hne:e.on∉rem:=λhm=>by
      have:=((hrem _).1 hm).2;have hsz':e.on<listed.size:=by omega
      simp[aFv,hsz'] at this hl;rw[this] at hl;cases hl
     rcases hor with rfl|hor
     ·exact hne hx
     ·rw[hdc _ hne x hx] at hor;cases hor
   obtain⟨o',ho',hst⟩:=H i hmem hrdy;rw[ho] at ho';cases ho';refine aRc ho hst hm hs λv h' w' hv hs' hf'=>?_;refine ih (rem.erase i) (listed.setIfInBounds i true) _ _ _ _ (by rw[List.length_erase_of_mem hmem];omega) (hnd.erase i) (λx=>?_) (by simpa using hsz) ?_ hv.2 (hm.put (aSu (hd _ (Array.mem_of_getElem? ho))) v) hs' (hf.trans hf') (hD.step hf')
   ·rw[hnd.mem_erase_iff,hrem];by_cases e:x=i
    ·subst e;have:x<listed.size:=by omega
     simp[aFv,this]
    ·rw[getD_set_ne true (Ne.symm e)];simp[e]
   ·intro y hy x hx;by_cases e:y=i
    ·subst e;exact hrdy x (aKN hx)
    ·exact hdc y (λhm'=>hy ((List.mem_erase_of_ne e).2 hm')) x (aKN hx)
def aWL{r:Option Nat}{N:Nat}{D:List Deferred}{P:Program}{id:Nat}{ops:Array Oper}{b:Array Nat}{ord:List Nat}{n:Nat}{Q:Exit->lR->PH->Prop}{h0:PH}{w0:World}{ρ:lR}{h:PH}{a:Act}{w:World}
  (hmix:P.follows .mixedOrders=true) (hd:∀o∈ops,aMM n o=true) (hok:aPG P ops b ord=true) (H:aLU P ops b (Q .normal) [] ord ρ h) (hm:aAH n D ρ a) (hs:qA h w) (hf:Fr h0 w0 h w) (hD:aBc w0 D h w):
  (Code.region id ops true).wpIn (aGl r) N P (QW n Q h0 w0) a w:=by
 unfold aPG at hok;simp only[tM,beq_iff_eq,aKJ,decide_eq_true_eq] at hok;obtain⟨⟨⟨⟨⟨⟨⟨hlen,hbs⟩,hlt⟩,hcov⟩,hnd⟩,hord⟩,hlaid⟩,hclos⟩:=hok;have hnodup:ord.Nodup:=by
  clear hlen hlt hord H hcov;induction ord with
  | nil=>exact List.nodup_nil
  | cons x xs ih=>
   simp only[aPM,tM,Bool.not_eq_true'] at hnd;exact aGT.2 ⟨by simpa using hnd.1,ih hnd.2⟩
 have hall:∀x,x<ops.size->x∈ord:=λx hx=>by simpa using hcov x (aHY.2 hx)
 have hdc:∀y,y∉ord->∀x∈ord,yX b y x=false:=by
  intro y hy x hx;have hge:ops.size≤y:=by
   rcases Nat.lt_or_ge y ops.size with h1|h1
   ·exact absurd (hall y h1) hy
   ·exact h1
  unfold yX;rw[aFv,Array.getElem?_eq_none (by omega)];simp
 refine wpIn_region_any hmix ?_;have hs1:qA h {w with drawn:=w.drawn+1}:=hs;have hf1:Fr h0 w0 h {w with drawn:=w.drawn+1}:=⟨hf.os,hf.tape,hf.output,zLE hf.drawn (Nat.le_succ _),hf.size,hf.far,hf.none⟩;have hany:=aUo (aWm hlaid) ord [] ρ h hord hnodup hdc ⟨w,hs⟩ (λx ox hox _ hx=>absurd (hall x (aIe.1 hox).1) hx) H;rw[hlen] at hany;exact aXj hd hclos ops.size ord _ ρ h a _ hlen hnodup (λx=>by
  constructor
  ·intro hx;exact⟨hlt x hx,by simp[aFv,hlt x hx]⟩
  ·intro hx;exact hall x hx.1) (by simp) hdc hany hm hs1 hf1 hD
structure kW where
 b:Nat->Array Nat
 ord:Nat->List Nat
 keep:Nat->List Nat
 n:Nat:=0
def tN:Code->Nat
 | .region id _ _=>id
 | .seq x _=>tN x
 | .block _ c=>tN c
 | .loop c=>tN c
 | .scope c=>tN c
 | _=>0
abbrev QH:=Exit->lR->PH->Prop
abbrev aJI(next:lR->PH->Prop)(Q:QH):QH
 | .normal,ρ,h=>next ρ h
 | e,ρ,h=>Q e ρ h
abbrev aIX(id:Nat)(Q:QH):QH
 | .exit id',ρ,h=>if id'=id then Q .normal ρ h else Q (.exit id') ρ h
 | e,ρ,h=>Q e ρ h
abbrev aLo(Q:QH):QH
 | .goto _,_,_=>False
 | e,ρ,h=>Q e ρ h
def dW(v:Value)(A B:Prop):Prop:=match v with
 | .bool true=>A
 | .bool false=>B
 | _=>False
def iV(keep:List Nat)(step:(List Value->PH->Prop)->lR->PH->Prop)(vs:List Value)(h:PH):Prop:=
 ∃(I:iC) (μ:List Value->PH->Nat),I vs h∧∀ρ h,I (keep.map ρ) h->step (λvs' h'=>I vs' h'∧μ vs' h'<μ (keep.map ρ) h) ρ h
def aCo:Code->List Nat
 | .seq x y=>aCo x++aCo y
 | .cond _ x y=>aCo x++aCo y
 | .block _ c=>aCo c
 | .loop c=>aCo c
 | .scope c=>aCo c
 | .exit id=>[id]
 | _=>[]
def aV0(kn kr:PH->Prop)(ke:List (Nat×(PH->Prop)))(h:PH):Option Code->Prop
 | none=>kn h
 | some .ret=>kr h
 | some (.exit id)=>∃p∈ke,p.1=id∧p.2 h
 | _=>False
def aEV(P:Program)(n:Nat)(g:Value)(ps:Array Tmp)(assign body:Code)(kn kr:PH->Prop)(ke:List (Nat×(PH->Prop)))(vals:List (Nat×Value))(h:PH):Prop:=match g with
 | .func (.func gf) first captured=>aDP P gf=true∧∀(fn:FuncId) (tmps:Array Value) (l D:Nat),(∀p∈vals,tmps.getD p.1 undef=p.2)->tmps.size=n->h l=none->
   bR P gf (first ++ #[.func (.yield l) #[] #[]]++captured) (h.set l (.loop {state:=.ready,pending:=none,fn,tmps,params:=ps,assign,body,defers:=D}))
    λ_ h'=>dT P (Instr.endLoop l) h' λjump h2=>aV0 kn kr ke h2 jump
 | _=>False
def rR(P:Program)(ann:kW):Code->QH->lR->PH->Prop
 | .skip,Q,ρ,h=>Q .normal ρ h
 | .region _ ops false,Q,ρ,h=>aSR P ops (Q .normal) ops.toList ρ h
 | .region id ops true,Q,ρ,h=>aLU P ops (ann.b id) (Q .normal) [] (ann.ord id) ρ h
 | .seq x y,Q,ρ,h=>rR P ann x (aJI (rR P ann y Q) Q) ρ h
 | .cond c x y,Q,ρ,h=>dW (ev ρ c) (rR P ann x Q ρ h) (rR P ann y Q ρ h)
 | .block id c,Q,ρ,h=>rR P ann c (aIX id Q) ρ h
 | .loop c,Q,ρ,h=>iV (ann.keep (tN c)) (λnext ρ h=>rR P ann c (aJI (λρ' h'=>next ((ann.keep (tN c)).map ρ') h') Q) ρ h) ((ann.keep (tN c)).map ρ) h
 | .exit id,Q,ρ,h=>Q (.exit id) ρ h
 | .ret,Q,ρ,h=>Q .ret ρ h
 | .label _,Q,ρ,h=>Q .normal ρ h
 | .scope c,Q,ρ,h=>rR P ann c (aLo Q) ρ h
 | .rangeFunc g ps assign body,Q,ρ,h=>aEV P ann.n (ev ρ g) ps assign body (Q .normal ρ) (Q .ret ρ) ((aCo body).map λid=>(id,Q (.exit id) ρ)) ((ann.keep (tN body)).map λt=>(t,ρ t)) h
 | _,_,_,_=>False
def rY:Code->Bool
 | .seq x y=>rY x&&rY y
 | .cond _ x y=>rY x&&rY y
 | .block _ c=>rY c
 | .loop c=>rY c
 | .scope c=>rY c
 | .rangeFunc .. =>false
 | _=>true
def yS(P:Program)(ann:kW)(n:Nat):Code->Bool
 | .region _ ops false=>ops.all (aMM n)
 | .region id ops true=>ops.all (aMM n)&&aPG P ops (ann.b id) (ann.ord id)
 | .seq x y=>yS P ann n x&&yS P ann n y
 | .cond _ x y=>yS P ann n x&&yS P ann n y
 | .block _ c=>yS P ann n c
 | .loop c=>yS P ann n c
 | .scope c=>yS P ann n c
 | .rangeFunc _ ps _ _=>ann.n==n
 | _=>true
def dH.run{P:Program}{α:Type}{s:Sem α}:∀{a:α} {h:PH},dH P h s=some a->∀{w:World},qA h w->s.run P w= .ok a w:=by
 induction s with
 | pure a=>intro b h hb w hs;simp only[dH,zL4] at hb;subst hb;rfl
 | load m a k ih=>intro b h hb w hs;obtain⟨v,hv,hb⟩:=aHZ.1 hb;simp only[Sem.run,hs.cell hv];exact ih v hb hs
 | shape r k ih=>intro b h hb w hs;obtain⟨v,hv,hb⟩:=aHZ.1 hb;simp only[Sem.run,hs.shape hv];exact ih v hb hs
 | frozen a k ih=>intro b h hb w hs;obtain⟨v,hv,hb⟩:=aHZ.1 hb;simp only[Sem.run,hs.frozen hv];exact ih _ hb hs
 | program k ih=>intro b h hb w hs;exact ih P hb hs
 | mark m k ih=>intro b h hb w hs;exact ih hb hs
 | getObj r k ih=>
  intro b h hb w hs;simp only[dH] at hb;cases hx:h r with
  | none=>rw[hx] at hb;cases hb
  | some o=>
   rw[hx] at hb;simp only[Sem.run,hs _ _ hx];cases o<;>first|cases hb|exact ih _ hb hs
 | _=>intro b h hb;cases hb
def aQo{r:Option Nat}{N:Nat}{P:Program}{Q:Exit->Act->World->Prop}{c:Code}(I:Nat->Act->World->Prop)(round:∀n a w,I n a w->c.wpIn (aGl r) N P (Exit.then (λa' w'=>∃m,m<n∧I m a' w') Q) a w):
  ∀{n:Nat} {a:Act} {w:World},I n a w->(Code.loop c).wpIn (aGl r) N P Q a w:=by
 intro n a w h0;let J:Act->World->Prop:=λa w=>∃n,I n a w;have least:∀a w,J a w->∃n,I n a w∧∀m,I m a w->n≤m:=by
  intro a w ⟨n,hn⟩;induction n using Nat.strongRecOn with
  | _ n ih=>
   by_cases hx:∃m,m<n∧I m a w
   ·obtain⟨m,hlt,hm⟩:=hx;exact ih m hlt hm
   ·exact⟨n,hn,λm hm=>by
     rcases Nat.lt_or_ge m n with h1|h1
     ·exact absurd ⟨m,h1,hm⟩ hx
     ·exact h1⟩
 let μ:Act->World->Nat:=λa w=> @dite Nat (J a w) (Classical.propDecidable _) (λh=>Classical.choose (least a w h)) (λ_=>0);refine wpIn_loop J μ ⟨n,h0⟩ λa w hJ=>?_;have hμ:μ a w=Classical.choose (least a w hJ):=dif_pos hJ;have hsp:=Classical.choose_spec (least a w hJ);refine wpIn_mono (round _ a w hsp.1) λe a' w' he=>?_;cases e with
 | normal=>
  obtain⟨m,hlt,hm⟩:=he;have hJ':J a' w':=⟨m,hm⟩;have hμ':μ a' w'=Classical.choose (least a' w' hJ'):=dif_pos hJ';refine⟨hJ',?_⟩;rw[hμ,hμ'];exact Nat.lt_of_le_of_lt ((Classical.choose_spec (least a' w' hJ')).2 m hm) hlt
 | _=>exact he
def aCq{P:Program}{b:Frame}{a:Act}{k:List Item}{cs:List Frame}{w:World}{c:Code}:step P (lone (b.atR a (.code (.scope c)::k)) cs w)= .next (lone (b.atR a (.code c :: .inScope c::k)) cs w):=
 step_lone_go (by simp[stepG,stepG.exec,Frame.atR])
def aO7{P:Program}{b:Frame}{a:Act}{k:List Item}{cs:List Frame}{w:World}{c:Code}:step P (lone (b.atR a (.inScope c::k)) cs w)= .next (lone (b.atR a k) cs w):=
 step_lone_go (by simp[stepG,stepG.exec,Frame.atR])
def aKn{F:Fence}{n:Nat}{P:Program}{Q:Exit->Act->World->Prop}{a:Act}{w:World}{c:Code}(h:c.wpIn F n P (Exit.noGoto Q) a w):(Code.scope c).wpIn F n P Q a w:=by
 intro b k cs hro hb hr;have h0:(lone (b.atR a (.code (.scope c)::k)) cs w).fenced P F:=fenced_calm hb hr rfl;obtain⟨e,a₁,w₁,hq,harr⟩:=h b (.inScope c::k) cs hro hb hr;cases e with
 | normal=>exact⟨.normal,a₁,w₁,hq,.head h0 aCq (StepsIn.trans harr (.one (fenced_calm hb hr rfl) aO7))⟩
 | exit id=>
  have hx:exitTo id (.inScope c::k)=exitTo id k:=by simp[exitTo]
  exact⟨.exit id,a₁,w₁,hq,λk' hk=>.head h0 aCq (harr.1 k' (by rw[hx];exact hk)),
   λhr' hk=>let ⟨k₁,h1,h2⟩:=harr.2 hr' (by rw[hx];exact hk);⟨k₁,h1,.head h0 aCq h2⟩⟩
 | goto l=>exact hq.elim
 | ret=>exact⟨_,a₁,w₁,hq,.of_steps (.one h0 aCq) harr⟩
 | panic ch=>exact⟨_,a₁,w₁,hq,.of_steps (.one h0 aCq) harr⟩
 | outgrown=>exact⟨_,a₁,w₁,hq,.of_steps (.one h0 aCq) harr⟩
def aEV.sound{N:Nat}{P:Program}{n:Nat}{D:List Deferred}{h0:PH}{w0:World}{g:Operand}{ps:Array Tmp}{assign body:Code}{Q:QH}{ρ:lR}{h:PH}{vs:List Nat}
  (H:aEV P n (ev ρ g) ps assign body (Q .normal ρ) (Q .ret ρ) ((aCo body).map λid=>(id,Q (.exit id) ρ)) (vs.map λt=>(t,ρ t)) h) {a:Act} {w:World} (hm:aAH n D ρ a) (hs:qA h w) (hf:Fr h0 w0 h w) (hD:aBc w0 D h w):
  (Code.rangeFunc g ps assign body).wpIn (aGl none) N P (QW n Q h0 w0) a w:=by
 unfold aEV at H;split at H
 case h_2=>exact H.elim
 rename_i gf first captured hg
 obtain⟨he,H⟩:=H;refine wpIn_rangeFunc λfn _=>?_;have hs1:qA h (w.alloc (.deferred (some []))):=λb o hb=>by
  have:=hs b o hb;show(w.heap.push _)[b]? =some o;rw[Array.getElem?_push,if_neg (Nat.ne_of_lt (hs.lt hb))];exact this
 have hf1:Fr h w h (w.alloc (.deferred (some []))):=⟨rfl,rfl,rfl,nQ _,by rw[World.size_alloc];omega,λb hb _=>by
  show(w.heap.push _)[b]? =_;rw[Array.getElem?_push,if_neg (Nat.ne_of_lt hb)],λ_ _ hn=>hn⟩
 have hfr:h (w.alloc (.deferred (some []))).heap.size=none:=hs1.fresh;have hsz:(w.alloc (.deferred (some []))).heap.size=w.heap.size+1:=World.size_alloc _ _;have hc:=H fn a.tmps (w.alloc (.deferred (some []))).heap.size w.heap.size (λp hp=>by obtain⟨t,_,rfl⟩:=rS.1 hp;exact hm.slot t) hm.size hfr;have hn2:qA (h.set (w.alloc (.deferred (some []))).heap.size (.loop {state:=.ready,pending:=none,fn,tmps:=a.tmps,params:=ps,assign,body,defers:=w.heap.size})) ((w.alloc (.deferred (some []))).alloc (.loop {state:=.ready,pending:=none,fn,tmps:=a.tmps,params:=ps,assign,body,defers:=w.heap.size}))∧Fr h (w.alloc (.deferred (some []))) (h.set (w.alloc (.deferred (some []))).heap.size (.loop {state:=.ready,pending:=none,fn,tmps:=a.tmps,params:=ps,assign,body,defers:=w.heap.size})) ((w.alloc (.deferred (some []))).alloc (.loop {state:=.ready,pending:=none,fn,tmps:=a.tmps,params:=ps,assign,body,defers:=w.heap.size})):=hs1.new (.loop {state:=.ready,pending:=none,fn,tmps:=a.tmps,params:=ps,assign,body,defers:=w.heap.size});have g3:((w.alloc (.deferred (some []))).alloc (.loop {state:=.ready,pending:=none,fn,tmps:=a.tmps,params:=ps,assign,body,defers:=w.heap.size})).heap[w.heap.size]? =some (.deferred (some [])):=by
  show((w.heap.push _).push _)[w.heap.size]? =_;rw[Array.getElem?_push,if_neg (by simp),Array.getElem?_push,if_pos rfl]
 have g4:w.heap.size<((w.alloc (.deferred (some []))).alloc (.loop {state:=.ready,pending:=none,fn,tmps:=a.tmps,params:=ps,assign,body,defers:=w.heap.size})).heap.size:=by rw[World.size_alloc,World.size_alloc];omega
 have hent:(Instr.enterLoop fn a.tmps ps assign body none).run P w= .ok (w.heap.size+1,[aJo w.heap.size]) ((w.alloc (.deferred (some []))).alloc (.loop {state:=.ready,pending:=none,fn,tmps:=a.tmps,params:=ps,assign,body,defers:=w.heap.size})):=run_enterLoop_outer _ _ _ _ _;rw[hsz] at hc hn2;generalize (w.alloc (.deferred (some []))).alloc (.loop {state:=.ready,pending:=none,fn,tmps:=a.tmps,params:=ps,assign,body,defers:=w.heap.size})=w1 at hn2 g3 g4 hent;have hcw:=hc.calls he _ hn2.1;have heg:∀(args:Array Value) (w:World),(callFunc gf args).run P w= .ok (.enter gf args) w:=λargs w=>
  dH.run (h:=λ_=>none) (aHy he) (λ_ _ hb=>by cases hb)
 have hev:a.eval g= .func (.func gf) first captured:=by rw[hm.ev];exact hg
 have g2:(h.set (w.heap.size+1) (.loop {state:=.ready,pending:=none,fn,tmps:=a.tmps,params:=ps,assign,body,defers:=w.heap.size})) w.heap.size=none:=by
  unfold PH.set;rw[if_neg (by omega)];exact hs.fresh
 refine⟨w.heap.size+1,[aJo w.heap.size],w1,{target:=.fn (.func gf) captured,args:=first ++ #[.func (.yield (w.heap.size+1)) #[] #[]]},w1,gf,first ++ #[.func (.yield (w.heap.size+1)) #[] #[]]++captured,w1,?_,?_,?_,?_,?_,?_⟩
 ·exact hent
 ·simp only[resolve,rangeCall,hev];simp[Deferred.ofValue,Act.eval]
 ·intro f' _;trivial
 ·unfold invoke;exact heg _ _
 ·intro h;cases h
 ·refine aKc (hcw.mono λe w' hh=>?_);obtain⟨v,h',rfl,hse,hs',hf'⟩:=hh;obtain⟨jump,w4,h4,hrun,hj,hs4,hf4⟩:=hse.sound hs';have hf2:=hf'.trans hf4;have hfall:Fr h w h4 w4:=(hf1.trans hn2.2).trans hf2;have hD':aBc w0 (aJo w.heap.size::D) h4 w4:=by
   obtain⟨bs,b1,b2,b3⟩:=hD;refine⟨w.heap.size::bs,aGT.2 ⟨λhmem=>absurd (b3 _ hmem).2.1 (Nat.lt_irrefl _),b1⟩,by rw[b2];rfl,λb hb=>?_⟩;rcases jW.1 hb with rfl|hb
   ·exact⟨hf.size,aNz g4 hf2.size,hf2.none _ g4 g2,(hf2.far _ g4 g2).trans g3⟩
   ·obtain⟨c1,c2,c3,c4⟩:=b3 b hb;exact⟨c1,aNz c2 hfall.size,hfall.none b c2 c3,(hfall.far b c2 c3).trans c4⟩
  refine⟨jump,w4,hrun,?_⟩;have hm':aAH n (aJo w.heap.size::D) ρ {a with defers:=[aJo w.heap.size]++a.defers}:=⟨by simp[hm.defers],hm.size,hm.slot⟩;unfold aV0 at hj;cases jump with
  | none=>exact⟨ρ,h4,_,hj,hm',hs4,hf.trans hfall,hD'⟩
  | some c=>
   cases c with
   | ret=>exact wpIn_ret ⟨ρ,h4,_,hj,hm',hs4,hf.trans hfall,hD'⟩
   | exit id=>
    obtain⟨p,hp,e1,e2⟩:=hj;obtain⟨id',_,rfl⟩:=rS.1 hp;subst e1;exact wpIn_exit ⟨ρ,h4,_,e2,hm',hs4,hf.trans hfall,hD'⟩
   | _=>exact hj.elim
def rR.sound{r:Option Nat}{N:Nat}{P:Program}{ann:kW}{n:Nat}(hmix:P.follows .mixedOrders=true){h0:PH}{w0:World}:∀(c:Code) {Q:QH} {ρ:lR} {h:PH},yS P ann n c=true->(r=none∨rY c=true)->rR P ann c Q ρ h->
  ∀{D:List Deferred} {a:Act} {w:World},aAH n D ρ a->qA h w->Fr h0 w0 h w->aBc w0 D h w->c.wpIn (aGl r) N P (QW n Q h0 w0) a w:=by
 intro c;induction c with
 | skip=>intro Q ρ h _ _ H D a w hm hs hf hD;exact wpIn_skip ⟨ρ,h,D,H,hm,hs,hf,hD⟩
 | region id ops d=>
  intro Q ρ h hb _ H D a w hm hs hf hD;cases d with
  | false=>
   refine wpIn_region ?_;rw[List.range_eq_range'];exact aXL (λo ho=>Array.all_eq_true_iff_forall_mem.1 hb o ho) ops.size 0 ρ h a w (by omega) (by simpa[rR] using H) hm hs hf hD
  | true=>
   simp only[yS,tM] at hb;exact aWL hmix (λo ho=>Array.all_eq_true_iff_forall_mem.1 hb.1 o ho) hb.2 H hm hs hf hD
 | seq x y ihx ihy=>
  intro Q ρ h hb hr H D a w hm hs hf hD;simp only[yS,tM] at hb;have hr':(r=none∨rY x=true)∧(r=none∨rY y=true):=by simp only[rY,tM] at hr;rcases hr with e|⟨e1,e2⟩;exact⟨.inl e,.inl e⟩;exact⟨.inr e1,.inr e2⟩
  refine wpIn_seq (wpIn_mono (ihx hb.1 hr'.1 H hm hs hf hD) λe a' w' ⟨ρ',h',D',hq,hm',hs',hf',hD'⟩=>?_);cases e with
  | normal=>exact ihy hb.2 hr'.2 hq hm' hs' hf' hD'
  | _=>exact⟨ρ',h',D',hq,hm',hs',hf',hD'⟩
 | cond c x y ihx ihy=>
  intro Q ρ h hb hr H D a w hm hs hf hD;simp only[yS,tM] at hb;have hr':(r=none∨rY x=true)∧(r=none∨rY y=true):=by simp only[rY,tM] at hr;rcases hr with e|⟨e1,e2⟩;exact⟨.inl e,.inl e⟩;exact⟨.inr e1,.inr e2⟩
  have he:a.eval c=ev ρ c:=by rw[hm.ev]
  unfold rR dW at H;split at H
  ·rename_i hv;exact wpIn_cond_true (he.trans hv) (ihx hb.1 hr'.1 H hm hs hf hD)
  ·rename_i hv;exact wpIn_cond_false (he.trans hv) (ihy hb.2 hr'.2 H hm hs hf hD)
  ·exact H.elim
 | block id c ih=>
  intro Q ρ h hb hr H D a w hm hs hf hD;refine wpIn_block (wpIn_mono (ih hb hr H hm hs hf hD) λe a' w' ⟨ρ',h',D',hq,hm',hs',hf',hD'⟩=>?_);cases e with
  | exit id'=>
   simp only[Exit.inBlock,aIX] at hq ⊢;split
   ·rename_i e;rw[if_pos e] at hq;exact⟨ρ',h',D',hq,hm',hs',hf',hD'⟩
   ·rename_i e;rw[if_neg e] at hq;exact⟨ρ',h',D',hq,hm',hs',hf',hD'⟩
  | _=>exact⟨ρ',h',D',hq,hm',hs',hf',hD'⟩
 | loop c ih=>
  intro Q ρ h hb hr H D a w hm hs hf hD;obtain⟨I,μ,hI,hround⟩:=H;generalize ann.keep (tN c)=keep at *;refine aQo (λm a w=>∃ρ h D,I (keep.map ρ) h∧μ (keep.map ρ) h=m∧aAH n D ρ a∧qA h w∧Fr h0 w0 h w∧aBc w0 D h w) (λm a w ⟨ρ,h,D,hI,hμ,hm,hs,hf,hD⟩=>?_) (n:=μ (keep.map ρ) h) ⟨ρ,h,D,hI,rfl,hm,hs,hf,hD⟩;refine wpIn_mono (ih hb hr (hround ρ h hI) hm hs hf hD) λe a' w' ⟨ρ',h',D',hq,hm',hs',hf',hD'⟩=>?_;cases e with
  | normal=>exact⟨_,hμ▸hq.2,ρ',h',D',hq.1,rfl,hm',hs',hf',hD'⟩
  | _=>exact⟨ρ',h',D',hq,hm',hs',hf',hD'⟩
 | exit id=>intro Q ρ h _ _ H D a w hm hs hf hD;exact wpIn_exit ⟨ρ,h,D,H,hm,hs,hf,hD⟩
 | scope c ih=>
  intro Q ρ h hb hr H D a w hm hs hf hD;refine aKn (wpIn_mono (ih hb hr H hm hs hf hD) λe a' w' ⟨ρ',h',D',hq,hm',hs',hf',hD'⟩=>?_);cases e with
  | goto l=>exact hq
  | _=>exact⟨ρ',h',D',hq,hm',hs',hf',hD'⟩
 | label l=>intro Q ρ h _ _ H D a w hm hs hf hD;exact wpIn_label ⟨ρ,h,D,H,hm,hs,hf,hD⟩
 | ret=>intro Q ρ h _ _ H D a w hm hs hf hD;exact wpIn_ret ⟨ρ,h,D,H,hm,hs,hf,hD⟩
 | rangeFunc f ps x y ih1 ih2=>
  intro Q ρ h hb hr H D a w hm hs hf hD;rcases hr with rfl|hr
  ·simp only[yS,beq_iff_eq] at hb;unfold rR at H;rw[hb] at H;exact aEV.sound H hm hs hf hD
  ·cases hr
 | goto l=>intro Q ρ h _ _ H;exact H.elim
 | refuse s=>intro Q ρ h _ _ H;exact H.elim
def aTz(P:Program)(l:Nat)(kv:dI):QH
 | .normal,_,h=>dT P (Instr.endRound l none) h kv
 | .ret,_,h=>dT P (Instr.endRound l (some .ret)) h kv
 | .exit id,_,h=>dT P (Instr.endRound l (some (.exit id))) h kv
 | _,_,_=>False
def aQW(P:Program)(ann:kW)(l:Nat)(assign body:Code)(kv:dI)(ρ:lR)(h:PH):Prop:=
 rR P ann assign (λe ρ h=>match e with
  | .normal=>dT P (Instr.beginRound l) h λ_ h'=>rR P ann body (aTz P l kv) ρ h'
  | _=>False) ρ h
def aQW.next{P:Program}(ann:kW)(hmix:P.follows .mixedOrders=true){l:Nat}{f:FuncId}{tmps:Array Value}{assign body:Code}{kv:dI}{h:PH}
  (hA:(yS P ann tmps.size assign&&rY assign&&yS P ann tmps.size body&&rY body)=true) (H:aQW P ann l assign body kv (λt=>tmps.getD t undef) h):
  tG P (.round l f tmps assign body) h kv:=by
 simp only[tM] at hA;obtain⟨⟨⟨a1,a2⟩,a3⟩,a4⟩:=hA;intro w hs;refine roundIn_of_wpIn trivial (wpIn_mono (rR.sound (r:=some l) (D:=[]) hmix assign a1 (.inr a2) H ⟨rfl,rfl,λ_=>rfl⟩ hs (Fr.refl h w) (aBc.nil _ _ _)) λe a' w' ⟨ρ',h',D',hq,hm',hs',hf',hD'⟩=>?_);cases e with
 | normal=>
  obtain⟨u,w2,h2,hrun,hb,hs2,hf2⟩:=hq.sound hs';refine⟨w2,hrun,wpIn_mono (rR.sound (r:=some l) hmix body a3 (.inr a4) hb hm' hs2 (hf'.trans hf2) (hD'.step hf2)) λe a3 w3 ⟨ρ3,h3,D3,hq3,hm3,hs3,hf3,hD3⟩=>?_⟩;cases e with
  | normal=>obtain⟨v,w4,h4,hrun4,hk,hs4,hf4⟩:=dT.sound hq3 hs3;exact⟨v,w4,hrun4,v,h4,rfl,hk,hs4,hf3.trans hf4⟩
  | ret=>obtain⟨v,w4,h4,hrun4,hk,hs4,hf4⟩:=dT.sound hq3 hs3;exact⟨v,w4,hrun4,v,h4,rfl,hk,hs4,hf3.trans hf4⟩
  | exit id=>obtain⟨v,w4,h4,hrun4,hk,hs4,hf4⟩:=dT.sound hq3 hs3;exact⟨v,w4,hrun4,v,h4,rfl,hk,hs4,hf3.trans hf4⟩
  | _=>exact hq3.elim
 | _=>exact hq.elim
def aNZ(P:Program)(ρ:lR)(h:PH):List ResultVar->(List Value->Prop)->Prop
 | [],k=>k []
 | .tmp t::rs,k=>aNZ P ρ h rs λvs=>k (ρ t::vs)
 | .cell a t::rs,k=>dA (dH P h (loadAt t (ρ a))) λv=>aNZ P ρ h rs λvs=>k (v::vs)
def aSb:List Value->Value
 | [v]=>v
 | vs=>.tuple vs.toArray
def aUk(P:Program)(fn:Func)(ρ:lR)(h:PH)(R:dI):Prop:=aNZ P ρ h fn.results.toList λvs=>R (aSb vs) h
def aSM(tmps:Array Value):ResultVar->Sem Value
 | .tmp t=>pure (tmps.getD t undef)
 | .cell x t=>do loadVar t (←asAddr (tmps.getD x undef))
def aNZ.run{P:Program}{ρ:lR}{h:PH}{n:Nat}{D:List Deferred}{a:Act}{w:World}(hm:aAH n D ρ a)(hs:qA h w):∀(l:List ResultVar) {k:List Value->Prop},aNZ P ρ h l k->
  ∃vs,k vs∧(l.mapM (m:=Sem) (aSM a.tmps)).run P w= .ok vs w:=by
 intro l;induction l with
 | nil=>intro k H;exact⟨[],H,rfl⟩
 | cons r rs ih=>
  intro k H;cases r with
  | tmp t=>
   obtain⟨vs,hk,hr⟩:=ih H;refine⟨_,hk,?_⟩;have h1:(aSM a.tmps (.tmp t)).run P w= .ok (ρ t) w:=by
    show(pure (a.tmps.getD t undef):Sem Value).run P w=_;rw[hm.slot];rfl
   rw[List.mapM_cons];simp only[Sem.run_bind,Sem.run_pure,Result.andThen_ok,h1,hr]
  | cell x t=>
   obtain⟨v,hv,H'⟩:=gJ.1 H;obtain⟨vs,hk,hr⟩:=ih H';refine⟨_,hk,?_⟩;rw[List.mapM_cons];have h1:(aSM a.tmps (.cell x t)).run P w= .ok v w:=by
    have h2:=dH.run hv hs;show(do loadVar t (←asAddr (a.tmps.getD x undef)):Sem Value).run P w=_;rw[hm.slot];unfold loadAt Instr.sureAddr at h2;generalize ρ x=y at *;cases y with
    | pointer p=>cases p with
     | none=>exact absurd hv (by intro hc;cases hc)
     | some p=>exact h2
    | _=>exact absurd hv (by intro hc;cases hc)
   simp only[Sem.run_bind,Sem.run_pure,Result.andThen_ok,h1,hr]
def aUL{P:Program}{f:FuncId}{fn:Func}{c:Code}(ann:kW)(hmix:P.follows .mixedOrders=true)(hf:P.funcs[f]? =some fn)(hb:fn.body=some c)(hen:aDP P f=true)(hB:yS P ann fn.ntmps c=true)
  {args:Array Value} (hargs:args.size≤fn.ntmps) {h:PH} {R:dI}
  (H:rR P ann c (λe ρ h=>match e with
   | .normal | .ret=>aUk P fn ρ h R
   | _=>False) (λt=>args.getD t undef) h):bR P f args h R:=by
 refine .inl ⟨hen,λw hs=>(callsIn_wide (n:=0)).1 (callsIn_of_wp_marks hf hb trivial ?_)⟩;have hm:aAH fn.ntmps [] (λt=>args.getD t undef) {tmps:=args++Array.replicate (fn.ntmps-args.size) undef,defers:=[]}:=by
  refine⟨rfl,by simp;omega,λt=>?_⟩;simp only[aFv,Array.getElem?_append,Array.getElem?_replicate];by_cases hlt:t<args.size
  ·simp[hlt]
  ·rw[if_neg hlt];have:args[t]? =none:=Array.getElem?_eq_none (by omega);rw[this];split<;>rfl
 refine wpIn_mono (rR.sound (r:=none) hmix c hB (.inl rfl) H hm hs (Fr.refl _ _) (aBc.nil w h w)) λe a' w' ⟨ρ',h',D',hq,hm',hs',hf',hD'⟩=>?_;have fin:∀(ds:List Deferred) (w':World),qA h' w'->Fr h w h' w'->aBc w ds h' w'->aUk P fn ρ' h' R->LeavesInM Fence.wide 0 P fn a'.tmps (λe w'=>∃v h',e= .returned v∧R v h'∧qA h' w'∧Fr h w h' w') ds .returning w':=by
  intro ds;induction ds with
  | nil=>
   intro w' hs' hf' _ hr;obtain⟨vs,hk,hrun⟩:=aNZ.run hm' hs' fn.results.toList hr;refine⟨aSb vs,?_,_,h',rfl,hk,hs',hf'⟩;show((do let vs ←fn.results.mapM (aSM a'.tmps);pure (if h:vs.size=1 then vs[0] else .tuple vs):Sem Value)).run P w'=_;rw[Array.mapM_eq_mapM_toList];simp only[Sem.run_bind,Sem.run_map,Result.andThen_ok,hrun];simp only[Sem.run_pure];congr 1;cases vs with
   | nil=>rfl
   | cons v vs=>cases vs with
    | nil=>rfl
    | cons u us=>simp[aSb]
  | cons d ds ih=>
   intro w' hs' hf' hD' hr;obtain⟨bs,b1,b2,b3⟩:=hD';cases bs with
   | nil=>cases b2
   | cons b bs=>
    simp only[jF,lT] at b2;obtain⟨rfl,rfl⟩:=b2;obtain⟨c1,c2,c3,c4⟩:=b3 b List.mem_cons_self;obtain⟨hnot,b1⟩:=aGT.1 b1;have hne:∀i,i≠b->(w'.putObj b (.deferred none)).heap[i]? =w'.heap[i]?:=λi hi=>by
     simp[World.putObj,Array.getElem?_setIfInBounds,Ne.symm hi]
    have hsz:(w'.putObj b (.deferred none)).heap.size=w'.heap.size:=by simp[World.putObj]
    refine⟨(by intro e;cases e),.inl ⟨b,_,rfl,run_takeDeferred c4,ih _ (λi o hi=>?_) ⟨hf'.os,hf'.tape,hf'.output,hf'.drawn,by rw[hsz];exact hf'.size,λi hi hn=>?_,hf'.none⟩ ⟨bs,b1,rfl,λi hi=>?_⟩ hr⟩⟩
    ·rw[hne i (λe=>by subst e;rw[c3] at hi;cases hi)];exact hs' i o hi
    ·rw[hne i (λe=>by subst e;omega)];exact hf'.far i hi hn
    ·obtain⟨e1,e2,e3,e4⟩:=b3 i (aJ2 _ hi);exact⟨e1,by rw[hsz];exact e2,e3,by rw[hne i (λe=>by subst e;exact hnot hi)];exact e4⟩
 have hfin:=fin D' w' hs' hf' hD';rw[←hm'.defers] at hfin;cases e with
 | normal=>exact hfin hq
 | ret=>exact hfin hq
 | _=>exact hq.elim
def zM:Code->List (Code×Code)
 | .seq x y=>zM x++zM y
 | .cond _ x y=>zM x++zM y
 | .block _ c=>zM c
 | .loop c=>zM c
 | .scope c=>zM c
 | .rangeFunc _ _ a b=>[(a,b)]
 | _=>[]
def aB0(fn:Func):Code:=fn.body.getD .skip
def aUa(P:Program)(fn:Func)(R:dI):QH:=λe ρ h=>match e with
 | .normal | .ret=>aUk P fn ρ h R
 | _=>False
def fK(h:PH)(k:PH->Prop):Prop:=k h
def yV(v:Value):Option Bool:=match v with
 | .bool b=>some b
 | _=>none
def gW(v:Value):Sem Value:=match v with
 | .pointer none | .nilIface | .nilFunc=>.halt (.stuck "nil")
 | .func (.method _) _ _=>.halt (.stuck "method")
 | x=>pure x
def gV(op:BinOp)(t:TypeId)(x y:Operand)(a b:Value):Sem Value:=do eqGuard op t x y a b;binOp op t a b
def dX(t:TypeId)(a x:Value):Sem Value:=do Instr.storeAt t a x;pure undef
def aJi(t:TypeId)(m k x:Value):Sem Value:=do Instr.mapUpdate t m k x;pure undef
def aAK(P:Program)(f:Value)(args:Array Value)(h:PH)(kv:dI):Prop:=match f with
 | .func (.func f) first captured=>bR P f (first++args++captured) h kv
 | .func fn first captured=>dT P (invoke (.fn fn captured) (first++args)) h λn h'=>tG P n h' kv
 | _=>False
def eX(P:Program)(t:TypeId):Array Value:=match P.info? t with
 | some i=>match i.zero with
  | some v=>v.cells
  | none=>#[]
 | none=>#[]
def aYg(P:Program)(ann:kW)(ih:Code->QH->lR->PH->Prop)(c:Code)(Q:QH)(ρ:lR)(h:PH):Prop:=match c with
 | .skip=>Q .normal ρ h
 | .region _ ops false=>aSR P ops (Q .normal) ops.toList ρ h
 | .region id ops true=>aLU P ops (ann.b id) (Q .normal) [] (ann.ord id) ρ h
 | .seq x y=>ih x (aJI (ih y Q) Q) ρ h
 | .cond c x y=>dW (ev ρ c) (ih x Q ρ h) (ih y Q ρ h)
 | .block id c=>ih c (aIX id Q) ρ h
 | .loop c=>iV (ann.keep (tN c)) (λnext ρ h=>ih c (aJI (λρ' h'=>next ((ann.keep (tN c)).map ρ') h') Q) ρ h) ((ann.keep (tN c)).map ρ) h
 | .exit id=>Q (.exit id) ρ h
 | .ret=>Q .ret ρ h
 | .label _=>Q .normal ρ h
 | .scope c=>ih c (aLo Q) ρ h
 | .rangeFunc g ps assign body=>aEV P ann.n (ev ρ g) ps assign body (Q .normal ρ) (Q .ret ρ) ((aCo body).map λid=>(id,Q (.exit id) ρ)) ((ann.keep (tN body)).map λt=>(t,ρ t)) h
 | _=>False
noncomputable def aDy(P:Program)(ann:kW)(n:Nat):Code->QH->lR->PH->Prop:=Nat.rec (λ_ _ _ _=>False) (λ_ ih=>aYg P ann ih) n
def wA:Code->Nat
 | .seq x y=>max (wA x) (wA y)+1
 | .cond _ x y=>max (wA x) (wA y)+1
 | .block _ c=>wA c+1
 | .loop c=>wA c+1
 | .scope c=>wA c+1
 | _=>0
def aMY{P:Program}{ann:kW}:∀(c:Code) (n:Nat),wA c<n->aDy P ann n c=rR P ann c:=by
 intro c;induction c with
 | skip=>intro n hn;obtain⟨m,rfl⟩:∃m,n=m+1:=⟨n-1,by omega⟩;rfl
 | region id ops d=>intro n hn;obtain⟨m,rfl⟩:∃m,n=m+1:=⟨n-1,by omega⟩;cases d<;>rfl
 | seq x y ihx ihy=>
  intro n hn;obtain⟨m,rfl⟩:∃m,n=m+1:=⟨n-1,by omega⟩;simp only[wA] at hn;funext Q ρ h;show aDy P ann m x (aJI (aDy P ann m y Q) Q) ρ h=rR P ann x (aJI (rR P ann y Q) Q) ρ h;rw[ihx m (by omega),ihy m (by omega)]
 | cond c x y ihx ihy=>
  intro n hn;obtain⟨m,rfl⟩:∃m,n=m+1:=⟨n-1,by omega⟩;simp only[wA] at hn;funext Q ρ h;show dW (ev ρ c) (aDy P ann m x Q ρ h) (aDy P ann m y Q ρ h)=dW (ev ρ c) (rR P ann x Q ρ h) (rR P ann y Q ρ h);rw[ihx m (by omega),ihy m (by omega)]
 | block id c ih=>
  intro n hn;obtain⟨m,rfl⟩:∃m,n=m+1:=⟨n-1,by omega⟩;simp only[wA] at hn;funext Q ρ h;show aDy P ann m c (aIX id Q) ρ h=rR P ann c (aIX id Q) ρ h;rw[ih m (by omega)]
 | loop c ih=>
  intro n hn;obtain⟨m,rfl⟩:∃m,n=m+1:=⟨n-1,by omega⟩;simp only[wA] at hn;funext Q ρ h;show iV (ann.keep (tN c)) (λnext ρ h=>aDy P ann m c (aJI (λρ' h'=>next ((ann.keep (tN c)).map ρ') h') Q) ρ h) ((ann.keep (tN c)).map ρ) h=iV (ann.keep (tN c)) (λnext ρ h=>rR P ann c (aJI (λρ' h'=>next ((ann.keep (tN c)).map ρ') h') Q) ρ h) ((ann.keep (tN c)).map ρ) h;rw[ih m (by omega)]
 | scope c ih=>
  intro n hn;obtain⟨m,rfl⟩:∃m,n=m+1:=⟨n-1,by omega⟩;simp only[wA] at hn;funext Q ρ h;show aDy P ann m c (aLo Q) ρ h=rR P ann c (aLo Q) ρ h;rw[ih m (by omega)]
 | _=>intro n hn;obtain⟨m,rfl⟩:∃m,n=m+1:=⟨n-1,by omega⟩;rfl
noncomputable def aMv(P:Program)(ann:kW)(n l:Nat)(assign body:Code)(kv:dI)(ρ:lR)(h:PH):Prop:=
 aDy P ann n assign (λe ρ h=>match e with
  | .normal=>dT P (Instr.beginRound l) h λ_ h'=>aDy P ann n body (aTz P l kv) ρ h'
  | _=>False) ρ h
def aOX{P:Program}(ann:kW)(n:Nat)(hmix:P.follows .mixedOrders=true){l m:Nat}{f:FuncId}{tmps:Array Value}{assign body:Code}{kv:dI}{h:PH}
  (hm:tmps.size=m) (hd:(decide (wA assign<n)&&decide (wA body<n))=true) (hA:(yS P ann m assign&&rY assign&&yS P ann m body&&rY body)=true) {X:Prop}
  (he:aMv P ann n l assign body kv (λt=>tmps.getD t undef) h=X) (H:X):tG P (.round l f tmps assign body) h kv:=by
 subst hm;rw[←he] at H;simp only[tM,decide_eq_true_eq] at hd;unfold aMv at H;rw[aMY _ _ hd.1] at H;rw[aMY _ _ hd.2] at H;exact aQW.next ann hmix hA H
def aN8{P:Program}{f:FuncId}{fn:Func}(ann:kW)(n:Nat)(hmix:P.follows .mixedOrders=true)(hf:P.funcs[f]? =some fn)(hen:aDP P f=true)(hb:fn.body.isSome=true)(hd:decide (wA (aB0 fn)<n)=true)(hB:yS P ann fn.ntmps (aB0 fn)=true)
  {args:Array Value} (hargs:args.size≤fn.ntmps) {h:PH} {R:dI} {X:Prop}
  (he:aDy P ann n (aB0 fn) (aUa P fn R) (λt=>args.getD t undef) h=X) (H:X):bR P f args h R:=by
 obtain⟨c,hc⟩:=Option.isSome_iff_exists.1 hb;have e:aB0 fn=c:=by unfold aB0;rw[hc];rfl
 rw[aMY _ _ (by simpa using hd)] at he;rw[e] at hB he;rw[←he] at H;exact aUL ann hmix hf hc hen hB hargs H
def gB{h:PH}{r:Nat}{o:Obj}:(h.set r o) r=some o:=by simp[PH.set]
def aAr{h:PH}{r b:Nat}{o:Obj}(hne:b≠r):(h.set r o) b=h b:=by simp[PH.set,hne]
def aXq{h:PH}{r b:Nat}{o:Obj}(hb:h b=some o)(hr:h r=none):b≠r:=by rintro rfl;rw[hr] at hb;cases hb
def aRG{h:PH}{r b:Nat}{o u:Obj}(hr:h r=none)(hb:h b=some u):(h.set r o) b=some u:=by rw[aAr (aXq hb hr)];exact hb
def eH(F:List Nat)(h h':PH):Prop:=∀b o,h b=some o->b∉F->h' b=some o
def eH.refl{F:List Nat}{h:PH}:eH F h h:=λ_ _ hb _=>hb
def eH.trans{F:List Nat}{h h1 h2:PH}(a:eH F h h1)(b:eH F h1 h2):eH F h h2:=λx o hx hn=>b x o (a x o hx hn) hn
def eH.mono{F G:List Nat}{h h':PH}(a:eH F h h')(hs:∀b,b∈F->b∈G∨h b=none):eH G h h':=λx o hx hn=>a x o hx λhm=>by
 rcases hs x hm with h1|h1
 ·exact hn h1
 ·rw[hx] at h1;cases h1
def eH.then{F F':List Nat}{h h1 h2:PH}(a:eH F h h1)(b:eH F' h1 h2)(hs:∀b,b∈F'->b∈F∨h b=none):eH F h h2:=λx o hx hn=>
 b x o (a x o hx hn) λhm=>by
  rcases hs x hm with h1|h1
  ·exact hn h1
  ·rw[hx] at h1;cases h1
def eH.new{F:List Nat}{h:PH}{r:Nat}{o:Obj}(hr:h r=none):eH F h (h.set r o):=λ_ _ hb _=>aRG hr hb
def eH.set{F:List Nat}{h:PH}{r:Nat}{o:Obj}(hr:r∈F):eH F h (h.set r o):=λb u hb hn=>by
 rw[aAr (by rintro rfl;exact hn hr)];exact hb
def eH.get{F:List Nat}{h h':PH}(a:eH F h h'){b:Nat}{o:Obj}(hb:h b=some o)(hn:b∉F):h' b=some o:=a b o hb hn
abbrev eM(h h':PH):Prop:=eH [] h h'
def eM.get{h h':PH}(a:eM h h'){b:Nat}{o:Obj}(hb:h b=some o):h' b=some o:=a b o hb (by simp)
def eM.upd{F:List Nat}{h h':PH}(a:eM h h'):eH F h h':=λb o hb _=>a b o hb (by simp)
def jQ{α:Type}{v:α}{k:α->Prop}:dA (some v) k=k v:=(rfl)
def dY{h:PH}{k:PH->Prop}:fK h k=k h:=(rfl)
def aKS{A B:Prop}:dW (.bool true) A B=A:=(rfl)
def aJg{A B:Prop}:dW (.bool false) A B=B:=(rfl)
def aNA{b:Bool}{A B:Prop}:dW (.bool b) A B=if b then A else B:=by cases b<;>rfl
def aNa{b:Bool}:yV (.bool b)=some b:=(rfl)
def aN2{X:(Value->PH->Prop)->Prop}{h:PH}{kv:dI}:gG (some true) true X h kv=X kv:=(rfl)
def aRV{X:(Value->PH->Prop)->Prop}{h:PH}{kv:dI}:gG (some false) false X h kv=X kv:=(rfl)
def aQv{X:(Value->PH->Prop)->Prop}{h:PH}{kv:dI}:gG (some true) false X h kv=kv undef h:=(rfl)
def aNs{X:(Value->PH->Prop)->Prop}{h:PH}{kv:dI}:gG (some false) true X h kv=kv undef h:=(rfl)
def aNm{a b:Value}:gA (.bool true) a b=some a:=(rfl)
def aNe{a b:Value}:gA (.bool false) a b=some b:=(rfl)
def aMz{c:Bool}{a b:Value}:gA (.bool c) a b=some (if c then a else b):=by cases c<;>rfl
section
variable{P:Program}{h:PH}
def aKU{a:Addr}:dE P (gW (.pointer (some a)))=some (.pointer (some a)):=(rfl)
def aEQ{f:Fn}{x y:Array Value}:dE P (Instr.makeFunc f x y)=some (.func f x y):=(rfl)
def aT4{t:TypeId}{k:IntKind}{a b:Int}:dE P (binOp .add t (.int k a) (.int k b))=some (.int k (k.wrap (a+b))):=by simp[binOp,Op.intArith,dE,pure]
def aK1{t:TypeId}{k:IntKind}{a b:Int}:dE P (binOp .sub t (.int k a) (.int k b))=some (.int k (k.wrap (a-b))):=by simp[binOp,Op.intArith,dE,pure]
def oQ{t:TypeId}{k:IntKind}{a b:Int}:dE P (binOp .mul t (.int k a) (.int k b))=some (.int k (k.wrap (a*b))):=by simp[binOp,Op.intArith,dE,pure]
def aTx{t:TypeId}{k:IntKind}{a b:Int}:dE P (binOp .lss t (.int k a) (.int k b))=some (.bool (decide (a<b))):=by simp[binOp,Op.intCmp,dE,pure]
def aTY{t:TypeId}{k:IntKind}{a b:Int}:dE P (binOp .leq t (.int k a) (.int k b))=some (.bool (decide (a≤b))):=by simp[binOp,Op.intCmp,dE,pure]
def aPB{t:TypeId}{k:IntKind}{a b:Int}:dE P (binOp .gtr t (.int k a) (.int k b))=some (.bool (decide (b<a))):=by simp[binOp,Op.intCmp,dE,pure]
def aTw{t:TypeId}{k:IntKind}{a b:Int}:dE P (binOp .geq t (.int k a) (.int k b))=some (.bool (decide (b≤a))):=by simp[binOp,Op.intCmp,dE,pure]
def aLe{t:TypeId}{k:IntKind}{a b:Int}(hb:b≠0):dE P (binOp .quo t (.int k a) (.int k b))=some (.int k (k.wrap (a.tdiv b))):=by simp[binOp,Op.intDiv,hb,dE,pure]
def aTZ{t:TypeId}{k:IntKind}{a b:Int}(hb:b≠0):dE P (binOp .rem t (.int k a) (.int k b))=some (.int k (a.tmod b)):=by simp[binOp,Op.intDiv,hb,dE,pure]
def aXO{t:TypeId}{k k':IntKind}{a b:Int}(hb:0≤b):dE P (binOp .shl t (.int k a) (.int k' b))=some (.int k (k.wrap (a*2^(min b.toNat k.bits)))):=by
 have:¬b<0:=by omega
 simp[binOp,Op.shift,this,dE,pure]
def aPC{t:TypeId}{k k':IntKind}{a b:Int}(hb:0≤b):dE P (binOp .shr t (.int k a) (.int k' b))=some (.int k (a.fdiv (2^(min b.toNat k.bits)))):=by
 have:¬b<0:=by omega
 simp[binOp,Op.shift,this,dE,pure]
def aS1{b:Bool}:dE P (Op.unary .not (.bool b))=some (.bool (!b)):=(rfl)
def aLv{ts:Array TypeId}{t:TypeId}{k k':IntKind}{x y:Int}:dE P (Builtin.min_ ts t #[.int k x,.int k' y])=some (.int k (if y<x then y else x)):=(rfl)
def aLp{ts:Array TypeId}{t:TypeId}{k k':IntKind}{x y:Int}:dE P (Builtin.max_ ts t #[.int k x,.int k' y])=some (.int k (if x<y then y else x)):=by
 rfl
def aJO{a:Value}{l:List Value}:dE P (extract (.tuple ⟨a::l⟩) 0)=some a:=(rfl)
def aI7{a b:Value}{l:List Value}:dE P (extract (.tuple ⟨a::b::l⟩) 1)=some b:=(rfl)
def aOm{a b c:Value}{l:List Value}:dE P (extract (.tuple ⟨a::b::c::l⟩) 2)=some c:=(rfl)
def gX{t:TypeId}{x y:Operand}{k:IntKind}{a b:Int}:dH P h (gV .eql t x y (.int k a) (.int k b))=some (.bool (a==b)):=by
 simp[gV,eqGuard,binOp,Op.intCmp,dH,bind,Sem.bind,pure]
def fZ{t:TypeId}{x y:Operand}{k:IntKind}{a b:Int}:dH P h (gV .neq t x y (.int k a) (.int k b))=some (.bool (a !=b)):=by
 simp[gV,eqGuard,binOp,Op.intCmp,dH,bind,Sem.bind,pure]
end
def aEf:TypeDesc->Bool
 | .struct _ | .array _ _=>false
 | _=>true
def lV(b o n:Nat):(⟨b,o,none⟩:Addr).add n=⟨b,o+n,none⟩:=by unfold Addr.add;split<;>simp_all
section
variable{P:Program}{h:PH}{t t' e:TypeId}
def kN{α:Type}{d:TypeDesc}(hu:P.underlying t=some d)(f:TypeDesc->Sem α):dH P h (underlying t >>= f)=dH P h (f d):=by
 show dH P h ((match P.underlying t with|some d=>pure d|none=>stuck _:Sem TypeDesc).bind f)=_;rw[hu];rfl
def zL{α:Type}{d:TypeDesc}(hu:P.underlying t=some d)(f:TypeDesc->Sem α):dE P (underlying t >>= f)=dE P (f d):=by
 show dE P ((match P.underlying t with|some d=>pure d|none=>stuck _:Sem TypeDesc).bind f)=_;rw[hu];rfl
def tJ{α:Type}{d:TypeDesc}{Q:α->PH->Prop}(hu:P.underlying t=some d)(f:TypeDesc->Sem α):dT P (underlying t >>= f) h Q=dT P (f d) h Q:=by
 show dT P ((match P.underlying t with|some d=>pure d|none=>stuck _:Sem TypeDesc).bind f) h Q=_;rw[hu];rfl
def aUN{α:Type}{d:TypeDesc}(hu:P.underlying t=some d)(f:TypeDesc->Sem α):lH P (underlying t >>= f)=lH P (f d):=by
 show lH P ((match P.underlying t with|some d=>pure d|none=>stuck _:Sem TypeDesc).bind f)=_;rw[hu];rfl
def yU{α:Type}{d:TypeInfo}(hu:P.info? t=some d)(f:TypeInfo->Sem α):dH P h (typeInfo t >>= f)=dH P h (f d):=by
 show dH P h ((match P.info? t with|some i=>pure i|none=>stuck _:Sem TypeInfo).bind f)=_;rw[hu];rfl
def aK7{α:Type}{d:TypeInfo}(hu:P.info? t=some d)(f:TypeInfo->Sem α):dE P (typeInfo t >>= f)=dE P (f d):=by
 show dE P ((match P.info? t with|some i=>pure i|none=>stuck _:Sem TypeInfo).bind f)=_;rw[hu];rfl
def rU{α:Type}{d:TypeInfo}{Q:α->PH->Prop}(hu:P.info? t=some d)(f:TypeInfo->Sem α):dT P (typeInfo t >>= f) h Q=dT P (f d) h Q:=by
 show dT P ((match P.info? t with|some i=>pure i|none=>stuck _:Sem TypeInfo).bind f) h Q=_;rw[hu];rfl
def lY{α:Type}(f:Nat->Sem α):(sizeOf t >>= f)=(typeInfo t >>= λi=>f i.size):=by
 show(sizeOf t).bind f=(typeInfo t).bind λi=>f i.size;unfold sizeOf;show((typeInfo t).bind λi=>Sem.pure i.size).bind f=_;rw[show ∀(s:Sem TypeInfo),(s.bind λi=>Sem.pure i.size).bind f=s.bind λi=>f i.size from λs=>by
  induction s with
  | pure a=>rfl
  | load m a k ih=>simp only[Sem.bind,ih]
  | store m a v k ih=>simp only[Sem.bind,ih]
  | new o k ih=>simp only[Sem.bind,ih]
  | shape r k ih=>simp only[Sem.bind,ih]
  | freeze a n k ih=>simp only[Sem.bind,ih]
  | frozen a k ih=>simp only[Sem.bind,ih]
  | getObj r k ih=>simp only[Sem.bind,ih]
  | setObj r o k ih=>simp only[Sem.bind,ih]
  | choose q k ih=>simp only[Sem.bind,ih]
  | sys c k ih=>simp only[Sem.bind,ih]
  | program k ih=>simp only[Sem.bind,ih]
  | mark m k ih=>simp only[Sem.bind,ih]
  | halt x=>rfl]
def aOL{a:Option Addr}{n c:Nat}(hu:P.underlying t=some (.slice e)):dE P (Builtin.len_ #[t] t' #[.slice a n c])=some (.int .i64 n):=by
 show dE P (underlying t >>= _)=_;rw[zL hu];rfl
def vP{s:ByteArray}(hu:P.underlying t=some .string):dE P (Builtin.len_ #[t] t' #[.string s])=some (.int .i64 s.size):=by
 show dE P (underlying t >>= _)=_;rw[zL hu];rfl
def aWr{r:Nat}{es:Array MapEntry}{k v:TypeId}{c:Nat}(hu:P.underlying t=some (.map k v))(hr:h r=some (.map es c)):dH P h (Builtin.len_ #[t] t' #[.map (some r)])=some (.int .i64 es.size):=by
 show dH P h (underlying t >>= _)=_;rw[kN hu];show dH P h (getObj r >>= _)=_;simp[getObj,bind,Sem.bind,dH,hr,goInt,pure]
def aKA{α:Type}{d:TypeDesc}(hu:P.underlying t=some d)(f:Bool->Sem α):dH P h (isAgg t >>= f)=dH P h (f (!aEf d)):=by
 unfold isAgg;rw[bind_assoc,kN hu];cases d<;>rfl
def kJ{d:TypeDesc}{a:Addr}(hu:P.underlying t=some d)(hd:aEf d=true):dH P h (loadAt t (.pointer (some a)))=eA h a:=by
 show dH P h (loadVar t a)=_;unfold loadVar;rw[aKA hu,hd];show(eA h a).bind (λv=>some v)=_;cases eA h a<;>rfl
def aLg{b o:Nat}{c:Array Value}{e:TypeId}{fr:Nat×Nat}(hb:h b=some (.cells c e fr)):∀(n i:Nat) (acc:Array Value),o+i+n≤c.size->
  dH P h (loadCellsFrom ⟨b,o,none⟩ i n acc)=some (acc++c.extract (o+i) (o+i+n)):=by
 intro n;induction n with
 | zero=>intro i acc _;simp[loadCellsFrom,dH,pure];omega
 | succ n ih=>
  intro i acc hle;show(eA h ((⟨b,o,none⟩:Addr).add i)).bind (λv=>dH P h (loadCellsFrom ⟨b,o,none⟩ (i+1) n (acc.push v)))=_;have hlt:o+i<c.size:=by omega
  have hc:eA h ((⟨b,o,none⟩:Addr).add i)=some c[o+i]:=by
   rw[lV];unfold eA;simp only[hb];simp[hlt]
  rw[hc,aAR,ih (i+1) _ (by omega)];congr 1;apply zLw;simp only[Array.toList_append,Array.toList_push,zLD,xN,zLx];congr 1;rw[show o+i+(n+1)-(o+i)=n+1 from by omega,show o+(i+1)+n-(o+(i+1))=n from by omega,aBE (l:=c.toList) (i:=o+i) (by simpa using hlt),zLc];rfl
def aJj{b o n:Nat}{c:Array Value}{e:TypeId}{fr:Nat×Nat}(hb:h b=some (.cells c e fr))(hle:o+n≤c.size):dH P h (loadCells ⟨b,o,none⟩ n)=some (c.extract o (o+n)):=by
 have:=aLg (P:=P) hb n 0 #[] hle;simpa[loadCells] using this
def jG{α β:Type}{s:Sem α}{f:α->Sem β}:dH P h (s >>= f)=(dH P h s).bind λa=>dH P h (f a):=by
 show dH P h (s.bind f)=_;induction s with
 | pure a=>rfl
 | load m a k ih=>simp only[Sem.bind,dH,ih,Option.bind_assoc]
 | shape r k ih=>simp only[Sem.bind,dH,ih,Option.bind_assoc]
 | frozen a k ih=>simp only[Sem.bind,dH,ih,Option.bind_assoc]
 | getObj r k ih=>
  simp only[Sem.bind,dH];cases h r with
  | none=>rfl
  | some o=>cases o<;>first|rfl|exact ih _
 | program k ih=>exact ih P
 | mark m k ih=>exact ih
 | _=>rfl
def aAv{d:TypeDesc}{b o n:Nat}{c:Array Value}{e:TypeId}{fr:Nat×Nat}{i:TypeInfo}(hu:P.underlying t=some d)(hd:aEf d=false)(hi:P.info? t=some i)(hn:i.size=n)
  (hb:h b=some (.cells c e fr)) (hle:o+n≤c.size):dH P h (loadAt t (pT b o))=some (.agg (c.extract o (o+n))):=by
 show dH P h (loadVar t ⟨b,o,none⟩)=_;unfold loadVar;rw[aKA hu,hd];show dH P h (sizeOf t >>= λm=>loadCells ⟨b,o,none⟩ m >>= λcs=>(pure (Value.agg cs):Sem Value))=some (.agg (c.extract o (o+n)));rw[lY,yU hi,hn,jG,aJj hb hle];rfl
def aHW{b o n len cap:Nat}{k:IntKind}{j:Int}{i:TypeInfo}(hu:P.underlying t=some (.slice e))(hi:P.info? e=some i)(hn:i.size=n)(h0:0≤j)(h1:j<len):
  dE P (indexAt t (.slice (some ⟨b,o,none⟩) len cap) (.int k j))=some (pT b (o+j.toNat*n)):=by
 show dE P (underlying t >>= _)=_;rw[zL hu];show dE P (underlying t >>= _)=_;rw[zL hu];simp only[h0,h1,and_self,if_true];rw[lY,aK7 hi,hn,lV];rfl
end
def Rows(size:Nat)(rows:List (List Value)):Prop:=∀r∈rows,r.length=size
def Rows.flat{size:Nat}:∀{rows:List (List Value)},Rows size rows->rows.flatten.length=rows.length*size
 | [],_=>by simp
 | r::rs,h=>by
  have h1:=h r (by simp);have h2:=Rows.flat (rows:=rs) λx hx=>h x (by simp[hx]);simp only[aEw,kO,jY,h1,h2,zLF,Nat.one_mul];omega
def Rows.at{size:Nat}:∀{rows:List (List Value)},Rows size rows->∀{i:Nat} {r:List Value},rows[i]? =some r->(rows.flatten.drop (i*size)).take size=r
 | [],_,i,r,hi=>by simp at hi
 | x::xs,h,i,r,hi=>by
  have h1:=h x (by simp);cases i with
  | zero=>
   simp only[zLK,zL4] at hi;subst hi;simp[←h1]
  | succ i=>
   have h2:=Rows.at (rows:=xs) (λy hy=>h y (by simp[hy])) (i:=i) (r:=r) (by simpa using hi);rw[aEw,Nat.succ_mul,Nat.add_comm,←rQ,←h1,List.drop_left,h1];exact h2
def Rows.append{size:Nat}{a b:List (List Value)}(ha:Rows size a)(hb:Rows size b):Rows size (a++b):=λr hr=>by
 rcases wQ.1 hr with h|h
 ·exact ha r h
 ·exact hb r h
def Rows.take{size:Nat}{a:List (List Value)}(ha:Rows size a)(n:Nat):Rows size (a.take n):=λr hr=>ha r (List.mem_of_mem_take hr)
def Rows.drop{size:Nat}{a:List (List Value)}(ha:Rows size a)(n:Nat):Rows size (a.drop n):=λr hr=>ha r (List.mem_of_mem_drop hr)
def Rows.flat_take{size:Nat}:∀{rows:List (List Value)},Rows size rows->∀n,(rows.take n).flatten=rows.flatten.take (n*size)
 | [],_,n=>by simp
 | r::rs,h,0=>by simp
 | r::rs,h,n+1=>by
  have h1:=h r (by simp);have h2:=Rows.flat_take (rows:=rs) (λx hx=>h x (by simp[hx])) n;rw[zLc,aEw,aEw,h2,Nat.succ_mul,Nat.add_comm,←h1,List.take_length_add_append]
def Rows.flat_drop{size:Nat}:∀{rows:List (List Value)},Rows size rows->∀n,(rows.drop n).flatten=rows.flatten.drop (n*size)
 | [],_,n=>by simp
 | r::rs,h,0=>by simp
 | r::rs,h,n+1=>by
  have h1:=h r (by simp);have h2:=Rows.flat_drop (rows:=rs) (λx hx=>h x (by simp[hx])) n;rw[zLa,aEw,h2,Nat.succ_mul,Nat.add_comm,←h1,←rQ,List.drop_left]
def xS:Nat:=9223372036854775807
structure jE(h:PH)(size:Nat)(v:Value)(rows:List (List Value)):Prop where
 ok:Rows size rows
 here:∃a c,v= .slice a rows.length c∧rows.length≤c∧c≤xS∧(rows≠[]->∃b o cs e fr,a=some ⟨b,o,none⟩∧h b=some (.cells cs e fr)∧o+rows.length*size≤cs.size∧(cs.extract o (o+rows.length*size)).toList=rows.flatten)∧True
structure fY(h:PH)(e:TypeId)(size:Nat)(v:Value)(rows:List (List Value))(F:List Nat):Prop where
 ok:Rows size rows
 here:(v= .slice none 0 0∧rows=[]∧F=[])∨∃b cap cs,v= .slice (some ⟨b,0,none⟩) rows.length cap∧F=[b]∧h b=some (.cells cs e (0,0))∧rows.length≤cap∧cap≤xS∧cs.size=cap*size∧cs.toList.take (rows.length*size)=rows.flatten
def fY.nil{h:PH}{e:TypeId}{size:Nat}:fY h e size (.slice none 0 0) [] []:=⟨λ_ h=>(by cases h),.inl ⟨rfl,rfl,rfl⟩⟩
def fY.slR{h:PH}{e:TypeId}{size:Nat}{v:Value}{rows:List (List Value)}{F:List Nat}(H:fY h e size v rows F):jE h size v rows:=by
 refine⟨H.ok,?_⟩;rcases H.here with⟨rfl,rfl,_⟩|⟨b,cap,cs,rfl,_,hb,hle,hm,hs,ht⟩
 ·exact⟨none,0,rfl,by simp,by simp,λh=>absurd rfl h,trivial⟩
 ·have hmul:rows.length*size≤cap*size:=yE _ hle;exact⟨_,cap,rfl,hle,hm,λ_=>⟨b,0,cs,e,(0,0),rfl,hb,by omega,by simpa[zLx] using ht⟩,trivial⟩
def fY.upd{h h':PH}{e:TypeId}{size:Nat}{v:Value}{rows:List (List Value)}{F G:List Nat}(H:fY h e size v rows F)(u:eH G h h')(hd:∀b∈F,b∉G):fY h' e size v rows F:=by
 refine⟨H.ok,?_⟩;rcases H.here with h1|⟨b,cap,cs,hv,hF,hb,hrest⟩
 ·exact .inl h1
 ·exact .inr ⟨b,cap,cs,hv,hF,u.get hb (hd b (by simp[hF])),hrest⟩
def fY.known{h:PH}{e:TypeId}{size:Nat}{v:Value}{rows:List (List Value)}{F:List Nat}(H:fY h e size v rows F):∀b∈F,h b≠none:=by
 intro b hb;rcases H.here with⟨_,_,rfl⟩|⟨b',cap,cs,_,rfl,hb',_⟩
 ·cases hb
 ·simp only[jI] at hb;subst hb;rw[hb'];simp
def jE.upd{h h':PH}{size:Nat}{v:Value}{rows:List (List Value)}{G:List Nat}(H:jE h size v rows)(u:eH G h h')(hd:∀a n c,v= .slice (some a) n c->a.block∉G):jE h' size v rows:=by
 refine⟨H.ok,?_⟩;obtain⟨a,c,hv,h1,h2,h3,h4⟩:=H.here;refine⟨a,c,hv,h1,h2,λhne=>?_,h4⟩;obtain⟨b,o,cs,e,fr,ha,hb,hrest⟩:=h3 hne;exact⟨b,o,cs,e,fr,ha,u.get hb (hd ⟨b,o,none⟩ _ _ (ha▸hv)),hrest⟩
def jE.ext{h h':PH}{size:Nat}{v:Value}{rows:List (List Value)}(H:jE h size v rows)(u:eM h h'):jE h' size v rows:=H.upd u (by simp)
section
variable{P:Program}{h:PH}{t t' e:TypeId}
def jE.len{size:Nat}{v:Value}{rows:List (List Value)}(H:jE h size v rows)(hu:P.underlying t=some (.slice e)):dE P (Builtin.len_ #[t] t' #[v])=some (.int .i64 rows.length):=by
 obtain⟨a,c,rfl,_⟩:=H.here;exact aOL hu
def jE.at{size:Nat}{v:Value}{rows:List (List Value)}(H:jE h size v rows){i:TypeInfo}(hu:P.underlying t=some (.slice e))(hi:P.info? e=some i)(hn:i.size=size){k:IntKind}{j:Int}{r:List Value}(h0:0≤j)(hr:rows[j.toNat]? =some r):
  ∃b o cs e' fr,dE P (indexAt t v (.int k j))=some (pT b o)∧h b=some (.cells cs e' fr)∧o+size≤cs.size∧(cs.extract o (o+size)).toList=r:=by
 have hlt:j.toNat<rows.length:=(zLA.1 hr).1;obtain⟨a,c,rfl,h1,h2,h3,_⟩:=H.here;obtain⟨b,o,cs,e',fr,rfl,hb,hle,hex⟩:=h3 (λh=>by rw[h] at hlt;simp at hlt);have hmul:(j.toNat+1)*size≤rows.length*size:=yE _ hlt;rw[zLF,Nat.one_mul] at hmul;refine⟨b,o+j.toNat*size,cs,e',fr,aHW hu hi hn h0 (by omega),hb,by omega,?_⟩;have:=H.ok.at hr;rw[←hex] at this;rw[←this];simp only[zLD,zLx,zLy,rQ,aJV];rw[show o+j.toNat*size+size-(o+j.toNat*size)=size from by omega];congr 1;omega
def jE.loadAgg{size:Nat}{v:Value}{rows:List (List Value)}(H:jE h size v rows){d:TypeDesc}{i:TypeInfo}(hu:P.underlying t=some (.slice e))(hi:P.info? e=some i)(hn:i.size=size)(he:P.underlying e=some d)(hd:aEf d=false)
  {k:IntKind} {j:Int} {r:List Value} (h0:0≤j) (hr:rows[j.toNat]? =some r):
  ∃a,dE P (indexAt t v (.int k j))=some (.pointer (some a))∧dH P h (loadAt e (.pointer (some a)))=some (.agg r.toArray):=by
 obtain⟨b,o,cs,e',fr,h1,hb,hle,hex⟩:=H.at hu hi hn (k:=k) h0 hr;refine⟨_,h1,?_⟩;rw[aAv he hd hi hn hb hle];congr 2;exact zLw hex
def jE.loadCell{v:Value}{rows:List (List Value)}(H:jE h 1 v rows){d:TypeDesc}{i:TypeInfo}(hu:P.underlying t=some (.slice e))(hi:P.info? e=some i)(hn:i.size=1)(he:P.underlying e=some d)(hd:aEf d=true)
  {k:IntKind} {j:Int} {x:Value} (h0:0≤j) (hr:rows[j.toNat]? =some [x]):
  ∃a,dE P (indexAt t v (.int k j))=some (.pointer (some a))∧dH P h (loadAt e (.pointer (some a)))=some x:=by
 obtain⟨b,o,cs,e',fr,h1,hb,hle,hex⟩:=H.at hu hi hn (k:=k) h0 hr;refine⟨_,h1,?_⟩;rw[kJ he hd];unfold eA;simp only[hb];have hlt:o<cs.size:=by omega
 simp only[zLD,zLx,aCw] at hex;rw[aBE (by simpa using hlt)] at hex;simp only[zLc,zLd,lT,and_true] at hex;simp[hlt];exact hex
end
def uT:Array Value->Nat->List Value->Array Value
 | c,_,[]=>c
 | c,o,v::vs=>uT (c.setIfInBounds o v) (o+1) vs
def aEH:∀(vs:List Value) (c:Array Value) (o:Nat),(uT c o vs).size=c.size
 | [],c,o=>rfl
 | v::vs,c,o=>by rw[uT,aEH vs];simp
def aBA:∀(vs:List Value) (c:Array Value) (o:Nat),o+vs.length≤c.size->(uT c o vs).toList=c.toList.take o++vs++c.toList.drop (o+vs.length)
 | [],c,o,_=>by simp[uT]
 | v::vs,c,o,h=>by
  simp only[jY] at h;rw[uT,aBA vs _ _ (by simp;omega)];have hlt:o<c.toList.length:=by simp;omega
  have hlt':o<c.size:=by omega
  simp only[Array.toList_setIfInBounds,jY];rw[List.set_eq_take_append_cons_drop,if_pos hlt];have h1:(c.toList.take o++v::c.toList.drop (o+1)).take (o+1)=c.toList.take o++[v]:=by
   rw[List.take_append,mT,aGb (by omega),aCw,sU (by simp;omega)];simp
  rw[h1];have:(c.toList.take o++v::c.toList.drop (o+1)).drop (o+1+vs.length)=c.toList.drop (o+(vs.length+1)):=by
   rw[List.drop_append,mT,aGb (by omega),zO (by simp;omega),zLU,
    show o+1+vs.length-o=vs.length+1 from by omega,zLa,rQ]
   congr 1;omega
  rw[this];simp
section
variable{P:Program}{h:PH}{t t' t2 e:TypeId}
def wM{b o:Nat}{e:TypeId}{Q:Unit->PH->Prop}:∀(vs:List Value) (i:Nat) (h:PH) (c:Array Value),h b=some (.cells c e (0,0))->o+i+vs.length≤c.size->(∀v∈vs,gN v=true)->
  Q () (if vs=[] then h else h.set b (.cells (uT c (o+i) vs) e (0,0)))->dT P (storeCells ⟨b,o,none⟩ vs i) h Q
 | [],i,h,c,_,_,_,hq=>by
  show Q () h;simpa using hq
 | v::vs,i,h,c,hb,hle,hv,hq=>by
  simp only[jY] at hle;have hlt:o+i<c.size:=by omega
  have ha:(⟨b,o,none⟩:Addr).add i=⟨b,o+i,none⟩:=lV ..;show gN v=true∧uA h ((⟨b,o,none⟩:Addr).add i)=false∧(∃u,eA h ((⟨b,o,none⟩:Addr).add i)=some u)∧dT P (storeCells ⟨b,o,none⟩ vs (i+1)) (sG h ((⟨b,o,none⟩:Addr).add i) v) Q;rw[ha];refine⟨hv v (by simp),by simp[uA,hb],⟨c[o+i],by simp[eA,hb,hlt]⟩,?_⟩;have hset:sG h ⟨b,o+i,none⟩ v=h.set b (.cells (c.setIfInBounds (o+i) v) e (0,0)):=by
   funext x;unfold sG PH.set;by_cases hx:x=b
   ·subst hx;simp[hb]
   ·simp[hx]
  rw[hset];refine wM vs (i+1) _ _ gB (by simp;omega) (λu hu=>hv u (by simp[hu])) ?_;have h2:∀o1 o2:Obj,(h.set b o1).set b o2=h.set b o2:=λo1 o2=>by funext x;unfold PH.set;split<;>rfl
  simp only[List.cons_ne_nil,if_false] at hq;split
  ·rename_i hvs;subst hvs;simpa[uT] using hq
  ·rw[h2];simpa[uT,Nat.add_assoc] using hq
def aDb{h:PH}{b:Nat}{o1 o2:Obj}:(h.set b o1).set b o2=h.set b o2:=by funext x;unfold PH.set;split<;>rfl
def lX{d:TypeDesc}{b o:Nat}{c:Array Value}{v:Value}{k:dI}(hu:P.underlying t=some d)(hd:aEf d=true)(hb:h b=some (.cells c e (0,0)))(ho:o<c.size)(hv:gN v=true){i:TypeInfo}(hi:P.info? t=some i)(hn:i.size=1)
  (hk:k undef (h.set b (.cells (c.setIfInBounds o v) e (0,0)))):dT P (dX t (pT b o) v) h k:=by
 have hc:v.cells= #[v]:=by cases v<;>first|rfl|cases hv
 show dT P (storeVar t ⟨b,o,none⟩ v >>= λ_=>pure undef) h k;unfold storeVar;rw[lY,bind_assoc,rU hi,hn,hc];simp only[List.size_toArray,jY,lU,kB,ne_eq,not_true_eq_false,if_false];refine dT.bind (P:=P) (s:=storeCells ⟨b,o,none⟩ [v]) ?_;refine wM [v] 0 h c hb (by simp;omega) (by simp[hv]) ?_;show k undef (if [v]=[] then h else _);simpa[uT] using hk
def aOQ{b o:Nat}{c:Array Value}{cs:Array Value}{k:dI}(hb:h b=some (.cells c e (0,0))){i:TypeInfo}(hi:P.info? t=some i)(hn:i.size=cs.size)(h0:0<cs.size)(ho:o+cs.size≤c.size)(hv:∀v∈cs.toList,gN v=true)
  (hk:k undef (h.set b (.cells (uT c o cs.toList) e (0,0)))):dT P (dX t (pT b o) (.agg cs)) h k:=by
 show dT P (storeVar t ⟨b,o,none⟩ (.agg cs) >>= λ_=>pure undef) h k;unfold storeVar;rw[lY,bind_assoc,rU hi,hn];simp only[Value.cells,ne_eq,not_true_eq_false,if_false];refine dT.bind (P:=P) (s:=storeCells ⟨b,o,none⟩ cs.toList) ?_;refine wM cs.toList 0 h c hb (by simpa using ho) hv ?_;have:cs.toList≠[]:=by intro h;simp at h;subst h;simp at h0
 show k undef (if cs.toList=[] then h else _);simpa[this] using hk
def aSH{c:Array Value}{vs:List Value}(h:vs.length=c.size):uT c 0 vs=vs.toArray:=by
 apply zLw;rw[aBA vs c 0 (by omega)];simp[h]
def aHt{a:Option Addr}{len cap l hh:Nat}{lo hi:Option Value}{i:TypeInfo}(hu:P.underlying t=some (.slice e))(hi':P.info? e=some i)
  (hlo:lo=none∧l=0∨∃k,lo=some (.int k l)) (hhi:hi=none∧hh=len∨∃k,hi=some (.int k hh)) (h1:l≤hh) (h2:hh≤cap):
  dE P (Instr.sliceAt t (.slice a len cap) lo hi none)=some (.slice (if cap=l then a else a.map (·.add (l*i.size))) (hh-l) (cap-l)):=by
 show dE P (underlying t >>= _)=_;rw[zL hu];show dE P (underlying t >>= _)=_;rw[zL hu];have hb:Instr.sliceBounds true len cap lo hi none=pure (l,hh,cap):=by
  have hcast:∀n m:Nat,n≤m->(0≤(n:Int)∧(n:Int)≤(m:Int)):=λn m h=>by omega
  rcases hlo with⟨rfl,rfl⟩|⟨k,rfl⟩<;>rcases hhi with⟨rfl,rfl⟩|⟨k',rfl⟩ <;>
   simp[Instr.sliceBounds,Instr.sliceBound,asIntOf,hcast,h1,h2]
 simp only[hb,pure_bind];rw[lY,aK7 hi'];rfl
def jE.first{size:Nat}{v:Value}{rows:List (List Value)}(S:jE h size v rows):dH P h (Builtin.firstCells size rows.length v)=some rows.flatten.toArray:=by
 obtain⟨a,c,rfl,h1,h2,h3,_⟩:=S.here;by_cases hr:rows=[]
 ·subst hr;cases a with
  | none=>rfl
  | some a=>simp[Builtin.firstCells,loadCells,loadCellsFrom,dH,pure]
 ·obtain⟨b,o,cs,e',fr,rfl,hb,hle,hex⟩:=h3 hr;show dH P h (loadCells ⟨b,o,none⟩ (rows.length*size))=_;rw[aJj hb hle];congr 1;exact zLw (by simpa using hex)
def iY{α β:Type}{s:Sem α}{f:α->Sem β}{a:α}{Q:β->PH->Prop}(hs:dH P h s=some a)(hq:dT P (f a) h Q):dT P (s >>= f) h Q:=
 dT.bind (P:=P) (s:=s) (f:=f) (dH.semH hs hq)
def aBF{α:Type}{q:Question}{f:Nat->Sem α}{Q:α->PH->Prop}:dT P (choose q >>= f) h Q= ∀t,dT P (f (if q.forced then 0 else q.cut t)) h Q:=rfl
def aIn{α:Type}{n:Nat}{f:Unit->Sem α}{Q:α->PH->Prop}:dT P (askRoom n >>= f) h Q=dT P (f ()) h Q:=by
 unfold askRoom;split<;>rfl
def aLl:Value->Nat
 | .slice _ _ c=>c
 | _=>0
def mQ{size bytes:Nat}{v x:Value}{rows ys:List (List Value)}{F:List Nat}{i:TypeInfo}{z:Value}{e2:TypeId}{k:dI}
  (hu:P.underlying t=some (.slice e)) (hu2:P.underlying t2=some (.slice e2)) (hi:P.info? e=some i) (hn:i.size=size) (hby:i.bytes=bytes) (hz:i.zero=some z) (hzs:z.cells.size=size) (hb0:0<bytes)
  (H:fY h e size v rows F) (S:jE h size x ys) (hcell:∀r∈ys,∀u∈r,gN u=true) (hl:(rows.length+ys.length)*bytes≤140737488355328)
  (hk:∀v' h' F',fY h' e size v' (rows++ys) F'->eH F h h'->(∀b∈F',b∈F∨h b=none)->aLl v≤aLl v'->k v' h'):dT P (Builtin.append_ #[t,t2] t' #[v,x]) h k:=by
 have hbig:rows.length+ys.length≤140737488355328:=zLE (Nat.le_mul_of_pos_right _ hb0) hl;obtain⟨xa,xc,hx,hx1,hx2,hx3,hx4⟩:=S.here;have hfirst:=S.first (P:=P);have hrows:Rows size (rows++ys):=H.ok.append S.ok;have hflat:∀u∈ys.flatten,gN u=true:=λu hu=>by
  obtain⟨r,hr,hur⟩:=List.mem_flatten.1 hu;exact hcell r hr u hur
 -- a new block
 have grown:∀(m:Nat),rows.length+ys.length≤m->m≤xS->aLl v≤m->∀r,h r=none->
   k (.slice (some ⟨r,0,none⟩) (rows.length+ys.length) m) (h.set r (.cells (rows.flatten.toArray++ys.flatten.toArray++Builtin.zeroCells z.cells (m-(rows.length+ys.length))) e (0,0))):=by
  intro m hm hmax hcapv r hr;refine hk _ _ [r] ⟨hrows,.inr ⟨r,m,_,by rw[kO],rfl,gB,by simpa using hm,hmax,?_,?_⟩⟩ (eH.new hr) (λb hb=>.inr (by simp at hb;subst hb;exact hr)) hcapv
  ·simp only[Array.size_append,List.size_toArray,H.ok.flat,S.ok.flat,Builtin.zeroCells,Array.size_map,Array.size_range,hzs];rw[←zLF,←zLF];congr 1;omega
  ·have hlen:(rows++ys).length*size=(rows.flatten++ys.flatten).length:=by rw[kO,kO,H.ok.flat,S.ok.flat,zLF]
   simp only[Array.toList_append,hlen,zLG];rw[zLH (nQ _),zLJ]
 obtain⟨va,vc,hv,hv1,hv2,_,_⟩:=H.slR.here;have hvfirst:=H.slR.first (P:=P);subst hx;subst hv;simp only[Builtin.append_,List.getElem?_toArray,zLK,zLL,tJ hu,tJ hu2,lY,rU hi,pure_bind,zLs,if_false,Builtin.lenOf,Bool.not_false,if_true,hn];by_cases hfit:rows.length+ys.length≤vc
 ·rw[if_pos hfit];refine iY hfirst ?_;rcases H.here with⟨hv',hr,hF⟩|⟨b,cap,cs,hv',hF,hb,hle,hcap,hcs,htake⟩
  ·subst hr;simp only[lU,Value.slice.injEq,true_and] at hv';obtain⟨rfl,rfl⟩:=hv';have hy:ys=[]:=zLN (by omega);subst hy;exact hk _ _ [] (by simpa using fY.nil) eH.refl (by simp) (nQ _)
  ·simp only[Value.slice.injEq,true_and] at hv';obtain⟨rfl,rfl⟩:=hv';have hmul:(rows.length+ys.length)*size≤vc*size:=yE _ hfit;have hadd:(⟨b,0,none⟩:Addr).add (rows.length*size)=⟨b,0+rows.length*size,none⟩:=lV ..;show dT P (storeCells ((⟨b,0,none⟩:Addr).add (rows.length*size)) ys.flatten.toArray.toList >>= λ_=>pure _) h k;rw[hadd];refine dT.bind (P:=P) (s:=storeCells _ _) ?_;refine wM _ 0 h cs hb (by simp only[S.ok.flat,hcs];rw[zLF] at hmul;omega) (by simpa using hflat) ?_;show k _ _;simp only[kB,zLP];have fin:∀cs':Array Value,cs'.size=cs.size->cs'.toList.take ((rows.length+ys.length)*size)=rows.flatten++ys.flatten->∀h':PH,h' b=some (.cells cs' e (0,0))->eH F h h'->
     k (.slice (some ⟨b,0,none⟩) (rows.length+ys.length) vc) h':=by
    intro cs' hsz htk h' hb' hu';refine hk _ _ [b] ⟨hrows,.inr ⟨b,vc,cs',by rw[kO],rfl,hb',by simpa using hfit,hcap,by rw[hsz,hcs],by rw[kO,htk,zLG]⟩⟩ hu' (λb' hb'=>.inl (hF▸hb')) (nQ _)
   split
   ·rename_i hys;refine fin cs rfl ?_ h hb eH.refl;have:ys.length*size=0:=by rw[←S.ok.flat,hys];rfl
    rw[zLF,this,hys,zLQ,zLP];exact htake
   ·refine fin _ (aEH _ _ _) ?_ _ gB (eH.set (by rw[hF];simp));have hlen:rows.length*size+ys.flatten.length≤cs.size:=by rw[S.ok.flat,←zLF,hcs];exact hmul
    rw[aBA _ _ _ hlen,htake];have hlen2:(rows.length+ys.length)*size=(rows.flatten++ys.flatten).length:=by rw[kO,H.ok.flat,S.ok.flat,zLF]
    rw[hlen2,zLH (nQ _),zLJ]
 ·rw[if_neg hfit];have hlt:vc<rows.length+ys.length:=by omega
  have h63:¬(((rows.length+ys.length:Nat):Int)>IntKind.i64.max∧(False∨i.bytes=0)):=by
   rintro⟨_,hh⟩;rcases hh with hh|hh
   ·exact hh
   ·omega
  have hfits:¬(Builtin.nextslicecap (rows.length+ys.length) vc*i.bytes>2^48):=by
   rw[hby];have:=growslice_fits hlt hl;omega
  rw[rU hi,if_neg h63,rU hi,if_neg hfits,aBF];intro tt;rw[rU hi,aIn];refine iY hvfirst (iY hfirst ?_);have hzv:zeroValue e=(typeInfo e >>= λi=>match i.zero with|some v=>pure v|none=>unsupported (.resourceLimit "a value of more than 2^22 cells")):=rfl;rw[hzv,bind_assoc,rU hi,hz,pure_bind];have hcut:∀n m:Nat,n≤140737488355328->n≤(Question.appendCap n m e).cut tt∧(Question.appendCap n m e).cut tt≤xS:=by
   intro n m hn;have hpos:0<2^63-n:=by omega
   have:=zLB tt hpos;simp only[Question.cut,xS];omega
  have hforced:(Question.appendCap (rows.length+ys.length) vc e).forced=false:=rfl;rw[hforced];obtain⟨hc1,hc2⟩:=hcut (rows.length+ys.length) vc hbig;intro r hr;exact grown _ hc1 hc2 (show vc≤_ by omega) r hr
def aRk{a:Addr}{n:Nat}:(a.add n).block=a.block:=by unfold Addr.add;split<;>rfl
def jE.cut{size:Nat}{v:Value}{rows:List (List Value)}(H:jE h size v rows){i:TypeInfo}(hu:P.underlying t=some (.slice e))(hi':P.info? e=some i)(hn:i.size=size){lo hi:Option Value}{l m:Nat}
  (hlo:lo=none∧l=0∨∃k,lo=some (.int k l)) (hhi:hi=none∧m=rows.length∨∃k,hi=some (.int k m)) (h1:l≤m) (h2:m≤rows.length):
  ∃v',dE P (Instr.sliceAt t v lo hi none)=some v'∧jE h size v' ((rows.take m).drop l)∧∀x n c,v'= .slice (some x) n c->∃x0 n0 c0,v= .slice (some x0) n0 c0∧x.block=x0.block:=by
 obtain⟨a,c,rfl,hc1,hc2,hc3,hc4⟩:=H.here;refine⟨_,aHt hu hi' hlo hhi h1 (by omega),⟨(H.ok.take m).drop l,?_⟩,?_⟩
 ·have hlen:((rows.take m).drop l).length=m-l:=by simp;omega
  refine⟨_,_,by rw[hlen],by omega,by omega,λhne=>?_,trivial⟩
  ·have hpos:0<m-l:=by rw[←hlen];exact aKL.2 hne
   have hne':rows≠[]:=λh=>by subst h;simp at hlen;omega
   obtain⟨b,o,cs,e',fr,rfl,hb,hle,hex⟩:=hc3 hne';have hm1:m*size≤rows.length*size:=yE _ h2;have hm2:m*size=l*size+(m-l)*size:=by rw[←zLF];congr 1;omega
   refine⟨b,o+l*size,cs,e',fr,?_,hb,by rw[hlen];omega,?_⟩
   ·rw[if_neg (by omega),aLC,hn,lV]
   ·rw[hlen,(H.ok.take m).flat_drop,H.ok.flat_take,←hex];simp only[zLD,zLx];rw[aJV,aGb (by omega),zLy,rQ];congr 1;omega
 ·intro x n c' hv;simp only[Value.slice.injEq] at hv;have hx:=hv.1;split at hx
  ·exact⟨x,_,_,by rw[hx],rfl⟩
  ·obtain⟨y,hy,rfl⟩:=Option.map_eq_some_iff.1 hx;exact⟨y,_,_,by rw[hy],aRk⟩
end
section
variable{P:Program}{h:PH}{t t' t2 e:TypeId}
def aHL{b:Nat}{c:Array Value}{cs:Array Value}{k:dI}(hb:h b=some (.cells c e (0,0))){i:TypeInfo}(hi:P.info? t=some i)(hn:i.size=cs.size)(h0:0<cs.size)(ho:c.size=cs.size)(hv:∀v∈cs.toList,gN v=true)
  (hk:k undef (h.set b (.cells cs e (0,0)))):dT P (dX t (pT b 0) (.agg cs)) h k:=by
 refine aOQ hb hi hn h0 (by omega) hv ?_;rw[aSH (by simp[ho])];simpa using hk
def aUM{x y:Operand}{a:Option Addr}{n c:Nat}(hu:P.underlying t=some (.slice e)):dH P h (gV .eql t x y (.slice a n c) (.slice none 0 0))=some (.bool a.isNone):=by
 show dH P h (binOp .eql t (.slice a n c) (.slice none 0 0))=_;show dH P h (Op.equalIn Op.maxDepth t (.slice a n c) (.slice none 0 0) >>= λb=>(pure (Value.bool b):Sem Value))=_;rw[show Op.maxDepth=9999+1 from rfl];rw[jG];have:dH P h (Op.equalIn (9999+1) t (.slice a n c) (.slice none 0 0))=some a.isNone:=by
  rw[Op.equalIn];rw[kN hu];cases a<;>rfl
 rw[this];rfl
def zC{x y:Operand}{a:Option Addr}(hu:P.underlying t=some (.pointer e)):dH P h (gV .eql t x y (.pointer a) (.pointer none))=some (.bool a.isNone):=by
 show dH P h (binOp .eql t (.pointer a) (.pointer none))=_;have:dH P h (Op.equalIn (9999+1) t (.pointer a) (.pointer none))=some a.isNone:=by
  rw[Op.equalIn];rw[kN hu];cases a<;>rfl
 show dH P h (Op.equalIn Op.maxDepth t (.pointer a) (.pointer none) >>= λb=>(pure (Value.bool b):Sem Value))=_;rw[show Op.maxDepth=9999+1 from rfl,jG,this];rfl
def fY.mk'{b cap:Nat}{size:Nat}{rows:List (List Value)}{cs:Array Value}(hr:Rows size rows)(hb:h b=some (.cells cs e (0,0)))(hle:rows.length≤cap)(hm:cap≤xS)(hs:cs.size=cap*size)(ht:cs.toList.take (rows.length*size)=rows.flatten):
  fY h e size (.slice (some ⟨b,0,none⟩) rows.length cap) rows [b]:=⟨hr,.inr ⟨b,cap,cs,rfl,rfl,hb,hle,hm,hs,ht⟩⟩
def fY.lit{r n:Nat}{size:Nat}{rows:List (List Value)}{cs:Array Value}(hr:Rows size rows)(hb:h r=some (.cells cs e (0,0)))(hn:n=rows.length)(hm:n≤xS)(hcs:cs.toList=rows.flatten):fY h e size (.slice (some ⟨r,0,none⟩) n n) rows [r]:=by
 subst hn;have hsz:cs.size=rows.length*size:=by rw[←hr.flat,←hcs];simp
 refine fY.mk' hr hb (nQ _) hm hsz ?_;rw[←hsz,hcs,sU];rw[←hcs];simp
def fY.write{size l:Nat}{v:Value}{rows ys:List (List Value)}{F:List Nat}(H:fY h e size v rows F)(hy:Rows size ys)(hle:l+ys.length≤rows.length){b n cap:Nat}{c:Array Value}(hv:v= .slice (some ⟨b,0,none⟩) n cap)(hb:h b=some (.cells c e (0,0))):
  fY (h.set b (.cells (uT c (l*size) ys.flatten) e (0,0))) e size v (rows.take l++ys++rows.drop (l+ys.length)) F:=by
 have hlen:(rows.take l++ys++rows.drop (l+ys.length)).length=rows.length:=by simp;omega
 refine⟨((H.ok.take l).append hy).append (H.ok.drop _),?_⟩;rcases H.here with⟨rfl,_,_⟩|⟨b',cap',cs,rfl,rfl,hb',h1,h2,h3,h4⟩
 ·cases hv
 ·simp only[Value.slice.injEq,zL4,Addr.mk.injEq,and_true] at hv;obtain⟨rfl,rfl,rfl⟩:=hv;rw[hb] at hb';cases hb';refine .inr ⟨b',cap',_,by rw[hlen],rfl,gB,by rw[hlen];exact h1,h2,by rw[aEH];exact h3,?_⟩;have m1:(l+ys.length)*size≤rows.length*size:=yE _ hle;have m2:rows.length*size≤cap'*size:=yE _ h1;rw[zLF] at m1;rw[hlen,aBA _ _ _ (by rw[hy.flat,h3];omega)];rw[zLG,zLG,H.ok.flat_take,H.ok.flat_drop,←h4,hy.flat];rw[aJV,aGb (by omega)];rw[List.take_append];have e1:(List.take (l*size) c.toList++ys.flatten).length=l*size+ys.length*size:=by
   rw[kO,hy.flat,mT,aGb (by simp[h3];omega)]
  rw[e1,sU (by omega),zLy,zLF]
def aVi{size l m n:Nat}{v d x:Value}{rows ys:List (List Value)}{F:List Nat}{i:TypeInfo}{k:dI}
  (hu:P.underlying t=some (.slice e)) (hi:P.info? e=some i) (hn:i.size=size)
  (H:fY h e size v rows F) (hd:∃k k',dE P (Instr.sliceAt t v (some (.int k l)) (some (.int k' m)) none)=some d) (hlm:l≤m) (hm:m≤rows.length) (S:jE h size x ys) (hcell:∀r∈ys,∀u∈r,gN u=true) (hnn:n=min ys.length (m-l))
  (hk:∀h',fY h' e size v (rows.take l++ys.take n++rows.drop (l+n)) F->eH F h h'->k (.int .i64 n) h'):dT P (Builtin.copy_ #[t,t2] t' #[d,x]) h k:=by
 obtain⟨kk,kk',hd⟩:=hd;obtain⟨xa,xc,hx,hx1,hx2,hx3,hx4⟩:=S.here;obtain⟨va,vc,hv,hv1,hv2,hv3,hv4⟩:=H.slR.here;rw[hv,aHt hu hi (.inr ⟨kk,rfl⟩) (.inr ⟨kk',rfl⟩) hlm (by omega)] at hd;simp only[zL4] at hd;subst hd;have hS:jE h size (.slice xa n xc) (ys.take n):=by
  have hl:(ys.take n).length=n:=by simp;omega
  refine⟨S.ok.take n,xa,xc,by rw[hl],by omega,hx2,λhne=>?_,hx4⟩;have hne':ys≠[]:=by rintro rfl;simp at hne
  obtain⟨b,o,cs,e',fr,ha,hb,hle,hex⟩:=hx3 hne';have hmul:n*size≤ys.length*size:=yE _ (by omega);refine⟨b,o,cs,e',fr,ha,hb,by rw[hl];omega,?_⟩;rw[hl,S.ok.flat_take,←hex];simp only[zLD,zLx,aCw];rw[aJV,aGb hmul]
 have hfirst:=hS.first (P:=P);have hlen:(ys.take n).length=n:=by simp;omega
 rw[hlen] at hfirst;subst hx;have hmin:Nat.min ys.length (m-l)=n:=hnn.symm;simp only[Builtin.copy_,List.getElem?_toArray,zLK,zLL,tJ hu,lY,rU hi,pure_bind,Builtin.lenOf,hn,hmin];refine iY (s:=Builtin.firstCells size n (.slice xa ys.length xc)) (a:=(ys.take n).flatten.toArray) ?_ ?_
 ·cases xa<;>exact hfirst
 ·by_cases hn0:n=0
  ·have hz:(ys.take n)=[]:=by rw[hn0];rfl
   have hsame:rows.take l++ys.take n++rows.drop (l+n)=rows:=by rw[hz,hn0];simp
   have fin:=hk h (by rw[hsame];exact H) eH.refl;rw[hz];split
   ·exact fin
   ·exact fin
  ·have hne:rows≠[]:=by rintro rfl;simp at hm;omega
   obtain⟨b,o,cs,e',fr,rfl,hb,hle,hex⟩:=hv3 hne;rcases H.here with⟨hv',_,_⟩|⟨b',cap',cs',hv',hF,hb',h1,h2,h3,h4⟩
   ·rw[hv] at hv';cases hv'
   ·rw[hv] at hv';simp only[Value.slice.injEq,zL4,Addr.mk.injEq,and_true,true_and] at hv';obtain⟨⟨rfl,rfl⟩,rfl⟩:=hv';rw[if_neg (by omega),aLC,lV];have aS9:∀u∈(ys.take n).flatten,gN u=true:=λu hu=>by
     obtain⟨r,hr,hur⟩:=List.mem_flatten.1 hu;exact hcell r (List.mem_of_mem_take hr) u hur
    have m1:(l+n)*size≤rows.length*size:=yE _ (by omega);have m2:rows.length*size≤vc*size:=yE _ h1;rw[zLF] at m1;have hflen:(ys.take n).flatten.length=n*size:=by rw[hS.ok.flat,hlen]
    refine dT.bind (P:=P) (s:=storeCells _ _) ?_;refine wM _ 0 h cs' hb' (by rw[hflen,h3];omega) aS9 ?_;show k _ _;have hw:=H.write (l:=l) hS.ok (by rw[hlen];omega) hv hb';rw[hlen] at hw;split
    ·rename_i hys;have hys':(ys.take n).flatten=[]:=hys;rw[hys'] at hw;have hid:h.set b (.cells (uT cs' (l*size) []) e (0,0))=h:=by
      funext x;unfold PH.set uT;split
      ·rename_i e1;subst e1;exact hb'.symm
      ·rfl
     rw[hid] at hw;exact hk h hw eH.refl
    ·simp only[kB,zLP,hn];exact hk _ hw (eH.set (by rw[hF];simp))
end
end
section
open Go Go.RowKit Go.ChangeShapes
def aFd(W:World):PH:=λb=>W.heap[b]?
def aSN(W:World):qA (aFd W) W:=λ_ _ h=>h
structure aJR(W W':World):Prop where
 os:W'.os=W.os
 output:W'.output=W.output
 heap:∀b,b<W.heap.size->W'.heap[b]? =W.heap[b]?
def aRl{P:Program}{f:FuncId}{args:Array Value}{W:World}(H:bR P f args (aFd W) λv h'=>v= .bool true∧eM (aFd W) h')(he:aDP P f=true:=by kernel_rfl):
  Calls P f args W λe w'=>e= .returned (.bool true)∧aJR W w':=by
 refine(H.calls he W (aSN W)).mono ?_;rintro e w' ⟨v,h',rfl,⟨rfl,hx⟩,hs,hf⟩;refine⟨rfl,hf.os,hf.output,λb hb=>?_⟩;cases e:W.heap[b]? with
 | none=>simp at e;omega
 | some o=>exact hs b o (hx.get e)
def aJR.cell{W W':World}(K:aJR W W')(a:Addr)(h:a.block<W.heap.size):W'.cell? a=W.cell? a:=by
 unfold World.cell?;rw[K.heap _ h]
def aJR.frozen{W W':World}(K:aJR W W')(a:Addr)(h:a.block<W.heap.size):W'.frozen? a=W.frozen? a:=by
 unfold World.frozen?;rw[K.heap _ h]
def aJR.sameAt{W W':World}(K:aJR W W')(p:MemPlace)(h:p.block<W.heap.size):W.sameAt W' p:=by
 cases p with
 | cell b off=>exact K.cell _ h
 | map b=>exact K.heap _ h
def aJR.but{W W':World}(K:aJR W W')(may:MemPlace->Prop):W.keptBut W' may:=by
 refine⟨K.os,K.output,λi hi=>?_⟩;rw[K.heap i hi];cases W.heap[i]? with
 | none=>rfl
 | some o=>
  cases o with
  | cells c t fr=>exact⟨rfl,rfl,rfl,λ_ _=>rfl⟩
  | map es clock=>exact .inr ⟨rfl,rfl⟩
  | _=>rfl
def aKl{H:Type}{enc:TypeId×Value->H}{P:Program}{w w':World}{base:Nat}{spare:Nat->Bool}{held:Bool}:∀{ts:List TypeId} {vs:List Value} {ds:List (DataW H)} {ps:List MemPlace},
  DataW.TrodAll enc P w base spare held ts vs ds ps->(∀p∈ps,w.sameAt w' p)->DataW.TrodAll enc P w' base spare held ts vs ds ps
 | [],[],[],_,h,_=>h
 | _::_,_::_,_::_,_,⟨p,q,⟨n,h1⟩,h2,e⟩,hs=>⟨p,q,⟨n,DataW.trod_carry n _ _ _ h1 λx hx=>hs x (by rw[e];exact List.mem_append_left _ hx)⟩,aKl h2 (λx hx=>hs x (by rw[e];exact List.mem_append_right _ hx)),e⟩
def aQB{H:Type}{enc:TypeId×Value->H}{P:Program}{f:Func}{s:ChangeSpec}{apart fresh handsOn again:Bool}{W W':World}{args:Array Value}{ds gs:List (DataW H)}{before:List MemPlace}
  {T:TypeId->Prop} (KP:Kids P T) (full:∀t e,T t->P.underlying t=some (.slice e)->0<P.cellsOf e) (hT:∀t∈f.params.toList,T t) {tb:TypeId} (hb:P.underlying tb=some .bool) (hr:f.resultTypes= #[tb])
  (hs:s.vars=[]) (hW:DataW.Whole enc P f.params.toList s.vars apart W args.toList ds gs before) (hK:aJR W W')
  (e1:(s.fn H (ds++gs)).results=[.lit (.bool true)]) (e2:(s.fn H (ds++gs)).args=ds) (e3:(s.fn H (ds++gs)).vars=[]):
  s.post enc P f apart fresh handsOn again W args (.bool true) W':=by
 have hlt:=λp hp=>hW.lt p hp;have hW':=hW;obtain⟨pa,pv,hA,hV,rfl,hz,hn⟩:=hW';rw[hs] at hV;obtain⟨rfl,rfl⟩:=trodVars_none hV;simp only[zLQ] at *;have hargs:∀sp:Nat->Bool,(∀p∈pa,sp p.block=true)->DataW.TrodAll enc P W' 0 sp true f.params.toList args.toList ds pa:=λsp hsp=>
  aKl (DataW.TrodAll.respare KP full hT hA hsp) λp hp=>hK.sameAt p (hlt p hp)
 have hres:∀(b:Nat) (sp:Nat->Bool) (hd:Bool),DataW.TrodAll enc P W' b sp hd f.resultTypes.toList ((Value.bool true).resultList f.resultTypes.size) (s.fn H ds).results []:=λb sp hd=>by
  rw[e1,hr];exact trodAll_cons_mk (shut_bool hb _) trodAll_mk0
 have hvars:∀sp:Nat->Bool,DataW.TrodVars enc P W' sp s.vars (s.fn H ds).vars []:=λsp=>by rw[e3,hs];rfl
 have hold:∀p∈pa,(λb=>decide (b<W.heap.size)) p.block=true:=λp hp=>by simpa using hlt p hp
 refine⟨ds,[],pa,[],pa,[],hW,by simpa using hres _ _ _,by simpa[e2] using hargs _ hold,by simpa using hvars _,World.keptBut_mono (λp hp=>⟨hp,by simp[hp]⟩) (hK.but (· ∈pa)),λ_=>?_⟩;refine⟨ok_one hr rfl (okWide_bool_mk hb _),_,_,([]++pa)++[],⟨[]++pa,[],trodAll_append (hargs _ (λ_ _=>rfl)) (hres _ _ _),hvars _,rfl,?_,?_⟩,?_⟩
 ·intro b off hp;have hp':MemPlace.cell b off∈pa:=by simpa using hp
  rw[hK.frozen ⟨b,off,none⟩ (hlt _ hp')];exact hz b off hp'
 ·intro ha;simpa using hn ha
 ·intro p hp _;simpa using hp
variable{H:Type}{enc:TypeId×Value->H}{P:Program}{w:World}{spare:Nat->Bool}{held:Bool}
def Rd(enc:TypeId×Value->H)(P:Program)(w:World)(spare:Nat->Bool)(held:Bool)(t:TypeId)(cs:List Value):Prop:=∃n x,DataW.trod enc P w 0 spare held n t cs=some x
def aEP{t:TypeId}{k:IntKind}{cs:List Value}(ht:P.underlying t=some (.int k))(h:Rd enc P w spare held t cs):∃n,cs=[.int k n]∧(Lit.int k n).wf=true:=by
 obtain⟨n,x,h⟩:=h;obtain⟨i,rfl,_,hw⟩:=DataW.trod_int ht h;exact⟨i,rfl,hw⟩
def aWe{t:TypeId}{cs:List Value}(ht:P.underlying t=some .bool)(h:Rd enc P w spare held t cs):∃b,cs=[.bool b]:=by
 obtain⟨n,x,h⟩:=h;obtain⟨i,rfl,_⟩:=DataW.trod_bool ht h;exact⟨i,rfl⟩
def aTN{t:TypeId}{cs:List Value}(ht:P.underlying t=some .string)(h:Rd enc P w spare held t cs):∃s:ByteArray,cs=[.string s]∧s.size≤maxLen:=by
 obtain⟨n,x,h⟩:=h;obtain⟨i,rfl,_,hw⟩:=DataW.trod_string ht h;exact⟨i,rfl,hw⟩
def aHD{t:TypeId}{fs:Array Field}{cs:List Value}(ht:P.underlying t=some (.struct fs))(h:Rd enc P w spare held t cs):
  cs.length=P.cellsOf t∧∀(i:Nat) (f:Field),fs[i]? =some f->Rd enc P w spare held f.type ((cs.drop f.offset).take (P.cellsOf f.type)):=by
 obtain⟨n,x,h⟩:=h;obtain⟨xs,m,rfl,_,hl,hx,hf⟩:=DataW.trod_struct ht h;refine⟨hl,λi f hi=>?_⟩;have h1:=hf i f hi;have hlt:i<xs.length:=by rw[hx];exact(aIe.1 hi).1
 rw[lG hlt] at h1;exact⟨m,_,h1⟩
def aU0{t e:TypeId}{n:Nat}{cs:List Value}(ht:P.underlying t=some (.array n e))(h:Rd enc P w spare held t cs):
  cs.length=P.cellsOf t∧∀i,i<n->Rd enc P w spare held e ((cs.drop (i*P.cellsOf e)).take (P.cellsOf e)):=by
 obtain⟨m,x,h⟩:=h;cases m with
 | zero=>simp[DataW.trod] at h
 | succ m=>
  unfold DataW.trod at h;rw[ht] at h;split at h<;>simp_all;obtain⟨hl,xs,hp,hd⟩:=h;intro i hi;have:=mapM_some_get hp i i (by simp[hi]);have hlt:i<xs.length:=by have:=mapM_some_length hp;simp at this;omega
  rw[lG hlt] at this;exact⟨m,_,this⟩
def aOd{w:World}{a:Addr}{v:Value}(h:w.cell? a=some v):∃c t fr,w.heap[a.block]? =some (.cells c t fr)∧a.spot=none∧c[a.off]? =some v:=by
 unfold World.cell? at h;split at h
 ·rename_i c t fr e;cases hs:a.spot with
  | none=>rw[hs] at h;exact⟨c,t,fr,e,rfl,by simpa using h⟩
  | some b=>rw[hs] at h;simp at h
 ·cases h
def aTC{a:Addr}(h:a.spot=none)(n:Nat):a.add n=⟨a.block,a.off+n,none⟩:=by
 obtain⟨b,o,s⟩:=a;simp only at h;subst h;exact lV b o n
def aMO{t e:TypeId}{cs:List Value}(ht:P.underlying t=some (.slice e))(hpos:0<P.cellsOf e)(h:Rd enc P w spare held t cs):
  ∃v rows,cs=[v]∧jE (aFd w) (P.cellsOf e) v rows∧∀r∈rows,Rd enc P w spare held e r:=by
 obtain⟨n,x,h⟩:=h;rcases Go.Deep.open_slice ht h with⟨rfl,_⟩|⟨a,len,cap,m,k,D,Pl,rfl,hb,hl,hm,hmm,rfl,hx⟩
 ·exact⟨_,[],rfl,fY.nil (e:=e).slR,by simp⟩
 have hlm:len≤m:=by rw[hmm];split<;>omega
 obtain⟨R,hR⟩:=Go.Deep.choose_lt (α:=List Value) (n:=len) (p:=λi r=>w.cells? 0 (a.add (i*P.cellsOf e)) (P.cellsOf e)=some r∧Rd enc P w spare held e r) (λi hi=>by
  obtain⟨r,h1,h2⟩:=hx i (by omega);exact⟨r,h1,k,_,h2⟩)
 have hrows:Rows (P.cellsOf e) ((List.range len).map R):=λr hr=>by
  obtain⟨i,hi,rfl⟩:=rS.1 hr;exact(World.cells?_some (hR i (aHY.1 hi)).1).2.1
 refine⟨_,(List.range len).map R,rfl,⟨hrows,some a,cap,by simp,by simpa using hl,hm,λhne=>?_,trivial⟩,λr hr=>?_⟩
 ·have hlen:0<len:=by
   rcases Nat.eq_zero_or_pos len with h0|h0
   ·subst h0;simp at hne
   ·exact h0
  have cell:∀i j,i<len->j<P.cellsOf e->w.cell? (a.add (i*P.cellsOf e+j))=(R i)[j]?:=λi j hi hj=>by
   rw[←Go.Deep.add_add];exact(World.cells?_some (hR i hi).1).2.2 j hj
  have hRl:∀i,i<len->(R i).length=P.cellsOf e:=λi hi=>(World.cells?_some (hR i hi).1).2.1;have c0:=cell 0 0 hlen hpos;rw[Nat.zero_mul,kB,show a.add 0=a by simp[Addr.add],lG (by rw[hRl 0 hlen];exact hpos)] at c0;obtain⟨c,tt,fr,hh,hs,_⟩:=aOd c0;have at_:∀i j,i<len->j<P.cellsOf e->c[a.off+(i*P.cellsOf e+j)]? =(R i)[j]?:=λi j hi hj=>by
   have h1:=cell i j hi hj;rw[aTC hs] at h1;have hj':j<(R i).length:=by rw[hRl i hi];exact hj
   rw[lG hj'] at h1 ⊢;obtain⟨c',_,_,hh',_,h2⟩:=aOd h1;simp only[hh,zL4,Obj.cells.injEq] at hh';rw[←hh'.1] at h2;exact h2
  have hle:a.off+len*P.cellsOf e≤c.size:=by
   have h1:=at_ (len-1) (P.cellsOf e-1) (by omega) (by omega);have hj':P.cellsOf e-1<(R (len-1)).length:=by rw[hRl _ (by omega)];omega
   rw[lG hj'] at h1;have h2:=(aIe.1 h1).1;have h3:(len-1)*P.cellsOf e+P.cellsOf e=len*P.cellsOf e:=by rw[←Nat.succ_mul];congr 1;omega
   omega
  refine⟨a.block,a.off,c,tt,fr,by rw[←hs],hh,by simpa using hle,?_⟩;have hfl:=hrows.flat;simp only[jJ,List.length_range] at hfl;apply aMR;intro q;by_cases hq:q<len*P.cellsOf e
  ·have hq1:q/P.cellsOf e<len:=Nat.div_lt_of_lt_mul (by rw[Nat.mul_comm];exact hq);have hq2:=zLB q hpos;have hq3:q/P.cellsOf e*P.cellsOf e+q%P.cellsOf e=q:=by rw[Nat.mul_comm];exact Nat.div_add_mod _ _
   have h1:=at_ _ _ hq1 hq2;rw[hq3] at h1;have h2:=hrows.at (i:=q/P.cellsOf e) (r:=R (q/P.cellsOf e)) (by simp[hq1]);have h3:((List.range len).map R).flatten[q]? =(R (q/P.cellsOf e))[q%P.cellsOf e]?:=by
    rw[←h2,List.getElem?_take_of_lt hq2,aJ4,hq3]
   rw[h3,←h1,aKx,Array.getElem?_extract];simp only[jJ,List.length_range];rw[if_pos (by omega)]
  ·rw[List.getElem?_eq_none (by rw[Array.length_toList,Array.size_extract];simp;omega),List.getElem?_eq_none (by omega)]
 ·obtain⟨i,hi,rfl⟩:=rS.1 hr;exact(hR i (aHY.1 hi)).2
def aV3{r:Reach}{base:Nat}{t e:TypeId}{v:Value}{d:DataW H}{p:List MemPlace}(ht:P.underlying t=some (.slice e))(hpos:0<P.cellsOf e)(hval:Value.okWide P w r base t v)(hd:DataW.Trod enc P w 0 spare held t v d p):
  ∃rows,jE (aFd w) (P.cellsOf e) v rows∧∀r∈rows,Rd enc P w spare held e r:=by
 obtain⟨a,n,c,rfl⟩:=Go.WideShapes.okWide_slice ht hval;obtain⟨k,hk⟩:=hd;obtain⟨v,rows,h1,h2,h3⟩:=aMO ht hpos ⟨k,_,hk⟩;obtain rfl:Value.slice a n c=v:=by simpa[Value.cells] using h1
 exact⟨rows,h2,h3⟩
end
section
open Go Go.RowKit Go.ChangeShapes
mutual
def aYJ{H:Type}:DataW H->List Value
 | .lit (.int k n)=>[.int k n]
 | .agg parts=>aSv parts
 | _=>[]
def aSv{H:Type}:List (DataW H)->List Value
 | []=>[]
 | d::r=>aYJ d++aSv r
end
end
section
open Go
section
variable{P:Program}{h:PH}{t e:TypeId}
def sH{d:Nat}{k k':IntKind}{a b:Int}(hu:P.underlying t=some (.int k')):dH P h (Op.equalIn (d+1) t (.int k a) (.int k b))=some (a==b):=by
 rw[Op.equalIn,kN hu];simp[dH,pure]
def aOE(a b:ByteArray):(a==b)=decide (a=b):=by
 obtain⟨x⟩:=a;obtain⟨y⟩:=b;show(x==y)=_;rw[yA];simp
def aL6{d:Nat}{a b:ByteArray}(hu:P.underlying t=some .string):dH P h (Op.equalIn (d+1) t (.string a) (.string b))=some (a==b):=by
 rw[Op.equalIn,kN hu];simp[dH,pure]
def aSq{β:Type}{fs:List Field}{s0 s1:β}{body:Field->β->Sem (ForInStep β)}(g:Field->Bool)
  (hb:∀f∈fs,dH P h (body f s0)=some (if g f then .yield s0 else .done s1)):dH P h (forIn fs s0 body)=some (if fs.all g then s0 else s1):=by
 induction fs with
 | nil=>rfl
 | cons f fs ih=>
  rw[List.forIn_cons,jG,hb f (by simp)];cases hg:g f with
  | true=>simp only[if_true,aAR,List.all_cons,hg,zLo];exact ih λx hx=>hb x (by simp[hx])
  | false=>simp[List.all_cons,hg,dH,pure]
def aBJ{d:Nat}{fields:Array Field}{xs ys:Array Value}(hu:P.underlying t=some (.struct fields))(hs:P.stoodInHeld t=false)(g:Field->Bool)
  (hf:∀f∈fields.toList,f.name≠ "_" ∧∃a b,dH P h (part f.type xs f.offset)=some a∧dH P h (part f.type ys f.offset)=some b∧dH P h (Op.equalIn d f.type a b)=some (g f)):
  dH P h (Op.equalIn (d+1) t (.agg xs) (.agg ys))=some (fields.toList.all g):=by
 rw[Op.equalIn,kN hu];simp only[bind_pure_comp,pure_bind];have hp:∀{α:Type} (f:Program->Sem α),dH P h (program >>= f)=dH P h (f P):=λf=>rfl;have hp2:∀{α β:Type} (g:Program->β) (f:β->Sem α),dH P h ((g <$> program) >>= f)=dH P h (f (g P)):=λg f=>rfl
 first
  | rw[hp]
  | skip
 simp only[hs,zLs,if_false];rw[←Array.forIn_toList,jG,aSq (s1:=⟨some false,()⟩) g]
 ·cases hx:fields.toList.all g<;>simp[dH,pure]
 ·intro f hfm;obtain⟨hn,a,b,ha,hb,hab⟩:=hf f hfm;simp only[ne_eq,hn,not_false_eq_true,if_true];rw[jG,ha,aAR,jG,hb,aAR,jG,hab,aAR];cases g f<;>rfl
def aI4{x y:Operand}{xs ys:Array Value}{b:Bool}(hg:P.eqGuardType P.depth t=false)(he:dH P h (Op.equalIn (9999+1) t (.agg xs) (.agg ys))=some b):
  dH P h (gV .eql t x y (.agg xs) (.agg ys))=some (.bool b):=by
 show dH P h (eqGuard .eql t x y (.agg xs) (.agg ys) >>= λ_=>binOp .eql t (.agg xs) (.agg ys))=_;rw[jG];have:dH P h (eqGuard .eql t x y (.agg xs) (.agg ys))=some ():=by
  unfold eqGuard;show dH P h (if !P.eqGuardType P.depth t then pure () else _)=_;rw[hg];rfl
 rw[this,aAR];show dH P h (Op.equalIn (9999+1) t (.agg xs) (.agg ys) >>= λb=>(pure (Value.bool b):Sem Value))=_;rw[jG,he];rfl
def aKy{x y:Operand}{xs ys:Array Value}{b:Bool}(hg:P.eqGuardType P.depth t=false)(he:dH P h (Op.equalIn (9999+1) t (.agg xs) (.agg ys))=some b):
  dH P h (gV .neq t x y (.agg xs) (.agg ys))=some (.bool (!b)):=by
 show dH P h (eqGuard .neq t x y (.agg xs) (.agg ys) >>= λ_=>binOp .neq t (.agg xs) (.agg ys))=_;rw[jG];have:dH P h (eqGuard .neq t x y (.agg xs) (.agg ys))=some ():=by
  unfold eqGuard;show dH P h (if !P.eqGuardType P.depth t then pure () else _)=_;rw[hg];rfl
 rw[this,aAR];show dH P h (Op.equalIn (9999+1) t (.agg xs) (.agg ys) >>= λb=>(pure (Value.bool (!b)):Sem Value))=_;rw[jG,he];rfl
def jO{d:TypeDesc}{cs:Array Value}{o:Nat}{v:Value}(hu:P.underlying t=some d)(hd:aEf d=true)(hv:cs[o]? =some v):dH P h (part t cs o)=some v:=by
 unfold part;rw[aKA hu,hd];simp[hv,dH,pure]
def aA9{d:TypeDesc}{cs:Array Value}{o n:Nat}{i:TypeInfo}(hu:P.underlying t=some d)(hd:aEf d=false)(hi:P.info? t=some i)(hn:i.size=n):dH P h (part t cs o)=some (.agg (cs.extract o (o+n))):=by
 unfold part;rw[aKA hu,hd];simp only[Bool.not_false,if_true];rw[lY,yU hi,hn];rfl
end
structure aLs(P:Program)(t:TypeId){α:Type}[DecidableEq α](enc:α->Value):Prop where
 chk:∀(h:PH) (b:Bool) (a:α),dH P h (Instr.checkKey b 10000 t (enc a))=some ()
 eq:∀(h:PH) (a b:α),dH P h (Op.equal t (enc a) (enc b))=some (decide (a=b))
 bits:∀a,Instr.sameBits 10000 (enc a) (enc a)=true
 now:∃kind,P.underlying t=some kind∧((∀a b,Instr.sameNow kind (enc a) (enc b)=none)∨∀a b,Instr.sameNow kind (enc a) (enc b)=some (decide (a=b)))
section
variable{P:Program}{h:PH}{t kt et:TypeId}{α:Type}[DecidableEq α]{enc:α->Value}
def aBr(enc:α->Value)(l:List (α×Value×Nat)):List MapEntry:=l.map λp=>⟨enc p.1,p.2.1,p.2.2⟩
def aCS(a:α):List (α×Value×Nat)->Nat->Option (Nat×Value)
 | [],_=>none
 | p::ps,i=>if a=p.1 then some (i,p.2.1) else aCS a ps (i+1)
def aKi(K:aLs P kt enc)(a:α):∀(l:List (α×Value×Nat)) (i:Nat),dH P h (Instr.findAsking kt (enc a) (aBr enc l) i)=some (aCS a l i)
 | [],i=>rfl
 | p::ps,i=>by
  show dH P h (Op.equal kt (enc a) (enc p.1) >>= _)=_;rw[jG,K.eq h a p.1];simp only[aAR,aCS];by_cases e:a=p.1
  ·simp[e,dH,pure]
  ·simp only[e,decide_false,zLs,if_false];exact aKi K a ps (i+1)
def aMq{kind:TypeDesc}(hk:∀a b:α,Instr.sameNow kind (enc a) (enc b)=some (decide (a=b)))(a:α):∀(l:List (α×Value×Nat)) (i:Nat),Instr.findNow kind (enc a) (aBr enc l) i=some (aCS a l i)
 | [],i=>rfl
 | p::ps,i=>by
  show(match Instr.sameNow kind (enc a) (enc p.1) with|some true=>_|some false=>_|none=>_)=_;rw[hk];by_cases e:a=p.1
  ·simp[e,aCS]
  ·simp only[e,decide_false,aCS,if_false];exact aMq hk a ps (i+1)
def aPE{kind:TypeDesc}(hk:∀a b:α,Instr.sameNow kind (enc a) (enc b)=none)(a:α):∀(l:List (α×Value×Nat)) (i:Nat),Instr.findNow kind (enc a) (aBr enc l) i=none∨(l=[]∧Instr.findNow kind (enc a) (aBr enc l) i=some none)
 | [],i=>.inr ⟨rfl,rfl⟩
 | p::ps,i=>.inl (by
  show(match Instr.sameNow kind (enc a) (enc p.1) with|some true=>_|some false=>_|none=>_)=_;rw[hk])
def aKB(K:aLs P kt enc)(a:α)(l:List (α×Value×Nat)):dH P h (Instr.findKey kt (enc a) (aBr enc l))=some (aCS a l 0):=by
 obtain⟨kind,hu,hk⟩:=K.now;show dH P h (underlying kt >>= _)=_;rw[kN hu];rcases hk with hk|hk
 ·rcases aPE hk a l 0 with e|⟨rfl,e⟩
  ·rw[e];exact aKi K a l 0
  ·rw[e];rfl
 ·rw[aMq hk];rfl
def aMU(l:List (α×Value))(a:α):Option Value:=(l.find? λp=>decide (a=p.1)).map (·.2)
def aC8(l:List (α×Value)):List α:=l.map (·.1)
def aLa(l:List (α×Value))(a:α)(v:Value):List (α×Value):=if a∈aC8 l then l.map (λp=>if p.1=a then(a,v) else p) else l++[(a,v)]
structure qB(enc:α->Value)(h:PH)(r:Nat)(l:List (α×Value)):Prop where
 nodup:(aC8 l).Nodup
 here:∃es c L,h r=some (.map es c)∧es.toList=aBr enc L∧l=L.map (λp=>(p.1,p.2.1))∧(L.map (·.2.2)).Nodup∧∀p∈L,p.2.2<c
def qB.upd{h h':PH}{r:Nat}{l:List (α×Value)}{G:List Nat}(H:qB enc h r l)(u:eH G h h')(hd:r∉G):qB enc h' r l:=by
 obtain⟨es,c,L,h1,h2,h3⟩:=H.here;exact⟨H.nodup,es,c,L,u.get h1 hd,h2,h3⟩
def qB.ext{h h':PH}{r:Nat}{l:List (α×Value)}(H:qB enc h r l)(u:eM h h'):qB enc h' r l:=H.upd u (by simp)
def qB.known{h:PH}{r:Nat}{l:List (α×Value)}(H:qB enc h r l):h r≠none:=by
 obtain⟨es,c,L,h1,_⟩:=H.here;rw[h1];simp
def aOH(a:α):∀(L:List (α×Value×Nat)) (i:Nat),(aCS a L i).map (·.2)=aMU (L.map λp=>(p.1,p.2.1)) a
 | [],_=>rfl
 | p::ps,i=>by
  simp only[aCS,aMU,jF,List.find?_cons];by_cases e:a=p.1
  ·simp[e]
  ·simp only[e,if_false,decide_false];exact aOH a ps (i+1)
def aMW(a:α):∀(L:List (α×Value×Nat)) (i:Nat),(∃q v,aCS a L i=some (i+q,v)∧(L.map (·.1))[q]? =some a∧a∈L.map (·.1))∨(aCS a L i=none∧a∉L.map (·.1))
 | [],_=>.inr ⟨rfl,by simp⟩
 | p::ps,i=>by
  by_cases e:a=p.1
  ·exact .inl ⟨0,p.2.1,by simp[aCS,e],by simp[e],by simp[e]⟩
  ·rcases aMW a ps (i+1) with⟨q,v,h1,h2,h3⟩|⟨h1,h2⟩
   ·exact .inl ⟨q+1,v,by simp only[aCS,e,if_false,h1];congr 2;omega,by simpa using h2,by simp at h3;simp[h3]⟩
   ·exact .inr ⟨by simp[aCS,e,h1],by simp only[jF,jW,e,false_or];exact h2⟩
def aTR{i:TypeInfo}{z:Value}(hi:P.info? et=some i)(hz:i.zero=some z):dH P h (zeroValue et)=some z:=by
 show dH P h (typeInfo et >>= _)=_;rw[yU hi];simp only[hz];rfl
def aQn{r:Nat}{es:Array MapEntry}{c:Nat}{β:Type}(hr:h r=some (.map es c))(f:Obj->Sem β):dH P h (getObj r >>= f)=dH P h (f (.map es c)):=by
 rw[jG];have:dH P h (getObj r)=some (.map es c):=by
  unfold getObj;simp only[dH,hr]
 rw[this];rfl
def aSd{r:Nat}{l:List (α×Value)}(K:aLs P kt enc)(hu:P.underlying t=some (.map kt et)){i:TypeInfo}{z:Value}(hi:P.info? et=some i)(hz:i.zero=some z)(H:qB enc h r l)(a:α)(ok:Bool):
  dH P h (Instr.lookup t (.map (some r)) (enc a) ok)=some (if ok then .tuple #[(aMU l a).getD z,.bool (aMU l a).isSome] else(aMU l a).getD z):=by
 obtain⟨es,c,L,h1,h2,rfl,hb1,hb2⟩:=H.here;show dH P h (underlying t >>= _)=_;rw[kN hu];show dH P h (((getObj r) >>= _) >>= _)=_;rw[jG,aQn h1];show dH P h (Instr.checkKey es.isEmpty 10000 kt (enc a) >>= _)=_;rw[jG,K.chk h _ a];simp only[aAR];rw[h2];rw[jG,aKB K];simp only[aAR];have hg:=aOH a L 0;cases e:aCS a L 0 with
 | none=>
  rw[e] at hg;rw[←hg];simp only[jG,aTR hi hz];cases ok<;>rfl
 | some q=>
  rw[e] at hg;rw[←hg];cases ok<;>rfl
def aEK{r:Nat}{es:Array MapEntry}{c:Nat}{β:Type}{Q:β->PH->Prop}(hr:h r=some (.map es c)){f:Obj->Sem β}(hq:dT P (f (.map es c)) h Q):dT P (getObj r >>= f) h Q:=by
 refine iY (a:=.map es c) ?_ hq;unfold getObj;simp only[dH,hr]
def aCa{L:List (α×Value×Nat)}:aC8 (L.map λp=>(p.1,p.2.1))=L.map (·.1):=by simp[aC8]
def aRY{r:Nat}{l:List (α×Value)}(K:aLs P kt enc)(hu:P.underlying t=some (.map kt et))(H:qB enc h r l)(a:α)(v:Value){k:dI}
  (hk:∀h',qB enc h' r (aLa l a v)->eH [r] h h'->k undef h'):dT P (aJi t (.map (some r)) (enc a) v) h k:=by
 obtain⟨es,c,L,h1,h2,rfl,hb1,hb2⟩:=H.here;have hnd:=H.nodup;rw[aCa] at hnd;show dT P (Instr.mapUpdate t (.map (some r)) (enc a) v >>= λ_=>pure undef) h k;refine dT.bind (P:=P) (s:=Instr.mapUpdate t (.map (some r)) (enc a) v) ?_;show dT P (underlying t >>= _) h _;rw[tJ hu];refine aEK h1 ?_;refine iY (K.chk h false a) ?_;rw[h2];refine iY (aKB K a L) ?_;rcases aMW a L 0 with⟨q,w,e1,e2,e3⟩|⟨e1,e2⟩
 ·rw[e1,kB];have hq:es[q]? =some ⟨enc a,(L[q]?.map (·.2.1)).getD v,(L[q]?.map (·.2.2)).getD 0⟩:=by
   rw[←aKx,h2];rw[xB] at e2;obtain⟨p,hp,rfl⟩:=Option.map_eq_some_iff.1 e2;simp[aBr,xB,hp]
  show dT P (Instr.keyThatStays (((es[q]?).map (·.key)).getD (enc a)) (enc a) >>= _) h _;rw[hq];unfold Instr.keyThatStays;simp only[aLC,Option.getD_some,K.bits,if_true];show(∃u,h r=some u∧(∀c e f,u≠ .cells c e f))∧_;refine⟨⟨_,h1,by intros;simp⟩,?_⟩;show k undef _;have hbm:(L.map (λp=>if p.1=a then(a,v,p.2.2) else p)).map (·.2.2)=L.map (·.2.2):=by
   rw[zLZ];apply zL0;intro p _;simp only[Function.comp];split<;>rfl
  refine hk _ ⟨?_,_,c,L.map (λp=>if p.1=a then(a,v,p.2.2) else p),gB,?_,?_,by rw[hbm];exact hb1,λp hp=>?_⟩ (eH.set (by simp))
  ·have:aC8 (aLa (L.map λp=>(p.1,p.2.1)) a v)=L.map (·.1):=by
    unfold aLa;rw[aCa,if_pos e3];simp only[aC8,zLZ];apply zL0;intro p _;simp only[Function.comp];split
    ·rename_i h;exact h.symm
    ·rfl
   rw[this];exact hnd
  ·rw[Array.toList_modify,h2];apply aMR;intro j;rw[List.getElem?_modify];simp only[aBr,xB];rw[xB] at e2;obtain⟨p0,hp0,hp1⟩:=Option.map_eq_some_iff.1 e2;cases hj:L[j]? with
   | none=>simp
   | some p=>
    by_cases hjq:q=j
    ·subst hjq;rw[hp0] at hj;cases hj;simp[hp1]
    ·have hne:p.1≠a:=by
      intro hpa;have h3:(L.map (·.1))[j]? =(L.map (·.1))[q]?:=by rw[xB,xB,hj,hp0,aLC,aLC,hpa,hp1]
      have hjl:j<(L.map (·.1)).length:=by rw[jJ];exact(zLA.1 hj).1
      exact hjq ((List.getElem?_inj hjl hnd).1 h3).symm
     simp[hjq,hne]
  ·unfold aLa;rw[aCa,if_pos e3];simp only[zLZ];apply zL0;intro p _;simp only[Function.comp];split<;>rfl
  ·obtain⟨q,hq,rfl⟩:=rS.1 hp;have:=hb2 q hq;split<;>exact this
 ·rw[e1];show(∃u,h r=some u∧(∀c e f,u≠ .cells c e f))∧_;refine⟨⟨_,h1,by intros;simp⟩,?_⟩;show k undef _;refine hk _ ⟨?_,_,c+1,L++[(a,v,c)],gB,?_,?_,?_,?_⟩ (eH.set (by simp))
  ·unfold aLa;rw[aCa,if_neg e2];have:aC8 (L.map (λp=>(p.1,p.2.1))++[(a,v)])=L.map (·.1)++[a]:=by simp[aC8]
   rw[this,List.nodup_append];refine⟨hnd,by simp,?_⟩;intro x hx y hy;simp only[jI] at hy;subst hy;rintro rfl;exact e2 hx
  ·rw[Array.toList_push,h2];simp[aBr]
  ·unfold aLa;rw[aCa,if_neg e2];simp
  ·rw[xX,List.nodup_append];refine⟨hb1,by simp,?_⟩;intro x hx y hy;simp only[jF,kF,jI] at hy;subst hy;obtain⟨p,hp,rfl⟩:=rS.1 hx;have:=hb2 p hp;omega
  ·intro p hp;rcases wQ.1 hp with hp|hp
   ·have:=hb2 p hp;omega
   ·simp only[jI] at hp;subst hp;simp
def aSf:lH P (Instr.makeMap t none)=some (.map #[] 0,λr=>pure (.map (some r))):=rfl
def qB.new{r:Nat}:qB enc (h.set r (.map #[] 0)) r []:=⟨by simp[aC8],#[],0,[],gB,rfl,rfl,by simp,by simp⟩
end
section
variable{P:Program}{h:PH}{t t' t2 e:TypeId}
def qB.len{α:Type}[DecidableEq α]{enc:α->Value}{r:Nat}{l:List (α×Value)}(H:qB enc h r l){k v:TypeId}(hu:P.underlying t=some (.map k v)):dH P h (Builtin.len_ #[t] t' #[.map (some r)])=some (.int .i64 l.length):=by
 obtain⟨es,c,L,h1,h2,rfl,_⟩:=H.here;rw[aWr hu h1];have:es.size=L.length:=by rw[←Array.length_toList,h2];simp[aBr]
 rw[this,jJ]
end
section
variable{P:Program}{h:PH}{t t' t2 e:TypeId}
def lA(b:UInt8):List Value:=[.int .u8 b.toNat]
def lA.rows(l:List UInt8):Rows 1 (l.map lA):=λr hr=>by
 obtain⟨m,_,rfl⟩:=rS.1 hr;rfl
def lA.isCell(l:List UInt8):∀r∈l.map lA,∀u∈r,gN u=true:=λr hr u hu=>by
 obtain⟨m,_,rfl⟩:=rS.1 hr;simp only[lA,jW,zLg,or_false] at hu;subst hu;rfl
def lA.flat(l:List UInt8):(l.map lA).flatten=l.map λb=>Value.int .u8 b.toNat:=by
 induction l with
 | nil=>rfl
 | cons b bs ih=>simp[lA,ih]
def aMI{body:Value->ByteArray->Sem (ForInStep ByteArray)}(hb:∀(b:UInt8) (s:ByteArray),body (.int .u8 b.toNat) s=pure (.yield (s.push b))):∀(l:List UInt8) (s:ByteArray),
  dH P h (forIn (l.map λb=>Value.int .u8 b.toNat) s body)=some ⟨s.data++l.toArray⟩
 | [],s=>by simp[dH,pure]
 | b::bs,s=>by
  rw[jF,List.forIn_cons,jG,hb];show dH P h (forIn (bs.map _) (s.push b) body)=_;rw[aMI hb bs (s.push b)];congr 1;apply ByteArray.ext;show(s.push b).data++bs.toArray=_;rw[ByteArray.data_push];apply zLw;simp
def aFm{x:Value}{l:List UInt8}(hu:P.underlying t=some (.slice e))(he:P.underlying e=some (.int .u8))(hs:P.underlying t2=some .string)(S:jE h 1 x (l.map lA)):
  dH P h (convert t t2 x)=some (.string ⟨l.toArray⟩):=by
 have hf:=S.first (P:=P);obtain⟨a,c,rfl,h1,h2,h3,h4⟩:=S.here;show dH P h (underlying t >>= _)=_;rw[kN hu];show dH P h (underlying t2 >>= _)=_;rw[kN hs];show dH P h (underlying e >>= _)=_;rw[kN he];simp only[jJ,lA.flat] at hf ⊢;show dH P h (Conv.bytesToString (.slice a l.length c))=_;unfold Conv.bytesToString;cases a with
 | none=>
  have:l=[]:=by
   by_cases h0:l=[]
   ·exact h0
   ·obtain⟨b,o,cs,e,fr,hh,_⟩:=h3 (by simpa using h0);cases hh
  subst this;rfl
 | some a=>
  have hf':dH P h (loadCells a l.length)=some (l.map λb=>Value.int .u8 b.toNat).toArray:=by
   have:Builtin.firstCells 1 l.length (.slice (some a) l.length c)=loadCells a (l.length*1):=rfl;rw[this,Nat.mul_one] at hf;exact hf
  show dH P h (loadCells a l.length >>= _)=_;rw[jG,hf',aAR];rw[jG,←Array.forIn_toList,aMI]
  ·rw[aAR];show some (Value.string _)=_;congr 2;apply ByteArray.ext;simp
  ·intro b s;simp
def jE.fields{size:Nat}{v:Value}{rows:List (List Value)}(H:jE h size v rows){i:TypeInfo}(hu:P.underlying t=some (.slice e))(hi:P.info? e=some i)(hn:i.size=size){k:IntKind}{j:Nat}{r:List Value}(hr:rows[j]? =some r):
  ∃b o,dE P (indexAt t v (.int k j))=some (pT b o)∧(∀q c,r[q]? =some c->eA h ⟨b,o+q,none⟩=some c)∧∀d,P.underlying e=some d->aEf d=false->dH P h (loadAt e (pT b o))=some (.agg r.toArray):=by
 obtain⟨b,o,cs,e',fr,h1,hb,hle,hex⟩:=H.at hu hi hn (k:=k) (j:=(j:Int)) (by omega) hr;refine⟨b,o,h1,λq c hq=>?_,λd he hd=>?_⟩
 ·have hql:q<size:=by
   have:=(zLA.1 hq).1
   rwa [H.ok r (wE hr)] at this
  unfold eA;simp only[hb];rw[←hex] at hq;simp only[zLD,zLx,aCw,aEv,aJ4,hql,if_true] at hq;simpa using hq
 ·rw[aAv he hd hi hn hb hle];congr 2;exact zLw hex
end
section
variable{P:Program}{h:PH}{t e:TypeId}
def aQm{α β:Type}{fs:List α}{s0 s1:β}{body:α->β->Sem (ForInStep β)}(g:α->Bool)
  (hb:∀f∈fs,dH P h (body f s0)=some (if g f then .yield s0 else .done s1)):dH P h (forIn fs s0 body)=some (if fs.all g then s0 else s1):=by
 induction fs with
 | nil=>rfl
 | cons f fs ih=>
  rw[List.forIn_cons,jG,hb f (by simp)];cases hg:g f with
  | true=>simp only[if_true,aAR,List.all_cons,hg,zLo];exact ih λx hx=>hb x (by simp[hx])
  | false=>simp[List.all_cons,hg,dH,pure]
def aNW{d n size:Nat}{xs ys:Array Value}{i:TypeInfo}(hu:P.underlying t=some (.array n e))(hi:P.info? e=some i)(hn:i.size=size)(g:Nat->Bool)
  (hf:∀j,j<n->∃a b,dH P h (part e xs (j*size))=some a∧dH P h (part e ys (j*size))=some b∧dH P h (Op.equalIn d e a b)=some (g j)):
  dH P h (Op.equalIn (d+1) t (.agg xs) (.agg ys))=some ((List.range n).all g):=by
 rw[Op.equalIn,kN hu];simp only[lY,yU hi,hn];simp only[Std.Legacy.Range.forIn_eq_forIn_range',Std.Legacy.Range.size,Nat.sub_zero,Nat.add_sub_cancel,Nat.div_one];rw[jG,←List.range_eq_range',aQm (s1:=⟨some false,()⟩) g]
 ·cases hx:(List.range n).all g<;>simp[dH,pure]
 ·intro j hj;obtain⟨a,b,ha,hb,hab⟩:=hf j (aHY.1 hj);rw[jG,ha,aAR,jG,hb,aAR,jG,hab,aAR];cases g j<;>rfl
def uI{b o n len:Nat}{k:IntKind}{j:Int}{i:TypeInfo}(hu:P.underlying t=some (.array len e))(hi:P.info? e=some i)(hn:i.size=n)(h0:0≤j)(h1:j<len):
  dE P (indexAt t (pT b o) (.int k j))=some (pT b (o+j.toNat*n)):=by
 show dE P (underlying t >>= _)=_;rw[zL hu];show dE P (underlying t >>= _)=_;rw[zL hu];simp only[h0,h1,and_self,if_true];rw[lY,aK7 hi,hn,lV];rfl
end
abbrev Tx:=List UInt8
def tx(l:List UInt8):ByteArray:=⟨l.toArray⟩
def aWx(s:ByteArray):tx s.data.toList=s:=by cases s;simp[tx]
def mF(l:List UInt8):(tx l).size=l.length:=by simp[tx,ByteArray.size]
def aXG:tx []=⟨#[]⟩:=rfl
def aUJ(a b:List UInt8):tx a++tx b=tx (a++b):=by
 apply ByteArray.ext;rw[ByteArray.data_append];simp[tx]
section
variable{P:Program}{h:PH}{t t' t2 e:TypeId}
def kZ{a b:List UInt8}(hs:a.length+b.length≤9223372036854775807):dE P (binOp .add t (.string (tx a)) (.string (tx b)))=some (.string (tx (a++b))):=by
 show dE P (Op.stringOp .add (tx a) (tx b))=_;have:¬(((tx a).size+(tx b).size:Nat):Int)>IntKind.i64.max:=by
  rw[mF,mF];have:IntKind.i64.max=9223372036854775807:=rfl;omega
 simp only[Op.stringOp,this,if_false];rw[aUJ];rfl
def lE{l:List UInt8}{i j:Nat}{lo hi:Option Value}(hu:P.underlying t=some .string)(hlo:lo=none∧i=0∨∃k,lo=some (.int k i))(hhi:hi=none∧j=l.length∨∃k,hi=some (.int k j))(h1:i≤j)(h2:j≤l.length):
  dE P (Instr.sliceAt t (.string (tx l)) lo hi none)=some (.string (tx ((l.take j).drop i))):=by
 show dE P (underlying t >>= _)=_;rw[zL hu];show dE P (underlying t >>= _)=_;rw[zL hu];have hb:Instr.sliceBounds false (tx l).size (tx l).size lo hi none=pure (i,j,(tx l).size):=by
  have hcast:∀n m:Nat,n≤m->(0≤(n:Int)∧(n:Int)≤(m:Int)):=λn m h=>by omega
  rw[mF];rcases hlo with⟨rfl,rfl⟩|⟨k,rfl⟩<;>rcases hhi with⟨rfl,rfl⟩|⟨k',rfl⟩ <;>
   simp[Instr.sliceBounds,Instr.sliceBound,asIntOf,hcast,h1,h2]
 simp only[hb,pure_bind,zLv,zLs,if_false];show some (Value.string ((tx l).extract i j))=_;congr 2;apply ByteArray.ext;apply zLw;rw[ByteArray.data_extract];simp[tx,zLx,zLy]
def oZ{l:List UInt8}{k:IntKind}{j:Nat}{b:UInt8}(hu:P.underlying t=some .string)(hb:l[j]? =some b):dE P (Instr.index t (.string (tx l)) (.int k j))=some (.int .u8 b.toNat):=by
 show dE P (underlying t >>= _)=_;rw[zL hu];have h0:(0:Int)≤(j:Int):=by omega
 simp only[h0,if_true,xZ];have:(tx l)[j]? =some b:=by
  obtain⟨hlt,rfl⟩:=zLA.1 hb;have hs:j<(tx l).size:=by rw[mF];exact hlt
  rw[getElem?_pos (tx l) j hs];congr 1
 rw[this];rfl
def aUl{l:List UInt8}(hu:P.underlying t=some .string)(hu2:P.underlying t2=some (.slice e))(he:P.underlying e=some (.int .u8))(hl:l.length≤140737488355328){k:dI}
  (hk:∀v h',jE h' 1 v (l.map lA)->eM h h'->k v h'):dT P (convert t t2 (.string (tx l))) h k:=by
 show dT P (underlying t >>= _) h k;rw[tJ hu];show dT P (underlying t2 >>= _) h k;rw[tJ hu2];show dT P (underlying e >>= _) h k;rw[tJ he];show dT P (choose (.appendCap (tx l).size 0 e) >>= _) h k;rw[aBF];intro tt;have hforced:(Question.appendCap (tx l).size 0 e).forced=false:=rfl;rw[hforced];have hcut:(tx l).size≤(Question.appendCap (tx l).size 0 e).cut tt∧(Question.appendCap (tx l).size 0 e).cut tt≤xS:=by
  rw[mF];have hpos:0<2^63-l.length:=by omega
  have:=zLB tt hpos;simp only[Question.cut,xS];omega
 simp only[zLs,if_false];generalize (Question.appendCap (tx l).size 0 e).cut tt=cap at *;obtain⟨c1,c2⟩:=hcut;intro r hr;generalize hcs:((tx l).data.map λb=>Value.int .u8 b.toNat)++Array.replicate (cap-(tx l).size) (.int .u8 0)=cs;have hsz:cs.size=cap:=by rw[←hcs];simp[tx,ByteArray.size] at *;omega
 have u1:eM h (h.set r (.cells cs e)):=eH.new hr;show dT P (markStringish ⟨r,0,none⟩ >>= λ_=>pure (Value.slice (some ⟨r,0,none⟩) (tx l).size cap)) (h.set r (.cells cs e)) k;unfold markStringish;have hshape:kE (h.set r (.cells cs e)) r=some (some (e,cs.size)):=by unfold kE;rw[gB]
 show ∃s,kE (h.set r (.cells cs e)) r=some s∧_;refine⟨_,hshape,?_⟩;show(∃o,(h.set r (.cells cs e)) r=some o)∧_;refine⟨⟨_,gB⟩,?_⟩;show k (.slice (some ⟨r,0,none⟩) (tx l).size cap) (nC (h.set r (.cells cs e)) ⟨r,cs.size,none⟩ 1);have hf:nC (h.set r (.cells cs e)) ⟨r,cs.size,none⟩ 1=h.set r (.cells cs e (cs.size,cs.size+1)):=by
  funext b;unfold nC PH.set;simp only[Nat.one_ne_zero,if_false];by_cases hb:b=r
  ·subst hb;simp
  ·simp[hb]
 rw[hf];refine hk _ _ ⟨lA.rows _,some ⟨r,0,none⟩,cap,by rw[mF,jJ],by rw[jJ,←mF];exact c1,c2,λ_=>⟨r,0,cs,e,_,rfl,gB,?_,?_⟩,trivial⟩ (eH.new hr)
 ·rw[jJ,hsz,←mF];omega
 ·rw[lA.flat,jJ];have e1:cs.toList=(l.map λb=>Value.int .u8 b.toNat)++List.replicate (cap-(tx l).size) (.int .u8 0):=by rw[←hcs];simp[tx]
  rw[zLD,zLx,e1];simp
def aNY{bytes:Nat}{v:Value}{rows:List (List Value)}{l:List UInt8}{F:List Nat}{i:TypeInfo}{z:Value}{k:dI}
  (hu:P.underlying t=some (.slice e)) (hu2:P.underlying t2=some .string) (hi:P.info? e=some i) (hn:i.size=1) (hby:i.bytes=bytes) (hz:i.zero=some z) (hzs:z.cells.size=1) (hb0:0<bytes)
  (H:fY h e 1 v rows F) (hl:(rows.length+l.length)*bytes≤140737488355328)
  (hk:∀v' h' F',fY h' e 1 v' (rows++l.map lA) F'->eH F h h'->(∀b∈F',b∈F∨h b=none)->aLl v≤aLl v'->k v' h'):dT P (Builtin.append_ #[t,t2] t' #[v,.string (tx l)]) h k:=by
 generalize hys:l.map lA=ys at *;have hyl:ys.length=l.length:=by rw[←hys,jJ]
 have hSok:Rows 1 ys:=by rw[←hys];exact lA.rows l
 have hcell:∀r∈ys,∀u∈r,gN u=true:=by rw[←hys];exact lA.isCell l
 rw[←hyl] at hl;have hfirst:dH P h (Builtin.firstCells 1 ys.length (.string (tx l)))=some ys.flatten.toArray:=by
  show some (((tx l).extract 0 ys.length).data.map λb=>Value.int .u8 b.toNat)=_;rw[hyl,←hys,lA.flat];congr 1;apply zLw;rw[ByteArray.data_extract];simp[tx,zLx]
 have hbig:rows.length+ys.length≤140737488355328:=zLE (Nat.le_mul_of_pos_right _ hb0) hl;have hrows:Rows 1 (rows++ys):=H.ok.append hSok;have hflat:∀u∈ys.flatten,gN u=true:=λu hu=>by
  obtain⟨r,hr,hur⟩:=List.mem_flatten.1 hu;exact hcell r hr u hur
 -- a new block
 have grown:∀(m:Nat),rows.length+ys.length≤m->m≤xS->aLl v≤m->∀r,h r=none->
   k (.slice (some ⟨r,0,none⟩) (rows.length+ys.length) m) (h.set r (.cells (rows.flatten.toArray++ys.flatten.toArray++Builtin.zeroCells z.cells (m-(rows.length+ys.length))) e (0,0))):=by
  intro m hm hmax hcapv r hr;refine hk _ _ [r] ⟨hrows,.inr ⟨r,m,_,by rw[kO],rfl,gB,by simpa using hm,hmax,?_,?_⟩⟩ (eH.new hr) (λb hb=>.inr (by simp at hb;subst hb;exact hr)) hcapv
  ·simp only[Array.size_append,List.size_toArray,H.ok.flat,hSok.flat,Builtin.zeroCells,Array.size_map,Array.size_range,hzs];rw[←zLF,←zLF];congr 1;omega
  ·have hlen:(rows++ys).length*1=(rows.flatten++ys.flatten).length:=by rw[kO,kO,H.ok.flat,hSok.flat,zLF]
   simp only[Array.toList_append,hlen,zLG];rw[zLH (nQ _),zLJ]
 obtain⟨va,vc,hv,hv1,hv2,_,_⟩:=H.slR.here;have hvfirst:=H.slR.first (P:=P);subst hv;simp only[Builtin.append_,List.getElem?_toArray,zLK,zLL,tJ hu,tJ hu2,lY,rU hi,pure_bind,zLs,if_false,Builtin.lenOf,Bool.not_false,if_true,hn,mF,←hyl];by_cases hfit:rows.length+ys.length≤vc
 ·rw[if_pos hfit];refine iY hfirst ?_;rcases H.here with⟨hv',hr,hF⟩|⟨b,cap,cs,hv',hF,hb,hle,hcap,hcs,htake⟩
  ·subst hr;simp only[lU,Value.slice.injEq,true_and] at hv';obtain⟨rfl,rfl⟩:=hv';have hy:ys=[]:=zLN (by omega);subst hy;exact hk _ _ [] (by simpa using fY.nil) eH.refl (by simp) (nQ _)
  ·simp only[Value.slice.injEq,true_and] at hv';obtain⟨rfl,rfl⟩:=hv';have hmul:(rows.length+ys.length)*1≤vc*1:=yE _ hfit;have hadd:(⟨b,0,none⟩:Addr).add (rows.length*1)=⟨b,0+rows.length*1,none⟩:=lV ..;show dT P (storeCells ((⟨b,0,none⟩:Addr).add (rows.length*1)) ys.flatten.toArray.toList >>= λ_=>pure _) h k;rw[hadd];refine dT.bind (P:=P) (s:=storeCells _ _) ?_;refine wM _ 0 h cs hb (by simp only[hSok.flat,hcs];rw[zLF] at hmul;omega) (by simpa using hflat) ?_;show k _ _;simp only[kB,zLP];have fin:∀cs':Array Value,cs'.size=cs.size->cs'.toList.take ((rows.length+ys.length)*1)=rows.flatten++ys.flatten->∀h':PH,h' b=some (.cells cs' e (0,0))->eH F h h'->
     k (.slice (some ⟨b,0,none⟩) (rows.length+ys.length) vc) h':=by
    intro cs' hsz htk h' hb' hu';refine hk _ _ [b] ⟨hrows,.inr ⟨b,vc,cs',by rw[kO],rfl,hb',by simpa using hfit,hcap,by rw[hsz,hcs],by rw[kO,htk,zLG]⟩⟩ hu' (λb' hb'=>.inl (hF▸hb')) (nQ _)
   split
   ·rename_i hys;refine fin cs rfl ?_ h hb eH.refl;have:ys.length*1=0:=by rw[←hSok.flat,hys];rfl
    rw[zLF,this,hys,zLQ,zLP];exact htake
   ·refine fin _ (aEH _ _ _) ?_ _ gB (eH.set (by rw[hF];simp));have hlen:rows.length*1+ys.flatten.length≤cs.size:=by rw[hSok.flat,←zLF,hcs];exact hmul
    rw[aBA _ _ _ hlen,htake];have hlen2:(rows.length+ys.length)*1=(rows.flatten++ys.flatten).length:=by rw[kO,H.ok.flat,hSok.flat,zLF]
    rw[hlen2,zLH (nQ _),zLJ]
 ·rw[if_neg hfit];have hlt:vc<rows.length+ys.length:=by omega
  have h63:¬(((rows.length+ys.length:Nat):Int)>IntKind.i64.max∧(False∨i.bytes=0)):=by
   rintro⟨_,hh⟩;rcases hh with hh|hh
   ·exact hh
   ·omega
  have hfits:¬(Builtin.nextslicecap (rows.length+ys.length) vc*i.bytes>2^48):=by
   rw[hby];have:=growslice_fits hlt hl;omega
  rw[rU hi,if_neg h63,rU hi,if_neg hfits,aBF];intro tt;rw[rU hi,aIn];refine iY hvfirst (iY hfirst ?_);have hzv:zeroValue e=(typeInfo e >>= λi=>match i.zero with|some v=>pure v|none=>unsupported (.resourceLimit "a value of more than 2^22 cells")):=rfl;rw[hzv,bind_assoc,rU hi,hz,pure_bind];have hcut:∀n m:Nat,n≤140737488355328->n≤(Question.appendCap n m e).cut tt∧(Question.appendCap n m e).cut tt≤xS:=by
   intro n m hn;have hpos:0<2^63-n:=by omega
   have:=zLB tt hpos;simp only[Question.cut,xS];omega
  have hforced:(Question.appendCap (rows.length+ys.length) vc e).forced=false:=rfl;rw[hforced];obtain⟨hc1,hc2⟩:=hcut (rows.length+ys.length) vc hbig;intro r hr;exact grown _ hc1 hc2 (show vc≤_ by omega) r hr
end
def aP1{α:Type}{p:List α->Prop}(h0:p [])(hs:∀l a,p l->p (l++[a]))(l:List α):p l:=by
 rw[←List.reverse_reverse l];induction l.reverse with
 | nil=>exact h0
 | cons a l ih=>rw[List.reverse_cons];exact hs _ _ ih
def mJ(l:List UInt8):Nat:=l.foldl (λa b=>a*256+b.toNat) 0
def aKZ(l:List UInt8)(b:UInt8):mJ (l++[b])=mJ l*256+b.toNat:=by simp[mJ]
def be(n:Nat):Nat->List UInt8
 | 0=>[]
 | k+1=>be (n/256) k++[UInt8.ofNat (n%256)]
def iZ(n k:Nat):(be n k).length=k:=by
 induction k generalizing n with
 | zero=>rfl
 | succ k ih=>simp[be,ih]
def aXc(n k:Nat):mJ (be n k)=n%256^k:=by
 induction k generalizing n with
 | zero=>simp[be,mJ];omega
 | succ k ih=>
  rw[be,aKZ,ih];have:(UInt8.ofNat (n%256)).toNat=n%256:=by simp
  rw[this,Nat.pow_succ,Nat.mul_comm (256^k) 256,Nat.mod_mul];omega
def aJm(l:List UInt8):mJ l<256^l.length:=by
 refine aP1 (p:=λl=>mJ l<256^l.length) (by simp[mJ]) (λl b ih=>?_) l
 ·rw[aKZ,kO,List.length_singleton,Nat.pow_succ];have:=b.toNat_lt;have:mJ l+1≤256^l.length:=ih;have h2:(mJ l+1)*256≤256^l.length*256:=yE _ this;omega
def aPS(n:Nat):∀(k i:Nat),i<k->(be n k)[i]? =some (UInt8.ofNat (n/256^(k-1-i)%256))
 | 0,i,h=>by omega
 | k+1,i,h=>by
  rw[be,List.getElem?_append,iZ];by_cases hi:i<k
  ·rw[if_pos hi,aPS (n/256) k i hi,Nat.div_div_eq_div_mul,show k+1-1-i=(k-1-i)+1 by omega,Nat.pow_succ,Nat.mul_comm 256]
  ·have:i=k:=by omega
   subst this;simp
def aPW{n k i:Nat}(hi:i<k):(be n k).take (i+1)=(be n k).take i++[UInt8.ofNat (n/256^(k-1-i)%256)]:=by
 rw[zLR,aPS n k i hi];rfl
def aX0(l:List UInt8):be (mJ l) l.length=l:=by
 refine aP1 (p:=λl=>be (mJ l) l.length=l) rfl (λl b ih=>?_) l
 ·rw[kO,List.length_singleton,be,aKZ];have:=b.toNat_lt;have e1:(mJ l*256+b.toNat)/256=mJ l:=by omega
  have e2:(mJ l*256+b.toNat)%256=b.toNat:=by omega
  rw[e1,e2,ih];simp
structure Bx(h:PH)(r:Nat)(cs:List Value):Prop where
 here:∃e,h r=some (.cells cs.toArray e (0,0))
def Bx.upd{h h':PH}{r:Nat}{cs:List Value}{G:List Nat}(H:Bx h r cs)(u:eH G h h')(hr:r∉G):Bx h' r cs:=by
 obtain⟨e,h1⟩:=H;exact⟨e,u.get h1 hr⟩
def Bx.ext{h h':PH}{r:Nat}{cs:List Value}(H:Bx h r cs)(u:eM h h'):Bx h' r cs:=H.upd u (by simp)
def Bx.new{h:PH}{r:Nat}{cs:List Value}{e:TypeId}:Bx (h.set r (.cells cs.toArray e (0,0))) r cs:=⟨e,gB⟩
def Bx.cell{h:PH}{r:Nat}{cs:List Value}(H:Bx h r cs)(o:Nat):eA h ⟨r,o,none⟩=cs[o]?:=by
 obtain⟨e,h1⟩:=H;simp[eA,h1]
def Bx.known{h:PH}{r:Nat}{cs:List Value}(H:Bx h r cs):h r≠none:=by
 obtain⟨e,h1⟩:=H;rw[h1];simp
def Bx.apart{h:PH}{r x:Nat}{cs:List Value}(H:Bx h r cs)(hx:h x=none):r≠x:=λe=>H.known (e▸hx)
section
variable{P:Program}{h:PH}{t:TypeId}
def Bx.agg{r n o:Nat}{cs:List Value}(H:Bx h r cs){d:TypeDesc}{i:TypeInfo}(hu:P.underlying t=some d)(hd:aEf d=false)(hi:P.info? t=some i)(hn:i.size=n)(hle:o+n≤cs.length):
  dH P h (loadAt t (pT r o))=some (.agg ((cs.drop o).take n).toArray):=by
 obtain⟨e,h1⟩:=H;rw[aAv hu hd hi hn h1 (by simpa using hle)];congr 2;simp[zLy]
def Bx.put1{r o:Nat}{cs:List Value}(H:Bx h r cs){d:TypeDesc}{i:TypeInfo}(hu:P.underlying t=some d)(hd:aEf d=true)(hi:P.info? t=some i)(hn:i.size=1){v:Value}(ho:o<cs.length)(hv:gN v=true){k:dI}
  (hk:∀h',Bx h' r (cs.set o v)->eH [r] h h'->k undef h'):dT P (dX t (pT r o) v) h k:=by
 obtain⟨e,h1⟩:=H;refine lX hu hd h1 (by simpa using ho) hv hi hn ?_;refine hk _ ⟨e,?_⟩ (eH.set (by simp));rw[gB];simp
def Bx.putN{r o:Nat}{cs vs:List Value}(H:Bx h r cs){i:TypeInfo}(hi:P.info? t=some i)(hn:i.size=vs.length)(h0:0<vs.length)(ho:o+vs.length≤cs.length)(hv:∀v∈vs,gN v=true){k:dI}
  (hk:∀h',Bx h' r (cs.take o++vs++cs.drop (o+vs.length))->eH [r] h h'->k undef h'):dT P (dX t (pT r o) (.agg vs.toArray)) h k:=by
 obtain⟨e,h1⟩:=H;refine aOQ h1 hi (by simpa using hn) (by simpa using h0) (by simpa using ho) (by simpa using hv) ?_;refine hk _ ⟨e,?_⟩ (eH.set (by simp));rw[gB];congr 2;apply zLw;have:=aBA vs cs.toArray o (by simpa using ho);simpa using this
def Bx.fill{r:Nat}{vs:List Value}{i:TypeInfo}(hr:h r=none)(hi:P.info? t=some i)(hn:i.size=vs.length)(h0:0<vs.length)(hz:(eX P t).size=vs.length)(hv:∀v∈vs,gN v=true){k:dI}
  (hk:∀h',Bx h' r vs->eM h h'->k undef h'):dT P (dX t (pT r 0) (.agg vs.toArray)) (h.set r (.cells (eX P t) t)) k:=by
 refine aHL gB hi (by simpa using hn) (by simpa using h0) (by simpa using hz) (by simpa using hv) ?_;rw[aDb];exact hk _ ⟨_,gB⟩ (eH.new hr)
def Bx.fill1{r:Nat}{v:Value}{d:TypeDesc}{i:TypeInfo}(hr:h r=none)(hu:P.underlying t=some d)(hd:aEf d=true)(hi:P.info? t=some i)(hn:i.size=1)(hz:(eX P t).size=1)(hv:gN v=true){k:dI}
  (hk:∀h',Bx h' r [v]->eM h h'->k undef h'):dT P (dX t (pT r 0) v) (h.set r (.cells (eX P t) t)) k:=by
 refine lX hu hd gB (by omega) hv hi hn ?_;rw[aDb];refine hk _ ⟨t,?_⟩ (eH.new hr);rw[gB];congr 2;apply zLw
 match eX P t,hz with
 | ⟨[x]⟩,_=>rfl
def Bx.zero{r:Nat}{cs:List Value}(hz:eX P t=cs.toArray):Bx (h.set r (.cells (eX P t) t)) r cs:=by rw[hz];exact Bx.new
end
def jE.isc{h:PH}{n:Nat}{v:Value}{rows:List (List Value)}(S:jE h n v rows):gN v=true:=by obtain⟨_,_,e,_⟩:=S.here;rw[e];rfl
def jE.upd0{h h':PH}{size:Nat}{v:Value}{rows:List (List Value)}{G:List Nat}(H:jE h size v rows)(u:eH G h h')(hd:rows≠[]->∀a n c,v= .slice (some a) n c->a.block∉G):jE h' size v rows:=by
 refine⟨H.ok,?_⟩;obtain⟨a,c,hv,h1,h2,h3,h4⟩:=H.here;refine⟨a,c,hv,h1,h2,λhne=>?_,h4⟩;obtain⟨b,o,cs,e,fr,ha,hb,hrest⟩:=h3 hne;exact⟨b,o,cs,e,fr,ha,u.get hb (hd hne ⟨b,o,none⟩ _ _ (ha▸hv)),hrest⟩
def jE.known{h:PH}{size:Nat}{v:Value}{rows:List (List Value)}(H:jE h size v rows)(hne:rows≠[]){x:Addr}{n c:Nat}(e:v= .slice (some x) n c):h x.block≠none:=by
 obtain⟨a,c',hv,h1,h2,h3,h4⟩:=H.here;obtain⟨b,o,cs,e',fr,ha,hb,_⟩:=h3 hne;rw[hv,ha] at e;simp only[Value.slice.injEq,zL4] at e;rw[←e.1,hb];simp
end
end Go.Proofs.YtiohehjhlghikaaGreatDoor
