/- The texts of this claim, put together. -/
import Derived.Calls
import Derived.Scope
import Derived.Orders
import Derived.RangeFuncLeaves
import Derived.RangeFuncRecord
import Derived.OrdersIn
import Derived.Laws.Sem
import Derived.Laws.Append
import Derived.IntWalk
import Derived.Test.YtiohehjhlghikaaGreatDoorRows
import Derived.ReadAgain
import Derived.ChangeReads
import Derived.ChangeBears
import Derived.RowKit3
import Derived.ChangeSame
import Derived.OpenShut
import Derived.Deep.Slices
import Derived.LaidMore
import Derived.Stop.Joined
import Derived.SevenTiedAt
import Derived.Laws.Strings
set_option linter.all false
set_option maxRecDepth 100000
open Go.Instr (loadAt fieldAt indexAt extract buildSlice build)
namespace Go.Proofs.YtiohehjhlghikaaGreatDoor
section
open Go
def zLa:type_of% @List.drop_succ_cons.{0}:= @List.drop_succ_cons
def zLb:type_of% @List.drop_zero.{0}:= @List.drop_zero
def zLc:type_of% @List.take_succ_cons.{0}:= @List.take_succ_cons
def zLd:type_of% @List.take_zero.{0}:= @List.take_zero
def kP:type_of% @List.cons.injEq.{0}:= @List.cons.injEq
def iM:type_of% @List.mem_cons.{0}:= @List.mem_cons
def zLg:type_of% @List.not_mem_nil.{0}:= @List.not_mem_nil
def iP:type_of% @Nat.zero_add:= @Nat.zero_add
def hM:type_of% @List.map_cons.{0,0}:= @List.map_cons
def jA:type_of% @List.map_nil.{0,0}:= @List.map_nil
def xA:type_of% @List.mem_append.{0}:= @List.mem_append
def xE:type_of% @Bool.eq_iff_iff:= @Bool.eq_iff_iff
def zLm:type_of% @Int.eq_ofNat_of_zero_le:= @Int.eq_ofNat_of_zero_le
def zLn:type_of% @Bool.false_and:= @Bool.false_and
def zLo:type_of% @Bool.true_and:= @Bool.true_and
def jK:type_of% @List.length_append.{0}:= @List.length_append
def iN:type_of% @List.length_cons.{0}:= @List.length_cons
def zLr:type_of% @List.filter_cons.{0}:= @List.filter_cons
def zLs:type_of% @Bool.false_eq_true:= @Bool.false_eq_true
def zLt:type_of% @List.foldl_cons.{0,0}:= @List.foldl_cons
def zLu:type_of% @Int.toNat_of_nonneg:= @Int.toNat_of_nonneg
def zLv:type_of% @Option.isSome_none.{0}:= @Option.isSome_none
def zLw:type_of% @Array.ext'.{0}:= @Array.ext'
def zLx:type_of% @List.extract_eq_take_drop.{0}:= @List.extract_eq_take_drop
def zLy:type_of% @List.drop_take.{0}:= @List.drop_take
def wU:type_of% @Int.toNat_natCast:= @Int.toNat_natCast
def zLA:type_of% @List.getElem?_eq_some_iff.{0}:= @List.getElem?_eq_some_iff
def zLB:type_of% @Nat.mod_lt:= @Nat.mod_lt
def iF:type_of% @List.length_map.{0,0}:= @List.length_map
def zLD:type_of% @Array.toList_extract.{0}:= @Array.toList_extract
def zLE:type_of% @Nat.le_trans:= @Nat.le_trans
def zLF:type_of% @Nat.add_mul:= @Nat.add_mul
def zLG:type_of% @List.flatten_append.{0}:= @List.flatten_append
def zLH:type_of% @List.take_append_of_le_length.{0}:= @List.take_append_of_le_length
def mS:type_of% @Nat.le_refl:= @Nat.le_refl
def zLJ:type_of% @List.take_length.{0}:= @List.take_length
def zLK:type_of% @List.getElem?_cons_zero.{0}:= @List.getElem?_cons_zero
def zLL:type_of% @List.getElem?_cons_succ.{0}:= @List.getElem?_cons_succ
def kW:type_of% @List.length_nil.{0}:= @List.length_nil
def zLN:type_of% @List.eq_nil_of_length_eq_zero.{0}:= @List.eq_nil_of_length_eq_zero
def zLO:type_of% @Nat.mul_le_mul_right:= @Nat.mul_le_mul_right
def zLP:type_of% @Nat.add_zero:= @Nat.add_zero
def zLQ:type_of% @List.append_nil.{0}:= @List.append_nil
def zLR:type_of% @List.take_add_one.{0}:= @List.take_add_one
def rZ:type_of% @Bool.and_eq_true:= @Bool.and_eq_true
def zLT:type_of% @List.cons_append.{0}:= @List.cons_append
def zLU:type_of% @List.nil_append.{0}:= @List.nil_append
def iI:type_of% @List.mem_singleton.{0}:= @List.mem_singleton
def wV:type_of% @List.getElem?_map.{0,0}:= @List.getElem?_map
def kV:type_of% @List.getElem?_eq_getElem.{0}:= @List.getElem?_eq_getElem
def zLY:type_of% @List.mem_filter.{0}:= @List.mem_filter
def zLZ:type_of% @List.map_map.{0,0,0}:= @List.map_map
def zL0:type_of% @List.map_congr_left.{0,0}:= @List.map_congr_left
def pQ:type_of% @List.mem_map.{0,0}:= @List.mem_map
def wA:type_of% @List.map_append.{0,0}:= @List.map_append
def zL3:type_of% @List.mem_map_of_mem.{0,0}:= @List.mem_map_of_mem
def zL4:type_of% @Option.some.injEq.{0}:= @Option.some.injEq
def mH:type_of% @List.length_take.{0}:= @List.length_take
def zL6:type_of% @List.take_append_drop.{0}:= @List.take_append_drop
def zL7:type_of% @List.take_succ_eq_append_getElem.{0}:= @List.take_succ_eq_append_getElem
def uV:type_of% @List.append_assoc.{0}:= @List.append_assoc
def rN:type_of% @List.take_of_length_le.{0}:= @List.take_of_length_le
def aAr:type_of% @List.drop_of_length_le.{0}:= @List.drop_of_length_le
def aIn:type_of% @Nat.mod_eq_of_lt:= @Nat.mod_eq_of_lt
def aAB:type_of% @List.mem_of_getElem?.{0}:= @List.mem_of_getElem?
def aI1:type_of% @List.all_eq_true.{0}:= @List.all_eq_true
def jE:type_of% @List.length_drop.{0}:= @List.length_drop
def aIA:type_of% @Bool.and_false:= @Bool.and_false
def aGG:type_of% @List.length_replicate.{0}:= @List.length_replicate
def aKz:type_of% @Option.isNone_some.{0}:= @Option.isNone_some
def aEV:type_of% @List.getElem?_take.{0}:= @List.getElem?_take
def aGW:type_of% @Nat.min_eq_left:= @Nat.min_eq_left
def aMP:type_of% @List.mem_cons_self.{0}:= @List.mem_cons_self
def aDr:type_of% @List.flatten_cons.{0}:= @List.flatten_cons
def lA:type_of% @Nat.zero_le:= @Nat.zero_le
def aId:type_of% @List.length_pos_iff.{0}:= @List.length_pos_iff
def aA3:type_of% @List.drop_eq_getElem_cons.{0}:= @List.drop_eq_getElem_cons
def aB0:type_of% @Nat.add_sub_cancel_left:= @Nat.add_sub_cancel_left
def pN:type_of% @List.drop_drop.{0}:= @List.drop_drop
def aJZ:type_of% @Option.map_some.{0,0}:= @Option.map_some
def aMh:type_of% @Option.isSome_some.{0}:= @Option.isSome_some
def yF:type_of% @Option.bind_some.{0,0}:= @Option.bind_some
def aH8:type_of% @List.take_take.{0}:= @List.take_take
def aDm:type_of% @List.getD_eq_getElem?_getD.{0}:= @List.getD_eq_getElem?_getD
def aJq:type_of% @List.getElem?_drop.{0}:= @List.getElem?_drop
def aK8:type_of% @List.ext_getElem?.{0}:= @List.ext_getElem?
def aIC:type_of% @Nat.sub_self:= @Nat.sub_self
def aJ9:type_of% @Array.getElem?_toList.{0}:= @Array.getElem?_toList
def aIu:type_of% @List.getElem_mem.{0}:= @List.getElem_mem
def aKA:type_of% @List.mem_cons_of_mem.{0}:= @List.mem_cons_of_mem
def aIk:type_of% @List.mem_of_mem_erase.{0}:= @List.mem_of_mem_erase
def aGT:type_of% @List.mem_range:= @List.mem_range
def aGP:type_of% @Option.bind_eq_some_iff.{0,0}:= @Option.bind_eq_some_iff
def aHZ:type_of% @Array.getElem?_eq_some_iff.{0}:= @Array.getElem?_eq_some_iff
def aMF:type_of% @Nat.pow_le_pow_right:= @Nat.pow_le_pow_right
def aML:type_of% @Nat.lt_of_lt_of_le:= @Nat.lt_of_lt_of_le
def aGZ:type_of% @Bool.or_eq_true:= @Bool.or_eq_true
def aFX:type_of% @List.nodup_cons.{0}:= @List.nodup_cons
def aEz:type_of% @Array.getD_eq_getD_getElem?.{0}:= @Array.getD_eq_getD_getElem?
def aIK:type_of% @List.forall_mem_map.{0,0}:= @List.forall_mem_map
def aK0:type_of% @List.filter_eq_self.{0}:= @List.filter_eq_self
@[match_pattern] abbrev pT (r o:Nat):Value:=.pointer (some ⟨r,o,none⟩)
abbrev PH:=Nat->Option Obj
abbrev cF:=Value->PH->Prop
abbrev fY:=List Value->PH->Prop
def PH.set(h:PH)(r:Nat)(o:Obj):PH:=λb=>if b=r then some o else h b
def cU(h:PH)(a:Addr):Option Value:=
 match h a.block with
 | some (.cells c _ _)=>if a.spot.isSome then none else c[a.off]?
 | _=>none
def sI(h:PH)(a:Addr):Bool:=
 match h a.block with
 | some (.cells _ _ (lo,hi))=>lo≤a.off&&a.off<hi
 | _=>false
def qG(h:PH)(a:Addr)(v:Value):PH:=λb=>
 if b=a.block then
  match h b with
  | some (.cells c e fr)=>some (.cells (if a.spot.isSome then c else c.setIfInBounds a.off v) e fr)
  | o=>o
 else h b
def lR(h:PH)(a:Addr)(n:Nat):PH:=λb=>
 if n=0 then h b else
 if b=a.block then
  match h b with
  | some (.cells c elem (lo,hi))=>some (.cells c elem (if lo==hi then(a.off,a.off+n) else(min lo a.off,max hi (a.off+n))))
  | o=>o
 else h b
def iR(h:PH)(r:Nat):Option (Option (TypeId×Nat)):=
 match h r with
 | some (.cells c elem _)=>some (some (elem,c.size))
 | some _=>some none
 | none=>none
def fH:Value->Bool
 | .agg _ | .tuple _=>false
 | _=>true
def oC(h:PH)(w:World):Prop:=∀b o,h b=some o->w.heap[b]? =some o
structure Fr(h:PH)(w:World)(h':PH)(w':World):Prop where
 os:w'.os=w.os
 tape:w'.tape=w.tape
 output:w'.output=w.output
 drawn:w.drawn≤w'.drawn
 size:w.heap.size≤w'.heap.size
 far:∀b,b<w.heap.size->h b=none->w'.heap[b]? =w.heap[b]?
 none:∀b,b<w.heap.size->h b=Option.none->h' b=Option.none
def Fr.refl(h:PH)(w:World):Fr h w h w:=⟨rfl,rfl,rfl,mS _,mS _,λ_ _ _=>rfl,λ_ _ h=>h⟩
def Fr.trans{h h1 h2:PH}{w w1 w2:World}(a:Fr h w h1 w1)(b:Fr h1 w1 h2 w2):Fr h w h2 w2:=
 ⟨b.os.trans a.os,b.tape.trans a.tape,b.output.trans a.output,zLE a.drawn b.drawn,zLE a.size b.size,
  λi hi hn=>(b.far i (aML hi a.size) (a.none i hi hn)).trans (a.far i hi hn),
  λi hi hn=>b.none i (aML hi a.size) (a.none i hi hn)⟩
def oC.lt{h:PH}{w:World}(hs:oC h w){b:Nat}{o:Obj}(hb:h b=some o):b<w.heap.size:=
 (aHZ.1 (hs b o hb)).1
def oC.fresh{h:PH}{w:World}(hs:oC h w):h w.heap.size=none:=by
 cases hb:h w.heap.size with
 | none=>rfl
 | some o=>exact absurd (hs.lt hb) (Nat.lt_irrefl _)
def cM(P:Program){α:Type}:Sem α->PH->(α->PH->Prop)->Prop
 | .pure a,h,Q=>Q a h
 | .load _ a k,h,Q=>∃v,cU h a=some v∧cM P (k v) h Q
 | .store _ a v k,h,Q=>fH v=true∧sI h a=false∧(∃u,cU h a=some u)∧cM P k (qG h a v) Q
 | .new o k,h,Q=>∀r,h r=none->cM P (k r) (h.set r o) Q
 | .shape r k,h,Q=>∃s,iR h r=some s∧cM P (k s) h Q
 | .freeze a n k,h,Q=>(∃o,h a.block=some o)∧cM P k (lR h a n) Q
 | .frozen a k,h,Q=>(∃o,h a.block=some o)∧cM P (k (sI h a)) h Q
 | .getObj r k,h,Q=>∃o,h r=some o∧(∀c e f,o≠ .cells c e f)∧cM P (k o) h Q
 | .setObj r o k,h,Q=>(∃u,h r=some u∧(∀c e f,u≠ .cells c e f))∧cM P k (h.set r o) Q
 | .choose q k,h,Q=>∀t,cM P (k (if q.forced then 0 else q.cut t)) h Q
 | .sys _ _,_,_=>False
 | .program k,h,Q=>cM P (k P) h Q
 | .mark _ k,h,Q=>cM P k h Q
 | .halt _,_,_=>False
def cB(P:Program){α:Type}(h:PH):Sem α->Option α
 | .pure a=>some a
 | .load _ a k=>(cU h a).bind λv=>cB P h (k v)
 | .shape r k=>(iR h r).bind λs=>cB P h (k s)
 | .frozen a k=>(h a.block).bind λ_=>cB P h (k (sI h a))
 | .program k=>cB P h (k P)
 | .mark _ k=>cB P h k
 | .getObj r k=>match h r with
  | some (.cells ..)=>none
  | some o=>cB P h (k o)
  | none=>none
 | _=>none
def cC(P:Program){α:Type}:Sem α->Option α
 | .pure a=>some a
 | .program k=>cC P (k P)
 | .mark _ k=>cC P k
 | _=>none
def cM.mono{P:Program}{α:Type}{s:Sem α}:∀{h:PH} {Q Q':α->PH->Prop},cM P s h Q->(∀a h,Q a h->Q' a h)->cM P s h Q':=by
 induction s with
 | pure a=>intro h Q Q' hh hq;exact hq _ _ hh
 | load m a k ih=>rintro h Q Q' ⟨v,hv,hh⟩ hq;exact⟨v,hv,ih v hh hq⟩
 | store m a v k ih=>rintro h Q Q' ⟨h1,h2,h3,hh⟩ hq;exact⟨h1,h2,h3,ih hh hq⟩
 | new o k ih=>intro h Q Q' hh hq r hr;exact ih r (hh r hr) hq
 | shape r k ih=>rintro h Q Q' ⟨v,hv,hh⟩ hq;exact⟨v,hv,ih v hh hq⟩
 | freeze a n k ih=>rintro h Q Q' ⟨h1,hh⟩ hq;exact⟨h1,ih hh hq⟩
 | frozen a k ih=>rintro h Q Q' ⟨h1,hh⟩ hq;exact⟨h1,ih _ hh hq⟩
 | getObj r k ih=>rintro h Q Q' ⟨o,ho,hc,hh⟩ hq;exact⟨o,ho,hc,ih o hh hq⟩
 | setObj r o k ih=>rintro h Q Q' ⟨h1,hh⟩ hq;exact⟨h1,ih hh hq⟩
 | choose q k ih=>intro h Q Q' hh hq t;exact ih _ (hh t) hq
 | sys c k ih=>intro h Q Q' hh;exact hh.elim
 | program k ih=>intro h Q Q' hh hq;exact ih P hh hq
 | mark m k ih=>intro h Q Q' hh hq;exact ih hh hq
 | halt x=>intro h Q Q' hh;exact hh.elim
def cM.bind{P:Program}{α β:Type}{s:Sem α}{f:α->Sem β}:∀{h:PH} {Q:β->PH->Prop},cM P s h (λa h'=>cM P (f a) h' Q)->cM P (s.bind f) h Q:=by
 induction s with
 | pure a=>intro h Q hh;exact hh
 | load m a k ih=>rintro h Q ⟨v,hv,hh⟩;exact⟨v,hv,ih v hh⟩
 | store m a v k ih=>rintro h Q ⟨h1,h2,h3,hh⟩;exact⟨h1,h2,h3,ih hh⟩
 | new o k ih=>intro h Q hh r hr;exact ih r (hh r hr)
 | shape r k ih=>rintro h Q ⟨v,hv,hh⟩;exact⟨v,hv,ih v hh⟩
 | freeze a n k ih=>rintro h Q ⟨h1,hh⟩;exact⟨h1,ih hh⟩
 | frozen a k ih=>rintro h Q ⟨h1,hh⟩;exact⟨h1,ih _ hh⟩
 | getObj r k ih=>rintro h Q ⟨o,ho,hc,hh⟩;exact⟨o,ho,hc,ih o hh⟩
 | setObj r o k ih=>rintro h Q ⟨h1,hh⟩;exact⟨h1,ih hh⟩
 | choose q k ih=>intro h Q hh t;exact ih _ (hh t)
 | sys c k ih=>intro h Q hh;exact hh.elim
 | program k ih=>intro h Q hh;exact ih P hh
 | mark m k ih=>intro h Q hh;exact ih hh
 | halt x=>intro h Q hh;exact hh.elim
def cC.semE{P:Program}{α:Type}{s:Sem α}:∀{a:α},cC P s=some a->∀h,cB P h s=some a:=by
 induction s with
 | pure a=>intro b hb h;exact hb
 | program k ih=>intro b hb h;exact ih P hb h
 | mark m k ih=>intro b hb h;exact ih hb h
 | _=>intro b hb;cases hb
def cB.semH{P:Program}{α:Type}{s:Sem α}:∀{a:α} {h:PH},cB P h s=some a->∀{Q:α->PH->Prop},Q a h->cM P s h Q:=by
 induction s with
 | pure a=>intro b h hb Q hq;simp only[cB,zL4] at hb;subst hb;exact hq
 | load m a k ih=>intro b h hb Q hq;obtain⟨v,hv,hb⟩:=aGP.1 hb;exact⟨v,hv,ih v hb hq⟩
 | shape r k ih=>intro b h hb Q hq;obtain⟨v,hv,hb⟩:=aGP.1 hb;exact⟨v,hv,ih v hb hq⟩
 | frozen a k ih=>intro b h hb Q hq;obtain⟨v,hv,hb⟩:=aGP.1 hb;exact⟨⟨v,hv⟩,ih _ hb hq⟩
 | program k ih=>intro b h hb Q hq;exact ih P hb hq
 | mark m k ih=>intro b h hb Q hq;exact ih hb hq
 | getObj r k ih=>
  intro b h hb Q hq;simp only[cB] at hb;split at hb
  ·cases hb
  ·rename_i o ho hr;exact⟨o,hr,λc e f hc=>ho c e f hc,ih o hb hq⟩
  ·cases hb
 | _=>intro b h hb;cases hb
def oC.cell{h:PH}{w:World}(hs:oC h w){a:Addr}{v:Value}(hv:cU h a=some v):w.cell? a=some v:=by
 unfold cU at hv;split at hv
 ·rename_i c e f hb;unfold World.cell?;rw[hs _ _ hb];exact hv
 ·cases hv
def oC.shape{h:PH}{w:World}(hs:oC h w){r:Nat}{s:Option (TypeId×Nat)}(hv:iR h r=some s):w.shape? r=s:=by
 unfold iR at hv;unfold World.shape?;split at hv
 ·rename_i c e f hb;rw[hs _ _ hb];simpa using hv
 ·rename_i o hne hb;rw[hs _ _ hb];simp only[zL4] at hv;subst hv;split
  ·rename_i c e f hc;simp only[zL4] at hc;subst hc;exact absurd hb (by simpa using hne c e f)
  ·rfl
 ·cases hv
def oC.frozen{h:PH}{w:World}(hs:oC h w){a:Addr}{o:Obj}(ho:h a.block=some o):w.frozen? a=sI h a:=by
 unfold World.frozen? sI;rw[hs _ _ ho,ho];cases o<;>rfl
def aND(w:World)(o:Obj)(b:Nat):({w with heap:=w.heap.push o}:World).heap[b]? =if b=w.heap.size then some o else w.heap[b]?:=by
 simp only[Array.getElem?_push]
def oC.new{h:PH}{w:World}(hs:oC h w)(o:Obj):oC (h.set w.heap.size o) {w with heap:=w.heap.push o}∧Fr h w (h.set w.heap.size o) {w with heap:=w.heap.push o}:=by
 refine⟨λb u hb=>?_,rfl,rfl,rfl,mS _,by simp,λb hb hn=>?_,λb hb hn=>?_⟩
 ·rw[aND];unfold PH.set at hb;split at hb
  ·rename_i e;rw[if_pos e];exact hb
  ·rename_i e;rw[if_neg e];exact hs b u hb
 ·rw[aND,if_neg (Nat.ne_of_lt hb)]
 ·unfold PH.set;rw[if_neg (Nat.ne_of_lt hb)];exact hn
def oC.modify{h:PH}{w:World}(hs:oC h w)(g:Nat)(f:Obj->Obj)(h':PH)(hh:∀b,h' b=if b=g then(h b).map f else h b){o:Obj}(hg:h g=some o):
  oC h' {w with heap:=w.heap.modify g f}∧Fr h w h' {w with heap:=w.heap.modify g f}:=by
 refine⟨λb u hb=>?_,rfl,rfl,rfl,mS _,by simp,λb hb hn=>?_,λb hb hn=>?_⟩
 ·rw[hh] at hb;simp only[Array.getElem?_modify];by_cases e:b=g
  ·subst e;simp only[if_true,hg,aJZ,zL4] at hb;subst hb;simp[hs _ _ hg]
  ·rw[if_neg e] at hb;rw[if_neg (Ne.symm e)];exact hs b u hb
 ·have e:g≠b:=λe=>by subst e;rw[hg] at hn;cases hn
  simp only[Array.getElem?_modify,if_neg e]
 ·rw[hh];by_cases e:b=g
  ·subst e;rw[hg] at hn;cases hn
  ·rw[if_neg e];exact hn
def aDF{h:PH}{a:Addr}{v:Value}(hv:cU h a=some v):∃c e f,h a.block=some (.cells c e f):=by
 unfold cU at hv;split at hv
 ·rename_i c e f hb;exact⟨c,e,f,hb⟩
 ·cases hv
def cM.sound{P:Program}{α:Type}{s:Sem α}:∀{h:PH} {Q:α->PH->Prop},cM P s h Q->∀{w:World},oC h w->
  ∃a w' h',s.run P w= .ok a w'∧Q a h'∧oC h' w'∧Fr h w h' w':=by
 induction s with
 | pure a=>intro h Q hh w hs;exact⟨a,w,h,rfl,hh,hs,Fr.refl _ _⟩
 | load m a k ih=>
  rintro h Q ⟨v,hv,hh⟩ w hs;obtain⟨x,w',h',hr,hrest⟩:=ih v hh hs;exact⟨x,w',h',by simp only[Sem.run,hs.cell hv];exact hr,hrest⟩
 | store m a v k ih=>
  rintro h Q ⟨h1,h2,⟨u,hu⟩,hh⟩ w hs;obtain⟨c,e,f,hb⟩:=aDF hu;have hm:=hs.modify a.block (fun | .cells c elem frozen=>.cells (if a.spot.isSome then c else c.setIfInBounds a.off v) elem frozen|o=>o) (qG h a v)
   (by
     intro b;unfold qG;split
     ·cases h b with
      | none=>rfl
      | some o=>cases o<;>rfl
     ·rfl) hb
  obtain⟨x,w',h',hr,hq,hs',hf⟩:=ih hh hm.1;refine⟨x,w',h',?_,hq,hs',hm.2.trans hf⟩;have hfz:w.frozen? a=false:=by rw[hs.frozen hb];exact h2
  cases v<;>simp[fH] at h1<;>simp only[Sem.run,hs.cell hu,hfz]<;>exact hr
 | new o k ih=>
  intro h Q hh w hs;have hn:=hs.new o;obtain⟨x,w',h',hr,hq,hs',hf⟩:=ih _ (hh _ hs.fresh) hn.1;exact⟨x,w',h',hr,hq,hs',hn.2.trans hf⟩
 | shape r k ih=>
  rintro h Q ⟨v,hv,hh⟩ w hs;obtain⟨x,w',h',hr,hrest⟩:=ih v hh hs;exact⟨x,w',h',by simp only[Sem.run,hs.shape hv];exact hr,hrest⟩
 | freeze a n k ih=>
  rintro h Q ⟨⟨o,ho⟩,hh⟩ w hs;by_cases hn:n=0
  ·have e:lR h a n=h:=by funext b;simp[lR,hn]
   rw[e] at hh;obtain⟨x,w',h',hr,hrest⟩:=ih hh hs;exact⟨x,w',h',by simp only[Sem.run,World.freeze,hn,if_true];exact hr,hrest⟩
  ·have hm:=hs.modify a.block (fun | .cells c elem (lo,hi)=>.cells c elem (if lo==hi then(a.off,a.off+n) else(min lo a.off,max hi (a.off+n)))|o=>o) (lR h a n)
    (by
      intro b;unfold lR;rw[if_neg hn];split
      ·cases h b with
       | none=>rfl
       | some o=>cases o<;>rfl
      ·rfl) ho
   obtain⟨x,w',h',hr,hq,hs',hf⟩:=ih hh hm.1;exact⟨x,w',h',by simp only[Sem.run,World.freeze,hn,if_false];exact hr,hq,hs',hm.2.trans hf⟩
 | frozen a k ih=>
  rintro h Q ⟨⟨o,ho⟩,hh⟩ w hs;obtain⟨x,w',h',hr,hrest⟩:=ih _ hh hs;exact⟨x,w',h',by simp only[Sem.run,hs.frozen ho];exact hr,hrest⟩
 | getObj r k ih=>
  rintro h Q ⟨o,ho,hc,hh⟩ w hs;obtain⟨x,w',h',hr,hrest⟩:=ih _ hh hs;refine⟨x,w',h',?_,hrest⟩;simp only[Sem.run,hs _ _ ho];cases o<;>first|exact absurd rfl (hc _ _ _)|exact hr
 | setObj r o k ih=>
  rintro h Q ⟨⟨u,hu,hc⟩,hh⟩ w hs;have hlt:=hs.lt hu;have hm:=hs.modify r (λ_=>o) (h.set r o) (λb=>by
   unfold PH.set;split
   ·rename_i e;subst e;rw[hu];rfl
   ·rfl) hu
  have he:w.heap.modify r (λ_=>o)=w.heap.setIfInBounds r o:=by
   apply Array.ext_getElem?;intro i;simp only[Array.getElem?_modify,Array.getElem?_setIfInBounds];by_cases e:r=i
   ·subst e;simp[hlt]
   ·simp[e]
  rw[he] at hm;obtain⟨x,w',h',hr,hq,hs',hf⟩:=ih hh hm.1;refine⟨x,w',h',?_,hq,hs',hm.2.trans hf⟩;simp only[Sem.run,hs _ _ hu];cases u<;>first|exact absurd rfl (hc _ _ _)|exact hr
 | choose q k ih=>
  intro h Q hh w hs;by_cases hq:q.forced
  ·have h0:=hh 0;simp only[hq,if_true] at h0;obtain⟨x,w',h',hr,hrest⟩:=ih _ h0 hs;exact⟨x,w',h',by simp only[Sem.run,hq,if_true];exact hr,hrest⟩
  ·have h0:=hh (w.tape w.drawn q);simp only[hq] at h0;have hs1:oC h {w with drawn:=w.drawn+1}:=hs;obtain⟨x,w',h',hr,hqq,hs',hf⟩:=ih _ h0 hs1;exact⟨x,w',h',by simp only[Sem.run,hq];exact hr,hqq,hs',⟨hf.os,hf.tape,hf.output,zLE (Nat.le_succ _) hf.drawn,hf.size,hf.far,hf.none⟩⟩
 | sys c k ih=>intro h Q hh;exact hh.elim
 | program k ih=>
  intro h Q hh w hs;obtain⟨x,w',h',hr,hrest⟩:=ih P hh hs;exact⟨x,w',h',hr,hrest⟩
 | mark m k ih=>
  intro h Q hh w hs;obtain⟨x,w',h',hr,hrest⟩:=ih hh hs;exact⟨x,w',h',hr,hrest⟩
 | halt x=>intro h Q hh;exact hh.elim
def cM.frame{P:Program}{α:Type}{s:Sem α}(r:Nat)(o:Obj):∀{h:PH} {Q:α->PH->Prop},cM P s h Q->h r=none->
  cM P s (h.set r o) (λa h2=>∃h1:PH,h2=h1.set r o∧h1 r=none∧Q a h1):=by
 have hset:∀(h:PH) b,h r=none->(∃u,h b=some u)->(h.set r o) b=h b:=by
  intro h b hr ⟨u,hu⟩;unfold PH.set;rw[if_neg];rintro rfl;rw[hr] at hu;cases hu
 induction s with
 | pure a=>intro h Q hh hr;exact⟨h,rfl,hr,hh⟩
 | load m a k ih=>
  rintro h Q ⟨v,hv,hh⟩ hr;obtain⟨c,e,f,hb⟩:=aDF hv;exact⟨v,by unfold cU at *;rw[hset h _ hr ⟨_,hb⟩];exact hv,ih v hh hr⟩
 | store m a v k ih=>
  rintro h Q ⟨h1,h2,⟨u,hu⟩,hh⟩ hr;obtain⟨c,e,f,hb⟩:=aDF hu;have hne:a.block≠r:=by rintro rfl;rw[hr] at hb;cases hb
  refine⟨h1,by unfold sI at *;rw[hset h _ hr ⟨_,hb⟩];exact h2,⟨u,by unfold cU at *;rw[hset h _ hr ⟨_,hb⟩];exact hu⟩,?_⟩;have he:qG (h.set r o) a v=(qG h a v).set r o:=by
   funext b;unfold qG PH.set;by_cases e1:b=r
   ·subst e1;simp[Ne.symm hne]
   ·simp[e1]
  rw[he];exact ih hh (by unfold qG;rw[if_neg (Ne.symm hne)];exact hr)
 | new o' k ih=>
  intro h Q hh hr r' hr';have hne:r'≠r:=by rintro rfl;simp[PH.set] at hr'
  have hr2:h r'=none:=by unfold PH.set at hr';rw[if_neg hne] at hr';exact hr'
  have he:(h.set r o).set r' o'=(h.set r' o').set r o:=by
   funext b;unfold PH.set;by_cases e1:b=r'
   ·subst e1;simp[hne]
   ·simp[e1]
  rw[he];exact ih r' (hh r' hr2) (by unfold PH.set;rw[if_neg (Ne.symm hne)];exact hr)
 | shape r' k ih=>
  rintro h Q ⟨v,hv,hh⟩ hr;have hb:∃u,h r'=some u:=by
   unfold iR at hv;cases hx:h r' with
   | none=>rw[hx] at hv;cases hv
   | some u=>exact⟨u,rfl⟩
  exact⟨v,by unfold iR at *;rw[hset h _ hr hb];exact hv,ih v hh hr⟩
 | freeze a n k ih=>
  rintro h Q ⟨⟨u,hu⟩,hh⟩ hr;have hne:a.block≠r:=by rintro rfl;rw[hr] at hu;cases hu
  refine⟨⟨u,by rw[hset h _ hr ⟨_,hu⟩];exact hu⟩,?_⟩;have he:lR (h.set r o) a n=(lR h a n).set r o:=by
   funext b;unfold lR PH.set;by_cases e1:b=r
   ·subst e1;simp[Ne.symm hne]
   ·simp[e1]
  rw[he];exact ih hh (by unfold lR;simp[Ne.symm hne,hr])
 | frozen a k ih=>
  rintro h Q ⟨⟨u,hu⟩,hh⟩ hr;have hb:=hset h _ hr ⟨_,hu⟩;refine⟨⟨u,by rw[hb];exact hu⟩,?_⟩;have:sI (h.set r o) a=sI h a:=by unfold sI;rw[hb]
  rw[this];exact ih _ hh hr
 | getObj r' k ih=>
  rintro h Q ⟨u,hu,hc,hh⟩ hr;exact⟨u,by rw[hset h _ hr ⟨_,hu⟩];exact hu,hc,ih _ hh hr⟩
 | setObj r' o' k ih=>
  rintro h Q ⟨⟨u,hu,hc⟩,hh⟩ hr;have hne:r'≠r:=by rintro rfl;rw[hr] at hu;cases hu
  refine⟨⟨u,by rw[hset h _ hr ⟨_,hu⟩];exact hu,hc⟩,?_⟩;have he:(h.set r o).set r' o'=(h.set r' o').set r o:=by
   funext b;unfold PH.set;by_cases e1:b=r'
   ·subst e1;simp[hne]
   ·simp[e1]
  rw[he];exact ih hh (by unfold PH.set;rw[if_neg (Ne.symm hne)];exact hr)
 | choose q k ih=>intro h Q hh hr t;exact ih _ (hh t) hr
 | sys c k ih=>intro h Q hh;exact hh.elim
 | program k ih=>intro h Q hh hr;exact ih P hh hr
 | mark m k ih=>intro h Q hh hr;exact ih hh hr
 | halt x=>intro h Q hh;exact hh.elim
abbrev kE:=Nat->Value
def upd(ρ:kE)(d:Option Tmp)(v:Value):kE:=match d with
 | some d=>λt=>if t=d then v else ρ t
 | none=>ρ
def ev(ρ:kE):Operand->Value
 | .tmp t=>ρ t
 | .const v=>v
 | .global g=>pT g 0
 | .func f=>.func (.func f) #[] #[]
def cB.of_semH{P:Program}{α:Type}{s:Sem α}:∀{a:α} {h:PH} {Q:α->PH->Prop},cB P h s=some a->cM P s h Q->Q a h:=by
 induction s with
 | pure a=>intro b h Q hb hh;simp only[cB,zL4] at hb;subst hb;exact hh
 | load m a k ih=>rintro b h Q hb ⟨v,hv,hh⟩;simp only[cB,hv,yF] at hb;exact ih v hb hh
 | shape r k ih=>rintro b h Q hb ⟨v,hv,hh⟩;simp only[cB,hv,yF] at hb;exact ih v hb hh
 | frozen a k ih=>rintro b h Q hb ⟨⟨v,hv⟩,hh⟩;simp only[cB,hv,yF] at hb;exact ih _ hb hh
 | program k ih=>intro b h Q hb hh;exact ih P hb hh
 | mark m k ih=>intro b h Q hb hh;exact ih hb hh
 | getObj r k ih=>
  rintro b h Q hb ⟨o,ho,hc,hh⟩;simp only[cB,ho] at hb;cases o<;>first|exact absurd rfl (hc _ _ _)|exact ih _ hb hh
 | _=>intro b h Q hb;cases hb
def aCb(P:Program)(f:FuncId):Bool:=match P.funcs[f]? with
 | some fn=>!(fn.name == "runtime.NumGoroutine") && !fn.body.isNone
 | none=>false
def bW(P:Program)(f:FuncId)(args:Array Value)(h:PH)(R:cF):Prop:=
 (aCb P f=true∧∀w,oC h w->Calls P f args w λe w'=>∃v h',e= .returned v∧R v h'∧oC h' w'∧Fr h w h' w')∨
 cM P (callFunc f args) h λn h'=>∃v,n= .value v∧R v h'
def bW.mono{P:Program}{f:FuncId}{args:Array Value}{h:PH}{R R':cF}(hc:bW P f args h R)(hr:∀v h,R v h->R' v h):bW P f args h R':=by
 rcases hc with⟨h1,h2⟩|hs
 ·exact .inl ⟨h1,λw hs=>(h2 w hs).mono λ_ _ ⟨v,h',e,r,rest⟩=>⟨v,h',e,hr _ _ r,rest⟩⟩
 ·exact .inr (hs.mono λn h' ⟨v,e,hv⟩=>⟨v,e,hr _ _ hv⟩)
def bW.entry{P:Program}{f:FuncId}{args:Array Value}{h:PH}{R:cF}{v:Value}(e:cB P h (callFunc f args)=some (.value v))(hv:R v h):bW P f args h R:=.inr (cB.semH e ⟨v,rfl,hv⟩)
def rI(P:Program)(n:Next)(h:PH)(kv:cF):Prop:=match n with
 | .value v=>kv v h
 | .skip=>kv undef h
 | .enter f args=>∀w,oC h w->Calls P f args w λe w'=>∃v h',e= .returned v∧kv v h'∧oC h' w'∧Fr h w h' w'
 | .round l f tmps assign body=>∀w,oC h w->RoundIn Fence.wide 0 P l f tmps assign body w λe w'=>∃v h',e= .returned v∧kv v h'∧oC h' w'∧Fr h w h' w'
 | _=>False
def rI.mono{P:Program}{n:Next}{h:PH}{k k':cF}(hn:rI P n h k)(hk:∀v h,k v h->k' v h):rI P n h k':=by
 cases n<;>first
  | exact hk _ _ hn
  | exact λw hs=>Calls.mono (hn w hs) λ_ _ ⟨v,h',e,r,rest⟩=>⟨v,h',e,hk _ _ r,rest⟩
  | exact λw hs=>RoundIn.mono (hn w hs) λ_ _ ⟨v,h',e,r,rest⟩=>⟨v,h',e,hk _ _ r,rest⟩
  | exact hn.elim
def bZ{α:Type}(x:Option α)(k:α->Prop):Prop:=match x with
 | some v=>k v
 | none=>False
def eV{α:Type}{x:Option α}{k:α->Prop}:bZ x k↔∃v,x=some v∧k v:=by
 cases x<;>simp[bZ]
def eH(c a b:Value):Option Value:=match c with
 | .bool true=>some a
 | .bool false=>some b
 | _=>none
def jT(P:Program){α:Type}:Sem α->Option (Obj×(Nat->Sem α))
 | .new o k=>some (o,k)
 | .program k=>jT P (k P)
 | .mark _ k=>jT P k
 | _=>none
def jT.semH{P:Program}{α:Type}{s:Sem α}:∀{o:Obj} {k:Nat->Sem α},jT P s=some (o,k)->∀{h:PH} {Q:α->PH->Prop},
  (∀r,h r=none->cM P (k r) (h.set r o) Q)->cM P s h Q:=by
 induction s with
 | new o k ih=>intro o' k' hb h Q hq;simp only[jT,zL4,Prod.mk.injEq] at hb;obtain⟨rfl,rfl⟩:=hb;exact hq
 | program k ih=>intro o' k' hb h Q hq;exact ih P hb hq
 | mark m k ih=>intro o' k' hb h Q hq;exact ih hb hq
 | _=>intro o' k' hb;cases hb
inductive Cls where
 | p|r|a|e
 deriving DecidableEq,Repr
def kS(P:Program):Op->Cls
 | .move _ | .assign _ | .pick .. | .nilCheck _ | .unOp .. | .fieldAddr .. | .field .. | .indexAddr .. | .index .. | .slice .. | .extract .. | .makeFunc .. | .build .. | .makeInterface .. =>.p
 | .binOp op .. =>match op with
  | .eql | .neq=>.r
  | _=>.p
 | .load .. | .lookup .. =>.r
 | .convert _ dst _=>match P.underlying dst with
  | some (.int _)=>.p
  | some .string=>.r
  | _=>.e
 | .alloc .. | .box .. | .buildSlice .. | .makeMap .. | .makeSlice .. =>.a
 | .call c=>match c.callee with
  | .builtin .len=>match (c.argTypes[0]?).bind P.underlying with
   | some (.map ..)=>.r
   | _=>.p
  | .builtin .min | .builtin .max | .builtin .cap=>.p
  | _=>.e
 | _=>.e
def sT(ρ:kE)(o:Oper):Sem Value:=match o.op with
 | .move x | .assign x=>pure (ev ρ x)
 | .pick c a b=>do pure (if ←asBool (ev ρ c) then ev ρ a else ev ρ b)
 | .alloc elem=>Instr.alloc elem true (.tuple #[])
 | .box elem x=>Instr.box elem (ev ρ x)
 | .build t parts=>build t (parts.map λ(i,x)=>(i,ev ρ x))
 | .buildSlice t len parts=>buildSlice t len (parts.map λ(i,x)=>(i,ev ρ x))
 | .load t a=>loadAt t (ev ρ a)
 | .nilCheck x=>
  match ev ρ x with
  | .pointer none | .nilIface | .nilFunc=>.halt (.stuck "nil")
  | .func (.method _) _ _=>.halt (.stuck "method")
  | x=>pure x
 | .binOp op xType x y _=>do eqGuard op xType x y (ev ρ x) (ev ρ y);binOp op xType (ev ρ x) (ev ρ y)
 | .unOp op _ x=>Op.unary op (ev ρ x)
 | .convert src dst x=>convert src dst (ev ρ x)
 | .makeInterface xType x=>Instr.makeInterface xType (ev ρ x)
 | .makeFunc fn first captured=>Instr.makeFunc fn (first.map (ev ρ)) (captured.map (ev ρ))
 | .makeMap t r=>Instr.makeMap t (r.map (ev ρ))
 | .makeSlice t l c=>Instr.makeSlice t (ev ρ l) (ev ρ c)
 | .slice t x lo hi mx=>Instr.sliceAt t (ev ρ x) (lo.map (ev ρ)) (hi.map (ev ρ)) (mx.map (ev ρ))
 | .fieldAddr s x f=>fieldAt s (ev ρ x) f
 | .field xType x f=>Instr.field xType (ev ρ x) f
 | .indexAddr t x ix=>indexAt t (ev ρ x) (ev ρ ix)
 | .index xType x ix=>Instr.index xType (ev ρ x) (ev ρ ix)
 | .lookup xType x ix ok=>Instr.lookup xType (ev ρ x) (ev ρ ix) ok
 | .extract t ix=>extract (ev ρ t) ix
 | .range xType x=>Instr.range xType (ev ρ x)
 | .next it isString=>Instr.next (ev ρ it) isString o.type
 | .entry it=>Instr.entry (ev ρ it)
 | .mapEntry t m k=>Instr.mapEntry t (ev ρ m) (ev ρ k)
 | .typeAssert x xType asserted ok=>Instr.typeAssert (ev ρ x) xType asserted ok
 | .store t a x=>do Instr.storeAt t (ev ρ a) (ev ρ x);pure undef
 | .mapUpdate t m k x | .insert t m k x=>do Instr.mapUpdate t (ev ρ m) (ev ρ k) (ev ρ x);pure undef
 | .entryStore t m s x=>do Instr.entryStore t (ev ρ m) (ev ρ s) (ev ρ x);pure undef
 | .call c=>match c.callee with
  | .builtin .append=>Builtin.append_ c.argTypes o.type (c.args.map (ev ρ))
  | .builtin .len=>Builtin.len_ c.argTypes o.type (c.args.map (ev ρ))
  | .builtin .cap=>Builtin.cap_ c.argTypes o.type (c.args.map (ev ρ))
  | .builtin .min=>Builtin.min_ c.argTypes o.type (c.args.map (ev ρ))
  | .builtin .max=>Builtin.max_ c.argTypes o.type (c.args.map (ev ρ))
  | .builtin .copy=>Builtin.copy_ c.argTypes o.type (c.args.map (ev ρ))
  | .builtin .clear=>Builtin.clear_ c.argTypes o.type (c.args.map (ev ρ))
  | .builtin .delete=>Builtin.delete_ c.argTypes o.type (c.args.map (ev ρ))
  | .builtin .unsafeString=>Builtin.unsafeString_ c.argTypes o.type (c.args.map (ev ρ))
  | .builtin .unsafeSliceData=>Builtin.unsafeSliceData_ c.argTypes o.type (c.args.map (ev ρ))
  | .builtin .unsafeStringData=>Builtin.unsafeStringData_ c.argTypes o.type (c.args.map (ev ρ))
  | .builtin .unsafeSlice=>Builtin.unsafeSlice_ c.argTypes o.type (c.args.map (ev ρ))
  | _=>.halt (.stuck "no value")
 | _=>.halt (.stuck "no value")
def aGp(P:Program)(c:Call)(ρ:kE)(h:PH)(kv:cF):Prop:=match c.callee with
 | .value (.func f)=>bW P f (c.args.map (ev ρ)) h kv
 | .value x=>match ev ρ x with
  | .func (.func f) first captured=>bW P f (first++c.args.map (ev ρ)++captured) h kv
  | .func fn first captured=>cM P (invoke (.fn fn captured) (first++c.args.map (ev ρ))) h λn h'=>rI P n h' kv
  | _=>False
 | .invoke recv name=>cM P (callMethod (ev ρ recv) name (c.args.map (ev ρ))) h λn h'=>rI P n h' kv
 | .builtin _=>False
def wZ(P:Program)(o:Oper)(ρ:kE)(h:PH)(kv:cF):Prop:=match kS P o.op with
 | .p=>match o.op with
  | .move x | .assign x=>kv (ev ρ x) h
  | .pick c a b=>bZ (eH (ev ρ c) (ev ρ a) (ev ρ b)) λv=>kv v h
  | _=>bZ (cC P (sT ρ o)) λv=>kv v h
 | .r=>bZ (cB P h (sT ρ o)) λv=>kv v h
 | .a=>bZ (jT P (sT ρ o)) λx=>∀r,h r=none->bZ (cC P (x.2 r)) λv=>kv v (h.set r x.1)
 | .e=>match o.op with
  | .call c=>match c.callee with
   | .builtin _=>cM P (sT ρ o) h kv
   | _=>aGp P c ρ h kv
  | _=>cM P (sT ρ o) h kv
def aFt(ops:Array Oper)(ρ:kE)(j:Nat):Option Bool:=match (ops[j]?).bind (·.dst) with
 | some d=>match ρ d with
  | .bool b=>some b
  | _=>none
 | none=>none
def fA(y:Option Bool)(want:Bool)(X:(Value->PH->Prop)->Prop)(h:PH)(kv:cF):Prop:=
 if y==some want then X kv else kv undef h
def jG(P:Program)(all:Array Oper)(o:Oper)(ρ:kE)(h:PH)(kv:cF):Prop:=match o.guard with
 | none=>wZ P o ρ h kv
 | some (j,want)=>fA (aFt all ρ j) want (wZ P o ρ h) h kv
def aQ3(P:Program)(all:Array Oper)(k:kE->PH->Prop):List Oper->kE->PH->Prop
 | [],ρ,h=>k ρ h
 | o::rest,ρ,h=>jG P all o ρ h λv h'=>aQ3 P all k rest (upd ρ o.dst v) h'
def wZ.mono{P:Program}{o:Oper}{ρ:kE}{h:PH}{k k':cF}(hk:∀v h,k v h->k' v h)(ho:wZ P o ρ h k):wZ P o ρ h k':=by
 unfold wZ at *;split at ho
 ·split at ho
  ·exact hk _ _ ho
  ·exact hk _ _ ho
  ·obtain⟨v,e,hv⟩:=eV.1 ho;exact eV.2 ⟨v,e,hk _ _ hv⟩
  ·obtain⟨v,e,hv⟩:=eV.1 ho;exact eV.2 ⟨v,e,hk _ _ hv⟩
 ·obtain⟨v,e,hv⟩:=eV.1 ho;exact eV.2 ⟨v,e,hk _ _ hv⟩
 ·obtain⟨x,e,hx⟩:=eV.1 ho;refine eV.2 ⟨x,e,λr hr=>?_⟩;obtain⟨v,e,hv⟩:=eV.1 (hx r hr);exact eV.2 ⟨v,e,hk _ _ hv⟩
 ·split at ho
  ·split at ho
   ·exact ho.mono hk
   ·unfold aGp at *;split at ho
    ·exact ho.mono hk
    ·split at ho
     ·exact ho.mono hk
     ·exact ho.mono λ_ _ hn=>hn.mono hk
     ·exact ho.elim
    ·exact ho.mono λ_ _ hn=>hn.mono hk
    ·exact ho.elim
  ·exact ho.mono hk
def jG.mono{P:Program}{all:Array Oper}{o:Oper}{ρ:kE}{h:PH}{k k':cF}(hk:∀v h,k v h->k' v h)(ho:jG P all o ρ h k):jG P all o ρ h k':=by
 unfold jG at *;split
 ·rename_i e;simp only[e] at ho;exact ho.mono hk
 ·rename_i j want e;simp only[e] at ho;unfold fA at *;split
  ·rename_i e;rw[if_pos e] at ho;exact ho.mono hk
  ·rename_i e;rw[if_neg e] at ho;exact hk _ _ ho
def wZ.noDefer{P:Program}{o:Oper}{ρ:kE}{h:PH}{kv:cF}(ho:wZ P o ρ h kv):∀c,o.op≠ .defer c:=by
 intro c hc;have e:kS P o.op= .e:=by rw[hc];rfl
 unfold wZ at ho;rw[e] at ho;simp only[hc] at ho;unfold sT at ho;rw[hc] at ho;exact ho
def aGw{P:Program}{f:FuncId}{args:Array Value}{h:PH}(he:aCb P f=true):cB P h (callFunc f args)=some (.enter f args):=by
 unfold aCb at he;split at he
 ·rename_i fn hf;simp only[rZ,Bool.not_eq_true'] at he;unfold callFunc;show cB P h (match P.funcs[f]? with|none=>_|some fn=>_)=_;simp only[hf,he.1,he.2,zLs,if_false];rfl
 ·cases he
def aNi{P:Program}{f:FuncId}{args:Array Value}{h:PH}{kv:cF}(hc:bW P f args h kv):
  cM P (callFunc f args) h λn h'=>rI P n h' kv:=by
 rcases hc with⟨he,hw⟩|hs
 ·exact cB.semH (aGw he) hw
 ·exact hs.mono λn h' ⟨v,e,hv⟩=>by subst e;exact hv
def bW.calls{P:Program}{f:FuncId}{args:Array Value}{h:PH}{R:cF}(hc:bW P f args h R)(he:aCb P f=true):∀w,oC h w->Calls P f args w λe w'=>∃v h',e= .returned v∧R v h'∧oC h' w'∧Fr h w h' w':=by
 rcases hc with⟨_,hw⟩|hs
 ·exact hw
 ·obtain⟨v,e,_⟩:=cB.of_semH (aGw he) hs;cases e
def aSh{P:Program}{s:Sem Value}{h:PH}{kv:cF}(hs:cM P s h kv):
  cM P (do pure (Next.value (←s))) h λn h'=>rI P n h' kv:=
 cM.bind (P:=P) (s:=s) (f:=λv=>pure (Next.value v)) hs
def aVb{P:Program}{s:Sem Unit}{h:PH}{kv:cF}(hs:cM P (do s;pure undef) h kv):
  cM P (do s;pure Next.skip) h λn h'=>rI P n h' kv:=by
 have key:∀(s:Sem Unit) (h:PH),cM P (s.bind λ_=>pure undef) h kv->cM P (s.bind λ_=>pure Next.skip) h λn h'=>rI P n h' kv:=by
  intro s;induction s with
  | pure a=>intro h hh;exact hh
  | load m a k ih=>rintro h ⟨v,hv,hh⟩;exact⟨v,hv,ih v h hh⟩
  | store m a v k ih=>rintro h ⟨h1,h2,h3,hh⟩;exact⟨h1,h2,h3,ih _ hh⟩
  | new o k ih=>intro h hh r hr;exact ih r _ (hh r hr)
  | shape r k ih=>rintro h ⟨v,hv,hh⟩;exact⟨v,hv,ih v _ hh⟩
  | freeze a n k ih=>rintro h ⟨h1,hh⟩;exact⟨h1,ih _ hh⟩
  | frozen a k ih=>rintro h ⟨h1,hh⟩;exact⟨h1,ih _ _ hh⟩
  | getObj r k ih=>rintro h ⟨o,ho,hc,hh⟩;exact⟨o,ho,hc,ih o _ hh⟩
  | setObj r o k ih=>rintro h ⟨h1,hh⟩;exact⟨h1,ih _ hh⟩
  | choose q k ih=>intro h hh t;exact ih _ _ (hh t)
  | sys c k ih=>intro h hh;exact hh.elim
  | program k ih=>intro h hh;exact ih P _ hh
  | mark m k ih=>intro h hh;exact ih _ hh
  | halt x=>intro h hh;exact hh.elim
 exact key s h hs
def aTJ(x:Value)(xs:Array Value):(#[x]++xs)[0]? =some x:=by
 rcases xs with⟨l⟩;simp
def aU6(x:Value)(xs:Array Value):(#[x]++xs).extract 1 (#[x]++xs).size=xs:=by
 rcases xs with⟨l⟩;apply zLw;simp[List.drop_one]
def wZ.exec{P:Program}{o:Oper}{ρ:kE}{h:PH}{kv:cF}(ho:wZ P o ρ h kv):
  cM P (execOp (ev ρ) o) h λn h'=>rI P n h' kv:=by
 have hcases:cM P (sT ρ o) h kv∨(∃c,o.op= .call c∧aGp P c ρ h kv):=by
  unfold wZ at ho;split at ho
  ·left;split at ho
   ·rename_i x hx;unfold sT;rw[hx];exact ho
   ·rename_i x hx;unfold sT;rw[hx];exact ho
   ·rename_i c a b hx;obtain⟨v,e,hv⟩:=eV.1 ho;unfold sT;rw[hx];show cM P ((asBool (ev ρ c)).bind λx=>pure (if x then ev ρ a else ev ρ b)) h kv;generalize ev ρ c=vc at *;cases vc with
    | bool t=>cases t<;>(simp only[eH,zL4] at e;subst e;exact hv)
    | _=>cases e
   ·obtain⟨v,e,hv⟩:=eV.1 ho;exact cB.semH (cC.semE e h) hv
  ·left;obtain⟨v,e,hv⟩:=eV.1 ho;exact cB.semH e hv
  ·left;obtain⟨x,e,hx⟩:=eV.1 ho;refine jT.semH (o:=x.1) (k:=x.2) e λr hr=>?_;obtain⟨v,e,hv⟩:=eV.1 (hx r hr);exact cB.semH (cC.semE e _) hv
  ·split at ho
   ·split at ho
    ·left;exact ho
    ·right;exact⟨_,by assumption,ho⟩
   ·left;exact ho
 rcases hcases with hs|⟨c,hc,hv⟩
 ·unfold sT at hs;unfold execOp;cases hop:o.op<;>simp only[hop] at hs ⊢
  case move=>exact hs
  case assign=>exact hs
  case pick c a b=>
   have hs':cM P ((asBool (ev ρ c)).bind λx=>pure (if x then ev ρ a else ev ρ b)) h kv:=hs;show cM P ((asBool (ev ρ c)).bind λx=>pure (Next.value (if x then ev ρ a else ev ρ b))) h _;generalize ev ρ c=vc at *;cases vc with
   | bool t=>exact hs'
   | _=>exact hs'.elim
  case nilCheck x=>
   generalize ev ρ x=v at *;cases v with
   | pointer a=>cases a with
    | none=>exact hs.elim
    | some a=>exact hs
   | func fn first captured=>cases fn with
    | method name=>exact hs.elim
    | _=>exact hs
   | nilIface=>exact hs.elim
   | nilFunc=>exact hs.elim
   | _=>exact hs
  case call c=>
   cases hcal:c.callee with
   | builtin b=>
    simp only[hcal] at hs;unfold resolve;simp only[hcal];cases b<;>first
     | exact hs.elim
     | exact aSh hs
   | value f=>simp only[hcal] at hs;exact hs.elim
   | invoke r n=>simp only[hcal] at hs;exact hs.elim
  all_goals first
   | exact aSh hs
   | exact aVb hs
   | exact hs.elim
 ·unfold execOp;simp only[hc];unfold resolve;unfold aGp at hv;cases hcal:c.callee with
  | builtin b=>simp only[hcal] at hv
  | invoke r n=>
   simp only[hcal] at hv;show cM P (invoke (.fn (.method n) #[]) (#[ev ρ r]++c.args.map (ev ρ))) h _;unfold invoke;simp only[aTJ,aU6];exact hv
  | value f=>
   simp only[hcal];have key:∀(v:Value),ev ρ f=v->(match v with
     | .func (.func f) first captured=>bW P f (first++c.args.map (ev ρ)++captured) h kv
     | .func fn first captured=>cM P (invoke (.fn fn captured) (first++c.args.map (ev ρ))) h λn h'=>rI P n h' kv
     | _=>False)->cM P (do let d ←Deferred.ofValue (ev ρ f) (c.args.map (ev ρ));invoke d.target d.args) h λn h'=>rI P n h' kv:=by
    intro v he hh;rw[he];cases v with
    | func fn first captured=>
     show cM P (invoke (.fn fn captured) (first++c.args.map (ev ρ))) h _;cases fn with
     | func g=>exact aNi hh
     | _=>exact hh
    | _=>exact hh.elim
   cases f with
   | func g=>
    refine key _ rfl ?_;simp only[hcal] at hv;show bW P g (#[]++c.args.map (ev ρ) ++ #[]) h kv;simpa using hv
   | tmp t=>simp only[hcal] at hv;exact key _ rfl hv
   | const v=>simp only[hcal] at hv;exact key _ rfl hv
   | global g=>simp only[hcal] at hv;exact key _ rfl hv
def Rl(h:PH):Prop:=∃w,oC h w
abbrev Tr:=PH->(Value->PH->Prop)->Prop
def Rl.fresh{h:PH}(hr:Rl h):∃r,h r=none:=let ⟨w,hs⟩:=hr;⟨w.heap.size,hs.fresh⟩
def Rl.set{h:PH}(hr:Rl h){r:Nat}(hn:h r=none)(o:Obj):Rl (h.set r o):=by
 obtain⟨w,hs⟩:=hr;let n:=max w.heap.size (r+1);refine⟨{w with heap:=(Array.range n).map λb=>if b=r then o else(w.heap[b]?).getD default},λb u hb=>?_⟩;unfold PH.set at hb;have hlt:b<n:=by
  split at hb
  ·omega
  ·have:=hs.lt hb;omega
 simp only[Array.getElem?_map,Array.getElem?_range,hlt,if_true,aJZ];split at hb
 ·rename_i e;rw[if_pos e];exact hb
 ·rename_i e;rw[if_neg e,hs _ _ hb];rfl
def cB.set{P:Program}{α:Type}{s:Sem α}{r:Nat}{o:Obj}:∀{h:PH} {a:α},cB P h s=some a->h r=none->cB P (h.set r o) s=some a:=by
 have hset:∀(h:PH) b,h r=none->(∃u,h b=some u)->(h.set r o) b=h b:=by
  intro h b hr ⟨u,hu⟩;unfold PH.set;rw[if_neg];rintro rfl;rw[hr] at hu;cases hu
 induction s with
 | pure a=>intro h b hb _;exact hb
 | load m a k ih=>
  intro h b hb hr;obtain⟨v,hv,hb⟩:=aGP.1 hb;obtain⟨c,e,f,hblk⟩:=aDF hv;refine aGP.2 ⟨v,?_,ih v hb hr⟩;unfold cU at *;rw[hset h _ hr ⟨_,hblk⟩];exact hv
 | shape r' k ih=>
  intro h b hb hr;obtain⟨v,hv,hb⟩:=aGP.1 hb;have hblk:∃u,h r'=some u:=by
   unfold iR at hv;cases hx:h r' with
   | none=>rw[hx] at hv;cases hv
   | some u=>exact⟨u,rfl⟩
  refine aGP.2 ⟨v,?_,ih v hb hr⟩;unfold iR at *;rw[hset h _ hr hblk];exact hv
 | frozen a k ih=>
  intro h b hb hr;obtain⟨v,hv,hb⟩:=aGP.1 hb;have e:=hset h _ hr ⟨_,hv⟩;refine aGP.2 ⟨v,by rw[e];exact hv,?_⟩;have:sI (h.set r o) a=sI h a:=by unfold sI;rw[e]
  rw[this];exact ih _ hb hr
 | program k ih=>intro h b hb hr;exact ih P hb hr
 | mark m k ih=>intro h b hb hr;exact ih hb hr
 | getObj r' k ih=>
  intro h b hb hr;simp only[cB] at hb ⊢;cases hx:h r' with
  | none=>rw[hx] at hb;cases hb
  | some u=>
   rw[hset h _ hr ⟨_,hx⟩,hx];rw[hx] at hb;cases u<;>first|cases hb|exact ih _ hb hr
 | _=>intro h b hb;cases hb
def cM.real{P:Program}{α:Type}{s:Sem α}:∀{h:PH} {Q:α->PH->Prop},cM P s h Q->Rl h->cM P s h λa h'=>Q a h'∧Rl h':=by
 induction s with
 | pure a=>intro h Q hh hr;exact⟨hh,hr⟩
 | load m a k ih=>rintro h Q ⟨v,hv,hh⟩ hr;exact⟨v,hv,ih v hh hr⟩
 | store m a v k ih=>
  rintro h Q ⟨h1,h2,h3,hh⟩ hr;refine⟨h1,h2,h3,ih hh ?_⟩;obtain⟨w,hs⟩:=hr;obtain⟨u,hu⟩:=h3;obtain⟨c,e,f,hb⟩:=aDF hu;exact⟨_,(hs.modify a.block (fun | .cells c elem frozen=>.cells (if a.spot.isSome then c else c.setIfInBounds a.off v) elem frozen|o=>o) (qG h a v)
   (λb=>by
    unfold qG;split
    ·cases h b with
     | none=>rfl
     | some o=>cases o<;>rfl
    ·rfl) hb).1⟩
 | new o k ih=>intro h Q hh hr r hn;exact ih r (hh r hn) (hr.set hn o)
 | shape r k ih=>rintro h Q ⟨v,hv,hh⟩ hr;exact⟨v,hv,ih v hh hr⟩
 | freeze a n k ih=>
  rintro h Q ⟨⟨o,ho⟩,hh⟩ hr;refine⟨⟨o,ho⟩,ih hh ?_⟩;obtain⟨w,hs⟩:=hr;by_cases hn:n=0
  ·have e:lR h a n=h:=by funext b;simp[lR,hn]
   rw[e];exact⟨w,hs⟩
  ·exact⟨_,(hs.modify a.block (fun | .cells c elem (lo,hi)=>.cells c elem (if lo==hi then(a.off,a.off+n) else(min lo a.off,max hi (a.off+n)))|o=>o) (lR h a n)
    (λb=>by
     unfold lR;rw[if_neg hn];split
     ·cases h b with
      | none=>rfl
      | some o=>cases o<;>rfl
     ·rfl) ho).1⟩
 | frozen a k ih=>rintro h Q ⟨h1,hh⟩ hr;exact⟨h1,ih _ hh hr⟩
 | getObj r k ih=>rintro h Q ⟨o,ho,hc,hh⟩ hr;exact⟨o,ho,hc,ih o hh hr⟩
 | setObj r o k ih=>
  rintro h Q ⟨⟨u,hu,hc⟩,hh⟩ hr;refine⟨⟨u,hu,hc⟩,ih hh ?_⟩;obtain⟨w,hs⟩:=hr;exact⟨_,(hs.modify r (λ_=>o) (h.set r o) (λb=>by
   unfold PH.set;split
   ·rename_i e;subst e;rw[hu];rfl
   ·rfl) hu).1⟩
 | choose q k ih=>intro h Q hh hr t;exact ih _ (hh t) hr
 | sys c k ih=>intro h Q hh;exact hh.elim
 | program k ih=>intro h Q hh hr;exact ih P hh hr
 | mark m k ih=>intro h Q hh hr;exact ih hh hr
 | halt x=>intro h Q hh;exact hh.elim
def bW.real{P:Program}{f:FuncId}{args:Array Value}{h:PH}{R:cF}(hc:bW P f args h R)(hr:Rl h):bW P f args h λv h'=>R v h'∧Rl h':=by
 rcases hc with⟨h1,h2⟩|hs
 ·exact .inl ⟨h1,λw hs=>(h2 w hs).mono λ_ w' ⟨v,h',e,r,s,fr⟩=>⟨v,h',e,⟨r,w',s⟩,s,fr⟩⟩
 ·exact .inr ((hs.real hr).mono λn h' ⟨⟨v,e,hv⟩,hr'⟩=>⟨v,e,hv,hr'⟩)
def rI.real{P:Program}{n:Next}{h:PH}{k:cF}(hn:rI P n h k)(hr:Rl h):rI P n h λv h'=>k v h'∧Rl h':=by
 cases n<;>first
  | exact⟨hn,hr⟩
  | exact λw hs=>Calls.mono (hn w hs) λ_ w' ⟨v,h',e,r,s,fr⟩=>⟨v,h',e,⟨r,w',s⟩,s,fr⟩
  | exact λw hs=>RoundIn.mono (hn w hs) λ_ w' ⟨v,h',e,r,s,fr⟩=>⟨v,h',e,⟨r,w',s⟩,s,fr⟩
  | exact hn.elim
def wZ.real{P:Program}{o:Oper}{ρ:kE}{h:PH}{k:cF}(ho:wZ P o ρ h k)(hr:Rl h):wZ P o ρ h λv h'=>k v h'∧Rl h':=by
 unfold wZ at *;split at ho
 ·split at ho
  ·exact⟨ho,hr⟩
  ·exact⟨ho,hr⟩
  ·obtain⟨v,e,hv⟩:=eV.1 ho;exact eV.2 ⟨v,e,hv,hr⟩
  ·obtain⟨v,e,hv⟩:=eV.1 ho;exact eV.2 ⟨v,e,hv,hr⟩
 ·obtain⟨v,e,hv⟩:=eV.1 ho;exact eV.2 ⟨v,e,hv,hr⟩
 ·obtain⟨x,e,hx⟩:=eV.1 ho;refine eV.2 ⟨x,e,λr hn=>?_⟩;obtain⟨v,e,hv⟩:=eV.1 (hx r hn);exact eV.2 ⟨v,e,hv,hr.set hn _⟩
 ·split at ho
  ·split at ho
   ·exact ho.real hr
   ·unfold aGp at *;split at ho
    ·exact ho.real hr
    ·split at ho
     ·exact ho.real hr
     ·exact(ho.real hr).mono λ_ _ hn=>hn.1.real hn.2
     ·exact ho.elim
    ·exact(ho.real hr).mono λ_ _ hn=>hn.1.real hn.2
    ·exact ho.elim
  ·exact ho.real hr
def wZ.falls{P:Program}{o:Oper}{ρ:kE}{h:PH}(ho:wZ P o ρ h λ_ _=>False)(hr:Rl h):False:=by
 obtain⟨w,hs⟩:=hr;obtain⟨n,w',h',hrun,hn,hs',hf⟩:=ho.exec.sound hs;cases n with
 | value v=>exact hn
 | skip=>exact hn
 | enter f args=>
  obtain⟨e,w2,fr,⟨v,h2,_,hF,_⟩,_⟩:=hn w' hs' [];exact hF
 | round l f tmps assign body=>
  obtain⟨e,w2,⟨v,h2,_,hF,_⟩,_⟩:=(hn w' hs').2 default [] (room_wide _);exact hF
 | _=>exact hn.elim
def bW.frame{P:Program}{f:FuncId}{args:Array Value}{h:PH}{R:cF}(r:Nat)(o:Obj)(hc:bW P f args h R)(hr:h r=none):
  bW P f args (h.set r o) λv h2=>∃h1:PH,h2=h1.set r o∧h1 r=none∧R v h1:=by
 rcases hc with⟨hc1,hc2⟩|hs
 rotate_left
 ·exact .inr ((cM.frame r o hs hr).mono λn h2 ⟨h1,e,hn,v,ev,hv⟩=>⟨v,ev,h1,e,hn,hv⟩)
 refine .inl ⟨hc1,λw hs=>?_⟩;have hsub:oC h w:=λb u hb=>hs b u (by
                         unfold PH.set;rw[if_neg];· exact hb
                         ·rintro rfl;rw[hr] at hb;cases hb)
 have hw:w.heap[r]? =some o:=hs r o (by unfold PH.set;rw[if_pos rfl]);have hlt:r<w.heap.size:=(aHZ.1 hw).1;refine(hc2 w hsub).mono λe w' ⟨v,h1,he,hR,hs1,hf⟩=>?_;have hn:=hf.none r hlt hr;refine⟨v,h1.set r o,he,⟨h1,rfl,hn,hR⟩,λb u hb=>?_,hf.os,hf.tape,hf.output,hf.drawn,hf.size,λb hb hbn=>?_,λb hb hbn=>?_⟩
 ·unfold PH.set at hb;split at hb
  ·rename_i e;subst e;rw[hf.far b hlt hr,hw];exact hb
  ·exact hs1 b u hb
 ·refine hf.far b hb ?_;unfold PH.set at hbn;split at hbn
  ·cases hbn
  ·exact hbn
 ·unfold PH.set at hbn ⊢;split at hbn
  ·cases hbn
  ·rename_i e;rw[if_neg e];exact hf.none b hb hbn
def rI.frame{P:Program}{n:Next}{h:PH}{k:cF}(r:Nat)(o:Obj)(hn:rI P n h k)(hr:h r=none):
  rI P n (h.set r o) λv h2=>∃h1:PH,h2=h1.set r o∧h1 r=none∧k v h1:=by
 cases n with
 | value v=>exact⟨h,rfl,hr,hn⟩
 | skip=>exact⟨h,rfl,hr,hn⟩
 | enter f args=>
  intro w hs;have hsub:oC h w:=λb u hb=>hs b u (by
                          unfold PH.set;rw[if_neg];· exact hb
                          ·rintro rfl;rw[hr] at hb;cases hb)
  have hw:w.heap[r]? =some o:=hs r o (by unfold PH.set;rw[if_pos rfl]);have hlt:r<w.heap.size:=(aHZ.1 hw).1;refine(hn w hsub).mono λe w' ⟨v,h1,he,hR,hs1,hf⟩=>?_;have hn:=hf.none r hlt hr;refine⟨v,h1.set r o,he,⟨h1,rfl,hn,hR⟩,λb u hb=>?_,hf.os,hf.tape,hf.output,hf.drawn,hf.size,λb hb hbn=>?_,λb hb hbn=>?_⟩
  ·unfold PH.set at hb;split at hb
   ·rename_i e;subst e;rw[hf.far b hlt hr,hw];exact hb
   ·exact hs1 b u hb
  ·refine hf.far b hb ?_;unfold PH.set at hbn;split at hbn
   ·cases hbn
   ·exact hbn
  ·unfold PH.set at hbn ⊢;split at hbn
   ·cases hbn
   ·rename_i e;rw[if_neg e];exact hf.none b hb hbn
 | round l f tmps assign body=>
  intro w hs;have hsub:oC h w:=λb u hb=>hs b u (by
                          unfold PH.set;rw[if_neg];· exact hb
                          ·rintro rfl;rw[hr] at hb;cases hb)
  have hw:w.heap[r]? =some o:=hs r o (by unfold PH.set;rw[if_pos rfl]);have hlt:r<w.heap.size:=(aHZ.1 hw).1;refine RoundIn.mono (hn w hsub) λe w' ⟨v,h1,he,hR,hs1,hf⟩=>?_;have hn:=hf.none r hlt hr;refine⟨v,h1.set r o,he,⟨h1,rfl,hn,hR⟩,λb u hb=>?_,hf.os,hf.tape,hf.output,hf.drawn,hf.size,λb hb hbn=>?_,λb hb hbn=>?_⟩
  ·unfold PH.set at hb;split at hb
   ·rename_i e;subst e;rw[hf.far b hlt hr,hw];exact hb
   ·exact hs1 b u hb
  ·refine hf.far b hb ?_;unfold PH.set at hbn;split at hbn
   ·cases hbn
   ·exact hbn
  ·unfold PH.set at hbn ⊢;split at hbn
   ·cases hbn
   ·rename_i e;rw[if_neg e];exact hf.none b hb hbn
 | _=>exact hn.elim
def KP(T:Tr):Prop:=∃x:Option Value,∀h kv,T h kv↔bZ x λv=>kv v h
def KR(T:Tr):Prop:=∃f:PH->Option Value,(∀h kv,T h kv↔bZ (f h) λv=>kv v h)∧∀h r o v,f h=some v->h r=none->f (h.set r o)=some v
def KA(T:Tr):Prop:=∃y:Option (Obj×(Nat->Option Value)),∀h kv,T h kv↔bZ y λx=>∀r,h r=none->bZ (x.2 r) λv=>kv v (h.set r x.1)
structure KE(T:Tr):Prop where
 mono:∀{h:PH} {k k':cF},T h k->(∀v h,k v h->k' v h)->T h k'
 real:∀{h:PH} {k:cF},T h k->Rl h->T h λv h'=>k v h'∧Rl h'
 falls:∀{h:PH},T h (λ_ _=>False)->Rl h->False
 frame:∀{h:PH} {k:cF} (r:Nat) (o:Obj),T h k->h r=none->T (h.set r o) λv h2=>∃h1:PH,h2=h1.set r o∧h1 r=none∧k v h1
def KP.ke{T:Tr}(hT:KP T):KE T:=by
 obtain⟨x,hx⟩:=hT;refine⟨λht hk=>?_,λht hr=>?_,λht hr=>?_,λr o ht hr=>?_⟩
 ·obtain⟨v,e,hv⟩:=eV.1 ((hx _ _).1 ht);exact(hx _ _).2 (eV.2 ⟨v,e,hk _ _ hv⟩)
 ·obtain⟨v,e,hv⟩:=eV.1 ((hx _ _).1 ht);exact(hx _ _).2 (eV.2 ⟨v,e,hv,hr⟩)
 ·obtain⟨v,e,hv⟩:=eV.1 ((hx _ _).1 ht);exact hv
 ·obtain⟨v,e,hv⟩:=eV.1 ((hx _ _).1 ht);exact(hx _ _).2 (eV.2 ⟨v,e,_,rfl,hr,hv⟩)
def KR.ke{T:Tr}(hT:KR T):KE T:=by
 obtain⟨f,hx,hm⟩:=hT;refine⟨λht hk=>?_,λht hr=>?_,λht hr=>?_,λr o ht hr=>?_⟩
 ·obtain⟨v,e,hv⟩:=eV.1 ((hx _ _).1 ht);exact(hx _ _).2 (eV.2 ⟨v,e,hk _ _ hv⟩)
 ·obtain⟨v,e,hv⟩:=eV.1 ((hx _ _).1 ht);exact(hx _ _).2 (eV.2 ⟨v,e,hv,hr⟩)
 ·obtain⟨v,e,hv⟩:=eV.1 ((hx _ _).1 ht);exact hv
 ·obtain⟨v,e,hv⟩:=eV.1 ((hx _ _).1 ht);exact(hx _ _).2 (eV.2 ⟨v,hm _ _ _ _ e hr,_,rfl,hr,hv⟩)
def aLO{h:PH}{r r':Nat}{o o':Obj}(hne:r'≠r):(h.set r o).set r' o'=(h.set r' o').set r o:=by
 funext b;unfold PH.set;by_cases e1:b=r'
 ·subst e1;simp[hne]
 ·simp[e1]
def aOW{h:PH}{r r':Nat}{o:Obj}(hn:(h.set r o) r'=none):r'≠r∧h r'=none:=by
 unfold PH.set at hn;split at hn
 ·cases hn
 ·rename_i e;exact⟨e,hn⟩
def aWO{T U:Tr}(hT:KP T)(hU:KE U){h:PH}{X:Value->Value->PH->Prop}(H:T h λv h1=>U h1 λu h2=>X v u h2):U h λu h1=>T h1 λv h2=>X v u h2:=by
 obtain⟨x,hx⟩:=hT;obtain⟨v,e,hv⟩:=eV.1 ((hx _ _).1 H);exact hU.mono hv λu h1 hX=>(hx _ _).2 (eV.2 ⟨v,e,hX⟩)
def aFw{T U:Tr}(hT:KE T)(hU:KP U){h:PH}(hr:Rl h){X:Value->Value->PH->Prop}(H:T h λv h1=>U h1 λu h2=>X v u h2):U h λu h1=>T h1 λv h2=>X v u h2:=by
 obtain⟨x,hx⟩:=hU;cases x with
 | none=>exact(hT.falls (hT.mono H λv h1 hh=>by simpa[bZ] using(hx _ _).1 hh) hr).elim
 | some u=>exact(hx _ _).2 (eV.2 ⟨u,rfl,hT.mono H λv h1 hh=>by simpa[bZ] using(hx _ _).1 hh⟩)
def aUq{T U:Tr}(hT:KR T)(hU:KA U){h:PH}{X:Value->Value->PH->Prop}(H:T h λv h1=>U h1 λu h2=>X v u h2):U h λu h1=>T h1 λv h2=>X v u h2:=by
 obtain⟨f,hx,hm⟩:=hT;obtain⟨y,hy⟩:=hU;obtain⟨v,e,hv⟩:=eV.1 ((hx _ _).1 H);obtain⟨z,e',hz⟩:=eV.1 ((hy _ _).1 hv);refine(hy _ _).2 (eV.2 ⟨z,e',λr hr=>?_⟩);obtain⟨u,e2,hu⟩:=eV.1 (hz r hr);exact eV.2 ⟨u,e2,(hx _ _).2 (eV.2 ⟨v,hm _ _ _ _ e hr,hu⟩)⟩
def aUi{T U:Tr}(hT:KA T)(hU:KA U){h:PH}(hr:Rl h){X:Value->Value->PH->Prop}(H:T h λv h1=>U h1 λu h2=>X v u h2):U h λu h1=>T h1 λv h2=>X v u h2:=by
 obtain⟨x,hx⟩:=hT;obtain⟨y,hy⟩:=hU;obtain⟨z,e,hz⟩:=eV.1 ((hx _ _).1 H);have hy':∃z',y=some z':=by
  obtain⟨r,hn⟩:=hr.fresh;obtain⟨v,_,hv⟩:=eV.1 (hz r hn);obtain⟨z',e',_⟩:=eV.1 ((hy _ _).1 hv);exact⟨z',e'⟩
 obtain⟨z',e'⟩:=hy'
 -- both values are there, whatever the blocks
 have both:∀r r',h r=none->h r'=none->r'≠r->∃v u,z.2 r=some v∧z'.2 r'=some u∧X v u ((h.set r z.1).set r' z'.1):=by
  intro r r' hn hn' hne;obtain⟨v,e1,hv⟩:=eV.1 (hz r hn);obtain⟨z2,e2,hz2⟩:=eV.1 ((hy _ _).1 hv);rw[e'] at e2;cases e2;obtain⟨u,e3,hu⟩:=eV.1 (hz2 r' (by unfold PH.set;rw[if_neg hne];exact hn'));exact⟨v,u,e1,e3,hu⟩
 refine(hy _ _).2 (eV.2 ⟨z',e',λr' hn'=>?_⟩);have hu:∃u,z'.2 r'=some u:=by
  obtain⟨r,hn⟩:=(hr.set hn' z'.1).fresh;obtain⟨hne,hn⟩:=aOW hn;obtain⟨v,u,_,eu,_⟩:=both r r' hn hn' (Ne.symm hne);exact⟨u,eu⟩
 obtain⟨u,eu⟩:=hu;refine eV.2 ⟨u,eu,(hx _ _).2 (eV.2 ⟨z,e,λr hn=>?_⟩)⟩;obtain⟨hne,hn⟩:=aOW hn;obtain⟨v,u',ev',eu',hX⟩:=both r r' hn hn' (Ne.symm hne);rw[eu] at eu';cases eu';refine eV.2 ⟨v,ev',?_⟩;rw[←aLO (Ne.symm hne)];exact hX
def aVB{T U:Tr}(hT:KE T)(hU:KA U){h:PH}(hr:Rl h){X:Value->Value->PH->Prop}(H:T h λv h1=>U h1 λu h2=>X v u h2):U h λu h1=>T h1 λv h2=>X v u h2:=by
 obtain⟨y,hy⟩:=hU;have hy':∃z',y=some z':=by
  cases y with
  | some z'=>exact⟨z',rfl⟩
  | none=>exact(hT.falls (hT.mono H λv h1 hh=>by simpa[bZ] using(hy _ _).1 hh) hr).elim
 obtain⟨z,e⟩:=hy';refine(hy _ _).2 (eV.2 ⟨z,e,λr hn=>?_⟩);have hf:=hT.frame r z.1 H hn;have hf2:T (h.set r z.1) λv h2=>bZ (z.2 r) λu=>X v u h2:=hT.mono hf λv h2 ⟨h1,e1,hn1,hh⟩=>by
  obtain⟨z2,e2,hz2⟩:=eV.1 ((hy _ _).1 hh);rw[e] at e2;cases e2;rw[e1];exact hz2 r hn1
 cases hu:z.2 r with
 | none=>
  rw[hu] at hf2;exact(hT.falls hf2 (hr.set hn z.1)).elim
 | some u=>
  rw[hu] at hf2;exact hf2
def aQX{ρ:kE}{x y:Option Tmp}{v u:Value}(h:∀d,x=some d->y≠some d):upd (upd ρ x v) y u=upd (upd ρ y u) x v:=by
 cases x with
 | none=>rfl
 | some d=>
  cases y with
  | none=>rfl
  | some e=>
   have hne:d≠e:=λhe=>h d rfl (he▸rfl);funext t;simp only[upd];by_cases h1:t=d
   ·subst h1;simp[hne]
   ·simp[h1]
def aSo{ρ:kE}{d:Option Tmp}{v:Value}{x:Operand}(h:∀t,d=some t->x≠ .tmp t):ev (upd ρ d v) x=ev ρ x:=by
 cases d with
 | none=>rfl
 | some t=>
  cases x with
  | tmp s=>
   have:s≠t:=λe=>h t rfl (e▸rfl);simp[ev,upd,this]
  | _=>rfl
def aKs{ρ ρ':kE}(o:Oper)(h:∀x∈o.op.operands,ev ρ x=ev ρ' x):sT ρ o=sT ρ' o:=by
 obtain⟨dst,op,type,pos,after,guard⟩:=o;have pairs:∀ps:Array (Nat×Operand),(∀x∈ps.map (·.2),ev ρ x=ev ρ' x)->
   (ps.map λ(i,x)=>(i,ev ρ x))=(ps.map λ(i,x)=>(i,ev ρ' x)):=λps hp=>
  Array.map_congr_left λp hm=>by
   obtain⟨i,x⟩:=p;simp only[hp x (Array.mem_map.2 ⟨(i,x),hm,rfl⟩)]
 cases op<;>simp only[Op.operands] at h<;>simp only[sT]
 case build t ps=>rw[pairs ps λx hx=>h x (by simpa using hx)]
 case buildSlice t n ps=>rw[pairs ps λx hx=>h x (by simpa using hx)]
 case makeFunc fn first captured=>
  rw[Array.map_congr_left (xs:=first) λx hx=>h x (by simp[hx]),Array.map_congr_left (xs:=captured) λx hx=>h x (by simp[hx])]
 case call c=>
  have hargs:c.args.map (ev ρ)=c.args.map (ev ρ'):=Array.map_congr_left λx hx=>h x (by simp[Call.operands,hx]);rw[hargs]
 case makeMap t r=>cases r<;>simp_all
 case slice t x lo hi mx=>cases lo<;>cases hi<;>cases mx<;>simp_all
 all_goals (first|rfl|(simp_all;done))
def aPT{P:Program}{ρ ρ':kE}(c:Call)(h:∀x∈c.operands,ev ρ x=ev ρ' x):aGp P c ρ=aGp P c ρ':=by
 have hargs:c.args.map (ev ρ)=c.args.map (ev ρ'):=Array.map_congr_left λx hx=>h x (by simp[Call.operands,hx]);funext hh kv;unfold aGp;rw[hargs];cases hc:c.callee with
 | value f=>
  have hf:ev ρ f=ev ρ' f:=h f (by simp[Call.operands,hc]);cases f<;>simp only[hf]
 | invoke r m=>have hr:ev ρ r=ev ρ' r:=h r (by simp[Call.operands,hc]);simp only[hr]
 | builtin b=>rfl
def aRw{P:Program}{ρ ρ':kE}(o:Oper)(h:∀x∈o.op.operands,ev ρ x=ev ρ' x):wZ P o ρ=wZ P o ρ':=by
 have hs:=aKs o h;funext hh kv;unfold wZ;rw[hs];cases hop:o.op
 case move x=>have hx:=h x (by simp[hop,Op.operands]);simp only[kS,hx]
 case assign x=>have hx:=h x (by simp[hop,Op.operands]);simp only[kS,hx]
 case pick c a b=>
  have h1:=h c (by simp[hop,Op.operands]);have h2:=h a (by simp[hop,Op.operands]);have h3:=h b (by simp[hop,Op.operands]);simp only[kS,h1,h2,h3]
 case call c=>
  have hc:=aPT (P:=P) c λx hx=>h x (by simp only[hop,Op.operands];exact hx);simp only[hc]
 all_goals rfl
def aIb{ops:Array Oper}{o:Oper}{d:Tmp}(h:d∉o.looksAt ops):∀x∈o.op.operands,x≠ .tmp d:=by
 intro x hx e;subst e;exact h (List.mem_append_left _ (List.mem_filterMap.2 ⟨.tmp d,by simpa using hx,rfl⟩))
def aGt{ops:Array Oper}{o:Oper}{ρ:kE}{dst:Option Tmp}{v:Value}{g:Nat}{want:Bool}(hg:o.guard=some (g,want))(h:∀d,dst=some d->d∉o.looksAt ops):
  aFt ops (upd ρ dst v) g=aFt ops ρ g:=by
 cases dst with
 | none=>rfl
 | some d=>
  unfold aFt;cases ht:(ops[g]?).bind (·.dst) with
  | none=>rfl
  | some t=>
   have hne:t≠d:=λe=>h d rfl (by subst e;simp[Oper.looksAt,hg,ht]);simp only[upd,if_neg hne]
def aJU{ops:Array Oper}{o:Oper}{ρ:kE}{dst:Option Tmp}{v:Value}(h:∀d,dst=some d->d∉o.looksAt ops):sT (upd ρ dst v) o=sT ρ o:=
 aKs o λx hx=>aSo λt ht=>aIb (h t ht) x hx
def aMq{P:Program}{ops:Array Oper}{o:Oper}{ρ:kE}{dst:Option Tmp}{v:Value}(h:∀d,dst=some d->d∉o.looksAt ops):jG P ops o (upd ρ dst v)=jG P ops o ρ:=by
 have ho:wZ P o (upd ρ dst v)=wZ P o ρ:=aRw o λx hx=>aSo λt ht=>aIb (h t ht) x hx;funext hh kv;unfold jG;cases hg:o.guard with
 | none=>simp only[ho]
 | some gw=>
  obtain⟨g,want⟩:=gw;simp only[ho,aGt (v:=v) hg h]
def aS3{h:PH}{r r':Nat}{o o':Obj}{k:cF}{v:Value}(hne:r'≠r)(hr:h r=none)(hk:k v (h.set r' o')):
  ∃h1:PH,(h.set r o).set r' o'=h1.set r o∧h1 r=none∧k v h1:=
 ⟨h.set r' o',aLO hne,by unfold PH.set;rw[if_neg (Ne.symm hne)];exact hr,hk⟩
def aAW(ops:Array Oper)(o:Oper)(ρ:kE):Bool:=match o.guard with
 | none=>true
 | some (g,want)=>aFt ops ρ g==some want
def xF{P:Program}{ops:Array Oper}{o:Oper}{ρ:kE}{h:PH}{kv:cF}:jG P ops o ρ h kv↔if aAW ops o ρ then wZ P o ρ h kv else kv undef h:=by
 unfold jG aAW fA;cases hg:o.guard with
 | none=>simp
 | some gw=>obtain⟨g,want⟩:=gw;simp
def aKV{P:Program}{ops:Array Oper}{o:Oper}{ρ:kE}(hc:kS P o.op= .p):KP (jG P ops o ρ):=by
 cases hw:aAW ops o ρ with
 | false=>exact⟨some undef,λh kv=>by rw[xF,hw];simp[bZ]⟩
 | true=>
  have:∃x:Option Value,∀h kv,wZ P o ρ h kv↔bZ x λv=>kv v h:=by
   unfold wZ;simp only[hc];split
   ·rename_i x _;exact⟨some (ev ρ x),λh kv=>Iff.rfl⟩
   ·rename_i x _;exact⟨some (ev ρ x),λh kv=>Iff.rfl⟩
   ·rename_i c a b _;exact⟨_,λh kv=>Iff.rfl⟩
   ·exact⟨_,λh kv=>Iff.rfl⟩
  obtain⟨x,hx⟩:=this;exact⟨x,λh kv=>by rw[xF,hw];simpa using hx h kv⟩
def aLc(P:Program)(ops:Array Oper)(o:Oper)(ρ:kE)(h:PH):Option Value:=if aAW ops o ρ then cB P h (sT ρ o) else some undef
def aMQ{P:Program}{ops:Array Oper}{o:Oper}{ρ:kE}(hc:kS P o.op= .r)(h:PH)(kv:cF):jG P ops o ρ h kv↔bZ (aLc P ops o ρ h) λv=>kv v h:=by
 rw[xF];unfold aLc wZ;cases hw:aAW ops o ρ<;>simp[hc,bZ]
def aUB{P:Program}{ops:Array Oper}{o:Oper}{ρ:kE}(hc:kS P o.op= .r):KR (jG P ops o ρ):=
 ⟨aLc P ops o ρ,λh kv=>aMQ hc h kv,λh r b v hv hr=>by
  unfold aLc at *;split at hv
  ·rename_i e;rw[if_pos e];exact cB.set hv hr
  ·rename_i e;rw[if_neg e];exact hv⟩
def aKI{P:Program}{ops:Array Oper}{o:Oper}{ρ:kE}(hc:kS P o.op= .a):KA (jG P ops o ρ)∨KP (jG P ops o ρ):=by
 cases hw:aAW ops o ρ with
 | false=>exact .inr ⟨some undef,λh kv=>by rw[xF,hw];simp[bZ]⟩
 | true=>
  refine .inl ⟨(jT P (sT ρ o)).map λx=>(x.1,λr=>cC P (x.2 r)),λh kv=>?_⟩;rw[xF,hw];unfold wZ;simp only[hc,if_true];cases jT P (sT ρ o)<;>simp[bZ]
def aW0{P:Program}{ops:Array Oper}{o:Oper}{ρ:kE}(hc:kS P o.op= .e):KE (jG P ops o ρ):=by
 have hframe:∀{h:PH} {k:cF} (r:Nat) (b:Obj),wZ P o ρ h k->h r=none->wZ P o ρ (h.set r b) λv h2=>∃h1:PH,h2=h1.set r b∧h1 r=none∧k v h1:=by
  intro h k r b ho hr;unfold wZ at *;simp only[hc] at ho ⊢;split at ho
  ·split at ho
   ·exact ho.frame r b hr
   ·unfold aGp at *;split at ho
    ·exact ho.frame r b hr
    ·split at ho
     ·exact ho.frame r b hr
     ·exact(ho.frame r b hr).mono λn h2 ⟨h1,e,hn,hh⟩=>e▸hh.frame r b hn
     ·exact ho.elim
    ·exact(ho.frame r b hr).mono λn h2 ⟨h1,e,hn,hh⟩=>e▸hh.frame r b hn
    ·exact ho.elim
  ·exact ho.frame r b hr
 refine⟨λht hk=>?_,λht hr=>?_,λht hr=>?_,λr b ht hr=>?_⟩
 ·exact jG.mono hk ht
 ·rw[xF] at ht ⊢;split at ht
  ·rename_i e;rw[if_pos e];exact ht.real hr
  ·rename_i e;rw[if_neg e];exact⟨ht,hr⟩
 ·rw[xF] at ht;split at ht
  ·exact ht.falls hr
  ·exact ht
 ·rw[xF] at ht ⊢;split at ht
  ·rename_i e;rw[if_pos e];exact hframe r b ht hr
  ·rename_i e;rw[if_neg e];exact⟨_,rfl,hr,ht⟩
def aLQ{P:Program}{ops:Array Oper}{o:Oper}{ρ:kE}:KE (jG P ops o ρ):=by
 cases hc:kS P o.op with
 | p=>exact(aKV hc).ke
 | r=>exact(aUB hc).ke
 | e=>exact aW0 hc
 | a=>
  refine⟨λht hk=>jG.mono hk ht,λht hr=>?_,λht hr=>?_,λr b ht hr=>?_⟩
  ·rw[xF] at ht ⊢;split at ht
   ·rename_i e;rw[if_pos e];exact ht.real hr
   ·rename_i e;rw[if_neg e];exact⟨ht,hr⟩
  ·rw[xF] at ht;split at ht
   ·exact ht.falls hr
   ·exact ht
  ·rcases aKI (P:=P) (ops:=ops) (ρ:=ρ) hc with⟨y,hy⟩|hp
   ·obtain⟨x,e,hx⟩:=eV.1 ((hy _ _).1 ht);refine(hy _ _).2 (eV.2 ⟨x,e,λr' hr'=>?_⟩);obtain⟨hne,hn'⟩:=aOW hr';obtain⟨v,e2,hv⟩:=eV.1 (hx r' hn');refine eV.2 ⟨v,e2,aS3 hne hr hv⟩
   ·exact hp.ke.frame r b ht hr
def wR(b:Array Nat)(y x:Nat):Bool:=(b.getD y 0).testBit x
def aRz:Cls->Cls->Bool
 | .p,_|_,.p=>true
 | .r,_=>true
 | .a,.a=>true
 | .e,.a=>true
 | _,_=>false
def aEP(P:Program)(ops:Array Oper)(o:Oper)(ρ:kE)(h:PH):Prop:=aAW ops o ρ=true->cB P h (sT ρ o)=o.dst.map ρ
def AG(P:Program)(ops:Array Oper)(b:Array Nat)(i:Nat)(rem:List Nat)(ρ:kE)(h:PH):Prop:=
 ∀oi,ops[i]? =some oi->kS P oi.op= .e->∀x ox,ops[x]? =some ox->kS P ox.op= .r->x∉rem->x≠i->wR b i x=false->aEP P ops ox ρ h
def aEN(P:Program)(ops:Array Oper)(b:Array Nat)(k:kE->PH->Prop):Nat->List Nat->kE->PH->Prop
 | 0,_,ρ,h=>k ρ h
 | n+1,rem,ρ,h=>∀i∈rem,(∀x∈rem,wR b i x=false)->∃o,ops[i]? =some o∧jG P ops o ρ h λv h'=>AG P ops b i rem (upd ρ o.dst v) h'∧aEN P ops b k n (rem.erase i) (upd ρ o.dst v) h'
structure aTs(P:Program)(ops:Array Oper)(b:Array Nat):Prop where
 apart:∀(x y:Nat) (ox oy:Oper),ops[x]? =some ox->ops[y]? =some oy->x≠y->wR b x y=false->wR b y x=false->ox.apart ops oy=true
 look:∀(x y:Nat) (ox oy:Oper),ops[x]? =some ox->ops[y]? =some oy->kS P ox.op= .r->(x≠y->wR b x y=false)->∀d,oy.dst=some d->d∉ox.looksAt ops
 own:∀(x:Nat) (ox:Oper),ops[x]? =some ox->kS P ox.op= .r->ox.dst.isSome=true
 one:∀(x y:Nat) (ox oy:Oper),ops[x]? =some ox->ops[y]? =some oy->kS P ox.op= .r->x≠y->∀d,oy.dst=some d->ox.dst≠some d
def aLe{P:Program}{ops:Array Oper}{o:Oper}{ρ:kE}{h:PH}{dst:Option Tmp}{v:Value}(hl:∀d,dst=some d->d∉o.looksAt ops)(hd:∀d,dst=some d->o.dst≠some d):
  aEP P ops o (upd ρ dst v) h↔aEP P ops o ρ h:=by
 have h1:aAW ops o (upd ρ dst v)=aAW ops o ρ:=by
  unfold aAW;cases hg:o.guard with
  | none=>rfl
  | some gw=>obtain⟨g,want⟩:=gw;simp only[aGt (v:=v) hg hl]
 have h2:o.dst.map (upd ρ dst v)=o.dst.map ρ:=by
  cases ho:o.dst with
  | none=>rfl
  | some t=>
   cases dst with
   | none=>rfl
   | some d=>
    have hne:t≠d:=λe=>hd d rfl (e▸ho);simp[upd,hne]
 unfold aEP;rw[h1,h2,aJU hl]
def aQS{P:Program}{ops:Array Oper}{o:Oper}{ρ:kE}{h:PH}{r:Nat}{b:Obj}(hs:o.dst.isSome=true)(hf:aEP P ops o ρ h)(hr:h r=none):aEP P ops o ρ (h.set r b):=by
 intro hw;have:=hf hw;obtain⟨d,hd⟩:=Option.isSome_iff_exists.1 hs;rw[hd] at this ⊢;exact cB.set this hr
def aRe{P:Program}{ops:Array Oper}{b:Array Nat}{k:kE->PH->Prop}(L:aTs P ops b){i:Nat}{oi:Oper}(hi:ops[i]? =some oi):
  ∀(n:Nat) (rem:List Nat) (ρ:kE) (h:PH),rem.length=n+1->rem.Nodup->(∀y,y∉rem->∀x∈rem,wR b y x=false)->Rl h->i∈rem->(∀x∈rem,wR b i x=false)->
   (∀j oj,j∈rem->j≠i->ops[j]? =some oj->wR b j i=false->aRz (kS P oi.op) (kS P oj.op)=true)->
   (jG P ops oi ρ h λv h'=>AG P ops b i rem (upd ρ oi.dst v) h'∧aEN P ops b k n (rem.erase i) (upd ρ oi.dst v) h')->aEN P ops b k (n+1) rem ρ h:=by
 intro n;induction n with
 | zero=>
  intro rem ρ h hlen hnd hdc hr hmem hrdy hpair H j hj hjr;obtain⟨a,rfl⟩:=List.length_eq_one_iff.1 hlen;simp only[iI] at hj hmem;subst hj;subst hmem;exact⟨oi,hi,H⟩
 | succ n ih=>
  intro rem ρ h hlen hnd hdc hr hmem hrdy hpair H j hj hjr;by_cases hji:j=i
  ·subst hji;exact⟨oi,hi,H⟩
  have hmemj:j∈rem.erase i:=(List.mem_erase_of_ne hji).2 hj;have hmemi:i∈rem.erase j:=(List.mem_erase_of_ne (Ne.symm hji)).2 hmem;have hbji:wR b j i=false:=hjr i hmem;have hbij:wR b i j=false:=hrdy j hj
  -- the other one is there
  have hoj:∃oj,ops[j]? =some oj:=by
   have hke:KE (jG P ops oi ρ):=aLQ;cases hx:ops[j]? with
   | some oj=>exact⟨oj,rfl⟩
   | none=>
    refine(hke.falls (hke.mono H λv h' hh=>?_) hr).elim;obtain⟨o,ho,_⟩:=hh.2 j hmemj (λx hx'=>hjr x (aIk hx'));rw[hx] at ho;cases ho
  obtain⟨oj,hoj⟩:=hoj;refine⟨oj,hoj,?_⟩;have hap:=Oper.apart_spec (L.apart i j oi oj hi hoj (Ne.symm hji) hbij hbji);have hp:=hpair j oj hj hji hoj hbji;have eT:∀u,jG P ops oi (upd ρ oj.dst u)=jG P ops oi ρ:=λu=>aMq hap.2.2;have eU:∀v,jG P ops oj (upd ρ oi.dst v)=jG P ops oj ρ:=λv=>aMq hap.1;have eC:∀v u,upd (upd ρ oi.dst v) oj.dst u=upd (upd ρ oj.dst u) oi.dst v:=λv u=>aQX hap.2.1;have eE:(rem.erase i).erase j=(rem.erase j).erase i:=List.erase_comm i j;have keT:KE (jG P ops oi ρ):=aLQ;have keU:KE (jG P ops oj ρ):=aLQ
  -- as it stands
  have H1:jG P ops oi ρ h λv h1=>AG P ops b i rem (upd ρ oi.dst v) h1∧jG P ops oj ρ h1 λu h2=>
    AG P ops b j (rem.erase i) (upd (upd ρ oj.dst u) oi.dst v) h2∧aEN P ops b k n ((rem.erase j).erase i) (upd (upd ρ oj.dst u) oi.dst v) h2:=by
   refine keT.mono H λv h1 hh=>⟨hh.1,?_⟩;obtain⟨o,ho,hstep⟩:=hh.2 j hmemj (λx hx'=>hjr x (aIk hx'));rw[hoj] at ho;cases ho;rw[eU v] at hstep;refine keU.mono hstep λu h2 hx=>?_;rw[eC,eE] at hx;exact hx
  -- a look of before
  have early:∀x ox,ops[x]? =some ox->kS P ox.op= .r->x∉rem->(∀d,oi.dst=some d->d∉ox.looksAt ops)∧(∀d,oi.dst=some d->ox.dst≠some d)∧(∀d,oj.dst=some d->d∉ox.looksAt ops)∧(∀d,oj.dst=some d->ox.dst≠some d):=by
   intro x ox hox hcx hx;have nxi:x≠i:=λe=>hx (e▸hmem);have nxj:x≠j:=λe=>hx (e▸hj);exact⟨L.look x i ox oi hox hi hcx (λ_=>hdc x hx i hmem),L.one x i ox oi hox hi hcx nxi,L.look x j ox oj hox hoj hcx (λ_=>hdc x hx j hj),L.one x j ox oj hox hoj hcx nxj⟩
  -- what is wanted
  have W:jG P ops oj ρ h λu h1=>AG P ops b j rem (upd ρ oj.dst u) h1∧jG P ops oi ρ h1 λv h2=>
    AG P ops b i (rem.erase j) (upd (upd ρ oj.dst u) oi.dst v) h2∧aEN P ops b k n ((rem.erase j).erase i) (upd (upd ρ oj.dst u) oi.dst v) h2:=by
   have agI:∀v u h1,(kS P oj.op= .p∨kS P oj.op= .a)->AG P ops b i rem (upd ρ oi.dst v) h1->AG P ops b i (rem.erase j) (upd (upd ρ oj.dst u) oi.dst v) h1:=by
    intro v u h1 hcj hag oi' hi' hce x ox hox hcx hx hxi hb;have hxr:x∉rem:=λhm=>by
     by_cases e:x=j
     ·subst e;rw[hoj] at hox;cases hox;rcases hcj with hcj|hcj<;>rw[hcj] at hcx<;>cases hcx
     ·exact hx ((List.mem_erase_of_ne e).2 hm)
    obtain⟨_,_,l2,d2⟩:=early x ox hox hcx hxr;rw[←eC,aLe l2 d2];exact hag oi' hi' hce x ox hox hcx hxr hxi hb
   have agI0:kS P oi.op≠ .e->∀rem ρ h,AG P ops b i rem ρ h:=λhc rem ρ h oi' hi' hce=>by rw[hi] at hi';cases hi';exact absurd hce hc
   have agJ0:kS P oj.op≠ .e->∀rem ρ h,AG P ops b j rem ρ h:=λhc rem ρ h oj' hj' hce=>by rw[hoj] at hj';cases hj';exact absurd hce hc
   -- from behind both to behind the second alone
   have agJ:∀v u h2,AG P ops b j (rem.erase i) (upd (upd ρ oj.dst u) oi.dst v) h2->AG P ops b j rem (upd ρ oj.dst u) h2:=by
    intro v u h2 hag oj' hj' hce x ox hox hcx hx hxj hb;obtain⟨l1,d1,_,_⟩:=early x ox hox hcx hx;have:=hag oj' hj' hce x ox hox hcx (λhm=>hx (aIk hm)) hxj hb
    rwa [aLe l1 d1] at this
   cases ci:kS P oi.op with
   | p=>
    have hne:kS P oi.op≠ .e:=by rw[ci];intro h;cases h
    obtain⟨x,hx⟩:=aKV (ops:=ops) (ρ:=ρ) ci;obtain⟨v,e,hv⟩:=eV.1 ((hx _ _).1 H1);exact keU.mono hv.2 λu h2 hh=>⟨agJ v u h2 hh.1,(hx _ _).2 (eV.2 ⟨v,e,agI0 hne _ _ _,hh.2⟩)⟩
   | r=>
    have hne:kS P oi.op≠ .e:=by rw[ci];intro h;cases h
    have hx:=λh kv=>aMQ (P:=P) (ops:=ops) (ρ:=ρ) ci h kv;obtain⟨v,e,hv⟩:=eV.1 ((hx _ _).1 H1);by_cases cj:kS P oj.op= .e
    ·refine keU.mono hv.2 λu h2 hh=>⟨agJ v u h2 hh.1,(hx _ _).2 (eV.2 ⟨v,?_,agI0 hne _ _ _,hh.2⟩)⟩;have hf:=hh.1 oj hoj cj i oi hi ci (λhm=>(List.Nodup.mem_erase_iff hnd).1 hm |>.1 rfl) (Ne.symm hji) hbji;have hself:=L.look i i oi oi hi hi ci (λe=>absurd rfl e);have hjl:=hap.2.2;unfold aLc at e ⊢;split at e
     ·rename_i hw;rw[if_pos hw];obtain⟨d,hd⟩:=Option.isSome_iff_exists.1 (L.own i oi hi ci);have hw2:aAW ops oi (upd (upd ρ oj.dst u) oi.dst v)=true:=by
       unfold aAW at hw ⊢;cases hg:oi.guard with
       | none=>rfl
       | some gw=>obtain⟨g,want⟩:=gw;simp only[hg] at hw;simp only[aGt hg hself,aGt hg hjl];exact hw
      have:=hf hw2;rw[aJU hself,aJU hjl,hd] at this;simpa[upd] using this
     ·rename_i hw;rw[if_neg hw];exact e
    ·cases cj':kS P oj.op with
     | e=>exact absurd cj' cj
     | p=>
      obtain⟨y,hy⟩:=aKV (ops:=ops) (ρ:=ρ) cj';obtain⟨u,e',hu⟩:=eV.1 ((hy _ _).1 hv.2);exact(hy _ _).2 (eV.2 ⟨u,e',agJ0 cj _ _ _,(hx _ _).2 (eV.2 ⟨v,e,agI0 hne _ _ _,hu.2⟩)⟩)
     | r=>
      have hy:=λh kv=>aMQ (P:=P) (ops:=ops) (ρ:=ρ) cj' h kv;obtain⟨u,e',hu⟩:=eV.1 ((hy _ _).1 hv.2);exact(hy _ _).2 (eV.2 ⟨u,e',agJ0 cj _ _ _,(hx _ _).2 (eV.2 ⟨v,e,agI0 hne _ _ _,hu.2⟩)⟩)
     | a=>
      have H2:jG P ops oi ρ h λv h1=>jG P ops oj ρ h1 λu h2=>aEN P ops b k n ((rem.erase j).erase i) (upd (upd ρ oj.dst u) oi.dst v) h2:=
       keT.mono H1 λv h1 hh=>keU.mono hh.2 λu h2 h3=>h3.2
      have H3:jG P ops oj ρ h λu h1=>jG P ops oi ρ h1 λv h2=>aEN P ops b k n ((rem.erase j).erase i) (upd (upd ρ oj.dst u) oi.dst v) h2:=by
       rcases aKI (P:=P) (ops:=ops) (ρ:=ρ) cj' with ha|hp'
       ·exact aUq (aUB ci) ha H2
       ·exact aFw keT hp' hr H2
      exact keU.mono H3 λu h1 hh=>⟨agJ0 cj _ _ _,keT.mono hh λv h2 h3=>⟨agI0 hne _ _ _,h3⟩⟩
   | a=>
    have hne:kS P oi.op≠ .e:=by rw[ci];intro h;cases h
    have cj:kS P oj.op≠ .e:=by intro hc;rw[ci,hc] at hp;cases hp
    have H2:jG P ops oi ρ h λv h1=>jG P ops oj ρ h1 λu h2=>aEN P ops b k n ((rem.erase j).erase i) (upd (upd ρ oj.dst u) oi.dst v) h2:=
     keT.mono H1 λv h1 hh=>keU.mono hh.2 λu h2 h3=>h3.2
    have H3:jG P ops oj ρ h λu h1=>jG P ops oi ρ h1 λv h2=>aEN P ops b k n ((rem.erase j).erase i) (upd (upd ρ oj.dst u) oi.dst v) h2:=by
     cases cj':kS P oj.op with
     | e=>exact absurd cj' cj
     | p=>exact aFw keT (aKV cj') hr H2
     | r=>rw[ci,cj'] at hp;cases hp
     | a=>
      rcases aKI (P:=P) (ops:=ops) (ρ:=ρ) ci with hti|hti
      ·rcases aKI (P:=P) (ops:=ops) (ρ:=ρ) cj' with ha|hp'
       ·exact aUi hti ha hr H2
       ·exact aFw keT hp' hr H2
      ·exact aWO hti keU H2
    exact keU.mono H3 λu h1 hh=>⟨agJ0 cj _ _ _,keT.mono hh λv h2 h3=>⟨agI0 hne _ _ _,h3⟩⟩
   | e=>
    have cj:kS P oj.op= .p∨kS P oj.op= .a:=by
     cases cj':kS P oj.op with
     | p=>exact .inl rfl
     | a=>exact .inr rfl
     | r=>rw[ci,cj'] at hp;cases hp
     | e=>rw[ci,cj'] at hp;cases hp
    have cj0:kS P oj.op≠ .e:=by rcases cj with cj|cj<;>rw[cj]<;>intro h<;>cases h
    have H2:jG P ops oi ρ h λv h1=>jG P ops oj ρ h1 λu h2=>AG P ops b i (rem.erase j) (upd (upd ρ oj.dst u) oi.dst v) h2∧aEN P ops b k n ((rem.erase j).erase i) (upd (upd ρ oj.dst u) oi.dst v) h2:=by
     refine keT.mono H1 λv h1 hh=>?_;have kp:KP (jG P ops oj ρ)->jG P ops oj ρ h1 λu h2=>AG P ops b i (rem.erase j) (upd (upd ρ oj.dst u) oi.dst v) h2∧aEN P ops b k n ((rem.erase j).erase i) (upd (upd ρ oj.dst u) oi.dst v) h2:=by
      rintro⟨y,hy⟩;obtain⟨u,e,hu⟩:=eV.1 ((hy _ _).1 hh.2);exact(hy _ _).2 (eV.2 ⟨u,e,agI v u h1 cj hh.1,hu.2⟩)
     rcases cj with cp|ca
     ·exact kp (aKV cp)
     ·rcases aKI (P:=P) (ops:=ops) (ρ:=ρ) ca with⟨y,hy⟩|hp'
      ·obtain⟨z,e,hz⟩:=eV.1 ((hy _ _).1 hh.2);refine(hy _ _).2 (eV.2 ⟨z,e,λr hn=>?_⟩);obtain⟨u,e2,hu⟩:=eV.1 (hz r hn);refine eV.2 ⟨u,e2,?_,hu.2⟩;intro oi' hi' hce x ox hox hcx hx hxi hb;exact aQS (L.own x ox hox hcx) (agI v u h1 (.inr ca) hh.1 oi' hi' hce x ox hox hcx hx hxi hb) hn
      ·exact kp hp'
    have H3:jG P ops oj ρ h λu h1=>jG P ops oi ρ h1 λv h2=>AG P ops b i (rem.erase j) (upd (upd ρ oj.dst u) oi.dst v) h2∧aEN P ops b k n ((rem.erase j).erase i) (upd (upd ρ oj.dst u) oi.dst v) h2:=by
     rcases cj with cp|ca
     ·exact aFw keT (aKV cp) hr H2
     ·rcases aKI (P:=P) (ops:=ops) (ρ:=ρ) ca with ha|hp'
      ·exact aVB keT ha hr H2
      ·exact aFw keT hp' hr H2
    exact keU.mono H3 λu h1 hh=>⟨agJ0 cj0 _ _ _,hh⟩
  refine keU.mono (keU.real W hr) λu h1 ⟨⟨hag,hst⟩,hr1⟩=>⟨hag,?_⟩;rw[←eT u] at hst;refine ih (rem.erase j) (upd ρ oj.dst u) h1 (by rw[List.length_erase_of_mem hj];omega) (hnd.erase j) ?_ hr1 hmemi (λx hx=>hrdy x (aIk hx)) (λj' oj' hj' hne ho hb=>hpair j' oj' (aIk hj') hne ho hb) hst;intro y hy x hx;by_cases e:y=j
  ·subst e;exact hjr x (aIk hx)
  ·exact hdc y (λhm=>hy ((List.mem_erase_of_ne e).2 hm)) x (aIk hx)
def aMT(P:Program)(ops:Array Oper):List Nat->kE->PH->Prop->Prop
 | [],_,_,K=>K
 | x::xs,ρ,h,K=>match ops[x]? with
  | none=>False
  | some o=>match o.guard with
   | none=>cB P h (sT ρ o)=o.dst.map ρ∧aMT P ops xs ρ h K
   | some (g,want)=>((aFt ops ρ g==some want)=true->cB P h (sT ρ o)=o.dst.map ρ)∧aMT P ops xs ρ h K
def aJX(P:Program)(ops:Array Oper)(b:Array Nat)(k:kE->PH->Prop):List Nat->List Nat->kE->PH->Prop
 | _,[],ρ,h=>k ρ h
 | pend,i::rest,ρ,h=>match ops[i]? with
  | none=>False
  | some o=>jG P ops o ρ h λv h'=>match kS P o.op with
   | .e=>aMT P ops (pend.filter λx=>!wR b i x) (upd ρ o.dst v) h' (aJX P ops b k pend rest (upd ρ o.dst v) h')
   | .r=>aJX P ops b k (i::pend) rest (upd ρ o.dst v) h'
   | _=>aJX P ops b k pend rest (upd ρ o.dst v) h'
def aQM(P:Program)(ops:Array Oper)(i:Nat):Cls:=match ops[i]? with
 | some o=>kS P o.op
 | none=>.e
def isR:Cls->Bool
 | .r=>true
 | _=>false
def aQN(P:Program)(ops:Array Oper)(b:Array Nat):List Nat->Bool
 | []=>true
 | i::rest=>!wR b i i&&rest.all (λj=>!wR b i j&&(wR b j i||aRz (aQM P ops i) (aQM P ops j)))&&aQN P ops b rest
def aQp(P:Program)(ops:Array Oper)(b:Array Nat):Bool:=
 (List.range ops.size).all λx=>(List.range ops.size).all λy=>match ops[x]?,ops[y]? with
  | some ox,some oy=>(x==y||wR b x y||wR b y x||ox.apart ops oy) &&
   (!isR (kS P ox.op)||((x !=y&&wR b x y)||match oy.dst with
    | none=>true
    | some d=>!(ox.looksAt ops).contains d)&&ox.dst.isSome&&(x==y||oy.dst.isNone||ox.dst !=oy.dst))
  | _,_=>true
def aQl(ops:Array Oper)(b:Array Nat):Bool:=
 (List.range ops.size).all λi=>match ops[i]? with
  | some o=>(o.after.all λe=>!Region.binds .any e||e.on<i) &&
   (List.range ops.size).all λx=>!wR b i x||o.after.any λe=>Region.binds .any e&&(e.on==x||wR b e.on x)
  | none=>true
def aNv:List Nat->Bool
 | []=>true
 | x::xs=>!xs.contains x&&aNv xs
def aO1(P:Program)(ops:Array Oper)(b:Array Nat)(ord:List Nat):Bool:=
 ord.length==ops.size&&b.size==ops.size&&ord.all (· < ops.size)&&(List.range ops.size).all (ord.contains ·)&&aNv ord&&aQN P ops b ord&&aQp P ops b&&aQl ops b
def aUV{P:Program}{ops:Array Oper}{b:Array Nat}(h:aQp P ops b=true):aTs P ops b:=by
 unfold aQp at h;simp only[aI1,aGT] at h;have lt:∀{x:Nat} {o:Oper},ops[x]? =some o->x<ops.size:=λh=>(aHZ.1 h).1;have key:∀(x y:Nat) (ox oy:Oper),ops[x]? =some ox->ops[y]? =some oy->((x==y||wR b x y||wR b y x||ox.apart ops oy) &&
   (!isR (kS P ox.op)||((x !=y&&wR b x y)||match oy.dst with
    | none=>true
    | some d=>!(ox.looksAt ops).contains d)&&ox.dst.isSome&&(x==y||oy.dst.isNone||ox.dst !=oy.dst)))=true:=by
  intro x y ox oy hx hy;have:=h x (lt hx) y (lt hy);simpa only[hx,hy] using this
 have isr:∀{c:Cls},c= .r->isR c=true:=λe=>by rw[e];rfl
 constructor
 ·intro x y ox oy hx hy hne h1 h2;have:=(rZ _ _▸key x y ox oy hx hy).1;simpa[hne,h1,h2] using this
 ·intro x y ox oy hx hy hc h1 d hd;have:=(rZ _ _▸key x y ox oy hx hy).2;rw[isr hc] at this;simp only[Bool.not_true,Bool.false_or,rZ,hd] at this;rcases aGZ _ _▸this.1.1 with h3|h3
  ·simp only[rZ,bne_iff_ne] at h3;rw[h1 h3.1] at h3;cases h3.2
  ·simpa using h3
 ·intro x ox hx hc;have:=(rZ _ _▸key x x ox ox hx hx).2;rw[isr hc] at this;simp only[Bool.not_true,Bool.false_or,rZ] at this;exact this.1.2
 ·intro x y ox oy hx hy hc hne d hd;have:=(rZ _ _▸key x y ox oy hx hy).2;rw[isr hc] at this;simp only[Bool.not_true,Bool.false_or,rZ] at this;have h3:=this.2;rw[hd] at h3;simpa[hne] using h3
def aNu{P:Program}{ops:Array Oper}{ρ:kE}{h:PH}{K:Prop}:∀{l:List Nat},aMT P ops l ρ h K->K∧∀x∈l,∃o,ops[x]? =some o∧aEP P ops o ρ h
 | [],hk=>⟨hk,λ_ hx=>by cases hx⟩
 | x::xs,hk=>by
  unfold aMT at hk;split at hk
  ·exact hk.elim
  ·rename_i o ho;have hboth:aEP P ops o ρ h∧aMT P ops xs ρ h K:=by
    unfold aEP aAW;cases hg:o.guard with
    | none=>simp only[hg] at hk;exact⟨λ_=>hk.1,hk.2⟩
    | some gw=>obtain⟨g,want⟩:=gw;simp only[hg] at hk;exact⟨λhw=>hk.1 hw,hk.2⟩
   obtain⟨hK,hrest⟩:=aNu hboth.2;exact⟨hK,λy hy=>by
    rcases iM.1 hy with rfl|hy
    ·exact⟨o,ho,hboth.1⟩
    ·exact hrest y hy⟩
def aTt{P:Program}{ops:Array Oper}{b:Array Nat}{k:kE->PH->Prop}(L:aTs P ops b):
  ∀(rest pend:List Nat) (ρ:kE) (h:PH),aQN P ops b rest=true->rest.Nodup->(∀y,y∉rest->∀x∈rest,wR b y x=false)->Rl h->
   (∀x ox,ops[x]? =some ox->kS P ox.op= .r->x∉rest->x∈pend)->aJX P ops b k pend rest ρ h->aEN P ops b k rest.length rest ρ h:=by
 intro rest;induction rest with
 | nil=>intro pend ρ h _ _ _ _ _ H;exact H
 | cons i rest ih=>
  intro pend ρ h hord hnd hdc hr hpend H;unfold aJX at H;split at H
  ·exact H.elim
  ·rename_i o hi;simp only[aQN,rZ,Bool.not_eq_true',aI1] at hord;obtain⟨⟨hii,hall⟩,hrest⟩:=hord;obtain⟨hnot,hnd'⟩:=aFX.1 hnd;have hrdy:∀x∈i::rest,wR b i x=false:=λx hx=>by
    rcases iM.1 hx with rfl|hx
    ·exact hii
    ·exact(hall x hx).1
   have hdc':∀y,y∉rest->∀x∈rest,wR b y x=false:=λy hy x hx=>by
    by_cases e:y=i
    ·subst e;exact(hall x hx).1
    ·exact hdc y (λhm=>by rcases iM.1 hm with hm|hm;exact e hm;exact hy hm) x (aKA _ hx)
   refine aRe L hi rest.length (i::rest) ρ h rfl hnd hdc hr (aMP) hrdy (λj oj hj hne hoj hb=>?_) ?_
   ·have hj':j∈rest:=(iM.1 hj).resolve_left hne;have:=(hall j hj').2;rw[hb,Bool.false_or] at this;simpa only[aQM,hi,hoj] using this
   ·have ke:KE (jG P ops o ρ):=aLQ;refine ke.mono (ke.real H hr) λv h' ⟨hh,hr'⟩=>?_;rw[List.erase_cons_head];cases hc:kS P o.op with
    | e=>
     simp only[hc] at hh;obtain⟨hK,hags⟩:=aNu hh;refine⟨λoi hoi hce x ox hox hcx hx hxi hb=>?_,ih pend _ _ hrest hnd' hdc' hr' (λx ox hox hcx hx=>?_) hK⟩
     ·obtain⟨o',ho',hf⟩:=hags x (zLY.2 ⟨hpend x ox hox hcx hx,by simp[hb]⟩);rw[hox] at ho';cases ho';exact hf
     ·refine hpend x ox hox hcx λhm=>?_;rcases iM.1 hm with rfl|hm
      ·rw[hi] at hox;cases hox;rw[hc] at hcx;cases hcx
      ·exact hx hm
    | r=>
     simp only[hc] at hh;refine⟨λoi hoi hce=>(by rw[hi] at hoi;cases hoi;rw[hc] at hce;cases hce),ih (i::pend) _ _ hrest hnd' hdc' hr' (λx ox hox hcx hx=>?_) hh⟩;by_cases e:x=i
     ·subst e;exact aMP
     ·exact aKA _ (hpend x ox hox hcx λhm=>by rcases iM.1 hm with hm|hm;exact e hm;exact hx hm)
    | p=>
     simp only[hc] at hh;refine⟨λoi hoi hce=>(by rw[hi] at hoi;cases hoi;rw[hc] at hce;cases hce),ih pend _ _ hrest hnd' hdc' hr' (λx ox hox hcx hx=>?_) hh⟩;refine hpend x ox hox hcx λhm=>?_;rcases iM.1 hm with rfl|hm
     ·rw[hi] at hox;cases hox;rw[hc] at hcx;cases hcx
     ·exact hx hm
    | a=>
     simp only[hc] at hh;refine⟨λoi hoi hce=>(by rw[hi] at hoi;cases hoi;rw[hc] at hce;cases hce),ih pend _ _ hrest hnd' hdc' hr' (λx ox hox hcx hx=>?_) hh⟩;refine hpend x ox hox hcx λhm=>?_;rcases iM.1 hm with rfl|hm
     ·rw[hi] at hox;cases hox;rw[hc] at hcx;cases hcx
     ·exact hx hm
structure xR(n:Nat)(D:List Deferred)(ρ:kE)(a:Act):Prop where
 defers:a.defers=D
 size:a.tmps.size=n
 slot:∀t,a.tmps.getD t undef=ρ t
def xR.ev{n:Nat}{D:List Deferred}{ρ:kE}{a:Act}(hm:xR n D ρ a):a.eval=ev ρ:=by
 funext x;cases x with
 | tmp t=>exact hm.slot t
 | _=>rfl
def xR.put{n:Nat}{D:List Deferred}{ρ:kE}{a:Act}(hm:xR n D ρ a){d:Option Tmp}(hd:∀t,d=some t->t<n)(v:Value):xR n D (upd ρ d v) (a.put d v):=by
 cases d with
 | none=>exact hm
 | some t=>
  refine⟨hm.defers,by simp[Act.put,hm.size],λs=>?_⟩;have ht:t<a.tmps.size:=by rw[hm.size];exact hd t rfl
  simp only[Act.put,upd,aEz,Array.getElem?_setIfInBounds];by_cases e:s=t
  ·subst e;simp[ht]
  ·rw[if_neg (Ne.symm e),if_neg e,←aEz];exact hm.slot s
def xR.want{n:Nat}{D:List Deferred}{ρ:kE}{a:Act}(hm:xR n D ρ a)(ops:Array Oper)(o:Oper):Region.wanted o (yielded ops a.tmps)=aAW ops o ρ:=by
 unfold Region.wanted aAW;cases hg:o.guard with
 | none=>rfl
 | some gw=>
  obtain⟨g,want⟩:=gw;have:yielded ops a.tmps g=aFt ops ρ g:=by
   unfold yielded aFt;cases hd:(ops[g]?).bind (·.dst) with
   | none=>rfl
   | some t=>
    have hs:=hm.slot t;simp only[yF];rw[aEz] at hs;cases hx:a.tmps[t]? with
    | none=>rw[hx] at hs;simp only[Option.getD_none] at hs;rw[←hs];rfl
    | some v=>rw[hx] at hs;simp only[Option.getD_some] at hs;rw[←hs];cases v<;>rfl
  simp only[this]
abbrev aFc(r:Option Nat):Fence:={Fence.wide with round:=r}
def aJN{r:Option Nat}{n:Nat}{P:Program}{f:FuncId}{args:Array Value}{w:World}{R:Ending->World->Prop}(h:Calls P f args w R):CallsIn (aFc r) n P f args w R:=
 (callsIn_wide (n:=n)).2 h
def aNj{r:Option Nat}{n m:Nat}{P:Program}{l:Nat}{f:FuncId}{tmps:Array Value}{assign body:Code}{w:World}{R:Ending->World->Prop}(h:RoundIn Fence.wide m P l f tmps assign body w R):RoundIn (aFc r) n P l f tmps assign body w R:=
 ⟨trivial,λc cs _=>h.2 c cs (room_wide _)⟩
def aP0{r:Option Nat}{N:Nat}{P:Program}{ops:Array Oper}{i:Nat}{o:Oper}{ρ:kE}{h:PH}{kv:cF}{n:Nat}{D:List Deferred}{a:Act}{w:World}{Q:Exit->Act->World->Prop}{K:Act->World->Prop}
  (hi:ops[i]? =some o) (hs:jG P ops o ρ h kv) (hm:xR n D ρ a) (hsub:oC h w) (hk:∀v h' w',kv v h'->oC h' w'->Fr h w h' w'->K (a.put o.dst v) w'):wpOpIn (aFc r) N P ops Q i K a w:=by
 unfold wpOpIn;simp only[hi];rw[xF] at hs;rw[hm.want];by_cases hw:aAW ops o ρ=true
 ·rw[if_pos hw] at hs ⊢;unfold Oper.wpIn;refine⟨λ_ _=>trivial,?_⟩;rw[Oper.semAt_eq _ _ _ hs.noDefer,hm.ev];obtain⟨x,w',h',hrun,hn,hs',hf⟩:=hs.exec.sound hsub;rw[hrun];cases x with
  | value v=>exact hk v h' w' hn hs' hf
  | skip=>exact hk undef h' w' hn hs' hf
  | enter f args=>
   refine⟨λh=>by simp[Fence.wide] at h,aJN ((hn w' hs').mono λe w2 ⟨v,h2,he,hv,hs2,hf2⟩=>?_)⟩;subst he;exact hk v h2 w2 hv hs2 (hf.trans hf2)
  | round l f tmps assign body=>
   refine⟨λh=>by simp[Fence.wide] at h,aNj (RoundIn.mono (hn w' hs') λe w2 ⟨v,h2,he,hv,hs2,hf2⟩=>?_)⟩;subst he;exact hk v h2 w2 hv hs2 (hf.trans hf2)
  | _=>exact hn.elim
 ·rw[if_neg hw] at hs ⊢;exact⟨λ_ _=>trivial,hk undef h w hs hsub (Fr.refl _ _)⟩
def aLC(n:Nat)(o:Oper):Bool:=match o.dst with
 | some d=>d<n
 | none=>true
def aRx{n:Nat}{o:Oper}(h:aLC n o=true):∀t,o.dst=some t->t<n:=by
 intro t ht;unfold aLC at h;rw[ht] at h;simpa using h
def aIP(b:Nat):Deferred:={target:=.collected b,args:=#[]}
def aAM(w0:World)(D:List Deferred)(h:PH)(w:World):Prop:=
 ∃bs:List Nat,bs.Nodup∧D=bs.map aIP∧∀b∈bs,w0.heap.size≤b∧b<w.heap.size∧h b=none∧w.heap[b]? =some (.deferred (some []))
def aAM.step{w0:World}{D:List Deferred}{h h':PH}{w w':World}(hd:aAM w0 D h w)(hf:Fr h w h' w'):aAM w0 D h' w':=by
 obtain⟨bs,h1,h2,h3⟩:=hd;refine⟨bs,h1,h2,λb hb=>?_⟩;obtain⟨a1,a2,a3,a4⟩:=h3 b hb;exact⟨a1,aML a2 hf.size,hf.none b a2 a3,(hf.far b a2 a3).trans a4⟩
def aAM.nil(w0:World)(h:PH)(w:World):aAM w0 [] h w:=⟨[],List.nodup_nil,rfl,λb hb=>by cases hb⟩
def QW(n:Nat)(Q:Exit->kE->PH->Prop)(h0:PH)(w0:World):Exit->Act->World->Prop:=λe a w=>∃ρ h D,Q e ρ h∧xR n D ρ a∧oC h w∧Fr h0 w0 h w∧aAM w0 D h w
def aV1{r:Option Nat}{N:Nat}{P:Program}{ops:Array Oper}{n:Nat}{D:List Deferred}{Q:Exit->kE->PH->Prop}{h0:PH}{w0:World}(hd:∀o∈ops,aLC n o=true):
  ∀(m k:Nat) (ρ:kE) (h:PH) (a:Act) (w:World),k+m=ops.size->aQ3 P ops (Q .normal) (ops.toList.drop k) ρ h->xR n D ρ a->oC h w->Fr h0 w0 h w->aAM w0 D h w->
   wpOpsIn (aFc r) N P ops (QW n Q h0 w0) (List.range' k m) a w:=by
 intro m;induction m with
 | zero=>
  intro k ρ h a w hk H hm hs hf hD;rw[aAr (by simp;omega)] at H;exact⟨ρ,h,D,H,hm,hs,hf,hD⟩
 | succ m ih=>
  intro k ρ h a w hk H hm hs hf hD;have hlt:k<ops.size:=by omega
  have hget:ops[k]? =some ops[k]:=Array.getElem?_eq_getElem hlt;rw[aA3 (by simpa using hlt)] at H;rw[List.range'_succ,wpOpsIn_cons];refine aP0 hget H hm hs λv h' w' hv hs' hf'=>?_;exact ih (k+1) _ _ _ _ (by omega) hv (hm.put (aRx (hd _ (Array.getElem_mem hlt))) v) hs' (hf.trans hf') (hD.step hf')
def aWK{r:Option Nat}{N:Nat}{P:Program}{ops:Array Oper}{b:Array Nat}{n:Nat}{D:List Deferred}{Q:Exit->kE->PH->Prop}{h0:PH}{w0:World}(hd:∀o∈ops,aLC n o=true)(hc:aQl ops b=true):
  ∀(m:Nat) (rem:List Nat) (listed:Array Bool) (ρ:kE) (h:PH) (a:Act) (w:World),rem.length=m->rem.Nodup->(∀x,x∈rem↔x<ops.size∧listed.getD x true=false)->listed.size=ops.size->
   (∀y,y∉rem->∀x∈rem,wR b y x=false)->aEN P ops b (Q .normal) m rem ρ h->xR n D ρ a->oC h w->Fr h0 w0 h w->aAM w0 D h w->
   wpAnyIn (aFc r) N P .any ops (QW n Q h0 w0) m listed a w:=by
 unfold aQl at hc;simp only[aI1,aGT] at hc;have hcl:∀(i:Nat) (o:Oper),ops[i]? =some o->(∀e∈o.after,Region.binds .any e=true->e.on<i)∧∀x,x<ops.size->wR b i x=true->∃e∈o.after,Region.binds .any e=true∧(e.on=x∨wR b e.on x=true):=by
  intro i o hi;have:=hc i (aHZ.1 hi).1;simp only[hi,rZ,aI1,aGT] at this;refine⟨λe he hb=>?_,λx hx hb=>?_⟩
  ·have h1:=Array.all_eq_true_iff_forall_mem.1 this.1 e he;simpa[hb] using h1
  ·have h1:=this.2 x hx;rw[hb] at h1;simp only[Bool.not_true,Bool.false_or] at h1;obtain⟨e,he,h2⟩:=Array.any_eq_true'.1 h1;simp only[rZ,aGZ,beq_iff_eq] at h2;exact⟨e,he,h2⟩
 intro m;induction m with
 | zero=>
  intro rem listed ρ h a w hlen hnd hrem hsz hdc H hm hs hf hD;have:rem=[]:=zLN hlen;subst this;refine⟨?_,ρ,h,D,H,hm,hs,hf,hD⟩;rw[List.eq_nil_iff_forall_not_mem];intro j hj;obtain⟨h1,o,ho,_⟩:=mem_ready.1 hj;have:=(hrem j).2 ⟨(aHZ.1 ho).1,h1⟩;cases this
 | succ m ih=>
  intro rem listed ρ h a w hlen hnd hrem hsz hdc H hm hs hf hD;have hlisted:∀x,x<ops.size->x∉rem->listed.getD x false=true:=by
   intro x hx hn;cases hv:listed.getD x true with
   | false=>exact absurd ((hrem x).2 ⟨hx,hv⟩) hn
   | true=>
    have hlt:x<listed.size:=by omega
    simpa[aEz,hlt] using hv
  refine⟨λhr=>?_,λi hir=>?_⟩
  ·-- the lowest one that is left may come up
   exfalso;have hne:rem≠[]:=λe=>by rw[e] at hlen;cases hlen
   have hmin:∃i∈rem,∀x∈rem,i≤x:=by
    clear hlen hnd hrem hdc H hlisted;induction rem with
    | nil=>exact absurd rfl hne
    | cons y ys ihy=>
     by_cases hys:ys=[]
     ·subst hys;exact⟨y,aMP,λx hx=>by simp at hx;omega⟩
     ·obtain⟨i,hi,hle⟩:=ihy hys;by_cases hyi:y≤i
      ·exact⟨y,aMP,λx hx=>by
        rcases iM.1 hx with rfl|hx
        ·omega
        ·have:=hle x hx;omega⟩
      ·exact⟨i,aKA _ hi,λx hx=>by
        rcases iM.1 hx with rfl|hx
        ·omega
        ·exact hle x hx⟩
   obtain⟨i,hi,hle⟩:=hmin;obtain⟨hlt,hun⟩:=(hrem i).1 hi;have:i∈Region.ready .any ops listed:=by
    rw[mem_ready];refine⟨hun,ops[i],Array.getElem?_eq_getElem hlt,λe he hb=>?_⟩;have hlt2:=(hcl i _ (Array.getElem?_eq_getElem hlt)).1 e he hb;exact hlisted _ (by omega) (λhm=>by have:=hle _ hm;omega)
   rw[hr] at this;cases this
  ·obtain⟨hun,o,ho,hall⟩:=mem_ready.1 hir;have hlt:=(aHZ.1 ho).1;have hmem:i∈rem:=(hrem i).2 ⟨hlt,hun⟩;have hrdy:∀x∈rem,wR b i x=false:=by
    intro x hx;cases hb:wR b i x with
    | false=>rfl
    | true=>
     exfalso;obtain⟨e,he,hbi,hor⟩:=(hcl i o ho).2 x ((hrem x).1 hx).1 hb;have hl:=hall e he hbi;have hlt2:=(hcl i o ho).1 e he hbi;have hne:e.on∉rem:=λhm=>by
      have:=((hrem _).1 hm).2;have hsz':e.on<listed.size:=by omega
      simp[aEz,hsz'] at this hl;rw[this] at hl;cases hl
     rcases hor with rfl|hor
     ·exact hne hx
     ·rw[hdc _ hne x hx] at hor;cases hor
   obtain⟨o',ho',hst⟩:=H i hmem hrdy;rw[ho] at ho';cases ho';refine aP0 ho hst hm hs λv h' w' hv hs' hf'=>?_;refine ih (rem.erase i) (listed.setIfInBounds i true) _ _ _ _ (by rw[List.length_erase_of_mem hmem];omega) (hnd.erase i) (λx=>?_) (by simpa using hsz) ?_ hv.2 (hm.put (aRx (hd _ (Array.mem_of_getElem? ho))) v) hs' (hf.trans hf') (hD.step hf')
   ·rw[hnd.mem_erase_iff,hrem];by_cases e:x=i
    ·subst e;have:x<listed.size:=by omega
     simp[aEz,this]
    ·rw[getD_set_ne true (Ne.symm e)];simp[e]
   ·intro y hy x hx;by_cases e:y=i
    ·subst e;exact hrdy x (aIk hx)
    ·exact hdc y (λhm'=>hy ((List.mem_erase_of_ne e).2 hm')) x (aIk hx)
def aUO{r:Option Nat}{N:Nat}{D:List Deferred}{P:Program}{id:Nat}{ops:Array Oper}{b:Array Nat}{ord:List Nat}{n:Nat}{Q:Exit->kE->PH->Prop}{h0:PH}{w0:World}{ρ:kE}{h:PH}{a:Act}{w:World}
  (hmix:P.follows .mixedOrders=true) (hd:∀o∈ops,aLC n o=true) (hok:aO1 P ops b ord=true) (H:aJX P ops b (Q .normal) [] ord ρ h) (hm:xR n D ρ a) (hs:oC h w) (hf:Fr h0 w0 h w) (hD:aAM w0 D h w):
  (Code.region id ops true).wpIn (aFc r) N P (QW n Q h0 w0) a w:=by
 unfold aO1 at hok;simp only[rZ,beq_iff_eq,aI1,decide_eq_true_eq] at hok;obtain⟨⟨⟨⟨⟨⟨⟨hlen,hbs⟩,hlt⟩,hcov⟩,hnd⟩,hord⟩,hlaid⟩,hclos⟩:=hok;have hnodup:ord.Nodup:=by
  clear hlen hlt hord H hcov;induction ord with
  | nil=>exact List.nodup_nil
  | cons x xs ih=>
   simp only[aNv,rZ,Bool.not_eq_true'] at hnd;exact aFX.2 ⟨by simpa using hnd.1,ih hnd.2⟩
 have hall:∀x,x<ops.size->x∈ord:=λx hx=>by simpa using hcov x (aGT.2 hx)
 have hdc:∀y,y∉ord->∀x∈ord,wR b y x=false:=by
  intro y hy x hx;have hge:ops.size≤y:=by
   rcases Nat.lt_or_ge y ops.size with h1|h1
   ·exact absurd (hall y h1) hy
   ·exact h1
  unfold wR;rw[aEz,Array.getElem?_eq_none (by omega)];simp
 refine wpIn_region_any hmix ?_;have hs1:oC h {w with drawn:=w.drawn+1}:=hs;have hf1:Fr h0 w0 h {w with drawn:=w.drawn+1}:=⟨hf.os,hf.tape,hf.output,zLE hf.drawn (Nat.le_succ _),hf.size,hf.far,hf.none⟩;have hany:=aTt (aUV hlaid) ord [] ρ h hord hnodup hdc ⟨w,hs⟩ (λx ox hox _ hx=>absurd (hall x (aHZ.1 hox).1) hx) H;rw[hlen] at hany;exact aWK hd hclos ops.size ord _ ρ h a _ hlen hnodup (λx=>by
  constructor
  ·intro hx;exact⟨hlt x hx,by simp[aEz,hlt x hx]⟩
  ·intro hx;exact hall x hx.1) (by simp) hdc hany hm hs1 hf1 hD
structure kD where
 b:Nat->Array Nat
 ord:Nat->List Nat
 keep:Nat->List Nat
 n:Nat:=0
def rW:Code->Nat
 | .region id _ _=>id
 | .seq x _=>rW x
 | .block _ c=>rW c
 | .loop c=>rW c
 | .scope c=>rW c
 | _=>0
abbrev QH:=Exit->kE->PH->Prop
abbrev aH3(next:kE->PH->Prop)(Q:QH):QH
 | .normal,ρ,h=>next ρ h
 | e,ρ,h=>Q e ρ h
abbrev aHB(id:Nat)(Q:QH):QH
 | .exit id',ρ,h=>if id'=id then Q .normal ρ h else Q (.exit id') ρ h
 | e,ρ,h=>Q e ρ h
abbrev aKS(Q:QH):QH
 | .goto _,_,_=>False
 | e,ρ,h=>Q e ρ h
def cN(v:Value)(A B:Prop):Prop:=match v with
 | .bool true=>A
 | .bool false=>B
 | _=>False
def gU(keep:List Nat)(step:(List Value->PH->Prop)->kE->PH->Prop)(vs:List Value)(h:PH):Prop:=
 ∃(I:fY) (μ:List Value->PH->Nat),I vs h∧∀ρ h,I (keep.map ρ) h->step (λvs' h'=>I vs' h'∧μ vs' h'<μ (keep.map ρ) h) ρ h
def aBp:Code->List Nat
 | .seq x y=>aBp x++aBp y
 | .cond _ x y=>aBp x++aBp y
 | .block _ c=>aBp c
 | .loop c=>aBp c
 | .scope c=>aBp c
 | .exit id=>[id]
 | _=>[]
def aT0(kn kr:PH->Prop)(ke:List (Nat×(PH->Prop)))(h:PH):Option Code->Prop
 | none=>kn h
 | some .ret=>kr h
 | some (.exit id)=>∃p∈ke,p.1=id∧p.2 h
 | _=>False
def aDI(P:Program)(n:Nat)(g:Value)(ps:Array Tmp)(assign body:Code)(kn kr:PH->Prop)(ke:List (Nat×(PH->Prop)))(vals:List (Nat×Value))(h:PH):Prop:=match g with
 | .func (.func gf) first captured=>aCb P gf=true∧∀(fn:FuncId) (tmps:Array Value) (l D:Nat),(∀p∈vals,tmps.getD p.1 undef=p.2)->tmps.size=n->h l=none->
   bW P gf (first ++ #[.func (.yield l) #[] #[]]++captured) (h.set l (.loop {state:=.ready,pending:=none,fn,tmps,params:=ps,assign,body,defers:=D}))
    λ_ h'=>cM P (Instr.endLoop l) h' λjump h2=>aT0 kn kr ke h2 jump
 | _=>False
def pV(P:Program)(ann:kD):Code->QH->kE->PH->Prop
 | .skip,Q,ρ,h=>Q .normal ρ h
 | .region _ ops false,Q,ρ,h=>aQ3 P ops (Q .normal) ops.toList ρ h
 | .region id ops true,Q,ρ,h=>aJX P ops (ann.b id) (Q .normal) [] (ann.ord id) ρ h
 | .seq x y,Q,ρ,h=>pV P ann x (aH3 (pV P ann y Q) Q) ρ h
 | .cond c x y,Q,ρ,h=>cN (ev ρ c) (pV P ann x Q ρ h) (pV P ann y Q ρ h)
 | .block id c,Q,ρ,h=>pV P ann c (aHB id Q) ρ h
 | .loop c,Q,ρ,h=>gU (ann.keep (rW c)) (λnext ρ h=>pV P ann c (aH3 (λρ' h'=>next ((ann.keep (rW c)).map ρ') h') Q) ρ h) ((ann.keep (rW c)).map ρ) h
 | .exit id,Q,ρ,h=>Q (.exit id) ρ h
 | .ret,Q,ρ,h=>Q .ret ρ h
 | .label _,Q,ρ,h=>Q .normal ρ h
 | .scope c,Q,ρ,h=>pV P ann c (aKS Q) ρ h
 | .rangeFunc g ps assign body,Q,ρ,h=>aDI P ann.n (ev ρ g) ps assign body (Q .normal ρ) (Q .ret ρ) ((aBp body).map λid=>(id,Q (.exit id) ρ)) ((ann.keep (rW body)).map λt=>(t,ρ t)) h
 | _,_,_,_=>False
def pX:Code->Bool
 | .seq x y=>pX x&&pX y
 | .cond _ x y=>pX x&&pX y
 | .block _ c=>pX c
 | .loop c=>pX c
 | .scope c=>pX c
 | .rangeFunc .. =>false
 | _=>true
def wM(P:Program)(ann:kD)(n:Nat):Code->Bool
 | .region _ ops false=>ops.all (aLC n)
 | .region id ops true=>ops.all (aLC n)&&aO1 P ops (ann.b id) (ann.ord id)
 | .seq x y=>wM P ann n x&&wM P ann n y
 | .cond _ x y=>wM P ann n x&&wM P ann n y
 | .block _ c=>wM P ann n c
 | .loop c=>wM P ann n c
 | .scope c=>wM P ann n c
 | .rangeFunc _ ps _ _=>ann.n==n
 | _=>true
def cB.run{P:Program}{α:Type}{s:Sem α}:∀{a:α} {h:PH},cB P h s=some a->∀{w:World},oC h w->s.run P w= .ok a w:=by
 induction s with
 | pure a=>intro b h hb w hs;simp only[cB,zL4] at hb;subst hb;rfl
 | load m a k ih=>intro b h hb w hs;obtain⟨v,hv,hb⟩:=aGP.1 hb;simp only[Sem.run,hs.cell hv];exact ih v hb hs
 | shape r k ih=>intro b h hb w hs;obtain⟨v,hv,hb⟩:=aGP.1 hb;simp only[Sem.run,hs.shape hv];exact ih v hb hs
 | frozen a k ih=>intro b h hb w hs;obtain⟨v,hv,hb⟩:=aGP.1 hb;simp only[Sem.run,hs.frozen hv];exact ih _ hb hs
 | program k ih=>intro b h hb w hs;exact ih P hb hs
 | mark m k ih=>intro b h hb w hs;exact ih hb hs
 | getObj r k ih=>
  intro b h hb w hs;simp only[cB] at hb;cases hx:h r with
  | none=>rw[hx] at hb;cases hb
  | some o=>
   rw[hx] at hb;simp only[Sem.run,hs _ _ hx];cases o<;>first|cases hb|exact ih _ hb hs
 | _=>intro b h hb;cases hb
def aPM{r:Option Nat}{N:Nat}{P:Program}{Q:Exit->Act->World->Prop}{c:Code}(I:Nat->Act->World->Prop)(round:∀n a w,I n a w->c.wpIn (aFc r) N P (Exit.then (λa' w'=>∃m,m<n∧I m a' w') Q) a w):
  ∀{n:Nat} {a:Act} {w:World},I n a w->(Code.loop c).wpIn (aFc r) N P Q a w:=by
 intro n a w h0;let J:Act->World->Prop:=λa w=>∃n,I n a w;have least:∀a w,J a w->∃n,I n a w∧∀m,I m a w->n≤m:=by
  intro a w ⟨n,hn⟩;induction n using Nat.strongRecOn with
  | _ n ih=>
   by_cases hx:∃m,m<n∧I m a w
   ·obtain⟨m,hlt,hm⟩:=hx;exact ih m hlt hm
   ·exact⟨n,hn,λm hm=>by
     rcases Nat.lt_or_ge m n with h1|h1
     ·exact absurd ⟨m,h1,hm⟩ hx
     ·exact h1⟩
 let μ:Act->World->Nat:=λa w=> @dite Nat (J a w) (Classical.propDecidable _) (λh=>Classical.choose (least a w h)) (λ_=>0);refine wpIn_loop J μ ⟨n,h0⟩ λa w hJ=>?_;have hμ:μ a w=Classical.choose (least a w hJ):=dif_pos hJ;have hsp:=Classical.choose_spec (least a w hJ);refine wpIn_mono (round _ a w hsp.1) λe a' w' he=>?_;cases e with
 | normal=>
  obtain⟨m,hlt,hm⟩:=he;have hJ':J a' w':=⟨m,hm⟩;have hμ':μ a' w'=Classical.choose (least a' w' hJ'):=dif_pos hJ';refine⟨hJ',?_⟩;rw[hμ,hμ'];exact Nat.lt_of_le_of_lt ((Classical.choose_spec (least a' w' hJ')).2 m hm) hlt
 | _=>exact he
def aBq{P:Program}{b:Frame}{a:Act}{k:List Item}{cs:List Frame}{w:World}{c:Code}:step P (lone (b.atR a (.code (.scope c)::k)) cs w)= .next (lone (b.atR a (.code c :: .inScope c::k)) cs w):=
 step_lone_go (by simp[stepG,stepG.exec,Frame.atR])
def aNl{P:Program}{b:Frame}{a:Act}{k:List Item}{cs:List Frame}{w:World}{c:Code}:step P (lone (b.atR a (.inScope c::k)) cs w)= .next (lone (b.atR a k) cs w):=
 step_lone_go (by simp[stepG,stepG.exec,Frame.atR])
def aJO{F:Fence}{n:Nat}{P:Program}{Q:Exit->Act->World->Prop}{a:Act}{w:World}{c:Code}(h:c.wpIn F n P (Exit.noGoto Q) a w):(Code.scope c).wpIn F n P Q a w:=by
 intro b k cs hro hb hr;have h0:(lone (b.atR a (.code (.scope c)::k)) cs w).fenced P F:=fenced_calm hb hr rfl;obtain⟨e,a₁,w₁,hq,harr⟩:=h b (.inScope c::k) cs hro hb hr;cases e with
 | normal=>exact⟨.normal,a₁,w₁,hq,.head h0 aBq (StepsIn.trans harr (.one (fenced_calm hb hr rfl) aNl))⟩
 | exit id=>
  have hx:exitTo id (.inScope c::k)=exitTo id k:=by simp[exitTo]
  exact⟨.exit id,a₁,w₁,hq,λk' hk=>.head h0 aBq (harr.1 k' (by rw[hx];exact hk)),
   λhr' hk=>let ⟨k₁,h1,h2⟩:=harr.2 hr' (by rw[hx];exact hk);⟨k₁,h1,.head h0 aBq h2⟩⟩
 | goto l=>exact hq.elim
 | ret=>exact⟨_,a₁,w₁,hq,.of_steps (.one h0 aBq) harr⟩
 | panic ch=>exact⟨_,a₁,w₁,hq,.of_steps (.one h0 aBq) harr⟩
 | outgrown=>exact⟨_,a₁,w₁,hq,.of_steps (.one h0 aBq) harr⟩
def aDI.sound{N:Nat}{P:Program}{n:Nat}{D:List Deferred}{h0:PH}{w0:World}{g:Operand}{ps:Array Tmp}{assign body:Code}{Q:QH}{ρ:kE}{h:PH}{vs:List Nat}
  (H:aDI P n (ev ρ g) ps assign body (Q .normal ρ) (Q .ret ρ) ((aBp body).map λid=>(id,Q (.exit id) ρ)) (vs.map λt=>(t,ρ t)) h) {a:Act} {w:World} (hm:xR n D ρ a) (hs:oC h w) (hf:Fr h0 w0 h w) (hD:aAM w0 D h w):
  (Code.rangeFunc g ps assign body).wpIn (aFc none) N P (QW n Q h0 w0) a w:=by
 unfold aDI at H;split at H
 case h_2=>exact H.elim
 rename_i gf first captured hg
 obtain⟨he,H⟩:=H;refine wpIn_rangeFunc λfn _=>?_;have hs1:oC h (w.alloc (.deferred (some []))):=λb o hb=>by
  have:=hs b o hb;show(w.heap.push _)[b]? =some o;rw[Array.getElem?_push,if_neg (Nat.ne_of_lt (hs.lt hb))];exact this
 have hf1:Fr h w h (w.alloc (.deferred (some []))):=⟨rfl,rfl,rfl,mS _,by rw[World.size_alloc];omega,λb hb _=>by
  show(w.heap.push _)[b]? =_;rw[Array.getElem?_push,if_neg (Nat.ne_of_lt hb)],λ_ _ hn=>hn⟩
 have hfr:h (w.alloc (.deferred (some []))).heap.size=none:=hs1.fresh;have hsz:(w.alloc (.deferred (some []))).heap.size=w.heap.size+1:=World.size_alloc _ _;have hc:=H fn a.tmps (w.alloc (.deferred (some []))).heap.size w.heap.size (λp hp=>by obtain⟨t,_,rfl⟩:=pQ.1 hp;exact hm.slot t) hm.size hfr;have hn2:oC (h.set (w.alloc (.deferred (some []))).heap.size (.loop {state:=.ready,pending:=none,fn,tmps:=a.tmps,params:=ps,assign,body,defers:=w.heap.size})) ((w.alloc (.deferred (some []))).alloc (.loop {state:=.ready,pending:=none,fn,tmps:=a.tmps,params:=ps,assign,body,defers:=w.heap.size}))∧Fr h (w.alloc (.deferred (some []))) (h.set (w.alloc (.deferred (some []))).heap.size (.loop {state:=.ready,pending:=none,fn,tmps:=a.tmps,params:=ps,assign,body,defers:=w.heap.size})) ((w.alloc (.deferred (some []))).alloc (.loop {state:=.ready,pending:=none,fn,tmps:=a.tmps,params:=ps,assign,body,defers:=w.heap.size})):=hs1.new (.loop {state:=.ready,pending:=none,fn,tmps:=a.tmps,params:=ps,assign,body,defers:=w.heap.size});have g3:((w.alloc (.deferred (some []))).alloc (.loop {state:=.ready,pending:=none,fn,tmps:=a.tmps,params:=ps,assign,body,defers:=w.heap.size})).heap[w.heap.size]? =some (.deferred (some [])):=by
  show((w.heap.push _).push _)[w.heap.size]? =_;rw[Array.getElem?_push,if_neg (by simp),Array.getElem?_push,if_pos rfl]
 have g4:w.heap.size<((w.alloc (.deferred (some []))).alloc (.loop {state:=.ready,pending:=none,fn,tmps:=a.tmps,params:=ps,assign,body,defers:=w.heap.size})).heap.size:=by rw[World.size_alloc,World.size_alloc];omega
 have hent:(Instr.enterLoop fn a.tmps ps assign body none).run P w= .ok (w.heap.size+1,[aIP w.heap.size]) ((w.alloc (.deferred (some []))).alloc (.loop {state:=.ready,pending:=none,fn,tmps:=a.tmps,params:=ps,assign,body,defers:=w.heap.size})):=run_enterLoop_outer _ _ _ _ _;rw[hsz] at hc hn2;generalize (w.alloc (.deferred (some []))).alloc (.loop {state:=.ready,pending:=none,fn,tmps:=a.tmps,params:=ps,assign,body,defers:=w.heap.size})=w1 at hn2 g3 g4 hent;have hcw:=hc.calls he _ hn2.1;have heg:∀(args:Array Value) (w:World),(callFunc gf args).run P w= .ok (.enter gf args) w:=λargs w=>
  cB.run (h:=λ_=>none) (aGw he) (λ_ _ hb=>by cases hb)
 have hev:a.eval g= .func (.func gf) first captured:=by rw[hm.ev];exact hg
 have g2:(h.set (w.heap.size+1) (.loop {state:=.ready,pending:=none,fn,tmps:=a.tmps,params:=ps,assign,body,defers:=w.heap.size})) w.heap.size=none:=by
  unfold PH.set;rw[if_neg (by omega)];exact hs.fresh
 refine⟨w.heap.size+1,[aIP w.heap.size],w1,{target:=.fn (.func gf) captured,args:=first ++ #[.func (.yield (w.heap.size+1)) #[] #[]]},w1,gf,first ++ #[.func (.yield (w.heap.size+1)) #[] #[]]++captured,w1,?_,?_,?_,?_,?_,?_⟩
 ·exact hent
 ·simp only[resolve,rangeCall,hev];simp[Deferred.ofValue,Act.eval]
 ·intro f' _;trivial
 ·unfold invoke;exact heg _ _
 ·intro h;cases h
 ·refine aJN (hcw.mono λe w' hh=>?_);obtain⟨v,h',rfl,hse,hs',hf'⟩:=hh;obtain⟨jump,w4,h4,hrun,hj,hs4,hf4⟩:=hse.sound hs';have hf2:=hf'.trans hf4;have hfall:Fr h w h4 w4:=(hf1.trans hn2.2).trans hf2;have hD':aAM w0 (aIP w.heap.size::D) h4 w4:=by
   obtain⟨bs,b1,b2,b3⟩:=hD;refine⟨w.heap.size::bs,aFX.2 ⟨λhmem=>absurd (b3 _ hmem).2.1 (Nat.lt_irrefl _),b1⟩,by rw[b2];rfl,λb hb=>?_⟩;rcases iM.1 hb with rfl|hb
   ·exact⟨hf.size,aML g4 hf2.size,hf2.none _ g4 g2,(hf2.far _ g4 g2).trans g3⟩
   ·obtain⟨c1,c2,c3,c4⟩:=b3 b hb;exact⟨c1,aML c2 hfall.size,hfall.none b c2 c3,(hfall.far b c2 c3).trans c4⟩
  refine⟨jump,w4,hrun,?_⟩;have hm':xR n (aIP w.heap.size::D) ρ {a with defers:=[aIP w.heap.size]++a.defers}:=⟨by simp[hm.defers],hm.size,hm.slot⟩;unfold aT0 at hj;cases jump with
  | none=>exact⟨ρ,h4,_,hj,hm',hs4,hf.trans hfall,hD'⟩
  | some c=>
   cases c with
   | ret=>exact wpIn_ret ⟨ρ,h4,_,hj,hm',hs4,hf.trans hfall,hD'⟩
   | exit id=>
    obtain⟨p,hp,e1,e2⟩:=hj;obtain⟨id',_,rfl⟩:=pQ.1 hp;subst e1;exact wpIn_exit ⟨ρ,h4,_,e2,hm',hs4,hf.trans hfall,hD'⟩
   | _=>exact hj.elim
def pV.sound{r:Option Nat}{N:Nat}{P:Program}{ann:kD}{n:Nat}(hmix:P.follows .mixedOrders=true){h0:PH}{w0:World}:∀(c:Code) {Q:QH} {ρ:kE} {h:PH},wM P ann n c=true->(r=none∨pX c=true)->pV P ann c Q ρ h->
  ∀{D:List Deferred} {a:Act} {w:World},xR n D ρ a->oC h w->Fr h0 w0 h w->aAM w0 D h w->c.wpIn (aFc r) N P (QW n Q h0 w0) a w:=by
 intro c;induction c with
 | skip=>intro Q ρ h _ _ H D a w hm hs hf hD;exact wpIn_skip ⟨ρ,h,D,H,hm,hs,hf,hD⟩
 | region id ops d=>
  intro Q ρ h hb _ H D a w hm hs hf hD;cases d with
  | false=>
   refine wpIn_region ?_;rw[List.range_eq_range'];exact aV1 (λo ho=>Array.all_eq_true_iff_forall_mem.1 hb o ho) ops.size 0 ρ h a w (by omega) (by simpa[pV] using H) hm hs hf hD
  | true=>
   simp only[wM,rZ] at hb;exact aUO hmix (λo ho=>Array.all_eq_true_iff_forall_mem.1 hb.1 o ho) hb.2 H hm hs hf hD
 | seq x y ihx ihy=>
  intro Q ρ h hb hr H D a w hm hs hf hD;simp only[wM,rZ] at hb;have hr':(r=none∨pX x=true)∧(r=none∨pX y=true):=by simp only[pX,rZ] at hr;rcases hr with e|⟨e1,e2⟩;exact⟨.inl e,.inl e⟩;exact⟨.inr e1,.inr e2⟩
  refine wpIn_seq (wpIn_mono (ihx hb.1 hr'.1 H hm hs hf hD) λe a' w' ⟨ρ',h',D',hq,hm',hs',hf',hD'⟩=>?_);cases e with
  | normal=>exact ihy hb.2 hr'.2 hq hm' hs' hf' hD'
  | _=>exact⟨ρ',h',D',hq,hm',hs',hf',hD'⟩
 | cond c x y ihx ihy=>
  intro Q ρ h hb hr H D a w hm hs hf hD;simp only[wM,rZ] at hb;have hr':(r=none∨pX x=true)∧(r=none∨pX y=true):=by simp only[pX,rZ] at hr;rcases hr with e|⟨e1,e2⟩;exact⟨.inl e,.inl e⟩;exact⟨.inr e1,.inr e2⟩
  have he:a.eval c=ev ρ c:=by rw[hm.ev]
  unfold pV cN at H;split at H
  ·rename_i hv;exact wpIn_cond_true (he.trans hv) (ihx hb.1 hr'.1 H hm hs hf hD)
  ·rename_i hv;exact wpIn_cond_false (he.trans hv) (ihy hb.2 hr'.2 H hm hs hf hD)
  ·exact H.elim
 | block id c ih=>
  intro Q ρ h hb hr H D a w hm hs hf hD;refine wpIn_block (wpIn_mono (ih hb hr H hm hs hf hD) λe a' w' ⟨ρ',h',D',hq,hm',hs',hf',hD'⟩=>?_);cases e with
  | exit id'=>
   simp only[Exit.inBlock,aHB] at hq ⊢;split
   ·rename_i e;rw[if_pos e] at hq;exact⟨ρ',h',D',hq,hm',hs',hf',hD'⟩
   ·rename_i e;rw[if_neg e] at hq;exact⟨ρ',h',D',hq,hm',hs',hf',hD'⟩
  | _=>exact⟨ρ',h',D',hq,hm',hs',hf',hD'⟩
 | loop c ih=>
  intro Q ρ h hb hr H D a w hm hs hf hD;obtain⟨I,μ,hI,hround⟩:=H;generalize ann.keep (rW c)=keep at *;refine aPM (λm a w=>∃ρ h D,I (keep.map ρ) h∧μ (keep.map ρ) h=m∧xR n D ρ a∧oC h w∧Fr h0 w0 h w∧aAM w0 D h w) (λm a w ⟨ρ,h,D,hI,hμ,hm,hs,hf,hD⟩=>?_) (n:=μ (keep.map ρ) h) ⟨ρ,h,D,hI,rfl,hm,hs,hf,hD⟩;refine wpIn_mono (ih hb hr (hround ρ h hI) hm hs hf hD) λe a' w' ⟨ρ',h',D',hq,hm',hs',hf',hD'⟩=>?_;cases e with
  | normal=>exact⟨_,hμ▸hq.2,ρ',h',D',hq.1,rfl,hm',hs',hf',hD'⟩
  | _=>exact⟨ρ',h',D',hq,hm',hs',hf',hD'⟩
 | exit id=>intro Q ρ h _ _ H D a w hm hs hf hD;exact wpIn_exit ⟨ρ,h,D,H,hm,hs,hf,hD⟩
 | scope c ih=>
  intro Q ρ h hb hr H D a w hm hs hf hD;refine aJO (wpIn_mono (ih hb hr H hm hs hf hD) λe a' w' ⟨ρ',h',D',hq,hm',hs',hf',hD'⟩=>?_);cases e with
  | goto l=>exact hq
  | _=>exact⟨ρ',h',D',hq,hm',hs',hf',hD'⟩
 | label l=>intro Q ρ h _ _ H D a w hm hs hf hD;exact wpIn_label ⟨ρ,h,D,H,hm,hs,hf,hD⟩
 | ret=>intro Q ρ h _ _ H D a w hm hs hf hD;exact wpIn_ret ⟨ρ,h,D,H,hm,hs,hf,hD⟩
 | rangeFunc f ps x y ih1 ih2=>
  intro Q ρ h hb hr H D a w hm hs hf hD;rcases hr with rfl|hr
  ·simp only[wM,beq_iff_eq] at hb;unfold pV at H;rw[hb] at H;exact aDI.sound H hm hs hf hD
  ·cases hr
 | goto l=>intro Q ρ h _ _ H;exact H.elim
 | refuse s=>intro Q ρ h _ _ H;exact H.elim
def aSA(P:Program)(l:Nat)(kv:cF):QH
 | .normal,_,h=>cM P (Instr.endRound l none) h kv
 | .ret,_,h=>cM P (Instr.endRound l (some .ret)) h kv
 | .exit id,_,h=>cM P (Instr.endRound l (some (.exit id))) h kv
 | _,_,_=>False
def aOF(P:Program)(ann:kD)(l:Nat)(assign body:Code)(kv:cF)(ρ:kE)(h:PH):Prop:=
 pV P ann assign (λe ρ h=>match e with
  | .normal=>cM P (Instr.beginRound l) h λ_ h'=>pV P ann body (aSA P l kv) ρ h'
  | _=>False) ρ h
def aOF.next{P:Program}(ann:kD)(hmix:P.follows .mixedOrders=true){l:Nat}{f:FuncId}{tmps:Array Value}{assign body:Code}{kv:cF}{h:PH}
  (hA:(wM P ann tmps.size assign&&pX assign&&wM P ann tmps.size body&&pX body)=true) (H:aOF P ann l assign body kv (λt=>tmps.getD t undef) h):
  rI P (.round l f tmps assign body) h kv:=by
 simp only[rZ] at hA;obtain⟨⟨⟨a1,a2⟩,a3⟩,a4⟩:=hA;intro w hs;refine roundIn_of_wpIn trivial (wpIn_mono (pV.sound (r:=some l) (D:=[]) hmix assign a1 (.inr a2) H ⟨rfl,rfl,λ_=>rfl⟩ hs (Fr.refl h w) (aAM.nil _ _ _)) λe a' w' ⟨ρ',h',D',hq,hm',hs',hf',hD'⟩=>?_);cases e with
 | normal=>
  obtain⟨u,w2,h2,hrun,hb,hs2,hf2⟩:=hq.sound hs';refine⟨w2,hrun,wpIn_mono (pV.sound (r:=some l) hmix body a3 (.inr a4) hb hm' hs2 (hf'.trans hf2) (hD'.step hf2)) λe a3 w3 ⟨ρ3,h3,D3,hq3,hm3,hs3,hf3,hD3⟩=>?_⟩;cases e with
  | normal=>obtain⟨v,w4,h4,hrun4,hk,hs4,hf4⟩:=cM.sound hq3 hs3;exact⟨v,w4,hrun4,v,h4,rfl,hk,hs4,hf3.trans hf4⟩
  | ret=>obtain⟨v,w4,h4,hrun4,hk,hs4,hf4⟩:=cM.sound hq3 hs3;exact⟨v,w4,hrun4,v,h4,rfl,hk,hs4,hf3.trans hf4⟩
  | exit id=>obtain⟨v,w4,h4,hrun4,hk,hs4,hf4⟩:=cM.sound hq3 hs3;exact⟨v,w4,hrun4,v,h4,rfl,hk,hs4,hf3.trans hf4⟩
  | _=>exact hq3.elim
 | _=>exact hq.elim
def aMY(P:Program)(ρ:kE)(h:PH):List ResultVar->(List Value->Prop)->Prop
 | [],k=>k []
 | .tmp t::rs,k=>aMY P ρ h rs λvs=>k (ρ t::vs)
 | .cell a t::rs,k=>bZ (cB P h (loadAt t (ρ a))) λv=>aMY P ρ h rs λvs=>k (v::vs)
def aQP:List Value->Value
 | [v]=>v
 | vs=>.tuple vs.toArray
def aS1(P:Program)(fn:Func)(ρ:kE)(h:PH)(R:cF):Prop:=aMY P ρ h fn.results.toList λvs=>R (aQP vs) h
def aQL(tmps:Array Value):ResultVar->Sem Value
 | .tmp t=>pure (tmps.getD t undef)
 | .cell x t=>do loadVar t (←asAddr (tmps.getD x undef))
def aMY.run{P:Program}{ρ:kE}{h:PH}{n:Nat}{D:List Deferred}{a:Act}{w:World}(hm:xR n D ρ a)(hs:oC h w):∀(l:List ResultVar) {k:List Value->Prop},aMY P ρ h l k->
  ∃vs,k vs∧(l.mapM (m:=Sem) (aQL a.tmps)).run P w= .ok vs w:=by
 intro l;induction l with
 | nil=>intro k H;exact⟨[],H,rfl⟩
 | cons r rs ih=>
  intro k H;cases r with
  | tmp t=>
   obtain⟨vs,hk,hr⟩:=ih H;refine⟨_,hk,?_⟩;have h1:(aQL a.tmps (.tmp t)).run P w= .ok (ρ t) w:=by
    show(pure (a.tmps.getD t undef):Sem Value).run P w=_;rw[hm.slot];rfl
   rw[List.mapM_cons];simp only[Sem.run_bind,Sem.run_pure,Result.andThen_ok,h1,hr]
  | cell x t=>
   obtain⟨v,hv,H'⟩:=eV.1 H;obtain⟨vs,hk,hr⟩:=ih H';refine⟨_,hk,?_⟩;rw[List.mapM_cons];have h1:(aQL a.tmps (.cell x t)).run P w= .ok v w:=by
    have h2:=cB.run hv hs;show(do loadVar t (←asAddr (a.tmps.getD x undef)):Sem Value).run P w=_;rw[hm.slot];unfold loadAt Instr.sureAddr at h2;generalize ρ x=y at *;cases y with
    | pointer p=>cases p with
     | none=>exact absurd hv (by intro hc;cases hc)
     | some p=>exact h2
    | _=>exact absurd hv (by intro hc;cases hc)
   simp only[Sem.run_bind,Sem.run_pure,Result.andThen_ok,h1,hr]
def aSJ{P:Program}{f:FuncId}{fn:Func}{c:Code}(ann:kD)(hmix:P.follows .mixedOrders=true)(hf:P.funcs[f]? =some fn)(hb:fn.body=some c)(hen:aCb P f=true)(hB:wM P ann fn.ntmps c=true)
  {args:Array Value} (hargs:args.size≤fn.ntmps) {h:PH} {R:cF}
  (H:pV P ann c (λe ρ h=>match e with
   | .normal | .ret=>aS1 P fn ρ h R
   | _=>False) (λt=>args.getD t undef) h):bW P f args h R:=by
 refine .inl ⟨hen,λw hs=>(callsIn_wide (n:=0)).1 (callsIn_of_wp_marks hf hb trivial ?_)⟩;have hm:xR fn.ntmps [] (λt=>args.getD t undef) {tmps:=args++Array.replicate (fn.ntmps-args.size) undef,defers:=[]}:=by
  refine⟨rfl,by simp;omega,λt=>?_⟩;simp only[aEz,Array.getElem?_append,Array.getElem?_replicate];by_cases hlt:t<args.size
  ·simp[hlt]
  ·rw[if_neg hlt];have:args[t]? =none:=Array.getElem?_eq_none (by omega);rw[this];split<;>rfl
 refine wpIn_mono (pV.sound (r:=none) hmix c hB (.inl rfl) H hm hs (Fr.refl _ _) (aAM.nil w h w)) λe a' w' ⟨ρ',h',D',hq,hm',hs',hf',hD'⟩=>?_;have fin:∀(ds:List Deferred) (w':World),oC h' w'->Fr h w h' w'->aAM w ds h' w'->aS1 P fn ρ' h' R->LeavesInM Fence.wide 0 P fn a'.tmps (λe w'=>∃v h',e= .returned v∧R v h'∧oC h' w'∧Fr h w h' w') ds .returning w':=by
  intro ds;induction ds with
  | nil=>
   intro w' hs' hf' _ hr;obtain⟨vs,hk,hrun⟩:=aMY.run hm' hs' fn.results.toList hr;refine⟨aQP vs,?_,_,h',rfl,hk,hs',hf'⟩;show((do let vs ←fn.results.mapM (aQL a'.tmps);pure (if h:vs.size=1 then vs[0] else .tuple vs):Sem Value)).run P w'=_;rw[Array.mapM_eq_mapM_toList];simp only[Sem.run_bind,Sem.run_map,Result.andThen_ok,hrun];simp only[Sem.run_pure];congr 1;cases vs with
   | nil=>rfl
   | cons v vs=>cases vs with
    | nil=>rfl
    | cons u us=>simp[aQP]
  | cons d ds ih=>
   intro w' hs' hf' hD' hr;obtain⟨bs,b1,b2,b3⟩:=hD';cases bs with
   | nil=>cases b2
   | cons b bs=>
    simp only[hM,kP] at b2;obtain⟨rfl,rfl⟩:=b2;obtain⟨c1,c2,c3,c4⟩:=b3 b aMP;obtain⟨hnot,b1⟩:=aFX.1 b1;have hne:∀i,i≠b->(w'.putObj b (.deferred none)).heap[i]? =w'.heap[i]?:=λi hi=>by
     simp[World.putObj,Array.getElem?_setIfInBounds,Ne.symm hi]
    have hsz:(w'.putObj b (.deferred none)).heap.size=w'.heap.size:=by simp[World.putObj]
    refine⟨(by intro e;cases e),.inl ⟨b,_,rfl,run_takeDeferred c4,ih _ (λi o hi=>?_) ⟨hf'.os,hf'.tape,hf'.output,hf'.drawn,by rw[hsz];exact hf'.size,λi hi hn=>?_,hf'.none⟩ ⟨bs,b1,rfl,λi hi=>?_⟩ hr⟩⟩
    ·rw[hne i (λe=>by subst e;rw[c3] at hi;cases hi)];exact hs' i o hi
    ·rw[hne i (λe=>by subst e;omega)];exact hf'.far i hi hn
    ·obtain⟨e1,e2,e3,e4⟩:=b3 i (aKA _ hi);exact⟨e1,by rw[hsz];exact e2,e3,by rw[hne i (λe=>by subst e;exact hnot hi)];exact e4⟩
 have hfin:=fin D' w' hs' hf' hD';rw[←hm'.defers] at hfin;cases e with
 | normal=>exact hfin hq
 | ret=>exact hfin hq
 | _=>exact hq.elim
def xD:Code->List (Code×Code)
 | .seq x y=>xD x++xD y
 | .cond _ x y=>xD x++xD y
 | .block _ c=>xD c
 | .loop c=>xD c
 | .scope c=>xD c
 | .rangeFunc _ _ a b=>[(a,b)]
 | _=>[]
def aBi(fn:Func):Code:=fn.body.getD .skip
def aV9(P:Program)(fn:Func)(R:cF):QH:=λe ρ h=>match e with
 | .normal | .ret=>aS1 P fn ρ h R
 | _=>False
def dT(h:PH)(k:PH->Prop):Prop:=k h
def yV(v:Value):Option Bool:=match v with
 | .bool b=>some b
 | _=>none
def gH(v:Value):Sem Value:=match v with
 | .pointer none | .nilIface | .nilFunc=>.halt (.stuck "nil")
 | .func (.method _) _ _=>.halt (.stuck "method")
 | x=>pure x
def fJ(op:BinOp)(t:TypeId)(x y:Operand)(a b:Value):Sem Value:=do eqGuard op t x y a b;binOp op t a b
def cP(t:TypeId)(a x:Value):Sem Value:=do Instr.storeAt t a x;pure undef
def aIW(t:TypeId)(m k x:Value):Sem Value:=do Instr.mapUpdate t m k x;pure undef
def xP(P:Program)(f:Value)(args:Array Value)(h:PH)(kv:cF):Prop:=match f with
 | .func (.func f) first captured=>bW P f (first++args++captured) h kv
 | .func fn first captured=>cM P (invoke (.fn fn captured) (first++args)) h λn h'=>rI P n h' kv
 | _=>False
def dD(P:Program)(t:TypeId):Array Value:=match P.info? t with
 | some i=>match i.zero with
  | some v=>v.cells
  | none=>#[]
 | none=>#[]
def aWt(P:Program)(ann:kD)(ih:Code->QH->kE->PH->Prop)(c:Code)(Q:QH)(ρ:kE)(h:PH):Prop:=match c with
 | .skip=>Q .normal ρ h
 | .region _ ops false=>aQ3 P ops (Q .normal) ops.toList ρ h
 | .region id ops true=>aJX P ops (ann.b id) (Q .normal) [] (ann.ord id) ρ h
 | .seq x y=>ih x (aH3 (ih y Q) Q) ρ h
 | .cond c x y=>cN (ev ρ c) (ih x Q ρ h) (ih y Q ρ h)
 | .block id c=>ih c (aHB id Q) ρ h
 | .loop c=>gU (ann.keep (rW c)) (λnext ρ h=>ih c (aH3 (λρ' h'=>next ((ann.keep (rW c)).map ρ') h') Q) ρ h) ((ann.keep (rW c)).map ρ) h
 | .exit id=>Q (.exit id) ρ h
 | .ret=>Q .ret ρ h
 | .label _=>Q .normal ρ h
 | .scope c=>ih c (aKS Q) ρ h
 | .rangeFunc g ps assign body=>aDI P ann.n (ev ρ g) ps assign body (Q .normal ρ) (Q .ret ρ) ((aBp body).map λid=>(id,Q (.exit id) ρ)) ((ann.keep (rW body)).map λt=>(t,ρ t)) h
 | _=>False
noncomputable def aDV(P:Program)(ann:kD)(n:Nat):Code->QH->kE->PH->Prop:=Nat.rec (λ_ _ _ _=>False) (λ_ ih=>aWt P ann ih) n
def uC:Code->Nat
 | .seq x y=>max (uC x) (uC y)+1
 | .cond _ x y=>max (uC x) (uC y)+1
 | .block _ c=>uC c+1
 | .loop c=>uC c+1
 | .scope c=>uC c+1
 | _=>0
def aLI{P:Program}{ann:kD}:∀(c:Code) (n:Nat),uC c<n->aDV P ann n c=pV P ann c:=by
 intro c;induction c with
 | skip=>intro n hn;obtain⟨m,rfl⟩:∃m,n=m+1:=⟨n-1,by omega⟩;rfl
 | region id ops d=>intro n hn;obtain⟨m,rfl⟩:∃m,n=m+1:=⟨n-1,by omega⟩;cases d<;>rfl
 | seq x y ihx ihy=>
  intro n hn;obtain⟨m,rfl⟩:∃m,n=m+1:=⟨n-1,by omega⟩;simp only[uC] at hn;funext Q ρ h;show aDV P ann m x (aH3 (aDV P ann m y Q) Q) ρ h=pV P ann x (aH3 (pV P ann y Q) Q) ρ h;rw[ihx m (by omega),ihy m (by omega)]
 | cond c x y ihx ihy=>
  intro n hn;obtain⟨m,rfl⟩:∃m,n=m+1:=⟨n-1,by omega⟩;simp only[uC] at hn;funext Q ρ h;show cN (ev ρ c) (aDV P ann m x Q ρ h) (aDV P ann m y Q ρ h)=cN (ev ρ c) (pV P ann x Q ρ h) (pV P ann y Q ρ h);rw[ihx m (by omega),ihy m (by omega)]
 | block id c ih=>
  intro n hn;obtain⟨m,rfl⟩:∃m,n=m+1:=⟨n-1,by omega⟩;simp only[uC] at hn;funext Q ρ h;show aDV P ann m c (aHB id Q) ρ h=pV P ann c (aHB id Q) ρ h;rw[ih m (by omega)]
 | loop c ih=>
  intro n hn;obtain⟨m,rfl⟩:∃m,n=m+1:=⟨n-1,by omega⟩;simp only[uC] at hn;funext Q ρ h;show gU (ann.keep (rW c)) (λnext ρ h=>aDV P ann m c (aH3 (λρ' h'=>next ((ann.keep (rW c)).map ρ') h') Q) ρ h) ((ann.keep (rW c)).map ρ) h=gU (ann.keep (rW c)) (λnext ρ h=>pV P ann c (aH3 (λρ' h'=>next ((ann.keep (rW c)).map ρ') h') Q) ρ h) ((ann.keep (rW c)).map ρ) h;rw[ih m (by omega)]
 | scope c ih=>
  intro n hn;obtain⟨m,rfl⟩:∃m,n=m+1:=⟨n-1,by omega⟩;simp only[uC] at hn;funext Q ρ h;show aDV P ann m c (aKS Q) ρ h=pV P ann c (aKS Q) ρ h;rw[ih m (by omega)]
 | _=>intro n hn;obtain⟨m,rfl⟩:∃m,n=m+1:=⟨n-1,by omega⟩;rfl
noncomputable def aLf(P:Program)(ann:kD)(n l:Nat)(assign body:Code)(kv:cF)(ρ:kE)(h:PH):Prop:=
 aDV P ann n assign (λe ρ h=>match e with
  | .normal=>cM P (Instr.beginRound l) h λ_ h'=>aDV P ann n body (aSA P l kv) ρ h'
  | _=>False) ρ h
def aNB{P:Program}(ann:kD)(n:Nat)(hmix:P.follows .mixedOrders=true){l m:Nat}{f:FuncId}{tmps:Array Value}{assign body:Code}{kv:cF}{h:PH}
  (hm:tmps.size=m) (hd:(decide (uC assign<n)&&decide (uC body<n))=true) (hA:(wM P ann m assign&&pX assign&&wM P ann m body&&pX body)=true) {X:Prop}
  (he:aLf P ann n l assign body kv (λt=>tmps.getD t undef) h=X) (H:X):rI P (.round l f tmps assign body) h kv:=by
 subst hm;rw[←he] at H;simp only[rZ,decide_eq_true_eq] at hd;unfold aLf at H;rw[aLI _ _ hd.1] at H;rw[aLI _ _ hd.2] at H;exact aOF.next ann hmix hA H
def aSW{P:Program}{f:FuncId}{fn:Func}(ann:kD)(n:Nat)(hmix:P.follows .mixedOrders=true)(hf:P.funcs[f]? =some fn)(hen:aCb P f=true)(hb:fn.body.isSome=true)(hd:decide (uC (aBi fn)<n)=true)(hB:wM P ann fn.ntmps (aBi fn)=true)
  {args:Array Value} (hargs:args.size≤fn.ntmps) {h:PH} {R:cF} {X:Prop}
  (he:aDV P ann n (aBi fn) (aV9 P fn R) (λt=>args.getD t undef) h=X) (H:X):bW P f args h R:=by
 obtain⟨c,hc⟩:=Option.isSome_iff_exists.1 hb;have e:aBi fn=c:=by unfold aBi;rw[hc];rfl
 rw[aLI _ _ (by simpa using hd)] at he;rw[e] at hB he;rw[←he] at H;exact aSJ ann hmix hf hc hen hB hargs H
def eB{h:PH}{r:Nat}{o:Obj}:(h.set r o) r=some o:=by simp[PH.set]
def zS{h:PH}{r b:Nat}{o:Obj}(hne:b≠r):(h.set r o) b=h b:=by simp[PH.set,hne]
def aWN{h:PH}{r b:Nat}{o:Obj}(hb:h b=some o)(hr:h r=none):b≠r:=by rintro rfl;rw[hr] at hb;cases hb
def aP6{h:PH}{r b:Nat}{o u:Obj}(hr:h r=none)(hb:h b=some u):(h.set r o) b=some u:=by rw[zS (aWN hb hr)];exact hb
def cV(F:List Nat)(h h':PH):Prop:=∀b o,h b=some o->b∉F->h' b=some o
def cV.refl{F:List Nat}{h:PH}:cV F h h:=λ_ _ hb _=>hb
def cV.trans{F:List Nat}{h h1 h2:PH}(a:cV F h h1)(b:cV F h1 h2):cV F h h2:=λx o hx hn=>b x o (a x o hx hn) hn
def cV.mono{F G:List Nat}{h h':PH}(a:cV F h h')(hs:∀b,b∈F->b∈G∨h b=none):cV G h h':=λx o hx hn=>a x o hx λhm=>by
 rcases hs x hm with h1|h1
 ·exact hn h1
 ·rw[hx] at h1;cases h1
def cV.then{F F':List Nat}{h h1 h2:PH}(a:cV F h h1)(b:cV F' h1 h2)(hs:∀b,b∈F'->b∈F∨h b=none):cV F h h2:=λx o hx hn=>
 b x o (a x o hx hn) λhm=>by
  rcases hs x hm with h1|h1
  ·exact hn h1
  ·rw[hx] at h1;cases h1
def cV.new{F:List Nat}{h:PH}{r:Nat}{o:Obj}(hr:h r=none):cV F h (h.set r o):=λ_ _ hb _=>aP6 hr hb
def cV.set{F:List Nat}{h:PH}{r:Nat}{o:Obj}(hr:r∈F):cV F h (h.set r o):=λb u hb hn=>by
 rw[zS (by rintro rfl;exact hn hr)];exact hb
def cV.get{F:List Nat}{h h':PH}(a:cV F h h'){b:Nat}{o:Obj}(hb:h b=some o)(hn:b∉F):h' b=some o:=a b o hb hn
abbrev cX(h h':PH):Prop:=cV [] h h'
def cX.get{h h':PH}(a:cX h h'){b:Nat}{o:Obj}(hb:h b=some o):h' b=some o:=a b o hb (by simp)
def cX.upd{F:List Nat}{h h':PH}(a:cX h h'):cV F h h':=λb o hb _=>a b o hb (by simp)
def iE{α:Type}{v:α}{k:α->Prop}:bZ (some v) k=k v:=(rfl)
def cO{h:PH}{k:PH->Prop}:dT h k=k h:=(rfl)
def aIy{A B:Prop}:cN (.bool true) A B=A:=(rfl)
def aH9{A B:Prop}:cN (.bool false) A B=B:=(rfl)
def aLY{b:Bool}{A B:Prop}:cN (.bool b) A B=if b then A else B:=by cases b<;>rfl
def aMC{b:Bool}:yV (.bool b)=some b:=(rfl)
def aMS{X:(Value->PH->Prop)->Prop}{h:PH}{kv:cF}:fA (some true) true X h kv=X kv:=(rfl)
def aP1{X:(Value->PH->Prop)->Prop}{h:PH}{kv:cF}:fA (some false) false X h kv=X kv:=(rfl)
def aPx{X:(Value->PH->Prop)->Prop}{h:PH}{kv:cF}:fA (some true) false X h kv=kv undef h:=(rfl)
def aMl{X:(Value->PH->Prop)->Prop}{h:PH}{kv:cF}:fA (some false) true X h kv=kv undef h:=(rfl)
def aMK{a b:Value}:eH (.bool true) a b=some a:=(rfl)
def aMm{a b:Value}:eH (.bool false) a b=some b:=(rfl)
def aLh{c:Bool}{a b:Value}:eH (.bool c) a b=some (if c then a else b):=by cases c<;>rfl
section
variable{P:Program}{h:PH}
def aIz{a:Addr}:cC P (gH (.pointer (some a)))=some (.pointer (some a)):=(rfl)
def aDE{f:Fn}{x y:Array Value}:cC P (Instr.makeFunc f x y)=some (.func f x y):=(rfl)
def aRl{t:TypeId}{k:IntKind}{a b:Int}:cC P (binOp .add t (.int k a) (.int k b))=some (.int k (k.wrap (a+b))):=by simp[binOp,Op.intArith,cC,pure]
def aJ3{t:TypeId}{k:IntKind}{a b:Int}:cC P (binOp .sub t (.int k a) (.int k b))=some (.int k (k.wrap (a-b))):=by simp[binOp,Op.intArith,cC,pure]
def mX{t:TypeId}{k:IntKind}{a b:Int}:cC P (binOp .mul t (.int k a) (.int k b))=some (.int k (k.wrap (a*b))):=by simp[binOp,Op.intArith,cC,pure]
def aSM{t:TypeId}{k:IntKind}{a b:Int}:cC P (binOp .lss t (.int k a) (.int k b))=some (.bool (decide (a<b))):=by simp[binOp,Op.intCmp,cC,pure]
def aR1{t:TypeId}{k:IntKind}{a b:Int}:cC P (binOp .leq t (.int k a) (.int k b))=some (.bool (decide (a≤b))):=by simp[binOp,Op.intCmp,cC,pure]
def aOf{t:TypeId}{k:IntKind}{a b:Int}:cC P (binOp .gtr t (.int k a) (.int k b))=some (.bool (decide (b<a))):=by simp[binOp,Op.intCmp,cC,pure]
def aRs{t:TypeId}{k:IntKind}{a b:Int}:cC P (binOp .geq t (.int k a) (.int k b))=some (.bool (decide (b≤a))):=by simp[binOp,Op.intCmp,cC,pure]
def aJb{t:TypeId}{k:IntKind}{a b:Int}(hb:b≠0):cC P (binOp .quo t (.int k a) (.int k b))=some (.int k (k.wrap (a.tdiv b))):=by simp[binOp,Op.intDiv,hb,cC,pure]
def aSp{t:TypeId}{k:IntKind}{a b:Int}(hb:b≠0):cC P (binOp .rem t (.int k a) (.int k b))=some (.int k (a.tmod b)):=by simp[binOp,Op.intDiv,hb,cC,pure]
def aVO{t:TypeId}{k k':IntKind}{a b:Int}(hb:0≤b):cC P (binOp .shl t (.int k a) (.int k' b))=some (.int k (k.wrap (a*2^(min b.toNat k.bits)))):=by
 have:¬b<0:=by omega
 simp[binOp,Op.shift,this,cC,pure]
def aOv{t:TypeId}{k k':IntKind}{a b:Int}(hb:0≤b):cC P (binOp .shr t (.int k a) (.int k' b))=some (.int k (a.fdiv (2^(min b.toNat k.bits)))):=by
 have:¬b<0:=by omega
 simp[binOp,Op.shift,this,cC,pure]
def aRn{b:Bool}:cC P (Op.unary .not (.bool b))=some (.bool (!b)):=(rfl)
def aMc{ts:Array TypeId}{t:TypeId}{k k':IntKind}{x y:Int}:cC P (Builtin.min_ ts t #[.int k x,.int k' y])=some (.int k (if y<x then y else x)):=(rfl)
def aMe{ts:Array TypeId}{t:TypeId}{k k':IntKind}{x y:Int}:cC P (Builtin.max_ ts t #[.int k x,.int k' y])=some (.int k (if x<y then y else x)):=by
 rfl
def aHi{a:Value}{l:List Value}:cC P (extract (.tuple ⟨a::l⟩) 0)=some a:=(rfl)
def aHq{a b:Value}{l:List Value}:cC P (extract (.tuple ⟨a::b::l⟩) 1)=some b:=(rfl)
def aNX{a b c:Value}{l:List Value}:cC P (extract (.tuple ⟨a::b::c::l⟩) 2)=some c:=(rfl)
def fO{t:TypeId}{x y:Operand}{k:IntKind}{a b:Int}:cB P h (fJ .eql t x y (.int k a) (.int k b))=some (.bool (a==b)):=by
 simp[fJ,eqGuard,binOp,Op.intCmp,cB,bind,Sem.bind,pure]
def dY{t:TypeId}{x y:Operand}{k:IntKind}{a b:Int}:cB P h (fJ .neq t x y (.int k a) (.int k b))=some (.bool (a !=b)):=by
 simp[fJ,eqGuard,binOp,Op.intCmp,cB,bind,Sem.bind,pure]
end
def aDS:TypeDesc->Bool
 | .struct _ | .array _ _=>false
 | _=>true
def kG(b o n:Nat):(⟨b,o,none⟩:Addr).add n=⟨b,o+n,none⟩:=by unfold Addr.add;split<;>simp_all
section
variable{P:Program}{h:PH}{t t' e:TypeId}
def jB{α:Type}{d:TypeDesc}(hu:P.underlying t=some d)(f:TypeDesc->Sem α):cB P h (underlying t >>= f)=cB P h (f d):=by
 show cB P h ((match P.underlying t with|some d=>pure d|none=>stuck _:Sem TypeDesc).bind f)=_;rw[hu];rfl
def xB{α:Type}{d:TypeDesc}(hu:P.underlying t=some d)(f:TypeDesc->Sem α):cC P (underlying t >>= f)=cC P (f d):=by
 show cC P ((match P.underlying t with|some d=>pure d|none=>stuck _:Sem TypeDesc).bind f)=_;rw[hu];rfl
def rR{α:Type}{d:TypeDesc}{Q:α->PH->Prop}(hu:P.underlying t=some d)(f:TypeDesc->Sem α):cM P (underlying t >>= f) h Q=cM P (f d) h Q:=by
 show cM P ((match P.underlying t with|some d=>pure d|none=>stuck _:Sem TypeDesc).bind f) h Q=_;rw[hu];rfl
def aTf{α:Type}{d:TypeDesc}(hu:P.underlying t=some d)(f:TypeDesc->Sem α):jT P (underlying t >>= f)=jT P (f d):=by
 show jT P ((match P.underlying t with|some d=>pure d|none=>stuck _:Sem TypeDesc).bind f)=_;rw[hu];rfl
def wS{α:Type}{d:TypeInfo}(hu:P.info? t=some d)(f:TypeInfo->Sem α):cB P h (typeInfo t >>= f)=cB P h (f d):=by
 show cB P h ((match P.info? t with|some i=>pure i|none=>stuck _:Sem TypeInfo).bind f)=_;rw[hu];rfl
def aKG{α:Type}{d:TypeInfo}(hu:P.info? t=some d)(f:TypeInfo->Sem α):cC P (typeInfo t >>= f)=cC P (f d):=by
 show cC P ((match P.info? t with|some i=>pure i|none=>stuck _:Sem TypeInfo).bind f)=_;rw[hu];rfl
def pU{α:Type}{d:TypeInfo}{Q:α->PH->Prop}(hu:P.info? t=some d)(f:TypeInfo->Sem α):cM P (typeInfo t >>= f) h Q=cM P (f d) h Q:=by
 show cM P ((match P.info? t with|some i=>pure i|none=>stuck _:Sem TypeInfo).bind f) h Q=_;rw[hu];rfl
def kL{α:Type}(f:Nat->Sem α):(sizeOf t >>= f)=(typeInfo t >>= λi=>f i.size):=by
 show(sizeOf t).bind f=(typeInfo t).bind λi=>f i.size;unfold sizeOf;show((typeInfo t).bind λi=>Sem.pure i.size).bind f=_;rw[show ∀(s:Sem TypeInfo),(s.bind λi=>Sem.pure i.size).bind f=s.bind λi=>f i.size from λs=>by
  induction s with
  | pure a=>rfl
  | load m a k ih=>simp only[Sem.bind,ih]
  | store m a v k ih=>simp only[Sem.bind,ih]
  | new o k ih=>simp only[Sem.bind,ih]
  | shape r k ih=>simp only[Sem.bind,ih]
  | freeze a n k ih=>simp only[Sem.bind,ih]
  | frozen a k ih=>simp only[Sem.bind,ih]
  | getObj r k ih=>simp only[Sem.bind,ih]
  | setObj r o k ih=>simp only[Sem.bind,ih]
  | choose q k ih=>simp only[Sem.bind,ih]
  | sys c k ih=>simp only[Sem.bind,ih]
  | program k ih=>simp only[Sem.bind,ih]
  | mark m k ih=>simp only[Sem.bind,ih]
  | halt x=>rfl]
def aM2{a:Option Addr}{n c:Nat}(hu:P.underlying t=some (.slice e)):cC P (Builtin.len_ #[t] t' #[.slice a n c])=some (.int .i64 n):=by
 show cC P (underlying t >>= _)=_;rw[xB hu];rfl
def tN{s:ByteArray}(hu:P.underlying t=some .string):cC P (Builtin.len_ #[t] t' #[.string s])=some (.int .i64 s.size):=by
 show cC P (underlying t >>= _)=_;rw[xB hu];rfl
def aVI{r:Nat}{es:Array MapEntry}{k v:TypeId}{c:Nat}(hu:P.underlying t=some (.map k v))(hr:h r=some (.map es c)):cB P h (Builtin.len_ #[t] t' #[.map (some r)])=some (.int .i64 es.size):=by
 show cB P h (underlying t >>= _)=_;rw[jB hu];show cB P h (getObj r >>= _)=_;simp[getObj,bind,Sem.bind,cB,hr,goInt,pure]
def aIf{α:Type}{d:TypeDesc}(hu:P.underlying t=some d)(f:Bool->Sem α):cB P h (isAgg t >>= f)=cB P h (f (!aDS d)):=by
 unfold isAgg;rw[bind_assoc,jB hu];cases d<;>rfl
def jD{d:TypeDesc}{a:Addr}(hu:P.underlying t=some d)(hd:aDS d=true):cB P h (loadAt t (.pointer (some a)))=cU h a:=by
 show cB P h (loadVar t a)=_;unfold loadVar;rw[aIf hu,hd];show(cU h a).bind (λv=>some v)=_;cases cU h a<;>rfl
def aJ8{b o:Nat}{c:Array Value}{e:TypeId}{fr:Nat×Nat}(hb:h b=some (.cells c e fr)):∀(n i:Nat) (acc:Array Value),o+i+n≤c.size->
  cB P h (loadCellsFrom ⟨b,o,none⟩ i n acc)=some (acc++c.extract (o+i) (o+i+n)):=by
 intro n;induction n with
 | zero=>intro i acc _;simp[loadCellsFrom,cB,pure];omega
 | succ n ih=>
  intro i acc hle;show(cU h ((⟨b,o,none⟩:Addr).add i)).bind (λv=>cB P h (loadCellsFrom ⟨b,o,none⟩ (i+1) n (acc.push v)))=_;have hlt:o+i<c.size:=by omega
  have hc:cU h ((⟨b,o,none⟩:Addr).add i)=some c[o+i]:=by
   rw[kG];unfold cU;simp only[hb];simp[hlt]
  rw[hc,yF,ih (i+1) _ (by omega)];congr 1;apply zLw;simp only[Array.toList_append,Array.toList_push,zLD,uV,zLx];congr 1;rw[show o+i+(n+1)-(o+i)=n+1 from by omega,show o+(i+1)+n-(o+(i+1))=n from by omega,aA3 (l:=c.toList) (i:=o+i) (by simpa using hlt),zLc];rfl
def aIa{b o n:Nat}{c:Array Value}{e:TypeId}{fr:Nat×Nat}(hb:h b=some (.cells c e fr))(hle:o+n≤c.size):cB P h (loadCells ⟨b,o,none⟩ n)=some (c.extract o (o+n)):=by
 have:=aJ8 (P:=P) hb n 0 #[] hle;simpa[loadCells] using this
def gZ{α β:Type}{s:Sem α}{f:α->Sem β}:cB P h (s >>= f)=(cB P h s).bind λa=>cB P h (f a):=by
 show cB P h (s.bind f)=_;induction s with
 | pure a=>rfl
 | load m a k ih=>simp only[Sem.bind,cB,ih,Option.bind_assoc]
 | shape r k ih=>simp only[Sem.bind,cB,ih,Option.bind_assoc]
 | frozen a k ih=>simp only[Sem.bind,cB,ih,Option.bind_assoc]
 | getObj r k ih=>
  simp only[Sem.bind,cB];cases h r with
  | none=>rfl
  | some o=>cases o<;>first|rfl|exact ih _
 | program k ih=>exact ih P
 | mark m k ih=>exact ih
 | _=>rfl
def zQ{d:TypeDesc}{b o n:Nat}{c:Array Value}{e:TypeId}{fr:Nat×Nat}{i:TypeInfo}(hu:P.underlying t=some d)(hd:aDS d=false)(hi:P.info? t=some i)(hn:i.size=n)
  (hb:h b=some (.cells c e fr)) (hle:o+n≤c.size):cB P h (loadAt t (pT b o))=some (.agg (c.extract o (o+n))):=by
 show cB P h (loadVar t ⟨b,o,none⟩)=_;unfold loadVar;rw[aIf hu,hd];show cB P h (sizeOf t >>= λm=>loadCells ⟨b,o,none⟩ m >>= λcs=>(pure (Value.agg cs):Sem Value))=some (.agg (c.extract o (o+n)));rw[kL,wS hi,hn,gZ,aIa hb hle];rfl
def aGK{b o n len cap:Nat}{k:IntKind}{j:Int}{i:TypeInfo}(hu:P.underlying t=some (.slice e))(hi:P.info? e=some i)(hn:i.size=n)(h0:0≤j)(h1:j<len):
  cC P (indexAt t (.slice (some ⟨b,o,none⟩) len cap) (.int k j))=some (pT b (o+j.toNat*n)):=by
 show cC P (underlying t >>= _)=_;rw[xB hu];show cC P (underlying t >>= _)=_;rw[xB hu];simp only[h0,h1,and_self,if_true];rw[kL,aKG hi,hn,kG];rfl
end
def Rows(size:Nat)(rows:List (List Value)):Prop:=∀r∈rows,r.length=size
def Rows.flat{size:Nat}:∀{rows:List (List Value)},Rows size rows->rows.flatten.length=rows.length*size
 | [],_=>by simp
 | r::rs,h=>by
  have h1:=h r (by simp);have h2:=Rows.flat (rows:=rs) λx hx=>h x (by simp[hx]);simp only[aDr,jK,iN,h1,h2,zLF,Nat.one_mul];omega
def Rows.at{size:Nat}:∀{rows:List (List Value)},Rows size rows->∀{i:Nat} {r:List Value},rows[i]? =some r->(rows.flatten.drop (i*size)).take size=r
 | [],_,i,r,hi=>by simp at hi
 | x::xs,h,i,r,hi=>by
  have h1:=h x (by simp);cases i with
  | zero=>
   simp only[zLK,zL4] at hi;subst hi;simp[←h1]
  | succ i=>
   have h2:=Rows.at (rows:=xs) (λy hy=>h y (by simp[hy])) (i:=i) (r:=r) (by simpa using hi);rw[aDr,Nat.succ_mul,Nat.add_comm,←pN,←h1,List.drop_left,h1];exact h2
def Rows.append{size:Nat}{a b:List (List Value)}(ha:Rows size a)(hb:Rows size b):Rows size (a++b):=λr hr=>by
 rcases xA.1 hr with h|h
 ·exact ha r h
 ·exact hb r h
def Rows.take{size:Nat}{a:List (List Value)}(ha:Rows size a)(n:Nat):Rows size (a.take n):=λr hr=>ha r (List.mem_of_mem_take hr)
def Rows.drop{size:Nat}{a:List (List Value)}(ha:Rows size a)(n:Nat):Rows size (a.drop n):=λr hr=>ha r (List.mem_of_mem_drop hr)
def Rows.flat_take{size:Nat}:∀{rows:List (List Value)},Rows size rows->∀n,(rows.take n).flatten=rows.flatten.take (n*size)
 | [],_,n=>by simp
 | r::rs,h,0=>by simp
 | r::rs,h,n+1=>by
  have h1:=h r (by simp);have h2:=Rows.flat_take (rows:=rs) (λx hx=>h x (by simp[hx])) n;rw[zLc,aDr,aDr,h2,Nat.succ_mul,Nat.add_comm,←h1,List.take_length_add_append]
def Rows.flat_drop{size:Nat}:∀{rows:List (List Value)},Rows size rows->∀n,(rows.drop n).flatten=rows.flatten.drop (n*size)
 | [],_,n=>by simp
 | r::rs,h,0=>by simp
 | r::rs,h,n+1=>by
  have h1:=h r (by simp);have h2:=Rows.flat_drop (rows:=rs) (λx hx=>h x (by simp[hx])) n;rw[zLa,aDr,h2,Nat.succ_mul,Nat.add_comm,←h1,←pN,List.drop_left]
def vS:Nat:=9223372036854775807
structure hC(h:PH)(size:Nat)(v:Value)(rows:List (List Value)):Prop where
 ok:Rows size rows
 here:∃a c,v= .slice a rows.length c∧rows.length≤c∧c≤vS∧(rows≠[]->∃b o cs e fr,a=some ⟨b,o,none⟩∧h b=some (.cells cs e fr)∧o+rows.length*size≤cs.size∧(cs.extract o (o+rows.length*size)).toList=rows.flatten)∧True
structure eD(h:PH)(e:TypeId)(size:Nat)(v:Value)(rows:List (List Value))(F:List Nat):Prop where
 ok:Rows size rows
 here:(v= .slice none 0 0∧rows=[]∧F=[])∨∃b cap cs,v= .slice (some ⟨b,0,none⟩) rows.length cap∧F=[b]∧h b=some (.cells cs e (0,0))∧rows.length≤cap∧cap≤vS∧cs.size=cap*size∧cs.toList.take (rows.length*size)=rows.flatten
def eD.nil{h:PH}{e:TypeId}{size:Nat}:eD h e size (.slice none 0 0) [] []:=⟨λ_ h=>(by cases h),.inl ⟨rfl,rfl,rfl⟩⟩
def eD.slR{h:PH}{e:TypeId}{size:Nat}{v:Value}{rows:List (List Value)}{F:List Nat}(H:eD h e size v rows F):hC h size v rows:=by
 refine⟨H.ok,?_⟩;rcases H.here with⟨rfl,rfl,_⟩|⟨b,cap,cs,rfl,_,hb,hle,hm,hs,ht⟩
 ·exact⟨none,0,rfl,by simp,by simp,λh=>absurd rfl h,trivial⟩
 ·have hmul:rows.length*size≤cap*size:=zLO _ hle;exact⟨_,cap,rfl,hle,hm,λ_=>⟨b,0,cs,e,(0,0),rfl,hb,by omega,by simpa[zLx] using ht⟩,trivial⟩
def eD.upd{h h':PH}{e:TypeId}{size:Nat}{v:Value}{rows:List (List Value)}{F G:List Nat}(H:eD h e size v rows F)(u:cV G h h')(hd:∀b∈F,b∉G):eD h' e size v rows F:=by
 refine⟨H.ok,?_⟩;rcases H.here with h1|⟨b,cap,cs,hv,hF,hb,hrest⟩
 ·exact .inl h1
 ·exact .inr ⟨b,cap,cs,hv,hF,u.get hb (hd b (by simp[hF])),hrest⟩
def eD.known{h:PH}{e:TypeId}{size:Nat}{v:Value}{rows:List (List Value)}{F:List Nat}(H:eD h e size v rows F):∀b∈F,h b≠none:=by
 intro b hb;rcases H.here with⟨_,_,rfl⟩|⟨b',cap,cs,_,rfl,hb',_⟩
 ·cases hb
 ·simp only[iI] at hb;subst hb;rw[hb'];simp
def hC.upd{h h':PH}{size:Nat}{v:Value}{rows:List (List Value)}{G:List Nat}(H:hC h size v rows)(u:cV G h h')(hd:∀a n c,v= .slice (some a) n c->a.block∉G):hC h' size v rows:=by
 refine⟨H.ok,?_⟩;obtain⟨a,c,hv,h1,h2,h3,h4⟩:=H.here;refine⟨a,c,hv,h1,h2,λhne=>?_,h4⟩;obtain⟨b,o,cs,e,fr,ha,hb,hrest⟩:=h3 hne;exact⟨b,o,cs,e,fr,ha,u.get hb (hd ⟨b,o,none⟩ _ _ (ha▸hv)),hrest⟩
def hC.ext{h h':PH}{size:Nat}{v:Value}{rows:List (List Value)}(H:hC h size v rows)(u:cX h h'):hC h' size v rows:=H.upd u (by simp)
section
variable{P:Program}{h:PH}{t t' e:TypeId}
def hC.len{size:Nat}{v:Value}{rows:List (List Value)}(H:hC h size v rows)(hu:P.underlying t=some (.slice e)):cC P (Builtin.len_ #[t] t' #[v])=some (.int .i64 rows.length):=by
 obtain⟨a,c,rfl,_⟩:=H.here;exact aM2 hu
def hC.at{size:Nat}{v:Value}{rows:List (List Value)}(H:hC h size v rows){i:TypeInfo}(hu:P.underlying t=some (.slice e))(hi:P.info? e=some i)(hn:i.size=size){k:IntKind}{j:Int}{r:List Value}(h0:0≤j)(hr:rows[j.toNat]? =some r):
  ∃b o cs e' fr,cC P (indexAt t v (.int k j))=some (pT b o)∧h b=some (.cells cs e' fr)∧o+size≤cs.size∧(cs.extract o (o+size)).toList=r:=by
 have hlt:j.toNat<rows.length:=(zLA.1 hr).1;obtain⟨a,c,rfl,h1,h2,h3,_⟩:=H.here;obtain⟨b,o,cs,e',fr,rfl,hb,hle,hex⟩:=h3 (λh=>by rw[h] at hlt;simp at hlt);have hmul:(j.toNat+1)*size≤rows.length*size:=zLO _ hlt;rw[zLF,Nat.one_mul] at hmul;refine⟨b,o+j.toNat*size,cs,e',fr,aGK hu hi hn h0 (by omega),hb,by omega,?_⟩;have:=H.ok.at hr;rw[←hex] at this;rw[←this];simp only[zLD,zLx,zLy,pN,aH8];rw[show o+j.toNat*size+size-(o+j.toNat*size)=size from by omega];congr 1;omega
def hC.loadAgg{size:Nat}{v:Value}{rows:List (List Value)}(H:hC h size v rows){d:TypeDesc}{i:TypeInfo}(hu:P.underlying t=some (.slice e))(hi:P.info? e=some i)(hn:i.size=size)(he:P.underlying e=some d)(hd:aDS d=false)
  {k:IntKind} {j:Int} {r:List Value} (h0:0≤j) (hr:rows[j.toNat]? =some r):
  ∃a,cC P (indexAt t v (.int k j))=some (.pointer (some a))∧cB P h (loadAt e (.pointer (some a)))=some (.agg r.toArray):=by
 obtain⟨b,o,cs,e',fr,h1,hb,hle,hex⟩:=H.at hu hi hn (k:=k) h0 hr;refine⟨_,h1,?_⟩;rw[zQ he hd hi hn hb hle];congr 2;exact zLw hex
def hC.loadCell{v:Value}{rows:List (List Value)}(H:hC h 1 v rows){d:TypeDesc}{i:TypeInfo}(hu:P.underlying t=some (.slice e))(hi:P.info? e=some i)(hn:i.size=1)(he:P.underlying e=some d)(hd:aDS d=true)
  {k:IntKind} {j:Int} {x:Value} (h0:0≤j) (hr:rows[j.toNat]? =some [x]):
  ∃a,cC P (indexAt t v (.int k j))=some (.pointer (some a))∧cB P h (loadAt e (.pointer (some a)))=some x:=by
 obtain⟨b,o,cs,e',fr,h1,hb,hle,hex⟩:=H.at hu hi hn (k:=k) h0 hr;refine⟨_,h1,?_⟩;rw[jD he hd];unfold cU;simp only[hb];have hlt:o<cs.size:=by omega
 simp only[zLD,zLx,aB0] at hex;rw[aA3 (by simpa using hlt)] at hex;simp only[zLc,zLd,kP,and_true] at hex;simp[hlt];exact hex
end
def sW:Array Value->Nat->List Value->Array Value
 | c,_,[]=>c
 | c,o,v::vs=>sW (c.setIfInBounds o v) (o+1) vs
def aDG:∀(vs:List Value) (c:Array Value) (o:Nat),(sW c o vs).size=c.size
 | [],c,o=>rfl
 | v::vs,c,o=>by rw[sW,aDG vs];simp
def aAC:∀(vs:List Value) (c:Array Value) (o:Nat),o+vs.length≤c.size->(sW c o vs).toList=c.toList.take o++vs++c.toList.drop (o+vs.length)
 | [],c,o,_=>by simp[sW]
 | v::vs,c,o,h=>by
  simp only[iN] at h;rw[sW,aAC vs _ _ (by simp;omega)];have hlt:o<c.toList.length:=by simp;omega
  have hlt':o<c.size:=by omega
  simp only[Array.toList_setIfInBounds,iN];rw[List.set_eq_take_append_cons_drop,if_pos hlt];have h1:(c.toList.take o++v::c.toList.drop (o+1)).take (o+1)=c.toList.take o++[v]:=by
   rw[List.take_append,mH,aGW (by omega),aB0,rN (by simp;omega)];simp
  rw[h1];have:(c.toList.take o++v::c.toList.drop (o+1)).drop (o+1+vs.length)=c.toList.drop (o+(vs.length+1)):=by
   rw[List.drop_append,mH,aGW (by omega),aAr (by simp;omega),zLU,
    show o+1+vs.length-o=vs.length+1 from by omega,zLa,pN]
   congr 1;omega
  rw[this];simp
section
variable{P:Program}{h:PH}{t t' t2 e:TypeId}
def uZ{b o:Nat}{e:TypeId}{Q:Unit->PH->Prop}:∀(vs:List Value) (i:Nat) (h:PH) (c:Array Value),h b=some (.cells c e (0,0))->o+i+vs.length≤c.size->(∀v∈vs,fH v=true)->
  Q () (if vs=[] then h else h.set b (.cells (sW c (o+i) vs) e (0,0)))->cM P (storeCells ⟨b,o,none⟩ vs i) h Q
 | [],i,h,c,_,_,_,hq=>by
  show Q () h;simpa using hq
 | v::vs,i,h,c,hb,hle,hv,hq=>by
  simp only[iN] at hle;have hlt:o+i<c.size:=by omega
  have ha:(⟨b,o,none⟩:Addr).add i=⟨b,o+i,none⟩:=kG ..;show fH v=true∧sI h ((⟨b,o,none⟩:Addr).add i)=false∧(∃u,cU h ((⟨b,o,none⟩:Addr).add i)=some u)∧cM P (storeCells ⟨b,o,none⟩ vs (i+1)) (qG h ((⟨b,o,none⟩:Addr).add i) v) Q;rw[ha];refine⟨hv v (by simp),by simp[sI,hb],⟨c[o+i],by simp[cU,hb,hlt]⟩,?_⟩;have hset:qG h ⟨b,o+i,none⟩ v=h.set b (.cells (c.setIfInBounds (o+i) v) e (0,0)):=by
   funext x;unfold qG PH.set;by_cases hx:x=b
   ·subst hx;simp[hb]
   ·simp[hx]
  rw[hset];refine uZ vs (i+1) _ _ eB (by simp;omega) (λu hu=>hv u (by simp[hu])) ?_;have h2:∀o1 o2:Obj,(h.set b o1).set b o2=h.set b o2:=λo1 o2=>by funext x;unfold PH.set;split<;>rfl
  simp only[List.cons_ne_nil,if_false] at hq;split
  ·rename_i hvs;subst hvs;simpa[sW] using hq
  ·rw[h2];simpa[sW,Nat.add_assoc] using hq
def aCZ{h:PH}{b:Nat}{o1 o2:Obj}:(h.set b o1).set b o2=h.set b o2:=by funext x;unfold PH.set;split<;>rfl
def kJ{d:TypeDesc}{b o:Nat}{c:Array Value}{v:Value}{k:cF}(hu:P.underlying t=some d)(hd:aDS d=true)(hb:h b=some (.cells c e (0,0)))(ho:o<c.size)(hv:fH v=true){i:TypeInfo}(hi:P.info? t=some i)(hn:i.size=1)
  (hk:k undef (h.set b (.cells (c.setIfInBounds o v) e (0,0)))):cM P (cP t (pT b o) v) h k:=by
 have hc:v.cells= #[v]:=by cases v<;>first|rfl|cases hv
 show cM P (storeVar t ⟨b,o,none⟩ v >>= λ_=>pure undef) h k;unfold storeVar;rw[kL,bind_assoc,pU hi,hn,hc];simp only[List.size_toArray,iN,kW,iP,ne_eq,not_true_eq_false,if_false];refine cM.bind (P:=P) (s:=storeCells ⟨b,o,none⟩ [v]) ?_;refine uZ [v] 0 h c hb (by simp;omega) (by simp[hv]) ?_;show k undef (if [v]=[] then h else _);simpa[sW] using hk
def aNK{b o:Nat}{c:Array Value}{cs:Array Value}{k:cF}(hb:h b=some (.cells c e (0,0))){i:TypeInfo}(hi:P.info? t=some i)(hn:i.size=cs.size)(h0:0<cs.size)(ho:o+cs.size≤c.size)(hv:∀v∈cs.toList,fH v=true)
  (hk:k undef (h.set b (.cells (sW c o cs.toList) e (0,0)))):cM P (cP t (pT b o) (.agg cs)) h k:=by
 show cM P (storeVar t ⟨b,o,none⟩ (.agg cs) >>= λ_=>pure undef) h k;unfold storeVar;rw[kL,bind_assoc,pU hi,hn];simp only[Value.cells,ne_eq,not_true_eq_false,if_false];refine cM.bind (P:=P) (s:=storeCells ⟨b,o,none⟩ cs.toList) ?_;refine uZ cs.toList 0 h c hb (by simpa using ho) hv ?_;have:cs.toList≠[]:=by intro h;simp at h;subst h;simp at h0
 show k undef (if cs.toList=[] then h else _);simpa[this] using hk
def aQq{c:Array Value}{vs:List Value}(h:vs.length=c.size):sW c 0 vs=vs.toArray:=by
 apply zLw;rw[aAC vs c 0 (by omega)];simp[h]
def aGj{a:Option Addr}{len cap l hh:Nat}{lo hi:Option Value}{i:TypeInfo}(hu:P.underlying t=some (.slice e))(hi':P.info? e=some i)
  (hlo:lo=none∧l=0∨∃k,lo=some (.int k l)) (hhi:hi=none∧hh=len∨∃k,hi=some (.int k hh)) (h1:l≤hh) (h2:hh≤cap):
  cC P (Instr.sliceAt t (.slice a len cap) lo hi none)=some (.slice (if cap=l then a else a.map (·.add (l*i.size))) (hh-l) (cap-l)):=by
 show cC P (underlying t >>= _)=_;rw[xB hu];show cC P (underlying t >>= _)=_;rw[xB hu];have hb:Instr.sliceBounds true len cap lo hi none=pure (l,hh,cap):=by
  have hcast:∀n m:Nat,n≤m->(0≤(n:Int)∧(n:Int)≤(m:Int)):=λn m h=>by omega
  rcases hlo with⟨rfl,rfl⟩|⟨k,rfl⟩<;>rcases hhi with⟨rfl,rfl⟩|⟨k',rfl⟩ <;>
   simp[Instr.sliceBounds,Instr.sliceBound,asIntOf,hcast,h1,h2]
 simp only[hb,pure_bind];rw[kL,aKG hi'];rfl
def hC.first{size:Nat}{v:Value}{rows:List (List Value)}(S:hC h size v rows):cB P h (Builtin.firstCells size rows.length v)=some rows.flatten.toArray:=by
 obtain⟨a,c,rfl,h1,h2,h3,_⟩:=S.here;by_cases hr:rows=[]
 ·subst hr;cases a with
  | none=>rfl
  | some a=>simp[Builtin.firstCells,loadCells,loadCellsFrom,cB,pure]
 ·obtain⟨b,o,cs,e',fr,rfl,hb,hle,hex⟩:=h3 hr;show cB P h (loadCells ⟨b,o,none⟩ (rows.length*size))=_;rw[aIa hb hle];congr 1;exact zLw (by simpa using hex)
def gR{α β:Type}{s:Sem α}{f:α->Sem β}{a:α}{Q:β->PH->Prop}(hs:cB P h s=some a)(hq:cM P (f a) h Q):cM P (s >>= f) h Q:=
 cM.bind (P:=P) (s:=s) (f:=f) (cB.semH hs hq)
def aAH{α:Type}{q:Question}{f:Nat->Sem α}{Q:α->PH->Prop}:cM P (choose q >>= f) h Q= ∀t,cM P (f (if q.forced then 0 else q.cut t)) h Q:=rfl
def aHF{α:Type}{n:Nat}{f:Unit->Sem α}{Q:α->PH->Prop}:cM P (askRoom n >>= f) h Q=cM P (f ()) h Q:=by
 unfold askRoom;split<;>rfl
def aKQ:Value->Nat
 | .slice _ _ c=>c
 | _=>0
def lG{size bytes:Nat}{v x:Value}{rows ys:List (List Value)}{F:List Nat}{i:TypeInfo}{z:Value}{e2:TypeId}{k:cF}
  (hu:P.underlying t=some (.slice e)) (hu2:P.underlying t2=some (.slice e2)) (hi:P.info? e=some i) (hn:i.size=size) (hby:i.bytes=bytes) (hz:i.zero=some z) (hzs:z.cells.size=size) (hb0:0<bytes)
  (H:eD h e size v rows F) (S:hC h size x ys) (hcell:∀r∈ys,∀u∈r,fH u=true) (hl:(rows.length+ys.length)*bytes≤140737488355328)
  (hk:∀v' h' F',eD h' e size v' (rows++ys) F'->cV F h h'->(∀b∈F',b∈F∨h b=none)->aKQ v≤aKQ v'->k v' h'):cM P (Builtin.append_ #[t,t2] t' #[v,x]) h k:=by
 have hbig:rows.length+ys.length≤140737488355328:=zLE (Nat.le_mul_of_pos_right _ hb0) hl;obtain⟨xa,xc,hx,hx1,hx2,hx3,hx4⟩:=S.here;have hfirst:=S.first (P:=P);have hrows:Rows size (rows++ys):=H.ok.append S.ok;have hflat:∀u∈ys.flatten,fH u=true:=λu hu=>by
  obtain⟨r,hr,hur⟩:=List.mem_flatten.1 hu;exact hcell r hr u hur
 -- a new block
 have grown:∀(m:Nat),rows.length+ys.length≤m->m≤vS->aKQ v≤m->∀r,h r=none->
   k (.slice (some ⟨r,0,none⟩) (rows.length+ys.length) m) (h.set r (.cells (rows.flatten.toArray++ys.flatten.toArray++Builtin.zeroCells z.cells (m-(rows.length+ys.length))) e (0,0))):=by
  intro m hm hmax hcapv r hr;refine hk _ _ [r] ⟨hrows,.inr ⟨r,m,_,by rw[jK],rfl,eB,by simpa using hm,hmax,?_,?_⟩⟩ (cV.new hr) (λb hb=>.inr (by simp at hb;subst hb;exact hr)) hcapv
  ·simp only[Array.size_append,List.size_toArray,H.ok.flat,S.ok.flat,Builtin.zeroCells,Array.size_map,Array.size_range,hzs];rw[←zLF,←zLF];congr 1;omega
  ·have hlen:(rows++ys).length*size=(rows.flatten++ys.flatten).length:=by rw[jK,jK,H.ok.flat,S.ok.flat,zLF]
   simp only[Array.toList_append,hlen,zLG];rw[zLH (mS _),zLJ]
 obtain⟨va,vc,hv,hv1,hv2,_,_⟩:=H.slR.here;have hvfirst:=H.slR.first (P:=P);subst hx;subst hv;simp only[Builtin.append_,List.getElem?_toArray,zLK,zLL,rR hu,rR hu2,kL,pU hi,pure_bind,zLs,if_false,Builtin.lenOf,Bool.not_false,if_true,hn];by_cases hfit:rows.length+ys.length≤vc
 ·rw[if_pos hfit];refine gR hfirst ?_;rcases H.here with⟨hv',hr,hF⟩|⟨b,cap,cs,hv',hF,hb,hle,hcap,hcs,htake⟩
  ·subst hr;simp only[kW,Value.slice.injEq,true_and] at hv';obtain⟨rfl,rfl⟩:=hv';have hy:ys=[]:=zLN (by omega);subst hy;exact hk _ _ [] (by simpa using eD.nil) cV.refl (by simp) (mS _)
  ·simp only[Value.slice.injEq,true_and] at hv';obtain⟨rfl,rfl⟩:=hv';have hmul:(rows.length+ys.length)*size≤vc*size:=zLO _ hfit;have hadd:(⟨b,0,none⟩:Addr).add (rows.length*size)=⟨b,0+rows.length*size,none⟩:=kG ..;show cM P (storeCells ((⟨b,0,none⟩:Addr).add (rows.length*size)) ys.flatten.toArray.toList >>= λ_=>pure _) h k;rw[hadd];refine cM.bind (P:=P) (s:=storeCells _ _) ?_;refine uZ _ 0 h cs hb (by simp only[S.ok.flat,hcs];rw[zLF] at hmul;omega) (by simpa using hflat) ?_;show k _ _;simp only[iP,zLP];have fin:∀cs':Array Value,cs'.size=cs.size->cs'.toList.take ((rows.length+ys.length)*size)=rows.flatten++ys.flatten->∀h':PH,h' b=some (.cells cs' e (0,0))->cV F h h'->
     k (.slice (some ⟨b,0,none⟩) (rows.length+ys.length) vc) h':=by
    intro cs' hsz htk h' hb' hu';refine hk _ _ [b] ⟨hrows,.inr ⟨b,vc,cs',by rw[jK],rfl,hb',by simpa using hfit,hcap,by rw[hsz,hcs],by rw[jK,htk,zLG]⟩⟩ hu' (λb' hb'=>.inl (hF▸hb')) (mS _)
   split
   ·rename_i hys;refine fin cs rfl ?_ h hb cV.refl;have:ys.length*size=0:=by rw[←S.ok.flat,hys];rfl
    rw[zLF,this,hys,zLQ,zLP];exact htake
   ·refine fin _ (aDG _ _ _) ?_ _ eB (cV.set (by rw[hF];simp));have hlen:rows.length*size+ys.flatten.length≤cs.size:=by rw[S.ok.flat,←zLF,hcs];exact hmul
    rw[aAC _ _ _ hlen,htake];have hlen2:(rows.length+ys.length)*size=(rows.flatten++ys.flatten).length:=by rw[jK,H.ok.flat,S.ok.flat,zLF]
    rw[hlen2,zLH (mS _),zLJ]
 ·rw[if_neg hfit];have hlt:vc<rows.length+ys.length:=by omega
  have h63:¬(((rows.length+ys.length:Nat):Int)>IntKind.i64.max∧(False∨i.bytes=0)):=by
   rintro⟨_,hh⟩;rcases hh with hh|hh
   ·exact hh
   ·omega
  have hfits:¬(Builtin.nextslicecap (rows.length+ys.length) vc*i.bytes>2^48):=by
   rw[hby];have:=growslice_fits hlt hl;omega
  rw[pU hi,if_neg h63,pU hi,if_neg hfits,aAH];intro tt;rw[pU hi,aHF];refine gR hvfirst (gR hfirst ?_);have hzv:zeroValue e=(typeInfo e >>= λi=>match i.zero with|some v=>pure v|none=>unsupported (.resourceLimit "a value of more than 2^22 cells")):=rfl;rw[hzv,bind_assoc,pU hi,hz,pure_bind];have hcut:∀n m:Nat,n≤140737488355328->n≤(Question.appendCap n m e).cut tt∧(Question.appendCap n m e).cut tt≤vS:=by
   intro n m hn;have hpos:0<2^63-n:=by omega
   have:=zLB tt hpos;simp only[Question.cut,vS];omega
  have hforced:(Question.appendCap (rows.length+ys.length) vc e).forced=false:=rfl;rw[hforced];obtain⟨hc1,hc2⟩:=hcut (rows.length+ys.length) vc hbig;intro r hr;exact grown _ hc1 hc2 (show vc≤_ by omega) r hr
def aRN{a:Addr}{n:Nat}:(a.add n).block=a.block:=by unfold Addr.add;split<;>rfl
def hC.cut{size:Nat}{v:Value}{rows:List (List Value)}(H:hC h size v rows){i:TypeInfo}(hu:P.underlying t=some (.slice e))(hi':P.info? e=some i)(hn:i.size=size){lo hi:Option Value}{l m:Nat}
  (hlo:lo=none∧l=0∨∃k,lo=some (.int k l)) (hhi:hi=none∧m=rows.length∨∃k,hi=some (.int k m)) (h1:l≤m) (h2:m≤rows.length):
  ∃v',cC P (Instr.sliceAt t v lo hi none)=some v'∧hC h size v' ((rows.take m).drop l)∧∀x n c,v'= .slice (some x) n c->∃x0 n0 c0,v= .slice (some x0) n0 c0∧x.block=x0.block:=by
 obtain⟨a,c,rfl,hc1,hc2,hc3,hc4⟩:=H.here;refine⟨_,aGj hu hi' hlo hhi h1 (by omega),⟨(H.ok.take m).drop l,?_⟩,?_⟩
 ·have hlen:((rows.take m).drop l).length=m-l:=by simp;omega
  refine⟨_,_,by rw[hlen],by omega,by omega,λhne=>?_,trivial⟩
  ·have hpos:0<m-l:=by rw[←hlen];exact aId.2 hne
   have hne':rows≠[]:=λh=>by subst h;simp at hlen;omega
   obtain⟨b,o,cs,e',fr,rfl,hb,hle,hex⟩:=hc3 hne';have hm1:m*size≤rows.length*size:=zLO _ h2;have hm2:m*size=l*size+(m-l)*size:=by rw[←zLF];congr 1;omega
   refine⟨b,o+l*size,cs,e',fr,?_,hb,by rw[hlen];omega,?_⟩
   ·rw[if_neg (by omega),aJZ,hn,kG]
   ·rw[hlen,(H.ok.take m).flat_drop,H.ok.flat_take,←hex];simp only[zLD,zLx];rw[aH8,aGW (by omega),zLy,pN];congr 1;omega
 ·intro x n c' hv;simp only[Value.slice.injEq] at hv;have hx:=hv.1;split at hx
  ·exact⟨x,_,_,by rw[hx],rfl⟩
  ·obtain⟨y,hy,rfl⟩:=Option.map_eq_some_iff.1 hx;exact⟨y,_,_,by rw[hy],aRN⟩
end
section
variable{P:Program}{h:PH}{t t' t2 e:TypeId}
def aGA{b:Nat}{c:Array Value}{cs:Array Value}{k:cF}(hb:h b=some (.cells c e (0,0))){i:TypeInfo}(hi:P.info? t=some i)(hn:i.size=cs.size)(h0:0<cs.size)(ho:c.size=cs.size)(hv:∀v∈cs.toList,fH v=true)
  (hk:k undef (h.set b (.cells cs e (0,0)))):cM P (cP t (pT b 0) (.agg cs)) h k:=by
 refine aNK hb hi hn h0 (by omega) hv ?_;rw[aQq (by simp[ho])];simpa using hk
def aRr{x y:Operand}{a:Option Addr}{n c:Nat}(hu:P.underlying t=some (.slice e)):cB P h (fJ .eql t x y (.slice a n c) (.slice none 0 0))=some (.bool a.isNone):=by
 show cB P h (binOp .eql t (.slice a n c) (.slice none 0 0))=_;show cB P h (Op.equalIn Op.maxDepth t (.slice a n c) (.slice none 0 0) >>= λb=>(pure (Value.bool b):Sem Value))=_;rw[show Op.maxDepth=9999+1 from rfl];rw[gZ];have:cB P h (Op.equalIn (9999+1) t (.slice a n c) (.slice none 0 0))=some a.isNone:=by
  rw[Op.equalIn];rw[jB hu];cases a<;>rfl
 rw[this];rfl
def wT{x y:Operand}{a:Option Addr}(hu:P.underlying t=some (.pointer e)):cB P h (fJ .eql t x y (.pointer a) (.pointer none))=some (.bool a.isNone):=by
 show cB P h (binOp .eql t (.pointer a) (.pointer none))=_;have:cB P h (Op.equalIn (9999+1) t (.pointer a) (.pointer none))=some a.isNone:=by
  rw[Op.equalIn];rw[jB hu];cases a<;>rfl
 show cB P h (Op.equalIn Op.maxDepth t (.pointer a) (.pointer none) >>= λb=>(pure (Value.bool b):Sem Value))=_;rw[show Op.maxDepth=9999+1 from rfl,gZ,this];rfl
def eD.mk'{b cap:Nat}{size:Nat}{rows:List (List Value)}{cs:Array Value}(hr:Rows size rows)(hb:h b=some (.cells cs e (0,0)))(hle:rows.length≤cap)(hm:cap≤vS)(hs:cs.size=cap*size)(ht:cs.toList.take (rows.length*size)=rows.flatten):
  eD h e size (.slice (some ⟨b,0,none⟩) rows.length cap) rows [b]:=⟨hr,.inr ⟨b,cap,cs,rfl,rfl,hb,hle,hm,hs,ht⟩⟩
def eD.lit{r n:Nat}{size:Nat}{rows:List (List Value)}{cs:Array Value}(hr:Rows size rows)(hb:h r=some (.cells cs e (0,0)))(hn:n=rows.length)(hm:n≤vS)(hcs:cs.toList=rows.flatten):eD h e size (.slice (some ⟨r,0,none⟩) n n) rows [r]:=by
 subst hn;have hsz:cs.size=rows.length*size:=by rw[←hr.flat,←hcs];simp
 refine eD.mk' hr hb (mS _) hm hsz ?_;rw[←hsz,hcs,rN];rw[←hcs];simp
def eD.write{size l:Nat}{v:Value}{rows ys:List (List Value)}{F:List Nat}(H:eD h e size v rows F)(hy:Rows size ys)(hle:l+ys.length≤rows.length){b n cap:Nat}{c:Array Value}(hv:v= .slice (some ⟨b,0,none⟩) n cap)(hb:h b=some (.cells c e (0,0))):
  eD (h.set b (.cells (sW c (l*size) ys.flatten) e (0,0))) e size v (rows.take l++ys++rows.drop (l+ys.length)) F:=by
 have hlen:(rows.take l++ys++rows.drop (l+ys.length)).length=rows.length:=by simp;omega
 refine⟨((H.ok.take l).append hy).append (H.ok.drop _),?_⟩;rcases H.here with⟨rfl,_,_⟩|⟨b',cap',cs,rfl,rfl,hb',h1,h2,h3,h4⟩
 ·cases hv
 ·simp only[Value.slice.injEq,zL4,Addr.mk.injEq,and_true] at hv;obtain⟨rfl,rfl,rfl⟩:=hv;rw[hb] at hb';cases hb';refine .inr ⟨b',cap',_,by rw[hlen],rfl,eB,by rw[hlen];exact h1,h2,by rw[aDG];exact h3,?_⟩;have m1:(l+ys.length)*size≤rows.length*size:=zLO _ hle;have m2:rows.length*size≤cap'*size:=zLO _ h1;rw[zLF] at m1;rw[hlen,aAC _ _ _ (by rw[hy.flat,h3];omega)];rw[zLG,zLG,H.ok.flat_take,H.ok.flat_drop,←h4,hy.flat];rw[aH8,aGW (by omega)];rw[List.take_append];have e1:(List.take (l*size) c.toList++ys.flatten).length=l*size+ys.length*size:=by
   rw[jK,hy.flat,mH,aGW (by simp[h3];omega)]
  rw[e1,rN (by omega),zLy,zLF]
def aTH{size l m n:Nat}{v d x:Value}{rows ys:List (List Value)}{F:List Nat}{i:TypeInfo}{k:cF}
  (hu:P.underlying t=some (.slice e)) (hi:P.info? e=some i) (hn:i.size=size)
  (H:eD h e size v rows F) (hd:∃k k',cC P (Instr.sliceAt t v (some (.int k l)) (some (.int k' m)) none)=some d) (hlm:l≤m) (hm:m≤rows.length) (S:hC h size x ys) (hcell:∀r∈ys,∀u∈r,fH u=true) (hnn:n=min ys.length (m-l))
  (hk:∀h',eD h' e size v (rows.take l++ys.take n++rows.drop (l+n)) F->cV F h h'->k (.int .i64 n) h'):cM P (Builtin.copy_ #[t,t2] t' #[d,x]) h k:=by
 obtain⟨kk,kk',hd⟩:=hd;obtain⟨xa,xc,hx,hx1,hx2,hx3,hx4⟩:=S.here;obtain⟨va,vc,hv,hv1,hv2,hv3,hv4⟩:=H.slR.here;rw[hv,aGj hu hi (.inr ⟨kk,rfl⟩) (.inr ⟨kk',rfl⟩) hlm (by omega)] at hd;simp only[zL4] at hd;subst hd;have hS:hC h size (.slice xa n xc) (ys.take n):=by
  have hl:(ys.take n).length=n:=by simp;omega
  refine⟨S.ok.take n,xa,xc,by rw[hl],by omega,hx2,λhne=>?_,hx4⟩;have hne':ys≠[]:=by rintro rfl;simp at hne
  obtain⟨b,o,cs,e',fr,ha,hb,hle,hex⟩:=hx3 hne';have hmul:n*size≤ys.length*size:=zLO _ (by omega);refine⟨b,o,cs,e',fr,ha,hb,by rw[hl];omega,?_⟩;rw[hl,S.ok.flat_take,←hex];simp only[zLD,zLx,aB0];rw[aH8,aGW hmul]
 have hfirst:=hS.first (P:=P);have hlen:(ys.take n).length=n:=by simp;omega
 rw[hlen] at hfirst;subst hx;have hmin:Nat.min ys.length (m-l)=n:=hnn.symm;simp only[Builtin.copy_,List.getElem?_toArray,zLK,zLL,rR hu,kL,pU hi,pure_bind,Builtin.lenOf,hn,hmin];refine gR (s:=Builtin.firstCells size n (.slice xa ys.length xc)) (a:=(ys.take n).flatten.toArray) ?_ ?_
 ·cases xa<;>exact hfirst
 ·by_cases hn0:n=0
  ·have hz:(ys.take n)=[]:=by rw[hn0];rfl
   have hsame:rows.take l++ys.take n++rows.drop (l+n)=rows:=by rw[hz,hn0];simp
   have fin:=hk h (by rw[hsame];exact H) cV.refl;rw[hz];split
   ·exact fin
   ·exact fin
  ·have hne:rows≠[]:=by rintro rfl;simp at hm;omega
   obtain⟨b,o,cs,e',fr,rfl,hb,hle,hex⟩:=hv3 hne;rcases H.here with⟨hv',_,_⟩|⟨b',cap',cs',hv',hF,hb',h1,h2,h3,h4⟩
   ·rw[hv] at hv';cases hv'
   ·rw[hv] at hv';simp only[Value.slice.injEq,zL4,Addr.mk.injEq,and_true,true_and] at hv';obtain⟨⟨rfl,rfl⟩,rfl⟩:=hv';rw[if_neg (by omega),aJZ,kG];have aSb:∀u∈(ys.take n).flatten,fH u=true:=λu hu=>by
     obtain⟨r,hr,hur⟩:=List.mem_flatten.1 hu;exact hcell r (List.mem_of_mem_take hr) u hur
    have m1:(l+n)*size≤rows.length*size:=zLO _ (by omega);have m2:rows.length*size≤vc*size:=zLO _ h1;rw[zLF] at m1;have hflen:(ys.take n).flatten.length=n*size:=by rw[hS.ok.flat,hlen]
    refine cM.bind (P:=P) (s:=storeCells _ _) ?_;refine uZ _ 0 h cs' hb' (by rw[hflen,h3];omega) aSb ?_;show k _ _;have hw:=H.write (l:=l) hS.ok (by rw[hlen];omega) hv hb';rw[hlen] at hw;split
    ·rename_i hys;have hys':(ys.take n).flatten=[]:=hys;rw[hys'] at hw;have hid:h.set b (.cells (sW cs' (l*size) []) e (0,0))=h:=by
      funext x;unfold PH.set sW;split
      ·rename_i e1;subst e1;exact hb'.symm
      ·rfl
     rw[hid] at hw;exact hk h hw cV.refl
    ·simp only[iP,zLP,hn];exact hk _ hw (cV.set (by rw[hF];simp))
end
end
section
open Go Go.RowKit Go.ChangeShapes
def aEv(W:World):PH:=λb=>W.heap[b]?
def aRJ(W:World):oC (aEv W) W:=λ_ _ h=>h
structure aIE(W W':World):Prop where
 os:W'.os=W.os
 output:W'.output=W.output
 heap:∀b,b<W.heap.size->W'.heap[b]? =W.heap[b]?
def aQi{P:Program}{f:FuncId}{args:Array Value}{W:World}(H:bW P f args (aEv W) λv h'=>v= .bool true∧cX (aEv W) h')(he:aCb P f=true:=by kernel_rfl):
  Calls P f args W λe w'=>e= .returned (.bool true)∧aIE W w':=by
 refine(H.calls he W (aRJ W)).mono ?_;rintro e w' ⟨v,h',rfl,⟨rfl,hx⟩,hs,hf⟩;refine⟨rfl,hf.os,hf.output,λb hb=>?_⟩;cases e:W.heap[b]? with
 | none=>simp at e;omega
 | some o=>exact hs b o (hx.get e)
def aIE.cell{W W':World}(K:aIE W W')(a:Addr)(h:a.block<W.heap.size):W'.cell? a=W.cell? a:=by
 unfold World.cell?;rw[K.heap _ h]
def aIE.frozen{W W':World}(K:aIE W W')(a:Addr)(h:a.block<W.heap.size):W'.frozen? a=W.frozen? a:=by
 unfold World.frozen?;rw[K.heap _ h]
def aIE.sameAt{W W':World}(K:aIE W W')(p:MemPlace)(h:p.block<W.heap.size):W.sameAt W' p:=by
 cases p with
 | cell b off=>exact K.cell _ h
 | map b=>exact K.heap _ h
def aIE.but{W W':World}(K:aIE W W')(may:MemPlace->Prop):W.keptBut W' may:=by
 refine⟨K.os,K.output,λi hi=>?_⟩;rw[K.heap i hi];cases W.heap[i]? with
 | none=>rfl
 | some o=>
  cases o with
  | cells c t fr=>exact⟨rfl,rfl,rfl,λ_ _=>rfl⟩
  | map es clock=>exact .inr ⟨rfl,rfl⟩
  | _=>rfl
def aJD{H:Type}{enc:TypeId×Value->H}{P:Program}{w w':World}{base:Nat}{spare:Nat->Bool}{held:Bool}:∀{ts:List TypeId} {vs:List Value} {ds:List (DataW H)} {ps:List MemPlace},
  DataW.TrodAll enc P w base spare held ts vs ds ps->(∀p∈ps,w.sameAt w' p)->DataW.TrodAll enc P w' base spare held ts vs ds ps
 | [],[],[],_,h,_=>h
 | _::_,_::_,_::_,_,⟨p,q,⟨n,h1⟩,h2,e⟩,hs=>⟨p,q,⟨n,DataW.trod_carry n _ _ _ h1 λx hx=>hs x (by rw[e];exact List.mem_append_left _ hx)⟩,aJD h2 (λx hx=>hs x (by rw[e];exact List.mem_append_right _ hx)),e⟩
def aOn{H:Type}{enc:TypeId×Value->H}{P:Program}{f:Func}{s:ChangeSpec}{apart fresh handsOn again:Bool}{W W':World}{args:Array Value}{ds gs:List (DataW H)}{before:List MemPlace}
  {T:TypeId->Prop} (KP:Kids P T) (full:∀t e,T t->P.underlying t=some (.slice e)->0<P.cellsOf e) (hT:∀t∈f.params.toList,T t) {tb:TypeId} (hb:P.underlying tb=some .bool) (hr:f.resultTypes= #[tb])
  (hs:s.vars=[]) (hW:DataW.Whole enc P f.params.toList s.vars apart W args.toList ds gs before) (hK:aIE W W')
  (e1:(s.fn H (ds++gs)).results=[.lit (.bool true)]) (e2:(s.fn H (ds++gs)).args=ds) (e3:(s.fn H (ds++gs)).vars=[]):
  s.post enc P f apart fresh handsOn again W args (.bool true) W':=by
 have hlt:=λp hp=>hW.lt p hp;have hW':=hW;obtain⟨pa,pv,hA,hV,rfl,hz,hn⟩:=hW';rw[hs] at hV;obtain⟨rfl,rfl⟩:=trodVars_none hV;simp only[zLQ] at *;have hargs:∀sp:Nat->Bool,(∀p∈pa,sp p.block=true)->DataW.TrodAll enc P W' 0 sp true f.params.toList args.toList ds pa:=λsp hsp=>
  aJD (DataW.TrodAll.respare KP full hT hA hsp) λp hp=>hK.sameAt p (hlt p hp)
 have hres:∀(b:Nat) (sp:Nat->Bool) (hd:Bool),DataW.TrodAll enc P W' b sp hd f.resultTypes.toList ((Value.bool true).resultList f.resultTypes.size) (s.fn H ds).results []:=λb sp hd=>by
  rw[e1,hr];exact trodAll_cons_mk (shut_bool hb _) trodAll_mk0
 have hvars:∀sp:Nat->Bool,DataW.TrodVars enc P W' sp s.vars (s.fn H ds).vars []:=λsp=>by rw[e3,hs];rfl
 have hold:∀p∈pa,(λb=>decide (b<W.heap.size)) p.block=true:=λp hp=>by simpa using hlt p hp
 refine⟨ds,[],pa,[],pa,[],hW,by simpa using hres _ _ _,by simpa[e2] using hargs _ hold,by simpa using hvars _,World.keptBut_mono (λp hp=>⟨hp,by simp[hp]⟩) (hK.but (· ∈pa)),λ_=>?_⟩;refine⟨ok_one hr rfl (okWide_bool_mk hb _),_,_,([]++pa)++[],⟨[]++pa,[],trodAll_append (hargs _ (λ_ _=>rfl)) (hres _ _ _),hvars _,rfl,?_,?_⟩,?_⟩
 ·intro b off hp;have hp':MemPlace.cell b off∈pa:=by simpa using hp
  rw[hK.frozen ⟨b,off,none⟩ (hlt _ hp')];exact hz b off hp'
 ·intro ha;simpa using hn ha
 ·intro p hp _;simpa using hp
variable{H:Type}{enc:TypeId×Value->H}{P:Program}{w:World}{spare:Nat->Bool}{held:Bool}
def Rd(enc:TypeId×Value->H)(P:Program)(w:World)(spare:Nat->Bool)(held:Bool)(t:TypeId)(cs:List Value):Prop:=∃n x,DataW.trod enc P w 0 spare held n t cs=some x
def aDL{t:TypeId}{k:IntKind}{cs:List Value}(ht:P.underlying t=some (.int k))(h:Rd enc P w spare held t cs):∃n,cs=[.int k n]∧(Lit.int k n).wf=true:=by
 obtain⟨n,x,h⟩:=h;obtain⟨i,rfl,_,hw⟩:=DataW.trod_int ht h;exact⟨i,rfl,hw⟩
def aU1{t:TypeId}{cs:List Value}(ht:P.underlying t=some .bool)(h:Rd enc P w spare held t cs):∃b,cs=[.bool b]:=by
 obtain⟨n,x,h⟩:=h;obtain⟨i,rfl,_⟩:=DataW.trod_bool ht h;exact⟨i,rfl⟩
def aSl{t:TypeId}{cs:List Value}(ht:P.underlying t=some .string)(h:Rd enc P w spare held t cs):∃s:ByteArray,cs=[.string s]∧s.size≤maxLen:=by
 obtain⟨n,x,h⟩:=h;obtain⟨i,rfl,_,hw⟩:=DataW.trod_string ht h;exact⟨i,rfl,hw⟩
def aF7{t:TypeId}{fs:Array Field}{cs:List Value}(ht:P.underlying t=some (.struct fs))(h:Rd enc P w spare held t cs):
  cs.length=P.cellsOf t∧∀(i:Nat) (f:Field),fs[i]? =some f->Rd enc P w spare held f.type ((cs.drop f.offset).take (P.cellsOf f.type)):=by
 obtain⟨n,x,h⟩:=h;obtain⟨xs,m,rfl,_,hl,hx,hf⟩:=DataW.trod_struct ht h;refine⟨hl,λi f hi=>?_⟩;have h1:=hf i f hi;have hlt:i<xs.length:=by rw[hx];exact(aHZ.1 hi).1
 rw[kV hlt] at h1;exact⟨m,_,h1⟩
def aTX{t e:TypeId}{n:Nat}{cs:List Value}(ht:P.underlying t=some (.array n e))(h:Rd enc P w spare held t cs):
  cs.length=P.cellsOf t∧∀i,i<n->Rd enc P w spare held e ((cs.drop (i*P.cellsOf e)).take (P.cellsOf e)):=by
 obtain⟨m,x,h⟩:=h;cases m with
 | zero=>simp[DataW.trod] at h
 | succ m=>
  unfold DataW.trod at h;rw[ht] at h;split at h<;>simp_all;obtain⟨hl,xs,hp,hd⟩:=h;intro i hi;have:=mapM_some_get hp i i (by simp[hi]);have hlt:i<xs.length:=by have:=mapM_some_length hp;simp at this;omega
  rw[kV hlt] at this;exact⟨m,_,this⟩
def aMr{w:World}{a:Addr}{v:Value}(h:w.cell? a=some v):∃c t fr,w.heap[a.block]? =some (.cells c t fr)∧a.spot=none∧c[a.off]? =some v:=by
 unfold World.cell? at h;split at h
 ·rename_i c t fr e;cases hs:a.spot with
  | none=>rw[hs] at h;exact⟨c,t,fr,e,rfl,by simpa using h⟩
  | some b=>rw[hs] at h;simp at h
 ·cases h
def aSF{a:Addr}(h:a.spot=none)(n:Nat):a.add n=⟨a.block,a.off+n,none⟩:=by
 obtain⟨b,o,s⟩:=a;simp only at h;subst h;exact kG b o n
def aLD{t e:TypeId}{cs:List Value}(ht:P.underlying t=some (.slice e))(hpos:0<P.cellsOf e)(h:Rd enc P w spare held t cs):
  ∃v rows,cs=[v]∧hC (aEv w) (P.cellsOf e) v rows∧∀r∈rows,Rd enc P w spare held e r:=by
 obtain⟨n,x,h⟩:=h;rcases Go.Deep.open_slice ht h with⟨rfl,_⟩|⟨a,len,cap,m,k,D,Pl,rfl,hb,hl,hm,hmm,rfl,hx⟩
 ·exact⟨_,[],rfl,eD.nil (e:=e).slR,by simp⟩
 have hlm:len≤m:=by rw[hmm];split<;>omega
 obtain⟨R,hR⟩:=Go.Deep.choose_lt (α:=List Value) (n:=len) (p:=λi r=>w.cells? 0 (a.add (i*P.cellsOf e)) (P.cellsOf e)=some r∧Rd enc P w spare held e r) (λi hi=>by
  obtain⟨r,h1,h2⟩:=hx i (by omega);exact⟨r,h1,k,_,h2⟩)
 have hrows:Rows (P.cellsOf e) ((List.range len).map R):=λr hr=>by
  obtain⟨i,hi,rfl⟩:=pQ.1 hr;exact(World.cells?_some (hR i (aGT.1 hi)).1).2.1
 refine⟨_,(List.range len).map R,rfl,⟨hrows,some a,cap,by simp,by simpa using hl,hm,λhne=>?_,trivial⟩,λr hr=>?_⟩
 ·have hlen:0<len:=by
   rcases Nat.eq_zero_or_pos len with h0|h0
   ·subst h0;simp at hne
   ·exact h0
  have cell:∀i j,i<len->j<P.cellsOf e->w.cell? (a.add (i*P.cellsOf e+j))=(R i)[j]?:=λi j hi hj=>by
   rw[←Go.Deep.add_add];exact(World.cells?_some (hR i hi).1).2.2 j hj
  have hRl:∀i,i<len->(R i).length=P.cellsOf e:=λi hi=>(World.cells?_some (hR i hi).1).2.1;have c0:=cell 0 0 hlen hpos;rw[Nat.zero_mul,iP,show a.add 0=a by simp[Addr.add],kV (by rw[hRl 0 hlen];exact hpos)] at c0;obtain⟨c,tt,fr,hh,hs,_⟩:=aMr c0;have at_:∀i j,i<len->j<P.cellsOf e->c[a.off+(i*P.cellsOf e+j)]? =(R i)[j]?:=λi j hi hj=>by
   have h1:=cell i j hi hj;rw[aSF hs] at h1;have hj':j<(R i).length:=by rw[hRl i hi];exact hj
   rw[kV hj'] at h1 ⊢;obtain⟨c',_,_,hh',_,h2⟩:=aMr h1;simp only[hh,zL4,Obj.cells.injEq] at hh';rw[←hh'.1] at h2;exact h2
  have hle:a.off+len*P.cellsOf e≤c.size:=by
   have h1:=at_ (len-1) (P.cellsOf e-1) (by omega) (by omega);have hj':P.cellsOf e-1<(R (len-1)).length:=by rw[hRl _ (by omega)];omega
   rw[kV hj'] at h1;have h2:=(aHZ.1 h1).1;have h3:(len-1)*P.cellsOf e+P.cellsOf e=len*P.cellsOf e:=by rw[←Nat.succ_mul];congr 1;omega
   omega
  refine⟨a.block,a.off,c,tt,fr,by rw[←hs],hh,by simpa using hle,?_⟩;have hfl:=hrows.flat;simp only[iF,List.length_range] at hfl;apply aK8;intro q;by_cases hq:q<len*P.cellsOf e
  ·have hq1:q/P.cellsOf e<len:=Nat.div_lt_of_lt_mul (by rw[Nat.mul_comm];exact hq);have hq2:=zLB q hpos;have hq3:q/P.cellsOf e*P.cellsOf e+q%P.cellsOf e=q:=by rw[Nat.mul_comm];exact Nat.div_add_mod _ _
   have h1:=at_ _ _ hq1 hq2;rw[hq3] at h1;have h2:=hrows.at (i:=q/P.cellsOf e) (r:=R (q/P.cellsOf e)) (by simp[hq1]);have h3:((List.range len).map R).flatten[q]? =(R (q/P.cellsOf e))[q%P.cellsOf e]?:=by
    rw[←h2,List.getElem?_take_of_lt hq2,aJq,hq3]
   rw[h3,←h1,aJ9,Array.getElem?_extract];simp only[iF,List.length_range];rw[if_pos (by omega)]
  ·rw[List.getElem?_eq_none (by rw[Array.length_toList,Array.size_extract];simp;omega),List.getElem?_eq_none (by omega)]
 ·obtain⟨i,hi,rfl⟩:=pQ.1 hr;exact(hR i (aGT.1 hi)).2
def aUT{r:Reach}{base:Nat}{t e:TypeId}{v:Value}{d:DataW H}{p:List MemPlace}(ht:P.underlying t=some (.slice e))(hpos:0<P.cellsOf e)(hval:Value.okWide P w r base t v)(hd:DataW.Trod enc P w 0 spare held t v d p):
  ∃rows,hC (aEv w) (P.cellsOf e) v rows∧∀r∈rows,Rd enc P w spare held e r:=by
 obtain⟨a,n,c,rfl⟩:=Go.WideShapes.okWide_slice ht hval;obtain⟨k,hk⟩:=hd;obtain⟨v,rows,h1,h2,h3⟩:=aLD ht hpos ⟨k,_,hk⟩;obtain rfl:Value.slice a n c=v:=by simpa[Value.cells] using h1
 exact⟨rows,h2,h3⟩
end
section
open Go Go.RowKit Go.ChangeShapes
mutual
def aW1{H:Type}:DataW H->List Value
 | .lit (.int k n)=>[.int k n]
 | .agg parts=>aRj parts
 | _=>[]
def aRj{H:Type}:List (DataW H)->List Value
 | []=>[]
 | d::r=>aW1 d++aRj r
end
end
section
open Go
section
variable{P:Program}{h:PH}{t e:TypeId}
def qI{d:Nat}{k k':IntKind}{a b:Int}(hu:P.underlying t=some (.int k')):cB P h (Op.equalIn (d+1) t (.int k a) (.int k b))=some (a==b):=by
 rw[Op.equalIn,jB hu];simp[cB,pure]
def aNO(a b:ByteArray):(a==b)=decide (a=b):=by
 obtain⟨x⟩:=a;obtain⟨y⟩:=b;show(x==y)=_;rw[xE];simp
def aKl{d:Nat}{a b:ByteArray}(hu:P.underlying t=some .string):cB P h (Op.equalIn (d+1) t (.string a) (.string b))=some (a==b):=by
 rw[Op.equalIn,jB hu];simp[cB,pure]
def aRA{β:Type}{fs:List Field}{s0 s1:β}{body:Field->β->Sem (ForInStep β)}(g:Field->Bool)
  (hb:∀f∈fs,cB P h (body f s0)=some (if g f then .yield s0 else .done s1)):cB P h (forIn fs s0 body)=some (if fs.all g then s0 else s1):=by
 induction fs with
 | nil=>rfl
 | cons f fs ih=>
  rw[List.forIn_cons,gZ,hb f (by simp)];cases hg:g f with
  | true=>simp only[if_true,yF,List.all_cons,hg,zLo];exact ih λx hx=>hb x (by simp[hx])
  | false=>simp[List.all_cons,hg,cB,pure]
def aAG{d:Nat}{fields:Array Field}{xs ys:Array Value}(hu:P.underlying t=some (.struct fields))(hs:P.stoodInHeld t=false)(g:Field->Bool)
  (hf:∀f∈fields.toList,f.name≠ "_" ∧∃a b,cB P h (part f.type xs f.offset)=some a∧cB P h (part f.type ys f.offset)=some b∧cB P h (Op.equalIn d f.type a b)=some (g f)):
  cB P h (Op.equalIn (d+1) t (.agg xs) (.agg ys))=some (fields.toList.all g):=by
 rw[Op.equalIn,jB hu];simp only[bind_pure_comp,pure_bind];have hp:∀{α:Type} (f:Program->Sem α),cB P h (program >>= f)=cB P h (f P):=λf=>rfl;have hp2:∀{α β:Type} (g:Program->β) (f:β->Sem α),cB P h ((g <$> program) >>= f)=cB P h (f (g P)):=λg f=>rfl
 first
  | rw[hp]
  | skip
 simp only[hs,zLs,if_false];rw[←Array.forIn_toList,gZ,aRA (s1:=⟨some false,()⟩) g]
 ·cases hx:fields.toList.all g<;>simp[cB,pure]
 ·intro f hfm;obtain⟨hn,a,b,ha,hb,hab⟩:=hf f hfm;simp only[ne_eq,hn,not_false_eq_true,if_true];rw[gZ,ha,yF,gZ,hb,yF,gZ,hab,yF];cases g f<;>rfl
def aHx{x y:Operand}{xs ys:Array Value}{b:Bool}(hg:P.eqGuardType P.depth t=false)(he:cB P h (Op.equalIn (9999+1) t (.agg xs) (.agg ys))=some b):
  cB P h (fJ .eql t x y (.agg xs) (.agg ys))=some (.bool b):=by
 show cB P h (eqGuard .eql t x y (.agg xs) (.agg ys) >>= λ_=>binOp .eql t (.agg xs) (.agg ys))=_;rw[gZ];have:cB P h (eqGuard .eql t x y (.agg xs) (.agg ys))=some ():=by
  unfold eqGuard;show cB P h (if !P.eqGuardType P.depth t then pure () else _)=_;rw[hg];rfl
 rw[this,yF];show cB P h (Op.equalIn (9999+1) t (.agg xs) (.agg ys) >>= λb=>(pure (Value.bool b):Sem Value))=_;rw[gZ,he];rfl
def aJY{x y:Operand}{xs ys:Array Value}{b:Bool}(hg:P.eqGuardType P.depth t=false)(he:cB P h (Op.equalIn (9999+1) t (.agg xs) (.agg ys))=some b):
  cB P h (fJ .neq t x y (.agg xs) (.agg ys))=some (.bool (!b)):=by
 show cB P h (eqGuard .neq t x y (.agg xs) (.agg ys) >>= λ_=>binOp .neq t (.agg xs) (.agg ys))=_;rw[gZ];have:cB P h (eqGuard .neq t x y (.agg xs) (.agg ys))=some ():=by
  unfold eqGuard;show cB P h (if !P.eqGuardType P.depth t then pure () else _)=_;rw[hg];rfl
 rw[this,yF];show cB P h (Op.equalIn (9999+1) t (.agg xs) (.agg ys) >>= λb=>(pure (Value.bool (!b)):Sem Value))=_;rw[gZ,he];rfl
def iC{d:TypeDesc}{cs:Array Value}{o:Nat}{v:Value}(hu:P.underlying t=some d)(hd:aDS d=true)(hv:cs[o]? =some v):cB P h (part t cs o)=some v:=by
 unfold part;rw[aIf hu,hd];simp[hv,cB,pure]
def aAE{d:TypeDesc}{cs:Array Value}{o n:Nat}{i:TypeInfo}(hu:P.underlying t=some d)(hd:aDS d=false)(hi:P.info? t=some i)(hn:i.size=n):cB P h (part t cs o)=some (.agg (cs.extract o (o+n))):=by
 unfold part;rw[aIf hu,hd];simp only[Bool.not_false,if_true];rw[kL,wS hi,hn];rfl
end
structure aKN(P:Program)(t:TypeId){α:Type}[DecidableEq α](enc:α->Value):Prop where
 chk:∀(h:PH) (b:Bool) (a:α),cB P h (Instr.checkKey b 10000 t (enc a))=some ()
 eq:∀(h:PH) (a b:α),cB P h (Op.equal t (enc a) (enc b))=some (decide (a=b))
 bits:∀a,Instr.sameBits 10000 (enc a) (enc a)=true
 now:∃kind,P.underlying t=some kind∧((∀a b,Instr.sameNow kind (enc a) (enc b)=none)∨∀a b,Instr.sameNow kind (enc a) (enc b)=some (decide (a=b)))
section
variable{P:Program}{h:PH}{t kt et:TypeId}{α:Type}[DecidableEq α]{enc:α->Value}
def aA2(enc:α->Value)(l:List (α×Value×Nat)):List MapEntry:=l.map λp=>⟨enc p.1,p.2.1,p.2.2⟩
def aBP(a:α):List (α×Value×Nat)->Nat->Option (Nat×Value)
 | [],_=>none
 | p::ps,i=>if a=p.1 then some (i,p.2.1) else aBP a ps (i+1)
def aJK(K:aKN P kt enc)(a:α):∀(l:List (α×Value×Nat)) (i:Nat),cB P h (Instr.findAsking kt (enc a) (aA2 enc l) i)=some (aBP a l i)
 | [],i=>rfl
 | p::ps,i=>by
  show cB P h (Op.equal kt (enc a) (enc p.1) >>= _)=_;rw[gZ,K.eq h a p.1];simp only[yF,aBP];by_cases e:a=p.1
  ·simp[e,cB,pure]
  ·simp only[e,decide_false,zLs,if_false];exact aJK K a ps (i+1)
def aLV{kind:TypeDesc}(hk:∀a b:α,Instr.sameNow kind (enc a) (enc b)=some (decide (a=b)))(a:α):∀(l:List (α×Value×Nat)) (i:Nat),Instr.findNow kind (enc a) (aA2 enc l) i=some (aBP a l i)
 | [],i=>rfl
 | p::ps,i=>by
  show(match Instr.sameNow kind (enc a) (enc p.1) with|some true=>_|some false=>_|none=>_)=_;rw[hk];by_cases e:a=p.1
  ·simp[e,aBP]
  ·simp only[e,decide_false,aBP,if_false];exact aLV hk a ps (i+1)
def aOV{kind:TypeDesc}(hk:∀a b:α,Instr.sameNow kind (enc a) (enc b)=none)(a:α):∀(l:List (α×Value×Nat)) (i:Nat),Instr.findNow kind (enc a) (aA2 enc l) i=none∨(l=[]∧Instr.findNow kind (enc a) (aA2 enc l) i=some none)
 | [],i=>.inr ⟨rfl,rfl⟩
 | p::ps,i=>.inl (by
  show(match Instr.sameNow kind (enc a) (enc p.1) with|some true=>_|some false=>_|none=>_)=_;rw[hk])
def aI7(K:aKN P kt enc)(a:α)(l:List (α×Value×Nat)):cB P h (Instr.findKey kt (enc a) (aA2 enc l))=some (aBP a l 0):=by
 obtain⟨kind,hu,hk⟩:=K.now;show cB P h (underlying kt >>= _)=_;rw[jB hu];rcases hk with hk|hk
 ·rcases aOV hk a l 0 with e|⟨rfl,e⟩
  ·rw[e];exact aJK K a l 0
  ·rw[e];rfl
 ·rw[aLV hk];rfl
def aLF(l:List (α×Value))(a:α):Option Value:=(l.find? λp=>decide (a=p.1)).map (·.2)
def aCB(l:List (α×Value)):List α:=l.map (·.1)
def aJm(l:List (α×Value))(a:α)(v:Value):List (α×Value):=if a∈aCB l then l.map (λp=>if p.1=a then(a,v) else p) else l++[(a,v)]
structure oG(enc:α->Value)(h:PH)(r:Nat)(l:List (α×Value)):Prop where
 nodup:(aCB l).Nodup
 here:∃es c L,h r=some (.map es c)∧es.toList=aA2 enc L∧l=L.map (λp=>(p.1,p.2.1))∧(L.map (·.2.2)).Nodup∧∀p∈L,p.2.2<c
def oG.upd{h h':PH}{r:Nat}{l:List (α×Value)}{G:List Nat}(H:oG enc h r l)(u:cV G h h')(hd:r∉G):oG enc h' r l:=by
 obtain⟨es,c,L,h1,h2,h3⟩:=H.here;exact⟨H.nodup,es,c,L,u.get h1 hd,h2,h3⟩
def oG.ext{h h':PH}{r:Nat}{l:List (α×Value)}(H:oG enc h r l)(u:cX h h'):oG enc h' r l:=H.upd u (by simp)
def oG.known{h:PH}{r:Nat}{l:List (α×Value)}(H:oG enc h r l):h r≠none:=by
 obtain⟨es,c,L,h1,_⟩:=H.here;rw[h1];simp
def aNH(a:α):∀(L:List (α×Value×Nat)) (i:Nat),(aBP a L i).map (·.2)=aLF (L.map λp=>(p.1,p.2.1)) a
 | [],_=>rfl
 | p::ps,i=>by
  simp only[aBP,aLF,hM,List.find?_cons];by_cases e:a=p.1
  ·simp[e]
  ·simp only[e,if_false,decide_false];exact aNH a ps (i+1)
def aK2(a:α):∀(L:List (α×Value×Nat)) (i:Nat),(∃q v,aBP a L i=some (i+q,v)∧(L.map (·.1))[q]? =some a∧a∈L.map (·.1))∨(aBP a L i=none∧a∉L.map (·.1))
 | [],_=>.inr ⟨rfl,by simp⟩
 | p::ps,i=>by
  by_cases e:a=p.1
  ·exact .inl ⟨0,p.2.1,by simp[aBP,e],by simp[e],by simp[e]⟩
  ·rcases aK2 a ps (i+1) with⟨q,v,h1,h2,h3⟩|⟨h1,h2⟩
   ·exact .inl ⟨q+1,v,by simp only[aBP,e,if_false,h1];congr 2;omega,by simpa using h2,by simp at h3;simp[h3]⟩
   ·exact .inr ⟨by simp[aBP,e,h1],by simp only[hM,iM,e,false_or];exact h2⟩
def aST{i:TypeInfo}{z:Value}(hi:P.info? et=some i)(hz:i.zero=some z):cB P h (zeroValue et)=some z:=by
 show cB P h (typeInfo et >>= _)=_;rw[wS hi];simp only[hz];rfl
def aPY{r:Nat}{es:Array MapEntry}{c:Nat}{β:Type}(hr:h r=some (.map es c))(f:Obj->Sem β):cB P h (getObj r >>= f)=cB P h (f (.map es c)):=by
 rw[gZ];have:cB P h (getObj r)=some (.map es c):=by
  unfold getObj;simp only[cB,hr]
 rw[this];rfl
def aQu{r:Nat}{l:List (α×Value)}(K:aKN P kt enc)(hu:P.underlying t=some (.map kt et)){i:TypeInfo}{z:Value}(hi:P.info? et=some i)(hz:i.zero=some z)(H:oG enc h r l)(a:α)(ok:Bool):
  cB P h (Instr.lookup t (.map (some r)) (enc a) ok)=some (if ok then .tuple #[(aLF l a).getD z,.bool (aLF l a).isSome] else(aLF l a).getD z):=by
 obtain⟨es,c,L,h1,h2,rfl,hb1,hb2⟩:=H.here;show cB P h (underlying t >>= _)=_;rw[jB hu];show cB P h (((getObj r) >>= _) >>= _)=_;rw[gZ,aPY h1];show cB P h (Instr.checkKey es.isEmpty 10000 kt (enc a) >>= _)=_;rw[gZ,K.chk h _ a];simp only[yF];rw[h2];rw[gZ,aI7 K];simp only[yF];have hg:=aNH a L 0;cases e:aBP a L 0 with
 | none=>
  rw[e] at hg;rw[←hg];simp only[gZ,aST hi hz];cases ok<;>rfl
 | some q=>
  rw[e] at hg;rw[←hg];cases ok<;>rfl
def aDM{r:Nat}{es:Array MapEntry}{c:Nat}{β:Type}{Q:β->PH->Prop}(hr:h r=some (.map es c)){f:Obj->Sem β}(hq:cM P (f (.map es c)) h Q):cM P (getObj r >>= f) h Q:=by
 refine gR (a:=.map es c) ?_ hq;unfold getObj;simp only[cB,hr]
def aBh{L:List (α×Value×Nat)}:aCB (L.map λp=>(p.1,p.2.1))=L.map (·.1):=by simp[aCB]
def aPz{r:Nat}{l:List (α×Value)}(K:aKN P kt enc)(hu:P.underlying t=some (.map kt et))(H:oG enc h r l)(a:α)(v:Value){k:cF}
  (hk:∀h',oG enc h' r (aJm l a v)->cV [r] h h'->k undef h'):cM P (aIW t (.map (some r)) (enc a) v) h k:=by
 obtain⟨es,c,L,h1,h2,rfl,hb1,hb2⟩:=H.here;have hnd:=H.nodup;rw[aBh] at hnd;show cM P (Instr.mapUpdate t (.map (some r)) (enc a) v >>= λ_=>pure undef) h k;refine cM.bind (P:=P) (s:=Instr.mapUpdate t (.map (some r)) (enc a) v) ?_;show cM P (underlying t >>= _) h _;rw[rR hu];refine aDM h1 ?_;refine gR (K.chk h false a) ?_;rw[h2];refine gR (aI7 K a L) ?_;rcases aK2 a L 0 with⟨q,w,e1,e2,e3⟩|⟨e1,e2⟩
 ·rw[e1,iP];have hq:es[q]? =some ⟨enc a,(L[q]?.map (·.2.1)).getD v,(L[q]?.map (·.2.2)).getD 0⟩:=by
   rw[←aJ9,h2];rw[wV] at e2;obtain⟨p,hp,rfl⟩:=Option.map_eq_some_iff.1 e2;simp[aA2,wV,hp]
  show cM P (Instr.keyThatStays (((es[q]?).map (·.key)).getD (enc a)) (enc a) >>= _) h _;rw[hq];unfold Instr.keyThatStays;simp only[aJZ,Option.getD_some,K.bits,if_true];show(∃u,h r=some u∧(∀c e f,u≠ .cells c e f))∧_;refine⟨⟨_,h1,by intros;simp⟩,?_⟩;show k undef _;have hbm:(L.map (λp=>if p.1=a then(a,v,p.2.2) else p)).map (·.2.2)=L.map (·.2.2):=by
   rw[zLZ];apply zL0;intro p _;simp only[Function.comp];split<;>rfl
  refine hk _ ⟨?_,_,c,L.map (λp=>if p.1=a then(a,v,p.2.2) else p),eB,?_,?_,by rw[hbm];exact hb1,λp hp=>?_⟩ (cV.set (by simp))
  ·have:aCB (aJm (L.map λp=>(p.1,p.2.1)) a v)=L.map (·.1):=by
    unfold aJm;rw[aBh,if_pos e3];simp only[aCB,zLZ];apply zL0;intro p _;simp only[Function.comp];split
    ·rename_i h;exact h.symm
    ·rfl
   rw[this];exact hnd
  ·rw[Array.toList_modify,h2];apply aK8;intro j;rw[List.getElem?_modify];simp only[aA2,wV];rw[wV] at e2;obtain⟨p0,hp0,hp1⟩:=Option.map_eq_some_iff.1 e2;cases hj:L[j]? with
   | none=>simp
   | some p=>
    by_cases hjq:q=j
    ·subst hjq;rw[hp0] at hj;cases hj;simp[hp1]
    ·have hne:p.1≠a:=by
      intro hpa;have h3:(L.map (·.1))[j]? =(L.map (·.1))[q]?:=by rw[wV,wV,hj,hp0,aJZ,aJZ,hpa,hp1]
      have hjl:j<(L.map (·.1)).length:=by rw[iF];exact(zLA.1 hj).1
      exact hjq ((List.getElem?_inj hjl hnd).1 h3).symm
     simp[hjq,hne]
  ·unfold aJm;rw[aBh,if_pos e3];simp only[zLZ];apply zL0;intro p _;simp only[Function.comp];split<;>rfl
  ·obtain⟨q,hq,rfl⟩:=pQ.1 hp;have:=hb2 q hq;split<;>exact this
 ·rw[e1];show(∃u,h r=some u∧(∀c e f,u≠ .cells c e f))∧_;refine⟨⟨_,h1,by intros;simp⟩,?_⟩;show k undef _;refine hk _ ⟨?_,_,c+1,L++[(a,v,c)],eB,?_,?_,?_,?_⟩ (cV.set (by simp))
  ·unfold aJm;rw[aBh,if_neg e2];have:aCB (L.map (λp=>(p.1,p.2.1))++[(a,v)])=L.map (·.1)++[a]:=by simp[aCB]
   rw[this,List.nodup_append];refine⟨hnd,by simp,?_⟩;intro x hx y hy;simp only[iI] at hy;subst hy;rintro rfl;exact e2 hx
  ·rw[Array.toList_push,h2];simp[aA2]
  ·unfold aJm;rw[aBh,if_neg e2];simp
  ·rw[wA,List.nodup_append];refine⟨hb1,by simp,?_⟩;intro x hx y hy;simp only[hM,jA,iI] at hy;subst hy;obtain⟨p,hp,rfl⟩:=pQ.1 hx;have:=hb2 p hp;omega
  ·intro p hp;rcases xA.1 hp with hp|hp
   ·have:=hb2 p hp;omega
   ·simp only[iI] at hp;subst hp;simp
def aQ4:jT P (Instr.makeMap t none)=some (.map #[] 0,λr=>pure (.map (some r))):=rfl
def oG.new{r:Nat}:oG enc (h.set r (.map #[] 0)) r []:=⟨by simp[aCB],#[],0,[],eB,rfl,rfl,by simp,by simp⟩
end
section
variable{P:Program}{h:PH}{t t' t2 e:TypeId}
def oG.len{α:Type}[DecidableEq α]{enc:α->Value}{r:Nat}{l:List (α×Value)}(H:oG enc h r l){k v:TypeId}(hu:P.underlying t=some (.map k v)):cB P h (Builtin.len_ #[t] t' #[.map (some r)])=some (.int .i64 l.length):=by
 obtain⟨es,c,L,h1,h2,rfl,_⟩:=H.here;rw[aVI hu h1];have:es.size=L.length:=by rw[←Array.length_toList,h2];simp[aA2]
 rw[this,iF]
end
section
variable{P:Program}{h:PH}{t t' t2 e:TypeId}
def jM(b:UInt8):List Value:=[.int .u8 b.toNat]
def jM.rows(l:List UInt8):Rows 1 (l.map jM):=λr hr=>by
 obtain⟨m,_,rfl⟩:=pQ.1 hr;rfl
def jM.isCell(l:List UInt8):∀r∈l.map jM,∀u∈r,fH u=true:=λr hr u hu=>by
 obtain⟨m,_,rfl⟩:=pQ.1 hr;simp only[jM,iM,zLg,or_false] at hu;subst hu;rfl
def jM.flat(l:List UInt8):(l.map jM).flatten=l.map λb=>Value.int .u8 b.toNat:=by
 induction l with
 | nil=>rfl
 | cons b bs ih=>simp[jM,ih]
def aKe{body:Value->ByteArray->Sem (ForInStep ByteArray)}(hb:∀(b:UInt8) (s:ByteArray),body (.int .u8 b.toNat) s=pure (.yield (s.push b))):∀(l:List UInt8) (s:ByteArray),
  cB P h (forIn (l.map λb=>Value.int .u8 b.toNat) s body)=some ⟨s.data++l.toArray⟩
 | [],s=>by simp[cB,pure]
 | b::bs,s=>by
  rw[hM,List.forIn_cons,gZ,hb];show cB P h (forIn (bs.map _) (s.push b) body)=_;rw[aKe hb bs (s.push b)];congr 1;apply ByteArray.ext;show(s.push b).data++bs.toArray=_;rw[ByteArray.data_push];apply zLw;simp
def aEo{x:Value}{l:List UInt8}(hu:P.underlying t=some (.slice e))(he:P.underlying e=some (.int .u8))(hs:P.underlying t2=some .string)(S:hC h 1 x (l.map jM)):
  cB P h (convert t t2 x)=some (.string ⟨l.toArray⟩):=by
 have hf:=S.first (P:=P);obtain⟨a,c,rfl,h1,h2,h3,h4⟩:=S.here;show cB P h (underlying t >>= _)=_;rw[jB hu];show cB P h (underlying t2 >>= _)=_;rw[jB hs];show cB P h (underlying e >>= _)=_;rw[jB he];simp only[iF,jM.flat] at hf ⊢;show cB P h (Conv.bytesToString (.slice a l.length c))=_;unfold Conv.bytesToString;cases a with
 | none=>
  have:l=[]:=by
   by_cases h0:l=[]
   ·exact h0
   ·obtain⟨b,o,cs,e,fr,hh,_⟩:=h3 (by simpa using h0);cases hh
  subst this;rfl
 | some a=>
  have hf':cB P h (loadCells a l.length)=some (l.map λb=>Value.int .u8 b.toNat).toArray:=by
   have:Builtin.firstCells 1 l.length (.slice (some a) l.length c)=loadCells a (l.length*1):=rfl;rw[this,Nat.mul_one] at hf;exact hf
  show cB P h (loadCells a l.length >>= _)=_;rw[gZ,hf',yF];rw[gZ,←Array.forIn_toList,aKe]
  ·rw[yF];show some (Value.string _)=_;congr 2;apply ByteArray.ext;simp
  ·intro b s;simp
def hC.fields{size:Nat}{v:Value}{rows:List (List Value)}(H:hC h size v rows){i:TypeInfo}(hu:P.underlying t=some (.slice e))(hi:P.info? e=some i)(hn:i.size=size){k:IntKind}{j:Nat}{r:List Value}(hr:rows[j]? =some r):
  ∃b o,cC P (indexAt t v (.int k j))=some (pT b o)∧(∀q c,r[q]? =some c->cU h ⟨b,o+q,none⟩=some c)∧∀d,P.underlying e=some d->aDS d=false->cB P h (loadAt e (pT b o))=some (.agg r.toArray):=by
 obtain⟨b,o,cs,e',fr,h1,hb,hle,hex⟩:=H.at hu hi hn (k:=k) (j:=(j:Int)) (by omega) hr;refine⟨b,o,h1,λq c hq=>?_,λd he hd=>?_⟩
 ·have hql:q<size:=by
   have:=(zLA.1 hq).1
   rwa [H.ok r (aAB hr)] at this
  unfold cU;simp only[hb];rw[←hex] at hq;simp only[zLD,zLx,aB0,aEV,aJq,hql,if_true] at hq;simpa using hq
 ·rw[zQ he hd hi hn hb hle];congr 2;exact zLw hex
end
section
variable{P:Program}{h:PH}{t e:TypeId}
def aPU{α β:Type}{fs:List α}{s0 s1:β}{body:α->β->Sem (ForInStep β)}(g:α->Bool)
  (hb:∀f∈fs,cB P h (body f s0)=some (if g f then .yield s0 else .done s1)):cB P h (forIn fs s0 body)=some (if fs.all g then s0 else s1):=by
 induction fs with
 | nil=>rfl
 | cons f fs ih=>
  rw[List.forIn_cons,gZ,hb f (by simp)];cases hg:g f with
  | true=>simp only[if_true,yF,List.all_cons,hg,zLo];exact ih λx hx=>hb x (by simp[hx])
  | false=>simp[List.all_cons,hg,cB,pure]
def aLj{d n size:Nat}{xs ys:Array Value}{i:TypeInfo}(hu:P.underlying t=some (.array n e))(hi:P.info? e=some i)(hn:i.size=size)(g:Nat->Bool)
  (hf:∀j,j<n->∃a b,cB P h (part e xs (j*size))=some a∧cB P h (part e ys (j*size))=some b∧cB P h (Op.equalIn d e a b)=some (g j)):
  cB P h (Op.equalIn (d+1) t (.agg xs) (.agg ys))=some ((List.range n).all g):=by
 rw[Op.equalIn,jB hu];simp only[kL,wS hi,hn];simp only[Std.Legacy.Range.forIn_eq_forIn_range',Std.Legacy.Range.size,Nat.sub_zero,Nat.add_sub_cancel,Nat.div_one];rw[gZ,←List.range_eq_range',aPU (s1:=⟨some false,()⟩) g]
 ·cases hx:(List.range n).all g<;>simp[cB,pure]
 ·intro j hj;obtain⟨a,b,ha,hb,hab⟩:=hf j (aGT.1 hj);rw[gZ,ha,yF,gZ,hb,yF,gZ,hab,yF];cases g j<;>rfl
def sM{b o n len:Nat}{k:IntKind}{j:Int}{i:TypeInfo}(hu:P.underlying t=some (.array len e))(hi:P.info? e=some i)(hn:i.size=n)(h0:0≤j)(h1:j<len):
  cC P (indexAt t (pT b o) (.int k j))=some (pT b (o+j.toNat*n)):=by
 show cC P (underlying t >>= _)=_;rw[xB hu];show cC P (underlying t >>= _)=_;rw[xB hu];simp only[h0,h1,and_self,if_true];rw[kL,aKG hi,hn,kG];rfl
end
abbrev Tx:=List UInt8
def tx(l:List UInt8):ByteArray:=⟨l.toArray⟩
def aU4(s:ByteArray):tx s.data.toList=s:=by cases s;simp[tx]
def kU(l:List UInt8):(tx l).size=l.length:=by simp[tx,ByteArray.size]
def aWB:tx []=⟨#[]⟩:=rfl
def aSm(a b:List UInt8):tx a++tx b=tx (a++b):=by
 apply ByteArray.ext;rw[ByteArray.data_append];simp[tx]
section
variable{P:Program}{h:PH}{t t' t2 e:TypeId}
def jQ{a b:List UInt8}(hs:a.length+b.length≤9223372036854775807):cC P (binOp .add t (.string (tx a)) (.string (tx b)))=some (.string (tx (a++b))):=by
 show cC P (Op.stringOp .add (tx a) (tx b))=_;have:¬(((tx a).size+(tx b).size:Nat):Int)>IntKind.i64.max:=by
  rw[kU,kU];have:IntKind.i64.max=9223372036854775807:=rfl;omega
 simp only[Op.stringOp,this,if_false];rw[aSm];rfl
def kI{l:List UInt8}{i j:Nat}{lo hi:Option Value}(hu:P.underlying t=some .string)(hlo:lo=none∧i=0∨∃k,lo=some (.int k i))(hhi:hi=none∧j=l.length∨∃k,hi=some (.int k j))(h1:i≤j)(h2:j≤l.length):
  cC P (Instr.sliceAt t (.string (tx l)) lo hi none)=some (.string (tx ((l.take j).drop i))):=by
 show cC P (underlying t >>= _)=_;rw[xB hu];show cC P (underlying t >>= _)=_;rw[xB hu];have hb:Instr.sliceBounds false (tx l).size (tx l).size lo hi none=pure (i,j,(tx l).size):=by
  have hcast:∀n m:Nat,n≤m->(0≤(n:Int)∧(n:Int)≤(m:Int)):=λn m h=>by omega
  rw[kU];rcases hlo with⟨rfl,rfl⟩|⟨k,rfl⟩<;>rcases hhi with⟨rfl,rfl⟩|⟨k',rfl⟩ <;>
   simp[Instr.sliceBounds,Instr.sliceBound,asIntOf,hcast,h1,h2]
 simp only[hb,pure_bind,zLv,zLs,if_false];show some (Value.string ((tx l).extract i j))=_;congr 2;apply ByteArray.ext;apply zLw;rw[ByteArray.data_extract];simp[tx,zLx,zLy]
def nL{l:List UInt8}{k:IntKind}{j:Nat}{b:UInt8}(hu:P.underlying t=some .string)(hb:l[j]? =some b):cC P (Instr.index t (.string (tx l)) (.int k j))=some (.int .u8 b.toNat):=by
 show cC P (underlying t >>= _)=_;rw[xB hu];have h0:(0:Int)≤(j:Int):=by omega
 simp only[h0,if_true,wU];have:(tx l)[j]? =some b:=by
  obtain⟨hlt,rfl⟩:=zLA.1 hb;have hs:j<(tx l).size:=by rw[kU];exact hlt
  rw[getElem?_pos (tx l) j hs];congr 1
 rw[this];rfl
def aTV{l:List UInt8}(hu:P.underlying t=some .string)(hu2:P.underlying t2=some (.slice e))(he:P.underlying e=some (.int .u8))(hl:l.length≤140737488355328){k:cF}
  (hk:∀v h',hC h' 1 v (l.map jM)->cX h h'->k v h'):cM P (convert t t2 (.string (tx l))) h k:=by
 show cM P (underlying t >>= _) h k;rw[rR hu];show cM P (underlying t2 >>= _) h k;rw[rR hu2];show cM P (underlying e >>= _) h k;rw[rR he];show cM P (choose (.appendCap (tx l).size 0 e) >>= _) h k;rw[aAH];intro tt;have hforced:(Question.appendCap (tx l).size 0 e).forced=false:=rfl;rw[hforced];have hcut:(tx l).size≤(Question.appendCap (tx l).size 0 e).cut tt∧(Question.appendCap (tx l).size 0 e).cut tt≤vS:=by
  rw[kU];have hpos:0<2^63-l.length:=by omega
  have:=zLB tt hpos;simp only[Question.cut,vS];omega
 simp only[zLs,if_false];generalize (Question.appendCap (tx l).size 0 e).cut tt=cap at *;obtain⟨c1,c2⟩:=hcut;intro r hr;generalize hcs:((tx l).data.map λb=>Value.int .u8 b.toNat)++Array.replicate (cap-(tx l).size) (.int .u8 0)=cs;have hsz:cs.size=cap:=by rw[←hcs];simp[tx,ByteArray.size] at *;omega
 have u1:cX h (h.set r (.cells cs e)):=cV.new hr;show cM P (markStringish ⟨r,0,none⟩ >>= λ_=>pure (Value.slice (some ⟨r,0,none⟩) (tx l).size cap)) (h.set r (.cells cs e)) k;unfold markStringish;have hshape:iR (h.set r (.cells cs e)) r=some (some (e,cs.size)):=by unfold iR;rw[eB]
 show ∃s,iR (h.set r (.cells cs e)) r=some s∧_;refine⟨_,hshape,?_⟩;show(∃o,(h.set r (.cells cs e)) r=some o)∧_;refine⟨⟨_,eB⟩,?_⟩;show k (.slice (some ⟨r,0,none⟩) (tx l).size cap) (lR (h.set r (.cells cs e)) ⟨r,cs.size,none⟩ 1);have hf:lR (h.set r (.cells cs e)) ⟨r,cs.size,none⟩ 1=h.set r (.cells cs e (cs.size,cs.size+1)):=by
  funext b;unfold lR PH.set;simp only[Nat.one_ne_zero,if_false];by_cases hb:b=r
  ·subst hb;simp
  ·simp[hb]
 rw[hf];refine hk _ _ ⟨jM.rows _,some ⟨r,0,none⟩,cap,by rw[kU,iF],by rw[iF,←kU];exact c1,c2,λ_=>⟨r,0,cs,e,_,rfl,eB,?_,?_⟩,trivial⟩ (cV.new hr)
 ·rw[iF,hsz,←kU];omega
 ·rw[jM.flat,iF];have e1:cs.toList=(l.map λb=>Value.int .u8 b.toNat)++List.replicate (cap-(tx l).size) (.int .u8 0):=by rw[←hcs];simp[tx]
  rw[zLD,zLx,e1];simp
def aLs{bytes:Nat}{v:Value}{rows:List (List Value)}{l:List UInt8}{F:List Nat}{i:TypeInfo}{z:Value}{k:cF}
  (hu:P.underlying t=some (.slice e)) (hu2:P.underlying t2=some .string) (hi:P.info? e=some i) (hn:i.size=1) (hby:i.bytes=bytes) (hz:i.zero=some z) (hzs:z.cells.size=1) (hb0:0<bytes)
  (H:eD h e 1 v rows F) (hl:(rows.length+l.length)*bytes≤140737488355328)
  (hk:∀v' h' F',eD h' e 1 v' (rows++l.map jM) F'->cV F h h'->(∀b∈F',b∈F∨h b=none)->aKQ v≤aKQ v'->k v' h'):cM P (Builtin.append_ #[t,t2] t' #[v,.string (tx l)]) h k:=by
 generalize hys:l.map jM=ys at *;have hyl:ys.length=l.length:=by rw[←hys,iF]
 have hSok:Rows 1 ys:=by rw[←hys];exact jM.rows l
 have hcell:∀r∈ys,∀u∈r,fH u=true:=by rw[←hys];exact jM.isCell l
 rw[←hyl] at hl;have hfirst:cB P h (Builtin.firstCells 1 ys.length (.string (tx l)))=some ys.flatten.toArray:=by
  show some (((tx l).extract 0 ys.length).data.map λb=>Value.int .u8 b.toNat)=_;rw[hyl,←hys,jM.flat];congr 1;apply zLw;rw[ByteArray.data_extract];simp[tx,zLx]
 have hbig:rows.length+ys.length≤140737488355328:=zLE (Nat.le_mul_of_pos_right _ hb0) hl;have hrows:Rows 1 (rows++ys):=H.ok.append hSok;have hflat:∀u∈ys.flatten,fH u=true:=λu hu=>by
  obtain⟨r,hr,hur⟩:=List.mem_flatten.1 hu;exact hcell r hr u hur
 -- a new block
 have grown:∀(m:Nat),rows.length+ys.length≤m->m≤vS->aKQ v≤m->∀r,h r=none->
   k (.slice (some ⟨r,0,none⟩) (rows.length+ys.length) m) (h.set r (.cells (rows.flatten.toArray++ys.flatten.toArray++Builtin.zeroCells z.cells (m-(rows.length+ys.length))) e (0,0))):=by
  intro m hm hmax hcapv r hr;refine hk _ _ [r] ⟨hrows,.inr ⟨r,m,_,by rw[jK],rfl,eB,by simpa using hm,hmax,?_,?_⟩⟩ (cV.new hr) (λb hb=>.inr (by simp at hb;subst hb;exact hr)) hcapv
  ·simp only[Array.size_append,List.size_toArray,H.ok.flat,hSok.flat,Builtin.zeroCells,Array.size_map,Array.size_range,hzs];rw[←zLF,←zLF];congr 1;omega
  ·have hlen:(rows++ys).length*1=(rows.flatten++ys.flatten).length:=by rw[jK,jK,H.ok.flat,hSok.flat,zLF]
   simp only[Array.toList_append,hlen,zLG];rw[zLH (mS _),zLJ]
 obtain⟨va,vc,hv,hv1,hv2,_,_⟩:=H.slR.here;have hvfirst:=H.slR.first (P:=P);subst hv;simp only[Builtin.append_,List.getElem?_toArray,zLK,zLL,rR hu,rR hu2,kL,pU hi,pure_bind,zLs,if_false,Builtin.lenOf,Bool.not_false,if_true,hn,kU,←hyl];by_cases hfit:rows.length+ys.length≤vc
 ·rw[if_pos hfit];refine gR hfirst ?_;rcases H.here with⟨hv',hr,hF⟩|⟨b,cap,cs,hv',hF,hb,hle,hcap,hcs,htake⟩
  ·subst hr;simp only[kW,Value.slice.injEq,true_and] at hv';obtain⟨rfl,rfl⟩:=hv';have hy:ys=[]:=zLN (by omega);subst hy;exact hk _ _ [] (by simpa using eD.nil) cV.refl (by simp) (mS _)
  ·simp only[Value.slice.injEq,true_and] at hv';obtain⟨rfl,rfl⟩:=hv';have hmul:(rows.length+ys.length)*1≤vc*1:=zLO _ hfit;have hadd:(⟨b,0,none⟩:Addr).add (rows.length*1)=⟨b,0+rows.length*1,none⟩:=kG ..;show cM P (storeCells ((⟨b,0,none⟩:Addr).add (rows.length*1)) ys.flatten.toArray.toList >>= λ_=>pure _) h k;rw[hadd];refine cM.bind (P:=P) (s:=storeCells _ _) ?_;refine uZ _ 0 h cs hb (by simp only[hSok.flat,hcs];rw[zLF] at hmul;omega) (by simpa using hflat) ?_;show k _ _;simp only[iP,zLP];have fin:∀cs':Array Value,cs'.size=cs.size->cs'.toList.take ((rows.length+ys.length)*1)=rows.flatten++ys.flatten->∀h':PH,h' b=some (.cells cs' e (0,0))->cV F h h'->
     k (.slice (some ⟨b,0,none⟩) (rows.length+ys.length) vc) h':=by
    intro cs' hsz htk h' hb' hu';refine hk _ _ [b] ⟨hrows,.inr ⟨b,vc,cs',by rw[jK],rfl,hb',by simpa using hfit,hcap,by rw[hsz,hcs],by rw[jK,htk,zLG]⟩⟩ hu' (λb' hb'=>.inl (hF▸hb')) (mS _)
   split
   ·rename_i hys;refine fin cs rfl ?_ h hb cV.refl;have:ys.length*1=0:=by rw[←hSok.flat,hys];rfl
    rw[zLF,this,hys,zLQ,zLP];exact htake
   ·refine fin _ (aDG _ _ _) ?_ _ eB (cV.set (by rw[hF];simp));have hlen:rows.length*1+ys.flatten.length≤cs.size:=by rw[hSok.flat,←zLF,hcs];exact hmul
    rw[aAC _ _ _ hlen,htake];have hlen2:(rows.length+ys.length)*1=(rows.flatten++ys.flatten).length:=by rw[jK,H.ok.flat,hSok.flat,zLF]
    rw[hlen2,zLH (mS _),zLJ]
 ·rw[if_neg hfit];have hlt:vc<rows.length+ys.length:=by omega
  have h63:¬(((rows.length+ys.length:Nat):Int)>IntKind.i64.max∧(False∨i.bytes=0)):=by
   rintro⟨_,hh⟩;rcases hh with hh|hh
   ·exact hh
   ·omega
  have hfits:¬(Builtin.nextslicecap (rows.length+ys.length) vc*i.bytes>2^48):=by
   rw[hby];have:=growslice_fits hlt hl;omega
  rw[pU hi,if_neg h63,pU hi,if_neg hfits,aAH];intro tt;rw[pU hi,aHF];refine gR hvfirst (gR hfirst ?_);have hzv:zeroValue e=(typeInfo e >>= λi=>match i.zero with|some v=>pure v|none=>unsupported (.resourceLimit "a value of more than 2^22 cells")):=rfl;rw[hzv,bind_assoc,pU hi,hz,pure_bind];have hcut:∀n m:Nat,n≤140737488355328->n≤(Question.appendCap n m e).cut tt∧(Question.appendCap n m e).cut tt≤vS:=by
   intro n m hn;have hpos:0<2^63-n:=by omega
   have:=zLB tt hpos;simp only[Question.cut,vS];omega
  have hforced:(Question.appendCap (rows.length+ys.length) vc e).forced=false:=rfl;rw[hforced];obtain⟨hc1,hc2⟩:=hcut (rows.length+ys.length) vc hbig;intro r hr;exact grown _ hc1 hc2 (show vc≤_ by omega) r hr
end
def aOb{α:Type}{p:List α->Prop}(h0:p [])(hs:∀l a,p l->p (l++[a]))(l:List α):p l:=by
 rw[←List.reverse_reverse l];induction l.reverse with
 | nil=>exact h0
 | cons a l ih=>rw[List.reverse_cons];exact hs _ _ ih
def kY(l:List UInt8):Nat:=l.foldl (λa b=>a*256+b.toNat) 0
def aIg(l:List UInt8)(b:UInt8):kY (l++[b])=kY l*256+b.toNat:=by simp[kY]
def be(n:Nat):Nat->List UInt8
 | 0=>[]
 | k+1=>be (n/256) k++[UInt8.ofNat (n%256)]
def gS(n k:Nat):(be n k).length=k:=by
 induction k generalizing n with
 | zero=>rfl
 | succ k ih=>simp[be,ih]
def aWP(n k:Nat):kY (be n k)=n%256^k:=by
 induction k generalizing n with
 | zero=>simp[be,kY];omega
 | succ k ih=>
  rw[be,aIg,ih];have:(UInt8.ofNat (n%256)).toNat=n%256:=by simp
  rw[this,Nat.pow_succ,Nat.mul_comm (256^k) 256,Nat.mod_mul];omega
def aIU(l:List UInt8):kY l<256^l.length:=by
 refine aOb (p:=λl=>kY l<256^l.length) (by simp[kY]) (λl b ih=>?_) l
 ·rw[aIg,jK,List.length_singleton,Nat.pow_succ];have:=b.toNat_lt;have:kY l+1≤256^l.length:=ih;have h2:(kY l+1)*256≤256^l.length*256:=zLO _ this;omega
def aO6(n:Nat):∀(k i:Nat),i<k->(be n k)[i]? =some (UInt8.ofNat (n/256^(k-1-i)%256))
 | 0,i,h=>by omega
 | k+1,i,h=>by
  rw[be,List.getElem?_append,gS];by_cases hi:i<k
  ·rw[if_pos hi,aO6 (n/256) k i hi,Nat.div_div_eq_div_mul,show k+1-1-i=(k-1-i)+1 by omega,Nat.pow_succ,Nat.mul_comm 256]
  ·have:i=k:=by omega
   subst this;simp
def aOd{n k i:Nat}(hi:i<k):(be n k).take (i+1)=(be n k).take i++[UInt8.ofNat (n/256^(k-1-i)%256)]:=by
 rw[zLR,aO6 n k i hi];rfl
def aVj(l:List UInt8):be (kY l) l.length=l:=by
 refine aOb (p:=λl=>be (kY l) l.length=l) rfl (λl b ih=>?_) l
 ·rw[jK,List.length_singleton,be,aIg];have:=b.toNat_lt;have e1:(kY l*256+b.toNat)/256=kY l:=by omega
  have e2:(kY l*256+b.toNat)%256=b.toNat:=by omega
  rw[e1,e2,ih];simp
structure Bx(h:PH)(r:Nat)(cs:List Value):Prop where
 here:∃e,h r=some (.cells cs.toArray e (0,0))
def Bx.upd{h h':PH}{r:Nat}{cs:List Value}{G:List Nat}(H:Bx h r cs)(u:cV G h h')(hr:r∉G):Bx h' r cs:=by
 obtain⟨e,h1⟩:=H;exact⟨e,u.get h1 hr⟩
def Bx.ext{h h':PH}{r:Nat}{cs:List Value}(H:Bx h r cs)(u:cX h h'):Bx h' r cs:=H.upd u (by simp)
def Bx.new{h:PH}{r:Nat}{cs:List Value}{e:TypeId}:Bx (h.set r (.cells cs.toArray e (0,0))) r cs:=⟨e,eB⟩
def Bx.cell{h:PH}{r:Nat}{cs:List Value}(H:Bx h r cs)(o:Nat):cU h ⟨r,o,none⟩=cs[o]?:=by
 obtain⟨e,h1⟩:=H;simp[cU,h1]
def Bx.known{h:PH}{r:Nat}{cs:List Value}(H:Bx h r cs):h r≠none:=by
 obtain⟨e,h1⟩:=H;rw[h1];simp
def Bx.apart{h:PH}{r x:Nat}{cs:List Value}(H:Bx h r cs)(hx:h x=none):r≠x:=λe=>H.known (e▸hx)
section
variable{P:Program}{h:PH}{t:TypeId}
def Bx.agg{r n o:Nat}{cs:List Value}(H:Bx h r cs){d:TypeDesc}{i:TypeInfo}(hu:P.underlying t=some d)(hd:aDS d=false)(hi:P.info? t=some i)(hn:i.size=n)(hle:o+n≤cs.length):
  cB P h (loadAt t (pT r o))=some (.agg ((cs.drop o).take n).toArray):=by
 obtain⟨e,h1⟩:=H;rw[zQ hu hd hi hn h1 (by simpa using hle)];congr 2;simp[zLy]
def Bx.put1{r o:Nat}{cs:List Value}(H:Bx h r cs){d:TypeDesc}{i:TypeInfo}(hu:P.underlying t=some d)(hd:aDS d=true)(hi:P.info? t=some i)(hn:i.size=1){v:Value}(ho:o<cs.length)(hv:fH v=true){k:cF}
  (hk:∀h',Bx h' r (cs.set o v)->cV [r] h h'->k undef h'):cM P (cP t (pT r o) v) h k:=by
 obtain⟨e,h1⟩:=H;refine kJ hu hd h1 (by simpa using ho) hv hi hn ?_;refine hk _ ⟨e,?_⟩ (cV.set (by simp));rw[eB];simp
def Bx.putN{r o:Nat}{cs vs:List Value}(H:Bx h r cs){i:TypeInfo}(hi:P.info? t=some i)(hn:i.size=vs.length)(h0:0<vs.length)(ho:o+vs.length≤cs.length)(hv:∀v∈vs,fH v=true){k:cF}
  (hk:∀h',Bx h' r (cs.take o++vs++cs.drop (o+vs.length))->cV [r] h h'->k undef h'):cM P (cP t (pT r o) (.agg vs.toArray)) h k:=by
 obtain⟨e,h1⟩:=H;refine aNK h1 hi (by simpa using hn) (by simpa using h0) (by simpa using ho) (by simpa using hv) ?_;refine hk _ ⟨e,?_⟩ (cV.set (by simp));rw[eB];congr 2;apply zLw;have:=aAC vs cs.toArray o (by simpa using ho);simpa using this
def Bx.fill{r:Nat}{vs:List Value}{i:TypeInfo}(hr:h r=none)(hi:P.info? t=some i)(hn:i.size=vs.length)(h0:0<vs.length)(hz:(dD P t).size=vs.length)(hv:∀v∈vs,fH v=true){k:cF}
  (hk:∀h',Bx h' r vs->cX h h'->k undef h'):cM P (cP t (pT r 0) (.agg vs.toArray)) (h.set r (.cells (dD P t) t)) k:=by
 refine aGA eB hi (by simpa using hn) (by simpa using h0) (by simpa using hz) (by simpa using hv) ?_;rw[aCZ];exact hk _ ⟨_,eB⟩ (cV.new hr)
def Bx.fill1{r:Nat}{v:Value}{d:TypeDesc}{i:TypeInfo}(hr:h r=none)(hu:P.underlying t=some d)(hd:aDS d=true)(hi:P.info? t=some i)(hn:i.size=1)(hz:(dD P t).size=1)(hv:fH v=true){k:cF}
  (hk:∀h',Bx h' r [v]->cX h h'->k undef h'):cM P (cP t (pT r 0) v) (h.set r (.cells (dD P t) t)) k:=by
 refine kJ hu hd eB (by omega) hv hi hn ?_;rw[aCZ];refine hk _ ⟨t,?_⟩ (cV.new hr);rw[eB];congr 2;apply zLw
 match dD P t,hz with
 | ⟨[x]⟩,_=>rfl
def Bx.zero{r:Nat}{cs:List Value}(hz:dD P t=cs.toArray):Bx (h.set r (.cells (dD P t) t)) r cs:=by rw[hz];exact Bx.new
end
def hC.isc{h:PH}{n:Nat}{v:Value}{rows:List (List Value)}(S:hC h n v rows):fH v=true:=by obtain⟨_,_,e,_⟩:=S.here;rw[e];rfl
def hC.upd0{h h':PH}{size:Nat}{v:Value}{rows:List (List Value)}{G:List Nat}(H:hC h size v rows)(u:cV G h h')(hd:rows≠[]->∀a n c,v= .slice (some a) n c->a.block∉G):hC h' size v rows:=by
 refine⟨H.ok,?_⟩;obtain⟨a,c,hv,h1,h2,h3,h4⟩:=H.here;refine⟨a,c,hv,h1,h2,λhne=>?_,h4⟩;obtain⟨b,o,cs,e,fr,ha,hb,hrest⟩:=h3 hne;exact⟨b,o,cs,e,fr,ha,u.get hb (hd hne ⟨b,o,none⟩ _ _ (ha▸hv)),hrest⟩
def hC.known{h:PH}{size:Nat}{v:Value}{rows:List (List Value)}(H:hC h size v rows)(hne:rows≠[]){x:Addr}{n c:Nat}(e:v= .slice (some x) n c):h x.block≠none:=by
 obtain⟨a,c',hv,h1,h2,h3,h4⟩:=H.here;obtain⟨b,o,cs,e',fr,ha,hb,_⟩:=h3 hne;rw[hv,ha] at e;simp only[Value.slice.injEq,zL4] at e;rw[←e.1,hb];simp
end
end Go.Proofs.YtiohehjhlghikaaGreatDoor
