/- The texts of this claim, put together. -/
import Derived.Calls
import Derived.Scope
import Derived.Orders
import Derived.RangeFuncLeaves
import Derived.RangeFuncRecord
import Derived.OrdersIn
import Derived.Laws.Sem
import Derived.Laws.Append
import Derived.IntWalk
import Derived.Test.YtiohehjhlghikaaGreatDoorRows
import Derived.ReadAgain
import Derived.ChangeReads
import Derived.ChangeBears
import Derived.RowKit3
import Derived.ChangeSame
import Derived.OpenShut
import Derived.Deep.Slices
import Derived.LaidMore
import Derived.Stop.Joined
import Derived.SevenTiedAt
import Derived.Laws.Strings
set_option linter.all false
set_option maxRecDepth 100000
open Go.Instr (loadAt fieldAt indexAt extract buildSlice build)
namespace Go.Proofs.YtiohehjhlghikaaGreatDoor
section
open Go
def zLa:type_of% @List.drop_succ_cons.{0}:= @List.drop_succ_cons
def zLb:type_of% @List.drop_zero.{0}:= @List.drop_zero
def zLc:type_of% @List.take_succ_cons.{0}:= @List.take_succ_cons
def zLd:type_of% @List.take_zero.{0}:= @List.take_zero
def kZ:type_of% @List.cons.injEq.{0}:= @List.cons.injEq
def iW:type_of% @List.mem_cons.{0}:= @List.mem_cons
def zLg:type_of% @List.not_mem_nil.{0}:= @List.not_mem_nil
def iZ:type_of% @Nat.zero_add:= @Nat.zero_add
def iG:type_of% @List.map_cons.{0,0}:= @List.map_cons
def jB:type_of% @List.map_nil.{0,0}:= @List.map_nil
def tK:type_of% @List.mem_append.{0}:= @List.mem_append
def xF:type_of% @Bool.eq_iff_iff:= @Bool.eq_iff_iff
def zLm:type_of% @Int.eq_ofNat_of_zero_le:= @Int.eq_ofNat_of_zero_le
def zLn:type_of% @Bool.false_and:= @Bool.false_and
def zLo:type_of% @Bool.true_and:= @Bool.true_and
def jM:type_of% @List.length_append.{0}:= @List.length_append
def iU:type_of% @List.length_cons.{0}:= @List.length_cons
def zLr:type_of% @List.filter_cons.{0}:= @List.filter_cons
def zLs:type_of% @Bool.false_eq_true:= @Bool.false_eq_true
def zLt:type_of% @List.foldl_cons.{0,0}:= @List.foldl_cons
def zLu:type_of% @Int.toNat_of_nonneg:= @Int.toNat_of_nonneg
def zLv:type_of% @Option.isSome_none.{0}:= @Option.isSome_none
def zLw:type_of% @Array.ext'.{0}:= @Array.ext'
def zLx:type_of% @List.extract_eq_take_drop.{0}:= @List.extract_eq_take_drop
def zLy:type_of% @List.drop_take.{0}:= @List.drop_take
def xK:type_of% @Int.toNat_natCast:= @Int.toNat_natCast
def zLA:type_of% @List.getElem?_eq_some_iff.{0}:= @List.getElem?_eq_some_iff
def zLB:type_of% @Nat.mod_lt:= @Nat.mod_lt
def iL:type_of% @List.length_map.{0,0}:= @List.length_map
def zLD:type_of% @Array.toList_extract.{0}:= @Array.toList_extract
def zLE:type_of% @Nat.le_trans:= @Nat.le_trans
def zLF:type_of% @Nat.add_mul:= @Nat.add_mul
def zLG:type_of% @List.flatten_append.{0}:= @List.flatten_append
def zLH:type_of% @List.take_append_of_le_length.{0}:= @List.take_append_of_le_length
def lM:type_of% @Nat.le_refl:= @Nat.le_refl
def zLJ:type_of% @List.take_length.{0}:= @List.take_length
def zLK:type_of% @List.getElem?_cons_zero.{0}:= @List.getElem?_cons_zero
def zLL:type_of% @List.getElem?_cons_succ.{0}:= @List.getElem?_cons_succ
def kV:type_of% @List.length_nil.{0}:= @List.length_nil
def zLN:type_of% @List.eq_nil_of_length_eq_zero.{0}:= @List.eq_nil_of_length_eq_zero
def zLO:type_of% @Nat.mul_le_mul_right:= @Nat.mul_le_mul_right
def zLP:type_of% @Nat.add_zero:= @Nat.add_zero
def zLQ:type_of% @List.append_nil.{0}:= @List.append_nil
def zLR:type_of% @List.take_add_one.{0}:= @List.take_add_one
def sU:type_of% @Bool.and_eq_true:= @Bool.and_eq_true
def zLT:type_of% @List.cons_append.{0}:= @List.cons_append
def zLU:type_of% @List.nil_append.{0}:= @List.nil_append
def iC:type_of% @List.mem_singleton.{0}:= @List.mem_singleton
def wG:type_of% @List.getElem?_map.{0,0}:= @List.getElem?_map
def kF:type_of% @List.getElem?_eq_getElem.{0}:= @List.getElem?_eq_getElem
def zLY:type_of% @List.mem_filter.{0}:= @List.mem_filter
def zLZ:type_of% @List.map_map.{0,0,0}:= @List.map_map
def zL0:type_of% @List.map_congr_left.{0,0}:= @List.map_congr_left
def pQ:type_of% @List.mem_map.{0,0}:= @List.mem_map
def xJ:type_of% @List.map_append.{0,0}:= @List.map_append
def zL3:type_of% @List.mem_map_of_mem.{0,0}:= @List.mem_map_of_mem
def zL4:type_of% @Option.some.injEq.{0}:= @Option.some.injEq
def lU:type_of% @List.length_take.{0}:= @List.length_take
def zL6:type_of% @List.take_append_drop.{0}:= @List.take_append_drop
def zL7:type_of% @List.take_succ_eq_append_getElem.{0}:= @List.take_succ_eq_append_getElem
def uS:type_of% @List.append_assoc.{0}:= @List.append_assoc
def sK:type_of% @List.take_of_length_le.{0}:= @List.take_of_length_le
def yQ:type_of% @List.drop_of_length_le.{0}:= @List.drop_of_length_le
def aJf:type_of% @Nat.mod_eq_of_lt:= @Nat.mod_eq_of_lt
def zX:type_of% @List.mem_of_getElem?.{0}:= @List.mem_of_getElem?
def aKA:type_of% @List.all_eq_true.{0}:= @List.all_eq_true
def jC:type_of% @List.length_drop.{0}:= @List.length_drop
def aI3:type_of% @Bool.and_false:= @Bool.and_false
def aG3:type_of% @List.length_replicate.{0}:= @List.length_replicate
def aLC:type_of% @Option.isNone_some.{0}:= @Option.isNone_some
def aDn:type_of% @List.getElem?_take.{0}:= @List.getElem?_take
def aG6:type_of% @Nat.min_eq_left:= @Nat.min_eq_left
def aNa:type_of% @List.mem_cons_self.{0}:= @List.mem_cons_self
def aEU:type_of% @List.flatten_cons.{0}:= @List.flatten_cons
def kT:type_of% @Nat.zero_le:= @Nat.zero_le
def aJ6:type_of% @List.length_pos_iff.{0}:= @List.length_pos_iff
def aAs:type_of% @List.drop_eq_getElem_cons.{0}:= @List.drop_eq_getElem_cons
def aCb:type_of% @Nat.add_sub_cancel_left:= @Nat.add_sub_cancel_left
def qK:type_of% @List.drop_drop.{0}:= @List.drop_drop
def aES:type_of% @Nat.le_succ:= @Nat.le_succ
def aKh:type_of% @Option.map_some.{0,0}:= @Option.map_some
def aNr:type_of% @Option.isSome_some.{0}:= @Option.isSome_some
def zY:type_of% @Option.bind_some.{0,0}:= @Option.bind_some
def aI0:type_of% @List.take_take.{0}:= @List.take_take
def sQ:type_of% @List.getD_eq_getElem?_getD.{0}:= @List.getD_eq_getElem?_getD
def aJs:type_of% @List.getElem?_drop.{0}:= @List.getElem?_drop
def aMH:type_of% @List.ext_getElem?.{0}:= @List.ext_getElem?
def aJE:type_of% @Nat.sub_self:= @Nat.sub_self
def aLO:type_of% @Array.getElem?_toList.{0}:= @Array.getElem?_toList
def aHO:type_of% @List.getElem_mem.{0}:= @List.getElem_mem
def aHC:type_of% @List.mem_cons_of_mem.{0}:= @List.mem_cons_of_mem
def aJg:type_of% @List.mem_of_mem_erase.{0}:= @List.mem_of_mem_erase
def aFM:type_of% @List.mem_range:= @List.mem_range
def aG5:type_of% @Option.bind_eq_some_iff.{0,0}:= @Option.bind_eq_some_iff
def aH2:type_of% @Array.getElem?_eq_some_iff.{0}:= @Array.getElem?_eq_some_iff
def aNb:type_of% @Nat.pow_le_pow_right:= @Nat.pow_le_pow_right
def aNn:type_of% @Nat.lt_of_lt_of_le:= @Nat.lt_of_lt_of_le
def aHE:type_of% @Bool.or_eq_true:= @Bool.or_eq_true
def aF7:type_of% @List.nodup_cons.{0}:= @List.nodup_cons
def aFH:type_of% @Array.getD_eq_getD_getElem?.{0}:= @Array.getD_eq_getD_getElem?
def aJC:type_of% @List.forall_mem_map.{0,0}:= @List.forall_mem_map
def aME:type_of% @List.filter_eq_self.{0}:= @List.filter_eq_self
@[match_pattern] abbrev pT (r o:Nat):Value:=.pointer (some ⟨r,o,none⟩)
abbrev PH:=Nat->Option Obj
abbrev cE:=Value->PH->Prop
abbrev gH:=List Value->PH->Prop
def PH.set(h:PH)(r:Nat)(o:Obj):PH:=λb=>if b=r then some o else h b
def cV(h:PH)(a:Addr):Option Value:=
 match h a.block with
 | some (.cells c _ _)=>if a.spot.isSome then none else c[a.off]?
 | _=>none
def tG(h:PH)(a:Addr):Bool:=
 match h a.block with
 | some (.cells _ _ (lo,hi))=>lo≤a.off&&a.off<hi
 | _=>false
def rJ(h:PH)(a:Addr)(v:Value):PH:=λb=>
 if b=a.block then
  match h b with
  | some (.cells c e fr)=>some (.cells (if a.spot.isSome then c else c.setIfInBounds a.off v) e fr)
  | o=>o
 else h b
def mF(h:PH)(a:Addr)(n:Nat):PH:=λb=>
 if n=0 then h b else
 if b=a.block then
  match h b with
  | some (.cells c elem (lo,hi))=>some (.cells c elem (if lo==hi then(a.off,a.off+n) else(min lo a.off,max hi (a.off+n))))
  | o=>o
 else h b
def jE(h:PH)(r:Nat):Option (Option (TypeId×Nat)):=
 match h r with
 | some (.cells c elem _)=>some (some (elem,c.size))
 | some _=>some none
 | none=>none
def fL:Value->Bool
 | .agg _ | .tuple _=>false
 | _=>true
def oV(h:PH)(w:World):Prop:=∀b o,h b=some o->w.heap[b]? =some o
structure Fr(h:PH)(w:World)(h':PH)(w':World):Prop where
 os:w'.os=w.os
 tape:w'.tape=w.tape
 output:w'.output=w.output
 drawn:w.drawn≤w'.drawn
 size:w.heap.size≤w'.heap.size
 far:∀b,b<w.heap.size->h b=none->w'.heap[b]? =w.heap[b]?
 none:∀b,b<w.heap.size->h b=Option.none->h' b=Option.none
def Fr.refl(h:PH)(w:World):Fr h w h w:=⟨rfl,rfl,rfl,lM _,lM _,λ_ _ _=>rfl,λ_ _ h=>h⟩
def Fr.trans{h h1 h2:PH}{w w1 w2:World}(a:Fr h w h1 w1)(b:Fr h1 w1 h2 w2):Fr h w h2 w2:=
 ⟨b.os.trans a.os,b.tape.trans a.tape,b.output.trans a.output,zLE a.drawn b.drawn,zLE a.size b.size,
  λi hi hn=>(b.far i (aNn hi a.size) (a.none i hi hn)).trans (a.far i hi hn),
  λi hi hn=>b.none i (aNn hi a.size) (a.none i hi hn)⟩
def oV.lt{h:PH}{w:World}(hs:oV h w){b:Nat}{o:Obj}(hb:h b=some o):b<w.heap.size:=
 (aH2.1 (hs b o hb)).1
def oV.fresh{h:PH}{w:World}(hs:oV h w):h w.heap.size=none:=by
 cases hb:h w.heap.size with
 | none=>rfl
 | some o=>exact absurd (hs.lt hb) (Nat.lt_irrefl _)
def cN(P:Program){α:Type}:Sem α->PH->(α->PH->Prop)->Prop
 | .pure a,h,Q=>Q a h
 | .load _ a k,h,Q=>∃v,cV h a=some v∧cN P (k v) h Q
 | .store _ a v k,h,Q=>fL v=true∧tG h a=false∧(∃u,cV h a=some u)∧cN P k (rJ h a v) Q
 | .new o k,h,Q=>∀r,h r=none->cN P (k r) (h.set r o) Q
 | .shape r k,h,Q=>∃s,jE h r=some s∧cN P (k s) h Q
 | .freeze a n k,h,Q=>(∃o,h a.block=some o)∧cN P k (mF h a n) Q
 | .frozen a k,h,Q=>(∃o,h a.block=some o)∧cN P (k (tG h a)) h Q
 | .getObj r k,h,Q=>∃o,h r=some o∧(∀c e f,o≠ .cells c e f)∧cN P (k o) h Q
 | .setObj r o k,h,Q=>(∃u,h r=some u∧(∀c e f,u≠ .cells c e f))∧cN P k (h.set r o) Q
 | .choose q k,h,Q=>∀t,cN P (k (if q.forced then 0 else q.cut t)) h Q
 | .sys _ _,_,_=>False
 | .program k,h,Q=>cN P (k P) h Q
 | .mark _ k,h,Q=>cN P k h Q
 | .halt _,_,_=>False
def cD(P:Program){α:Type}(h:PH):Sem α->Option α
 | .pure a=>some a
 | .load _ a k=>(cV h a).bind λv=>cD P h (k v)
 | .shape r k=>(jE h r).bind λs=>cD P h (k s)
 | .frozen a k=>(h a.block).bind λ_=>cD P h (k (tG h a))
 | .program k=>cD P h (k P)
 | .mark _ k=>cD P h k
 | .getObj r k=>match h r with
  | some (.cells ..)=>none
  | some o=>cD P h (k o)
  | none=>none
 | _=>none
def cB(P:Program){α:Type}:Sem α->Option α
 | .pure a=>some a
 | .program k=>cB P (k P)
 | .mark _ k=>cB P k
 | _=>none
def cN.mono{P:Program}{α:Type}{s:Sem α}:∀{h:PH} {Q Q':α->PH->Prop},cN P s h Q->(∀a h,Q a h->Q' a h)->cN P s h Q':=by
 induction s with
 | pure a=>intro h Q Q' hh hq;exact hq _ _ hh
 | load m a k ih=>rintro h Q Q' ⟨v,hv,hh⟩ hq;exact⟨v,hv,ih v hh hq⟩
 | store m a v k ih=>rintro h Q Q' ⟨h1,h2,h3,hh⟩ hq;exact⟨h1,h2,h3,ih hh hq⟩
 | new o k ih=>intro h Q Q' hh hq r hr;exact ih r (hh r hr) hq
 | shape r k ih=>rintro h Q Q' ⟨v,hv,hh⟩ hq;exact⟨v,hv,ih v hh hq⟩
 | freeze a n k ih=>rintro h Q Q' ⟨h1,hh⟩ hq;exact⟨h1,ih hh hq⟩
 | frozen a k ih=>rintro h Q Q' ⟨h1,hh⟩ hq;exact⟨h1,ih _ hh hq⟩
 | getObj r k ih=>rintro h Q Q' ⟨o,ho,hc,hh⟩ hq;exact⟨o,ho,hc,ih o hh hq⟩
 | setObj r o k ih=>rintro h Q Q' ⟨h1,hh⟩ hq;exact⟨h1,ih hh hq⟩
 | choose q k ih=>intro h Q Q' hh hq t;exact ih _ (hh t) hq
 | sys c k ih=>intro h Q Q' hh;exact hh.elim
 | program k ih=>intro h Q Q' hh hq;exact ih P hh hq
 | mark m k ih=>intro h Q Q' hh hq;exact ih hh hq
 | halt x=>intro h Q Q' hh;exact hh.elim
def cN.bind{P:Program}{α β:Type}{s:Sem α}{f:α->Sem β}:∀{h:PH} {Q:β->PH->Prop},cN P s h (λa h'=>cN P (f a) h' Q)->cN P (s.bind f) h Q:=by
 induction s with
 | pure a=>intro h Q hh;exact hh
 | load m a k ih=>rintro h Q ⟨v,hv,hh⟩;exact⟨v,hv,ih v hh⟩
 | store m a v k ih=>rintro h Q ⟨h1,h2,h3,hh⟩;exact⟨h1,h2,h3,ih hh⟩
 | new o k ih=>intro h Q hh r hr;exact ih r (hh r hr)
 | shape r k ih=>rintro h Q ⟨v,hv,hh⟩;exact⟨v,hv,ih v hh⟩
 | freeze a n k ih=>rintro h Q ⟨h1,hh⟩;exact⟨h1,ih hh⟩
 | frozen a k ih=>rintro h Q ⟨h1,hh⟩;exact⟨h1,ih _ hh⟩
 | getObj r k ih=>rintro h Q ⟨o,ho,hc,hh⟩;exact⟨o,ho,hc,ih o hh⟩
 | setObj r o k ih=>rintro h Q ⟨h1,hh⟩;exact⟨h1,ih hh⟩
 | choose q k ih=>intro h Q hh t;exact ih _ (hh t)
 | sys c k ih=>intro h Q hh;exact hh.elim
 | program k ih=>intro h Q hh;exact ih P hh
 | mark m k ih=>intro h Q hh;exact ih hh
 | halt x=>intro h Q hh;exact hh.elim
def cB.semE{P:Program}{α:Type}{s:Sem α}:∀{a:α},cB P s=some a->∀h,cD P h s=some a:=by
 induction s with
 | pure a=>intro b hb h;exact hb
 | program k ih=>intro b hb h;exact ih P hb h
 | mark m k ih=>intro b hb h;exact ih hb h
 | _=>intro b hb;cases hb
def cD.semH{P:Program}{α:Type}{s:Sem α}:∀{a:α} {h:PH},cD P h s=some a->∀{Q:α->PH->Prop},Q a h->cN P s h Q:=by
 induction s with
 | pure a=>intro b h hb Q hq;simp only[cD,zL4] at hb;subst hb;exact hq
 | load m a k ih=>intro b h hb Q hq;obtain⟨v,hv,hb⟩:=aG5.1 hb;exact⟨v,hv,ih v hb hq⟩
 | shape r k ih=>intro b h hb Q hq;obtain⟨v,hv,hb⟩:=aG5.1 hb;exact⟨v,hv,ih v hb hq⟩
 | frozen a k ih=>intro b h hb Q hq;obtain⟨v,hv,hb⟩:=aG5.1 hb;exact⟨⟨v,hv⟩,ih _ hb hq⟩
 | program k ih=>intro b h hb Q hq;exact ih P hb hq
 | mark m k ih=>intro b h hb Q hq;exact ih hb hq
 | getObj r k ih=>
  intro b h hb Q hq;simp only[cD] at hb;split at hb
  ·cases hb
  ·rename_i o ho hr;exact⟨o,hr,λc e f hc=>ho c e f hc,ih o hb hq⟩
  ·cases hb
 | _=>intro b h hb;cases hb
def oV.cell{h:PH}{w:World}(hs:oV h w){a:Addr}{v:Value}(hv:cV h a=some v):w.cell? a=some v:=by
 unfold cV at hv;split at hv
 ·rename_i c e f hb;unfold World.cell?;rw[hs _ _ hb];exact hv
 ·cases hv
def oV.shape{h:PH}{w:World}(hs:oV h w){r:Nat}{s:Option (TypeId×Nat)}(hv:jE h r=some s):w.shape? r=s:=by
 unfold jE at hv;unfold World.shape?;split at hv
 ·rename_i c e f hb;rw[hs _ _ hb];simpa using hv
 ·rename_i o hne hb;rw[hs _ _ hb];simp only[zL4] at hv;subst hv;split
  ·rename_i c e f hc;simp only[zL4] at hc;subst hc;exact absurd hb (by simpa using hne c e f)
  ·rfl
 ·cases hv
def oV.frozen{h:PH}{w:World}(hs:oV h w){a:Addr}{o:Obj}(ho:h a.block=some o):w.frozen? a=tG h a:=by
 unfold World.frozen? tG;rw[hs _ _ ho,ho];cases o<;>rfl
def aOn(w:World)(o:Obj)(b:Nat):({w with heap:=w.heap.push o}:World).heap[b]? =if b=w.heap.size then some o else w.heap[b]?:=by
 simp only[Array.getElem?_push]
def oV.new{h:PH}{w:World}(hs:oV h w)(o:Obj):oV (h.set w.heap.size o) {w with heap:=w.heap.push o}∧Fr h w (h.set w.heap.size o) {w with heap:=w.heap.push o}:=by
 refine⟨λb u hb=>?_,rfl,rfl,rfl,lM _,by simp,λb hb hn=>?_,λb hb hn=>?_⟩
 ·rw[aOn];unfold PH.set at hb;split at hb
  ·rename_i e;rw[if_pos e];exact hb
  ·rename_i e;rw[if_neg e];exact hs b u hb
 ·rw[aOn,if_neg (Nat.ne_of_lt hb)]
 ·unfold PH.set;rw[if_neg (Nat.ne_of_lt hb)];exact hn
def oV.modify{h:PH}{w:World}(hs:oV h w)(g:Nat)(f:Obj->Obj)(h':PH)(hh:∀b,h' b=if b=g then(h b).map f else h b){o:Obj}(hg:h g=some o):
  oV h' {w with heap:=w.heap.modify g f}∧Fr h w h' {w with heap:=w.heap.modify g f}:=by
 refine⟨λb u hb=>?_,rfl,rfl,rfl,lM _,by simp,λb hb hn=>?_,λb hb hn=>?_⟩
 ·rw[hh] at hb;simp only[Array.getElem?_modify];by_cases e:b=g
  ·subst e;simp only[if_true,hg,aKh,zL4] at hb;subst hb;simp[hs _ _ hg]
  ·rw[if_neg e] at hb;rw[if_neg (Ne.symm e)];exact hs b u hb
 ·have e:g≠b:=λe=>by subst e;rw[hg] at hn;cases hn
  simp only[Array.getElem?_modify,if_neg e]
 ·rw[hh];by_cases e:b=g
  ·subst e;rw[hg] at hn;cases hn
  ·rw[if_neg e];exact hn
def aD4{h:PH}{a:Addr}{v:Value}(hv:cV h a=some v):∃c e f,h a.block=some (.cells c e f):=by
 unfold cV at hv;split at hv
 ·rename_i c e f hb;exact⟨c,e,f,hb⟩
 ·cases hv
def cN.sound{P:Program}{α:Type}{s:Sem α}:∀{h:PH} {Q:α->PH->Prop},cN P s h Q->∀{w:World},oV h w->
  ∃a w' h',s.run P w= .ok a w'∧Q a h'∧oV h' w'∧Fr h w h' w':=by
 induction s with
 | pure a=>intro h Q hh w hs;exact⟨a,w,h,rfl,hh,hs,Fr.refl _ _⟩
 | load m a k ih=>
  rintro h Q ⟨v,hv,hh⟩ w hs;obtain⟨x,w',h',hr,hrest⟩:=ih v hh hs;exact⟨x,w',h',by simp only[Sem.run,hs.cell hv];exact hr,hrest⟩
 | store m a v k ih=>
  rintro h Q ⟨h1,h2,⟨u,hu⟩,hh⟩ w hs;obtain⟨c,e,f,hb⟩:=aD4 hu;have hm:=hs.modify a.block (fun | .cells c elem frozen=>.cells (if a.spot.isSome then c else c.setIfInBounds a.off v) elem frozen|o=>o) (rJ h a v)
   (by
     intro b;unfold rJ;split
     ·cases h b with
      | none=>rfl
      | some o=>cases o<;>rfl
     ·rfl) hb
  obtain⟨x,w',h',hr,hq,hs',hf⟩:=ih hh hm.1;refine⟨x,w',h',?_,hq,hs',hm.2.trans hf⟩;have hfz:w.frozen? a=false:=by rw[hs.frozen hb];exact h2
  cases v<;>simp[fL] at h1<;>simp only[Sem.run,hs.cell hu,hfz]<;>exact hr
 | new o k ih=>
  intro h Q hh w hs;have hn:=hs.new o;obtain⟨x,w',h',hr,hq,hs',hf⟩:=ih _ (hh _ hs.fresh) hn.1;exact⟨x,w',h',hr,hq,hs',hn.2.trans hf⟩
 | shape r k ih=>
  rintro h Q ⟨v,hv,hh⟩ w hs;obtain⟨x,w',h',hr,hrest⟩:=ih v hh hs;exact⟨x,w',h',by simp only[Sem.run,hs.shape hv];exact hr,hrest⟩
 | freeze a n k ih=>
  rintro h Q ⟨⟨o,ho⟩,hh⟩ w hs;by_cases hn:n=0
  ·have e:mF h a n=h:=by funext b;simp[mF,hn]
   rw[e] at hh;obtain⟨x,w',h',hr,hrest⟩:=ih hh hs;exact⟨x,w',h',by simp only[Sem.run,World.freeze,hn,if_true];exact hr,hrest⟩
  ·have hm:=hs.modify a.block (fun | .cells c elem (lo,hi)=>.cells c elem (if lo==hi then(a.off,a.off+n) else(min lo a.off,max hi (a.off+n)))|o=>o) (mF h a n)
    (by
      intro b;unfold mF;rw[if_neg hn];split
      ·cases h b with
       | none=>rfl
       | some o=>cases o<;>rfl
      ·rfl) ho
   obtain⟨x,w',h',hr,hq,hs',hf⟩:=ih hh hm.1;exact⟨x,w',h',by simp only[Sem.run,World.freeze,hn,if_false];exact hr,hq,hs',hm.2.trans hf⟩
 | frozen a k ih=>
  rintro h Q ⟨⟨o,ho⟩,hh⟩ w hs;obtain⟨x,w',h',hr,hrest⟩:=ih _ hh hs;exact⟨x,w',h',by simp only[Sem.run,hs.frozen ho];exact hr,hrest⟩
 | getObj r k ih=>
  rintro h Q ⟨o,ho,hc,hh⟩ w hs;obtain⟨x,w',h',hr,hrest⟩:=ih _ hh hs;refine⟨x,w',h',?_,hrest⟩;simp only[Sem.run,hs _ _ ho];cases o<;>first|exact absurd rfl (hc _ _ _)|exact hr
 | setObj r o k ih=>
  rintro h Q ⟨⟨u,hu,hc⟩,hh⟩ w hs;have hlt:=hs.lt hu;have hm:=hs.modify r (λ_=>o) (h.set r o) (λb=>by
   unfold PH.set;split
   ·rename_i e;subst e;rw[hu];rfl
   ·rfl) hu
  have he:w.heap.modify r (λ_=>o)=w.heap.setIfInBounds r o:=by
   apply Array.ext_getElem?;intro i;simp only[Array.getElem?_modify,Array.getElem?_setIfInBounds];by_cases e:r=i
   ·subst e;simp[hlt]
   ·simp[e]
  rw[he] at hm;obtain⟨x,w',h',hr,hq,hs',hf⟩:=ih hh hm.1;refine⟨x,w',h',?_,hq,hs',hm.2.trans hf⟩;simp only[Sem.run,hs _ _ hu];cases u<;>first|exact absurd rfl (hc _ _ _)|exact hr
 | choose q k ih=>
  intro h Q hh w hs;by_cases hq:q.forced
  ·have h0:=hh 0;simp only[hq,if_true] at h0;obtain⟨x,w',h',hr,hrest⟩:=ih _ h0 hs;exact⟨x,w',h',by simp only[Sem.run,hq,if_true];exact hr,hrest⟩
  ·have h0:=hh (w.tape w.drawn q);simp only[hq] at h0;have hs1:oV h {w with drawn:=w.drawn+1}:=hs;obtain⟨x,w',h',hr,hqq,hs',hf⟩:=ih _ h0 hs1;exact⟨x,w',h',by simp only[Sem.run,hq];exact hr,hqq,hs',⟨hf.os,hf.tape,hf.output,zLE (aES _) hf.drawn,hf.size,hf.far,hf.none⟩⟩
 | sys c k ih=>intro h Q hh;exact hh.elim
 | program k ih=>
  intro h Q hh w hs;obtain⟨x,w',h',hr,hrest⟩:=ih P hh hs;exact⟨x,w',h',hr,hrest⟩
 | mark m k ih=>
  intro h Q hh w hs;obtain⟨x,w',h',hr,hrest⟩:=ih hh hs;exact⟨x,w',h',hr,hrest⟩
 | halt x=>intro h Q hh;exact hh.elim
def cN.frame{P:Program}{α:Type}{s:Sem α}(r:Nat)(o:Obj):∀{h:PH} {Q:α->PH->Prop},cN P s h Q->h r=none->
  cN P s (h.set r o) (λa h2=>∃h1:PH,h2=h1.set r o∧h1 r=none∧Q a h1):=by
 have hset:∀(h:PH) b,h r=none->(∃u,h b=some u)->(h.set r o) b=h b:=by
  intro h b hr ⟨u,hu⟩;unfold PH.set;rw[if_neg];rintro rfl;rw[hr] at hu;cases hu
 induction s with
 | pure a=>intro h Q hh hr;exact⟨h,rfl,hr,hh⟩
 | load m a k ih=>
  rintro h Q ⟨v,hv,hh⟩ hr;obtain⟨c,e,f,hb⟩:=aD4 hv;exact⟨v,by unfold cV at *;rw[hset h _ hr ⟨_,hb⟩];exact hv,ih v hh hr⟩
 | store m a v k ih=>
  rintro h Q ⟨h1,h2,⟨u,hu⟩,hh⟩ hr;obtain⟨c,e,f,hb⟩:=aD4 hu;have hne:a.block≠r:=by rintro rfl;rw[hr] at hb;cases hb
  refine⟨h1,by unfold tG at *;rw[hset h _ hr ⟨_,hb⟩];exact h2,⟨u,by unfold cV at *;rw[hset h _ hr ⟨_,hb⟩];exact hu⟩,?_⟩;have he:rJ (h.set r o) a v=(rJ h a v).set r o:=by
   funext b;unfold rJ PH.set;by_cases e1:b=r
   ·subst e1;simp[Ne.symm hne]
   ·simp[e1]
  rw[he];exact ih hh (by unfold rJ;rw[if_neg (Ne.symm hne)];exact hr)
 | new o' k ih=>
  intro h Q hh hr r' hr';have hne:r'≠r:=by rintro rfl;simp[PH.set] at hr'
  have hr2:h r'=none:=by unfold PH.set at hr';rw[if_neg hne] at hr';exact hr'
  have he:(h.set r o).set r' o'=(h.set r' o').set r o:=by
   funext b;unfold PH.set;by_cases e1:b=r'
   ·subst e1;simp[hne]
   ·simp[e1]
  rw[he];exact ih r' (hh r' hr2) (by unfold PH.set;rw[if_neg (Ne.symm hne)];exact hr)
 | shape r' k ih=>
  rintro h Q ⟨v,hv,hh⟩ hr;have hb:∃u,h r'=some u:=by
   unfold jE at hv;cases hx:h r' with
   | none=>rw[hx] at hv;cases hv
   | some u=>exact⟨u,rfl⟩
  exact⟨v,by unfold jE at *;rw[hset h _ hr hb];exact hv,ih v hh hr⟩
 | freeze a n k ih=>
  rintro h Q ⟨⟨u,hu⟩,hh⟩ hr;have hne:a.block≠r:=by rintro rfl;rw[hr] at hu;cases hu
  refine⟨⟨u,by rw[hset h _ hr ⟨_,hu⟩];exact hu⟩,?_⟩;have he:mF (h.set r o) a n=(mF h a n).set r o:=by
   funext b;unfold mF PH.set;by_cases e1:b=r
   ·subst e1;simp[Ne.symm hne]
   ·simp[e1]
  rw[he];exact ih hh (by unfold mF;simp[Ne.symm hne,hr])
 | frozen a k ih=>
  rintro h Q ⟨⟨u,hu⟩,hh⟩ hr;have hb:=hset h _ hr ⟨_,hu⟩;refine⟨⟨u,by rw[hb];exact hu⟩,?_⟩;have:tG (h.set r o) a=tG h a:=by unfold tG;rw[hb]
  rw[this];exact ih _ hh hr
 | getObj r' k ih=>
  rintro h Q ⟨u,hu,hc,hh⟩ hr;exact⟨u,by rw[hset h _ hr ⟨_,hu⟩];exact hu,hc,ih _ hh hr⟩
 | setObj r' o' k ih=>
  rintro h Q ⟨⟨u,hu,hc⟩,hh⟩ hr;have hne:r'≠r:=by rintro rfl;rw[hr] at hu;cases hu
  refine⟨⟨u,by rw[hset h _ hr ⟨_,hu⟩];exact hu,hc⟩,?_⟩;have he:(h.set r o).set r' o'=(h.set r' o').set r o:=by
   funext b;unfold PH.set;by_cases e1:b=r'
   ·subst e1;simp[hne]
   ·simp[e1]
  rw[he];exact ih hh (by unfold PH.set;rw[if_neg (Ne.symm hne)];exact hr)
 | choose q k ih=>intro h Q hh hr t;exact ih _ (hh t) hr
 | sys c k ih=>intro h Q hh;exact hh.elim
 | program k ih=>intro h Q hh hr;exact ih P hh hr
 | mark m k ih=>intro h Q hh hr;exact ih hh hr
 | halt x=>intro h Q hh;exact hh.elim
abbrev kS:=Nat->Value
def upd(ρ:kS)(d:Option Tmp)(v:Value):kS:=match d with
 | some d=>λt=>if t=d then v else ρ t
 | none=>ρ
def ev(ρ:kS):Operand->Value
 | .tmp t=>ρ t
 | .const v=>v
 | .global g=>pT g 0
 | .func f=>.func (.func f) #[] #[]
def cD.of_semH{P:Program}{α:Type}{s:Sem α}:∀{a:α} {h:PH} {Q:α->PH->Prop},cD P h s=some a->cN P s h Q->Q a h:=by
 induction s with
 | pure a=>intro b h Q hb hh;simp only[cD,zL4] at hb;subst hb;exact hh
 | load m a k ih=>rintro b h Q hb ⟨v,hv,hh⟩;simp only[cD,hv,zY] at hb;exact ih v hb hh
 | shape r k ih=>rintro b h Q hb ⟨v,hv,hh⟩;simp only[cD,hv,zY] at hb;exact ih v hb hh
 | frozen a k ih=>rintro b h Q hb ⟨⟨v,hv⟩,hh⟩;simp only[cD,hv,zY] at hb;exact ih _ hb hh
 | program k ih=>intro b h Q hb hh;exact ih P hb hh
 | mark m k ih=>intro b h Q hb hh;exact ih hb hh
 | getObj r k ih=>
  rintro b h Q hb ⟨o,ho,hc,hh⟩;simp only[cD,ho] at hb;cases o<;>first|exact absurd rfl (hc _ _ _)|exact ih _ hb hh
 | _=>intro b h Q hb;cases hb
def aDF(P:Program)(f:FuncId):Bool:=match P.funcs[f]? with
 | some fn=>!(fn.name == "runtime.NumGoroutine") && !fn.body.isNone
 | none=>false
def bT(P:Program)(f:FuncId)(args:Array Value)(h:PH)(R:cE):Prop:=
 (aDF P f=true∧∀w,oV h w->Calls P f args w λe w'=>∃v h',e= .returned v∧R v h'∧oV h' w'∧Fr h w h' w')∨
 cN P (callFunc f args) h λn h'=>∃v,n= .value v∧R v h'
def bT.mono{P:Program}{f:FuncId}{args:Array Value}{h:PH}{R R':cE}(hc:bT P f args h R)(hr:∀v h,R v h->R' v h):bT P f args h R':=by
 rcases hc with⟨h1,h2⟩|hs
 ·exact .inl ⟨h1,λw hs=>(h2 w hs).mono λ_ _ ⟨v,h',e,r,rest⟩=>⟨v,h',e,hr _ _ r,rest⟩⟩
 ·exact .inr (hs.mono λn h' ⟨v,e,hv⟩=>⟨v,e,hr _ _ hv⟩)
def bT.entry{P:Program}{f:FuncId}{args:Array Value}{h:PH}{R:cE}{v:Value}(e:cD P h (callFunc f args)=some (.value v))(hv:R v h):bT P f args h R:=.inr (cD.semH e ⟨v,rfl,hv⟩)
def sH(P:Program)(n:Next)(h:PH)(kv:cE):Prop:=match n with
 | .value v=>kv v h
 | .skip=>kv undef h
 | .enter f args=>∀w,oV h w->Calls P f args w λe w'=>∃v h',e= .returned v∧kv v h'∧oV h' w'∧Fr h w h' w'
 | .round l f tmps assign body=>∀w,oV h w->RoundIn Fence.wide 0 P l f tmps assign body w λe w'=>∃v h',e= .returned v∧kv v h'∧oV h' w'∧Fr h w h' w'
 | _=>False
def sH.mono{P:Program}{n:Next}{h:PH}{k k':cE}(hn:sH P n h k)(hk:∀v h,k v h->k' v h):sH P n h k':=by
 cases n<;>first
  | exact hk _ _ hn
  | exact λw hs=>Calls.mono (hn w hs) λ_ _ ⟨v,h',e,r,rest⟩=>⟨v,h',e,hk _ _ r,rest⟩
  | exact λw hs=>RoundIn.mono (hn w hs) λ_ _ ⟨v,h',e,r,rest⟩=>⟨v,h',e,hk _ _ r,rest⟩
  | exact hn.elim
def bY{α:Type}(x:Option α)(k:α->Prop):Prop:=match x with
 | some v=>k v
 | none=>False
def fD{α:Type}{x:Option α}{k:α->Prop}:bY x k↔∃v,x=some v∧k v:=by
 cases x<;>simp[bY]
def eM(c a b:Value):Option Value:=match c with
 | .bool true=>some a
 | .bool false=>some b
 | _=>none
def kC(P:Program){α:Type}:Sem α->Option (Obj×(Nat->Sem α))
 | .new o k=>some (o,k)
 | .program k=>kC P (k P)
 | .mark _ k=>kC P k
 | _=>none
def kC.semH{P:Program}{α:Type}{s:Sem α}:∀{o:Obj} {k:Nat->Sem α},kC P s=some (o,k)->∀{h:PH} {Q:α->PH->Prop},
  (∀r,h r=none->cN P (k r) (h.set r o) Q)->cN P s h Q:=by
 induction s with
 | new o k ih=>intro o' k' hb h Q hq;simp only[kC,zL4,Prod.mk.injEq] at hb;obtain⟨rfl,rfl⟩:=hb;exact hq
 | program k ih=>intro o' k' hb h Q hq;exact ih P hb hq
 | mark m k ih=>intro o' k' hb h Q hq;exact ih hb hq
 | _=>intro o' k' hb;cases hb
inductive Cls where
 | p|r|a|e
 deriving DecidableEq,Repr
def lI(P:Program):Op->Cls
 | .move _ | .assign _ | .pick .. | .nilCheck _ | .unOp .. | .fieldAddr .. | .field .. | .indexAddr .. | .index .. | .slice .. | .extract .. | .makeFunc .. | .build .. | .makeInterface .. =>.p
 | .binOp op .. =>match op with
  | .eql | .neq=>.r
  | _=>.p
 | .load .. | .lookup .. =>.r
 | .convert _ dst _=>match P.underlying dst with
  | some (.int _)=>.p
  | some .string=>.r
  | _=>.e
 | .alloc .. | .box .. | .buildSlice .. | .makeMap .. | .makeSlice .. =>.a
 | .call c=>match c.callee with
  | .builtin .len=>match (c.argTypes[0]?).bind P.underlying with
   | some (.map ..)=>.r
   | _=>.p
  | .builtin .min | .builtin .max | .builtin .cap=>.p
  | _=>.e
 | _=>.e
def tS(ρ:kS)(o:Oper):Sem Value:=match o.op with
 | .move x | .assign x=>pure (ev ρ x)
 | .pick c a b=>do pure (if ←asBool (ev ρ c) then ev ρ a else ev ρ b)
 | .alloc elem=>Instr.alloc elem true (.tuple #[])
 | .box elem x=>Instr.box elem (ev ρ x)
 | .build t parts=>build t (parts.map λ(i,x)=>(i,ev ρ x))
 | .buildSlice t len parts=>buildSlice t len (parts.map λ(i,x)=>(i,ev ρ x))
 | .load t a=>loadAt t (ev ρ a)
 | .nilCheck x=>
  match ev ρ x with
  | .pointer none | .nilIface | .nilFunc=>.halt (.stuck "nil")
  | .func (.method _) _ _=>.halt (.stuck "method")
  | x=>pure x
 | .binOp op xType x y _=>do eqGuard op xType x y (ev ρ x) (ev ρ y);binOp op xType (ev ρ x) (ev ρ y)
 | .unOp op _ x=>Op.unary op (ev ρ x)
 | .convert src dst x=>convert src dst (ev ρ x)
 | .makeInterface xType x=>Instr.makeInterface xType (ev ρ x)
 | .makeFunc fn first captured=>Instr.makeFunc fn (first.map (ev ρ)) (captured.map (ev ρ))
 | .makeMap t r=>Instr.makeMap t (r.map (ev ρ))
 | .makeSlice t l c=>Instr.makeSlice t (ev ρ l) (ev ρ c)
 | .slice t x lo hi mx=>Instr.sliceAt t (ev ρ x) (lo.map (ev ρ)) (hi.map (ev ρ)) (mx.map (ev ρ))
 | .fieldAddr s x f=>fieldAt s (ev ρ x) f
 | .field xType x f=>Instr.field xType (ev ρ x) f
 | .indexAddr t x ix=>indexAt t (ev ρ x) (ev ρ ix)
 | .index xType x ix=>Instr.index xType (ev ρ x) (ev ρ ix)
 | .lookup xType x ix ok=>Instr.lookup xType (ev ρ x) (ev ρ ix) ok
 | .extract t ix=>extract (ev ρ t) ix
 | .range xType x=>Instr.range xType (ev ρ x)
 | .next it isString=>Instr.next (ev ρ it) isString o.type
 | .entry it=>Instr.entry (ev ρ it)
 | .mapEntry t m k=>Instr.mapEntry t (ev ρ m) (ev ρ k)
 | .typeAssert x xType asserted ok=>Instr.typeAssert (ev ρ x) xType asserted ok
 | .store t a x=>do Instr.storeAt t (ev ρ a) (ev ρ x);pure undef
 | .mapUpdate t m k x | .insert t m k x=>do Instr.mapUpdate t (ev ρ m) (ev ρ k) (ev ρ x);pure undef
 | .entryStore t m s x=>do Instr.entryStore t (ev ρ m) (ev ρ s) (ev ρ x);pure undef
 | .call c=>match c.callee with
  | .builtin .append=>Builtin.append_ c.argTypes o.type (c.args.map (ev ρ))
  | .builtin .len=>Builtin.len_ c.argTypes o.type (c.args.map (ev ρ))
  | .builtin .cap=>Builtin.cap_ c.argTypes o.type (c.args.map (ev ρ))
  | .builtin .min=>Builtin.min_ c.argTypes o.type (c.args.map (ev ρ))
  | .builtin .max=>Builtin.max_ c.argTypes o.type (c.args.map (ev ρ))
  | .builtin .copy=>Builtin.copy_ c.argTypes o.type (c.args.map (ev ρ))
  | .builtin .clear=>Builtin.clear_ c.argTypes o.type (c.args.map (ev ρ))
  | .builtin .delete=>Builtin.delete_ c.argTypes o.type (c.args.map (ev ρ))
  | .builtin .unsafeString=>Builtin.unsafeString_ c.argTypes o.type (c.args.map (ev ρ))
  | .builtin .unsafeSliceData=>Builtin.unsafeSliceData_ c.argTypes o.type (c.args.map (ev ρ))
  | .builtin .unsafeStringData=>Builtin.unsafeStringData_ c.argTypes o.type (c.args.map (ev ρ))
  | .builtin .unsafeSlice=>Builtin.unsafeSlice_ c.argTypes o.type (c.args.map (ev ρ))
  | _=>.halt (.stuck "no value")
 | _=>.halt (.stuck "no value")
def aHh(P:Program)(c:Call)(ρ:kS)(h:PH)(kv:cE):Prop:=match c.callee with
 | .value (.func f)=>bT P f (c.args.map (ev ρ)) h kv
 | .value x=>match ev ρ x with
  | .func (.func f) first captured=>bT P f (first++c.args.map (ev ρ)++captured) h kv
  | .func fn first captured=>cN P (invoke (.fn fn captured) (first++c.args.map (ev ρ))) h λn h'=>sH P n h' kv
  | _=>False
 | .invoke recv name=>cN P (callMethod (ev ρ recv) name (c.args.map (ev ρ))) h λn h'=>sH P n h' kv
 | .builtin _=>False
def yN(P:Program)(o:Oper)(ρ:kS)(h:PH)(kv:cE):Prop:=match lI P o.op with
 | .p=>match o.op with
  | .move x | .assign x=>kv (ev ρ x) h
  | .pick c a b=>bY (eM (ev ρ c) (ev ρ a) (ev ρ b)) λv=>kv v h
  | _=>bY (cB P (tS ρ o)) λv=>kv v h
 | .r=>bY (cD P h (tS ρ o)) λv=>kv v h
 | .a=>bY (kC P (tS ρ o)) λx=>∀r,h r=none->bY (cB P (x.2 r)) λv=>kv v (h.set r x.1)
 | .e=>match o.op with
  | .call c=>match c.callee with
   | .builtin _=>cN P (tS ρ o) h kv
   | _=>aHh P c ρ h kv
  | _=>cN P (tS ρ o) h kv
def aGt(ops:Array Oper)(ρ:kS)(j:Nat):Option Bool:=match (ops[j]?).bind (·.dst) with
 | some d=>match ρ d with
  | .bool b=>some b
  | _=>none
 | none=>none
def eZ(y:Option Bool)(want:Bool)(X:(Value->PH->Prop)->Prop)(h:PH)(kv:cE):Prop:=
 if y==some want then X kv else kv undef h
def jS(P:Program)(all:Array Oper)(o:Oper)(ρ:kS)(h:PH)(kv:cE):Prop:=match o.guard with
 | none=>yN P o ρ h kv
 | some (j,want)=>eZ (aGt all ρ j) want (yN P o ρ h) h kv
def aR5(P:Program)(all:Array Oper)(k:kS->PH->Prop):List Oper->kS->PH->Prop
 | [],ρ,h=>k ρ h
 | o::rest,ρ,h=>jS P all o ρ h λv h'=>aR5 P all k rest (upd ρ o.dst v) h'
def yN.mono{P:Program}{o:Oper}{ρ:kS}{h:PH}{k k':cE}(hk:∀v h,k v h->k' v h)(ho:yN P o ρ h k):yN P o ρ h k':=by
 unfold yN at *;split at ho
 ·split at ho
  ·exact hk _ _ ho
  ·exact hk _ _ ho
  ·obtain⟨v,e,hv⟩:=fD.1 ho;exact fD.2 ⟨v,e,hk _ _ hv⟩
  ·obtain⟨v,e,hv⟩:=fD.1 ho;exact fD.2 ⟨v,e,hk _ _ hv⟩
 ·obtain⟨v,e,hv⟩:=fD.1 ho;exact fD.2 ⟨v,e,hk _ _ hv⟩
 ·obtain⟨x,e,hx⟩:=fD.1 ho;refine fD.2 ⟨x,e,λr hr=>?_⟩;obtain⟨v,e,hv⟩:=fD.1 (hx r hr);exact fD.2 ⟨v,e,hk _ _ hv⟩
 ·split at ho
  ·split at ho
   ·exact ho.mono hk
   ·unfold aHh at *;split at ho
    ·exact ho.mono hk
    ·split at ho
     ·exact ho.mono hk
     ·exact ho.mono λ_ _ hn=>hn.mono hk
     ·exact ho.elim
    ·exact ho.mono λ_ _ hn=>hn.mono hk
    ·exact ho.elim
  ·exact ho.mono hk
def jS.mono{P:Program}{all:Array Oper}{o:Oper}{ρ:kS}{h:PH}{k k':cE}(hk:∀v h,k v h->k' v h)(ho:jS P all o ρ h k):jS P all o ρ h k':=by
 unfold jS at *;split
 ·rename_i e;simp only[e] at ho;exact ho.mono hk
 ·rename_i j want e;simp only[e] at ho;unfold eZ at *;split
  ·rename_i e;rw[if_pos e] at ho;exact ho.mono hk
  ·rename_i e;rw[if_neg e] at ho;exact hk _ _ ho
def yN.noDefer{P:Program}{o:Oper}{ρ:kS}{h:PH}{kv:cE}(ho:yN P o ρ h kv):∀c,o.op≠ .defer c:=by
 intro c hc;have e:lI P o.op= .e:=by rw[hc];rfl
 unfold yN at ho;rw[e] at ho;simp only[hc] at ho;unfold tS at ho;rw[hc] at ho;exact ho
def aHp{P:Program}{f:FuncId}{args:Array Value}{h:PH}(he:aDF P f=true):cD P h (callFunc f args)=some (.enter f args):=by
 unfold aDF at he;split at he
 ·rename_i fn hf;simp only[sU,Bool.not_eq_true'] at he;unfold callFunc;show cD P h (match P.funcs[f]? with|none=>_|some fn=>_)=_;simp only[hf,he.1,he.2,zLs,if_false];rfl
 ·cases he
def aO8{P:Program}{f:FuncId}{args:Array Value}{h:PH}{kv:cE}(hc:bT P f args h kv):
  cN P (callFunc f args) h λn h'=>sH P n h' kv:=by
 rcases hc with⟨he,hw⟩|hs
 ·exact cD.semH (aHp he) hw
 ·exact hs.mono λn h' ⟨v,e,hv⟩=>by subst e;exact hv
def bT.calls{P:Program}{f:FuncId}{args:Array Value}{h:PH}{R:cE}(hc:bT P f args h R)(he:aDF P f=true):∀w,oV h w->Calls P f args w λe w'=>∃v h',e= .returned v∧R v h'∧oV h' w'∧Fr h w h' w':=by
 rcases hc with⟨_,hw⟩|hs
 ·exact hw
 ·obtain⟨v,e,_⟩:=cD.of_semH (aHp he) hs;cases e
def aUG{P:Program}{s:Sem Value}{h:PH}{kv:cE}(hs:cN P s h kv):
  cN P (do pure (Next.value (←s))) h λn h'=>sH P n h' kv:=
 cN.bind (P:=P) (s:=s) (f:=λv=>pure (Next.value v)) hs
def aYD{P:Program}{s:Sem Unit}{h:PH}{kv:cE}(hs:cN P (do s;pure undef) h kv):
  cN P (do s;pure Next.skip) h λn h'=>sH P n h' kv:=by
 have key:∀(s:Sem Unit) (h:PH),cN P (s.bind λ_=>pure undef) h kv->cN P (s.bind λ_=>pure Next.skip) h λn h'=>sH P n h' kv:=by
  intro s;induction s with
  | pure a=>intro h hh;exact hh
  | load m a k ih=>rintro h ⟨v,hv,hh⟩;exact⟨v,hv,ih v h hh⟩
  | store m a v k ih=>rintro h ⟨h1,h2,h3,hh⟩;exact⟨h1,h2,h3,ih _ hh⟩
  | new o k ih=>intro h hh r hr;exact ih r _ (hh r hr)
  | shape r k ih=>rintro h ⟨v,hv,hh⟩;exact⟨v,hv,ih v _ hh⟩
  | freeze a n k ih=>rintro h ⟨h1,hh⟩;exact⟨h1,ih _ hh⟩
  | frozen a k ih=>rintro h ⟨h1,hh⟩;exact⟨h1,ih _ _ hh⟩
  | getObj r k ih=>rintro h ⟨o,ho,hc,hh⟩;exact⟨o,ho,hc,ih o _ hh⟩
  | setObj r o k ih=>rintro h ⟨h1,hh⟩;exact⟨h1,ih _ hh⟩
  | choose q k ih=>intro h hh t;exact ih _ _ (hh t)
  | sys c k ih=>intro h hh;exact hh.elim
  | program k ih=>intro h hh;exact ih P _ hh
  | mark m k ih=>intro h hh;exact ih _ hh
  | halt x=>intro h hh;exact hh.elim
 exact key s h hs
def aVm(x:Value)(xs:Array Value):(#[x]++xs)[0]? =some x:=by
 rcases xs with⟨l⟩;simp
def aWa(x:Value)(xs:Array Value):(#[x]++xs).extract 1 (#[x]++xs).size=xs:=by
 rcases xs with⟨l⟩;apply zLw;simp[List.drop_one]
def yN.exec{P:Program}{o:Oper}{ρ:kS}{h:PH}{kv:cE}(ho:yN P o ρ h kv):
  cN P (execOp (ev ρ) o) h λn h'=>sH P n h' kv:=by
 have hcases:cN P (tS ρ o) h kv∨(∃c,o.op= .call c∧aHh P c ρ h kv):=by
  unfold yN at ho;split at ho
  ·left;split at ho
   ·rename_i x hx;unfold tS;rw[hx];exact ho
   ·rename_i x hx;unfold tS;rw[hx];exact ho
   ·rename_i c a b hx;obtain⟨v,e,hv⟩:=fD.1 ho;unfold tS;rw[hx];show cN P ((asBool (ev ρ c)).bind λx=>pure (if x then ev ρ a else ev ρ b)) h kv;generalize ev ρ c=vc at *;cases vc with
    | bool t=>cases t<;>(simp only[eM,zL4] at e;subst e;exact hv)
    | _=>cases e
   ·obtain⟨v,e,hv⟩:=fD.1 ho;exact cD.semH (cB.semE e h) hv
  ·left;obtain⟨v,e,hv⟩:=fD.1 ho;exact cD.semH e hv
  ·left;obtain⟨x,e,hx⟩:=fD.1 ho;refine kC.semH (o:=x.1) (k:=x.2) e λr hr=>?_;obtain⟨v,e,hv⟩:=fD.1 (hx r hr);exact cD.semH (cB.semE e _) hv
  ·split at ho
   ·split at ho
    ·left;exact ho
    ·right;exact⟨_,by assumption,ho⟩
   ·left;exact ho
 rcases hcases with hs|⟨c,hc,hv⟩
 ·unfold tS at hs;unfold execOp;cases hop:o.op<;>simp only[hop] at hs ⊢
  case move=>exact hs
  case assign=>exact hs
  case pick c a b=>
   have hs':cN P ((asBool (ev ρ c)).bind λx=>pure (if x then ev ρ a else ev ρ b)) h kv:=hs;show cN P ((asBool (ev ρ c)).bind λx=>pure (Next.value (if x then ev ρ a else ev ρ b))) h _;generalize ev ρ c=vc at *;cases vc with
   | bool t=>exact hs'
   | _=>exact hs'.elim
  case nilCheck x=>
   generalize ev ρ x=v at *;cases v with
   | pointer a=>cases a with
    | none=>exact hs.elim
    | some a=>exact hs
   | func fn first captured=>cases fn with
    | method name=>exact hs.elim
    | _=>exact hs
   | nilIface=>exact hs.elim
   | nilFunc=>exact hs.elim
   | _=>exact hs
  case call c=>
   cases hcal:c.callee with
   | builtin b=>
    simp only[hcal] at hs;unfold resolve;simp only[hcal];cases b<;>first
     | exact hs.elim
     | exact aUG hs
   | value f=>simp only[hcal] at hs;exact hs.elim
   | invoke r n=>simp only[hcal] at hs;exact hs.elim
  all_goals first
   | exact aUG hs
   | exact aYD hs
   | exact hs.elim
 ·unfold execOp;simp only[hc];unfold resolve;unfold aHh at hv;cases hcal:c.callee with
  | builtin b=>simp only[hcal] at hv
  | invoke r n=>
   simp only[hcal] at hv;show cN P (invoke (.fn (.method n) #[]) (#[ev ρ r]++c.args.map (ev ρ))) h _;unfold invoke;simp only[aVm,aWa];exact hv
  | value f=>
   simp only[hcal];have key:∀(v:Value),ev ρ f=v->(match v with
     | .func (.func f) first captured=>bT P f (first++c.args.map (ev ρ)++captured) h kv
     | .func fn first captured=>cN P (invoke (.fn fn captured) (first++c.args.map (ev ρ))) h λn h'=>sH P n h' kv
     | _=>False)->cN P (do let d ←Deferred.ofValue (ev ρ f) (c.args.map (ev ρ));invoke d.target d.args) h λn h'=>sH P n h' kv:=by
    intro v he hh;rw[he];cases v with
    | func fn first captured=>
     show cN P (invoke (.fn fn captured) (first++c.args.map (ev ρ))) h _;cases fn with
     | func g=>exact aO8 hh
     | _=>exact hh
    | _=>exact hh.elim
   cases f with
   | func g=>
    refine key _ rfl ?_;simp only[hcal] at hv;show bT P g (#[]++c.args.map (ev ρ) ++ #[]) h kv;simpa using hv
   | tmp t=>simp only[hcal] at hv;exact key _ rfl hv
   | const v=>simp only[hcal] at hv;exact key _ rfl hv
   | global g=>simp only[hcal] at hv;exact key _ rfl hv
def Rl(h:PH):Prop:=∃w,oV h w
abbrev Tr:=PH->(Value->PH->Prop)->Prop
def Rl.fresh{h:PH}(hr:Rl h):∃r,h r=none:=let ⟨w,hs⟩:=hr;⟨w.heap.size,hs.fresh⟩
def Rl.set{h:PH}(hr:Rl h){r:Nat}(hn:h r=none)(o:Obj):Rl (h.set r o):=by
 obtain⟨w,hs⟩:=hr;let n:=max w.heap.size (r+1);refine⟨{w with heap:=(Array.range n).map λb=>if b=r then o else(w.heap[b]?).getD default},λb u hb=>?_⟩;unfold PH.set at hb;have hlt:b<n:=by
  split at hb
  ·omega
  ·have:=hs.lt hb;omega
 simp only[Array.getElem?_map,Array.getElem?_range,hlt,if_true,aKh];split at hb
 ·rename_i e;rw[if_pos e];exact hb
 ·rename_i e;rw[if_neg e,hs _ _ hb];rfl
def cD.set{P:Program}{α:Type}{s:Sem α}{r:Nat}{o:Obj}:∀{h:PH} {a:α},cD P h s=some a->h r=none->cD P (h.set r o) s=some a:=by
 have hset:∀(h:PH) b,h r=none->(∃u,h b=some u)->(h.set r o) b=h b:=by
  intro h b hr ⟨u,hu⟩;unfold PH.set;rw[if_neg];rintro rfl;rw[hr] at hu;cases hu
 induction s with
 | pure a=>intro h b hb _;exact hb
 | load m a k ih=>
  intro h b hb hr;obtain⟨v,hv,hb⟩:=aG5.1 hb;obtain⟨c,e,f,hblk⟩:=aD4 hv;refine aG5.2 ⟨v,?_,ih v hb hr⟩;unfold cV at *;rw[hset h _ hr ⟨_,hblk⟩];exact hv
 | shape r' k ih=>
  intro h b hb hr;obtain⟨v,hv,hb⟩:=aG5.1 hb;have hblk:∃u,h r'=some u:=by
   unfold jE at hv;cases hx:h r' with
   | none=>rw[hx] at hv;cases hv
   | some u=>exact⟨u,rfl⟩
  refine aG5.2 ⟨v,?_,ih v hb hr⟩;unfold jE at *;rw[hset h _ hr hblk];exact hv
 | frozen a k ih=>
  intro h b hb hr;obtain⟨v,hv,hb⟩:=aG5.1 hb;have e:=hset h _ hr ⟨_,hv⟩;refine aG5.2 ⟨v,by rw[e];exact hv,?_⟩;have:tG (h.set r o) a=tG h a:=by unfold tG;rw[e]
  rw[this];exact ih _ hb hr
 | program k ih=>intro h b hb hr;exact ih P hb hr
 | mark m k ih=>intro h b hb hr;exact ih hb hr
 | getObj r' k ih=>
  intro h b hb hr;simp only[cD] at hb ⊢;cases hx:h r' with
  | none=>rw[hx] at hb;cases hb
  | some u=>
   rw[hset h _ hr ⟨_,hx⟩,hx];rw[hx] at hb;cases u<;>first|cases hb|exact ih _ hb hr
 | _=>intro h b hb;cases hb
def cN.real{P:Program}{α:Type}{s:Sem α}:∀{h:PH} {Q:α->PH->Prop},cN P s h Q->Rl h->cN P s h λa h'=>Q a h'∧Rl h':=by
 induction s with
 | pure a=>intro h Q hh hr;exact⟨hh,hr⟩
 | load m a k ih=>rintro h Q ⟨v,hv,hh⟩ hr;exact⟨v,hv,ih v hh hr⟩
 | store m a v k ih=>
  rintro h Q ⟨h1,h2,h3,hh⟩ hr;refine⟨h1,h2,h3,ih hh ?_⟩;obtain⟨w,hs⟩:=hr;obtain⟨u,hu⟩:=h3;obtain⟨c,e,f,hb⟩:=aD4 hu;exact⟨_,(hs.modify a.block (fun | .cells c elem frozen=>.cells (if a.spot.isSome then c else c.setIfInBounds a.off v) elem frozen|o=>o) (rJ h a v)
   (λb=>by
    unfold rJ;split
    ·cases h b with
     | none=>rfl
     | some o=>cases o<;>rfl
    ·rfl) hb).1⟩
 | new o k ih=>intro h Q hh hr r hn;exact ih r (hh r hn) (hr.set hn o)
 | shape r k ih=>rintro h Q ⟨v,hv,hh⟩ hr;exact⟨v,hv,ih v hh hr⟩
 | freeze a n k ih=>
  rintro h Q ⟨⟨o,ho⟩,hh⟩ hr;refine⟨⟨o,ho⟩,ih hh ?_⟩;obtain⟨w,hs⟩:=hr;by_cases hn:n=0
  ·have e:mF h a n=h:=by funext b;simp[mF,hn]
   rw[e];exact⟨w,hs⟩
  ·exact⟨_,(hs.modify a.block (fun | .cells c elem (lo,hi)=>.cells c elem (if lo==hi then(a.off,a.off+n) else(min lo a.off,max hi (a.off+n)))|o=>o) (mF h a n)
    (λb=>by
     unfold mF;rw[if_neg hn];split
     ·cases h b with
      | none=>rfl
      | some o=>cases o<;>rfl
     ·rfl) ho).1⟩
 | frozen a k ih=>rintro h Q ⟨h1,hh⟩ hr;exact⟨h1,ih _ hh hr⟩
 | getObj r k ih=>rintro h Q ⟨o,ho,hc,hh⟩ hr;exact⟨o,ho,hc,ih o hh hr⟩
 | setObj r o k ih=>
  rintro h Q ⟨⟨u,hu,hc⟩,hh⟩ hr;refine⟨⟨u,hu,hc⟩,ih hh ?_⟩;obtain⟨w,hs⟩:=hr;exact⟨_,(hs.modify r (λ_=>o) (h.set r o) (λb=>by
   unfold PH.set;split
   ·rename_i e;subst e;rw[hu];rfl
   ·rfl) hu).1⟩
 | choose q k ih=>intro h Q hh hr t;exact ih _ (hh t) hr
 | sys c k ih=>intro h Q hh;exact hh.elim
 | program k ih=>intro h Q hh hr;exact ih P hh hr
 | mark m k ih=>intro h Q hh hr;exact ih hh hr
 | halt x=>intro h Q hh;exact hh.elim
def bT.real{P:Program}{f:FuncId}{args:Array Value}{h:PH}{R:cE}(hc:bT P f args h R)(hr:Rl h):bT P f args h λv h'=>R v h'∧Rl h':=by
 rcases hc with⟨h1,h2⟩|hs
 ·exact .inl ⟨h1,λw hs=>(h2 w hs).mono λ_ w' ⟨v,h',e,r,s,fr⟩=>⟨v,h',e,⟨r,w',s⟩,s,fr⟩⟩
 ·exact .inr ((hs.real hr).mono λn h' ⟨⟨v,e,hv⟩,hr'⟩=>⟨v,e,hv,hr'⟩)
def sH.real{P:Program}{n:Next}{h:PH}{k:cE}(hn:sH P n h k)(hr:Rl h):sH P n h λv h'=>k v h'∧Rl h':=by
 cases n<;>first
  | exact⟨hn,hr⟩
  | exact λw hs=>Calls.mono (hn w hs) λ_ w' ⟨v,h',e,r,s,fr⟩=>⟨v,h',e,⟨r,w',s⟩,s,fr⟩
  | exact λw hs=>RoundIn.mono (hn w hs) λ_ w' ⟨v,h',e,r,s,fr⟩=>⟨v,h',e,⟨r,w',s⟩,s,fr⟩
  | exact hn.elim
def yN.real{P:Program}{o:Oper}{ρ:kS}{h:PH}{k:cE}(ho:yN P o ρ h k)(hr:Rl h):yN P o ρ h λv h'=>k v h'∧Rl h':=by
 unfold yN at *;split at ho
 ·split at ho
  ·exact⟨ho,hr⟩
  ·exact⟨ho,hr⟩
  ·obtain⟨v,e,hv⟩:=fD.1 ho;exact fD.2 ⟨v,e,hv,hr⟩
  ·obtain⟨v,e,hv⟩:=fD.1 ho;exact fD.2 ⟨v,e,hv,hr⟩
 ·obtain⟨v,e,hv⟩:=fD.1 ho;exact fD.2 ⟨v,e,hv,hr⟩
 ·obtain⟨x,e,hx⟩:=fD.1 ho;refine fD.2 ⟨x,e,λr hn=>?_⟩;obtain⟨v,e,hv⟩:=fD.1 (hx r hn);exact fD.2 ⟨v,e,hv,hr.set hn _⟩
 ·split at ho
  ·split at ho
   ·exact ho.real hr
   ·unfold aHh at *;split at ho
    ·exact ho.real hr
    ·split at ho
     ·exact ho.real hr
     ·exact(ho.real hr).mono λ_ _ hn=>hn.1.real hn.2
     ·exact ho.elim
    ·exact(ho.real hr).mono λ_ _ hn=>hn.1.real hn.2
    ·exact ho.elim
  ·exact ho.real hr
def yN.falls{P:Program}{o:Oper}{ρ:kS}{h:PH}(ho:yN P o ρ h λ_ _=>False)(hr:Rl h):False:=by
 obtain⟨w,hs⟩:=hr;obtain⟨n,w',h',hrun,hn,hs',hf⟩:=ho.exec.sound hs;cases n with
 | value v=>exact hn
 | skip=>exact hn
 | enter f args=>
  obtain⟨e,w2,fr,⟨v,h2,_,hF,_⟩,_⟩:=hn w' hs' [];exact hF
 | round l f tmps assign body=>
  obtain⟨e,w2,⟨v,h2,_,hF,_⟩,_⟩:=(hn w' hs').2 default [] (room_wide _);exact hF
 | _=>exact hn.elim
def bT.frame{P:Program}{f:FuncId}{args:Array Value}{h:PH}{R:cE}(r:Nat)(o:Obj)(hc:bT P f args h R)(hr:h r=none):
  bT P f args (h.set r o) λv h2=>∃h1:PH,h2=h1.set r o∧h1 r=none∧R v h1:=by
 rcases hc with⟨hc1,hc2⟩|hs
 rotate_left
 ·exact .inr ((cN.frame r o hs hr).mono λn h2 ⟨h1,e,hn,v,ev,hv⟩=>⟨v,ev,h1,e,hn,hv⟩)
 refine .inl ⟨hc1,λw hs=>?_⟩;have hsub:oV h w:=λb u hb=>hs b u (by
                         unfold PH.set;rw[if_neg];· exact hb
                         ·rintro rfl;rw[hr] at hb;cases hb)
 have hw:w.heap[r]? =some o:=hs r o (by unfold PH.set;rw[if_pos rfl]);have hlt:r<w.heap.size:=(aH2.1 hw).1;refine(hc2 w hsub).mono λe w' ⟨v,h1,he,hR,hs1,hf⟩=>?_;have hn:=hf.none r hlt hr;refine⟨v,h1.set r o,he,⟨h1,rfl,hn,hR⟩,λb u hb=>?_,hf.os,hf.tape,hf.output,hf.drawn,hf.size,λb hb hbn=>?_,λb hb hbn=>?_⟩
 ·unfold PH.set at hb;split at hb
  ·rename_i e;subst e;rw[hf.far b hlt hr,hw];exact hb
  ·exact hs1 b u hb
 ·refine hf.far b hb ?_;unfold PH.set at hbn;split at hbn
  ·cases hbn
  ·exact hbn
 ·unfold PH.set at hbn ⊢;split at hbn
  ·cases hbn
  ·rename_i e;rw[if_neg e];exact hf.none b hb hbn
def sH.frame{P:Program}{n:Next}{h:PH}{k:cE}(r:Nat)(o:Obj)(hn:sH P n h k)(hr:h r=none):
  sH P n (h.set r o) λv h2=>∃h1:PH,h2=h1.set r o∧h1 r=none∧k v h1:=by
 cases n with
 | value v=>exact⟨h,rfl,hr,hn⟩
 | skip=>exact⟨h,rfl,hr,hn⟩
 | enter f args=>
  intro w hs;have hsub:oV h w:=λb u hb=>hs b u (by
                          unfold PH.set;rw[if_neg];· exact hb
                          ·rintro rfl;rw[hr] at hb;cases hb)
  have hw:w.heap[r]? =some o:=hs r o (by unfold PH.set;rw[if_pos rfl]);have hlt:r<w.heap.size:=(aH2.1 hw).1;refine(hn w hsub).mono λe w' ⟨v,h1,he,hR,hs1,hf⟩=>?_;have hn:=hf.none r hlt hr;refine⟨v,h1.set r o,he,⟨h1,rfl,hn,hR⟩,λb u hb=>?_,hf.os,hf.tape,hf.output,hf.drawn,hf.size,λb hb hbn=>?_,λb hb hbn=>?_⟩
  ·unfold PH.set at hb;split at hb
   ·rename_i e;subst e;rw[hf.far b hlt hr,hw];exact hb
   ·exact hs1 b u hb
  ·refine hf.far b hb ?_;unfold PH.set at hbn;split at hbn
   ·cases hbn
   ·exact hbn
  ·unfold PH.set at hbn ⊢;split at hbn
   ·cases hbn
   ·rename_i e;rw[if_neg e];exact hf.none b hb hbn
 | round l f tmps assign body=>
  intro w hs;have hsub:oV h w:=λb u hb=>hs b u (by
                          unfold PH.set;rw[if_neg];· exact hb
                          ·rintro rfl;rw[hr] at hb;cases hb)
  have hw:w.heap[r]? =some o:=hs r o (by unfold PH.set;rw[if_pos rfl]);have hlt:r<w.heap.size:=(aH2.1 hw).1;refine RoundIn.mono (hn w hsub) λe w' ⟨v,h1,he,hR,hs1,hf⟩=>?_;have hn:=hf.none r hlt hr;refine⟨v,h1.set r o,he,⟨h1,rfl,hn,hR⟩,λb u hb=>?_,hf.os,hf.tape,hf.output,hf.drawn,hf.size,λb hb hbn=>?_,λb hb hbn=>?_⟩
  ·unfold PH.set at hb;split at hb
   ·rename_i e;subst e;rw[hf.far b hlt hr,hw];exact hb
   ·exact hs1 b u hb
  ·refine hf.far b hb ?_;unfold PH.set at hbn;split at hbn
   ·cases hbn
   ·exact hbn
  ·unfold PH.set at hbn ⊢;split at hbn
   ·cases hbn
   ·rename_i e;rw[if_neg e];exact hf.none b hb hbn
 | _=>exact hn.elim
def KP(T:Tr):Prop:=∃x:Option Value,∀h kv,T h kv↔bY x λv=>kv v h
def KR(T:Tr):Prop:=∃f:PH->Option Value,(∀h kv,T h kv↔bY (f h) λv=>kv v h)∧∀h r o v,f h=some v->h r=none->f (h.set r o)=some v
def KA(T:Tr):Prop:=∃y:Option (Obj×(Nat->Option Value)),∀h kv,T h kv↔bY y λx=>∀r,h r=none->bY (x.2 r) λv=>kv v (h.set r x.1)
structure KE(T:Tr):Prop where
 mono:∀{h:PH} {k k':cE},T h k->(∀v h,k v h->k' v h)->T h k'
 real:∀{h:PH} {k:cE},T h k->Rl h->T h λv h'=>k v h'∧Rl h'
 falls:∀{h:PH},T h (λ_ _=>False)->Rl h->False
 frame:∀{h:PH} {k:cE} (r:Nat) (o:Obj),T h k->h r=none->T (h.set r o) λv h2=>∃h1:PH,h2=h1.set r o∧h1 r=none∧k v h1
def KP.ke{T:Tr}(hT:KP T):KE T:=by
 obtain⟨x,hx⟩:=hT;refine⟨λht hk=>?_,λht hr=>?_,λht hr=>?_,λr o ht hr=>?_⟩
 ·obtain⟨v,e,hv⟩:=fD.1 ((hx _ _).1 ht);exact(hx _ _).2 (fD.2 ⟨v,e,hk _ _ hv⟩)
 ·obtain⟨v,e,hv⟩:=fD.1 ((hx _ _).1 ht);exact(hx _ _).2 (fD.2 ⟨v,e,hv,hr⟩)
 ·obtain⟨v,e,hv⟩:=fD.1 ((hx _ _).1 ht);exact hv
 ·obtain⟨v,e,hv⟩:=fD.1 ((hx _ _).1 ht);exact(hx _ _).2 (fD.2 ⟨v,e,_,rfl,hr,hv⟩)
def KR.ke{T:Tr}(hT:KR T):KE T:=by
 obtain⟨f,hx,hm⟩:=hT;refine⟨λht hk=>?_,λht hr=>?_,λht hr=>?_,λr o ht hr=>?_⟩
 ·obtain⟨v,e,hv⟩:=fD.1 ((hx _ _).1 ht);exact(hx _ _).2 (fD.2 ⟨v,e,hk _ _ hv⟩)
 ·obtain⟨v,e,hv⟩:=fD.1 ((hx _ _).1 ht);exact(hx _ _).2 (fD.2 ⟨v,e,hv,hr⟩)
 ·obtain⟨v,e,hv⟩:=fD.1 ((hx _ _).1 ht);exact hv
 ·obtain⟨v,e,hv⟩:=fD.1 ((hx _ _).1 ht);exact(hx _ _).2 (fD.2 ⟨v,hm _ _ _ _ e hr,_,rfl,hr,hv⟩)
def aNK{h:PH}{r r':Nat}{o o':Obj}(hne:r'≠r):(h.set r o).set r' o'=(h.set r' o').set r o:=by
 funext b;unfold PH.set;by_cases e1:b=r'
 ·subst e1;simp[hne]
 ·simp[e1]
def aQM{h:PH}{r r':Nat}{o:Obj}(hn:(h.set r o) r'=none):r'≠r∧h r'=none:=by
 unfold PH.set at hn;split at hn
 ·cases hn
 ·rename_i e;exact⟨e,hn⟩
def aXJ{T U:Tr}(hT:KP T)(hU:KE U){h:PH}{X:Value->Value->PH->Prop}(H:T h λv h1=>U h1 λu h2=>X v u h2):U h λu h1=>T h1 λv h2=>X v u h2:=by
 obtain⟨x,hx⟩:=hT;obtain⟨v,e,hv⟩:=fD.1 ((hx _ _).1 H);exact hU.mono hv λu h1 hX=>(hx _ _).2 (fD.2 ⟨v,e,hX⟩)
def aGv{T U:Tr}(hT:KE T)(hU:KP U){h:PH}(hr:Rl h){X:Value->Value->PH->Prop}(H:T h λv h1=>U h1 λu h2=>X v u h2):U h λu h1=>T h1 λv h2=>X v u h2:=by
 obtain⟨x,hx⟩:=hU;cases x with
 | none=>exact(hT.falls (hT.mono H λv h1 hh=>by simpa[bY] using(hx _ _).1 hh) hr).elim
 | some u=>exact(hx _ _).2 (fD.2 ⟨u,rfl,hT.mono H λv h1 hh=>by simpa[bY] using(hx _ _).1 hh⟩)
def aW6{T U:Tr}(hT:KR T)(hU:KA U){h:PH}{X:Value->Value->PH->Prop}(H:T h λv h1=>U h1 λu h2=>X v u h2):U h λu h1=>T h1 λv h2=>X v u h2:=by
 obtain⟨f,hx,hm⟩:=hT;obtain⟨y,hy⟩:=hU;obtain⟨v,e,hv⟩:=fD.1 ((hx _ _).1 H);obtain⟨z,e',hz⟩:=fD.1 ((hy _ _).1 hv);refine(hy _ _).2 (fD.2 ⟨z,e',λr hr=>?_⟩);obtain⟨u,e2,hu⟩:=fD.1 (hz r hr);exact fD.2 ⟨u,e2,(hx _ _).2 (fD.2 ⟨v,hm _ _ _ _ e hr,hu⟩)⟩
def aWI{T U:Tr}(hT:KA T)(hU:KA U){h:PH}(hr:Rl h){X:Value->Value->PH->Prop}(H:T h λv h1=>U h1 λu h2=>X v u h2):U h λu h1=>T h1 λv h2=>X v u h2:=by
 obtain⟨x,hx⟩:=hT;obtain⟨y,hy⟩:=hU;obtain⟨z,e,hz⟩:=fD.1 ((hx _ _).1 H);have hy':∃z',y=some z':=by
  obtain⟨r,hn⟩:=hr.fresh;obtain⟨v,_,hv⟩:=fD.1 (hz r hn);obtain⟨z',e',_⟩:=fD.1 ((hy _ _).1 hv);exact⟨z',e'⟩
 obtain⟨z',e'⟩:=hy'
 -- both values are there, whatever the blocks
 have both:∀r r',h r=none->h r'=none->r'≠r->∃v u,z.2 r=some v∧z'.2 r'=some u∧X v u ((h.set r z.1).set r' z'.1):=by
  intro r r' hn hn' hne;obtain⟨v,e1,hv⟩:=fD.1 (hz r hn);obtain⟨z2,e2,hz2⟩:=fD.1 ((hy _ _).1 hv);rw[e'] at e2;cases e2;obtain⟨u,e3,hu⟩:=fD.1 (hz2 r' (by unfold PH.set;rw[if_neg hne];exact hn'));exact⟨v,u,e1,e3,hu⟩
 refine(hy _ _).2 (fD.2 ⟨z',e',λr' hn'=>?_⟩);have hu:∃u,z'.2 r'=some u:=by
  obtain⟨r,hn⟩:=(hr.set hn' z'.1).fresh;obtain⟨hne,hn⟩:=aQM hn;obtain⟨v,u,_,eu,_⟩:=both r r' hn hn' (Ne.symm hne);exact⟨u,eu⟩
 obtain⟨u,eu⟩:=hu;refine fD.2 ⟨u,eu,(hx _ _).2 (fD.2 ⟨z,e,λr hn=>?_⟩)⟩;obtain⟨hne,hn⟩:=aQM hn;obtain⟨v,u',ev',eu',hX⟩:=both r r' hn hn' (Ne.symm hne);rw[eu] at eu';cases eu';refine fD.2 ⟨v,ev',?_⟩;rw[←aNK (Ne.symm hne)];exact hX
def aWH{T U:Tr}(hT:KE T)(hU:KA U){h:PH}(hr:Rl h){X:Value->Value->PH->Prop}(H:T h λv h1=>U h1 λu h2=>X v u h2):U h λu h1=>T h1 λv h2=>X v u h2:=by
 obtain⟨y,hy⟩:=hU;have hy':∃z',y=some z':=by
  cases y with
  | some z'=>exact⟨z',rfl⟩
  | none=>exact(hT.falls (hT.mono H λv h1 hh=>by simpa[bY] using(hy _ _).1 hh) hr).elim
 obtain⟨z,e⟩:=hy';refine(hy _ _).2 (fD.2 ⟨z,e,λr hn=>?_⟩);have hf:=hT.frame r z.1 H hn;have hf2:T (h.set r z.1) λv h2=>bY (z.2 r) λu=>X v u h2:=hT.mono hf λv h2 ⟨h1,e1,hn1,hh⟩=>by
  obtain⟨z2,e2,hz2⟩:=fD.1 ((hy _ _).1 hh);rw[e] at e2;cases e2;rw[e1];exact hz2 r hn1
 cases hu:z.2 r with
 | none=>
  rw[hu] at hf2;exact(hT.falls hf2 (hr.set hn z.1)).elim
 | some u=>
  rw[hu] at hf2;exact hf2
def aRe{ρ:kS}{x y:Option Tmp}{v u:Value}(h:∀d,x=some d->y≠some d):upd (upd ρ x v) y u=upd (upd ρ y u) x v:=by
 cases x with
 | none=>rfl
 | some d=>
  cases y with
  | none=>rfl
  | some e=>
   have hne:d≠e:=λhe=>h d rfl (he▸rfl);funext t;simp only[upd];by_cases h1:t=d
   ·subst h1;simp[hne]
   ·simp[h1]
def aUF{ρ:kS}{d:Option Tmp}{v:Value}{x:Operand}(h:∀t,d=some t->x≠ .tmp t):ev (upd ρ d v) x=ev ρ x:=by
 cases d with
 | none=>rfl
 | some t=>
  cases x with
  | tmp s=>
   have:s≠t:=λe=>h t rfl (e▸rfl);simp[ev,upd,this]
  | _=>rfl
def aL3{ρ ρ':kS}(o:Oper)(h:∀x∈o.op.operands,ev ρ x=ev ρ' x):tS ρ o=tS ρ' o:=by
 obtain⟨dst,op,type,pos,after,guard⟩:=o;have pairs:∀ps:Array (Nat×Operand),(∀x∈ps.map (·.2),ev ρ x=ev ρ' x)->
   (ps.map λ(i,x)=>(i,ev ρ x))=(ps.map λ(i,x)=>(i,ev ρ' x)):=λps hp=>
  Array.map_congr_left λp hm=>by
   obtain⟨i,x⟩:=p;simp only[hp x (Array.mem_map.2 ⟨(i,x),hm,rfl⟩)]
 cases op<;>simp only[Op.operands] at h<;>simp only[tS]
 case build t ps=>rw[pairs ps λx hx=>h x (by simpa using hx)]
 case buildSlice t n ps=>rw[pairs ps λx hx=>h x (by simpa using hx)]
 case makeFunc fn first captured=>
  rw[Array.map_congr_left (xs:=first) λx hx=>h x (by simp[hx]),Array.map_congr_left (xs:=captured) λx hx=>h x (by simp[hx])]
 case call c=>
  have hargs:c.args.map (ev ρ)=c.args.map (ev ρ'):=Array.map_congr_left λx hx=>h x (by simp[Call.operands,hx]);rw[hargs]
 case makeMap t r=>cases r<;>simp_all
 case slice t x lo hi mx=>cases lo<;>cases hi<;>cases mx<;>simp_all
 all_goals (first|rfl|(simp_all;done))
def aQX{P:Program}{ρ ρ':kS}(c:Call)(h:∀x∈c.operands,ev ρ x=ev ρ' x):aHh P c ρ=aHh P c ρ':=by
 have hargs:c.args.map (ev ρ)=c.args.map (ev ρ'):=Array.map_congr_left λx hx=>h x (by simp[Call.operands,hx]);funext hh kv;unfold aHh;rw[hargs];cases hc:c.callee with
 | value f=>
  have hf:ev ρ f=ev ρ' f:=h f (by simp[Call.operands,hc]);cases f<;>simp only[hf]
 | invoke r m=>have hr:ev ρ r=ev ρ' r:=h r (by simp[Call.operands,hc]);simp only[hr]
 | builtin b=>rfl
def aTd{P:Program}{ρ ρ':kS}(o:Oper)(h:∀x∈o.op.operands,ev ρ x=ev ρ' x):yN P o ρ=yN P o ρ':=by
 have hs:=aL3 o h;funext hh kv;unfold yN;rw[hs];cases hop:o.op
 case move x=>have hx:=h x (by simp[hop,Op.operands]);simp only[lI,hx]
 case assign x=>have hx:=h x (by simp[hop,Op.operands]);simp only[lI,hx]
 case pick c a b=>
  have h1:=h c (by simp[hop,Op.operands]);have h2:=h a (by simp[hop,Op.operands]);have h3:=h b (by simp[hop,Op.operands]);simp only[lI,h1,h2,h3]
 case call c=>
  have hc:=aQX (P:=P) c λx hx=>h x (by simp only[hop,Op.operands];exact hx);simp only[hc]
 all_goals rfl
def aJO{ops:Array Oper}{o:Oper}{d:Tmp}(h:d∉o.looksAt ops):∀x∈o.op.operands,x≠ .tmp d:=by
 intro x hx e;subst e;exact h (List.mem_append_left _ (List.mem_filterMap.2 ⟨.tmp d,by simpa using hx,rfl⟩))
def aHa{ops:Array Oper}{o:Oper}{ρ:kS}{dst:Option Tmp}{v:Value}{g:Nat}{want:Bool}(hg:o.guard=some (g,want))(h:∀d,dst=some d->d∉o.looksAt ops):
  aGt ops (upd ρ dst v) g=aGt ops ρ g:=by
 cases dst with
 | none=>rfl
 | some d=>
  unfold aGt;cases ht:(ops[g]?).bind (·.dst) with
  | none=>rfl
  | some t=>
   have hne:t≠d:=λe=>h d rfl (by subst e;simp[Oper.looksAt,hg,ht]);simp only[upd,if_neg hne]
def aK4{ops:Array Oper}{o:Oper}{ρ:kS}{dst:Option Tmp}{v:Value}(h:∀d,dst=some d->d∉o.looksAt ops):tS (upd ρ dst v) o=tS ρ o:=
 aL3 o λx hx=>aUF λt ht=>aJO (h t ht) x hx
def aOe{P:Program}{ops:Array Oper}{o:Oper}{ρ:kS}{dst:Option Tmp}{v:Value}(h:∀d,dst=some d->d∉o.looksAt ops):jS P ops o (upd ρ dst v)=jS P ops o ρ:=by
 have ho:yN P o (upd ρ dst v)=yN P o ρ:=aTd o λx hx=>aUF λt ht=>aJO (h t ht) x hx;funext hh kv;unfold jS;cases hg:o.guard with
 | none=>simp only[ho]
 | some gw=>
  obtain⟨g,want⟩:=gw;simp only[ho,aHa (v:=v) hg h]
def aUa{h:PH}{r r':Nat}{o o':Obj}{k:cE}{v:Value}(hne:r'≠r)(hr:h r=none)(hk:k v (h.set r' o')):
  ∃h1:PH,(h.set r o).set r' o'=h1.set r o∧h1 r=none∧k v h1:=
 ⟨h.set r' o',aNK hne,by unfold PH.set;rw[if_neg (Ne.symm hne)];exact hr,hk⟩
def aBC(ops:Array Oper)(o:Oper)(ρ:kS):Bool:=match o.guard with
 | none=>true
 | some (g,want)=>aGt ops ρ g==some want
def yJ{P:Program}{ops:Array Oper}{o:Oper}{ρ:kS}{h:PH}{kv:cE}:jS P ops o ρ h kv↔if aBC ops o ρ then yN P o ρ h kv else kv undef h:=by
 unfold jS aBC eZ;cases hg:o.guard with
 | none=>simp
 | some gw=>obtain⟨g,want⟩:=gw;simp
def aLT{P:Program}{ops:Array Oper}{o:Oper}{ρ:kS}(hc:lI P o.op= .p):KP (jS P ops o ρ):=by
 cases hw:aBC ops o ρ with
 | false=>exact⟨some undef,λh kv=>by rw[yJ,hw];simp[bY]⟩
 | true=>
  have:∃x:Option Value,∀h kv,yN P o ρ h kv↔bY x λv=>kv v h:=by
   unfold yN;simp only[hc];split
   ·rename_i x _;exact⟨some (ev ρ x),λh kv=>Iff.rfl⟩
   ·rename_i x _;exact⟨some (ev ρ x),λh kv=>Iff.rfl⟩
   ·rename_i c a b _;exact⟨_,λh kv=>Iff.rfl⟩
   ·exact⟨_,λh kv=>Iff.rfl⟩
  obtain⟨x,hx⟩:=this;exact⟨x,λh kv=>by rw[yJ,hw];simpa using hx h kv⟩
def aM4(P:Program)(ops:Array Oper)(o:Oper)(ρ:kS)(h:PH):Option Value:=if aBC ops o ρ then cD P h (tS ρ o) else some undef
def aNo{P:Program}{ops:Array Oper}{o:Oper}{ρ:kS}(hc:lI P o.op= .r)(h:PH)(kv:cE):jS P ops o ρ h kv↔bY (aM4 P ops o ρ h) λv=>kv v h:=by
 rw[yJ];unfold aM4 yN;cases hw:aBC ops o ρ<;>simp[hc,bY]
def aVz{P:Program}{ops:Array Oper}{o:Oper}{ρ:kS}(hc:lI P o.op= .r):KR (jS P ops o ρ):=
 ⟨aM4 P ops o ρ,λh kv=>aNo hc h kv,λh r b v hv hr=>by
  unfold aM4 at *;split at hv
  ·rename_i e;rw[if_pos e];exact cD.set hv hr
  ·rename_i e;rw[if_neg e];exact hv⟩
def aLb{P:Program}{ops:Array Oper}{o:Oper}{ρ:kS}(hc:lI P o.op= .a):KA (jS P ops o ρ)∨KP (jS P ops o ρ):=by
 cases hw:aBC ops o ρ with
 | false=>exact .inr ⟨some undef,λh kv=>by rw[yJ,hw];simp[bY]⟩
 | true=>
  refine .inl ⟨(kC P (tS ρ o)).map λx=>(x.1,λr=>cB P (x.2 r)),λh kv=>?_⟩;rw[yJ,hw];unfold yN;simp only[hc,if_true];cases kC P (tS ρ o)<;>simp[bY]
def aYr{P:Program}{ops:Array Oper}{o:Oper}{ρ:kS}(hc:lI P o.op= .e):KE (jS P ops o ρ):=by
 have hframe:∀{h:PH} {k:cE} (r:Nat) (b:Obj),yN P o ρ h k->h r=none->yN P o ρ (h.set r b) λv h2=>∃h1:PH,h2=h1.set r b∧h1 r=none∧k v h1:=by
  intro h k r b ho hr;unfold yN at *;simp only[hc] at ho ⊢;split at ho
  ·split at ho
   ·exact ho.frame r b hr
   ·unfold aHh at *;split at ho
    ·exact ho.frame r b hr
    ·split at ho
     ·exact ho.frame r b hr
     ·exact(ho.frame r b hr).mono λn h2 ⟨h1,e,hn,hh⟩=>e▸hh.frame r b hn
     ·exact ho.elim
    ·exact(ho.frame r b hr).mono λn h2 ⟨h1,e,hn,hh⟩=>e▸hh.frame r b hn
    ·exact ho.elim
  ·exact ho.frame r b hr
 refine⟨λht hk=>?_,λht hr=>?_,λht hr=>?_,λr b ht hr=>?_⟩
 ·exact jS.mono hk ht
 ·rw[yJ] at ht ⊢;split at ht
  ·rename_i e;rw[if_pos e];exact ht.real hr
  ·rename_i e;rw[if_neg e];exact⟨ht,hr⟩
 ·rw[yJ] at ht;split at ht
  ·exact ht.falls hr
  ·exact ht
 ·rw[yJ] at ht ⊢;split at ht
  ·rename_i e;rw[if_pos e];exact hframe r b ht hr
  ·rename_i e;rw[if_neg e];exact⟨_,rfl,hr,ht⟩
def aNH{P:Program}{ops:Array Oper}{o:Oper}{ρ:kS}:KE (jS P ops o ρ):=by
 cases hc:lI P o.op with
 | p=>exact(aLT hc).ke
 | r=>exact(aVz hc).ke
 | e=>exact aYr hc
 | a=>
  refine⟨λht hk=>jS.mono hk ht,λht hr=>?_,λht hr=>?_,λr b ht hr=>?_⟩
  ·rw[yJ] at ht ⊢;split at ht
   ·rename_i e;rw[if_pos e];exact ht.real hr
   ·rename_i e;rw[if_neg e];exact⟨ht,hr⟩
  ·rw[yJ] at ht;split at ht
   ·exact ht.falls hr
   ·exact ht
  ·rcases aLb (P:=P) (ops:=ops) (ρ:=ρ) hc with⟨y,hy⟩|hp
   ·obtain⟨x,e,hx⟩:=fD.1 ((hy _ _).1 ht);refine(hy _ _).2 (fD.2 ⟨x,e,λr' hr'=>?_⟩);obtain⟨hne,hn'⟩:=aQM hr';obtain⟨v,e2,hv⟩:=fD.1 (hx r' hn');refine fD.2 ⟨v,e2,aUa hne hr hv⟩
   ·exact hp.ke.frame r b ht hr
def yA(b:Array Nat)(y x:Nat):Bool:=(b.getD y 0).testBit x
def aUD:Cls->Cls->Bool
 | .p,_|_,.p=>true
 | .r,_=>true
 | .a,.a=>true
 | .e,.a=>true
 | _,_=>false
def aFF(P:Program)(ops:Array Oper)(o:Oper)(ρ:kS)(h:PH):Prop:=aBC ops o ρ=true->cD P h (tS ρ o)=o.dst.map ρ
def AG(P:Program)(ops:Array Oper)(b:Array Nat)(i:Nat)(rem:List Nat)(ρ:kS)(h:PH):Prop:=
 ∀oi,ops[i]? =some oi->lI P oi.op= .e->∀x ox,ops[x]? =some ox->lI P ox.op= .r->x∉rem->x≠i->yA b i x=false->aFF P ops ox ρ h
def aFN(P:Program)(ops:Array Oper)(b:Array Nat)(k:kS->PH->Prop):Nat->List Nat->kS->PH->Prop
 | 0,_,ρ,h=>k ρ h
 | n+1,rem,ρ,h=>∀i∈rem,(∀x∈rem,yA b i x=false)->∃o,ops[i]? =some o∧jS P ops o ρ h λv h'=>AG P ops b i rem (upd ρ o.dst v) h'∧aFN P ops b k n (rem.erase i) (upd ρ o.dst v) h'
structure aVZ(P:Program)(ops:Array Oper)(b:Array Nat):Prop where
 apart:∀(x y:Nat) (ox oy:Oper),ops[x]? =some ox->ops[y]? =some oy->x≠y->yA b x y=false->yA b y x=false->ox.apart ops oy=true
 look:∀(x y:Nat) (ox oy:Oper),ops[x]? =some ox->ops[y]? =some oy->lI P ox.op= .r->(x≠y->yA b x y=false)->∀d,oy.dst=some d->d∉ox.looksAt ops
 own:∀(x:Nat) (ox:Oper),ops[x]? =some ox->lI P ox.op= .r->ox.dst.isSome=true
 one:∀(x y:Nat) (ox oy:Oper),ops[x]? =some ox->ops[y]? =some oy->lI P ox.op= .r->x≠y->∀d,oy.dst=some d->ox.dst≠some d
def aMu{P:Program}{ops:Array Oper}{o:Oper}{ρ:kS}{h:PH}{dst:Option Tmp}{v:Value}(hl:∀d,dst=some d->d∉o.looksAt ops)(hd:∀d,dst=some d->o.dst≠some d):
  aFF P ops o (upd ρ dst v) h↔aFF P ops o ρ h:=by
 have h1:aBC ops o (upd ρ dst v)=aBC ops o ρ:=by
  unfold aBC;cases hg:o.guard with
  | none=>rfl
  | some gw=>obtain⟨g,want⟩:=gw;simp only[aHa (v:=v) hg hl]
 have h2:o.dst.map (upd ρ dst v)=o.dst.map ρ:=by
  cases ho:o.dst with
  | none=>rfl
  | some t=>
   cases dst with
   | none=>rfl
   | some d=>
    have hne:t≠d:=λe=>hd d rfl (e▸ho);simp[upd,hne]
 unfold aFF;rw[h1,h2,aK4 hl]
def aSu{P:Program}{ops:Array Oper}{o:Oper}{ρ:kS}{h:PH}{r:Nat}{b:Obj}(hs:o.dst.isSome=true)(hf:aFF P ops o ρ h)(hr:h r=none):aFF P ops o ρ (h.set r b):=by
 intro hw;have:=hf hw;obtain⟨d,hd⟩:=Option.isSome_iff_exists.1 hs;rw[hd] at this ⊢;exact cD.set this hr
def aTw{P:Program}{ops:Array Oper}{b:Array Nat}{k:kS->PH->Prop}(L:aVZ P ops b){i:Nat}{oi:Oper}(hi:ops[i]? =some oi):
  ∀(n:Nat) (rem:List Nat) (ρ:kS) (h:PH),rem.length=n+1->rem.Nodup->(∀y,y∉rem->∀x∈rem,yA b y x=false)->Rl h->i∈rem->(∀x∈rem,yA b i x=false)->
   (∀j oj,j∈rem->j≠i->ops[j]? =some oj->yA b j i=false->aUD (lI P oi.op) (lI P oj.op)=true)->
   (jS P ops oi ρ h λv h'=>AG P ops b i rem (upd ρ oi.dst v) h'∧aFN P ops b k n (rem.erase i) (upd ρ oi.dst v) h')->aFN P ops b k (n+1) rem ρ h:=by
 intro n;induction n with
 | zero=>
  intro rem ρ h hlen hnd hdc hr hmem hrdy hpair H j hj hjr;obtain⟨a,rfl⟩:=List.length_eq_one_iff.1 hlen;simp only[iC] at hj hmem;subst hj;subst hmem;exact⟨oi,hi,H⟩
 | succ n ih=>
  intro rem ρ h hlen hnd hdc hr hmem hrdy hpair H j hj hjr;by_cases hji:j=i
  ·subst hji;exact⟨oi,hi,H⟩
  have hmemj:j∈rem.erase i:=(List.mem_erase_of_ne hji).2 hj;have hmemi:i∈rem.erase j:=(List.mem_erase_of_ne (Ne.symm hji)).2 hmem;have hbji:yA b j i=false:=hjr i hmem;have hbij:yA b i j=false:=hrdy j hj
  -- the other one is there
  have hoj:∃oj,ops[j]? =some oj:=by
   have hke:KE (jS P ops oi ρ):=aNH;cases hx:ops[j]? with
   | some oj=>exact⟨oj,rfl⟩
   | none=>
    refine(hke.falls (hke.mono H λv h' hh=>?_) hr).elim;obtain⟨o,ho,_⟩:=hh.2 j hmemj (λx hx'=>hjr x (aJg hx'));rw[hx] at ho;cases ho
  obtain⟨oj,hoj⟩:=hoj;refine⟨oj,hoj,?_⟩;have hap:=Oper.apart_spec (L.apart i j oi oj hi hoj (Ne.symm hji) hbij hbji);have hp:=hpair j oj hj hji hoj hbji;have eT:∀u,jS P ops oi (upd ρ oj.dst u)=jS P ops oi ρ:=λu=>aOe hap.2.2;have eU:∀v,jS P ops oj (upd ρ oi.dst v)=jS P ops oj ρ:=λv=>aOe hap.1;have eC:∀v u,upd (upd ρ oi.dst v) oj.dst u=upd (upd ρ oj.dst u) oi.dst v:=λv u=>aRe hap.2.1;have eE:(rem.erase i).erase j=(rem.erase j).erase i:=List.erase_comm i j;have keT:KE (jS P ops oi ρ):=aNH;have keU:KE (jS P ops oj ρ):=aNH
  -- as it stands
  have H1:jS P ops oi ρ h λv h1=>AG P ops b i rem (upd ρ oi.dst v) h1∧jS P ops oj ρ h1 λu h2=>
    AG P ops b j (rem.erase i) (upd (upd ρ oj.dst u) oi.dst v) h2∧aFN P ops b k n ((rem.erase j).erase i) (upd (upd ρ oj.dst u) oi.dst v) h2:=by
   refine keT.mono H λv h1 hh=>⟨hh.1,?_⟩;obtain⟨o,ho,hstep⟩:=hh.2 j hmemj (λx hx'=>hjr x (aJg hx'));rw[hoj] at ho;cases ho;rw[eU v] at hstep;refine keU.mono hstep λu h2 hx=>?_;rw[eC,eE] at hx;exact hx
  -- a look of before
  have early:∀x ox,ops[x]? =some ox->lI P ox.op= .r->x∉rem->(∀d,oi.dst=some d->d∉ox.looksAt ops)∧(∀d,oi.dst=some d->ox.dst≠some d)∧(∀d,oj.dst=some d->d∉ox.looksAt ops)∧(∀d,oj.dst=some d->ox.dst≠some d):=by
   intro x ox hox hcx hx;have nxi:x≠i:=λe=>hx (e▸hmem);have nxj:x≠j:=λe=>hx (e▸hj);exact⟨L.look x i ox oi hox hi hcx (λ_=>hdc x hx i hmem),L.one x i ox oi hox hi hcx nxi,L.look x j ox oj hox hoj hcx (λ_=>hdc x hx j hj),L.one x j ox oj hox hoj hcx nxj⟩
  -- what is wanted
  have W:jS P ops oj ρ h λu h1=>AG P ops b j rem (upd ρ oj.dst u) h1∧jS P ops oi ρ h1 λv h2=>
    AG P ops b i (rem.erase j) (upd (upd ρ oj.dst u) oi.dst v) h2∧aFN P ops b k n ((rem.erase j).erase i) (upd (upd ρ oj.dst u) oi.dst v) h2:=by
   have agI:∀v u h1,(lI P oj.op= .p∨lI P oj.op= .a)->AG P ops b i rem (upd ρ oi.dst v) h1->AG P ops b i (rem.erase j) (upd (upd ρ oj.dst u) oi.dst v) h1:=by
    intro v u h1 hcj hag oi' hi' hce x ox hox hcx hx hxi hb;have hxr:x∉rem:=λhm=>by
     by_cases e:x=j
     ·subst e;rw[hoj] at hox;cases hox;rcases hcj with hcj|hcj<;>rw[hcj] at hcx<;>cases hcx
     ·exact hx ((List.mem_erase_of_ne e).2 hm)
    obtain⟨_,_,l2,d2⟩:=early x ox hox hcx hxr;rw[←eC,aMu l2 d2];exact hag oi' hi' hce x ox hox hcx hxr hxi hb
   have agI0:lI P oi.op≠ .e->∀rem ρ h,AG P ops b i rem ρ h:=λhc rem ρ h oi' hi' hce=>by rw[hi] at hi';cases hi';exact absurd hce hc
   have agJ0:lI P oj.op≠ .e->∀rem ρ h,AG P ops b j rem ρ h:=λhc rem ρ h oj' hj' hce=>by rw[hoj] at hj';cases hj';exact absurd hce hc
   -- from behind both to behind the second alone
   have agJ:∀v u h2,AG P ops b j (rem.erase i) (upd (upd ρ oj.dst u) oi.dst v) h2->AG P ops b j rem (upd ρ oj.dst u) h2:=by
    intro v u h2 hag oj' hj' hce x ox hox hcx hx hxj hb;obtain⟨l1,d1,_,_⟩:=early x ox hox hcx hx;have:=hag oj' hj' hce x ox hox hcx (λhm=>hx (aJg hm)) hxj hb
    rwa [aMu l1 d1] at this
   cases ci:lI P oi.op with
   | p=>
    have hne:lI P oi.op≠ .e:=by rw[ci];intro h;cases h
    obtain⟨x,hx⟩:=aLT (ops:=ops) (ρ:=ρ) ci;obtain⟨v,e,hv⟩:=fD.1 ((hx _ _).1 H1);exact keU.mono hv.2 λu h2 hh=>⟨agJ v u h2 hh.1,(hx _ _).2 (fD.2 ⟨v,e,agI0 hne _ _ _,hh.2⟩)⟩
   | r=>
    have hne:lI P oi.op≠ .e:=by rw[ci];intro h;cases h
    have hx:=λh kv=>aNo (P:=P) (ops:=ops) (ρ:=ρ) ci h kv;obtain⟨v,e,hv⟩:=fD.1 ((hx _ _).1 H1);by_cases cj:lI P oj.op= .e
    ·refine keU.mono hv.2 λu h2 hh=>⟨agJ v u h2 hh.1,(hx _ _).2 (fD.2 ⟨v,?_,agI0 hne _ _ _,hh.2⟩)⟩;have hf:=hh.1 oj hoj cj i oi hi ci (λhm=>(List.Nodup.mem_erase_iff hnd).1 hm |>.1 rfl) (Ne.symm hji) hbji;have hself:=L.look i i oi oi hi hi ci (λe=>absurd rfl e);have hjl:=hap.2.2;unfold aM4 at e ⊢;split at e
     ·rename_i hw;rw[if_pos hw];obtain⟨d,hd⟩:=Option.isSome_iff_exists.1 (L.own i oi hi ci);have hw2:aBC ops oi (upd (upd ρ oj.dst u) oi.dst v)=true:=by
       unfold aBC at hw ⊢;cases hg:oi.guard with
       | none=>rfl
       | some gw=>obtain⟨g,want⟩:=gw;simp only[hg] at hw;simp only[aHa hg hself,aHa hg hjl];exact hw
      have:=hf hw2;rw[aK4 hself,aK4 hjl,hd] at this;simpa[upd] using this
     ·rename_i hw;rw[if_neg hw];exact e
    ·cases cj':lI P oj.op with
     | e=>exact absurd cj' cj
     | p=>
      obtain⟨y,hy⟩:=aLT (ops:=ops) (ρ:=ρ) cj';obtain⟨u,e',hu⟩:=fD.1 ((hy _ _).1 hv.2);exact(hy _ _).2 (fD.2 ⟨u,e',agJ0 cj _ _ _,(hx _ _).2 (fD.2 ⟨v,e,agI0 hne _ _ _,hu.2⟩)⟩)
     | r=>
      have hy:=λh kv=>aNo (P:=P) (ops:=ops) (ρ:=ρ) cj' h kv;obtain⟨u,e',hu⟩:=fD.1 ((hy _ _).1 hv.2);exact(hy _ _).2 (fD.2 ⟨u,e',agJ0 cj _ _ _,(hx _ _).2 (fD.2 ⟨v,e,agI0 hne _ _ _,hu.2⟩)⟩)
     | a=>
      have H2:jS P ops oi ρ h λv h1=>jS P ops oj ρ h1 λu h2=>aFN P ops b k n ((rem.erase j).erase i) (upd (upd ρ oj.dst u) oi.dst v) h2:=
       keT.mono H1 λv h1 hh=>keU.mono hh.2 λu h2 h3=>h3.2
      have H3:jS P ops oj ρ h λu h1=>jS P ops oi ρ h1 λv h2=>aFN P ops b k n ((rem.erase j).erase i) (upd (upd ρ oj.dst u) oi.dst v) h2:=by
       rcases aLb (P:=P) (ops:=ops) (ρ:=ρ) cj' with ha|hp'
       ·exact aW6 (aVz ci) ha H2
       ·exact aGv keT hp' hr H2
      exact keU.mono H3 λu h1 hh=>⟨agJ0 cj _ _ _,keT.mono hh λv h2 h3=>⟨agI0 hne _ _ _,h3⟩⟩
   | a=>
    have hne:lI P oi.op≠ .e:=by rw[ci];intro h;cases h
    have cj:lI P oj.op≠ .e:=by intro hc;rw[ci,hc] at hp;cases hp
    have H2:jS P ops oi ρ h λv h1=>jS P ops oj ρ h1 λu h2=>aFN P ops b k n ((rem.erase j).erase i) (upd (upd ρ oj.dst u) oi.dst v) h2:=
     keT.mono H1 λv h1 hh=>keU.mono hh.2 λu h2 h3=>h3.2
    have H3:jS P ops oj ρ h λu h1=>jS P ops oi ρ h1 λv h2=>aFN P ops b k n ((rem.erase j).erase i) (upd (upd ρ oj.dst u) oi.dst v) h2:=by
     cases cj':lI P oj.op with
     | e=>exact absurd cj' cj
     | p=>exact aGv keT (aLT cj') hr H2
     | r=>rw[ci,cj'] at hp;cases hp
     | a=>
      rcases aLb (P:=P) (ops:=ops) (ρ:=ρ) ci with hti|hti
      ·rcases aLb (P:=P) (ops:=ops) (ρ:=ρ) cj' with ha|hp'
       ·exact aWI hti ha hr H2
       ·exact aGv keT hp' hr H2
      ·exact aXJ hti keU H2
    exact keU.mono H3 λu h1 hh=>⟨agJ0 cj _ _ _,keT.mono hh λv h2 h3=>⟨agI0 hne _ _ _,h3⟩⟩
   | e=>
    have cj:lI P oj.op= .p∨lI P oj.op= .a:=by
     cases cj':lI P oj.op with
     | p=>exact .inl rfl
     | a=>exact .inr rfl
     | r=>rw[ci,cj'] at hp;cases hp
     | e=>rw[ci,cj'] at hp;cases hp
    have cj0:lI P oj.op≠ .e:=by rcases cj with cj|cj<;>rw[cj]<;>intro h<;>cases h
    have H2:jS P ops oi ρ h λv h1=>jS P ops oj ρ h1 λu h2=>AG P ops b i (rem.erase j) (upd (upd ρ oj.dst u) oi.dst v) h2∧aFN P ops b k n ((rem.erase j).erase i) (upd (upd ρ oj.dst u) oi.dst v) h2:=by
     refine keT.mono H1 λv h1 hh=>?_;have kp:KP (jS P ops oj ρ)->jS P ops oj ρ h1 λu h2=>AG P ops b i (rem.erase j) (upd (upd ρ oj.dst u) oi.dst v) h2∧aFN P ops b k n ((rem.erase j).erase i) (upd (upd ρ oj.dst u) oi.dst v) h2:=by
      rintro⟨y,hy⟩;obtain⟨u,e,hu⟩:=fD.1 ((hy _ _).1 hh.2);exact(hy _ _).2 (fD.2 ⟨u,e,agI v u h1 cj hh.1,hu.2⟩)
     rcases cj with cp|ca
     ·exact kp (aLT cp)
     ·rcases aLb (P:=P) (ops:=ops) (ρ:=ρ) ca with⟨y,hy⟩|hp'
      ·obtain⟨z,e,hz⟩:=fD.1 ((hy _ _).1 hh.2);refine(hy _ _).2 (fD.2 ⟨z,e,λr hn=>?_⟩);obtain⟨u,e2,hu⟩:=fD.1 (hz r hn);refine fD.2 ⟨u,e2,?_,hu.2⟩;intro oi' hi' hce x ox hox hcx hx hxi hb;exact aSu (L.own x ox hox hcx) (agI v u h1 (.inr ca) hh.1 oi' hi' hce x ox hox hcx hx hxi hb) hn
      ·exact kp hp'
    have H3:jS P ops oj ρ h λu h1=>jS P ops oi ρ h1 λv h2=>AG P ops b i (rem.erase j) (upd (upd ρ oj.dst u) oi.dst v) h2∧aFN P ops b k n ((rem.erase j).erase i) (upd (upd ρ oj.dst u) oi.dst v) h2:=by
     rcases cj with cp|ca
     ·exact aGv keT (aLT cp) hr H2
     ·rcases aLb (P:=P) (ops:=ops) (ρ:=ρ) ca with ha|hp'
      ·exact aWH keT ha hr H2
      ·exact aGv keT hp' hr H2
    exact keU.mono H3 λu h1 hh=>⟨agJ0 cj0 _ _ _,hh⟩
  refine keU.mono (keU.real W hr) λu h1 ⟨⟨hag,hst⟩,hr1⟩=>⟨hag,?_⟩;rw[←eT u] at hst;refine ih (rem.erase j) (upd ρ oj.dst u) h1 (by rw[List.length_erase_of_mem hj];omega) (hnd.erase j) ?_ hr1 hmemi (λx hx=>hrdy x (aJg hx)) (λj' oj' hj' hne ho hb=>hpair j' oj' (aJg hj') hne ho hb) hst;intro y hy x hx;by_cases e:y=j
  ·subst e;exact hjr x (aJg hx)
  ·exact hdc y (λhm=>hy ((List.mem_erase_of_ne e).2 hm)) x (aJg hx)
def aNk(P:Program)(ops:Array Oper):List Nat->kS->PH->Prop->Prop
 | [],_,_,K=>K
 | x::xs,ρ,h,K=>match ops[x]? with
  | none=>False
  | some o=>match o.guard with
   | none=>cD P h (tS ρ o)=o.dst.map ρ∧aNk P ops xs ρ h K
   | some (g,want)=>((aGt ops ρ g==some want)=true->cD P h (tS ρ o)=o.dst.map ρ)∧aNk P ops xs ρ h K
def aKg(P:Program)(ops:Array Oper)(b:Array Nat)(k:kS->PH->Prop):List Nat->List Nat->kS->PH->Prop
 | _,[],ρ,h=>k ρ h
 | pend,i::rest,ρ,h=>match ops[i]? with
  | none=>False
  | some o=>jS P ops o ρ h λv h'=>match lI P o.op with
   | .e=>aNk P ops (pend.filter λx=>!yA b i x) (upd ρ o.dst v) h' (aKg P ops b k pend rest (upd ρ o.dst v) h')
   | .r=>aKg P ops b k (i::pend) rest (upd ρ o.dst v) h'
   | _=>aKg P ops b k pend rest (upd ρ o.dst v) h'
def aRs(P:Program)(ops:Array Oper)(i:Nat):Cls:=match ops[i]? with
 | some o=>lI P o.op
 | none=>.e
def isR:Cls->Bool
 | .r=>true
 | _=>false
def aSS(P:Program)(ops:Array Oper)(b:Array Nat):List Nat->Bool
 | []=>true
 | i::rest=>!yA b i i&&rest.all (λj=>!yA b i j&&(yA b j i||aUD (aRs P ops i) (aRs P ops j)))&&aSS P ops b rest
def aR2(P:Program)(ops:Array Oper)(b:Array Nat):Bool:=
 (List.range ops.size).all λx=>(List.range ops.size).all λy=>match ops[x]?,ops[y]? with
  | some ox,some oy=>(x==y||yA b x y||yA b y x||ox.apart ops oy) &&
   (!isR (lI P ox.op)||((x !=y&&yA b x y)||match oy.dst with
    | none=>true
    | some d=>!(ox.looksAt ops).contains d)&&ox.dst.isSome&&(x==y||oy.dst.isNone||ox.dst !=oy.dst))
  | _,_=>true
def aR1(ops:Array Oper)(b:Array Nat):Bool:=
 (List.range ops.size).all λi=>match ops[i]? with
  | some o=>(o.after.all λe=>!Region.binds .any e||e.on<i) &&
   (List.range ops.size).all λx=>!yA b i x||o.after.any λe=>Region.binds .any e&&(e.on==x||yA b e.on x)
  | none=>true
def aPk:List Nat->Bool
 | []=>true
 | x::xs=>!xs.contains x&&aPk xs
def aP7(P:Program)(ops:Array Oper)(b:Array Nat)(ord:List Nat):Bool:=
 ord.length==ops.size&&b.size==ops.size&&ord.all (· < ops.size)&&(List.range ops.size).all (ord.contains ·)&&aPk ord&&aSS P ops b ord&&aR2 P ops b&&aR1 ops b
def aWU{P:Program}{ops:Array Oper}{b:Array Nat}(h:aR2 P ops b=true):aVZ P ops b:=by
 unfold aR2 at h;simp only[aKA,aFM] at h;have lt:∀{x:Nat} {o:Oper},ops[x]? =some o->x<ops.size:=λh=>(aH2.1 h).1;have key:∀(x y:Nat) (ox oy:Oper),ops[x]? =some ox->ops[y]? =some oy->((x==y||yA b x y||yA b y x||ox.apart ops oy) &&
   (!isR (lI P ox.op)||((x !=y&&yA b x y)||match oy.dst with
    | none=>true
    | some d=>!(ox.looksAt ops).contains d)&&ox.dst.isSome&&(x==y||oy.dst.isNone||ox.dst !=oy.dst)))=true:=by
  intro x y ox oy hx hy;have:=h x (lt hx) y (lt hy);simpa only[hx,hy] using this
 have isr:∀{c:Cls},c= .r->isR c=true:=λe=>by rw[e];rfl
 constructor
 ·intro x y ox oy hx hy hne h1 h2;have:=(sU _ _▸key x y ox oy hx hy).1;simpa[hne,h1,h2] using this
 ·intro x y ox oy hx hy hc h1 d hd;have:=(sU _ _▸key x y ox oy hx hy).2;rw[isr hc] at this;simp only[Bool.not_true,Bool.false_or,sU,hd] at this;rcases aHE _ _▸this.1.1 with h3|h3
  ·simp only[sU,bne_iff_ne] at h3;rw[h1 h3.1] at h3;cases h3.2
  ·simpa using h3
 ·intro x ox hx hc;have:=(sU _ _▸key x x ox ox hx hx).2;rw[isr hc] at this;simp only[Bool.not_true,Bool.false_or,sU] at this;exact this.1.2
 ·intro x y ox oy hx hy hc hne d hd;have:=(sU _ _▸key x y ox oy hx hy).2;rw[isr hc] at this;simp only[Bool.not_true,Bool.false_or,sU] at this;have h3:=this.2;rw[hd] at h3;simpa[hne] using h3
def aQP{P:Program}{ops:Array Oper}{ρ:kS}{h:PH}{K:Prop}:∀{l:List Nat},aNk P ops l ρ h K->K∧∀x∈l,∃o,ops[x]? =some o∧aFF P ops o ρ h
 | [],hk=>⟨hk,λ_ hx=>by cases hx⟩
 | x::xs,hk=>by
  unfold aNk at hk;split at hk
  ·exact hk.elim
  ·rename_i o ho;have hboth:aFF P ops o ρ h∧aNk P ops xs ρ h K:=by
    unfold aFF aBC;cases hg:o.guard with
    | none=>simp only[hg] at hk;exact⟨λ_=>hk.1,hk.2⟩
    | some gw=>obtain⟨g,want⟩:=gw;simp only[hg] at hk;exact⟨λhw=>hk.1 hw,hk.2⟩
   obtain⟨hK,hrest⟩:=aQP hboth.2;exact⟨hK,λy hy=>by
    rcases iW.1 hy with rfl|hy
    ·exact⟨o,ho,hboth.1⟩
    ·exact hrest y hy⟩
def aVi{P:Program}{ops:Array Oper}{b:Array Nat}{k:kS->PH->Prop}(L:aVZ P ops b):
  ∀(rest pend:List Nat) (ρ:kS) (h:PH),aSS P ops b rest=true->rest.Nodup->(∀y,y∉rest->∀x∈rest,yA b y x=false)->Rl h->
   (∀x ox,ops[x]? =some ox->lI P ox.op= .r->x∉rest->x∈pend)->aKg P ops b k pend rest ρ h->aFN P ops b k rest.length rest ρ h:=by
 intro rest;induction rest with
 | nil=>intro pend ρ h _ _ _ _ _ H;exact H
 | cons i rest ih=>
  intro pend ρ h hord hnd hdc hr hpend H;unfold aKg at H;split at H
  ·exact H.elim
  ·rename_i o hi;simp only[aSS,sU,Bool.not_eq_true',aKA] at hord;obtain⟨⟨hii,hall⟩,hrest⟩:=hord;obtain⟨hnot,hnd'⟩:=aF7.1 hnd;have hrdy:∀x∈i::rest,yA b i x=false:=λx hx=>by
    rcases iW.1 hx with rfl|hx
    ·exact hii
    ·exact(hall x hx).1
   have hdc':∀y,y∉rest->∀x∈rest,yA b y x=false:=λy hy x hx=>by
    by_cases e:y=i
    ·subst e;exact(hall x hx).1
    ·exact hdc y (λhm=>by rcases iW.1 hm with hm|hm;exact e hm;exact hy hm) x (aHC _ hx)
   refine aTw L hi rest.length (i::rest) ρ h rfl hnd hdc hr (aNa) hrdy (λj oj hj hne hoj hb=>?_) ?_
   ·have hj':j∈rest:=(iW.1 hj).resolve_left hne;have:=(hall j hj').2;rw[hb,Bool.false_or] at this;simpa only[aRs,hi,hoj] using this
   ·have ke:KE (jS P ops o ρ):=aNH;refine ke.mono (ke.real H hr) λv h' ⟨hh,hr'⟩=>?_;rw[List.erase_cons_head];cases hc:lI P o.op with
    | e=>
     simp only[hc] at hh;obtain⟨hK,hags⟩:=aQP hh;refine⟨λoi hoi hce x ox hox hcx hx hxi hb=>?_,ih pend _ _ hrest hnd' hdc' hr' (λx ox hox hcx hx=>?_) hK⟩
     ·obtain⟨o',ho',hf⟩:=hags x (zLY.2 ⟨hpend x ox hox hcx hx,by simp[hb]⟩);rw[hox] at ho';cases ho';exact hf
     ·refine hpend x ox hox hcx λhm=>?_;rcases iW.1 hm with rfl|hm
      ·rw[hi] at hox;cases hox;rw[hc] at hcx;cases hcx
      ·exact hx hm
    | r=>
     simp only[hc] at hh;refine⟨λoi hoi hce=>(by rw[hi] at hoi;cases hoi;rw[hc] at hce;cases hce),ih (i::pend) _ _ hrest hnd' hdc' hr' (λx ox hox hcx hx=>?_) hh⟩;by_cases e:x=i
     ·subst e;exact aNa
     ·exact aHC _ (hpend x ox hox hcx λhm=>by rcases iW.1 hm with hm|hm;exact e hm;exact hx hm)
    | p=>
     simp only[hc] at hh;refine⟨λoi hoi hce=>(by rw[hi] at hoi;cases hoi;rw[hc] at hce;cases hce),ih pend _ _ hrest hnd' hdc' hr' (λx ox hox hcx hx=>?_) hh⟩;refine hpend x ox hox hcx λhm=>?_;rcases iW.1 hm with rfl|hm
     ·rw[hi] at hox;cases hox;rw[hc] at hcx;cases hcx
     ·exact hx hm
    | a=>
     simp only[hc] at hh;refine⟨λoi hoi hce=>(by rw[hi] at hoi;cases hoi;rw[hc] at hce;cases hce),ih pend _ _ hrest hnd' hdc' hr' (λx ox hox hcx hx=>?_) hh⟩;refine hpend x ox hox hcx λhm=>?_;rcases iW.1 hm with rfl|hm
     ·rw[hi] at hox;cases hox;rw[hc] at hcx;cases hcx
     ·exact hx hm
structure zC(n:Nat)(D:List Deferred)(ρ:kS)(a:Act):Prop where
 defers:a.defers=D
 size:a.tmps.size=n
 slot:∀t,a.tmps.getD t undef=ρ t
def zC.ev{n:Nat}{D:List Deferred}{ρ:kS}{a:Act}(hm:zC n D ρ a):a.eval=ev ρ:=by
 funext x;cases x with
 | tmp t=>exact hm.slot t
 | _=>rfl
def zC.put{n:Nat}{D:List Deferred}{ρ:kS}{a:Act}(hm:zC n D ρ a){d:Option Tmp}(hd:∀t,d=some t->t<n)(v:Value):zC n D (upd ρ d v) (a.put d v):=by
 cases d with
 | none=>exact hm
 | some t=>
  refine⟨hm.defers,by simp[Act.put,hm.size],λs=>?_⟩;have ht:t<a.tmps.size:=by rw[hm.size];exact hd t rfl
  simp only[Act.put,upd,aFH,Array.getElem?_setIfInBounds];by_cases e:s=t
  ·subst e;simp[ht]
  ·rw[if_neg (Ne.symm e),if_neg e,←aFH];exact hm.slot s
def zC.want{n:Nat}{D:List Deferred}{ρ:kS}{a:Act}(hm:zC n D ρ a)(ops:Array Oper)(o:Oper):Region.wanted o (yielded ops a.tmps)=aBC ops o ρ:=by
 unfold Region.wanted aBC;cases hg:o.guard with
 | none=>rfl
 | some gw=>
  obtain⟨g,want⟩:=gw;have:yielded ops a.tmps g=aGt ops ρ g:=by
   unfold yielded aGt;cases hd:(ops[g]?).bind (·.dst) with
   | none=>rfl
   | some t=>
    have hs:=hm.slot t;simp only[zY];rw[aFH] at hs;cases hx:a.tmps[t]? with
    | none=>rw[hx] at hs;simp only[Option.getD_none] at hs;rw[←hs];rfl
    | some v=>rw[hx] at hs;simp only[Option.getD_some] at hs;rw[←hs];cases v<;>rfl
  simp only[this]
abbrev aGS(r:Option Nat):Fence:={Fence.wide with round:=r}
def aKK{r:Option Nat}{n:Nat}{P:Program}{f:FuncId}{args:Array Value}{w:World}{R:Ending->World->Prop}(h:Calls P f args w R):CallsIn (aGS r) n P f args w R:=
 (callsIn_wide (n:=n)).2 h
def aO6{r:Option Nat}{n m:Nat}{P:Program}{l:Nat}{f:FuncId}{tmps:Array Value}{assign body:Code}{w:World}{R:Ending->World->Prop}(h:RoundIn Fence.wide m P l f tmps assign body w R):RoundIn (aGS r) n P l f tmps assign body w R:=
 ⟨trivial,λc cs _=>h.2 c cs (room_wide _)⟩
def aRD{r:Option Nat}{N:Nat}{P:Program}{ops:Array Oper}{i:Nat}{o:Oper}{ρ:kS}{h:PH}{kv:cE}{n:Nat}{D:List Deferred}{a:Act}{w:World}{Q:Exit->Act->World->Prop}{K:Act->World->Prop}
  (hi:ops[i]? =some o) (hs:jS P ops o ρ h kv) (hm:zC n D ρ a) (hsub:oV h w) (hk:∀v h' w',kv v h'->oV h' w'->Fr h w h' w'->K (a.put o.dst v) w'):wpOpIn (aGS r) N P ops Q i K a w:=by
 unfold wpOpIn;simp only[hi];rw[yJ] at hs;rw[hm.want];by_cases hw:aBC ops o ρ=true
 ·rw[if_pos hw] at hs ⊢;unfold Oper.wpIn;refine⟨λ_ _=>trivial,?_⟩;rw[Oper.semAt_eq _ _ _ hs.noDefer,hm.ev];obtain⟨x,w',h',hrun,hn,hs',hf⟩:=hs.exec.sound hsub;rw[hrun];cases x with
  | value v=>exact hk v h' w' hn hs' hf
  | skip=>exact hk undef h' w' hn hs' hf
  | enter f args=>
   refine⟨λh=>by simp[Fence.wide] at h,aKK ((hn w' hs').mono λe w2 ⟨v,h2,he,hv,hs2,hf2⟩=>?_)⟩;subst he;exact hk v h2 w2 hv hs2 (hf.trans hf2)
  | round l f tmps assign body=>
   refine⟨λh=>by simp[Fence.wide] at h,aO6 (RoundIn.mono (hn w' hs') λe w2 ⟨v,h2,he,hv,hs2,hf2⟩=>?_)⟩;subst he;exact hk v h2 w2 hv hs2 (hf.trans hf2)
  | _=>exact hn.elim
 ·rw[if_neg hw] at hs ⊢;exact⟨λ_ _=>trivial,hk undef h w hs hsub (Fr.refl _ _)⟩
def aMO(n:Nat)(o:Oper):Bool:=match o.dst with
 | some d=>d<n
 | none=>true
def aS4{n:Nat}{o:Oper}(h:aMO n o=true):∀t,o.dst=some t->t<n:=by
 intro t ht;unfold aMO at h;rw[ht] at h;simpa using h
def aJX(b:Nat):Deferred:={target:=.collected b,args:=#[]}
def aBF(w0:World)(D:List Deferred)(h:PH)(w:World):Prop:=
 ∃bs:List Nat,bs.Nodup∧D=bs.map aJX∧∀b∈bs,w0.heap.size≤b∧b<w.heap.size∧h b=none∧w.heap[b]? =some (.deferred (some []))
def aBF.step{w0:World}{D:List Deferred}{h h':PH}{w w':World}(hd:aBF w0 D h w)(hf:Fr h w h' w'):aBF w0 D h' w':=by
 obtain⟨bs,h1,h2,h3⟩:=hd;refine⟨bs,h1,h2,λb hb=>?_⟩;obtain⟨a1,a2,a3,a4⟩:=h3 b hb;exact⟨a1,aNn a2 hf.size,hf.none b a2 a3,(hf.far b a2 a3).trans a4⟩
def aBF.nil(w0:World)(h:PH)(w:World):aBF w0 [] h w:=⟨[],List.nodup_nil,rfl,λb hb=>by cases hb⟩
def QW(n:Nat)(Q:Exit->kS->PH->Prop)(h0:PH)(w0:World):Exit->Act->World->Prop:=λe a w=>∃ρ h D,Q e ρ h∧zC n D ρ a∧oV h w∧Fr h0 w0 h w∧aBF w0 D h w
def aX1{r:Option Nat}{N:Nat}{P:Program}{ops:Array Oper}{n:Nat}{D:List Deferred}{Q:Exit->kS->PH->Prop}{h0:PH}{w0:World}(hd:∀o∈ops,aMO n o=true):
  ∀(m k:Nat) (ρ:kS) (h:PH) (a:Act) (w:World),k+m=ops.size->aR5 P ops (Q .normal) (ops.toList.drop k) ρ h->zC n D ρ a->oV h w->Fr h0 w0 h w->aBF w0 D h w->
   wpOpsIn (aGS r) N P ops (QW n Q h0 w0) (List.range' k m) a w:=by
 intro m;induction m with
 | zero=>
  intro k ρ h a w hk H hm hs hf hD;rw[yQ (by simp;omega)] at H;exact⟨ρ,h,D,H,hm,hs,hf,hD⟩
 | succ m ih=>
  intro k ρ h a w hk H hm hs hf hD;have hlt:k<ops.size:=by omega
  have hget:ops[k]? =some ops[k]:=Array.getElem?_eq_getElem hlt;rw[aAs (by simpa using hlt)] at H;rw[List.range'_succ,wpOpsIn_cons];refine aRD hget H hm hs λv h' w' hv hs' hf'=>?_;exact ih (k+1) _ _ _ _ (by omega) hv (hm.put (aS4 (hd _ (Array.getElem_mem hlt))) v) hs' (hf.trans hf') (hD.step hf')
def aXq{r:Option Nat}{N:Nat}{P:Program}{ops:Array Oper}{b:Array Nat}{n:Nat}{D:List Deferred}{Q:Exit->kS->PH->Prop}{h0:PH}{w0:World}(hd:∀o∈ops,aMO n o=true)(hc:aR1 ops b=true):
  ∀(m:Nat) (rem:List Nat) (listed:Array Bool) (ρ:kS) (h:PH) (a:Act) (w:World),rem.length=m->rem.Nodup->(∀x,x∈rem↔x<ops.size∧listed.getD x true=false)->listed.size=ops.size->
   (∀y,y∉rem->∀x∈rem,yA b y x=false)->aFN P ops b (Q .normal) m rem ρ h->zC n D ρ a->oV h w->Fr h0 w0 h w->aBF w0 D h w->
   wpAnyIn (aGS r) N P .any ops (QW n Q h0 w0) m listed a w:=by
 unfold aR1 at hc;simp only[aKA,aFM] at hc;have hcl:∀(i:Nat) (o:Oper),ops[i]? =some o->(∀e∈o.after,Region.binds .any e=true->e.on<i)∧∀x,x<ops.size->yA b i x=true->∃e∈o.after,Region.binds .any e=true∧(e.on=x∨yA b e.on x=true):=by
  intro i o hi;have:=hc i (aH2.1 hi).1;simp only[hi,sU,aKA,aFM] at this;refine⟨λe he hb=>?_,λx hx hb=>?_⟩
  ·have h1:=Array.all_eq_true_iff_forall_mem.1 this.1 e he;simpa[hb] using h1
  ·have h1:=this.2 x hx;rw[hb] at h1;simp only[Bool.not_true,Bool.false_or] at h1;obtain⟨e,he,h2⟩:=Array.any_eq_true'.1 h1;simp only[sU,aHE,beq_iff_eq] at h2;exact⟨e,he,h2⟩
 intro m;induction m with
 | zero=>
  intro rem listed ρ h a w hlen hnd hrem hsz hdc H hm hs hf hD;have:rem=[]:=zLN hlen;subst this;refine⟨?_,ρ,h,D,H,hm,hs,hf,hD⟩;rw[List.eq_nil_iff_forall_not_mem];intro j hj;obtain⟨h1,o,ho,_⟩:=mem_ready.1 hj;have:=(hrem j).2 ⟨(aH2.1 ho).1,h1⟩;cases this
 | succ m ih=>
  intro rem listed ρ h a w hlen hnd hrem hsz hdc H hm hs hf hD;have hlisted:∀x,x<ops.size->x∉rem->listed.getD x false=true:=by
   intro x hx hn;cases hv:listed.getD x true with
   | false=>exact absurd ((hrem x).2 ⟨hx,hv⟩) hn
   | true=>
    have hlt:x<listed.size:=by omega
    simpa[aFH,hlt] using hv
  refine⟨λhr=>?_,λi hir=>?_⟩
  ·-- the lowest one that is left may come up
   exfalso;have hne:rem≠[]:=λe=>by rw[e] at hlen;cases hlen
   have hmin:∃i∈rem,∀x∈rem,i≤x:=by
    clear hlen hnd hrem hdc H hlisted;induction rem with
    | nil=>exact absurd rfl hne
    | cons y ys ihy=>
     by_cases hys:ys=[]
     ·subst hys;exact⟨y,aNa,λx hx=>by simp at hx;omega⟩
     ·obtain⟨i,hi,hle⟩:=ihy hys;by_cases hyi:y≤i
      ·exact⟨y,aNa,λx hx=>by
        rcases iW.1 hx with rfl|hx
        ·omega
        ·have:=hle x hx;omega⟩
      ·exact⟨i,aHC _ hi,λx hx=>by
        rcases iW.1 hx with rfl|hx
        ·omega
        ·exact hle x hx⟩
   obtain⟨i,hi,hle⟩:=hmin;obtain⟨hlt,hun⟩:=(hrem i).1 hi;have:i∈Region.ready .any ops listed:=by
    rw[mem_ready];refine⟨hun,ops[i],Array.getElem?_eq_getElem hlt,λe he hb=>?_⟩;have hlt2:=(hcl i _ (Array.getElem?_eq_getElem hlt)).1 e he hb;exact hlisted _ (by omega) (λhm=>by have:=hle _ hm;omega)
   rw[hr] at this;cases this
  ·obtain⟨hun,o,ho,hall⟩:=mem_ready.1 hir;have hlt:=(aH2.1 ho).1;have hmem:i∈rem:=(hrem i).2 ⟨hlt,hun⟩;have hrdy:∀x∈rem,yA b i x=false:=by
    intro x hx;cases hb:yA b i x with
    | false=>rfl
    | true=>
     exfalso;obtain⟨e,he,hbi,hor⟩:=(hcl i o ho).2 x ((hrem x).1 hx).1 hb;have hl:=hall e he hbi;have hlt2:=(hcl i o ho).1 e he hbi;have hne:e.on∉rem:=λhm=>by
      have:=((hrem _).1 hm).2;have hsz':e.on<listed.size:=by omega
      simp[aFH,hsz'] at this hl;rw[this] at hl;cases hl
     rcases hor with rfl|hor
     ·exact hne hx
     ·rw[hdc _ hne x hx] at hor;cases hor
   obtain⟨o',ho',hst⟩:=H i hmem hrdy;rw[ho] at ho';cases ho';refine aRD ho hst hm hs λv h' w' hv hs' hf'=>?_;refine ih (rem.erase i) (listed.setIfInBounds i true) _ _ _ _ (by rw[List.length_erase_of_mem hmem];omega) (hnd.erase i) (λx=>?_) (by simpa using hsz) ?_ hv.2 (hm.put (aS4 (hd _ (Array.mem_of_getElem? ho))) v) hs' (hf.trans hf') (hD.step hf')
   ·rw[hnd.mem_erase_iff,hrem];by_cases e:x=i
    ·subst e;have:x<listed.size:=by omega
     simp[aFH,this]
    ·rw[getD_set_ne true (Ne.symm e)];simp[e]
   ·intro y hy x hx;by_cases e:y=i
    ·subst e;exact hrdy x (aJg hx)
    ·exact hdc y (λhm'=>hy ((List.mem_erase_of_ne e).2 hm')) x (aJg hx)
def aW4{r:Option Nat}{N:Nat}{D:List Deferred}{P:Program}{id:Nat}{ops:Array Oper}{b:Array Nat}{ord:List Nat}{n:Nat}{Q:Exit->kS->PH->Prop}{h0:PH}{w0:World}{ρ:kS}{h:PH}{a:Act}{w:World}
  (hmix:P.follows .mixedOrders=true) (hd:∀o∈ops,aMO n o=true) (hok:aP7 P ops b ord=true) (H:aKg P ops b (Q .normal) [] ord ρ h) (hm:zC n D ρ a) (hs:oV h w) (hf:Fr h0 w0 h w) (hD:aBF w0 D h w):
  (Code.region id ops true).wpIn (aGS r) N P (QW n Q h0 w0) a w:=by
 unfold aP7 at hok;simp only[sU,beq_iff_eq,aKA,decide_eq_true_eq] at hok;obtain⟨⟨⟨⟨⟨⟨⟨hlen,hbs⟩,hlt⟩,hcov⟩,hnd⟩,hord⟩,hlaid⟩,hclos⟩:=hok;have hnodup:ord.Nodup:=by
  clear hlen hlt hord H hcov;induction ord with
  | nil=>exact List.nodup_nil
  | cons x xs ih=>
   simp only[aPk,sU,Bool.not_eq_true'] at hnd;exact aF7.2 ⟨by simpa using hnd.1,ih hnd.2⟩
 have hall:∀x,x<ops.size->x∈ord:=λx hx=>by simpa using hcov x (aFM.2 hx)
 have hdc:∀y,y∉ord->∀x∈ord,yA b y x=false:=by
  intro y hy x hx;have hge:ops.size≤y:=by
   rcases Nat.lt_or_ge y ops.size with h1|h1
   ·exact absurd (hall y h1) hy
   ·exact h1
  unfold yA;rw[aFH,Array.getElem?_eq_none (by omega)];simp
 refine wpIn_region_any hmix ?_;have hs1:oV h {w with drawn:=w.drawn+1}:=hs;have hf1:Fr h0 w0 h {w with drawn:=w.drawn+1}:=⟨hf.os,hf.tape,hf.output,zLE hf.drawn (aES _),hf.size,hf.far,hf.none⟩;have hany:=aVi (aWU hlaid) ord [] ρ h hord hnodup hdc ⟨w,hs⟩ (λx ox hox _ hx=>absurd (hall x (aH2.1 hox).1) hx) H;rw[hlen] at hany;exact aXq hd hclos ops.size ord _ ρ h a _ hlen hnodup (λx=>by
  constructor
  ·intro hx;exact⟨hlt x hx,by simp[aFH,hlt x hx]⟩
  ·intro hx;exact hall x hx.1) (by simp) hdc hany hm hs1 hf1 hD
structure jY where
 b:Nat->Array Nat
 ord:Nat->List Nat
 keep:Nat->List Nat
 n:Nat:=0
def sR:Code->Nat
 | .region id _ _=>id
 | .seq x _=>sR x
 | .block _ c=>sR c
 | .loop c=>sR c
 | .scope c=>sR c
 | _=>0
abbrev QH:=Exit->kS->PH->Prop
abbrev aIp(next:kS->PH->Prop)(Q:QH):QH
 | .normal,ρ,h=>next ρ h
 | e,ρ,h=>Q e ρ h
abbrev aH0(id:Nat)(Q:QH):QH
 | .exit id',ρ,h=>if id'=id then Q .normal ρ h else Q (.exit id') ρ h
 | e,ρ,h=>Q e ρ h
abbrev aLe(Q:QH):QH
 | .goto _,_,_=>False
 | e,ρ,h=>Q e ρ h
def cQ(v:Value)(A B:Prop):Prop:=match v with
 | .bool true=>A
 | .bool false=>B
 | _=>False
def hC(keep:List Nat)(step:(List Value->PH->Prop)->kS->PH->Prop)(vs:List Value)(h:PH):Prop:=
 ∃(I:gH) (μ:List Value->PH->Nat),I vs h∧∀ρ h,I (keep.map ρ) h->step (λvs' h'=>I vs' h'∧μ vs' h'<μ (keep.map ρ) h) ρ h
def aCN:Code->List Nat
 | .seq x y=>aCN x++aCN y
 | .cond _ x y=>aCN x++aCN y
 | .block _ c=>aCN c
 | .loop c=>aCN c
 | .scope c=>aCN c
 | .exit id=>[id]
 | _=>[]
def aV2(kn kr:PH->Prop)(ke:List (Nat×(PH->Prop)))(h:PH):Option Code->Prop
 | none=>kn h
 | some .ret=>kr h
 | some (.exit id)=>∃p∈ke,p.1=id∧p.2 h
 | _=>False
def aDv(P:Program)(n:Nat)(g:Value)(ps:Array Tmp)(assign body:Code)(kn kr:PH->Prop)(ke:List (Nat×(PH->Prop)))(vals:List (Nat×Value))(h:PH):Prop:=match g with
 | .func (.func gf) first captured=>aDF P gf=true∧∀(fn:FuncId) (tmps:Array Value) (l D:Nat),(∀p∈vals,tmps.getD p.1 undef=p.2)->tmps.size=n->h l=none->
   bT P gf (first ++ #[.func (.yield l) #[] #[]]++captured) (h.set l (.loop {state:=.ready,pending:=none,fn,tmps,params:=ps,assign,body,defers:=D}))
    λ_ h'=>cN P (Instr.endLoop l) h' λjump h2=>aV2 kn kr ke h2 jump
 | _=>False
def qL(P:Program)(ann:jY):Code->QH->kS->PH->Prop
 | .skip,Q,ρ,h=>Q .normal ρ h
 | .region _ ops false,Q,ρ,h=>aR5 P ops (Q .normal) ops.toList ρ h
 | .region id ops true,Q,ρ,h=>aKg P ops (ann.b id) (Q .normal) [] (ann.ord id) ρ h
 | .seq x y,Q,ρ,h=>qL P ann x (aIp (qL P ann y Q) Q) ρ h
 | .cond c x y,Q,ρ,h=>cQ (ev ρ c) (qL P ann x Q ρ h) (qL P ann y Q ρ h)
 | .block id c,Q,ρ,h=>qL P ann c (aH0 id Q) ρ h
 | .loop c,Q,ρ,h=>hC (ann.keep (sR c)) (λnext ρ h=>qL P ann c (aIp (λρ' h'=>next ((ann.keep (sR c)).map ρ') h') Q) ρ h) ((ann.keep (sR c)).map ρ) h
 | .exit id,Q,ρ,h=>Q (.exit id) ρ h
 | .ret,Q,ρ,h=>Q .ret ρ h
 | .label _,Q,ρ,h=>Q .normal ρ h
 | .scope c,Q,ρ,h=>qL P ann c (aLe Q) ρ h
 | .rangeFunc g ps assign body,Q,ρ,h=>aDv P ann.n (ev ρ g) ps assign body (Q .normal ρ) (Q .ret ρ) ((aCN body).map λid=>(id,Q (.exit id) ρ)) ((ann.keep (sR body)).map λt=>(t,ρ t)) h
 | _,_,_,_=>False
def qR:Code->Bool
 | .seq x y=>qR x&&qR y
 | .cond _ x y=>qR x&&qR y
 | .block _ c=>qR c
 | .loop c=>qR c
 | .scope c=>qR c
 | .rangeFunc .. =>false
 | _=>true
def xU(P:Program)(ann:jY)(n:Nat):Code->Bool
 | .region _ ops false=>ops.all (aMO n)
 | .region id ops true=>ops.all (aMO n)&&aP7 P ops (ann.b id) (ann.ord id)
 | .seq x y=>xU P ann n x&&xU P ann n y
 | .cond _ x y=>xU P ann n x&&xU P ann n y
 | .block _ c=>xU P ann n c
 | .loop c=>xU P ann n c
 | .scope c=>xU P ann n c
 | .rangeFunc _ ps _ _=>ann.n==n
 | _=>true
def cD.run{P:Program}{α:Type}{s:Sem α}:∀{a:α} {h:PH},cD P h s=some a->∀{w:World},oV h w->s.run P w= .ok a w:=by
 induction s with
 | pure a=>intro b h hb w hs;simp only[cD,zL4] at hb;subst hb;rfl
 | load m a k ih=>intro b h hb w hs;obtain⟨v,hv,hb⟩:=aG5.1 hb;simp only[Sem.run,hs.cell hv];exact ih v hb hs
 | shape r k ih=>intro b h hb w hs;obtain⟨v,hv,hb⟩:=aG5.1 hb;simp only[Sem.run,hs.shape hv];exact ih v hb hs
 | frozen a k ih=>intro b h hb w hs;obtain⟨v,hv,hb⟩:=aG5.1 hb;simp only[Sem.run,hs.frozen hv];exact ih _ hb hs
 | program k ih=>intro b h hb w hs;exact ih P hb hs
 | mark m k ih=>intro b h hb w hs;exact ih hb hs
 | getObj r k ih=>
  intro b h hb w hs;simp only[cD] at hb;cases hx:h r with
  | none=>rw[hx] at hb;cases hb
  | some o=>
   rw[hx] at hb;simp only[Sem.run,hs _ _ hx];cases o<;>first|cases hb|exact ih _ hb hs
 | _=>intro b h hb;cases hb
def aQf{r:Option Nat}{N:Nat}{P:Program}{Q:Exit->Act->World->Prop}{c:Code}(I:Nat->Act->World->Prop)(round:∀n a w,I n a w->c.wpIn (aGS r) N P (Exit.then (λa' w'=>∃m,m<n∧I m a' w') Q) a w):
  ∀{n:Nat} {a:Act} {w:World},I n a w->(Code.loop c).wpIn (aGS r) N P Q a w:=by
 intro n a w h0;let J:Act->World->Prop:=λa w=>∃n,I n a w;have least:∀a w,J a w->∃n,I n a w∧∀m,I m a w->n≤m:=by
  intro a w ⟨n,hn⟩;induction n using Nat.strongRecOn with
  | _ n ih=>
   by_cases hx:∃m,m<n∧I m a w
   ·obtain⟨m,hlt,hm⟩:=hx;exact ih m hlt hm
   ·exact⟨n,hn,λm hm=>by
     rcases Nat.lt_or_ge m n with h1|h1
     ·exact absurd ⟨m,h1,hm⟩ hx
     ·exact h1⟩
 let μ:Act->World->Nat:=λa w=> @dite Nat (J a w) (Classical.propDecidable _) (λh=>Classical.choose (least a w h)) (λ_=>0);refine wpIn_loop J μ ⟨n,h0⟩ λa w hJ=>?_;have hμ:μ a w=Classical.choose (least a w hJ):=dif_pos hJ;have hsp:=Classical.choose_spec (least a w hJ);refine wpIn_mono (round _ a w hsp.1) λe a' w' he=>?_;cases e with
 | normal=>
  obtain⟨m,hlt,hm⟩:=he;have hJ':J a' w':=⟨m,hm⟩;have hμ':μ a' w'=Classical.choose (least a' w' hJ'):=dif_pos hJ';refine⟨hJ',?_⟩;rw[hμ,hμ'];exact Nat.lt_of_le_of_lt ((Classical.choose_spec (least a' w' hJ')).2 m hm) hlt
 | _=>exact he
def aCP{P:Program}{b:Frame}{a:Act}{k:List Item}{cs:List Frame}{w:World}{c:Code}:step P (lone (b.atR a (.code (.scope c)::k)) cs w)= .next (lone (b.atR a (.code c :: .inScope c::k)) cs w):=
 step_lone_go (by simp[stepG,stepG.exec,Frame.atR])
def aO7{P:Program}{b:Frame}{a:Act}{k:List Item}{cs:List Frame}{w:World}{c:Code}:step P (lone (b.atR a (.inScope c::k)) cs w)= .next (lone (b.atR a k) cs w):=
 step_lone_go (by simp[stepG,stepG.exec,Frame.atR])
def aKW{F:Fence}{n:Nat}{P:Program}{Q:Exit->Act->World->Prop}{a:Act}{w:World}{c:Code}(h:c.wpIn F n P (Exit.noGoto Q) a w):(Code.scope c).wpIn F n P Q a w:=by
 intro b k cs hro hb hr;have h0:(lone (b.atR a (.code (.scope c)::k)) cs w).fenced P F:=fenced_calm hb hr rfl;obtain⟨e,a₁,w₁,hq,harr⟩:=h b (.inScope c::k) cs hro hb hr;cases e with
 | normal=>exact⟨.normal,a₁,w₁,hq,.head h0 aCP (StepsIn.trans harr (.one (fenced_calm hb hr rfl) aO7))⟩
 | exit id=>
  have hx:exitTo id (.inScope c::k)=exitTo id k:=by simp[exitTo]
  exact⟨.exit id,a₁,w₁,hq,λk' hk=>.head h0 aCP (harr.1 k' (by rw[hx];exact hk)),
   λhr' hk=>let ⟨k₁,h1,h2⟩:=harr.2 hr' (by rw[hx];exact hk);⟨k₁,h1,.head h0 aCP h2⟩⟩
 | goto l=>exact hq.elim
 | ret=>exact⟨_,a₁,w₁,hq,.of_steps (.one h0 aCP) harr⟩
 | panic ch=>exact⟨_,a₁,w₁,hq,.of_steps (.one h0 aCP) harr⟩
 | outgrown=>exact⟨_,a₁,w₁,hq,.of_steps (.one h0 aCP) harr⟩
def aDv.sound{N:Nat}{P:Program}{n:Nat}{D:List Deferred}{h0:PH}{w0:World}{g:Operand}{ps:Array Tmp}{assign body:Code}{Q:QH}{ρ:kS}{h:PH}{vs:List Nat}
  (H:aDv P n (ev ρ g) ps assign body (Q .normal ρ) (Q .ret ρ) ((aCN body).map λid=>(id,Q (.exit id) ρ)) (vs.map λt=>(t,ρ t)) h) {a:Act} {w:World} (hm:zC n D ρ a) (hs:oV h w) (hf:Fr h0 w0 h w) (hD:aBF w0 D h w):
  (Code.rangeFunc g ps assign body).wpIn (aGS none) N P (QW n Q h0 w0) a w:=by
 unfold aDv at H;split at H
 case h_2=>exact H.elim
 rename_i gf first captured hg
 obtain⟨he,H⟩:=H;refine wpIn_rangeFunc λfn _=>?_;have hs1:oV h (w.alloc (.deferred (some []))):=λb o hb=>by
  have:=hs b o hb;show(w.heap.push _)[b]? =some o;rw[Array.getElem?_push,if_neg (Nat.ne_of_lt (hs.lt hb))];exact this
 have hf1:Fr h w h (w.alloc (.deferred (some []))):=⟨rfl,rfl,rfl,lM _,by rw[World.size_alloc];omega,λb hb _=>by
  show(w.heap.push _)[b]? =_;rw[Array.getElem?_push,if_neg (Nat.ne_of_lt hb)],λ_ _ hn=>hn⟩
 have hfr:h (w.alloc (.deferred (some []))).heap.size=none:=hs1.fresh;have hsz:(w.alloc (.deferred (some []))).heap.size=w.heap.size+1:=World.size_alloc _ _;have hc:=H fn a.tmps (w.alloc (.deferred (some []))).heap.size w.heap.size (λp hp=>by obtain⟨t,_,rfl⟩:=pQ.1 hp;exact hm.slot t) hm.size hfr;have hn2:oV (h.set (w.alloc (.deferred (some []))).heap.size (.loop {state:=.ready,pending:=none,fn,tmps:=a.tmps,params:=ps,assign,body,defers:=w.heap.size})) ((w.alloc (.deferred (some []))).alloc (.loop {state:=.ready,pending:=none,fn,tmps:=a.tmps,params:=ps,assign,body,defers:=w.heap.size}))∧Fr h (w.alloc (.deferred (some []))) (h.set (w.alloc (.deferred (some []))).heap.size (.loop {state:=.ready,pending:=none,fn,tmps:=a.tmps,params:=ps,assign,body,defers:=w.heap.size})) ((w.alloc (.deferred (some []))).alloc (.loop {state:=.ready,pending:=none,fn,tmps:=a.tmps,params:=ps,assign,body,defers:=w.heap.size})):=hs1.new (.loop {state:=.ready,pending:=none,fn,tmps:=a.tmps,params:=ps,assign,body,defers:=w.heap.size});have g3:((w.alloc (.deferred (some []))).alloc (.loop {state:=.ready,pending:=none,fn,tmps:=a.tmps,params:=ps,assign,body,defers:=w.heap.size})).heap[w.heap.size]? =some (.deferred (some [])):=by
  show((w.heap.push _).push _)[w.heap.size]? =_;rw[Array.getElem?_push,if_neg (by simp),Array.getElem?_push,if_pos rfl]
 have g4:w.heap.size<((w.alloc (.deferred (some []))).alloc (.loop {state:=.ready,pending:=none,fn,tmps:=a.tmps,params:=ps,assign,body,defers:=w.heap.size})).heap.size:=by rw[World.size_alloc,World.size_alloc];omega
 have hent:(Instr.enterLoop fn a.tmps ps assign body none).run P w= .ok (w.heap.size+1,[aJX w.heap.size]) ((w.alloc (.deferred (some []))).alloc (.loop {state:=.ready,pending:=none,fn,tmps:=a.tmps,params:=ps,assign,body,defers:=w.heap.size})):=run_enterLoop_outer _ _ _ _ _;rw[hsz] at hc hn2;generalize (w.alloc (.deferred (some []))).alloc (.loop {state:=.ready,pending:=none,fn,tmps:=a.tmps,params:=ps,assign,body,defers:=w.heap.size})=w1 at hn2 g3 g4 hent;have hcw:=hc.calls he _ hn2.1;have heg:∀(args:Array Value) (w:World),(callFunc gf args).run P w= .ok (.enter gf args) w:=λargs w=>
  cD.run (h:=λ_=>none) (aHp he) (λ_ _ hb=>by cases hb)
 have hev:a.eval g= .func (.func gf) first captured:=by rw[hm.ev];exact hg
 have g2:(h.set (w.heap.size+1) (.loop {state:=.ready,pending:=none,fn,tmps:=a.tmps,params:=ps,assign,body,defers:=w.heap.size})) w.heap.size=none:=by
  unfold PH.set;rw[if_neg (by omega)];exact hs.fresh
 refine⟨w.heap.size+1,[aJX w.heap.size],w1,{target:=.fn (.func gf) captured,args:=first ++ #[.func (.yield (w.heap.size+1)) #[] #[]]},w1,gf,first ++ #[.func (.yield (w.heap.size+1)) #[] #[]]++captured,w1,?_,?_,?_,?_,?_,?_⟩
 ·exact hent
 ·simp only[resolve,rangeCall,hev];simp[Deferred.ofValue,Act.eval]
 ·intro f' _;trivial
 ·unfold invoke;exact heg _ _
 ·intro h;cases h
 ·refine aKK (hcw.mono λe w' hh=>?_);obtain⟨v,h',rfl,hse,hs',hf'⟩:=hh;obtain⟨jump,w4,h4,hrun,hj,hs4,hf4⟩:=hse.sound hs';have hf2:=hf'.trans hf4;have hfall:Fr h w h4 w4:=(hf1.trans hn2.2).trans hf2;have hD':aBF w0 (aJX w.heap.size::D) h4 w4:=by
   obtain⟨bs,b1,b2,b3⟩:=hD;refine⟨w.heap.size::bs,aF7.2 ⟨λhmem=>absurd (b3 _ hmem).2.1 (Nat.lt_irrefl _),b1⟩,by rw[b2];rfl,λb hb=>?_⟩;rcases iW.1 hb with rfl|hb
   ·exact⟨hf.size,aNn g4 hf2.size,hf2.none _ g4 g2,(hf2.far _ g4 g2).trans g3⟩
   ·obtain⟨c1,c2,c3,c4⟩:=b3 b hb;exact⟨c1,aNn c2 hfall.size,hfall.none b c2 c3,(hfall.far b c2 c3).trans c4⟩
  refine⟨jump,w4,hrun,?_⟩;have hm':zC n (aJX w.heap.size::D) ρ {a with defers:=[aJX w.heap.size]++a.defers}:=⟨by simp[hm.defers],hm.size,hm.slot⟩;unfold aV2 at hj;cases jump with
  | none=>exact⟨ρ,h4,_,hj,hm',hs4,hf.trans hfall,hD'⟩
  | some c=>
   cases c with
   | ret=>exact wpIn_ret ⟨ρ,h4,_,hj,hm',hs4,hf.trans hfall,hD'⟩
   | exit id=>
    obtain⟨p,hp,e1,e2⟩:=hj;obtain⟨id',_,rfl⟩:=pQ.1 hp;subst e1;exact wpIn_exit ⟨ρ,h4,_,e2,hm',hs4,hf.trans hfall,hD'⟩
   | _=>exact hj.elim
def qL.sound{r:Option Nat}{N:Nat}{P:Program}{ann:jY}{n:Nat}(hmix:P.follows .mixedOrders=true){h0:PH}{w0:World}:∀(c:Code) {Q:QH} {ρ:kS} {h:PH},xU P ann n c=true->(r=none∨qR c=true)->qL P ann c Q ρ h->
  ∀{D:List Deferred} {a:Act} {w:World},zC n D ρ a->oV h w->Fr h0 w0 h w->aBF w0 D h w->c.wpIn (aGS r) N P (QW n Q h0 w0) a w:=by
 intro c;induction c with
 | skip=>intro Q ρ h _ _ H D a w hm hs hf hD;exact wpIn_skip ⟨ρ,h,D,H,hm,hs,hf,hD⟩
 | region id ops d=>
  intro Q ρ h hb _ H D a w hm hs hf hD;cases d with
  | false=>
   refine wpIn_region ?_;rw[List.range_eq_range'];exact aX1 (λo ho=>Array.all_eq_true_iff_forall_mem.1 hb o ho) ops.size 0 ρ h a w (by omega) (by simpa[qL] using H) hm hs hf hD
  | true=>
   simp only[xU,sU] at hb;exact aW4 hmix (λo ho=>Array.all_eq_true_iff_forall_mem.1 hb.1 o ho) hb.2 H hm hs hf hD
 | seq x y ihx ihy=>
  intro Q ρ h hb hr H D a w hm hs hf hD;simp only[xU,sU] at hb;have hr':(r=none∨qR x=true)∧(r=none∨qR y=true):=by simp only[qR,sU] at hr;rcases hr with e|⟨e1,e2⟩;exact⟨.inl e,.inl e⟩;exact⟨.inr e1,.inr e2⟩
  refine wpIn_seq (wpIn_mono (ihx hb.1 hr'.1 H hm hs hf hD) λe a' w' ⟨ρ',h',D',hq,hm',hs',hf',hD'⟩=>?_);cases e with
  | normal=>exact ihy hb.2 hr'.2 hq hm' hs' hf' hD'
  | _=>exact⟨ρ',h',D',hq,hm',hs',hf',hD'⟩
 | cond c x y ihx ihy=>
  intro Q ρ h hb hr H D a w hm hs hf hD;simp only[xU,sU] at hb;have hr':(r=none∨qR x=true)∧(r=none∨qR y=true):=by simp only[qR,sU] at hr;rcases hr with e|⟨e1,e2⟩;exact⟨.inl e,.inl e⟩;exact⟨.inr e1,.inr e2⟩
  have he:a.eval c=ev ρ c:=by rw[hm.ev]
  unfold qL cQ at H;split at H
  ·rename_i hv;exact wpIn_cond_true (he.trans hv) (ihx hb.1 hr'.1 H hm hs hf hD)
  ·rename_i hv;exact wpIn_cond_false (he.trans hv) (ihy hb.2 hr'.2 H hm hs hf hD)
  ·exact H.elim
 | block id c ih=>
  intro Q ρ h hb hr H D a w hm hs hf hD;refine wpIn_block (wpIn_mono (ih hb hr H hm hs hf hD) λe a' w' ⟨ρ',h',D',hq,hm',hs',hf',hD'⟩=>?_);cases e with
  | exit id'=>
   simp only[Exit.inBlock,aH0] at hq ⊢;split
   ·rename_i e;rw[if_pos e] at hq;exact⟨ρ',h',D',hq,hm',hs',hf',hD'⟩
   ·rename_i e;rw[if_neg e] at hq;exact⟨ρ',h',D',hq,hm',hs',hf',hD'⟩
  | _=>exact⟨ρ',h',D',hq,hm',hs',hf',hD'⟩
 | loop c ih=>
  intro Q ρ h hb hr H D a w hm hs hf hD;obtain⟨I,μ,hI,hround⟩:=H;generalize ann.keep (sR c)=keep at *;refine aQf (λm a w=>∃ρ h D,I (keep.map ρ) h∧μ (keep.map ρ) h=m∧zC n D ρ a∧oV h w∧Fr h0 w0 h w∧aBF w0 D h w) (λm a w ⟨ρ,h,D,hI,hμ,hm,hs,hf,hD⟩=>?_) (n:=μ (keep.map ρ) h) ⟨ρ,h,D,hI,rfl,hm,hs,hf,hD⟩;refine wpIn_mono (ih hb hr (hround ρ h hI) hm hs hf hD) λe a' w' ⟨ρ',h',D',hq,hm',hs',hf',hD'⟩=>?_;cases e with
  | normal=>exact⟨_,hμ▸hq.2,ρ',h',D',hq.1,rfl,hm',hs',hf',hD'⟩
  | _=>exact⟨ρ',h',D',hq,hm',hs',hf',hD'⟩
 | exit id=>intro Q ρ h _ _ H D a w hm hs hf hD;exact wpIn_exit ⟨ρ,h,D,H,hm,hs,hf,hD⟩
 | scope c ih=>
  intro Q ρ h hb hr H D a w hm hs hf hD;refine aKW (wpIn_mono (ih hb hr H hm hs hf hD) λe a' w' ⟨ρ',h',D',hq,hm',hs',hf',hD'⟩=>?_);cases e with
  | goto l=>exact hq
  | _=>exact⟨ρ',h',D',hq,hm',hs',hf',hD'⟩
 | label l=>intro Q ρ h _ _ H D a w hm hs hf hD;exact wpIn_label ⟨ρ,h,D,H,hm,hs,hf,hD⟩
 | ret=>intro Q ρ h _ _ H D a w hm hs hf hD;exact wpIn_ret ⟨ρ,h,D,H,hm,hs,hf,hD⟩
 | rangeFunc f ps x y ih1 ih2=>
  intro Q ρ h hb hr H D a w hm hs hf hD;rcases hr with rfl|hr
  ·simp only[xU,beq_iff_eq] at hb;unfold qL at H;rw[hb] at H;exact aDv.sound H hm hs hf hD
  ·cases hr
 | goto l=>intro Q ρ h _ _ H;exact H.elim
 | refuse s=>intro Q ρ h _ _ H;exact H.elim
def aT6(P:Program)(l:Nat)(kv:cE):QH
 | .normal,_,h=>cN P (Instr.endRound l none) h kv
 | .ret,_,h=>cN P (Instr.endRound l (some .ret)) h kv
 | .exit id,_,h=>cN P (Instr.endRound l (some (.exit id))) h kv
 | _,_,_=>False
def aPf(P:Program)(ann:jY)(l:Nat)(assign body:Code)(kv:cE)(ρ:kS)(h:PH):Prop:=
 qL P ann assign (λe ρ h=>match e with
  | .normal=>cN P (Instr.beginRound l) h λ_ h'=>qL P ann body (aT6 P l kv) ρ h'
  | _=>False) ρ h
def aPf.next{P:Program}(ann:jY)(hmix:P.follows .mixedOrders=true){l:Nat}{f:FuncId}{tmps:Array Value}{assign body:Code}{kv:cE}{h:PH}
  (hA:(xU P ann tmps.size assign&&qR assign&&xU P ann tmps.size body&&qR body)=true) (H:aPf P ann l assign body kv (λt=>tmps.getD t undef) h):
  sH P (.round l f tmps assign body) h kv:=by
 simp only[sU] at hA;obtain⟨⟨⟨a1,a2⟩,a3⟩,a4⟩:=hA;intro w hs;refine roundIn_of_wpIn trivial (wpIn_mono (qL.sound (r:=some l) (D:=[]) hmix assign a1 (.inr a2) H ⟨rfl,rfl,λ_=>rfl⟩ hs (Fr.refl h w) (aBF.nil _ _ _)) λe a' w' ⟨ρ',h',D',hq,hm',hs',hf',hD'⟩=>?_);cases e with
 | normal=>
  obtain⟨u,w2,h2,hrun,hb,hs2,hf2⟩:=hq.sound hs';refine⟨w2,hrun,wpIn_mono (qL.sound (r:=some l) hmix body a3 (.inr a4) hb hm' hs2 (hf'.trans hf2) (hD'.step hf2)) λe a3 w3 ⟨ρ3,h3,D3,hq3,hm3,hs3,hf3,hD3⟩=>?_⟩;cases e with
  | normal=>obtain⟨v,w4,h4,hrun4,hk,hs4,hf4⟩:=cN.sound hq3 hs3;exact⟨v,w4,hrun4,v,h4,rfl,hk,hs4,hf3.trans hf4⟩
  | ret=>obtain⟨v,w4,h4,hrun4,hk,hs4,hf4⟩:=cN.sound hq3 hs3;exact⟨v,w4,hrun4,v,h4,rfl,hk,hs4,hf3.trans hf4⟩
  | exit id=>obtain⟨v,w4,h4,hrun4,hk,hs4,hf4⟩:=cN.sound hq3 hs3;exact⟨v,w4,hrun4,v,h4,rfl,hk,hs4,hf3.trans hf4⟩
  | _=>exact hq3.elim
 | _=>exact hq.elim
def aN8(P:Program)(ρ:kS)(h:PH):List ResultVar->(List Value->Prop)->Prop
 | [],k=>k []
 | .tmp t::rs,k=>aN8 P ρ h rs λvs=>k (ρ t::vs)
 | .cell a t::rs,k=>bY (cD P h (loadAt t (ρ a))) λv=>aN8 P ρ h rs λvs=>k (v::vs)
def aSC:List Value->Value
 | [v]=>v
 | vs=>.tuple vs.toArray
def aVg(P:Program)(fn:Func)(ρ:kS)(h:PH)(R:cE):Prop:=aN8 P ρ h fn.results.toList λvs=>R (aSC vs) h
def aSl(tmps:Array Value):ResultVar->Sem Value
 | .tmp t=>pure (tmps.getD t undef)
 | .cell x t=>do loadVar t (←asAddr (tmps.getD x undef))
def aN8.run{P:Program}{ρ:kS}{h:PH}{n:Nat}{D:List Deferred}{a:Act}{w:World}(hm:zC n D ρ a)(hs:oV h w):∀(l:List ResultVar) {k:List Value->Prop},aN8 P ρ h l k->
  ∃vs,k vs∧(l.mapM (m:=Sem) (aSl a.tmps)).run P w= .ok vs w:=by
 intro l;induction l with
 | nil=>intro k H;exact⟨[],H,rfl⟩
 | cons r rs ih=>
  intro k H;cases r with
  | tmp t=>
   obtain⟨vs,hk,hr⟩:=ih H;refine⟨_,hk,?_⟩;have h1:(aSl a.tmps (.tmp t)).run P w= .ok (ρ t) w:=by
    show(pure (a.tmps.getD t undef):Sem Value).run P w=_;rw[hm.slot];rfl
   rw[List.mapM_cons];simp only[Sem.run_bind,Sem.run_pure,Result.andThen_ok,h1,hr]
  | cell x t=>
   obtain⟨v,hv,H'⟩:=fD.1 H;obtain⟨vs,hk,hr⟩:=ih H';refine⟨_,hk,?_⟩;rw[List.mapM_cons];have h1:(aSl a.tmps (.cell x t)).run P w= .ok v w:=by
    have h2:=cD.run hv hs;show(do loadVar t (←asAddr (a.tmps.getD x undef)):Sem Value).run P w=_;rw[hm.slot];unfold loadAt Instr.sureAddr at h2;generalize ρ x=y at *;cases y with
    | pointer p=>cases p with
     | none=>exact absurd hv (by intro hc;cases hc)
     | some p=>exact h2
    | _=>exact absurd hv (by intro hc;cases hc)
   simp only[Sem.run_bind,Sem.run_pure,Result.andThen_ok,h1,hr]
def aTT{P:Program}{f:FuncId}{fn:Func}{c:Code}(ann:jY)(hmix:P.follows .mixedOrders=true)(hf:P.funcs[f]? =some fn)(hb:fn.body=some c)(hen:aDF P f=true)(hB:xU P ann fn.ntmps c=true)
  {args:Array Value} (hargs:args.size≤fn.ntmps) {h:PH} {R:cE}
  (H:qL P ann c (λe ρ h=>match e with
   | .normal | .ret=>aVg P fn ρ h R
   | _=>False) (λt=>args.getD t undef) h):bT P f args h R:=by
 refine .inl ⟨hen,λw hs=>(callsIn_wide (n:=0)).1 (callsIn_of_wp_marks hf hb trivial ?_)⟩;have hm:zC fn.ntmps [] (λt=>args.getD t undef) {tmps:=args++Array.replicate (fn.ntmps-args.size) undef,defers:=[]}:=by
  refine⟨rfl,by simp;omega,λt=>?_⟩;simp only[aFH,Array.getElem?_append,Array.getElem?_replicate];by_cases hlt:t<args.size
  ·simp[hlt]
  ·rw[if_neg hlt];have:args[t]? =none:=Array.getElem?_eq_none (by omega);rw[this];split<;>rfl
 refine wpIn_mono (qL.sound (r:=none) hmix c hB (.inl rfl) H hm hs (Fr.refl _ _) (aBF.nil w h w)) λe a' w' ⟨ρ',h',D',hq,hm',hs',hf',hD'⟩=>?_;have fin:∀(ds:List Deferred) (w':World),oV h' w'->Fr h w h' w'->aBF w ds h' w'->aVg P fn ρ' h' R->LeavesInM Fence.wide 0 P fn a'.tmps (λe w'=>∃v h',e= .returned v∧R v h'∧oV h' w'∧Fr h w h' w') ds .returning w':=by
  intro ds;induction ds with
  | nil=>
   intro w' hs' hf' _ hr;obtain⟨vs,hk,hrun⟩:=aN8.run hm' hs' fn.results.toList hr;refine⟨aSC vs,?_,_,h',rfl,hk,hs',hf'⟩;show((do let vs ←fn.results.mapM (aSl a'.tmps);pure (if h:vs.size=1 then vs[0] else .tuple vs):Sem Value)).run P w'=_;rw[Array.mapM_eq_mapM_toList];simp only[Sem.run_bind,Sem.run_map,Result.andThen_ok,hrun];simp only[Sem.run_pure];congr 1;cases vs with
   | nil=>rfl
   | cons v vs=>cases vs with
    | nil=>rfl
    | cons u us=>simp[aSC]
  | cons d ds ih=>
   intro w' hs' hf' hD' hr;obtain⟨bs,b1,b2,b3⟩:=hD';cases bs with
   | nil=>cases b2
   | cons b bs=>
    simp only[iG,kZ] at b2;obtain⟨rfl,rfl⟩:=b2;obtain⟨c1,c2,c3,c4⟩:=b3 b aNa;obtain⟨hnot,b1⟩:=aF7.1 b1;have hne:∀i,i≠b->(w'.putObj b (.deferred none)).heap[i]? =w'.heap[i]?:=λi hi=>by
     simp[World.putObj,Array.getElem?_setIfInBounds,Ne.symm hi]
    have hsz:(w'.putObj b (.deferred none)).heap.size=w'.heap.size:=by simp[World.putObj]
    refine⟨(by intro e;cases e),.inl ⟨b,_,rfl,run_takeDeferred c4,ih _ (λi o hi=>?_) ⟨hf'.os,hf'.tape,hf'.output,hf'.drawn,by rw[hsz];exact hf'.size,λi hi hn=>?_,hf'.none⟩ ⟨bs,b1,rfl,λi hi=>?_⟩ hr⟩⟩
    ·rw[hne i (λe=>by subst e;rw[c3] at hi;cases hi)];exact hs' i o hi
    ·rw[hne i (λe=>by subst e;omega)];exact hf'.far i hi hn
    ·obtain⟨e1,e2,e3,e4⟩:=b3 i (aHC _ hi);exact⟨e1,by rw[hsz];exact e2,e3,by rw[hne i (λe=>by subst e;exact hnot hi)];exact e4⟩
 have hfin:=fin D' w' hs' hf' hD';rw[←hm'.defers] at hfin;cases e with
 | normal=>exact hfin hq
 | ret=>exact hfin hq
 | _=>exact hq.elim
def yR:Code->List (Code×Code)
 | .seq x y=>yR x++yR y
 | .cond _ x y=>yR x++yR y
 | .block _ c=>yR c
 | .loop c=>yR c
 | .scope c=>yR c
 | .rangeFunc _ _ a b=>[(a,b)]
 | _=>[]
def aCH(fn:Func):Code:=fn.body.getD .skip
def aYI(P:Program)(fn:Func)(R:cE):QH:=λe ρ h=>match e with
 | .normal | .ret=>aVg P fn ρ h R
 | _=>False
def dU(h:PH)(k:PH->Prop):Prop:=k h
def yV(v:Value):Option Bool:=match v with
 | .bool b=>some b
 | _=>none
def gI(v:Value):Sem Value:=match v with
 | .pointer none | .nilIface | .nilFunc=>.halt (.stuck "nil")
 | .func (.method _) _ _=>.halt (.stuck "method")
 | x=>pure x
def fV(op:BinOp)(t:TypeId)(x y:Operand)(a b:Value):Sem Value:=do eqGuard op t x y a b;binOp op t a b
def cP(t:TypeId)(a x:Value):Sem Value:=do Instr.storeAt t a x;pure undef
def aJM(t:TypeId)(m k x:Value):Sem Value:=do Instr.mapUpdate t m k x;pure undef
def zI(P:Program)(f:Value)(args:Array Value)(h:PH)(kv:cE):Prop:=match f with
 | .func (.func f) first captured=>bT P f (first++args++captured) h kv
 | .func fn first captured=>cN P (invoke (.fn fn captured) (first++args)) h λn h'=>sH P n h' kv
 | _=>False
def dJ(P:Program)(t:TypeId):Array Value:=match P.info? t with
 | some i=>match i.zero with
  | some v=>v.cells
  | none=>#[]
 | none=>#[]
def aYP(P:Program)(ann:jY)(ih:Code->QH->kS->PH->Prop)(c:Code)(Q:QH)(ρ:kS)(h:PH):Prop:=match c with
 | .skip=>Q .normal ρ h
 | .region _ ops false=>aR5 P ops (Q .normal) ops.toList ρ h
 | .region id ops true=>aKg P ops (ann.b id) (Q .normal) [] (ann.ord id) ρ h
 | .seq x y=>ih x (aIp (ih y Q) Q) ρ h
 | .cond c x y=>cQ (ev ρ c) (ih x Q ρ h) (ih y Q ρ h)
 | .block id c=>ih c (aH0 id Q) ρ h
 | .loop c=>hC (ann.keep (sR c)) (λnext ρ h=>ih c (aIp (λρ' h'=>next ((ann.keep (sR c)).map ρ') h') Q) ρ h) ((ann.keep (sR c)).map ρ) h
 | .exit id=>Q (.exit id) ρ h
 | .ret=>Q .ret ρ h
 | .label _=>Q .normal ρ h
 | .scope c=>ih c (aLe Q) ρ h
 | .rangeFunc g ps assign body=>aDv P ann.n (ev ρ g) ps assign body (Q .normal ρ) (Q .ret ρ) ((aCN body).map λid=>(id,Q (.exit id) ρ)) ((ann.keep (sR body)).map λt=>(t,ρ t)) h
 | _=>False
noncomputable def aEA(P:Program)(ann:jY)(n:Nat):Code->QH->kS->PH->Prop:=Nat.rec (λ_ _ _ _=>False) (λ_ ih=>aYP P ann ih) n
def vD:Code->Nat
 | .seq x y=>max (vD x) (vD y)+1
 | .cond _ x y=>max (vD x) (vD y)+1
 | .block _ c=>vD c+1
 | .loop c=>vD c+1
 | .scope c=>vD c+1
 | _=>0
def aMX{P:Program}{ann:jY}:∀(c:Code) (n:Nat),vD c<n->aEA P ann n c=qL P ann c:=by
 intro c;induction c with
 | skip=>intro n hn;obtain⟨m,rfl⟩:∃m,n=m+1:=⟨n-1,by omega⟩;rfl
 | region id ops d=>intro n hn;obtain⟨m,rfl⟩:∃m,n=m+1:=⟨n-1,by omega⟩;cases d<;>rfl
 | seq x y ihx ihy=>
  intro n hn;obtain⟨m,rfl⟩:∃m,n=m+1:=⟨n-1,by omega⟩;simp only[vD] at hn;funext Q ρ h;show aEA P ann m x (aIp (aEA P ann m y Q) Q) ρ h=qL P ann x (aIp (qL P ann y Q) Q) ρ h;rw[ihx m (by omega),ihy m (by omega)]
 | cond c x y ihx ihy=>
  intro n hn;obtain⟨m,rfl⟩:∃m,n=m+1:=⟨n-1,by omega⟩;simp only[vD] at hn;funext Q ρ h;show cQ (ev ρ c) (aEA P ann m x Q ρ h) (aEA P ann m y Q ρ h)=cQ (ev ρ c) (qL P ann x Q ρ h) (qL P ann y Q ρ h);rw[ihx m (by omega),ihy m (by omega)]
 | block id c ih=>
  intro n hn;obtain⟨m,rfl⟩:∃m,n=m+1:=⟨n-1,by omega⟩;simp only[vD] at hn;funext Q ρ h;show aEA P ann m c (aH0 id Q) ρ h=qL P ann c (aH0 id Q) ρ h;rw[ih m (by omega)]
 | loop c ih=>
  intro n hn;obtain⟨m,rfl⟩:∃m,n=m+1:=⟨n-1,by omega⟩;simp only[vD] at hn;funext Q ρ h;show hC (ann.keep (sR c)) (λnext ρ h=>aEA P ann m c (aIp (λρ' h'=>next ((ann.keep (sR c)).map ρ') h') Q) ρ h) ((ann.keep (sR c)).map ρ) h=hC (ann.keep (sR c)) (λnext ρ h=>qL P ann c (aIp (λρ' h'=>next ((ann.keep (sR c)).map ρ') h') Q) ρ h) ((ann.keep (sR c)).map ρ) h;rw[ih m (by omega)]
 | scope c ih=>
  intro n hn;obtain⟨m,rfl⟩:∃m,n=m+1:=⟨n-1,by omega⟩;simp only[vD] at hn;funext Q ρ h;show aEA P ann m c (aLe Q) ρ h=qL P ann c (aLe Q) ρ h;rw[ih m (by omega)]
 | _=>intro n hn;obtain⟨m,rfl⟩:∃m,n=m+1:=⟨n-1,by omega⟩;rfl
noncomputable def aNI(P:Program)(ann:jY)(n l:Nat)(assign body:Code)(kv:cE)(ρ:kS)(h:PH):Prop:=
 aEA P ann n assign (λe ρ h=>match e with
  | .normal=>cN P (Instr.beginRound l) h λ_ h'=>aEA P ann n body (aT6 P l kv) ρ h'
  | _=>False) ρ h
def aOh{P:Program}(ann:jY)(n:Nat)(hmix:P.follows .mixedOrders=true){l m:Nat}{f:FuncId}{tmps:Array Value}{assign body:Code}{kv:cE}{h:PH}
  (hm:tmps.size=m) (hd:(decide (vD assign<n)&&decide (vD body<n))=true) (hA:(xU P ann m assign&&qR assign&&xU P ann m body&&qR body)=true) {X:Prop}
  (he:aNI P ann n l assign body kv (λt=>tmps.getD t undef) h=X) (H:X):sH P (.round l f tmps assign body) h kv:=by
 subst hm;rw[←he] at H;simp only[sU,decide_eq_true_eq] at hd;unfold aNI at H;rw[aMX _ _ hd.1] at H;rw[aMX _ _ hd.2] at H;exact aPf.next ann hmix hA H
def aUC{P:Program}{f:FuncId}{fn:Func}(ann:jY)(n:Nat)(hmix:P.follows .mixedOrders=true)(hf:P.funcs[f]? =some fn)(hen:aDF P f=true)(hb:fn.body.isSome=true)(hd:decide (vD (aCH fn)<n)=true)(hB:xU P ann fn.ntmps (aCH fn)=true)
  {args:Array Value} (hargs:args.size≤fn.ntmps) {h:PH} {R:cE} {X:Prop}
  (he:aEA P ann n (aCH fn) (aYI P fn R) (λt=>args.getD t undef) h=X) (H:X):bT P f args h R:=by
 obtain⟨c,hc⟩:=Option.isSome_iff_exists.1 hb;have e:aCH fn=c:=by unfold aCH;rw[hc];rfl
 rw[aMX _ _ (by simpa using hd)] at he;rw[e] at hB he;rw[←he] at H;exact aTT ann hmix hf hc hen hB hargs H
def eN{h:PH}{r:Nat}{o:Obj}:(h.set r o) r=some o:=by simp[PH.set]
def aAD{h:PH}{r b:Nat}{o:Obj}(hne:b≠r):(h.set r o) b=h b:=by simp[PH.set,hne]
def aXl{h:PH}{r b:Nat}{o:Obj}(hb:h b=some o)(hr:h r=none):b≠r:=by rintro rfl;rw[hr] at hb;cases hb
def aQs{h:PH}{r b:Nat}{o u:Obj}(hr:h r=none)(hb:h b=some u):(h.set r o) b=some u:=by rw[aAD (aXl hb hr)];exact hb
def cX(F:List Nat)(h h':PH):Prop:=∀b o,h b=some o->b∉F->h' b=some o
def cX.refl{F:List Nat}{h:PH}:cX F h h:=λ_ _ hb _=>hb
def cX.trans{F:List Nat}{h h1 h2:PH}(a:cX F h h1)(b:cX F h1 h2):cX F h h2:=λx o hx hn=>b x o (a x o hx hn) hn
def cX.mono{F G:List Nat}{h h':PH}(a:cX F h h')(hs:∀b,b∈F->b∈G∨h b=none):cX G h h':=λx o hx hn=>a x o hx λhm=>by
 rcases hs x hm with h1|h1
 ·exact hn h1
 ·rw[hx] at h1;cases h1
def cX.then{F F':List Nat}{h h1 h2:PH}(a:cX F h h1)(b:cX F' h1 h2)(hs:∀b,b∈F'->b∈F∨h b=none):cX F h h2:=λx o hx hn=>
 b x o (a x o hx hn) λhm=>by
  rcases hs x hm with h1|h1
  ·exact hn h1
  ·rw[hx] at h1;cases h1
def cX.new{F:List Nat}{h:PH}{r:Nat}{o:Obj}(hr:h r=none):cX F h (h.set r o):=λ_ _ hb _=>aQs hr hb
def cX.set{F:List Nat}{h:PH}{r:Nat}{o:Obj}(hr:r∈F):cX F h (h.set r o):=λb u hb hn=>by
 rw[aAD (by rintro rfl;exact hn hr)];exact hb
def cX.get{F:List Nat}{h h':PH}(a:cX F h h'){b:Nat}{o:Obj}(hb:h b=some o)(hn:b∉F):h' b=some o:=a b o hb hn
abbrev dA(h h':PH):Prop:=cX [] h h'
def dA.get{h h':PH}(a:dA h h'){b:Nat}{o:Obj}(hb:h b=some o):h' b=some o:=a b o hb (by simp)
def dA.upd{F:List Nat}{h h':PH}(a:dA h h'):cX F h h':=λb o hb _=>a b o hb (by simp)
def iO{α:Type}{v:α}{k:α->Prop}:bY (some v) k=k v:=(rfl)
def cR{h:PH}{k:PH->Prop}:dU h k=k h:=(rfl)
def aJe{A B:Prop}:cQ (.bool true) A B=A:=(rfl)
def aJG{A B:Prop}:cQ (.bool false) A B=B:=(rfl)
def aNT{b:Bool}{A B:Prop}:cQ (.bool b) A B=if b then A else B:=by cases b<;>rfl
def aNi{b:Bool}:yV (.bool b)=some b:=(rfl)
def aNd{X:(Value->PH->Prop)->Prop}{h:PH}{kv:cE}:eZ (some true) true X h kv=X kv:=(rfl)
def aRG{X:(Value->PH->Prop)->Prop}{h:PH}{kv:cE}:eZ (some false) false X h kv=X kv:=(rfl)
def aQ8{X:(Value->PH->Prop)->Prop}{h:PH}{kv:cE}:eZ (some true) false X h kv=kv undef h:=(rfl)
def aNg{X:(Value->PH->Prop)->Prop}{h:PH}{kv:cE}:eZ (some false) true X h kv=kv undef h:=(rfl)
def aN7{a b:Value}:eM (.bool true) a b=some a:=(rfl)
def aNm{a b:Value}:eM (.bool false) a b=some b:=(rfl)
def aM7{c:Bool}{a b:Value}:eM (.bool c) a b=some (if c then a else b):=by cases c<;>rfl
section
variable{P:Program}{h:PH}
def aJr{a:Addr}:cB P (gI (.pointer (some a)))=some (.pointer (some a)):=(rfl)
def aD6{f:Fn}{x y:Array Value}:cB P (Instr.makeFunc f x y)=some (.func f x y):=(rfl)
def aUM{t:TypeId}{k:IntKind}{a b:Int}:cB P (binOp .add t (.int k a) (.int k b))=some (.int k (k.wrap (a+b))):=by simp[binOp,Op.intArith,cB,pure]
def aKv{t:TypeId}{k:IntKind}{a b:Int}:cB P (binOp .sub t (.int k a) (.int k b))=some (.int k (k.wrap (a-b))):=by simp[binOp,Op.intArith,cB,pure]
def nU{t:TypeId}{k:IntKind}{a b:Int}:cB P (binOp .mul t (.int k a) (.int k b))=some (.int k (k.wrap (a*b))):=by simp[binOp,Op.intArith,cB,pure]
def aSx{t:TypeId}{k:IntKind}{a b:Int}:cB P (binOp .lss t (.int k a) (.int k b))=some (.bool (decide (a<b))):=by simp[binOp,Op.intCmp,cB,pure]
def aS1{t:TypeId}{k:IntKind}{a b:Int}:cB P (binOp .leq t (.int k a) (.int k b))=some (.bool (decide (a≤b))):=by simp[binOp,Op.intCmp,cB,pure]
def aPI{t:TypeId}{k:IntKind}{a b:Int}:cB P (binOp .gtr t (.int k a) (.int k b))=some (.bool (decide (b<a))):=by simp[binOp,Op.intCmp,cB,pure]
def aTs{t:TypeId}{k:IntKind}{a b:Int}:cB P (binOp .geq t (.int k a) (.int k b))=some (.bool (decide (b≤a))):=by simp[binOp,Op.intCmp,cB,pure]
def aKZ{t:TypeId}{k:IntKind}{a b:Int}(hb:b≠0):cB P (binOp .quo t (.int k a) (.int k b))=some (.int k (k.wrap (a.tdiv b))):=by simp[binOp,Op.intDiv,hb,cB,pure]
def aPt{t:TypeId}{k:IntKind}{a b:Int}(hb:b≠0):cB P (binOp .rem t (.int k a) (.int k b))=some (.int k (a.tmod b)):=by simp[binOp,Op.intDiv,hb,cB,pure]
def aXV{t:TypeId}{k k':IntKind}{a b:Int}(hb:0≤b):cB P (binOp .shl t (.int k a) (.int k' b))=some (.int k (k.wrap (a*2^(min b.toNat k.bits)))):=by
 have:¬b<0:=by omega
 simp[binOp,Op.shift,this,cB,pure]
def aP5{t:TypeId}{k k':IntKind}{a b:Int}(hb:0≤b):cB P (binOp .shr t (.int k a) (.int k' b))=some (.int k (a.fdiv (2^(min b.toNat k.bits)))):=by
 have:¬b<0:=by omega
 simp[binOp,Op.shift,this,cB,pure]
def aTL{b:Bool}:cB P (Op.unary .not (.bool b))=some (.bool (!b)):=(rfl)
def aLW{ts:Array TypeId}{t:TypeId}{k k':IntKind}{x y:Int}:cB P (Builtin.min_ ts t #[.int k x,.int k' y])=some (.int k (if y<x then y else x)):=(rfl)
def aLS{ts:Array TypeId}{t:TypeId}{k k':IntKind}{x y:Int}:cB P (Builtin.max_ ts t #[.int k x,.int k' y])=some (.int k (if x<y then y else x)):=by
 rfl
def aIe{a:Value}{l:List Value}:cB P (extract (.tuple ⟨a::l⟩) 0)=some a:=(rfl)
def aIo{a b:Value}{l:List Value}:cB P (extract (.tuple ⟨a::b::l⟩) 1)=some b:=(rfl)
def aOs{a b c:Value}{l:List Value}:cB P (extract (.tuple ⟨a::b::c::l⟩) 2)=some c:=(rfl)
def gA{t:TypeId}{x y:Operand}{k:IntKind}{a b:Int}:cD P h (fV .eql t x y (.int k a) (.int k b))=some (.bool (a==b)):=by
 simp[fV,eqGuard,binOp,Op.intCmp,cD,bind,Sem.bind,pure]
def eI{t:TypeId}{x y:Operand}{k:IntKind}{a b:Int}:cD P h (fV .neq t x y (.int k a) (.int k b))=some (.bool (a !=b)):=by
 simp[fV,eqGuard,binOp,Op.intCmp,cD,bind,Sem.bind,pure]
end
def aEK:TypeDesc->Bool
 | .struct _ | .array _ _=>false
 | _=>true
def kW(b o n:Nat):(⟨b,o,none⟩:Addr).add n=⟨b,o+n,none⟩:=by unfold Addr.add;split<;>simp_all
section
variable{P:Program}{h:PH}{t t' e:TypeId}
def jO{α:Type}{d:TypeDesc}(hu:P.underlying t=some d)(f:TypeDesc->Sem α):cD P h (underlying t >>= f)=cD P h (f d):=by
 show cD P h ((match P.underlying t with|some d=>pure d|none=>stuck _:Sem TypeDesc).bind f)=_;rw[hu];rfl
def yS{α:Type}{d:TypeDesc}(hu:P.underlying t=some d)(f:TypeDesc->Sem α):cB P (underlying t >>= f)=cB P (f d):=by
 show cB P ((match P.underlying t with|some d=>pure d|none=>stuck _:Sem TypeDesc).bind f)=_;rw[hu];rfl
def sO{α:Type}{d:TypeDesc}{Q:α->PH->Prop}(hu:P.underlying t=some d)(f:TypeDesc->Sem α):cN P (underlying t >>= f) h Q=cN P (f d) h Q:=by
 show cN P ((match P.underlying t with|some d=>pure d|none=>stuck _:Sem TypeDesc).bind f) h Q=_;rw[hu];rfl
def aVX{α:Type}{d:TypeDesc}(hu:P.underlying t=some d)(f:TypeDesc->Sem α):kC P (underlying t >>= f)=kC P (f d):=by
 show kC P ((match P.underlying t with|some d=>pure d|none=>stuck _:Sem TypeDesc).bind f)=_;rw[hu];rfl
def xZ{α:Type}{d:TypeInfo}(hu:P.info? t=some d)(f:TypeInfo->Sem α):cD P h (typeInfo t >>= f)=cD P h (f d):=by
 show cD P h ((match P.info? t with|some i=>pure i|none=>stuck _:Sem TypeInfo).bind f)=_;rw[hu];rfl
def aKX{α:Type}{d:TypeInfo}(hu:P.info? t=some d)(f:TypeInfo->Sem α):cB P (typeInfo t >>= f)=cB P (f d):=by
 show cB P ((match P.info? t with|some i=>pure i|none=>stuck _:Sem TypeInfo).bind f)=_;rw[hu];rfl
def qM{α:Type}{d:TypeInfo}{Q:α->PH->Prop}(hu:P.info? t=some d)(f:TypeInfo->Sem α):cN P (typeInfo t >>= f) h Q=cN P (f d) h Q:=by
 show cN P ((match P.info? t with|some i=>pure i|none=>stuck _:Sem TypeInfo).bind f) h Q=_;rw[hu];rfl
def lA{α:Type}(f:Nat->Sem α):(sizeOf t >>= f)=(typeInfo t >>= λi=>f i.size):=by
 show(sizeOf t).bind f=(typeInfo t).bind λi=>f i.size;unfold sizeOf;show((typeInfo t).bind λi=>Sem.pure i.size).bind f=_;rw[show ∀(s:Sem TypeInfo),(s.bind λi=>Sem.pure i.size).bind f=s.bind λi=>f i.size from λs=>by
  induction s with
  | pure a=>rfl
  | load m a k ih=>simp only[Sem.bind,ih]
  | store m a v k ih=>simp only[Sem.bind,ih]
  | new o k ih=>simp only[Sem.bind,ih]
  | shape r k ih=>simp only[Sem.bind,ih]
  | freeze a n k ih=>simp only[Sem.bind,ih]
  | frozen a k ih=>simp only[Sem.bind,ih]
  | getObj r k ih=>simp only[Sem.bind,ih]
  | setObj r o k ih=>simp only[Sem.bind,ih]
  | choose q k ih=>simp only[Sem.bind,ih]
  | sys c k ih=>simp only[Sem.bind,ih]
  | program k ih=>simp only[Sem.bind,ih]
  | mark m k ih=>simp only[Sem.bind,ih]
  | halt x=>rfl]
def aOQ{a:Option Addr}{n c:Nat}(hu:P.underlying t=some (.slice e)):cB P (Builtin.len_ #[t] t' #[.slice a n c])=some (.int .i64 n):=by
 show cB P (underlying t >>= _)=_;rw[yS hu];rfl
def uZ{s:ByteArray}(hu:P.underlying t=some .string):cB P (Builtin.len_ #[t] t' #[.string s])=some (.int .i64 s.size):=by
 show cB P (underlying t >>= _)=_;rw[yS hu];rfl
def aWQ{r:Nat}{es:Array MapEntry}{k v:TypeId}{c:Nat}(hu:P.underlying t=some (.map k v))(hr:h r=some (.map es c)):cD P h (Builtin.len_ #[t] t' #[.map (some r)])=some (.int .i64 es.size):=by
 show cD P h (underlying t >>= _)=_;rw[jO hu];show cD P h (getObj r >>= _)=_;simp[getObj,bind,Sem.bind,cD,hr,goInt,pure]
def aJz{α:Type}{d:TypeDesc}(hu:P.underlying t=some d)(f:Bool->Sem α):cD P h (isAgg t >>= f)=cD P h (f (!aEK d)):=by
 unfold isAgg;rw[bind_assoc,jO hu];cases d<;>rfl
def jK{d:TypeDesc}{a:Addr}(hu:P.underlying t=some d)(hd:aEK d=true):cD P h (loadAt t (.pointer (some a)))=cV h a:=by
 show cD P h (loadVar t a)=_;unfold loadVar;rw[aJz hu,hd];show(cV h a).bind (λv=>some v)=_;cases cV h a<;>rfl
def aKt{b o:Nat}{c:Array Value}{e:TypeId}{fr:Nat×Nat}(hb:h b=some (.cells c e fr)):∀(n i:Nat) (acc:Array Value),o+i+n≤c.size->
  cD P h (loadCellsFrom ⟨b,o,none⟩ i n acc)=some (acc++c.extract (o+i) (o+i+n)):=by
 intro n;induction n with
 | zero=>intro i acc _;simp[loadCellsFrom,cD,pure];omega
 | succ n ih=>
  intro i acc hle;show(cV h ((⟨b,o,none⟩:Addr).add i)).bind (λv=>cD P h (loadCellsFrom ⟨b,o,none⟩ (i+1) n (acc.push v)))=_;have hlt:o+i<c.size:=by omega
  have hc:cV h ((⟨b,o,none⟩:Addr).add i)=some c[o+i]:=by
   rw[kW];unfold cV;simp only[hb];simp[hlt]
  rw[hc,zY,ih (i+1) _ (by omega)];congr 1;apply zLw;simp only[Array.toList_append,Array.toList_push,zLD,uS,zLx];congr 1;rw[show o+i+(n+1)-(o+i)=n+1 from by omega,show o+(i+1)+n-(o+(i+1))=n from by omega,aAs (l:=c.toList) (i:=o+i) (by simpa using hlt),zLc];rfl
def aJK{b o n:Nat}{c:Array Value}{e:TypeId}{fr:Nat×Nat}(hb:h b=some (.cells c e fr))(hle:o+n≤c.size):cD P h (loadCells ⟨b,o,none⟩ n)=some (c.extract o (o+n)):=by
 have:=aKt (P:=P) hb n 0 #[] hle;simpa[loadCells] using this
def iI{α β:Type}{s:Sem α}{f:α->Sem β}:cD P h (s >>= f)=(cD P h s).bind λa=>cD P h (f a):=by
 show cD P h (s.bind f)=_;induction s with
 | pure a=>rfl
 | load m a k ih=>simp only[Sem.bind,cD,ih,Option.bind_assoc]
 | shape r k ih=>simp only[Sem.bind,cD,ih,Option.bind_assoc]
 | frozen a k ih=>simp only[Sem.bind,cD,ih,Option.bind_assoc]
 | getObj r k ih=>
  simp only[Sem.bind,cD];cases h r with
  | none=>rfl
  | some o=>cases o<;>first|rfl|exact ih _
 | program k ih=>exact ih P
 | mark m k ih=>exact ih
 | _=>rfl
def aAL{d:TypeDesc}{b o n:Nat}{c:Array Value}{e:TypeId}{fr:Nat×Nat}{i:TypeInfo}(hu:P.underlying t=some d)(hd:aEK d=false)(hi:P.info? t=some i)(hn:i.size=n)
  (hb:h b=some (.cells c e fr)) (hle:o+n≤c.size):cD P h (loadAt t (pT b o))=some (.agg (c.extract o (o+n))):=by
 show cD P h (loadVar t ⟨b,o,none⟩)=_;unfold loadVar;rw[aJz hu,hd];show cD P h (sizeOf t >>= λm=>loadCells ⟨b,o,none⟩ m >>= λcs=>(pure (Value.agg cs):Sem Value))=some (.agg (c.extract o (o+n)));rw[lA,xZ hi,hn,iI,aJK hb hle];rfl
def aHA{b o n len cap:Nat}{k:IntKind}{j:Int}{i:TypeInfo}(hu:P.underlying t=some (.slice e))(hi:P.info? e=some i)(hn:i.size=n)(h0:0≤j)(h1:j<len):
  cB P (indexAt t (.slice (some ⟨b,o,none⟩) len cap) (.int k j))=some (pT b (o+j.toNat*n)):=by
 show cB P (underlying t >>= _)=_;rw[yS hu];show cB P (underlying t >>= _)=_;rw[yS hu];simp only[h0,h1,and_self,if_true];rw[lA,aKX hi,hn,kW];rfl
end
def Rows(size:Nat)(rows:List (List Value)):Prop:=∀r∈rows,r.length=size
def Rows.flat{size:Nat}:∀{rows:List (List Value)},Rows size rows->rows.flatten.length=rows.length*size
 | [],_=>by simp
 | r::rs,h=>by
  have h1:=h r (by simp);have h2:=Rows.flat (rows:=rs) λx hx=>h x (by simp[hx]);simp only[aEU,jM,iU,h1,h2,zLF,Nat.one_mul];omega
def Rows.at{size:Nat}:∀{rows:List (List Value)},Rows size rows->∀{i:Nat} {r:List Value},rows[i]? =some r->(rows.flatten.drop (i*size)).take size=r
 | [],_,i,r,hi=>by simp at hi
 | x::xs,h,i,r,hi=>by
  have h1:=h x (by simp);cases i with
  | zero=>
   simp only[zLK,zL4] at hi;subst hi;simp[←h1]
  | succ i=>
   have h2:=Rows.at (rows:=xs) (λy hy=>h y (by simp[hy])) (i:=i) (r:=r) (by simpa using hi);rw[aEU,Nat.succ_mul,Nat.add_comm,←qK,←h1,List.drop_left,h1];exact h2
def Rows.append{size:Nat}{a b:List (List Value)}(ha:Rows size a)(hb:Rows size b):Rows size (a++b):=λr hr=>by
 rcases tK.1 hr with h|h
 ·exact ha r h
 ·exact hb r h
def Rows.take{size:Nat}{a:List (List Value)}(ha:Rows size a)(n:Nat):Rows size (a.take n):=λr hr=>ha r (List.mem_of_mem_take hr)
def Rows.drop{size:Nat}{a:List (List Value)}(ha:Rows size a)(n:Nat):Rows size (a.drop n):=λr hr=>ha r (List.mem_of_mem_drop hr)
def Rows.flat_take{size:Nat}:∀{rows:List (List Value)},Rows size rows->∀n,(rows.take n).flatten=rows.flatten.take (n*size)
 | [],_,n=>by simp
 | r::rs,h,0=>by simp
 | r::rs,h,n+1=>by
  have h1:=h r (by simp);have h2:=Rows.flat_take (rows:=rs) (λx hx=>h x (by simp[hx])) n;rw[zLc,aEU,aEU,h2,Nat.succ_mul,Nat.add_comm,←h1,List.take_length_add_append]
def Rows.flat_drop{size:Nat}:∀{rows:List (List Value)},Rows size rows->∀n,(rows.drop n).flatten=rows.flatten.drop (n*size)
 | [],_,n=>by simp
 | r::rs,h,0=>by simp
 | r::rs,h,n+1=>by
  have h1:=h r (by simp);have h2:=Rows.flat_drop (rows:=rs) (λx hx=>h x (by simp[hx])) n;rw[zLa,aEU,h2,Nat.succ_mul,Nat.add_comm,←h1,←qK,List.drop_left]
def xC:Nat:=9223372036854775807
structure iH(h:PH)(size:Nat)(v:Value)(rows:List (List Value)):Prop where
 ok:Rows size rows
 here:∃a c,v= .slice a rows.length c∧rows.length≤c∧c≤xC∧(rows≠[]->∃b o cs e fr,a=some ⟨b,o,none⟩∧h b=some (.cells cs e fr)∧o+rows.length*size≤cs.size∧(cs.extract o (o+rows.length*size)).toList=rows.flatten)∧True
structure eH(h:PH)(e:TypeId)(size:Nat)(v:Value)(rows:List (List Value))(F:List Nat):Prop where
 ok:Rows size rows
 here:(v= .slice none 0 0∧rows=[]∧F=[])∨∃b cap cs,v= .slice (some ⟨b,0,none⟩) rows.length cap∧F=[b]∧h b=some (.cells cs e (0,0))∧rows.length≤cap∧cap≤xC∧cs.size=cap*size∧cs.toList.take (rows.length*size)=rows.flatten
def eH.nil{h:PH}{e:TypeId}{size:Nat}:eH h e size (.slice none 0 0) [] []:=⟨λ_ h=>(by cases h),.inl ⟨rfl,rfl,rfl⟩⟩
def eH.slR{h:PH}{e:TypeId}{size:Nat}{v:Value}{rows:List (List Value)}{F:List Nat}(H:eH h e size v rows F):iH h size v rows:=by
 refine⟨H.ok,?_⟩;rcases H.here with⟨rfl,rfl,_⟩|⟨b,cap,cs,rfl,_,hb,hle,hm,hs,ht⟩
 ·exact⟨none,0,rfl,by simp,by simp,λh=>absurd rfl h,trivial⟩
 ·have hmul:rows.length*size≤cap*size:=zLO _ hle;exact⟨_,cap,rfl,hle,hm,λ_=>⟨b,0,cs,e,(0,0),rfl,hb,by omega,by simpa[zLx] using ht⟩,trivial⟩
def eH.upd{h h':PH}{e:TypeId}{size:Nat}{v:Value}{rows:List (List Value)}{F G:List Nat}(H:eH h e size v rows F)(u:cX G h h')(hd:∀b∈F,b∉G):eH h' e size v rows F:=by
 refine⟨H.ok,?_⟩;rcases H.here with h1|⟨b,cap,cs,hv,hF,hb,hrest⟩
 ·exact .inl h1
 ·exact .inr ⟨b,cap,cs,hv,hF,u.get hb (hd b (by simp[hF])),hrest⟩
def eH.known{h:PH}{e:TypeId}{size:Nat}{v:Value}{rows:List (List Value)}{F:List Nat}(H:eH h e size v rows F):∀b∈F,h b≠none:=by
 intro b hb;rcases H.here with⟨_,_,rfl⟩|⟨b',cap,cs,_,rfl,hb',_⟩
 ·cases hb
 ·simp only[iC] at hb;subst hb;rw[hb'];simp
def iH.upd{h h':PH}{size:Nat}{v:Value}{rows:List (List Value)}{G:List Nat}(H:iH h size v rows)(u:cX G h h')(hd:∀a n c,v= .slice (some a) n c->a.block∉G):iH h' size v rows:=by
 refine⟨H.ok,?_⟩;obtain⟨a,c,hv,h1,h2,h3,h4⟩:=H.here;refine⟨a,c,hv,h1,h2,λhne=>?_,h4⟩;obtain⟨b,o,cs,e,fr,ha,hb,hrest⟩:=h3 hne;exact⟨b,o,cs,e,fr,ha,u.get hb (hd ⟨b,o,none⟩ _ _ (ha▸hv)),hrest⟩
def iH.ext{h h':PH}{size:Nat}{v:Value}{rows:List (List Value)}(H:iH h size v rows)(u:dA h h'):iH h' size v rows:=H.upd u (by simp)
section
variable{P:Program}{h:PH}{t t' e:TypeId}
def iH.len{size:Nat}{v:Value}{rows:List (List Value)}(H:iH h size v rows)(hu:P.underlying t=some (.slice e)):cB P (Builtin.len_ #[t] t' #[v])=some (.int .i64 rows.length):=by
 obtain⟨a,c,rfl,_⟩:=H.here;exact aOQ hu
def iH.at{size:Nat}{v:Value}{rows:List (List Value)}(H:iH h size v rows){i:TypeInfo}(hu:P.underlying t=some (.slice e))(hi:P.info? e=some i)(hn:i.size=size){k:IntKind}{j:Int}{r:List Value}(h0:0≤j)(hr:rows[j.toNat]? =some r):
  ∃b o cs e' fr,cB P (indexAt t v (.int k j))=some (pT b o)∧h b=some (.cells cs e' fr)∧o+size≤cs.size∧(cs.extract o (o+size)).toList=r:=by
 have hlt:j.toNat<rows.length:=(zLA.1 hr).1;obtain⟨a,c,rfl,h1,h2,h3,_⟩:=H.here;obtain⟨b,o,cs,e',fr,rfl,hb,hle,hex⟩:=h3 (λh=>by rw[h] at hlt;simp at hlt);have hmul:(j.toNat+1)*size≤rows.length*size:=zLO _ hlt;rw[zLF,Nat.one_mul] at hmul;refine⟨b,o+j.toNat*size,cs,e',fr,aHA hu hi hn h0 (by omega),hb,by omega,?_⟩;have:=H.ok.at hr;rw[←hex] at this;rw[←this];simp only[zLD,zLx,zLy,qK,aI0];rw[show o+j.toNat*size+size-(o+j.toNat*size)=size from by omega];congr 1;omega
def iH.loadAgg{size:Nat}{v:Value}{rows:List (List Value)}(H:iH h size v rows){d:TypeDesc}{i:TypeInfo}(hu:P.underlying t=some (.slice e))(hi:P.info? e=some i)(hn:i.size=size)(he:P.underlying e=some d)(hd:aEK d=false)
  {k:IntKind} {j:Int} {r:List Value} (h0:0≤j) (hr:rows[j.toNat]? =some r):
  ∃a,cB P (indexAt t v (.int k j))=some (.pointer (some a))∧cD P h (loadAt e (.pointer (some a)))=some (.agg r.toArray):=by
 obtain⟨b,o,cs,e',fr,h1,hb,hle,hex⟩:=H.at hu hi hn (k:=k) h0 hr;refine⟨_,h1,?_⟩;rw[aAL he hd hi hn hb hle];congr 2;exact zLw hex
def iH.loadCell{v:Value}{rows:List (List Value)}(H:iH h 1 v rows){d:TypeDesc}{i:TypeInfo}(hu:P.underlying t=some (.slice e))(hi:P.info? e=some i)(hn:i.size=1)(he:P.underlying e=some d)(hd:aEK d=true)
  {k:IntKind} {j:Int} {x:Value} (h0:0≤j) (hr:rows[j.toNat]? =some [x]):
  ∃a,cB P (indexAt t v (.int k j))=some (.pointer (some a))∧cD P h (loadAt e (.pointer (some a)))=some x:=by
 obtain⟨b,o,cs,e',fr,h1,hb,hle,hex⟩:=H.at hu hi hn (k:=k) h0 hr;refine⟨_,h1,?_⟩;rw[jK he hd];unfold cV;simp only[hb];have hlt:o<cs.size:=by omega
 simp only[zLD,zLx,aCb] at hex;rw[aAs (by simpa using hlt)] at hex;simp only[zLc,zLd,kZ,and_true] at hex;simp[hlt];exact hex
end
def tU:Array Value->Nat->List Value->Array Value
 | c,_,[]=>c
 | c,o,v::vs=>tU (c.setIfInBounds o v) (o+1) vs
def aD5:∀(vs:List Value) (c:Array Value) (o:Nat),(tU c o vs).size=c.size
 | [],c,o=>rfl
 | v::vs,c,o=>by rw[tU,aD5 vs];simp
def aAm:∀(vs:List Value) (c:Array Value) (o:Nat),o+vs.length≤c.size->(tU c o vs).toList=c.toList.take o++vs++c.toList.drop (o+vs.length)
 | [],c,o,_=>by simp[tU]
 | v::vs,c,o,h=>by
  simp only[iU] at h;rw[tU,aAm vs _ _ (by simp;omega)];have hlt:o<c.toList.length:=by simp;omega
  have hlt':o<c.size:=by omega
  simp only[Array.toList_setIfInBounds,iU];rw[List.set_eq_take_append_cons_drop,if_pos hlt];have h1:(c.toList.take o++v::c.toList.drop (o+1)).take (o+1)=c.toList.take o++[v]:=by
   rw[List.take_append,lU,aG6 (by omega),aCb,sK (by simp;omega)];simp
  rw[h1];have:(c.toList.take o++v::c.toList.drop (o+1)).drop (o+1+vs.length)=c.toList.drop (o+(vs.length+1)):=by
   rw[List.drop_append,lU,aG6 (by omega),yQ (by simp;omega),zLU,
    show o+1+vs.length-o=vs.length+1 from by omega,zLa,qK]
   congr 1;omega
  rw[this];simp
section
variable{P:Program}{h:PH}{t t' t2 e:TypeId}
def vO{b o:Nat}{e:TypeId}{Q:Unit->PH->Prop}:∀(vs:List Value) (i:Nat) (h:PH) (c:Array Value),h b=some (.cells c e (0,0))->o+i+vs.length≤c.size->(∀v∈vs,fL v=true)->
  Q () (if vs=[] then h else h.set b (.cells (tU c (o+i) vs) e (0,0)))->cN P (storeCells ⟨b,o,none⟩ vs i) h Q
 | [],i,h,c,_,_,_,hq=>by
  show Q () h;simpa using hq
 | v::vs,i,h,c,hb,hle,hv,hq=>by
  simp only[iU] at hle;have hlt:o+i<c.size:=by omega
  have ha:(⟨b,o,none⟩:Addr).add i=⟨b,o+i,none⟩:=kW ..;show fL v=true∧tG h ((⟨b,o,none⟩:Addr).add i)=false∧(∃u,cV h ((⟨b,o,none⟩:Addr).add i)=some u)∧cN P (storeCells ⟨b,o,none⟩ vs (i+1)) (rJ h ((⟨b,o,none⟩:Addr).add i) v) Q;rw[ha];refine⟨hv v (by simp),by simp[tG,hb],⟨c[o+i],by simp[cV,hb,hlt]⟩,?_⟩;have hset:rJ h ⟨b,o+i,none⟩ v=h.set b (.cells (c.setIfInBounds (o+i) v) e (0,0)):=by
   funext x;unfold rJ PH.set;by_cases hx:x=b
   ·subst hx;simp[hb]
   ·simp[hx]
  rw[hset];refine vO vs (i+1) _ _ eN (by simp;omega) (λu hu=>hv u (by simp[hu])) ?_;have h2:∀o1 o2:Obj,(h.set b o1).set b o2=h.set b o2:=λo1 o2=>by funext x;unfold PH.set;split<;>rfl
  simp only[List.cons_ne_nil,if_false] at hq;split
  ·rename_i hvs;subst hvs;simpa[tU] using hq
  ·rw[h2];simpa[tU,Nat.add_assoc] using hq
def aDH{h:PH}{b:Nat}{o1 o2:Obj}:(h.set b o1).set b o2=h.set b o2:=by funext x;unfold PH.set;split<;>rfl
def lC{d:TypeDesc}{b o:Nat}{c:Array Value}{v:Value}{k:cE}(hu:P.underlying t=some d)(hd:aEK d=true)(hb:h b=some (.cells c e (0,0)))(ho:o<c.size)(hv:fL v=true){i:TypeInfo}(hi:P.info? t=some i)(hn:i.size=1)
  (hk:k undef (h.set b (.cells (c.setIfInBounds o v) e (0,0)))):cN P (cP t (pT b o) v) h k:=by
 have hc:v.cells= #[v]:=by cases v<;>first|rfl|cases hv
 show cN P (storeVar t ⟨b,o,none⟩ v >>= λ_=>pure undef) h k;unfold storeVar;rw[lA,bind_assoc,qM hi,hn,hc];simp only[List.size_toArray,iU,kV,iZ,ne_eq,not_true_eq_false,if_false];refine cN.bind (P:=P) (s:=storeCells ⟨b,o,none⟩ [v]) ?_;refine vO [v] 0 h c hb (by simp;omega) (by simp[hv]) ?_;show k undef (if [v]=[] then h else _);simpa[tU] using hk
def aN9{b o:Nat}{c:Array Value}{cs:Array Value}{k:cE}(hb:h b=some (.cells c e (0,0))){i:TypeInfo}(hi:P.info? t=some i)(hn:i.size=cs.size)(h0:0<cs.size)(ho:o+cs.size≤c.size)(hv:∀v∈cs.toList,fL v=true)
  (hk:k undef (h.set b (.cells (tU c o cs.toList) e (0,0)))):cN P (cP t (pT b o) (.agg cs)) h k:=by
 show cN P (storeVar t ⟨b,o,none⟩ (.agg cs) >>= λ_=>pure undef) h k;unfold storeVar;rw[lA,bind_assoc,qM hi,hn];simp only[Value.cells,ne_eq,not_true_eq_false,if_false];refine cN.bind (P:=P) (s:=storeCells ⟨b,o,none⟩ cs.toList) ?_;refine vO cs.toList 0 h c hb (by simpa using ho) hv ?_;have:cs.toList≠[]:=by intro h;simp at h;subst h;simp at h0
 show k undef (if cs.toList=[] then h else _);simpa[this] using hk
def aSA{c:Array Value}{vs:List Value}(h:vs.length=c.size):tU c 0 vs=vs.toArray:=by
 apply zLw;rw[aAm vs c 0 (by omega)];simp[h]
def aHi{a:Option Addr}{len cap l hh:Nat}{lo hi:Option Value}{i:TypeInfo}(hu:P.underlying t=some (.slice e))(hi':P.info? e=some i)
  (hlo:lo=none∧l=0∨∃k,lo=some (.int k l)) (hhi:hi=none∧hh=len∨∃k,hi=some (.int k hh)) (h1:l≤hh) (h2:hh≤cap):
  cB P (Instr.sliceAt t (.slice a len cap) lo hi none)=some (.slice (if cap=l then a else a.map (·.add (l*i.size))) (hh-l) (cap-l)):=by
 show cB P (underlying t >>= _)=_;rw[yS hu];show cB P (underlying t >>= _)=_;rw[yS hu];have hb:Instr.sliceBounds true len cap lo hi none=pure (l,hh,cap):=by
  have hcast:∀n m:Nat,n≤m->(0≤(n:Int)∧(n:Int)≤(m:Int)):=λn m h=>by omega
  rcases hlo with⟨rfl,rfl⟩|⟨k,rfl⟩<;>rcases hhi with⟨rfl,rfl⟩|⟨k',rfl⟩ <;>
   simp[Instr.sliceBounds,Instr.sliceBound,asIntOf,hcast,h1,h2]
 simp only[hb,pure_bind];rw[lA,aKX hi'];rfl
def iH.first{size:Nat}{v:Value}{rows:List (List Value)}(S:iH h size v rows):cD P h (Builtin.firstCells size rows.length v)=some rows.flatten.toArray:=by
 obtain⟨a,c,rfl,h1,h2,h3,_⟩:=S.here;by_cases hr:rows=[]
 ·subst hr;cases a with
  | none=>rfl
  | some a=>simp[Builtin.firstCells,loadCells,loadCellsFrom,cD,pure]
 ·obtain⟨b,o,cs,e',fr,rfl,hb,hle,hex⟩:=h3 hr;show cD P h (loadCells ⟨b,o,none⟩ (rows.length*size))=_;rw[aJK hb hle];congr 1;exact zLw (by simpa using hex)
def gZ{α β:Type}{s:Sem α}{f:α->Sem β}{a:α}{Q:β->PH->Prop}(hs:cD P h s=some a)(hq:cN P (f a) h Q):cN P (s >>= f) h Q:=
 cN.bind (P:=P) (s:=s) (f:=f) (cD.semH hs hq)
def aAn{α:Type}{q:Question}{f:Nat->Sem α}{Q:α->PH->Prop}:cN P (choose q >>= f) h Q= ∀t,cN P (f (if q.forced then 0 else q.cut t)) h Q:=rfl
def aH3{α:Type}{n:Nat}{f:Unit->Sem α}{Q:α->PH->Prop}:cN P (askRoom n >>= f) h Q=cN P (f ()) h Q:=by
 unfold askRoom;split<;>rfl
def aLZ:Value->Nat
 | .slice _ _ c=>c
 | _=>0
def lV{size bytes:Nat}{v x:Value}{rows ys:List (List Value)}{F:List Nat}{i:TypeInfo}{z:Value}{e2:TypeId}{k:cE}
  (hu:P.underlying t=some (.slice e)) (hu2:P.underlying t2=some (.slice e2)) (hi:P.info? e=some i) (hn:i.size=size) (hby:i.bytes=bytes) (hz:i.zero=some z) (hzs:z.cells.size=size) (hb0:0<bytes)
  (H:eH h e size v rows F) (S:iH h size x ys) (hcell:∀r∈ys,∀u∈r,fL u=true) (hl:(rows.length+ys.length)*bytes≤140737488355328)
  (hk:∀v' h' F',eH h' e size v' (rows++ys) F'->cX F h h'->(∀b∈F',b∈F∨h b=none)->aLZ v≤aLZ v'->k v' h'):cN P (Builtin.append_ #[t,t2] t' #[v,x]) h k:=by
 have hbig:rows.length+ys.length≤140737488355328:=zLE (Nat.le_mul_of_pos_right _ hb0) hl;obtain⟨xa,xc,hx,hx1,hx2,hx3,hx4⟩:=S.here;have hfirst:=S.first (P:=P);have hrows:Rows size (rows++ys):=H.ok.append S.ok;have hflat:∀u∈ys.flatten,fL u=true:=λu hu=>by
  obtain⟨r,hr,hur⟩:=List.mem_flatten.1 hu;exact hcell r hr u hur
 -- a new block
 have grown:∀(m:Nat),rows.length+ys.length≤m->m≤xC->aLZ v≤m->∀r,h r=none->
   k (.slice (some ⟨r,0,none⟩) (rows.length+ys.length) m) (h.set r (.cells (rows.flatten.toArray++ys.flatten.toArray++Builtin.zeroCells z.cells (m-(rows.length+ys.length))) e (0,0))):=by
  intro m hm hmax hcapv r hr;refine hk _ _ [r] ⟨hrows,.inr ⟨r,m,_,by rw[jM],rfl,eN,by simpa using hm,hmax,?_,?_⟩⟩ (cX.new hr) (λb hb=>.inr (by simp at hb;subst hb;exact hr)) hcapv
  ·simp only[Array.size_append,List.size_toArray,H.ok.flat,S.ok.flat,Builtin.zeroCells,Array.size_map,Array.size_range,hzs];rw[←zLF,←zLF];congr 1;omega
  ·have hlen:(rows++ys).length*size=(rows.flatten++ys.flatten).length:=by rw[jM,jM,H.ok.flat,S.ok.flat,zLF]
   simp only[Array.toList_append,hlen,zLG];rw[zLH (lM _),zLJ]
 obtain⟨va,vc,hv,hv1,hv2,_,_⟩:=H.slR.here;have hvfirst:=H.slR.first (P:=P);subst hx;subst hv;simp only[Builtin.append_,List.getElem?_toArray,zLK,zLL,sO hu,sO hu2,lA,qM hi,pure_bind,zLs,if_false,Builtin.lenOf,Bool.not_false,if_true,hn];by_cases hfit:rows.length+ys.length≤vc
 ·rw[if_pos hfit];refine gZ hfirst ?_;rcases H.here with⟨hv',hr,hF⟩|⟨b,cap,cs,hv',hF,hb,hle,hcap,hcs,htake⟩
  ·subst hr;simp only[kV,Value.slice.injEq,true_and] at hv';obtain⟨rfl,rfl⟩:=hv';have hy:ys=[]:=zLN (by omega);subst hy;exact hk _ _ [] (by simpa using eH.nil) cX.refl (by simp) (lM _)
  ·simp only[Value.slice.injEq,true_and] at hv';obtain⟨rfl,rfl⟩:=hv';have hmul:(rows.length+ys.length)*size≤vc*size:=zLO _ hfit;have hadd:(⟨b,0,none⟩:Addr).add (rows.length*size)=⟨b,0+rows.length*size,none⟩:=kW ..;show cN P (storeCells ((⟨b,0,none⟩:Addr).add (rows.length*size)) ys.flatten.toArray.toList >>= λ_=>pure _) h k;rw[hadd];refine cN.bind (P:=P) (s:=storeCells _ _) ?_;refine vO _ 0 h cs hb (by simp only[S.ok.flat,hcs];rw[zLF] at hmul;omega) (by simpa using hflat) ?_;show k _ _;simp only[iZ,zLP];have fin:∀cs':Array Value,cs'.size=cs.size->cs'.toList.take ((rows.length+ys.length)*size)=rows.flatten++ys.flatten->∀h':PH,h' b=some (.cells cs' e (0,0))->cX F h h'->
     k (.slice (some ⟨b,0,none⟩) (rows.length+ys.length) vc) h':=by
    intro cs' hsz htk h' hb' hu';refine hk _ _ [b] ⟨hrows,.inr ⟨b,vc,cs',by rw[jM],rfl,hb',by simpa using hfit,hcap,by rw[hsz,hcs],by rw[jM,htk,zLG]⟩⟩ hu' (λb' hb'=>.inl (hF▸hb')) (lM _)
   split
   ·rename_i hys;refine fin cs rfl ?_ h hb cX.refl;have:ys.length*size=0:=by rw[←S.ok.flat,hys];rfl
    rw[zLF,this,hys,zLQ,zLP];exact htake
   ·refine fin _ (aD5 _ _ _) ?_ _ eN (cX.set (by rw[hF];simp));have hlen:rows.length*size+ys.flatten.length≤cs.size:=by rw[S.ok.flat,←zLF,hcs];exact hmul
    rw[aAm _ _ _ hlen,htake];have hlen2:(rows.length+ys.length)*size=(rows.flatten++ys.flatten).length:=by rw[jM,H.ok.flat,S.ok.flat,zLF]
    rw[hlen2,zLH (lM _),zLJ]
 ·rw[if_neg hfit];have hlt:vc<rows.length+ys.length:=by omega
  have h63:¬(((rows.length+ys.length:Nat):Int)>IntKind.i64.max∧(False∨i.bytes=0)):=by
   rintro⟨_,hh⟩;rcases hh with hh|hh
   ·exact hh
   ·omega
  have hfits:¬(Builtin.nextslicecap (rows.length+ys.length) vc*i.bytes>2^48):=by
   rw[hby];have:=growslice_fits hlt hl;omega
  rw[qM hi,if_neg h63,qM hi,if_neg hfits,aAn];intro tt;rw[qM hi,aH3];refine gZ hvfirst (gZ hfirst ?_);have hzv:zeroValue e=(typeInfo e >>= λi=>match i.zero with|some v=>pure v|none=>unsupported (.resourceLimit "a value of more than 2^22 cells")):=rfl;rw[hzv,bind_assoc,qM hi,hz,pure_bind];have hcut:∀n m:Nat,n≤140737488355328->n≤(Question.appendCap n m e).cut tt∧(Question.appendCap n m e).cut tt≤xC:=by
   intro n m hn;have hpos:0<2^63-n:=by omega
   have:=zLB tt hpos;simp only[Question.cut,xC];omega
  have hforced:(Question.appendCap (rows.length+ys.length) vc e).forced=false:=rfl;rw[hforced];obtain⟨hc1,hc2⟩:=hcut (rows.length+ys.length) vc hbig;intro r hr;exact grown _ hc1 hc2 (show vc≤_ by omega) r hr
def aSq{a:Addr}{n:Nat}:(a.add n).block=a.block:=by unfold Addr.add;split<;>rfl
def iH.cut{size:Nat}{v:Value}{rows:List (List Value)}(H:iH h size v rows){i:TypeInfo}(hu:P.underlying t=some (.slice e))(hi':P.info? e=some i)(hn:i.size=size){lo hi:Option Value}{l m:Nat}
  (hlo:lo=none∧l=0∨∃k,lo=some (.int k l)) (hhi:hi=none∧m=rows.length∨∃k,hi=some (.int k m)) (h1:l≤m) (h2:m≤rows.length):
  ∃v',cB P (Instr.sliceAt t v lo hi none)=some v'∧iH h size v' ((rows.take m).drop l)∧∀x n c,v'= .slice (some x) n c->∃x0 n0 c0,v= .slice (some x0) n0 c0∧x.block=x0.block:=by
 obtain⟨a,c,rfl,hc1,hc2,hc3,hc4⟩:=H.here;refine⟨_,aHi hu hi' hlo hhi h1 (by omega),⟨(H.ok.take m).drop l,?_⟩,?_⟩
 ·have hlen:((rows.take m).drop l).length=m-l:=by simp;omega
  refine⟨_,_,by rw[hlen],by omega,by omega,λhne=>?_,trivial⟩
  ·have hpos:0<m-l:=by rw[←hlen];exact aJ6.2 hne
   have hne':rows≠[]:=λh=>by subst h;simp at hlen;omega
   obtain⟨b,o,cs,e',fr,rfl,hb,hle,hex⟩:=hc3 hne';have hm1:m*size≤rows.length*size:=zLO _ h2;have hm2:m*size=l*size+(m-l)*size:=by rw[←zLF];congr 1;omega
   refine⟨b,o+l*size,cs,e',fr,?_,hb,by rw[hlen];omega,?_⟩
   ·rw[if_neg (by omega),aKh,hn,kW]
   ·rw[hlen,(H.ok.take m).flat_drop,H.ok.flat_take,←hex];simp only[zLD,zLx];rw[aI0,aG6 (by omega),zLy,qK];congr 1;omega
 ·intro x n c' hv;simp only[Value.slice.injEq] at hv;have hx:=hv.1;split at hx
  ·exact⟨x,_,_,by rw[hx],rfl⟩
  ·obtain⟨y,hy,rfl⟩:=Option.map_eq_some_iff.1 hx;exact⟨y,_,_,by rw[hy],aSq⟩
end
section
variable{P:Program}{h:PH}{t t' t2 e:TypeId}
def aGm{b:Nat}{c:Array Value}{cs:Array Value}{k:cE}(hb:h b=some (.cells c e (0,0))){i:TypeInfo}(hi:P.info? t=some i)(hn:i.size=cs.size)(h0:0<cs.size)(ho:c.size=cs.size)(hv:∀v∈cs.toList,fL v=true)
  (hk:k undef (h.set b (.cells cs e (0,0)))):cN P (cP t (pT b 0) (.agg cs)) h k:=by
 refine aN9 hb hi hn h0 (by omega) hv ?_;rw[aSA (by simp[ho])];simpa using hk
def aTn{x y:Operand}{a:Option Addr}{n c:Nat}(hu:P.underlying t=some (.slice e)):cD P h (fV .eql t x y (.slice a n c) (.slice none 0 0))=some (.bool a.isNone):=by
 show cD P h (binOp .eql t (.slice a n c) (.slice none 0 0))=_;show cD P h (Op.equalIn Op.maxDepth t (.slice a n c) (.slice none 0 0) >>= λb=>(pure (Value.bool b):Sem Value))=_;rw[show Op.maxDepth=9999+1 from rfl];rw[iI];have:cD P h (Op.equalIn (9999+1) t (.slice a n c) (.slice none 0 0))=some a.isNone:=by
  rw[Op.equalIn];rw[jO hu];cases a<;>rfl
 rw[this];rfl
def yE{x y:Operand}{a:Option Addr}(hu:P.underlying t=some (.pointer e)):cD P h (fV .eql t x y (.pointer a) (.pointer none))=some (.bool a.isNone):=by
 show cD P h (binOp .eql t (.pointer a) (.pointer none))=_;have:cD P h (Op.equalIn (9999+1) t (.pointer a) (.pointer none))=some a.isNone:=by
  rw[Op.equalIn];rw[jO hu];cases a<;>rfl
 show cD P h (Op.equalIn Op.maxDepth t (.pointer a) (.pointer none) >>= λb=>(pure (Value.bool b):Sem Value))=_;rw[show Op.maxDepth=9999+1 from rfl,iI,this];rfl
def eH.mk'{b cap:Nat}{size:Nat}{rows:List (List Value)}{cs:Array Value}(hr:Rows size rows)(hb:h b=some (.cells cs e (0,0)))(hle:rows.length≤cap)(hm:cap≤xC)(hs:cs.size=cap*size)(ht:cs.toList.take (rows.length*size)=rows.flatten):
  eH h e size (.slice (some ⟨b,0,none⟩) rows.length cap) rows [b]:=⟨hr,.inr ⟨b,cap,cs,rfl,rfl,hb,hle,hm,hs,ht⟩⟩
def eH.lit{r n:Nat}{size:Nat}{rows:List (List Value)}{cs:Array Value}(hr:Rows size rows)(hb:h r=some (.cells cs e (0,0)))(hn:n=rows.length)(hm:n≤xC)(hcs:cs.toList=rows.flatten):eH h e size (.slice (some ⟨r,0,none⟩) n n) rows [r]:=by
 subst hn;have hsz:cs.size=rows.length*size:=by rw[←hr.flat,←hcs];simp
 refine eH.mk' hr hb (lM _) hm hsz ?_;rw[←hsz,hcs,sK];rw[←hcs];simp
def eH.write{size l:Nat}{v:Value}{rows ys:List (List Value)}{F:List Nat}(H:eH h e size v rows F)(hy:Rows size ys)(hle:l+ys.length≤rows.length){b n cap:Nat}{c:Array Value}(hv:v= .slice (some ⟨b,0,none⟩) n cap)(hb:h b=some (.cells c e (0,0))):
  eH (h.set b (.cells (tU c (l*size) ys.flatten) e (0,0))) e size v (rows.take l++ys++rows.drop (l+ys.length)) F:=by
 have hlen:(rows.take l++ys++rows.drop (l+ys.length)).length=rows.length:=by simp;omega
 refine⟨((H.ok.take l).append hy).append (H.ok.drop _),?_⟩;rcases H.here with⟨rfl,_,_⟩|⟨b',cap',cs,rfl,rfl,hb',h1,h2,h3,h4⟩
 ·cases hv
 ·simp only[Value.slice.injEq,zL4,Addr.mk.injEq,and_true] at hv;obtain⟨rfl,rfl,rfl⟩:=hv;rw[hb] at hb';cases hb';refine .inr ⟨b',cap',_,by rw[hlen],rfl,eN,by rw[hlen];exact h1,h2,by rw[aD5];exact h3,?_⟩;have m1:(l+ys.length)*size≤rows.length*size:=zLO _ hle;have m2:rows.length*size≤cap'*size:=zLO _ h1;rw[zLF] at m1;rw[hlen,aAm _ _ _ (by rw[hy.flat,h3];omega)];rw[zLG,zLG,H.ok.flat_take,H.ok.flat_drop,←h4,hy.flat];rw[aI0,aG6 (by omega)];rw[List.take_append];have e1:(List.take (l*size) c.toList++ys.flatten).length=l*size+ys.length*size:=by
   rw[jM,hy.flat,lU,aG6 (by simp[h3];omega)]
  rw[e1,sK (by omega),zLy,zLF]
def aUo{size l m n:Nat}{v d x:Value}{rows ys:List (List Value)}{F:List Nat}{i:TypeInfo}{k:cE}
  (hu:P.underlying t=some (.slice e)) (hi:P.info? e=some i) (hn:i.size=size)
  (H:eH h e size v rows F) (hd:∃k k',cB P (Instr.sliceAt t v (some (.int k l)) (some (.int k' m)) none)=some d) (hlm:l≤m) (hm:m≤rows.length) (S:iH h size x ys) (hcell:∀r∈ys,∀u∈r,fL u=true) (hnn:n=min ys.length (m-l))
  (hk:∀h',eH h' e size v (rows.take l++ys.take n++rows.drop (l+n)) F->cX F h h'->k (.int .i64 n) h'):cN P (Builtin.copy_ #[t,t2] t' #[d,x]) h k:=by
 obtain⟨kk,kk',hd⟩:=hd;obtain⟨xa,xc,hx,hx1,hx2,hx3,hx4⟩:=S.here;obtain⟨va,vc,hv,hv1,hv2,hv3,hv4⟩:=H.slR.here;rw[hv,aHi hu hi (.inr ⟨kk,rfl⟩) (.inr ⟨kk',rfl⟩) hlm (by omega)] at hd;simp only[zL4] at hd;subst hd;have hS:iH h size (.slice xa n xc) (ys.take n):=by
  have hl:(ys.take n).length=n:=by simp;omega
  refine⟨S.ok.take n,xa,xc,by rw[hl],by omega,hx2,λhne=>?_,hx4⟩;have hne':ys≠[]:=by rintro rfl;simp at hne
  obtain⟨b,o,cs,e',fr,ha,hb,hle,hex⟩:=hx3 hne';have hmul:n*size≤ys.length*size:=zLO _ (by omega);refine⟨b,o,cs,e',fr,ha,hb,by rw[hl];omega,?_⟩;rw[hl,S.ok.flat_take,←hex];simp only[zLD,zLx,aCb];rw[aI0,aG6 hmul]
 have hfirst:=hS.first (P:=P);have hlen:(ys.take n).length=n:=by simp;omega
 rw[hlen] at hfirst;subst hx;have hmin:Nat.min ys.length (m-l)=n:=hnn.symm;simp only[Builtin.copy_,List.getElem?_toArray,zLK,zLL,sO hu,lA,qM hi,pure_bind,Builtin.lenOf,hn,hmin];refine gZ (s:=Builtin.firstCells size n (.slice xa ys.length xc)) (a:=(ys.take n).flatten.toArray) ?_ ?_
 ·cases xa<;>exact hfirst
 ·by_cases hn0:n=0
  ·have hz:(ys.take n)=[]:=by rw[hn0];rfl
   have hsame:rows.take l++ys.take n++rows.drop (l+n)=rows:=by rw[hz,hn0];simp
   have fin:=hk h (by rw[hsame];exact H) cX.refl;rw[hz];split
   ·exact fin
   ·exact fin
  ·have hne:rows≠[]:=by rintro rfl;simp at hm;omega
   obtain⟨b,o,cs,e',fr,rfl,hb,hle,hex⟩:=hv3 hne;rcases H.here with⟨hv',_,_⟩|⟨b',cap',cs',hv',hF,hb',h1,h2,h3,h4⟩
   ·rw[hv] at hv';cases hv'
   ·rw[hv] at hv';simp only[Value.slice.injEq,zL4,Addr.mk.injEq,and_true,true_and] at hv';obtain⟨⟨rfl,rfl⟩,rfl⟩:=hv';rw[if_neg (by omega),aKh,kW];have aUI:∀u∈(ys.take n).flatten,fL u=true:=λu hu=>by
     obtain⟨r,hr,hur⟩:=List.mem_flatten.1 hu;exact hcell r (List.mem_of_mem_take hr) u hur
    have m1:(l+n)*size≤rows.length*size:=zLO _ (by omega);have m2:rows.length*size≤vc*size:=zLO _ h1;rw[zLF] at m1;have hflen:(ys.take n).flatten.length=n*size:=by rw[hS.ok.flat,hlen]
    refine cN.bind (P:=P) (s:=storeCells _ _) ?_;refine vO _ 0 h cs' hb' (by rw[hflen,h3];omega) aUI ?_;show k _ _;have hw:=H.write (l:=l) hS.ok (by rw[hlen];omega) hv hb';rw[hlen] at hw;split
    ·rename_i hys;have hys':(ys.take n).flatten=[]:=hys;rw[hys'] at hw;have hid:h.set b (.cells (tU cs' (l*size) []) e (0,0))=h:=by
      funext x;unfold PH.set tU;split
      ·rename_i e1;subst e1;exact hb'.symm
      ·rfl
     rw[hid] at hw;exact hk h hw cX.refl
    ·simp only[iZ,zLP,hn];exact hk _ hw (cX.set (by rw[hF];simp))
end
end
section
open Go Go.RowKit Go.ChangeShapes
def aE8(W:World):PH:=λb=>W.heap[b]?
def aSH(W:World):oV (aE8 W) W:=λ_ _ h=>h
structure aJF(W W':World):Prop where
 os:W'.os=W.os
 output:W'.output=W.output
 heap:∀b,b<W.heap.size->W'.heap[b]? =W.heap[b]?
def aSt{P:Program}{f:FuncId}{args:Array Value}{W:World}(H:bT P f args (aE8 W) λv h'=>v= .bool true∧dA (aE8 W) h')(he:aDF P f=true:=by kernel_rfl):
  Calls P f args W λe w'=>e= .returned (.bool true)∧aJF W w':=by
 refine(H.calls he W (aSH W)).mono ?_;rintro e w' ⟨v,h',rfl,⟨rfl,hx⟩,hs,hf⟩;refine⟨rfl,hf.os,hf.output,λb hb=>?_⟩;cases e:W.heap[b]? with
 | none=>simp at e;omega
 | some o=>exact hs b o (hx.get e)
def aJF.cell{W W':World}(K:aJF W W')(a:Addr)(h:a.block<W.heap.size):W'.cell? a=W.cell? a:=by
 unfold World.cell?;rw[K.heap _ h]
def aJF.frozen{W W':World}(K:aJF W W')(a:Addr)(h:a.block<W.heap.size):W'.frozen? a=W.frozen? a:=by
 unfold World.frozen?;rw[K.heap _ h]
def aJF.sameAt{W W':World}(K:aJF W W')(p:MemPlace)(h:p.block<W.heap.size):W.sameAt W' p:=by
 cases p with
 | cell b off=>exact K.cell _ h
 | map b=>exact K.heap _ h
def aJF.but{W W':World}(K:aJF W W')(may:MemPlace->Prop):W.keptBut W' may:=by
 refine⟨K.os,K.output,λi hi=>?_⟩;rw[K.heap i hi];cases W.heap[i]? with
 | none=>rfl
 | some o=>
  cases o with
  | cells c t fr=>exact⟨rfl,rfl,rfl,λ_ _=>rfl⟩
  | map es clock=>exact .inr ⟨rfl,rfl⟩
  | _=>rfl
def aKO{H:Type}{enc:TypeId×Value->H}{P:Program}{w w':World}{base:Nat}{spare:Nat->Bool}{held:Bool}:∀{ts:List TypeId} {vs:List Value} {ds:List (DataW H)} {ps:List MemPlace},
  DataW.TrodAll enc P w base spare held ts vs ds ps->(∀p∈ps,w.sameAt w' p)->DataW.TrodAll enc P w' base spare held ts vs ds ps
 | [],[],[],_,h,_=>h
 | _::_,_::_,_::_,_,⟨p,q,⟨n,h1⟩,h2,e⟩,hs=>⟨p,q,⟨n,DataW.trod_carry n _ _ _ h1 λx hx=>hs x (by rw[e];exact List.mem_append_left _ hx)⟩,aKO h2 (λx hx=>hs x (by rw[e];exact List.mem_append_right _ hx)),e⟩
def aQV{H:Type}{enc:TypeId×Value->H}{P:Program}{f:Func}{s:ChangeSpec}{apart fresh handsOn again:Bool}{W W':World}{args:Array Value}{ds gs:List (DataW H)}{before:List MemPlace}
  {T:TypeId->Prop} (KP:Kids P T) (full:∀t e,T t->P.underlying t=some (.slice e)->0<P.cellsOf e) (hT:∀t∈f.params.toList,T t) {tb:TypeId} (hb:P.underlying tb=some .bool) (hr:f.resultTypes= #[tb])
  (hs:s.vars=[]) (hW:DataW.Whole enc P f.params.toList s.vars apart W args.toList ds gs before) (hK:aJF W W')
  (e1:(s.fn H (ds++gs)).results=[.lit (.bool true)]) (e2:(s.fn H (ds++gs)).args=ds) (e3:(s.fn H (ds++gs)).vars=[]):
  s.post enc P f apart fresh handsOn again W args (.bool true) W':=by
 have hlt:=λp hp=>hW.lt p hp;have hW':=hW;obtain⟨pa,pv,hA,hV,rfl,hz,hn⟩:=hW';rw[hs] at hV;obtain⟨rfl,rfl⟩:=trodVars_none hV;simp only[zLQ] at *;have hargs:∀sp:Nat->Bool,(∀p∈pa,sp p.block=true)->DataW.TrodAll enc P W' 0 sp true f.params.toList args.toList ds pa:=λsp hsp=>
  aKO (DataW.TrodAll.respare KP full hT hA hsp) λp hp=>hK.sameAt p (hlt p hp)
 have hres:∀(b:Nat) (sp:Nat->Bool) (hd:Bool),DataW.TrodAll enc P W' b sp hd f.resultTypes.toList ((Value.bool true).resultList f.resultTypes.size) (s.fn H ds).results []:=λb sp hd=>by
  rw[e1,hr];exact trodAll_cons_mk (shut_bool hb _) trodAll_mk0
 have hvars:∀sp:Nat->Bool,DataW.TrodVars enc P W' sp s.vars (s.fn H ds).vars []:=λsp=>by rw[e3,hs];rfl
 have hold:∀p∈pa,(λb=>decide (b<W.heap.size)) p.block=true:=λp hp=>by simpa using hlt p hp
 refine⟨ds,[],pa,[],pa,[],hW,by simpa using hres _ _ _,by simpa[e2] using hargs _ hold,by simpa using hvars _,World.keptBut_mono (λp hp=>⟨hp,by simp[hp]⟩) (hK.but (· ∈pa)),λ_=>?_⟩;refine⟨ok_one hr rfl (okWide_bool_mk hb _),_,_,([]++pa)++[],⟨[]++pa,[],trodAll_append (hargs _ (λ_ _=>rfl)) (hres _ _ _),hvars _,rfl,?_,?_⟩,?_⟩
 ·intro b off hp;have hp':MemPlace.cell b off∈pa:=by simpa using hp
  rw[hK.frozen ⟨b,off,none⟩ (hlt _ hp')];exact hz b off hp'
 ·intro ha;simpa using hn ha
 ·intro p hp _;simpa using hp
variable{H:Type}{enc:TypeId×Value->H}{P:Program}{w:World}{spare:Nat->Bool}{held:Bool}
def Rd(enc:TypeId×Value->H)(P:Program)(w:World)(spare:Nat->Bool)(held:Bool)(t:TypeId)(cs:List Value):Prop:=∃n x,DataW.trod enc P w 0 spare held n t cs=some x
def aD1{t:TypeId}{k:IntKind}{cs:List Value}(ht:P.underlying t=some (.int k))(h:Rd enc P w spare held t cs):∃n,cs=[.int k n]∧(Lit.int k n).wf=true:=by
 obtain⟨n,x,h⟩:=h;obtain⟨i,rfl,_,hw⟩:=DataW.trod_int ht h;exact⟨i,rfl,hw⟩
def aWx{t:TypeId}{cs:List Value}(ht:P.underlying t=some .bool)(h:Rd enc P w spare held t cs):∃b,cs=[.bool b]:=by
 obtain⟨n,x,h⟩:=h;obtain⟨i,rfl,_⟩:=DataW.trod_bool ht h;exact⟨i,rfl⟩
def aTI{t:TypeId}{cs:List Value}(ht:P.underlying t=some .string)(h:Rd enc P w spare held t cs):∃s:ByteArray,cs=[.string s]∧s.size≤maxLen:=by
 obtain⟨n,x,h⟩:=h;obtain⟨i,rfl,_,hw⟩:=DataW.trod_string ht h;exact⟨i,rfl,hw⟩
def aGZ{t:TypeId}{fs:Array Field}{cs:List Value}(ht:P.underlying t=some (.struct fs))(h:Rd enc P w spare held t cs):
  cs.length=P.cellsOf t∧∀(i:Nat) (f:Field),fs[i]? =some f->Rd enc P w spare held f.type ((cs.drop f.offset).take (P.cellsOf f.type)):=by
 obtain⟨n,x,h⟩:=h;obtain⟨xs,m,rfl,_,hl,hx,hf⟩:=DataW.trod_struct ht h;refine⟨hl,λi f hi=>?_⟩;have h1:=hf i f hi;have hlt:i<xs.length:=by rw[hx];exact(aH2.1 hi).1
 rw[kF hlt] at h1;exact⟨m,_,h1⟩
def aVl{t e:TypeId}{n:Nat}{cs:List Value}(ht:P.underlying t=some (.array n e))(h:Rd enc P w spare held t cs):
  cs.length=P.cellsOf t∧∀i,i<n->Rd enc P w spare held e ((cs.drop (i*P.cellsOf e)).take (P.cellsOf e)):=by
 obtain⟨m,x,h⟩:=h;cases m with
 | zero=>simp[DataW.trod] at h
 | succ m=>
  unfold DataW.trod at h;rw[ht] at h;split at h<;>simp_all;obtain⟨hl,xs,hp,hd⟩:=h;intro i hi;have:=mapM_some_get hp i i (by simp[hi]);have hlt:i<xs.length:=by have:=mapM_some_length hp;simp at this;omega
  rw[kF hlt] at this;exact⟨m,_,this⟩
def aOx{w:World}{a:Addr}{v:Value}(h:w.cell? a=some v):∃c t fr,w.heap[a.block]? =some (.cells c t fr)∧a.spot=none∧c[a.off]? =some v:=by
 unfold World.cell? at h;split at h
 ·rename_i c t fr e;cases hs:a.spot with
  | none=>rw[hs] at h;exact⟨c,t,fr,e,rfl,by simpa using h⟩
  | some b=>rw[hs] at h;simp at h
 ·cases h
def aTS{a:Addr}(h:a.spot=none)(n:Nat):a.add n=⟨a.block,a.off+n,none⟩:=by
 obtain⟨b,o,s⟩:=a;simp only at h;subst h;exact kW b o n
def aMY{t e:TypeId}{cs:List Value}(ht:P.underlying t=some (.slice e))(hpos:0<P.cellsOf e)(h:Rd enc P w spare held t cs):
  ∃v rows,cs=[v]∧iH (aE8 w) (P.cellsOf e) v rows∧∀r∈rows,Rd enc P w spare held e r:=by
 obtain⟨n,x,h⟩:=h;rcases Go.Deep.open_slice ht h with⟨rfl,_⟩|⟨a,len,cap,m,k,D,Pl,rfl,hb,hl,hm,hmm,rfl,hx⟩
 ·exact⟨_,[],rfl,eH.nil (e:=e).slR,by simp⟩
 have hlm:len≤m:=by rw[hmm];split<;>omega
 obtain⟨R,hR⟩:=Go.Deep.choose_lt (α:=List Value) (n:=len) (p:=λi r=>w.cells? 0 (a.add (i*P.cellsOf e)) (P.cellsOf e)=some r∧Rd enc P w spare held e r) (λi hi=>by
  obtain⟨r,h1,h2⟩:=hx i (by omega);exact⟨r,h1,k,_,h2⟩)
 have hrows:Rows (P.cellsOf e) ((List.range len).map R):=λr hr=>by
  obtain⟨i,hi,rfl⟩:=pQ.1 hr;exact(World.cells?_some (hR i (aFM.1 hi)).1).2.1
 refine⟨_,(List.range len).map R,rfl,⟨hrows,some a,cap,by simp,by simpa using hl,hm,λhne=>?_,trivial⟩,λr hr=>?_⟩
 ·have hlen:0<len:=by
   rcases Nat.eq_zero_or_pos len with h0|h0
   ·subst h0;simp at hne
   ·exact h0
  have cell:∀i j,i<len->j<P.cellsOf e->w.cell? (a.add (i*P.cellsOf e+j))=(R i)[j]?:=λi j hi hj=>by
   rw[←Go.Deep.add_add];exact(World.cells?_some (hR i hi).1).2.2 j hj
  have hRl:∀i,i<len->(R i).length=P.cellsOf e:=λi hi=>(World.cells?_some (hR i hi).1).2.1;have c0:=cell 0 0 hlen hpos;rw[Nat.zero_mul,iZ,show a.add 0=a by simp[Addr.add],kF (by rw[hRl 0 hlen];exact hpos)] at c0;obtain⟨c,tt,fr,hh,hs,_⟩:=aOx c0;have at_:∀i j,i<len->j<P.cellsOf e->c[a.off+(i*P.cellsOf e+j)]? =(R i)[j]?:=λi j hi hj=>by
   have h1:=cell i j hi hj;rw[aTS hs] at h1;have hj':j<(R i).length:=by rw[hRl i hi];exact hj
   rw[kF hj'] at h1 ⊢;obtain⟨c',_,_,hh',_,h2⟩:=aOx h1;simp only[hh,zL4,Obj.cells.injEq] at hh';rw[←hh'.1] at h2;exact h2
  have hle:a.off+len*P.cellsOf e≤c.size:=by
   have h1:=at_ (len-1) (P.cellsOf e-1) (by omega) (by omega);have hj':P.cellsOf e-1<(R (len-1)).length:=by rw[hRl _ (by omega)];omega
   rw[kF hj'] at h1;have h2:=(aH2.1 h1).1;have h3:(len-1)*P.cellsOf e+P.cellsOf e=len*P.cellsOf e:=by rw[←Nat.succ_mul];congr 1;omega
   omega
  refine⟨a.block,a.off,c,tt,fr,by rw[←hs],hh,by simpa using hle,?_⟩;have hfl:=hrows.flat;simp only[iL,List.length_range] at hfl;apply aMH;intro q;by_cases hq:q<len*P.cellsOf e
  ·have hq1:q/P.cellsOf e<len:=Nat.div_lt_of_lt_mul (by rw[Nat.mul_comm];exact hq);have hq2:=zLB q hpos;have hq3:q/P.cellsOf e*P.cellsOf e+q%P.cellsOf e=q:=by rw[Nat.mul_comm];exact Nat.div_add_mod _ _
   have h1:=at_ _ _ hq1 hq2;rw[hq3] at h1;have h2:=hrows.at (i:=q/P.cellsOf e) (r:=R (q/P.cellsOf e)) (by simp[hq1]);have h3:((List.range len).map R).flatten[q]? =(R (q/P.cellsOf e))[q%P.cellsOf e]?:=by
    rw[←h2,List.getElem?_take_of_lt hq2,aJs,hq3]
   rw[h3,←h1,aLO,Array.getElem?_extract];simp only[iL,List.length_range];rw[if_pos (by omega)]
  ·rw[List.getElem?_eq_none (by rw[Array.length_toList,Array.size_extract];simp;omega),List.getElem?_eq_none (by omega)]
 ·obtain⟨i,hi,rfl⟩:=pQ.1 hr;exact(hR i (aFM.1 hi)).2
def aW9{r:Reach}{base:Nat}{t e:TypeId}{v:Value}{d:DataW H}{p:List MemPlace}(ht:P.underlying t=some (.slice e))(hpos:0<P.cellsOf e)(hval:Value.okWide P w r base t v)(hd:DataW.Trod enc P w 0 spare held t v d p):
  ∃rows,iH (aE8 w) (P.cellsOf e) v rows∧∀r∈rows,Rd enc P w spare held e r:=by
 obtain⟨a,n,c,rfl⟩:=Go.WideShapes.okWide_slice ht hval;obtain⟨k,hk⟩:=hd;obtain⟨v,rows,h1,h2,h3⟩:=aMY ht hpos ⟨k,_,hk⟩;obtain rfl:Value.slice a n c=v:=by simpa[Value.cells] using h1
 exact⟨rows,h2,h3⟩
end
section
open Go Go.RowKit Go.ChangeShapes
mutual
def aYg{H:Type}:DataW H->List Value
 | .lit (.int k n)=>[.int k n]
 | .agg parts=>aTh parts
 | _=>[]
def aTh{H:Type}:List (DataW H)->List Value
 | []=>[]
 | d::r=>aYg d++aTh r
end
end
section
open Go
section
variable{P:Program}{h:PH}{t e:TypeId}
def rH{d:Nat}{k k':IntKind}{a b:Int}(hu:P.underlying t=some (.int k')):cD P h (Op.equalIn (d+1) t (.int k a) (.int k b))=some (a==b):=by
 rw[Op.equalIn,jO hu];simp[cD,pure]
def aOg(a b:ByteArray):(a==b)=decide (a=b):=by
 obtain⟨x⟩:=a;obtain⟨y⟩:=b;show(x==y)=_;rw[xF];simp
def aL4{d:Nat}{a b:ByteArray}(hu:P.underlying t=some .string):cD P h (Op.equalIn (d+1) t (.string a) (.string b))=some (a==b):=by
 rw[Op.equalIn,jO hu];simp[cD,pure]
def aSQ{β:Type}{fs:List Field}{s0 s1:β}{body:Field->β->Sem (ForInStep β)}(g:Field->Bool)
  (hb:∀f∈fs,cD P h (body f s0)=some (if g f then .yield s0 else .done s1)):cD P h (forIn fs s0 body)=some (if fs.all g then s0 else s1):=by
 induction fs with
 | nil=>rfl
 | cons f fs ih=>
  rw[List.forIn_cons,iI,hb f (by simp)];cases hg:g f with
  | true=>simp only[if_true,zY,List.all_cons,hg,zLo];exact ih λx hx=>hb x (by simp[hx])
  | false=>simp[List.all_cons,hg,cD,pure]
def aAq{d:Nat}{fields:Array Field}{xs ys:Array Value}(hu:P.underlying t=some (.struct fields))(hs:P.stoodInHeld t=false)(g:Field->Bool)
  (hf:∀f∈fields.toList,f.name≠ "_" ∧∃a b,cD P h (part f.type xs f.offset)=some a∧cD P h (part f.type ys f.offset)=some b∧cD P h (Op.equalIn d f.type a b)=some (g f)):
  cD P h (Op.equalIn (d+1) t (.agg xs) (.agg ys))=some (fields.toList.all g):=by
 rw[Op.equalIn,jO hu];simp only[bind_pure_comp,pure_bind];have hp:∀{α:Type} (f:Program->Sem α),cD P h (program >>= f)=cD P h (f P):=λf=>rfl;have hp2:∀{α β:Type} (g:Program->β) (f:β->Sem α),cD P h ((g <$> program) >>= f)=cD P h (f (g P)):=λg f=>rfl
 first
  | rw[hp]
  | skip
 simp only[hs,zLs,if_false];rw[←Array.forIn_toList,iI,aSQ (s1:=⟨some false,()⟩) g]
 ·cases hx:fields.toList.all g<;>simp[cD,pure]
 ·intro f hfm;obtain⟨hn,a,b,ha,hb,hab⟩:=hf f hfm;simp only[ne_eq,hn,not_false_eq_true,if_true];rw[iI,ha,zY,iI,hb,zY,iI,hab,zY];cases g f<;>rfl
def aIY{x y:Operand}{xs ys:Array Value}{b:Bool}(hg:P.eqGuardType P.depth t=false)(he:cD P h (Op.equalIn (9999+1) t (.agg xs) (.agg ys))=some b):
  cD P h (fV .eql t x y (.agg xs) (.agg ys))=some (.bool b):=by
 show cD P h (eqGuard .eql t x y (.agg xs) (.agg ys) >>= λ_=>binOp .eql t (.agg xs) (.agg ys))=_;rw[iI];have:cD P h (eqGuard .eql t x y (.agg xs) (.agg ys))=some ():=by
  unfold eqGuard;show cD P h (if !P.eqGuardType P.depth t then pure () else _)=_;rw[hg];rfl
 rw[this,zY];show cD P h (Op.equalIn (9999+1) t (.agg xs) (.agg ys) >>= λb=>(pure (Value.bool b):Sem Value))=_;rw[iI,he];rfl
def aKd{x y:Operand}{xs ys:Array Value}{b:Bool}(hg:P.eqGuardType P.depth t=false)(he:cD P h (Op.equalIn (9999+1) t (.agg xs) (.agg ys))=some b):
  cD P h (fV .neq t x y (.agg xs) (.agg ys))=some (.bool (!b)):=by
 show cD P h (eqGuard .neq t x y (.agg xs) (.agg ys) >>= λ_=>binOp .neq t (.agg xs) (.agg ys))=_;rw[iI];have:cD P h (eqGuard .neq t x y (.agg xs) (.agg ys))=some ():=by
  unfold eqGuard;show cD P h (if !P.eqGuardType P.depth t then pure () else _)=_;rw[hg];rfl
 rw[this,zY];show cD P h (Op.equalIn (9999+1) t (.agg xs) (.agg ys) >>= λb=>(pure (Value.bool (!b)):Sem Value))=_;rw[iI,he];rfl
def iM{d:TypeDesc}{cs:Array Value}{o:Nat}{v:Value}(hu:P.underlying t=some d)(hd:aEK d=true)(hv:cs[o]? =some v):cD P h (part t cs o)=some v:=by
 unfold part;rw[aJz hu,hd];simp[hv,cD,pure]
def aAv{d:TypeDesc}{cs:Array Value}{o n:Nat}{i:TypeInfo}(hu:P.underlying t=some d)(hd:aEK d=false)(hi:P.info? t=some i)(hn:i.size=n):cD P h (part t cs o)=some (.agg (cs.extract o (o+n))):=by
 unfold part;rw[aJz hu,hd];simp only[Bool.not_false,if_true];rw[lA,xZ hi,hn];rfl
end
structure aLY(P:Program)(t:TypeId){α:Type}[DecidableEq α](enc:α->Value):Prop where
 chk:∀(h:PH) (b:Bool) (a:α),cD P h (Instr.checkKey b 10000 t (enc a))=some ()
 eq:∀(h:PH) (a b:α),cD P h (Op.equal t (enc a) (enc b))=some (decide (a=b))
 bits:∀a,Instr.sameBits 10000 (enc a) (enc a)=true
 now:∃kind,P.underlying t=some kind∧((∀a b,Instr.sameNow kind (enc a) (enc b)=none)∨∀a b,Instr.sameNow kind (enc a) (enc b)=some (decide (a=b)))
section
variable{P:Program}{h:PH}{t kt et:TypeId}{α:Type}[DecidableEq α]{enc:α->Value}
def aBO(enc:α->Value)(l:List (α×Value×Nat)):List MapEntry:=l.map λp=>⟨enc p.1,p.2.1,p.2.2⟩
def aBr(a:α):List (α×Value×Nat)->Nat->Option (Nat×Value)
 | [],_=>none
 | p::ps,i=>if a=p.1 then some (i,p.2.1) else aBr a ps (i+1)
def aKU(K:aLY P kt enc)(a:α):∀(l:List (α×Value×Nat)) (i:Nat),cD P h (Instr.findAsking kt (enc a) (aBO enc l) i)=some (aBr a l i)
 | [],i=>rfl
 | p::ps,i=>by
  show cD P h (Op.equal kt (enc a) (enc p.1) >>= _)=_;rw[iI,K.eq h a p.1];simp only[zY,aBr];by_cases e:a=p.1
  ·simp[e,cD,pure]
  ·simp only[e,decide_false,zLs,if_false];exact aKU K a ps (i+1)
def aMk{kind:TypeDesc}(hk:∀a b:α,Instr.sameNow kind (enc a) (enc b)=some (decide (a=b)))(a:α):∀(l:List (α×Value×Nat)) (i:Nat),Instr.findNow kind (enc a) (aBO enc l) i=some (aBr a l i)
 | [],i=>rfl
 | p::ps,i=>by
  show(match Instr.sameNow kind (enc a) (enc p.1) with|some true=>_|some false=>_|none=>_)=_;rw[hk];by_cases e:a=p.1
  ·simp[e,aBr]
  ·simp only[e,decide_false,aBr,if_false];exact aMk hk a ps (i+1)
def aPw{kind:TypeDesc}(hk:∀a b:α,Instr.sameNow kind (enc a) (enc b)=none)(a:α):∀(l:List (α×Value×Nat)) (i:Nat),Instr.findNow kind (enc a) (aBO enc l) i=none∨(l=[]∧Instr.findNow kind (enc a) (aBO enc l) i=some none)
 | [],i=>.inr ⟨rfl,rfl⟩
 | p::ps,i=>.inl (by
  show(match Instr.sameNow kind (enc a) (enc p.1) with|some true=>_|some false=>_|none=>_)=_;rw[hk])
def aJh(K:aLY P kt enc)(a:α)(l:List (α×Value×Nat)):cD P h (Instr.findKey kt (enc a) (aBO enc l))=some (aBr a l 0):=by
 obtain⟨kind,hu,hk⟩:=K.now;show cD P h (underlying kt >>= _)=_;rw[jO hu];rcases hk with hk|hk
 ·rcases aPw hk a l 0 with e|⟨rfl,e⟩
  ·rw[e];exact aKU K a l 0
  ·rw[e];rfl
 ·rw[aMk hk];rfl
def aMB(l:List (α×Value))(a:α):Option Value:=(l.find? λp=>decide (a=p.1)).map (·.2)
def aCu(l:List (α×Value)):List α:=l.map (·.1)
def aK5(l:List (α×Value))(a:α)(v:Value):List (α×Value):=if a∈aCu l then l.map (λp=>if p.1=a then(a,v) else p) else l++[(a,v)]
structure oU(enc:α->Value)(h:PH)(r:Nat)(l:List (α×Value)):Prop where
 nodup:(aCu l).Nodup
 here:∃es c L,h r=some (.map es c)∧es.toList=aBO enc L∧l=L.map (λp=>(p.1,p.2.1))∧(L.map (·.2.2)).Nodup∧∀p∈L,p.2.2<c
def oU.upd{h h':PH}{r:Nat}{l:List (α×Value)}{G:List Nat}(H:oU enc h r l)(u:cX G h h')(hd:r∉G):oU enc h' r l:=by
 obtain⟨es,c,L,h1,h2,h3⟩:=H.here;exact⟨H.nodup,es,c,L,u.get h1 hd,h2,h3⟩
def oU.ext{h h':PH}{r:Nat}{l:List (α×Value)}(H:oU enc h r l)(u:dA h h'):oU enc h' r l:=H.upd u (by simp)
def oU.known{h:PH}{r:Nat}{l:List (α×Value)}(H:oU enc h r l):h r≠none:=by
 obtain⟨es,c,L,h1,_⟩:=H.here;rw[h1];simp
def aO2(a:α):∀(L:List (α×Value×Nat)) (i:Nat),(aBr a L i).map (·.2)=aMB (L.map λp=>(p.1,p.2.1)) a
 | [],_=>rfl
 | p::ps,i=>by
  simp only[aBr,aMB,iG,List.find?_cons];by_cases e:a=p.1
  ·simp[e]
  ·simp only[e,if_false,decide_false];exact aO2 a ps (i+1)
def aMD(a:α):∀(L:List (α×Value×Nat)) (i:Nat),(∃q v,aBr a L i=some (i+q,v)∧(L.map (·.1))[q]? =some a∧a∈L.map (·.1))∨(aBr a L i=none∧a∉L.map (·.1))
 | [],_=>.inr ⟨rfl,by simp⟩
 | p::ps,i=>by
  by_cases e:a=p.1
  ·exact .inl ⟨0,p.2.1,by simp[aBr,e],by simp[e],by simp[e]⟩
  ·rcases aMD a ps (i+1) with⟨q,v,h1,h2,h3⟩|⟨h1,h2⟩
   ·exact .inl ⟨q+1,v,by simp only[aBr,e,if_false,h1];congr 2;omega,by simpa using h2,by simp at h3;simp[h3]⟩
   ·exact .inr ⟨by simp[aBr,e,h1],by simp only[iG,iW,e,false_or];exact h2⟩
def aTQ{i:TypeInfo}{z:Value}(hi:P.info? et=some i)(hz:i.zero=some z):cD P h (zeroValue et)=some z:=by
 show cD P h (typeInfo et >>= _)=_;rw[xZ hi];simp only[hz];rfl
def aQg{r:Nat}{es:Array MapEntry}{c:Nat}{β:Type}(hr:h r=some (.map es c))(f:Obj->Sem β):cD P h (getObj r >>= f)=cD P h (f (.map es c)):=by
 rw[iI];have:cD P h (getObj r)=some (.map es c):=by
  unfold getObj;simp only[cD,hr]
 rw[this];rfl
def aRw{r:Nat}{l:List (α×Value)}(K:aLY P kt enc)(hu:P.underlying t=some (.map kt et)){i:TypeInfo}{z:Value}(hi:P.info? et=some i)(hz:i.zero=some z)(H:oU enc h r l)(a:α)(ok:Bool):
  cD P h (Instr.lookup t (.map (some r)) (enc a) ok)=some (if ok then .tuple #[(aMB l a).getD z,.bool (aMB l a).isSome] else(aMB l a).getD z):=by
 obtain⟨es,c,L,h1,h2,rfl,hb1,hb2⟩:=H.here;show cD P h (underlying t >>= _)=_;rw[jO hu];show cD P h (((getObj r) >>= _) >>= _)=_;rw[iI,aQg h1];show cD P h (Instr.checkKey es.isEmpty 10000 kt (enc a) >>= _)=_;rw[iI,K.chk h _ a];simp only[zY];rw[h2];rw[iI,aJh K];simp only[zY];have hg:=aO2 a L 0;cases e:aBr a L 0 with
 | none=>
  rw[e] at hg;rw[←hg];simp only[iI,aTQ hi hz];cases ok<;>rfl
 | some q=>
  rw[e] at hg;rw[←hg];cases ok<;>rfl
def aD0{r:Nat}{es:Array MapEntry}{c:Nat}{β:Type}{Q:β->PH->Prop}(hr:h r=some (.map es c)){f:Obj->Sem β}(hq:cN P (f (.map es c)) h Q):cN P (getObj r >>= f) h Q:=by
 refine gZ (a:=.map es c) ?_ hq;unfold getObj;simp only[cD,hr]
def aBy{L:List (α×Value×Nat)}:aCu (L.map λp=>(p.1,p.2.1))=L.map (·.1):=by simp[aCu]
def aQ7{r:Nat}{l:List (α×Value)}(K:aLY P kt enc)(hu:P.underlying t=some (.map kt et))(H:oU enc h r l)(a:α)(v:Value){k:cE}
  (hk:∀h',oU enc h' r (aK5 l a v)->cX [r] h h'->k undef h'):cN P (aJM t (.map (some r)) (enc a) v) h k:=by
 obtain⟨es,c,L,h1,h2,rfl,hb1,hb2⟩:=H.here;have hnd:=H.nodup;rw[aBy] at hnd;show cN P (Instr.mapUpdate t (.map (some r)) (enc a) v >>= λ_=>pure undef) h k;refine cN.bind (P:=P) (s:=Instr.mapUpdate t (.map (some r)) (enc a) v) ?_;show cN P (underlying t >>= _) h _;rw[sO hu];refine aD0 h1 ?_;refine gZ (K.chk h false a) ?_;rw[h2];refine gZ (aJh K a L) ?_;rcases aMD a L 0 with⟨q,w,e1,e2,e3⟩|⟨e1,e2⟩
 ·rw[e1,iZ];have hq:es[q]? =some ⟨enc a,(L[q]?.map (·.2.1)).getD v,(L[q]?.map (·.2.2)).getD 0⟩:=by
   rw[←aLO,h2];rw[wG] at e2;obtain⟨p,hp,rfl⟩:=Option.map_eq_some_iff.1 e2;simp[aBO,wG,hp]
  show cN P (Instr.keyThatStays (((es[q]?).map (·.key)).getD (enc a)) (enc a) >>= _) h _;rw[hq];unfold Instr.keyThatStays;simp only[aKh,Option.getD_some,K.bits,if_true];show(∃u,h r=some u∧(∀c e f,u≠ .cells c e f))∧_;refine⟨⟨_,h1,by intros;simp⟩,?_⟩;show k undef _;have hbm:(L.map (λp=>if p.1=a then(a,v,p.2.2) else p)).map (·.2.2)=L.map (·.2.2):=by
   rw[zLZ];apply zL0;intro p _;simp only[Function.comp];split<;>rfl
  refine hk _ ⟨?_,_,c,L.map (λp=>if p.1=a then(a,v,p.2.2) else p),eN,?_,?_,by rw[hbm];exact hb1,λp hp=>?_⟩ (cX.set (by simp))
  ·have:aCu (aK5 (L.map λp=>(p.1,p.2.1)) a v)=L.map (·.1):=by
    unfold aK5;rw[aBy,if_pos e3];simp only[aCu,zLZ];apply zL0;intro p _;simp only[Function.comp];split
    ·rename_i h;exact h.symm
    ·rfl
   rw[this];exact hnd
  ·rw[Array.toList_modify,h2];apply aMH;intro j;rw[List.getElem?_modify];simp only[aBO,wG];rw[wG] at e2;obtain⟨p0,hp0,hp1⟩:=Option.map_eq_some_iff.1 e2;cases hj:L[j]? with
   | none=>simp
   | some p=>
    by_cases hjq:q=j
    ·subst hjq;rw[hp0] at hj;cases hj;simp[hp1]
    ·have hne:p.1≠a:=by
      intro hpa;have h3:(L.map (·.1))[j]? =(L.map (·.1))[q]?:=by rw[wG,wG,hj,hp0,aKh,aKh,hpa,hp1]
      have hjl:j<(L.map (·.1)).length:=by rw[iL];exact(zLA.1 hj).1
      exact hjq ((List.getElem?_inj hjl hnd).1 h3).symm
     simp[hjq,hne]
  ·unfold aK5;rw[aBy,if_pos e3];simp only[zLZ];apply zL0;intro p _;simp only[Function.comp];split<;>rfl
  ·obtain⟨q,hq,rfl⟩:=pQ.1 hp;have:=hb2 q hq;split<;>exact this
 ·rw[e1];show(∃u,h r=some u∧(∀c e f,u≠ .cells c e f))∧_;refine⟨⟨_,h1,by intros;simp⟩,?_⟩;show k undef _;refine hk _ ⟨?_,_,c+1,L++[(a,v,c)],eN,?_,?_,?_,?_⟩ (cX.set (by simp))
  ·unfold aK5;rw[aBy,if_neg e2];have:aCu (L.map (λp=>(p.1,p.2.1))++[(a,v)])=L.map (·.1)++[a]:=by simp[aCu]
   rw[this,List.nodup_append];refine⟨hnd,by simp,?_⟩;intro x hx y hy;simp only[iC] at hy;subst hy;rintro rfl;exact e2 hx
  ·rw[Array.toList_push,h2];simp[aBO]
  ·unfold aK5;rw[aBy,if_neg e2];simp
  ·rw[xJ,List.nodup_append];refine⟨hb1,by simp,?_⟩;intro x hx y hy;simp only[iG,jB,iC] at hy;subst hy;obtain⟨p,hp,rfl⟩:=pQ.1 hx;have:=hb2 p hp;omega
  ·intro p hp;rcases tK.1 hp with hp|hp
   ·have:=hb2 p hp;omega
   ·simp only[iC] at hp;subst hp;simp
def aSi:kC P (Instr.makeMap t none)=some (.map #[] 0,λr=>pure (.map (some r))):=rfl
def oU.new{r:Nat}:oU enc (h.set r (.map #[] 0)) r []:=⟨by simp[aCu],#[],0,[],eN,rfl,rfl,by simp,by simp⟩
end
section
variable{P:Program}{h:PH}{t t' t2 e:TypeId}
def oU.len{α:Type}[DecidableEq α]{enc:α->Value}{r:Nat}{l:List (α×Value)}(H:oU enc h r l){k v:TypeId}(hu:P.underlying t=some (.map k v)):cD P h (Builtin.len_ #[t] t' #[.map (some r)])=some (.int .i64 l.length):=by
 obtain⟨es,c,L,h1,h2,rfl,_⟩:=H.here;rw[aWQ hu h1];have:es.size=L.length:=by rw[←Array.length_toList,h2];simp[aBO]
 rw[this,iL]
end
section
variable{P:Program}{h:PH}{t t' t2 e:TypeId}
def jZ(b:UInt8):List Value:=[.int .u8 b.toNat]
def jZ.rows(l:List UInt8):Rows 1 (l.map jZ):=λr hr=>by
 obtain⟨m,_,rfl⟩:=pQ.1 hr;rfl
def jZ.isCell(l:List UInt8):∀r∈l.map jZ,∀u∈r,fL u=true:=λr hr u hu=>by
 obtain⟨m,_,rfl⟩:=pQ.1 hr;simp only[jZ,iW,zLg,or_false] at hu;subst hu;rfl
def jZ.flat(l:List UInt8):(l.map jZ).flatten=l.map λb=>Value.int .u8 b.toNat:=by
 induction l with
 | nil=>rfl
 | cons b bs ih=>simp[jZ,ih]
def aLo{body:Value->ByteArray->Sem (ForInStep ByteArray)}(hb:∀(b:UInt8) (s:ByteArray),body (.int .u8 b.toNat) s=pure (.yield (s.push b))):∀(l:List UInt8) (s:ByteArray),
  cD P h (forIn (l.map λb=>Value.int .u8 b.toNat) s body)=some ⟨s.data++l.toArray⟩
 | [],s=>by simp[cD,pure]
 | b::bs,s=>by
  rw[iG,List.forIn_cons,iI,hb];show cD P h (forIn (bs.map _) (s.push b) body)=_;rw[aLo hb bs (s.push b)];congr 1;apply ByteArray.ext;show(s.push b).data++bs.toArray=_;rw[ByteArray.data_push];apply zLw;simp
def aFQ{x:Value}{l:List UInt8}(hu:P.underlying t=some (.slice e))(he:P.underlying e=some (.int .u8))(hs:P.underlying t2=some .string)(S:iH h 1 x (l.map jZ)):
  cD P h (convert t t2 x)=some (.string ⟨l.toArray⟩):=by
 have hf:=S.first (P:=P);obtain⟨a,c,rfl,h1,h2,h3,h4⟩:=S.here;show cD P h (underlying t >>= _)=_;rw[jO hu];show cD P h (underlying t2 >>= _)=_;rw[jO hs];show cD P h (underlying e >>= _)=_;rw[jO he];simp only[iL,jZ.flat] at hf ⊢;show cD P h (Conv.bytesToString (.slice a l.length c))=_;unfold Conv.bytesToString;cases a with
 | none=>
  have:l=[]:=by
   by_cases h0:l=[]
   ·exact h0
   ·obtain⟨b,o,cs,e,fr,hh,_⟩:=h3 (by simpa using h0);cases hh
  subst this;rfl
 | some a=>
  have hf':cD P h (loadCells a l.length)=some (l.map λb=>Value.int .u8 b.toNat).toArray:=by
   have:Builtin.firstCells 1 l.length (.slice (some a) l.length c)=loadCells a (l.length*1):=rfl;rw[this,Nat.mul_one] at hf;exact hf
  show cD P h (loadCells a l.length >>= _)=_;rw[iI,hf',zY];rw[iI,←Array.forIn_toList,aLo]
  ·rw[zY];show some (Value.string _)=_;congr 2;apply ByteArray.ext;simp
  ·intro b s;simp
def iH.fields{size:Nat}{v:Value}{rows:List (List Value)}(H:iH h size v rows){i:TypeInfo}(hu:P.underlying t=some (.slice e))(hi:P.info? e=some i)(hn:i.size=size){k:IntKind}{j:Nat}{r:List Value}(hr:rows[j]? =some r):
  ∃b o,cB P (indexAt t v (.int k j))=some (pT b o)∧(∀q c,r[q]? =some c->cV h ⟨b,o+q,none⟩=some c)∧∀d,P.underlying e=some d->aEK d=false->cD P h (loadAt e (pT b o))=some (.agg r.toArray):=by
 obtain⟨b,o,cs,e',fr,h1,hb,hle,hex⟩:=H.at hu hi hn (k:=k) (j:=(j:Int)) (by omega) hr;refine⟨b,o,h1,λq c hq=>?_,λd he hd=>?_⟩
 ·have hql:q<size:=by
   have:=(zLA.1 hq).1
   rwa [H.ok r (zX hr)] at this
  unfold cV;simp only[hb];rw[←hex] at hq;simp only[zLD,zLx,aCb,aDn,aJs,hql,if_true] at hq;simpa using hq
 ·rw[aAL he hd hi hn hb hle];congr 2;exact zLw hex
end
section
variable{P:Program}{h:PH}{t e:TypeId}
def aQW{α β:Type}{fs:List α}{s0 s1:β}{body:α->β->Sem (ForInStep β)}(g:α->Bool)
  (hb:∀f∈fs,cD P h (body f s0)=some (if g f then .yield s0 else .done s1)):cD P h (forIn fs s0 body)=some (if fs.all g then s0 else s1):=by
 induction fs with
 | nil=>rfl
 | cons f fs ih=>
  rw[List.forIn_cons,iI,hb f (by simp)];cases hg:g f with
  | true=>simp only[if_true,zY,List.all_cons,hg,zLo];exact ih λx hx=>hb x (by simp[hx])
  | false=>simp[List.all_cons,hg,cD,pure]
def aNR{d n size:Nat}{xs ys:Array Value}{i:TypeInfo}(hu:P.underlying t=some (.array n e))(hi:P.info? e=some i)(hn:i.size=size)(g:Nat->Bool)
  (hf:∀j,j<n->∃a b,cD P h (part e xs (j*size))=some a∧cD P h (part e ys (j*size))=some b∧cD P h (Op.equalIn d e a b)=some (g j)):
  cD P h (Op.equalIn (d+1) t (.agg xs) (.agg ys))=some ((List.range n).all g):=by
 rw[Op.equalIn,jO hu];simp only[lA,xZ hi,hn];simp only[Std.Legacy.Range.forIn_eq_forIn_range',Std.Legacy.Range.size,Nat.sub_zero,Nat.add_sub_cancel,Nat.div_one];rw[iI,←List.range_eq_range',aQW (s1:=⟨some false,()⟩) g]
 ·cases hx:(List.range n).all g<;>simp[cD,pure]
 ·intro j hj;obtain⟨a,b,ha,hb,hab⟩:=hf j (aFM.1 hj);rw[iI,ha,zY,iI,hb,zY,iI,hab,zY];cases g j<;>rfl
def tJ{b o n len:Nat}{k:IntKind}{j:Int}{i:TypeInfo}(hu:P.underlying t=some (.array len e))(hi:P.info? e=some i)(hn:i.size=n)(h0:0≤j)(h1:j<len):
  cB P (indexAt t (pT b o) (.int k j))=some (pT b (o+j.toNat*n)):=by
 show cB P (underlying t >>= _)=_;rw[yS hu];show cB P (underlying t >>= _)=_;rw[yS hu];simp only[h0,h1,and_self,if_true];rw[lA,aKX hi,hn,kW];rfl
end
abbrev Tx:=List UInt8
def tx(l:List UInt8):ByteArray:=⟨l.toArray⟩
def aWA(s:ByteArray):tx s.data.toList=s:=by cases s;simp[tx]
def lJ(l:List UInt8):(tx l).size=l.length:=by simp[tx,ByteArray.size]
def aXh:tx []=⟨#[]⟩:=rfl
def aTW(a b:List UInt8):tx a++tx b=tx (a++b):=by
 apply ByteArray.ext;rw[ByteArray.data_append];simp[tx]
section
variable{P:Program}{h:PH}{t t' t2 e:TypeId}
def jW{a b:List UInt8}(hs:a.length+b.length≤9223372036854775807):cB P (binOp .add t (.string (tx a)) (.string (tx b)))=some (.string (tx (a++b))):=by
 show cB P (Op.stringOp .add (tx a) (tx b))=_;have:¬(((tx a).size+(tx b).size:Nat):Int)>IntKind.i64.max:=by
  rw[lJ,lJ];have:IntKind.i64.max=9223372036854775807:=rfl;omega
 simp only[Op.stringOp,this,if_false];rw[aTW];rfl
def kD{l:List UInt8}{i j:Nat}{lo hi:Option Value}(hu:P.underlying t=some .string)(hlo:lo=none∧i=0∨∃k,lo=some (.int k i))(hhi:hi=none∧j=l.length∨∃k,hi=some (.int k j))(h1:i≤j)(h2:j≤l.length):
  cB P (Instr.sliceAt t (.string (tx l)) lo hi none)=some (.string (tx ((l.take j).drop i))):=by
 show cB P (underlying t >>= _)=_;rw[yS hu];show cB P (underlying t >>= _)=_;rw[yS hu];have hb:Instr.sliceBounds false (tx l).size (tx l).size lo hi none=pure (i,j,(tx l).size):=by
  have hcast:∀n m:Nat,n≤m->(0≤(n:Int)∧(n:Int)≤(m:Int)):=λn m h=>by omega
  rw[lJ];rcases hlo with⟨rfl,rfl⟩|⟨k,rfl⟩<;>rcases hhi with⟨rfl,rfl⟩|⟨k',rfl⟩ <;>
   simp[Instr.sliceBounds,Instr.sliceBound,asIntOf,hcast,h1,h2]
 simp only[hb,pure_bind,zLv,zLs,if_false];show some (Value.string ((tx l).extract i j))=_;congr 2;apply ByteArray.ext;apply zLw;rw[ByteArray.data_extract];simp[tx,zLx,zLy]
def oB{l:List UInt8}{k:IntKind}{j:Nat}{b:UInt8}(hu:P.underlying t=some .string)(hb:l[j]? =some b):cB P (Instr.index t (.string (tx l)) (.int k j))=some (.int .u8 b.toNat):=by
 show cB P (underlying t >>= _)=_;rw[yS hu];have h0:(0:Int)≤(j:Int):=by omega
 simp only[h0,if_true,xK];have:(tx l)[j]? =some b:=by
  obtain⟨hlt,rfl⟩:=zLA.1 hb;have hs:j<(tx l).size:=by rw[lJ];exact hlt
  rw[getElem?_pos (tx l) j hs];congr 1
 rw[this];rfl
def aUx{l:List UInt8}(hu:P.underlying t=some .string)(hu2:P.underlying t2=some (.slice e))(he:P.underlying e=some (.int .u8))(hl:l.length≤140737488355328){k:cE}
  (hk:∀v h',iH h' 1 v (l.map jZ)->dA h h'->k v h'):cN P (convert t t2 (.string (tx l))) h k:=by
 show cN P (underlying t >>= _) h k;rw[sO hu];show cN P (underlying t2 >>= _) h k;rw[sO hu2];show cN P (underlying e >>= _) h k;rw[sO he];show cN P (choose (.appendCap (tx l).size 0 e) >>= _) h k;rw[aAn];intro tt;have hforced:(Question.appendCap (tx l).size 0 e).forced=false:=rfl;rw[hforced];have hcut:(tx l).size≤(Question.appendCap (tx l).size 0 e).cut tt∧(Question.appendCap (tx l).size 0 e).cut tt≤xC:=by
  rw[lJ];have hpos:0<2^63-l.length:=by omega
  have:=zLB tt hpos;simp only[Question.cut,xC];omega
 simp only[zLs,if_false];generalize (Question.appendCap (tx l).size 0 e).cut tt=cap at *;obtain⟨c1,c2⟩:=hcut;intro r hr;generalize hcs:((tx l).data.map λb=>Value.int .u8 b.toNat)++Array.replicate (cap-(tx l).size) (.int .u8 0)=cs;have hsz:cs.size=cap:=by rw[←hcs];simp[tx,ByteArray.size] at *;omega
 have u1:dA h (h.set r (.cells cs e)):=cX.new hr;show cN P (markStringish ⟨r,0,none⟩ >>= λ_=>pure (Value.slice (some ⟨r,0,none⟩) (tx l).size cap)) (h.set r (.cells cs e)) k;unfold markStringish;have hshape:jE (h.set r (.cells cs e)) r=some (some (e,cs.size)):=by unfold jE;rw[eN]
 show ∃s,jE (h.set r (.cells cs e)) r=some s∧_;refine⟨_,hshape,?_⟩;show(∃o,(h.set r (.cells cs e)) r=some o)∧_;refine⟨⟨_,eN⟩,?_⟩;show k (.slice (some ⟨r,0,none⟩) (tx l).size cap) (mF (h.set r (.cells cs e)) ⟨r,cs.size,none⟩ 1);have hf:mF (h.set r (.cells cs e)) ⟨r,cs.size,none⟩ 1=h.set r (.cells cs e (cs.size,cs.size+1)):=by
  funext b;unfold mF PH.set;simp only[Nat.one_ne_zero,if_false];by_cases hb:b=r
  ·subst hb;simp
  ·simp[hb]
 rw[hf];refine hk _ _ ⟨jZ.rows _,some ⟨r,0,none⟩,cap,by rw[lJ,iL],by rw[iL,←lJ];exact c1,c2,λ_=>⟨r,0,cs,e,_,rfl,eN,?_,?_⟩,trivial⟩ (cX.new hr)
 ·rw[iL,hsz,←lJ];omega
 ·rw[jZ.flat,iL];have e1:cs.toList=(l.map λb=>Value.int .u8 b.toNat)++List.replicate (cap-(tx l).size) (.int .u8 0):=by rw[←hcs];simp[tx]
  rw[zLD,zLx,e1];simp
def aMt{bytes:Nat}{v:Value}{rows:List (List Value)}{l:List UInt8}{F:List Nat}{i:TypeInfo}{z:Value}{k:cE}
  (hu:P.underlying t=some (.slice e)) (hu2:P.underlying t2=some .string) (hi:P.info? e=some i) (hn:i.size=1) (hby:i.bytes=bytes) (hz:i.zero=some z) (hzs:z.cells.size=1) (hb0:0<bytes)
  (H:eH h e 1 v rows F) (hl:(rows.length+l.length)*bytes≤140737488355328)
  (hk:∀v' h' F',eH h' e 1 v' (rows++l.map jZ) F'->cX F h h'->(∀b∈F',b∈F∨h b=none)->aLZ v≤aLZ v'->k v' h'):cN P (Builtin.append_ #[t,t2] t' #[v,.string (tx l)]) h k:=by
 generalize hys:l.map jZ=ys at *;have hyl:ys.length=l.length:=by rw[←hys,iL]
 have hSok:Rows 1 ys:=by rw[←hys];exact jZ.rows l
 have hcell:∀r∈ys,∀u∈r,fL u=true:=by rw[←hys];exact jZ.isCell l
 rw[←hyl] at hl;have hfirst:cD P h (Builtin.firstCells 1 ys.length (.string (tx l)))=some ys.flatten.toArray:=by
  show some (((tx l).extract 0 ys.length).data.map λb=>Value.int .u8 b.toNat)=_;rw[hyl,←hys,jZ.flat];congr 1;apply zLw;rw[ByteArray.data_extract];simp[tx,zLx]
 have hbig:rows.length+ys.length≤140737488355328:=zLE (Nat.le_mul_of_pos_right _ hb0) hl;have hrows:Rows 1 (rows++ys):=H.ok.append hSok;have hflat:∀u∈ys.flatten,fL u=true:=λu hu=>by
  obtain⟨r,hr,hur⟩:=List.mem_flatten.1 hu;exact hcell r hr u hur
 -- a new block
 have grown:∀(m:Nat),rows.length+ys.length≤m->m≤xC->aLZ v≤m->∀r,h r=none->
   k (.slice (some ⟨r,0,none⟩) (rows.length+ys.length) m) (h.set r (.cells (rows.flatten.toArray++ys.flatten.toArray++Builtin.zeroCells z.cells (m-(rows.length+ys.length))) e (0,0))):=by
  intro m hm hmax hcapv r hr;refine hk _ _ [r] ⟨hrows,.inr ⟨r,m,_,by rw[jM],rfl,eN,by simpa using hm,hmax,?_,?_⟩⟩ (cX.new hr) (λb hb=>.inr (by simp at hb;subst hb;exact hr)) hcapv
  ·simp only[Array.size_append,List.size_toArray,H.ok.flat,hSok.flat,Builtin.zeroCells,Array.size_map,Array.size_range,hzs];rw[←zLF,←zLF];congr 1;omega
  ·have hlen:(rows++ys).length*1=(rows.flatten++ys.flatten).length:=by rw[jM,jM,H.ok.flat,hSok.flat,zLF]
   simp only[Array.toList_append,hlen,zLG];rw[zLH (lM _),zLJ]
 obtain⟨va,vc,hv,hv1,hv2,_,_⟩:=H.slR.here;have hvfirst:=H.slR.first (P:=P);subst hv;simp only[Builtin.append_,List.getElem?_toArray,zLK,zLL,sO hu,sO hu2,lA,qM hi,pure_bind,zLs,if_false,Builtin.lenOf,Bool.not_false,if_true,hn,lJ,←hyl];by_cases hfit:rows.length+ys.length≤vc
 ·rw[if_pos hfit];refine gZ hfirst ?_;rcases H.here with⟨hv',hr,hF⟩|⟨b,cap,cs,hv',hF,hb,hle,hcap,hcs,htake⟩
  ·subst hr;simp only[kV,Value.slice.injEq,true_and] at hv';obtain⟨rfl,rfl⟩:=hv';have hy:ys=[]:=zLN (by omega);subst hy;exact hk _ _ [] (by simpa using eH.nil) cX.refl (by simp) (lM _)
  ·simp only[Value.slice.injEq,true_and] at hv';obtain⟨rfl,rfl⟩:=hv';have hmul:(rows.length+ys.length)*1≤vc*1:=zLO _ hfit;have hadd:(⟨b,0,none⟩:Addr).add (rows.length*1)=⟨b,0+rows.length*1,none⟩:=kW ..;show cN P (storeCells ((⟨b,0,none⟩:Addr).add (rows.length*1)) ys.flatten.toArray.toList >>= λ_=>pure _) h k;rw[hadd];refine cN.bind (P:=P) (s:=storeCells _ _) ?_;refine vO _ 0 h cs hb (by simp only[hSok.flat,hcs];rw[zLF] at hmul;omega) (by simpa using hflat) ?_;show k _ _;simp only[iZ,zLP];have fin:∀cs':Array Value,cs'.size=cs.size->cs'.toList.take ((rows.length+ys.length)*1)=rows.flatten++ys.flatten->∀h':PH,h' b=some (.cells cs' e (0,0))->cX F h h'->
     k (.slice (some ⟨b,0,none⟩) (rows.length+ys.length) vc) h':=by
    intro cs' hsz htk h' hb' hu';refine hk _ _ [b] ⟨hrows,.inr ⟨b,vc,cs',by rw[jM],rfl,hb',by simpa using hfit,hcap,by rw[hsz,hcs],by rw[jM,htk,zLG]⟩⟩ hu' (λb' hb'=>.inl (hF▸hb')) (lM _)
   split
   ·rename_i hys;refine fin cs rfl ?_ h hb cX.refl;have:ys.length*1=0:=by rw[←hSok.flat,hys];rfl
    rw[zLF,this,hys,zLQ,zLP];exact htake
   ·refine fin _ (aD5 _ _ _) ?_ _ eN (cX.set (by rw[hF];simp));have hlen:rows.length*1+ys.flatten.length≤cs.size:=by rw[hSok.flat,←zLF,hcs];exact hmul
    rw[aAm _ _ _ hlen,htake];have hlen2:(rows.length+ys.length)*1=(rows.flatten++ys.flatten).length:=by rw[jM,H.ok.flat,hSok.flat,zLF]
    rw[hlen2,zLH (lM _),zLJ]
 ·rw[if_neg hfit];have hlt:vc<rows.length+ys.length:=by omega
  have h63:¬(((rows.length+ys.length:Nat):Int)>IntKind.i64.max∧(False∨i.bytes=0)):=by
   rintro⟨_,hh⟩;rcases hh with hh|hh
   ·exact hh
   ·omega
  have hfits:¬(Builtin.nextslicecap (rows.length+ys.length) vc*i.bytes>2^48):=by
   rw[hby];have:=growslice_fits hlt hl;omega
  rw[qM hi,if_neg h63,qM hi,if_neg hfits,aAn];intro tt;rw[qM hi,aH3];refine gZ hvfirst (gZ hfirst ?_);have hzv:zeroValue e=(typeInfo e >>= λi=>match i.zero with|some v=>pure v|none=>unsupported (.resourceLimit "a value of more than 2^22 cells")):=rfl;rw[hzv,bind_assoc,qM hi,hz,pure_bind];have hcut:∀n m:Nat,n≤140737488355328->n≤(Question.appendCap n m e).cut tt∧(Question.appendCap n m e).cut tt≤xC:=by
   intro n m hn;have hpos:0<2^63-n:=by omega
   have:=zLB tt hpos;simp only[Question.cut,xC];omega
  have hforced:(Question.appendCap (rows.length+ys.length) vc e).forced=false:=rfl;rw[hforced];obtain⟨hc1,hc2⟩:=hcut (rows.length+ys.length) vc hbig;intro r hr;exact grown _ hc1 hc2 (show vc≤_ by omega) r hr
end
def aP3{α:Type}{p:List α->Prop}(h0:p [])(hs:∀l a,p l->p (l++[a]))(l:List α):p l:=by
 rw[←List.reverse_reverse l];induction l.reverse with
 | nil=>exact h0
 | cons a l ih=>rw[List.reverse_cons];exact hs _ _ ih
def lG(l:List UInt8):Nat:=l.foldl (λa b=>a*256+b.toNat) 0
def aJ2(l:List UInt8)(b:UInt8):lG (l++[b])=lG l*256+b.toNat:=by simp[lG]
def be(n:Nat):Nat->List UInt8
 | 0=>[]
 | k+1=>be (n/256) k++[UInt8.ofNat (n%256)]
def hY(n k:Nat):(be n k).length=k:=by
 induction k generalizing n with
 | zero=>rfl
 | succ k ih=>simp[be,ih]
def aXA(n k:Nat):lG (be n k)=n%256^k:=by
 induction k generalizing n with
 | zero=>simp[be,lG];omega
 | succ k ih=>
  rw[be,aJ2,ih];have:(UInt8.ofNat (n%256)).toNat=n%256:=by simp
  rw[this,Nat.pow_succ,Nat.mul_comm (256^k) 256,Nat.mod_mul];omega
def aJY(l:List UInt8):lG l<256^l.length:=by
 refine aP3 (p:=λl=>lG l<256^l.length) (by simp[lG]) (λl b ih=>?_) l
 ·rw[aJ2,jM,List.length_singleton,Nat.pow_succ];have:=b.toNat_lt;have:lG l+1≤256^l.length:=ih;have h2:(lG l+1)*256≤256^l.length*256:=zLO _ this;omega
def aPs(n:Nat):∀(k i:Nat),i<k->(be n k)[i]? =some (UInt8.ofNat (n/256^(k-1-i)%256))
 | 0,i,h=>by omega
 | k+1,i,h=>by
  rw[be,List.getElem?_append,hY];by_cases hi:i<k
  ·rw[if_pos hi,aPs (n/256) k i hi,Nat.div_div_eq_div_mul,show k+1-1-i=(k-1-i)+1 by omega,Nat.pow_succ,Nat.mul_comm 256]
  ·have:i=k:=by omega
   subst this;simp
def aQT{n k i:Nat}(hi:i<k):(be n k).take (i+1)=(be n k).take i++[UInt8.ofNat (n/256^(k-1-i)%256)]:=by
 rw[zLR,aPs n k i hi];rfl
def aXF(l:List UInt8):be (lG l) l.length=l:=by
 refine aP3 (p:=λl=>be (lG l) l.length=l) rfl (λl b ih=>?_) l
 ·rw[jM,List.length_singleton,be,aJ2];have:=b.toNat_lt;have e1:(lG l*256+b.toNat)/256=lG l:=by omega
  have e2:(lG l*256+b.toNat)%256=b.toNat:=by omega
  rw[e1,e2,ih];simp
structure Bx(h:PH)(r:Nat)(cs:List Value):Prop where
 here:∃e,h r=some (.cells cs.toArray e (0,0))
def Bx.upd{h h':PH}{r:Nat}{cs:List Value}{G:List Nat}(H:Bx h r cs)(u:cX G h h')(hr:r∉G):Bx h' r cs:=by
 obtain⟨e,h1⟩:=H;exact⟨e,u.get h1 hr⟩
def Bx.ext{h h':PH}{r:Nat}{cs:List Value}(H:Bx h r cs)(u:dA h h'):Bx h' r cs:=H.upd u (by simp)
def Bx.new{h:PH}{r:Nat}{cs:List Value}{e:TypeId}:Bx (h.set r (.cells cs.toArray e (0,0))) r cs:=⟨e,eN⟩
def Bx.cell{h:PH}{r:Nat}{cs:List Value}(H:Bx h r cs)(o:Nat):cV h ⟨r,o,none⟩=cs[o]?:=by
 obtain⟨e,h1⟩:=H;simp[cV,h1]
def Bx.known{h:PH}{r:Nat}{cs:List Value}(H:Bx h r cs):h r≠none:=by
 obtain⟨e,h1⟩:=H;rw[h1];simp
def Bx.apart{h:PH}{r x:Nat}{cs:List Value}(H:Bx h r cs)(hx:h x=none):r≠x:=λe=>H.known (e▸hx)
section
variable{P:Program}{h:PH}{t:TypeId}
def Bx.agg{r n o:Nat}{cs:List Value}(H:Bx h r cs){d:TypeDesc}{i:TypeInfo}(hu:P.underlying t=some d)(hd:aEK d=false)(hi:P.info? t=some i)(hn:i.size=n)(hle:o+n≤cs.length):
  cD P h (loadAt t (pT r o))=some (.agg ((cs.drop o).take n).toArray):=by
 obtain⟨e,h1⟩:=H;rw[aAL hu hd hi hn h1 (by simpa using hle)];congr 2;simp[zLy]
def Bx.put1{r o:Nat}{cs:List Value}(H:Bx h r cs){d:TypeDesc}{i:TypeInfo}(hu:P.underlying t=some d)(hd:aEK d=true)(hi:P.info? t=some i)(hn:i.size=1){v:Value}(ho:o<cs.length)(hv:fL v=true){k:cE}
  (hk:∀h',Bx h' r (cs.set o v)->cX [r] h h'->k undef h'):cN P (cP t (pT r o) v) h k:=by
 obtain⟨e,h1⟩:=H;refine lC hu hd h1 (by simpa using ho) hv hi hn ?_;refine hk _ ⟨e,?_⟩ (cX.set (by simp));rw[eN];simp
def Bx.putN{r o:Nat}{cs vs:List Value}(H:Bx h r cs){i:TypeInfo}(hi:P.info? t=some i)(hn:i.size=vs.length)(h0:0<vs.length)(ho:o+vs.length≤cs.length)(hv:∀v∈vs,fL v=true){k:cE}
  (hk:∀h',Bx h' r (cs.take o++vs++cs.drop (o+vs.length))->cX [r] h h'->k undef h'):cN P (cP t (pT r o) (.agg vs.toArray)) h k:=by
 obtain⟨e,h1⟩:=H;refine aN9 h1 hi (by simpa using hn) (by simpa using h0) (by simpa using ho) (by simpa using hv) ?_;refine hk _ ⟨e,?_⟩ (cX.set (by simp));rw[eN];congr 2;apply zLw;have:=aAm vs cs.toArray o (by simpa using ho);simpa using this
def Bx.fill{r:Nat}{vs:List Value}{i:TypeInfo}(hr:h r=none)(hi:P.info? t=some i)(hn:i.size=vs.length)(h0:0<vs.length)(hz:(dJ P t).size=vs.length)(hv:∀v∈vs,fL v=true){k:cE}
  (hk:∀h',Bx h' r vs->dA h h'->k undef h'):cN P (cP t (pT r 0) (.agg vs.toArray)) (h.set r (.cells (dJ P t) t)) k:=by
 refine aGm eN hi (by simpa using hn) (by simpa using h0) (by simpa using hz) (by simpa using hv) ?_;rw[aDH];exact hk _ ⟨_,eN⟩ (cX.new hr)
def Bx.fill1{r:Nat}{v:Value}{d:TypeDesc}{i:TypeInfo}(hr:h r=none)(hu:P.underlying t=some d)(hd:aEK d=true)(hi:P.info? t=some i)(hn:i.size=1)(hz:(dJ P t).size=1)(hv:fL v=true){k:cE}
  (hk:∀h',Bx h' r [v]->dA h h'->k undef h'):cN P (cP t (pT r 0) v) (h.set r (.cells (dJ P t) t)) k:=by
 refine lC hu hd eN (by omega) hv hi hn ?_;rw[aDH];refine hk _ ⟨t,?_⟩ (cX.new hr);rw[eN];congr 2;apply zLw
 match dJ P t,hz with
 | ⟨[x]⟩,_=>rfl
def Bx.zero{r:Nat}{cs:List Value}(hz:dJ P t=cs.toArray):Bx (h.set r (.cells (dJ P t) t)) r cs:=by rw[hz];exact Bx.new
end
def iH.isc{h:PH}{n:Nat}{v:Value}{rows:List (List Value)}(S:iH h n v rows):fL v=true:=by obtain⟨_,_,e,_⟩:=S.here;rw[e];rfl
def iH.upd0{h h':PH}{size:Nat}{v:Value}{rows:List (List Value)}{G:List Nat}(H:iH h size v rows)(u:cX G h h')(hd:rows≠[]->∀a n c,v= .slice (some a) n c->a.block∉G):iH h' size v rows:=by
 refine⟨H.ok,?_⟩;obtain⟨a,c,hv,h1,h2,h3,h4⟩:=H.here;refine⟨a,c,hv,h1,h2,λhne=>?_,h4⟩;obtain⟨b,o,cs,e,fr,ha,hb,hrest⟩:=h3 hne;exact⟨b,o,cs,e,fr,ha,u.get hb (hd hne ⟨b,o,none⟩ _ _ (ha▸hv)),hrest⟩
def iH.known{h:PH}{size:Nat}{v:Value}{rows:List (List Value)}(H:iH h size v rows)(hne:rows≠[]){x:Addr}{n c:Nat}(e:v= .slice (some x) n c):h x.block≠none:=by
 obtain⟨a,c',hv,h1,h2,h3,h4⟩:=H.here;obtain⟨b,o,cs,e',fr,ha,hb,_⟩:=h3 hne;rw[hv,ha] at e;simp only[Value.slice.injEq,zL4] at e;rw[←e.1,hb];simp
end
end Go.Proofs.YtiohehjhlghikaaGreatDoor
