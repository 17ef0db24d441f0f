/- The texts of this claim, put together. -/
import Derived.Calls
import Derived.Scope
import Derived.Orders
import Derived.RangeFuncLeaves
import Derived.RangeFuncRecord
import Derived.OrdersIn
import Derived.Laws.Sem
import Derived.Laws.Append
import Derived.IntWalk
import Derived.Test.YtppgkeodaejgcaaGreatDoorRows
import Derived.ReadAgain
import Derived.ChangeReads
import Derived.ChangeBears
import Derived.RowKit3
import Derived.ChangeSame
import Derived.OpenShut
import Derived.Deep.Slices
import Derived.LaidMore
import Derived.Stop.Joined
import Derived.SevenTiedAt
import Derived.Laws.Strings
set_option linter.all false
set_option maxRecDepth 100000
open Go.Instr (loadAt fieldAt indexAt extract buildSlice build)
namespace Go.Proofs.YtppgkeodaejgcaaGreatDoor
section
open Go
def zLa:type_of% @List.drop_succ_cons.{0}:= @List.drop_succ_cons
def zLb:type_of% @List.drop_zero.{0}:= @List.drop_zero
def zLc:type_of% @List.take_succ_cons.{0}:= @List.take_succ_cons
def lN:type_of% @List.cons.injEq.{0}:= @List.cons.injEq
def gU:type_of% @List.mem_cons.{0}:= @List.mem_cons
def lH:type_of% @List.not_mem_nil.{0}:= @List.not_mem_nil
def fQ:type_of% @Nat.zero_add:= @Nat.zero_add
def iH:type_of% @List.map_cons.{0,0}:= @List.map_cons
def jA:type_of% @List.map_nil.{0,0}:= @List.map_nil
def kB:type_of% @List.mem_append.{0}:= @List.mem_append
def zLk:type_of% @List.mem_append_left.{0}:= @List.mem_append_left
def zLl:type_of% @List.mem_append_right.{0}:= @List.mem_append_right
def zLm:type_of% @Bool.eq_iff_iff:= @Bool.eq_iff_iff
def zLn:type_of% @Int.eq_ofNat_of_zero_le:= @Int.eq_ofNat_of_zero_le
def sJ:type_of% @Bool.false_and:= @Bool.false_and
def zLp:type_of% @Bool.true_and:= @Bool.true_and
def zLq:type_of% @Bool.not_false:= @Bool.not_false
def jM:type_of% @List.length_append.{0}:= @List.length_append
def qE:type_of% @List.length_cons.{0}:= @List.length_cons
def zLt:type_of% @List.filter_cons.{0}:= @List.filter_cons
def zLu:type_of% @Bool.false_eq_true:= @Bool.false_eq_true
def zLv:type_of% @Option.isSome_none.{0}:= @Option.isSome_none
def zLw:type_of% @Array.ext'.{0}:= @Array.ext'
def zLx:type_of% @List.extract_eq_take_drop.{0}:= @List.extract_eq_take_drop
def zLy:type_of% @List.drop_take.{0}:= @List.drop_take
def rA:type_of% @Int.toNat_natCast:= @Int.toNat_natCast
def zLA:type_of% @List.getElem?_eq_some_iff.{0}:= @List.getElem?_eq_some_iff
def zLB:type_of% @Nat.mod_lt:= @Nat.mod_lt
def iV:type_of% @List.length_map.{0,0}:= @List.length_map
def zLD:type_of% @Array.toList_extract.{0}:= @Array.toList_extract
def zLE:type_of% @Nat.le_trans:= @Nat.le_trans
def zLF:type_of% @Nat.add_mul:= @Nat.add_mul
def zLG:type_of% @List.flatten_append.{0}:= @List.flatten_append
def zLH:type_of% @List.take_append_of_le_length.{0}:= @List.take_append_of_le_length
def nC:type_of% @Nat.le_refl:= @Nat.le_refl
def zLJ:type_of% @List.take_length.{0}:= @List.take_length
def zLK:type_of% @List.getElem?_toArray.{0}:= @List.getElem?_toArray
def qB:type_of% @List.getElem?_cons_zero.{0}:= @List.getElem?_cons_zero
def sL:type_of% @List.getElem?_cons_succ.{0}:= @List.getElem?_cons_succ
def zLN:type_of% @List.length_nil.{0}:= @List.length_nil
def zLO:type_of% @List.eq_nil_of_length_eq_zero.{0}:= @List.eq_nil_of_length_eq_zero
def zLP:type_of% @Nat.mul_le_mul_right:= @Nat.mul_le_mul_right
def zLQ:type_of% @List.append_nil.{0}:= @List.append_nil
def zLR:type_of% @Nat.pow_succ:= @Nat.pow_succ
def zLS:type_of% @Nat.mul_comm:= @Nat.mul_comm
def zLT:type_of% @List.length_singleton.{0}:= @List.length_singleton
def zLU:type_of% @List.take_add_one.{0}:= @List.take_add_one
def yH:type_of% @Bool.and_eq_true:= @Bool.and_eq_true
def zLW:type_of% @List.cons_append.{0}:= @List.cons_append
def sK:type_of% @List.nil_append.{0}:= @List.nil_append
def gB:type_of% @List.mem_singleton.{0}:= @List.mem_singleton
def wA:type_of% @List.getElem?_map.{0,0}:= @List.getElem?_map
def lJ:type_of% @List.getElem?_eq_getElem.{0}:= @List.getElem?_eq_getElem
def zL1:type_of% @List.lt_irrefl.{0}:= @List.lt_irrefl
def zL2:type_of% @List.mem_filter.{0}:= @List.mem_filter
def zL3:type_of% @List.pairwise_cons.{0}:= @List.pairwise_cons
def zL4:type_of% @List.map_map.{0,0,0}:= @List.map_map
def zL5:type_of% @List.map_congr_left.{0,0}:= @List.map_congr_left
def mJ:type_of% @List.mem_map.{0,0}:= @List.mem_map
def pO:type_of% @List.map_append.{0,0}:= @List.map_append
def zL8:type_of% @List.mem_map_of_mem.{0,0}:= @List.mem_map_of_mem
def zL9:type_of% @Option.some.injEq.{0}:= @Option.some.injEq
def nI:type_of% @List.length_take.{0}:= @List.length_take
def aLw:type_of% @List.take_append_drop.{0}:= @List.take_append_drop
def aTW:type_of% @List.take_succ_eq_append_getElem.{0}:= @List.take_succ_eq_append_getElem
def nM:type_of% @List.append_assoc.{0}:= @List.append_assoc
def lY:type_of% @List.take_of_length_le.{0}:= @List.take_of_length_le
def aLf:type_of% @List.drop_of_length_le.{0}:= @List.drop_of_length_le
def aFn:type_of% @Nat.mod_eq_of_lt:= @Nat.mod_eq_of_lt
def tA:type_of% @List.mem_of_getElem?.{0}:= @List.mem_of_getElem?
def aE6:type_of% @List.all_eq_true.{0}:= @List.all_eq_true
def aJo:type_of% @List.map_take.{0,0}:= @List.map_take
def aL2:type_of% @List.map_drop.{0,0}:= @List.map_drop
def aLJ:type_of% @List.mem_of_mem_take.{0}:= @List.mem_of_mem_take
def aKr:type_of% @List.ne_nil_of_length_pos.{0}:= @List.ne_nil_of_length_pos
def pK:type_of% @List.length_drop.{0}:= @List.length_drop
def aN3:type_of% @List.mem_of_mem_drop.{0}:= @List.mem_of_mem_drop
def aDL:type_of% @Bool.and_false:= @Bool.and_false
def aKk:type_of% @Bool.false_or:= @Bool.false_or
def aLX:type_of% @List.length_replicate.{0}:= @List.length_replicate
def aIu:type_of% @Option.getD_some.{0}:= @Option.getD_some
def aJ9:type_of% @List.getElem?_take.{0}:= @List.getElem?_take
def aHZ:type_of% @Nat.min_eq_left:= @Nat.min_eq_left
def aPP:type_of% @List.mem_cons_self.{0}:= @List.mem_cons_self
def aDE:type_of% @List.flatten_cons.{0}:= @List.flatten_cons
def aFl:type_of% @Nat.zero_le:= @Nat.zero_le
def aIA:type_of% @List.length_pos_iff.{0}:= @List.length_pos_iff
def aHG:type_of% @List.drop_eq_getElem_cons.{0}:= @List.drop_eq_getElem_cons
def aJa:type_of% @Nat.add_sub_cancel_left:= @Nat.add_sub_cancel_left
def aGf:type_of% @List.drop_drop.{0}:= @List.drop_drop
def xS:type_of% @Nat.le_succ:= @Nat.le_succ
def aLd:type_of% @Option.some.inj.{0}:= @Option.some.inj
def aKm:type_of% @Option.map_some.{0,0}:= @Option.map_some
def aKs:type_of% @Option.isSome_some.{0}:= @Option.isSome_some
def aDW:type_of% @Option.bind_some.{0,0}:= @Option.bind_some
def aMS:type_of% @List.take_take.{0}:= @List.take_take
def aBM:type_of% @List.getD_eq_getElem?_getD.{0}:= @List.getD_eq_getElem?_getD
def aOF:type_of% @List.getElem?_drop.{0}:= @List.getElem?_drop
def aH1:type_of% @Option.ne_none_iff_exists'.{0}:= @Option.ne_none_iff_exists'
def aMz:type_of% @List.length_filter_le.{0}:= @List.length_filter_le
def aKu:type_of% @Nat.sub_self:= @Nat.sub_self
def aLs:type_of% @Array.getElem?_toList.{0}:= @Array.getElem?_toList
def aMf:type_of% @List.getElem_mem.{0}:= @List.getElem_mem
def aL7:type_of% @List.mem_of_mem_erase.{0}:= @List.mem_of_mem_erase
def aLM:type_of% @List.mem_range:= @List.mem_range
def aIq:type_of% @Option.bind_eq_some_iff.{0,0}:= @Option.bind_eq_some_iff
def aJx:type_of% @Array.getElem?_eq_some_iff.{0}:= @Array.getElem?_eq_some_iff
def aLi:type_of% @Nat.pow_le_pow_right:= @Nat.pow_le_pow_right
def aLl:type_of% @Nat.lt_of_lt_of_le:= @Nat.lt_of_lt_of_le
def aNw:type_of% @List.find?_cons.{0}:= @List.find?_cons
def aKv:type_of% @List.nodup_cons.{0}:= @List.nodup_cons
def aJe:type_of% @Array.getD_eq_getD_getElem?.{0}:= @Array.getD_eq_getD_getElem?
def aNF:type_of% @List.filter_append.{0}:= @List.filter_append
def aJf:type_of% @List.filter_eq_self.{0}:= @List.filter_eq_self
@[match_pattern] abbrev pT (r o:Nat):Value:=.pointer (some ⟨r,o,none⟩)
abbrev PH:=Nat->Option Obj
abbrev cD:=Value->PH->Prop
abbrev gJ:=List Value->PH->Prop
def PH.set(h:PH)(r:Nat)(o:Obj):PH:=λb=>if b=r then some o else h b
def dB(h:PH)(a:Addr):Option Value:=
 match h a.block with
 | some (.cells c _ _)=>if a.spot.isSome then none else c[a.off]?
 | _=>none
def vX(h:PH)(a:Addr):Bool:=
 match h a.block with
 | some (.cells _ _ (lo,hi))=>lo≤a.off&&a.off<hi
 | _=>false
def tE(h:PH)(a:Addr)(v:Value):PH:=λb=>
 if b=a.block then
  match h b with
  | some (.cells c e fr)=>some (.cells (if a.spot.isSome then c else c.setIfInBounds a.off v) e fr)
  | o=>o
 else h b
def nJ(h:PH)(a:Addr)(n:Nat):PH:=λb=>
 if n=0 then h b else
 if b=a.block then
  match h b with
  | some (.cells c elem (lo,hi))=>some (.cells c elem (if lo==hi then(a.off,a.off+n) else(min lo a.off,max hi (a.off+n))))
  | o=>o
 else h b
def kI(h:PH)(r:Nat):Option (Option (TypeId×Nat)):=
 match h r with
 | some (.cells c elem _)=>some (some (elem,c.size))
 | some _=>some none
 | none=>none
def fW:Value->Bool
 | .agg _ | .tuple _=>false
 | _=>true
def qG(h:PH)(w:World):Prop:=∀b o,h b=some o->w.heap[b]? =some o
structure Fr(h:PH)(w:World)(h':PH)(w':World):Prop where
 os:w'.os=w.os
 tape:w'.tape=w.tape
 output:w'.output=w.output
 drawn:w.drawn≤w'.drawn
 size:w.heap.size≤w'.heap.size
 far:∀b,b<w.heap.size->h b=none->w'.heap[b]? =w.heap[b]?
 none:∀b,b<w.heap.size->h b=Option.none->h' b=Option.none
def Fr.refl(h:PH)(w:World):Fr h w h w:=⟨rfl,rfl,rfl,nC _,nC _,λ_ _ _=>rfl,λ_ _ h=>h⟩
def Fr.trans{h h1 h2:PH}{w w1 w2:World}(a:Fr h w h1 w1)(b:Fr h1 w1 h2 w2):Fr h w h2 w2:=
 ⟨b.os.trans a.os,b.tape.trans a.tape,b.output.trans a.output,zLE a.drawn b.drawn,zLE a.size b.size,
  λi hi hn=>(b.far i (aLl hi a.size) (a.none i hi hn)).trans (a.far i hi hn),
  λi hi hn=>b.none i (aLl hi a.size) (a.none i hi hn)⟩
def qG.lt{h:PH}{w:World}(hs:qG h w){b:Nat}{o:Obj}(hb:h b=some o):b<w.heap.size:=
 (aJx.1 (hs b o hb)).1
def qG.fresh{h:PH}{w:World}(hs:qG h w):h w.heap.size=none:=by
 cases hb:h w.heap.size with
 | none=>rfl
 | some o=>exact absurd (hs.lt hb) (Nat.lt_irrefl _)
def dC(P:Program){α:Type}:Sem α->PH->(α->PH->Prop)->Prop
 | .pure a,h,Q=>Q a h
 | .load _ a k,h,Q=>∃v,dB h a=some v∧dC P (k v) h Q
 | .store _ a v k,h,Q=>fW v=true∧vX h a=false∧(∃u,dB h a=some u)∧dC P k (tE h a v) Q
 | .new o k,h,Q=>∀r,h r=none->dC P (k r) (h.set r o) Q
 | .shape r k,h,Q=>∃s,kI h r=some s∧dC P (k s) h Q
 | .freeze a n k,h,Q=>(∃o,h a.block=some o)∧dC P k (nJ h a n) Q
 | .frozen a k,h,Q=>(∃o,h a.block=some o)∧dC P (k (vX h a)) h Q
 | .getObj r k,h,Q=>∃o,h r=some o∧(∀c e f,o≠ .cells c e f)∧dC P (k o) h Q
 | .setObj r o k,h,Q=>(∃u,h r=some u∧(∀c e f,u≠ .cells c e f))∧dC P k (h.set r o) Q
 | .choose q k,h,Q=>∀t,dC P (k (if q.forced then 0 else q.cut t)) h Q
 | .sys _ _,_,_=>False
 | .program k,h,Q=>dC P (k P) h Q
 | .mark _ k,h,Q=>dC P k h Q
 | .halt _,_,_=>False
def cG(P:Program){α:Type}(h:PH):Sem α->Option α
 | .pure a=>some a
 | .load _ a k=>(dB h a).bind λv=>cG P h (k v)
 | .shape r k=>(kI h r).bind λs=>cG P h (k s)
 | .frozen a k=>(h a.block).bind λ_=>cG P h (k (vX h a))
 | .program k=>cG P h (k P)
 | .mark _ k=>cG P h k
 | .getObj r k=>match h r with
  | some (.cells ..)=>none
  | some o=>cG P h (k o)
  | none=>none
 | _=>none
def dH(P:Program){α:Type}:Sem α->Option α
 | .pure a=>some a
 | .program k=>dH P (k P)
 | .mark _ k=>dH P k
 | _=>none
def dC.mono{P:Program}{α:Type}{s:Sem α}:∀{h:PH} {Q Q':α->PH->Prop},dC P s h Q->(∀a h,Q a h->Q' a h)->dC P s h Q':=by
 induction s with
 | pure a=>intro h Q Q' hh hq;exact hq _ _ hh
 | load m a k ih=>rintro h Q Q' ⟨v,hv,hh⟩ hq;exact⟨v,hv,ih v hh hq⟩
 | store m a v k ih=>rintro h Q Q' ⟨h1,h2,h3,hh⟩ hq;exact⟨h1,h2,h3,ih hh hq⟩
 | new o k ih=>intro h Q Q' hh hq r hr;exact ih r (hh r hr) hq
 | shape r k ih=>rintro h Q Q' ⟨v,hv,hh⟩ hq;exact⟨v,hv,ih v hh hq⟩
 | freeze a n k ih=>rintro h Q Q' ⟨h1,hh⟩ hq;exact⟨h1,ih hh hq⟩
 | frozen a k ih=>rintro h Q Q' ⟨h1,hh⟩ hq;exact⟨h1,ih _ hh hq⟩
 | getObj r k ih=>rintro h Q Q' ⟨o,ho,hc,hh⟩ hq;exact⟨o,ho,hc,ih o hh hq⟩
 | setObj r o k ih=>rintro h Q Q' ⟨h1,hh⟩ hq;exact⟨h1,ih hh hq⟩
 | choose q k ih=>intro h Q Q' hh hq t;exact ih _ (hh t) hq
 | sys c k ih=>intro h Q Q' hh;exact hh.elim
 | program k ih=>intro h Q Q' hh hq;exact ih P hh hq
 | mark m k ih=>intro h Q Q' hh hq;exact ih hh hq
 | halt x=>intro h Q Q' hh;exact hh.elim
def dC.bind{P:Program}{α β:Type}{s:Sem α}{f:α->Sem β}:∀{h:PH} {Q:β->PH->Prop},dC P s h (λa h'=>dC P (f a) h' Q)->dC P (s.bind f) h Q:=by
 induction s with
 | pure a=>intro h Q hh;exact hh
 | load m a k ih=>rintro h Q ⟨v,hv,hh⟩;exact⟨v,hv,ih v hh⟩
 | store m a v k ih=>rintro h Q ⟨h1,h2,h3,hh⟩;exact⟨h1,h2,h3,ih hh⟩
 | new o k ih=>intro h Q hh r hr;exact ih r (hh r hr)
 | shape r k ih=>rintro h Q ⟨v,hv,hh⟩;exact⟨v,hv,ih v hh⟩
 | freeze a n k ih=>rintro h Q ⟨h1,hh⟩;exact⟨h1,ih hh⟩
 | frozen a k ih=>rintro h Q ⟨h1,hh⟩;exact⟨h1,ih _ hh⟩
 | getObj r k ih=>rintro h Q ⟨o,ho,hc,hh⟩;exact⟨o,ho,hc,ih o hh⟩
 | setObj r o k ih=>rintro h Q ⟨h1,hh⟩;exact⟨h1,ih hh⟩
 | choose q k ih=>intro h Q hh t;exact ih _ (hh t)
 | sys c k ih=>intro h Q hh;exact hh.elim
 | program k ih=>intro h Q hh;exact ih P hh
 | mark m k ih=>intro h Q hh;exact ih hh
 | halt x=>intro h Q hh;exact hh.elim
def dH.semE{P:Program}{α:Type}{s:Sem α}:∀{a:α},dH P s=some a->∀h,cG P h s=some a:=by
 induction s with
 | pure a=>intro b hb h;exact hb
 | program k ih=>intro b hb h;exact ih P hb h
 | mark m k ih=>intro b hb h;exact ih hb h
 | _=>intro b hb;cases hb
def cG.semH{P:Program}{α:Type}{s:Sem α}:∀{a:α} {h:PH},cG P h s=some a->∀{Q:α->PH->Prop},Q a h->dC P s h Q:=by
 induction s with
 | pure a=>intro b h hb Q hq;simp only[cG,zL9] at hb;subst hb;exact hq
 | load m a k ih=>intro b h hb Q hq;obtain⟨v,hv,hb⟩:=aIq.1 hb;exact⟨v,hv,ih v hb hq⟩
 | shape r k ih=>intro b h hb Q hq;obtain⟨v,hv,hb⟩:=aIq.1 hb;exact⟨v,hv,ih v hb hq⟩
 | frozen a k ih=>intro b h hb Q hq;obtain⟨v,hv,hb⟩:=aIq.1 hb;exact⟨⟨v,hv⟩,ih _ hb hq⟩
 | program k ih=>intro b h hb Q hq;exact ih P hb hq
 | mark m k ih=>intro b h hb Q hq;exact ih hb hq
 | getObj r k ih=>
  intro b h hb Q hq;simp only[cG] at hb;split at hb
  ·cases hb
  ·rename_i o ho hr;exact⟨o,hr,λc e f hc=>ho c e f hc,ih o hb hq⟩
  ·cases hb
 | _=>intro b h hb;cases hb
def qG.cell{h:PH}{w:World}(hs:qG h w){a:Addr}{v:Value}(hv:dB h a=some v):w.cell? a=some v:=by
 unfold dB at hv;split at hv
 ·rename_i c e f hb;unfold World.cell?;rw[hs _ _ hb];exact hv
 ·cases hv
def qG.shape{h:PH}{w:World}(hs:qG h w){r:Nat}{s:Option (TypeId×Nat)}(hv:kI h r=some s):w.shape? r=s:=by
 unfold kI at hv;unfold World.shape?;split at hv
 ·rename_i c e f hb;rw[hs _ _ hb];simpa using hv
 ·rename_i o hne hb;rw[hs _ _ hb];simp only[zL9] at hv;subst hv;split
  ·rename_i c e f hc;simp only[zL9] at hc;subst hc;exact absurd hb (by simpa using hne c e f)
  ·rfl
 ·cases hv
def qG.frozen{h:PH}{w:World}(hs:qG h w){a:Addr}{o:Obj}(ho:h a.block=some o):w.frozen? a=vX h a:=by
 unfold World.frozen? vX;rw[hs _ _ ho,ho];cases o<;>rfl
def aQC(w:World)(o:Obj)(b:Nat):({w with heap:=w.heap.push o}:World).heap[b]? =if b=w.heap.size then some o else w.heap[b]?:=by
 simp only[Array.getElem?_push]
def qG.new{h:PH}{w:World}(hs:qG h w)(o:Obj):qG (h.set w.heap.size o) {w with heap:=w.heap.push o}∧Fr h w (h.set w.heap.size o) {w with heap:=w.heap.push o}:=by
 refine⟨λb u hb=>?_,rfl,rfl,rfl,nC _,by simp,λb hb hn=>?_,λb hb hn=>?_⟩
 ·rw[aQC];unfold PH.set at hb;split at hb
  ·rename_i e;rw[if_pos e];exact hb
  ·rename_i e;rw[if_neg e];exact hs b u hb
 ·rw[aQC,if_neg (Nat.ne_of_lt hb)]
 ·unfold PH.set;rw[if_neg (Nat.ne_of_lt hb)];exact hn
def qG.modify{h:PH}{w:World}(hs:qG h w)(g:Nat)(f:Obj->Obj)(h':PH)(hh:∀b,h' b=if b=g then(h b).map f else h b){o:Obj}(hg:h g=some o):
  qG h' {w with heap:=w.heap.modify g f}∧Fr h w h' {w with heap:=w.heap.modify g f}:=by
 refine⟨λb u hb=>?_,rfl,rfl,rfl,nC _,by simp,λb hb hn=>?_,λb hb hn=>?_⟩
 ·rw[hh] at hb;simp only[Array.getElem?_modify];by_cases e:b=g
  ·subst e;simp only[if_true,hg,aKm,zL9] at hb;subst hb;simp[hs _ _ hg]
  ·rw[if_neg e] at hb;rw[if_neg (Ne.symm e)];exact hs b u hb
 ·have e:g≠b:=λe=>by subst e;rw[hg] at hn;cases hn
  simp only[Array.getElem?_modify,if_neg e]
 ·rw[hh];by_cases e:b=g
  ·subst e;rw[hg] at hn;cases hn
  ·rw[if_neg e];exact hn
def aF7{h:PH}{a:Addr}{v:Value}(hv:dB h a=some v):∃c e f,h a.block=some (.cells c e f):=by
 unfold dB at hv;split at hv
 ·rename_i c e f hb;exact⟨c,e,f,hb⟩
 ·cases hv
def dC.sound{P:Program}{α:Type}{s:Sem α}:∀{h:PH} {Q:α->PH->Prop},dC P s h Q->∀{w:World},qG h w->
  ∃a w' h',s.run P w= .ok a w'∧Q a h'∧qG h' w'∧Fr h w h' w':=by
 induction s with
 | pure a=>intro h Q hh w hs;exact⟨a,w,h,rfl,hh,hs,Fr.refl _ _⟩
 | load m a k ih=>
  rintro h Q ⟨v,hv,hh⟩ w hs;obtain⟨x,w',h',hr,hrest⟩:=ih v hh hs;exact⟨x,w',h',by simp only[Sem.run,hs.cell hv];exact hr,hrest⟩
 | store m a v k ih=>
  rintro h Q ⟨h1,h2,⟨u,hu⟩,hh⟩ w hs;obtain⟨c,e,f,hb⟩:=aF7 hu;have hm:=hs.modify a.block (fun | .cells c elem frozen=>.cells (if a.spot.isSome then c else c.setIfInBounds a.off v) elem frozen|o=>o) (tE h a v)
   (by
     intro b;unfold tE;split
     ·cases h b with
      | none=>rfl
      | some o=>cases o<;>rfl
     ·rfl) hb
  obtain⟨x,w',h',hr,hq,hs',hf⟩:=ih hh hm.1;refine⟨x,w',h',?_,hq,hs',hm.2.trans hf⟩;have hfz:w.frozen? a=false:=by rw[hs.frozen hb];exact h2
  cases v<;>simp[fW] at h1<;>simp only[Sem.run,hs.cell hu,hfz]<;>exact hr
 | new o k ih=>
  intro h Q hh w hs;have hn:=hs.new o;obtain⟨x,w',h',hr,hq,hs',hf⟩:=ih _ (hh _ hs.fresh) hn.1;exact⟨x,w',h',hr,hq,hs',hn.2.trans hf⟩
 | shape r k ih=>
  rintro h Q ⟨v,hv,hh⟩ w hs;obtain⟨x,w',h',hr,hrest⟩:=ih v hh hs;exact⟨x,w',h',by simp only[Sem.run,hs.shape hv];exact hr,hrest⟩
 | freeze a n k ih=>
  rintro h Q ⟨⟨o,ho⟩,hh⟩ w hs;by_cases hn:n=0
  ·have e:nJ h a n=h:=by funext b;simp[nJ,hn]
   rw[e] at hh;obtain⟨x,w',h',hr,hrest⟩:=ih hh hs;exact⟨x,w',h',by simp only[Sem.run,World.freeze,hn,if_true];exact hr,hrest⟩
  ·have hm:=hs.modify a.block (fun | .cells c elem (lo,hi)=>.cells c elem (if lo==hi then(a.off,a.off+n) else(min lo a.off,max hi (a.off+n)))|o=>o) (nJ h a n)
    (by
      intro b;unfold nJ;rw[if_neg hn];split
      ·cases h b with
       | none=>rfl
       | some o=>cases o<;>rfl
      ·rfl) ho
   obtain⟨x,w',h',hr,hq,hs',hf⟩:=ih hh hm.1;exact⟨x,w',h',by simp only[Sem.run,World.freeze,hn,if_false];exact hr,hq,hs',hm.2.trans hf⟩
 | frozen a k ih=>
  rintro h Q ⟨⟨o,ho⟩,hh⟩ w hs;obtain⟨x,w',h',hr,hrest⟩:=ih _ hh hs;exact⟨x,w',h',by simp only[Sem.run,hs.frozen ho];exact hr,hrest⟩
 | getObj r k ih=>
  rintro h Q ⟨o,ho,hc,hh⟩ w hs;obtain⟨x,w',h',hr,hrest⟩:=ih _ hh hs;refine⟨x,w',h',?_,hrest⟩;simp only[Sem.run,hs _ _ ho];cases o<;>first|exact absurd rfl (hc _ _ _)|exact hr
 | setObj r o k ih=>
  rintro h Q ⟨⟨u,hu,hc⟩,hh⟩ w hs;have hlt:=hs.lt hu;have hm:=hs.modify r (λ_=>o) (h.set r o) (λb=>by
   unfold PH.set;split
   ·rename_i e;subst e;rw[hu];rfl
   ·rfl) hu
  have he:w.heap.modify r (λ_=>o)=w.heap.setIfInBounds r o:=by
   apply Array.ext_getElem?;intro i;simp only[Array.getElem?_modify,Array.getElem?_setIfInBounds];by_cases e:r=i
   ·subst e;simp[hlt]
   ·simp[e]
  rw[he] at hm;obtain⟨x,w',h',hr,hq,hs',hf⟩:=ih hh hm.1;refine⟨x,w',h',?_,hq,hs',hm.2.trans hf⟩;simp only[Sem.run,hs _ _ hu];cases u<;>first|exact absurd rfl (hc _ _ _)|exact hr
 | choose q k ih=>
  intro h Q hh w hs;by_cases hq:q.forced
  ·have h0:=hh 0;simp only[hq,if_true] at h0;obtain⟨x,w',h',hr,hrest⟩:=ih _ h0 hs;exact⟨x,w',h',by simp only[Sem.run,hq,if_true];exact hr,hrest⟩
  ·have h0:=hh (w.tape w.drawn q);simp only[hq] at h0;have hs1:qG h {w with drawn:=w.drawn+1}:=hs;obtain⟨x,w',h',hr,hqq,hs',hf⟩:=ih _ h0 hs1;exact⟨x,w',h',by simp only[Sem.run,hq];exact hr,hqq,hs',⟨hf.os,hf.tape,hf.output,zLE (xS _) hf.drawn,hf.size,hf.far,hf.none⟩⟩
 | sys c k ih=>intro h Q hh;exact hh.elim
 | program k ih=>
  intro h Q hh w hs;obtain⟨x,w',h',hr,hrest⟩:=ih P hh hs;exact⟨x,w',h',hr,hrest⟩
 | mark m k ih=>
  intro h Q hh w hs;obtain⟨x,w',h',hr,hrest⟩:=ih hh hs;exact⟨x,w',h',hr,hrest⟩
 | halt x=>intro h Q hh;exact hh.elim
def dC.frame{P:Program}{α:Type}{s:Sem α}(r:Nat)(o:Obj):∀{h:PH} {Q:α->PH->Prop},dC P s h Q->h r=none->
  dC P s (h.set r o) (λa h2=>∃h1:PH,h2=h1.set r o∧h1 r=none∧Q a h1):=by
 have hset:∀(h:PH) b,h r=none->(∃u,h b=some u)->(h.set r o) b=h b:=by
  intro h b hr ⟨u,hu⟩;unfold PH.set;rw[if_neg];rintro rfl;rw[hr] at hu;cases hu
 induction s with
 | pure a=>intro h Q hh hr;exact⟨h,rfl,hr,hh⟩
 | load m a k ih=>
  rintro h Q ⟨v,hv,hh⟩ hr;obtain⟨c,e,f,hb⟩:=aF7 hv;exact⟨v,by unfold dB at *;rw[hset h _ hr ⟨_,hb⟩];exact hv,ih v hh hr⟩
 | store m a v k ih=>
  rintro h Q ⟨h1,h2,⟨u,hu⟩,hh⟩ hr;obtain⟨c,e,f,hb⟩:=aF7 hu;have hne:a.block≠r:=by rintro rfl;rw[hr] at hb;cases hb
  refine⟨h1,by unfold vX at *;rw[hset h _ hr ⟨_,hb⟩];exact h2,⟨u,by unfold dB at *;rw[hset h _ hr ⟨_,hb⟩];exact hu⟩,?_⟩;have he:tE (h.set r o) a v=(tE h a v).set r o:=by
   funext b;unfold tE PH.set;by_cases e1:b=r
   ·subst e1;simp[Ne.symm hne]
   ·simp[e1]
  rw[he];exact ih hh (by unfold tE;rw[if_neg (Ne.symm hne)];exact hr)
 | new o' k ih=>
  intro h Q hh hr r' hr';have hne:r'≠r:=by rintro rfl;simp[PH.set] at hr'
  have hr2:h r'=none:=by unfold PH.set at hr';rw[if_neg hne] at hr';exact hr'
  have he:(h.set r o).set r' o'=(h.set r' o').set r o:=by
   funext b;unfold PH.set;by_cases e1:b=r'
   ·subst e1;simp[hne]
   ·simp[e1]
  rw[he];exact ih r' (hh r' hr2) (by unfold PH.set;rw[if_neg (Ne.symm hne)];exact hr)
 | shape r' k ih=>
  rintro h Q ⟨v,hv,hh⟩ hr;have hb:∃u,h r'=some u:=by
   unfold kI at hv;cases hx:h r' with
   | none=>rw[hx] at hv;cases hv
   | some u=>exact⟨u,rfl⟩
  exact⟨v,by unfold kI at *;rw[hset h _ hr hb];exact hv,ih v hh hr⟩
 | freeze a n k ih=>
  rintro h Q ⟨⟨u,hu⟩,hh⟩ hr;have hne:a.block≠r:=by rintro rfl;rw[hr] at hu;cases hu
  refine⟨⟨u,by rw[hset h _ hr ⟨_,hu⟩];exact hu⟩,?_⟩;have he:nJ (h.set r o) a n=(nJ h a n).set r o:=by
   funext b;unfold nJ PH.set;by_cases e1:b=r
   ·subst e1;simp[Ne.symm hne]
   ·simp[e1]
  rw[he];exact ih hh (by unfold nJ;simp[Ne.symm hne,hr])
 | frozen a k ih=>
  rintro h Q ⟨⟨u,hu⟩,hh⟩ hr;have hb:=hset h _ hr ⟨_,hu⟩;refine⟨⟨u,by rw[hb];exact hu⟩,?_⟩;have:vX (h.set r o) a=vX h a:=by unfold vX;rw[hb]
  rw[this];exact ih _ hh hr
 | getObj r' k ih=>
  rintro h Q ⟨u,hu,hc,hh⟩ hr;exact⟨u,by rw[hset h _ hr ⟨_,hu⟩];exact hu,hc,ih _ hh hr⟩
 | setObj r' o' k ih=>
  rintro h Q ⟨⟨u,hu,hc⟩,hh⟩ hr;have hne:r'≠r:=by rintro rfl;rw[hr] at hu;cases hu
  refine⟨⟨u,by rw[hset h _ hr ⟨_,hu⟩];exact hu,hc⟩,?_⟩;have he:(h.set r o).set r' o'=(h.set r' o').set r o:=by
   funext b;unfold PH.set;by_cases e1:b=r'
   ·subst e1;simp[hne]
   ·simp[e1]
  rw[he];exact ih hh (by unfold PH.set;rw[if_neg (Ne.symm hne)];exact hr)
 | choose q k ih=>intro h Q hh hr t;exact ih _ (hh t) hr
 | sys c k ih=>intro h Q hh;exact hh.elim
 | program k ih=>intro h Q hh hr;exact ih P hh hr
 | mark m k ih=>intro h Q hh hr;exact ih hh hr
 | halt x=>intro h Q hh;exact hh.elim
abbrev lO:=Nat->Value
def upd(ρ:lO)(d:Option Tmp)(v:Value):lO:=match d with
 | some d=>λt=>if t=d then v else ρ t
 | none=>ρ
def ev(ρ:lO):Operand->Value
 | .tmp t=>ρ t
 | .const v=>v
 | .global g=>pT g 0
 | .func f=>.func (.func f) #[] #[]
def cG.of_semH{P:Program}{α:Type}{s:Sem α}:∀{a:α} {h:PH} {Q:α->PH->Prop},cG P h s=some a->dC P s h Q->Q a h:=by
 induction s with
 | pure a=>intro b h Q hb hh;simp only[cG,zL9] at hb;subst hb;exact hh
 | load m a k ih=>rintro b h Q hb ⟨v,hv,hh⟩;simp only[cG,hv,aDW] at hb;exact ih v hb hh
 | shape r k ih=>rintro b h Q hb ⟨v,hv,hh⟩;simp only[cG,hv,aDW] at hb;exact ih v hb hh
 | frozen a k ih=>rintro b h Q hb ⟨⟨v,hv⟩,hh⟩;simp only[cG,hv,aDW] at hb;exact ih _ hb hh
 | program k ih=>intro b h Q hb hh;exact ih P hb hh
 | mark m k ih=>intro b h Q hb hh;exact ih hb hh
 | getObj r k ih=>
  rintro b h Q hb ⟨o,ho,hc,hh⟩;simp only[cG,ho] at hb;cases o<;>first|exact absurd rfl (hc _ _ _)|exact ih _ hb hh
 | _=>intro b h Q hb;cases hb
def aEz(P:Program)(f:FuncId):Bool:=match P.funcs[f]? with
 | some fn=>!(fn.name == "runtime.NumGoroutine") && !fn.body.isNone
 | none=>false
def aT(P:Program)(f:FuncId)(args:Array Value)(h:PH)(R:cD):Prop:=
 (aEz P f=true∧∀w,qG h w->Calls P f args w λe w'=>∃v h',e= .returned v∧R v h'∧qG h' w'∧Fr h w h' w')∨
 dC P (callFunc f args) h λn h'=>∃v,n= .value v∧R v h'
def aT.mono{P:Program}{f:FuncId}{args:Array Value}{h:PH}{R R':cD}(hc:aT P f args h R)(hr:∀v h,R v h->R' v h):aT P f args h R':=by
 rcases hc with⟨h1,h2⟩|hs
 ·exact .inl ⟨h1,λw hs=>(h2 w hs).mono λ_ _ ⟨v,h',e,r,rest⟩=>⟨v,h',e,hr _ _ r,rest⟩⟩
 ·exact .inr (hs.mono λn h' ⟨v,e,hv⟩=>⟨v,e,hr _ _ hv⟩)
def aT.entry{P:Program}{f:FuncId}{args:Array Value}{h:PH}{R:cD}{v:Value}(e:cG P h (callFunc f args)=some (.value v))(hv:R v h):aT P f args h R:=.inr (cG.semH e ⟨v,rfl,hv⟩)
def uR(P:Program)(n:Next)(h:PH)(kv:cD):Prop:=match n with
 | .value v=>kv v h
 | .skip=>kv undef h
 | .enter f args=>∀w,qG h w->Calls P f args w λe w'=>∃v h',e= .returned v∧kv v h'∧qG h' w'∧Fr h w h' w'
 | .round l f tmps assign body=>∀w,qG h w->RoundIn Fence.wide 0 P l f tmps assign body w λe w'=>∃v h',e= .returned v∧kv v h'∧qG h' w'∧Fr h w h' w'
 | _=>False
def uR.mono{P:Program}{n:Next}{h:PH}{k k':cD}(hn:uR P n h k)(hk:∀v h,k v h->k' v h):uR P n h k':=by
 cases n<;>first
  | exact hk _ _ hn
  | exact λw hs=>Calls.mono (hn w hs) λ_ _ ⟨v,h',e,r,rest⟩=>⟨v,h',e,hk _ _ r,rest⟩
  | exact λw hs=>RoundIn.mono (hn w hs) λ_ _ ⟨v,h',e,r,rest⟩=>⟨v,h',e,hk _ _ r,rest⟩
  | exact hn.elim
def dY{α:Type}(x:Option α)(k:α->Prop):Prop:=match x with
 | some v=>k v
 | none=>False
def fV{α:Type}{x:Option α}{k:α->Prop}:dY x k↔∃v,x=some v∧k v:=by
 cases x<;>simp[dY]
def fK(c a b:Value):Option Value:=match c with
 | .bool true=>some a
 | .bool false=>some b
 | _=>none
def jV(P:Program){α:Type}:Sem α->Option (Obj×(Nat->Sem α))
 | .new o k=>some (o,k)
 | .program k=>jV P (k P)
 | .mark _ k=>jV P k
 | _=>none
def jV.semH{P:Program}{α:Type}{s:Sem α}:∀{o:Obj} {k:Nat->Sem α},jV P s=some (o,k)->∀{h:PH} {Q:α->PH->Prop},
  (∀r,h r=none->dC P (k r) (h.set r o) Q)->dC P s h Q:=by
 induction s with
 | new o k ih=>intro o' k' hb h Q hq;simp only[jV,zL9,Prod.mk.injEq] at hb;obtain⟨rfl,rfl⟩:=hb;exact hq
 | program k ih=>intro o' k' hb h Q hq;exact ih P hb hq
 | mark m k ih=>intro o' k' hb h Q hq;exact ih hb hq
 | _=>intro o' k' hb;cases hb
inductive Cls where
 | p|r|a|e
 deriving DecidableEq,Repr
def mF(P:Program):Op->Cls
 | .move _ | .assign _ | .pick .. | .nilCheck _ | .unOp .. | .fieldAddr .. | .field .. | .indexAddr .. | .index .. | .slice .. | .extract .. | .makeFunc .. | .build .. | .makeInterface .. =>.p
 | .binOp op .. =>match op with
  | .eql | .neq=>.r
  | _=>.p
 | .load .. | .lookup .. =>.r
 | .convert _ dst _=>match P.underlying dst with
  | some (.int _)=>.p
  | some .string=>.r
  | _=>.e
 | .alloc .. | .box .. | .buildSlice .. | .makeMap .. | .makeSlice .. =>.a
 | .call c=>match c.callee with
  | .builtin .len=>match (c.argTypes[0]?).bind P.underlying with
   | some (.map ..)=>.r
   | _=>.p
  | .builtin .min | .builtin .max | .builtin .cap=>.p
  | _=>.e
 | _=>.e
def wU(ρ:lO)(o:Oper):Sem Value:=match o.op with
 | .move x | .assign x=>pure (ev ρ x)
 | .pick c a b=>do pure (if ←asBool (ev ρ c) then ev ρ a else ev ρ b)
 | .alloc elem=>Instr.alloc elem true (.tuple #[])
 | .box elem x=>Instr.box elem (ev ρ x)
 | .build t jD=>build t (jD.map λ(i,x)=>(i,ev ρ x))
 | .buildSlice t len jD=>buildSlice t len (jD.map λ(i,x)=>(i,ev ρ x))
 | .load t a=>loadAt t (ev ρ a)
 | .nilCheck x=>
  match ev ρ x with
  | .pointer none | .nilIface | .nilFunc=>.halt (.stuck "nil")
  | .func (.method _) _ _=>.halt (.stuck "method")
  | x=>pure x
 | .binOp op xType x y _=>do eqGuard op xType x y (ev ρ x) (ev ρ y);binOp op xType (ev ρ x) (ev ρ y)
 | .unOp op _ x=>Op.unary op (ev ρ x)
 | .convert src dst x=>convert src dst (ev ρ x)
 | .makeInterface xType x=>Instr.makeInterface xType (ev ρ x)
 | .makeFunc fn first captured=>Instr.makeFunc fn (first.map (ev ρ)) (captured.map (ev ρ))
 | .makeMap t r=>Instr.makeMap t (r.map (ev ρ))
 | .makeSlice t l c=>Instr.makeSlice t (ev ρ l) (ev ρ c)
 | .slice t x lo hi mx=>Instr.sliceAt t (ev ρ x) (lo.map (ev ρ)) (hi.map (ev ρ)) (mx.map (ev ρ))
 | .fieldAddr s x f=>fieldAt s (ev ρ x) f
 | .field xType x f=>Instr.field xType (ev ρ x) f
 | .indexAddr t x ix=>indexAt t (ev ρ x) (ev ρ ix)
 | .index xType x ix=>Instr.index xType (ev ρ x) (ev ρ ix)
 | .lookup xType x ix ok=>Instr.lookup xType (ev ρ x) (ev ρ ix) ok
 | .extract t ix=>extract (ev ρ t) ix
 | .range xType x=>Instr.range xType (ev ρ x)
 | .next it isString=>Instr.next (ev ρ it) isString o.type
 | .entry it=>Instr.entry (ev ρ it)
 | .mapEntry t m k=>Instr.mapEntry t (ev ρ m) (ev ρ k)
 | .typeAssert x xType asserted ok=>Instr.typeAssert (ev ρ x) xType asserted ok
 | .store t a x=>do Instr.storeAt t (ev ρ a) (ev ρ x);pure undef
 | .mapUpdate t m k x | .insert t m k x=>do Instr.mapUpdate t (ev ρ m) (ev ρ k) (ev ρ x);pure undef
 | .entryStore t m s x=>do Instr.entryStore t (ev ρ m) (ev ρ s) (ev ρ x);pure undef
 | .call c=>match c.callee with
  | .builtin .append=>Builtin.append_ c.argTypes o.type (c.args.map (ev ρ))
  | .builtin .len=>Builtin.len_ c.argTypes o.type (c.args.map (ev ρ))
  | .builtin .cap=>Builtin.cap_ c.argTypes o.type (c.args.map (ev ρ))
  | .builtin .min=>Builtin.min_ c.argTypes o.type (c.args.map (ev ρ))
  | .builtin .max=>Builtin.max_ c.argTypes o.type (c.args.map (ev ρ))
  | .builtin .copy=>Builtin.copy_ c.argTypes o.type (c.args.map (ev ρ))
  | .builtin .clear=>Builtin.clear_ c.argTypes o.type (c.args.map (ev ρ))
  | .builtin .delete=>Builtin.delete_ c.argTypes o.type (c.args.map (ev ρ))
  | .builtin .unsafeString=>Builtin.unsafeString_ c.argTypes o.type (c.args.map (ev ρ))
  | .builtin .unsafeSliceData=>Builtin.unsafeSliceData_ c.argTypes o.type (c.args.map (ev ρ))
  | .builtin .unsafeStringData=>Builtin.unsafeStringData_ c.argTypes o.type (c.args.map (ev ρ))
  | .builtin .unsafeSlice=>Builtin.unsafeSlice_ c.argTypes o.type (c.args.map (ev ρ))
  | _=>.halt (.stuck "no value")
 | _=>.halt (.stuck "no value")
def aJE(P:Program)(c:Call)(ρ:lO)(h:PH)(kv:cD):Prop:=match c.callee with
 | .value (.func f)=>aT P f (c.args.map (ev ρ)) h kv
 | .value x=>match ev ρ x with
  | .func (.func f) first captured=>aT P f (first++c.args.map (ev ρ)++captured) h kv
  | .func fn first captured=>dC P (invoke (.fn fn captured) (first++c.args.map (ev ρ))) h λn h'=>uR P n h' kv
  | _=>False
 | .invoke recv name=>dC P (callMethod (ev ρ recv) name (c.args.map (ev ρ))) h λn h'=>uR P n h' kv
 | .builtin _=>False
def opV(P:Program)(o:Oper)(ρ:lO)(h:PH)(kv:cD):Prop:=match mF P o.op with
 | .p=>match o.op with
  | .move x | .assign x=>kv (ev ρ x) h
  | .pick c a b=>dY (fK (ev ρ c) (ev ρ a) (ev ρ b)) λv=>kv v h
  | _=>dY (dH P (wU ρ o)) λv=>kv v h
 | .r=>dY (cG P h (wU ρ o)) λv=>kv v h
 | .a=>dY (jV P (wU ρ o)) λx=>∀r,h r=none->dY (dH P (x.2 r)) λv=>kv v (h.set r x.1)
 | .e=>match o.op with
  | .call c=>match c.callee with
   | .builtin _=>dC P (wU ρ o) h kv
   | _=>aJE P c ρ h kv
  | _=>dC P (wU ρ o) h kv
def aIe(ops:Array Oper)(ρ:lO)(j:Nat):Option Bool:=match (ops[j]?).bind (·.dst) with
 | some d=>match ρ d with
  | .bool b=>some b
  | _=>none
 | none=>none
def mZ(y:Option Bool)(want:Bool)(X:(Value->PH->Prop)->Prop)(h:PH)(kv:cD):Prop:=
 if y==some want then X kv else kv undef h
def kR(P:Program)(all:Array Oper)(o:Oper)(ρ:lO)(h:PH)(kv:cD):Prop:=match o.guard with
 | none=>opV P o ρ h kv
 | some (j,want)=>mZ (aIe all ρ j) want (opV P o ρ h) h kv
def aS0(P:Program)(all:Array Oper)(k:lO->PH->Prop):List Oper->lO->PH->Prop
 | [],ρ,h=>k ρ h
 | o::rest,ρ,h=>kR P all o ρ h λv h'=>aS0 P all k rest (upd ρ o.dst v) h'
def opV.mono{P:Program}{o:Oper}{ρ:lO}{h:PH}{k k':cD}(hk:∀v h,k v h->k' v h)(ho:opV P o ρ h k):opV P o ρ h k':=by
 unfold opV at *;split at ho
 ·split at ho
  ·exact hk _ _ ho
  ·exact hk _ _ ho
  ·obtain⟨v,e,hv⟩:=fV.1 ho;exact fV.2 ⟨v,e,hk _ _ hv⟩
  ·obtain⟨v,e,hv⟩:=fV.1 ho;exact fV.2 ⟨v,e,hk _ _ hv⟩
 ·obtain⟨v,e,hv⟩:=fV.1 ho;exact fV.2 ⟨v,e,hk _ _ hv⟩
 ·obtain⟨x,e,hx⟩:=fV.1 ho;refine fV.2 ⟨x,e,λr hr=>?_⟩;obtain⟨v,e,hv⟩:=fV.1 (hx r hr);exact fV.2 ⟨v,e,hk _ _ hv⟩
 ·split at ho
  ·split at ho
   ·exact ho.mono hk
   ·unfold aJE at *;split at ho
    ·exact ho.mono hk
    ·split at ho
     ·exact ho.mono hk
     ·exact ho.mono λ_ _ hn=>hn.mono hk
     ·exact ho.elim
    ·exact ho.mono λ_ _ hn=>hn.mono hk
    ·exact ho.elim
  ·exact ho.mono hk
def kR.mono{P:Program}{all:Array Oper}{o:Oper}{ρ:lO}{h:PH}{k k':cD}(hk:∀v h,k v h->k' v h)(ho:kR P all o ρ h k):kR P all o ρ h k':=by
 unfold kR at *;split
 ·rename_i e;simp only[e] at ho;exact ho.mono hk
 ·rename_i j want e;simp only[e] at ho;unfold mZ at *;split
  ·rename_i e;rw[if_pos e] at ho;exact ho.mono hk
  ·rename_i e;rw[if_neg e] at ho;exact hk _ _ ho
def opV.noDefer{P:Program}{o:Oper}{ρ:lO}{h:PH}{kv:cD}(ho:opV P o ρ h kv):∀c,o.op≠ .defer c:=by
 intro c hc;have e:mF P o.op= .e:=by rw[hc];rfl
 unfold opV at ho;rw[e] at ho;simp only[hc] at ho;unfold wU at ho;rw[hc] at ho;exact ho
def aJL{P:Program}{f:FuncId}{args:Array Value}{h:PH}(he:aEz P f=true):cG P h (callFunc f args)=some (.enter f args):=by
 unfold aEz at he;split at he
 ·rename_i fn hf;simp only[yH,Bool.not_eq_true'] at he;unfold callFunc;show cG P h (match P.funcs[f]? with|none=>_|some fn=>_)=_;simp only[hf,he.1,he.2,zLu,if_false];rfl
 ·cases he
def aMN{P:Program}{f:FuncId}{args:Array Value}{h:PH}{kv:cD}(hc:aT P f args h kv):
  dC P (callFunc f args) h λn h'=>uR P n h' kv:=by
 rcases hc with⟨he,hw⟩|hs
 ·exact cG.semH (aJL he) hw
 ·exact hs.mono λn h' ⟨v,e,hv⟩=>by subst e;exact hv
def aT.calls{P:Program}{f:FuncId}{args:Array Value}{h:PH}{R:cD}(hc:aT P f args h R)(he:aEz P f=true):∀w,qG h w->Calls P f args w λe w'=>∃v h',e= .returned v∧R v h'∧qG h' w'∧Fr h w h' w':=by
 rcases hc with⟨_,hw⟩|hs
 ·exact hw
 ·obtain⟨v,e,_⟩:=cG.of_semH (aJL he) hs;cases e
def aUW{P:Program}{s:Sem Value}{h:PH}{kv:cD}(hs:dC P s h kv):
  dC P (do pure (Next.value (←s))) h λn h'=>uR P n h' kv:=
 dC.bind (P:=P) (s:=s) (f:=λv=>pure (Next.value v)) hs
def aZO{P:Program}{s:Sem Unit}{h:PH}{kv:cD}(hs:dC P (do s;pure undef) h kv):
  dC P (do s;pure Next.skip) h λn h'=>uR P n h' kv:=by
 have key:∀(s:Sem Unit) (h:PH),dC P (s.bind λ_=>pure undef) h kv->dC P (s.bind λ_=>pure Next.skip) h λn h'=>uR P n h' kv:=by
  intro s;induction s with
  | pure a=>intro h hh;exact hh
  | load m a k ih=>rintro h ⟨v,hv,hh⟩;exact⟨v,hv,ih v h hh⟩
  | store m a v k ih=>rintro h ⟨h1,h2,h3,hh⟩;exact⟨h1,h2,h3,ih _ hh⟩
  | new o k ih=>intro h hh r hr;exact ih r _ (hh r hr)
  | shape r k ih=>rintro h ⟨v,hv,hh⟩;exact⟨v,hv,ih v _ hh⟩
  | freeze a n k ih=>rintro h ⟨h1,hh⟩;exact⟨h1,ih _ hh⟩
  | frozen a k ih=>rintro h ⟨h1,hh⟩;exact⟨h1,ih _ _ hh⟩
  | getObj r k ih=>rintro h ⟨o,ho,hc,hh⟩;exact⟨o,ho,hc,ih o _ hh⟩
  | setObj r o k ih=>rintro h ⟨h1,hh⟩;exact⟨h1,ih _ hh⟩
  | choose q k ih=>intro h hh t;exact ih _ _ (hh t)
  | sys c k ih=>intro h hh;exact hh.elim
  | program k ih=>intro h hh;exact ih P _ hh
  | mark m k ih=>intro h hh;exact ih _ hh
  | halt x=>intro h hh;exact hh.elim
 exact key s h hs
def aWW(x:Value)(xs:Array Value):(#[x]++xs)[0]? =some x:=by
 rcases xs with⟨l⟩;simp
def aXw(x:Value)(xs:Array Value):(#[x]++xs).extract 1 (#[x]++xs).size=xs:=by
 rcases xs with⟨l⟩;apply zLw;simp[List.drop_one]
def opV.exec{P:Program}{o:Oper}{ρ:lO}{h:PH}{kv:cD}(ho:opV P o ρ h kv):
  dC P (execOp (ev ρ) o) h λn h'=>uR P n h' kv:=by
 have hcases:dC P (wU ρ o) h kv∨(∃c,o.op= .call c∧aJE P c ρ h kv):=by
  unfold opV at ho;split at ho
  ·left;split at ho
   ·rename_i x hx;unfold wU;rw[hx];exact ho
   ·rename_i x hx;unfold wU;rw[hx];exact ho
   ·rename_i c a b hx;obtain⟨v,e,hv⟩:=fV.1 ho;unfold wU;rw[hx];show dC P ((asBool (ev ρ c)).bind λx=>pure (if x then ev ρ a else ev ρ b)) h kv;generalize ev ρ c=vc at *;cases vc with
    | bool t=>cases t<;>(simp only[fK,zL9] at e;subst e;exact hv)
    | _=>cases e
   ·obtain⟨v,e,hv⟩:=fV.1 ho;exact cG.semH (dH.semE e h) hv
  ·left;obtain⟨v,e,hv⟩:=fV.1 ho;exact cG.semH e hv
  ·left;obtain⟨x,e,hx⟩:=fV.1 ho;refine jV.semH (o:=x.1) (k:=x.2) e λr hr=>?_;obtain⟨v,e,hv⟩:=fV.1 (hx r hr);exact cG.semH (dH.semE e _) hv
  ·split at ho
   ·split at ho
    ·left;exact ho
    ·right;exact⟨_,by assumption,ho⟩
   ·left;exact ho
 rcases hcases with hs|⟨c,hc,hv⟩
 ·unfold wU at hs;unfold execOp;cases hop:o.op<;>simp only[hop] at hs ⊢
  case move=>exact hs
  case assign=>exact hs
  case pick c a b=>
   have hs':dC P ((asBool (ev ρ c)).bind λx=>pure (if x then ev ρ a else ev ρ b)) h kv:=hs;show dC P ((asBool (ev ρ c)).bind λx=>pure (Next.value (if x then ev ρ a else ev ρ b))) h _;generalize ev ρ c=vc at *;cases vc with
   | bool t=>exact hs'
   | _=>exact hs'.elim
  case nilCheck x=>
   generalize ev ρ x=v at *;cases v with
   | pointer a=>cases a with
    | none=>exact hs.elim
    | some a=>exact hs
   | func fn first captured=>cases fn with
    | method name=>exact hs.elim
    | _=>exact hs
   | nilIface=>exact hs.elim
   | nilFunc=>exact hs.elim
   | _=>exact hs
  case call c=>
   cases hcal:c.callee with
   | builtin b=>
    simp only[hcal] at hs;unfold resolve;simp only[hcal];cases b<;>first
     | exact hs.elim
     | exact aUW hs
   | value f=>simp only[hcal] at hs;exact hs.elim
   | invoke r n=>simp only[hcal] at hs;exact hs.elim
  all_goals first
   | exact aUW hs
   | exact aZO hs
   | exact hs.elim
 ·unfold execOp;simp only[hc];unfold resolve;unfold aJE at hv;cases hcal:c.callee with
  | builtin b=>simp only[hcal] at hv
  | invoke r n=>
   simp only[hcal] at hv;show dC P (invoke (.fn (.method n) #[]) (#[ev ρ r]++c.args.map (ev ρ))) h _;unfold invoke;simp only[aWW,aXw];exact hv
  | value f=>
   simp only[hcal];have key:∀(v:Value),ev ρ f=v->(match v with
     | .func (.func f) first captured=>aT P f (first++c.args.map (ev ρ)++captured) h kv
     | .func fn first captured=>dC P (invoke (.fn fn captured) (first++c.args.map (ev ρ))) h λn h'=>uR P n h' kv
     | _=>False)->dC P (do let d ←Deferred.ofValue (ev ρ f) (c.args.map (ev ρ));invoke d.target d.args) h λn h'=>uR P n h' kv:=by
    intro v he hh;rw[he];cases v with
    | func fn first captured=>
     show dC P (invoke (.fn fn captured) (first++c.args.map (ev ρ))) h _;cases fn with
     | func g=>exact aMN hh
     | _=>exact hh
    | _=>exact hh.elim
   cases f with
   | func g=>
    refine key _ rfl ?_;simp only[hcal] at hv;show aT P g (#[]++c.args.map (ev ρ) ++ #[]) h kv;simpa using hv
   | tmp t=>simp only[hcal] at hv;exact key _ rfl hv
   | const v=>simp only[hcal] at hv;exact key _ rfl hv
   | global g=>simp only[hcal] at hv;exact key _ rfl hv
def Rl(h:PH):Prop:=∃w,qG h w
abbrev Tr:=PH->(Value->PH->Prop)->Prop
def Rl.fresh{h:PH}(hr:Rl h):∃r,h r=none:=let ⟨w,hs⟩:=hr;⟨w.heap.size,hs.fresh⟩
def Rl.set{h:PH}(hr:Rl h){r:Nat}(hn:h r=none)(o:Obj):Rl (h.set r o):=by
 obtain⟨w,hs⟩:=hr;let n:=max w.heap.size (r+1);refine⟨{w with heap:=(Array.range n).map λb=>if b=r then o else(w.heap[b]?).getD default},λb u hb=>?_⟩;unfold PH.set at hb;have hlt:b<n:=by
  split at hb
  ·omega
  ·have:=hs.lt hb;omega
 simp only[Array.getElem?_map,Array.getElem?_range,hlt,if_true,aKm];split at hb
 ·rename_i e;rw[if_pos e];exact hb
 ·rename_i e;rw[if_neg e,hs _ _ hb];rfl
def cG.set{P:Program}{α:Type}{s:Sem α}{r:Nat}{o:Obj}:∀{h:PH} {a:α},cG P h s=some a->h r=none->cG P (h.set r o) s=some a:=by
 have hset:∀(h:PH) b,h r=none->(∃u,h b=some u)->(h.set r o) b=h b:=by
  intro h b hr ⟨u,hu⟩;unfold PH.set;rw[if_neg];rintro rfl;rw[hr] at hu;cases hu
 induction s with
 | pure a=>intro h b hb _;exact hb
 | load m a k ih=>
  intro h b hb hr;obtain⟨v,hv,hb⟩:=aIq.1 hb;obtain⟨c,e,f,hblk⟩:=aF7 hv;refine aIq.2 ⟨v,?_,ih v hb hr⟩;unfold dB at *;rw[hset h _ hr ⟨_,hblk⟩];exact hv
 | shape r' k ih=>
  intro h b hb hr;obtain⟨v,hv,hb⟩:=aIq.1 hb;have hblk:∃u,h r'=some u:=by
   unfold kI at hv;cases hx:h r' with
   | none=>rw[hx] at hv;cases hv
   | some u=>exact⟨u,rfl⟩
  refine aIq.2 ⟨v,?_,ih v hb hr⟩;unfold kI at *;rw[hset h _ hr hblk];exact hv
 | frozen a k ih=>
  intro h b hb hr;obtain⟨v,hv,hb⟩:=aIq.1 hb;have e:=hset h _ hr ⟨_,hv⟩;refine aIq.2 ⟨v,by rw[e];exact hv,?_⟩;have:vX (h.set r o) a=vX h a:=by unfold vX;rw[e]
  rw[this];exact ih _ hb hr
 | program k ih=>intro h b hb hr;exact ih P hb hr
 | mark m k ih=>intro h b hb hr;exact ih hb hr
 | getObj r' k ih=>
  intro h b hb hr;simp only[cG] at hb ⊢;cases hx:h r' with
  | none=>rw[hx] at hb;cases hb
  | some u=>
   rw[hset h _ hr ⟨_,hx⟩,hx];rw[hx] at hb;cases u<;>first|cases hb|exact ih _ hb hr
 | _=>intro h b hb;cases hb
def dC.real{P:Program}{α:Type}{s:Sem α}:∀{h:PH} {Q:α->PH->Prop},dC P s h Q->Rl h->dC P s h λa h'=>Q a h'∧Rl h':=by
 induction s with
 | pure a=>intro h Q hh hr;exact⟨hh,hr⟩
 | load m a k ih=>rintro h Q ⟨v,hv,hh⟩ hr;exact⟨v,hv,ih v hh hr⟩
 | store m a v k ih=>
  rintro h Q ⟨h1,h2,h3,hh⟩ hr;refine⟨h1,h2,h3,ih hh ?_⟩;obtain⟨w,hs⟩:=hr;obtain⟨u,hu⟩:=h3;obtain⟨c,e,f,hb⟩:=aF7 hu;exact⟨_,(hs.modify a.block (fun | .cells c elem frozen=>.cells (if a.spot.isSome then c else c.setIfInBounds a.off v) elem frozen|o=>o) (tE h a v)
   (λb=>by
    unfold tE;split
    ·cases h b with
     | none=>rfl
     | some o=>cases o<;>rfl
    ·rfl) hb).1⟩
 | new o k ih=>intro h Q hh hr r hn;exact ih r (hh r hn) (hr.set hn o)
 | shape r k ih=>rintro h Q ⟨v,hv,hh⟩ hr;exact⟨v,hv,ih v hh hr⟩
 | freeze a n k ih=>
  rintro h Q ⟨⟨o,ho⟩,hh⟩ hr;refine⟨⟨o,ho⟩,ih hh ?_⟩;obtain⟨w,hs⟩:=hr;by_cases hn:n=0
  ·have e:nJ h a n=h:=by funext b;simp[nJ,hn]
   rw[e];exact⟨w,hs⟩
  ·exact⟨_,(hs.modify a.block (fun | .cells c elem (lo,hi)=>.cells c elem (if lo==hi then(a.off,a.off+n) else(min lo a.off,max hi (a.off+n)))|o=>o) (nJ h a n)
    (λb=>by
     unfold nJ;rw[if_neg hn];split
     ·cases h b with
      | none=>rfl
      | some o=>cases o<;>rfl
     ·rfl) ho).1⟩
 | frozen a k ih=>rintro h Q ⟨h1,hh⟩ hr;exact⟨h1,ih _ hh hr⟩
 | getObj r k ih=>rintro h Q ⟨o,ho,hc,hh⟩ hr;exact⟨o,ho,hc,ih o hh hr⟩
 | setObj r o k ih=>
  rintro h Q ⟨⟨u,hu,hc⟩,hh⟩ hr;refine⟨⟨u,hu,hc⟩,ih hh ?_⟩;obtain⟨w,hs⟩:=hr;exact⟨_,(hs.modify r (λ_=>o) (h.set r o) (λb=>by
   unfold PH.set;split
   ·rename_i e;subst e;rw[hu];rfl
   ·rfl) hu).1⟩
 | choose q k ih=>intro h Q hh hr t;exact ih _ (hh t) hr
 | sys c k ih=>intro h Q hh;exact hh.elim
 | program k ih=>intro h Q hh hr;exact ih P hh hr
 | mark m k ih=>intro h Q hh hr;exact ih hh hr
 | halt x=>intro h Q hh;exact hh.elim
def aT.real{P:Program}{f:FuncId}{args:Array Value}{h:PH}{R:cD}(hc:aT P f args h R)(hr:Rl h):aT P f args h λv h'=>R v h'∧Rl h':=by
 rcases hc with⟨h1,h2⟩|hs
 ·exact .inl ⟨h1,λw hs=>(h2 w hs).mono λ_ w' ⟨v,h',e,r,s,fr⟩=>⟨v,h',e,⟨r,w',s⟩,s,fr⟩⟩
 ·exact .inr ((hs.real hr).mono λn h' ⟨⟨v,e,hv⟩,hr'⟩=>⟨v,e,hv,hr'⟩)
def uR.real{P:Program}{n:Next}{h:PH}{k:cD}(hn:uR P n h k)(hr:Rl h):uR P n h λv h'=>k v h'∧Rl h':=by
 cases n<;>first
  | exact⟨hn,hr⟩
  | exact λw hs=>Calls.mono (hn w hs) λ_ w' ⟨v,h',e,r,s,fr⟩=>⟨v,h',e,⟨r,w',s⟩,s,fr⟩
  | exact λw hs=>RoundIn.mono (hn w hs) λ_ w' ⟨v,h',e,r,s,fr⟩=>⟨v,h',e,⟨r,w',s⟩,s,fr⟩
  | exact hn.elim
def opV.real{P:Program}{o:Oper}{ρ:lO}{h:PH}{k:cD}(ho:opV P o ρ h k)(hr:Rl h):opV P o ρ h λv h'=>k v h'∧Rl h':=by
 unfold opV at *;split at ho
 ·split at ho
  ·exact⟨ho,hr⟩
  ·exact⟨ho,hr⟩
  ·obtain⟨v,e,hv⟩:=fV.1 ho;exact fV.2 ⟨v,e,hv,hr⟩
  ·obtain⟨v,e,hv⟩:=fV.1 ho;exact fV.2 ⟨v,e,hv,hr⟩
 ·obtain⟨v,e,hv⟩:=fV.1 ho;exact fV.2 ⟨v,e,hv,hr⟩
 ·obtain⟨x,e,hx⟩:=fV.1 ho;refine fV.2 ⟨x,e,λr hn=>?_⟩;obtain⟨v,e,hv⟩:=fV.1 (hx r hn);exact fV.2 ⟨v,e,hv,hr.set hn _⟩
 ·split at ho
  ·split at ho
   ·exact ho.real hr
   ·unfold aJE at *;split at ho
    ·exact ho.real hr
    ·split at ho
     ·exact ho.real hr
     ·exact(ho.real hr).mono λ_ _ hn=>hn.1.real hn.2
     ·exact ho.elim
    ·exact(ho.real hr).mono λ_ _ hn=>hn.1.real hn.2
    ·exact ho.elim
  ·exact ho.real hr
def opV.falls{P:Program}{o:Oper}{ρ:lO}{h:PH}(ho:opV P o ρ h λ_ _=>False)(hr:Rl h):False:=by
 obtain⟨w,hs⟩:=hr;obtain⟨n,w',h',hrun,hn,hs',hf⟩:=ho.exec.sound hs;cases n with
 | value v=>exact hn
 | skip=>exact hn
 | enter f args=>
  obtain⟨e,w2,fr,⟨v,h2,_,hF,_⟩,_⟩:=hn w' hs' [];exact hF
 | round l f tmps assign body=>
  obtain⟨e,w2,⟨v,h2,_,hF,_⟩,_⟩:=(hn w' hs').2 default [] (room_wide _);exact hF
 | _=>exact hn.elim
def aT.frame{P:Program}{f:FuncId}{args:Array Value}{h:PH}{R:cD}(r:Nat)(o:Obj)(hc:aT P f args h R)(hr:h r=none):
  aT P f args (h.set r o) λv h2=>∃h1:PH,h2=h1.set r o∧h1 r=none∧R v h1:=by
 rcases hc with⟨hc1,hc2⟩|hs
 rotate_left
 ·exact .inr ((dC.frame r o hs hr).mono λn h2 ⟨h1,e,hn,v,ev,hv⟩=>⟨v,ev,h1,e,hn,hv⟩)
 refine .inl ⟨hc1,λw hs=>?_⟩;have hsub:qG h w:=λb u hb=>hs b u (by
                         unfold PH.set;rw[if_neg];· exact hb
                         ·rintro rfl;rw[hr] at hb;cases hb)
 have hw:w.heap[r]? =some o:=hs r o (by unfold PH.set;rw[if_pos rfl]);have hlt:r<w.heap.size:=(aJx.1 hw).1;refine(hc2 w hsub).mono λe w' ⟨v,h1,he,hR,hs1,hf⟩=>?_;have hn:=hf.none r hlt hr;refine⟨v,h1.set r o,he,⟨h1,rfl,hn,hR⟩,λb u hb=>?_,hf.os,hf.tape,hf.output,hf.drawn,hf.size,λb hb hbn=>?_,λb hb hbn=>?_⟩
 ·unfold PH.set at hb;split at hb
  ·rename_i e;subst e;rw[hf.far b hlt hr,hw];exact hb
  ·exact hs1 b u hb
 ·refine hf.far b hb ?_;unfold PH.set at hbn;split at hbn
  ·cases hbn
  ·exact hbn
 ·unfold PH.set at hbn ⊢;split at hbn
  ·cases hbn
  ·rename_i e;rw[if_neg e];exact hf.none b hb hbn
def uR.frame{P:Program}{n:Next}{h:PH}{k:cD}(r:Nat)(o:Obj)(hn:uR P n h k)(hr:h r=none):
  uR P n (h.set r o) λv h2=>∃h1:PH,h2=h1.set r o∧h1 r=none∧k v h1:=by
 cases n with
 | value v=>exact⟨h,rfl,hr,hn⟩
 | skip=>exact⟨h,rfl,hr,hn⟩
 | enter f args=>
  intro w hs;have hsub:qG h w:=λb u hb=>hs b u (by
                          unfold PH.set;rw[if_neg];· exact hb
                          ·rintro rfl;rw[hr] at hb;cases hb)
  have hw:w.heap[r]? =some o:=hs r o (by unfold PH.set;rw[if_pos rfl]);have hlt:r<w.heap.size:=(aJx.1 hw).1;refine(hn w hsub).mono λe w' ⟨v,h1,he,hR,hs1,hf⟩=>?_;have hn:=hf.none r hlt hr;refine⟨v,h1.set r o,he,⟨h1,rfl,hn,hR⟩,λb u hb=>?_,hf.os,hf.tape,hf.output,hf.drawn,hf.size,λb hb hbn=>?_,λb hb hbn=>?_⟩
  ·unfold PH.set at hb;split at hb
   ·rename_i e;subst e;rw[hf.far b hlt hr,hw];exact hb
   ·exact hs1 b u hb
  ·refine hf.far b hb ?_;unfold PH.set at hbn;split at hbn
   ·cases hbn
   ·exact hbn
  ·unfold PH.set at hbn ⊢;split at hbn
   ·cases hbn
   ·rename_i e;rw[if_neg e];exact hf.none b hb hbn
 | round l f tmps assign body=>
  intro w hs;have hsub:qG h w:=λb u hb=>hs b u (by
                          unfold PH.set;rw[if_neg];· exact hb
                          ·rintro rfl;rw[hr] at hb;cases hb)
  have hw:w.heap[r]? =some o:=hs r o (by unfold PH.set;rw[if_pos rfl]);have hlt:r<w.heap.size:=(aJx.1 hw).1;refine RoundIn.mono (hn w hsub) λe w' ⟨v,h1,he,hR,hs1,hf⟩=>?_;have hn:=hf.none r hlt hr;refine⟨v,h1.set r o,he,⟨h1,rfl,hn,hR⟩,λb u hb=>?_,hf.os,hf.tape,hf.output,hf.drawn,hf.size,λb hb hbn=>?_,λb hb hbn=>?_⟩
  ·unfold PH.set at hb;split at hb
   ·rename_i e;subst e;rw[hf.far b hlt hr,hw];exact hb
   ·exact hs1 b u hb
  ·refine hf.far b hb ?_;unfold PH.set at hbn;split at hbn
   ·cases hbn
   ·exact hbn
  ·unfold PH.set at hbn ⊢;split at hbn
   ·cases hbn
   ·rename_i e;rw[if_neg e];exact hf.none b hb hbn
 | _=>exact hn.elim
def KP(T:Tr):Prop:=∃x:Option Value,∀h kv,T h kv↔dY x λv=>kv v h
def KR(T:Tr):Prop:=∃f:PH->Option Value,(∀h kv,T h kv↔dY (f h) λv=>kv v h)∧∀h r o v,f h=some v->h r=none->f (h.set r o)=some v
def KA(T:Tr):Prop:=∃y:Option (Obj×(Nat->Option Value)),∀h kv,T h kv↔dY y λx=>∀r,h r=none->dY (x.2 r) λv=>kv v (h.set r x.1)
structure KE(T:Tr):Prop where
 mono:∀{h:PH} {k k':cD},T h k->(∀v h,k v h->k' v h)->T h k'
 real:∀{h:PH} {k:cD},T h k->Rl h->T h λv h'=>k v h'∧Rl h'
 falls:∀{h:PH},T h (λ_ _=>False)->Rl h->False
 frame:∀{h:PH} {k:cD} (r:Nat) (o:Obj),T h k->h r=none->T (h.set r o) λv h2=>∃h1:PH,h2=h1.set r o∧h1 r=none∧k v h1
def KP.ke{T:Tr}(hT:KP T):KE T:=by
 obtain⟨x,hx⟩:=hT;refine⟨λht hk=>?_,λht hr=>?_,λht hr=>?_,λr o ht hr=>?_⟩
 ·obtain⟨v,e,hv⟩:=fV.1 ((hx _ _).1 ht);exact(hx _ _).2 (fV.2 ⟨v,e,hk _ _ hv⟩)
 ·obtain⟨v,e,hv⟩:=fV.1 ((hx _ _).1 ht);exact(hx _ _).2 (fV.2 ⟨v,e,hv,hr⟩)
 ·obtain⟨v,e,hv⟩:=fV.1 ((hx _ _).1 ht);exact hv
 ·obtain⟨v,e,hv⟩:=fV.1 ((hx _ _).1 ht);exact(hx _ _).2 (fV.2 ⟨v,e,_,rfl,hr,hv⟩)
def KR.ke{T:Tr}(hT:KR T):KE T:=by
 obtain⟨f,hx,hm⟩:=hT;refine⟨λht hk=>?_,λht hr=>?_,λht hr=>?_,λr o ht hr=>?_⟩
 ·obtain⟨v,e,hv⟩:=fV.1 ((hx _ _).1 ht);exact(hx _ _).2 (fV.2 ⟨v,e,hk _ _ hv⟩)
 ·obtain⟨v,e,hv⟩:=fV.1 ((hx _ _).1 ht);exact(hx _ _).2 (fV.2 ⟨v,e,hv,hr⟩)
 ·obtain⟨v,e,hv⟩:=fV.1 ((hx _ _).1 ht);exact hv
 ·obtain⟨v,e,hv⟩:=fV.1 ((hx _ _).1 ht);exact(hx _ _).2 (fV.2 ⟨v,hm _ _ _ _ e hr,_,rfl,hr,hv⟩)
def aON{h:PH}{r r':Nat}{o o':Obj}(hne:r'≠r):(h.set r o).set r' o'=(h.set r' o').set r o:=by
 funext b;unfold PH.set;by_cases e1:b=r'
 ·subst e1;simp[hne]
 ·simp[e1]
def aRy{h:PH}{r r':Nat}{o:Obj}(hn:(h.set r o) r'=none):r'≠r∧h r'=none:=by
 unfold PH.set at hn;split at hn
 ·cases hn
 ·rename_i e;exact⟨e,hn⟩
def aZh{T U:Tr}(hT:KP T)(hU:KE U){h:PH}{X:Value->Value->PH->Prop}(H:T h λv h1=>U h1 λu h2=>X v u h2):U h λu h1=>T h1 λv h2=>X v u h2:=by
 obtain⟨x,hx⟩:=hT;obtain⟨v,e,hv⟩:=fV.1 ((hx _ _).1 H);exact hU.mono hv λu h1 hX=>(hx _ _).2 (fV.2 ⟨v,e,hX⟩)
def aIY{T U:Tr}(hT:KE T)(hU:KP U){h:PH}(hr:Rl h){X:Value->Value->PH->Prop}(H:T h λv h1=>U h1 λu h2=>X v u h2):U h λu h1=>T h1 λv h2=>X v u h2:=by
 obtain⟨x,hx⟩:=hU;cases x with
 | none=>exact(hT.falls (hT.mono H λv h1 hh=>by simpa[dY] using(hx _ _).1 hh) hr).elim
 | some u=>exact(hx _ _).2 (fV.2 ⟨u,rfl,hT.mono H λv h1 hh=>by simpa[dY] using(hx _ _).1 hh⟩)
def aYS{T U:Tr}(hT:KR T)(hU:KA U){h:PH}{X:Value->Value->PH->Prop}(H:T h λv h1=>U h1 λu h2=>X v u h2):U h λu h1=>T h1 λv h2=>X v u h2:=by
 obtain⟨f,hx,hm⟩:=hT;obtain⟨y,hy⟩:=hU;obtain⟨v,e,hv⟩:=fV.1 ((hx _ _).1 H);obtain⟨z,e',hz⟩:=fV.1 ((hy _ _).1 hv);refine(hy _ _).2 (fV.2 ⟨z,e',λr hr=>?_⟩);obtain⟨u,e2,hu⟩:=fV.1 (hz r hr);exact fV.2 ⟨u,e2,(hx _ _).2 (fV.2 ⟨v,hm _ _ _ _ e hr,hu⟩)⟩
def aXQ{T U:Tr}(hT:KA T)(hU:KA U){h:PH}(hr:Rl h){X:Value->Value->PH->Prop}(H:T h λv h1=>U h1 λu h2=>X v u h2):U h λu h1=>T h1 λv h2=>X v u h2:=by
 obtain⟨x,hx⟩:=hT;obtain⟨y,hy⟩:=hU;obtain⟨z,e,hz⟩:=fV.1 ((hx _ _).1 H);have hy':∃z',y=some z':=by
  obtain⟨r,hn⟩:=hr.fresh;obtain⟨v,_,hv⟩:=fV.1 (hz r hn);obtain⟨z',e',_⟩:=fV.1 ((hy _ _).1 hv);exact⟨z',e'⟩
 obtain⟨z',e'⟩:=hy'
 -- both values are there, whatever the blocks
 have both:∀r r',h r=none->h r'=none->r'≠r->∃v u,z.2 r=some v∧z'.2 r'=some u∧X v u ((h.set r z.1).set r' z'.1):=by
  intro r r' hn hn' hne;obtain⟨v,e1,hv⟩:=fV.1 (hz r hn);obtain⟨z2,e2,hz2⟩:=fV.1 ((hy _ _).1 hv);rw[e'] at e2;cases e2;obtain⟨u,e3,hu⟩:=fV.1 (hz2 r' (by unfold PH.set;rw[if_neg hne];exact hn'));exact⟨v,u,e1,e3,hu⟩
 refine(hy _ _).2 (fV.2 ⟨z',e',λr' hn'=>?_⟩);have hu:∃u,z'.2 r'=some u:=by
  obtain⟨r,hn⟩:=(hr.set hn' z'.1).fresh;obtain⟨hne,hn⟩:=aRy hn;obtain⟨v,u,_,eu,_⟩:=both r r' hn hn' (Ne.symm hne);exact⟨u,eu⟩
 obtain⟨u,eu⟩:=hu;refine fV.2 ⟨u,eu,(hx _ _).2 (fV.2 ⟨z,e,λr hn=>?_⟩)⟩;obtain⟨hne,hn⟩:=aRy hn;obtain⟨v,u',ev',eu',hX⟩:=both r r' hn hn' (Ne.symm hne);rw[eu] at eu';cases eu';refine fV.2 ⟨v,ev',?_⟩;rw[←aON (Ne.symm hne)];exact hX
def aXs{T U:Tr}(hT:KE T)(hU:KA U){h:PH}(hr:Rl h){X:Value->Value->PH->Prop}(H:T h λv h1=>U h1 λu h2=>X v u h2):U h λu h1=>T h1 λv h2=>X v u h2:=by
 obtain⟨y,hy⟩:=hU;have hy':∃z',y=some z':=by
  cases y with
  | some z'=>exact⟨z',rfl⟩
  | none=>exact(hT.falls (hT.mono H λv h1 hh=>by simpa[dY] using(hy _ _).1 hh) hr).elim
 obtain⟨z,e⟩:=hy';refine(hy _ _).2 (fV.2 ⟨z,e,λr hn=>?_⟩);have hf:=hT.frame r z.1 H hn;have hf2:T (h.set r z.1) λv h2=>dY (z.2 r) λu=>X v u h2:=hT.mono hf λv h2 ⟨h1,e1,hn1,hh⟩=>by
  obtain⟨z2,e2,hz2⟩:=fV.1 ((hy _ _).1 hh);rw[e] at e2;cases e2;rw[e1];exact hz2 r hn1
 cases hu:z.2 r with
 | none=>
  rw[hu] at hf2;exact(hT.falls hf2 (hr.set hn z.1)).elim
 | some u=>
  rw[hu] at hf2;exact hf2
def aTA{ρ:lO}{x y:Option Tmp}{v u:Value}(h:∀d,x=some d->y≠some d):upd (upd ρ x v) y u=upd (upd ρ y u) x v:=by
 cases x with
 | none=>rfl
 | some d=>
  cases y with
  | none=>rfl
  | some e=>
   have hne:d≠e:=λhe=>h d rfl (he▸rfl);funext t;simp only[upd];by_cases h1:t=d
   ·subst h1;simp[hne]
   ·simp[h1]
def aUq{ρ:lO}{d:Option Tmp}{v:Value}{x:Operand}(h:∀t,d=some t->x≠ .tmp t):ev (upd ρ d v) x=ev ρ x:=by
 cases d with
 | none=>rfl
 | some t=>
  cases x with
  | tmp s=>
   have:s≠t:=λe=>h t rfl (e▸rfl);simp[ev,upd,this]
  | _=>rfl
def aNi{ρ ρ':lO}(o:Oper)(h:∀x∈o.op.operands,ev ρ x=ev ρ' x):wU ρ o=wU ρ' o:=by
 obtain⟨dst,op,type,pos,after,guard⟩:=o;have pairs:∀ps:Array (Nat×Operand),(∀x∈ps.map (·.2),ev ρ x=ev ρ' x)->
   (ps.map λ(i,x)=>(i,ev ρ x))=(ps.map λ(i,x)=>(i,ev ρ' x)):=λps hp=>
  Array.map_congr_left λp hm=>by
   obtain⟨i,x⟩:=p;simp only[hp x (Array.mem_map.2 ⟨(i,x),hm,rfl⟩)]
 cases op<;>simp only[Op.operands] at h<;>simp only[wU]
 case build t ps=>rw[pairs ps λx hx=>h x (by simpa using hx)]
 case buildSlice t n ps=>rw[pairs ps λx hx=>h x (by simpa using hx)]
 case makeFunc fn first captured=>
  rw[Array.map_congr_left (xs:=first) λx hx=>h x (by simp[hx]),Array.map_congr_left (xs:=captured) λx hx=>h x (by simp[hx])]
 case call c=>
  have hargs:c.args.map (ev ρ)=c.args.map (ev ρ'):=Array.map_congr_left λx hx=>h x (by simp[Call.operands,hx]);rw[hargs]
 case makeMap t r=>cases r<;>simp_all
 case slice t x lo hi mx=>cases lo<;>cases hi<;>cases mx<;>simp_all
 all_goals (first|rfl|(simp_all;done))
def aSE{P:Program}{ρ ρ':lO}(c:Call)(h:∀x∈c.operands,ev ρ x=ev ρ' x):aJE P c ρ=aJE P c ρ':=by
 have hargs:c.args.map (ev ρ)=c.args.map (ev ρ'):=Array.map_congr_left λx hx=>h x (by simp[Call.operands,hx]);funext hh kv;unfold aJE;rw[hargs];cases hc:c.callee with
 | value f=>
  have hf:ev ρ f=ev ρ' f:=h f (by simp[Call.operands,hc]);cases f<;>simp only[hf]
 | invoke r m=>have hr:ev ρ r=ev ρ' r:=h r (by simp[Call.operands,hc]);simp only[hr]
 | builtin b=>rfl
def aUz{P:Program}{ρ ρ':lO}(o:Oper)(h:∀x∈o.op.operands,ev ρ x=ev ρ' x):opV P o ρ=opV P o ρ':=by
 have hs:=aNi o h;funext hh kv;unfold opV;rw[hs];cases hop:o.op
 case move x=>have hx:=h x (by simp[hop,Op.operands]);simp only[mF,hx]
 case assign x=>have hx:=h x (by simp[hop,Op.operands]);simp only[mF,hx]
 case pick c a b=>
  have h1:=h c (by simp[hop,Op.operands]);have h2:=h a (by simp[hop,Op.operands]);have h3:=h b (by simp[hop,Op.operands]);simp only[mF,h1,h2,h3]
 case call c=>
  have hc:=aSE (P:=P) c λx hx=>h x (by simp only[hop,Op.operands];exact hx);simp only[hc]
 all_goals rfl
def aK7{ops:Array Oper}{o:Oper}{d:Tmp}(h:d∉o.looksAt ops):∀x∈o.op.operands,x≠ .tmp d:=by
 intro x hx e;subst e;exact h (zLk _ (List.mem_filterMap.2 ⟨.tmp d,by simpa using hx,rfl⟩))
def aJA{ops:Array Oper}{o:Oper}{ρ:lO}{dst:Option Tmp}{v:Value}{g:Nat}{want:Bool}(hg:o.guard=some (g,want))(h:∀d,dst=some d->d∉o.looksAt ops):
  aIe ops (upd ρ dst v) g=aIe ops ρ g:=by
 cases dst with
 | none=>rfl
 | some d=>
  unfold aIe;cases ht:(ops[g]?).bind (·.dst) with
  | none=>rfl
  | some t=>
   have hne:t≠d:=λe=>h d rfl (by subst e;simp[Oper.looksAt,hg,ht]);simp only[upd,if_neg hne]
def aM8{ops:Array Oper}{o:Oper}{ρ:lO}{dst:Option Tmp}{v:Value}(h:∀d,dst=some d->d∉o.looksAt ops):wU (upd ρ dst v) o=wU ρ o:=
 aNi o λx hx=>aUq λt ht=>aK7 (h t ht) x hx
def aQJ{P:Program}{ops:Array Oper}{o:Oper}{ρ:lO}{dst:Option Tmp}{v:Value}(h:∀d,dst=some d->d∉o.looksAt ops):kR P ops o (upd ρ dst v)=kR P ops o ρ:=by
 have ho:opV P o (upd ρ dst v)=opV P o ρ:=aUz o λx hx=>aUq λt ht=>aK7 (h t ht) x hx;funext hh kv;unfold kR;cases hg:o.guard with
 | none=>simp only[ho]
 | some gw=>
  obtain⟨g,want⟩:=gw;simp only[ho,aJA (v:=v) hg h]
def aWR{h:PH}{r r':Nat}{o o':Obj}{k:cD}{v:Value}(hne:r'≠r)(hr:h r=none)(hk:k v (h.set r' o')):
  ∃h1:PH,(h.set r o).set r' o'=h1.set r o∧h1 r=none∧k v h1:=
 ⟨h.set r' o',aON hne,by unfold PH.set;rw[if_neg (Ne.symm hne)];exact hr,hk⟩
def aCV(ops:Array Oper)(o:Oper)(ρ:lO):Bool:=match o.guard with
 | none=>true
 | some (g,want)=>aIe ops ρ g==some want
def aAr{P:Program}{ops:Array Oper}{o:Oper}{ρ:lO}{h:PH}{kv:cD}:kR P ops o ρ h kv↔if aCV ops o ρ then opV P o ρ h kv else kv undef h:=by
 unfold kR aCV mZ;cases hg:o.guard with
 | none=>simp
 | some gw=>obtain⟨g,want⟩:=gw;simp
def aNW{P:Program}{ops:Array Oper}{o:Oper}{ρ:lO}(hc:mF P o.op= .p):KP (kR P ops o ρ):=by
 cases hw:aCV ops o ρ with
 | false=>exact⟨some undef,λh kv=>by rw[aAr,hw];simp[dY]⟩
 | true=>
  have:∃x:Option Value,∀h kv,opV P o ρ h kv↔dY x λv=>kv v h:=by
   unfold opV;simp only[hc];split
   ·rename_i x _;exact⟨some (ev ρ x),λh kv=>Iff.rfl⟩
   ·rename_i x _;exact⟨some (ev ρ x),λh kv=>Iff.rfl⟩
   ·rename_i c a b _;exact⟨_,λh kv=>Iff.rfl⟩
   ·exact⟨_,λh kv=>Iff.rfl⟩
  obtain⟨x,hx⟩:=this;exact⟨x,λh kv=>by rw[aAr,hw];simpa using hx h kv⟩
def aOK(P:Program)(ops:Array Oper)(o:Oper)(ρ:lO)(h:PH):Option Value:=if aCV ops o ρ then cG P h (wU ρ o) else some undef
def aPO{P:Program}{ops:Array Oper}{o:Oper}{ρ:lO}(hc:mF P o.op= .r)(h:PH)(kv:cD):kR P ops o ρ h kv↔dY (aOK P ops o ρ h) λv=>kv v h:=by
 rw[aAr];unfold aOK opV;cases hw:aCV ops o ρ<;>simp[hc,dY]
def aW4{P:Program}{ops:Array Oper}{o:Oper}{ρ:lO}(hc:mF P o.op= .r):KR (kR P ops o ρ):=
 ⟨aOK P ops o ρ,λh kv=>aPO hc h kv,λh r b v hv hr=>by
  unfold aOK at *;split at hv
  ·rename_i e;rw[if_pos e];exact cG.set hv hr
  ·rename_i e;rw[if_neg e];exact hv⟩
def aNY{P:Program}{ops:Array Oper}{o:Oper}{ρ:lO}(hc:mF P o.op= .a):KA (kR P ops o ρ)∨KP (kR P ops o ρ):=by
 cases hw:aCV ops o ρ with
 | false=>exact .inr ⟨some undef,λh kv=>by rw[aAr,hw];simp[dY]⟩
 | true=>
  refine .inl ⟨(jV P (wU ρ o)).map λx=>(x.1,λr=>dH P (x.2 r)),λh kv=>?_⟩;rw[aAr,hw];unfold opV;simp only[hc,if_true];cases jV P (wU ρ o)<;>simp[dY]
def bAL{P:Program}{ops:Array Oper}{o:Oper}{ρ:lO}(hc:mF P o.op= .e):KE (kR P ops o ρ):=by
 have hframe:∀{h:PH} {k:cD} (r:Nat) (b:Obj),opV P o ρ h k->h r=none->opV P o ρ (h.set r b) λv h2=>∃h1:PH,h2=h1.set r b∧h1 r=none∧k v h1:=by
  intro h k r b ho hr;unfold opV at *;simp only[hc] at ho ⊢;split at ho
  ·split at ho
   ·exact ho.frame r b hr
   ·unfold aJE at *;split at ho
    ·exact ho.frame r b hr
    ·split at ho
     ·exact ho.frame r b hr
     ·exact(ho.frame r b hr).mono λn h2 ⟨h1,e,hn,hh⟩=>e▸hh.frame r b hn
     ·exact ho.elim
    ·exact(ho.frame r b hr).mono λn h2 ⟨h1,e,hn,hh⟩=>e▸hh.frame r b hn
    ·exact ho.elim
  ·exact ho.frame r b hr
 refine⟨λht hk=>?_,λht hr=>?_,λht hr=>?_,λr b ht hr=>?_⟩
 ·exact kR.mono hk ht
 ·rw[aAr] at ht ⊢;split at ht
  ·rename_i e;rw[if_pos e];exact ht.real hr
  ·rename_i e;rw[if_neg e];exact⟨ht,hr⟩
 ·rw[aAr] at ht;split at ht
  ·exact ht.falls hr
  ·exact ht
 ·rw[aAr] at ht ⊢;split at ht
  ·rename_i e;rw[if_pos e];exact hframe r b ht hr
  ·rename_i e;rw[if_neg e];exact⟨_,rfl,hr,ht⟩
def aOq{P:Program}{ops:Array Oper}{o:Oper}{ρ:lO}:KE (kR P ops o ρ):=by
 cases hc:mF P o.op with
 | p=>exact(aNW hc).ke
 | r=>exact(aW4 hc).ke
 | e=>exact bAL hc
 | a=>
  refine⟨λht hk=>kR.mono hk ht,λht hr=>?_,λht hr=>?_,λr b ht hr=>?_⟩
  ·rw[aAr] at ht ⊢;split at ht
   ·rename_i e;rw[if_pos e];exact ht.real hr
   ·rename_i e;rw[if_neg e];exact⟨ht,hr⟩
  ·rw[aAr] at ht;split at ht
   ·exact ht.falls hr
   ·exact ht
  ·rcases aNY (P:=P) (ops:=ops) (ρ:=ρ) hc with⟨y,hy⟩|hp
   ·obtain⟨x,e,hx⟩:=fV.1 ((hy _ _).1 ht);refine(hy _ _).2 (fV.2 ⟨x,e,λr' hr'=>?_⟩);obtain⟨hne,hn'⟩:=aRy hr';obtain⟨v,e2,hv⟩:=fV.1 (hx r' hn');refine fV.2 ⟨v,e2,aWR hne hr hv⟩
   ·exact hp.ke.frame r b ht hr
def bit(b:Array Nat)(y x:Nat):Bool:=(b.getD y 0).testBit x
def aTt:Cls->Cls->Bool
 | .p,_|_,.p=>true
 | .r,_=>true
 | .a,.a=>true
 | .e,.a=>true
 | _,_=>false
def aHU(P:Program)(ops:Array Oper)(o:Oper)(ρ:lO)(h:PH):Prop:=aCV ops o ρ=true->cG P h (wU ρ o)=o.dst.map ρ
def AG(P:Program)(ops:Array Oper)(b:Array Nat)(i:Nat)(rem:List Nat)(ρ:lO)(h:PH):Prop:=
 ∀oi,ops[i]? =some oi->mF P oi.op= .e->∀x ox,ops[x]? =some ox->mF P ox.op= .r->x∉rem->x≠i->bit b i x=false->aHU P ops ox ρ h
def aHK(P:Program)(ops:Array Oper)(b:Array Nat)(k:lO->PH->Prop):Nat->List Nat->lO->PH->Prop
 | 0,_,ρ,h=>k ρ h
 | n+1,rem,ρ,h=>∀i∈rem,(∀x∈rem,bit b i x=false)->∃o,ops[i]? =some o∧kR P ops o ρ h λv h'=>AG P ops b i rem (upd ρ o.dst v) h'∧aHK P ops b k n (rem.erase i) (upd ρ o.dst v) h'
structure aVT(P:Program)(ops:Array Oper)(b:Array Nat):Prop where
 apart:∀(x y:Nat) (ox oy:Oper),ops[x]? =some ox->ops[y]? =some oy->x≠y->bit b x y=false->bit b y x=false->ox.apart ops oy=true
 look:∀(x y:Nat) (ox oy:Oper),ops[x]? =some ox->ops[y]? =some oy->mF P ox.op= .r->(x≠y->bit b x y=false)->∀d,oy.dst=some d->d∉ox.looksAt ops
 own:∀(x:Nat) (ox:Oper),ops[x]? =some ox->mF P ox.op= .r->ox.dst.isSome=true
 one:∀(x y:Nat) (ox oy:Oper),ops[x]? =some ox->ops[y]? =some oy->mF P ox.op= .r->x≠y->∀d,oy.dst=some d->ox.dst≠some d
def aO8{P:Program}{ops:Array Oper}{o:Oper}{ρ:lO}{h:PH}{dst:Option Tmp}{v:Value}(hl:∀d,dst=some d->d∉o.looksAt ops)(hd:∀d,dst=some d->o.dst≠some d):
  aHU P ops o (upd ρ dst v) h↔aHU P ops o ρ h:=by
 have h1:aCV ops o (upd ρ dst v)=aCV ops o ρ:=by
  unfold aCV;cases hg:o.guard with
  | none=>rfl
  | some gw=>obtain⟨g,want⟩:=gw;simp only[aJA (v:=v) hg hl]
 have h2:o.dst.map (upd ρ dst v)=o.dst.map ρ:=by
  cases ho:o.dst with
  | none=>rfl
  | some t=>
   cases dst with
   | none=>rfl
   | some d=>
    have hne:t≠d:=λe=>hd d rfl (e▸ho);simp[upd,hne]
 unfold aHU;rw[h1,h2,aM8 hl]
def aTV{P:Program}{ops:Array Oper}{o:Oper}{ρ:lO}{h:PH}{r:Nat}{b:Obj}(hs:o.dst.isSome=true)(hf:aHU P ops o ρ h)(hr:h r=none):aHU P ops o ρ (h.set r b):=by
 intro hw;have:=hf hw;obtain⟨d,hd⟩:=Option.isSome_iff_exists.1 hs;rw[hd] at this ⊢;exact cG.set this hr
def aT5{P:Program}{ops:Array Oper}{b:Array Nat}{k:lO->PH->Prop}(L:aVT P ops b){i:Nat}{oi:Oper}(hi:ops[i]? =some oi):
  ∀(n:Nat) (rem:List Nat) (ρ:lO) (h:PH),rem.length=n+1->rem.Nodup->(∀y,y∉rem->∀x∈rem,bit b y x=false)->Rl h->i∈rem->(∀x∈rem,bit b i x=false)->
   (∀j oj,j∈rem->j≠i->ops[j]? =some oj->bit b j i=false->aTt (mF P oi.op) (mF P oj.op)=true)->
   (kR P ops oi ρ h λv h'=>AG P ops b i rem (upd ρ oi.dst v) h'∧aHK P ops b k n (rem.erase i) (upd ρ oi.dst v) h')->aHK P ops b k (n+1) rem ρ h:=by
 intro n;induction n with
 | zero=>
  intro rem ρ h hlen hnd hdc hr hmem hrdy hpair H j hj hjr;obtain⟨a,rfl⟩:=List.length_eq_one_iff.1 hlen;simp only[gB] at hj hmem;subst hj;subst hmem;exact⟨oi,hi,H⟩
 | succ n ih=>
  intro rem ρ h hlen hnd hdc hr hmem hrdy hpair H j hj hjr;by_cases hji:j=i
  ·subst hji;exact⟨oi,hi,H⟩
  have hmemj:j∈rem.erase i:=(List.mem_erase_of_ne hji).2 hj;have hmemi:i∈rem.erase j:=(List.mem_erase_of_ne (Ne.symm hji)).2 hmem;have hbji:bit b j i=false:=hjr i hmem;have hbij:bit b i j=false:=hrdy j hj
  -- the other one is there
  have hoj:∃oj,ops[j]? =some oj:=by
   have hke:KE (kR P ops oi ρ):=aOq;cases hx:ops[j]? with
   | some oj=>exact⟨oj,rfl⟩
   | none=>
    refine(hke.falls (hke.mono H λv h' hh=>?_) hr).elim;obtain⟨o,ho,_⟩:=hh.2 j hmemj (λx hx'=>hjr x (aL7 hx'));rw[hx] at ho;cases ho
  obtain⟨oj,hoj⟩:=hoj;refine⟨oj,hoj,?_⟩;have hap:=Oper.apart_spec (L.apart i j oi oj hi hoj (Ne.symm hji) hbij hbji);have hp:=hpair j oj hj hji hoj hbji;have eT:∀u,kR P ops oi (upd ρ oj.dst u)=kR P ops oi ρ:=λu=>aQJ hap.2.2;have eU:∀v,kR P ops oj (upd ρ oi.dst v)=kR P ops oj ρ:=λv=>aQJ hap.1;have eC:∀v u,upd (upd ρ oi.dst v) oj.dst u=upd (upd ρ oj.dst u) oi.dst v:=λv u=>aTA hap.2.1;have eE:(rem.erase i).erase j=(rem.erase j).erase i:=List.erase_comm i j;have keT:KE (kR P ops oi ρ):=aOq;have keU:KE (kR P ops oj ρ):=aOq
  -- as it stands
  have H1:kR P ops oi ρ h λv h1=>AG P ops b i rem (upd ρ oi.dst v) h1∧kR P ops oj ρ h1 λu h2=>
    AG P ops b j (rem.erase i) (upd (upd ρ oj.dst u) oi.dst v) h2∧aHK P ops b k n ((rem.erase j).erase i) (upd (upd ρ oj.dst u) oi.dst v) h2:=by
   refine keT.mono H λv h1 hh=>⟨hh.1,?_⟩;obtain⟨o,ho,hstep⟩:=hh.2 j hmemj (λx hx'=>hjr x (aL7 hx'));rw[hoj] at ho;cases ho;rw[eU v] at hstep;refine keU.mono hstep λu h2 hx=>?_;rw[eC,eE] at hx;exact hx
  -- a look of before
  have early:∀x ox,ops[x]? =some ox->mF P ox.op= .r->x∉rem->(∀d,oi.dst=some d->d∉ox.looksAt ops)∧(∀d,oi.dst=some d->ox.dst≠some d)∧(∀d,oj.dst=some d->d∉ox.looksAt ops)∧(∀d,oj.dst=some d->ox.dst≠some d):=by
   intro x ox hox hcx hx;have nxi:x≠i:=λe=>hx (e▸hmem);have nxj:x≠j:=λe=>hx (e▸hj);exact⟨L.look x i ox oi hox hi hcx (λ_=>hdc x hx i hmem),L.one x i ox oi hox hi hcx nxi,L.look x j ox oj hox hoj hcx (λ_=>hdc x hx j hj),L.one x j ox oj hox hoj hcx nxj⟩
  -- what is wanted
  have W:kR P ops oj ρ h λu h1=>AG P ops b j rem (upd ρ oj.dst u) h1∧kR P ops oi ρ h1 λv h2=>
    AG P ops b i (rem.erase j) (upd (upd ρ oj.dst u) oi.dst v) h2∧aHK P ops b k n ((rem.erase j).erase i) (upd (upd ρ oj.dst u) oi.dst v) h2:=by
   have agI:∀v u h1,(mF P oj.op= .p∨mF P oj.op= .a)->AG P ops b i rem (upd ρ oi.dst v) h1->AG P ops b i (rem.erase j) (upd (upd ρ oj.dst u) oi.dst v) h1:=by
    intro v u h1 hcj hag oi' hi' hce x ox hox hcx hx hxi hb;have hxr:x∉rem:=λhm=>by
     by_cases e:x=j
     ·subst e;rw[hoj] at hox;cases hox;rcases hcj with hcj|hcj<;>rw[hcj] at hcx<;>cases hcx
     ·exact hx ((List.mem_erase_of_ne e).2 hm)
    obtain⟨_,_,l2,d2⟩:=early x ox hox hcx hxr;rw[←eC,aO8 l2 d2];exact hag oi' hi' hce x ox hox hcx hxr hxi hb
   have agI0:mF P oi.op≠ .e->∀rem ρ h,AG P ops b i rem ρ h:=λhc rem ρ h oi' hi' hce=>by rw[hi] at hi';cases hi';exact absurd hce hc
   have agJ0:mF P oj.op≠ .e->∀rem ρ h,AG P ops b j rem ρ h:=λhc rem ρ h oj' hj' hce=>by rw[hoj] at hj';cases hj';exact absurd hce hc
   -- from behind both to behind the second alone
   have agJ:∀v u h2,AG P ops b j (rem.erase i) (upd (upd ρ oj.dst u) oi.dst v) h2->AG P ops b j rem (upd ρ oj.dst u) h2:=by
    intro v u h2 hag oj' hj' hce x ox hox hcx hx hxj hb;obtain⟨l1,d1,_,_⟩:=early x ox hox hcx hx;have:=hag oj' hj' hce x ox hox hcx (λhm=>hx (aL7 hm)) hxj hb
    rwa [aO8 l1 d1] at this
   cases ci:mF P oi.op with
   | p=>
    have hne:mF P oi.op≠ .e:=by rw[ci];intro h;cases h
    obtain⟨x,hx⟩:=aNW (ops:=ops) (ρ:=ρ) ci;obtain⟨v,e,hv⟩:=fV.1 ((hx _ _).1 H1);exact keU.mono hv.2 λu h2 hh=>⟨agJ v u h2 hh.1,(hx _ _).2 (fV.2 ⟨v,e,agI0 hne _ _ _,hh.2⟩)⟩
   | r=>
    have hne:mF P oi.op≠ .e:=by rw[ci];intro h;cases h
    have hx:=λh kv=>aPO (P:=P) (ops:=ops) (ρ:=ρ) ci h kv;obtain⟨v,e,hv⟩:=fV.1 ((hx _ _).1 H1);by_cases cj:mF P oj.op= .e
    ·refine keU.mono hv.2 λu h2 hh=>⟨agJ v u h2 hh.1,(hx _ _).2 (fV.2 ⟨v,?_,agI0 hne _ _ _,hh.2⟩)⟩;have hf:=hh.1 oj hoj cj i oi hi ci (λhm=>(List.Nodup.mem_erase_iff hnd).1 hm |>.1 rfl) (Ne.symm hji) hbji;have hself:=L.look i i oi oi hi hi ci (λe=>absurd rfl e);have hjl:=hap.2.2;unfold aOK at e ⊢;split at e
     ·rename_i hw;rw[if_pos hw];obtain⟨d,hd⟩:=Option.isSome_iff_exists.1 (L.own i oi hi ci);have hw2:aCV ops oi (upd (upd ρ oj.dst u) oi.dst v)=true:=by
       unfold aCV at hw ⊢;cases hg:oi.guard with
       | none=>rfl
       | some gw=>obtain⟨g,want⟩:=gw;simp only[hg] at hw;simp only[aJA hg hself,aJA hg hjl];exact hw
      have:=hf hw2;rw[aM8 hself,aM8 hjl,hd] at this;simpa[upd] using this
     ·rename_i hw;rw[if_neg hw];exact e
    ·cases cj':mF P oj.op with
     | e=>exact absurd cj' cj
     | p=>
      obtain⟨y,hy⟩:=aNW (ops:=ops) (ρ:=ρ) cj';obtain⟨u,e',hu⟩:=fV.1 ((hy _ _).1 hv.2);exact(hy _ _).2 (fV.2 ⟨u,e',agJ0 cj _ _ _,(hx _ _).2 (fV.2 ⟨v,e,agI0 hne _ _ _,hu.2⟩)⟩)
     | r=>
      have hy:=λh kv=>aPO (P:=P) (ops:=ops) (ρ:=ρ) cj' h kv;obtain⟨u,e',hu⟩:=fV.1 ((hy _ _).1 hv.2);exact(hy _ _).2 (fV.2 ⟨u,e',agJ0 cj _ _ _,(hx _ _).2 (fV.2 ⟨v,e,agI0 hne _ _ _,hu.2⟩)⟩)
     | a=>
      have H2:kR P ops oi ρ h λv h1=>kR P ops oj ρ h1 λu h2=>aHK P ops b k n ((rem.erase j).erase i) (upd (upd ρ oj.dst u) oi.dst v) h2:=
       keT.mono H1 λv h1 hh=>keU.mono hh.2 λu h2 h3=>h3.2
      have H3:kR P ops oj ρ h λu h1=>kR P ops oi ρ h1 λv h2=>aHK P ops b k n ((rem.erase j).erase i) (upd (upd ρ oj.dst u) oi.dst v) h2:=by
       rcases aNY (P:=P) (ops:=ops) (ρ:=ρ) cj' with ha|hp'
       ·exact aYS (aW4 ci) ha H2
       ·exact aIY keT hp' hr H2
      exact keU.mono H3 λu h1 hh=>⟨agJ0 cj _ _ _,keT.mono hh λv h2 h3=>⟨agI0 hne _ _ _,h3⟩⟩
   | a=>
    have hne:mF P oi.op≠ .e:=by rw[ci];intro h;cases h
    have cj:mF P oj.op≠ .e:=by intro hc;rw[ci,hc] at hp;cases hp
    have H2:kR P ops oi ρ h λv h1=>kR P ops oj ρ h1 λu h2=>aHK P ops b k n ((rem.erase j).erase i) (upd (upd ρ oj.dst u) oi.dst v) h2:=
     keT.mono H1 λv h1 hh=>keU.mono hh.2 λu h2 h3=>h3.2
    have H3:kR P ops oj ρ h λu h1=>kR P ops oi ρ h1 λv h2=>aHK P ops b k n ((rem.erase j).erase i) (upd (upd ρ oj.dst u) oi.dst v) h2:=by
     cases cj':mF P oj.op with
     | e=>exact absurd cj' cj
     | p=>exact aIY keT (aNW cj') hr H2
     | r=>rw[ci,cj'] at hp;cases hp
     | a=>
      rcases aNY (P:=P) (ops:=ops) (ρ:=ρ) ci with hti|hti
      ·rcases aNY (P:=P) (ops:=ops) (ρ:=ρ) cj' with ha|hp'
       ·exact aXQ hti ha hr H2
       ·exact aIY keT hp' hr H2
      ·exact aZh hti keU H2
    exact keU.mono H3 λu h1 hh=>⟨agJ0 cj _ _ _,keT.mono hh λv h2 h3=>⟨agI0 hne _ _ _,h3⟩⟩
   | e=>
    have cj:mF P oj.op= .p∨mF P oj.op= .a:=by
     cases cj':mF P oj.op with
     | p=>exact .inl rfl
     | a=>exact .inr rfl
     | r=>rw[ci,cj'] at hp;cases hp
     | e=>rw[ci,cj'] at hp;cases hp
    have cj0:mF P oj.op≠ .e:=by rcases cj with cj|cj<;>rw[cj]<;>intro h<;>cases h
    have H2:kR P ops oi ρ h λv h1=>kR P ops oj ρ h1 λu h2=>AG P ops b i (rem.erase j) (upd (upd ρ oj.dst u) oi.dst v) h2∧aHK P ops b k n ((rem.erase j).erase i) (upd (upd ρ oj.dst u) oi.dst v) h2:=by
     refine keT.mono H1 λv h1 hh=>?_;have kp:KP (kR P ops oj ρ)->kR P ops oj ρ h1 λu h2=>AG P ops b i (rem.erase j) (upd (upd ρ oj.dst u) oi.dst v) h2∧aHK P ops b k n ((rem.erase j).erase i) (upd (upd ρ oj.dst u) oi.dst v) h2:=by
      rintro⟨y,hy⟩;obtain⟨u,e,hu⟩:=fV.1 ((hy _ _).1 hh.2);exact(hy _ _).2 (fV.2 ⟨u,e,agI v u h1 cj hh.1,hu.2⟩)
     rcases cj with cp|ca
     ·exact kp (aNW cp)
     ·rcases aNY (P:=P) (ops:=ops) (ρ:=ρ) ca with⟨y,hy⟩|hp'
      ·obtain⟨z,e,hz⟩:=fV.1 ((hy _ _).1 hh.2);refine(hy _ _).2 (fV.2 ⟨z,e,λr hn=>?_⟩);obtain⟨u,e2,hu⟩:=fV.1 (hz r hn);refine fV.2 ⟨u,e2,?_,hu.2⟩;intro oi' hi' hce x ox hox hcx hx hxi hb;exact aTV (L.own x ox hox hcx) (agI v u h1 (.inr ca) hh.1 oi' hi' hce x ox hox hcx hx hxi hb) hn
      ·exact kp hp'
    have H3:kR P ops oj ρ h λu h1=>kR P ops oi ρ h1 λv h2=>AG P ops b i (rem.erase j) (upd (upd ρ oj.dst u) oi.dst v) h2∧aHK P ops b k n ((rem.erase j).erase i) (upd (upd ρ oj.dst u) oi.dst v) h2:=by
     rcases cj with cp|ca
     ·exact aIY keT (aNW cp) hr H2
     ·rcases aNY (P:=P) (ops:=ops) (ρ:=ρ) ca with ha|hp'
      ·exact aXs keT ha hr H2
      ·exact aIY keT hp' hr H2
    exact keU.mono H3 λu h1 hh=>⟨agJ0 cj0 _ _ _,hh⟩
  refine keU.mono (keU.real W hr) λu h1 ⟨⟨hag,hst⟩,hr1⟩=>⟨hag,?_⟩;rw[←eT u] at hst;refine ih (rem.erase j) (upd ρ oj.dst u) h1 (by rw[List.length_erase_of_mem hj];omega) (hnd.erase j) ?_ hr1 hmemi (λx hx=>hrdy x (aL7 hx)) (λj' oj' hj' hne ho hb=>hpair j' oj' (aL7 hj') hne ho hb) hst;intro y hy x hx;by_cases e:y=j
  ·subst e;exact hjr x (aL7 hx)
  ·exact hdc y (λhm=>hy ((List.mem_erase_of_ne e).2 hm)) x (aL7 hx)
def aPl(P:Program)(ops:Array Oper):List Nat->lO->PH->Prop->Prop
 | [],_,_,K=>K
 | x::xs,ρ,h,K=>match ops[x]? with
  | none=>False
  | some o=>match o.guard with
   | none=>cG P h (wU ρ o)=o.dst.map ρ∧aPl P ops xs ρ h K
   | some (g,want)=>((aIe ops ρ g==some want)=true->cG P h (wU ρ o)=o.dst.map ρ)∧aPl P ops xs ρ h K
def aNA(P:Program)(ops:Array Oper)(b:Array Nat)(k:lO->PH->Prop):List Nat->List Nat->lO->PH->Prop
 | _,[],ρ,h=>k ρ h
 | pend,i::rest,ρ,h=>match ops[i]? with
  | none=>False
  | some o=>kR P ops o ρ h λv h'=>match mF P o.op with
   | .e=>aPl P ops (pend.filter λx=>!bit b i x) (upd ρ o.dst v) h' (aNA P ops b k pend rest (upd ρ o.dst v) h')
   | .r=>aNA P ops b k (i::pend) rest (upd ρ o.dst v) h'
   | _=>aNA P ops b k pend rest (upd ρ o.dst v) h'
def aTj(P:Program)(ops:Array Oper)(i:Nat):Cls:=match ops[i]? with
 | some o=>mF P o.op
 | none=>.e
def isR:Cls->Bool
 | .r=>true
 | _=>false
def aTS(P:Program)(ops:Array Oper)(b:Array Nat):List Nat->Bool
 | []=>true
 | i::rest=>!bit b i i&&rest.all (λj=>!bit b i j&&(bit b j i||aTt (aTj P ops i) (aTj P ops j)))&&aTS P ops b rest
def aTq(P:Program)(ops:Array Oper)(b:Array Nat):Bool:=
 (List.range ops.size).all λx=>(List.range ops.size).all λy=>match ops[x]?,ops[y]? with
  | some ox,some oy=>(x==y||bit b x y||bit b y x||ox.apart ops oy) &&
   (!isR (mF P ox.op)||((x !=y&&bit b x y)||match oy.dst with
    | none=>true
    | some d=>!(ox.looksAt ops).contains d)&&ox.dst.isSome&&(x==y||oy.dst.isNone||ox.dst !=oy.dst))
  | _,_=>true
def aS4(ops:Array Oper)(b:Array Nat):Bool:=
 (List.range ops.size).all λi=>match ops[i]? with
  | some o=>(o.after.all λe=>!Region.binds .any e||e.on<i) &&
   (List.range ops.size).all λx=>!bit b i x||o.after.any λe=>Region.binds .any e&&(e.on==x||bit b e.on x)
  | none=>true
def aRk:List Nat->Bool
 | []=>true
 | x::xs=>!xs.contains x&&aRk xs
def aQ6(P:Program)(ops:Array Oper)(b:Array Nat)(ord:List Nat):Bool:=
 ord.length==ops.size&&b.size==ops.size&&ord.all (· < ops.size)&&(List.range ops.size).all (ord.contains ·)&&aRk ord&&aTS P ops b ord&&aTq P ops b&&aS4 ops b
def aYM{P:Program}{ops:Array Oper}{b:Array Nat}(h:aTq P ops b=true):aVT P ops b:=by
 unfold aTq at h;simp only[aE6,aLM] at h;have lt:∀{x:Nat} {o:Oper},ops[x]? =some o->x<ops.size:=λh=>(aJx.1 h).1;have key:∀(x y:Nat) (ox oy:Oper),ops[x]? =some ox->ops[y]? =some oy->((x==y||bit b x y||bit b y x||ox.apart ops oy) &&
   (!isR (mF P ox.op)||((x !=y&&bit b x y)||match oy.dst with
    | none=>true
    | some d=>!(ox.looksAt ops).contains d)&&ox.dst.isSome&&(x==y||oy.dst.isNone||ox.dst !=oy.dst)))=true:=by
  intro x y ox oy hx hy;have:=h x (lt hx) y (lt hy);simpa only[hx,hy] using this
 have isr:∀{c:Cls},c= .r->isR c=true:=λe=>by rw[e];rfl
 constructor
 ·intro x y ox oy hx hy hne h1 h2;have:=(yH _ _▸key x y ox oy hx hy).1;simpa[hne,h1,h2] using this
 ·intro x y ox oy hx hy hc h1 d hd;have:=(yH _ _▸key x y ox oy hx hy).2;rw[isr hc] at this;simp only[Bool.not_true,aKk,yH,hd] at this;rcases Bool.or_eq_true _ _▸this.1.1 with h3|h3
  ·simp only[yH,bne_iff_ne] at h3;rw[h1 h3.1] at h3;cases h3.2
  ·simpa using h3
 ·intro x ox hx hc;have:=(yH _ _▸key x x ox ox hx hx).2;rw[isr hc] at this;simp only[Bool.not_true,aKk,yH] at this;exact this.1.2
 ·intro x y ox oy hx hy hc hne d hd;have:=(yH _ _▸key x y ox oy hx hy).2;rw[isr hc] at this;simp only[Bool.not_true,aKk,yH] at this;have h3:=this.2;rw[hd] at h3;simpa[hne] using h3
def aRM{P:Program}{ops:Array Oper}{ρ:lO}{h:PH}{K:Prop}:∀{l:List Nat},aPl P ops l ρ h K->K∧∀x∈l,∃o,ops[x]? =some o∧aHU P ops o ρ h
 | [],hk=>⟨hk,λ_ hx=>by cases hx⟩
 | x::xs,hk=>by
  unfold aPl at hk;split at hk
  ·exact hk.elim
  ·rename_i o ho;have hboth:aHU P ops o ρ h∧aPl P ops xs ρ h K:=by
    unfold aHU aCV;cases hg:o.guard with
    | none=>simp only[hg] at hk;exact⟨λ_=>hk.1,hk.2⟩
    | some gw=>obtain⟨g,want⟩:=gw;simp only[hg] at hk;exact⟨λhw=>hk.1 hw,hk.2⟩
   obtain⟨hK,hrest⟩:=aRM hboth.2;exact⟨hK,λy hy=>by
    rcases gU.1 hy with rfl|hy
    ·exact⟨o,ho,hboth.1⟩
    ·exact hrest y hy⟩
def aVy{P:Program}{ops:Array Oper}{b:Array Nat}{k:lO->PH->Prop}(L:aVT P ops b):
  ∀(rest pend:List Nat) (ρ:lO) (h:PH),aTS P ops b rest=true->rest.Nodup->(∀y,y∉rest->∀x∈rest,bit b y x=false)->Rl h->
   (∀x ox,ops[x]? =some ox->mF P ox.op= .r->x∉rest->x∈pend)->aNA P ops b k pend rest ρ h->aHK P ops b k rest.length rest ρ h:=by
 intro rest;induction rest with
 | nil=>intro pend ρ h _ _ _ _ _ H;exact H
 | cons i rest ih=>
  intro pend ρ h hord hnd hdc hr hpend H;unfold aNA at H;split at H
  ·exact H.elim
  ·rename_i o hi;simp only[aTS,yH,Bool.not_eq_true',aE6] at hord;obtain⟨⟨hii,hall⟩,hrest⟩:=hord;obtain⟨hnot,hnd'⟩:=aKv.1 hnd;have hrdy:∀x∈i::rest,bit b i x=false:=λx hx=>by
    rcases gU.1 hx with rfl|hx
    ·exact hii
    ·exact(hall x hx).1
   have hdc':∀y,y∉rest->∀x∈rest,bit b y x=false:=λy hy x hx=>by
    by_cases e:y=i
    ·subst e;exact(hall x hx).1
    ·exact hdc y (λhm=>by rcases gU.1 hm with hm|hm;exact e hm;exact hy hm) x (List.mem_cons_of_mem _ hx)
   refine aT5 L hi rest.length (i::rest) ρ h rfl hnd hdc hr (aPP) hrdy (λj oj hj hne hoj hb=>?_) ?_
   ·have hj':j∈rest:=(gU.1 hj).resolve_left hne;have:=(hall j hj').2;rw[hb,aKk] at this;simpa only[aTj,hi,hoj] using this
   ·have ke:KE (kR P ops o ρ):=aOq;refine ke.mono (ke.real H hr) λv h' ⟨hh,hr'⟩=>?_;rw[List.erase_cons_head];cases hc:mF P o.op with
    | e=>
     simp only[hc] at hh;obtain⟨hK,hags⟩:=aRM hh;refine⟨λoi hoi hce x ox hox hcx hx hxi hb=>?_,ih pend _ _ hrest hnd' hdc' hr' (λx ox hox hcx hx=>?_) hK⟩
     ·obtain⟨o',ho',hf⟩:=hags x (zL2.2 ⟨hpend x ox hox hcx hx,by simp[hb]⟩);rw[hox] at ho';cases ho';exact hf
     ·refine hpend x ox hox hcx λhm=>?_;rcases gU.1 hm with rfl|hm
      ·rw[hi] at hox;cases hox;rw[hc] at hcx;cases hcx
      ·exact hx hm
    | r=>
     simp only[hc] at hh;refine⟨λoi hoi hce=>(by rw[hi] at hoi;cases hoi;rw[hc] at hce;cases hce),ih (i::pend) _ _ hrest hnd' hdc' hr' (λx ox hox hcx hx=>?_) hh⟩;by_cases e:x=i
     ·subst e;exact aPP
     ·exact List.mem_cons_of_mem _ (hpend x ox hox hcx λhm=>by rcases gU.1 hm with hm|hm;exact e hm;exact hx hm)
    | p=>
     simp only[hc] at hh;refine⟨λoi hoi hce=>(by rw[hi] at hoi;cases hoi;rw[hc] at hce;cases hce),ih pend _ _ hrest hnd' hdc' hr' (λx ox hox hcx hx=>?_) hh⟩;refine hpend x ox hox hcx λhm=>?_;rcases gU.1 hm with rfl|hm
     ·rw[hi] at hox;cases hox;rw[hc] at hcx;cases hcx
     ·exact hx hm
    | a=>
     simp only[hc] at hh;refine⟨λoi hoi hce=>(by rw[hi] at hoi;cases hoi;rw[hc] at hce;cases hce),ih pend _ _ hrest hnd' hdc' hr' (λx ox hox hcx hx=>?_) hh⟩;refine hpend x ox hox hcx λhm=>?_;rcases gU.1 hm with rfl|hm
     ·rw[hi] at hox;cases hox;rw[hc] at hcx;cases hcx
     ·exact hx hm
structure aA9(n:Nat)(D:List Deferred)(ρ:lO)(a:Act):Prop where
 defers:a.defers=D
 size:a.tmps.size=n
 slot:∀t,a.tmps.getD t undef=ρ t
def aA9.ev{n:Nat}{D:List Deferred}{ρ:lO}{a:Act}(hm:aA9 n D ρ a):a.eval=ev ρ:=by
 funext x;cases x with
 | tmp t=>exact hm.slot t
 | _=>rfl
def aA9.put{n:Nat}{D:List Deferred}{ρ:lO}{a:Act}(hm:aA9 n D ρ a){d:Option Tmp}(hd:∀t,d=some t->t<n)(v:Value):aA9 n D (upd ρ d v) (a.put d v):=by
 cases d with
 | none=>exact hm
 | some t=>
  refine⟨hm.defers,by simp[Act.put,hm.size],λs=>?_⟩;have ht:t<a.tmps.size:=by rw[hm.size];exact hd t rfl
  simp only[Act.put,upd,aJe,Array.getElem?_setIfInBounds];by_cases e:s=t
  ·subst e;simp[ht]
  ·rw[if_neg (Ne.symm e),if_neg e,←aJe];exact hm.slot s
def aA9.want{n:Nat}{D:List Deferred}{ρ:lO}{a:Act}(hm:aA9 n D ρ a)(ops:Array Oper)(o:Oper):Region.wanted o (yielded ops a.tmps)=aCV ops o ρ:=by
 unfold Region.wanted aCV;cases hg:o.guard with
 | none=>rfl
 | some gw=>
  obtain⟨g,want⟩:=gw;have:yielded ops a.tmps g=aIe ops ρ g:=by
   unfold yielded aIe;cases hd:(ops[g]?).bind (·.dst) with
   | none=>rfl
   | some t=>
    have hs:=hm.slot t;simp only[aDW];rw[aJe] at hs;cases hx:a.tmps[t]? with
    | none=>rw[hx] at hs;simp only[Option.getD_none] at hs;rw[←hs];rfl
    | some v=>rw[hx] at hs;simp only[aIu] at hs;rw[←hs];cases v<;>rfl
  simp only[this]
abbrev aIN(r:Option Nat):Fence:={Fence.wide with round:=r}
def aMA{r:Option Nat}{n:Nat}{P:Program}{f:FuncId}{args:Array Value}{w:World}{R:Ending->World->Prop}(h:Calls P f args w R):CallsIn (aIN r) n P f args w R:=
 (callsIn_wide (n:=n)).2 h
def aQe{r:Option Nat}{n m:Nat}{P:Program}{l:Nat}{f:FuncId}{tmps:Array Value}{assign body:Code}{w:World}{R:Ending->World->Prop}(h:RoundIn Fence.wide m P l f tmps assign body w R):RoundIn (aIN r) n P l f tmps assign body w R:=
 ⟨trivial,λc cs _=>h.2 c cs (room_wide _)⟩
def aSk{r:Option Nat}{N:Nat}{P:Program}{ops:Array Oper}{i:Nat}{o:Oper}{ρ:lO}{h:PH}{kv:cD}{n:Nat}{D:List Deferred}{a:Act}{w:World}{Q:Exit->Act->World->Prop}{K:Act->World->Prop}
  (hi:ops[i]? =some o) (hs:kR P ops o ρ h kv) (hm:aA9 n D ρ a) (hsub:qG h w) (hk:∀v h' w',kv v h'->qG h' w'->Fr h w h' w'->K (a.put o.dst v) w'):wpOpIn (aIN r) N P ops Q i K a w:=by
 unfold wpOpIn;simp only[hi];rw[aAr] at hs;rw[hm.want];by_cases hw:aCV ops o ρ=true
 ·rw[if_pos hw] at hs ⊢;unfold Oper.wpIn;refine⟨λ_ _=>trivial,?_⟩;rw[Oper.semAt_eq _ _ _ hs.noDefer,hm.ev];obtain⟨x,w',h',hrun,hn,hs',hf⟩:=hs.exec.sound hsub;rw[hrun];cases x with
  | value v=>exact hk v h' w' hn hs' hf
  | skip=>exact hk undef h' w' hn hs' hf
  | enter f args=>
   refine⟨λh=>by simp[Fence.wide] at h,aMA ((hn w' hs').mono λe w2 ⟨v,h2,he,hv,hs2,hf2⟩=>?_)⟩;subst he;exact hk v h2 w2 hv hs2 (hf.trans hf2)
  | round l f tmps assign body=>
   refine⟨λh=>by simp[Fence.wide] at h,aQe (RoundIn.mono (hn w' hs') λe w2 ⟨v,h2,he,hv,hs2,hf2⟩=>?_)⟩;subst he;exact hk v h2 w2 hv hs2 (hf.trans hf2)
  | _=>exact hn.elim
 ·rw[if_neg hw] at hs ⊢;exact⟨λ_ _=>trivial,hk undef h w hs hsub (Fr.refl _ _)⟩
def aOD(n:Nat)(o:Oper):Bool:=match o.dst with
 | some d=>d<n
 | none=>true
def aUc{n:Nat}{o:Oper}(h:aOD n o=true):∀t,o.dst=some t->t<n:=by
 intro t ht;unfold aOD at h;rw[ht] at h;simpa using h
def aLB(b:Nat):Deferred:={target:=.collected b,args:=#[]}
def aCZ(w0:World)(D:List Deferred)(h:PH)(w:World):Prop:=
 ∃bs:List Nat,bs.Nodup∧D=bs.map aLB∧∀b∈bs,w0.heap.size≤b∧b<w.heap.size∧h b=none∧w.heap[b]? =some (.deferred (some []))
def aCZ.step{w0:World}{D:List Deferred}{h h':PH}{w w':World}(hd:aCZ w0 D h w)(hf:Fr h w h' w'):aCZ w0 D h' w':=by
 obtain⟨bs,h1,h2,h3⟩:=hd;refine⟨bs,h1,h2,λb hb=>?_⟩;obtain⟨a1,a2,a3,a4⟩:=h3 b hb;exact⟨a1,aLl a2 hf.size,hf.none b a2 a3,(hf.far b a2 a3).trans a4⟩
def aCZ.nil(w0:World)(h:PH)(w:World):aCZ w0 [] h w:=⟨[],List.nodup_nil,rfl,λb hb=>by cases hb⟩
def QW(n:Nat)(Q:Exit->lO->PH->Prop)(h0:PH)(w0:World):Exit->Act->World->Prop:=λe a w=>∃ρ h D,Q e ρ h∧aA9 n D ρ a∧qG h w∧Fr h0 w0 h w∧aCZ w0 D h w
def aYw{r:Option Nat}{N:Nat}{P:Program}{ops:Array Oper}{n:Nat}{D:List Deferred}{Q:Exit->lO->PH->Prop}{h0:PH}{w0:World}(hd:∀o∈ops,aOD n o=true):
  ∀(m k:Nat) (ρ:lO) (h:PH) (a:Act) (w:World),k+m=ops.size->aS0 P ops (Q .normal) (ops.toList.drop k) ρ h->aA9 n D ρ a->qG h w->Fr h0 w0 h w->aCZ w0 D h w->
   wpOpsIn (aIN r) N P ops (QW n Q h0 w0) (List.range' k m) a w:=by
 intro m;induction m with
 | zero=>
  intro k ρ h a w hk H hm hs hf hD;rw[aLf (by simp;omega)] at H;exact⟨ρ,h,D,H,hm,hs,hf,hD⟩
 | succ m ih=>
  intro k ρ h a w hk H hm hs hf hD;have hlt:k<ops.size:=by omega
  have hget:ops[k]? =some ops[k]:=Array.getElem?_eq_getElem hlt;rw[aHG (by simpa using hlt)] at H;rw[List.range'_succ,wpOpsIn_cons];refine aSk hget H hm hs λv h' w' hv hs' hf'=>?_;exact ih (k+1) _ _ _ _ (by omega) hv (hm.put (aUc (hd _ (Array.getElem_mem hlt))) v) hs' (hf.trans hf') (hD.step hf')
def aZt{r:Option Nat}{N:Nat}{P:Program}{ops:Array Oper}{b:Array Nat}{n:Nat}{D:List Deferred}{Q:Exit->lO->PH->Prop}{h0:PH}{w0:World}(hd:∀o∈ops,aOD n o=true)(hc:aS4 ops b=true):
  ∀(m:Nat) (rem:List Nat) (listed:Array Bool) (ρ:lO) (h:PH) (a:Act) (w:World),rem.length=m->rem.Nodup->(∀x,x∈rem↔x<ops.size∧listed.getD x true=false)->listed.size=ops.size->
   (∀y,y∉rem->∀x∈rem,bit b y x=false)->aHK P ops b (Q .normal) m rem ρ h->aA9 n D ρ a->qG h w->Fr h0 w0 h w->aCZ w0 D h w->
   wpAnyIn (aIN r) N P .any ops (QW n Q h0 w0) m listed a w:=by
 unfold aS4 at hc;simp only[aE6,aLM] at hc;have hcl:∀(i:Nat) (o:Oper),ops[i]? =some o->(∀e∈o.after,Region.binds .any e=true->e.on<i)∧∀x,x<ops.size->bit b i x=true->∃e∈o.after,Region.binds .any e=true∧(e.on=x∨bit b e.on x=true):=by
  intro i o hi;have:=hc i (aJx.1 hi).1;simp only[hi,yH,aE6,aLM] at this;refine⟨λe he hb=>?_,λx hx hb=>?_⟩
  ·have h1:=Array.all_eq_true_iff_forall_mem.1 this.1 e he;simpa[hb] using h1
  ·have h1:=this.2 x hx;rw[hb] at h1;simp only[Bool.not_true,aKk] at h1;obtain⟨e,he,h2⟩:=Array.any_eq_true'.1 h1;simp only[yH,Bool.or_eq_true,beq_iff_eq] at h2;exact⟨e,he,h2⟩
 intro m;induction m with
 | zero=>
  intro rem listed ρ h a w hlen hnd hrem hsz hdc H hm hs hf hD;have:rem=[]:=zLO hlen;subst this;refine⟨?_,ρ,h,D,H,hm,hs,hf,hD⟩;rw[List.eq_nil_iff_forall_not_mem];intro j hj;obtain⟨h1,o,ho,_⟩:=mem_ready.1 hj;have:=(hrem j).2 ⟨(aJx.1 ho).1,h1⟩;cases this
 | succ m ih=>
  intro rem listed ρ h a w hlen hnd hrem hsz hdc H hm hs hf hD;have hlisted:∀x,x<ops.size->x∉rem->listed.getD x false=true:=by
   intro x hx hn;cases hv:listed.getD x true with
   | false=>exact absurd ((hrem x).2 ⟨hx,hv⟩) hn
   | true=>
    have hlt:x<listed.size:=by omega
    simpa[aJe,hlt] using hv
  refine⟨λhr=>?_,λi hir=>?_⟩
  ·-- the lowest one that is left may come up
   exfalso;have hne:rem≠[]:=λe=>by rw[e] at hlen;cases hlen
   have hmin:∃i∈rem,∀x∈rem,i≤x:=by
    clear hlen hnd hrem hdc H hlisted;induction rem with
    | nil=>exact absurd rfl hne
    | cons y ys ihy=>
     by_cases hys:ys=[]
     ·subst hys;exact⟨y,aPP,λx hx=>by simp at hx;omega⟩
     ·obtain⟨i,hi,hle⟩:=ihy hys;by_cases hyi:y≤i
      ·exact⟨y,aPP,λx hx=>by
        rcases gU.1 hx with rfl|hx
        ·omega
        ·have:=hle x hx;omega⟩
      ·exact⟨i,List.mem_cons_of_mem _ hi,λx hx=>by
        rcases gU.1 hx with rfl|hx
        ·omega
        ·exact hle x hx⟩
   obtain⟨i,hi,hle⟩:=hmin;obtain⟨hlt,hun⟩:=(hrem i).1 hi;have:i∈Region.ready .any ops listed:=by
    rw[mem_ready];refine⟨hun,ops[i],Array.getElem?_eq_getElem hlt,λe he hb=>?_⟩;have hlt2:=(hcl i _ (Array.getElem?_eq_getElem hlt)).1 e he hb;exact hlisted _ (by omega) (λhm=>by have:=hle _ hm;omega)
   rw[hr] at this;cases this
  ·obtain⟨hun,o,ho,hall⟩:=mem_ready.1 hir;have hlt:=(aJx.1 ho).1;have hmem:i∈rem:=(hrem i).2 ⟨hlt,hun⟩;have hrdy:∀x∈rem,bit b i x=false:=by
    intro x hx;cases hb:bit b i x with
    | false=>rfl
    | true=>
     exfalso;obtain⟨e,he,hbi,hor⟩:=(hcl i o ho).2 x ((hrem x).1 hx).1 hb;have hl:=hall e he hbi;have hlt2:=(hcl i o ho).1 e he hbi;have hne:e.on∉rem:=λhm=>by
      have:=((hrem _).1 hm).2;have hsz':e.on<listed.size:=by omega
      simp[aJe,hsz'] at this hl;rw[this] at hl;cases hl
     rcases hor with rfl|hor
     ·exact hne hx
     ·rw[hdc _ hne x hx] at hor;cases hor
   obtain⟨o',ho',hst⟩:=H i hmem hrdy;rw[ho] at ho';cases ho';refine aSk ho hst hm hs λv h' w' hv hs' hf'=>?_;refine ih (rem.erase i) (listed.setIfInBounds i true) _ _ _ _ (by rw[List.length_erase_of_mem hmem];omega) (hnd.erase i) (λx=>?_) (by simpa using hsz) ?_ hv.2 (hm.put (aUc (hd _ (Array.mem_of_getElem? ho))) v) hs' (hf.trans hf') (hD.step hf')
   ·rw[hnd.mem_erase_iff,hrem];by_cases e:x=i
    ·subst e;have:x<listed.size:=by omega
     simp[aJe,this]
    ·rw[getD_set_ne true (Ne.symm e)];simp[e]
   ·intro y hy x hx;by_cases e:y=i
    ·subst e;exact hrdy x (aL7 hx)
    ·exact hdc y (λhm'=>hy ((List.mem_erase_of_ne e).2 hm')) x (aL7 hx)
def aX4{r:Option Nat}{N:Nat}{D:List Deferred}{P:Program}{id:Nat}{ops:Array Oper}{b:Array Nat}{ord:List Nat}{n:Nat}{Q:Exit->lO->PH->Prop}{h0:PH}{w0:World}{ρ:lO}{h:PH}{a:Act}{w:World}
  (hmix:P.follows .mixedOrders=true) (hd:∀o∈ops,aOD n o=true) (hok:aQ6 P ops b ord=true) (H:aNA P ops b (Q .normal) [] ord ρ h) (hm:aA9 n D ρ a) (hs:qG h w) (hf:Fr h0 w0 h w) (hD:aCZ w0 D h w):
  (Code.region id ops true).wpIn (aIN r) N P (QW n Q h0 w0) a w:=by
 unfold aQ6 at hok;simp only[yH,beq_iff_eq,aE6,decide_eq_true_eq] at hok;obtain⟨⟨⟨⟨⟨⟨⟨hlen,hbs⟩,hlt⟩,hcov⟩,hnd⟩,hord⟩,hlaid⟩,hclos⟩:=hok;have hnodup:ord.Nodup:=by
  clear hlen hlt hord H hcov;induction ord with
  | nil=>exact List.nodup_nil
  | cons x xs ih=>
   simp only[aRk,yH,Bool.not_eq_true'] at hnd;exact aKv.2 ⟨by simpa using hnd.1,ih hnd.2⟩
 have hall:∀x,x<ops.size->x∈ord:=λx hx=>by simpa using hcov x (aLM.2 hx)
 have hdc:∀y,y∉ord->∀x∈ord,bit b y x=false:=by
  intro y hy x hx;have hge:ops.size≤y:=by
   rcases Nat.lt_or_ge y ops.size with h1|h1
   ·exact absurd (hall y h1) hy
   ·exact h1
  unfold bit;rw[aJe,Array.getElem?_eq_none (by omega)];simp
 refine wpIn_region_any hmix ?_;have hs1:qG h {w with drawn:=w.drawn+1}:=hs;have hf1:Fr h0 w0 h {w with drawn:=w.drawn+1}:=⟨hf.os,hf.tape,hf.output,zLE hf.drawn (xS _),hf.size,hf.far,hf.none⟩;have hany:=aVy (aYM hlaid) ord [] ρ h hord hnodup hdc ⟨w,hs⟩ (λx ox hox _ hx=>absurd (hall x (aJx.1 hox).1) hx) H;rw[hlen] at hany;exact aZt hd hclos ops.size ord _ ρ h a _ hlen hnodup (λx=>by
  constructor
  ·intro hx;exact⟨hlt x hx,by simp[aJe,hlt x hx]⟩
  ·intro hx;exact hall x hx.1) (by simp) hdc hany hm hs1 hf1 hD
structure jZ where
 b:Nat->Array Nat
 ord:Nat->List Nat
 keep:Nat->List Nat
 n:Nat:=0
def vL:Code->Nat
 | .region id _ _=>id
 | .seq x _=>vL x
 | .block _ c=>vL c
 | .loop c=>vL c
 | .scope c=>vL c
 | _=>0
abbrev QH:=Exit->lO->PH->Prop
abbrev aKY(next:lO->PH->Prop)(Q:QH):QH
 | .normal,ρ,h=>next ρ h
 | e,ρ,h=>Q e ρ h
abbrev aJq(id:Nat)(Q:QH):QH
 | .exit id',ρ,h=>if id'=id then Q .normal ρ h else Q (.exit id') ρ h
 | e,ρ,h=>Q e ρ h
abbrev aNQ(Q:QH):QH
 | .goto _,_,_=>False
 | e,ρ,h=>Q e ρ h
def dK(v:Value)(A B:Prop):Prop:=match v with
 | .bool true=>A
 | .bool false=>B
 | _=>False
def iL(keep:List Nat)(step:(List Value->PH->Prop)->lO->PH->Prop)(vs:List Value)(h:PH):Prop:=
 ∃(I:gJ) (μ:List Value->PH->Nat),I vs h∧∀ρ h,I (keep.map ρ) h->step (λvs' h'=>I vs' h'∧μ vs' h'<μ (keep.map ρ) h) ρ h
def aD4:Code->List Nat
 | .seq x y=>aD4 x++aD4 y
 | .cond _ x y=>aD4 x++aD4 y
 | .block _ c=>aD4 c
 | .loop c=>aD4 c
 | .scope c=>aD4 c
 | .exit id=>[id]
 | _=>[]
def aW5(kn kr:PH->Prop)(ke:List (Nat×(PH->Prop)))(h:PH):Option Code->Prop
 | none=>kn h
 | some .ret=>kr h
 | some (.exit id)=>∃p∈ke,p.1=id∧p.2 h
 | _=>False
def aIl(P:Program)(n:Nat)(g:Value)(ps:Array Tmp)(assign body:Code)(kn kr:PH->Prop)(ke:List (Nat×(PH->Prop)))(vals:List (Nat×Value))(h:PH):Prop:=match g with
 | .func (.func gf) first captured=>aEz P gf=true∧∀(fn:FuncId) (tmps:Array Value) (l D:Nat),(∀p∈vals,tmps.getD p.1 undef=p.2)->tmps.size=n->h l=none->
   aT P gf (first ++ #[.func (.yield l) #[] #[]]++captured) (h.set l (.loop {state:=.ready,pending:=none,fn,tmps,params:=ps,assign,body,defers:=D}))
    λ_ h'=>dC P (Instr.endLoop l) h' λjump h2=>aW5 kn kr ke h2 jump
 | _=>False
def rR(P:Program)(ann:jZ):Code->QH->lO->PH->Prop
 | .skip,Q,ρ,h=>Q .normal ρ h
 | .region _ ops false,Q,ρ,h=>aS0 P ops (Q .normal) ops.toList ρ h
 | .region id ops true,Q,ρ,h=>aNA P ops (ann.b id) (Q .normal) [] (ann.ord id) ρ h
 | .seq x y,Q,ρ,h=>rR P ann x (aKY (rR P ann y Q) Q) ρ h
 | .cond c x y,Q,ρ,h=>dK (ev ρ c) (rR P ann x Q ρ h) (rR P ann y Q ρ h)
 | .block id c,Q,ρ,h=>rR P ann c (aJq id Q) ρ h
 | .loop c,Q,ρ,h=>iL (ann.keep (vL c)) (λnext ρ h=>rR P ann c (aKY (λρ' h'=>next ((ann.keep (vL c)).map ρ') h') Q) ρ h) ((ann.keep (vL c)).map ρ) h
 | .exit id,Q,ρ,h=>Q (.exit id) ρ h
 | .ret,Q,ρ,h=>Q .ret ρ h
 | .label _,Q,ρ,h=>Q .normal ρ h
 | .scope c,Q,ρ,h=>rR P ann c (aNQ Q) ρ h
 | .rangeFunc g ps assign body,Q,ρ,h=>aIl P ann.n (ev ρ g) ps assign body (Q .normal ρ) (Q .ret ρ) ((aD4 body).map λid=>(id,Q (.exit id) ρ)) ((ann.keep (vL body)).map λt=>(t,ρ t)) h
 | _,_,_,_=>False
def sG:Code->Bool
 | .seq x y=>sG x&&sG y
 | .cond _ x y=>sG x&&sG y
 | .block _ c=>sG c
 | .loop c=>sG c
 | .scope c=>sG c
 | .rangeFunc .. =>false
 | _=>true
def aAN(P:Program)(ann:jZ)(n:Nat):Code->Bool
 | .region _ ops false=>ops.all (aOD n)
 | .region id ops true=>ops.all (aOD n)&&aQ6 P ops (ann.b id) (ann.ord id)
 | .seq x y=>aAN P ann n x&&aAN P ann n y
 | .cond _ x y=>aAN P ann n x&&aAN P ann n y
 | .block _ c=>aAN P ann n c
 | .loop c=>aAN P ann n c
 | .scope c=>aAN P ann n c
 | .rangeFunc _ ps _ _=>ann.n==n
 | _=>true
def cG.run{P:Program}{α:Type}{s:Sem α}:∀{a:α} {h:PH},cG P h s=some a->∀{w:World},qG h w->s.run P w= .ok a w:=by
 induction s with
 | pure a=>intro b h hb w hs;simp only[cG,zL9] at hb;subst hb;rfl
 | load m a k ih=>intro b h hb w hs;obtain⟨v,hv,hb⟩:=aIq.1 hb;simp only[Sem.run,hs.cell hv];exact ih v hb hs
 | shape r k ih=>intro b h hb w hs;obtain⟨v,hv,hb⟩:=aIq.1 hb;simp only[Sem.run,hs.shape hv];exact ih v hb hs
 | frozen a k ih=>intro b h hb w hs;obtain⟨v,hv,hb⟩:=aIq.1 hb;simp only[Sem.run,hs.frozen hv];exact ih _ hb hs
 | program k ih=>intro b h hb w hs;exact ih P hb hs
 | mark m k ih=>intro b h hb w hs;exact ih hb hs
 | getObj r k ih=>
  intro b h hb w hs;simp only[cG] at hb;cases hx:h r with
  | none=>rw[hx] at hb;cases hb
  | some o=>
   rw[hx] at hb;simp only[Sem.run,hs _ _ hx];cases o<;>first|cases hb|exact ih _ hb hs
 | _=>intro b h hb;cases hb
def aSF{r:Option Nat}{N:Nat}{P:Program}{Q:Exit->Act->World->Prop}{c:Code}(I:Nat->Act->World->Prop)(round:∀n a w,I n a w->c.wpIn (aIN r) N P (Exit.then (λa' w'=>∃m,m<n∧I m a' w') Q) a w):
  ∀{n:Nat} {a:Act} {w:World},I n a w->(Code.loop c).wpIn (aIN r) N P Q a w:=by
 intro n a w h0;let J:Act->World->Prop:=λa w=>∃n,I n a w;have least:∀a w,J a w->∃n,I n a w∧∀m,I m a w->n≤m:=by
  intro a w ⟨n,hn⟩;induction n using Nat.strongRecOn with
  | _ n ih=>
   by_cases hx:∃m,m<n∧I m a w
   ·obtain⟨m,hlt,hm⟩:=hx;exact ih m hlt hm
   ·exact⟨n,hn,λm hm=>by
     rcases Nat.lt_or_ge m n with h1|h1
     ·exact absurd ⟨m,h1,hm⟩ hx
     ·exact h1⟩
 let μ:Act->World->Nat:=λa w=> @dite Nat (J a w) (Classical.propDecidable _) (λh=>Classical.choose (least a w h)) (λ_=>0);refine wpIn_loop J μ ⟨n,h0⟩ λa w hJ=>?_;have hμ:μ a w=Classical.choose (least a w hJ):=dif_pos hJ;have hsp:=Classical.choose_spec (least a w hJ);refine wpIn_mono (round _ a w hsp.1) λe a' w' he=>?_;cases e with
 | normal=>
  obtain⟨m,hlt,hm⟩:=he;have hJ':J a' w':=⟨m,hm⟩;have hμ':μ a' w'=Classical.choose (least a' w' hJ'):=dif_pos hJ';refine⟨hJ',?_⟩;rw[hμ,hμ'];exact Nat.lt_of_le_of_lt ((Classical.choose_spec (least a' w' hJ')).2 m hm) hlt
 | _=>exact he
def aEB{P:Program}{b:Frame}{a:Act}{k:List Item}{cs:List Frame}{w:World}{c:Code}:step P (lone (b.atR a (.code (.scope c)::k)) cs w)= .next (lone (b.atR a (.code c :: .inScope c::k)) cs w):=
 step_lone_go (by simp[stepG,stepG.exec,Frame.atR])
def aQZ{P:Program}{b:Frame}{a:Act}{k:List Item}{cs:List Frame}{w:World}{c:Code}:step P (lone (b.atR a (.inScope c::k)) cs w)= .next (lone (b.atR a k) cs w):=
 step_lone_go (by simp[stepG,stepG.exec,Frame.atR])
def aMQ{F:Fence}{n:Nat}{P:Program}{Q:Exit->Act->World->Prop}{a:Act}{w:World}{c:Code}(h:c.wpIn F n P (Exit.noGoto Q) a w):(Code.scope c).wpIn F n P Q a w:=by
 intro b k cs hro hb hr;have h0:(lone (b.atR a (.code (.scope c)::k)) cs w).fenced P F:=fenced_calm hb hr rfl;obtain⟨e,a₁,w₁,hq,harr⟩:=h b (.inScope c::k) cs hro hb hr;cases e with
 | normal=>exact⟨.normal,a₁,w₁,hq,.head h0 aEB (StepsIn.trans harr (.one (fenced_calm hb hr rfl) aQZ))⟩
 | exit id=>
  have hx:exitTo id (.inScope c::k)=exitTo id k:=by simp[exitTo]
  exact⟨.exit id,a₁,w₁,hq,λk' hk=>.head h0 aEB (harr.1 k' (by rw[hx];exact hk)),
   λhr' hk=>let ⟨k₁,h1,h2⟩:=harr.2 hr' (by rw[hx];exact hk);⟨k₁,h1,.head h0 aEB h2⟩⟩
 | goto l=>exact hq.elim
 | ret=>exact⟨_,a₁,w₁,hq,.of_steps (.one h0 aEB) harr⟩
 | panic ch=>exact⟨_,a₁,w₁,hq,.of_steps (.one h0 aEB) harr⟩
 | outgrown=>exact⟨_,a₁,w₁,hq,.of_steps (.one h0 aEB) harr⟩
def aIl.sound{N:Nat}{P:Program}{n:Nat}{D:List Deferred}{h0:PH}{w0:World}{g:Operand}{ps:Array Tmp}{assign body:Code}{Q:QH}{ρ:lO}{h:PH}{vs:List Nat}
  (H:aIl P n (ev ρ g) ps assign body (Q .normal ρ) (Q .ret ρ) ((aD4 body).map λid=>(id,Q (.exit id) ρ)) (vs.map λt=>(t,ρ t)) h) {a:Act} {w:World} (hm:aA9 n D ρ a) (hs:qG h w) (hf:Fr h0 w0 h w) (hD:aCZ w0 D h w):
  (Code.rangeFunc g ps assign body).wpIn (aIN none) N P (QW n Q h0 w0) a w:=by
 unfold aIl at H;split at H
 case h_2=>exact H.elim
 rename_i gf first captured hg
 obtain⟨he,H⟩:=H;refine wpIn_rangeFunc λfn _=>?_;have hs1:qG h (w.alloc (.deferred (some []))):=λb o hb=>by
  have:=hs b o hb;show(w.heap.push _)[b]? =some o;rw[Array.getElem?_push,if_neg (Nat.ne_of_lt (hs.lt hb))];exact this
 have hf1:Fr h w h (w.alloc (.deferred (some []))):=⟨rfl,rfl,rfl,nC _,by rw[World.size_alloc];omega,λb hb _=>by
  show(w.heap.push _)[b]? =_;rw[Array.getElem?_push,if_neg (Nat.ne_of_lt hb)],λ_ _ hn=>hn⟩
 have hfr:h (w.alloc (.deferred (some []))).heap.size=none:=hs1.fresh;have hsz:(w.alloc (.deferred (some []))).heap.size=w.heap.size+1:=World.size_alloc _ _;have hc:=H fn a.tmps (w.alloc (.deferred (some []))).heap.size w.heap.size (λp hp=>by obtain⟨t,_,rfl⟩:=mJ.1 hp;exact hm.slot t) hm.size hfr;have hn2:qG (h.set (w.alloc (.deferred (some []))).heap.size (.loop {state:=.ready,pending:=none,fn,tmps:=a.tmps,params:=ps,assign,body,defers:=w.heap.size})) ((w.alloc (.deferred (some []))).alloc (.loop {state:=.ready,pending:=none,fn,tmps:=a.tmps,params:=ps,assign,body,defers:=w.heap.size}))∧Fr h (w.alloc (.deferred (some []))) (h.set (w.alloc (.deferred (some []))).heap.size (.loop {state:=.ready,pending:=none,fn,tmps:=a.tmps,params:=ps,assign,body,defers:=w.heap.size})) ((w.alloc (.deferred (some []))).alloc (.loop {state:=.ready,pending:=none,fn,tmps:=a.tmps,params:=ps,assign,body,defers:=w.heap.size})):=hs1.new (.loop {state:=.ready,pending:=none,fn,tmps:=a.tmps,params:=ps,assign,body,defers:=w.heap.size});have g3:((w.alloc (.deferred (some []))).alloc (.loop {state:=.ready,pending:=none,fn,tmps:=a.tmps,params:=ps,assign,body,defers:=w.heap.size})).heap[w.heap.size]? =some (.deferred (some [])):=by
  show((w.heap.push _).push _)[w.heap.size]? =_;rw[Array.getElem?_push,if_neg (by simp),Array.getElem?_push,if_pos rfl]
 have g4:w.heap.size<((w.alloc (.deferred (some []))).alloc (.loop {state:=.ready,pending:=none,fn,tmps:=a.tmps,params:=ps,assign,body,defers:=w.heap.size})).heap.size:=by rw[World.size_alloc,World.size_alloc];omega
 have hent:(Instr.enterLoop fn a.tmps ps assign body none).run P w= .ok (w.heap.size+1,[aLB w.heap.size]) ((w.alloc (.deferred (some []))).alloc (.loop {state:=.ready,pending:=none,fn,tmps:=a.tmps,params:=ps,assign,body,defers:=w.heap.size})):=run_enterLoop_outer _ _ _ _ _;rw[hsz] at hc hn2;generalize (w.alloc (.deferred (some []))).alloc (.loop {state:=.ready,pending:=none,fn,tmps:=a.tmps,params:=ps,assign,body,defers:=w.heap.size})=w1 at hn2 g3 g4 hent;have hcw:=hc.calls he _ hn2.1;have heg:∀(args:Array Value) (w:World),(callFunc gf args).run P w= .ok (.enter gf args) w:=λargs w=>
  cG.run (h:=λ_=>none) (aJL he) (λ_ _ hb=>by cases hb)
 have hev:a.eval g= .func (.func gf) first captured:=by rw[hm.ev];exact hg
 have g2:(h.set (w.heap.size+1) (.loop {state:=.ready,pending:=none,fn,tmps:=a.tmps,params:=ps,assign,body,defers:=w.heap.size})) w.heap.size=none:=by
  unfold PH.set;rw[if_neg (by omega)];exact hs.fresh
 refine⟨w.heap.size+1,[aLB w.heap.size],w1,{target:=.fn (.func gf) captured,args:=first ++ #[.func (.yield (w.heap.size+1)) #[] #[]]},w1,gf,first ++ #[.func (.yield (w.heap.size+1)) #[] #[]]++captured,w1,?_,?_,?_,?_,?_,?_⟩
 ·exact hent
 ·simp only[resolve,rangeCall,hev];simp[Deferred.ofValue,Act.eval]
 ·intro f' _;trivial
 ·unfold invoke;exact heg _ _
 ·intro h;cases h
 ·refine aMA (hcw.mono λe w' hh=>?_);obtain⟨v,h',rfl,hse,hs',hf'⟩:=hh;obtain⟨jump,w4,h4,hrun,hj,hs4,hf4⟩:=hse.sound hs';have hf2:=hf'.trans hf4;have hfall:Fr h w h4 w4:=(hf1.trans hn2.2).trans hf2;have hD':aCZ w0 (aLB w.heap.size::D) h4 w4:=by
   obtain⟨bs,b1,b2,b3⟩:=hD;refine⟨w.heap.size::bs,aKv.2 ⟨λhmem=>absurd (b3 _ hmem).2.1 (Nat.lt_irrefl _),b1⟩,by rw[b2];rfl,λb hb=>?_⟩;rcases gU.1 hb with rfl|hb
   ·exact⟨hf.size,aLl g4 hf2.size,hf2.none _ g4 g2,(hf2.far _ g4 g2).trans g3⟩
   ·obtain⟨c1,c2,c3,c4⟩:=b3 b hb;exact⟨c1,aLl c2 hfall.size,hfall.none b c2 c3,(hfall.far b c2 c3).trans c4⟩
  refine⟨jump,w4,hrun,?_⟩;have hm':aA9 n (aLB w.heap.size::D) ρ {a with defers:=[aLB w.heap.size]++a.defers}:=⟨by simp[hm.defers],hm.size,hm.slot⟩;unfold aW5 at hj;cases jump with
  | none=>exact⟨ρ,h4,_,hj,hm',hs4,hf.trans hfall,hD'⟩
  | some c=>
   cases c with
   | ret=>exact wpIn_ret ⟨ρ,h4,_,hj,hm',hs4,hf.trans hfall,hD'⟩
   | exit id=>
    obtain⟨p,hp,e1,e2⟩:=hj;obtain⟨id',_,rfl⟩:=mJ.1 hp;subst e1;exact wpIn_exit ⟨ρ,h4,_,e2,hm',hs4,hf.trans hfall,hD'⟩
   | _=>exact hj.elim
def rR.sound{r:Option Nat}{N:Nat}{P:Program}{ann:jZ}{n:Nat}(hmix:P.follows .mixedOrders=true){h0:PH}{w0:World}:∀(c:Code) {Q:QH} {ρ:lO} {h:PH},aAN P ann n c=true->(r=none∨sG c=true)->rR P ann c Q ρ h->
  ∀{D:List Deferred} {a:Act} {w:World},aA9 n D ρ a->qG h w->Fr h0 w0 h w->aCZ w0 D h w->c.wpIn (aIN r) N P (QW n Q h0 w0) a w:=by
 intro c;induction c with
 | skip=>intro Q ρ h _ _ H D a w hm hs hf hD;exact wpIn_skip ⟨ρ,h,D,H,hm,hs,hf,hD⟩
 | region id ops d=>
  intro Q ρ h hb _ H D a w hm hs hf hD;cases d with
  | false=>
   refine wpIn_region ?_;rw[List.range_eq_range'];exact aYw (λo ho=>Array.all_eq_true_iff_forall_mem.1 hb o ho) ops.size 0 ρ h a w (by omega) (by simpa[rR] using H) hm hs hf hD
  | true=>
   simp only[aAN,yH] at hb;exact aX4 hmix (λo ho=>Array.all_eq_true_iff_forall_mem.1 hb.1 o ho) hb.2 H hm hs hf hD
 | seq x y ihx ihy=>
  intro Q ρ h hb hr H D a w hm hs hf hD;simp only[aAN,yH] at hb;have hr':(r=none∨sG x=true)∧(r=none∨sG y=true):=by simp only[sG,yH] at hr;rcases hr with e|⟨e1,e2⟩;exact⟨.inl e,.inl e⟩;exact⟨.inr e1,.inr e2⟩
  refine wpIn_seq (wpIn_mono (ihx hb.1 hr'.1 H hm hs hf hD) λe a' w' ⟨ρ',h',D',hq,hm',hs',hf',hD'⟩=>?_);cases e with
  | normal=>exact ihy hb.2 hr'.2 hq hm' hs' hf' hD'
  | _=>exact⟨ρ',h',D',hq,hm',hs',hf',hD'⟩
 | cond c x y ihx ihy=>
  intro Q ρ h hb hr H D a w hm hs hf hD;simp only[aAN,yH] at hb;have hr':(r=none∨sG x=true)∧(r=none∨sG y=true):=by simp only[sG,yH] at hr;rcases hr with e|⟨e1,e2⟩;exact⟨.inl e,.inl e⟩;exact⟨.inr e1,.inr e2⟩
  have he:a.eval c=ev ρ c:=by rw[hm.ev]
  unfold rR dK at H;split at H
  ·rename_i hv;exact wpIn_cond_true (he.trans hv) (ihx hb.1 hr'.1 H hm hs hf hD)
  ·rename_i hv;exact wpIn_cond_false (he.trans hv) (ihy hb.2 hr'.2 H hm hs hf hD)
  ·exact H.elim
 | block id c ih=>
  intro Q ρ h hb hr H D a w hm hs hf hD;refine wpIn_block (wpIn_mono (ih hb hr H hm hs hf hD) λe a' w' ⟨ρ',h',D',hq,hm',hs',hf',hD'⟩=>?_);cases e with
  | exit id'=>
   simp only[Exit.inBlock,aJq] at hq ⊢;split
   ·rename_i e;rw[if_pos e] at hq;exact⟨ρ',h',D',hq,hm',hs',hf',hD'⟩
   ·rename_i e;rw[if_neg e] at hq;exact⟨ρ',h',D',hq,hm',hs',hf',hD'⟩
  | _=>exact⟨ρ',h',D',hq,hm',hs',hf',hD'⟩
 | loop c ih=>
  intro Q ρ h hb hr H D a w hm hs hf hD;obtain⟨I,μ,hI,hround⟩:=H;generalize ann.keep (vL c)=keep at *;refine aSF (λm a w=>∃ρ h D,I (keep.map ρ) h∧μ (keep.map ρ) h=m∧aA9 n D ρ a∧qG h w∧Fr h0 w0 h w∧aCZ w0 D h w) (λm a w ⟨ρ,h,D,hI,hμ,hm,hs,hf,hD⟩=>?_) (n:=μ (keep.map ρ) h) ⟨ρ,h,D,hI,rfl,hm,hs,hf,hD⟩;refine wpIn_mono (ih hb hr (hround ρ h hI) hm hs hf hD) λe a' w' ⟨ρ',h',D',hq,hm',hs',hf',hD'⟩=>?_;cases e with
  | normal=>exact⟨_,hμ▸hq.2,ρ',h',D',hq.1,rfl,hm',hs',hf',hD'⟩
  | _=>exact⟨ρ',h',D',hq,hm',hs',hf',hD'⟩
 | exit id=>intro Q ρ h _ _ H D a w hm hs hf hD;exact wpIn_exit ⟨ρ,h,D,H,hm,hs,hf,hD⟩
 | scope c ih=>
  intro Q ρ h hb hr H D a w hm hs hf hD;refine aMQ (wpIn_mono (ih hb hr H hm hs hf hD) λe a' w' ⟨ρ',h',D',hq,hm',hs',hf',hD'⟩=>?_);cases e with
  | goto l=>exact hq
  | _=>exact⟨ρ',h',D',hq,hm',hs',hf',hD'⟩
 | label l=>intro Q ρ h _ _ H D a w hm hs hf hD;exact wpIn_label ⟨ρ,h,D,H,hm,hs,hf,hD⟩
 | ret=>intro Q ρ h _ _ H D a w hm hs hf hD;exact wpIn_ret ⟨ρ,h,D,H,hm,hs,hf,hD⟩
 | rangeFunc f ps x y ih1 ih2=>
  intro Q ρ h hb hr H D a w hm hs hf hD;rcases hr with rfl|hr
  ·simp only[aAN,beq_iff_eq] at hb;unfold rR at H;rw[hb] at H;exact aIl.sound H hm hs hf hD
  ·cases hr
 | goto l=>intro Q ρ h _ _ H;exact H.elim
 | refuse s=>intro Q ρ h _ _ H;exact H.elim
def aVB(P:Program)(l:Nat)(kv:cD):QH
 | .normal,_,h=>dC P (Instr.endRound l none) h kv
 | .ret,_,h=>dC P (Instr.endRound l (some .ret)) h kv
 | .exit id,_,h=>dC P (Instr.endRound l (some (.exit id))) h kv
 | _,_,_=>False
def aRd(P:Program)(ann:jZ)(l:Nat)(assign body:Code)(kv:cD)(ρ:lO)(h:PH):Prop:=
 rR P ann assign (λe ρ h=>match e with
  | .normal=>dC P (Instr.beginRound l) h λ_ h'=>rR P ann body (aVB P l kv) ρ h'
  | _=>False) ρ h
def aRd.next{P:Program}(ann:jZ)(hmix:P.follows .mixedOrders=true){l:Nat}{f:FuncId}{tmps:Array Value}{assign body:Code}{kv:cD}{h:PH}
  (hA:(aAN P ann tmps.size assign&&sG assign&&aAN P ann tmps.size body&&sG body)=true) (H:aRd P ann l assign body kv (λt=>tmps.getD t undef) h):
  uR P (.round l f tmps assign body) h kv:=by
 simp only[yH] at hA;obtain⟨⟨⟨a1,a2⟩,a3⟩,a4⟩:=hA;intro w hs;refine roundIn_of_wpIn trivial (wpIn_mono (rR.sound (r:=some l) (D:=[]) hmix assign a1 (.inr a2) H ⟨rfl,rfl,λ_=>rfl⟩ hs (Fr.refl h w) (aCZ.nil _ _ _)) λe a' w' ⟨ρ',h',D',hq,hm',hs',hf',hD'⟩=>?_);cases e with
 | normal=>
  obtain⟨u,w2,h2,hrun,hb,hs2,hf2⟩:=hq.sound hs';refine⟨w2,hrun,wpIn_mono (rR.sound (r:=some l) hmix body a3 (.inr a4) hb hm' hs2 (hf'.trans hf2) (hD'.step hf2)) λe a3 w3 ⟨ρ3,h3,D3,hq3,hm3,hs3,hf3,hD3⟩=>?_⟩;cases e with
  | normal=>obtain⟨v,w4,h4,hrun4,hk,hs4,hf4⟩:=dC.sound hq3 hs3;exact⟨v,w4,hrun4,v,h4,rfl,hk,hs4,hf3.trans hf4⟩
  | ret=>obtain⟨v,w4,h4,hrun4,hk,hs4,hf4⟩:=dC.sound hq3 hs3;exact⟨v,w4,hrun4,v,h4,rfl,hk,hs4,hf3.trans hf4⟩
  | exit id=>obtain⟨v,w4,h4,hrun4,hk,hs4,hf4⟩:=dC.sound hq3 hs3;exact⟨v,w4,hrun4,v,h4,rfl,hk,hs4,hf3.trans hf4⟩
  | _=>exact hq3.elim
 | _=>exact hq.elim
def aPX(P:Program)(ρ:lO)(h:PH):List ResultVar->(List Value->Prop)->Prop
 | [],k=>k []
 | .tmp t::rs,k=>aPX P ρ h rs λvs=>k (ρ t::vs)
 | .cell a t::rs,k=>dY (cG P h (loadAt t (ρ a))) λv=>aPX P ρ h rs λvs=>k (v::vs)
def aTL:List Value->Value
 | [v]=>v
 | vs=>.tuple vs.toArray
def aV5(P:Program)(fn:Func)(ρ:lO)(h:PH)(R:cD):Prop:=aPX P ρ h fn.results.toList λvs=>R (aTL vs) h
def aS3(tmps:Array Value):ResultVar->Sem Value
 | .tmp t=>pure (tmps.getD t undef)
 | .cell x t=>do loadVar t (←asAddr (tmps.getD x undef))
def aPX.run{P:Program}{ρ:lO}{h:PH}{n:Nat}{D:List Deferred}{a:Act}{w:World}(hm:aA9 n D ρ a)(hs:qG h w):∀(l:List ResultVar) {k:List Value->Prop},aPX P ρ h l k->
  ∃vs,k vs∧(l.mapM (m:=Sem) (aS3 a.tmps)).run P w= .ok vs w:=by
 intro l;induction l with
 | nil=>intro k H;exact⟨[],H,rfl⟩
 | cons r rs ih=>
  intro k H;cases r with
  | tmp t=>
   obtain⟨vs,hk,hr⟩:=ih H;refine⟨_,hk,?_⟩;have h1:(aS3 a.tmps (.tmp t)).run P w= .ok (ρ t) w:=by
    show(pure (a.tmps.getD t undef):Sem Value).run P w=_;rw[hm.slot];rfl
   rw[List.mapM_cons];simp only[Sem.run_bind,Sem.run_pure,Result.andThen_ok,h1,hr]
  | cell x t=>
   obtain⟨v,hv,H'⟩:=fV.1 H;obtain⟨vs,hk,hr⟩:=ih H';refine⟨_,hk,?_⟩;rw[List.mapM_cons];have h1:(aS3 a.tmps (.cell x t)).run P w= .ok v w:=by
    have h2:=cG.run hv hs;show(do loadVar t (←asAddr (a.tmps.getD x undef)):Sem Value).run P w=_;rw[hm.slot];unfold loadAt Instr.sureAddr at h2;generalize ρ x=y at *;cases y with
    | pointer p=>cases p with
     | none=>exact absurd hv (by intro hc;cases hc)
     | some p=>exact h2
    | _=>exact absurd hv (by intro hc;cases hc)
   simp only[Sem.run_bind,Sem.run_pure,Result.andThen_ok,h1,hr]
def aU3{P:Program}{f:FuncId}{fn:Func}{c:Code}(ann:jZ)(hmix:P.follows .mixedOrders=true)(hf:P.funcs[f]? =some fn)(hb:fn.body=some c)(hen:aEz P f=true)(hB:aAN P ann fn.ntmps c=true)
  {args:Array Value} (hargs:args.size≤fn.ntmps) {h:PH} {R:cD}
  (H:rR P ann c (λe ρ h=>match e with
   | .normal | .ret=>aV5 P fn ρ h R
   | _=>False) (λt=>args.getD t undef) h):aT P f args h R:=by
 refine .inl ⟨hen,λw hs=>(callsIn_wide (n:=0)).1 (callsIn_of_wp_marks hf hb trivial ?_)⟩;have hm:aA9 fn.ntmps [] (λt=>args.getD t undef) {tmps:=args++Array.replicate (fn.ntmps-args.size) undef,defers:=[]}:=by
  refine⟨rfl,by simp;omega,λt=>?_⟩;simp only[aJe,Array.getElem?_append,Array.getElem?_replicate];by_cases hlt:t<args.size
  ·simp[hlt]
  ·rw[if_neg hlt];have:args[t]? =none:=Array.getElem?_eq_none (by omega);rw[this];split<;>rfl
 refine wpIn_mono (rR.sound (r:=none) hmix c hB (.inl rfl) H hm hs (Fr.refl _ _) (aCZ.nil w h w)) λe a' w' ⟨ρ',h',D',hq,hm',hs',hf',hD'⟩=>?_;have fin:∀(ds:List Deferred) (w':World),qG h' w'->Fr h w h' w'->aCZ w ds h' w'->aV5 P fn ρ' h' R->LeavesInM Fence.wide 0 P fn a'.tmps (λe w'=>∃v h',e= .returned v∧R v h'∧qG h' w'∧Fr h w h' w') ds .returning w':=by
  intro ds;induction ds with
  | nil=>
   intro w' hs' hf' _ hr;obtain⟨vs,hk,hrun⟩:=aPX.run hm' hs' fn.results.toList hr;refine⟨aTL vs,?_,_,h',rfl,hk,hs',hf'⟩;show((do let vs ←fn.results.mapM (aS3 a'.tmps);pure (if h:vs.size=1 then vs[0] else .tuple vs):Sem Value)).run P w'=_;rw[Array.mapM_eq_mapM_toList];simp only[Sem.run_bind,Sem.run_map,Result.andThen_ok,hrun];simp only[Sem.run_pure];congr 1;cases vs with
   | nil=>rfl
   | cons v vs=>cases vs with
    | nil=>rfl
    | cons u us=>simp[aTL]
  | cons d ds ih=>
   intro w' hs' hf' hD' hr;obtain⟨bs,b1,b2,b3⟩:=hD';cases bs with
   | nil=>cases b2
   | cons b bs=>
    simp only[iH,lN] at b2;obtain⟨rfl,rfl⟩:=b2;obtain⟨c1,c2,c3,c4⟩:=b3 b aPP;obtain⟨hnot,b1⟩:=aKv.1 b1;have hne:∀i,i≠b->(w'.putObj b (.deferred none)).heap[i]? =w'.heap[i]?:=λi hi=>by
     simp[World.putObj,Array.getElem?_setIfInBounds,Ne.symm hi]
    have hsz:(w'.putObj b (.deferred none)).heap.size=w'.heap.size:=by simp[World.putObj]
    refine⟨(by intro e;cases e),.inl ⟨b,_,rfl,run_takeDeferred c4,ih _ (λi o hi=>?_) ⟨hf'.os,hf'.tape,hf'.output,hf'.drawn,by rw[hsz];exact hf'.size,λi hi hn=>?_,hf'.none⟩ ⟨bs,b1,rfl,λi hi=>?_⟩ hr⟩⟩
    ·rw[hne i (λe=>by subst e;rw[c3] at hi;cases hi)];exact hs' i o hi
    ·rw[hne i (λe=>by subst e;omega)];exact hf'.far i hi hn
    ·obtain⟨e1,e2,e3,e4⟩:=b3 i (List.mem_cons_of_mem _ hi);exact⟨e1,by rw[hsz];exact e2,e3,by rw[hne i (λe=>by subst e;exact hnot hi)];exact e4⟩
 have hfin:=fin D' w' hs' hf' hD';rw[←hm'.defers] at hfin;cases e with
 | normal=>exact hfin hq
 | ret=>exact hfin hq
 | _=>exact hq.elim
def aDJ:Code->List (Code×Code)
 | .seq x y=>aDJ x++aDJ y
 | .cond _ x y=>aDJ x++aDJ y
 | .block _ c=>aDJ c
 | .loop c=>aDJ c
 | .scope c=>aDJ c
 | .rangeFunc _ _ a b=>[(a,b)]
 | _=>[]
def aGB(fn:Func):Code:=fn.body.getD .skip
def aZg(P:Program)(fn:Func)(R:cD):QH:=λe ρ h=>match e with
 | .normal | .ret=>aV5 P fn ρ h R
 | _=>False
def eN(h:PH)(k:PH->Prop):Prop:=k h
def yV(v:Value):Option Bool:=match v with
 | .bool b=>some b
 | _=>none
def wC(v:Value):Sem Value:=match v with
 | .pointer none | .nilIface | .nilFunc=>.halt (.stuck "nil")
 | .func (.method _) _ _=>.halt (.stuck "method")
 | x=>pure x
def jT(op:BinOp)(t:TypeId)(x y:Operand)(a b:Value):Sem Value:=do eqGuard op t x y a b;binOp op t a b
def dT(t:TypeId)(a x:Value):Sem Value:=do Instr.storeAt t a x;pure undef
def aFV(t:TypeId)(m k x:Value):Sem Value:=do Instr.mapUpdate t m k x;pure undef
def rV(P:Program)(f:Value)(args:Array Value)(h:PH)(kv:cD):Prop:=match f with
 | .func (.func f) first captured=>aT P f (first++args++captured) h kv
 | .func fn first captured=>dC P (invoke (.fn fn captured) (first++args)) h λn h'=>uR P n h' kv
 | _=>False
def aQh(P:Program)(recv:Value)(name:String)(args:Array Value)(h:PH)(kv:cD):Prop:=
 dC P (callMethod recv name args) h λn h'=>uR P n h' kv
def dV(P:Program)(t:TypeId):Array Value:=match P.info? t with
 | some i=>match i.zero with
  | some v=>v.cells
  | none=>#[]
 | none=>#[]
def bAN(P:Program)(ann:jZ)(ih:Code->QH->lO->PH->Prop)(c:Code)(Q:QH)(ρ:lO)(h:PH):Prop:=match c with
 | .skip=>Q .normal ρ h
 | .region _ ops false=>aS0 P ops (Q .normal) ops.toList ρ h
 | .region id ops true=>aNA P ops (ann.b id) (Q .normal) [] (ann.ord id) ρ h
 | .seq x y=>ih x (aKY (ih y Q) Q) ρ h
 | .cond c x y=>dK (ev ρ c) (ih x Q ρ h) (ih y Q ρ h)
 | .block id c=>ih c (aJq id Q) ρ h
 | .loop c=>iL (ann.keep (vL c)) (λnext ρ h=>ih c (aKY (λρ' h'=>next ((ann.keep (vL c)).map ρ') h') Q) ρ h) ((ann.keep (vL c)).map ρ) h
 | .exit id=>Q (.exit id) ρ h
 | .ret=>Q .ret ρ h
 | .label _=>Q .normal ρ h
 | .scope c=>ih c (aNQ Q) ρ h
 | .rangeFunc g ps assign body=>aIl P ann.n (ev ρ g) ps assign body (Q .normal ρ) (Q .ret ρ) ((aD4 body).map λid=>(id,Q (.exit id) ρ)) ((ann.keep (vL body)).map λt=>(t,ρ t)) h
 | _=>False
noncomputable def aGK(P:Program)(ann:jZ)(n:Nat):Code->QH->lO->PH->Prop:=Nat.rec (λ_ _ _ _=>False) (λ_ ih=>bAN P ann ih) n
def yG:Code->Nat
 | .seq x y=>max (yG x) (yG y)+1
 | .cond _ x y=>max (yG x) (yG y)+1
 | .block _ c=>yG c+1
 | .loop c=>yG c+1
 | .scope c=>yG c+1
 | _=>0
def aNz{P:Program}{ann:jZ}:∀(c:Code) (n:Nat),yG c<n->aGK P ann n c=rR P ann c:=by
 intro c;induction c with
 | skip=>intro n hn;obtain⟨m,rfl⟩:∃m,n=m+1:=⟨n-1,by omega⟩;rfl
 | region id ops d=>intro n hn;obtain⟨m,rfl⟩:∃m,n=m+1:=⟨n-1,by omega⟩;cases d<;>rfl
 | seq x y ihx ihy=>
  intro n hn;obtain⟨m,rfl⟩:∃m,n=m+1:=⟨n-1,by omega⟩;simp only[yG] at hn;funext Q ρ h;show aGK P ann m x (aKY (aGK P ann m y Q) Q) ρ h=rR P ann x (aKY (rR P ann y Q) Q) ρ h;rw[ihx m (by omega),ihy m (by omega)]
 | cond c x y ihx ihy=>
  intro n hn;obtain⟨m,rfl⟩:∃m,n=m+1:=⟨n-1,by omega⟩;simp only[yG] at hn;funext Q ρ h;show dK (ev ρ c) (aGK P ann m x Q ρ h) (aGK P ann m y Q ρ h)=dK (ev ρ c) (rR P ann x Q ρ h) (rR P ann y Q ρ h);rw[ihx m (by omega),ihy m (by omega)]
 | block id c ih=>
  intro n hn;obtain⟨m,rfl⟩:∃m,n=m+1:=⟨n-1,by omega⟩;simp only[yG] at hn;funext Q ρ h;show aGK P ann m c (aJq id Q) ρ h=rR P ann c (aJq id Q) ρ h;rw[ih m (by omega)]
 | loop c ih=>
  intro n hn;obtain⟨m,rfl⟩:∃m,n=m+1:=⟨n-1,by omega⟩;simp only[yG] at hn;funext Q ρ h;show iL (ann.keep (vL c)) (λnext ρ h=>aGK P ann m c (aKY (λρ' h'=>next ((ann.keep (vL c)).map ρ') h') Q) ρ h) ((ann.keep (vL c)).map ρ) h=iL (ann.keep (vL c)) (λnext ρ h=>rR P ann c (aKY (λρ' h'=>next ((ann.keep (vL c)).map ρ') h') Q) ρ h) ((ann.keep (vL c)).map ρ) h;rw[ih m (by omega)]
 | scope c ih=>
  intro n hn;obtain⟨m,rfl⟩:∃m,n=m+1:=⟨n-1,by omega⟩;simp only[yG] at hn;funext Q ρ h;show aGK P ann m c (aNQ Q) ρ h=rR P ann c (aNQ Q) ρ h;rw[ih m (by omega)]
 | _=>intro n hn;obtain⟨m,rfl⟩:∃m,n=m+1:=⟨n-1,by omega⟩;rfl
noncomputable def aQs(P:Program)(ann:jZ)(n l:Nat)(assign body:Code)(kv:cD)(ρ:lO)(h:PH):Prop:=
 aGK P ann n assign (λe ρ h=>match e with
  | .normal=>dC P (Instr.beginRound l) h λ_ h'=>aGK P ann n body (aVB P l kv) ρ h'
  | _=>False) ρ h
def aUj{P:Program}(ann:jZ)(n:Nat)(hmix:P.follows .mixedOrders=true){l m:Nat}{f:FuncId}{tmps:Array Value}{assign body:Code}{kv:cD}{h:PH}
  (hm:tmps.size=m) (hd:(decide (yG assign<n)&&decide (yG body<n))=true) (hA:(aAN P ann m assign&&sG assign&&aAN P ann m body&&sG body)=true) {X:Prop}
  (he:aQs P ann n l assign body kv (λt=>tmps.getD t undef) h=X) (H:X):uR P (.round l f tmps assign body) h kv:=by
 subst hm;rw[←he] at H;simp only[yH,decide_eq_true_eq] at hd;unfold aQs at H;rw[aNz _ _ hd.1] at H;rw[aNz _ _ hd.2] at H;exact aRd.next ann hmix hA H
def aT3{P:Program}{f:FuncId}{fn:Func}(ann:jZ)(n:Nat)(hmix:P.follows .mixedOrders=true)(hf:P.funcs[f]? =some fn)(hen:aEz P f=true)(hb:fn.body.isSome=true)(hd:decide (yG (aGB fn)<n)=true)(hB:aAN P ann fn.ntmps (aGB fn)=true)
  {args:Array Value} (hargs:args.size≤fn.ntmps) {h:PH} {R:cD} {X:Prop}
  (he:aGK P ann n (aGB fn) (aZg P fn R) (λt=>args.getD t undef) h=X) (H:X):aT P f args h R:=by
 obtain⟨c,hc⟩:=Option.isSome_iff_exists.1 hb;have e:aGB fn=c:=by unfold aGB;rw[hc];rfl
 rw[aNz _ _ (by simpa using hd)] at he;rw[e] at hB he;rw[←he] at H;exact aU3 ann hmix hf hc hen hB hargs H
def dL{h:PH}{r:Nat}{o:Obj}:(h.set r o) r=some o:=by simp[PH.set]
def qY{h:PH}{r b:Nat}{o:Obj}(hne:b≠r):(h.set r o) b=h b:=by simp[PH.set,hne]
def aVD{h:PH}{r b:Nat}{o:Obj}(hb:h b=some o)(hr:h r=none):b≠r:=by rintro rfl;rw[hr] at hb;cases hb
def aSe{h:PH}{r b:Nat}{o u:Obj}(hr:h r=none)(hb:h b=some u):(h.set r o) b=some u:=by rw[qY (aVD hb hr)];exact hb
def cQ(F:List Nat)(h h':PH):Prop:=∀b o,h b=some o->b∉F->h' b=some o
def cQ.refl{F:List Nat}{h:PH}:cQ F h h:=λ_ _ hb _=>hb
def cQ.trans{F:List Nat}{h h1 h2:PH}(a:cQ F h h1)(b:cQ F h1 h2):cQ F h h2:=λx o hx hn=>b x o (a x o hx hn) hn
def cQ.mono{F G:List Nat}{h h':PH}(a:cQ F h h')(hs:∀b,b∈F->b∈G∨h b=none):cQ G h h':=λx o hx hn=>a x o hx λhm=>by
 rcases hs x hm with h1|h1
 ·exact hn h1
 ·rw[hx] at h1;cases h1
def cQ.then{F F':List Nat}{h h1 h2:PH}(a:cQ F h h1)(b:cQ F' h1 h2)(hs:∀b,b∈F'->b∈F∨h b=none):cQ F h h2:=λx o hx hn=>
 b x o (a x o hx hn) λhm=>by
  rcases hs x hm with h1|h1
  ·exact hn h1
  ·rw[hx] at h1;cases h1
def cQ.new{F:List Nat}{h:PH}{r:Nat}{o:Obj}(hr:h r=none):cQ F h (h.set r o):=λ_ _ hb _=>aSe hr hb
def cQ.set{F:List Nat}{h:PH}{r:Nat}{o:Obj}(hr:r∈F):cQ F h (h.set r o):=λb u hb hn=>by
 rw[qY (by rintro rfl;exact hn hr)];exact hb
def cQ.get{F:List Nat}{h h':PH}(a:cQ F h h'){b:Nat}{o:Obj}(hb:h b=some o)(hn:b∉F):h' b=some o:=a b o hb hn
abbrev dD(h h':PH):Prop:=cQ [] h h'
def dD.get{h h':PH}(a:dD h h'){b:Nat}{o:Obj}(hb:h b=some o):h' b=some o:=a b o hb (by simp)
def dD.upd{F:List Nat}{h h':PH}(a:dD h h'):cQ F h h':=λb o hb _=>a b o hb (by simp)
def aDC{α:Type}{v:α}{k:α->Prop}:dY (some v) k=k v:=(rfl)
def cW{h:PH}{k:PH->Prop}:eN h k=k h:=(rfl)
def aLZ{A B:Prop}:dK (.bool true) A B=A:=(rfl)
def aKj{A B:Prop}:dK (.bool false) A B=B:=(rfl)
def aOy{b:Bool}{A B:Prop}:dK (.bool b) A B=if b then A else B:=by cases b<;>rfl
def aPT{b:Bool}:yV (.bool b)=some b:=(rfl)
def aPg{X:(Value->PH->Prop)->Prop}{h:PH}{kv:cD}:mZ (some true) true X h kv=X kv:=(rfl)
def aST{X:(Value->PH->Prop)->Prop}{h:PH}{kv:cD}:mZ (some false) false X h kv=X kv:=(rfl)
def aSZ{X:(Value->PH->Prop)->Prop}{h:PH}{kv:cD}:mZ (some true) false X h kv=kv undef h:=(rfl)
def aPF{X:(Value->PH->Prop)->Prop}{h:PH}{kv:cD}:mZ (some false) true X h kv=kv undef h:=(rfl)
def aPp{a b:Value}:fK (.bool true) a b=some a:=(rfl)
def aPt{a b:Value}:fK (.bool false) a b=some b:=(rfl)
def aOZ{c:Bool}{a b:Value}:fK (.bool c) a b=some (if c then a else b):=by cases c<;>rfl
section
variable{P:Program}{h:PH}
def aQ3{a:Addr}:dH P (wC (.pointer (some a)))=some (.pointer (some a)):=(rfl)
def oR{f:Fn}{x y:Array Value}:dH P (Instr.makeFunc f x y)=some (.func f x y):=(rfl)
def aRR{t:TypeId}{k:IntKind}{a b:Int}:dH P (binOp .add t (.int k a) (.int k b))=some (.int k (k.wrap (a+b))):=by simp[binOp,Op.intArith,dH,pure]
def aOt{t:TypeId}{k:IntKind}{a b:Int}:dH P (binOp .sub t (.int k a) (.int k b))=some (.int k (k.wrap (a-b))):=by simp[binOp,Op.intArith,dH,pure]
def aQr{t:TypeId}{k:IntKind}{a b:Int}:dH P (binOp .mul t (.int k a) (.int k b))=some (.int k (k.wrap (a*b))):=by simp[binOp,Op.intArith,dH,pure]
def aR3{t:TypeId}{k:IntKind}{a b:Int}:dH P (binOp .lss t (.int k a) (.int k b))=some (.bool (decide (a<b))):=by simp[binOp,Op.intCmp,dH,pure]
def aUl{t:TypeId}{k:IntKind}{a b:Int}:dH P (binOp .leq t (.int k a) (.int k b))=some (.bool (decide (a≤b))):=by simp[binOp,Op.intCmp,dH,pure]
def aOk{t:TypeId}{k:IntKind}{a b:Int}:dH P (binOp .gtr t (.int k a) (.int k b))=some (.bool (decide (b<a))):=by simp[binOp,Op.intCmp,dH,pure]
def aUk{t:TypeId}{k:IntKind}{a b:Int}:dH P (binOp .geq t (.int k a) (.int k b))=some (.bool (decide (b≤a))):=by simp[binOp,Op.intCmp,dH,pure]
def aNB{t:TypeId}{k:IntKind}{a b:Int}(hb:b≠0):dH P (binOp .quo t (.int k a) (.int k b))=some (.int k (k.wrap (a.tdiv b))):=by simp[binOp,Op.intDiv,hb,dH,pure]
def aHO{t:TypeId}{k:IntKind}{a b:Int}(hb:b≠0):dH P (binOp .rem t (.int k a) (.int k b))=some (.int k (a.tmod b)):=by simp[binOp,Op.intDiv,hb,dH,pure]
def aRW{t:TypeId}{k k':IntKind}{a b:Int}(hb:0≤b):dH P (binOp .shl t (.int k a) (.int k' b))=some (.int k (k.wrap (a*2^(min b.toNat k.bits)))):=by
 have:¬b<0:=by omega
 simp[binOp,Op.shift,this,dH,pure]
def aJn{t:TypeId}{k k':IntKind}{a b:Int}(hb:0≤b):dH P (binOp .shr t (.int k a) (.int k' b))=some (.int k (a.fdiv (2^(min b.toNat k.bits)))):=by
 have:¬b<0:=by omega
 simp[binOp,Op.shift,this,dH,pure]
def aUV{b:Bool}:dH P (Op.unary .not (.bool b))=some (.bool (!b)):=(rfl)
def aNN{ts:Array TypeId}{t:TypeId}{k k':IntKind}{x y:Int}:dH P (Builtin.min_ ts t #[.int k x,.int k' y])=some (.int k (if y<x then y else x)):=(rfl)
def aLE{ts:Array TypeId}{t:TypeId}{k k':IntKind}{x y:Int}:dH P (Builtin.max_ ts t #[.int k x,.int k' y])=some (.int k (if x<y then y else x)):=by
 rfl
def aKR{a:Value}{l:List Value}:dH P (extract (.tuple ⟨a::l⟩) 0)=some a:=(rfl)
def aKP{a b:Value}{l:List Value}:dH P (extract (.tuple ⟨a::b::l⟩) 1)=some b:=(rfl)
def aP8{a b c:Value}{l:List Value}:dH P (extract (.tuple ⟨a::b::c::l⟩) 2)=some c:=(rfl)
def iG{t:TypeId}{x y:Operand}{k:IntKind}{a b:Int}:cG P h (jT .eql t x y (.int k a) (.int k b))=some (.bool (a==b)):=by
 simp[jT,eqGuard,binOp,Op.intCmp,cG,bind,Sem.bind,pure]
def kW{t:TypeId}{x y:Operand}{k:IntKind}{a b:Int}:cG P h (jT .neq t x y (.int k a) (.int k b))=some (.bool (a !=b)):=by
 simp[jT,eqGuard,binOp,Op.intCmp,cG,bind,Sem.bind,pure]
end
def aFP:TypeDesc->Bool
 | .struct _ | .array _ _=>false
 | _=>true
def lP(b o n:Nat):(⟨b,o,none⟩:Addr).add n=⟨b,o+n,none⟩:=by unfold Addr.add;split<;>simp_all
section
variable{P:Program}{h:PH}{t t' e:TypeId}
def kM{α:Type}{d:TypeDesc}(hu:P.underlying t=some d)(f:TypeDesc->Sem α):cG P h (underlying t >>= f)=cG P h (f d):=by
 show cG P h ((match P.underlying t with|some d=>pure d|none=>stuck _:Sem TypeDesc).bind f)=_;rw[hu];rfl
def xP{α:Type}{d:TypeDesc}(hu:P.underlying t=some d)(f:TypeDesc->Sem α):dH P (underlying t >>= f)=dH P (f d):=by
 show dH P ((match P.underlying t with|some d=>pure d|none=>stuck _:Sem TypeDesc).bind f)=_;rw[hu];rfl
def qC{α:Type}{d:TypeDesc}{Q:α->PH->Prop}(hu:P.underlying t=some d)(f:TypeDesc->Sem α):dC P (underlying t >>= f) h Q=dC P (f d) h Q:=by
 show dC P ((match P.underlying t with|some d=>pure d|none=>stuck _:Sem TypeDesc).bind f) h Q=_;rw[hu];rfl
def aVj{α:Type}{d:TypeDesc}(hu:P.underlying t=some d)(f:TypeDesc->Sem α):jV P (underlying t >>= f)=jV P (f d):=by
 show jV P ((match P.underlying t with|some d=>pure d|none=>stuck _:Sem TypeDesc).bind f)=_;rw[hu];rfl
def aBZ{α:Type}{d:TypeInfo}(hu:P.info? t=some d)(f:TypeInfo->Sem α):cG P h (typeInfo t >>= f)=cG P h (f d):=by
 show cG P h ((match P.info? t with|some i=>pure i|none=>stuck _:Sem TypeInfo).bind f)=_;rw[hu];rfl
def aKS{α:Type}{d:TypeInfo}(hu:P.info? t=some d)(f:TypeInfo->Sem α):dH P (typeInfo t >>= f)=dH P (f d):=by
 show dH P ((match P.info? t with|some i=>pure i|none=>stuck _:Sem TypeInfo).bind f)=_;rw[hu];rfl
def mP{α:Type}{d:TypeInfo}{Q:α->PH->Prop}(hu:P.info? t=some d)(f:TypeInfo->Sem α):dC P (typeInfo t >>= f) h Q=dC P (f d) h Q:=by
 show dC P ((match P.info? t with|some i=>pure i|none=>stuck _:Sem TypeInfo).bind f) h Q=_;rw[hu];rfl
def kP{α:Type}(f:Nat->Sem α):(sizeOf t >>= f)=(typeInfo t >>= λi=>f i.size):=by
 show(sizeOf t).bind f=(typeInfo t).bind λi=>f i.size;unfold sizeOf;show((typeInfo t).bind λi=>Sem.pure i.size).bind f=_;rw[show ∀(s:Sem TypeInfo),(s.bind λi=>Sem.pure i.size).bind f=s.bind λi=>f i.size from λs=>by
  induction s with
  | pure a=>rfl
  | load m a k ih=>simp only[Sem.bind,ih]
  | store m a v k ih=>simp only[Sem.bind,ih]
  | new o k ih=>simp only[Sem.bind,ih]
  | shape r k ih=>simp only[Sem.bind,ih]
  | freeze a n k ih=>simp only[Sem.bind,ih]
  | frozen a k ih=>simp only[Sem.bind,ih]
  | getObj r k ih=>simp only[Sem.bind,ih]
  | setObj r o k ih=>simp only[Sem.bind,ih]
  | choose q k ih=>simp only[Sem.bind,ih]
  | sys c k ih=>simp only[Sem.bind,ih]
  | program k ih=>simp only[Sem.bind,ih]
  | mark m k ih=>simp only[Sem.bind,ih]
  | halt x=>rfl]
def aQB{a:Option Addr}{n c:Nat}(hu:P.underlying t=some (.slice e)):dH P (Builtin.len_ #[t] t' #[.slice a n c])=some (.int .i64 n):=by
 show dH P (underlying t >>= _)=_;rw[xP hu];rfl
def lS{s:ByteArray}(hu:P.underlying t=some .string):dH P (Builtin.len_ #[t] t' #[.string s])=some (.int .i64 s.size):=by
 show dH P (underlying t >>= _)=_;rw[xP hu];rfl
def aXX{r:Nat}{es:Array MapEntry}{k v:TypeId}{c:Nat}(hu:P.underlying t=some (.map k v))(hr:h r=some (.map es c)):cG P h (Builtin.len_ #[t] t' #[.map (some r)])=some (.int .i64 es.size):=by
 show cG P h (underlying t >>= _)=_;rw[kM hu];show cG P h (getObj r >>= _)=_;simp[getObj,bind,Sem.bind,cG,hr,goInt,pure]
def aLz{α:Type}{d:TypeDesc}(hu:P.underlying t=some d)(f:Bool->Sem α):cG P h (isAgg t >>= f)=cG P h (f (!aFP d)):=by
 unfold isAgg;rw[bind_assoc,kM hu];cases d<;>rfl
def iP{d:TypeDesc}{a:Addr}(hu:P.underlying t=some d)(hd:aFP d=true):cG P h (loadAt t (.pointer (some a)))=dB h a:=by
 show cG P h (loadVar t a)=_;unfold loadVar;rw[aLz hu,hd];show(dB h a).bind (λv=>some v)=_;cases dB h a<;>rfl
def aNG{b o:Nat}{c:Array Value}{e:TypeId}{fr:Nat×Nat}(hb:h b=some (.cells c e fr)):∀(n i:Nat) (acc:Array Value),o+i+n≤c.size->
  cG P h (loadCellsFrom ⟨b,o,none⟩ i n acc)=some (acc++c.extract (o+i) (o+i+n)):=by
 intro n;induction n with
 | zero=>intro i acc _;simp[loadCellsFrom,cG,pure];omega
 | succ n ih=>
  intro i acc hle;show(dB h ((⟨b,o,none⟩:Addr).add i)).bind (λv=>cG P h (loadCellsFrom ⟨b,o,none⟩ (i+1) n (acc.push v)))=_;have hlt:o+i<c.size:=by omega
  have hc:dB h ((⟨b,o,none⟩:Addr).add i)=some c[o+i]:=by
   rw[lP];unfold dB;simp only[hb];simp[hlt]
  rw[hc,aDW,ih (i+1) _ (by omega)];congr 1;apply zLw;simp only[Array.toList_append,Array.toList_push,zLD,nM,zLx];congr 1;rw[show o+i+(n+1)-(o+i)=n+1 from by omega,show o+(i+1)+n-(o+(i+1))=n from by omega,aHG (l:=c.toList) (i:=o+i) (by simpa using hlt),zLc];rfl
def aLD{b o n:Nat}{c:Array Value}{e:TypeId}{fr:Nat×Nat}(hb:h b=some (.cells c e fr))(hle:o+n≤c.size):cG P h (loadCells ⟨b,o,none⟩ n)=some (c.extract o (o+n)):=by
 have:=aNG (P:=P) hb n 0 #[] hle;simpa[loadCells] using this
def kC{α β:Type}{s:Sem α}{f:α->Sem β}:cG P h (s >>= f)=(cG P h s).bind λa=>cG P h (f a):=by
 show cG P h (s.bind f)=_;induction s with
 | pure a=>rfl
 | load m a k ih=>simp only[Sem.bind,cG,ih,Option.bind_assoc]
 | shape r k ih=>simp only[Sem.bind,cG,ih,Option.bind_assoc]
 | frozen a k ih=>simp only[Sem.bind,cG,ih,Option.bind_assoc]
 | getObj r k ih=>
  simp only[Sem.bind,cG];cases h r with
  | none=>rfl
  | some o=>cases o<;>first|rfl|exact ih _
 | program k ih=>exact ih P
 | mark m k ih=>exact ih
 | _=>rfl
def pJ{d:TypeDesc}{b o n:Nat}{c:Array Value}{e:TypeId}{fr:Nat×Nat}{i:TypeInfo}(hu:P.underlying t=some d)(hd:aFP d=false)(hi:P.info? t=some i)(hn:i.size=n)
  (hb:h b=some (.cells c e fr)) (hle:o+n≤c.size):cG P h (loadAt t (pT b o))=some (.agg (c.extract o (o+n))):=by
 show cG P h (loadVar t ⟨b,o,none⟩)=_;unfold loadVar;rw[aLz hu,hd];show cG P h (sizeOf t >>= λm=>loadCells ⟨b,o,none⟩ m >>= λcs=>(pure (Value.agg cs):Sem Value))=some (.agg (c.extract o (o+n)));rw[kP,aBZ hi,hn,kC,aLD hb hle];rfl
def aGM{b o n len cap:Nat}{k:IntKind}{j:Int}{i:TypeInfo}(hu:P.underlying t=some (.slice e))(hi:P.info? e=some i)(hn:i.size=n)(h0:0≤j)(h1:j<len):
  dH P (indexAt t (.slice (some ⟨b,o,none⟩) len cap) (.int k j))=some (pT b (o+j.toNat*n)):=by
 show dH P (underlying t >>= _)=_;rw[xP hu];show dH P (underlying t >>= _)=_;rw[xP hu];simp only[h0,h1,and_self,if_true];rw[kP,aKS hi,hn,lP];rfl
end
def Rows(size:Nat)(rows:List (List Value)):Prop:=∀r∈rows,r.length=size
def Rows.flat{size:Nat}:∀{rows:List (List Value)},Rows size rows->rows.flatten.length=rows.length*size
 | [],_=>by simp
 | r::rs,h=>by
  have h1:=h r (by simp);have h2:=Rows.flat (rows:=rs) λx hx=>h x (by simp[hx]);simp only[aDE,jM,qE,h1,h2,zLF,Nat.one_mul];omega
def Rows.at{size:Nat}:∀{rows:List (List Value)},Rows size rows->∀{i:Nat} {r:List Value},rows[i]? =some r->(rows.flatten.drop (i*size)).take size=r
 | [],_,i,r,hi=>by simp at hi
 | x::xs,h,i,r,hi=>by
  have h1:=h x (by simp);cases i with
  | zero=>
   simp only[qB,zL9] at hi;subst hi;simp[←h1]
  | succ i=>
   have h2:=Rows.at (rows:=xs) (λy hy=>h y (by simp[hy])) (i:=i) (r:=r) (by simpa using hi);rw[aDE,Nat.succ_mul,Nat.add_comm,←aGf,←h1,List.drop_left,h1];exact h2
def Rows.append{size:Nat}{a b:List (List Value)}(ha:Rows size a)(hb:Rows size b):Rows size (a++b):=λr hr=>by
 rcases kB.1 hr with h|h
 ·exact ha r h
 ·exact hb r h
def Rows.take{size:Nat}{a:List (List Value)}(ha:Rows size a)(n:Nat):Rows size (a.take n):=λr hr=>ha r (aLJ hr)
def Rows.drop{size:Nat}{a:List (List Value)}(ha:Rows size a)(n:Nat):Rows size (a.drop n):=λr hr=>ha r (aN3 hr)
def Rows.flat_take{size:Nat}:∀{rows:List (List Value)},Rows size rows->∀n,(rows.take n).flatten=rows.flatten.take (n*size)
 | [],_,n=>by simp
 | r::rs,h,0=>by simp
 | r::rs,h,n+1=>by
  have h1:=h r (by simp);have h2:=Rows.flat_take (rows:=rs) (λx hx=>h x (by simp[hx])) n;rw[zLc,aDE,aDE,h2,Nat.succ_mul,Nat.add_comm,←h1,List.take_length_add_append]
def Rows.flat_drop{size:Nat}:∀{rows:List (List Value)},Rows size rows->∀n,(rows.drop n).flatten=rows.flatten.drop (n*size)
 | [],_,n=>by simp
 | r::rs,h,0=>by simp
 | r::rs,h,n+1=>by
  have h1:=h r (by simp);have h2:=Rows.flat_drop (rows:=rs) (λx hx=>h x (by simp[hx])) n;rw[zLa,aDE,h2,Nat.succ_mul,Nat.add_comm,←h1,←aGf,List.drop_left]
def rB:Nat:=9223372036854775807
structure fZ(h:PH)(size:Nat)(v:Value)(rows:List (List Value)):Prop where
 ok:Rows size rows
 here:∃a c,v= .slice a rows.length c∧rows.length≤c∧c≤rB∧(rows≠[]->∃b o cs e fr,a=some ⟨b,o,none⟩∧h b=some (.cells cs e fr)∧o+rows.length*size≤cs.size∧(cs.extract o (o+rows.length*size)).toList=rows.flatten)∧True
structure eM(h:PH)(e:TypeId)(size:Nat)(v:Value)(rows:List (List Value))(F:List Nat):Prop where
 ok:Rows size rows
 here:(v= .slice none 0 0∧rows=[]∧F=[])∨∃b cap cs,v= .slice (some ⟨b,0,none⟩) rows.length cap∧F=[b]∧h b=some (.cells cs e (0,0))∧rows.length≤cap∧cap≤rB∧cs.size=cap*size∧cs.toList.take (rows.length*size)=rows.flatten
def eM.nil{h:PH}{e:TypeId}{size:Nat}:eM h e size (.slice none 0 0) [] []:=⟨λ_ h=>(by cases h),.inl ⟨rfl,rfl,rfl⟩⟩
def eM.slR{h:PH}{e:TypeId}{size:Nat}{v:Value}{rows:List (List Value)}{F:List Nat}(H:eM h e size v rows F):fZ h size v rows:=by
 refine⟨H.ok,?_⟩;rcases H.here with⟨rfl,rfl,_⟩|⟨b,cap,cs,rfl,_,hb,hle,hm,hs,ht⟩
 ·exact⟨none,0,rfl,by simp,by simp,λh=>absurd rfl h,trivial⟩
 ·have hmul:rows.length*size≤cap*size:=zLP _ hle;exact⟨_,cap,rfl,hle,hm,λ_=>⟨b,0,cs,e,(0,0),rfl,hb,by omega,by simpa[zLx] using ht⟩,trivial⟩
def eM.upd{h h':PH}{e:TypeId}{size:Nat}{v:Value}{rows:List (List Value)}{F G:List Nat}(H:eM h e size v rows F)(u:cQ G h h')(hd:∀b∈F,b∉G):eM h' e size v rows F:=by
 refine⟨H.ok,?_⟩;rcases H.here with h1|⟨b,cap,cs,hv,hF,hb,hrest⟩
 ·exact .inl h1
 ·exact .inr ⟨b,cap,cs,hv,hF,u.get hb (hd b (by simp[hF])),hrest⟩
def eM.known{h:PH}{e:TypeId}{size:Nat}{v:Value}{rows:List (List Value)}{F:List Nat}(H:eM h e size v rows F):∀b∈F,h b≠none:=by
 intro b hb;rcases H.here with⟨_,_,rfl⟩|⟨b',cap,cs,_,rfl,hb',_⟩
 ·cases hb
 ·simp only[gB] at hb;subst hb;rw[hb'];simp
def aDG(v:Value)(G:List Nat):Prop:=∀a n c,v= .slice (some a) n c->a.block∈G
def fZ.upd{h h':PH}{size:Nat}{v:Value}{rows:List (List Value)}{G:List Nat}(H:fZ h size v rows)(u:cQ G h h')(hd:∀a n c,v= .slice (some a) n c->a.block∉G):fZ h' size v rows:=by
 refine⟨H.ok,?_⟩;obtain⟨a,c,hv,h1,h2,h3,h4⟩:=H.here;refine⟨a,c,hv,h1,h2,λhne=>?_,h4⟩;obtain⟨b,o,cs,e,fr,ha,hb,hrest⟩:=h3 hne;exact⟨b,o,cs,e,fr,ha,u.get hb (hd ⟨b,o,none⟩ _ _ (ha▸hv)),hrest⟩
def fZ.ext{h h':PH}{size:Nat}{v:Value}{rows:List (List Value)}(H:fZ h size v rows)(u:dD h h'):fZ h' size v rows:=H.upd u (by simp)
section
variable{P:Program}{h:PH}{t t' e:TypeId}
def fZ.len{size:Nat}{v:Value}{rows:List (List Value)}(H:fZ h size v rows)(hu:P.underlying t=some (.slice e)):dH P (Builtin.len_ #[t] t' #[v])=some (.int .i64 rows.length):=by
 obtain⟨a,c,rfl,_⟩:=H.here;exact aQB hu
def fZ.small{size:Nat}{v:Value}{rows:List (List Value)}(H:fZ h size v rows):rows.length≤rB:=by
 obtain⟨a,c,_,h1,h2,_⟩:=H.here;omega
def fZ.at{size:Nat}{v:Value}{rows:List (List Value)}(H:fZ h size v rows){i:TypeInfo}(hu:P.underlying t=some (.slice e))(hi:P.info? e=some i)(hn:i.size=size){k:IntKind}{j:Int}{r:List Value}(h0:0≤j)(hr:rows[j.toNat]? =some r):
  ∃b o cs e' fr,dH P (indexAt t v (.int k j))=some (pT b o)∧h b=some (.cells cs e' fr)∧o+size≤cs.size∧(cs.extract o (o+size)).toList=r:=by
 have hlt:j.toNat<rows.length:=(zLA.1 hr).1;obtain⟨a,c,rfl,h1,h2,h3,_⟩:=H.here;obtain⟨b,o,cs,e',fr,rfl,hb,hle,hex⟩:=h3 (λh=>by rw[h] at hlt;simp at hlt);have hmul:(j.toNat+1)*size≤rows.length*size:=zLP _ hlt;rw[zLF,Nat.one_mul] at hmul;refine⟨b,o+j.toNat*size,cs,e',fr,aGM hu hi hn h0 (by omega),hb,by omega,?_⟩;have:=H.ok.at hr;rw[←hex] at this;rw[←this];simp only[zLD,zLx,zLy,aGf,aMS];rw[show o+j.toNat*size+size-(o+j.toNat*size)=size from by omega];congr 1;omega
def fZ.loadAgg{size:Nat}{v:Value}{rows:List (List Value)}(H:fZ h size v rows){d:TypeDesc}{i:TypeInfo}(hu:P.underlying t=some (.slice e))(hi:P.info? e=some i)(hn:i.size=size)(he:P.underlying e=some d)(hd:aFP d=false)
  {k:IntKind} {j:Int} {r:List Value} (h0:0≤j) (hr:rows[j.toNat]? =some r):
  ∃a,dH P (indexAt t v (.int k j))=some (.pointer (some a))∧cG P h (loadAt e (.pointer (some a)))=some (.agg r.toArray):=by
 obtain⟨b,o,cs,e',fr,h1,hb,hle,hex⟩:=H.at hu hi hn (k:=k) h0 hr;refine⟨_,h1,?_⟩;rw[pJ he hd hi hn hb hle];congr 2;exact zLw hex
def fZ.loadCell{v:Value}{rows:List (List Value)}(H:fZ h 1 v rows){d:TypeDesc}{i:TypeInfo}(hu:P.underlying t=some (.slice e))(hi:P.info? e=some i)(hn:i.size=1)(he:P.underlying e=some d)(hd:aFP d=true)
  {k:IntKind} {j:Int} {x:Value} (h0:0≤j) (hr:rows[j.toNat]? =some [x]):
  ∃a,dH P (indexAt t v (.int k j))=some (.pointer (some a))∧cG P h (loadAt e (.pointer (some a)))=some x:=by
 obtain⟨b,o,cs,e',fr,h1,hb,hle,hex⟩:=H.at hu hi hn (k:=k) h0 hr;refine⟨_,h1,?_⟩;rw[iP he hd];unfold dB;simp only[hb];have hlt:o<cs.size:=by omega
 simp only[zLD,zLx,aJa] at hex;rw[aHG (by simpa using hlt)] at hex;simp only[zLc,List.take_zero,lN,and_true] at hex;simp[hlt];exact hex
end
def vH:Array Value->Nat->List Value->Array Value
 | c,_,[]=>c
 | c,o,v::vs=>vH (c.setIfInBounds o v) (o+1) vs
def aFv:∀(vs:List Value) (c:Array Value) (o:Nat),(vH c o vs).size=c.size
 | [],c,o=>rfl
 | v::vs,c,o=>by rw[vH,aFv vs];simp
def aB7:∀(vs:List Value) (c:Array Value) (o:Nat),o+vs.length≤c.size->(vH c o vs).toList=c.toList.take o++vs++c.toList.drop (o+vs.length)
 | [],c,o,_=>by simp[vH]
 | v::vs,c,o,h=>by
  simp only[qE] at h;rw[vH,aB7 vs _ _ (by simp;omega)];have hlt:o<c.toList.length:=by simp;omega
  have hlt':o<c.size:=by omega
  simp only[Array.toList_setIfInBounds,qE];rw[List.set_eq_take_append_cons_drop,if_pos hlt];have h1:(c.toList.take o++v::c.toList.drop (o+1)).take (o+1)=c.toList.take o++[v]:=by
   rw[List.take_append,nI,aHZ (by omega),aJa,lY (by simp;omega)];simp
  rw[h1];have:(c.toList.take o++v::c.toList.drop (o+1)).drop (o+1+vs.length)=c.toList.drop (o+(vs.length+1)):=by
   rw[List.drop_append,nI,aHZ (by omega),aLf (by simp;omega),sK,
    show o+1+vs.length-o=vs.length+1 from by omega,zLa,aGf]
   congr 1;omega
  rw[this];simp
section
variable{P:Program}{h:PH}{t t' t2 e:TypeId}
def rX{b o:Nat}{e:TypeId}{Q:Unit->PH->Prop}:∀(vs:List Value) (i:Nat) (h:PH) (c:Array Value),h b=some (.cells c e (0,0))->o+i+vs.length≤c.size->(∀v∈vs,fW v=true)->
  Q () (if vs=[] then h else h.set b (.cells (vH c (o+i) vs) e (0,0)))->dC P (storeCells ⟨b,o,none⟩ vs i) h Q
 | [],i,h,c,_,_,_,hq=>by
  show Q () h;simpa using hq
 | v::vs,i,h,c,hb,hle,hv,hq=>by
  simp only[qE] at hle;have hlt:o+i<c.size:=by omega
  have ha:(⟨b,o,none⟩:Addr).add i=⟨b,o+i,none⟩:=lP ..;show fW v=true∧vX h ((⟨b,o,none⟩:Addr).add i)=false∧(∃u,dB h ((⟨b,o,none⟩:Addr).add i)=some u)∧dC P (storeCells ⟨b,o,none⟩ vs (i+1)) (tE h ((⟨b,o,none⟩:Addr).add i) v) Q;rw[ha];refine⟨hv v (by simp),by simp[vX,hb],⟨c[o+i],by simp[dB,hb,hlt]⟩,?_⟩;have hset:tE h ⟨b,o+i,none⟩ v=h.set b (.cells (c.setIfInBounds (o+i) v) e (0,0)):=by
   funext x;unfold tE PH.set;by_cases hx:x=b
   ·subst hx;simp[hb]
   ·simp[hx]
  rw[hset];refine rX vs (i+1) _ _ dL (by simp;omega) (λu hu=>hv u (by simp[hu])) ?_;have h2:∀o1 o2:Obj,(h.set b o1).set b o2=h.set b o2:=λo1 o2=>by funext x;unfold PH.set;split<;>rfl
  simp only[List.cons_ne_nil,if_false] at hq;split
  ·rename_i hvs;subst hvs;simpa[vH] using hq
  ·rw[h2];simpa[vH,Nat.add_assoc] using hq
def uX{h:PH}{b:Nat}{o1 o2:Obj}:(h.set b o1).set b o2=h.set b o2:=by funext x;unfold PH.set;split<;>rfl
def iT{d:TypeDesc}{b o:Nat}{c:Array Value}{v:Value}{k:cD}(hu:P.underlying t=some d)(hd:aFP d=true)(hb:h b=some (.cells c e (0,0)))(ho:o<c.size)(hv:fW v=true){i:TypeInfo}(hi:P.info? t=some i)(hn:i.size=1)
  (hk:k undef (h.set b (.cells (c.setIfInBounds o v) e (0,0)))):dC P (dT t (pT b o) v) h k:=by
 have hc:v.cells= #[v]:=by cases v<;>first|rfl|cases hv
 show dC P (storeVar t ⟨b,o,none⟩ v >>= λ_=>pure undef) h k;unfold storeVar;rw[kP,bind_assoc,mP hi,hn,hc];simp only[List.size_toArray,qE,zLN,fQ,ne_eq,not_true_eq_false,if_false];refine dC.bind (P:=P) (s:=storeCells ⟨b,o,none⟩ [v]) ?_;refine rX [v] 0 h c hb (by simp;omega) (by simp[hv]) ?_;show k undef (if [v]=[] then h else _);simpa[vH] using hk
def aP9{b o:Nat}{c:Array Value}{cs:Array Value}{k:cD}(hb:h b=some (.cells c e (0,0))){i:TypeInfo}(hi:P.info? t=some i)(hn:i.size=cs.size)(h0:0<cs.size)(ho:o+cs.size≤c.size)(hv:∀v∈cs.toList,fW v=true)
  (hk:k undef (h.set b (.cells (vH c o cs.toList) e (0,0)))):dC P (dT t (pT b o) (.agg cs)) h k:=by
 show dC P (storeVar t ⟨b,o,none⟩ (.agg cs) >>= λ_=>pure undef) h k;unfold storeVar;rw[kP,bind_assoc,mP hi,hn];simp only[Value.cells,ne_eq,not_true_eq_false,if_false];refine dC.bind (P:=P) (s:=storeCells ⟨b,o,none⟩ cs.toList) ?_;refine rX cs.toList 0 h c hb (by simpa using ho) hv ?_;have:cs.toList≠[]:=by intro h;simp at h;subst h;simp at h0
 show k undef (if cs.toList=[] then h else _);simpa[this] using hk
def aOi{c:Array Value}{vs:List Value}(h:vs.length=c.size):vH c 0 vs=vs.toArray:=by
 apply zLw;rw[aB7 vs c 0 (by omega)];simp[h]
def aJP{a:Option Addr}{len cap l hh:Nat}{lo hi:Option Value}{i:TypeInfo}(hu:P.underlying t=some (.slice e))(hi':P.info? e=some i)
  (hlo:lo=none∧l=0∨∃k,lo=some (.int k l)) (hhi:hi=none∧hh=len∨∃k,hi=some (.int k hh)) (h1:l≤hh) (h2:hh≤cap):
  dH P (Instr.sliceAt t (.slice a len cap) lo hi none)=some (.slice (if cap=l then a else a.map (·.add (l*i.size))) (hh-l) (cap-l)):=by
 show dH P (underlying t >>= _)=_;rw[xP hu];show dH P (underlying t >>= _)=_;rw[xP hu];have hb:Instr.sliceBounds true len cap lo hi none=pure (l,hh,cap):=by
  have hcast:∀n m:Nat,n≤m->(0≤(n:Int)∧(n:Int)≤(m:Int)):=λn m h=>by omega
  rcases hlo with⟨rfl,rfl⟩|⟨k,rfl⟩<;>rcases hhi with⟨rfl,rfl⟩|⟨k',rfl⟩ <;>
   simp[Instr.sliceBounds,Instr.sliceBound,asIntOf,hcast,h1,h2]
 simp only[hb,pure_bind];rw[kP,aKS hi'];rfl
def fZ.first{size:Nat}{v:Value}{rows:List (List Value)}(S:fZ h size v rows):cG P h (Builtin.firstCells size rows.length v)=some rows.flatten.toArray:=by
 obtain⟨a,c,rfl,h1,h2,h3,_⟩:=S.here;by_cases hr:rows=[]
 ·subst hr;cases a with
  | none=>rfl
  | some a=>simp[Builtin.firstCells,loadCells,loadCellsFrom,cG,pure]
 ·obtain⟨b,o,cs,e',fr,rfl,hb,hle,hex⟩:=h3 hr;show cG P h (loadCells ⟨b,o,none⟩ (rows.length*size))=_;rw[aLD hb hle];congr 1;exact zLw (by simpa using hex)
def iD{α β:Type}{s:Sem α}{f:α->Sem β}{a:α}{Q:β->PH->Prop}(hs:cG P h s=some a)(hq:dC P (f a) h Q):dC P (s >>= f) h Q:=
 dC.bind (P:=P) (s:=s) (f:=f) (cG.semH hs hq)
def aAe{α:Type}{q:Question}{f:Nat->Sem α}{Q:α->PH->Prop}:dC P (choose q >>= f) h Q= ∀t,dC P (f (if q.forced then 0 else q.cut t)) h Q:=rfl
def aHM{α:Type}{n:Nat}{f:Unit->Sem α}{Q:α->PH->Prop}:dC P (askRoom n >>= f) h Q=dC P (f ()) h Q:=by
 unfold askRoom;split<;>rfl
def aNL:Value->Nat
 | .slice _ _ c=>c
 | _=>0
def jK{size bytes:Nat}{v x:Value}{rows ys:List (List Value)}{F:List Nat}{i:TypeInfo}{z:Value}{e2:TypeId}{k:cD}
  (hu:P.underlying t=some (.slice e)) (hu2:P.underlying t2=some (.slice e2)) (hi:P.info? e=some i) (hn:i.size=size) (hby:i.bytes=bytes) (hz:i.zero=some z) (hzs:z.cells.size=size) (hb0:0<bytes)
  (H:eM h e size v rows F) (S:fZ h size x ys) (hcell:∀r∈ys,∀u∈r,fW u=true) (hl:(rows.length+ys.length)*bytes≤140737488355328)
  (hk:∀v' h' F',eM h' e size v' (rows++ys) F'->cQ F h h'->(∀b∈F',b∈F∨h b=none)->aNL v≤aNL v'->k v' h'):dC P (Builtin.append_ #[t,t2] t' #[v,x]) h k:=by
 have hbig:rows.length+ys.length≤140737488355328:=zLE (Nat.le_mul_of_pos_right _ hb0) hl;obtain⟨xa,xc,hx,hx1,hx2,hx3,hx4⟩:=S.here;have hfirst:=S.first (P:=P);have hrows:Rows size (rows++ys):=H.ok.append S.ok;have hflat:∀u∈ys.flatten,fW u=true:=λu hu=>by
  obtain⟨r,hr,hur⟩:=List.mem_flatten.1 hu;exact hcell r hr u hur
 -- a new block
 have grown:∀(m:Nat),rows.length+ys.length≤m->m≤rB->aNL v≤m->∀r,h r=none->
   k (.slice (some ⟨r,0,none⟩) (rows.length+ys.length) m) (h.set r (.cells (rows.flatten.toArray++ys.flatten.toArray++Builtin.zeroCells z.cells (m-(rows.length+ys.length))) e (0,0))):=by
  intro m hm hmax hcapv r hr;refine hk _ _ [r] ⟨hrows,.inr ⟨r,m,_,by rw[jM],rfl,dL,by simpa using hm,hmax,?_,?_⟩⟩ (cQ.new hr) (λb hb=>.inr (by simp at hb;subst hb;exact hr)) hcapv
  ·simp only[Array.size_append,List.size_toArray,H.ok.flat,S.ok.flat,Builtin.zeroCells,Array.size_map,Array.size_range,hzs];rw[←zLF,←zLF];congr 1;omega
  ·have hlen:(rows++ys).length*size=(rows.flatten++ys.flatten).length:=by rw[jM,jM,H.ok.flat,S.ok.flat,zLF]
   simp only[Array.toList_append,hlen,zLG];rw[zLH (nC _),zLJ]
 obtain⟨va,vc,hv,hv1,hv2,_,_⟩:=H.slR.here;have hvfirst:=H.slR.first (P:=P);subst hx;subst hv;simp only[Builtin.append_,zLK,qB,sL,qC hu,qC hu2,kP,mP hi,pure_bind,zLu,if_false,Builtin.lenOf,zLq,if_true,hn];by_cases hfit:rows.length+ys.length≤vc
 ·rw[if_pos hfit];refine iD hfirst ?_;rcases H.here with⟨hv',hr,hF⟩|⟨b,cap,cs,hv',hF,hb,hle,hcap,hcs,htake⟩
  ·subst hr;simp only[zLN,Value.slice.injEq,true_and] at hv';obtain⟨rfl,rfl⟩:=hv';have hy:ys=[]:=zLO (by omega);subst hy;exact hk _ _ [] (by simpa using eM.nil) cQ.refl (by simp) (nC _)
  ·simp only[Value.slice.injEq,true_and] at hv';obtain⟨rfl,rfl⟩:=hv';have hmul:(rows.length+ys.length)*size≤vc*size:=zLP _ hfit;have hadd:(⟨b,0,none⟩:Addr).add (rows.length*size)=⟨b,0+rows.length*size,none⟩:=lP ..;show dC P (storeCells ((⟨b,0,none⟩:Addr).add (rows.length*size)) ys.flatten.toArray.toList >>= λ_=>pure _) h k;rw[hadd];refine dC.bind (P:=P) (s:=storeCells _ _) ?_;refine rX _ 0 h cs hb (by simp only[S.ok.flat,hcs];rw[zLF] at hmul;omega) (by simpa using hflat) ?_;show k _ _;simp only[fQ,Nat.add_zero];have fin:∀cs':Array Value,cs'.size=cs.size->cs'.toList.take ((rows.length+ys.length)*size)=rows.flatten++ys.flatten->∀h':PH,h' b=some (.cells cs' e (0,0))->cQ F h h'->
     k (.slice (some ⟨b,0,none⟩) (rows.length+ys.length) vc) h':=by
    intro cs' hsz htk h' hb' hu';refine hk _ _ [b] ⟨hrows,.inr ⟨b,vc,cs',by rw[jM],rfl,hb',by simpa using hfit,hcap,by rw[hsz,hcs],by rw[jM,htk,zLG]⟩⟩ hu' (λb' hb'=>.inl (hF▸hb')) (nC _)
   split
   ·rename_i hys;refine fin cs rfl ?_ h hb cQ.refl;have:ys.length*size=0:=by rw[←S.ok.flat,hys];rfl
    rw[zLF,this,hys,zLQ,Nat.add_zero];exact htake
   ·refine fin _ (aFv _ _ _) ?_ _ dL (cQ.set (by rw[hF];simp));have hlen:rows.length*size+ys.flatten.length≤cs.size:=by rw[S.ok.flat,←zLF,hcs];exact hmul
    rw[aB7 _ _ _ hlen,htake];have hlen2:(rows.length+ys.length)*size=(rows.flatten++ys.flatten).length:=by rw[jM,H.ok.flat,S.ok.flat,zLF]
    rw[hlen2,zLH (nC _),zLJ]
 ·rw[if_neg hfit];have hlt:vc<rows.length+ys.length:=by omega
  have h63:¬(((rows.length+ys.length:Nat):Int)>IntKind.i64.max∧(False∨i.bytes=0)):=by
   rintro⟨_,hh⟩;rcases hh with hh|hh
   ·exact hh
   ·omega
  have hfits:¬(Builtin.nextslicecap (rows.length+ys.length) vc*i.bytes>2^48):=by
   rw[hby];have:=growslice_fits hlt hl;omega
  rw[mP hi,if_neg h63,mP hi,if_neg hfits,aAe];intro tt;rw[mP hi,aHM];refine iD hvfirst (iD hfirst ?_);have hzv:zeroValue e=(typeInfo e >>= λi=>match i.zero with|some v=>pure v|none=>unsupported (.resourceLimit "a value of more than 2^22 cells")):=rfl;rw[hzv,bind_assoc,mP hi,hz,pure_bind];have hcut:∀n m:Nat,n≤140737488355328->n≤(Question.appendCap n m e).cut tt∧(Question.appendCap n m e).cut tt≤rB:=by
   intro n m hn;have hpos:0<2^63-n:=by omega
   have:=zLB tt hpos;simp only[Question.cut,rB];omega
  have hforced:(Question.appendCap (rows.length+ys.length) vc e).forced=false:=rfl;rw[hforced];obtain⟨hc1,hc2⟩:=hcut (rows.length+ys.length) vc hbig;intro r hr;exact grown _ hc1 hc2 (show vc≤_ by omega) r hr
def aS5{a:Addr}{n:Nat}:(a.add n).block=a.block:=by unfold Addr.add;split<;>rfl
def fZ.cut{size:Nat}{v:Value}{rows:List (List Value)}(H:fZ h size v rows){i:TypeInfo}(hu:P.underlying t=some (.slice e))(hi':P.info? e=some i)(hn:i.size=size){lo hi:Option Value}{l m:Nat}
  (hlo:lo=none∧l=0∨∃k,lo=some (.int k l)) (hhi:hi=none∧m=rows.length∨∃k,hi=some (.int k m)) (h1:l≤m) (h2:m≤rows.length):
  ∃v',dH P (Instr.sliceAt t v lo hi none)=some v'∧fZ h size v' ((rows.take m).drop l)∧∀x n c,v'= .slice (some x) n c->∃x0 n0 c0,v= .slice (some x0) n0 c0∧x.block=x0.block:=by
 obtain⟨a,c,rfl,hc1,hc2,hc3,hc4⟩:=H.here;refine⟨_,aJP hu hi' hlo hhi h1 (by omega),⟨(H.ok.take m).drop l,?_⟩,?_⟩
 ·have hlen:((rows.take m).drop l).length=m-l:=by simp;omega
  refine⟨_,_,by rw[hlen],by omega,by omega,λhne=>?_,trivial⟩
  ·have hpos:0<m-l:=by rw[←hlen];exact aIA.2 hne
   have hne':rows≠[]:=λh=>by subst h;simp at hlen;omega
   obtain⟨b,o,cs,e',fr,rfl,hb,hle,hex⟩:=hc3 hne';have hm1:m*size≤rows.length*size:=zLP _ h2;have hm2:m*size=l*size+(m-l)*size:=by rw[←zLF];congr 1;omega
   refine⟨b,o+l*size,cs,e',fr,?_,hb,by rw[hlen];omega,?_⟩
   ·rw[if_neg (by omega),aKm,hn,lP]
   ·rw[hlen,(H.ok.take m).flat_drop,H.ok.flat_take,←hex];simp only[zLD,zLx];rw[aMS,aHZ (by omega),zLy,aGf];congr 1;omega
 ·intro x n c' hv;simp only[Value.slice.injEq] at hv;have hx:=hv.1;split at hx
  ·exact⟨x,_,_,by rw[hx],rfl⟩
  ·obtain⟨y,hy,rfl⟩:=Option.map_eq_some_iff.1 hx;exact⟨y,_,_,by rw[hy],aS5⟩
end
section
variable{P:Program}{h:PH}{t t' t2 e:TypeId}
def rW{b:Nat}{c:Array Value}{cs:Array Value}{k:cD}(hb:h b=some (.cells c e (0,0))){i:TypeInfo}(hi:P.info? t=some i)(hn:i.size=cs.size)(h0:0<cs.size)(ho:c.size=cs.size)(hv:∀v∈cs.toList,fW v=true)
  (hk:k undef (h.set b (.cells cs e (0,0)))):dC P (dT t (pT b 0) (.agg cs)) h k:=by
 refine aP9 hb hi hn h0 (by omega) hv ?_;rw[aOi (by simp[ho])];simpa using hk
def aUy{x y:Operand}{a:Option Addr}{n c:Nat}(hu:P.underlying t=some (.slice e)):cG P h (jT .eql t x y (.slice a n c) (.slice none 0 0))=some (.bool a.isNone):=by
 show cG P h (binOp .eql t (.slice a n c) (.slice none 0 0))=_;show cG P h (Op.equalIn Op.maxDepth t (.slice a n c) (.slice none 0 0) >>= λb=>(pure (Value.bool b):Sem Value))=_;rw[show Op.maxDepth=9999+1 from rfl];rw[kC];have:cG P h (Op.equalIn (9999+1) t (.slice a n c) (.slice none 0 0))=some a.isNone:=by
  rw[Op.equalIn];rw[kM hu];cases a<;>rfl
 rw[this];rfl
def aDA{x y:Operand}{a:Option Addr}(hu:P.underlying t=some (.pointer e)):cG P h (jT .eql t x y (.pointer a) (.pointer none))=some (.bool a.isNone):=by
 show cG P h (binOp .eql t (.pointer a) (.pointer none))=_;have:cG P h (Op.equalIn (9999+1) t (.pointer a) (.pointer none))=some a.isNone:=by
  rw[Op.equalIn];rw[kM hu];cases a<;>rfl
 show cG P h (Op.equalIn Op.maxDepth t (.pointer a) (.pointer none) >>= λb=>(pure (Value.bool b):Sem Value))=_;rw[show Op.maxDepth=9999+1 from rfl,kC,this];rfl
def eM.mk'{b cap:Nat}{size:Nat}{rows:List (List Value)}{cs:Array Value}(hr:Rows size rows)(hb:h b=some (.cells cs e (0,0)))(hle:rows.length≤cap)(hm:cap≤rB)(hs:cs.size=cap*size)(ht:cs.toList.take (rows.length*size)=rows.flatten):
  eM h e size (.slice (some ⟨b,0,none⟩) rows.length cap) rows [b]:=⟨hr,.inr ⟨b,cap,cs,rfl,rfl,hb,hle,hm,hs,ht⟩⟩
def eM.lit{r n:Nat}{size:Nat}{rows:List (List Value)}{cs:Array Value}(hr:Rows size rows)(hb:h r=some (.cells cs e (0,0)))(hn:n=rows.length)(hm:n≤rB)(hcs:cs.toList=rows.flatten):eM h e size (.slice (some ⟨r,0,none⟩) n n) rows [r]:=by
 subst hn;have hsz:cs.size=rows.length*size:=by rw[←hr.flat,←hcs];simp
 refine eM.mk' hr hb (nC _) hm hsz ?_;rw[←hsz,hcs,lY];rw[←hcs];simp
def eM.write{size l:Nat}{v:Value}{rows ys:List (List Value)}{F:List Nat}(H:eM h e size v rows F)(hy:Rows size ys)(hle:l+ys.length≤rows.length){b n cap:Nat}{c:Array Value}(hv:v= .slice (some ⟨b,0,none⟩) n cap)(hb:h b=some (.cells c e (0,0))):
  eM (h.set b (.cells (vH c (l*size) ys.flatten) e (0,0))) e size v (rows.take l++ys++rows.drop (l+ys.length)) F:=by
 have hlen:(rows.take l++ys++rows.drop (l+ys.length)).length=rows.length:=by simp;omega
 refine⟨((H.ok.take l).append hy).append (H.ok.drop _),?_⟩;rcases H.here with⟨rfl,_,_⟩|⟨b',cap',cs,rfl,rfl,hb',h1,h2,h3,h4⟩
 ·cases hv
 ·simp only[Value.slice.injEq,zL9,Addr.mk.injEq,and_true] at hv;obtain⟨rfl,rfl,rfl⟩:=hv;rw[hb] at hb';cases hb';refine .inr ⟨b',cap',_,by rw[hlen],rfl,dL,by rw[hlen];exact h1,h2,by rw[aFv];exact h3,?_⟩;have m1:(l+ys.length)*size≤rows.length*size:=zLP _ hle;have m2:rows.length*size≤cap'*size:=zLP _ h1;rw[zLF] at m1;rw[hlen,aB7 _ _ _ (by rw[hy.flat,h3];omega)];rw[zLG,zLG,H.ok.flat_take,H.ok.flat_drop,←h4,hy.flat];rw[aMS,aHZ (by omega)];rw[List.take_append];have e1:(List.take (l*size) c.toList++ys.flatten).length=l*size+ys.length*size:=by
   rw[jM,hy.flat,nI,aHZ (by simp[h3];omega)]
  rw[e1,lY (by omega),zLy,zLF]
def eM.storeCell{j:Nat}{v:Value}{rows:List (List Value)}{F:List Nat}(H:eM h e 1 v rows F){i:TypeInfo}{d:TypeDesc}(hu:P.underlying t=some (.slice e))(hi:P.info? e=some i)(hn:i.size=1)(he:P.underlying e=some d)(hd:aFP d=true){k:IntKind}(hj:j<rows.length)
  {x:Value} (hc:fW x=true):
  ∃a,dH P (indexAt t v (.int k j))=some (.pointer (some a))∧∀K:Value->PH->Prop,(∀h',eM h' e 1 v (rows.take j++[[x]]++rows.drop (j+1)) F->cQ F h h'->K undef h')->dC P (dT e (.pointer (some a)) x) h K:=by
 rcases H.here with⟨rfl,rfl,_⟩|⟨b,cap,cs,rfl,rfl,hb,h1,h2,h3,h4⟩
 ·simp at hj
 ·refine⟨_,aGM hu hi hn (by omega) (by omega),λK hK=>?_⟩;have hw:=H.write (l:=j) (ys:=[[x]]) (by intro r hr;simp at hr;subst hr;rfl) (by simp only[qE,zLN];omega) rfl hb;have e1:(0+(j:Int).toNat*1)=j:=by simp
  rw[e1];refine iT he hd hb (by rw[h3];omega) hc hi hn ?_;have e2:([[x]]:List (List Value)).flatten=[x]:=by simp
  rw[e2,Nat.mul_one] at hw;exact hK _ hw (cQ.set (by simp))
def aWZ{size l m n:Nat}{v d x:Value}{rows ys:List (List Value)}{F:List Nat}{i:TypeInfo}{k:cD}
  (hu:P.underlying t=some (.slice e)) (hi:P.info? e=some i) (hn:i.size=size)
  (H:eM h e size v rows F) (hd:∃k k',dH P (Instr.sliceAt t v (some (.int k l)) (some (.int k' m)) none)=some d) (hlm:l≤m) (hm:m≤rows.length) (S:fZ h size x ys) (hcell:∀r∈ys,∀u∈r,fW u=true) (hnn:n=min ys.length (m-l))
  (hk:∀h',eM h' e size v (rows.take l++ys.take n++rows.drop (l+n)) F->cQ F h h'->k (.int .i64 n) h'):dC P (Builtin.copy_ #[t,t2] t' #[d,x]) h k:=by
 obtain⟨kk,kk',hd⟩:=hd;obtain⟨xa,xc,hx,hx1,hx2,hx3,hx4⟩:=S.here;obtain⟨va,vc,hv,hv1,hv2,hv3,hv4⟩:=H.slR.here;rw[hv,aJP hu hi (.inr ⟨kk,rfl⟩) (.inr ⟨kk',rfl⟩) hlm (by omega)] at hd;simp only[zL9] at hd;subst hd;have hS:fZ h size (.slice xa n xc) (ys.take n):=by
  have hl:(ys.take n).length=n:=by simp;omega
  refine⟨S.ok.take n,xa,xc,by rw[hl],by omega,hx2,λhne=>?_,hx4⟩;have hne':ys≠[]:=by rintro rfl;simp at hne
  obtain⟨b,o,cs,e',fr,ha,hb,hle,hex⟩:=hx3 hne';have hmul:n*size≤ys.length*size:=zLP _ (by omega);refine⟨b,o,cs,e',fr,ha,hb,by rw[hl];omega,?_⟩;rw[hl,S.ok.flat_take,←hex];simp only[zLD,zLx,aJa];rw[aMS,aHZ hmul]
 have hfirst:=hS.first (P:=P);have hlen:(ys.take n).length=n:=by simp;omega
 rw[hlen] at hfirst;subst hx;have hmin:Nat.min ys.length (m-l)=n:=hnn.symm;simp only[Builtin.copy_,zLK,qB,sL,qC hu,kP,mP hi,pure_bind,Builtin.lenOf,hn,hmin];refine iD (s:=Builtin.firstCells size n (.slice xa ys.length xc)) (a:=(ys.take n).flatten.toArray) ?_ ?_
 ·cases xa<;>exact hfirst
 ·by_cases hn0:n=0
  ·have hz:(ys.take n)=[]:=by rw[hn0];rfl
   have hsame:rows.take l++ys.take n++rows.drop (l+n)=rows:=by rw[hz,hn0];simp
   have fin:=hk h (by rw[hsame];exact H) cQ.refl;rw[hz];split
   ·exact fin
   ·exact fin
  ·have hne:rows≠[]:=by rintro rfl;simp at hm;omega
   obtain⟨b,o,cs,e',fr,rfl,hb,hle,hex⟩:=hv3 hne;rcases H.here with⟨hv',_,_⟩|⟨b',cap',cs',hv',hF,hb',h1,h2,h3,h4⟩
   ·rw[hv] at hv';cases hv'
   ·rw[hv] at hv';simp only[Value.slice.injEq,zL9,Addr.mk.injEq,and_true,true_and] at hv';obtain⟨⟨rfl,rfl⟩,rfl⟩:=hv';rw[if_neg (by omega),aKm,lP];have kA:∀u∈(ys.take n).flatten,fW u=true:=λu hu=>by
     obtain⟨r,hr,hur⟩:=List.mem_flatten.1 hu;exact hcell r (aLJ hr) u hur
    have m1:(l+n)*size≤rows.length*size:=zLP _ (by omega);have m2:rows.length*size≤vc*size:=zLP _ h1;rw[zLF] at m1;have hflen:(ys.take n).flatten.length=n*size:=by rw[hS.ok.flat,hlen]
    refine dC.bind (P:=P) (s:=storeCells _ _) ?_;refine rX _ 0 h cs' hb' (by rw[hflen,h3];omega) kA ?_;show k _ _;have hw:=H.write (l:=l) hS.ok (by rw[hlen];omega) hv hb';rw[hlen] at hw;split
    ·rename_i hys;have hys':(ys.take n).flatten=[]:=hys;rw[hys'] at hw;have hid:h.set b (.cells (vH cs' (l*size) []) e (0,0))=h:=by
      funext x;unfold PH.set vH;split
      ·rename_i e1;subst e1;exact hb'.symm
      ·rfl
     rw[hid] at hw;exact hk h hw cQ.refl
    ·simp only[fQ,Nat.add_zero,hn];exact hk _ hw (cQ.set (by rw[hF];simp))
end
end
section
open Go Go.RowKit Go.ChangeShapes
def aK5(W:World):PH:=λb=>W.heap[b]?
def aTl(W:World):qG (aK5 W) W:=λ_ _ h=>h
structure aKq(W W':World):Prop where
 os:W'.os=W.os
 output:W'.output=W.output
 heap:∀b,b<W.heap.size->W'.heap[b]? =W.heap[b]?
def aTC{P:Program}{f:FuncId}{args:Array Value}{W:World}(H:aT P f args (aK5 W) λv h'=>v= .bool true∧dD (aK5 W) h')(he:aEz P f=true:=by kernel_rfl):
  Calls P f args W λe w'=>e= .returned (.bool true)∧aKq W w':=by
 refine(H.calls he W (aTl W)).mono ?_;rintro e w' ⟨v,h',rfl,⟨rfl,hx⟩,hs,hf⟩;refine⟨rfl,hf.os,hf.output,λb hb=>?_⟩;cases e:W.heap[b]? with
 | none=>simp at e;omega
 | some o=>exact hs b o (hx.get e)
def aKq.cell{W W':World}(K:aKq W W')(a:Addr)(h:a.block<W.heap.size):W'.cell? a=W.cell? a:=by
 unfold World.cell?;rw[K.heap _ h]
def aKq.frozen{W W':World}(K:aKq W W')(a:Addr)(h:a.block<W.heap.size):W'.frozen? a=W.frozen? a:=by
 unfold World.frozen?;rw[K.heap _ h]
def aKq.sameAt{W W':World}(K:aKq W W')(p:MemPlace)(h:p.block<W.heap.size):W.sameAt W' p:=by
 cases p with
 | cell b off=>exact K.cell _ h
 | map b=>exact K.heap _ h
def aKq.but{W W':World}(K:aKq W W')(may:MemPlace->Prop):W.keptBut W' may:=by
 refine⟨K.os,K.output,λi hi=>?_⟩;rw[K.heap i hi];cases W.heap[i]? with
 | none=>rfl
 | some o=>
  cases o with
  | cells c t fr=>exact⟨rfl,rfl,rfl,λ_ _=>rfl⟩
  | map es clock=>exact .inr ⟨rfl,rfl⟩
  | _=>rfl
def aMF{H:Type}{enc:TypeId×Value->H}{P:Program}{w w':World}{base:Nat}{spare:Nat->Bool}{held:Bool}:∀{ts:List TypeId} {vs:List Value} {ds:List (DataW H)} {ps:List MemPlace},
  DataW.TrodAll enc P w base spare held ts vs ds ps->(∀p∈ps,w.sameAt w' p)->DataW.TrodAll enc P w' base spare held ts vs ds ps
 | [],[],[],_,h,_=>h
 | _::_,_::_,_::_,_,⟨p,q,⟨n,h1⟩,h2,e⟩,hs=>⟨p,q,⟨n,DataW.trod_carry n _ _ _ h1 λx hx=>hs x (by rw[e];exact zLk _ hx)⟩,aMF h2 (λx hx=>hs x (by rw[e];exact zLl _ hx)),e⟩
def aRm{H:Type}{enc:TypeId×Value->H}{P:Program}{f:Func}{s:ChangeSpec}{apart fresh handsOn again:Bool}{W W':World}{args:Array Value}{ds gs:List (DataW H)}{before:List MemPlace}
  {T:TypeId->Prop} (KP:Kids P T) (full:∀t e,T t->P.underlying t=some (.slice e)->0<P.cellsOf e) (hT:∀t∈f.params.toList,T t) {tb:TypeId} (hb:P.underlying tb=some .bool) (hr:f.resultTypes= #[tb])
  (hs:s.vars=[]) (hW:DataW.Whole enc P f.params.toList s.vars apart W args.toList ds gs before) (hK:aKq W W')
  (e1:(s.fn H (ds++gs)).results=[.lit (.bool true)]) (e2:(s.fn H (ds++gs)).args=ds) (e3:(s.fn H (ds++gs)).vars=[]):
  s.post enc P f apart fresh handsOn again W args (.bool true) W':=by
 have hlt:=λp hp=>hW.lt p hp;have hW':=hW;obtain⟨pa,pv,hA,hV,rfl,hz,hn⟩:=hW';rw[hs] at hV;obtain⟨rfl,rfl⟩:=trodVars_none hV;simp only[zLQ] at *;have hargs:∀sp:Nat->Bool,(∀p∈pa,sp p.block=true)->DataW.TrodAll enc P W' 0 sp true f.params.toList args.toList ds pa:=λsp hsp=>
  aMF (DataW.TrodAll.respare KP full hT hA hsp) λp hp=>hK.sameAt p (hlt p hp)
 have hres:∀(b:Nat) (sp:Nat->Bool) (hd:Bool),DataW.TrodAll enc P W' b sp hd f.resultTypes.toList ((Value.bool true).resultList f.resultTypes.size) (s.fn H ds).results []:=λb sp hd=>by
  rw[e1,hr];exact trodAll_cons_mk (shut_bool hb _) trodAll_mk0
 have hvars:∀sp:Nat->Bool,DataW.TrodVars enc P W' sp s.vars (s.fn H ds).vars []:=λsp=>by rw[e3,hs];rfl
 have hold:∀p∈pa,(λb=>decide (b<W.heap.size)) p.block=true:=λp hp=>by simpa using hlt p hp
 refine⟨ds,[],pa,[],pa,[],hW,by simpa using hres _ _ _,by simpa[e2] using hargs _ hold,by simpa using hvars _,World.keptBut_mono (λp hp=>⟨hp,by simp[hp]⟩) (hK.but (· ∈pa)),λ_=>?_⟩;refine⟨ok_one hr rfl (okWide_bool_mk hb _),_,_,([]++pa)++[],⟨[]++pa,[],trodAll_append (hargs _ (λ_ _=>rfl)) (hres _ _ _),hvars _,rfl,?_,?_⟩,?_⟩
 ·intro b off hp;have hp':MemPlace.cell b off∈pa:=by simpa using hp
  rw[hK.frozen ⟨b,off,none⟩ (hlt _ hp')];exact hz b off hp'
 ·intro ha;simpa using hn ha
 ·intro p hp _;simpa using hp
variable{H:Type}{enc:TypeId×Value->H}{P:Program}{w:World}{spare:Nat->Bool}{held:Bool}
def Rd(enc:TypeId×Value->H)(P:Program)(w:World)(spare:Nat->Bool)(held:Bool)(t:TypeId)(cs:List Value):Prop:=∃n x,DataW.trod enc P w 0 spare held n t cs=some x
def aIa{t:TypeId}{k:IntKind}{cs:List Value}(ht:P.underlying t=some (.int k))(h:Rd enc P w spare held t cs):∃n,cs=[.int k n]∧(Lit.int k n).wf=true:=by
 obtain⟨n,x,h⟩:=h;obtain⟨i,rfl,_,hw⟩:=DataW.trod_int ht h;exact⟨i,rfl,hw⟩
def aYg{t:TypeId}{cs:List Value}(ht:P.underlying t=some .bool)(h:Rd enc P w spare held t cs):∃b,cs=[.bool b]:=by
 obtain⟨n,x,h⟩:=h;obtain⟨i,rfl,_⟩:=DataW.trod_bool ht h;exact⟨i,rfl⟩
def aPy{t:TypeId}{cs:List Value}(ht:P.underlying t=some .string)(h:Rd enc P w spare held t cs):∃s:ByteArray,cs=[.string s]∧s.size≤maxLen:=by
 obtain⟨n,x,h⟩:=h;obtain⟨i,rfl,_,hw⟩:=DataW.trod_string ht h;exact⟨i,rfl,hw⟩
def aQY{t:TypeId}{fs:Array Field}{cs:List Value}(ht:P.underlying t=some (.struct fs))(h:Rd enc P w spare held t cs):
  cs.length=P.cellsOf t∧∀(i:Nat) (f:Field),fs[i]? =some f->Rd enc P w spare held f.type ((cs.drop f.offset).take (P.cellsOf f.type)):=by
 obtain⟨n,x,h⟩:=h;obtain⟨xs,m,rfl,_,hl,hx,hf⟩:=DataW.trod_struct ht h;refine⟨hl,λi f hi=>?_⟩;have h1:=hf i f hi;have hlt:i<xs.length:=by rw[hx];exact(aJx.1 hi).1
 rw[lJ hlt] at h1;exact⟨m,_,h1⟩
def aVP{t e:TypeId}{n:Nat}{cs:List Value}(ht:P.underlying t=some (.array n e))(h:Rd enc P w spare held t cs):
  cs.length=P.cellsOf t∧∀i,i<n->Rd enc P w spare held e ((cs.drop (i*P.cellsOf e)).take (P.cellsOf e)):=by
 obtain⟨m,x,h⟩:=h;cases m with
 | zero=>simp[DataW.trod] at h
 | succ m=>
  unfold DataW.trod at h;rw[ht] at h;split at h<;>simp_all;obtain⟨hl,xs,hp,hd⟩:=h;intro i hi;have:=mapM_some_get hp i i (by simp[hi]);have hlt:i<xs.length:=by have:=mapM_some_length hp;simp at this;omega
  rw[lJ hlt] at this;exact⟨m,_,this⟩
def aQW{w:World}{a:Addr}{v:Value}(h:w.cell? a=some v):∃c t fr,w.heap[a.block]? =some (.cells c t fr)∧a.spot=none∧c[a.off]? =some v:=by
 unfold World.cell? at h;split at h
 ·rename_i c t fr e;cases hs:a.spot with
  | none=>rw[hs] at h;exact⟨c,t,fr,e,rfl,by simpa using h⟩
  | some b=>rw[hs] at h;simp at h
 ·cases h
def aUN{a:Addr}(h:a.spot=none)(n:Nat):a.add n=⟨a.block,a.off+n,none⟩:=by
 obtain⟨b,o,s⟩:=a;simp only at h;subst h;exact lP b o n
def aVb{t e:TypeId}{cs:List Value}(ht:P.underlying t=some (.slice e))(hpos:0<P.cellsOf e)(h:Rd enc P w spare held t cs):
  ∃v rows,cs=[v]∧fZ (aK5 w) (P.cellsOf e) v rows∧∀r∈rows,Rd enc P w spare held e r:=by
 obtain⟨n,x,h⟩:=h;rcases Go.Deep.open_slice ht h with⟨rfl,_⟩|⟨a,len,cap,m,k,D,Pl,rfl,hb,hl,hm,hmm,rfl,hx⟩
 ·exact⟨_,[],rfl,eM.nil (e:=e).slR,by simp⟩
 have hlm:len≤m:=by rw[hmm];split<;>omega
 obtain⟨R,hR⟩:=Go.Deep.choose_lt (α:=List Value) (n:=len) (p:=λi r=>w.cells? 0 (a.add (i*P.cellsOf e)) (P.cellsOf e)=some r∧Rd enc P w spare held e r) (λi hi=>by
  obtain⟨r,h1,h2⟩:=hx i (by omega);exact⟨r,h1,k,_,h2⟩)
 have hrows:Rows (P.cellsOf e) ((List.range len).map R):=λr hr=>by
  obtain⟨i,hi,rfl⟩:=mJ.1 hr;exact(World.cells?_some (hR i (aLM.1 hi)).1).2.1
 refine⟨_,(List.range len).map R,rfl,⟨hrows,some a,cap,by simp,by simpa using hl,hm,λhne=>?_,trivial⟩,λr hr=>?_⟩
 ·have hlen:0<len:=by
   rcases Nat.eq_zero_or_pos len with h0|h0
   ·subst h0;simp at hne
   ·exact h0
  have cell:∀i j,i<len->j<P.cellsOf e->w.cell? (a.add (i*P.cellsOf e+j))=(R i)[j]?:=λi j hi hj=>by
   rw[←Go.Deep.add_add];exact(World.cells?_some (hR i hi).1).2.2 j hj
  have hRl:∀i,i<len->(R i).length=P.cellsOf e:=λi hi=>(World.cells?_some (hR i hi).1).2.1;have c0:=cell 0 0 hlen hpos;rw[Nat.zero_mul,fQ,show a.add 0=a by simp[Addr.add],lJ (by rw[hRl 0 hlen];exact hpos)] at c0;obtain⟨c,tt,fr,hh,hs,_⟩:=aQW c0;have at_:∀i j,i<len->j<P.cellsOf e->c[a.off+(i*P.cellsOf e+j)]? =(R i)[j]?:=λi j hi hj=>by
   have h1:=cell i j hi hj;rw[aUN hs] at h1;have hj':j<(R i).length:=by rw[hRl i hi];exact hj
   rw[lJ hj'] at h1 ⊢;obtain⟨c',_,_,hh',_,h2⟩:=aQW h1;simp only[hh,zL9,Obj.cells.injEq] at hh';rw[←hh'.1] at h2;exact h2
  have hle:a.off+len*P.cellsOf e≤c.size:=by
   have h1:=at_ (len-1) (P.cellsOf e-1) (by omega) (by omega);have hj':P.cellsOf e-1<(R (len-1)).length:=by rw[hRl _ (by omega)];omega
   rw[lJ hj'] at h1;have h2:=(aJx.1 h1).1;have h3:(len-1)*P.cellsOf e+P.cellsOf e=len*P.cellsOf e:=by rw[←Nat.succ_mul];congr 1;omega
   omega
  refine⟨a.block,a.off,c,tt,fr,by rw[←hs],hh,by simpa using hle,?_⟩;have hfl:=hrows.flat;simp only[iV,List.length_range] at hfl;apply List.ext_getElem?;intro q;by_cases hq:q<len*P.cellsOf e
  ·have hq1:q/P.cellsOf e<len:=Nat.div_lt_of_lt_mul (by rw[zLS];exact hq);have hq2:=zLB q hpos;have hq3:q/P.cellsOf e*P.cellsOf e+q%P.cellsOf e=q:=by rw[zLS];exact Nat.div_add_mod _ _
   have h1:=at_ _ _ hq1 hq2;rw[hq3] at h1;have h2:=hrows.at (i:=q/P.cellsOf e) (r:=R (q/P.cellsOf e)) (by simp[hq1]);have h3:((List.range len).map R).flatten[q]? =(R (q/P.cellsOf e))[q%P.cellsOf e]?:=by
    rw[←h2,List.getElem?_take_of_lt hq2,aOF,hq3]
   rw[h3,←h1,aLs,Array.getElem?_extract];simp only[iV,List.length_range];rw[if_pos (by omega)]
  ·rw[List.getElem?_eq_none (by rw[Array.length_toList,Array.size_extract];simp;omega),List.getElem?_eq_none (by omega)]
 ·obtain⟨i,hi,rfl⟩:=mJ.1 hr;exact(hR i (aLM.1 hi)).2
def aX3{r:Reach}{base:Nat}{t e:TypeId}{v:Value}{d:DataW H}{p:List MemPlace}(ht:P.underlying t=some (.slice e))(hpos:0<P.cellsOf e)(hval:Value.okWide P w r base t v)(hd:DataW.Trod enc P w 0 spare held t v d p):
  ∃rows,fZ (aK5 w) (P.cellsOf e) v rows∧∀r∈rows,Rd enc P w spare held e r:=by
 obtain⟨a,n,c,rfl⟩:=Go.WideShapes.okWide_slice ht hval;obtain⟨k,hk⟩:=hd;obtain⟨v,rows,h1,h2,h3⟩:=aVb ht hpos ⟨k,_,hk⟩;obtain rfl:Value.slice a n c=v:=by simpa[Value.cells] using h1
 exact⟨rows,h2,h3⟩
end
section
open Go Go.RowKit Go.ChangeShapes
mutual
def aNU{H:Type}:DataW H->List Value
 | .lit (.int k n)=>[.int k n]
 | .agg jD=>aM9 jD
 | _=>[]
def aM9{H:Type}:List (DataW H)->List Value
 | []=>[]
 | d::r=>aNU d++aM9 r
end
def aM2(P:Program):Nat->TypeId->Bool
 | 0,_=>false
 | n+1,t=>match P.underlying t with
  | some (.int _)=>true
  | some (.array len e)=>aM2 P n e&&P.cellsOf t==len*P.cellsOf e
  | _=>false
def aK0{H:Type}(c:Nat):∀(xs:List (DataW H×List MemPlace)) (cs:List Value),cs.length=xs.length*c->(∀i x,xs[i]? =some x->((cs.drop (i*c)).take c)=aNU x.1)->cs=aM9 (xs.map (·.1))
 | [],cs,hl,_=>by
  have:cs=[]:=zLO (by simpa using hl);simp[this,aM9]
 | x::xs,cs,hl,h=>by
  have h0:=h 0 x rfl;simp only[Nat.zero_mul,zLb] at h0;rw[qE,zLF,Nat.one_mul] at hl;have ih:=aK0 c xs (cs.drop c) (by rw[pK];omega) λi y hy=>by
   have:=h (i+1) y (by simpa using hy);rw[zLF,Nat.one_mul] at this;rw[aGf,Nat.add_comm c,this]
  rw[iH,aM9,←h0,←ih,aLw]
def aNE{H:Type}{enc:TypeId×Value->H}{P:Program}{w:World}{base:Nat}{spare:Nat->Bool}{held:Bool}:∀(m n:Nat) (t:TypeId) (cs:List Value) (x:DataW H×List MemPlace),aM2 P m t=true->DataW.trod enc P w base spare held n t cs=some x->cs=aNU x.1
 | 0,_,_,_,_,hp,_=>by simp[aM2] at hp
 | m+1,n,t,cs,x,hp,h=>by
  unfold aM2 at hp;split at hp
  ·rename_i k hu;obtain⟨i,rfl,rfl,_⟩:=DataW.trod_int hu h;rfl
  ·rename_i len e hu;simp only[yH,beq_iff_eq] at hp;obtain⟨xs,m',rfl,rfl,hl,hn,hel⟩:=DataW.trod_array hu h;rw[aNU];refine aK0 (P.cellsOf e) xs cs (by rw[hl,hp.2,hn]) λi y hy=>?_;have hi:i<len:=by rw[←hn];exact(zLA.1 hy).1
   have:=hel i hi;rw[hy] at this;exact aNE m m' e _ y hp.1 this
  ·cases hp
def aT6{P:Program}{w:World}{n:String}{g:Nat}{cs:Array Value}(hg:P.globalNamed n=some g)(h:w.var? P n=some cs):∃e fr,w.heap[g]? =some (.cells cs e fr):=by
 simp only[World.var?,hg,aDW] at h;split at h
 ·rename_i a b c hh;cases h;exact⟨b,c,hh⟩
 ·cases h
def aOU{P:Program}{w:World}:∀{l:List (String×DataW Unit)} {ps:List MemPlace},DataW.LaidVars P w l ps->∀{n:String} {d:DataW Unit},(n,d)∈l->∀{g:Nat} {t:TypeId} {m:Nat},P.globalNamed n=some g->(P.globals[g]?).map (·.type)=some t->aM2 P m t=true->
  ∃e fr,w.heap[g]? =some (.cells (aNU d).toArray e fr)
 | [],_,_,_,_,hm,_,_,_,_,_,_=>by cases hm
 | (n0,d0)::r,ps,H,n,d,hm,g,t,m,hg,ht,hp=>by
  obtain⟨g0,t0,cs0,f0,p0,q0,hg0,ht0,hv0,hd0,hr,_⟩:=H;rcases gU.1 hm with e|hm
  ·simp only[Prod.mk.injEq] at e;obtain⟨rfl,rfl⟩:=e;obtain rfl:=aLd (hg.symm.trans hg0);obtain rfl:=aLd (ht.symm.trans ht0);obtain⟨e,fr,hh⟩:=aT6 hg0 hv0;have:=aNE m f0 t cs0.toList _ hp hd0;refine⟨e,fr,?_⟩;rw[hh];congr 2;apply zLw;simpa using this
  ·exact aOU hr hm hg ht hp
end
section
open Go
section
variable{P:Program}{h:PH}{t e:TypeId}
def xL{d:Nat}{k k':IntKind}{a b:Int}(hu:P.underlying t=some (.int k')):cG P h (Op.equalIn (d+1) t (.int k a) (.int k b))=some (a==b):=by
 rw[Op.equalIn,kM hu];simp[cG,pure]
def aE4(a b:ByteArray):(a==b)=decide (a=b):=by
 obtain⟨x⟩:=a;obtain⟨y⟩:=b;show(x==y)=_;rw[zLm];simp
def aF1{d:Nat}{a b:ByteArray}(hu:P.underlying t=some .string):cG P h (Op.equalIn (d+1) t (.string a) (.string b))=some (a==b):=by
 rw[Op.equalIn,kM hu];simp[cG,pure]
def aTG{β:Type}{fs:List Field}{s0 s1:β}{body:Field->β->Sem (ForInStep β)}(g:Field->Bool)
  (hb:∀f∈fs,cG P h (body f s0)=some (if g f then .yield s0 else .done s1)):cG P h (forIn fs s0 body)=some (if fs.all g then s0 else s1):=by
 induction fs with
 | nil=>rfl
 | cons f fs ih=>
  rw[List.forIn_cons,kC,hb f (by simp)];cases hg:g f with
  | true=>simp only[if_true,aDW,List.all_cons,hg,zLp];exact ih λx hx=>hb x (by simp[hx])
  | false=>simp[List.all_cons,hg,cG,pure]
def aB9{d:Nat}{fields:Array Field}{xs ys:Array Value}(hu:P.underlying t=some (.struct fields))(hs:P.stoodInHeld t=false)(g:Field->Bool)
  (hf:∀f∈fields.toList,f.name≠ "_" ∧∃a b,cG P h (part f.type xs f.offset)=some a∧cG P h (part f.type ys f.offset)=some b∧cG P h (Op.equalIn d f.type a b)=some (g f)):
  cG P h (Op.equalIn (d+1) t (.agg xs) (.agg ys))=some (fields.toList.all g):=by
 rw[Op.equalIn,kM hu];simp only[bind_pure_comp,pure_bind];have hp:∀{α:Type} (f:Program->Sem α),cG P h (program >>= f)=cG P h (f P):=λf=>rfl;have hp2:∀{α β:Type} (g:Program->β) (f:β->Sem α),cG P h ((g <$> program) >>= f)=cG P h (f (g P)):=λg f=>rfl
 first
  | rw[hp]
  | skip
 simp only[hs,zLu,if_false];rw[←Array.forIn_toList,kC,aTG (s1:=⟨some false,()⟩) g]
 ·cases hx:fields.toList.all g<;>simp[cG,pure]
 ·intro f hfm;obtain⟨hn,a,b,ha,hb,hab⟩:=hf f hfm;simp only[ne_eq,hn,not_false_eq_true,if_true];rw[kC,ha,aDW,kC,hb,aDW,kC,hab,aDW];cases g f<;>rfl
def aMm{x y:Operand}{xs ys:Array Value}{b:Bool}(hg:P.eqGuardType P.depth t=false)(he:cG P h (Op.equalIn (9999+1) t (.agg xs) (.agg ys))=some b):
  cG P h (jT .eql t x y (.agg xs) (.agg ys))=some (.bool b):=by
 show cG P h (eqGuard .eql t x y (.agg xs) (.agg ys) >>= λ_=>binOp .eql t (.agg xs) (.agg ys))=_;rw[kC];have:cG P h (eqGuard .eql t x y (.agg xs) (.agg ys))=some ():=by
  unfold eqGuard;show cG P h (if !P.eqGuardType P.depth t then pure () else _)=_;rw[hg];rfl
 rw[this,aDW];show cG P h (Op.equalIn (9999+1) t (.agg xs) (.agg ys) >>= λb=>(pure (Value.bool b):Sem Value))=_;rw[kC,he];rfl
def aMn{x y:Operand}{xs ys:Array Value}{b:Bool}(hg:P.eqGuardType P.depth t=false)(he:cG P h (Op.equalIn (9999+1) t (.agg xs) (.agg ys))=some b):
  cG P h (jT .neq t x y (.agg xs) (.agg ys))=some (.bool (!b)):=by
 show cG P h (eqGuard .neq t x y (.agg xs) (.agg ys) >>= λ_=>binOp .neq t (.agg xs) (.agg ys))=_;rw[kC];have:cG P h (eqGuard .neq t x y (.agg xs) (.agg ys))=some ():=by
  unfold eqGuard;show cG P h (if !P.eqGuardType P.depth t then pure () else _)=_;rw[hg];rfl
 rw[this,aDW];show cG P h (Op.equalIn (9999+1) t (.agg xs) (.agg ys) >>= λb=>(pure (Value.bool (!b)):Sem Value))=_;rw[kC,he];rfl
def jX{d:TypeDesc}{cs:Array Value}{o:Nat}{v:Value}(hu:P.underlying t=some d)(hd:aFP d=true)(hv:cs[o]? =some v):cG P h (part t cs o)=some v:=by
 unfold part;rw[aLz hu,hd];simp[hv,cG,pure]
def aL0{d:TypeDesc}{cs:Array Value}{o n:Nat}{i:TypeInfo}(hu:P.underlying t=some d)(hd:aFP d=false)(hi:P.info? t=some i)(hn:i.size=n):cG P h (part t cs o)=some (.agg (cs.extract o (o+n))):=by
 unfold part;rw[aLz hu,hd];simp only[zLq,if_true];rw[kP,aBZ hi,hn];rfl
end
structure aKN(P:Program)(t:TypeId){α:Type}[DecidableEq α](enc:α->Value):Prop where
 chk:∀(h:PH) (b:Bool) (a:α),cG P h (Instr.checkKey b 10000 t (enc a))=some ()
 eq:∀(h:PH) (a b:α),cG P h (Op.equal t (enc a) (enc b))=some (decide (a=b))
 bits:∀a,Instr.sameBits 10000 (enc a) (enc a)=true
 now:∃kind,P.underlying t=some kind∧((∀a b,Instr.sameNow kind (enc a) (enc b)=none)∨∀a b,Instr.sameNow kind (enc a) (enc b)=some (decide (a=b)))
section
variable{P:Program}{h:PH}{t kt et:TypeId}{α:Type}[DecidableEq α]{enc:α->Value}
def aCz(enc:α->Value)(l:List (α×Value×Nat)):List MapEntry:=l.map λp=>⟨enc p.1,p.2.1,p.2.2⟩
def aDF(a:α):List (α×Value×Nat)->Nat->Option (Nat×Value)
 | [],_=>none
 | p::ps,i=>if a=p.1 then some (i,p.2.1) else aDF a ps (i+1)
def aMH(K:aKN P kt enc)(a:α):∀(l:List (α×Value×Nat)) (i:Nat),cG P h (Instr.findAsking kt (enc a) (aCz enc l) i)=some (aDF a l i)
 | [],i=>rfl
 | p::ps,i=>by
  show cG P h (Op.equal kt (enc a) (enc p.1) >>= _)=_;rw[kC,K.eq h a p.1];simp only[aDW,aDF];by_cases e:a=p.1
  ·simp[e,cG,pure]
  ·simp only[e,decide_false,zLu,if_false];exact aMH K a ps (i+1)
def aOe{kind:TypeDesc}(hk:∀a b:α,Instr.sameNow kind (enc a) (enc b)=some (decide (a=b)))(a:α):∀(l:List (α×Value×Nat)) (i:Nat),Instr.findNow kind (enc a) (aCz enc l) i=some (aDF a l i)
 | [],i=>rfl
 | p::ps,i=>by
  show(match Instr.sameNow kind (enc a) (enc p.1) with|some true=>_|some false=>_|none=>_)=_;rw[hk];by_cases e:a=p.1
  ·simp[e,aDF]
  ·simp only[e,decide_false,aDF,if_false];exact aOe hk a ps (i+1)
def aRw{kind:TypeDesc}(hk:∀a b:α,Instr.sameNow kind (enc a) (enc b)=none)(a:α):∀(l:List (α×Value×Nat)) (i:Nat),Instr.findNow kind (enc a) (aCz enc l) i=none∨(l=[]∧Instr.findNow kind (enc a) (aCz enc l) i=some none)
 | [],i=>.inr ⟨rfl,rfl⟩
 | p::ps,i=>.inl (by
  show(match Instr.sameNow kind (enc a) (enc p.1) with|some true=>_|some false=>_|none=>_)=_;rw[hk])
def aLW(K:aKN P kt enc)(a:α)(l:List (α×Value×Nat)):cG P h (Instr.findKey kt (enc a) (aCz enc l))=some (aDF a l 0):=by
 obtain⟨kind,hu,hk⟩:=K.now;show cG P h (underlying kt >>= _)=_;rw[kM hu];rcases hk with hk|hk
 ·rcases aRw hk a l 0 with e|⟨rfl,e⟩
  ·rw[e];exact aMH K a l 0
  ·rw[e];rfl
 ·rw[aOe hk];rfl
def aBH(l:List (α×Value))(a:α):Option Value:=(l.find? λp=>decide (a=p.1)).map (·.2)
def uU(l:List (α×Value)):List α:=l.map (·.1)
def aDv(l:List (α×Value))(a:α)(v:Value):List (α×Value):=if a∈uU l then l.map (λp=>if p.1=a then(a,v) else p) else l++[(a,v)]
structure jR(enc:α->Value)(h:PH)(r:Nat)(l:List (α×Value)):Prop where
 nodup:(uU l).Nodup
 here:∃es c L,h r=some (.map es c)∧es.toList=aCz enc L∧l=L.map (λp=>(p.1,p.2.1))∧(L.map (·.2.2)).Nodup∧∀p∈L,p.2.2<c
def jR.upd{h h':PH}{r:Nat}{l:List (α×Value)}{G:List Nat}(H:jR enc h r l)(u:cQ G h h')(hd:r∉G):jR enc h' r l:=by
 obtain⟨es,c,L,h1,h2,h3⟩:=H.here;exact⟨H.nodup,es,c,L,u.get h1 hd,h2,h3⟩
def jR.ext{h h':PH}{r:Nat}{l:List (α×Value)}(H:jR enc h r l)(u:dD h h'):jR enc h' r l:=H.upd u (by simp)
def jR.known{h:PH}{r:Nat}{l:List (α×Value)}(H:jR enc h r l):h r≠none:=by
 obtain⟨es,c,L,h1,_⟩:=H.here;rw[h1];simp
def aQD(a:α):∀(L:List (α×Value×Nat)) (i:Nat),(aDF a L i).map (·.2)=aBH (L.map λp=>(p.1,p.2.1)) a
 | [],_=>rfl
 | p::ps,i=>by
  simp only[aDF,aBH,iH,aNw];by_cases e:a=p.1
  ·simp[e]
  ·simp only[e,if_false,decide_false];exact aQD a ps (i+1)
def aOC(a:α):∀(L:List (α×Value×Nat)) (i:Nat),(∃q v,aDF a L i=some (i+q,v)∧(L.map (·.1))[q]? =some a∧a∈L.map (·.1))∨(aDF a L i=none∧a∉L.map (·.1))
 | [],_=>.inr ⟨rfl,by simp⟩
 | p::ps,i=>by
  by_cases e:a=p.1
  ·exact .inl ⟨0,p.2.1,by simp[aDF,e],by simp[e],by simp[e]⟩
  ·rcases aOC a ps (i+1) with⟨q,v,h1,h2,h3⟩|⟨h1,h2⟩
   ·exact .inl ⟨q+1,v,by simp only[aDF,e,if_false,h1];congr 2;omega,by simpa using h2,by simp at h3;simp[h3]⟩
   ·exact .inr ⟨by simp[aDF,e,h1],by simp only[iH,gU,e,false_or];exact h2⟩
def aUZ{i:TypeInfo}{z:Value}(hi:P.info? et=some i)(hz:i.zero=some z):cG P h (zeroValue et)=some z:=by
 show cG P h (typeInfo et >>= _)=_;rw[aBZ hi];simp only[hz];rfl
def aSB{r:Nat}{es:Array MapEntry}{c:Nat}{β:Type}(hr:h r=some (.map es c))(f:Obj->Sem β):cG P h (getObj r >>= f)=cG P h (f (.map es c)):=by
 rw[kC];have:cG P h (getObj r)=some (.map es c):=by
  unfold getObj;simp only[cG,hr]
 rw[this];rfl
def aHV{r:Nat}{l:List (α×Value)}(K:aKN P kt enc)(hu:P.underlying t=some (.map kt et)){i:TypeInfo}{z:Value}(hi:P.info? et=some i)(hz:i.zero=some z)(H:jR enc h r l)(a:α)(ok:Bool):
  cG P h (Instr.lookup t (.map (some r)) (enc a) ok)=some (if ok then .tuple #[(aBH l a).getD z,.bool (aBH l a).isSome] else(aBH l a).getD z):=by
 obtain⟨es,c,L,h1,h2,rfl,hb1,hb2⟩:=H.here;show cG P h (underlying t >>= _)=_;rw[kM hu];show cG P h (((getObj r) >>= _) >>= _)=_;rw[kC,aSB h1];show cG P h (Instr.checkKey es.isEmpty 10000 kt (enc a) >>= _)=_;rw[kC,K.chk h _ a];simp only[aDW];rw[h2];rw[kC,aLW K];simp only[aDW];have hg:=aQD a L 0;cases e:aDF a L 0 with
 | none=>
  rw[e] at hg;rw[←hg];simp only[kC,aUZ hi hz];cases ok<;>rfl
 | some q=>
  rw[e] at hg;rw[←hg];cases ok<;>rfl
def aD6{r:Nat}{es:Array MapEntry}{c:Nat}{β:Type}{Q:β->PH->Prop}(hr:h r=some (.map es c)){f:Obj->Sem β}(hq:dC P (f (.map es c)) h Q):dC P (getObj r >>= f) h Q:=by
 refine iD (a:=.map es c) ?_ hq;unfold getObj;simp only[cG,hr]
def aDs{L:List (α×Value×Nat)}:uU (L.map λp=>(p.1,p.2.1))=L.map (·.1):=by simp[uU]
def aKy{r:Nat}{l:List (α×Value)}(K:aKN P kt enc)(hu:P.underlying t=some (.map kt et))(H:jR enc h r l)(a:α)(v:Value){k:cD}
  (hk:∀h',jR enc h' r (aDv l a v)->cQ [r] h h'->k undef h'):dC P (aFV t (.map (some r)) (enc a) v) h k:=by
 obtain⟨es,c,L,h1,h2,rfl,hb1,hb2⟩:=H.here;have hnd:=H.nodup;rw[aDs] at hnd;show dC P (Instr.mapUpdate t (.map (some r)) (enc a) v >>= λ_=>pure undef) h k;refine dC.bind (P:=P) (s:=Instr.mapUpdate t (.map (some r)) (enc a) v) ?_;show dC P (underlying t >>= _) h _;rw[qC hu];refine aD6 h1 ?_;refine iD (K.chk h false a) ?_;rw[h2];refine iD (aLW K a L) ?_;rcases aOC a L 0 with⟨q,w,e1,e2,e3⟩|⟨e1,e2⟩
 ·rw[e1,fQ];have hq:es[q]? =some ⟨enc a,(L[q]?.map (·.2.1)).getD v,(L[q]?.map (·.2.2)).getD 0⟩:=by
   rw[←aLs,h2];rw[wA] at e2;obtain⟨p,hp,rfl⟩:=Option.map_eq_some_iff.1 e2;simp[aCz,wA,hp]
  show dC P (Instr.keyThatStays (((es[q]?).map (·.key)).getD (enc a)) (enc a) >>= _) h _;rw[hq];unfold Instr.keyThatStays;simp only[aKm,aIu,K.bits,if_true];show(∃u,h r=some u∧(∀c e f,u≠ .cells c e f))∧_;refine⟨⟨_,h1,by intros;simp⟩,?_⟩;show k undef _;have hbm:(L.map (λp=>if p.1=a then(a,v,p.2.2) else p)).map (·.2.2)=L.map (·.2.2):=by
   rw[zL4];apply zL5;intro p _;simp only[Function.comp];split<;>rfl
  refine hk _ ⟨?_,_,c,L.map (λp=>if p.1=a then(a,v,p.2.2) else p),dL,?_,?_,by rw[hbm];exact hb1,λp hp=>?_⟩ (cQ.set (by simp))
  ·have:uU (aDv (L.map λp=>(p.1,p.2.1)) a v)=L.map (·.1):=by
    unfold aDv;rw[aDs,if_pos e3];simp only[uU,zL4];apply zL5;intro p _;simp only[Function.comp];split
    ·rename_i h;exact h.symm
    ·rfl
   rw[this];exact hnd
  ·rw[Array.toList_modify,h2];apply List.ext_getElem?;intro j;rw[List.getElem?_modify];simp only[aCz,wA];rw[wA] at e2;obtain⟨p0,hp0,hp1⟩:=Option.map_eq_some_iff.1 e2;cases hj:L[j]? with
   | none=>simp
   | some p=>
    by_cases hjq:q=j
    ·subst hjq;rw[hp0] at hj;cases hj;simp[hp1]
    ·have hne:p.1≠a:=by
      intro hpa;have h3:(L.map (·.1))[j]? =(L.map (·.1))[q]?:=by rw[wA,wA,hj,hp0,aKm,aKm,hpa,hp1]
      have hjl:j<(L.map (·.1)).length:=by rw[iV];exact(zLA.1 hj).1
      exact hjq ((List.getElem?_inj hjl hnd).1 h3).symm
     simp[hjq,hne]
  ·unfold aDv;rw[aDs,if_pos e3];simp only[zL4];apply zL5;intro p _;simp only[Function.comp];split<;>rfl
  ·obtain⟨q,hq,rfl⟩:=mJ.1 hp;have:=hb2 q hq;split<;>exact this
 ·rw[e1];show(∃u,h r=some u∧(∀c e f,u≠ .cells c e f))∧_;refine⟨⟨_,h1,by intros;simp⟩,?_⟩;show k undef _;refine hk _ ⟨?_,_,c+1,L++[(a,v,c)],dL,?_,?_,?_,?_⟩ (cQ.set (by simp))
  ·unfold aDv;rw[aDs,if_neg e2];have:uU (L.map (λp=>(p.1,p.2.1))++[(a,v)])=L.map (·.1)++[a]:=by simp[uU]
   rw[this,List.nodup_append];refine⟨hnd,by simp,?_⟩;intro x hx y hy;simp only[gB] at hy;subst hy;rintro rfl;exact e2 hx
  ·rw[Array.toList_push,h2];simp[aCz]
  ·unfold aDv;rw[aDs,if_neg e2];simp
  ·rw[pO,List.nodup_append];refine⟨hb1,by simp,?_⟩;intro x hx y hy;simp only[iH,jA,gB] at hy;subst hy;obtain⟨p,hp,rfl⟩:=mJ.1 hx;have:=hb2 p hp;omega
  ·intro p hp;rcases kB.1 hp with hp|hp
   ·have:=hb2 p hp;omega
   ·simp only[gB] at hp;subst hp;simp
def aWQ(l:List (α×Value))(a b:α)(v:Value):aBH (aDv l a v) b=if b=a then some v else aBH l b:=by
 unfold aDv;split
 ·rename_i hm;induction l with
  | nil=>simp[uU] at hm
  | cons p ps ih=>
   simp only[aBH,iH,aNw];by_cases hb:b=a
   ·subst hb;by_cases hp:p.1=b
    ·simp[hp]
    ·have hm':b∈uU ps:=by
      simp only[uU,iH,gU] at hm;rcases hm with h|h
      ·exact absurd h.symm hp
      ·exact h
     have:=ih hm';simp only[aBH] at this;simp only[hp,if_false,show(b=p.1)=False from eq_false (λh=>hp h.symm),decide_false];exact this
   ·by_cases hp:p.1=a
    ·simp only[hp,if_true,hb,decide_false,if_false];by_cases hm':a∈uU ps
     ·have:=ih hm';simp only[aBH,hb,if_false] at this;exact this
     ·have:ps.map (λp=>if p.1=a then(a,v) else p)=ps:=by
       refine(zL5 (g:=id) ?_).trans (List.map_id ps);intro x hx;exact if_neg (by rintro rfl;exact hm' (zL8 hx))
      rw[this]
    ·simp only[hp,if_false];by_cases hbp:b=p.1
     ·simp[hbp,hp]
     ·simp only[hbp,decide_false,hb,if_false];by_cases hm':a∈uU ps
      ·have:=ih hm';simp only[aBH,hb,if_false] at this;exact this
      ·have:ps.map (λp=>if p.1=a then(a,v) else p)=ps:=by
        refine(zL5 (g:=id) ?_).trans (List.map_id ps);intro x hx;exact if_neg (by rintro rfl;exact hm' (zL8 hx))
       rw[this]
 ·rename_i hm;simp only[aBH,List.find?_append];by_cases hb:b=a
  ·subst hb;have:l.find? (λp=>decide (b=p.1))=none:=by
    rw[List.find?_eq_none];intro p hp;simp only[decide_eq_true_eq];rintro rfl;exact hm (zL8 hp)
   simp[this]
  ·simp[hb]
def aFX:jV P (Instr.makeMap t none)=some (.map #[] 0,λr=>pure (.map (some r))):=rfl
def jR.new{r:Nat}:jR enc (h.set r (.map #[] 0)) r []:=⟨by simp[uU],#[],0,[],dL,rfl,rfl,by simp,by simp⟩
end
section
variable{P:Program}{h:PH}{t t' t2 e:TypeId}
def aSJ{size bytes n:Nat}{v x:Value}{rows ys:List (List Value)}{i:TypeInfo}{z:Value}{e2:TypeId}{va:Option Addr}{k:cD}
  (hu:P.underlying t=some (.slice e)) (hu2:P.underlying t2=some (.slice e2)) (hi:P.info? e=some i) (hn:i.size=size) (hby:i.bytes=bytes) (hz:i.zero=some z) (hzs:z.cells.size=size) (hb0:0<bytes)
  (H:fZ h size v rows) (hv:v= .slice va n n) (S:fZ h size x ys) (hl:(rows.length+ys.length)*bytes≤140737488355328) (hne:ys≠[])
  (hk:∀v' h' F',eM h' e size v' (rows++ys) F'->dD h h'->(∀b∈F',h b=none)->k v' h'):dC P (Builtin.append_ #[t,t2] t' #[v,x]) h k:=by
 have hbig:rows.length+ys.length≤140737488355328:=zLE (Nat.le_mul_of_pos_right _ hb0) hl;obtain⟨xa,xc,hx,hx1,hx2,hx3,hx4⟩:=S.here;have hfirst:=S.first (P:=P);have hrows:Rows size (rows++ys):=H.ok.append S.ok;have hpos:0<ys.length:=aIA.2 hne;have grown:∀(m:Nat),rows.length+ys.length≤m->m≤rB->∀r,h r=none->
   k (.slice (some ⟨r,0,none⟩) (rows.length+ys.length) m) (h.set r (.cells (rows.flatten.toArray++ys.flatten.toArray++Builtin.zeroCells z.cells (m-(rows.length+ys.length))) e (0,0))):=by
  intro m hm hmax r hr;refine hk _ _ [r] ⟨hrows,.inr ⟨r,m,_,by rw[jM],rfl,dL,by simpa using hm,hmax,?_,?_⟩⟩ (cQ.new hr) (λb hb=>by simp at hb;subst hb;exact hr)
  ·simp only[Array.size_append,List.size_toArray,H.ok.flat,S.ok.flat,Builtin.zeroCells,Array.size_map,Array.size_range,hzs];rw[←zLF,←zLF];congr 1;omega
  ·have hlen:(rows++ys).length*size=(rows.flatten++ys.flatten).length:=by rw[jM,jM,H.ok.flat,S.ok.flat,zLF]
   simp only[Array.toList_append,hlen,zLG];rw[zLH (nC _),zLJ]
 obtain⟨va',vc,hv',hv1,hv2,_,_⟩:=H.here;have hvfirst:=H.first (P:=P);have hvc:vc=rows.length:=by
  rw[hv] at hv';simp only[Value.slice.injEq] at hv';omega
 rw[hvc] at hv';subst hx;subst hv';simp only[Builtin.append_,zLK,qB,sL,qC hu,qC hu2,kP,mP hi,pure_bind,zLu,if_false,Builtin.lenOf,zLq,if_true,hn];have hfit:¬rows.length+ys.length≤rows.length:=by omega
 rw[if_neg hfit];have hlt:rows.length<rows.length+ys.length:=by omega
 have h63:¬(((rows.length+ys.length:Nat):Int)>IntKind.i64.max∧(False∨i.bytes=0)):=by
  rintro⟨_,hh⟩;rcases hh with hh|hh
  ·exact hh
  ·omega
 have hfits:¬(Builtin.nextslicecap (rows.length+ys.length) rows.length*i.bytes>2^48):=by
  rw[hby];have:=growslice_fits hlt hl;omega
 rw[mP hi,if_neg h63,mP hi,if_neg hfits,aAe];intro tt;rw[mP hi,aHM];refine iD hvfirst (iD hfirst ?_);have hzv:zeroValue e=(typeInfo e >>= λi=>match i.zero with|some v=>pure v|none=>unsupported (.resourceLimit "a value of more than 2^22 cells")):=rfl;rw[hzv,bind_assoc,mP hi,hz,pure_bind];have hcut:∀n m:Nat,n≤140737488355328->n≤(Question.appendCap n m e).cut tt∧(Question.appendCap n m e).cut tt≤rB:=by
  intro n m hn;have hpos:0<2^63-n:=by omega
  have:=zLB tt hpos;simp only[Question.cut,rB];omega
 have hforced:(Question.appendCap (rows.length+ys.length) rows.length e).forced=false:=rfl;rw[hforced];obtain⟨hc1,hc2⟩:=hcut (rows.length+ys.length) rows.length hbig;intro r hr;exact grown _ hc1 hc2 r hr
def fZ.full{size:Nat}{v:Value}{rows:List (List Value)}(H:fZ h size v rows){i:TypeInfo}(hu:P.underlying t=some (.slice e))(hi':P.info? e=some i){m:Nat}{k2 k3:IntKind}(h2:m≤rows.length):
  ∃va,dH P (Instr.sliceAt t v none (some (.int k2 m)) (some (.int k3 m)))=some (.slice va m m)∧fZ h size (.slice va m m) (rows.take m):=by
 obtain⟨a,c,rfl,hc1,hc2,hc3,hc4⟩:=H.here;have hlen:(rows.take m).length=m:=by simp;omega
 refine⟨a,?_,H.ok.take m,⟨a,m,by rw[hlen],by omega,by omega,λhne=>?_,trivial⟩⟩
 ·show dH P (underlying t >>= _)=_;rw[xP hu];show dH P (underlying t >>= _)=_;rw[xP hu];have hb:Instr.sliceBounds true rows.length c none (some (.int k2 m)) (some (.int k3 m))=pure (0,m,m):=by
   have hcast:∀n m:Nat,n≤m->(0≤(n:Int)∧(n:Int)≤(m:Int)):=λn m h=>by omega
   simp[Instr.sliceBounds,Instr.sliceBound,asIntOf,hcast,show m≤c by omega]
  simp only[hb,pure_bind];rw[kP,aKS hi'];show some (Value.slice (if m=0 then a else a.map (·.add (0*i.size))) (m-0) (m-0))=_;have:a.map (·.add (0*i.size))=a:=by
   cases a with
   | none=>rfl
   | some x=>
    have:x.add (0*i.size)=x:=by
     obtain⟨b,o,w⟩:=x;cases w<;>simp[Addr.add]
    rw[aKm,this]
  rw[this];simp
 ·have hne':rows≠[]:=by rintro rfl;simp at hne
  obtain⟨b,o,cs,e',fr,rfl,hb,hle,hex⟩:=hc3 hne';have hm1:m*size≤rows.length*size:=zLP _ h2;refine⟨b,o,cs,e',fr,rfl,hb,by rw[hlen];omega,?_⟩;rw[hlen,H.ok.flat_take,←hex];simp only[zLD,zLx];rw[aMS,aHZ (by omega)];congr 1;omega
def jR.len{α:Type}[DecidableEq α]{enc:α->Value}{r:Nat}{l:List (α×Value)}(H:jR enc h r l){k v:TypeId}(hu:P.underlying t=some (.map k v)):cG P h (Builtin.len_ #[t] t' #[.map (some r)])=some (.int .i64 l.length):=by
 obtain⟨es,c,L,h1,h2,rfl,_⟩:=H.here;rw[aXX hu h1];have:es.size=L.length:=by rw[←Array.length_toList,h2];simp[aCz]
 rw[this,iV]
def aR1{a b:Int}:(a==b)=decide (a=b):=by rw[zLm];simp
def aL8(x:Int):Value:=.int .u64 x
def aRu(hu:P.underlying t=some (.int .u64)):aKN P t aL8 where
 chk:=λh b a=>by
  unfold aL8;rw[show(10000:Nat)=9999+1 from rfl];cases b<;>(rw[Instr.checkKey];try rw[kM hu])<;>rfl
 eq:=λh a b=>by
  unfold aL8;show cG P h (Op.equalIn (9999+1) t _ _)=_;rw[xL hu,aR1]
 bits:=λa=>by unfold aL8;rw[show(10000:Nat)=9999+1 from rfl];simp[Instr.sameBits]
 now:=⟨_,hu,.inr λa b=>by unfold aL8;simp[Instr.sameNow,aR1]⟩
end
section
variable{P:Program}{h:PH}{t t' t2 e:TypeId}
def jQ(b:UInt8):List Value:=[.int .u8 b.toNat]
def jQ.rows(l:List UInt8):Rows 1 (l.map jQ):=λr hr=>by
 obtain⟨m,_,rfl⟩:=mJ.1 hr;rfl
def jQ.isCell(l:List UInt8):∀r∈l.map jQ,∀u∈r,fW u=true:=λr hr u hu=>by
 obtain⟨m,_,rfl⟩:=mJ.1 hr;simp only[jQ,gU,lH,or_false] at hu;subst hu;rfl
def jQ.flat(l:List UInt8):(l.map jQ).flatten=l.map λb=>Value.int .u8 b.toNat:=by
 induction l with
 | nil=>rfl
 | cons b bs ih=>simp[jQ,ih]
def aNn{body:Value->ByteArray->Sem (ForInStep ByteArray)}(hb:∀(b:UInt8) (s:ByteArray),body (.int .u8 b.toNat) s=pure (.yield (s.push b))):∀(l:List UInt8) (s:ByteArray),
  cG P h (forIn (l.map λb=>Value.int .u8 b.toNat) s body)=some ⟨s.data++l.toArray⟩
 | [],s=>by simp[cG,pure]
 | b::bs,s=>by
  rw[iH,List.forIn_cons,kC,hb];show cG P h (forIn (bs.map _) (s.push b) body)=_;rw[aNn hb bs (s.push b)];congr 1;apply ByteArray.ext;show(s.push b).data++bs.toArray=_;rw[ByteArray.data_push];apply zLw;simp
def aFH{x:Value}{l:List UInt8}(hu:P.underlying t=some (.slice e))(he:P.underlying e=some (.int .u8))(hs:P.underlying t2=some .string)(S:fZ h 1 x (l.map jQ)):
  cG P h (convert t t2 x)=some (.string ⟨l.toArray⟩):=by
 have hf:=S.first (P:=P);obtain⟨a,c,rfl,h1,h2,h3,h4⟩:=S.here;show cG P h (underlying t >>= _)=_;rw[kM hu];show cG P h (underlying t2 >>= _)=_;rw[kM hs];show cG P h (underlying e >>= _)=_;rw[kM he];simp only[iV,jQ.flat] at hf ⊢;show cG P h (Conv.bytesToString (.slice a l.length c))=_;unfold Conv.bytesToString;cases a with
 | none=>
  have:l=[]:=by
   by_cases h0:l=[]
   ·exact h0
   ·obtain⟨b,o,cs,e,fr,hh,_⟩:=h3 (by simpa using h0);cases hh
  subst this;rfl
 | some a=>
  have hf':cG P h (loadCells a l.length)=some (l.map λb=>Value.int .u8 b.toNat).toArray:=by
   have:Builtin.firstCells 1 l.length (.slice (some a) l.length c)=loadCells a (l.length*1):=rfl;rw[this,Nat.mul_one] at hf;exact hf
  show cG P h (loadCells a l.length >>= _)=_;rw[kC,hf',aDW];rw[kC,←Array.forIn_toList,aNn]
  ·rw[aDW];show some (Value.string _)=_;congr 2;apply ByteArray.ext;simp
  ·intro b s;simp
def fZ.fields{size:Nat}{v:Value}{rows:List (List Value)}(H:fZ h size v rows){i:TypeInfo}(hu:P.underlying t=some (.slice e))(hi:P.info? e=some i)(hn:i.size=size){k:IntKind}{j:Nat}{r:List Value}(hr:rows[j]? =some r):
  ∃b o,dH P (indexAt t v (.int k j))=some (pT b o)∧(∀q c,r[q]? =some c->dB h ⟨b,o+q,none⟩=some c)∧∀d,P.underlying e=some d->aFP d=false->cG P h (loadAt e (pT b o))=some (.agg r.toArray):=by
 obtain⟨b,o,cs,e',fr,h1,hb,hle,hex⟩:=H.at hu hi hn (k:=k) (j:=(j:Int)) (by omega) hr;refine⟨b,o,h1,λq c hq=>?_,λd he hd=>?_⟩
 ·have hql:q<size:=by
   have:=(zLA.1 hq).1
   rwa [H.ok r (tA hr)] at this
  unfold dB;simp only[hb];rw[←hex] at hq;simp only[zLD,zLx,aJa,aJ9,aOF,hql,if_true] at hq;simpa using hq
 ·rw[pJ he hd hi hn hb hle];congr 2;exact zLw hex
end
section
variable{P:Program}{h:PH}{t e:TypeId}
def aBR{b o n len:Nat}{k:IntKind}{j:Int}{i:TypeInfo}(hu:P.underlying t=some (.array len e))(hi:P.info? e=some i)(hn:i.size=n)(h0:0≤j)(h1:j<len):
  dH P (indexAt t (pT b o) (.int k j))=some (pT b (o+j.toNat*n)):=by
 show dH P (underlying t >>= _)=_;rw[xP hu];show dH P (underlying t >>= _)=_;rw[xP hu];simp only[h0,h1,and_self,if_true];rw[kP,aKS hi,hn,lP];rfl
end
abbrev Tx:=List UInt8
def tx(l:List UInt8):ByteArray:=⟨l.toArray⟩
def aNI(s:ByteArray):tx s.data.toList=s:=by cases s;simp[tx]
def iF(l:List UInt8):(tx l).size=l.length:=by simp[tx,ByteArray.size]
def aMe{a b:List UInt8}(h:tx a=tx b):a=b:=by
 have:=congrArg (λs:ByteArray=>s.data.toList) h;simpa[tx] using this
def aZB:tx []=⟨#[]⟩:=rfl
def aU1(a b:List UInt8):tx a++tx b=tx (a++b):=by
 apply ByteArray.ext;rw[ByteArray.data_append];simp[tx]
section
variable{P:Program}{h:PH}{t t' t2 e:TypeId}
def mG{a b:List UInt8}(hs:a.length+b.length≤9223372036854775807):dH P (binOp .add t (.string (tx a)) (.string (tx b)))=some (.string (tx (a++b))):=by
 show dH P (Op.stringOp .add (tx a) (tx b))=_;have:¬(((tx a).size+(tx b).size:Nat):Int)>IntKind.i64.max:=by
  rw[iF,iF];have:IntKind.i64.max=9223372036854775807:=rfl;omega
 simp only[Op.stringOp,this,if_false];rw[aU1];rfl
def aId{l:List UInt8}{i j:Nat}{lo hi:Option Value}(hu:P.underlying t=some .string)(hlo:lo=none∧i=0∨∃k,lo=some (.int k i))(hhi:hi=none∧j=l.length∨∃k,hi=some (.int k j))(h1:i≤j)(h2:j≤l.length):
  dH P (Instr.sliceAt t (.string (tx l)) lo hi none)=some (.string (tx ((l.take j).drop i))):=by
 show dH P (underlying t >>= _)=_;rw[xP hu];show dH P (underlying t >>= _)=_;rw[xP hu];have hb:Instr.sliceBounds false (tx l).size (tx l).size lo hi none=pure (i,j,(tx l).size):=by
  have hcast:∀n m:Nat,n≤m->(0≤(n:Int)∧(n:Int)≤(m:Int)):=λn m h=>by omega
  rw[iF];rcases hlo with⟨rfl,rfl⟩|⟨k,rfl⟩<;>rcases hhi with⟨rfl,rfl⟩|⟨k',rfl⟩ <;>
   simp[Instr.sliceBounds,Instr.sliceBound,asIntOf,hcast,h1,h2]
 simp only[hb,pure_bind,zLv,zLu,if_false];show some (Value.string ((tx l).extract i j))=_;congr 2;apply ByteArray.ext;apply zLw;rw[ByteArray.data_extract];simp[tx,zLx,zLy]
def aAu{l:List UInt8}{k:IntKind}{j:Nat}{b:UInt8}(hu:P.underlying t=some .string)(hb:l[j]? =some b):dH P (Instr.index t (.string (tx l)) (.int k j))=some (.int .u8 b.toNat):=by
 show dH P (underlying t >>= _)=_;rw[xP hu];have h0:(0:Int)≤(j:Int):=by omega
 simp only[h0,if_true,rA];have:(tx l)[j]? =some b:=by
  obtain⟨hlt,rfl⟩:=zLA.1 hb;have hs:j<(tx l).size:=by rw[iF];exact hlt
  rw[getElem?_pos (tx l) j hs];congr 1
 rw[this];rfl
def aWc{l:List UInt8}(hu:P.underlying t=some .string)(hu2:P.underlying t2=some (.slice e))(he:P.underlying e=some (.int .u8))(hl:l.length≤140737488355328){k:cD}
  (hk:∀v h',fZ h' 1 v (l.map jQ)->dD h h'->k v h'):dC P (convert t t2 (.string (tx l))) h k:=by
 show dC P (underlying t >>= _) h k;rw[qC hu];show dC P (underlying t2 >>= _) h k;rw[qC hu2];show dC P (underlying e >>= _) h k;rw[qC he];show dC P (choose (.appendCap (tx l).size 0 e) >>= _) h k;rw[aAe];intro tt;have hforced:(Question.appendCap (tx l).size 0 e).forced=false:=rfl;rw[hforced];have hcut:(tx l).size≤(Question.appendCap (tx l).size 0 e).cut tt∧(Question.appendCap (tx l).size 0 e).cut tt≤rB:=by
  rw[iF];have hpos:0<2^63-l.length:=by omega
  have:=zLB tt hpos;simp only[Question.cut,rB];omega
 simp only[zLu,if_false];generalize (Question.appendCap (tx l).size 0 e).cut tt=cap at *;obtain⟨c1,c2⟩:=hcut;intro r hr;generalize hcs:((tx l).data.map λb=>Value.int .u8 b.toNat)++Array.replicate (cap-(tx l).size) (.int .u8 0)=cs;have hsz:cs.size=cap:=by rw[←hcs];simp[tx,ByteArray.size] at *;omega
 have u1:dD h (h.set r (.cells cs e)):=cQ.new hr;show dC P (markStringish ⟨r,0,none⟩ >>= λ_=>pure (Value.slice (some ⟨r,0,none⟩) (tx l).size cap)) (h.set r (.cells cs e)) k;unfold markStringish;have hshape:kI (h.set r (.cells cs e)) r=some (some (e,cs.size)):=by unfold kI;rw[dL]
 show ∃s,kI (h.set r (.cells cs e)) r=some s∧_;refine⟨_,hshape,?_⟩;show(∃o,(h.set r (.cells cs e)) r=some o)∧_;refine⟨⟨_,dL⟩,?_⟩;show k (.slice (some ⟨r,0,none⟩) (tx l).size cap) (nJ (h.set r (.cells cs e)) ⟨r,cs.size,none⟩ 1);have hf:nJ (h.set r (.cells cs e)) ⟨r,cs.size,none⟩ 1=h.set r (.cells cs e (cs.size,cs.size+1)):=by
  funext b;unfold nJ PH.set;simp only[Nat.one_ne_zero,if_false];by_cases hb:b=r
  ·subst hb;simp
  ·simp[hb]
 rw[hf];refine hk _ _ ⟨jQ.rows _,some ⟨r,0,none⟩,cap,by rw[iF,iV],by rw[iV,←iF];exact c1,c2,λ_=>⟨r,0,cs,e,_,rfl,dL,?_,?_⟩,trivial⟩ (cQ.new hr)
 ·rw[iV,hsz,←iF];omega
 ·rw[jQ.flat,iV];have e1:cs.toList=(l.map λb=>Value.int .u8 b.toNat)++List.replicate (cap-(tx l).size) (.int .u8 0):=by rw[←hcs];simp[tx]
  rw[zLD,zLx,e1];simp
def aOr{bytes:Nat}{v:Value}{rows:List (List Value)}{l:List UInt8}{F:List Nat}{i:TypeInfo}{z:Value}{k:cD}
  (hu:P.underlying t=some (.slice e)) (hu2:P.underlying t2=some .string) (hi:P.info? e=some i) (hn:i.size=1) (hby:i.bytes=bytes) (hz:i.zero=some z) (hzs:z.cells.size=1) (hb0:0<bytes)
  (H:eM h e 1 v rows F) (hl:(rows.length+l.length)*bytes≤140737488355328)
  (hk:∀v' h' F',eM h' e 1 v' (rows++l.map jQ) F'->cQ F h h'->(∀b∈F',b∈F∨h b=none)->aNL v≤aNL v'->k v' h'):dC P (Builtin.append_ #[t,t2] t' #[v,.string (tx l)]) h k:=by
 generalize hys:l.map jQ=ys at *;have hyl:ys.length=l.length:=by rw[←hys,iV]
 have hSok:Rows 1 ys:=by rw[←hys];exact jQ.rows l
 have hcell:∀r∈ys,∀u∈r,fW u=true:=by rw[←hys];exact jQ.isCell l
 rw[←hyl] at hl;have hfirst:cG P h (Builtin.firstCells 1 ys.length (.string (tx l)))=some ys.flatten.toArray:=by
  show some (((tx l).extract 0 ys.length).data.map λb=>Value.int .u8 b.toNat)=_;rw[hyl,←hys,jQ.flat];congr 1;apply zLw;rw[ByteArray.data_extract];simp[tx,zLx]
 have hbig:rows.length+ys.length≤140737488355328:=zLE (Nat.le_mul_of_pos_right _ hb0) hl;have hrows:Rows 1 (rows++ys):=H.ok.append hSok;have hflat:∀u∈ys.flatten,fW u=true:=λu hu=>by
  obtain⟨r,hr,hur⟩:=List.mem_flatten.1 hu;exact hcell r hr u hur
 -- a new block
 have grown:∀(m:Nat),rows.length+ys.length≤m->m≤rB->aNL v≤m->∀r,h r=none->
   k (.slice (some ⟨r,0,none⟩) (rows.length+ys.length) m) (h.set r (.cells (rows.flatten.toArray++ys.flatten.toArray++Builtin.zeroCells z.cells (m-(rows.length+ys.length))) e (0,0))):=by
  intro m hm hmax hcapv r hr;refine hk _ _ [r] ⟨hrows,.inr ⟨r,m,_,by rw[jM],rfl,dL,by simpa using hm,hmax,?_,?_⟩⟩ (cQ.new hr) (λb hb=>.inr (by simp at hb;subst hb;exact hr)) hcapv
  ·simp only[Array.size_append,List.size_toArray,H.ok.flat,hSok.flat,Builtin.zeroCells,Array.size_map,Array.size_range,hzs];rw[←zLF,←zLF];congr 1;omega
  ·have hlen:(rows++ys).length*1=(rows.flatten++ys.flatten).length:=by rw[jM,jM,H.ok.flat,hSok.flat,zLF]
   simp only[Array.toList_append,hlen,zLG];rw[zLH (nC _),zLJ]
 obtain⟨va,vc,hv,hv1,hv2,_,_⟩:=H.slR.here;have hvfirst:=H.slR.first (P:=P);subst hv;simp only[Builtin.append_,zLK,qB,sL,qC hu,qC hu2,kP,mP hi,pure_bind,zLu,if_false,Builtin.lenOf,zLq,if_true,hn,iF,←hyl];by_cases hfit:rows.length+ys.length≤vc
 ·rw[if_pos hfit];refine iD hfirst ?_;rcases H.here with⟨hv',hr,hF⟩|⟨b,cap,cs,hv',hF,hb,hle,hcap,hcs,htake⟩
  ·subst hr;simp only[zLN,Value.slice.injEq,true_and] at hv';obtain⟨rfl,rfl⟩:=hv';have hy:ys=[]:=zLO (by omega);subst hy;exact hk _ _ [] (by simpa using eM.nil) cQ.refl (by simp) (nC _)
  ·simp only[Value.slice.injEq,true_and] at hv';obtain⟨rfl,rfl⟩:=hv';have hmul:(rows.length+ys.length)*1≤vc*1:=zLP _ hfit;have hadd:(⟨b,0,none⟩:Addr).add (rows.length*1)=⟨b,0+rows.length*1,none⟩:=lP ..;show dC P (storeCells ((⟨b,0,none⟩:Addr).add (rows.length*1)) ys.flatten.toArray.toList >>= λ_=>pure _) h k;rw[hadd];refine dC.bind (P:=P) (s:=storeCells _ _) ?_;refine rX _ 0 h cs hb (by simp only[hSok.flat,hcs];rw[zLF] at hmul;omega) (by simpa using hflat) ?_;show k _ _;simp only[fQ,Nat.add_zero];have fin:∀cs':Array Value,cs'.size=cs.size->cs'.toList.take ((rows.length+ys.length)*1)=rows.flatten++ys.flatten->∀h':PH,h' b=some (.cells cs' e (0,0))->cQ F h h'->
     k (.slice (some ⟨b,0,none⟩) (rows.length+ys.length) vc) h':=by
    intro cs' hsz htk h' hb' hu';refine hk _ _ [b] ⟨hrows,.inr ⟨b,vc,cs',by rw[jM],rfl,hb',by simpa using hfit,hcap,by rw[hsz,hcs],by rw[jM,htk,zLG]⟩⟩ hu' (λb' hb'=>.inl (hF▸hb')) (nC _)
   split
   ·rename_i hys;refine fin cs rfl ?_ h hb cQ.refl;have:ys.length*1=0:=by rw[←hSok.flat,hys];rfl
    rw[zLF,this,hys,zLQ,Nat.add_zero];exact htake
   ·refine fin _ (aFv _ _ _) ?_ _ dL (cQ.set (by rw[hF];simp));have hlen:rows.length*1+ys.flatten.length≤cs.size:=by rw[hSok.flat,←zLF,hcs];exact hmul
    rw[aB7 _ _ _ hlen,htake];have hlen2:(rows.length+ys.length)*1=(rows.flatten++ys.flatten).length:=by rw[jM,H.ok.flat,hSok.flat,zLF]
    rw[hlen2,zLH (nC _),zLJ]
 ·rw[if_neg hfit];have hlt:vc<rows.length+ys.length:=by omega
  have h63:¬(((rows.length+ys.length:Nat):Int)>IntKind.i64.max∧(False∨i.bytes=0)):=by
   rintro⟨_,hh⟩;rcases hh with hh|hh
   ·exact hh
   ·omega
  have hfits:¬(Builtin.nextslicecap (rows.length+ys.length) vc*i.bytes>2^48):=by
   rw[hby];have:=growslice_fits hlt hl;omega
  rw[mP hi,if_neg h63,mP hi,if_neg hfits,aAe];intro tt;rw[mP hi,aHM];refine iD hvfirst (iD hfirst ?_);have hzv:zeroValue e=(typeInfo e >>= λi=>match i.zero with|some v=>pure v|none=>unsupported (.resourceLimit "a value of more than 2^22 cells")):=rfl;rw[hzv,bind_assoc,mP hi,hz,pure_bind];have hcut:∀n m:Nat,n≤140737488355328->n≤(Question.appendCap n m e).cut tt∧(Question.appendCap n m e).cut tt≤rB:=by
   intro n m hn;have hpos:0<2^63-n:=by omega
   have:=zLB tt hpos;simp only[Question.cut,rB];omega
  have hforced:(Question.appendCap (rows.length+ys.length) vc e).forced=false:=rfl;rw[hforced];obtain⟨hc1,hc2⟩:=hcut (rows.length+ys.length) vc hbig;intro r hr;exact grown _ hc1 hc2 (show vc≤_ by omega) r hr
end
def aRs{α:Type}{p:List α->Prop}(h0:p [])(hs:∀l a,p l->p (l++[a]))(l:List α):p l:=by
 rw[←List.reverse_reverse l];induction l.reverse with
 | nil=>exact h0
 | cons a l ih=>rw[List.reverse_cons];exact hs _ _ ih
def val(l:List UInt8):Nat:=l.foldl (λa b=>a*256+b.toNat) 0
def aLL(l:List UInt8)(b:UInt8):val (l++[b])=val l*256+b.toNat:=by simp[val]
def be(n:Nat):Nat->List UInt8
 | 0=>[]
 | k+1=>be (n/256) k++[UInt8.ofNat (n%256)]
def jF(n k:Nat):(be n k).length=k:=by
 induction k generalizing n with
 | zero=>rfl
 | succ k ih=>simp[be,ih]
def aZY(n k:Nat):val (be n k)=n%256^k:=by
 induction k generalizing n with
 | zero=>simp[be,val];omega
 | succ k ih=>
  rw[be,aLL,ih];have:(UInt8.ofNat (n%256)).toNat=n%256:=by simp
  rw[this,zLR,zLS (256^k) 256,Nat.mod_mul];omega
def aOw(l:List UInt8):val l<256^l.length:=by
 refine aRs (p:=λl=>val l<256^l.length) (by simp[val]) (λl b ih=>?_) l
 ·rw[aLL,jM,zLT,zLR];have:=b.toNat_lt;have:val l+1≤256^l.length:=ih;have h2:(val l+1)*256≤256^l.length*256:=zLP _ this;omega
def aO4(n:Nat):∀(k i:Nat),i<k->(be n k)[i]? =some (UInt8.ofNat (n/256^(k-1-i)%256))
 | 0,i,h=>by omega
 | k+1,i,h=>by
  rw[be,List.getElem?_append,jF];by_cases hi:i<k
  ·rw[if_pos hi,aO4 (n/256) k i hi,Nat.div_div_eq_div_mul,show k+1-1-i=(k-1-i)+1 by omega,zLR,zLS 256]
  ·have:i=k:=by omega
   subst this;simp
def aKA{n k i:Nat}(hi:i<k):(be n k).take (i+1)=(be n k).take i++[UInt8.ofNat (n/256^(k-1-i)%256)]:=by
 rw[zLU,aO4 n k i hi];rfl
def aZG(l:List UInt8):be (val l) l.length=l:=by
 refine aRs (p:=λl=>be (val l) l.length=l) rfl (λl b ih=>?_) l
 ·rw[jM,zLT,be,aLL];have:=b.toNat_lt;have e1:(val l*256+b.toNat)/256=val l:=by omega
  have e2:(val l*256+b.toNat)%256=b.toNat:=by omega
  rw[e1,e2,ih];simp
structure Bx(h:PH)(r:Nat)(cs:List Value):Prop where
 here:∃e,h r=some (.cells cs.toArray e (0,0))
def Bx.upd{h h':PH}{r:Nat}{cs:List Value}{G:List Nat}(H:Bx h r cs)(u:cQ G h h')(hr:r∉G):Bx h' r cs:=by
 obtain⟨e,h1⟩:=H;exact⟨e,u.get h1 hr⟩
def Bx.ext{h h':PH}{r:Nat}{cs:List Value}(H:Bx h r cs)(u:dD h h'):Bx h' r cs:=H.upd u (by simp)
def Bx.new{h:PH}{r:Nat}{cs:List Value}{e:TypeId}:Bx (h.set r (.cells cs.toArray e (0,0))) r cs:=⟨e,dL⟩
def Bx.cell{h:PH}{r:Nat}{cs:List Value}(H:Bx h r cs)(o:Nat):dB h ⟨r,o,none⟩=cs[o]?:=by
 obtain⟨e,h1⟩:=H;simp[dB,h1]
def Bx.known{h:PH}{r:Nat}{cs:List Value}(H:Bx h r cs):h r≠none:=by
 obtain⟨e,h1⟩:=H;rw[h1];simp
def Bx.apart{h:PH}{r x:Nat}{cs:List Value}(H:Bx h r cs)(hx:h x=none):r≠x:=λe=>H.known (e▸hx)
section
variable{P:Program}{h:PH}{t:TypeId}
def Bx.agg{r n o:Nat}{cs:List Value}(H:Bx h r cs){d:TypeDesc}{i:TypeInfo}(hu:P.underlying t=some d)(hd:aFP d=false)(hi:P.info? t=some i)(hn:i.size=n)(hle:o+n≤cs.length):
  cG P h (loadAt t (pT r o))=some (.agg ((cs.drop o).take n).toArray):=by
 obtain⟨e,h1⟩:=H;rw[pJ hu hd hi hn h1 (by simpa using hle)];congr 2;simp[zLy]
def Bx.put1{r o:Nat}{cs:List Value}(H:Bx h r cs){d:TypeDesc}{i:TypeInfo}(hu:P.underlying t=some d)(hd:aFP d=true)(hi:P.info? t=some i)(hn:i.size=1){v:Value}(ho:o<cs.length)(hv:fW v=true){k:cD}
  (hk:∀h',Bx h' r (cs.set o v)->cQ [r] h h'->k undef h'):dC P (dT t (pT r o) v) h k:=by
 obtain⟨e,h1⟩:=H;refine iT hu hd h1 (by simpa using ho) hv hi hn ?_;refine hk _ ⟨e,?_⟩ (cQ.set (by simp));rw[dL];simp
def Bx.putN{r o:Nat}{cs vs:List Value}(H:Bx h r cs){i:TypeInfo}(hi:P.info? t=some i)(hn:i.size=vs.length)(h0:0<vs.length)(ho:o+vs.length≤cs.length)(hv:∀v∈vs,fW v=true){k:cD}
  (hk:∀h',Bx h' r (cs.take o++vs++cs.drop (o+vs.length))->cQ [r] h h'->k undef h'):dC P (dT t (pT r o) (.agg vs.toArray)) h k:=by
 obtain⟨e,h1⟩:=H;refine aP9 h1 hi (by simpa using hn) (by simpa using h0) (by simpa using ho) (by simpa using hv) ?_;refine hk _ ⟨e,?_⟩ (cQ.set (by simp));rw[dL];congr 2;apply zLw;have:=aB7 vs cs.toArray o (by simpa using ho);simpa using this
def Bx.fill{r:Nat}{vs:List Value}{i:TypeInfo}(hr:h r=none)(hi:P.info? t=some i)(hn:i.size=vs.length)(h0:0<vs.length)(hz:(dV P t).size=vs.length)(hv:∀v∈vs,fW v=true){k:cD}
  (hk:∀h',Bx h' r vs->dD h h'->k undef h'):dC P (dT t (pT r 0) (.agg vs.toArray)) (h.set r (.cells (dV P t) t)) k:=by
 refine rW dL hi (by simpa using hn) (by simpa using h0) (by simpa using hz) (by simpa using hv) ?_;rw[uX];exact hk _ ⟨_,dL⟩ (cQ.new hr)
def Bx.fill1{r:Nat}{v:Value}{d:TypeDesc}{i:TypeInfo}(hr:h r=none)(hu:P.underlying t=some d)(hd:aFP d=true)(hi:P.info? t=some i)(hn:i.size=1)(hz:(dV P t).size=1)(hv:fW v=true){k:cD}
  (hk:∀h',Bx h' r [v]->dD h h'->k undef h'):dC P (dT t (pT r 0) v) (h.set r (.cells (dV P t) t)) k:=by
 refine iT hu hd dL (by omega) hv hi hn ?_;rw[uX];refine hk _ ⟨t,?_⟩ (cQ.new hr);rw[dL];congr 2;apply zLw
 match dV P t,hz with
 | ⟨[x]⟩,_=>rfl
def Bx.zero{r:Nat}{cs:List Value}(hz:dV P t=cs.toArray):Bx (h.set r (.cells (dV P t) t)) r cs:=by rw[hz];exact Bx.new
end
def fZ.isc{h:PH}{n:Nat}{v:Value}{rows:List (List Value)}(S:fZ h n v rows):fW v=true:=by obtain⟨_,_,e,_⟩:=S.here;rw[e];rfl
def fZ.upd0{h h':PH}{size:Nat}{v:Value}{rows:List (List Value)}{G:List Nat}(H:fZ h size v rows)(u:cQ G h h')(hd:rows≠[]->∀a n c,v= .slice (some a) n c->a.block∉G):fZ h' size v rows:=by
 refine⟨H.ok,?_⟩;obtain⟨a,c,hv,h1,h2,h3,h4⟩:=H.here;refine⟨a,c,hv,h1,h2,λhne=>?_,h4⟩;obtain⟨b,o,cs,e,fr,ha,hb,hrest⟩:=h3 hne;exact⟨b,o,cs,e,fr,ha,u.get hb (hd hne ⟨b,o,none⟩ _ _ (ha▸hv)),hrest⟩
def fZ.known{h:PH}{size:Nat}{v:Value}{rows:List (List Value)}(H:fZ h size v rows)(hne:rows≠[]){x:Addr}{n c:Nat}(e:v= .slice (some x) n c):h x.block≠none:=by
 obtain⟨a,c',hv,h1,h2,h3,h4⟩:=H.here;obtain⟨b,o,cs,e',fr,ha,hb,_⟩:=h3 hne;rw[hv,ha] at e;simp only[Value.slice.injEq,zL9] at e;rw[←e.1,hb];simp
end
end Go.Proofs.YtppgkeodaejgcaaGreatDoor
