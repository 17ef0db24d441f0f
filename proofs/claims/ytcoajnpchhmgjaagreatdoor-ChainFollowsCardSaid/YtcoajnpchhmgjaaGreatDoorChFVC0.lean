/- The texts of this claim, put together. -/
import Derived.Calls
import Derived.Scope
import Derived.Orders
import Derived.RangeFuncLeaves
import Derived.RangeFuncRecord
import Derived.OrdersIn
import Derived.Laws.Sem
import Derived.Laws.Append
import Derived.IntWalk
import Derived.Test.YtcoajnpchhmgjaaGreatDoorRows
import Derived.ReadAgain
import Derived.ChangeReads
import Derived.ChangeBears
import Derived.RowKit3
import Derived.ChangeSame
import Derived.OpenShut
import Derived.Deep.Slices
import Derived.LaidMore
import Derived.Stop.Joined
import Derived.SevenTiedAt
import Derived.Laws.Strings
set_option linter.unusedSimpArgs false
set_option linter.unusedVariables false
set_option linter.unusedSectionVars false
namespace Go.Proofs.YtcoajnpchhmgjaaGreatDoor
open Go
abbrev PH := Nat → Option Obj
def PH.set (h : PH) (r : Nat) (o : Obj) : PH := fun b => if b = r then some o else h b
def cellH (h : PH) (a : Addr) : Option Value :=
  match h a.block with
  | some (.cells c _ _) => if a.spot.isSome then none else c[a.off]?
  | _ => none
def frozenH (h : PH) (a : Addr) : Bool :=
  match h a.block with
  | some (.cells _ _ (lo, hi)) => lo ≤ a.off && a.off < hi
  | _ => false
def setCellH (h : PH) (a : Addr) (v : Value) : PH := fun b =>
  if b = a.block then
    match h b with
    | some (.cells c e fr) => some (.cells (if a.spot.isSome then c else c.setIfInBounds a.off v) e fr)
    | o => o
  else h b
def freezeH (h : PH) (a : Addr) (n : Nat) : PH := fun b =>
  if n = 0 then h b else
  if b = a.block then
    match h b with
    | some (.cells c elem (lo, hi)) => some (.cells c elem (if lo == hi then (a.off, a.off + n) else (min lo a.off, max hi (a.off + n))))
    | o => o
  else h b
def shapeH (h : PH) (r : Nat) : Option (Option (TypeId × Nat)) :=
  match h r with
  | some (.cells c elem _) => some (some (elem, c.size))
  | some _ => some none
  | none => none
def isCell : Value → Bool
  | .agg _ | .tuple _ => false
  | _ => true
def Sub (h : PH) (w : World) : Prop := ∀ b o, h b = some o → w.heap[b]? = some o
structure Fr (h : PH) (w : World) (h' : PH) (w' : World) : Prop where
  os : w'.os = w.os
  tape : w'.tape = w.tape
  output : w'.output = w.output
  drawn : w.drawn ≤ w'.drawn
  size : w.heap.size ≤ w'.heap.size
  far : ∀ b, b < w.heap.size → h b = none → w'.heap[b]? = w.heap[b]?
  none : ∀ b, b < w.heap.size → h b = Option.none → h' b = Option.none
theorem Fr.refl (h : PH) (w : World) : Fr h w h w := ⟨rfl, rfl, rfl, Nat.le_refl _, Nat.le_refl _, fun _ _ _ => rfl, fun _ _ h => h⟩
theorem Fr.trans {h h1 h2 : PH} {w w1 w2 : World} (a : Fr h w h1 w1) (b : Fr h1 w1 h2 w2) : Fr h w h2 w2 :=
  ⟨b.os.trans a.os, b.tape.trans a.tape, b.output.trans a.output, Nat.le_trans a.drawn b.drawn, Nat.le_trans a.size b.size,
   fun i hi hn => (b.far i (Nat.lt_of_lt_of_le hi a.size) (a.none i hi hn)).trans (a.far i hi hn),
   fun i hi hn => b.none i (Nat.lt_of_lt_of_le hi a.size) (a.none i hi hn)⟩
theorem Sub.lt {h : PH} {w : World} (hs : Sub h w) {b : Nat} {o : Obj} (hb : h b = some o) : b < w.heap.size :=
  (Array.getElem?_eq_some_iff.1 (hs b o hb)).1
theorem Sub.fresh {h : PH} {w : World} (hs : Sub h w) : h w.heap.size = none := by
  cases hb : h w.heap.size with
  | none => rfl
  | some o => exact absurd (hs.lt hb) (Nat.lt_irrefl _)
def SemH (P : Program) {α : Type} : Sem α → PH → (α → PH → Prop) → Prop
  | .pure a, h, Q => Q a h
  | .load _ a k, h, Q => ∃ v, cellH h a = some v ∧ SemH P (k v) h Q
  | .store _ a v k, h, Q => isCell v = true ∧ frozenH h a = false ∧ (∃ u, cellH h a = some u) ∧ SemH P k (setCellH h a v) Q
  | .new o k, h, Q => ∀ r, h r = none → SemH P (k r) (h.set r o) Q
  | .shape r k, h, Q => ∃ s, shapeH h r = some s ∧ SemH P (k s) h Q
  | .freeze a n k, h, Q => (∃ o, h a.block = some o) ∧ SemH P k (freezeH h a n) Q
  | .frozen a k, h, Q => (∃ o, h a.block = some o) ∧ SemH P (k (frozenH h a)) h Q
  | .getObj r k, h, Q => ∃ o, h r = some o ∧ (∀ c e f, o ≠ .cells c e f) ∧ SemH P (k o) h Q
  | .setObj r o k, h, Q => (∃ u, h r = some u ∧ (∀ c e f, u ≠ .cells c e f)) ∧ SemH P k (h.set r o) Q
  | .choose q k, h, Q => ∀ t, SemH P (k (if q.forced then 0 else q.cut t)) h Q
  | .sys _ _, _, _ => False
  | .program k, h, Q => SemH P (k P) h Q
  | .mark _ k, h, Q => SemH P k h Q
  | .halt _, _, _ => False
def SemE (P : Program) {α : Type} (h : PH) : Sem α → Option α
  | .pure a => some a
  | .load _ a k => (cellH h a).bind fun v => SemE P h (k v)
  | .shape r k => (shapeH h r).bind fun s => SemE P h (k s)
  | .frozen a k => (h a.block).bind fun _ => SemE P h (k (frozenH h a))
  | .program k => SemE P h (k P)
  | .mark _ k => SemE P h k
  | .getObj r k => match h r with
    | some (.cells ..) => none
    | some o => SemE P h (k o)
    | none => none
  | _ => none
def SemP (P : Program) {α : Type} : Sem α → Option α
  | .pure a => some a
  | .program k => SemP P (k P)
  | .mark _ k => SemP P k
  | _ => none
theorem SemH.mono {P : Program} {α : Type} {s : Sem α} : ∀ {h : PH} {Q Q' : α → PH → Prop}, SemH P s h Q → (∀ a h, Q a h → Q' a h) → SemH P s h Q' := by
  induction s with
  | pure a => intro h Q Q' hh hq; exact hq _ _ hh
  | load m a k ih => rintro h Q Q' ⟨v, hv, hh⟩ hq; exact ⟨v, hv, ih v hh hq⟩
  | store m a v k ih => rintro h Q Q' ⟨h1, h2, h3, hh⟩ hq; exact ⟨h1, h2, h3, ih hh hq⟩
  | new o k ih => intro h Q Q' hh hq r hr; exact ih r (hh r hr) hq
  | shape r k ih => rintro h Q Q' ⟨v, hv, hh⟩ hq; exact ⟨v, hv, ih v hh hq⟩
  | freeze a n k ih => rintro h Q Q' ⟨h1, hh⟩ hq; exact ⟨h1, ih hh hq⟩
  | frozen a k ih => rintro h Q Q' ⟨h1, hh⟩ hq; exact ⟨h1, ih _ hh hq⟩
  | getObj r k ih => rintro h Q Q' ⟨o, ho, hc, hh⟩ hq; exact ⟨o, ho, hc, ih o hh hq⟩
  | setObj r o k ih => rintro h Q Q' ⟨h1, hh⟩ hq; exact ⟨h1, ih hh hq⟩
  | choose q k ih => intro h Q Q' hh hq t; exact ih _ (hh t) hq
  | sys c k ih => intro h Q Q' hh; exact hh.elim
  | program k ih => intro h Q Q' hh hq; exact ih P hh hq
  | mark m k ih => intro h Q Q' hh hq; exact ih hh hq
  | halt x => intro h Q Q' hh; exact hh.elim
theorem SemH.bind {P : Program} {α β : Type} {s : Sem α} {f : α → Sem β} : ∀ {h : PH} {Q : β → PH → Prop}, SemH P s h (fun a h' => SemH P (f a) h' Q) → SemH P (s.bind f) h Q := by
  induction s with
  | pure a => intro h Q hh; exact hh
  | load m a k ih => rintro h Q ⟨v, hv, hh⟩; exact ⟨v, hv, ih v hh⟩
  | store m a v k ih => rintro h Q ⟨h1, h2, h3, hh⟩; exact ⟨h1, h2, h3, ih hh⟩
  | new o k ih => intro h Q hh r hr; exact ih r (hh r hr)
  | shape r k ih => rintro h Q ⟨v, hv, hh⟩; exact ⟨v, hv, ih v hh⟩
  | freeze a n k ih => rintro h Q ⟨h1, hh⟩; exact ⟨h1, ih hh⟩
  | frozen a k ih => rintro h Q ⟨h1, hh⟩; exact ⟨h1, ih _ hh⟩
  | getObj r k ih => rintro h Q ⟨o, ho, hc, hh⟩; exact ⟨o, ho, hc, ih o hh⟩
  | setObj r o k ih => rintro h Q ⟨h1, hh⟩; exact ⟨h1, ih hh⟩
  | choose q k ih => intro h Q hh t; exact ih _ (hh t)
  | sys c k ih => intro h Q hh; exact hh.elim
  | program k ih => intro h Q hh; exact ih P hh
  | mark m k ih => intro h Q hh; exact ih hh
  | halt x => intro h Q hh; exact hh.elim
theorem SemP.semE {P : Program} {α : Type} {s : Sem α} : ∀ {a : α}, SemP P s = some a → ∀ h, SemE P h s = some a := by
  induction s with
  | pure a => intro b hb h; exact hb
  | program k ih => intro b hb h; exact ih P hb h
  | mark m k ih => intro b hb h; exact ih hb h
  | _ => intro b hb; cases hb
theorem SemE.semH {P : Program} {α : Type} {s : Sem α} : ∀ {a : α} {h : PH}, SemE P h s = some a → ∀ {Q : α → PH → Prop}, Q a h → SemH P s h Q := by
  induction s with
  | pure a => intro b h hb Q hq; simp only [SemE, Option.some.injEq] at hb; subst hb; exact hq
  | load m a k ih => intro b h hb Q hq; obtain ⟨v, hv, hb⟩ := Option.bind_eq_some_iff.1 hb; exact ⟨v, hv, ih v hb hq⟩
  | shape r k ih => intro b h hb Q hq; obtain ⟨v, hv, hb⟩ := Option.bind_eq_some_iff.1 hb; exact ⟨v, hv, ih v hb hq⟩
  | frozen a k ih => intro b h hb Q hq; obtain ⟨v, hv, hb⟩ := Option.bind_eq_some_iff.1 hb; exact ⟨⟨v, hv⟩, ih _ hb hq⟩
  | program k ih => intro b h hb Q hq; exact ih P hb hq
  | mark m k ih => intro b h hb Q hq; exact ih hb hq
  | getObj r k ih =>
    intro b h hb Q hq
    simp only [SemE] at hb
    split at hb
    · cases hb
    · rename_i o ho hr; exact ⟨o, hr, fun c e f hc => ho c e f hc, ih o hb hq⟩
    · cases hb
  | _ => intro b h hb; cases hb
theorem Sub.cell {h : PH} {w : World} (hs : Sub h w) {a : Addr} {v : Value} (hv : cellH h a = some v) : w.cell? a = some v := by
  unfold cellH at hv
  split at hv
  · rename_i c e f hb
    unfold World.cell?
    rw [hs _ _ hb]
    exact hv
  · cases hv
theorem Sub.shape {h : PH} {w : World} (hs : Sub h w) {r : Nat} {s : Option (TypeId × Nat)} (hv : shapeH h r = some s) : w.shape? r = s := by
  unfold shapeH at hv
  unfold World.shape?
  split at hv
  · rename_i c e f hb; rw [hs _ _ hb]; simpa using hv
  · rename_i o hne hb
    rw [hs _ _ hb]
    simp only [Option.some.injEq] at hv
    subst hv
    split
    · rename_i c e f hc; simp only [Option.some.injEq] at hc; subst hc; exact absurd hb (by simpa using hne c e f)
    · rfl
  · cases hv
theorem Sub.frozen {h : PH} {w : World} (hs : Sub h w) {a : Addr} {o : Obj} (ho : h a.block = some o) : w.frozen? a = frozenH h a := by
  unfold World.frozen? frozenH
  rw [hs _ _ ho, ho]
  cases o <;> rfl
theorem heap_push (w : World) (o : Obj) (b : Nat) : ({ w with heap := w.heap.push o } : World).heap[b]? = if b = w.heap.size then some o else w.heap[b]? := by
  simp only [Array.getElem?_push]
theorem Sub.new {h : PH} {w : World} (hs : Sub h w) (o : Obj) : Sub (h.set w.heap.size o) { w with heap := w.heap.push o } ∧ Fr h w (h.set w.heap.size o) { w with heap := w.heap.push o } := by
  refine ⟨fun b u hb => ?_, rfl, rfl, rfl, Nat.le_refl _, by simp, fun b hb hn => ?_, fun b hb hn => ?_⟩
  · rw [heap_push]
    unfold PH.set at hb
    split at hb
    · rename_i e; rw [if_pos e]; exact hb
    · rename_i e; rw [if_neg e]; exact hs b u hb
  · rw [heap_push, if_neg (Nat.ne_of_lt hb)]
  · unfold PH.set; rw [if_neg (Nat.ne_of_lt hb)]; exact hn
theorem Sub.modify {h : PH} {w : World} (hs : Sub h w) (g : Nat) (f : Obj → Obj) (h' : PH) (hh : ∀ b, h' b = if b = g then (h b).map f else h b) {o : Obj} (hg : h g = some o) :
    Sub h' { w with heap := w.heap.modify g f } ∧ Fr h w h' { w with heap := w.heap.modify g f } := by
  refine ⟨fun b u hb => ?_, rfl, rfl, rfl, Nat.le_refl _, by simp, fun b hb hn => ?_, fun b hb hn => ?_⟩
  · rw [hh] at hb
    simp only [Array.getElem?_modify]
    by_cases e : b = g
    · subst e
      simp only [if_true, hg, Option.map_some, Option.some.injEq] at hb
      subst hb
      simp [hs _ _ hg]
    · rw [if_neg e] at hb
      rw [if_neg (Ne.symm e)]
      exact hs b u hb
  · have e : g ≠ b := fun e => by subst e; rw [hg] at hn; cases hn
    simp only [Array.getElem?_modify, if_neg e]
  · rw [hh]
    by_cases e : b = g
    · subst e; rw [hg] at hn; cases hn
    · rw [if_neg e]; exact hn
theorem cellH_block {h : PH} {a : Addr} {v : Value} (hv : cellH h a = some v) : ∃ c e f, h a.block = some (.cells c e f) := by
  unfold cellH at hv
  split at hv
  · rename_i c e f hb; exact ⟨c, e, f, hb⟩
  · cases hv
theorem SemH.sound {P : Program} {α : Type} {s : Sem α} : ∀ {h : PH} {Q : α → PH → Prop}, SemH P s h Q → ∀ {w : World}, Sub h w →
    ∃ a w' h', s.run P w = .ok a w' ∧ Q a h' ∧ Sub h' w' ∧ Fr h w h' w' := by
  induction s with
  | pure a => intro h Q hh w hs; exact ⟨a, w, h, rfl, hh, hs, Fr.refl _ _⟩
  | load m a k ih =>
    rintro h Q ⟨v, hv, hh⟩ w hs
    obtain ⟨x, w', h', hr, hrest⟩ := ih v hh hs
    exact ⟨x, w', h', by simp only [Sem.run, hs.cell hv]; exact hr, hrest⟩
  | store m a v k ih =>
    rintro h Q ⟨h1, h2, ⟨u, hu⟩, hh⟩ w hs
    obtain ⟨c, e, f, hb⟩ := cellH_block hu
    have hm := hs.modify a.block (fun | .cells c elem frozen => .cells (if a.spot.isSome then c else c.setIfInBounds a.off v) elem frozen | o => o) (setCellH h a v)
      (by intro b; unfold setCellH; split
          · cases h b with
            | none => rfl
            | some o => cases o <;> rfl
          · rfl) hb
    obtain ⟨x, w', h', hr, hq, hs', hf⟩ := ih hh hm.1
    refine ⟨x, w', h', ?_, hq, hs', hm.2.trans hf⟩
    have hfz : w.frozen? a = false := by rw [hs.frozen hb]; exact h2
    cases v <;> simp [isCell] at h1 <;> simp only [Sem.run, hs.cell hu, hfz] <;> exact hr
  | new o k ih =>
    intro h Q hh w hs
    have hn := hs.new o
    obtain ⟨x, w', h', hr, hq, hs', hf⟩ := ih _ (hh _ hs.fresh) hn.1
    exact ⟨x, w', h', hr, hq, hs', hn.2.trans hf⟩
  | shape r k ih =>
    rintro h Q ⟨v, hv, hh⟩ w hs
    obtain ⟨x, w', h', hr, hrest⟩ := ih v hh hs
    exact ⟨x, w', h', by simp only [Sem.run, hs.shape hv]; exact hr, hrest⟩
  | freeze a n k ih =>
    rintro h Q ⟨⟨o, ho⟩, hh⟩ w hs
    by_cases hn : n = 0
    · have e : freezeH h a n = h := by funext b; simp [freezeH, hn]
      rw [e] at hh
      obtain ⟨x, w', h', hr, hrest⟩ := ih hh hs
      exact ⟨x, w', h', by simp only [Sem.run, World.freeze, hn, if_true]; exact hr, hrest⟩
    · have hm := hs.modify a.block (fun | .cells c elem (lo, hi) => .cells c elem (if lo == hi then (a.off, a.off + n) else (min lo a.off, max hi (a.off + n))) | o => o) (freezeH h a n)
        (by intro b; unfold freezeH; rw [if_neg hn]; split
            · cases h b with
              | none => rfl
              | some o => cases o <;> rfl
            · rfl) ho
      obtain ⟨x, w', h', hr, hq, hs', hf⟩ := ih hh hm.1
      exact ⟨x, w', h', by simp only [Sem.run, World.freeze, hn, if_false]; exact hr, hq, hs', hm.2.trans hf⟩
  | frozen a k ih =>
    rintro h Q ⟨⟨o, ho⟩, hh⟩ w hs
    obtain ⟨x, w', h', hr, hrest⟩ := ih _ hh hs
    exact ⟨x, w', h', by simp only [Sem.run, hs.frozen ho]; exact hr, hrest⟩
  | getObj r k ih =>
    rintro h Q ⟨o, ho, hc, hh⟩ w hs
    obtain ⟨x, w', h', hr, hrest⟩ := ih _ hh hs
    refine ⟨x, w', h', ?_, hrest⟩
    simp only [Sem.run, hs _ _ ho]
    cases o <;> first | exact absurd rfl (hc _ _ _) | exact hr
  | setObj r o k ih =>
    rintro h Q ⟨⟨u, hu, hc⟩, hh⟩ w hs
    have hlt := hs.lt hu
    have hm := hs.modify r (fun _ => o) (h.set r o) (fun b => by
      unfold PH.set
      split
      · rename_i e; subst e; rw [hu]; rfl
      · rfl) hu
    have he : w.heap.modify r (fun _ => o) = w.heap.setIfInBounds r o := by
      apply Array.ext_getElem?
      intro i
      simp only [Array.getElem?_modify, Array.getElem?_setIfInBounds]
      by_cases e : r = i
      · subst e; simp [hlt]
      · simp [e]
    rw [he] at hm
    obtain ⟨x, w', h', hr, hq, hs', hf⟩ := ih hh hm.1
    refine ⟨x, w', h', ?_, hq, hs', hm.2.trans hf⟩
    simp only [Sem.run, hs _ _ hu]
    cases u <;> first | exact absurd rfl (hc _ _ _) | exact hr
  | choose q k ih =>
    intro h Q hh w hs
    by_cases hq : q.forced
    · have h0 := hh 0
      simp only [hq, if_true] at h0
      obtain ⟨x, w', h', hr, hrest⟩ := ih _ h0 hs
      exact ⟨x, w', h', by simp only [Sem.run, hq, if_true]; exact hr, hrest⟩
    · have h0 := hh (w.tape w.drawn q)
      simp only [hq] at h0
      have hs1 : Sub h { w with drawn := w.drawn + 1 } := hs
      obtain ⟨x, w', h', hr, hqq, hs', hf⟩ := ih _ h0 hs1
      exact ⟨x, w', h', by simp only [Sem.run, hq]; exact hr, hqq, hs', ⟨hf.os, hf.tape, hf.output, Nat.le_trans (Nat.le_succ _) hf.drawn, hf.size, hf.far, hf.none⟩⟩
  | sys c k ih => intro h Q hh; exact hh.elim
  | program k ih =>
    intro h Q hh w hs
    obtain ⟨x, w', h', hr, hrest⟩ := ih P hh hs
    exact ⟨x, w', h', hr, hrest⟩
  | mark m k ih =>
    intro h Q hh w hs
    obtain ⟨x, w', h', hr, hrest⟩ := ih hh hs
    exact ⟨x, w', h', hr, hrest⟩
  | halt x => intro h Q hh; exact hh.elim
theorem SemH.frame {P : Program} {α : Type} {s : Sem α} (r : Nat) (o : Obj) : ∀ {h : PH} {Q : α → PH → Prop}, SemH P s h Q → h r = none →
    SemH P s (h.set r o) (fun a h2 => ∃ h1 : PH, h2 = h1.set r o ∧ h1 r = none ∧ Q a h1) := by
  have hset : ∀ (h : PH) b, h r = none → (∃ u, h b = some u) → (h.set r o) b = h b := by
    intro h b hr ⟨u, hu⟩
    unfold PH.set
    rw [if_neg]
    rintro rfl; rw [hr] at hu; cases hu
  induction s with
  | pure a => intro h Q hh hr; exact ⟨h, rfl, hr, hh⟩
  | load m a k ih =>
    rintro h Q ⟨v, hv, hh⟩ hr
    obtain ⟨c, e, f, hb⟩ := cellH_block hv
    exact ⟨v, by unfold cellH at *; rw [hset h _ hr ⟨_, hb⟩]; exact hv, ih v hh hr⟩
  | store m a v k ih =>
    rintro h Q ⟨h1, h2, ⟨u, hu⟩, hh⟩ hr
    obtain ⟨c, e, f, hb⟩ := cellH_block hu
    have hne : a.block ≠ r := by rintro rfl; rw [hr] at hb; cases hb
    refine ⟨h1, by unfold frozenH at *; rw [hset h _ hr ⟨_, hb⟩]; exact h2, ⟨u, by unfold cellH at *; rw [hset h _ hr ⟨_, hb⟩]; exact hu⟩, ?_⟩
    have he : setCellH (h.set r o) a v = (setCellH h a v).set r o := by
      funext b
      unfold setCellH PH.set
      by_cases e1 : b = r
      · subst e1; simp [Ne.symm hne]
      · simp [e1]
    rw [he]
    exact ih hh (by unfold setCellH; rw [if_neg (Ne.symm hne)]; exact hr)
  | new o' k ih =>
    intro h Q hh hr r' hr'
    have hne : r' ≠ r := by rintro rfl; simp [PH.set] at hr'
    have hr2 : h r' = none := by unfold PH.set at hr'; rw [if_neg hne] at hr'; exact hr'
    have he : (h.set r o).set r' o' = (h.set r' o').set r o := by
      funext b; unfold PH.set
      by_cases e1 : b = r'
      · subst e1; simp [hne]
      · simp [e1]
    rw [he]
    exact ih r' (hh r' hr2) (by unfold PH.set; rw [if_neg (Ne.symm hne)]; exact hr)
  | shape r' k ih =>
    rintro h Q ⟨v, hv, hh⟩ hr
    have hb : ∃ u, h r' = some u := by
      unfold shapeH at hv
      cases hx : h r' with
      | none => rw [hx] at hv; cases hv
      | some u => exact ⟨u, rfl⟩
    exact ⟨v, by unfold shapeH at *; rw [hset h _ hr hb]; exact hv, ih v hh hr⟩
  | freeze a n k ih =>
    rintro h Q ⟨⟨u, hu⟩, hh⟩ hr
    have hne : a.block ≠ r := by rintro rfl; rw [hr] at hu; cases hu
    refine ⟨⟨u, by rw [hset h _ hr ⟨_, hu⟩]; exact hu⟩, ?_⟩
    have he : freezeH (h.set r o) a n = (freezeH h a n).set r o := by
      funext b
      unfold freezeH PH.set
      by_cases e1 : b = r
      · subst e1; simp [Ne.symm hne]
      · simp [e1]
    rw [he]
    exact ih hh (by unfold freezeH; simp [Ne.symm hne, hr])
  | frozen a k ih =>
    rintro h Q ⟨⟨u, hu⟩, hh⟩ hr
    have hb := hset h _ hr ⟨_, hu⟩
    refine ⟨⟨u, by rw [hb]; exact hu⟩, ?_⟩
    have : frozenH (h.set r o) a = frozenH h a := by unfold frozenH; rw [hb]
    rw [this]
    exact ih _ hh hr
  | getObj r' k ih =>
    rintro h Q ⟨u, hu, hc, hh⟩ hr
    exact ⟨u, by rw [hset h _ hr ⟨_, hu⟩]; exact hu, hc, ih _ hh hr⟩
  | setObj r' o' k ih =>
    rintro h Q ⟨⟨u, hu, hc⟩, hh⟩ hr
    have hne : r' ≠ r := by rintro rfl; rw [hr] at hu; cases hu
    refine ⟨⟨u, by rw [hset h _ hr ⟨_, hu⟩]; exact hu, hc⟩, ?_⟩
    have he : (h.set r o).set r' o' = (h.set r' o').set r o := by
      funext b; unfold PH.set
      by_cases e1 : b = r'
      · subst e1; simp [hne]
      · simp [e1]
    rw [he]
    exact ih hh (by unfold PH.set; rw [if_neg (Ne.symm hne)]; exact hr)
  | choose q k ih => intro h Q hh hr t; exact ih _ (hh t) hr
  | sys c k ih => intro h Q hh; exact hh.elim
  | program k ih => intro h Q hh hr; exact ih P hh hr
  | mark m k ih => intro h Q hh hr; exact ih hh hr
  | halt x => intro h Q hh; exact hh.elim
end Go.Proofs.YtcoajnpchhmgjaaGreatDoor
namespace Go.Proofs.YtcoajnpchhmgjaaGreatDoor
open Go
abbrev Env := Nat → Value
def upd (ρ : Env) (d : Option Tmp) (v : Value) : Env := match d with
  | some d => fun t => if t = d then v else ρ t
  | none => ρ
def ev (ρ : Env) : Operand → Value
  | .tmp t => ρ t
  | .const v => v
  | .global g => .pointer (some ⟨g, 0, none⟩)
  | .func f => .func (.func f) #[] #[]
theorem SemE.of_semH {P : Program} {α : Type} {s : Sem α} : ∀ {a : α} {h : PH} {Q : α → PH → Prop}, SemE P h s = some a → SemH P s h Q → Q a h := by
  induction s with
  | pure a => intro b h Q hb hh; simp only [SemE, Option.some.injEq] at hb; subst hb; exact hh
  | load m a k ih => rintro b h Q hb ⟨v, hv, hh⟩; simp only [SemE, hv, Option.bind_some] at hb; exact ih v hb hh
  | shape r k ih => rintro b h Q hb ⟨v, hv, hh⟩; simp only [SemE, hv, Option.bind_some] at hb; exact ih v hb hh
  | frozen a k ih => rintro b h Q hb ⟨⟨v, hv⟩, hh⟩; simp only [SemE, hv, Option.bind_some] at hb; exact ih _ hb hh
  | program k ih => intro b h Q hb hh; exact ih P hb hh
  | mark m k ih => intro b h Q hb hh; exact ih hb hh
  | getObj r k ih =>
    rintro b h Q hb ⟨o, ho, hc, hh⟩
    simp only [SemE, ho] at hb
    cases o <;> first | exact absurd rfl (hc _ _ _) | exact ih _ hb hh
  | _ => intro b h Q hb; cases hb
def enters (P : Program) (f : FuncId) : Bool := match P.funcs[f]? with
  | some fn => !(fn.name == "runtime.NumGoroutine") && !fn.body.isNone
  | none => false
def CallsH (P : Program) (f : FuncId) (args : Array Value) (h : PH) (R : Value → PH → Prop) : Prop :=
  (enters P f = true ∧ ∀ w, Sub h w → Calls P f args w fun e w' => ∃ v h', e = .returned v ∧ R v h' ∧ Sub h' w' ∧ Fr h w h' w') ∨
  SemH P (callFunc f args) h fun n h' => ∃ v, n = .value v ∧ R v h'
theorem CallsH.mono {P : Program} {f : FuncId} {args : Array Value} {h : PH} {R R' : Value → PH → Prop} (hc : CallsH P f args h R) (hr : ∀ v h, R v h → R' v h) : CallsH P f args h R' := by
  rcases hc with ⟨h1, h2⟩ | hs
  · exact .inl ⟨h1, fun w hs => (h2 w hs).mono fun _ _ ⟨v, h', e, r, rest⟩ => ⟨v, h', e, hr _ _ r, rest⟩⟩
  · exact .inr (hs.mono fun n h' ⟨v, e, hv⟩ => ⟨v, e, hr _ _ hv⟩)
theorem CallsH.entry {P : Program} {f : FuncId} {args : Array Value} {h : PH} {R : Value → PH → Prop} {v : Value} (e : SemE P h (callFunc f args) = some (.value v)) (hv : R v h) : CallsH P f args h R := .inr (SemE.semH e ⟨v, rfl, hv⟩)
def NextH (P : Program) (n : Next) (h : PH) (kv : Value → PH → Prop) : Prop := match n with
  | .value v => kv v h
  | .skip => kv undef h
  | .enter f args => ∀ w, Sub h w → Calls P f args w fun e w' => ∃ v h', e = .returned v ∧ kv v h' ∧ Sub h' w' ∧ Fr h w h' w'
  | .round l f tmps assign body => ∀ w, Sub h w → RoundIn Fence.wide 0 P l f tmps assign body w fun e w' => ∃ v h', e = .returned v ∧ kv v h' ∧ Sub h' w' ∧ Fr h w h' w'
  | _ => False
theorem NextH.mono {P : Program} {n : Next} {h : PH} {k k' : Value → PH → Prop} (hn : NextH P n h k) (hk : ∀ v h, k v h → k' v h) : NextH P n h k' := by
  cases n <;> first
    | exact hk _ _ hn
    | exact fun w hs => Calls.mono (hn w hs) fun _ _ ⟨v, h', e, r, rest⟩ => ⟨v, h', e, hk _ _ r, rest⟩
    | exact fun w hs => RoundIn.mono (hn w hs) fun _ _ ⟨v, h', e, r, rest⟩ => ⟨v, h', e, hk _ _ r, rest⟩
    | exact hn.elim
def popO {α : Type} (x : Option α) (k : α → Prop) : Prop := match x with
  | some v => k v
  | none => False
theorem popO_iff {α : Type} {x : Option α} {k : α → Prop} : popO x k ↔ ∃ v, x = some v ∧ k v := by
  cases x <;> simp [popO]
def pickV (c a b : Value) : Option Value := match c with
  | .bool true => some a
  | .bool false => some b
  | _ => none
def SemA (P : Program) {α : Type} : Sem α → Option (Obj × (Nat → Sem α))
  | .new o k => some (o, k)
  | .program k => SemA P (k P)
  | .mark _ k => SemA P k
  | _ => none
theorem SemA.semH {P : Program} {α : Type} {s : Sem α} : ∀ {o : Obj} {k : Nat → Sem α}, SemA P s = some (o, k) → ∀ {h : PH} {Q : α → PH → Prop},
    (∀ r, h r = none → SemH P (k r) (h.set r o) Q) → SemH P s h Q := by
  induction s with
  | new o k ih => intro o' k' hb h Q hq; simp only [SemA, Option.some.injEq, Prod.mk.injEq] at hb; obtain ⟨rfl, rfl⟩ := hb; exact hq
  | program k ih => intro o' k' hb h Q hq; exact ih P hb hq
  | mark m k ih => intro o' k' hb h Q hq; exact ih hb hq
  | _ => intro o' k' hb; cases hb
inductive Cls where
  | p | r | a | e
  deriving DecidableEq, Repr
def clsOf (P : Program) : Op → Cls
  | .move _ | .assign _ | .pick .. | .nilCheck _ | .unOp .. | .fieldAddr .. | .field .. | .indexAddr .. | .index .. | .slice .. | .extract .. | .makeFunc .. | .build .. | .makeInterface .. => .p
  | .binOp op .. => match op with
    | .eql | .neq => .r
    | _ => .p
  | .load .. | .lookup .. => .r
  | .convert _ dst _ => match P.underlying dst with
    | some (.int _) => .p
    | some .string => .r
    | _ => .e
  | .alloc .. | .box .. | .buildSlice .. | .makeMap .. | .makeSlice .. => .a
  | .call c => match c.callee with
    | .builtin .len => match (c.argTypes[0]?).bind P.underlying with
      | some (.map ..) => .r
      | _ => .p
    | .builtin .min | .builtin .max | .builtin .cap => .p
    | _ => .e
  | _ => .e
def semOf (ρ : Env) (o : Oper) : Sem Value := match o.op with
  | .move x | .assign x => pure (ev ρ x)
  | .pick c a b => do pure (if ← asBool (ev ρ c) then ev ρ a else ev ρ b)
  | .alloc elem => Instr.alloc elem true (.tuple #[])
  | .box elem x => Instr.box elem (ev ρ x)
  | .build t parts => Instr.build t (parts.map fun (i, x) => (i, ev ρ x))
  | .buildSlice t len parts => Instr.buildSlice t len (parts.map fun (i, x) => (i, ev ρ x))
  | .load t a => Instr.loadAt t (ev ρ a)
  | .nilCheck x =>
    match ev ρ x with
    | .pointer none | .nilIface | .nilFunc => .halt (.stuck "nil")
    | .func (.method _) _ _ => .halt (.stuck "method")
    | x => pure x
  | .binOp op xType x y _ => do eqGuard op xType x y (ev ρ x) (ev ρ y); binOp op xType (ev ρ x) (ev ρ y)
  | .unOp op _ x => Op.unary op (ev ρ x)
  | .convert src dst x => convert src dst (ev ρ x)
  | .makeInterface xType x => Instr.makeInterface xType (ev ρ x)
  | .makeFunc fn first captured => Instr.makeFunc fn (first.map (ev ρ)) (captured.map (ev ρ))
  | .makeMap t r => Instr.makeMap t (r.map (ev ρ))
  | .makeSlice t l c => Instr.makeSlice t (ev ρ l) (ev ρ c)
  | .slice t x lo hi mx => Instr.sliceAt t (ev ρ x) (lo.map (ev ρ)) (hi.map (ev ρ)) (mx.map (ev ρ))
  | .fieldAddr s x f => Instr.fieldAt s (ev ρ x) f
  | .field xType x f => Instr.field xType (ev ρ x) f
  | .indexAddr t x ix => Instr.indexAt t (ev ρ x) (ev ρ ix)
  | .index xType x ix => Instr.index xType (ev ρ x) (ev ρ ix)
  | .lookup xType x ix ok => Instr.lookup xType (ev ρ x) (ev ρ ix) ok
  | .extract t ix => Instr.extract (ev ρ t) ix
  | .range xType x => Instr.range xType (ev ρ x)
  | .next it isString => Instr.next (ev ρ it) isString o.type
  | .entry it => Instr.entry (ev ρ it)
  | .mapEntry t m k => Instr.mapEntry t (ev ρ m) (ev ρ k)
  | .typeAssert x xType asserted ok => Instr.typeAssert (ev ρ x) xType asserted ok
  | .store t a x => do Instr.storeAt t (ev ρ a) (ev ρ x); pure undef
  | .mapUpdate t m k x | .insert t m k x => do Instr.mapUpdate t (ev ρ m) (ev ρ k) (ev ρ x); pure undef
  | .entryStore t m s x => do Instr.entryStore t (ev ρ m) (ev ρ s) (ev ρ x); pure undef
  | .call c => match c.callee with
    | .builtin .append => Builtin.append_ c.argTypes o.type (c.args.map (ev ρ))
    | .builtin .len => Builtin.len_ c.argTypes o.type (c.args.map (ev ρ))
    | .builtin .cap => Builtin.cap_ c.argTypes o.type (c.args.map (ev ρ))
    | .builtin .min => Builtin.min_ c.argTypes o.type (c.args.map (ev ρ))
    | .builtin .max => Builtin.max_ c.argTypes o.type (c.args.map (ev ρ))
    | .builtin .copy => Builtin.copy_ c.argTypes o.type (c.args.map (ev ρ))
    | .builtin .clear => Builtin.clear_ c.argTypes o.type (c.args.map (ev ρ))
    | .builtin .delete => Builtin.delete_ c.argTypes o.type (c.args.map (ev ρ))
    | .builtin .unsafeString => Builtin.unsafeString_ c.argTypes o.type (c.args.map (ev ρ))
    | .builtin .unsafeSliceData => Builtin.unsafeSliceData_ c.argTypes o.type (c.args.map (ev ρ))
    | .builtin .unsafeStringData => Builtin.unsafeStringData_ c.argTypes o.type (c.args.map (ev ρ))
    | .builtin .unsafeSlice => Builtin.unsafeSlice_ c.argTypes o.type (c.args.map (ev ρ))
    | _ => .halt (.stuck "no value")
  | _ => .halt (.stuck "no value")
def callV (P : Program) (c : Call) (ρ : Env) (h : PH) (kv : Value → PH → Prop) : Prop := match c.callee with
  | .value (.func f) => CallsH P f (c.args.map (ev ρ)) h kv
  | .value x => match ev ρ x with
    | .func (.func f) first captured => CallsH P f (first ++ c.args.map (ev ρ) ++ captured) h kv
    | .func fn first captured => SemH P (invoke (.fn fn captured) (first ++ c.args.map (ev ρ))) h fun n h' => NextH P n h' kv
    | _ => False
  | .invoke recv name => SemH P (callMethod (ev ρ recv) name (c.args.map (ev ρ))) h fun n h' => NextH P n h' kv
  | .builtin _ => False
def opV (P : Program) (o : Oper) (ρ : Env) (h : PH) (kv : Value → PH → Prop) : Prop := match clsOf P o.op with
  | .p => match o.op with
    | .move x | .assign x => kv (ev ρ x) h
    | .pick c a b => popO (pickV (ev ρ c) (ev ρ a) (ev ρ b)) fun v => kv v h
    | _ => popO (SemP P (semOf ρ o)) fun v => kv v h
  | .r => popO (SemE P h (semOf ρ o)) fun v => kv v h
  | .a => popO (SemA P (semOf ρ o)) fun x => ∀ r, h r = none → popO (SemP P (x.2 r)) fun v => kv v (h.set r x.1)
  | .e => match o.op with
    | .call c => match c.callee with
      | .builtin _ => SemH P (semOf ρ o) h kv
      | _ => callV P c ρ h kv
    | _ => SemH P (semOf ρ o) h kv
def yieldH (ops : Array Oper) (ρ : Env) (j : Nat) : Option Bool := match (ops[j]?).bind (·.dst) with
  | some d => match ρ d with
    | .bool b => some b
    | _ => none
  | none => none
def gopV (y : Option Bool) (want : Bool) (X : (Value → PH → Prop) → Prop) (h : PH) (kv : Value → PH → Prop) : Prop :=
  if y == some want then X kv else kv undef h
def stepV (P : Program) (all : Array Oper) (o : Oper) (ρ : Env) (h : PH) (kv : Value → PH → Prop) : Prop := match o.guard with
  | none => opV P o ρ h kv
  | some (j, want) => gopV (yieldH all ρ j) want (opV P o ρ h) h kv
def opsH (P : Program) (all : Array Oper) (k : Env → PH → Prop) : List Oper → Env → PH → Prop
  | [], ρ, h => k ρ h
  | o :: rest, ρ, h => stepV P all o ρ h fun v h' => opsH P all k rest (upd ρ o.dst v) h'
theorem opV.mono {P : Program} {o : Oper} {ρ : Env} {h : PH} {k k' : Value → PH → Prop} (hk : ∀ v h, k v h → k' v h) (ho : opV P o ρ h k) : opV P o ρ h k' := by
  unfold opV at *
  split at ho
  · split at ho
    · exact hk _ _ ho
    · exact hk _ _ ho
    · obtain ⟨v, e, hv⟩ := popO_iff.1 ho; exact popO_iff.2 ⟨v, e, hk _ _ hv⟩
    · obtain ⟨v, e, hv⟩ := popO_iff.1 ho; exact popO_iff.2 ⟨v, e, hk _ _ hv⟩
  · obtain ⟨v, e, hv⟩ := popO_iff.1 ho; exact popO_iff.2 ⟨v, e, hk _ _ hv⟩
  · obtain ⟨x, e, hx⟩ := popO_iff.1 ho
    refine popO_iff.2 ⟨x, e, fun r hr => ?_⟩
    obtain ⟨v, e, hv⟩ := popO_iff.1 (hx r hr); exact popO_iff.2 ⟨v, e, hk _ _ hv⟩
  · split at ho
    · split at ho
      · exact ho.mono hk
      · unfold callV at *
        split at ho
        · exact ho.mono hk
        · split at ho
          · exact ho.mono hk
          · exact ho.mono fun _ _ hn => hn.mono hk
          · exact ho.elim
        · exact ho.mono fun _ _ hn => hn.mono hk
        · exact ho.elim
    · exact ho.mono hk
theorem stepV.mono {P : Program} {all : Array Oper} {o : Oper} {ρ : Env} {h : PH} {k k' : Value → PH → Prop} (hk : ∀ v h, k v h → k' v h) (ho : stepV P all o ρ h k) : stepV P all o ρ h k' := by
  unfold stepV at *
  split
  · rename_i e; simp only [e] at ho; exact ho.mono hk
  · rename_i j want e
    simp only [e] at ho
    unfold gopV at *
    split
    · rename_i e; rw [if_pos e] at ho; exact ho.mono hk
    · rename_i e; rw [if_neg e] at ho; exact hk _ _ ho
theorem opV.noDefer {P : Program} {o : Oper} {ρ : Env} {h : PH} {kv : Value → PH → Prop} (ho : opV P o ρ h kv) : ∀ c, o.op ≠ .defer c := by
  intro c hc
  have e : clsOf P o.op = .e := by rw [hc]; rfl
  unfold opV at ho
  rw [e] at ho
  simp only [hc] at ho
  unfold semOf at ho
  rw [hc] at ho
  exact ho
theorem semE_enter {P : Program} {f : FuncId} {args : Array Value} {h : PH} (he : enters P f = true) : SemE P h (callFunc f args) = some (.enter f args) := by
  unfold enters at he
  split at he
  · rename_i fn hf
    simp only [Bool.and_eq_true, Bool.not_eq_true'] at he
    unfold callFunc
    show SemE P h (match P.funcs[f]? with | none => _ | some fn => _) = _
    simp only [hf, he.1, he.2, Bool.false_eq_true, if_false]
    rfl
  · cases he
theorem semH_callFunc {P : Program} {f : FuncId} {args : Array Value} {h : PH} {kv : Value → PH → Prop} (hc : CallsH P f args h kv) :
    SemH P (callFunc f args) h fun n h' => NextH P n h' kv := by
  rcases hc with ⟨he, hw⟩ | hs
  · exact SemE.semH (semE_enter he) hw
  · exact hs.mono fun n h' ⟨v, e, hv⟩ => by subst e; exact hv
theorem CallsH.calls {P : Program} {f : FuncId} {args : Array Value} {h : PH} {R : Value → PH → Prop} (hc : CallsH P f args h R) (he : enters P f = true) : ∀ w, Sub h w → Calls P f args w fun e w' => ∃ v h', e = .returned v ∧ R v h' ∧ Sub h' w' ∧ Fr h w h' w' := by
  rcases hc with ⟨_, hw⟩ | hs
  · exact hw
  · obtain ⟨v, e, _⟩ := SemE.of_semH (semE_enter he) hs; cases e
theorem semH_v {P : Program} {s : Sem Value} {h : PH} {kv : Value → PH → Prop} (hs : SemH P s h kv) :
    SemH P (do pure (Next.value (← s))) h fun n h' => NextH P n h' kv :=
  SemH.bind (P := P) (s := s) (f := fun v => pure (Next.value v)) hs
theorem semH_u {P : Program} {s : Sem Unit} {h : PH} {kv : Value → PH → Prop} (hs : SemH P (do s; pure undef) h kv) :
    SemH P (do s; pure Next.skip) h fun n h' => NextH P n h' kv := by
  have key : ∀ (s : Sem Unit) (h : PH), SemH P (s.bind fun _ => pure undef) h kv → SemH P (s.bind fun _ => pure Next.skip) h fun n h' => NextH P n h' kv := by
    intro s
    induction s with
    | pure a => intro h hh; exact hh
    | load m a k ih => rintro h ⟨v, hv, hh⟩; exact ⟨v, hv, ih v h hh⟩
    | store m a v k ih => rintro h ⟨h1, h2, h3, hh⟩; exact ⟨h1, h2, h3, ih _ hh⟩
    | new o k ih => intro h hh r hr; exact ih r _ (hh r hr)
    | shape r k ih => rintro h ⟨v, hv, hh⟩; exact ⟨v, hv, ih v _ hh⟩
    | freeze a n k ih => rintro h ⟨h1, hh⟩; exact ⟨h1, ih _ hh⟩
    | frozen a k ih => rintro h ⟨h1, hh⟩; exact ⟨h1, ih _ _ hh⟩
    | getObj r k ih => rintro h ⟨o, ho, hc, hh⟩; exact ⟨o, ho, hc, ih o _ hh⟩
    | setObj r o k ih => rintro h ⟨h1, hh⟩; exact ⟨h1, ih _ hh⟩
    | choose q k ih => intro h hh t; exact ih _ _ (hh t)
    | sys c k ih => intro h hh; exact hh.elim
    | program k ih => intro h hh; exact ih P _ hh
    | mark m k ih => intro h hh; exact ih _ hh
    | halt x => intro h hh; exact hh.elim
  exact key s h hs
theorem first_of (x : Value) (xs : Array Value) : (#[x] ++ xs)[0]? = some x := by
  rcases xs with ⟨l⟩
  simp
theorem rest_of (x : Value) (xs : Array Value) : (#[x] ++ xs).extract 1 (#[x] ++ xs).size = xs := by
  rcases xs with ⟨l⟩
  apply Array.ext'
  simp [List.drop_one]
theorem opV.exec {P : Program} {o : Oper} {ρ : Env} {h : PH} {kv : Value → PH → Prop} (ho : opV P o ρ h kv) :
    SemH P (execOp (ev ρ) o) h fun n h' => NextH P n h' kv := by
  have hcases : SemH P (semOf ρ o) h kv ∨ (∃ c, o.op = .call c ∧ callV P c ρ h kv) := by
    unfold opV at ho
    split at ho
    · left
      split at ho
      · rename_i x hx; unfold semOf; rw [hx]; exact ho
      · rename_i x hx; unfold semOf; rw [hx]; exact ho
      · rename_i c a b hx
        obtain ⟨v, e, hv⟩ := popO_iff.1 ho
        unfold semOf; rw [hx]
        show SemH P ((asBool (ev ρ c)).bind fun x => pure (if x then ev ρ a else ev ρ b)) h kv
        generalize ev ρ c = vc at *
        cases vc with
        | bool t => cases t <;> (simp only [pickV, Option.some.injEq] at e; subst e; exact hv)
        | _ => cases e
      · obtain ⟨v, e, hv⟩ := popO_iff.1 ho
        exact SemE.semH (SemP.semE e h) hv
    · left
      obtain ⟨v, e, hv⟩ := popO_iff.1 ho
      exact SemE.semH e hv
    · left
      obtain ⟨x, e, hx⟩ := popO_iff.1 ho
      refine SemA.semH (o := x.1) (k := x.2) e fun r hr => ?_
      obtain ⟨v, e, hv⟩ := popO_iff.1 (hx r hr)
      exact SemE.semH (SemP.semE e _) hv
    · split at ho
      · split at ho
        · left; exact ho
        · right; exact ⟨_, by assumption, ho⟩
      · left; exact ho
  rcases hcases with hs | ⟨c, hc, hv⟩
  · unfold semOf at hs
    unfold execOp
    cases hop : o.op <;> simp only [hop] at hs ⊢
    case move => exact hs
    case assign => exact hs
    case pick c a b =>
      have hs' : SemH P ((asBool (ev ρ c)).bind fun x => pure (if x then ev ρ a else ev ρ b)) h kv := hs
      show SemH P ((asBool (ev ρ c)).bind fun x => pure (Next.value (if x then ev ρ a else ev ρ b))) h _
      generalize ev ρ c = vc at *
      cases vc with
      | bool t => exact hs'
      | _ => exact hs'.elim
    case nilCheck x =>
      generalize ev ρ x = v at *
      cases v with
      | pointer a => cases a with
        | none => exact hs.elim
        | some a => exact hs
      | func fn first captured => cases fn with
        | method name => exact hs.elim
        | _ => exact hs
      | nilIface => exact hs.elim
      | nilFunc => exact hs.elim
      | _ => exact hs
    case call c =>
      cases hcal : c.callee with
      | builtin b =>
        simp only [hcal] at hs
        unfold resolve
        simp only [hcal]
        cases b <;> first
          | exact hs.elim
          | exact semH_v hs
      | value f => simp only [hcal] at hs; exact hs.elim
      | invoke r n => simp only [hcal] at hs; exact hs.elim
    all_goals first
      | exact semH_v hs
      | exact semH_u hs
      | exact hs.elim
  · unfold execOp
    simp only [hc]
    unfold resolve
    unfold callV at hv
    cases hcal : c.callee with
    | builtin b => simp only [hcal] at hv
    | invoke r n =>
      simp only [hcal] at hv
      show SemH P (invoke (.fn (.method n) #[]) (#[ev ρ r] ++ c.args.map (ev ρ))) h _
      unfold invoke
      simp only [first_of, rest_of]
      exact hv
    | value f =>
      simp only [hcal]
      have key : ∀ (v : Value), ev ρ f = v → (match v with
          | .func (.func f) first captured => CallsH P f (first ++ c.args.map (ev ρ) ++ captured) h kv
          | .func fn first captured => SemH P (invoke (.fn fn captured) (first ++ c.args.map (ev ρ))) h fun n h' => NextH P n h' kv
          | _ => False) → SemH P (do let d ← Deferred.ofValue (ev ρ f) (c.args.map (ev ρ)); invoke d.target d.args) h fun n h' => NextH P n h' kv := by
        intro v he hh
        rw [he]
        cases v with
        | func fn first captured =>
          show SemH P (invoke (.fn fn captured) (first ++ c.args.map (ev ρ))) h _
          cases fn with
          | func g => exact semH_callFunc hh
          | _ => exact hh
        | _ => exact hh.elim
      cases f with
      | func g =>
        refine key _ rfl ?_
        simp only [hcal] at hv
        show CallsH P g (#[] ++ c.args.map (ev ρ) ++ #[]) h kv
        simpa using hv
      | tmp t => simp only [hcal] at hv; exact key _ rfl hv
      | const v => simp only [hcal] at hv; exact key _ rfl hv
      | global g => simp only [hcal] at hv; exact key _ rfl hv
end Go.Proofs.YtcoajnpchhmgjaaGreatDoor
namespace Go.Proofs.YtcoajnpchhmgjaaGreatDoor
open Go
def Rl (h : PH) : Prop := ∃ w, Sub h w
abbrev Tr := PH → (Value → PH → Prop) → Prop
theorem Rl.fresh {h : PH} (hr : Rl h) : ∃ r, h r = none := let ⟨w, hs⟩ := hr; ⟨w.heap.size, hs.fresh⟩
theorem Rl.set {h : PH} (hr : Rl h) {r : Nat} (hn : h r = none) (o : Obj) : Rl (h.set r o) := by
  obtain ⟨w, hs⟩ := hr
  let n := max w.heap.size (r + 1)
  refine ⟨{ w with heap := (Array.range n).map fun b => if b = r then o else (w.heap[b]?).getD default }, fun b u hb => ?_⟩
  unfold PH.set at hb
  have hlt : b < n := by
    split at hb
    · omega
    · have := hs.lt hb; omega
  simp only [Array.getElem?_map, Array.getElem?_range, hlt, if_true, Option.map_some]
  split at hb
  · rename_i e; rw [if_pos e]; exact hb
  · rename_i e; rw [if_neg e, hs _ _ hb]; rfl
theorem SemE.set {P : Program} {α : Type} {s : Sem α} {r : Nat} {o : Obj} : ∀ {h : PH} {a : α}, SemE P h s = some a → h r = none → SemE P (h.set r o) s = some a := by
  have hset : ∀ (h : PH) b, h r = none → (∃ u, h b = some u) → (h.set r o) b = h b := by
    intro h b hr ⟨u, hu⟩
    unfold PH.set
    rw [if_neg]
    rintro rfl; rw [hr] at hu; cases hu
  induction s with
  | pure a => intro h b hb _; exact hb
  | load m a k ih =>
    intro h b hb hr
    obtain ⟨v, hv, hb⟩ := Option.bind_eq_some_iff.1 hb
    obtain ⟨c, e, f, hblk⟩ := cellH_block hv
    refine Option.bind_eq_some_iff.2 ⟨v, ?_, ih v hb hr⟩
    unfold cellH at *; rw [hset h _ hr ⟨_, hblk⟩]; exact hv
  | shape r' k ih =>
    intro h b hb hr
    obtain ⟨v, hv, hb⟩ := Option.bind_eq_some_iff.1 hb
    have hblk : ∃ u, h r' = some u := by
      unfold shapeH at hv
      cases hx : h r' with
      | none => rw [hx] at hv; cases hv
      | some u => exact ⟨u, rfl⟩
    refine Option.bind_eq_some_iff.2 ⟨v, ?_, ih v hb hr⟩
    unfold shapeH at *; rw [hset h _ hr hblk]; exact hv
  | frozen a k ih =>
    intro h b hb hr
    obtain ⟨v, hv, hb⟩ := Option.bind_eq_some_iff.1 hb
    have e := hset h _ hr ⟨_, hv⟩
    refine Option.bind_eq_some_iff.2 ⟨v, by rw [e]; exact hv, ?_⟩
    have : frozenH (h.set r o) a = frozenH h a := by unfold frozenH; rw [e]
    rw [this]; exact ih _ hb hr
  | program k ih => intro h b hb hr; exact ih P hb hr
  | mark m k ih => intro h b hb hr; exact ih hb hr
  | getObj r' k ih =>
    intro h b hb hr
    simp only [SemE] at hb ⊢
    cases hx : h r' with
    | none => rw [hx] at hb; cases hb
    | some u =>
      rw [hset h _ hr ⟨_, hx⟩, hx]
      rw [hx] at hb
      cases u <;> first | cases hb | exact ih _ hb hr
  | _ => intro h b hb; cases hb
theorem SemH.real {P : Program} {α : Type} {s : Sem α} : ∀ {h : PH} {Q : α → PH → Prop}, SemH P s h Q → Rl h → SemH P s h fun a h' => Q a h' ∧ Rl h' := by
  induction s with
  | pure a => intro h Q hh hr; exact ⟨hh, hr⟩
  | load m a k ih => rintro h Q ⟨v, hv, hh⟩ hr; exact ⟨v, hv, ih v hh hr⟩
  | store m a v k ih =>
    rintro h Q ⟨h1, h2, h3, hh⟩ hr
    refine ⟨h1, h2, h3, ih hh ?_⟩
    obtain ⟨w, hs⟩ := hr
    obtain ⟨u, hu⟩ := h3
    obtain ⟨c, e, f, hb⟩ := cellH_block hu
    exact ⟨_, (hs.modify a.block (fun | .cells c elem frozen => .cells (if a.spot.isSome then c else c.setIfInBounds a.off v) elem frozen | o => o) (setCellH h a v)
      (fun b => by
        unfold setCellH
        split
        · cases h b with
          | none => rfl
          | some o => cases o <;> rfl
        · rfl) hb).1⟩
  | new o k ih => intro h Q hh hr r hn; exact ih r (hh r hn) (hr.set hn o)
  | shape r k ih => rintro h Q ⟨v, hv, hh⟩ hr; exact ⟨v, hv, ih v hh hr⟩
  | freeze a n k ih =>
    rintro h Q ⟨⟨o, ho⟩, hh⟩ hr
    refine ⟨⟨o, ho⟩, ih hh ?_⟩
    obtain ⟨w, hs⟩ := hr
    by_cases hn : n = 0
    · have e : freezeH h a n = h := by funext b; simp [freezeH, hn]
      rw [e]; exact ⟨w, hs⟩
    · exact ⟨_, (hs.modify a.block (fun | .cells c elem (lo, hi) => .cells c elem (if lo == hi then (a.off, a.off + n) else (min lo a.off, max hi (a.off + n))) | o => o) (freezeH h a n)
        (fun b => by
          unfold freezeH; rw [if_neg hn]
          split
          · cases h b with
            | none => rfl
            | some o => cases o <;> rfl
          · rfl) ho).1⟩
  | frozen a k ih => rintro h Q ⟨h1, hh⟩ hr; exact ⟨h1, ih _ hh hr⟩
  | getObj r k ih => rintro h Q ⟨o, ho, hc, hh⟩ hr; exact ⟨o, ho, hc, ih o hh hr⟩
  | setObj r o k ih =>
    rintro h Q ⟨⟨u, hu, hc⟩, hh⟩ hr
    refine ⟨⟨u, hu, hc⟩, ih hh ?_⟩
    obtain ⟨w, hs⟩ := hr
    exact ⟨_, (hs.modify r (fun _ => o) (h.set r o) (fun b => by
      unfold PH.set
      split
      · rename_i e; subst e; rw [hu]; rfl
      · rfl) hu).1⟩
  | choose q k ih => intro h Q hh hr t; exact ih _ (hh t) hr
  | sys c k ih => intro h Q hh; exact hh.elim
  | program k ih => intro h Q hh hr; exact ih P hh hr
  | mark m k ih => intro h Q hh hr; exact ih hh hr
  | halt x => intro h Q hh; exact hh.elim
theorem CallsH.real {P : Program} {f : FuncId} {args : Array Value} {h : PH} {R : Value → PH → Prop} (hc : CallsH P f args h R) (hr : Rl h) : CallsH P f args h fun v h' => R v h' ∧ Rl h' := by
  rcases hc with ⟨h1, h2⟩ | hs
  · exact .inl ⟨h1, fun w hs => (h2 w hs).mono fun _ w' ⟨v, h', e, r, s, fr⟩ => ⟨v, h', e, ⟨r, w', s⟩, s, fr⟩⟩
  · exact .inr ((hs.real hr).mono fun n h' ⟨⟨v, e, hv⟩, hr'⟩ => ⟨v, e, hv, hr'⟩)
theorem NextH.real {P : Program} {n : Next} {h : PH} {k : Value → PH → Prop} (hn : NextH P n h k) (hr : Rl h) : NextH P n h fun v h' => k v h' ∧ Rl h' := by
  cases n <;> first
    | exact ⟨hn, hr⟩
    | exact fun w hs => Calls.mono (hn w hs) fun _ w' ⟨v, h', e, r, s, fr⟩ => ⟨v, h', e, ⟨r, w', s⟩, s, fr⟩
    | exact fun w hs => RoundIn.mono (hn w hs) fun _ w' ⟨v, h', e, r, s, fr⟩ => ⟨v, h', e, ⟨r, w', s⟩, s, fr⟩
    | exact hn.elim
theorem opV.real {P : Program} {o : Oper} {ρ : Env} {h : PH} {k : Value → PH → Prop} (ho : opV P o ρ h k) (hr : Rl h) : opV P o ρ h fun v h' => k v h' ∧ Rl h' := by
  unfold opV at *
  split at ho
  · split at ho
    · exact ⟨ho, hr⟩
    · exact ⟨ho, hr⟩
    · obtain ⟨v, e, hv⟩ := popO_iff.1 ho; exact popO_iff.2 ⟨v, e, hv, hr⟩
    · obtain ⟨v, e, hv⟩ := popO_iff.1 ho; exact popO_iff.2 ⟨v, e, hv, hr⟩
  · obtain ⟨v, e, hv⟩ := popO_iff.1 ho; exact popO_iff.2 ⟨v, e, hv, hr⟩
  · obtain ⟨x, e, hx⟩ := popO_iff.1 ho
    refine popO_iff.2 ⟨x, e, fun r hn => ?_⟩
    obtain ⟨v, e, hv⟩ := popO_iff.1 (hx r hn); exact popO_iff.2 ⟨v, e, hv, hr.set hn _⟩
  · split at ho
    · split at ho
      · exact ho.real hr
      · unfold callV at *
        split at ho
        · exact ho.real hr
        · split at ho
          · exact ho.real hr
          · exact (ho.real hr).mono fun _ _ hn => hn.1.real hn.2
          · exact ho.elim
        · exact (ho.real hr).mono fun _ _ hn => hn.1.real hn.2
        · exact ho.elim
    · exact ho.real hr
theorem opV.falls {P : Program} {o : Oper} {ρ : Env} {h : PH} (ho : opV P o ρ h fun _ _ => False) (hr : Rl h) : False := by
  obtain ⟨w, hs⟩ := hr
  obtain ⟨n, w', h', hrun, hn, hs', hf⟩ := ho.exec.sound hs
  cases n with
  | value v => exact hn
  | skip => exact hn
  | enter f args =>
    obtain ⟨e, w2, fr, ⟨v, h2, _, hF, _⟩, _⟩ := hn w' hs' []
    exact hF
  | round l f tmps assign body =>
    obtain ⟨e, w2, ⟨v, h2, _, hF, _⟩, _⟩ := (hn w' hs').2 default [] (room_wide _)
    exact hF
  | _ => exact hn.elim
theorem CallsH.frame {P : Program} {f : FuncId} {args : Array Value} {h : PH} {R : Value → PH → Prop} (r : Nat) (o : Obj) (hc : CallsH P f args h R) (hr : h r = none) :
    CallsH P f args (h.set r o) fun v h2 => ∃ h1 : PH, h2 = h1.set r o ∧ h1 r = none ∧ R v h1 := by
  rcases hc with ⟨hc1, hc2⟩ | hs
  rotate_left
  · exact .inr ((SemH.frame r o hs hr).mono fun n h2 ⟨h1, e, hn, v, ev, hv⟩ => ⟨v, ev, h1, e, hn, hv⟩)
  refine .inl ⟨hc1, fun w hs => ?_⟩
  have hsub : Sub h w := fun b u hb => hs b u (by unfold PH.set; rw [if_neg]; · exact hb
                                                  · rintro rfl; rw [hr] at hb; cases hb)
  have hw : w.heap[r]? = some o := hs r o (by unfold PH.set; rw [if_pos rfl])
  have hlt : r < w.heap.size := (Array.getElem?_eq_some_iff.1 hw).1
  refine (hc2 w hsub).mono fun e w' ⟨v, h1, he, hR, hs1, hf⟩ => ?_
  have hn := hf.none r hlt hr
  refine ⟨v, h1.set r o, he, ⟨h1, rfl, hn, hR⟩, fun b u hb => ?_, hf.os, hf.tape, hf.output, hf.drawn, hf.size, fun b hb hbn => ?_, fun b hb hbn => ?_⟩
  · unfold PH.set at hb
    split at hb
    · rename_i e; subst e; rw [hf.far b hlt hr, hw]; exact hb
    · exact hs1 b u hb
  · refine hf.far b hb ?_
    unfold PH.set at hbn
    split at hbn
    · cases hbn
    · exact hbn
  · unfold PH.set at hbn ⊢
    split at hbn
    · cases hbn
    · rename_i e; rw [if_neg e]; exact hf.none b hb hbn
theorem NextH.frame {P : Program} {n : Next} {h : PH} {k : Value → PH → Prop} (r : Nat) (o : Obj) (hn : NextH P n h k) (hr : h r = none) :
    NextH P n (h.set r o) fun v h2 => ∃ h1 : PH, h2 = h1.set r o ∧ h1 r = none ∧ k v h1 := by
  cases n with
  | value v => exact ⟨h, rfl, hr, hn⟩
  | skip => exact ⟨h, rfl, hr, hn⟩
  | enter f args =>
    intro w hs
    have hsub : Sub h w := fun b u hb => hs b u (by unfold PH.set; rw [if_neg]; · exact hb
                                                    · rintro rfl; rw [hr] at hb; cases hb)
    have hw : w.heap[r]? = some o := hs r o (by unfold PH.set; rw [if_pos rfl])
    have hlt : r < w.heap.size := (Array.getElem?_eq_some_iff.1 hw).1
    refine (hn w hsub).mono fun e w' ⟨v, h1, he, hR, hs1, hf⟩ => ?_
    have hn := hf.none r hlt hr
    refine ⟨v, h1.set r o, he, ⟨h1, rfl, hn, hR⟩, fun b u hb => ?_, hf.os, hf.tape, hf.output, hf.drawn, hf.size, fun b hb hbn => ?_, fun b hb hbn => ?_⟩
    · unfold PH.set at hb
      split at hb
      · rename_i e; subst e; rw [hf.far b hlt hr, hw]; exact hb
      · exact hs1 b u hb
    · refine hf.far b hb ?_
      unfold PH.set at hbn
      split at hbn
      · cases hbn
      · exact hbn
    · unfold PH.set at hbn ⊢
      split at hbn
      · cases hbn
      · rename_i e; rw [if_neg e]; exact hf.none b hb hbn
  | round l f tmps assign body =>
    intro w hs
    have hsub : Sub h w := fun b u hb => hs b u (by unfold PH.set; rw [if_neg]; · exact hb
                                                    · rintro rfl; rw [hr] at hb; cases hb)
    have hw : w.heap[r]? = some o := hs r o (by unfold PH.set; rw [if_pos rfl])
    have hlt : r < w.heap.size := (Array.getElem?_eq_some_iff.1 hw).1
    refine RoundIn.mono (hn w hsub) fun e w' ⟨v, h1, he, hR, hs1, hf⟩ => ?_
    have hn := hf.none r hlt hr
    refine ⟨v, h1.set r o, he, ⟨h1, rfl, hn, hR⟩, fun b u hb => ?_, hf.os, hf.tape, hf.output, hf.drawn, hf.size, fun b hb hbn => ?_, fun b hb hbn => ?_⟩
    · unfold PH.set at hb
      split at hb
      · rename_i e; subst e; rw [hf.far b hlt hr, hw]; exact hb
      · exact hs1 b u hb
    · refine hf.far b hb ?_
      unfold PH.set at hbn
      split at hbn
      · cases hbn
      · exact hbn
    · unfold PH.set at hbn ⊢
      split at hbn
      · cases hbn
      · rename_i e; rw [if_neg e]; exact hf.none b hb hbn
  | _ => exact hn.elim
def KP (T : Tr) : Prop := ∃ x : Option Value, ∀ h kv, T h kv ↔ popO x fun v => kv v h
def KR (T : Tr) : Prop := ∃ f : PH → Option Value, (∀ h kv, T h kv ↔ popO (f h) fun v => kv v h) ∧ ∀ h r o v, f h = some v → h r = none → f (h.set r o) = some v
def KA (T : Tr) : Prop := ∃ y : Option (Obj × (Nat → Option Value)), ∀ h kv, T h kv ↔ popO y fun x => ∀ r, h r = none → popO (x.2 r) fun v => kv v (h.set r x.1)
structure KE (T : Tr) : Prop where
  mono : ∀ {h : PH} {k k' : Value → PH → Prop}, T h k → (∀ v h, k v h → k' v h) → T h k'
  real : ∀ {h : PH} {k : Value → PH → Prop}, T h k → Rl h → T h fun v h' => k v h' ∧ Rl h'
  falls : ∀ {h : PH}, T h (fun _ _ => False) → Rl h → False
  frame : ∀ {h : PH} {k : Value → PH → Prop} (r : Nat) (o : Obj), T h k → h r = none → T (h.set r o) fun v h2 => ∃ h1 : PH, h2 = h1.set r o ∧ h1 r = none ∧ k v h1
theorem KP.ke {T : Tr} (hT : KP T) : KE T := by
  obtain ⟨x, hx⟩ := hT
  refine ⟨fun ht hk => ?_, fun ht hr => ?_, fun ht hr => ?_, fun r o ht hr => ?_⟩
  · obtain ⟨v, e, hv⟩ := popO_iff.1 ((hx _ _).1 ht); exact (hx _ _).2 (popO_iff.2 ⟨v, e, hk _ _ hv⟩)
  · obtain ⟨v, e, hv⟩ := popO_iff.1 ((hx _ _).1 ht); exact (hx _ _).2 (popO_iff.2 ⟨v, e, hv, hr⟩)
  · obtain ⟨v, e, hv⟩ := popO_iff.1 ((hx _ _).1 ht); exact hv
  · obtain ⟨v, e, hv⟩ := popO_iff.1 ((hx _ _).1 ht); exact (hx _ _).2 (popO_iff.2 ⟨v, e, _, rfl, hr, hv⟩)
theorem KR.ke {T : Tr} (hT : KR T) : KE T := by
  obtain ⟨f, hx, hm⟩ := hT
  refine ⟨fun ht hk => ?_, fun ht hr => ?_, fun ht hr => ?_, fun r o ht hr => ?_⟩
  · obtain ⟨v, e, hv⟩ := popO_iff.1 ((hx _ _).1 ht); exact (hx _ _).2 (popO_iff.2 ⟨v, e, hk _ _ hv⟩)
  · obtain ⟨v, e, hv⟩ := popO_iff.1 ((hx _ _).1 ht); exact (hx _ _).2 (popO_iff.2 ⟨v, e, hv, hr⟩)
  · obtain ⟨v, e, hv⟩ := popO_iff.1 ((hx _ _).1 ht); exact hv
  · obtain ⟨v, e, hv⟩ := popO_iff.1 ((hx _ _).1 ht); exact (hx _ _).2 (popO_iff.2 ⟨v, hm _ _ _ _ e hr, _, rfl, hr, hv⟩)
theorem set_set_ne {h : PH} {r r' : Nat} {o o' : Obj} (hne : r' ≠ r) : (h.set r o).set r' o' = (h.set r' o').set r o := by
  funext b; unfold PH.set
  by_cases e1 : b = r'
  · subst e1; simp [hne]
  · simp [e1]
theorem set_ne {h : PH} {r r' : Nat} {o : Obj} (hn : (h.set r o) r' = none) : r' ≠ r ∧ h r' = none := by
  unfold PH.set at hn
  split at hn
  · cases hn
  · rename_i e; exact ⟨e, hn⟩
theorem swap_p {T U : Tr} (hT : KP T) (hU : KE U) {h : PH} {X : Value → Value → PH → Prop} (H : T h fun v h1 => U h1 fun u h2 => X v u h2) : U h fun u h1 => T h1 fun v h2 => X v u h2 := by
  obtain ⟨x, hx⟩ := hT
  obtain ⟨v, e, hv⟩ := popO_iff.1 ((hx _ _).1 H)
  exact hU.mono hv fun u h1 hX => (hx _ _).2 (popO_iff.2 ⟨v, e, hX⟩)
theorem swap_to_p {T U : Tr} (hT : KE T) (hU : KP U) {h : PH} (hr : Rl h) {X : Value → Value → PH → Prop} (H : T h fun v h1 => U h1 fun u h2 => X v u h2) : U h fun u h1 => T h1 fun v h2 => X v u h2 := by
  obtain ⟨x, hx⟩ := hU
  cases x with
  | none => exact (hT.falls (hT.mono H fun v h1 hh => by simpa [popO] using (hx _ _).1 hh) hr).elim
  | some u => exact (hx _ _).2 (popO_iff.2 ⟨u, rfl, hT.mono H fun v h1 hh => by simpa [popO] using (hx _ _).1 hh⟩)
theorem swap_ra {T U : Tr} (hT : KR T) (hU : KA U) {h : PH} {X : Value → Value → PH → Prop} (H : T h fun v h1 => U h1 fun u h2 => X v u h2) : U h fun u h1 => T h1 fun v h2 => X v u h2 := by
  obtain ⟨f, hx, hm⟩ := hT
  obtain ⟨y, hy⟩ := hU
  obtain ⟨v, e, hv⟩ := popO_iff.1 ((hx _ _).1 H)
  obtain ⟨z, e', hz⟩ := popO_iff.1 ((hy _ _).1 hv)
  refine (hy _ _).2 (popO_iff.2 ⟨z, e', fun r hr => ?_⟩)
  obtain ⟨u, e2, hu⟩ := popO_iff.1 (hz r hr)
  exact popO_iff.2 ⟨u, e2, (hx _ _).2 (popO_iff.2 ⟨v, hm _ _ _ _ e hr, hu⟩)⟩
theorem swap_aa {T U : Tr} (hT : KA T) (hU : KA U) {h : PH} (hr : Rl h) {X : Value → Value → PH → Prop} (H : T h fun v h1 => U h1 fun u h2 => X v u h2) : U h fun u h1 => T h1 fun v h2 => X v u h2 := by
  obtain ⟨x, hx⟩ := hT
  obtain ⟨y, hy⟩ := hU
  obtain ⟨z, e, hz⟩ := popO_iff.1 ((hx _ _).1 H)
  have hy' : ∃ z', y = some z' := by
    obtain ⟨r, hn⟩ := hr.fresh
    obtain ⟨v, _, hv⟩ := popO_iff.1 (hz r hn)
    obtain ⟨z', e', _⟩ := popO_iff.1 ((hy _ _).1 hv)
    exact ⟨z', e'⟩
  obtain ⟨z', e'⟩ := hy'
  -- both values are there, whatever the blocks
  have both : ∀ r r', h r = none → h r' = none → r' ≠ r → ∃ v u, z.2 r = some v ∧ z'.2 r' = some u ∧ X v u ((h.set r z.1).set r' z'.1) := by
    intro r r' hn hn' hne
    obtain ⟨v, e1, hv⟩ := popO_iff.1 (hz r hn)
    obtain ⟨z2, e2, hz2⟩ := popO_iff.1 ((hy _ _).1 hv)
    rw [e'] at e2; cases e2
    obtain ⟨u, e3, hu⟩ := popO_iff.1 (hz2 r' (by unfold PH.set; rw [if_neg hne]; exact hn'))
    exact ⟨v, u, e1, e3, hu⟩
  refine (hy _ _).2 (popO_iff.2 ⟨z', e', fun r' hn' => ?_⟩)
  have hu : ∃ u, z'.2 r' = some u := by
    obtain ⟨r, hn⟩ := (hr.set hn' z'.1).fresh
    obtain ⟨hne, hn⟩ := set_ne hn
    obtain ⟨v, u, _, eu, _⟩ := both r r' hn hn' (Ne.symm hne)
    exact ⟨u, eu⟩
  obtain ⟨u, eu⟩ := hu
  refine popO_iff.2 ⟨u, eu, (hx _ _).2 (popO_iff.2 ⟨z, e, fun r hn => ?_⟩)⟩
  obtain ⟨hne, hn⟩ := set_ne hn
  obtain ⟨v, u', ev', eu', hX⟩ := both r r' hn hn' (Ne.symm hne)
  rw [eu] at eu'; cases eu'
  refine popO_iff.2 ⟨v, ev', ?_⟩
  rw [← set_set_ne (Ne.symm hne)]; exact hX
theorem swap_ea {T U : Tr} (hT : KE T) (hU : KA U) {h : PH} (hr : Rl h) {X : Value → Value → PH → Prop} (H : T h fun v h1 => U h1 fun u h2 => X v u h2) : U h fun u h1 => T h1 fun v h2 => X v u h2 := by
  obtain ⟨y, hy⟩ := hU
  have hy' : ∃ z', y = some z' := by
    cases y with
    | some z' => exact ⟨z', rfl⟩
    | none => exact (hT.falls (hT.mono H fun v h1 hh => by simpa [popO] using (hy _ _).1 hh) hr).elim
  obtain ⟨z, e⟩ := hy'
  refine (hy _ _).2 (popO_iff.2 ⟨z, e, fun r hn => ?_⟩)
  have hf := hT.frame r z.1 H hn
  have hf2 : T (h.set r z.1) fun v h2 => popO (z.2 r) fun u => X v u h2 := hT.mono hf fun v h2 ⟨h1, e1, hn1, hh⟩ => by
    obtain ⟨z2, e2, hz2⟩ := popO_iff.1 ((hy _ _).1 hh)
    rw [e] at e2; cases e2
    rw [e1]; exact hz2 r hn1
  cases hu : z.2 r with
  | none =>
    rw [hu] at hf2
    exact (hT.falls hf2 (hr.set hn z.1)).elim
  | some u =>
    rw [hu] at hf2
    exact hf2
end Go.Proofs.YtcoajnpchhmgjaaGreatDoor
namespace Go.Proofs.YtcoajnpchhmgjaaGreatDoor
open Go
theorem upd_upd_ne {ρ : Env} {x y : Option Tmp} {v u : Value} (h : ∀ d, x = some d → y ≠ some d) : upd (upd ρ x v) y u = upd (upd ρ y u) x v := by
  cases x with
  | none => rfl
  | some d =>
    cases y with
    | none => rfl
    | some e =>
      have hne : d ≠ e := fun he => h d rfl (he ▸ rfl)
      funext t
      simp only [upd]
      by_cases h1 : t = d
      · subst h1; simp [hne]
      · simp [h1]
theorem ev_upd {ρ : Env} {d : Option Tmp} {v : Value} {x : Operand} (h : ∀ t, d = some t → x ≠ .tmp t) : ev (upd ρ d v) x = ev ρ x := by
  cases d with
  | none => rfl
  | some t =>
    cases x with
    | tmp s =>
      have : s ≠ t := fun e => h t rfl (e ▸ rfl)
      simp [ev, upd, this]
    | _ => rfl
theorem semOf_congr {ρ ρ' : Env} (o : Oper) (h : ∀ x ∈ o.op.operands, ev ρ x = ev ρ' x) : semOf ρ o = semOf ρ' o := by
  obtain ⟨dst, op, type, pos, after, guard⟩ := o
  have pairs : ∀ ps : Array (Nat × Operand), (∀ x ∈ ps.map (·.2), ev ρ x = ev ρ' x) →
      (ps.map fun (i, x) => (i, ev ρ x)) = (ps.map fun (i, x) => (i, ev ρ' x)) := fun ps hp =>
    Array.map_congr_left fun p hm => by
      obtain ⟨i, x⟩ := p
      simp only [hp x (Array.mem_map.2 ⟨(i, x), hm, rfl⟩)]
  cases op <;> simp only [Op.operands] at h <;> simp only [semOf]
  case build t ps => rw [pairs ps fun x hx => h x (by simpa using hx)]
  case buildSlice t n ps => rw [pairs ps fun x hx => h x (by simpa using hx)]
  case makeFunc fn first captured =>
    rw [Array.map_congr_left (xs := first) fun x hx => h x (by simp [hx]), Array.map_congr_left (xs := captured) fun x hx => h x (by simp [hx])]
  case call c =>
    have hargs : c.args.map (ev ρ) = c.args.map (ev ρ') := Array.map_congr_left fun x hx => h x (by simp [Call.operands, hx])
    rw [hargs]
  case makeMap t r => cases r <;> simp_all
  case slice t x lo hi mx => cases lo <;> cases hi <;> cases mx <;> simp_all
  all_goals (first | rfl | (simp_all; done))
theorem callV_congr {P : Program} {ρ ρ' : Env} (c : Call) (h : ∀ x ∈ c.operands, ev ρ x = ev ρ' x) : callV P c ρ = callV P c ρ' := by
  have hargs : c.args.map (ev ρ) = c.args.map (ev ρ') := Array.map_congr_left fun x hx => h x (by simp [Call.operands, hx])
  funext hh kv
  unfold callV
  rw [hargs]
  cases hc : c.callee with
  | value f =>
    have hf : ev ρ f = ev ρ' f := h f (by simp [Call.operands, hc])
    cases f <;> simp only [hf]
  | invoke r m => have hr : ev ρ r = ev ρ' r := h r (by simp [Call.operands, hc]); simp only [hr]
  | builtin b => rfl
theorem opV_congr {P : Program} {ρ ρ' : Env} (o : Oper) (h : ∀ x ∈ o.op.operands, ev ρ x = ev ρ' x) : opV P o ρ = opV P o ρ' := by
  have hs := semOf_congr o h
  funext hh kv
  unfold opV
  rw [hs]
  cases hop : o.op
  case move x => have hx := h x (by simp [hop, Op.operands]); simp only [clsOf, hx]
  case assign x => have hx := h x (by simp [hop, Op.operands]); simp only [clsOf, hx]
  case pick c a b =>
    have h1 := h c (by simp [hop, Op.operands]); have h2 := h a (by simp [hop, Op.operands]); have h3 := h b (by simp [hop, Op.operands])
    simp only [clsOf, h1, h2, h3]
  case call c =>
    have hc := callV_congr (P := P) c fun x hx => h x (by simp only [hop, Op.operands]; exact hx)
    simp only [hc]
  all_goals rfl
theorem looks_operands {ops : Array Oper} {o : Oper} {d : Tmp} (h : d ∉ o.looksAt ops) : ∀ x ∈ o.op.operands, x ≠ .tmp d := by
  intro x hx e
  subst e
  exact h (List.mem_append_left _ (List.mem_filterMap.2 ⟨.tmp d, by simpa using hx, rfl⟩))
theorem yieldH_upd {ops : Array Oper} {o : Oper} {ρ : Env} {dst : Option Tmp} {v : Value} {g : Nat} {want : Bool} (hg : o.guard = some (g, want)) (h : ∀ d, dst = some d → d ∉ o.looksAt ops) :
    yieldH ops (upd ρ dst v) g = yieldH ops ρ g := by
  cases dst with
  | none => rfl
  | some d =>
    unfold yieldH
    cases ht : (ops[g]?).bind (·.dst) with
    | none => rfl
    | some t =>
      have hne : t ≠ d := fun e => h d rfl (by subst e; simp [Oper.looksAt, hg, ht])
      simp only [upd, if_neg hne]
theorem semOf_upd {ops : Array Oper} {o : Oper} {ρ : Env} {dst : Option Tmp} {v : Value} (h : ∀ d, dst = some d → d ∉ o.looksAt ops) : semOf (upd ρ dst v) o = semOf ρ o :=
  semOf_congr o fun x hx => ev_upd fun t ht => looks_operands (h t ht) x hx
theorem stepV_upd {P : Program} {ops : Array Oper} {o : Oper} {ρ : Env} {dst : Option Tmp} {v : Value} (h : ∀ d, dst = some d → d ∉ o.looksAt ops) : stepV P ops o (upd ρ dst v) = stepV P ops o ρ := by
  have ho : opV P o (upd ρ dst v) = opV P o ρ := opV_congr o fun x hx => ev_upd fun t ht => looks_operands (h t ht) x hx
  funext hh kv
  unfold stepV
  cases hg : o.guard with
  | none => simp only [ho]
  | some gw =>
    obtain ⟨g, want⟩ := gw
    simp only [ho, yieldH_upd (v := v) hg h]
theorem h_set_mk {h : PH} {r r' : Nat} {o o' : Obj} {k : Value → PH → Prop} {v : Value} (hne : r' ≠ r) (hr : h r = none) (hk : k v (h.set r' o')) :
    ∃ h1 : PH, (h.set r o).set r' o' = h1.set r o ∧ h1 r = none ∧ k v h1 :=
  ⟨h.set r' o', set_set_ne hne, by unfold PH.set; rw [if_neg (Ne.symm hne)]; exact hr, hk⟩
def wantH (ops : Array Oper) (o : Oper) (ρ : Env) : Bool := match o.guard with
  | none => true
  | some (g, want) => yieldH ops ρ g == some want
theorem stepV_eq {P : Program} {ops : Array Oper} {o : Oper} {ρ : Env} {h : PH} {kv : Value → PH → Prop} : stepV P ops o ρ h kv ↔ if wantH ops o ρ then opV P o ρ h kv else kv undef h := by
  unfold stepV wantH gopV
  cases hg : o.guard with
  | none => simp
  | some gw => obtain ⟨g, want⟩ := gw; simp
theorem kp_of {P : Program} {ops : Array Oper} {o : Oper} {ρ : Env} (hc : clsOf P o.op = .p) : KP (stepV P ops o ρ) := by
  cases hw : wantH ops o ρ with
  | false => exact ⟨some undef, fun h kv => by rw [stepV_eq, hw]; simp [popO]⟩
  | true =>
    have : ∃ x : Option Value, ∀ h kv, opV P o ρ h kv ↔ popO x fun v => kv v h := by
      unfold opV
      simp only [hc]
      split
      · rename_i x _; exact ⟨some (ev ρ x), fun h kv => Iff.rfl⟩
      · rename_i x _; exact ⟨some (ev ρ x), fun h kv => Iff.rfl⟩
      · rename_i c a b _; exact ⟨_, fun h kv => Iff.rfl⟩
      · exact ⟨_, fun h kv => Iff.rfl⟩
    obtain ⟨x, hx⟩ := this
    exact ⟨x, fun h kv => by rw [stepV_eq, hw]; simpa using hx h kv⟩
def readH (P : Program) (ops : Array Oper) (o : Oper) (ρ : Env) (h : PH) : Option Value := if wantH ops o ρ then SemE P h (semOf ρ o) else some undef
theorem stepV_r {P : Program} {ops : Array Oper} {o : Oper} {ρ : Env} (hc : clsOf P o.op = .r) (h : PH) (kv : Value → PH → Prop) : stepV P ops o ρ h kv ↔ popO (readH P ops o ρ h) fun v => kv v h := by
  rw [stepV_eq]
  unfold readH opV
  cases hw : wantH ops o ρ <;> simp [hc, popO]
theorem kr_of {P : Program} {ops : Array Oper} {o : Oper} {ρ : Env} (hc : clsOf P o.op = .r) : KR (stepV P ops o ρ) :=
  ⟨readH P ops o ρ, fun h kv => stepV_r hc h kv, fun h r b v hv hr => by
    unfold readH at *
    split at hv
    · rename_i e; rw [if_pos e]; exact SemE.set hv hr
    · rename_i e; rw [if_neg e]; exact hv⟩
theorem ka_of {P : Program} {ops : Array Oper} {o : Oper} {ρ : Env} (hc : clsOf P o.op = .a) : KA (stepV P ops o ρ) ∨ KP (stepV P ops o ρ) := by
  cases hw : wantH ops o ρ with
  | false => exact .inr ⟨some undef, fun h kv => by rw [stepV_eq, hw]; simp [popO]⟩
  | true =>
    refine .inl ⟨(SemA P (semOf ρ o)).map fun x => (x.1, fun r => SemP P (x.2 r)), fun h kv => ?_⟩
    rw [stepV_eq, hw]
    unfold opV
    simp only [hc, if_true]
    cases SemA P (semOf ρ o) <;> simp [popO]
theorem ke_of {P : Program} {ops : Array Oper} {o : Oper} {ρ : Env} (hc : clsOf P o.op = .e) : KE (stepV P ops o ρ) := by
  have hframe : ∀ {h : PH} {k : Value → PH → Prop} (r : Nat) (b : Obj), opV P o ρ h k → h r = none → opV P o ρ (h.set r b) fun v h2 => ∃ h1 : PH, h2 = h1.set r b ∧ h1 r = none ∧ k v h1 := by
    intro h k r b ho hr
    unfold opV at *
    simp only [hc] at ho ⊢
    split at ho
    · split at ho
      · exact ho.frame r b hr
      · unfold callV at *
        split at ho
        · exact ho.frame r b hr
        · split at ho
          · exact ho.frame r b hr
          · exact (ho.frame r b hr).mono fun n h2 ⟨h1, e, hn, hh⟩ => e ▸ hh.frame r b hn
          · exact ho.elim
        · exact (ho.frame r b hr).mono fun n h2 ⟨h1, e, hn, hh⟩ => e ▸ hh.frame r b hn
        · exact ho.elim
    · exact ho.frame r b hr
  refine ⟨fun ht hk => ?_, fun ht hr => ?_, fun ht hr => ?_, fun r b ht hr => ?_⟩
  · exact stepV.mono hk ht
  · rw [stepV_eq] at ht ⊢
    split at ht
    · rename_i e; rw [if_pos e]; exact ht.real hr
    · rename_i e; rw [if_neg e]; exact ⟨ht, hr⟩
  · rw [stepV_eq] at ht
    split at ht
    · exact ht.falls hr
    · exact ht
  · rw [stepV_eq] at ht ⊢
    split at ht
    · rename_i e; rw [if_pos e]; exact hframe r b ht hr
    · rename_i e; rw [if_neg e]; exact ⟨_, rfl, hr, ht⟩
theorem ke_any {P : Program} {ops : Array Oper} {o : Oper} {ρ : Env} : KE (stepV P ops o ρ) := by
  cases hc : clsOf P o.op with
  | p => exact (kp_of hc).ke
  | r => exact (kr_of hc).ke
  | e => exact ke_of hc
  | a =>
    refine ⟨fun ht hk => stepV.mono hk ht, fun ht hr => ?_, fun ht hr => ?_, fun r b ht hr => ?_⟩
    · rw [stepV_eq] at ht ⊢
      split at ht
      · rename_i e; rw [if_pos e]; exact ht.real hr
      · rename_i e; rw [if_neg e]; exact ⟨ht, hr⟩
    · rw [stepV_eq] at ht
      split at ht
      · exact ht.falls hr
      · exact ht
    · rcases ka_of (P := P) (ops := ops) (ρ := ρ) hc with ⟨y, hy⟩ | hp
      · obtain ⟨x, e, hx⟩ := popO_iff.1 ((hy _ _).1 ht)
        refine (hy _ _).2 (popO_iff.2 ⟨x, e, fun r' hr' => ?_⟩)
        obtain ⟨hne, hn'⟩ := set_ne hr'
        obtain ⟨v, e2, hv⟩ := popO_iff.1 (hx r' hn')
        refine popO_iff.2 ⟨v, e2, h_set_mk hne hr hv⟩
      · exact hp.ke.frame r b ht hr
def bit (b : Array Nat) (y x : Nat) : Bool := (b.getD y 0).testBit x
def pairOk : Cls → Cls → Bool
  | .p, _ | _, .p => true
  | .r, _ => true
  | .a, .a => true
  | .e, .a => true
  | _, _ => false
def foundH (P : Program) (ops : Array Oper) (o : Oper) (ρ : Env) (h : PH) : Prop := wantH ops o ρ = true → SemE P h (semOf ρ o) = o.dst.map ρ
def AG (P : Program) (ops : Array Oper) (b : Array Nat) (i : Nat) (rem : List Nat) (ρ : Env) (h : PH) : Prop :=
  ∀ oi, ops[i]? = some oi → clsOf P oi.op = .e → ∀ x ox, ops[x]? = some ox → clsOf P ox.op = .r → x ∉ rem → x ≠ i → bit b i x = false → foundH P ops ox ρ h
def anyH (P : Program) (ops : Array Oper) (b : Array Nat) (k : Env → PH → Prop) : Nat → List Nat → Env → PH → Prop
  | 0, _, ρ, h => k ρ h
  | n + 1, rem, ρ, h => ∀ i ∈ rem, (∀ x ∈ rem, bit b i x = false) → ∃ o, ops[i]? = some o ∧ stepV P ops o ρ h fun v h' => AG P ops b i rem (upd ρ o.dst v) h' ∧ anyH P ops b k n (rem.erase i) (upd ρ o.dst v) h'
structure Laid (P : Program) (ops : Array Oper) (b : Array Nat) : Prop where
  apart : ∀ (x y : Nat) (ox oy : Oper), ops[x]? = some ox → ops[y]? = some oy → x ≠ y → bit b x y = false → bit b y x = false → ox.apart ops oy = true
  look : ∀ (x y : Nat) (ox oy : Oper), ops[x]? = some ox → ops[y]? = some oy → clsOf P ox.op = .r → (x ≠ y → bit b x y = false) → ∀ d, oy.dst = some d → d ∉ ox.looksAt ops
  own : ∀ (x : Nat) (ox : Oper), ops[x]? = some ox → clsOf P ox.op = .r → ox.dst.isSome = true
  one : ∀ (x y : Nat) (ox oy : Oper), ops[x]? = some ox → ops[y]? = some oy → clsOf P ox.op = .r → x ≠ y → ∀ d, oy.dst = some d → ox.dst ≠ some d
theorem foundH_upd {P : Program} {ops : Array Oper} {o : Oper} {ρ : Env} {h : PH} {dst : Option Tmp} {v : Value} (hl : ∀ d, dst = some d → d ∉ o.looksAt ops) (hd : ∀ d, dst = some d → o.dst ≠ some d) :
    foundH P ops o (upd ρ dst v) h ↔ foundH P ops o ρ h := by
  have h1 : wantH ops o (upd ρ dst v) = wantH ops o ρ := by
    unfold wantH
    cases hg : o.guard with
    | none => rfl
    | some gw => obtain ⟨g, want⟩ := gw; simp only [yieldH_upd (v := v) hg hl]
  have h2 : o.dst.map (upd ρ dst v) = o.dst.map ρ := by
    cases ho : o.dst with
    | none => rfl
    | some t =>
      cases dst with
      | none => rfl
      | some d =>
        have hne : t ≠ d := fun e => hd d rfl (e ▸ ho)
        simp [upd, hne]
  unfold foundH
  rw [h1, h2, semOf_upd hl]
theorem foundH_set {P : Program} {ops : Array Oper} {o : Oper} {ρ : Env} {h : PH} {r : Nat} {b : Obj} (hs : o.dst.isSome = true) (hf : foundH P ops o ρ h) (hr : h r = none) : foundH P ops o ρ (h.set r b) := by
  intro hw
  have := hf hw
  obtain ⟨d, hd⟩ := Option.isSome_iff_exists.1 hs
  rw [hd] at this ⊢
  exact SemE.set this hr
theorem takeFirst {P : Program} {ops : Array Oper} {b : Array Nat} {k : Env → PH → Prop} (L : Laid P ops b) {i : Nat} {oi : Oper} (hi : ops[i]? = some oi) :
    ∀ (n : Nat) (rem : List Nat) (ρ : Env) (h : PH), rem.length = n + 1 → rem.Nodup → (∀ y, y ∉ rem → ∀ x ∈ rem, bit b y x = false) → Rl h → i ∈ rem → (∀ x ∈ rem, bit b i x = false) →
      (∀ j oj, j ∈ rem → j ≠ i → ops[j]? = some oj → bit b j i = false → pairOk (clsOf P oi.op) (clsOf P oj.op) = true) →
      (stepV P ops oi ρ h fun v h' => AG P ops b i rem (upd ρ oi.dst v) h' ∧ anyH P ops b k n (rem.erase i) (upd ρ oi.dst v) h') → anyH P ops b k (n + 1) rem ρ h := by
  intro n
  induction n with
  | zero =>
    intro rem ρ h hlen hnd hdc hr hmem hrdy hpair H j hj hjr
    obtain ⟨a, rfl⟩ := List.length_eq_one_iff.1 hlen
    simp only [List.mem_singleton] at hj hmem
    subst hj; subst hmem
    exact ⟨oi, hi, H⟩
  | succ n ih =>
    intro rem ρ h hlen hnd hdc hr hmem hrdy hpair H j hj hjr
    by_cases hji : j = i
    · subst hji; exact ⟨oi, hi, H⟩
    have hmemj : j ∈ rem.erase i := (List.mem_erase_of_ne hji).2 hj
    have hmemi : i ∈ rem.erase j := (List.mem_erase_of_ne (Ne.symm hji)).2 hmem
    have hbji : bit b j i = false := hjr i hmem
    have hbij : bit b i j = false := hrdy j hj
    -- the other one is there
    have hoj : ∃ oj, ops[j]? = some oj := by
      have hke : KE (stepV P ops oi ρ) := ke_any
      cases hx : ops[j]? with
      | some oj => exact ⟨oj, rfl⟩
      | none =>
        refine (hke.falls (hke.mono H fun v h' hh => ?_) hr).elim
        obtain ⟨o, ho, _⟩ := hh.2 j hmemj (fun x hx' => hjr x (List.mem_of_mem_erase hx'))
        rw [hx] at ho; cases ho
    obtain ⟨oj, hoj⟩ := hoj
    refine ⟨oj, hoj, ?_⟩
    have hap := Oper.apart_spec (L.apart i j oi oj hi hoj (Ne.symm hji) hbij hbji)
    have hp := hpair j oj hj hji hoj hbji
    have eT : ∀ u, stepV P ops oi (upd ρ oj.dst u) = stepV P ops oi ρ := fun u => stepV_upd hap.2.2
    have eU : ∀ v, stepV P ops oj (upd ρ oi.dst v) = stepV P ops oj ρ := fun v => stepV_upd hap.1
    have eC : ∀ v u, upd (upd ρ oi.dst v) oj.dst u = upd (upd ρ oj.dst u) oi.dst v := fun v u => upd_upd_ne hap.2.1
    have eE : (rem.erase i).erase j = (rem.erase j).erase i := List.erase_comm i j
    have keT : KE (stepV P ops oi ρ) := ke_any
    have keU : KE (stepV P ops oj ρ) := ke_any
    -- as it stands
    have H1 : stepV P ops oi ρ h fun v h1 => AG P ops b i rem (upd ρ oi.dst v) h1 ∧ stepV P ops oj ρ h1 fun u h2 =>
        AG P ops b j (rem.erase i) (upd (upd ρ oj.dst u) oi.dst v) h2 ∧ anyH P ops b k n ((rem.erase j).erase i) (upd (upd ρ oj.dst u) oi.dst v) h2 := by
      refine keT.mono H fun v h1 hh => ⟨hh.1, ?_⟩
      obtain ⟨o, ho, hstep⟩ := hh.2 j hmemj (fun x hx' => hjr x (List.mem_of_mem_erase hx'))
      rw [hoj] at ho; cases ho
      rw [eU v] at hstep
      refine keU.mono hstep fun u h2 hx => ?_
      rw [eC, eE] at hx
      exact hx
    -- a look of before
    have early : ∀ x ox, ops[x]? = some ox → clsOf P ox.op = .r → x ∉ rem → (∀ d, oi.dst = some d → d ∉ ox.looksAt ops) ∧ (∀ d, oi.dst = some d → ox.dst ≠ some d) ∧ (∀ d, oj.dst = some d → d ∉ ox.looksAt ops) ∧ (∀ d, oj.dst = some d → ox.dst ≠ some d) := by
      intro x ox hox hcx hx
      have nxi : x ≠ i := fun e => hx (e ▸ hmem)
      have nxj : x ≠ j := fun e => hx (e ▸ hj)
      exact ⟨L.look x i ox oi hox hi hcx (fun _ => hdc x hx i hmem), L.one x i ox oi hox hi hcx nxi, L.look x j ox oj hox hoj hcx (fun _ => hdc x hx j hj), L.one x j ox oj hox hoj hcx nxj⟩
    -- what is wanted
    have W : stepV P ops oj ρ h fun u h1 => AG P ops b j rem (upd ρ oj.dst u) h1 ∧ stepV P ops oi ρ h1 fun v h2 =>
        AG P ops b i (rem.erase j) (upd (upd ρ oj.dst u) oi.dst v) h2 ∧ anyH P ops b k n ((rem.erase j).erase i) (upd (upd ρ oj.dst u) oi.dst v) h2 := by
      have agI : ∀ v u h1, (clsOf P oj.op = .p ∨ clsOf P oj.op = .a) → AG P ops b i rem (upd ρ oi.dst v) h1 → AG P ops b i (rem.erase j) (upd (upd ρ oj.dst u) oi.dst v) h1 := by
        intro v u h1 hcj hag oi' hi' hce x ox hox hcx hx hxi hb
        have hxr : x ∉ rem := fun hm => by
          by_cases e : x = j
          · subst e; rw [hoj] at hox; cases hox; rcases hcj with hcj | hcj <;> rw [hcj] at hcx <;> cases hcx
          · exact hx ((List.mem_erase_of_ne e).2 hm)
        obtain ⟨_, _, l2, d2⟩ := early x ox hox hcx hxr
        rw [← eC, foundH_upd l2 d2]
        exact hag oi' hi' hce x ox hox hcx hxr hxi hb
      have agI0 : clsOf P oi.op ≠ .e → ∀ rem ρ h, AG P ops b i rem ρ h := fun hc rem ρ h oi' hi' hce => by rw [hi] at hi'; cases hi'; exact absurd hce hc
      have agJ0 : clsOf P oj.op ≠ .e → ∀ rem ρ h, AG P ops b j rem ρ h := fun hc rem ρ h oj' hj' hce => by rw [hoj] at hj'; cases hj'; exact absurd hce hc
      -- from behind both to behind the second alone
      have agJ : ∀ v u h2, AG P ops b j (rem.erase i) (upd (upd ρ oj.dst u) oi.dst v) h2 → AG P ops b j rem (upd ρ oj.dst u) h2 := by
        intro v u h2 hag oj' hj' hce x ox hox hcx hx hxj hb
        obtain ⟨l1, d1, _, _⟩ := early x ox hox hcx hx
        have := hag oj' hj' hce x ox hox hcx (fun hm => hx (List.mem_of_mem_erase hm)) hxj hb
        rwa [foundH_upd l1 d1] at this
      cases ci : clsOf P oi.op with
      | p =>
        have hne : clsOf P oi.op ≠ .e := by rw [ci]; intro h; cases h
        obtain ⟨x, hx⟩ := kp_of (ops := ops) (ρ := ρ) ci
        obtain ⟨v, e, hv⟩ := popO_iff.1 ((hx _ _).1 H1)
        exact keU.mono hv.2 fun u h2 hh => ⟨agJ v u h2 hh.1, (hx _ _).2 (popO_iff.2 ⟨v, e, agI0 hne _ _ _, hh.2⟩)⟩
      | r =>
        have hne : clsOf P oi.op ≠ .e := by rw [ci]; intro h; cases h
        have hx := fun h kv => stepV_r (P := P) (ops := ops) (ρ := ρ) ci h kv
        obtain ⟨v, e, hv⟩ := popO_iff.1 ((hx _ _).1 H1)
        by_cases cj : clsOf P oj.op = .e
        · refine keU.mono hv.2 fun u h2 hh => ⟨agJ v u h2 hh.1, (hx _ _).2 (popO_iff.2 ⟨v, ?_, agI0 hne _ _ _, hh.2⟩)⟩
          have hf := hh.1 oj hoj cj i oi hi ci (fun hm => (List.Nodup.mem_erase_iff hnd).1 hm |>.1 rfl) (Ne.symm hji) hbji
          have hself := L.look i i oi oi hi hi ci (fun e => absurd rfl e)
          have hjl := hap.2.2
          unfold readH at e ⊢
          split at e
          · rename_i hw
            rw [if_pos hw]
            obtain ⟨d, hd⟩ := Option.isSome_iff_exists.1 (L.own i oi hi ci)
            have hw2 : wantH ops oi (upd (upd ρ oj.dst u) oi.dst v) = true := by
              unfold wantH at hw ⊢
              cases hg : oi.guard with
              | none => rfl
              | some gw => obtain ⟨g, want⟩ := gw; simp only [hg] at hw; simp only [yieldH_upd hg hself, yieldH_upd hg hjl]; exact hw
            have := hf hw2
            rw [semOf_upd hself, semOf_upd hjl, hd] at this
            simpa [upd] using this
          · rename_i hw; rw [if_neg hw]; exact e
        · cases cj' : clsOf P oj.op with
          | e => exact absurd cj' cj
          | p =>
            obtain ⟨y, hy⟩ := kp_of (ops := ops) (ρ := ρ) cj'
            obtain ⟨u, e', hu⟩ := popO_iff.1 ((hy _ _).1 hv.2)
            exact (hy _ _).2 (popO_iff.2 ⟨u, e', agJ0 cj _ _ _, (hx _ _).2 (popO_iff.2 ⟨v, e, agI0 hne _ _ _, hu.2⟩)⟩)
          | r =>
            have hy := fun h kv => stepV_r (P := P) (ops := ops) (ρ := ρ) cj' h kv
            obtain ⟨u, e', hu⟩ := popO_iff.1 ((hy _ _).1 hv.2)
            exact (hy _ _).2 (popO_iff.2 ⟨u, e', agJ0 cj _ _ _, (hx _ _).2 (popO_iff.2 ⟨v, e, agI0 hne _ _ _, hu.2⟩)⟩)
          | a =>
            have H2 : stepV P ops oi ρ h fun v h1 => stepV P ops oj ρ h1 fun u h2 => anyH P ops b k n ((rem.erase j).erase i) (upd (upd ρ oj.dst u) oi.dst v) h2 :=
              keT.mono H1 fun v h1 hh => keU.mono hh.2 fun u h2 h3 => h3.2
            have H3 : stepV P ops oj ρ h fun u h1 => stepV P ops oi ρ h1 fun v h2 => anyH P ops b k n ((rem.erase j).erase i) (upd (upd ρ oj.dst u) oi.dst v) h2 := by
              rcases ka_of (P := P) (ops := ops) (ρ := ρ) cj' with ha | hp'
              · exact swap_ra (kr_of ci) ha H2
              · exact swap_to_p keT hp' hr H2
            exact keU.mono H3 fun u h1 hh => ⟨agJ0 cj _ _ _, keT.mono hh fun v h2 h3 => ⟨agI0 hne _ _ _, h3⟩⟩
      | a =>
        have hne : clsOf P oi.op ≠ .e := by rw [ci]; intro h; cases h
        have cj : clsOf P oj.op ≠ .e := by intro hc; rw [ci, hc] at hp; cases hp
        have H2 : stepV P ops oi ρ h fun v h1 => stepV P ops oj ρ h1 fun u h2 => anyH P ops b k n ((rem.erase j).erase i) (upd (upd ρ oj.dst u) oi.dst v) h2 :=
          keT.mono H1 fun v h1 hh => keU.mono hh.2 fun u h2 h3 => h3.2
        have H3 : stepV P ops oj ρ h fun u h1 => stepV P ops oi ρ h1 fun v h2 => anyH P ops b k n ((rem.erase j).erase i) (upd (upd ρ oj.dst u) oi.dst v) h2 := by
          cases cj' : clsOf P oj.op with
          | e => exact absurd cj' cj
          | p => exact swap_to_p keT (kp_of cj') hr H2
          | r => rw [ci, cj'] at hp; cases hp
          | a =>
            rcases ka_of (P := P) (ops := ops) (ρ := ρ) ci with hti | hti
            · rcases ka_of (P := P) (ops := ops) (ρ := ρ) cj' with ha | hp'
              · exact swap_aa hti ha hr H2
              · exact swap_to_p keT hp' hr H2
            · exact swap_p hti keU H2
        exact keU.mono H3 fun u h1 hh => ⟨agJ0 cj _ _ _, keT.mono hh fun v h2 h3 => ⟨agI0 hne _ _ _, h3⟩⟩
      | e =>
        have cj : clsOf P oj.op = .p ∨ clsOf P oj.op = .a := by
          cases cj' : clsOf P oj.op with
          | p => exact .inl rfl
          | a => exact .inr rfl
          | r => rw [ci, cj'] at hp; cases hp
          | e => rw [ci, cj'] at hp; cases hp
        have cj0 : clsOf P oj.op ≠ .e := by rcases cj with cj | cj <;> rw [cj] <;> intro h <;> cases h
        have H2 : stepV P ops oi ρ h fun v h1 => stepV P ops oj ρ h1 fun u h2 => AG P ops b i (rem.erase j) (upd (upd ρ oj.dst u) oi.dst v) h2 ∧ anyH P ops b k n ((rem.erase j).erase i) (upd (upd ρ oj.dst u) oi.dst v) h2 := by
          refine keT.mono H1 fun v h1 hh => ?_
          have kp : KP (stepV P ops oj ρ) → stepV P ops oj ρ h1 fun u h2 => AG P ops b i (rem.erase j) (upd (upd ρ oj.dst u) oi.dst v) h2 ∧ anyH P ops b k n ((rem.erase j).erase i) (upd (upd ρ oj.dst u) oi.dst v) h2 := by
            rintro ⟨y, hy⟩
            obtain ⟨u, e, hu⟩ := popO_iff.1 ((hy _ _).1 hh.2)
            exact (hy _ _).2 (popO_iff.2 ⟨u, e, agI v u h1 cj hh.1, hu.2⟩)
          rcases cj with cp | ca
          · exact kp (kp_of cp)
          · rcases ka_of (P := P) (ops := ops) (ρ := ρ) ca with ⟨y, hy⟩ | hp'
            · obtain ⟨z, e, hz⟩ := popO_iff.1 ((hy _ _).1 hh.2)
              refine (hy _ _).2 (popO_iff.2 ⟨z, e, fun r hn => ?_⟩)
              obtain ⟨u, e2, hu⟩ := popO_iff.1 (hz r hn)
              refine popO_iff.2 ⟨u, e2, ?_, hu.2⟩
              intro oi' hi' hce x ox hox hcx hx hxi hb
              exact foundH_set (L.own x ox hox hcx) (agI v u h1 (.inr ca) hh.1 oi' hi' hce x ox hox hcx hx hxi hb) hn
            · exact kp hp'
        have H3 : stepV P ops oj ρ h fun u h1 => stepV P ops oi ρ h1 fun v h2 => AG P ops b i (rem.erase j) (upd (upd ρ oj.dst u) oi.dst v) h2 ∧ anyH P ops b k n ((rem.erase j).erase i) (upd (upd ρ oj.dst u) oi.dst v) h2 := by
          rcases cj with cp | ca
          · exact swap_to_p keT (kp_of cp) hr H2
          · rcases ka_of (P := P) (ops := ops) (ρ := ρ) ca with ha | hp'
            · exact swap_ea keT ha hr H2
            · exact swap_to_p keT hp' hr H2
        exact keU.mono H3 fun u h1 hh => ⟨agJ0 cj0 _ _ _, hh⟩
    refine keU.mono (keU.real W hr) fun u h1 ⟨⟨hag, hst⟩, hr1⟩ => ⟨hag, ?_⟩
    rw [← eT u] at hst
    refine ih (rem.erase j) (upd ρ oj.dst u) h1 (by rw [List.length_erase_of_mem hj]; omega) (hnd.erase j) ?_ hr1 hmemi (fun x hx => hrdy x (List.mem_of_mem_erase hx)) (fun j' oj' hj' hne ho hb => hpair j' oj' (List.mem_of_mem_erase hj') hne ho hb) hst
    intro y hy x hx
    by_cases e : y = j
    · subst e; exact hjr x (List.mem_of_mem_erase hx)
    · exact hdc y (fun hm => hy ((List.mem_erase_of_ne e).2 hm)) x (List.mem_of_mem_erase hx)
end Go.Proofs.YtcoajnpchhmgjaaGreatDoor
namespace Go.Proofs.YtcoajnpchhmgjaaGreatDoor
open Go
def agsH (P : Program) (ops : Array Oper) : List Nat → Env → PH → Prop → Prop
  | [], _, _, K => K
  | x :: xs, ρ, h, K => match ops[x]? with
    | none => False
    | some o => match o.guard with
      | none => SemE P h (semOf ρ o) = o.dst.map ρ ∧ agsH P ops xs ρ h K
      | some (g, want) => ((yieldH ops ρ g == some want) = true → SemE P h (semOf ρ o) = o.dst.map ρ) ∧ agsH P ops xs ρ h K
def opsD (P : Program) (ops : Array Oper) (b : Array Nat) (k : Env → PH → Prop) : List Nat → List Nat → Env → PH → Prop
  | _, [], ρ, h => k ρ h
  | pend, i :: rest, ρ, h => match ops[i]? with
    | none => False
    | some o => stepV P ops o ρ h fun v h' => match clsOf P o.op with
      | .e => agsH P ops (pend.filter fun x => !bit b i x) (upd ρ o.dst v) h' (opsD P ops b k pend rest (upd ρ o.dst v) h')
      | .r => opsD P ops b k (i :: pend) rest (upd ρ o.dst v) h'
      | _ => opsD P ops b k pend rest (upd ρ o.dst v) h'
def clsAt (P : Program) (ops : Array Oper) (i : Nat) : Cls := match ops[i]? with
  | some o => clsOf P o.op
  | none => .e
def isR : Cls → Bool
  | .r => true
  | _ => false
def ordB (P : Program) (ops : Array Oper) (b : Array Nat) : List Nat → Bool
  | [] => true
  | i :: rest => !bit b i i && rest.all (fun j => !bit b i j && (bit b j i || pairOk (clsAt P ops i) (clsAt P ops j))) && ordB P ops b rest
def laidB (P : Program) (ops : Array Oper) (b : Array Nat) : Bool :=
  (List.range ops.size).all fun x => (List.range ops.size).all fun y => match ops[x]?, ops[y]? with
    | some ox, some oy => (x == y || bit b x y || bit b y x || ox.apart ops oy) &&
      (!isR (clsOf P ox.op) || ((x != y && bit b x y) || match oy.dst with
        | none => true
        | some d => !(ox.looksAt ops).contains d) && ox.dst.isSome && (x == y || oy.dst.isNone || ox.dst != oy.dst))
    | _, _ => true
def closB (ops : Array Oper) (b : Array Nat) : Bool :=
  (List.range ops.size).all fun i => match ops[i]? with
    | some o => (o.after.all fun e => !Region.binds .any e || e.on < i) &&
      (List.range ops.size).all fun x => !bit b i x || o.after.any fun e => Region.binds .any e && (e.on == x || bit b e.on x)
    | none => true
def nodupB : List Nat → Bool
  | [] => true
  | x :: xs => !xs.contains x && nodupB xs
def drawOk (P : Program) (ops : Array Oper) (b : Array Nat) (ord : List Nat) : Bool :=
  ord.length == ops.size && b.size == ops.size && ord.all (· < ops.size) && (List.range ops.size).all (ord.contains ·) && nodupB ord && ordB P ops b ord && laidB P ops b && closB ops b
theorem laid_of {P : Program} {ops : Array Oper} {b : Array Nat} (h : laidB P ops b = true) : Laid P ops b := by
  unfold laidB at h
  simp only [List.all_eq_true, List.mem_range] at h
  have lt : ∀ {x : Nat} {o : Oper}, ops[x]? = some o → x < ops.size := fun h => (Array.getElem?_eq_some_iff.1 h).1
  have key : ∀ (x y : Nat) (ox oy : Oper), ops[x]? = some ox → ops[y]? = some oy → ((x == y || bit b x y || bit b y x || ox.apart ops oy) &&
      (!isR (clsOf P ox.op) || ((x != y && bit b x y) || match oy.dst with
        | none => true
        | some d => !(ox.looksAt ops).contains d) && ox.dst.isSome && (x == y || oy.dst.isNone || ox.dst != oy.dst))) = true := by
    intro x y ox oy hx hy
    have := h x (lt hx) y (lt hy)
    simpa only [hx, hy] using this
  have isr : ∀ {c : Cls}, c = .r → isR c = true := fun e => by rw [e]; rfl
  constructor
  · intro x y ox oy hx hy hne h1 h2
    have := (Bool.and_eq_true _ _ ▸ key x y ox oy hx hy).1
    simpa [hne, h1, h2] using this
  · intro x y ox oy hx hy hc h1 d hd
    have := (Bool.and_eq_true _ _ ▸ key x y ox oy hx hy).2
    rw [isr hc] at this
    simp only [Bool.not_true, Bool.false_or, Bool.and_eq_true, hd] at this
    rcases Bool.or_eq_true _ _ ▸ this.1.1 with h3 | h3
    · simp only [Bool.and_eq_true, bne_iff_ne] at h3
      rw [h1 h3.1] at h3; cases h3.2
    · simpa using h3
  · intro x ox hx hc
    have := (Bool.and_eq_true _ _ ▸ key x x ox ox hx hx).2
    rw [isr hc] at this
    simp only [Bool.not_true, Bool.false_or, Bool.and_eq_true] at this
    exact this.1.2
  · intro x y ox oy hx hy hc hne d hd
    have := (Bool.and_eq_true _ _ ▸ key x y ox oy hx hy).2
    rw [isr hc] at this
    simp only [Bool.not_true, Bool.false_or, Bool.and_eq_true] at this
    have h3 := this.2
    rw [hd] at h3
    simpa [hne] using h3
theorem agsH_iff {P : Program} {ops : Array Oper} {ρ : Env} {h : PH} {K : Prop} : ∀ {l : List Nat}, agsH P ops l ρ h K → K ∧ ∀ x ∈ l, ∃ o, ops[x]? = some o ∧ foundH P ops o ρ h
  | [], hk => ⟨hk, fun _ hx => by cases hx⟩
  | x :: xs, hk => by
    unfold agsH at hk
    split at hk
    · exact hk.elim
    · rename_i o ho
      have hboth : foundH P ops o ρ h ∧ agsH P ops xs ρ h K := by
        unfold foundH wantH
        cases hg : o.guard with
        | none => simp only [hg] at hk; exact ⟨fun _ => hk.1, hk.2⟩
        | some gw => obtain ⟨g, want⟩ := gw; simp only [hg] at hk; exact ⟨fun hw => hk.1 hw, hk.2⟩
      obtain ⟨hK, hrest⟩ := agsH_iff hboth.2
      exact ⟨hK, fun y hy => by
        rcases List.mem_cons.1 hy with rfl | hy
        · exact ⟨o, ho, hboth.1⟩
        · exact hrest y hy⟩
theorem opsD_any {P : Program} {ops : Array Oper} {b : Array Nat} {k : Env → PH → Prop} (L : Laid P ops b) :
    ∀ (rest pend : List Nat) (ρ : Env) (h : PH), ordB P ops b rest = true → rest.Nodup → (∀ y, y ∉ rest → ∀ x ∈ rest, bit b y x = false) → Rl h →
      (∀ x ox, ops[x]? = some ox → clsOf P ox.op = .r → x ∉ rest → x ∈ pend) → opsD P ops b k pend rest ρ h → anyH P ops b k rest.length rest ρ h := by
  intro rest
  induction rest with
  | nil => intro pend ρ h _ _ _ _ _ H; exact H
  | cons i rest ih =>
    intro pend ρ h hord hnd hdc hr hpend H
    unfold opsD at H
    split at H
    · exact H.elim
    · rename_i o hi
      simp only [ordB, Bool.and_eq_true, Bool.not_eq_true', List.all_eq_true] at hord
      obtain ⟨⟨hii, hall⟩, hrest⟩ := hord
      obtain ⟨hnot, hnd'⟩ := List.nodup_cons.1 hnd
      have hrdy : ∀ x ∈ i :: rest, bit b i x = false := fun x hx => by
        rcases List.mem_cons.1 hx with rfl | hx
        · exact hii
        · exact (hall x hx).1
      have hdc' : ∀ y, y ∉ rest → ∀ x ∈ rest, bit b y x = false := fun y hy x hx => by
        by_cases e : y = i
        · subst e; exact (hall x hx).1
        · exact hdc y (fun hm => by rcases List.mem_cons.1 hm with hm | hm; exact e hm; exact hy hm) x (List.mem_cons_of_mem _ hx)
      refine takeFirst L hi rest.length (i :: rest) ρ h rfl hnd hdc hr (List.mem_cons_self) hrdy (fun j oj hj hne hoj hb => ?_) ?_
      · have hj' : j ∈ rest := (List.mem_cons.1 hj).resolve_left hne
        have := (hall j hj').2
        rw [hb, Bool.false_or] at this
        simpa only [clsAt, hi, hoj] using this
      · have ke : KE (stepV P ops o ρ) := ke_any
        refine ke.mono (ke.real H hr) fun v h' ⟨hh, hr'⟩ => ?_
        rw [List.erase_cons_head]
        cases hc : clsOf P o.op with
        | e =>
          simp only [hc] at hh
          obtain ⟨hK, hags⟩ := agsH_iff hh
          refine ⟨fun oi hoi hce x ox hox hcx hx hxi hb => ?_, ih pend _ _ hrest hnd' hdc' hr' (fun x ox hox hcx hx => ?_) hK⟩
          · obtain ⟨o', ho', hf⟩ := hags x (List.mem_filter.2 ⟨hpend x ox hox hcx hx, by simp [hb]⟩)
            rw [hox] at ho'; cases ho'
            exact hf
          · refine hpend x ox hox hcx fun hm => ?_
            rcases List.mem_cons.1 hm with rfl | hm
            · rw [hi] at hox; cases hox; rw [hc] at hcx; cases hcx
            · exact hx hm
        | r =>
          simp only [hc] at hh
          refine ⟨fun oi hoi hce => (by rw [hi] at hoi; cases hoi; rw [hc] at hce; cases hce), ih (i :: pend) _ _ hrest hnd' hdc' hr' (fun x ox hox hcx hx => ?_) hh⟩
          by_cases e : x = i
          · subst e; exact List.mem_cons_self
          · exact List.mem_cons_of_mem _ (hpend x ox hox hcx fun hm => by rcases List.mem_cons.1 hm with hm | hm; exact e hm; exact hx hm)
        | p =>
          simp only [hc] at hh
          refine ⟨fun oi hoi hce => (by rw [hi] at hoi; cases hoi; rw [hc] at hce; cases hce), ih pend _ _ hrest hnd' hdc' hr' (fun x ox hox hcx hx => ?_) hh⟩
          refine hpend x ox hox hcx fun hm => ?_
          rcases List.mem_cons.1 hm with rfl | hm
          · rw [hi] at hox; cases hox; rw [hc] at hcx; cases hcx
          · exact hx hm
        | a =>
          simp only [hc] at hh
          refine ⟨fun oi hoi hce => (by rw [hi] at hoi; cases hoi; rw [hc] at hce; cases hce), ih pend _ _ hrest hnd' hdc' hr' (fun x ox hox hcx hx => ?_) hh⟩
          refine hpend x ox hox hcx fun hm => ?_
          rcases List.mem_cons.1 hm with rfl | hm
          · rw [hi] at hox; cases hox; rw [hc] at hcx; cases hcx
          · exact hx hm
structure Match (n : Nat) (D : List Deferred) (ρ : Env) (a : Act) : Prop where
  defers : a.defers = D
  size : a.tmps.size = n
  slot : ∀ t, a.tmps.getD t undef = ρ t
theorem Match.ev {n : Nat} {D : List Deferred} {ρ : Env} {a : Act} (hm : Match n D ρ a) : a.eval = ev ρ := by
  funext x
  cases x with
  | tmp t => exact hm.slot t
  | _ => rfl
theorem Match.put {n : Nat} {D : List Deferred} {ρ : Env} {a : Act} (hm : Match n D ρ a) {d : Option Tmp} (hd : ∀ t, d = some t → t < n) (v : Value) : Match n D (upd ρ d v) (a.put d v) := by
  cases d with
  | none => exact hm
  | some t =>
    refine ⟨hm.defers, by simp [Act.put, hm.size], fun s => ?_⟩
    have ht : t < a.tmps.size := by rw [hm.size]; exact hd t rfl
    simp only [Act.put, upd, Array.getD_eq_getD_getElem?, Array.getElem?_setIfInBounds]
    by_cases e : s = t
    · subst e; simp [ht]
    · rw [if_neg (Ne.symm e), if_neg e, ← Array.getD_eq_getD_getElem?]; exact hm.slot s
theorem Match.want {n : Nat} {D : List Deferred} {ρ : Env} {a : Act} (hm : Match n D ρ a) (ops : Array Oper) (o : Oper) : Region.wanted o (yielded ops a.tmps) = wantH ops o ρ := by
  unfold Region.wanted wantH
  cases hg : o.guard with
  | none => rfl
  | some gw =>
    obtain ⟨g, want⟩ := gw
    have : yielded ops a.tmps g = yieldH ops ρ g := by
      unfold yielded yieldH
      cases hd : (ops[g]?).bind (·.dst) with
      | none => rfl
      | some t =>
        have hs := hm.slot t
        simp only [Option.bind_some]
        rw [Array.getD_eq_getD_getElem?] at hs
        cases hx : a.tmps[t]? with
        | none => rw [hx] at hs; simp only [Option.getD_none] at hs; rw [← hs]; rfl
        | some v => rw [hx] at hs; simp only [Option.getD_some] at hs; rw [← hs]; cases v <;> rfl
    simp only [this]
abbrev wideR (r : Option Nat) : Fence := { Fence.wide with round := r }
theorem callsIn_wideR {r : Option Nat} {n : Nat} {P : Program} {f : FuncId} {args : Array Value} {w : World} {R : Ending → World → Prop} (h : Calls P f args w R) : CallsIn (wideR r) n P f args w R :=
  (callsIn_wide (n := n)).2 h
theorem roundIn_wideR {r : Option Nat} {n m : Nat} {P : Program} {l : Nat} {f : FuncId} {tmps : Array Value} {assign body : Code} {w : World} {R : Ending → World → Prop} (h : RoundIn Fence.wide m P l f tmps assign body w R) : RoundIn (wideR r) n P l f tmps assign body w R :=
  ⟨trivial, fun c cs _ => h.2 c cs (room_wide _)⟩
theorem step_wp {r : Option Nat} {N : Nat} {P : Program} {ops : Array Oper} {i : Nat} {o : Oper} {ρ : Env} {h : PH} {kv : Value → PH → Prop} {n : Nat} {D : List Deferred} {a : Act} {w : World} {Q : Exit → Act → World → Prop} {K : Act → World → Prop}
    (hi : ops[i]? = some o) (hs : stepV P ops o ρ h kv) (hm : Match n D ρ a) (hsub : Sub h w) (hk : ∀ v h' w', kv v h' → Sub h' w' → Fr h w h' w' → K (a.put o.dst v) w') : wpOpIn (wideR r) N P ops Q i K a w := by
  unfold wpOpIn
  simp only [hi]
  rw [stepV_eq] at hs
  rw [hm.want]
  by_cases hw : wantH ops o ρ = true
  · rw [if_pos hw] at hs ⊢
    unfold Oper.wpIn
    refine ⟨fun _ _ => trivial, ?_⟩
    rw [Oper.semAt_eq _ _ _ hs.noDefer, hm.ev]
    obtain ⟨x, w', h', hrun, hn, hs', hf⟩ := hs.exec.sound hsub
    rw [hrun]
    cases x with
    | value v => exact hk v h' w' hn hs' hf
    | skip => exact hk undef h' w' hn hs' hf
    | enter f args =>
      refine ⟨fun h => by simp [Fence.wide] at h, callsIn_wideR ((hn w' hs').mono fun e w2 ⟨v, h2, he, hv, hs2, hf2⟩ => ?_)⟩
      subst he
      exact hk v h2 w2 hv hs2 (hf.trans hf2)
    | round l f tmps assign body =>
      refine ⟨fun h => by simp [Fence.wide] at h, roundIn_wideR (RoundIn.mono (hn w' hs') fun e w2 ⟨v, h2, he, hv, hs2, hf2⟩ => ?_)⟩
      subst he
      exact hk v h2 w2 hv hs2 (hf.trans hf2)
    | _ => exact hn.elim
  · rw [if_neg hw] at hs ⊢
    exact ⟨fun _ _ => trivial, hk undef h w hs hsub (Fr.refl _ _)⟩
def dstB (n : Nat) (o : Oper) : Bool := match o.dst with
  | some d => d < n
  | none => true
theorem dst_of {n : Nat} {o : Oper} (h : dstB n o = true) : ∀ t, o.dst = some t → t < n := by
  intro t ht; unfold dstB at h; rw [ht] at h; simpa using h
def markOf (b : Nat) : Deferred := { target := .collected b, args := #[] }
def Marks (w0 : World) (D : List Deferred) (h : PH) (w : World) : Prop :=
  ∃ bs : List Nat, bs.Nodup ∧ D = bs.map markOf ∧ ∀ b ∈ bs, w0.heap.size ≤ b ∧ b < w.heap.size ∧ h b = none ∧ w.heap[b]? = some (.deferred (some []))
theorem Marks.step {w0 : World} {D : List Deferred} {h h' : PH} {w w' : World} (hd : Marks w0 D h w) (hf : Fr h w h' w') : Marks w0 D h' w' := by
  obtain ⟨bs, h1, h2, h3⟩ := hd
  refine ⟨bs, h1, h2, fun b hb => ?_⟩
  obtain ⟨a1, a2, a3, a4⟩ := h3 b hb
  exact ⟨a1, Nat.lt_of_lt_of_le a2 hf.size, hf.none b a2 a3, (hf.far b a2 a3).trans a4⟩
theorem Marks.nil (w0 : World) (h : PH) (w : World) : Marks w0 [] h w := ⟨[], List.nodup_nil, rfl, fun b hb => by cases hb⟩
def QW (n : Nat) (Q : Exit → Env → PH → Prop) (h0 : PH) (w0 : World) : Exit → Act → World → Prop := fun e a w => ∃ ρ h D, Q e ρ h ∧ Match n D ρ a ∧ Sub h w ∧ Fr h0 w0 h w ∧ Marks w0 D h w
theorem ops_wp {r : Option Nat} {N : Nat} {P : Program} {ops : Array Oper} {n : Nat} {D : List Deferred} {Q : Exit → Env → PH → Prop} {h0 : PH} {w0 : World} (hd : ∀ o ∈ ops, dstB n o = true) :
    ∀ (m k : Nat) (ρ : Env) (h : PH) (a : Act) (w : World), k + m = ops.size → opsH P ops (Q .normal) (ops.toList.drop k) ρ h → Match n D ρ a → Sub h w → Fr h0 w0 h w → Marks w0 D h w →
      wpOpsIn (wideR r) N P ops (QW n Q h0 w0) (List.range' k m) a w := by
  intro m
  induction m with
  | zero =>
    intro k ρ h a w hk H hm hs hf hD
    rw [List.drop_of_length_le (by simp; omega)] at H
    exact ⟨ρ, h, D, H, hm, hs, hf, hD⟩
  | succ m ih =>
    intro k ρ h a w hk H hm hs hf hD
    have hlt : k < ops.size := by omega
    have hget : ops[k]? = some ops[k] := Array.getElem?_eq_getElem hlt
    rw [List.drop_eq_getElem_cons (by simpa using hlt)] at H
    rw [List.range'_succ, wpOpsIn_cons]
    refine step_wp hget H hm hs fun v h' w' hv hs' hf' => ?_
    exact ih (k + 1) _ _ _ _ (by omega) hv (hm.put (dst_of (hd _ (Array.getElem_mem hlt))) v) hs' (hf.trans hf') (hD.step hf')
theorem any_wp {r : Option Nat} {N : Nat} {P : Program} {ops : Array Oper} {b : Array Nat} {n : Nat} {D : List Deferred} {Q : Exit → Env → PH → Prop} {h0 : PH} {w0 : World} (hd : ∀ o ∈ ops, dstB n o = true) (hc : closB ops b = true) :
    ∀ (m : Nat) (rem : List Nat) (listed : Array Bool) (ρ : Env) (h : PH) (a : Act) (w : World), rem.length = m → rem.Nodup → (∀ x, x ∈ rem ↔ x < ops.size ∧ listed.getD x true = false) → listed.size = ops.size →
      (∀ y, y ∉ rem → ∀ x ∈ rem, bit b y x = false) → anyH P ops b (Q .normal) m rem ρ h → Match n D ρ a → Sub h w → Fr h0 w0 h w → Marks w0 D h w →
      wpAnyIn (wideR r) N P .any ops (QW n Q h0 w0) m listed a w := by
  unfold closB at hc
  simp only [List.all_eq_true, List.mem_range] at hc
  have hcl : ∀ (i : Nat) (o : Oper), ops[i]? = some o → (∀ e ∈ o.after, Region.binds .any e = true → e.on < i) ∧ ∀ x, x < ops.size → bit b i x = true → ∃ e ∈ o.after, Region.binds .any e = true ∧ (e.on = x ∨ bit b e.on x = true) := by
    intro i o hi
    have := hc i (Array.getElem?_eq_some_iff.1 hi).1
    simp only [hi, Bool.and_eq_true, List.all_eq_true, List.mem_range] at this
    refine ⟨fun e he hb => ?_, fun x hx hb => ?_⟩
    · have h1 := Array.all_eq_true_iff_forall_mem.1 this.1 e he
      simpa [hb] using h1
    · have h1 := this.2 x hx
      rw [hb] at h1
      simp only [Bool.not_true, Bool.false_or] at h1
      obtain ⟨e, he, h2⟩ := Array.any_eq_true'.1 h1
      simp only [Bool.and_eq_true, Bool.or_eq_true, beq_iff_eq] at h2
      exact ⟨e, he, h2⟩
  intro m
  induction m with
  | zero =>
    intro rem listed ρ h a w hlen hnd hrem hsz hdc H hm hs hf hD
    have : rem = [] := List.eq_nil_of_length_eq_zero hlen
    subst this
    refine ⟨?_, ρ, h, D, H, hm, hs, hf, hD⟩
    rw [List.eq_nil_iff_forall_not_mem]
    intro j hj
    obtain ⟨h1, o, ho, _⟩ := mem_ready.1 hj
    have := (hrem j).2 ⟨(Array.getElem?_eq_some_iff.1 ho).1, h1⟩
    cases this
  | succ m ih =>
    intro rem listed ρ h a w hlen hnd hrem hsz hdc H hm hs hf hD
    have hlisted : ∀ x, x < ops.size → x ∉ rem → listed.getD x false = true := by
      intro x hx hn
      cases hv : listed.getD x true with
      | false => exact absurd ((hrem x).2 ⟨hx, hv⟩) hn
      | true =>
        have hlt : x < listed.size := by omega
        simpa [Array.getD_eq_getD_getElem?, hlt] using hv
    refine ⟨fun hr => ?_, fun i hir => ?_⟩
    · -- the lowest one that is left may come up
      exfalso
      have hne : rem ≠ [] := fun e => by rw [e] at hlen; cases hlen
      have hmin : ∃ i ∈ rem, ∀ x ∈ rem, i ≤ x := by
        clear hlen hnd hrem hdc H hlisted
        induction rem with
        | nil => exact absurd rfl hne
        | cons y ys ihy =>
          by_cases hys : ys = []
          · subst hys; exact ⟨y, List.mem_cons_self, fun x hx => by simp at hx; omega⟩
          · obtain ⟨i, hi, hle⟩ := ihy hys
            by_cases hyi : y ≤ i
            · exact ⟨y, List.mem_cons_self, fun x hx => by
                rcases List.mem_cons.1 hx with rfl | hx
                · omega
                · have := hle x hx; omega⟩
            · exact ⟨i, List.mem_cons_of_mem _ hi, fun x hx => by
                rcases List.mem_cons.1 hx with rfl | hx
                · omega
                · exact hle x hx⟩
      obtain ⟨i, hi, hle⟩ := hmin
      obtain ⟨hlt, hun⟩ := (hrem i).1 hi
      have : i ∈ Region.ready .any ops listed := by
        rw [mem_ready]
        refine ⟨hun, ops[i], Array.getElem?_eq_getElem hlt, fun e he hb => ?_⟩
        have hlt2 := (hcl i _ (Array.getElem?_eq_getElem hlt)).1 e he hb
        exact hlisted _ (by omega) (fun hm => by have := hle _ hm; omega)
      rw [hr] at this; cases this
    · obtain ⟨hun, o, ho, hall⟩ := mem_ready.1 hir
      have hlt := (Array.getElem?_eq_some_iff.1 ho).1
      have hmem : i ∈ rem := (hrem i).2 ⟨hlt, hun⟩
      have hrdy : ∀ x ∈ rem, bit b i x = false := by
        intro x hx
        cases hb : bit b i x with
        | false => rfl
        | true =>
          exfalso
          obtain ⟨e, he, hbi, hor⟩ := (hcl i o ho).2 x ((hrem x).1 hx).1 hb
          have hl := hall e he hbi
          have hlt2 := (hcl i o ho).1 e he hbi
          have hne : e.on ∉ rem := fun hm => by
            have := ((hrem _).1 hm).2
            have hsz' : e.on < listed.size := by omega
            simp [Array.getD_eq_getD_getElem?, hsz'] at this hl
            rw [this] at hl; cases hl
          rcases hor with rfl | hor
          · exact hne hx
          · rw [hdc _ hne x hx] at hor; cases hor
      obtain ⟨o', ho', hst⟩ := H i hmem hrdy
      rw [ho] at ho'; cases ho'
      refine step_wp ho hst hm hs fun v h' w' hv hs' hf' => ?_
      refine ih (rem.erase i) (listed.setIfInBounds i true) _ _ _ _ (by rw [List.length_erase_of_mem hmem]; omega) (hnd.erase i) (fun x => ?_) (by simpa using hsz) ?_ hv.2 (hm.put (dst_of (hd _ (Array.mem_of_getElem? ho))) v) hs' (hf.trans hf') (hD.step hf')
      · rw [hnd.mem_erase_iff, hrem]
        by_cases e : x = i
        · subst e
          have : x < listed.size := by omega
          simp [Array.getD_eq_getD_getElem?, this]
        · rw [getD_set_ne true (Ne.symm e)]
          simp [e]
      · intro y hy x hx
        by_cases e : y = i
        · subst e; exact hrdy x (List.mem_of_mem_erase hx)
        · exact hdc y (fun hm' => hy ((List.mem_erase_of_ne e).2 hm')) x (List.mem_of_mem_erase hx)
theorem draw_wp {r : Option Nat} {N : Nat} {D : List Deferred} {P : Program} {id : Nat} {ops : Array Oper} {b : Array Nat} {ord : List Nat} {n : Nat} {Q : Exit → Env → PH → Prop} {h0 : PH} {w0 : World} {ρ : Env} {h : PH} {a : Act} {w : World}
    (hmix : P.follows .mixedOrders = true) (hd : ∀ o ∈ ops, dstB n o = true) (hok : drawOk P ops b ord = true) (H : opsD P ops b (Q .normal) [] ord ρ h) (hm : Match n D ρ a) (hs : Sub h w) (hf : Fr h0 w0 h w) (hD : Marks w0 D h w) :
    (Code.region id ops true).wpIn (wideR r) N P (QW n Q h0 w0) a w := by
  unfold drawOk at hok
  simp only [Bool.and_eq_true, beq_iff_eq, List.all_eq_true, decide_eq_true_eq] at hok
  obtain ⟨⟨⟨⟨⟨⟨⟨hlen, hbs⟩, hlt⟩, hcov⟩, hnd⟩, hord⟩, hlaid⟩, hclos⟩ := hok
  have hnodup : ord.Nodup := by
    clear hlen hlt hord H hcov
    induction ord with
    | nil => exact List.nodup_nil
    | cons x xs ih =>
      simp only [nodupB, Bool.and_eq_true, Bool.not_eq_true'] at hnd
      exact List.nodup_cons.2 ⟨by simpa using hnd.1, ih hnd.2⟩
  have hall : ∀ x, x < ops.size → x ∈ ord := fun x hx => by simpa using hcov x (List.mem_range.2 hx)
  have hdc : ∀ y, y ∉ ord → ∀ x ∈ ord, bit b y x = false := by
    intro y hy x hx
    have hge : ops.size ≤ y := by
      rcases Nat.lt_or_ge y ops.size with h1 | h1
      · exact absurd (hall y h1) hy
      · exact h1
    unfold bit
    rw [Array.getD_eq_getD_getElem?, Array.getElem?_eq_none (by omega)]
    simp
  refine wpIn_region_any hmix ?_
  have hs1 : Sub h { w with drawn := w.drawn + 1 } := hs
  have hf1 : Fr h0 w0 h { w with drawn := w.drawn + 1 } := ⟨hf.os, hf.tape, hf.output, Nat.le_trans hf.drawn (Nat.le_succ _), hf.size, hf.far, hf.none⟩
  have hany := opsD_any (laid_of hlaid) ord [] ρ h hord hnodup hdc ⟨w, hs⟩ (fun x ox hox _ hx => absurd (hall x (Array.getElem?_eq_some_iff.1 hox).1) hx) H
  rw [hlen] at hany
  exact any_wp hd hclos ops.size ord _ ρ h a _ hlen hnodup (fun x => by
    constructor
    · intro hx; exact ⟨hlt x hx, by simp [Array.getD_eq_getD_getElem?, hlt x hx]⟩
    · intro hx; exact hall x hx.1) (by simp) hdc hany hm hs1 hf1 hD
end Go.Proofs.YtcoajnpchhmgjaaGreatDoor
namespace Go.Proofs.YtcoajnpchhmgjaaGreatDoor
open Go
structure Ann where
  b : Nat → Array Nat
  ord : Nat → List Nat
  keep : Nat → List Nat
  n : Nat := 0
def headId : Code → Nat
  | .region id _ _ => id
  | .seq x _ => headId x
  | .block _ c => headId c
  | .loop c => headId c
  | .scope c => headId c
  | _ => 0
abbrev QH := Exit → Env → PH → Prop
abbrev thenH (next : Env → PH → Prop) (Q : QH) : QH
  | .normal, ρ, h => next ρ h
  | e, ρ, h => Q e ρ h
abbrev inBlockH (id : Nat) (Q : QH) : QH
  | .exit id', ρ, h => if id' = id then Q .normal ρ h else Q (.exit id') ρ h
  | e, ρ, h => Q e ρ h
abbrev noGotoH (Q : QH) : QH
  | .goto _, _, _ => False
  | e, ρ, h => Q e ρ h
def condV (v : Value) (A B : Prop) : Prop := match v with
  | .bool true => A
  | .bool false => B
  | _ => False
def LoopL (keep : List Nat) (step : (List Value → PH → Prop) → Env → PH → Prop) (vs : List Value) (h : PH) : Prop :=
  ∃ (I : List Value → PH → Prop) (μ : List Value → PH → Nat), I vs h ∧ ∀ ρ h, I (keep.map ρ) h → step (fun vs' h' => I vs' h' ∧ μ vs' h' < μ (keep.map ρ) h) ρ h
def exitIds : Code → List Nat
  | .seq x y => exitIds x ++ exitIds y
  | .cond _ x y => exitIds x ++ exitIds y
  | .block _ c => exitIds c
  | .loop c => exitIds c
  | .scope c => exitIds c
  | .exit id => [id]
  | _ => []
def jumpH (kn kr : PH → Prop) (ke : List (Nat × (PH → Prop))) (h : PH) : Option Code → Prop
  | none => kn h
  | some .ret => kr h
  | some (.exit id) => ∃ p ∈ ke, p.1 = id ∧ p.2 h
  | _ => False
def rangeH (P : Program) (n : Nat) (g : Value) (ps : Array Tmp) (assign body : Code) (kn kr : PH → Prop) (ke : List (Nat × (PH → Prop))) (vals : List (Nat × Value)) (h : PH) : Prop := match g with
  | .func (.func gf) first captured => enters P gf = true ∧ ∀ (fn : FuncId) (tmps : Array Value) (l D : Nat), (∀ p ∈ vals, tmps.getD p.1 undef = p.2) → tmps.size = n → h l = none →
      CallsH P gf (first ++ #[.func (.yield l) #[] #[]] ++ captured) (h.set l (.loop { state := .ready, pending := none, fn, tmps, params := ps, assign, body, defers := D }))
        fun _ h' => SemH P (Instr.endLoop l) h' fun jump h2 => jumpH kn kr ke h2 jump
  | _ => False
def codeH (P : Program) (ann : Ann) : Code → QH → Env → PH → Prop
  | .skip, Q, ρ, h => Q .normal ρ h
  | .region _ ops false, Q, ρ, h => opsH P ops (Q .normal) ops.toList ρ h
  | .region id ops true, Q, ρ, h => opsD P ops (ann.b id) (Q .normal) [] (ann.ord id) ρ h
  | .seq x y, Q, ρ, h => codeH P ann x (thenH (codeH P ann y Q) Q) ρ h
  | .cond c x y, Q, ρ, h => condV (ev ρ c) (codeH P ann x Q ρ h) (codeH P ann y Q ρ h)
  | .block id c, Q, ρ, h => codeH P ann c (inBlockH id Q) ρ h
  | .loop c, Q, ρ, h => LoopL (ann.keep (headId c)) (fun next ρ h => codeH P ann c (thenH (fun ρ' h' => next ((ann.keep (headId c)).map ρ') h') Q) ρ h) ((ann.keep (headId c)).map ρ) h
  | .exit id, Q, ρ, h => Q (.exit id) ρ h
  | .ret, Q, ρ, h => Q .ret ρ h
  | .label _, Q, ρ, h => Q .normal ρ h
  | .scope c, Q, ρ, h => codeH P ann c (noGotoH Q) ρ h
  | .rangeFunc g ps assign body, Q, ρ, h => rangeH P ann.n (ev ρ g) ps assign body (Q .normal ρ) (Q .ret ρ) ((exitIds body).map fun id => (id, Q (.exit id) ρ)) ((ann.keep (headId body)).map fun t => (t, ρ t)) h
  | _, _, _, _ => False
def noRange : Code → Bool
  | .seq x y => noRange x && noRange y
  | .cond _ x y => noRange x && noRange y
  | .block _ c => noRange c
  | .loop c => noRange c
  | .scope c => noRange c
  | .rangeFunc .. => false
  | _ => true
def codeB (P : Program) (ann : Ann) (n : Nat) : Code → Bool
  | .region _ ops false => ops.all (dstB n)
  | .region id ops true => ops.all (dstB n) && drawOk P ops (ann.b id) (ann.ord id)
  | .seq x y => codeB P ann n x && codeB P ann n y
  | .cond _ x y => codeB P ann n x && codeB P ann n y
  | .block _ c => codeB P ann n c
  | .loop c => codeB P ann n c
  | .scope c => codeB P ann n c
  | .rangeFunc _ ps _ _ => ann.n == n
  | _ => true
theorem SemE.run {P : Program} {α : Type} {s : Sem α} : ∀ {a : α} {h : PH}, SemE P h s = some a → ∀ {w : World}, Sub h w → s.run P w = .ok a w := by
  induction s with
  | pure a => intro b h hb w hs; simp only [SemE, Option.some.injEq] at hb; subst hb; rfl
  | load m a k ih => intro b h hb w hs; obtain ⟨v, hv, hb⟩ := Option.bind_eq_some_iff.1 hb; simp only [Sem.run, hs.cell hv]; exact ih v hb hs
  | shape r k ih => intro b h hb w hs; obtain ⟨v, hv, hb⟩ := Option.bind_eq_some_iff.1 hb; simp only [Sem.run, hs.shape hv]; exact ih v hb hs
  | frozen a k ih => intro b h hb w hs; obtain ⟨v, hv, hb⟩ := Option.bind_eq_some_iff.1 hb; simp only [Sem.run, hs.frozen hv]; exact ih _ hb hs
  | program k ih => intro b h hb w hs; exact ih P hb hs
  | mark m k ih => intro b h hb w hs; exact ih hb hs
  | getObj r k ih =>
    intro b h hb w hs
    simp only [SemE] at hb
    cases hx : h r with
    | none => rw [hx] at hb; cases hb
    | some o =>
      rw [hx] at hb
      simp only [Sem.run, hs _ _ hx]
      cases o <;> first | cases hb | exact ih _ hb hs
  | _ => intro b h hb; cases hb
theorem wp_loop_rel {r : Option Nat} {N : Nat} {P : Program} {Q : Exit → Act → World → Prop} {c : Code} (I : Nat → Act → World → Prop) (round : ∀ n a w, I n a w → c.wpIn (wideR r) N P (Exit.then (fun a' w' => ∃ m, m < n ∧ I m a' w') Q) a w) :
    ∀ {n : Nat} {a : Act} {w : World}, I n a w → (Code.loop c).wpIn (wideR r) N P Q a w := by
  intro n a w h0
  let J : Act → World → Prop := fun a w => ∃ n, I n a w
  have least : ∀ a w, J a w → ∃ n, I n a w ∧ ∀ m, I m a w → n ≤ m := by
    intro a w ⟨n, hn⟩
    induction n using Nat.strongRecOn with
    | _ n ih =>
      by_cases hx : ∃ m, m < n ∧ I m a w
      · obtain ⟨m, hlt, hm⟩ := hx; exact ih m hlt hm
      · exact ⟨n, hn, fun m hm => by
          rcases Nat.lt_or_ge m n with h1 | h1
          · exact absurd ⟨m, h1, hm⟩ hx
          · exact h1⟩
  let μ : Act → World → Nat := fun a w => @dite Nat (J a w) (Classical.propDecidable _) (fun h => Classical.choose (least a w h)) (fun _ => 0)
  refine wpIn_loop J μ ⟨n, h0⟩ fun a w hJ => ?_
  have hμ : μ a w = Classical.choose (least a w hJ) := dif_pos hJ
  have hsp := Classical.choose_spec (least a w hJ)
  refine wpIn_mono (round _ a w hsp.1) fun e a' w' he => ?_
  cases e with
  | normal =>
    obtain ⟨m, hlt, hm⟩ := he
    have hJ' : J a' w' := ⟨m, hm⟩
    have hμ' : μ a' w' = Classical.choose (least a' w' hJ') := dif_pos hJ'
    refine ⟨hJ', ?_⟩
    rw [hμ, hμ']
    exact Nat.lt_of_le_of_lt ((Classical.choose_spec (least a' w' hJ')).2 m hm) hlt
  | _ => exact he
theorem stepR_scope {P : Program} {b : Frame} {a : Act} {k : List Item} {cs : List Frame} {w : World} {c : Code} : step P (lone (b.atR a (.code (.scope c) :: k)) cs w) = .next (lone (b.atR a (.code c :: .inScope c :: k)) cs w) :=
  step_lone_go (by simp [stepG, stepG.exec, Frame.atR])
theorem stepR_inScope {P : Program} {b : Frame} {a : Act} {k : List Item} {cs : List Frame} {w : World} {c : Code} : step P (lone (b.atR a (.inScope c :: k)) cs w) = .next (lone (b.atR a k) cs w) :=
  step_lone_go (by simp [stepG, stepG.exec, Frame.atR])
theorem wpIn_scope_straight {F : Fence} {n : Nat} {P : Program} {Q : Exit → Act → World → Prop} {a : Act} {w : World} {c : Code} (h : c.wpIn F n P (Exit.noGoto Q) a w) : (Code.scope c).wpIn F n P Q a w := by
  intro b k cs hro hb hr
  have h0 : (lone (b.atR a (.code (.scope c) :: k)) cs w).fenced P F := fenced_calm hb hr rfl
  obtain ⟨e, a₁, w₁, hq, harr⟩ := h b (.inScope c :: k) cs hro hb hr
  cases e with
  | normal => exact ⟨.normal, a₁, w₁, hq, .head h0 stepR_scope (StepsIn.trans harr (.one (fenced_calm hb hr rfl) stepR_inScope))⟩
  | exit id =>
    have hx : exitTo id (.inScope c :: k) = exitTo id k := by simp [exitTo]
    exact ⟨.exit id, a₁, w₁, hq, fun k' hk => .head h0 stepR_scope (harr.1 k' (by rw [hx]; exact hk)),
      fun hr' hk => let ⟨k₁, h1, h2⟩ := harr.2 hr' (by rw [hx]; exact hk); ⟨k₁, h1, .head h0 stepR_scope h2⟩⟩
  | goto l => exact hq.elim
  | ret => exact ⟨_, a₁, w₁, hq, .of_steps (.one h0 stepR_scope) harr⟩
  | panic ch => exact ⟨_, a₁, w₁, hq, .of_steps (.one h0 stepR_scope) harr⟩
  | outgrown => exact ⟨_, a₁, w₁, hq, .of_steps (.one h0 stepR_scope) harr⟩
theorem rangeH.sound {N : Nat} {P : Program} {n : Nat} {D : List Deferred} {h0 : PH} {w0 : World} {g : Operand} {ps : Array Tmp} {assign body : Code} {Q : QH} {ρ : Env} {h : PH} {vs : List Nat}
    (H : rangeH P n (ev ρ g) ps assign body (Q .normal ρ) (Q .ret ρ) ((exitIds body).map fun id => (id, Q (.exit id) ρ)) (vs.map fun t => (t, ρ t)) h) {a : Act} {w : World} (hm : Match n D ρ a) (hs : Sub h w) (hf : Fr h0 w0 h w) (hD : Marks w0 D h w) :
    (Code.rangeFunc g ps assign body).wpIn (wideR none) N P (QW n Q h0 w0) a w := by
  unfold rangeH at H
  split at H
  case h_2 => exact H.elim
  rename_i gf first captured hg
  obtain ⟨he, H⟩ := H
  refine wpIn_rangeFunc fun fn _ => ?_
  have hs1 : Sub h (w.alloc (.deferred (some []))) := fun b o hb => by
    have := hs b o hb
    show (w.heap.push _)[b]? = some o
    rw [Array.getElem?_push, if_neg (Nat.ne_of_lt (hs.lt hb))]
    exact this
  have hf1 : Fr h w h (w.alloc (.deferred (some []))) := ⟨rfl, rfl, rfl, Nat.le_refl _, by rw [World.size_alloc]; omega, fun b hb _ => by
    show (w.heap.push _)[b]? = _
    rw [Array.getElem?_push, if_neg (Nat.ne_of_lt hb)], fun _ _ hn => hn⟩
  have hfr : h (w.alloc (.deferred (some []))).heap.size = none := hs1.fresh
  have hsz : (w.alloc (.deferred (some []))).heap.size = w.heap.size + 1 := World.size_alloc _ _
  have hc := H fn a.tmps (w.alloc (.deferred (some []))).heap.size w.heap.size (fun p hp => by obtain ⟨t, _, rfl⟩ := List.mem_map.1 hp; exact hm.slot t) hm.size hfr
  have hn2 : Sub (h.set (w.alloc (.deferred (some []))).heap.size (.loop { state := .ready, pending := none, fn, tmps := a.tmps, params := ps, assign, body, defers := w.heap.size })) ((w.alloc (.deferred (some []))).alloc (.loop { state := .ready, pending := none, fn, tmps := a.tmps, params := ps, assign, body, defers := w.heap.size })) ∧ Fr h (w.alloc (.deferred (some []))) (h.set (w.alloc (.deferred (some []))).heap.size (.loop { state := .ready, pending := none, fn, tmps := a.tmps, params := ps, assign, body, defers := w.heap.size })) ((w.alloc (.deferred (some []))).alloc (.loop { state := .ready, pending := none, fn, tmps := a.tmps, params := ps, assign, body, defers := w.heap.size })) := hs1.new (.loop { state := .ready, pending := none, fn, tmps := a.tmps, params := ps, assign, body, defers := w.heap.size })
  have g3 : ((w.alloc (.deferred (some []))).alloc (.loop { state := .ready, pending := none, fn, tmps := a.tmps, params := ps, assign, body, defers := w.heap.size })).heap[w.heap.size]? = some (.deferred (some [])) := by
    show ((w.heap.push _).push _)[w.heap.size]? = _
    rw [Array.getElem?_push, if_neg (by simp), Array.getElem?_push, if_pos rfl]
  have g4 : w.heap.size < ((w.alloc (.deferred (some []))).alloc (.loop { state := .ready, pending := none, fn, tmps := a.tmps, params := ps, assign, body, defers := w.heap.size })).heap.size := by rw [World.size_alloc, World.size_alloc]; omega
  have hent : (Instr.enterLoop fn a.tmps ps assign body none).run P w = .ok (w.heap.size + 1, [markOf w.heap.size]) ((w.alloc (.deferred (some []))).alloc (.loop { state := .ready, pending := none, fn, tmps := a.tmps, params := ps, assign, body, defers := w.heap.size })) := run_enterLoop_outer _ _ _ _ _
  rw [hsz] at hc hn2
  generalize (w.alloc (.deferred (some []))).alloc (.loop { state := .ready, pending := none, fn, tmps := a.tmps, params := ps, assign, body, defers := w.heap.size }) = w1 at hn2 g3 g4 hent
  have hcw := hc.calls he _ hn2.1
  have heg : ∀ (args : Array Value) (w : World), (callFunc gf args).run P w = .ok (.enter gf args) w := fun args w =>
    SemE.run (h := fun _ => none) (semE_enter he) (fun _ _ hb => by cases hb)
  have hev : a.eval g = .func (.func gf) first captured := by rw [hm.ev]; exact hg
  have g2 : (h.set (w.heap.size + 1) (.loop { state := .ready, pending := none, fn, tmps := a.tmps, params := ps, assign, body, defers := w.heap.size })) w.heap.size = none := by
    unfold PH.set; rw [if_neg (by omega)]; exact hs.fresh
  refine ⟨w.heap.size + 1, [markOf w.heap.size], w1, { target := .fn (.func gf) captured, args := first ++ #[.func (.yield (w.heap.size + 1)) #[] #[]] }, w1, gf, first ++ #[.func (.yield (w.heap.size + 1)) #[] #[]] ++ captured, w1, ?_, ?_, ?_, ?_, ?_, ?_⟩
  · exact hent
  · simp only [resolve, rangeCall, hev]
    simp [Deferred.ofValue, Act.eval]
  · intro f' _; trivial
  · unfold invoke
    exact heg _ _
  · intro h; cases h
  · refine callsIn_wideR (hcw.mono fun e w' hh => ?_)
    obtain ⟨v, h', rfl, hse, hs', hf'⟩ := hh
    obtain ⟨jump, w4, h4, hrun, hj, hs4, hf4⟩ := hse.sound hs'
    have hf2 := hf'.trans hf4
    have hfall : Fr h w h4 w4 := (hf1.trans hn2.2).trans hf2
    have hD' : Marks w0 (markOf w.heap.size :: D) h4 w4 := by
      obtain ⟨bs, b1, b2, b3⟩ := hD
      refine ⟨w.heap.size :: bs, List.nodup_cons.2 ⟨fun hmem => absurd (b3 _ hmem).2.1 (Nat.lt_irrefl _), b1⟩, by rw [b2]; rfl, fun b hb => ?_⟩
      rcases List.mem_cons.1 hb with rfl | hb
      · exact ⟨hf.size, Nat.lt_of_lt_of_le g4 hf2.size, hf2.none _ g4 g2, (hf2.far _ g4 g2).trans g3⟩
      · obtain ⟨c1, c2, c3, c4⟩ := b3 b hb
        exact ⟨c1, Nat.lt_of_lt_of_le c2 hfall.size, hfall.none b c2 c3, (hfall.far b c2 c3).trans c4⟩
    refine ⟨jump, w4, hrun, ?_⟩
    have hm' : Match n (markOf w.heap.size :: D) ρ { a with defers := [markOf w.heap.size] ++ a.defers } := ⟨by simp [hm.defers], hm.size, hm.slot⟩
    unfold jumpH at hj
    cases jump with
    | none => exact ⟨ρ, h4, _, hj, hm', hs4, hf.trans hfall, hD'⟩
    | some c =>
      cases c with
      | ret => exact wpIn_ret ⟨ρ, h4, _, hj, hm', hs4, hf.trans hfall, hD'⟩
      | exit id =>
        obtain ⟨p, hp, e1, e2⟩ := hj
        obtain ⟨id', _, rfl⟩ := List.mem_map.1 hp
        subst e1
        exact wpIn_exit ⟨ρ, h4, _, e2, hm', hs4, hf.trans hfall, hD'⟩
      | _ => exact hj.elim
theorem codeH.sound {r : Option Nat} {N : Nat} {P : Program} {ann : Ann} {n : Nat} (hmix : P.follows .mixedOrders = true) {h0 : PH} {w0 : World} : ∀ (c : Code) {Q : QH} {ρ : Env} {h : PH}, codeB P ann n c = true → (r = none ∨ noRange c = true) → codeH P ann c Q ρ h →
    ∀ {D : List Deferred} {a : Act} {w : World}, Match n D ρ a → Sub h w → Fr h0 w0 h w → Marks w0 D h w → c.wpIn (wideR r) N P (QW n Q h0 w0) a w := by
  intro c
  induction c with
  | skip => intro Q ρ h _ _ H D a w hm hs hf hD; exact wpIn_skip ⟨ρ, h, D, H, hm, hs, hf, hD⟩
  | region id ops d =>
    intro Q ρ h hb _ H D a w hm hs hf hD
    cases d with
    | false =>
      refine wpIn_region ?_
      rw [List.range_eq_range']
      exact ops_wp (fun o ho => Array.all_eq_true_iff_forall_mem.1 hb o ho) ops.size 0 ρ h a w (by omega) (by simpa [codeH] using H) hm hs hf hD
    | true =>
      simp only [codeB, Bool.and_eq_true] at hb
      exact draw_wp hmix (fun o ho => Array.all_eq_true_iff_forall_mem.1 hb.1 o ho) hb.2 H hm hs hf hD
  | seq x y ihx ihy =>
    intro Q ρ h hb hr H D a w hm hs hf hD
    simp only [codeB, Bool.and_eq_true] at hb
    have hr' : (r = none ∨ noRange x = true) ∧ (r = none ∨ noRange y = true) := by simp only [noRange, Bool.and_eq_true] at hr; rcases hr with e | ⟨e1, e2⟩; exact ⟨.inl e, .inl e⟩; exact ⟨.inr e1, .inr e2⟩
    refine wpIn_seq (wpIn_mono (ihx hb.1 hr'.1 H hm hs hf hD) fun e a' w' ⟨ρ', h', D', hq, hm', hs', hf', hD'⟩ => ?_)
    cases e with
    | normal => exact ihy hb.2 hr'.2 hq hm' hs' hf' hD'
    | _ => exact ⟨ρ', h', D', hq, hm', hs', hf', hD'⟩
  | cond c x y ihx ihy =>
    intro Q ρ h hb hr H D a w hm hs hf hD
    simp only [codeB, Bool.and_eq_true] at hb
    have hr' : (r = none ∨ noRange x = true) ∧ (r = none ∨ noRange y = true) := by simp only [noRange, Bool.and_eq_true] at hr; rcases hr with e | ⟨e1, e2⟩; exact ⟨.inl e, .inl e⟩; exact ⟨.inr e1, .inr e2⟩
    have he : a.eval c = ev ρ c := by rw [hm.ev]
    unfold codeH condV at H
    split at H
    · rename_i hv; exact wpIn_cond_true (he.trans hv) (ihx hb.1 hr'.1 H hm hs hf hD)
    · rename_i hv; exact wpIn_cond_false (he.trans hv) (ihy hb.2 hr'.2 H hm hs hf hD)
    · exact H.elim
  | block id c ih =>
    intro Q ρ h hb hr H D a w hm hs hf hD
    refine wpIn_block (wpIn_mono (ih hb hr H hm hs hf hD) fun e a' w' ⟨ρ', h', D', hq, hm', hs', hf', hD'⟩ => ?_)
    cases e with
    | exit id' =>
      simp only [Exit.inBlock, inBlockH] at hq ⊢
      split
      · rename_i e; rw [if_pos e] at hq; exact ⟨ρ', h', D', hq, hm', hs', hf', hD'⟩
      · rename_i e; rw [if_neg e] at hq; exact ⟨ρ', h', D', hq, hm', hs', hf', hD'⟩
    | _ => exact ⟨ρ', h', D', hq, hm', hs', hf', hD'⟩
  | loop c ih =>
    intro Q ρ h hb hr H D a w hm hs hf hD
    obtain ⟨I, μ, hI, hround⟩ := H
    generalize ann.keep (headId c) = keep at *
    refine wp_loop_rel (fun m a w => ∃ ρ h D, I (keep.map ρ) h ∧ μ (keep.map ρ) h = m ∧ Match n D ρ a ∧ Sub h w ∧ Fr h0 w0 h w ∧ Marks w0 D h w) (fun m a w ⟨ρ, h, D, hI, hμ, hm, hs, hf, hD⟩ => ?_) (n := μ (keep.map ρ) h) ⟨ρ, h, D, hI, rfl, hm, hs, hf, hD⟩
    refine wpIn_mono (ih hb hr (hround ρ h hI) hm hs hf hD) fun e a' w' ⟨ρ', h', D', hq, hm', hs', hf', hD'⟩ => ?_
    cases e with
    | normal => exact ⟨_, hμ ▸ hq.2, ρ', h', D', hq.1, rfl, hm', hs', hf', hD'⟩
    | _ => exact ⟨ρ', h', D', hq, hm', hs', hf', hD'⟩
  | exit id => intro Q ρ h _ _ H D a w hm hs hf hD; exact wpIn_exit ⟨ρ, h, D, H, hm, hs, hf, hD⟩
  | scope c ih =>
    intro Q ρ h hb hr H D a w hm hs hf hD
    refine wpIn_scope_straight (wpIn_mono (ih hb hr H hm hs hf hD) fun e a' w' ⟨ρ', h', D', hq, hm', hs', hf', hD'⟩ => ?_)
    cases e with
    | goto l => exact hq
    | _ => exact ⟨ρ', h', D', hq, hm', hs', hf', hD'⟩
  | label l => intro Q ρ h _ _ H D a w hm hs hf hD; exact wpIn_label ⟨ρ, h, D, H, hm, hs, hf, hD⟩
  | ret => intro Q ρ h _ _ H D a w hm hs hf hD; exact wpIn_ret ⟨ρ, h, D, H, hm, hs, hf, hD⟩
  | rangeFunc f ps x y ih1 ih2 =>
    intro Q ρ h hb hr H D a w hm hs hf hD
    rcases hr with rfl | hr
    · simp only [codeB, beq_iff_eq] at hb
      unfold codeH at H
      rw [hb] at H
      exact rangeH.sound H hm hs hf hD
    · cases hr
  | goto l => intro Q ρ h _ _ H; exact H.elim
  | refuse s => intro Q ρ h _ _ H; exact H.elim
def roundQ (P : Program) (l : Nat) (kv : Value → PH → Prop) : QH
  | .normal, _, h => SemH P (Instr.endRound l none) h kv
  | .ret, _, h => SemH P (Instr.endRound l (some .ret)) h kv
  | .exit id, _, h => SemH P (Instr.endRound l (some (.exit id))) h kv
  | _, _, _ => False
def roundH (P : Program) (ann : Ann) (l : Nat) (assign body : Code) (kv : Value → PH → Prop) (ρ : Env) (h : PH) : Prop :=
  codeH P ann assign (fun e ρ h => match e with
    | .normal => SemH P (Instr.beginRound l) h fun _ h' => codeH P ann body (roundQ P l kv) ρ h'
    | _ => False) ρ h
theorem roundH.next {P : Program} (ann : Ann) (hmix : P.follows .mixedOrders = true) {l : Nat} {f : FuncId} {tmps : Array Value} {assign body : Code} {kv : Value → PH → Prop} {h : PH}
    (hA : (codeB P ann tmps.size assign && noRange assign && codeB P ann tmps.size body && noRange body) = true) (H : roundH P ann l assign body kv (fun t => tmps.getD t undef) h) :
    NextH P (.round l f tmps assign body) h kv := by
  simp only [Bool.and_eq_true] at hA
  obtain ⟨⟨⟨a1, a2⟩, a3⟩, a4⟩ := hA
  intro w hs
  refine roundIn_of_wpIn trivial (wpIn_mono (codeH.sound (r := some l) (D := []) hmix assign a1 (.inr a2) H ⟨rfl, rfl, fun _ => rfl⟩ hs (Fr.refl h w) (Marks.nil _ _ _)) fun e a' w' ⟨ρ', h', D', hq, hm', hs', hf', hD'⟩ => ?_)
  cases e with
  | normal =>
    obtain ⟨u, w2, h2, hrun, hb, hs2, hf2⟩ := hq.sound hs'
    refine ⟨w2, hrun, wpIn_mono (codeH.sound (r := some l) hmix body a3 (.inr a4) hb hm' hs2 (hf'.trans hf2) (hD'.step hf2)) fun e a3 w3 ⟨ρ3, h3, D3, hq3, hm3, hs3, hf3, hD3⟩ => ?_⟩
    cases e with
    | normal => obtain ⟨v, w4, h4, hrun4, hk, hs4, hf4⟩ := SemH.sound hq3 hs3; exact ⟨v, w4, hrun4, v, h4, rfl, hk, hs4, hf3.trans hf4⟩
    | ret => obtain ⟨v, w4, h4, hrun4, hk, hs4, hf4⟩ := SemH.sound hq3 hs3; exact ⟨v, w4, hrun4, v, h4, rfl, hk, hs4, hf3.trans hf4⟩
    | exit id => obtain ⟨v, w4, h4, hrun4, hk, hs4, hf4⟩ := SemH.sound hq3 hs3; exact ⟨v, w4, hrun4, v, h4, rfl, hk, hs4, hf3.trans hf4⟩
    | _ => exact hq3.elim
  | _ => exact hq.elim
def resL (P : Program) (ρ : Env) (h : PH) : List ResultVar → (List Value → Prop) → Prop
  | [], k => k []
  | .tmp t :: rs, k => resL P ρ h rs fun vs => k (ρ t :: vs)
  | .cell a t :: rs, k => popO (SemE P h (Instr.loadAt t (ρ a))) fun v => resL P ρ h rs fun vs => k (v :: vs)
def oneOf : List Value → Value
  | [v] => v
  | vs => .tuple vs.toArray
def resH (P : Program) (fn : Func) (ρ : Env) (h : PH) (R : Value → PH → Prop) : Prop := resL P ρ h fn.results.toList fun vs => R (oneOf vs) h
def resF (tmps : Array Value) : ResultVar → Sem Value
  | .tmp t => pure (tmps.getD t undef)
  | .cell x t => do loadVar t (← asAddr (tmps.getD x undef))
theorem resL.run {P : Program} {ρ : Env} {h : PH} {n : Nat} {D : List Deferred} {a : Act} {w : World} (hm : Match n D ρ a) (hs : Sub h w) : ∀ (l : List ResultVar) {k : List Value → Prop}, resL P ρ h l k →
    ∃ vs, k vs ∧ (l.mapM (m := Sem) (resF a.tmps)).run P w = .ok vs w := by
  intro l
  induction l with
  | nil => intro k H; exact ⟨[], H, rfl⟩
  | cons r rs ih =>
    intro k H
    cases r with
    | tmp t =>
      obtain ⟨vs, hk, hr⟩ := ih H
      refine ⟨_, hk, ?_⟩
      have h1 : (resF a.tmps (.tmp t)).run P w = .ok (ρ t) w := by
        show (pure (a.tmps.getD t undef) : Sem Value).run P w = _
        rw [hm.slot]; rfl
      rw [List.mapM_cons]
      simp only [Sem.run_bind, Sem.run_pure, Result.andThen_ok, h1, hr]
    | cell x t =>
      obtain ⟨v, hv, H'⟩ := popO_iff.1 H
      obtain ⟨vs, hk, hr⟩ := ih H'
      refine ⟨_, hk, ?_⟩
      rw [List.mapM_cons]
      have h1 : (resF a.tmps (.cell x t)).run P w = .ok v w := by
        have h2 := SemE.run hv hs
        show (do loadVar t (← asAddr (a.tmps.getD x undef)) : Sem Value).run P w = _
        rw [hm.slot]
        unfold Instr.loadAt Instr.sureAddr at h2
        generalize ρ x = y at *
        cases y with
        | pointer p => cases p with
          | none => exact absurd hv (by intro hc; cases hc)
          | some p => exact h2
        | _ => exact absurd hv (by intro hc; cases hc)
      simp only [Sem.run_bind, Sem.run_pure, Result.andThen_ok, h1, hr]
theorem callsH_of {P : Program} {f : FuncId} {fn : Func} {c : Code} (ann : Ann) (hmix : P.follows .mixedOrders = true) (hf : P.funcs[f]? = some fn) (hb : fn.body = some c) (hen : enters P f = true) (hB : codeB P ann fn.ntmps c = true)
    {args : Array Value} (hargs : args.size ≤ fn.ntmps) {h : PH} {R : Value → PH → Prop}
    (H : codeH P ann c (fun e ρ h => match e with
      | .normal | .ret => resH P fn ρ h R
      | _ => False) (fun t => args.getD t undef) h) : CallsH P f args h R := by
  refine .inl ⟨hen, fun w hs => (callsIn_wide (n := 0)).1 (callsIn_of_wp_marks hf hb trivial ?_)⟩
  have hm : Match fn.ntmps [] (fun t => args.getD t undef) { tmps := args ++ Array.replicate (fn.ntmps - args.size) undef, defers := [] } := by
    refine ⟨rfl, by simp; omega, fun t => ?_⟩
    simp only [Array.getD_eq_getD_getElem?, Array.getElem?_append, Array.getElem?_replicate]
    by_cases hlt : t < args.size
    · simp [hlt]
    · rw [if_neg hlt]
      have : args[t]? = none := Array.getElem?_eq_none (by omega)
      rw [this]
      split <;> rfl
  refine wpIn_mono (codeH.sound (r := none) hmix c hB (.inl rfl) H hm hs (Fr.refl _ _) (Marks.nil w h w)) fun e a' w' ⟨ρ', h', D', hq, hm', hs', hf', hD'⟩ => ?_
  have fin : ∀ (ds : List Deferred) (w' : World), Sub h' w' → Fr h w h' w' → Marks w ds h' w' → resH P fn ρ' h' R → LeavesInM Fence.wide 0 P fn a'.tmps (fun e w' => ∃ v h', e = .returned v ∧ R v h' ∧ Sub h' w' ∧ Fr h w h' w') ds .returning w' := by
    intro ds
    induction ds with
    | nil =>
      intro w' hs' hf' _ hr
      obtain ⟨vs, hk, hrun⟩ := resL.run hm' hs' fn.results.toList hr
      refine ⟨oneOf vs, ?_, _, h', rfl, hk, hs', hf'⟩
      show ((do let vs ← fn.results.mapM (resF a'.tmps); pure (if h : vs.size = 1 then vs[0] else .tuple vs) : Sem Value)).run P w' = _
      rw [Array.mapM_eq_mapM_toList]
      simp only [Sem.run_bind, Sem.run_map, Result.andThen_ok, hrun]
      simp only [Sem.run_pure]
      congr 1
      cases vs with
      | nil => rfl
      | cons v vs => cases vs with
        | nil => rfl
        | cons u us => simp [oneOf]
    | cons d ds ih =>
      intro w' hs' hf' hD' hr
      obtain ⟨bs, b1, b2, b3⟩ := hD'
      cases bs with
      | nil => cases b2
      | cons b bs =>
        simp only [List.map_cons, List.cons.injEq] at b2
        obtain ⟨rfl, rfl⟩ := b2
        obtain ⟨c1, c2, c3, c4⟩ := b3 b List.mem_cons_self
        obtain ⟨hnot, b1⟩ := List.nodup_cons.1 b1
        have hne : ∀ i, i ≠ b → (w'.putObj b (.deferred none)).heap[i]? = w'.heap[i]? := fun i hi => by
          simp [World.putObj, Array.getElem?_setIfInBounds, Ne.symm hi]
        have hsz : (w'.putObj b (.deferred none)).heap.size = w'.heap.size := by simp [World.putObj]
        refine ⟨(by intro e; cases e), .inl ⟨b, _, rfl, run_takeDeferred c4, ih _ (fun i o hi => ?_) ⟨hf'.os, hf'.tape, hf'.output, hf'.drawn, by rw [hsz]; exact hf'.size, fun i hi hn => ?_, hf'.none⟩ ⟨bs, b1, rfl, fun i hi => ?_⟩ hr⟩⟩
        · rw [hne i (fun e => by subst e; rw [c3] at hi; cases hi)]; exact hs' i o hi
        · rw [hne i (fun e => by subst e; omega)]; exact hf'.far i hi hn
        · obtain ⟨e1, e2, e3, e4⟩ := b3 i (List.mem_cons_of_mem _ hi)
          exact ⟨e1, by rw [hsz]; exact e2, e3, by rw [hne i (fun e => by subst e; exact hnot hi)]; exact e4⟩
  have hfin := fin D' w' hs' hf' hD'
  rw [← hm'.defers] at hfin
  cases e with
  | normal => exact hfin hq
  | ret => exact hfin hq
  | _ => exact hq.elim
def bodyOf (fn : Func) : Code := fn.body.getD .skip
def endH (P : Program) (fn : Func) (R : Value → PH → Prop) : QH := fun e ρ h => match e with
  | .normal | .ret => resH P fn ρ h R
  | _ => False
def bindH (h : PH) (k : PH → Prop) : Prop := k h
def yV (v : Value) : Option Bool := match v with
  | .bool b => some b
  | _ => none
def nilS (v : Value) : Sem Value := match v with
  | .pointer none | .nilIface | .nilFunc => .halt (.stuck "nil")
  | .func (.method _) _ _ => .halt (.stuck "method")
  | x => pure x
def binS (op : BinOp) (t : TypeId) (x y : Operand) (a b : Value) : Sem Value := do eqGuard op t x y a b; binOp op t a b
def storeS (t : TypeId) (a x : Value) : Sem Value := do Instr.storeAt t a x; pure undef
def mapUpdS (t : TypeId) (m k x : Value) : Sem Value := do Instr.mapUpdate t m k x; pure undef
def callC (P : Program) (f : Value) (args : Array Value) (h : PH) (kv : Value → PH → Prop) : Prop := match f with
  | .func (.func f) first captured => CallsH P f (first ++ args ++ captured) h kv
  | .func fn first captured => SemH P (invoke (.fn fn captured) (first ++ args)) h fun n h' => NextH P n h' kv
  | _ => False
def zcells (P : Program) (t : TypeId) : Array Value := match P.info? t with
  | some i => match i.zero with
    | some v => v.cells
    | none => #[]
  | none => #[]
def codeS (P : Program) (ann : Ann) (ih : Code → QH → Env → PH → Prop) (c : Code) (Q : QH) (ρ : Env) (h : PH) : Prop := match c with
  | .skip => Q .normal ρ h
  | .region _ ops false => opsH P ops (Q .normal) ops.toList ρ h
  | .region id ops true => opsD P ops (ann.b id) (Q .normal) [] (ann.ord id) ρ h
  | .seq x y => ih x (thenH (ih y Q) Q) ρ h
  | .cond c x y => condV (ev ρ c) (ih x Q ρ h) (ih y Q ρ h)
  | .block id c => ih c (inBlockH id Q) ρ h
  | .loop c => LoopL (ann.keep (headId c)) (fun next ρ h => ih c (thenH (fun ρ' h' => next ((ann.keep (headId c)).map ρ') h') Q) ρ h) ((ann.keep (headId c)).map ρ) h
  | .exit id => Q (.exit id) ρ h
  | .ret => Q .ret ρ h
  | .label _ => Q .normal ρ h
  | .scope c => ih c (noGotoH Q) ρ h
  | .rangeFunc g ps assign body => rangeH P ann.n (ev ρ g) ps assign body (Q .normal ρ) (Q .ret ρ) ((exitIds body).map fun id => (id, Q (.exit id) ρ)) ((ann.keep (headId body)).map fun t => (t, ρ t)) h
  | _ => False
noncomputable def codeF (P : Program) (ann : Ann) (n : Nat) : Code → QH → Env → PH → Prop := Nat.rec (fun _ _ _ _ => False) (fun _ ih => codeS P ann ih) n
def depthC : Code → Nat
  | .seq x y => max (depthC x) (depthC y) + 1
  | .cond _ x y => max (depthC x) (depthC y) + 1
  | .block _ c => depthC c + 1
  | .loop c => depthC c + 1
  | .scope c => depthC c + 1
  | _ => 0
theorem codeF_eq {P : Program} {ann : Ann} : ∀ (c : Code) (n : Nat), depthC c < n → codeF P ann n c = codeH P ann c := by
  intro c
  induction c with
  | skip => intro n hn; obtain ⟨m, rfl⟩ : ∃ m, n = m + 1 := ⟨n - 1, by omega⟩; rfl
  | region id ops d => intro n hn; obtain ⟨m, rfl⟩ : ∃ m, n = m + 1 := ⟨n - 1, by omega⟩; cases d <;> rfl
  | seq x y ihx ihy =>
    intro n hn
    obtain ⟨m, rfl⟩ : ∃ m, n = m + 1 := ⟨n - 1, by omega⟩
    simp only [depthC] at hn
    funext Q ρ h
    show codeF P ann m x (thenH (codeF P ann m y Q) Q) ρ h = codeH P ann x (thenH (codeH P ann y Q) Q) ρ h
    rw [ihx m (by omega), ihy m (by omega)]
  | cond c x y ihx ihy =>
    intro n hn
    obtain ⟨m, rfl⟩ : ∃ m, n = m + 1 := ⟨n - 1, by omega⟩
    simp only [depthC] at hn
    funext Q ρ h
    show condV (ev ρ c) (codeF P ann m x Q ρ h) (codeF P ann m y Q ρ h) = condV (ev ρ c) (codeH P ann x Q ρ h) (codeH P ann y Q ρ h)
    rw [ihx m (by omega), ihy m (by omega)]
  | block id c ih =>
    intro n hn
    obtain ⟨m, rfl⟩ : ∃ m, n = m + 1 := ⟨n - 1, by omega⟩
    simp only [depthC] at hn
    funext Q ρ h
    show codeF P ann m c (inBlockH id Q) ρ h = codeH P ann c (inBlockH id Q) ρ h
    rw [ih m (by omega)]
  | loop c ih =>
    intro n hn
    obtain ⟨m, rfl⟩ : ∃ m, n = m + 1 := ⟨n - 1, by omega⟩
    simp only [depthC] at hn
    funext Q ρ h
    show LoopL (ann.keep (headId c)) (fun next ρ h => codeF P ann m c (thenH (fun ρ' h' => next ((ann.keep (headId c)).map ρ') h') Q) ρ h) ((ann.keep (headId c)).map ρ) h = LoopL (ann.keep (headId c)) (fun next ρ h => codeH P ann c (thenH (fun ρ' h' => next ((ann.keep (headId c)).map ρ') h') Q) ρ h) ((ann.keep (headId c)).map ρ) h
    rw [ih m (by omega)]
  | scope c ih =>
    intro n hn
    obtain ⟨m, rfl⟩ : ∃ m, n = m + 1 := ⟨n - 1, by omega⟩
    simp only [depthC] at hn
    funext Q ρ h
    show codeF P ann m c (noGotoH Q) ρ h = codeH P ann c (noGotoH Q) ρ h
    rw [ih m (by omega)]
  | _ => intro n hn; obtain ⟨m, rfl⟩ : ∃ m, n = m + 1 := ⟨n - 1, by omega⟩; rfl
theorem callsF_by {P : Program} {f : FuncId} {fn : Func} (ann : Ann) (n : Nat) (hmix : P.follows .mixedOrders = true) (hf : P.funcs[f]? = some fn) (hen : enters P f = true) (hb : fn.body.isSome = true) (hd : decide (depthC (bodyOf fn) < n) = true) (hB : codeB P ann fn.ntmps (bodyOf fn) = true)
    {args : Array Value} (hargs : args.size ≤ fn.ntmps) {h : PH} {R : Value → PH → Prop} {X : Prop}
    (he : codeF P ann n (bodyOf fn) (endH P fn R) (fun t => args.getD t undef) h = X) (H : X) : CallsH P f args h R := by
  obtain ⟨c, hc⟩ := Option.isSome_iff_exists.1 hb
  have e : bodyOf fn = c := by unfold bodyOf; rw [hc]; rfl
  rw [codeF_eq _ _ (by simpa using hd)] at he
  rw [e] at hB he
  rw [← he] at H
  exact callsH_of ann hmix hf hc hen hB hargs H
end Go.Proofs.YtcoajnpchhmgjaaGreatDoor
namespace Go.Proofs.YtcoajnpchhmgjaaGreatDoor
open Go
theorem set_same {h : PH} {r : Nat} {o : Obj} : (h.set r o) r = some o := by simp [PH.set]
theorem set_other {h : PH} {r b : Nat} {o : Obj} (hne : b ≠ r) : (h.set r o) b = h b := by simp [PH.set, hne]
theorem ne_new {h : PH} {r b : Nat} {o : Obj} (hb : h b = some o) (hr : h r = none) : b ≠ r := by rintro rfl; rw [hr] at hb; cases hb
theorem set_old {h : PH} {r b : Nat} {o u : Obj} (hr : h r = none) (hb : h b = some u) : (h.set r o) b = some u := by rw [set_other (ne_new hb hr)]; exact hb
def Upd (F : List Nat) (h h' : PH) : Prop := ∀ b o, h b = some o → b ∉ F → h' b = some o
theorem Upd.refl {F : List Nat} {h : PH} : Upd F h h := fun _ _ hb _ => hb
theorem Upd.trans {F : List Nat} {h h1 h2 : PH} (a : Upd F h h1) (b : Upd F h1 h2) : Upd F h h2 := fun x o hx hn => b x o (a x o hx hn) hn
theorem Upd.mono {F G : List Nat} {h h' : PH} (a : Upd F h h') (hs : ∀ b, b ∈ F → b ∈ G ∨ h b = none) : Upd G h h' := fun x o hx hn => a x o hx fun hm => by
  rcases hs x hm with h1 | h1
  · exact hn h1
  · rw [hx] at h1; cases h1
theorem Upd.then {F F' : List Nat} {h h1 h2 : PH} (a : Upd F h h1) (b : Upd F' h1 h2) (hs : ∀ b, b ∈ F' → b ∈ F ∨ h b = none) : Upd F h h2 := fun x o hx hn =>
  b x o (a x o hx hn) fun hm => by
    rcases hs x hm with h1 | h1
    · exact hn h1
    · rw [hx] at h1; cases h1
theorem Upd.new {F : List Nat} {h : PH} {r : Nat} {o : Obj} (hr : h r = none) : Upd F h (h.set r o) := fun _ _ hb _ => set_old hr hb
theorem Upd.set {F : List Nat} {h : PH} {r : Nat} {o : Obj} (hr : r ∈ F) : Upd F h (h.set r o) := fun b u hb hn => by
  rw [set_other (by rintro rfl; exact hn hr)]; exact hb
theorem Upd.get {F : List Nat} {h h' : PH} (a : Upd F h h') {b : Nat} {o : Obj} (hb : h b = some o) (hn : b ∉ F) : h' b = some o := a b o hb hn
abbrev Ext (h h' : PH) : Prop := Upd [] h h'
theorem Ext.get {h h' : PH} (a : Ext h h') {b : Nat} {o : Obj} (hb : h b = some o) : h' b = some o := a b o hb (by simp)
theorem Ext.upd {F : List Nat} {h h' : PH} (a : Ext h h') : Upd F h h' := fun b o hb _ => a b o hb (by simp)
theorem popO_some {α : Type} {v : α} {k : α → Prop} : popO (some v) k = k v := (rfl)
theorem bindH_eq {h : PH} {k : PH → Prop} : bindH h k = k h := (rfl)
theorem condV_true {A B : Prop} : condV (.bool true) A B = A := (rfl)
theorem condV_false {A B : Prop} : condV (.bool false) A B = B := (rfl)
theorem condV_bool {b : Bool} {A B : Prop} : condV (.bool b) A B = if b then A else B := by cases b <;> rfl
theorem yV_bool {b : Bool} : yV (.bool b) = some b := (rfl)
theorem gopV_tt {X : (Value → PH → Prop) → Prop} {h : PH} {kv : Value → PH → Prop} : gopV (some true) true X h kv = X kv := (rfl)
theorem gopV_ff {X : (Value → PH → Prop) → Prop} {h : PH} {kv : Value → PH → Prop} : gopV (some false) false X h kv = X kv := (rfl)
theorem gopV_tf {X : (Value → PH → Prop) → Prop} {h : PH} {kv : Value → PH → Prop} : gopV (some true) false X h kv = kv undef h := (rfl)
theorem gopV_ft {X : (Value → PH → Prop) → Prop} {h : PH} {kv : Value → PH → Prop} : gopV (some false) true X h kv = kv undef h := (rfl)
theorem pickV_t {a b : Value} : pickV (.bool true) a b = some a := (rfl)
theorem pickV_f {a b : Value} : pickV (.bool false) a b = some b := (rfl)
theorem pickV_bool {c : Bool} {a b : Value} : pickV (.bool c) a b = some (if c then a else b) := by cases c <;> rfl
section
variable {P : Program} {h : PH}
theorem nilS_ptr {a : Addr} : SemP P (nilS (.pointer (some a))) = some (.pointer (some a)) := (rfl)
theorem makeFunc_eq {f : Fn} {x y : Array Value} : SemP P (Instr.makeFunc f x y) = some (.func f x y) := (rfl)
theorem add_eq {t : TypeId} {k : IntKind} {a b : Int} : SemP P (binOp .add t (.int k a) (.int k b)) = some (.int k (k.wrap (a + b))) := by simp [binOp, Op.intArith, SemP, pure]
theorem sub_eq {t : TypeId} {k : IntKind} {a b : Int} : SemP P (binOp .sub t (.int k a) (.int k b)) = some (.int k (k.wrap (a - b))) := by simp [binOp, Op.intArith, SemP, pure]
theorem mul_eq {t : TypeId} {k : IntKind} {a b : Int} : SemP P (binOp .mul t (.int k a) (.int k b)) = some (.int k (k.wrap (a * b))) := by simp [binOp, Op.intArith, SemP, pure]
theorem lss_eq {t : TypeId} {k : IntKind} {a b : Int} : SemP P (binOp .lss t (.int k a) (.int k b)) = some (.bool (decide (a < b))) := by simp [binOp, Op.intCmp, SemP, pure]
theorem leq_eq {t : TypeId} {k : IntKind} {a b : Int} : SemP P (binOp .leq t (.int k a) (.int k b)) = some (.bool (decide (a ≤ b))) := by simp [binOp, Op.intCmp, SemP, pure]
theorem gtr_eq {t : TypeId} {k : IntKind} {a b : Int} : SemP P (binOp .gtr t (.int k a) (.int k b)) = some (.bool (decide (b < a))) := by simp [binOp, Op.intCmp, SemP, pure]
theorem geq_eq {t : TypeId} {k : IntKind} {a b : Int} : SemP P (binOp .geq t (.int k a) (.int k b)) = some (.bool (decide (b ≤ a))) := by simp [binOp, Op.intCmp, SemP, pure]
theorem quo_eq {t : TypeId} {k : IntKind} {a b : Int} (hb : b ≠ 0) : SemP P (binOp .quo t (.int k a) (.int k b)) = some (.int k (k.wrap (a.tdiv b))) := by simp [binOp, Op.intDiv, hb, SemP, pure]
theorem rem_eq {t : TypeId} {k : IntKind} {a b : Int} (hb : b ≠ 0) : SemP P (binOp .rem t (.int k a) (.int k b)) = some (.int k (a.tmod b)) := by simp [binOp, Op.intDiv, hb, SemP, pure]
theorem shl_eq {t : TypeId} {k k' : IntKind} {a b : Int} (hb : 0 ≤ b) : SemP P (binOp .shl t (.int k a) (.int k' b)) = some (.int k (k.wrap (a * 2 ^ (min b.toNat k.bits)))) := by
  have : ¬ b < 0 := by omega
  simp [binOp, Op.shift, this, SemP, pure]
theorem shr_eq {t : TypeId} {k k' : IntKind} {a b : Int} (hb : 0 ≤ b) : SemP P (binOp .shr t (.int k a) (.int k' b)) = some (.int k (a.fdiv (2 ^ (min b.toNat k.bits)))) := by
  have : ¬ b < 0 := by omega
  simp [binOp, Op.shift, this, SemP, pure]
theorem not_eq {b : Bool} : SemP P (Op.unary .not (.bool b)) = some (.bool (!b)) := (rfl)
theorem minI_eq {ts : Array TypeId} {t : TypeId} {k k' : IntKind} {x y : Int} : SemP P (Builtin.min_ ts t #[.int k x, .int k' y]) = some (.int k (if y < x then y else x)) := (rfl)
theorem maxI_eq {ts : Array TypeId} {t : TypeId} {k k' : IntKind} {x y : Int} : SemP P (Builtin.max_ ts t #[.int k x, .int k' y]) = some (.int k (if x < y then y else x)) := by
  rfl
theorem extract_0 {a : Value} {l : List Value} : SemP P (Instr.extract (.tuple ⟨a :: l⟩) 0) = some a := (rfl)
theorem extract_1 {a b : Value} {l : List Value} : SemP P (Instr.extract (.tuple ⟨a :: b :: l⟩) 1) = some b := (rfl)
theorem extract_2 {a b c : Value} {l : List Value} : SemP P (Instr.extract (.tuple ⟨a :: b :: c :: l⟩) 2) = some c := (rfl)
theorem eqlI {t : TypeId} {x y : Operand} {k : IntKind} {a b : Int} : SemE P h (binS .eql t x y (.int k a) (.int k b)) = some (.bool (a == b)) := by
  simp [binS, eqGuard, binOp, Op.intCmp, SemE, bind, Sem.bind, pure]
theorem neqI {t : TypeId} {x y : Operand} {k : IntKind} {a b : Int} : SemE P h (binS .neq t x y (.int k a) (.int k b)) = some (.bool (a != b)) := by
  simp [binS, eqGuard, binOp, Op.intCmp, SemE, bind, Sem.bind, pure]
end
def flatD : TypeDesc → Bool
  | .struct _ | .array _ _ => false
  | _ => true
theorem plain_add (b o n : Nat) : (⟨b, o, none⟩ : Addr).add n = ⟨b, o + n, none⟩ := by unfold Addr.add; split <;> simp_all
section
variable {P : Program} {h : PH} {t t' e : TypeId}
theorem semE_und {α : Type} {d : TypeDesc} (hu : P.underlying t = some d) (f : TypeDesc → Sem α) : SemE P h (underlying t >>= f) = SemE P h (f d) := by
  show SemE P h ((match P.underlying t with | some d => pure d | none => stuck _ : Sem TypeDesc).bind f) = _
  rw [hu]; rfl
theorem semP_und {α : Type} {d : TypeDesc} (hu : P.underlying t = some d) (f : TypeDesc → Sem α) : SemP P (underlying t >>= f) = SemP P (f d) := by
  show SemP P ((match P.underlying t with | some d => pure d | none => stuck _ : Sem TypeDesc).bind f) = _
  rw [hu]; rfl
theorem semH_und {α : Type} {d : TypeDesc} {Q : α → PH → Prop} (hu : P.underlying t = some d) (f : TypeDesc → Sem α) : SemH P (underlying t >>= f) h Q = SemH P (f d) h Q := by
  show SemH P ((match P.underlying t with | some d => pure d | none => stuck _ : Sem TypeDesc).bind f) h Q = _
  rw [hu]; rfl
theorem semA_und {α : Type} {d : TypeDesc} (hu : P.underlying t = some d) (f : TypeDesc → Sem α) : SemA P (underlying t >>= f) = SemA P (f d) := by
  show SemA P ((match P.underlying t with | some d => pure d | none => stuck _ : Sem TypeDesc).bind f) = _
  rw [hu]; rfl
theorem semE_info {α : Type} {d : TypeInfo} (hu : P.info? t = some d) (f : TypeInfo → Sem α) : SemE P h (typeInfo t >>= f) = SemE P h (f d) := by
  show SemE P h ((match P.info? t with | some i => pure i | none => stuck _ : Sem TypeInfo).bind f) = _
  rw [hu]; rfl
theorem semP_info {α : Type} {d : TypeInfo} (hu : P.info? t = some d) (f : TypeInfo → Sem α) : SemP P (typeInfo t >>= f) = SemP P (f d) := by
  show SemP P ((match P.info? t with | some i => pure i | none => stuck _ : Sem TypeInfo).bind f) = _
  rw [hu]; rfl
theorem semH_info {α : Type} {d : TypeInfo} {Q : α → PH → Prop} (hu : P.info? t = some d) (f : TypeInfo → Sem α) : SemH P (typeInfo t >>= f) h Q = SemH P (f d) h Q := by
  show SemH P ((match P.info? t with | some i => pure i | none => stuck _ : Sem TypeInfo).bind f) h Q = _
  rw [hu]; rfl
theorem sizeOf_bind {α : Type} (f : Nat → Sem α) : (sizeOf t >>= f) = (typeInfo t >>= fun i => f i.size) := by
  show (sizeOf t).bind f = (typeInfo t).bind fun i => f i.size
  unfold sizeOf
  show ((typeInfo t).bind fun i => Sem.pure i.size).bind f = _
  rw [show ∀ (s : Sem TypeInfo), (s.bind fun i => Sem.pure i.size).bind f = s.bind fun i => f i.size from fun s => by
    induction s with
    | pure a => rfl
    | load m a k ih => simp only [Sem.bind, ih]
    | store m a v k ih => simp only [Sem.bind, ih]
    | new o k ih => simp only [Sem.bind, ih]
    | shape r k ih => simp only [Sem.bind, ih]
    | freeze a n k ih => simp only [Sem.bind, ih]
    | frozen a k ih => simp only [Sem.bind, ih]
    | getObj r k ih => simp only [Sem.bind, ih]
    | setObj r o k ih => simp only [Sem.bind, ih]
    | choose q k ih => simp only [Sem.bind, ih]
    | sys c k ih => simp only [Sem.bind, ih]
    | program k ih => simp only [Sem.bind, ih]
    | mark m k ih => simp only [Sem.bind, ih]
    | halt x => rfl]
theorem len_slice {a : Option Addr} {n c : Nat} (hu : P.underlying t = some (.slice e)) : SemP P (Builtin.len_ #[t] t' #[.slice a n c]) = some (.int .i64 n) := by
  show SemP P (underlying t >>= _) = _
  rw [semP_und hu]; rfl
theorem len_string {s : ByteArray} (hu : P.underlying t = some .string) : SemP P (Builtin.len_ #[t] t' #[.string s]) = some (.int .i64 s.size) := by
  show SemP P (underlying t >>= _) = _
  rw [semP_und hu]; rfl
theorem len_map {r : Nat} {es : Array MapEntry} {k v : TypeId} {c : Nat} (hu : P.underlying t = some (.map k v)) (hr : h r = some (.map es c)) : SemE P h (Builtin.len_ #[t] t' #[.map (some r)]) = some (.int .i64 es.size) := by
  show SemE P h (underlying t >>= _) = _
  rw [semE_und hu]
  show SemE P h (getObj r >>= _) = _
  simp [getObj, bind, Sem.bind, SemE, hr, goInt, pure]
theorem semE_agg {α : Type} {d : TypeDesc} (hu : P.underlying t = some d) (f : Bool → Sem α) : SemE P h (isAgg t >>= f) = SemE P h (f (!flatD d)) := by
  unfold isAgg
  rw [bind_assoc, semE_und hu]
  cases d <;> rfl
theorem loadAt_cell {d : TypeDesc} {a : Addr} (hu : P.underlying t = some d) (hd : flatD d = true) : SemE P h (Instr.loadAt t (.pointer (some a))) = cellH h a := by
  show SemE P h (loadVar t a) = _
  unfold loadVar
  rw [semE_agg hu, hd]
  show (cellH h a).bind (fun v => some v) = _
  cases cellH h a <;> rfl
theorem semE_loadCellsFrom {b o : Nat} {c : Array Value} {e : TypeId} {fr : Nat × Nat} (hb : h b = some (.cells c e fr)) : ∀ (n i : Nat) (acc : Array Value), o + i + n ≤ c.size →
    SemE P h (loadCellsFrom ⟨b, o, none⟩ i n acc) = some (acc ++ c.extract (o + i) (o + i + n)) := by
  intro n
  induction n with
  | zero => intro i acc _; simp [loadCellsFrom, SemE, pure]; omega
  | succ n ih =>
    intro i acc hle
    show (cellH h ((⟨b, o, none⟩ : Addr).add i)).bind (fun v => SemE P h (loadCellsFrom ⟨b, o, none⟩ (i + 1) n (acc.push v))) = _
    have hlt : o + i < c.size := by omega
    have hc : cellH h ((⟨b, o, none⟩ : Addr).add i) = some c[o + i] := by
      rw [plain_add]; unfold cellH; simp only [hb]; simp [hlt]
    rw [hc, Option.bind_some, ih (i + 1) _ (by omega)]
    congr 1
    apply Array.ext'
    simp only [Array.toList_append, Array.toList_push, Array.toList_extract, List.append_assoc, List.extract_eq_take_drop]
    congr 1
    rw [show o + i + (n + 1) - (o + i) = n + 1 from by omega, show o + (i + 1) + n - (o + (i + 1)) = n from by omega, List.drop_eq_getElem_cons (l := c.toList) (i := o + i) (by simpa using hlt), List.take_succ_cons]
    rfl
theorem semE_loadCells {b o n : Nat} {c : Array Value} {e : TypeId} {fr : Nat × Nat} (hb : h b = some (.cells c e fr)) (hle : o + n ≤ c.size) : SemE P h (loadCells ⟨b, o, none⟩ n) = some (c.extract o (o + n)) := by
  have := semE_loadCellsFrom (P := P) hb n 0 #[] hle
  simpa [loadCells] using this
theorem semE_bind {α β : Type} {s : Sem α} {f : α → Sem β} : SemE P h (s >>= f) = (SemE P h s).bind fun a => SemE P h (f a) := by
  show SemE P h (s.bind f) = _
  induction s with
  | pure a => rfl
  | load m a k ih => simp only [Sem.bind, SemE, ih, Option.bind_assoc]
  | shape r k ih => simp only [Sem.bind, SemE, ih, Option.bind_assoc]
  | frozen a k ih => simp only [Sem.bind, SemE, ih, Option.bind_assoc]
  | getObj r k ih =>
    simp only [Sem.bind, SemE]
    cases h r with
    | none => rfl
    | some o => cases o <;> first | rfl | exact ih _
  | program k ih => exact ih P
  | mark m k ih => exact ih
  | _ => rfl
theorem loadAt_agg {d : TypeDesc} {b o n : Nat} {c : Array Value} {e : TypeId} {fr : Nat × Nat} {i : TypeInfo} (hu : P.underlying t = some d) (hd : flatD d = false) (hi : P.info? t = some i) (hn : i.size = n)
    (hb : h b = some (.cells c e fr)) (hle : o + n ≤ c.size) : SemE P h (Instr.loadAt t (.pointer (some ⟨b, o, none⟩))) = some (.agg (c.extract o (o + n))) := by
  show SemE P h (loadVar t ⟨b, o, none⟩) = _
  unfold loadVar
  rw [semE_agg hu, hd]
  show SemE P h (sizeOf t >>= fun m => loadCells ⟨b, o, none⟩ m >>= fun cs => (pure (Value.agg cs) : Sem Value)) = some (.agg (c.extract o (o + n)))
  rw [sizeOf_bind, semE_info hi, hn, semE_bind, semE_loadCells hb hle]
  rfl
theorem indexAt_slice {b o n len cap : Nat} {k : IntKind} {j : Int} {i : TypeInfo} (hu : P.underlying t = some (.slice e)) (hi : P.info? e = some i) (hn : i.size = n) (h0 : 0 ≤ j) (h1 : j < len) :
    SemP P (Instr.indexAt t (.slice (some ⟨b, o, none⟩) len cap) (.int k j)) = some (.pointer (some ⟨b, o + j.toNat * n, none⟩)) := by
  show SemP P (underlying t >>= _) = _
  rw [semP_und hu]
  show SemP P (underlying t >>= _) = _
  rw [semP_und hu]
  simp only [h0, h1, and_self, if_true]
  rw [sizeOf_bind, semP_info hi, hn, plain_add]; rfl
end
end Go.Proofs.YtcoajnpchhmgjaaGreatDoor
namespace Go.Proofs.YtcoajnpchhmgjaaGreatDoor
open Go
def Rows (size : Nat) (rows : List (List Value)) : Prop := ∀ r ∈ rows, r.length = size
theorem Rows.flat {size : Nat} : ∀ {rows : List (List Value)}, Rows size rows → rows.flatten.length = rows.length * size
  | [], _ => by simp
  | r :: rs, h => by
    have h1 := h r (by simp)
    have h2 := Rows.flat (rows := rs) fun x hx => h x (by simp [hx])
    simp only [List.flatten_cons, List.length_append, List.length_cons, h1, h2, Nat.add_mul, Nat.one_mul]; omega
theorem Rows.at {size : Nat} : ∀ {rows : List (List Value)}, Rows size rows → ∀ {i : Nat} {r : List Value}, rows[i]? = some r → (rows.flatten.drop (i * size)).take size = r
  | [], _, i, r, hi => by simp at hi
  | x :: xs, h, i, r, hi => by
    have h1 := h x (by simp)
    cases i with
    | zero =>
      simp only [List.getElem?_cons_zero, Option.some.injEq] at hi
      subst hi
      simp [← h1]
    | succ i =>
      have h2 := Rows.at (rows := xs) (fun y hy => h y (by simp [hy])) (i := i) (r := r) (by simpa using hi)
      rw [List.flatten_cons, Nat.succ_mul, Nat.add_comm, ← List.drop_drop, ← h1, List.drop_left, h1]
      exact h2
theorem Rows.append {size : Nat} {a b : List (List Value)} (ha : Rows size a) (hb : Rows size b) : Rows size (a ++ b) := fun r hr => by
  rcases List.mem_append.1 hr with h | h
  · exact ha r h
  · exact hb r h
theorem Rows.take {size : Nat} {a : List (List Value)} (ha : Rows size a) (n : Nat) : Rows size (a.take n) := fun r hr => ha r (List.mem_of_mem_take hr)
theorem Rows.drop {size : Nat} {a : List (List Value)} (ha : Rows size a) (n : Nat) : Rows size (a.drop n) := fun r hr => ha r (List.mem_of_mem_drop hr)
theorem Rows.flat_take {size : Nat} : ∀ {rows : List (List Value)}, Rows size rows → ∀ n, (rows.take n).flatten = rows.flatten.take (n * size)
  | [], _, n => by simp
  | r :: rs, h, 0 => by simp
  | r :: rs, h, n + 1 => by
    have h1 := h r (by simp)
    have h2 := Rows.flat_take (rows := rs) (fun x hx => h x (by simp [hx])) n
    rw [List.take_succ_cons, List.flatten_cons, List.flatten_cons, h2, Nat.succ_mul, Nat.add_comm, ← h1, List.take_length_add_append]
theorem Rows.flat_drop {size : Nat} : ∀ {rows : List (List Value)}, Rows size rows → ∀ n, (rows.drop n).flatten = rows.flatten.drop (n * size)
  | [], _, n => by simp
  | r :: rs, h, 0 => by simp
  | r :: rs, h, n + 1 => by
    have h1 := h r (by simp)
    have h2 := Rows.flat_drop (rows := rs) (fun x hx => h x (by simp [hx])) n
    rw [List.drop_succ_cons, List.flatten_cons, h2, Nat.succ_mul, Nat.add_comm, ← h1, ← List.drop_drop, List.drop_left]
def maxL : Nat := 9223372036854775807
structure SlR (h : PH) (size : Nat) (v : Value) (rows : List (List Value)) : Prop where
  ok : Rows size rows
  here : ∃ a c, v = .slice a rows.length c ∧ rows.length ≤ c ∧ c ≤ maxL ∧ (rows ≠ [] → ∃ b o cs e fr, a = some ⟨b, o, none⟩ ∧ h b = some (.cells cs e fr) ∧ o + rows.length * size ≤ cs.size ∧ (cs.extract o (o + rows.length * size)).toList = rows.flatten) ∧ True
structure OwnR (h : PH) (e : TypeId) (size : Nat) (v : Value) (rows : List (List Value)) (F : List Nat) : Prop where
  ok : Rows size rows
  here : (v = .slice none 0 0 ∧ rows = [] ∧ F = []) ∨ ∃ b cap cs, v = .slice (some ⟨b, 0, none⟩) rows.length cap ∧ F = [b] ∧ h b = some (.cells cs e (0, 0)) ∧ rows.length ≤ cap ∧ cap ≤ maxL ∧ cs.size = cap * size ∧ cs.toList.take (rows.length * size) = rows.flatten
theorem OwnR.nil {h : PH} {e : TypeId} {size : Nat} : OwnR h e size (.slice none 0 0) [] [] := ⟨fun _ h => (by cases h), .inl ⟨rfl, rfl, rfl⟩⟩
theorem OwnR.slR {h : PH} {e : TypeId} {size : Nat} {v : Value} {rows : List (List Value)} {F : List Nat} (H : OwnR h e size v rows F) : SlR h size v rows := by
  refine ⟨H.ok, ?_⟩
  rcases H.here with ⟨rfl, rfl, _⟩ | ⟨b, cap, cs, rfl, _, hb, hle, hm, hs, ht⟩
  · exact ⟨none, 0, rfl, by simp, by simp, fun h => absurd rfl h, trivial⟩
  · have hmul : rows.length * size ≤ cap * size := Nat.mul_le_mul_right _ hle
    exact ⟨_, cap, rfl, hle, hm, fun _ => ⟨b, 0, cs, e, (0, 0), rfl, hb, by omega, by simpa [List.extract_eq_take_drop] using ht⟩, trivial⟩
theorem OwnR.upd {h h' : PH} {e : TypeId} {size : Nat} {v : Value} {rows : List (List Value)} {F G : List Nat} (H : OwnR h e size v rows F) (u : Upd G h h') (hd : ∀ b ∈ F, b ∉ G) : OwnR h' e size v rows F := by
  refine ⟨H.ok, ?_⟩
  rcases H.here with h1 | ⟨b, cap, cs, hv, hF, hb, hrest⟩
  · exact .inl h1
  · exact .inr ⟨b, cap, cs, hv, hF, u.get hb (hd b (by simp [hF])), hrest⟩
theorem OwnR.known {h : PH} {e : TypeId} {size : Nat} {v : Value} {rows : List (List Value)} {F : List Nat} (H : OwnR h e size v rows F) : ∀ b ∈ F, h b ≠ none := by
  intro b hb
  rcases H.here with ⟨_, _, rfl⟩ | ⟨b', cap, cs, _, rfl, hb', _⟩
  · cases hb
  · simp only [List.mem_singleton] at hb; subst hb; rw [hb']; simp
def inBlocks (v : Value) (G : List Nat) : Prop := ∀ a n c, v = .slice (some a) n c → a.block ∈ G
theorem SlR.upd {h h' : PH} {size : Nat} {v : Value} {rows : List (List Value)} {G : List Nat} (H : SlR h size v rows) (u : Upd G h h') (hd : ∀ a n c, v = .slice (some a) n c → a.block ∉ G) : SlR h' size v rows := by
  refine ⟨H.ok, ?_⟩
  obtain ⟨a, c, hv, h1, h2, h3, h4⟩ := H.here
  refine ⟨a, c, hv, h1, h2, fun hne => ?_, h4⟩
  obtain ⟨b, o, cs, e, fr, ha, hb, hrest⟩ := h3 hne
  exact ⟨b, o, cs, e, fr, ha, u.get hb (hd ⟨b, o, none⟩ _ _ (ha ▸ hv)), hrest⟩
theorem SlR.ext {h h' : PH} {size : Nat} {v : Value} {rows : List (List Value)} (H : SlR h size v rows) (u : Ext h h') : SlR h' size v rows := H.upd u (by simp)
section
variable {P : Program} {h : PH} {t t' e : TypeId}
theorem SlR.len {size : Nat} {v : Value} {rows : List (List Value)} (H : SlR h size v rows) (hu : P.underlying t = some (.slice e)) : SemP P (Builtin.len_ #[t] t' #[v]) = some (.int .i64 rows.length) := by
  obtain ⟨a, c, rfl, _⟩ := H.here
  exact len_slice hu
theorem SlR.small {size : Nat} {v : Value} {rows : List (List Value)} (H : SlR h size v rows) : rows.length ≤ maxL := by
  obtain ⟨a, c, _, h1, h2, _⟩ := H.here; omega
theorem SlR.at {size : Nat} {v : Value} {rows : List (List Value)} (H : SlR h size v rows) {i : TypeInfo} (hu : P.underlying t = some (.slice e)) (hi : P.info? e = some i) (hn : i.size = size) {k : IntKind} {j : Int} {r : List Value} (h0 : 0 ≤ j) (hr : rows[j.toNat]? = some r) :
    ∃ b o cs e' fr, SemP P (Instr.indexAt t v (.int k j)) = some (.pointer (some ⟨b, o, none⟩)) ∧ h b = some (.cells cs e' fr) ∧ o + size ≤ cs.size ∧ (cs.extract o (o + size)).toList = r := by
  have hlt : j.toNat < rows.length := (List.getElem?_eq_some_iff.1 hr).1
  obtain ⟨a, c, rfl, h1, h2, h3, _⟩ := H.here
  obtain ⟨b, o, cs, e', fr, rfl, hb, hle, hex⟩ := h3 (fun h => by rw [h] at hlt; simp at hlt)
  have hmul : (j.toNat + 1) * size ≤ rows.length * size := Nat.mul_le_mul_right _ hlt
  rw [Nat.add_mul, Nat.one_mul] at hmul
  refine ⟨b, o + j.toNat * size, cs, e', fr, indexAt_slice hu hi hn h0 (by omega), hb, by omega, ?_⟩
  have := H.ok.at hr
  rw [← hex] at this
  rw [← this]
  simp only [Array.toList_extract, List.extract_eq_take_drop, List.drop_take, List.drop_drop, List.take_take]
  rw [show o + j.toNat * size + size - (o + j.toNat * size) = size from by omega]
  congr 1
  omega
theorem SlR.loadAgg {size : Nat} {v : Value} {rows : List (List Value)} (H : SlR h size v rows) {d : TypeDesc} {i : TypeInfo} (hu : P.underlying t = some (.slice e)) (hi : P.info? e = some i) (hn : i.size = size) (he : P.underlying e = some d) (hd : flatD d = false)
    {k : IntKind} {j : Int} {r : List Value} (h0 : 0 ≤ j) (hr : rows[j.toNat]? = some r) :
    ∃ a, SemP P (Instr.indexAt t v (.int k j)) = some (.pointer (some a)) ∧ SemE P h (Instr.loadAt e (.pointer (some a))) = some (.agg r.toArray) := by
  obtain ⟨b, o, cs, e', fr, h1, hb, hle, hex⟩ := H.at hu hi hn (k := k) h0 hr
  refine ⟨_, h1, ?_⟩
  rw [loadAt_agg he hd hi hn hb hle]
  congr 2
  exact Array.ext' hex
theorem SlR.loadCell {v : Value} {rows : List (List Value)} (H : SlR h 1 v rows) {d : TypeDesc} {i : TypeInfo} (hu : P.underlying t = some (.slice e)) (hi : P.info? e = some i) (hn : i.size = 1) (he : P.underlying e = some d) (hd : flatD d = true)
    {k : IntKind} {j : Int} {x : Value} (h0 : 0 ≤ j) (hr : rows[j.toNat]? = some [x]) :
    ∃ a, SemP P (Instr.indexAt t v (.int k j)) = some (.pointer (some a)) ∧ SemE P h (Instr.loadAt e (.pointer (some a))) = some x := by
  obtain ⟨b, o, cs, e', fr, h1, hb, hle, hex⟩ := H.at hu hi hn (k := k) h0 hr
  refine ⟨_, h1, ?_⟩
  rw [loadAt_cell he hd]
  unfold cellH
  simp only [hb]
  have hlt : o < cs.size := by omega
  simp only [Array.toList_extract, List.extract_eq_take_drop, Nat.add_sub_cancel_left] at hex
  rw [List.drop_eq_getElem_cons (by simpa using hlt)] at hex
  simp only [List.take_succ_cons, List.take_zero, List.cons.injEq, and_true] at hex
  simp [hlt]
  exact hex
end
end Go.Proofs.YtcoajnpchhmgjaaGreatDoor
namespace Go.Proofs.YtcoajnpchhmgjaaGreatDoor
open Go
def writeA : Array Value → Nat → List Value → Array Value
  | c, _, [] => c
  | c, o, v :: vs => writeA (c.setIfInBounds o v) (o + 1) vs
theorem writeA_size : ∀ (vs : List Value) (c : Array Value) (o : Nat), (writeA c o vs).size = c.size
  | [], c, o => rfl
  | v :: vs, c, o => by rw [writeA, writeA_size vs]; simp
theorem writeA_list : ∀ (vs : List Value) (c : Array Value) (o : Nat), o + vs.length ≤ c.size → (writeA c o vs).toList = c.toList.take o ++ vs ++ c.toList.drop (o + vs.length)
  | [], c, o, _ => by simp [writeA]
  | v :: vs, c, o, h => by
    simp only [List.length_cons] at h
    rw [writeA, writeA_list vs _ _ (by simp; omega)]
    have hlt : o < c.toList.length := by simp; omega
    have hlt' : o < c.size := by omega
    simp only [Array.toList_setIfInBounds, List.length_cons]
    rw [List.set_eq_take_append_cons_drop, if_pos hlt]
    have h1 : (c.toList.take o ++ v :: c.toList.drop (o + 1)).take (o + 1) = c.toList.take o ++ [v] := by
      rw [List.take_append, List.length_take, Nat.min_eq_left (by omega), Nat.add_sub_cancel_left, List.take_of_length_le (by simp; omega)]
      simp
    rw [h1]
    have : (c.toList.take o ++ v :: c.toList.drop (o + 1)).drop (o + 1 + vs.length) = c.toList.drop (o + (vs.length + 1)) := by
      rw [List.drop_append, List.length_take, Nat.min_eq_left (by omega), List.drop_of_length_le (by simp; omega), List.nil_append,
        show o + 1 + vs.length - o = vs.length + 1 from by omega, List.drop_succ_cons, List.drop_drop]
      congr 1; omega
    rw [this]
    simp
section
variable {P : Program} {h : PH} {t t' t2 e : TypeId}
theorem semH_storeCells {b o : Nat} {e : TypeId} {Q : Unit → PH → Prop} : ∀ (vs : List Value) (i : Nat) (h : PH) (c : Array Value), h b = some (.cells c e (0, 0)) → o + i + vs.length ≤ c.size → (∀ v ∈ vs, isCell v = true) →
    Q () (if vs = [] then h else h.set b (.cells (writeA c (o + i) vs) e (0, 0))) → SemH P (storeCells ⟨b, o, none⟩ vs i) h Q
  | [], i, h, c, _, _, _, hq => by
    show Q () h
    simpa using hq
  | v :: vs, i, h, c, hb, hle, hv, hq => by
    simp only [List.length_cons] at hle
    have hlt : o + i < c.size := by omega
    have ha : (⟨b, o, none⟩ : Addr).add i = ⟨b, o + i, none⟩ := plain_add ..
    show isCell v = true ∧ frozenH h ((⟨b, o, none⟩ : Addr).add i) = false ∧ (∃ u, cellH h ((⟨b, o, none⟩ : Addr).add i) = some u) ∧ SemH P (storeCells ⟨b, o, none⟩ vs (i + 1)) (setCellH h ((⟨b, o, none⟩ : Addr).add i) v) Q
    rw [ha]
    refine ⟨hv v (by simp), by simp [frozenH, hb], ⟨c[o + i], by simp [cellH, hb, hlt]⟩, ?_⟩
    have hset : setCellH h ⟨b, o + i, none⟩ v = h.set b (.cells (c.setIfInBounds (o + i) v) e (0, 0)) := by
      funext x
      unfold setCellH PH.set
      by_cases hx : x = b
      · subst hx; simp [hb]
      · simp [hx]
    rw [hset]
    refine semH_storeCells vs (i + 1) _ _ set_same (by simp; omega) (fun u hu => hv u (by simp [hu])) ?_
    have h2 : ∀ o1 o2 : Obj, (h.set b o1).set b o2 = h.set b o2 := fun o1 o2 => by funext x; unfold PH.set; split <;> rfl
    simp only [List.cons_ne_nil, if_false] at hq
    split
    · rename_i hvs; subst hvs; simpa [writeA] using hq
    · rw [h2]; simpa [writeA, Nat.add_assoc] using hq
theorem set_set_same {h : PH} {b : Nat} {o1 o2 : Obj} : (h.set b o1).set b o2 = h.set b o2 := by funext x; unfold PH.set; split <;> rfl
theorem store_cell {d : TypeDesc} {b o : Nat} {c : Array Value} {v : Value} {k : Value → PH → Prop} (hu : P.underlying t = some d) (hd : flatD d = true) (hb : h b = some (.cells c e (0, 0))) (ho : o < c.size) (hv : isCell v = true) {i : TypeInfo} (hi : P.info? t = some i) (hn : i.size = 1)
    (hk : k undef (h.set b (.cells (c.setIfInBounds o v) e (0, 0)))) : SemH P (storeS t (.pointer (some ⟨b, o, none⟩)) v) h k := by
  have hc : v.cells = #[v] := by cases v <;> first | rfl | cases hv
  show SemH P (storeVar t ⟨b, o, none⟩ v >>= fun _ => pure undef) h k
  unfold storeVar
  rw [sizeOf_bind, bind_assoc, semH_info hi, hn, hc]
  simp only [List.size_toArray, List.length_cons, List.length_nil, Nat.zero_add, ne_eq, not_true_eq_false, if_false]
  refine SemH.bind (P := P) (s := storeCells ⟨b, o, none⟩ [v]) ?_
  refine semH_storeCells [v] 0 h c hb (by simp; omega) (by simp [hv]) ?_
  show k undef (if [v] = [] then h else _)
  simpa [writeA] using hk
theorem store_agg {b o : Nat} {c : Array Value} {cs : Array Value} {k : Value → PH → Prop} (hb : h b = some (.cells c e (0, 0))) {i : TypeInfo} (hi : P.info? t = some i) (hn : i.size = cs.size) (h0 : 0 < cs.size) (ho : o + cs.size ≤ c.size) (hv : ∀ v ∈ cs.toList, isCell v = true)
    (hk : k undef (h.set b (.cells (writeA c o cs.toList) e (0, 0)))) : SemH P (storeS t (.pointer (some ⟨b, o, none⟩)) (.agg cs)) h k := by
  show SemH P (storeVar t ⟨b, o, none⟩ (.agg cs) >>= fun _ => pure undef) h k
  unfold storeVar
  rw [sizeOf_bind, bind_assoc, semH_info hi, hn]
  simp only [Value.cells, ne_eq, not_true_eq_false, if_false]
  refine SemH.bind (P := P) (s := storeCells ⟨b, o, none⟩ cs.toList) ?_
  refine semH_storeCells cs.toList 0 h c hb (by simpa using ho) hv ?_
  have : cs.toList ≠ [] := by intro h; simp at h; subst h; simp at h0
  show k undef (if cs.toList = [] then h else _)
  simpa [this] using hk
theorem writeA_all {c : Array Value} {vs : List Value} (h : vs.length = c.size) : writeA c 0 vs = vs.toArray := by
  apply Array.ext'
  rw [writeA_list vs c 0 (by omega)]
  simp [h]
theorem sliceAt_eq {a : Option Addr} {len cap l hh : Nat} {lo hi : Option Value} {i : TypeInfo} (hu : P.underlying t = some (.slice e)) (hi' : P.info? e = some i)
    (hlo : lo = none ∧ l = 0 ∨ ∃ k, lo = some (.int k l)) (hhi : hi = none ∧ hh = len ∨ ∃ k, hi = some (.int k hh)) (h1 : l ≤ hh) (h2 : hh ≤ cap) :
    SemP P (Instr.sliceAt t (.slice a len cap) lo hi none) = some (.slice (if cap = l then a else a.map (·.add (l * i.size))) (hh - l) (cap - l)) := by
  show SemP P (underlying t >>= _) = _
  rw [semP_und hu]
  show SemP P (underlying t >>= _) = _
  rw [semP_und hu]
  have hb : Instr.sliceBounds true len cap lo hi none = pure (l, hh, cap) := by
    have hcast : ∀ n m : Nat, n ≤ m → (0 ≤ (n : Int) ∧ (n : Int) ≤ (m : Int)) := fun n m h => by omega
    rcases hlo with ⟨rfl, rfl⟩ | ⟨k, rfl⟩ <;> rcases hhi with ⟨rfl, rfl⟩ | ⟨k', rfl⟩ <;>
      simp [Instr.sliceBounds, Instr.sliceBound, asIntOf, hcast, h1, h2]
  simp only [hb, pure_bind]
  rw [sizeOf_bind, semP_info hi']
  rfl
theorem SlR.first {size : Nat} {v : Value} {rows : List (List Value)} (S : SlR h size v rows) : SemE P h (Builtin.firstCells size rows.length v) = some rows.flatten.toArray := by
  obtain ⟨a, c, rfl, h1, h2, h3, _⟩ := S.here
  by_cases hr : rows = []
  · subst hr
    cases a with
    | none => rfl
    | some a => simp [Builtin.firstCells, loadCells, loadCellsFrom, SemE, pure]
  · obtain ⟨b, o, cs, e', fr, rfl, hb, hle, hex⟩ := h3 hr
    show SemE P h (loadCells ⟨b, o, none⟩ (rows.length * size)) = _
    rw [semE_loadCells hb hle]
    congr 1
    exact Array.ext' (by simpa using hex)
theorem semH_of_semE {α β : Type} {s : Sem α} {f : α → Sem β} {a : α} {Q : β → PH → Prop} (hs : SemE P h s = some a) (hq : SemH P (f a) h Q) : SemH P (s >>= f) h Q :=
  SemH.bind (P := P) (s := s) (f := f) (SemE.semH hs hq)
theorem semH_choose {α : Type} {q : Question} {f : Nat → Sem α} {Q : α → PH → Prop} : SemH P (choose q >>= f) h Q = ∀ t, SemH P (f (if q.forced then 0 else q.cut t)) h Q := rfl
theorem semH_askRoom {α : Type} {n : Nat} {f : Unit → Sem α} {Q : α → PH → Prop} : SemH P (askRoom n >>= f) h Q = SemH P (f ()) h Q := by
  unfold askRoom
  split <;> rfl
def capOf : Value → Nat
  | .slice _ _ c => c
  | _ => 0
theorem append_own {size bytes : Nat} {v x : Value} {rows ys : List (List Value)} {F : List Nat} {i : TypeInfo} {z : Value} {e2 : TypeId} {k : Value → PH → Prop}
    (hu : P.underlying t = some (.slice e)) (hu2 : P.underlying t2 = some (.slice e2)) (hi : P.info? e = some i) (hn : i.size = size) (hby : i.bytes = bytes) (hz : i.zero = some z) (hzs : z.cells.size = size) (hb0 : 0 < bytes)
    (H : OwnR h e size v rows F) (S : SlR h size x ys) (hcell : ∀ r ∈ ys, ∀ u ∈ r, isCell u = true) (hl : (rows.length + ys.length) * bytes ≤ 140737488355328)
    (hk : ∀ v' h' F', OwnR h' e size v' (rows ++ ys) F' → Upd F h h' → (∀ b ∈ F', b ∈ F ∨ h b = none) → capOf v ≤ capOf v' → k v' h') : SemH P (Builtin.append_ #[t, t2] t' #[v, x]) h k := by
  have hbig : rows.length + ys.length ≤ 140737488355328 := Nat.le_trans (Nat.le_mul_of_pos_right _ hb0) hl
  obtain ⟨xa, xc, hx, hx1, hx2, hx3, hx4⟩ := S.here
  have hfirst := S.first (P := P)
  have hrows : Rows size (rows ++ ys) := H.ok.append S.ok
  have hflat : ∀ u ∈ ys.flatten, isCell u = true := fun u hu => by
    obtain ⟨r, hr, hur⟩ := List.mem_flatten.1 hu; exact hcell r hr u hur
  -- a new block
  have grown : ∀ (m : Nat), rows.length + ys.length ≤ m → m ≤ maxL → capOf v ≤ m → ∀ r, h r = none →
      k (.slice (some ⟨r, 0, none⟩) (rows.length + ys.length) m) (h.set r (.cells (rows.flatten.toArray ++ ys.flatten.toArray ++ Builtin.zeroCells z.cells (m - (rows.length + ys.length))) e (0, 0))) := by
    intro m hm hmax hcapv r hr
    refine hk _ _ [r] ⟨hrows, .inr ⟨r, m, _, by rw [List.length_append], rfl, set_same, by simpa using hm, hmax, ?_, ?_⟩⟩ (Upd.new hr) (fun b hb => .inr (by simp at hb; subst hb; exact hr)) hcapv
    · simp only [Array.size_append, List.size_toArray, H.ok.flat, S.ok.flat, Builtin.zeroCells, Array.size_map, Array.size_range, hzs]
      rw [← Nat.add_mul, ← Nat.add_mul]; congr 1; omega
    · have hlen : (rows ++ ys).length * size = (rows.flatten ++ ys.flatten).length := by rw [List.length_append, List.length_append, H.ok.flat, S.ok.flat, Nat.add_mul]
      simp only [Array.toList_append, hlen, List.flatten_append]
      rw [List.take_append_of_le_length (Nat.le_refl _), List.take_length]
  obtain ⟨va, vc, hv, hv1, hv2, _, _⟩ := H.slR.here
  have hvfirst := H.slR.first (P := P)
  subst hx; subst hv
  simp only [Builtin.append_, List.getElem?_toArray, List.getElem?_cons_zero, List.getElem?_cons_succ, semH_und hu, semH_und hu2, sizeOf_bind, semH_info hi, pure_bind, Bool.false_eq_true, if_false, Builtin.lenOf, Bool.not_false, if_true, hn]
  by_cases hfit : rows.length + ys.length ≤ vc
  · rw [if_pos hfit]
    refine semH_of_semE hfirst ?_
    rcases H.here with ⟨hv', hr, hF⟩ | ⟨b, cap, cs, hv', hF, hb, hle, hcap, hcs, htake⟩
    · subst hr
      simp only [List.length_nil, Value.slice.injEq, true_and] at hv'
      obtain ⟨rfl, rfl⟩ := hv'
      have hy : ys = [] := List.eq_nil_of_length_eq_zero (by omega)
      subst hy
      exact hk _ _ [] (by simpa using OwnR.nil) Upd.refl (by simp) (Nat.le_refl _)
    · simp only [Value.slice.injEq, true_and] at hv'
      obtain ⟨rfl, rfl⟩ := hv'
      have hmul : (rows.length + ys.length) * size ≤ vc * size := Nat.mul_le_mul_right _ hfit
      have hadd : (⟨b, 0, none⟩ : Addr).add (rows.length * size) = ⟨b, 0 + rows.length * size, none⟩ := plain_add ..
      show SemH P (storeCells ((⟨b, 0, none⟩ : Addr).add (rows.length * size)) ys.flatten.toArray.toList >>= fun _ => pure _) h k
      rw [hadd]
      refine SemH.bind (P := P) (s := storeCells _ _) ?_
      refine semH_storeCells _ 0 h cs hb (by simp only [S.ok.flat, hcs]; rw [Nat.add_mul] at hmul; omega) (by simpa using hflat) ?_
      show k _ _
      simp only [Nat.zero_add, Nat.add_zero]
      have fin : ∀ cs' : Array Value, cs'.size = cs.size → cs'.toList.take ((rows.length + ys.length) * size) = rows.flatten ++ ys.flatten → ∀ h' : PH, h' b = some (.cells cs' e (0, 0)) → Upd F h h' →
          k (.slice (some ⟨b, 0, none⟩) (rows.length + ys.length) vc) h' := by
        intro cs' hsz htk h' hb' hu'
        refine hk _ _ [b] ⟨hrows, .inr ⟨b, vc, cs', by rw [List.length_append], rfl, hb', by simpa using hfit, hcap, by rw [hsz, hcs], by rw [List.length_append, htk, List.flatten_append]⟩⟩ hu' (fun b' hb' => .inl (hF ▸ hb')) (Nat.le_refl _)
      split
      · rename_i hys
        refine fin cs rfl ?_ h hb Upd.refl
        have : ys.length * size = 0 := by rw [← S.ok.flat, hys]; rfl
        rw [Nat.add_mul, this, hys, List.append_nil, Nat.add_zero]; exact htake
      · refine fin _ (writeA_size _ _ _) ?_ _ set_same (Upd.set (by rw [hF]; simp))
        have hlen : rows.length * size + ys.flatten.length ≤ cs.size := by rw [S.ok.flat, ← Nat.add_mul, hcs]; exact hmul
        rw [writeA_list _ _ _ hlen, htake]
        have hlen2 : (rows.length + ys.length) * size = (rows.flatten ++ ys.flatten).length := by rw [List.length_append, H.ok.flat, S.ok.flat, Nat.add_mul]
        rw [hlen2, List.take_append_of_le_length (Nat.le_refl _), List.take_length]
  · rw [if_neg hfit]
    have hlt : vc < rows.length + ys.length := by omega
    have h63 : ¬ (((rows.length + ys.length : Nat) : Int) > IntKind.i64.max ∧ (False ∨ i.bytes = 0)) := by
      rintro ⟨_, hh⟩
      rcases hh with hh | hh
      · exact hh
      · omega
    have hfits : ¬ (Builtin.nextslicecap (rows.length + ys.length) vc * i.bytes > 2 ^ 48) := by
      rw [hby]
      have := growslice_fits hlt hl
      omega
    rw [semH_info hi, if_neg h63, semH_info hi, if_neg hfits, semH_choose]
    intro tt
    rw [semH_info hi, semH_askRoom]
    refine semH_of_semE hvfirst (semH_of_semE hfirst ?_)
    have hzv : zeroValue e = (typeInfo e >>= fun i => match i.zero with | some v => pure v | none => unsupported (.resourceLimit "a value of more than 2^22 cells")) := rfl
    rw [hzv, bind_assoc, semH_info hi, hz, pure_bind]
    have hcut : ∀ n m : Nat, n ≤ 140737488355328 → n ≤ (Question.appendCap n m e).cut tt ∧ (Question.appendCap n m e).cut tt ≤ maxL := by
      intro n m hn
      have hpos : 0 < 2 ^ 63 - n := by omega
      have := Nat.mod_lt tt hpos
      simp only [Question.cut, maxL]
      omega
    have hforced : (Question.appendCap (rows.length + ys.length) vc e).forced = false := rfl
    rw [hforced]
    obtain ⟨hc1, hc2⟩ := hcut (rows.length + ys.length) vc hbig
    intro r hr
    exact grown _ hc1 hc2 (show vc ≤ _ by omega) r hr
theorem addr_block {a : Addr} {n : Nat} : (a.add n).block = a.block := by unfold Addr.add; split <;> rfl
theorem SlR.cut {size : Nat} {v : Value} {rows : List (List Value)} (H : SlR h size v rows) {i : TypeInfo} (hu : P.underlying t = some (.slice e)) (hi' : P.info? e = some i) (hn : i.size = size) {lo hi : Option Value} {l m : Nat}
    (hlo : lo = none ∧ l = 0 ∨ ∃ k, lo = some (.int k l)) (hhi : hi = none ∧ m = rows.length ∨ ∃ k, hi = some (.int k m)) (h1 : l ≤ m) (h2 : m ≤ rows.length) :
    ∃ v', SemP P (Instr.sliceAt t v lo hi none) = some v' ∧ SlR h size v' ((rows.take m).drop l) ∧ ∀ x n c, v' = .slice (some x) n c → ∃ x0 n0 c0, v = .slice (some x0) n0 c0 ∧ x.block = x0.block := by
  obtain ⟨a, c, rfl, hc1, hc2, hc3, hc4⟩ := H.here
  refine ⟨_, sliceAt_eq hu hi' hlo hhi h1 (by omega), ⟨(H.ok.take m).drop l, ?_⟩, ?_⟩
  · have hlen : ((rows.take m).drop l).length = m - l := by simp; omega
    refine ⟨_, _, by rw [hlen], by omega, by omega, fun hne => ?_, trivial⟩
    · have hpos : 0 < m - l := by rw [← hlen]; exact List.length_pos_iff.2 hne
      have hne' : rows ≠ [] := fun h => by subst h; simp at hlen; omega
      obtain ⟨b, o, cs, e', fr, rfl, hb, hle, hex⟩ := hc3 hne'
      have hm1 : m * size ≤ rows.length * size := Nat.mul_le_mul_right _ h2
      have hm2 : m * size = l * size + (m - l) * size := by rw [← Nat.add_mul]; congr 1; omega
      refine ⟨b, o + l * size, cs, e', fr, ?_, hb, by rw [hlen]; omega, ?_⟩
      · rw [if_neg (by omega), Option.map_some, hn, plain_add]
      · rw [hlen, (H.ok.take m).flat_drop, H.ok.flat_take, ← hex]
        simp only [Array.toList_extract, List.extract_eq_take_drop]
        rw [List.take_take, Nat.min_eq_left (by omega), List.drop_take, List.drop_drop]
        congr 1
        omega
  · intro x n c' hv
    simp only [Value.slice.injEq] at hv
    have hx := hv.1
    split at hx
    · exact ⟨x, _, _, by rw [hx], rfl⟩
    · obtain ⟨y, hy, rfl⟩ := Option.map_eq_some_iff.1 hx
      exact ⟨y, _, _, by rw [hy], addr_block⟩
end
end Go.Proofs.YtcoajnpchhmgjaaGreatDoor
namespace Go.Proofs.YtcoajnpchhmgjaaGreatDoor
open Go
section
variable {P : Program} {h : PH} {t t' t2 e : TypeId}
theorem store_box {b : Nat} {c : Array Value} {cs : Array Value} {k : Value → PH → Prop} (hb : h b = some (.cells c e (0, 0))) {i : TypeInfo} (hi : P.info? t = some i) (hn : i.size = cs.size) (h0 : 0 < cs.size) (ho : c.size = cs.size) (hv : ∀ v ∈ cs.toList, isCell v = true)
    (hk : k undef (h.set b (.cells cs e (0, 0)))) : SemH P (storeS t (.pointer (some ⟨b, 0, none⟩)) (.agg cs)) h k := by
  refine store_agg hb hi hn h0 (by omega) hv ?_
  rw [writeA_all (by simp [ho])]
  simpa using hk
theorem eqlNil {x y : Operand} {a : Option Addr} {n c : Nat} (hu : P.underlying t = some (.slice e)) : SemE P h (binS .eql t x y (.slice a n c) (.slice none 0 0)) = some (.bool a.isNone) := by
  show SemE P h (binOp .eql t (.slice a n c) (.slice none 0 0)) = _
  show SemE P h (Op.equalIn Op.maxDepth t (.slice a n c) (.slice none 0 0) >>= fun b => (pure (Value.bool b) : Sem Value)) = _
  rw [show Op.maxDepth = 9999 + 1 from rfl]
  rw [semE_bind]
  have : SemE P h (Op.equalIn (9999 + 1) t (.slice a n c) (.slice none 0 0)) = some a.isNone := by
    rw [Op.equalIn]
    rw [semE_und hu]
    cases a <;> rfl
  rw [this]; rfl
theorem eqlPtrNil {x y : Operand} {a : Option Addr} (hu : P.underlying t = some (.pointer e)) : SemE P h (binS .eql t x y (.pointer a) (.pointer none)) = some (.bool a.isNone) := by
  show SemE P h (binOp .eql t (.pointer a) (.pointer none)) = _
  have : SemE P h (Op.equalIn (9999 + 1) t (.pointer a) (.pointer none)) = some a.isNone := by
    rw [Op.equalIn]
    rw [semE_und hu]
    cases a <;> rfl
  show SemE P h (Op.equalIn Op.maxDepth t (.pointer a) (.pointer none) >>= fun b => (pure (Value.bool b) : Sem Value)) = _
  rw [show Op.maxDepth = 9999 + 1 from rfl, semE_bind, this]; rfl
theorem OwnR.mk' {b cap : Nat} {size : Nat} {rows : List (List Value)} {cs : Array Value} (hr : Rows size rows) (hb : h b = some (.cells cs e (0, 0))) (hle : rows.length ≤ cap) (hm : cap ≤ maxL) (hs : cs.size = cap * size) (ht : cs.toList.take (rows.length * size) = rows.flatten) :
    OwnR h e size (.slice (some ⟨b, 0, none⟩) rows.length cap) rows [b] := ⟨hr, .inr ⟨b, cap, cs, rfl, rfl, hb, hle, hm, hs, ht⟩⟩
theorem OwnR.lit {r n : Nat} {size : Nat} {rows : List (List Value)} {cs : Array Value} (hr : Rows size rows) (hb : h r = some (.cells cs e (0, 0))) (hn : n = rows.length) (hm : n ≤ maxL) (hcs : cs.toList = rows.flatten) : OwnR h e size (.slice (some ⟨r, 0, none⟩) n n) rows [r] := by
  subst hn
  have hsz : cs.size = rows.length * size := by rw [← hr.flat, ← hcs]; simp
  refine OwnR.mk' hr hb (Nat.le_refl _) hm hsz ?_
  rw [← hsz, hcs, List.take_of_length_le]
  rw [← hcs]; simp
theorem OwnR.write {size l : Nat} {v : Value} {rows ys : List (List Value)} {F : List Nat} (H : OwnR h e size v rows F) (hy : Rows size ys) (hle : l + ys.length ≤ rows.length) {b n cap : Nat} {c : Array Value} (hv : v = .slice (some ⟨b, 0, none⟩) n cap) (hb : h b = some (.cells c e (0, 0))) :
    OwnR (h.set b (.cells (writeA c (l * size) ys.flatten) e (0, 0))) e size v (rows.take l ++ ys ++ rows.drop (l + ys.length)) F := by
  have hlen : (rows.take l ++ ys ++ rows.drop (l + ys.length)).length = rows.length := by simp; omega
  refine ⟨((H.ok.take l).append hy).append (H.ok.drop _), ?_⟩
  rcases H.here with ⟨rfl, _, _⟩ | ⟨b', cap', cs, rfl, rfl, hb', h1, h2, h3, h4⟩
  · cases hv
  · simp only [Value.slice.injEq, Option.some.injEq, Addr.mk.injEq, and_true] at hv
    obtain ⟨rfl, rfl, rfl⟩ := hv
    rw [hb] at hb'
    cases hb'
    refine .inr ⟨b', cap', _, by rw [hlen], rfl, set_same, by rw [hlen]; exact h1, h2, by rw [writeA_size]; exact h3, ?_⟩
    have m1 : (l + ys.length) * size ≤ rows.length * size := Nat.mul_le_mul_right _ hle
    have m2 : rows.length * size ≤ cap' * size := Nat.mul_le_mul_right _ h1
    rw [Nat.add_mul] at m1
    rw [hlen, writeA_list _ _ _ (by rw [hy.flat, h3]; omega)]
    rw [List.flatten_append, List.flatten_append, H.ok.flat_take, H.ok.flat_drop, ← h4, hy.flat]
    rw [List.take_take, Nat.min_eq_left (by omega)]
    rw [List.take_append]
    have e1 : (List.take (l * size) c.toList ++ ys.flatten).length = l * size + ys.length * size := by
      rw [List.length_append, hy.flat, List.length_take, Nat.min_eq_left (by simp [h3]; omega)]
    rw [e1, List.take_of_length_le (by omega), List.drop_take, Nat.add_mul]
theorem OwnR.storeCell {j : Nat} {v : Value} {rows : List (List Value)} {F : List Nat} (H : OwnR h e 1 v rows F) {i : TypeInfo} {d : TypeDesc} (hu : P.underlying t = some (.slice e)) (hi : P.info? e = some i) (hn : i.size = 1) (he : P.underlying e = some d) (hd : flatD d = true) {k : IntKind} (hj : j < rows.length)
    {x : Value} (hc : isCell x = true) :
    ∃ a, SemP P (Instr.indexAt t v (.int k j)) = some (.pointer (some a)) ∧ ∀ K : Value → PH → Prop, (∀ h', OwnR h' e 1 v (rows.take j ++ [[x]] ++ rows.drop (j + 1)) F → Upd F h h' → K undef h') → SemH P (storeS e (.pointer (some a)) x) h K := by
  rcases H.here with ⟨rfl, rfl, _⟩ | ⟨b, cap, cs, rfl, rfl, hb, h1, h2, h3, h4⟩
  · simp at hj
  · refine ⟨_, indexAt_slice hu hi hn (by omega) (by omega), fun K hK => ?_⟩
    have hw := H.write (l := j) (ys := [[x]]) (by intro r hr; simp at hr; subst hr; rfl) (by simp only [List.length_cons, List.length_nil]; omega) rfl hb
    have e1 : (0 + (j : Int).toNat * 1) = j := by simp
    rw [e1]
    refine store_cell he hd hb (by rw [h3]; omega) hc hi hn ?_
    have e2 : ([[x]] : List (List Value)).flatten = [x] := by simp
    rw [e2, Nat.mul_one] at hw
    exact hK _ hw (Upd.set (by simp))
end
end Go.Proofs.YtcoajnpchhmgjaaGreatDoor
namespace Go.Proofs.YtcoajnpchhmgjaaGreatDoor
open Go Go.RowKit Go.ChangeShapes
def heapOf (W : World) : PH := fun b => W.heap[b]?
theorem heapOf_sub (W : World) : Sub (heapOf W) W := fun _ _ h => h
structure Kept (W W' : World) : Prop where
  os : W'.os = W.os
  output : W'.output = W.output
  heap : ∀ b, b < W.heap.size → W'.heap[b]? = W.heap[b]?
theorem calls_kept {P : Program} {f : FuncId} {args : Array Value} {W : World} (H : CallsH P f args (heapOf W) fun v h' => v = .bool true ∧ Ext (heapOf W) h') (he : enters P f = true := by kernel_rfl) :
    Calls P f args W fun e w' => e = .returned (.bool true) ∧ Kept W w' := by
  refine (H.calls he W (heapOf_sub W)).mono ?_
  rintro e w' ⟨v, h', rfl, ⟨rfl, hx⟩, hs, hf⟩
  refine ⟨rfl, hf.os, hf.output, fun b hb => ?_⟩
  cases e : W.heap[b]? with
  | none => simp at e; omega
  | some o => exact hs b o (hx.get e)
theorem Kept.cell {W W' : World} (K : Kept W W') (a : Addr) (h : a.block < W.heap.size) : W'.cell? a = W.cell? a := by
  unfold World.cell?; rw [K.heap _ h]
theorem Kept.frozen {W W' : World} (K : Kept W W') (a : Addr) (h : a.block < W.heap.size) : W'.frozen? a = W.frozen? a := by
  unfold World.frozen?; rw [K.heap _ h]
theorem Kept.sameAt {W W' : World} (K : Kept W W') (p : MemPlace) (h : p.block < W.heap.size) : W.sameAt W' p := by
  cases p with
  | cell b off => exact K.cell _ h
  | map b => exact K.heap _ h
theorem Kept.but {W W' : World} (K : Kept W W') (may : MemPlace → Prop) : W.keptBut W' may := by
  refine ⟨K.os, K.output, fun i hi => ?_⟩
  rw [K.heap i hi]
  cases W.heap[i]? with
  | none => rfl
  | some o =>
    cases o with
    | cells c t fr => exact ⟨rfl, rfl, rfl, fun _ _ => rfl⟩
    | map es clock => exact .inr ⟨rfl, rfl⟩
    | _ => rfl
theorem trodAll_carry {H : Type} {enc : TypeId × Value → H} {P : Program} {w w' : World} {base : Nat} {spare : Nat → Bool} {held : Bool} : ∀ {ts : List TypeId} {vs : List Value} {ds : List (DataW H)} {ps : List MemPlace},
    DataW.TrodAll enc P w base spare held ts vs ds ps → (∀ p ∈ ps, w.sameAt w' p) → DataW.TrodAll enc P w' base spare held ts vs ds ps
  | [], [], [], _, h, _ => h
  | _ :: _, _ :: _, _ :: _, _, ⟨p, q, ⟨n, h1⟩, h2, e⟩, hs => ⟨p, q, ⟨n, DataW.trod_carry n _ _ _ h1 fun x hx => hs x (by rw [e]; exact List.mem_append_left _ hx)⟩, trodAll_carry h2 (fun x hx => hs x (by rw [e]; exact List.mem_append_right _ hx)), e⟩
theorem post_of_kept {H : Type} {enc : TypeId × Value → H} {P : Program} {f : Func} {s : ChangeSpec} {apart fresh handsOn again : Bool} {W W' : World} {args : Array Value} {ds gs : List (DataW H)} {before : List MemPlace}
    {T : TypeId → Prop} (KP : Kids P T) (full : ∀ t e, T t → P.underlying t = some (.slice e) → 0 < P.cellsOf e) (hT : ∀ t ∈ f.params.toList, T t) {tb : TypeId} (hb : P.underlying tb = some .bool) (hr : f.resultTypes = #[tb])
    (hs : s.vars = []) (hW : DataW.Whole enc P f.params.toList s.vars apart W args.toList ds gs before) (hK : Kept W W')
    (e1 : (s.fn H (ds ++ gs)).results = [.lit (.bool true)]) (e2 : (s.fn H (ds ++ gs)).args = ds) (e3 : (s.fn H (ds ++ gs)).vars = []) :
    s.post enc P f apart fresh handsOn again W args (.bool true) W' := by
  have hlt := fun p hp => hW.lt p hp
  have hW' := hW
  obtain ⟨pa, pv, hA, hV, rfl, hz, hn⟩ := hW'
  rw [hs] at hV
  obtain ⟨rfl, rfl⟩ := trodVars_none hV
  simp only [List.append_nil] at *
  have hargs : ∀ sp : Nat → Bool, (∀ p ∈ pa, sp p.block = true) → DataW.TrodAll enc P W' 0 sp true f.params.toList args.toList ds pa := fun sp hsp =>
    trodAll_carry (DataW.TrodAll.respare KP full hT hA hsp) fun p hp => hK.sameAt p (hlt p hp)
  have hres : ∀ (b : Nat) (sp : Nat → Bool) (hd : Bool), DataW.TrodAll enc P W' b sp hd f.resultTypes.toList ((Value.bool true).resultList f.resultTypes.size) (s.fn H ds).results [] := fun b sp hd => by
    rw [e1, hr]; exact trodAll_cons_mk (shut_bool hb _) trodAll_mk0
  have hvars : ∀ sp : Nat → Bool, DataW.TrodVars enc P W' sp s.vars (s.fn H ds).vars [] := fun sp => by rw [e3, hs]; rfl
  have hold : ∀ p ∈ pa, (fun b => decide (b < W.heap.size)) p.block = true := fun p hp => by simpa using hlt p hp
  refine ⟨ds, [], pa, [], pa, [], hW, by simpa using hres _ _ _, by simpa [e2] using hargs _ hold, by simpa using hvars _, World.keptBut_mono (fun p hp => ⟨hp, by simp [hp]⟩) (hK.but (· ∈ pa)), fun _ => ?_⟩
  refine ⟨ok_one hr rfl (okWide_bool_mk hb _), _, _, ([] ++ pa) ++ [], ⟨[] ++ pa, [], trodAll_append (hargs _ (fun _ _ => rfl)) (hres _ _ _), hvars _, rfl, ?_, ?_⟩, ?_⟩
  · intro b off hp
    have hp' : MemPlace.cell b off ∈ pa := by simpa using hp
    rw [hK.frozen ⟨b, off, none⟩ (hlt _ hp')]
    exact hz b off hp'
  · intro ha
    simpa using hn ha
  · intro p hp _
    simpa using hp
variable {H : Type} {enc : TypeId × Value → H} {P : Program} {w : World} {spare : Nat → Bool} {held : Bool}
def Rd (enc : TypeId × Value → H) (P : Program) (w : World) (spare : Nat → Bool) (held : Bool) (t : TypeId) (cs : List Value) : Prop := ∃ n x, DataW.trod enc P w 0 spare held n t cs = some x
theorem rd_int {t : TypeId} {k : IntKind} {cs : List Value} (ht : P.underlying t = some (.int k)) (h : Rd enc P w spare held t cs) : ∃ n, cs = [.int k n] ∧ (Lit.int k n).wf = true := by
  obtain ⟨n, x, h⟩ := h
  obtain ⟨i, rfl, _, hw⟩ := DataW.trod_int ht h
  exact ⟨i, rfl, hw⟩
theorem rd_bool {t : TypeId} {cs : List Value} (ht : P.underlying t = some .bool) (h : Rd enc P w spare held t cs) : ∃ b, cs = [.bool b] := by
  obtain ⟨n, x, h⟩ := h
  obtain ⟨i, rfl, _⟩ := DataW.trod_bool ht h
  exact ⟨i, rfl⟩
theorem rd_string {t : TypeId} {cs : List Value} (ht : P.underlying t = some .string) (h : Rd enc P w spare held t cs) : ∃ s : ByteArray, cs = [.string s] ∧ s.size ≤ maxLen := by
  obtain ⟨n, x, h⟩ := h
  obtain ⟨i, rfl, _, hw⟩ := DataW.trod_string ht h
  exact ⟨i, rfl, hw⟩
theorem rd_struct {t : TypeId} {fs : Array Field} {cs : List Value} (ht : P.underlying t = some (.struct fs)) (h : Rd enc P w spare held t cs) :
    cs.length = P.cellsOf t ∧ ∀ (i : Nat) (f : Field), fs[i]? = some f → Rd enc P w spare held f.type ((cs.drop f.offset).take (P.cellsOf f.type)) := by
  obtain ⟨n, x, h⟩ := h
  obtain ⟨xs, m, rfl, _, hl, hx, hf⟩ := DataW.trod_struct ht h
  refine ⟨hl, fun i f hi => ?_⟩
  have h1 := hf i f hi
  have hlt : i < xs.length := by rw [hx]; exact (Array.getElem?_eq_some_iff.1 hi).1
  rw [List.getElem?_eq_getElem hlt] at h1
  exact ⟨m, _, h1⟩
theorem rd_array {t e : TypeId} {n : Nat} {cs : List Value} (ht : P.underlying t = some (.array n e)) (h : Rd enc P w spare held t cs) :
    cs.length = P.cellsOf t ∧ ∀ i, i < n → Rd enc P w spare held e ((cs.drop (i * P.cellsOf e)).take (P.cellsOf e)) := by
  obtain ⟨m, x, h⟩ := h
  cases m with
  | zero => simp [DataW.trod] at h
  | succ m =>
    unfold DataW.trod at h
    rw [ht] at h
    split at h <;> simp_all
    obtain ⟨hl, xs, hp, hd⟩ := h
    intro i hi
    have := mapM_some_get hp i i (by simp [hi])
    have hlt : i < xs.length := by have := mapM_some_length hp; simp at this; omega
    rw [List.getElem?_eq_getElem hlt] at this
    exact ⟨m, _, this⟩
theorem cell_heap {w : World} {a : Addr} {v : Value} (h : w.cell? a = some v) : ∃ c t fr, w.heap[a.block]? = some (.cells c t fr) ∧ a.spot = none ∧ c[a.off]? = some v := by
  unfold World.cell? at h
  split at h
  · rename_i c t fr e
    cases hs : a.spot with
    | none => rw [hs] at h; exact ⟨c, t, fr, e, rfl, by simpa using h⟩
    | some b => rw [hs] at h; simp at h
  · cases h
theorem add_plain {a : Addr} (h : a.spot = none) (n : Nat) : a.add n = ⟨a.block, a.off + n, none⟩ := by
  obtain ⟨b, o, s⟩ := a
  simp only at h
  subst h
  exact plain_add b o n
theorem rd_slice {t e : TypeId} {cs : List Value} (ht : P.underlying t = some (.slice e)) (hpos : 0 < P.cellsOf e) (h : Rd enc P w spare held t cs) :
    ∃ v rows, cs = [v] ∧ SlR (heapOf w) (P.cellsOf e) v rows ∧ ∀ r ∈ rows, Rd enc P w spare held e r := by
  obtain ⟨n, x, h⟩ := h
  rcases Go.Deep.open_slice ht h with ⟨rfl, _⟩ | ⟨a, len, cap, m, k, D, Pl, rfl, hb, hl, hm, hmm, rfl, hx⟩
  · exact ⟨_, [], rfl, OwnR.nil (e := e).slR, by simp⟩
  have hlm : len ≤ m := by rw [hmm]; split <;> omega
  obtain ⟨R, hR⟩ := Go.Deep.choose_lt (α := List Value) (n := len) (p := fun i r => w.cells? 0 (a.add (i * P.cellsOf e)) (P.cellsOf e) = some r ∧ Rd enc P w spare held e r) (fun i hi => by
    obtain ⟨r, h1, h2⟩ := hx i (by omega)
    exact ⟨r, h1, k, _, h2⟩)
  have hrows : Rows (P.cellsOf e) ((List.range len).map R) := fun r hr => by
    obtain ⟨i, hi, rfl⟩ := List.mem_map.1 hr
    exact (World.cells?_some (hR i (List.mem_range.1 hi)).1).2.1
  refine ⟨_, (List.range len).map R, rfl, ⟨hrows, some a, cap, by simp, by simpa using hl, hm, fun hne => ?_, trivial⟩, fun r hr => ?_⟩
  · have hlen : 0 < len := by
      rcases Nat.eq_zero_or_pos len with h0 | h0
      · subst h0; simp at hne
      · exact h0
    have cell : ∀ i j, i < len → j < P.cellsOf e → w.cell? (a.add (i * P.cellsOf e + j)) = (R i)[j]? := fun i j hi hj => by
      rw [← Go.Deep.add_add]; exact (World.cells?_some (hR i hi).1).2.2 j hj
    have hRl : ∀ i, i < len → (R i).length = P.cellsOf e := fun i hi => (World.cells?_some (hR i hi).1).2.1
    have c0 := cell 0 0 hlen hpos
    rw [Nat.zero_mul, Nat.zero_add, show a.add 0 = a by simp [Addr.add], List.getElem?_eq_getElem (by rw [hRl 0 hlen]; exact hpos)] at c0
    obtain ⟨c, tt, fr, hh, hs, _⟩ := cell_heap c0
    have at_ : ∀ i j, i < len → j < P.cellsOf e → c[a.off + (i * P.cellsOf e + j)]? = (R i)[j]? := fun i j hi hj => by
      have h1 := cell i j hi hj
      rw [add_plain hs] at h1
      have hj' : j < (R i).length := by rw [hRl i hi]; exact hj
      rw [List.getElem?_eq_getElem hj'] at h1 ⊢
      obtain ⟨c', _, _, hh', _, h2⟩ := cell_heap h1
      simp only [hh, Option.some.injEq, Obj.cells.injEq] at hh'
      rw [← hh'.1] at h2
      exact h2
    have hle : a.off + len * P.cellsOf e ≤ c.size := by
      have h1 := at_ (len - 1) (P.cellsOf e - 1) (by omega) (by omega)
      have hj' : P.cellsOf e - 1 < (R (len - 1)).length := by rw [hRl _ (by omega)]; omega
      rw [List.getElem?_eq_getElem hj'] at h1
      have h2 := (Array.getElem?_eq_some_iff.1 h1).1
      have h3 : (len - 1) * P.cellsOf e + P.cellsOf e = len * P.cellsOf e := by rw [← Nat.succ_mul]; congr 1; omega
      omega
    refine ⟨a.block, a.off, c, tt, fr, by rw [← hs], hh, by simpa using hle, ?_⟩
    have hfl := hrows.flat
    simp only [List.length_map, List.length_range] at hfl
    apply List.ext_getElem?
    intro q
    by_cases hq : q < len * P.cellsOf e
    · have hq1 : q / P.cellsOf e < len := Nat.div_lt_of_lt_mul (by rw [Nat.mul_comm]; exact hq)
      have hq2 := Nat.mod_lt q hpos
      have hq3 : q / P.cellsOf e * P.cellsOf e + q % P.cellsOf e = q := by rw [Nat.mul_comm]; exact Nat.div_add_mod _ _
      have h1 := at_ _ _ hq1 hq2
      rw [hq3] at h1
      have h2 := hrows.at (i := q / P.cellsOf e) (r := R (q / P.cellsOf e)) (by simp [hq1])
      have h3 : ((List.range len).map R).flatten[q]? = (R (q / P.cellsOf e))[q % P.cellsOf e]? := by
        rw [← h2, List.getElem?_take_of_lt hq2, List.getElem?_drop, hq3]
      rw [h3, ← h1, Array.getElem?_toList, Array.getElem?_extract]
      simp only [List.length_map, List.length_range]
      rw [if_pos (by omega)]
    · rw [List.getElem?_eq_none (by rw [Array.length_toList, Array.size_extract]; simp; omega), List.getElem?_eq_none (by omega)]
  · obtain ⟨i, hi, rfl⟩ := List.mem_map.1 hr
    exact (hR i (List.mem_range.1 hi)).2
theorem open_rd {r : Reach} {base : Nat} {t e : TypeId} {v : Value} {d : DataW H} {p : List MemPlace} (ht : P.underlying t = some (.slice e)) (hpos : 0 < P.cellsOf e) (hval : Value.okWide P w r base t v) (hd : DataW.Trod enc P w 0 spare held t v d p) :
    ∃ rows, SlR (heapOf w) (P.cellsOf e) v rows ∧ ∀ r ∈ rows, Rd enc P w spare held e r := by
  obtain ⟨a, n, c, rfl⟩ := Go.WideShapes.okWide_slice ht hval
  obtain ⟨k, hk⟩ := hd
  obtain ⟨v, rows, h1, h2, h3⟩ := rd_slice ht hpos ⟨k, _, hk⟩
  obtain rfl : Value.slice a n c = v := by simpa [Value.cells] using h1
  exact ⟨rows, h2, h3⟩
end Go.Proofs.YtcoajnpchhmgjaaGreatDoor
namespace Go.Proofs.YtcoajnpchhmgjaaGreatDoor
open Go Go.RowKit Go.ChangeShapes
mutual
def flatW {H : Type} : DataW H → List Value
  | .lit (.int k n) => [.int k n]
  | .agg parts => flatWs parts
  | _ => []
def flatWs {H : Type} : List (DataW H) → List Value
  | [] => []
  | d :: r => flatW d ++ flatWs r
end
def plainA (P : Program) : Nat → TypeId → Bool
  | 0, _ => false
  | n + 1, t => match P.underlying t with
    | some (.int _) => true
    | some (.array len e) => plainA P n e && P.cellsOf t == len * P.cellsOf e
    | _ => false
theorem flat_of_pieces {H : Type} (c : Nat) : ∀ (xs : List (DataW H × List MemPlace)) (cs : List Value), cs.length = xs.length * c → (∀ i x, xs[i]? = some x → ((cs.drop (i * c)).take c) = flatW x.1) → cs = flatWs (xs.map (·.1))
  | [], cs, hl, _ => by
    have : cs = [] := List.eq_nil_of_length_eq_zero (by simpa using hl)
    simp [this, flatWs]
  | x :: xs, cs, hl, h => by
    have h0 := h 0 x rfl
    simp only [Nat.zero_mul, List.drop_zero] at h0
    rw [List.length_cons, Nat.add_mul, Nat.one_mul] at hl
    have ih := flat_of_pieces c xs (cs.drop c) (by rw [List.length_drop]; omega) fun i y hy => by
      have := h (i + 1) y (by simpa using hy)
      rw [Nat.add_mul, Nat.one_mul] at this
      rw [List.drop_drop, Nat.add_comm c, this]
    rw [List.map_cons, flatWs, ← h0, ← ih, List.take_append_drop]
theorem flat_of_trod {H : Type} {enc : TypeId × Value → H} {P : Program} {w : World} {base : Nat} {spare : Nat → Bool} {held : Bool} : ∀ (m n : Nat) (t : TypeId) (cs : List Value) (x : DataW H × List MemPlace), plainA P m t = true → DataW.trod enc P w base spare held n t cs = some x → cs = flatW x.1
  | 0, _, _, _, _, hp, _ => by simp [plainA] at hp
  | m + 1, n, t, cs, x, hp, h => by
    unfold plainA at hp
    split at hp
    · rename_i k hu
      obtain ⟨i, rfl, rfl, _⟩ := DataW.trod_int hu h
      rfl
    · rename_i len e hu
      simp only [Bool.and_eq_true, beq_iff_eq] at hp
      obtain ⟨xs, m', rfl, rfl, hl, hn, hel⟩ := DataW.trod_array hu h
      rw [flatW]
      refine flat_of_pieces (P.cellsOf e) xs cs (by rw [hl, hp.2, hn]) fun i y hy => ?_
      have hi : i < len := by rw [← hn]; exact (List.getElem?_eq_some_iff.1 hy).1
      have := hel i hi
      rw [hy] at this
      exact flat_of_trod m m' e _ y hp.1 this
    · cases hp
theorem var_cells {P : Program} {w : World} {n : String} {g : Nat} {cs : Array Value} (hg : P.globalNamed n = some g) (h : w.var? P n = some cs) : ∃ e fr, w.heap[g]? = some (.cells cs e fr) := by
  simp only [World.var?, hg, Option.bind_some] at h
  split at h
  · rename_i a b c hh
    cases h
    exact ⟨b, c, hh⟩
  · cases h
theorem laid_cells {P : Program} {w : World} : ∀ {l : List (String × DataW Unit)} {ps : List MemPlace}, DataW.LaidVars P w l ps → ∀ {n : String} {d : DataW Unit}, (n, d) ∈ l → ∀ {g : Nat} {t : TypeId} {m : Nat}, P.globalNamed n = some g → (P.globals[g]?).map (·.type) = some t → plainA P m t = true →
    ∃ e fr, w.heap[g]? = some (.cells (flatW d).toArray e fr)
  | [], _, _, _, _, hm, _, _, _, _, _, _ => by cases hm
  | (n0, d0) :: r, ps, H, n, d, hm, g, t, m, hg, ht, hp => by
    obtain ⟨g0, t0, cs0, f0, p0, q0, hg0, ht0, hv0, hd0, hr, _⟩ := H
    rcases List.mem_cons.1 hm with e | hm
    · simp only [Prod.mk.injEq] at e
      obtain ⟨rfl, rfl⟩ := e
      obtain rfl := Option.some.inj (hg.symm.trans hg0)
      obtain rfl := Option.some.inj (ht.symm.trans ht0)
      obtain ⟨e, fr, hh⟩ := var_cells hg0 hv0
      have := flat_of_trod m f0 t cs0.toList _ hp hd0
      refine ⟨e, fr, ?_⟩
      rw [hh]
      congr 2
      apply Array.ext'
      simpa using this
    · exact laid_cells hr hm hg ht hp
end Go.Proofs.YtcoajnpchhmgjaaGreatDoor
namespace Go.Proofs.YtcoajnpchhmgjaaGreatDoor
open Go
section
variable {P : Program} {h : PH} {t e : TypeId}
theorem eqIn_int {d : Nat} {k k' : IntKind} {a b : Int} (hu : P.underlying t = some (.int k')) : SemE P h (Op.equalIn (d + 1) t (.int k a) (.int k b)) = some (a == b) := by
  rw [Op.equalIn, semE_und hu]; simp [SemE, pure]
theorem beq_bytes (a b : ByteArray) : (a == b) = decide (a = b) := by
  obtain ⟨x⟩ := a
  obtain ⟨y⟩ := b
  show (x == y) = _
  rw [Bool.eq_iff_iff]
  simp
theorem eqIn_string {d : Nat} {a b : ByteArray} (hu : P.underlying t = some .string) : SemE P h (Op.equalIn (d + 1) t (.string a) (.string b)) = some (a == b) := by
  rw [Op.equalIn, semE_und hu]; simp [SemE, pure]
theorem semE_forIn {β : Type} {fs : List Field} {s0 s1 : β} {body : Field → β → Sem (ForInStep β)} (g : Field → Bool)
    (hb : ∀ f ∈ fs, SemE P h (body f s0) = some (if g f then .yield s0 else .done s1)) : SemE P h (forIn fs s0 body) = some (if fs.all g then s0 else s1) := by
  induction fs with
  | nil => rfl
  | cons f fs ih =>
    rw [List.forIn_cons, semE_bind, hb f (by simp)]
    cases hg : g f with
    | true => simp only [if_true, Option.bind_some, List.all_cons, hg, Bool.true_and]; exact ih fun x hx => hb x (by simp [hx])
    | false => simp [List.all_cons, hg, SemE, pure]
theorem eqIn_struct {d : Nat} {fields : Array Field} {xs ys : Array Value} (hu : P.underlying t = some (.struct fields)) (hs : P.stoodInHeld t = false) (g : Field → Bool)
    (hf : ∀ f ∈ fields.toList, f.name ≠ "_" ∧ ∃ a b, SemE P h (part f.type xs f.offset) = some a ∧ SemE P h (part f.type ys f.offset) = some b ∧ SemE P h (Op.equalIn d f.type a b) = some (g f)) :
    SemE P h (Op.equalIn (d + 1) t (.agg xs) (.agg ys)) = some (fields.toList.all g) := by
  rw [Op.equalIn, semE_und hu]
  simp only [bind_pure_comp, pure_bind]
  have hp : ∀ {α : Type} (f : Program → Sem α), SemE P h (program >>= f) = SemE P h (f P) := fun f => rfl
  have hp2 : ∀ {α β : Type} (g : Program → β) (f : β → Sem α), SemE P h ((g <$> program) >>= f) = SemE P h (f (g P)) := fun g f => rfl
  first
    | rw [hp]
    | skip
  simp only [hs, Bool.false_eq_true, if_false]
  rw [← Array.forIn_toList, semE_bind, semE_forIn (s1 := ⟨some false, ()⟩) g]
  · cases hx : fields.toList.all g <;> simp [SemE, pure]
  · intro f hfm
    obtain ⟨hn, a, b, ha, hb, hab⟩ := hf f hfm
    simp only [ne_eq, hn, not_false_eq_true, if_true]
    rw [semE_bind, ha, Option.bind_some, semE_bind, hb, Option.bind_some, semE_bind, hab, Option.bind_some]
    cases g f <;> rfl
theorem eqlStruct {x y : Operand} {xs ys : Array Value} {b : Bool} (hg : P.eqGuardType P.depth t = false) (he : SemE P h (Op.equalIn (9999 + 1) t (.agg xs) (.agg ys)) = some b) :
    SemE P h (binS .eql t x y (.agg xs) (.agg ys)) = some (.bool b) := by
  show SemE P h (eqGuard .eql t x y (.agg xs) (.agg ys) >>= fun _ => binOp .eql t (.agg xs) (.agg ys)) = _
  rw [semE_bind]
  have : SemE P h (eqGuard .eql t x y (.agg xs) (.agg ys)) = some () := by
    unfold eqGuard
    show SemE P h (if !P.eqGuardType P.depth t then pure () else _) = _
    rw [hg]; rfl
  rw [this, Option.bind_some]
  show SemE P h (Op.equalIn (9999 + 1) t (.agg xs) (.agg ys) >>= fun b => (pure (Value.bool b) : Sem Value)) = _
  rw [semE_bind, he]; rfl
theorem neqStruct {x y : Operand} {xs ys : Array Value} {b : Bool} (hg : P.eqGuardType P.depth t = false) (he : SemE P h (Op.equalIn (9999 + 1) t (.agg xs) (.agg ys)) = some b) :
    SemE P h (binS .neq t x y (.agg xs) (.agg ys)) = some (.bool (!b)) := by
  show SemE P h (eqGuard .neq t x y (.agg xs) (.agg ys) >>= fun _ => binOp .neq t (.agg xs) (.agg ys)) = _
  rw [semE_bind]
  have : SemE P h (eqGuard .neq t x y (.agg xs) (.agg ys)) = some () := by
    unfold eqGuard
    show SemE P h (if !P.eqGuardType P.depth t then pure () else _) = _
    rw [hg]; rfl
  rw [this, Option.bind_some]
  show SemE P h (Op.equalIn (9999 + 1) t (.agg xs) (.agg ys) >>= fun b => (pure (Value.bool (!b)) : Sem Value)) = _
  rw [semE_bind, he]; rfl
theorem part_cell {d : TypeDesc} {cs : Array Value} {o : Nat} {v : Value} (hu : P.underlying t = some d) (hd : flatD d = true) (hv : cs[o]? = some v) : SemE P h (part t cs o) = some v := by
  unfold part
  rw [semE_agg hu, hd]
  simp [hv, SemE, pure]
theorem part_agg {d : TypeDesc} {cs : Array Value} {o n : Nat} {i : TypeInfo} (hu : P.underlying t = some d) (hd : flatD d = false) (hi : P.info? t = some i) (hn : i.size = n) : SemE P h (part t cs o) = some (.agg (cs.extract o (o + n))) := by
  unfold part
  rw [semE_agg hu, hd]
  simp only [Bool.not_false, if_true]
  rw [sizeOf_bind, semE_info hi, hn]; rfl
end
end Go.Proofs.YtcoajnpchhmgjaaGreatDoor
namespace Go.Proofs.YtcoajnpchhmgjaaGreatDoor
open Go
structure Keyed (P : Program) (t : TypeId) {α : Type} [DecidableEq α] (enc : α → Value) : Prop where
  chk : ∀ (h : PH) (b : Bool) (a : α), SemE P h (Instr.checkKey b 10000 t (enc a)) = some ()
  eq : ∀ (h : PH) (a b : α), SemE P h (Op.equal t (enc a) (enc b)) = some (decide (a = b))
  bits : ∀ a, Instr.sameBits 10000 (enc a) (enc a) = true
  now : ∃ kind, P.underlying t = some kind ∧ ((∀ a b, Instr.sameNow kind (enc a) (enc b) = none) ∨ ∀ a b, Instr.sameNow kind (enc a) (enc b) = some (decide (a = b)))
section
variable {P : Program} {h : PH} {t kt et : TypeId} {α : Type} [DecidableEq α] {enc : α → Value}
def ents (enc : α → Value) (l : List (α × Value × Nat)) : List MapEntry := l.map fun p => ⟨enc p.1, p.2.1, p.2.2⟩
def findL (a : α) : List (α × Value × Nat) → Nat → Option (Nat × Value)
  | [], _ => none
  | p :: ps, i => if a = p.1 then some (i, p.2.1) else findL a ps (i + 1)
theorem findAsking_eq (K : Keyed P kt enc) (a : α) : ∀ (l : List (α × Value × Nat)) (i : Nat), SemE P h (Instr.findAsking kt (enc a) (ents enc l) i) = some (findL a l i)
  | [], i => rfl
  | p :: ps, i => by
    show SemE P h (Op.equal kt (enc a) (enc p.1) >>= _) = _
    rw [semE_bind, K.eq h a p.1]
    simp only [Option.bind_some, findL]
    by_cases e : a = p.1
    · simp [e, SemE, pure]
    · simp only [e, decide_false, Bool.false_eq_true, if_false]
      exact findAsking_eq K a ps (i + 1)
theorem findNow_eq {kind : TypeDesc} (hk : ∀ a b : α, Instr.sameNow kind (enc a) (enc b) = some (decide (a = b))) (a : α) : ∀ (l : List (α × Value × Nat)) (i : Nat), Instr.findNow kind (enc a) (ents enc l) i = some (findL a l i)
  | [], i => rfl
  | p :: ps, i => by
    show (match Instr.sameNow kind (enc a) (enc p.1) with | some true => _ | some false => _ | none => _) = _
    rw [hk]
    by_cases e : a = p.1
    · simp [e, findL]
    · simp only [e, decide_false, findL, if_false]
      exact findNow_eq hk a ps (i + 1)
theorem findNow_none {kind : TypeDesc} (hk : ∀ a b : α, Instr.sameNow kind (enc a) (enc b) = none) (a : α) : ∀ (l : List (α × Value × Nat)) (i : Nat), Instr.findNow kind (enc a) (ents enc l) i = none ∨ (l = [] ∧ Instr.findNow kind (enc a) (ents enc l) i = some none)
  | [], i => .inr ⟨rfl, rfl⟩
  | p :: ps, i => .inl (by
    show (match Instr.sameNow kind (enc a) (enc p.1) with | some true => _ | some false => _ | none => _) = _
    rw [hk])
theorem findKey_eq (K : Keyed P kt enc) (a : α) (l : List (α × Value × Nat)) : SemE P h (Instr.findKey kt (enc a) (ents enc l)) = some (findL a l 0) := by
  obtain ⟨kind, hu, hk⟩ := K.now
  show SemE P h (underlying kt >>= _) = _
  rw [semE_und hu]
  rcases hk with hk | hk
  · rcases findNow_none hk a l 0 with e | ⟨rfl, e⟩
    · rw [e]; exact findAsking_eq K a l 0
    · rw [e]; rfl
  · rw [findNow_eq hk]; rfl
def getM (l : List (α × Value)) (a : α) : Option Value := (l.find? fun p => decide (a = p.1)).map (·.2)
def keysM (l : List (α × Value)) : List α := l.map (·.1)
def putM (l : List (α × Value)) (a : α) (v : Value) : List (α × Value) := if a ∈ keysM l then l.map (fun p => if p.1 = a then (a, v) else p) else l ++ [(a, v)]
structure MapAt (enc : α → Value) (h : PH) (r : Nat) (l : List (α × Value)) : Prop where
  nodup : (keysM l).Nodup
  here : ∃ es c L, h r = some (.map es c) ∧ es.toList = ents enc L ∧ l = L.map (fun p => (p.1, p.2.1)) ∧ (L.map (·.2.2)).Nodup ∧ ∀ p ∈ L, p.2.2 < c
theorem MapAt.upd {h h' : PH} {r : Nat} {l : List (α × Value)} {G : List Nat} (H : MapAt enc h r l) (u : Upd G h h') (hd : r ∉ G) : MapAt enc h' r l := by
  obtain ⟨es, c, L, h1, h2, h3⟩ := H.here
  exact ⟨H.nodup, es, c, L, u.get h1 hd, h2, h3⟩
theorem MapAt.ext {h h' : PH} {r : Nat} {l : List (α × Value)} (H : MapAt enc h r l) (u : Ext h h') : MapAt enc h' r l := H.upd u (by simp)
theorem MapAt.known {h : PH} {r : Nat} {l : List (α × Value)} (H : MapAt enc h r l) : h r ≠ none := by
  obtain ⟨es, c, L, h1, _⟩ := H.here; rw [h1]; simp
theorem findL_get (a : α) : ∀ (L : List (α × Value × Nat)) (i : Nat), (findL a L i).map (·.2) = getM (L.map fun p => (p.1, p.2.1)) a
  | [], _ => rfl
  | p :: ps, i => by
    simp only [findL, getM, List.map_cons, List.find?_cons]
    by_cases e : a = p.1
    · simp [e]
    · simp only [e, if_false, decide_false]
      exact findL_get a ps (i + 1)
theorem findL_at (a : α) : ∀ (L : List (α × Value × Nat)) (i : Nat), (∃ q v, findL a L i = some (i + q, v) ∧ (L.map (·.1))[q]? = some a ∧ a ∈ L.map (·.1)) ∨ (findL a L i = none ∧ a ∉ L.map (·.1))
  | [], _ => .inr ⟨rfl, by simp⟩
  | p :: ps, i => by
    by_cases e : a = p.1
    · exact .inl ⟨0, p.2.1, by simp [findL, e], by simp [e], by simp [e]⟩
    · rcases findL_at a ps (i + 1) with ⟨q, v, h1, h2, h3⟩ | ⟨h1, h2⟩
      · exact .inl ⟨q + 1, v, by simp only [findL, e, if_false, h1]; congr 2; omega, by simpa using h2, by simp at h3; simp [h3]⟩
      · exact .inr ⟨by simp [findL, e, h1], by simp only [List.map_cons, List.mem_cons, e, false_or]; exact h2⟩
theorem semE_zero {i : TypeInfo} {z : Value} (hi : P.info? et = some i) (hz : i.zero = some z) : SemE P h (zeroValue et) = some z := by
  show SemE P h (typeInfo et >>= _) = _
  rw [semE_info hi]
  simp only [hz]
  rfl
theorem semE_getMap {r : Nat} {es : Array MapEntry} {c : Nat} {β : Type} (hr : h r = some (.map es c)) (f : Obj → Sem β) : SemE P h (getObj r >>= f) = SemE P h (f (.map es c)) := by
  rw [semE_bind]
  have : SemE P h (getObj r) = some (.map es c) := by
    unfold getObj
    simp only [SemE, hr]
  rw [this]; rfl
theorem look_found {r : Nat} {l : List (α × Value)} (K : Keyed P kt enc) (hu : P.underlying t = some (.map kt et)) {i : TypeInfo} {z : Value} (hi : P.info? et = some i) (hz : i.zero = some z) (H : MapAt enc h r l) (a : α) (ok : Bool) :
    SemE P h (Instr.lookup t (.map (some r)) (enc a) ok) = some (if ok then .tuple #[(getM l a).getD z, .bool (getM l a).isSome] else (getM l a).getD z) := by
  obtain ⟨es, c, L, h1, h2, rfl, hb1, hb2⟩ := H.here
  show SemE P h (underlying t >>= _) = _
  rw [semE_und hu]
  show SemE P h (((getObj r) >>= _) >>= _) = _
  rw [semE_bind, semE_getMap h1]
  show SemE P h (Instr.checkKey es.isEmpty 10000 kt (enc a) >>= _) = _
  rw [semE_bind, K.chk h _ a]
  simp only [Option.bind_some]
  rw [h2]
  rw [semE_bind, findKey_eq K]
  simp only [Option.bind_some]
  have hg := findL_get a L 0
  cases e : findL a L 0 with
  | none =>
    rw [e] at hg
    rw [← hg]
    simp only [semE_bind, semE_zero hi hz]
    cases ok <;> rfl
  | some q =>
    rw [e] at hg
    rw [← hg]
    cases ok <;> rfl
theorem semH_getMap {r : Nat} {es : Array MapEntry} {c : Nat} {β : Type} {Q : β → PH → Prop} (hr : h r = some (.map es c)) {f : Obj → Sem β} (hq : SemH P (f (.map es c)) h Q) : SemH P (getObj r >>= f) h Q := by
  refine semH_of_semE (a := .map es c) ?_ hq
  unfold getObj
  simp only [SemE, hr]
theorem mem_keys {L : List (α × Value × Nat)} : keysM (L.map fun p => (p.1, p.2.1)) = L.map (·.1) := by simp [keysM]
theorem map_put {r : Nat} {l : List (α × Value)} (K : Keyed P kt enc) (hu : P.underlying t = some (.map kt et)) (H : MapAt enc h r l) (a : α) (v : Value) {k : Value → PH → Prop}
    (hk : ∀ h', MapAt enc h' r (putM l a v) → Upd [r] h h' → k undef h') : SemH P (mapUpdS t (.map (some r)) (enc a) v) h k := by
  obtain ⟨es, c, L, h1, h2, rfl, hb1, hb2⟩ := H.here
  have hnd := H.nodup
  rw [mem_keys] at hnd
  show SemH P (Instr.mapUpdate t (.map (some r)) (enc a) v >>= fun _ => pure undef) h k
  refine SemH.bind (P := P) (s := Instr.mapUpdate t (.map (some r)) (enc a) v) ?_
  show SemH P (underlying t >>= _) h _
  rw [semH_und hu]
  refine semH_getMap h1 ?_
  refine semH_of_semE (K.chk h false a) ?_
  rw [h2]
  refine semH_of_semE (findKey_eq K a L) ?_
  rcases findL_at a L 0 with ⟨q, w, e1, e2, e3⟩ | ⟨e1, e2⟩
  · rw [e1, Nat.zero_add]
    have hq : es[q]? = some ⟨enc a, (L[q]?.map (·.2.1)).getD v, (L[q]?.map (·.2.2)).getD 0⟩ := by
      rw [← Array.getElem?_toList, h2]
      rw [List.getElem?_map] at e2
      obtain ⟨p, hp, rfl⟩ := Option.map_eq_some_iff.1 e2
      simp [ents, List.getElem?_map, hp]
    show SemH P (Instr.keyThatStays (((es[q]?).map (·.key)).getD (enc a)) (enc a) >>= _) h _
    rw [hq]
    unfold Instr.keyThatStays
    simp only [Option.map_some, Option.getD_some, K.bits, if_true]
    show (∃ u, h r = some u ∧ (∀ c e f, u ≠ .cells c e f)) ∧ _
    refine ⟨⟨_, h1, by intros; simp⟩, ?_⟩
    show k undef _
    have hbm : (L.map (fun p => if p.1 = a then (a, v, p.2.2) else p)).map (·.2.2) = L.map (·.2.2) := by
      rw [List.map_map]; apply List.map_congr_left; intro p _; simp only [Function.comp]; split <;> rfl
    refine hk _ ⟨?_, _, c, L.map (fun p => if p.1 = a then (a, v, p.2.2) else p), set_same, ?_, ?_, by rw [hbm]; exact hb1, fun p hp => ?_⟩ (Upd.set (by simp))
    · have : keysM (putM (L.map fun p => (p.1, p.2.1)) a v) = L.map (·.1) := by
        unfold putM
        rw [mem_keys, if_pos e3]
        simp only [keysM, List.map_map]
        apply List.map_congr_left
        intro p _
        simp only [Function.comp]
        split
        · rename_i h; exact h.symm
        · rfl
      rw [this]; exact hnd
    · rw [Array.toList_modify, h2]
      apply List.ext_getElem?
      intro j
      rw [List.getElem?_modify]
      simp only [ents, List.getElem?_map]
      rw [List.getElem?_map] at e2
      obtain ⟨p0, hp0, hp1⟩ := Option.map_eq_some_iff.1 e2
      cases hj : L[j]? with
      | none => simp
      | some p =>
        by_cases hjq : q = j
        · subst hjq
          rw [hp0] at hj; cases hj
          simp [hp1]
        · have hne : p.1 ≠ a := by
            intro hpa
            have h3 : (L.map (·.1))[j]? = (L.map (·.1))[q]? := by rw [List.getElem?_map, List.getElem?_map, hj, hp0, Option.map_some, Option.map_some, hpa, hp1]
            have hjl : j < (L.map (·.1)).length := by rw [List.length_map]; exact (List.getElem?_eq_some_iff.1 hj).1
            exact hjq ((List.getElem?_inj hjl hnd).1 h3).symm
          simp [hjq, hne]
    · unfold putM
      rw [mem_keys, if_pos e3]
      simp only [List.map_map]
      apply List.map_congr_left
      intro p _
      simp only [Function.comp]
      split <;> rfl
    · obtain ⟨q, hq, rfl⟩ := List.mem_map.1 hp
      have := hb2 q hq
      split <;> exact this
  · rw [e1]
    show (∃ u, h r = some u ∧ (∀ c e f, u ≠ .cells c e f)) ∧ _
    refine ⟨⟨_, h1, by intros; simp⟩, ?_⟩
    show k undef _
    refine hk _ ⟨?_, _, c + 1, L ++ [(a, v, c)], set_same, ?_, ?_, ?_, ?_⟩ (Upd.set (by simp))
    · unfold putM
      rw [mem_keys, if_neg e2]
      have : keysM (L.map (fun p => (p.1, p.2.1)) ++ [(a, v)]) = L.map (·.1) ++ [a] := by simp [keysM]
      rw [this, List.nodup_append]
      refine ⟨hnd, by simp, ?_⟩
      intro x hx y hy
      simp only [List.mem_singleton] at hy
      subst hy
      rintro rfl
      exact e2 hx
    · rw [Array.toList_push, h2]
      simp [ents]
    · unfold putM
      rw [mem_keys, if_neg e2]
      simp
    · rw [List.map_append, List.nodup_append]
      refine ⟨hb1, by simp, ?_⟩
      intro x hx y hy
      simp only [List.map_cons, List.map_nil, List.mem_singleton] at hy
      subst hy
      obtain ⟨p, hp, rfl⟩ := List.mem_map.1 hx
      have := hb2 p hp
      omega
    · intro p hp
      rcases List.mem_append.1 hp with hp | hp
      · have := hb2 p hp; omega
      · simp only [List.mem_singleton] at hp; subst hp; simp
theorem makeMap_eq : SemA P (Instr.makeMap t none) = some (.map #[] 0, fun r => pure (.map (some r))) := rfl
theorem MapAt.new {r : Nat} : MapAt enc (h.set r (.map #[] 0)) r [] := ⟨by simp [keysM], #[], 0, [], set_same, rfl, rfl, by simp, by simp⟩
end
end Go.Proofs.YtcoajnpchhmgjaaGreatDoor
namespace Go.Proofs.YtcoajnpchhmgjaaGreatDoor
open Go
section
variable {P : Program} {h : PH} {t t' t2 e : TypeId}
theorem append_grow {size bytes n : Nat} {v x : Value} {rows ys : List (List Value)} {i : TypeInfo} {z : Value} {e2 : TypeId} {va : Option Addr} {k : Value → PH → Prop}
    (hu : P.underlying t = some (.slice e)) (hu2 : P.underlying t2 = some (.slice e2)) (hi : P.info? e = some i) (hn : i.size = size) (hby : i.bytes = bytes) (hz : i.zero = some z) (hzs : z.cells.size = size) (hb0 : 0 < bytes)
    (H : SlR h size v rows) (hv : v = .slice va n n) (S : SlR h size x ys) (hl : (rows.length + ys.length) * bytes ≤ 140737488355328) (hne : ys ≠ [])
    (hk : ∀ v' h' F', OwnR h' e size v' (rows ++ ys) F' → Ext h h' → (∀ b ∈ F', h b = none) → k v' h') : SemH P (Builtin.append_ #[t, t2] t' #[v, x]) h k := by
  have hbig : rows.length + ys.length ≤ 140737488355328 := Nat.le_trans (Nat.le_mul_of_pos_right _ hb0) hl
  obtain ⟨xa, xc, hx, hx1, hx2, hx3, hx4⟩ := S.here
  have hfirst := S.first (P := P)
  have hrows : Rows size (rows ++ ys) := H.ok.append S.ok
  have hpos : 0 < ys.length := List.length_pos_iff.2 hne
  have grown : ∀ (m : Nat), rows.length + ys.length ≤ m → m ≤ maxL → ∀ r, h r = none →
      k (.slice (some ⟨r, 0, none⟩) (rows.length + ys.length) m) (h.set r (.cells (rows.flatten.toArray ++ ys.flatten.toArray ++ Builtin.zeroCells z.cells (m - (rows.length + ys.length))) e (0, 0))) := by
    intro m hm hmax r hr
    refine hk _ _ [r] ⟨hrows, .inr ⟨r, m, _, by rw [List.length_append], rfl, set_same, by simpa using hm, hmax, ?_, ?_⟩⟩ (Upd.new hr) (fun b hb => by simp at hb; subst hb; exact hr)
    · simp only [Array.size_append, List.size_toArray, H.ok.flat, S.ok.flat, Builtin.zeroCells, Array.size_map, Array.size_range, hzs]
      rw [← Nat.add_mul, ← Nat.add_mul]; congr 1; omega
    · have hlen : (rows ++ ys).length * size = (rows.flatten ++ ys.flatten).length := by rw [List.length_append, List.length_append, H.ok.flat, S.ok.flat, Nat.add_mul]
      simp only [Array.toList_append, hlen, List.flatten_append]
      rw [List.take_append_of_le_length (Nat.le_refl _), List.take_length]
  obtain ⟨va', vc, hv', hv1, hv2, _, _⟩ := H.here
  have hvfirst := H.first (P := P)
  have hvc : vc = rows.length := by
    rw [hv] at hv'
    simp only [Value.slice.injEq] at hv'
    omega
  rw [hvc] at hv'
  subst hx; subst hv'
  simp only [Builtin.append_, List.getElem?_toArray, List.getElem?_cons_zero, List.getElem?_cons_succ, semH_und hu, semH_und hu2, sizeOf_bind, semH_info hi, pure_bind, Bool.false_eq_true, if_false, Builtin.lenOf, Bool.not_false, if_true, hn]
  have hfit : ¬ rows.length + ys.length ≤ rows.length := by omega
  rw [if_neg hfit]
  have hlt : rows.length < rows.length + ys.length := by omega
  have h63 : ¬ (((rows.length + ys.length : Nat) : Int) > IntKind.i64.max ∧ (False ∨ i.bytes = 0)) := by
    rintro ⟨_, hh⟩
    rcases hh with hh | hh
    · exact hh
    · omega
  have hfits : ¬ (Builtin.nextslicecap (rows.length + ys.length) rows.length * i.bytes > 2 ^ 48) := by
    rw [hby]
    have := growslice_fits hlt hl
    omega
  rw [semH_info hi, if_neg h63, semH_info hi, if_neg hfits, semH_choose]
  intro tt
  rw [semH_info hi, semH_askRoom]
  refine semH_of_semE hvfirst (semH_of_semE hfirst ?_)
  have hzv : zeroValue e = (typeInfo e >>= fun i => match i.zero with | some v => pure v | none => unsupported (.resourceLimit "a value of more than 2^22 cells")) := rfl
  rw [hzv, bind_assoc, semH_info hi, hz, pure_bind]
  have hcut : ∀ n m : Nat, n ≤ 140737488355328 → n ≤ (Question.appendCap n m e).cut tt ∧ (Question.appendCap n m e).cut tt ≤ maxL := by
    intro n m hn
    have hpos : 0 < 2 ^ 63 - n := by omega
    have := Nat.mod_lt tt hpos
    simp only [Question.cut, maxL]
    omega
  have hforced : (Question.appendCap (rows.length + ys.length) rows.length e).forced = false := rfl
  rw [hforced]
  obtain ⟨hc1, hc2⟩ := hcut (rows.length + ys.length) rows.length hbig
  intro r hr
  exact grown _ hc1 hc2 r hr
theorem SlR.full {size : Nat} {v : Value} {rows : List (List Value)} (H : SlR h size v rows) {i : TypeInfo} (hu : P.underlying t = some (.slice e)) (hi' : P.info? e = some i) {m : Nat} {k2 k3 : IntKind} (h2 : m ≤ rows.length) :
    ∃ va, SemP P (Instr.sliceAt t v none (some (.int k2 m)) (some (.int k3 m))) = some (.slice va m m) ∧ SlR h size (.slice va m m) (rows.take m) := by
  obtain ⟨a, c, rfl, hc1, hc2, hc3, hc4⟩ := H.here
  have hlen : (rows.take m).length = m := by simp; omega
  refine ⟨a, ?_, H.ok.take m, ⟨a, m, by rw [hlen], by omega, by omega, fun hne => ?_, trivial⟩⟩
  · show SemP P (underlying t >>= _) = _
    rw [semP_und hu]
    show SemP P (underlying t >>= _) = _
    rw [semP_und hu]
    have hb : Instr.sliceBounds true rows.length c none (some (.int k2 m)) (some (.int k3 m)) = pure (0, m, m) := by
      have hcast : ∀ n m : Nat, n ≤ m → (0 ≤ (n : Int) ∧ (n : Int) ≤ (m : Int)) := fun n m h => by omega
      simp [Instr.sliceBounds, Instr.sliceBound, asIntOf, hcast, show m ≤ c by omega]
    simp only [hb, pure_bind]
    rw [sizeOf_bind, semP_info hi']
    show some (Value.slice (if m = 0 then a else a.map (·.add (0 * i.size))) (m - 0) (m - 0)) = _
    have : a.map (·.add (0 * i.size)) = a := by
      cases a with
      | none => rfl
      | some x =>
        have : x.add (0 * i.size) = x := by
          obtain ⟨b, o, w⟩ := x
          cases w <;> simp [Addr.add]
        rw [Option.map_some, this]
    rw [this]
    simp
  · have hne' : rows ≠ [] := by rintro rfl; simp at hne
    obtain ⟨b, o, cs, e', fr, rfl, hb, hle, hex⟩ := hc3 hne'
    have hm1 : m * size ≤ rows.length * size := Nat.mul_le_mul_right _ h2
    refine ⟨b, o, cs, e', fr, rfl, hb, by rw [hlen]; omega, ?_⟩
    rw [hlen, H.ok.flat_take, ← hex]
    simp only [Array.toList_extract, List.extract_eq_take_drop]
    rw [List.take_take, Nat.min_eq_left (by omega)]
    congr 1
    omega
theorem MapAt.len {α : Type} [DecidableEq α] {enc : α → Value} {r : Nat} {l : List (α × Value)} (H : MapAt enc h r l) {k v : TypeId} (hu : P.underlying t = some (.map k v)) : SemE P h (Builtin.len_ #[t] t' #[.map (some r)]) = some (.int .i64 l.length) := by
  obtain ⟨es, c, L, h1, h2, rfl, _⟩ := H.here
  rw [len_map hu h1]
  have : es.size = L.length := by rw [← Array.length_toList, h2]; simp [ents]
  rw [this, List.length_map]
theorem beq_dec' {a b : Int} : (a == b) = decide (a = b) := by rw [Bool.eq_iff_iff]; simp
def ukey (x : Int) : Value := .int .u64 x
theorem ukeyed (hu : P.underlying t = some (.int .u64)) : Keyed P t ukey where
  chk := fun h b a => by
    unfold ukey
    rw [show (10000 : Nat) = 9999 + 1 from rfl]
    cases b <;> (rw [Instr.checkKey]; try rw [semE_und hu]) <;> rfl
  eq := fun h a b => by
    unfold ukey
    show SemE P h (Op.equalIn (9999 + 1) t _ _) = _
    rw [eqIn_int hu, beq_dec']
  bits := fun a => by unfold ukey; rw [show (10000 : Nat) = 9999 + 1 from rfl]; simp [Instr.sameBits]
  now := ⟨_, hu, .inr fun a b => by unfold ukey; simp [Instr.sameNow, beq_dec']⟩
end
end Go.Proofs.YtcoajnpchhmgjaaGreatDoor
namespace Go.Proofs.YtcoajnpchhmgjaaGreatDoor
open Go
section
variable {P : Program} {h : PH} {t t' t2 e : TypeId}
def bcell (b : UInt8) : List Value := [.int .u8 b.toNat]
theorem bcell.rows (l : List UInt8) : Rows 1 (l.map bcell) := fun r hr => by
  obtain ⟨m, _, rfl⟩ := List.mem_map.1 hr; rfl
theorem bcell.isCell (l : List UInt8) : ∀ r ∈ l.map bcell, ∀ u ∈ r, isCell u = true := fun r hr u hu => by
  obtain ⟨m, _, rfl⟩ := List.mem_map.1 hr
  simp only [bcell, List.mem_cons, List.not_mem_nil, or_false] at hu
  subst hu; rfl
theorem bcell.flat (l : List UInt8) : (l.map bcell).flatten = l.map fun b => Value.int .u8 b.toNat := by
  induction l with
  | nil => rfl
  | cons b bs ih => simp [bcell, ih]
theorem semE_pushes {body : Value → ByteArray → Sem (ForInStep ByteArray)} (hb : ∀ (b : UInt8) (s : ByteArray), body (.int .u8 b.toNat) s = pure (.yield (s.push b))) : ∀ (l : List UInt8) (s : ByteArray),
    SemE P h (forIn (l.map fun b => Value.int .u8 b.toNat) s body) = some ⟨s.data ++ l.toArray⟩
  | [], s => by simp [SemE, pure]
  | b :: bs, s => by
    rw [List.map_cons, List.forIn_cons, semE_bind, hb]
    show SemE P h (forIn (bs.map _) (s.push b) body) = _
    rw [semE_pushes hb bs (s.push b)]
    congr 1
    apply ByteArray.ext
    show (s.push b).data ++ bs.toArray = _
    rw [ByteArray.data_push]
    apply Array.ext'
    simp
theorem conv_bytes {x : Value} {l : List UInt8} (hu : P.underlying t = some (.slice e)) (he : P.underlying e = some (.int .u8)) (hs : P.underlying t2 = some .string) (S : SlR h 1 x (l.map bcell)) :
    SemE P h (convert t t2 x) = some (.string ⟨l.toArray⟩) := by
  have hf := S.first (P := P)
  obtain ⟨a, c, rfl, h1, h2, h3, h4⟩ := S.here
  show SemE P h (underlying t >>= _) = _
  rw [semE_und hu]
  show SemE P h (underlying t2 >>= _) = _
  rw [semE_und hs]
  show SemE P h (underlying e >>= _) = _
  rw [semE_und he]
  simp only [List.length_map, bcell.flat] at hf ⊢
  show SemE P h (Conv.bytesToString (.slice a l.length c)) = _
  unfold Conv.bytesToString
  cases a with
  | none =>
    have : l = [] := by
      by_cases h0 : l = []
      · exact h0
      · obtain ⟨b, o, cs, e, fr, hh, _⟩ := h3 (by simpa using h0); cases hh
    subst this
    rfl
  | some a =>
    have hf' : SemE P h (loadCells a l.length) = some (l.map fun b => Value.int .u8 b.toNat).toArray := by
      have : Builtin.firstCells 1 l.length (.slice (some a) l.length c) = loadCells a (l.length * 1) := rfl
      rw [this, Nat.mul_one] at hf
      exact hf
    show SemE P h (loadCells a l.length >>= _) = _
    rw [semE_bind, hf', Option.bind_some]
    rw [semE_bind, ← Array.forIn_toList, semE_pushes]
    · rw [Option.bind_some]
      show some (Value.string _) = _
      congr 2
      apply ByteArray.ext
      simp
    · intro b s
      simp
theorem SlR.fields {size : Nat} {v : Value} {rows : List (List Value)} (H : SlR h size v rows) {i : TypeInfo} (hu : P.underlying t = some (.slice e)) (hi : P.info? e = some i) (hn : i.size = size) {k : IntKind} {j : Nat} {r : List Value} (hr : rows[j]? = some r) :
    ∃ b o, SemP P (Instr.indexAt t v (.int k j)) = some (.pointer (some ⟨b, o, none⟩)) ∧ (∀ q c, r[q]? = some c → cellH h ⟨b, o + q, none⟩ = some c) ∧ ∀ d, P.underlying e = some d → flatD d = false → SemE P h (Instr.loadAt e (.pointer (some ⟨b, o, none⟩))) = some (.agg r.toArray) := by
  obtain ⟨b, o, cs, e', fr, h1, hb, hle, hex⟩ := H.at hu hi hn (k := k) (j := (j : Int)) (by omega) hr
  refine ⟨b, o, h1, fun q c hq => ?_, fun d he hd => ?_⟩
  · have hql : q < size := by
      have := (List.getElem?_eq_some_iff.1 hq).1
      rwa [H.ok r (List.mem_of_getElem? hr)] at this
    unfold cellH
    simp only [hb]
    rw [← hex] at hq
    simp only [Array.toList_extract, List.extract_eq_take_drop, Nat.add_sub_cancel_left, List.getElem?_take, List.getElem?_drop, hql, if_true] at hq
    simpa using hq
  · rw [loadAt_agg he hd hi hn hb hle]
    congr 2
    exact Array.ext' hex
end
end Go.Proofs.YtcoajnpchhmgjaaGreatDoor
namespace Go.Proofs.YtcoajnpchhmgjaaGreatDoor
open Go
section
variable {P : Program} {h : PH} {t e : TypeId}
theorem indexAt_array {b o n len : Nat} {k : IntKind} {j : Int} {i : TypeInfo} (hu : P.underlying t = some (.array len e)) (hi : P.info? e = some i) (hn : i.size = n) (h0 : 0 ≤ j) (h1 : j < len) :
    SemP P (Instr.indexAt t (.pointer (some ⟨b, o, none⟩)) (.int k j)) = some (.pointer (some ⟨b, o + j.toNat * n, none⟩)) := by
  show SemP P (underlying t >>= _) = _
  rw [semP_und hu]
  show SemP P (underlying t >>= _) = _
  rw [semP_und hu]
  simp only [h0, h1, and_self, if_true]
  rw [sizeOf_bind, semP_info hi, hn, plain_add]; rfl
end
end Go.Proofs.YtcoajnpchhmgjaaGreatDoor
namespace Go.Proofs.YtcoajnpchhmgjaaGreatDoor
open Go
abbrev Tx := List UInt8
def tx (l : List UInt8) : ByteArray := ⟨l.toArray⟩
theorem tx_list (s : ByteArray) : tx s.data.toList = s := by cases s; simp [tx]
theorem tx_size (l : List UInt8) : (tx l).size = l.length := by simp [tx, ByteArray.size]
theorem tx_inj {a b : List UInt8} (h : tx a = tx b) : a = b := by
  have := congrArg (fun s : ByteArray => s.data.toList) h
  simpa [tx] using this
theorem tx_nil : tx [] = ⟨#[]⟩ := rfl
theorem tx_append (a b : List UInt8) : tx a ++ tx b = tx (a ++ b) := by
  apply ByteArray.ext
  rw [ByteArray.data_append]
  simp [tx]
section
variable {P : Program} {h : PH} {t t' t2 e : TypeId}
theorem add_tx {a b : List UInt8} (hs : a.length + b.length ≤ 9223372036854775807) : SemP P (binOp .add t (.string (tx a)) (.string (tx b))) = some (.string (tx (a ++ b))) := by
  show SemP P (Op.stringOp .add (tx a) (tx b)) = _
  have : ¬ (((tx a).size + (tx b).size : Nat) : Int) > IntKind.i64.max := by
    rw [tx_size, tx_size]
    have : IntKind.i64.max = 9223372036854775807 := rfl
    omega
  simp only [Op.stringOp, this, if_false]
  rw [tx_append]; rfl
theorem cut_tx {l : List UInt8} {i j : Nat} {lo hi : Option Value} (hu : P.underlying t = some .string) (hlo : lo = none ∧ i = 0 ∨ ∃ k, lo = some (.int k i)) (hhi : hi = none ∧ j = l.length ∨ ∃ k, hi = some (.int k j)) (h1 : i ≤ j) (h2 : j ≤ l.length) :
    SemP P (Instr.sliceAt t (.string (tx l)) lo hi none) = some (.string (tx ((l.take j).drop i))) := by
  show SemP P (underlying t >>= _) = _
  rw [semP_und hu]
  show SemP P (underlying t >>= _) = _
  rw [semP_und hu]
  have hb : Instr.sliceBounds false (tx l).size (tx l).size lo hi none = pure (i, j, (tx l).size) := by
    have hcast : ∀ n m : Nat, n ≤ m → (0 ≤ (n : Int) ∧ (n : Int) ≤ (m : Int)) := fun n m h => by omega
    rw [tx_size]
    rcases hlo with ⟨rfl, rfl⟩ | ⟨k, rfl⟩ <;> rcases hhi with ⟨rfl, rfl⟩ | ⟨k', rfl⟩ <;>
      simp [Instr.sliceBounds, Instr.sliceBound, asIntOf, hcast, h1, h2]
  simp only [hb, pure_bind, Option.isSome_none, Bool.false_eq_true, if_false]
  show some (Value.string ((tx l).extract i j)) = _
  congr 2
  apply ByteArray.ext
  apply Array.ext'
  rw [ByteArray.data_extract]
  simp [tx, List.extract_eq_take_drop, List.drop_take]
theorem index_tx {l : List UInt8} {k : IntKind} {j : Nat} {b : UInt8} (hu : P.underlying t = some .string) (hb : l[j]? = some b) : SemP P (Instr.index t (.string (tx l)) (.int k j)) = some (.int .u8 b.toNat) := by
  show SemP P (underlying t >>= _) = _
  rw [semP_und hu]
  have h0 : (0 : Int) ≤ (j : Int) := by omega
  simp only [h0, if_true, Int.toNat_natCast]
  have : (tx l)[j]? = some b := by
    obtain ⟨hlt, rfl⟩ := List.getElem?_eq_some_iff.1 hb
    have hs : j < (tx l).size := by rw [tx_size]; exact hlt
    rw [getElem?_pos (tx l) j hs]
    congr 1
  rw [this]; rfl
theorem bytes_of {l : List UInt8} (hu : P.underlying t = some .string) (hu2 : P.underlying t2 = some (.slice e)) (he : P.underlying e = some (.int .u8)) (hl : l.length ≤ 140737488355328) {k : Value → PH → Prop}
    (hk : ∀ v h', SlR h' 1 v (l.map bcell) → Ext h h' → k v h') : SemH P (convert t t2 (.string (tx l))) h k := by
  show SemH P (underlying t >>= _) h k
  rw [semH_und hu]
  show SemH P (underlying t2 >>= _) h k
  rw [semH_und hu2]
  show SemH P (underlying e >>= _) h k
  rw [semH_und he]
  show SemH P (choose (.appendCap (tx l).size 0 e) >>= _) h k
  rw [semH_choose]
  intro tt
  have hforced : (Question.appendCap (tx l).size 0 e).forced = false := rfl
  rw [hforced]
  have hcut : (tx l).size ≤ (Question.appendCap (tx l).size 0 e).cut tt ∧ (Question.appendCap (tx l).size 0 e).cut tt ≤ maxL := by
    rw [tx_size]
    have hpos : 0 < 2 ^ 63 - l.length := by omega
    have := Nat.mod_lt tt hpos
    simp only [Question.cut, maxL]
    omega
  simp only [Bool.false_eq_true, if_false]
  generalize (Question.appendCap (tx l).size 0 e).cut tt = cap at *
  obtain ⟨c1, c2⟩ := hcut
  intro r hr
  generalize hcs : ((tx l).data.map fun b => Value.int .u8 b.toNat) ++ Array.replicate (cap - (tx l).size) (.int .u8 0) = cs
  have hsz : cs.size = cap := by rw [← hcs]; simp [tx, ByteArray.size] at *; omega
  have u1 : Ext h (h.set r (.cells cs e)) := Upd.new hr
  show SemH P (markStringish ⟨r, 0, none⟩ >>= fun _ => pure (Value.slice (some ⟨r, 0, none⟩) (tx l).size cap)) (h.set r (.cells cs e)) k
  unfold markStringish
  have hshape : shapeH (h.set r (.cells cs e)) r = some (some (e, cs.size)) := by unfold shapeH; rw [set_same]
  show ∃ s, shapeH (h.set r (.cells cs e)) r = some s ∧ _
  refine ⟨_, hshape, ?_⟩
  show (∃ o, (h.set r (.cells cs e)) r = some o) ∧ _
  refine ⟨⟨_, set_same⟩, ?_⟩
  show k (.slice (some ⟨r, 0, none⟩) (tx l).size cap) (freezeH (h.set r (.cells cs e)) ⟨r, cs.size, none⟩ 1)
  have hf : freezeH (h.set r (.cells cs e)) ⟨r, cs.size, none⟩ 1 = h.set r (.cells cs e (cs.size, cs.size + 1)) := by
    funext b
    unfold freezeH PH.set
    simp only [Nat.one_ne_zero, if_false]
    by_cases hb : b = r
    · subst hb; simp
    · simp [hb]
  rw [hf]
  refine hk _ _ ⟨bcell.rows _, some ⟨r, 0, none⟩, cap, by rw [tx_size, List.length_map], by rw [List.length_map, ← tx_size]; exact c1, c2, fun _ => ⟨r, 0, cs, e, _, rfl, set_same, ?_, ?_⟩, trivial⟩ (Upd.new hr)
  · rw [List.length_map, hsz, ← tx_size]; omega
  · rw [bcell.flat, List.length_map]
    have e1 : cs.toList = (l.map fun b => Value.int .u8 b.toNat) ++ List.replicate (cap - (tx l).size) (.int .u8 0) := by rw [← hcs]; simp [tx]
    rw [Array.toList_extract, List.extract_eq_take_drop, e1]
    simp
theorem append_str {bytes : Nat} {v : Value} {rows : List (List Value)} {l : List UInt8} {F : List Nat} {i : TypeInfo} {z : Value} {k : Value → PH → Prop}
    (hu : P.underlying t = some (.slice e)) (hu2 : P.underlying t2 = some .string) (hi : P.info? e = some i) (hn : i.size = 1) (hby : i.bytes = bytes) (hz : i.zero = some z) (hzs : z.cells.size = 1) (hb0 : 0 < bytes)
    (H : OwnR h e 1 v rows F) (hl : (rows.length + l.length) * bytes ≤ 140737488355328)
    (hk : ∀ v' h' F', OwnR h' e 1 v' (rows ++ l.map bcell) F' → Upd F h h' → (∀ b ∈ F', b ∈ F ∨ h b = none) → capOf v ≤ capOf v' → k v' h') : SemH P (Builtin.append_ #[t, t2] t' #[v, .string (tx l)]) h k := by
  generalize hys : l.map bcell = ys at *
  have hyl : ys.length = l.length := by rw [← hys, List.length_map]
  have hSok : Rows 1 ys := by rw [← hys]; exact bcell.rows l
  have hcell : ∀ r ∈ ys, ∀ u ∈ r, isCell u = true := by rw [← hys]; exact bcell.isCell l
  rw [← hyl] at hl
  have hfirst : SemE P h (Builtin.firstCells 1 ys.length (.string (tx l))) = some ys.flatten.toArray := by
    show some (((tx l).extract 0 ys.length).data.map fun b => Value.int .u8 b.toNat) = _
    rw [hyl, ← hys, bcell.flat]
    congr 1
    apply Array.ext'
    rw [ByteArray.data_extract]
    simp [tx, List.extract_eq_take_drop]
  have hbig : rows.length + ys.length ≤ 140737488355328 := Nat.le_trans (Nat.le_mul_of_pos_right _ hb0) hl
  have hrows : Rows 1 (rows ++ ys) := H.ok.append hSok
  have hflat : ∀ u ∈ ys.flatten, isCell u = true := fun u hu => by
    obtain ⟨r, hr, hur⟩ := List.mem_flatten.1 hu; exact hcell r hr u hur
  -- a new block
  have grown : ∀ (m : Nat), rows.length + ys.length ≤ m → m ≤ maxL → capOf v ≤ m → ∀ r, h r = none →
      k (.slice (some ⟨r, 0, none⟩) (rows.length + ys.length) m) (h.set r (.cells (rows.flatten.toArray ++ ys.flatten.toArray ++ Builtin.zeroCells z.cells (m - (rows.length + ys.length))) e (0, 0))) := by
    intro m hm hmax hcapv r hr
    refine hk _ _ [r] ⟨hrows, .inr ⟨r, m, _, by rw [List.length_append], rfl, set_same, by simpa using hm, hmax, ?_, ?_⟩⟩ (Upd.new hr) (fun b hb => .inr (by simp at hb; subst hb; exact hr)) hcapv
    · simp only [Array.size_append, List.size_toArray, H.ok.flat, hSok.flat, Builtin.zeroCells, Array.size_map, Array.size_range, hzs]
      rw [← Nat.add_mul, ← Nat.add_mul]; congr 1; omega
    · have hlen : (rows ++ ys).length * 1 = (rows.flatten ++ ys.flatten).length := by rw [List.length_append, List.length_append, H.ok.flat, hSok.flat, Nat.add_mul]
      simp only [Array.toList_append, hlen, List.flatten_append]
      rw [List.take_append_of_le_length (Nat.le_refl _), List.take_length]
  obtain ⟨va, vc, hv, hv1, hv2, _, _⟩ := H.slR.here
  have hvfirst := H.slR.first (P := P)
  subst hv
  simp only [Builtin.append_, List.getElem?_toArray, List.getElem?_cons_zero, List.getElem?_cons_succ, semH_und hu, semH_und hu2, sizeOf_bind, semH_info hi, pure_bind, Bool.false_eq_true, if_false, Builtin.lenOf, Bool.not_false, if_true, hn, tx_size, ← hyl]
  by_cases hfit : rows.length + ys.length ≤ vc
  · rw [if_pos hfit]
    refine semH_of_semE hfirst ?_
    rcases H.here with ⟨hv', hr, hF⟩ | ⟨b, cap, cs, hv', hF, hb, hle, hcap, hcs, htake⟩
    · subst hr
      simp only [List.length_nil, Value.slice.injEq, true_and] at hv'
      obtain ⟨rfl, rfl⟩ := hv'
      have hy : ys = [] := List.eq_nil_of_length_eq_zero (by omega)
      subst hy
      exact hk _ _ [] (by simpa using OwnR.nil) Upd.refl (by simp) (Nat.le_refl _)
    · simp only [Value.slice.injEq, true_and] at hv'
      obtain ⟨rfl, rfl⟩ := hv'
      have hmul : (rows.length + ys.length) * 1 ≤ vc * 1 := Nat.mul_le_mul_right _ hfit
      have hadd : (⟨b, 0, none⟩ : Addr).add (rows.length * 1) = ⟨b, 0 + rows.length * 1, none⟩ := plain_add ..
      show SemH P (storeCells ((⟨b, 0, none⟩ : Addr).add (rows.length * 1)) ys.flatten.toArray.toList >>= fun _ => pure _) h k
      rw [hadd]
      refine SemH.bind (P := P) (s := storeCells _ _) ?_
      refine semH_storeCells _ 0 h cs hb (by simp only [hSok.flat, hcs]; rw [Nat.add_mul] at hmul; omega) (by simpa using hflat) ?_
      show k _ _
      simp only [Nat.zero_add, Nat.add_zero]
      have fin : ∀ cs' : Array Value, cs'.size = cs.size → cs'.toList.take ((rows.length + ys.length) * 1) = rows.flatten ++ ys.flatten → ∀ h' : PH, h' b = some (.cells cs' e (0, 0)) → Upd F h h' →
          k (.slice (some ⟨b, 0, none⟩) (rows.length + ys.length) vc) h' := by
        intro cs' hsz htk h' hb' hu'
        refine hk _ _ [b] ⟨hrows, .inr ⟨b, vc, cs', by rw [List.length_append], rfl, hb', by simpa using hfit, hcap, by rw [hsz, hcs], by rw [List.length_append, htk, List.flatten_append]⟩⟩ hu' (fun b' hb' => .inl (hF ▸ hb')) (Nat.le_refl _)
      split
      · rename_i hys
        refine fin cs rfl ?_ h hb Upd.refl
        have : ys.length * 1 = 0 := by rw [← hSok.flat, hys]; rfl
        rw [Nat.add_mul, this, hys, List.append_nil, Nat.add_zero]; exact htake
      · refine fin _ (writeA_size _ _ _) ?_ _ set_same (Upd.set (by rw [hF]; simp))
        have hlen : rows.length * 1 + ys.flatten.length ≤ cs.size := by rw [hSok.flat, ← Nat.add_mul, hcs]; exact hmul
        rw [writeA_list _ _ _ hlen, htake]
        have hlen2 : (rows.length + ys.length) * 1 = (rows.flatten ++ ys.flatten).length := by rw [List.length_append, H.ok.flat, hSok.flat, Nat.add_mul]
        rw [hlen2, List.take_append_of_le_length (Nat.le_refl _), List.take_length]
  · rw [if_neg hfit]
    have hlt : vc < rows.length + ys.length := by omega
    have h63 : ¬ (((rows.length + ys.length : Nat) : Int) > IntKind.i64.max ∧ (False ∨ i.bytes = 0)) := by
      rintro ⟨_, hh⟩
      rcases hh with hh | hh
      · exact hh
      · omega
    have hfits : ¬ (Builtin.nextslicecap (rows.length + ys.length) vc * i.bytes > 2 ^ 48) := by
      rw [hby]
      have := growslice_fits hlt hl
      omega
    rw [semH_info hi, if_neg h63, semH_info hi, if_neg hfits, semH_choose]
    intro tt
    rw [semH_info hi, semH_askRoom]
    refine semH_of_semE hvfirst (semH_of_semE hfirst ?_)
    have hzv : zeroValue e = (typeInfo e >>= fun i => match i.zero with | some v => pure v | none => unsupported (.resourceLimit "a value of more than 2^22 cells")) := rfl
    rw [hzv, bind_assoc, semH_info hi, hz, pure_bind]
    have hcut : ∀ n m : Nat, n ≤ 140737488355328 → n ≤ (Question.appendCap n m e).cut tt ∧ (Question.appendCap n m e).cut tt ≤ maxL := by
      intro n m hn
      have hpos : 0 < 2 ^ 63 - n := by omega
      have := Nat.mod_lt tt hpos
      simp only [Question.cut, maxL]
      omega
    have hforced : (Question.appendCap (rows.length + ys.length) vc e).forced = false := rfl
    rw [hforced]
    obtain ⟨hc1, hc2⟩ := hcut (rows.length + ys.length) vc hbig
    intro r hr
    exact grown _ hc1 hc2 (show vc ≤ _ by omega) r hr
end
theorem snoc_ind {α : Type} {p : List α → Prop} (h0 : p []) (hs : ∀ l a, p l → p (l ++ [a])) (l : List α) : p l := by
  rw [← List.reverse_reverse l]
  induction l.reverse with
  | nil => exact h0
  | cons a l ih => rw [List.reverse_cons]; exact hs _ _ ih
def val (l : List UInt8) : Nat := l.foldl (fun a b => a * 256 + b.toNat) 0
theorem val_snoc (l : List UInt8) (b : UInt8) : val (l ++ [b]) = val l * 256 + b.toNat := by simp [val]
def be (n : Nat) : Nat → List UInt8
  | 0 => []
  | k + 1 => be (n / 256) k ++ [UInt8.ofNat (n % 256)]
theorem be_len (n k : Nat) : (be n k).length = k := by
  induction k generalizing n with
  | zero => rfl
  | succ k ih => simp [be, ih]
theorem val_be (n k : Nat) : val (be n k) = n % 256 ^ k := by
  induction k generalizing n with
  | zero => simp [be, val]; omega
  | succ k ih =>
    rw [be, val_snoc, ih]
    have : (UInt8.ofNat (n % 256)).toNat = n % 256 := by simp
    rw [this, Nat.pow_succ, Nat.mul_comm (256 ^ k) 256, Nat.mod_mul]
    omega
theorem val_lt (l : List UInt8) : val l < 256 ^ l.length := by
  refine snoc_ind (p := fun l => val l < 256 ^ l.length) (by simp [val]) (fun l b ih => ?_) l
  · rw [val_snoc, List.length_append, List.length_singleton, Nat.pow_succ]
    have := b.toNat_lt
    have : val l + 1 ≤ 256 ^ l.length := ih
    have h2 : (val l + 1) * 256 ≤ 256 ^ l.length * 256 := Nat.mul_le_mul_right _ this
    omega
theorem be_get (n : Nat) : ∀ (k i : Nat), i < k → (be n k)[i]? = some (UInt8.ofNat (n / 256 ^ (k - 1 - i) % 256))
  | 0, i, h => by omega
  | k + 1, i, h => by
    rw [be, List.getElem?_append, be_len]
    by_cases hi : i < k
    · rw [if_pos hi, be_get (n / 256) k i hi, Nat.div_div_eq_div_mul, show k + 1 - 1 - i = (k - 1 - i) + 1 by omega, Nat.pow_succ, Nat.mul_comm 256]
    · have : i = k := by omega
      subst this
      simp
theorem be_take_succ {n k i : Nat} (hi : i < k) : (be n k).take (i + 1) = (be n k).take i ++ [UInt8.ofNat (n / 256 ^ (k - 1 - i) % 256)] := by
  rw [List.take_add_one, be_get n k i hi]; rfl
end Go.Proofs.YtcoajnpchhmgjaaGreatDoor
namespace Go.Proofs.YtcoajnpchhmgjaaGreatDoor
open Go
structure Bx (h : PH) (r : Nat) (cs : List Value) : Prop where
  here : ∃ e, h r = some (.cells cs.toArray e (0, 0))
theorem Bx.upd {h h' : PH} {r : Nat} {cs : List Value} {G : List Nat} (H : Bx h r cs) (u : Upd G h h') (hr : r ∉ G) : Bx h' r cs := by
  obtain ⟨e, h1⟩ := H; exact ⟨e, u.get h1 hr⟩
theorem Bx.ext {h h' : PH} {r : Nat} {cs : List Value} (H : Bx h r cs) (u : Ext h h') : Bx h' r cs := H.upd u (by simp)
theorem Bx.new {h : PH} {r : Nat} {cs : List Value} {e : TypeId} : Bx (h.set r (.cells cs.toArray e (0, 0))) r cs := ⟨e, set_same⟩
theorem Bx.cell {h : PH} {r : Nat} {cs : List Value} (H : Bx h r cs) (o : Nat) : cellH h ⟨r, o, none⟩ = cs[o]? := by
  obtain ⟨e, h1⟩ := H; simp [cellH, h1]
theorem Bx.known {h : PH} {r : Nat} {cs : List Value} (H : Bx h r cs) : h r ≠ none := by
  obtain ⟨e, h1⟩ := H; rw [h1]; simp
theorem Bx.apart {h : PH} {r x : Nat} {cs : List Value} (H : Bx h r cs) (hx : h x = none) : r ≠ x := fun e => H.known (e ▸ hx)
section
variable {P : Program} {h : PH} {t : TypeId}
theorem Bx.agg {r n o : Nat} {cs : List Value} (H : Bx h r cs) {d : TypeDesc} {i : TypeInfo} (hu : P.underlying t = some d) (hd : flatD d = false) (hi : P.info? t = some i) (hn : i.size = n) (hle : o + n ≤ cs.length) :
    SemE P h (Instr.loadAt t (.pointer (some ⟨r, o, none⟩))) = some (.agg ((cs.drop o).take n).toArray) := by
  obtain ⟨e, h1⟩ := H
  rw [loadAt_agg hu hd hi hn h1 (by simpa using hle)]
  congr 2
  simp [List.drop_take]
theorem Bx.put1 {r o : Nat} {cs : List Value} (H : Bx h r cs) {d : TypeDesc} {i : TypeInfo} (hu : P.underlying t = some d) (hd : flatD d = true) (hi : P.info? t = some i) (hn : i.size = 1) {v : Value} (ho : o < cs.length) (hv : isCell v = true) {k : Value → PH → Prop}
    (hk : ∀ h', Bx h' r (cs.set o v) → Upd [r] h h' → k undef h') : SemH P (storeS t (.pointer (some ⟨r, o, none⟩)) v) h k := by
  obtain ⟨e, h1⟩ := H
  refine store_cell hu hd h1 (by simpa using ho) hv hi hn ?_
  refine hk _ ⟨e, ?_⟩ (Upd.set (by simp))
  rw [set_same]; simp
theorem Bx.putN {r o : Nat} {cs vs : List Value} (H : Bx h r cs) {i : TypeInfo} (hi : P.info? t = some i) (hn : i.size = vs.length) (h0 : 0 < vs.length) (ho : o + vs.length ≤ cs.length) (hv : ∀ v ∈ vs, isCell v = true) {k : Value → PH → Prop}
    (hk : ∀ h', Bx h' r (cs.take o ++ vs ++ cs.drop (o + vs.length)) → Upd [r] h h' → k undef h') : SemH P (storeS t (.pointer (some ⟨r, o, none⟩)) (.agg vs.toArray)) h k := by
  obtain ⟨e, h1⟩ := H
  refine store_agg h1 hi (by simpa using hn) (by simpa using h0) (by simpa using ho) (by simpa using hv) ?_
  refine hk _ ⟨e, ?_⟩ (Upd.set (by simp))
  rw [set_same]
  congr 2
  apply Array.ext'
  have := writeA_list vs cs.toArray o (by simpa using ho)
  simpa using this
theorem Bx.fill {r : Nat} {vs : List Value} {i : TypeInfo} (hr : h r = none) (hi : P.info? t = some i) (hn : i.size = vs.length) (h0 : 0 < vs.length) (hz : (zcells P t).size = vs.length) (hv : ∀ v ∈ vs, isCell v = true) {k : Value → PH → Prop}
    (hk : ∀ h', Bx h' r vs → Ext h h' → k undef h') : SemH P (storeS t (.pointer (some ⟨r, 0, none⟩)) (.agg vs.toArray)) (h.set r (.cells (zcells P t) t)) k := by
  refine store_box set_same hi (by simpa using hn) (by simpa using h0) (by simpa using hz) (by simpa using hv) ?_
  rw [set_set_same]
  exact hk _ ⟨_, set_same⟩ (Upd.new hr)
theorem Bx.fill1 {r : Nat} {v : Value} {d : TypeDesc} {i : TypeInfo} (hr : h r = none) (hu : P.underlying t = some d) (hd : flatD d = true) (hi : P.info? t = some i) (hn : i.size = 1) (hz : (zcells P t).size = 1) (hv : isCell v = true) {k : Value → PH → Prop}
    (hk : ∀ h', Bx h' r [v] → Ext h h' → k undef h') : SemH P (storeS t (.pointer (some ⟨r, 0, none⟩)) v) (h.set r (.cells (zcells P t) t)) k := by
  refine store_cell hu hd set_same (by omega) hv hi hn ?_
  rw [set_set_same]
  refine hk _ ⟨t, ?_⟩ (Upd.new hr)
  rw [set_same]
  congr 2
  apply Array.ext'
  match zcells P t, hz with
  | ⟨[x]⟩, _ => rfl
theorem Bx.zero {r : Nat} {cs : List Value} (hz : zcells P t = cs.toArray) : Bx (h.set r (.cells (zcells P t) t)) r cs := by rw [hz]; exact Bx.new
end
theorem SlR.isc {h : PH} {n : Nat} {v : Value} {rows : List (List Value)} (S : SlR h n v rows) : isCell v = true := by obtain ⟨_, _, e, _⟩ := S.here; rw [e]; rfl
theorem SlR.known {h : PH} {size : Nat} {v : Value} {rows : List (List Value)} (H : SlR h size v rows) (hne : rows ≠ []) {x : Addr} {n c : Nat} (e : v = .slice (some x) n c) : h x.block ≠ none := by
  obtain ⟨a, c', hv, h1, h2, h3, h4⟩ := H.here
  obtain ⟨b, o, cs, e', fr, ha, hb, _⟩ := h3 hne
  rw [hv, ha] at e
  simp only [Value.slice.injEq, Option.some.injEq] at e
  rw [← e.1, hb]; simp
end Go.Proofs.YtcoajnpchhmgjaaGreatDoor
