/- Partial heaps: what an operation of the model does, said of a part of memory alone; and that it holds of every memory that has that part. -/
import Derived.Calls
import Derived.Scope
import Derived.Orders
set_option linter.unusedSimpArgs false
set_option linter.unusedVariables false
namespace Go.Proofs.YtllopddcpkhfjaaDoor
open Go

/-- A part of memory: blocks by their numbers. -/
abbrev PH := Nat → Option Obj

def PH.set (h : PH) (r : Nat) (o : Obj) : PH := fun b => if b = r then some o else h b

def cellH (h : PH) (a : Addr) : Option Value :=
  match h a.block with
  | some (.cells c _ _) => if a.spot.isSome then none else c[a.off]?
  | _ => none
def frozenH (h : PH) (a : Addr) : Bool :=
  match h a.block with
  | some (.cells _ _ (lo, hi)) => lo ≤ a.off && a.off < hi
  | _ => false
def setCellH (h : PH) (a : Addr) (v : Value) : PH := fun b =>
  if b = a.block then
    match h b with
    | some (.cells c e fr) => some (.cells (if a.spot.isSome then c else c.setIfInBounds a.off v) e fr)
    | o => o
  else h b
def freezeH (h : PH) (a : Addr) (n : Nat) : PH := fun b =>
  if n = 0 then h b else
  if b = a.block then
    match h b with
    | some (.cells c elem (lo, hi)) => some (.cells c elem (if lo == hi then (a.off, a.off + n) else (min lo a.off, max hi (a.off + n))))
    | o => o
  else h b
def shapeH (h : PH) (r : Nat) : Option (Option (TypeId × Nat)) :=
  match h r with
  | some (.cells c elem _) => some (some (elem, c.size))
  | some _ => some none
  | none => none
def isCell : Value → Bool
  | .agg _ | .tuple _ => false
  | _ => true

/-- The memory has that part. -/
def Sub (h : PH) (w : World) : Prop := ∀ b o, h b = some o → w.heap[b]? = some o
/-- What a step leaves alone: all that was there and isn't in the part. -/
structure Fr (h : PH) (w : World) (h' : PH) (w' : World) : Prop where
  os : w'.os = w.os
  tape : w'.tape = w.tape
  output : w'.output = w.output
  drawn : w.drawn ≤ w'.drawn
  size : w.heap.size ≤ w'.heap.size
  far : ∀ b, b < w.heap.size → h b = none → w'.heap[b]? = w.heap[b]?
  none : ∀ b, b < w.heap.size → h b = Option.none → h' b = Option.none

theorem Fr.refl (h : PH) (w : World) : Fr h w h w := ⟨rfl, rfl, rfl, Nat.le_refl _, Nat.le_refl _, fun _ _ _ => rfl, fun _ _ h => h⟩
theorem Fr.trans {h h1 h2 : PH} {w w1 w2 : World} (a : Fr h w h1 w1) (b : Fr h1 w1 h2 w2) : Fr h w h2 w2 :=
  ⟨b.os.trans a.os, b.tape.trans a.tape, b.output.trans a.output, Nat.le_trans a.drawn b.drawn, Nat.le_trans a.size b.size,
   fun i hi hn => (b.far i (Nat.lt_of_lt_of_le hi a.size) (a.none i hi hn)).trans (a.far i hi hn),
   fun i hi hn => b.none i (Nat.lt_of_lt_of_le hi a.size) (a.none i hi hn)⟩
theorem Sub.lt {h : PH} {w : World} (hs : Sub h w) {b : Nat} {o : Obj} (hb : h b = some o) : b < w.heap.size :=
  (Array.getElem?_eq_some_iff.1 (hs b o hb)).1
theorem Sub.fresh {h : PH} {w : World} (hs : Sub h w) : h w.heap.size = none := by
  cases hb : h w.heap.size with
  | none => rfl
  | some o => exact absurd (hs.lt hb) (Nat.lt_irrefl _)

/-- What an operation comes to, whatever new blocks' numbers and whatever is drawn. -/
def SemH (P : Program) {α : Type} : Sem α → PH → (α → PH → Prop) → Prop
  | .pure a, h, Q => Q a h
  | .load _ a k, h, Q => ∃ v, cellH h a = some v ∧ SemH P (k v) h Q
  | .store _ a v k, h, Q => isCell v = true ∧ frozenH h a = false ∧ (∃ u, cellH h a = some u) ∧ SemH P k (setCellH h a v) Q
  | .new o k, h, Q => ∀ r, h r = none → SemH P (k r) (h.set r o) Q
  | .shape r k, h, Q => ∃ s, shapeH h r = some s ∧ SemH P (k s) h Q
  | .freeze a n k, h, Q => (∃ o, h a.block = some o) ∧ SemH P k (freezeH h a n) Q
  | .frozen a k, h, Q => (∃ o, h a.block = some o) ∧ SemH P (k (frozenH h a)) h Q
  | .getObj r k, h, Q => ∃ o, h r = some o ∧ (∀ c e f, o ≠ .cells c e f) ∧ SemH P (k o) h Q
  | .setObj r o k, h, Q => (∃ u, h r = some u ∧ (∀ c e f, u ≠ .cells c e f)) ∧ SemH P k (h.set r o) Q
  | .choose q k, h, Q => ∀ t, SemH P (k (if q.forced then 0 else q.cut t)) h Q
  | .sys _ _, _, _ => False
  | .program k, h, Q => SemH P (k P) h Q
  | .mark _ k, h, Q => SemH P k h Q
  | .halt _, _, _ => False

/-- An operation that only looks. -/
def SemE (P : Program) {α : Type} (h : PH) : Sem α → Option α
  | .pure a => some a
  | .load _ a k => (cellH h a).bind fun v => SemE P h (k v)
  | .shape r k => (shapeH h r).bind fun s => SemE P h (k s)
  | .frozen a k => (h a.block).bind fun _ => SemE P h (k (frozenH h a))
  | .program k => SemE P h (k P)
  | .mark _ k => SemE P h k
  | .getObj r k => match h r with
    | some (.cells ..) => none
    | some o => SemE P h (k o)
    | none => none
  | _ => none
/-- An operation that doesn't even look. -/
def SemP (P : Program) {α : Type} : Sem α → Option α
  | .pure a => some a
  | .program k => SemP P (k P)
  | .mark _ k => SemP P k
  | _ => none

theorem SemH.mono {P : Program} {α : Type} {s : Sem α} : ∀ {h : PH} {Q Q' : α → PH → Prop}, SemH P s h Q → (∀ a h, Q a h → Q' a h) → SemH P s h Q' := by
  induction s with
  | pure a => intro h Q Q' hh hq; exact hq _ _ hh
  | load m a k ih => rintro h Q Q' ⟨v, hv, hh⟩ hq; exact ⟨v, hv, ih v hh hq⟩
  | store m a v k ih => rintro h Q Q' ⟨h1, h2, h3, hh⟩ hq; exact ⟨h1, h2, h3, ih hh hq⟩
  | new o k ih => intro h Q Q' hh hq r hr; exact ih r (hh r hr) hq
  | shape r k ih => rintro h Q Q' ⟨v, hv, hh⟩ hq; exact ⟨v, hv, ih v hh hq⟩
  | freeze a n k ih => rintro h Q Q' ⟨h1, hh⟩ hq; exact ⟨h1, ih hh hq⟩
  | frozen a k ih => rintro h Q Q' ⟨h1, hh⟩ hq; exact ⟨h1, ih _ hh hq⟩
  | getObj r k ih => rintro h Q Q' ⟨o, ho, hc, hh⟩ hq; exact ⟨o, ho, hc, ih o hh hq⟩
  | setObj r o k ih => rintro h Q Q' ⟨h1, hh⟩ hq; exact ⟨h1, ih hh hq⟩
  | choose q k ih => intro h Q Q' hh hq t; exact ih _ (hh t) hq
  | sys c k ih => intro h Q Q' hh; exact hh.elim
  | program k ih => intro h Q Q' hh hq; exact ih P hh hq
  | mark m k ih => intro h Q Q' hh hq; exact ih hh hq
  | halt x => intro h Q Q' hh; exact hh.elim

theorem SemH.bind {P : Program} {α β : Type} {s : Sem α} {f : α → Sem β} : ∀ {h : PH} {Q : β → PH → Prop}, SemH P s h (fun a h' => SemH P (f a) h' Q) → SemH P (s.bind f) h Q := by
  induction s with
  | pure a => intro h Q hh; exact hh
  | load m a k ih => rintro h Q ⟨v, hv, hh⟩; exact ⟨v, hv, ih v hh⟩
  | store m a v k ih => rintro h Q ⟨h1, h2, h3, hh⟩; exact ⟨h1, h2, h3, ih hh⟩
  | new o k ih => intro h Q hh r hr; exact ih r (hh r hr)
  | shape r k ih => rintro h Q ⟨v, hv, hh⟩; exact ⟨v, hv, ih v hh⟩
  | freeze a n k ih => rintro h Q ⟨h1, hh⟩; exact ⟨h1, ih hh⟩
  | frozen a k ih => rintro h Q ⟨h1, hh⟩; exact ⟨h1, ih _ hh⟩
  | getObj r k ih => rintro h Q ⟨o, ho, hc, hh⟩; exact ⟨o, ho, hc, ih o hh⟩
  | setObj r o k ih => rintro h Q ⟨h1, hh⟩; exact ⟨h1, ih hh⟩
  | choose q k ih => intro h Q hh t; exact ih _ (hh t)
  | sys c k ih => intro h Q hh; exact hh.elim
  | program k ih => intro h Q hh; exact ih P hh
  | mark m k ih => intro h Q hh; exact ih hh
  | halt x => intro h Q hh; exact hh.elim

theorem SemP.semE {P : Program} {α : Type} {s : Sem α} : ∀ {a : α}, SemP P s = some a → ∀ h, SemE P h s = some a := by
  induction s with
  | pure a => intro b hb h; exact hb
  | program k ih => intro b hb h; exact ih P hb h
  | mark m k ih => intro b hb h; exact ih hb h
  | _ => intro b hb; cases hb
theorem SemE.semH {P : Program} {α : Type} {s : Sem α} : ∀ {a : α} {h : PH}, SemE P h s = some a → ∀ {Q : α → PH → Prop}, Q a h → SemH P s h Q := by
  induction s with
  | pure a => intro b h hb Q hq; simp only [SemE, Option.some.injEq] at hb; subst hb; exact hq
  | load m a k ih => intro b h hb Q hq; obtain ⟨v, hv, hb⟩ := Option.bind_eq_some_iff.1 hb; exact ⟨v, hv, ih v hb hq⟩
  | shape r k ih => intro b h hb Q hq; obtain ⟨v, hv, hb⟩ := Option.bind_eq_some_iff.1 hb; exact ⟨v, hv, ih v hb hq⟩
  | frozen a k ih => intro b h hb Q hq; obtain ⟨v, hv, hb⟩ := Option.bind_eq_some_iff.1 hb; exact ⟨⟨v, hv⟩, ih _ hb hq⟩
  | program k ih => intro b h hb Q hq; exact ih P hb hq
  | mark m k ih => intro b h hb Q hq; exact ih hb hq
  | getObj r k ih =>
    intro b h hb Q hq
    simp only [SemE] at hb
    split at hb
    · cases hb
    · rename_i o ho hr; exact ⟨o, hr, fun c e f hc => ho c e f hc, ih o hb hq⟩
    · cases hb
  | _ => intro b h hb; cases hb

/-! ### Of the part, and of the whole -/
theorem Sub.cell {h : PH} {w : World} (hs : Sub h w) {a : Addr} {v : Value} (hv : cellH h a = some v) : w.cell? a = some v := by
  unfold cellH at hv
  split at hv
  · rename_i c e f hb
    unfold World.cell?
    rw [hs _ _ hb]
    exact hv
  · cases hv
theorem Sub.shape {h : PH} {w : World} (hs : Sub h w) {r : Nat} {s : Option (TypeId × Nat)} (hv : shapeH h r = some s) : w.shape? r = s := by
  unfold shapeH at hv
  unfold World.shape?
  split at hv
  · rename_i c e f hb; rw [hs _ _ hb]; simpa using hv
  · rename_i o hne hb
    rw [hs _ _ hb]
    simp only [Option.some.injEq] at hv
    subst hv
    split
    · rename_i c e f hc; simp only [Option.some.injEq] at hc; subst hc; exact absurd hb (by simpa using hne c e f)
    · rfl
  · cases hv
theorem Sub.frozen {h : PH} {w : World} (hs : Sub h w) {a : Addr} {o : Obj} (ho : h a.block = some o) : w.frozen? a = frozenH h a := by
  unfold World.frozen? frozenH
  rw [hs _ _ ho, ho]
  cases o <;> rfl
theorem heap_push (w : World) (o : Obj) (b : Nat) : ({ w with heap := w.heap.push o } : World).heap[b]? = if b = w.heap.size then some o else w.heap[b]? := by
  simp only [Array.getElem?_push]
theorem Sub.new {h : PH} {w : World} (hs : Sub h w) (o : Obj) : Sub (h.set w.heap.size o) { w with heap := w.heap.push o } ∧ Fr h w (h.set w.heap.size o) { w with heap := w.heap.push o } := by
  refine ⟨fun b u hb => ?_, rfl, rfl, rfl, Nat.le_refl _, by simp, fun b hb hn => ?_, fun b hb hn => ?_⟩
  · rw [heap_push]
    unfold PH.set at hb
    split at hb
    · rename_i e; rw [if_pos e]; exact hb
    · rename_i e; rw [if_neg e]; exact hs b u hb
  · rw [heap_push, if_neg (Nat.ne_of_lt hb)]
  · unfold PH.set; rw [if_neg (Nat.ne_of_lt hb)]; exact hn
theorem Sub.modify {h : PH} {w : World} (hs : Sub h w) (g : Nat) (f : Obj → Obj) (h' : PH) (hh : ∀ b, h' b = if b = g then (h b).map f else h b) {o : Obj} (hg : h g = some o) :
    Sub h' { w with heap := w.heap.modify g f } ∧ Fr h w h' { w with heap := w.heap.modify g f } := by
  refine ⟨fun b u hb => ?_, rfl, rfl, rfl, Nat.le_refl _, by simp, fun b hb hn => ?_, fun b hb hn => ?_⟩
  · rw [hh] at hb
    simp only [Array.getElem?_modify]
    by_cases e : b = g
    · subst e
      simp only [if_true, hg, Option.map_some, Option.some.injEq] at hb
      subst hb
      simp [hs _ _ hg]
    · rw [if_neg e] at hb
      rw [if_neg (Ne.symm e)]
      exact hs b u hb
  · have e : g ≠ b := fun e => by subst e; rw [hg] at hn; cases hn
    simp only [Array.getElem?_modify, if_neg e]
  · rw [hh]
    by_cases e : b = g
    · subst e; rw [hg] at hn; cases hn
    · rw [if_neg e]; exact hn

theorem cellH_block {h : PH} {a : Addr} {v : Value} (hv : cellH h a = some v) : ∃ c e f, h a.block = some (.cells c e f) := by
  unfold cellH at hv
  split at hv
  · rename_i c e f hb; exact ⟨c, e, f, hb⟩
  · cases hv

theorem SemH.sound {P : Program} {α : Type} {s : Sem α} : ∀ {h : PH} {Q : α → PH → Prop}, SemH P s h Q → ∀ {w : World}, Sub h w →
    ∃ a w' h', s.run P w = .ok a w' ∧ Q a h' ∧ Sub h' w' ∧ Fr h w h' w' := by
  induction s with
  | pure a => intro h Q hh w hs; exact ⟨a, w, h, rfl, hh, hs, Fr.refl _ _⟩
  | load m a k ih =>
    rintro h Q ⟨v, hv, hh⟩ w hs
    obtain ⟨x, w', h', hr, hrest⟩ := ih v hh hs
    exact ⟨x, w', h', by simp only [Sem.run, hs.cell hv]; exact hr, hrest⟩
  | store m a v k ih =>
    rintro h Q ⟨h1, h2, ⟨u, hu⟩, hh⟩ w hs
    obtain ⟨c, e, f, hb⟩ := cellH_block hu
    have hm := hs.modify a.block (fun | .cells c elem frozen => .cells (if a.spot.isSome then c else c.setIfInBounds a.off v) elem frozen | o => o) (setCellH h a v)
      (by intro b; unfold setCellH; split
          · cases h b with
            | none => rfl
            | some o => cases o <;> rfl
          · rfl) hb
    obtain ⟨x, w', h', hr, hq, hs', hf⟩ := ih hh hm.1
    refine ⟨x, w', h', ?_, hq, hs', hm.2.trans hf⟩
    have hfz : w.frozen? a = false := by rw [hs.frozen hb]; exact h2
    cases v <;> simp [isCell] at h1 <;> simp only [Sem.run, hs.cell hu, hfz] <;> exact hr
  | new o k ih =>
    intro h Q hh w hs
    have hn := hs.new o
    obtain ⟨x, w', h', hr, hq, hs', hf⟩ := ih _ (hh _ hs.fresh) hn.1
    exact ⟨x, w', h', hr, hq, hs', hn.2.trans hf⟩
  | shape r k ih =>
    rintro h Q ⟨v, hv, hh⟩ w hs
    obtain ⟨x, w', h', hr, hrest⟩ := ih v hh hs
    exact ⟨x, w', h', by simp only [Sem.run, hs.shape hv]; exact hr, hrest⟩
  | freeze a n k ih =>
    rintro h Q ⟨⟨o, ho⟩, hh⟩ w hs
    by_cases hn : n = 0
    · have e : freezeH h a n = h := by funext b; simp [freezeH, hn]
      rw [e] at hh
      obtain ⟨x, w', h', hr, hrest⟩ := ih hh hs
      exact ⟨x, w', h', by simp only [Sem.run, World.freeze, hn, if_true]; exact hr, hrest⟩
    · have hm := hs.modify a.block (fun | .cells c elem (lo, hi) => .cells c elem (if lo == hi then (a.off, a.off + n) else (min lo a.off, max hi (a.off + n))) | o => o) (freezeH h a n)
        (by intro b; unfold freezeH; rw [if_neg hn]; split
            · cases h b with
              | none => rfl
              | some o => cases o <;> rfl
            · rfl) ho
      obtain ⟨x, w', h', hr, hq, hs', hf⟩ := ih hh hm.1
      exact ⟨x, w', h', by simp only [Sem.run, World.freeze, hn, if_false]; exact hr, hq, hs', hm.2.trans hf⟩
  | frozen a k ih =>
    rintro h Q ⟨⟨o, ho⟩, hh⟩ w hs
    obtain ⟨x, w', h', hr, hrest⟩ := ih _ hh hs
    exact ⟨x, w', h', by simp only [Sem.run, hs.frozen ho]; exact hr, hrest⟩
  | getObj r k ih =>
    rintro h Q ⟨o, ho, hc, hh⟩ w hs
    obtain ⟨x, w', h', hr, hrest⟩ := ih _ hh hs
    refine ⟨x, w', h', ?_, hrest⟩
    simp only [Sem.run, hs _ _ ho]
    cases o <;> first | exact absurd rfl (hc _ _ _) | exact hr
  | setObj r o k ih =>
    rintro h Q ⟨⟨u, hu, hc⟩, hh⟩ w hs
    have hlt := hs.lt hu
    have hm := hs.modify r (fun _ => o) (h.set r o) (fun b => by
      unfold PH.set
      split
      · rename_i e; subst e; rw [hu]; rfl
      · rfl) hu
    have he : w.heap.modify r (fun _ => o) = w.heap.setIfInBounds r o := by
      apply Array.ext_getElem?
      intro i
      simp only [Array.getElem?_modify, Array.getElem?_setIfInBounds]
      by_cases e : r = i
      · subst e; simp [hlt]
      · simp [e]
    rw [he] at hm
    obtain ⟨x, w', h', hr, hq, hs', hf⟩ := ih hh hm.1
    refine ⟨x, w', h', ?_, hq, hs', hm.2.trans hf⟩
    simp only [Sem.run, hs _ _ hu]
    cases u <;> first | exact absurd rfl (hc _ _ _) | exact hr
  | choose q k ih =>
    intro h Q hh w hs
    by_cases hq : q.forced
    · have h0 := hh 0
      simp only [hq, if_true] at h0
      obtain ⟨x, w', h', hr, hrest⟩ := ih _ h0 hs
      exact ⟨x, w', h', by simp only [Sem.run, hq, if_true]; exact hr, hrest⟩
    · have h0 := hh (w.tape w.drawn q)
      simp only [hq] at h0
      have hs1 : Sub h { w with drawn := w.drawn + 1 } := hs
      obtain ⟨x, w', h', hr, hqq, hs', hf⟩ := ih _ h0 hs1
      exact ⟨x, w', h', by simp only [Sem.run, hq]; exact hr, hqq, hs', ⟨hf.os, hf.tape, hf.output, Nat.le_trans (Nat.le_succ _) hf.drawn, hf.size, hf.far, hf.none⟩⟩
  | sys c k ih => intro h Q hh; exact hh.elim
  | program k ih =>
    intro h Q hh w hs
    obtain ⟨x, w', h', hr, hrest⟩ := ih P hh hs
    exact ⟨x, w', h', hr, hrest⟩
  | mark m k ih =>
    intro h Q hh w hs
    obtain ⟨x, w', h', hr, hrest⟩ := ih hh hs
    exact ⟨x, w', h', hr, hrest⟩
  | halt x => intro h Q hh; exact hh.elim

/-- A further block beside the part plays no part. -/
theorem SemH.frame {P : Program} {α : Type} {s : Sem α} (r : Nat) (o : Obj) : ∀ {h : PH} {Q : α → PH → Prop}, SemH P s h Q → h r = none →
    SemH P s (h.set r o) (fun a h2 => ∃ h1 : PH, h2 = h1.set r o ∧ h1 r = none ∧ Q a h1) := by
  have hset : ∀ (h : PH) b, h r = none → (∃ u, h b = some u) → (h.set r o) b = h b := by
    intro h b hr ⟨u, hu⟩
    unfold PH.set
    rw [if_neg]
    rintro rfl; rw [hr] at hu; cases hu
  induction s with
  | pure a => intro h Q hh hr; exact ⟨h, rfl, hr, hh⟩
  | load m a k ih =>
    rintro h Q ⟨v, hv, hh⟩ hr
    obtain ⟨c, e, f, hb⟩ := cellH_block hv
    exact ⟨v, by unfold cellH at *; rw [hset h _ hr ⟨_, hb⟩]; exact hv, ih v hh hr⟩
  | store m a v k ih =>
    rintro h Q ⟨h1, h2, ⟨u, hu⟩, hh⟩ hr
    obtain ⟨c, e, f, hb⟩ := cellH_block hu
    have hne : a.block ≠ r := by rintro rfl; rw [hr] at hb; cases hb
    refine ⟨h1, by unfold frozenH at *; rw [hset h _ hr ⟨_, hb⟩]; exact h2, ⟨u, by unfold cellH at *; rw [hset h _ hr ⟨_, hb⟩]; exact hu⟩, ?_⟩
    have he : setCellH (h.set r o) a v = (setCellH h a v).set r o := by
      funext b
      unfold setCellH PH.set
      by_cases e1 : b = r
      · subst e1; simp [Ne.symm hne]
      · simp [e1]
    rw [he]
    exact ih hh (by unfold setCellH; rw [if_neg (Ne.symm hne)]; exact hr)
  | new o' k ih =>
    intro h Q hh hr r' hr'
    have hne : r' ≠ r := by rintro rfl; simp [PH.set] at hr'
    have hr2 : h r' = none := by unfold PH.set at hr'; rw [if_neg hne] at hr'; exact hr'
    have he : (h.set r o).set r' o' = (h.set r' o').set r o := by
      funext b; unfold PH.set
      by_cases e1 : b = r'
      · subst e1; simp [hne]
      · simp [e1]
    rw [he]
    exact ih r' (hh r' hr2) (by unfold PH.set; rw [if_neg (Ne.symm hne)]; exact hr)
  | shape r' k ih =>
    rintro h Q ⟨v, hv, hh⟩ hr
    have hb : ∃ u, h r' = some u := by
      unfold shapeH at hv
      cases hx : h r' with
      | none => rw [hx] at hv; cases hv
      | some u => exact ⟨u, rfl⟩
    exact ⟨v, by unfold shapeH at *; rw [hset h _ hr hb]; exact hv, ih v hh hr⟩
  | freeze a n k ih =>
    rintro h Q ⟨⟨u, hu⟩, hh⟩ hr
    have hne : a.block ≠ r := by rintro rfl; rw [hr] at hu; cases hu
    refine ⟨⟨u, by rw [hset h _ hr ⟨_, hu⟩]; exact hu⟩, ?_⟩
    have he : freezeH (h.set r o) a n = (freezeH h a n).set r o := by
      funext b
      unfold freezeH PH.set
      by_cases e1 : b = r
      · subst e1; simp [Ne.symm hne]
      · simp [e1]
    rw [he]
    exact ih hh (by unfold freezeH; simp [Ne.symm hne, hr])
  | frozen a k ih =>
    rintro h Q ⟨⟨u, hu⟩, hh⟩ hr
    have hb := hset h _ hr ⟨_, hu⟩
    refine ⟨⟨u, by rw [hb]; exact hu⟩, ?_⟩
    have : frozenH (h.set r o) a = frozenH h a := by unfold frozenH; rw [hb]
    rw [this]
    exact ih _ hh hr
  | getObj r' k ih =>
    rintro h Q ⟨u, hu, hc, hh⟩ hr
    exact ⟨u, by rw [hset h _ hr ⟨_, hu⟩]; exact hu, hc, ih _ hh hr⟩
  | setObj r' o' k ih =>
    rintro h Q ⟨⟨u, hu, hc⟩, hh⟩ hr
    have hne : r' ≠ r := by rintro rfl; rw [hr] at hu; cases hu
    refine ⟨⟨u, by rw [hset h _ hr ⟨_, hu⟩]; exact hu, hc⟩, ?_⟩
    have he : (h.set r o).set r' o' = (h.set r' o').set r o := by
      funext b; unfold PH.set
      by_cases e1 : b = r'
      · subst e1; simp [hne]
      · simp [e1]
    rw [he]
    exact ih hh (by unfold PH.set; rw [if_neg (Ne.symm hne)]; exact hr)
  | choose q k ih => intro h Q hh hr t; exact ih _ (hh t) hr
  | sys c k ih => intro h Q hh; exact hh.elim
  | program k ih => intro h Q hh hr; exact ih P hh hr
  | mark m k ih => intro h Q hh hr; exact ih hh hr
  | halt x => intro h Q hh; exact hh.elim
end Go.Proofs.YtllopddcpkhfjaaDoor
