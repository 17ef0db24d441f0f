/- Slices of rows of cells on a part of memory: read, cut, appended to. -/
import Derived.Test.YtllopddcpkhfjaaDoorHEval
set_option linter.unusedSimpArgs false
set_option linter.unusedVariables false
namespace Go.Proofs.YtllopddcpkhfjaaDoor
open Go

/-! ### Rows of one length -/
def Rows (size : Nat) (rows : List (List Value)) : Prop := ∀ r ∈ rows, r.length = size
theorem Rows.flat {size : Nat} : ∀ {rows : List (List Value)}, Rows size rows → rows.flatten.length = rows.length * size
  | [], _ => by simp
  | r :: rs, h => by
    have h1 := h r (by simp)
    have h2 := Rows.flat (rows := rs) fun x hx => h x (by simp [hx])
    simp only [List.flatten_cons, List.length_append, List.length_cons, h1, h2, Nat.add_mul, Nat.one_mul]; omega
theorem Rows.at {size : Nat} : ∀ {rows : List (List Value)}, Rows size rows → ∀ {i : Nat} {r : List Value}, rows[i]? = some r → (rows.flatten.drop (i * size)).take size = r
  | [], _, i, r, hi => by simp at hi
  | x :: xs, h, i, r, hi => by
    have h1 := h x (by simp)
    cases i with
    | zero =>
      simp only [List.getElem?_cons_zero, Option.some.injEq] at hi
      subst hi
      simp [← h1]
    | succ i =>
      have h2 := Rows.at (rows := xs) (fun y hy => h y (by simp [hy])) (i := i) (r := r) (by simpa using hi)
      rw [List.flatten_cons, Nat.succ_mul, Nat.add_comm, ← List.drop_drop, ← h1, List.drop_left, h1]
      exact h2
theorem Rows.append {size : Nat} {a b : List (List Value)} (ha : Rows size a) (hb : Rows size b) : Rows size (a ++ b) := fun r hr => by
  rcases List.mem_append.1 hr with h | h
  · exact ha r h
  · exact hb r h
theorem Rows.take {size : Nat} {a : List (List Value)} (ha : Rows size a) (n : Nat) : Rows size (a.take n) := fun r hr => ha r (List.mem_of_mem_take hr)
theorem Rows.drop {size : Nat} {a : List (List Value)} (ha : Rows size a) (n : Nat) : Rows size (a.drop n) := fun r hr => ha r (List.mem_of_mem_drop hr)
theorem Rows.flat_take {size : Nat} : ∀ {rows : List (List Value)}, Rows size rows → ∀ n, (rows.take n).flatten = rows.flatten.take (n * size)
  | [], _, n => by simp
  | r :: rs, h, 0 => by simp
  | r :: rs, h, n + 1 => by
    have h1 := h r (by simp)
    have h2 := Rows.flat_take (rows := rs) (fun x hx => h x (by simp [hx])) n
    rw [List.take_succ_cons, List.flatten_cons, List.flatten_cons, h2, Nat.succ_mul, Nat.add_comm, ← h1, List.take_length_add_append]
theorem Rows.flat_drop {size : Nat} : ∀ {rows : List (List Value)}, Rows size rows → ∀ n, (rows.drop n).flatten = rows.flatten.drop (n * size)
  | [], _, n => by simp
  | r :: rs, h, 0 => by simp
  | r :: rs, h, n + 1 => by
    have h1 := h r (by simp)
    have h2 := Rows.flat_drop (rows := rs) (fun x hx => h x (by simp [hx])) n
    rw [List.drop_succ_cons, List.flatten_cons, h2, Nat.succ_mul, Nat.add_comm, ← h1, ← List.drop_drop, List.drop_left]

def maxL : Nat := 9223372036854775807
/-- A slice that can be read: its rows. -/
structure SlR (h : PH) (size : Nat) (v : Value) (rows : List (List Value)) : Prop where
  ok : Rows size rows
  here : ∃ a c, v = .slice a rows.length c ∧ rows.length ≤ c ∧ c ≤ maxL ∧ (rows ≠ [] → ∃ b o cs e fr, a = some ⟨b, o, none⟩ ∧ h b = some (.cells cs e fr) ∧ o + rows.length * size ≤ cs.size ∧ (cs.extract o (o + rows.length * size)).toList = rows.flatten) ∧ True
/-- A slice of one's own: it may be appended to. F: its block, if it has one. -/
structure OwnR (h : PH) (e : TypeId) (size : Nat) (v : Value) (rows : List (List Value)) (F : List Nat) : Prop where
  ok : Rows size rows
  here : (v = .slice none 0 0 ∧ rows = [] ∧ F = []) ∨ ∃ b cap cs, v = .slice (some ⟨b, 0, none⟩) rows.length cap ∧ F = [b] ∧ h b = some (.cells cs e (0, 0)) ∧ rows.length ≤ cap ∧ cap ≤ maxL ∧ cs.size = cap * size ∧ cs.toList.take (rows.length * size) = rows.flatten

theorem OwnR.nil {h : PH} {e : TypeId} {size : Nat} : OwnR h e size (.slice none 0 0) [] [] := ⟨fun _ h => (by cases h), .inl ⟨rfl, rfl, rfl⟩⟩
theorem OwnR.slR {h : PH} {e : TypeId} {size : Nat} {v : Value} {rows : List (List Value)} {F : List Nat} (H : OwnR h e size v rows F) : SlR h size v rows := by
  refine ⟨H.ok, ?_⟩
  rcases H.here with ⟨rfl, rfl, _⟩ | ⟨b, cap, cs, rfl, _, hb, hle, hm, hs, ht⟩
  · exact ⟨none, 0, rfl, by simp, by simp, fun h => absurd rfl h, trivial⟩
  · have hmul : rows.length * size ≤ cap * size := Nat.mul_le_mul_right _ hle
    exact ⟨_, cap, rfl, hle, hm, fun _ => ⟨b, 0, cs, e, (0, 0), rfl, hb, by omega, by simpa [List.extract_eq_take_drop] using ht⟩, trivial⟩
theorem OwnR.upd {h h' : PH} {e : TypeId} {size : Nat} {v : Value} {rows : List (List Value)} {F G : List Nat} (H : OwnR h e size v rows F) (u : Upd G h h') (hd : ∀ b ∈ F, b ∉ G) : OwnR h' e size v rows F := by
  refine ⟨H.ok, ?_⟩
  rcases H.here with h1 | ⟨b, cap, cs, hv, hF, hb, hrest⟩
  · exact .inl h1
  · exact .inr ⟨b, cap, cs, hv, hF, u.get hb (hd b (by simp [hF])), hrest⟩
theorem OwnR.known {h : PH} {e : TypeId} {size : Nat} {v : Value} {rows : List (List Value)} {F : List Nat} (H : OwnR h e size v rows F) : ∀ b ∈ F, h b ≠ none := by
  intro b hb
  rcases H.here with ⟨_, _, rfl⟩ | ⟨b', cap, cs, _, rfl, hb', _⟩
  · cases hb
  · simp only [List.mem_singleton] at hb; subst hb; rw [hb']; simp
/-- The blocks that a slice lies in. -/
def inBlocks (v : Value) (G : List Nat) : Prop := ∀ a n c, v = .slice (some a) n c → a.block ∈ G
theorem SlR.upd {h h' : PH} {size : Nat} {v : Value} {rows : List (List Value)} {G : List Nat} (H : SlR h size v rows) (u : Upd G h h') (hd : ∀ a n c, v = .slice (some a) n c → a.block ∉ G) : SlR h' size v rows := by
  refine ⟨H.ok, ?_⟩
  obtain ⟨a, c, hv, h1, h2, h3, h4⟩ := H.here
  refine ⟨a, c, hv, h1, h2, fun hne => ?_, h4⟩
  obtain ⟨b, o, cs, e, fr, ha, hb, hrest⟩ := h3 hne
  exact ⟨b, o, cs, e, fr, ha, u.get hb (hd ⟨b, o, none⟩ _ _ (ha ▸ hv)), hrest⟩
theorem SlR.ext {h h' : PH} {size : Nat} {v : Value} {rows : List (List Value)} (H : SlR h size v rows) (u : Ext h h') : SlR h' size v rows := H.upd u (by simp)

section
variable {P : Program} {h : PH} {t t' e : TypeId}
theorem SlR.len {size : Nat} {v : Value} {rows : List (List Value)} (H : SlR h size v rows) (hu : P.underlying t = some (.slice e)) : SemP P (Builtin.len_ #[t] t' #[v]) = some (.int .i64 rows.length) := by
  obtain ⟨a, c, rfl, _⟩ := H.here
  exact len_slice hu
theorem SlR.small {size : Nat} {v : Value} {rows : List (List Value)} (H : SlR h size v rows) : rows.length ≤ maxL := by
  obtain ⟨a, c, _, h1, h2, _⟩ := H.here; omega
/-- An element's place, and what stands there. -/
theorem SlR.at {size : Nat} {v : Value} {rows : List (List Value)} (H : SlR h size v rows) {i : TypeInfo} (hu : P.underlying t = some (.slice e)) (hi : P.info? e = some i) (hn : i.size = size) {k : IntKind} {j : Int} {r : List Value} (h0 : 0 ≤ j) (hr : rows[j.toNat]? = some r) :
    ∃ b o cs e' fr, SemP P (Instr.indexAt t v (.int k j)) = some (.pointer (some ⟨b, o, none⟩)) ∧ h b = some (.cells cs e' fr) ∧ o + size ≤ cs.size ∧ (cs.extract o (o + size)).toList = r := by
  have hlt : j.toNat < rows.length := (List.getElem?_eq_some_iff.1 hr).1
  obtain ⟨a, c, rfl, h1, h2, h3, _⟩ := H.here
  obtain ⟨b, o, cs, e', fr, rfl, hb, hle, hex⟩ := h3 (fun h => by rw [h] at hlt; simp at hlt)
  have hmul : (j.toNat + 1) * size ≤ rows.length * size := Nat.mul_le_mul_right _ hlt
  rw [Nat.add_mul, Nat.one_mul] at hmul
  refine ⟨b, o + j.toNat * size, cs, e', fr, indexAt_slice hu hi hn h0 (by omega), hb, by omega, ?_⟩
  have := H.ok.at hr
  rw [← hex] at this
  rw [← this]
  simp only [Array.toList_extract, List.extract_eq_take_drop, List.drop_take, List.drop_drop, List.take_take]
  rw [show o + j.toNat * size + size - (o + j.toNat * size) = size from by omega]
  congr 1
  omega
theorem SlR.loadAgg {size : Nat} {v : Value} {rows : List (List Value)} (H : SlR h size v rows) {d : TypeDesc} {i : TypeInfo} (hu : P.underlying t = some (.slice e)) (hi : P.info? e = some i) (hn : i.size = size) (he : P.underlying e = some d) (hd : flatD d = false)
    {k : IntKind} {j : Int} {r : List Value} (h0 : 0 ≤ j) (hr : rows[j.toNat]? = some r) :
    ∃ a, SemP P (Instr.indexAt t v (.int k j)) = some (.pointer (some a)) ∧ SemE P h (Instr.loadAt e (.pointer (some a))) = some (.agg r.toArray) := by
  obtain ⟨b, o, cs, e', fr, h1, hb, hle, hex⟩ := H.at hu hi hn (k := k) h0 hr
  refine ⟨_, h1, ?_⟩
  rw [loadAt_agg he hd hi hn hb hle]
  congr 2
  exact Array.ext' hex
theorem SlR.loadCell {v : Value} {rows : List (List Value)} (H : SlR h 1 v rows) {d : TypeDesc} {i : TypeInfo} (hu : P.underlying t = some (.slice e)) (hi : P.info? e = some i) (hn : i.size = 1) (he : P.underlying e = some d) (hd : flatD d = true)
    {k : IntKind} {j : Int} {x : Value} (h0 : 0 ≤ j) (hr : rows[j.toNat]? = some [x]) :
    ∃ a, SemP P (Instr.indexAt t v (.int k j)) = some (.pointer (some a)) ∧ SemE P h (Instr.loadAt e (.pointer (some a))) = some x := by
  obtain ⟨b, o, cs, e', fr, h1, hb, hle, hex⟩ := H.at hu hi hn (k := k) h0 hr
  refine ⟨_, h1, ?_⟩
  rw [loadAt_cell he hd]
  unfold cellH
  simp only [hb]
  have hlt : o < cs.size := by omega
  simp only [Array.toList_extract, List.extract_eq_take_drop, Nat.add_sub_cancel_left] at hex
  rw [List.drop_eq_getElem_cons (by simpa using hlt)] at hex
  simp only [List.take_succ_cons, List.take_zero, List.cons.injEq, and_true] at hex
  simp [hlt]
  exact hex
end
end Go.Proofs.YtllopddcpkhfjaaDoor
