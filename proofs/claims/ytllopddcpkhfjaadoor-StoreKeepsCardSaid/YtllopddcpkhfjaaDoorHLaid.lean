/- A listed variable of plain numbers, in arrays: its cells out of what it holds. -/
import Derived.Test.YtllopddcpkhfjaaDoorHRow
import Derived.LaidMore
import Derived.OpenShut
import Derived.Stop.Joined
import Derived.SevenTiedAt
set_option linter.unusedSimpArgs false
set_option linter.unusedVariables false
namespace Go.Proofs.YtllopddcpkhfjaaDoor
open Go Go.RowKit Go.ChangeShapes
mutual
def flatW {H : Type} : DataW H → List Value
  | .lit (.int k n) => [.int k n]
  | .agg parts => flatWs parts
  | _ => []
def flatWs {H : Type} : List (DataW H) → List Value
  | [] => []
  | d :: r => flatW d ++ flatWs r
end
def plainA (P : Program) : Nat → TypeId → Bool
  | 0, _ => false
  | n + 1, t => match P.underlying t with
    | some (.int _) => true
    | some (.array len e) => plainA P n e && P.cellsOf t == len * P.cellsOf e
    | _ => false
theorem flat_of_pieces {H : Type} (c : Nat) : ∀ (xs : List (DataW H × List MemPlace)) (cs : List Value), cs.length = xs.length * c → (∀ i x, xs[i]? = some x → ((cs.drop (i * c)).take c) = flatW x.1) → cs = flatWs (xs.map (·.1))
  | [], cs, hl, _ => by
    have : cs = [] := List.eq_nil_of_length_eq_zero (by simpa using hl)
    simp [this, flatWs]
  | x :: xs, cs, hl, h => by
    have h0 := h 0 x rfl
    simp only [Nat.zero_mul, List.drop_zero] at h0
    rw [List.length_cons, Nat.add_mul, Nat.one_mul] at hl
    have ih := flat_of_pieces c xs (cs.drop c) (by rw [List.length_drop]; omega) fun i y hy => by
      have := h (i + 1) y (by simpa using hy)
      rw [Nat.add_mul, Nat.one_mul] at this
      rw [List.drop_drop, Nat.add_comm c, this]
    rw [List.map_cons, flatWs, ← h0, ← ih, List.take_append_drop]
theorem flat_of_trod {H : Type} {enc : TypeId × Value → H} {P : Program} {w : World} {base : Nat} {spare : Nat → Bool} {held : Bool} : ∀ (m n : Nat) (t : TypeId) (cs : List Value) (x : DataW H × List MemPlace), plainA P m t = true → DataW.trod enc P w base spare held n t cs = some x → cs = flatW x.1
  | 0, _, _, _, _, hp, _ => by simp [plainA] at hp
  | m + 1, n, t, cs, x, hp, h => by
    unfold plainA at hp
    split at hp
    · rename_i k hu
      obtain ⟨i, rfl, rfl, _⟩ := DataW.trod_int hu h
      rfl
    · rename_i len e hu
      simp only [Bool.and_eq_true, beq_iff_eq] at hp
      obtain ⟨xs, m', rfl, rfl, hl, hn, hel⟩ := DataW.trod_array hu h
      rw [flatW]
      refine flat_of_pieces (P.cellsOf e) xs cs (by rw [hl, hp.2, hn]) fun i y hy => ?_
      have hi : i < len := by rw [← hn]; exact (List.getElem?_eq_some_iff.1 hy).1
      have := hel i hi
      rw [hy] at this
      exact flat_of_trod m m' e _ y hp.1 this
    · cases hp
theorem var_cells {P : Program} {w : World} {n : String} {g : Nat} {cs : Array Value} (hg : P.globalNamed n = some g) (h : w.var? P n = some cs) : ∃ e fr, w.heap[g]? = some (.cells cs e fr) := by
  simp only [World.var?, hg, Option.bind_some] at h
  split at h
  · rename_i a b c hh
    cases h
    exact ⟨b, c, hh⟩
  · cases h
/-- A variable of the list: its cells. -/
theorem laid_cells {P : Program} {w : World} : ∀ {l : List (String × DataW Unit)} {ps : List MemPlace}, DataW.LaidVars P w l ps → ∀ {n : String} {d : DataW Unit}, (n, d) ∈ l → ∀ {g : Nat} {t : TypeId} {m : Nat}, P.globalNamed n = some g → (P.globals[g]?).map (·.type) = some t → plainA P m t = true →
    ∃ e fr, w.heap[g]? = some (.cells (flatW d).toArray e fr)
  | [], _, _, _, _, hm, _, _, _, _, _, _ => by cases hm
  | (n0, d0) :: r, ps, H, n, d, hm, g, t, m, hg, ht, hp => by
    obtain ⟨g0, t0, cs0, f0, p0, q0, hg0, ht0, hv0, hd0, hr, _⟩ := H
    rcases List.mem_cons.1 hm with e | hm
    · simp only [Prod.mk.injEq] at e
      obtain ⟨rfl, rfl⟩ := e
      obtain rfl := Option.some.inj (hg.symm.trans hg0)
      obtain rfl := Option.some.inj (ht.symm.trans ht0)
      obtain ⟨e, fr, hh⟩ := var_cells hg0 hv0
      have := flat_of_trod m f0 t cs0.toList _ hp hd0
      refine ⟨e, fr, ?_⟩
      rw [hh]
      congr 2
      apply Array.ext'
      simpa using this
    · exact laid_cells hr hm hg ht hp
end Go.Proofs.YtllopddcpkhfjaaDoor
