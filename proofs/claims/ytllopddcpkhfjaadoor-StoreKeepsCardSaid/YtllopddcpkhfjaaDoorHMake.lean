/- making a slice of so many zero values. -/
import Derived.Test.YtllopddcpkhfjaaDoorHMore
set_option linter.unusedSimpArgs false
set_option linter.unusedVariables false
namespace Go.Proofs.YtllopddcpkhfjaaDoor
open Go
section
variable {P : Program} {t e : TypeId}
theorem semA_info {α : Type} {d : TypeInfo} (hi : P.info? t = some d) (f : TypeInfo → Sem α) : SemA P (typeInfo t >>= f) = SemA P (f d) := by
  show SemA P ((match P.info? t with | some d => pure d | none => stuck _ : Sem TypeInfo).bind f) = _
  rw [hi]; rfl
theorem semA_askRoom {α : Type} {n : Nat} (f : Unit → Sem α) : SemA P (askRoom n >>= f) = SemA P (f ()) := by
  unfold askRoom
  split <;> rfl
theorem range_flat (z : Array Value) (hz : 0 < z.size) : ∀ n : Nat, ((Array.range (n * z.size)).map (z[· % z.size]!)).toList = (List.replicate n z.toList).flatten := by
  intro n
  have hr : Rows z.size (List.replicate n z.toList) := fun r hr => by rw [List.eq_of_mem_replicate hr]; simp
  apply List.ext_getElem?
  intro j
  have hfl : (List.replicate n z.toList).flatten.length = n * z.size := by rw [hr.flat, List.length_replicate]
  by_cases hj : j < n * z.size
  · have hi : j / z.size < n := (Nat.div_lt_iff_lt_mul hz).2 hj
    have hat := hr.at (i := j / z.size) (r := z.toList) (by rw [List.getElem?_replicate, if_pos hi])
    have hc : j % z.size < z.size := Nat.mod_lt _ hz
    have e1 : (List.replicate n z.toList).flatten[j]? = z.toList[j % z.size]? := by
      conv => rhs; rw [← hat]
      rw [List.getElem?_take, if_pos hc, List.getElem?_drop]
      congr 1
      rw [Nat.mul_comm]; exact (Nat.div_add_mod j z.size).symm
    rw [e1]
    simp [hj, hc]
  · rw [List.getElem?_eq_none (by simp; omega), List.getElem?_eq_none (by omega)]
set_option maxRecDepth 100000 in
theorem makeSlice_eq {i : TypeInfo} {z : Value} {size bytes n : Nat} (hu : P.underlying t = some (.slice e)) (hi : P.info? e = some i) (hn : i.size = size) (hb : i.bytes = bytes) (hz : i.zero = some z) (hzs : z.cells.size = size) (h0 : 0 < size)
    (hle : bytes * n ≤ 281474976710656) (hnn : n ≤ 1000000000) :
    ∃ zs, SemA P (Instr.makeSlice t (.int .i64 n) (.int .i64 n)) = some (.cells zs e (0, 0), fun r => pure (.slice (some ⟨r, 0, none⟩) n n)) ∧ zs.toList = (List.replicate n z.cells.toList).flatten := by
  refine ⟨(Array.range (n * z.cells.size)).map (z.cells[· % z.cells.size]!), ?_, range_flat _ (by omega) n⟩
  have hw : IntKind.i64.wrap (n : Int) = n := IntWalk.i64_in _ ⟨by omega, by omega⟩
  unfold Instr.makeSlice
  rw [semA_und hu]
  dsimp only
  show SemA P (typeInfo e >>= _) = _
  rw [semA_info hi, hb]
  have hc1 : ((bytes : Int) * (n : Int) > 2 ^ 48) = False := by
    apply eq_false
    have : ((bytes * n : Nat) : Int) ≤ ((281474976710656 : Nat) : Int) := Int.ofNat_le.2 hle
    rw [Int.natCast_mul] at this
    have h2 : (2 : Int) ^ 48 = ((281474976710656 : Nat) : Int) := by rfl
    omega
  have hc2 : ((n : Int) < 0) = False := by apply eq_false; omega
  have hc3 : ((n : Int) > (n : Int)) = False := by apply eq_false; omega
  simp only [hw, hc1, hc2, hc3, decide_false, Bool.or_self, Bool.false_eq_true, if_false, or_self]
  rw [semA_askRoom, sizeOf_bind, semA_info hi, hn]
  simp only [Int.toNat_natCast]
  by_cases hn0 : n = 0
  · subst hn0
    have hr : ∀ f : Nat → Value, (Array.range 0).map f = #[] := fun f => by simp
    simp only [Nat.zero_mul, if_true, hr]
    rfl
  · have hne : (n * size = 0) = False := by apply eq_false; intro h; rcases Nat.mul_eq_zero.1 h with h | h <;> omega
    simp only [hne, if_false]
    have hzv : ∀ (f : Value → Sem Value), SemA P (zeroValue e >>= f) = SemA P (f z) := fun f => by
      unfold zeroValue
      show SemA P ((typeInfo e >>= _) >>= f) = _
      simp only [bind_assoc]
      rw [semA_info hi, hz]; rfl
    rw [hzv, ← hzs]
    rfl
end
end Go.Proofs.YtllopddcpkhfjaaDoor
