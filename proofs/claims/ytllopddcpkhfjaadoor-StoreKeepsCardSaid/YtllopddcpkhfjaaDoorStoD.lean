/- store: what is read of acts and pairs; the listed variable. -/
import Derived.Test.YtllopddcpkhfjaaDoorHLaid
import Derived.Test.YtllopddcpkhfjaaDoorStoI
import Derived.Test.YtllopddcpkhfjaaDoorCards
import Derived.Test.YtllopddcpkhfjaaDoorTie
import Derived.WalkKit
import Derived.ProofKit
set_option linter.unusedSimpArgs false
set_option linter.unusedVariables false
namespace Go.Proofs.YtllopddcpkhfjaaDoor
open Go Go.RowKit Go.ChangeShapes
set_option maxRecDepth 20000
theorem kidsPG : Kids PG (· < PG.types.size) := kids_rows (by kernel_rfl) (by kernel_rfl)
theorem fullPG : ∀ t e, t < PG.types.size → PG.underlying t = some (.slice e) → 0 < PG.cellsOf e := slices_full_of PG (by kernel_rfl)
theorem T_int.cells : PG.cellsOf T_int = 1 := by kernel_rfl
theorem T_uint64.cells : PG.cellsOf T_uint64 = 1 := by kernel_rfl
theorem T_string.cells : PG.cellsOf T_string = 1 := by kernel_rfl
theorem T_api_Pair.cells : PG.cellsOf T_api_Pair = 2 := by kernel_rfl
theorem T_carrackref11_Act.cells : PG.cellsOf T_carrackref11_Act = 3 := by kernel_rfl
theorem Pr.of_rd {H : Type} {enc : TypeId × Value → H} {w : World} {spare : Nat → Bool} {held : Bool} {cs : List Value} (h : Rd enc PG w spare held T_api_Pair cs) : ∃ m : Pr, cs = m.cells := by
  obtain ⟨hl, hf⟩ := rd_struct T_api_Pair.und h
  rw [T_api_Pair.cells] at hl
  match cs, hl with
  | [c0, c1], _ =>
    have g0 : Rd enc PG w spare held T_string (([c0, c1].drop 0).take (PG.cellsOf T_string)) := hf 0 _ rfl
    have g1 : Rd enc PG w spare held T_string (([c0, c1].drop 1).take (PG.cellsOf T_string)) := hf 1 _ rfl
    rw [T_string.cells] at g0 g1
    obtain ⟨m0, q0, -⟩ := rd_string T_string.und g0
    obtain ⟨m1, q1, -⟩ := rd_string T_string.und g1
    simp only [List.drop_succ_cons, List.drop_zero, List.take_succ_cons, List.take_zero, List.cons.injEq, and_true] at q0 q1
    subst q0 q1
    exact ⟨⟨m0.data.toList, m1.data.toList⟩, by rw [Pr.cells, tx_list, tx_list]⟩
theorem Pr.of_rows {H : Type} {enc : TypeId × Value → H} {w : World} {spare : Nat → Bool} {held : Bool} : ∀ {rows : List (List Value)}, (∀ r ∈ rows, Rd enc PG w spare held T_api_Pair r) → ∃ xs : List Pr, rows = xs.map Pr.cells
  | [], _ => ⟨[], rfl⟩
  | r :: rs, h => by
    obtain ⟨m, rfl⟩ := Pr.of_rd (h r (by simp))
    obtain ⟨xs, rfl⟩ := Pr.of_rows (rows := rs) (fun x hx => h x (by simp [hx]))
    exact ⟨m :: xs, rfl⟩
theorem Ac.of_rd {H : Type} {enc : TypeId × Value → H} {w : World} {spare : Nat → Bool} {held : Bool} {cs : List Value} (h : Rd enc PG w spare held T_carrackref11_Act cs) : ∃ m : Ac, cs = m.cells := by
  obtain ⟨hl, hf⟩ := rd_struct T_carrackref11_Act.und h
  rw [T_carrackref11_Act.cells] at hl
  match cs, hl with
  | [c0, c1, c2], _ =>
    have g0 : Rd enc PG w spare held T_int (([c0, c1, c2].drop 0).take (PG.cellsOf T_int)) := hf 0 _ rfl
    have g1 : Rd enc PG w spare held T_string (([c0, c1, c2].drop 1).take (PG.cellsOf T_string)) := hf 1 _ rfl
    have g2 : Rd enc PG w spare held T_string (([c0, c1, c2].drop 2).take (PG.cellsOf T_string)) := hf 2 _ rfl
    rw [T_int.cells] at g0
    rw [T_string.cells] at g1 g2
    obtain ⟨m0, q0, -⟩ := rd_int T_int.und g0
    obtain ⟨m1, q1, -⟩ := rd_string T_string.und g1
    obtain ⟨m2, q2, -⟩ := rd_string T_string.und g2
    simp only [List.drop_succ_cons, List.drop_zero, List.take_succ_cons, List.take_zero, List.cons.injEq, and_true] at q0 q1 q2
    subst q0 q1 q2
    exact ⟨⟨m0, m1.data.toList, m2.data.toList⟩, by rw [Ac.cells, tx_list, tx_list]⟩
theorem Ac.of_rows {H : Type} {enc : TypeId × Value → H} {w : World} {spare : Nat → Bool} {held : Bool} : ∀ {rows : List (List Value)}, (∀ r ∈ rows, Rd enc PG w spare held T_carrackref11_Act r) → ∃ xs : List Ac, rows = xs.map Ac.cells
  | [], _ => ⟨[], rfl⟩
  | r :: rs, h => by
    obtain ⟨m, rfl⟩ := Ac.of_rd (h r (by simp))
    obtain ⟨xs, rfl⟩ := Ac.of_rows (rows := rs) (fun x hx => h x (by simp [hx]))
    exact ⟨m :: xs, rfl⟩
theorem wf_nat {a : Int} (w : (Lit.int .u64 a).wf = true) : ∃ n : Nat, a = (n : Int) ∧ n < 18446744073709551616 := by
  have : 0 ≤ a ∧ a < 18446744073709551616 := by
    revert w
    simp [Lit.wf, IntKind.min, IntKind.max, IntKind.signed, IntKind.bits]
    omega
  obtain ⟨n, rfl⟩ := Int.eq_ofNat_of_zero_le this.1
  exact ⟨n, rfl, by omega⟩
def laidL : List (String × DataW Unit) := [("carrack/sha.k", Rows.laid_carrack_sha_k)]
theorem door_met (os : Os) (args : Array Value) : laidMetH Tryd.prog laidL ((World.doorLaid Tryd.prog 400 os).forCall (fun _ _ => 0) ⟨#[], args, []⟩).memory :=
  laidMetH_of_parts3 (fuel := 8) (laidMet_of_run' 8 (by kernel_rfl) (by kernel_rfl)) (by kernel_rfl) (by kernel_rfl)
theorem kOf {W : World} (h : laidMetH Tryd.prog laidL W) : KAt (heapOf W) := by
  rw [MakeChecks.laidMetH_plain _ _ _ (by kernel_rfl)] at h
  obtain ⟨ps, h1, _⟩ := h
  obtain ⟨e, fr, hh⟩ := laid_cells (m := 3) (g := 0) (t := T_64_uint32) h1 (List.mem_cons_self ..) (by kernel_rfl) (by kernel_rfl) (by kernel_rfl)
  have hk : (flatW (Rows.laid_carrack_sha_k : DataW Unit)).toArray = (kT.map wv).toArray := by kernel_rfl
  rw [hk] at hh
  exact ⟨e, fr, hh⟩
end Go.Proofs.YtllopddcpkhfjaaDoor
