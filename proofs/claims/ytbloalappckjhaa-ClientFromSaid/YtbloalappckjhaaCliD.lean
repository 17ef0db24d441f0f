/- client: what is read of heights and roots. -/
import Derived.Test.YtbloalappckjhaaNetD
import Derived.Test.YtbloalappckjhaaCliP
set_option linter.unusedSimpArgs false
set_option linter.unusedVariables false
namespace Go.Proofs.Ytbloalappckjhaa
open Go Go.RowKit Go.ChangeShapes
theorem T_carrackref12_Known.cells : PG.cellsOf T_carrackref12_Known = 2 := by kernel_rfl
theorem wf_u64 {n : Int} (h : (Lit.int .u64 n).wf = true) : 0 ≤ n ∧ n < 18446744073709551616 := by
  simp [Lit.wf, IntKind.min, IntKind.max, IntKind.signed, IntKind.bits] at h
  omega
theorem Known.of_rd {H : Type} {enc : TypeId × Value → H} {w : World} {spare : Nat → Bool} {held : Bool} {cs : List Value} (h : Rd enc PG w spare held T_carrackref12_Known cs) : ∃ m : Known, cs = m.cells ∧ 0 ≤ m.height ∧ m.height < 18446744073709551616 := by
  obtain ⟨hl, hf⟩ := rd_struct T_carrackref12_Known.und h
  rw [T_carrackref12_Known.cells] at hl
  match cs, hl with
  | [c0, c1], _ =>
    have f0 : Rd enc PG w spare held T_uint64 (([c0, c1].drop 0).take (PG.cellsOf T_uint64)) := hf 0 _ rfl
    rw [T_uint64.cells] at f0
    have f1 : Rd enc PG w spare held T_string (([c0, c1].drop 1).take (PG.cellsOf T_string)) := hf 1 _ rfl
    rw [T_string.cells] at f1
    obtain ⟨n0, e0, w0⟩ := rd_int T_uint64.und f0
    obtain ⟨s1, e1, -⟩ := rd_string T_string.und f1
    simp only [List.drop_succ_cons, List.drop_zero, List.take_succ_cons, List.take_zero, List.cons.injEq, and_true] at e0 e1
    subst e0 e1
    exact ⟨⟨n0, s1⟩, rfl, wf_u64 w0⟩
theorem Known.of_rows {H : Type} {enc : TypeId × Value → H} {w : World} {spare : Nat → Bool} {held : Bool} : ∀ {rows : List (List Value)}, (∀ r ∈ rows, Rd enc PG w spare held T_carrackref12_Known r) → ∃ xs : List Known, rows = xs.map Known.cells ∧ okH xs
  | [], _ => ⟨[], rfl, by intro y hy; cases hy⟩
  | r :: rs, h => by
    obtain ⟨m, rfl, hm⟩ := Known.of_rd (h r (by simp))
    obtain ⟨xs, rfl, hx⟩ := Known.of_rows (rows := rs) (fun x hx => h x (by simp [hx]))
    refine ⟨m :: xs, rfl, fun a ha => ?_⟩
    simp only [hts, List.map_cons, List.mem_cons] at ha
    rcases ha with rfl | ha
    · exact hm
    · exact hx a ha
end Go.Proofs.Ytbloalappckjhaa
