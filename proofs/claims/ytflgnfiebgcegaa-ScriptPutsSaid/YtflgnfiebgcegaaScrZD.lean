/- script: replies that are read of a row; the row of ScriptPuts. -/
import Derived.Test.YtflgnfiebgcegaaScrZ
import Derived.Test.YtflgnfiebgcegaaScrRA
set_option linter.unusedSimpArgs false
set_option linter.unusedVariables false
namespace Go.Proofs.Ytflgnfiebgcegaa
open Go Go.RowKit Go.ChangeShapes
set_option maxRecDepth 20000
theorem T_api_Reply.cells : PG.cellsOf T_api_Reply = 4 := by kernel_rfl
theorem T_api_Errno.cells : PG.cellsOf T_api_Errno = 1 := by kernel_rfl
theorem T_sl_api_Errno.cells : PG.cellsOf T_sl_api_Errno = 1 := by kernel_rfl
section
variable {H : Type} {enc : TypeId × Value → H} {w : World} {spare : Nat → Bool} {held : Bool}
theorem code.of_rows : ∀ {rows : List (List Value)}, (∀ r ∈ rows, Rd enc PG w spare held T_api_Errno r) → ∃ xs : List Int, rows = xs.map ccell
  | [], _ => ⟨[], rfl⟩
  | r :: rs, h => by
    obtain ⟨n, rfl, -⟩ := rd_int T_api_Errno.und (h r (by simp))
    obtain ⟨xs, rfl⟩ := code.of_rows (rows := rs) (fun x hx => h x (by simp [hx]))
    exact ⟨n :: xs, rfl⟩
theorem Rep.of_rd {cs : List Value} (h : Rd enc PG w spare held T_api_Reply cs) : ∃ p : RpV, cs = rrow p ∧ SlR (heapOf w) 1 p.2 (p.1.codes.map ccell) ∧ p.1.seq < 18446744073709551616 := by
  obtain ⟨hl, hf⟩ := rd_struct T_api_Reply.und h
  rw [T_api_Reply.cells] at hl
  match cs, hl with
  | [c0, c1, c2, c3], _ =>
    have f0 : Rd enc PG w spare held T_api_Errno (([c0, c1, c2, c3].drop 0).take (PG.cellsOf T_api_Errno)) := hf 0 _ rfl
    rw [T_api_Errno.cells] at f0
    have f1 : Rd enc PG w spare held T_uint64 (([c0, c1, c2, c3].drop 1).take (PG.cellsOf T_uint64)) := hf 1 _ rfl
    rw [T_uint64.cells] at f1
    have f2 : Rd enc PG w spare held T_int (([c0, c1, c2, c3].drop 2).take (PG.cellsOf T_int)) := hf 2 _ rfl
    rw [T_int.cells] at f2
    have f3 : Rd enc PG w spare held T_sl_api_Errno (([c0, c1, c2, c3].drop 3).take (PG.cellsOf T_sl_api_Errno)) := hf 3 _ rfl
    rw [T_sl_api_Errno.cells] at f3
    obtain ⟨n0, e0, -⟩ := rd_int T_api_Errno.und f0
    obtain ⟨n1, e1, w1⟩ := rd_int T_uint64.und f1
    obtain ⟨n2, e2, -⟩ := rd_int T_int.und f2
    obtain ⟨v, rows, e3, hS, hr⟩ := rd_slice T_sl_api_Errno.und (by rw [T_api_Errno.cells]; decide) f3
    obtain ⟨ws, rfl⟩ := code.of_rows hr
    rw [T_api_Errno.cells] at hS
    have w1 := wf_u64 w1
    obtain ⟨n1, rfl⟩ := nat_of w1.1
    simp only [List.drop_succ_cons, List.drop_zero, List.take_succ_cons, List.take_zero, List.cons.injEq, and_true] at e0 e1 e2 e3
    subst e0 e1 e2 e3
    exact ⟨(⟨n0, n1, n2, ws⟩, _), rfl, hS, by show n1 < _; omega⟩
theorem Rep.of_rows : ∀ {rows : List (List Value)}, (∀ r ∈ rows, Rd enc PG w spare held T_api_Reply r) → ∃ xs : List RpV, rows = xs.map rrow ∧ RpS (heapOf w) xs
  | [], _ => ⟨[], rfl, fun p hp => by cases hp⟩
  | r :: rs, h => by
    obtain ⟨m, rfl, h1, h2⟩ := Rep.of_rd (h r (by simp))
    obtain ⟨xs, rfl, hx⟩ := Rep.of_rows (rows := rs) (fun x hx => h x (by simp [hx]))
    refine ⟨m :: xs, rfl, fun p hp => ?_⟩
    rcases List.mem_cons.1 hp with rfl | hp
    · exact ⟨h1, h2⟩
    · exact hx p hp
end
end Go.Proofs.Ytflgnfiebgcegaa
