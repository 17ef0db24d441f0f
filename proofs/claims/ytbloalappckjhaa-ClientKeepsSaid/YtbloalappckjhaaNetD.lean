/- net: what is read of messages. -/
import Derived.Test.YtbloalappckjhaaNetM
import Derived.Test.YtbloalappckjhaaHRow
import Derived.WalkKit
import Derived.ProofKit
set_option linter.unusedSimpArgs false
set_option linter.unusedVariables false
namespace Go.Proofs.Ytbloalappckjhaa
open Go Go.RowKit Go.ChangeShapes

theorem kidsPG : Kids PG (· < PG.types.size) := kids_rows (by kernel_rfl) (by kernel_rfl)
theorem fullPG : ∀ t e, t < PG.types.size → PG.underlying t = some (.slice e) → 0 < PG.cellsOf e := slices_full_of PG (by kernel_rfl)
theorem T_api_Packet.cells : PG.cellsOf T_api_Packet = 4 := by kernel_rfl
theorem T_api_Message.cells : PG.cellsOf T_api_Message = 8 := by kernel_rfl
theorem T_int.cells : PG.cellsOf T_int = 1 := by kernel_rfl
theorem T_uint64.cells : PG.cellsOf T_uint64 = 1 := by kernel_rfl
theorem T_string.cells : PG.cellsOf T_string = 1 := by kernel_rfl
theorem Msg.of_rd {H : Type} {enc : TypeId × Value → H} {w : World} {spare : Nat → Bool} {held : Bool} {cs : List Value} (h : Rd enc PG w spare held T_api_Message cs) : ∃ m : Msg, cs = m.cells := by
  obtain ⟨hl, hf⟩ := rd_struct T_api_Message.und h
  rw [T_api_Message.cells] at hl
  match cs, hl with
  | [c0, c1, c2, c3, c4, c5, c6, c7], _ =>
    have f0 : Rd enc PG w spare held T_int (([c0, c1, c2, c3, c4, c5, c6, c7].drop 0).take (PG.cellsOf T_int)) := hf 0 _ rfl
    rw [T_int.cells] at f0
    have f1 : Rd enc PG w spare held T_int (([c0, c1, c2, c3, c4, c5, c6, c7].drop 1).take (PG.cellsOf T_int)) := hf 1 _ rfl
    rw [T_int.cells] at f1
    have f2 : Rd enc PG w spare held T_uint64 (([c0, c1, c2, c3, c4, c5, c6, c7].drop 2).take (PG.cellsOf T_uint64)) := hf 2 _ rfl
    rw [T_uint64.cells] at f2
    have f3 : Rd enc PG w spare held T_api_Packet (([c0, c1, c2, c3, c4, c5, c6, c7].drop 3).take (PG.cellsOf T_api_Packet)) := hf 3 _ rfl
    rw [T_api_Packet.cells] at f3
    have f4 : Rd enc PG w spare held T_string (([c0, c1, c2, c3, c4, c5, c6, c7].drop 7).take (PG.cellsOf T_string)) := hf 4 _ rfl
    rw [T_string.cells] at f4
    obtain ⟨n0, e0, -⟩ := rd_int T_int.und f0
    obtain ⟨n1, e1, -⟩ := rd_int T_int.und f1
    obtain ⟨n2, e2, -⟩ := rd_int T_uint64.und f2
    obtain ⟨s4, e4, -⟩ := rd_string T_string.und f4
    obtain ⟨-, hg⟩ := rd_struct T_api_Packet.und f3
    have g0 : Rd enc PG w spare held T_int (((([c0, c1, c2, c3, c4, c5, c6, c7].drop 3).take 4).drop 0).take (PG.cellsOf T_int)) := hg 0 _ rfl
    rw [T_int.cells] at g0
    have g1 : Rd enc PG w spare held T_uint64 (((([c0, c1, c2, c3, c4, c5, c6, c7].drop 3).take 4).drop 1).take (PG.cellsOf T_uint64)) := hg 1 _ rfl
    rw [T_uint64.cells] at g1
    have g2 : Rd enc PG w spare held T_uint64 (((([c0, c1, c2, c3, c4, c5, c6, c7].drop 3).take 4).drop 2).take (PG.cellsOf T_uint64)) := hg 2 _ rfl
    rw [T_uint64.cells] at g2
    have g3 : Rd enc PG w spare held T_string (((([c0, c1, c2, c3, c4, c5, c6, c7].drop 3).take 4).drop 3).take (PG.cellsOf T_string)) := hg 3 _ rfl
    rw [T_string.cells] at g3
    obtain ⟨m0, q0, -⟩ := rd_int T_int.und g0
    obtain ⟨m1, q1, -⟩ := rd_int T_uint64.und g1
    obtain ⟨m2, q2, -⟩ := rd_int T_uint64.und g2
    obtain ⟨m3, q3, -⟩ := rd_string T_string.und g3
    simp only [List.drop_succ_cons, List.drop_zero, List.take_succ_cons, List.take_zero, List.cons.injEq, and_true] at e0 e1 e2 e4 q0 q1 q2 q3
    subst e0 e1 e2 e4 q0 q1 q2 q3
    exact ⟨⟨n0, n1, n2, m0, m1, m2, m3, s4⟩, rfl⟩
theorem Msg.of_rows {H : Type} {enc : TypeId × Value → H} {w : World} {spare : Nat → Bool} {held : Bool} : ∀ {rows : List (List Value)}, (∀ r ∈ rows, Rd enc PG w spare held T_api_Message r) → ∃ xs : List Msg, rows = xs.map Msg.cells
  | [], _ => ⟨[], rfl⟩
  | r :: rs, h => by
    obtain ⟨m, rfl⟩ := Msg.of_rd (h r (by simp))
    obtain ⟨xs, rfl⟩ := Msg.of_rows (rows := rs) (fun x hx => h x (by simp [hx]))
    exact ⟨m :: xs, rfl⟩
end Go.Proofs.Ytbloalappckjhaa
