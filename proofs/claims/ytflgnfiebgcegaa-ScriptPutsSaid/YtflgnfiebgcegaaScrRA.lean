/- script: acts, configurations and replies that are read of a row. -/
import Derived.Test.YtflgnfiebgcegaaScrR
import Derived.Test.YtflgnfiebgcegaaScrBB
set_option linter.unusedSimpArgs false
set_option linter.unusedVariables false
namespace Go.Proofs.Ytflgnfiebgcegaa
open Go Go.RowKit Go.ChangeShapes
set_option maxRecDepth 20000
theorem T_api_Packet.cells : PG.cellsOf T_api_Packet = 4 := by kernel_rfl
theorem T_api_Message.cells : PG.cellsOf T_api_Message = 8 := by kernel_rfl
theorem T_api_Act.cells : PG.cellsOf T_api_Act = 14 := by kernel_rfl
theorem T_api_Write.cells : PG.cellsOf T_api_Write = 2 := by kernel_rfl
theorem T_api_Config.cells : PG.cellsOf T_api_Config = 9 := by kernel_rfl
theorem T_sl_api_Write.cells : PG.cellsOf T_sl_api_Write = 1 := by kernel_rfl
theorem T_2_uint64.cells : PG.cellsOf T_2_uint64 = 2 := by kernel_rfl
theorem T_int.cells : PG.cellsOf T_int = 1 := by kernel_rfl
theorem T_bool.cells : PG.cellsOf T_bool = 1 := by kernel_rfl
theorem T_uint64.cells : PG.cellsOf T_uint64 = 1 := by kernel_rfl
theorem T_string.cells : PG.cellsOf T_string = 1 := by kernel_rfl
theorem nat_of {n : Int} (h : 0 ≤ n) : ∃ m : Nat, n = m := ⟨n.toNat, by omega⟩
theorem str_of (s : ByteArray) : ∃ l, s = tx l := ⟨_, (tx_list s).symm⟩
section
variable {H : Type} {enc : TypeId × Value → H} {w : World} {spare : Nat → Bool} {held : Bool}
theorem Wr.of_rd {cs : List Value} (h : Rd enc PG w spare held T_api_Write cs) : ∃ m : Wr, cs = m.cells := by
  obtain ⟨hl, hf⟩ := rd_struct T_api_Write.und h
  rw [T_api_Write.cells] at hl
  match cs, hl with
  | [c0, c1], _ =>
    have f0 : Rd enc PG w spare held T_bool (([c0, c1].drop 0).take (PG.cellsOf T_bool)) := hf 0 _ rfl
    rw [T_bool.cells] at f0
    have f1 : Rd enc PG w spare held T_int (([c0, c1].drop 1).take (PG.cellsOf T_int)) := hf 1 _ rfl
    rw [T_int.cells] at f1
    obtain ⟨n0, e0⟩ := rd_bool T_bool.und f0
    obtain ⟨n1, e1, -⟩ := rd_int T_int.und f1
    simp only [List.drop_succ_cons, List.drop_zero, List.take_succ_cons, List.take_zero, List.cons.injEq, and_true] at e0 e1
    subst e0 e1
    exact ⟨⟨n0, n1⟩, rfl⟩
theorem Wr.of_rows : ∀ {rows : List (List Value)}, (∀ r ∈ rows, Rd enc PG w spare held T_api_Write r) → ∃ xs : List Wr, rows = xs.map Wr.cells
  | [], _ => ⟨[], rfl⟩
  | r :: rs, h => by
    obtain ⟨m, rfl⟩ := Wr.of_rd (h r (by simp))
    obtain ⟨xs, rfl⟩ := Wr.of_rows (rows := rs) (fun x hx => h x (by simp [hx]))
    exact ⟨m :: xs, rfl⟩
theorem Msg.of_rd {cs : List Value} (h : Rd enc PG w spare held T_api_Message cs) : ∃ m : Msg, cs = m.cells ∧ m.height < 18446744073709551616 ∧ m.pseq < 18446744073709551616 ∧ m.ptimeout < 18446744073709551616 := by
  obtain ⟨hl, hf⟩ := rd_struct T_api_Message.und h
  rw [T_api_Message.cells] at hl
  match cs, hl with
  | [c0, c1, c2, c3, c4, c5, c6, c7], _ =>
    have f0 : Rd enc PG w spare held T_int (([c0, c1, c2, c3, c4, c5, c6, c7].drop 0).take (PG.cellsOf T_int)) := hf 0 _ rfl
    rw [T_int.cells] at f0
    have f1 : Rd enc PG w spare held T_int (([c0, c1, c2, c3, c4, c5, c6, c7].drop 1).take (PG.cellsOf T_int)) := hf 1 _ rfl
    rw [T_int.cells] at f1
    have f2 : Rd enc PG w spare held T_uint64 (([c0, c1, c2, c3, c4, c5, c6, c7].drop 2).take (PG.cellsOf T_uint64)) := hf 2 _ rfl
    rw [T_uint64.cells] at f2
    have f3 : Rd enc PG w spare held T_api_Packet (([c0, c1, c2, c3, c4, c5, c6, c7].drop 3).take (PG.cellsOf T_api_Packet)) := hf 3 _ rfl
    rw [T_api_Packet.cells] at f3
    have f4 : Rd enc PG w spare held T_string (([c0, c1, c2, c3, c4, c5, c6, c7].drop 7).take (PG.cellsOf T_string)) := hf 4 _ rfl
    rw [T_string.cells] at f4
    obtain ⟨n0, e0, -⟩ := rd_int T_int.und f0
    obtain ⟨n1, e1, -⟩ := rd_int T_int.und f1
    obtain ⟨n2, e2, w2⟩ := rd_int T_uint64.und f2
    obtain ⟨s4, e4, -⟩ := rd_string T_string.und f4
    obtain ⟨-, hg⟩ := rd_struct T_api_Packet.und f3
    have g0 : Rd enc PG w spare held T_int (((([c0, c1, c2, c3, c4, c5, c6, c7].drop 3).take 4).drop 0).take (PG.cellsOf T_int)) := hg 0 _ rfl
    rw [T_int.cells] at g0
    have g1 : Rd enc PG w spare held T_uint64 (((([c0, c1, c2, c3, c4, c5, c6, c7].drop 3).take 4).drop 1).take (PG.cellsOf T_uint64)) := hg 1 _ rfl
    rw [T_uint64.cells] at g1
    have g2 : Rd enc PG w spare held T_uint64 (((([c0, c1, c2, c3, c4, c5, c6, c7].drop 3).take 4).drop 2).take (PG.cellsOf T_uint64)) := hg 2 _ rfl
    rw [T_uint64.cells] at g2
    have g3 : Rd enc PG w spare held T_string (((([c0, c1, c2, c3, c4, c5, c6, c7].drop 3).take 4).drop 3).take (PG.cellsOf T_string)) := hg 3 _ rfl
    rw [T_string.cells] at g3
    obtain ⟨m0, q0, -⟩ := rd_int T_int.und g0
    obtain ⟨m1, q1, y1⟩ := rd_int T_uint64.und g1
    obtain ⟨m2, q2, y2⟩ := rd_int T_uint64.und g2
    obtain ⟨m3, q3, -⟩ := rd_string T_string.und g3
    simp only [List.drop_succ_cons, List.drop_zero, List.take_succ_cons, List.take_zero, List.cons.injEq, and_true] at e0 e1 e2 e4 q0 q1 q2 q3
    have w2 := wf_u64 w2
    have y1 := wf_u64 y1
    have y2 := wf_u64 y2
    obtain ⟨n2, rfl⟩ := nat_of w2.1
    obtain ⟨m1, rfl⟩ := nat_of y1.1
    obtain ⟨m2, rfl⟩ := nat_of y2.1
    obtain ⟨s4, rfl⟩ := str_of s4
    obtain ⟨m3, rfl⟩ := str_of m3
    subst e0 e1 e2 e4 q0 q1 q2 q3
    exact ⟨⟨n0, n1, n2, m0, m1, m2, m3, s4⟩, rfl, by show n2 < _; omega, by show m1 < _; omega, by show m2 < _; omega⟩
theorem Act.of_rd {cs : List Value} (h : Rd enc PG w spare held T_api_Act cs) : ∃ p : AcV, cs = arow p ∧ SlR (heapOf w) 2 p.2 (p.1.writes.map Wr.cells) ∧ ActOk p.1 := by
  obtain ⟨hl, hf⟩ := rd_struct T_api_Act.und h
  rw [T_api_Act.cells] at hl
  match cs, hl with
  | [c0, c1, c2, c3, c4, c5, c6, c7, c8, c9, c10, c11, c12, c13], _ =>
    have f0 : Rd enc PG w spare held T_int (([c0, c1, c2, c3, c4, c5, c6, c7, c8, c9, c10, c11, c12, c13].drop 0).take (PG.cellsOf T_int)) := hf 0 _ rfl
    rw [T_int.cells] at f0
    have f1 : Rd enc PG w spare held T_int (([c0, c1, c2, c3, c4, c5, c6, c7, c8, c9, c10, c11, c12, c13].drop 1).take (PG.cellsOf T_int)) := hf 1 _ rfl
    rw [T_int.cells] at f1
    have f2 : Rd enc PG w spare held T_uint64 (([c0, c1, c2, c3, c4, c5, c6, c7, c8, c9, c10, c11, c12, c13].drop 2).take (PG.cellsOf T_uint64)) := hf 2 _ rfl
    rw [T_uint64.cells] at f2
    have f3 : Rd enc PG w spare held T_string (([c0, c1, c2, c3, c4, c5, c6, c7, c8, c9, c10, c11, c12, c13].drop 3).take (PG.cellsOf T_string)) := hf 3 _ rfl
    rw [T_string.cells] at f3
    have f4 : Rd enc PG w spare held T_int (([c0, c1, c2, c3, c4, c5, c6, c7, c8, c9, c10, c11, c12, c13].drop 4).take (PG.cellsOf T_int)) := hf 4 _ rfl
    rw [T_int.cells] at f4
    have f5 : Rd enc PG w spare held T_api_Message (([c0, c1, c2, c3, c4, c5, c6, c7, c8, c9, c10, c11, c12, c13].drop 5).take (PG.cellsOf T_api_Message)) := hf 5 _ rfl
    rw [T_api_Message.cells] at f5
    have f6 : Rd enc PG w spare held T_sl_api_Write (([c0, c1, c2, c3, c4, c5, c6, c7, c8, c9, c10, c11, c12, c13].drop 13).take (PG.cellsOf T_sl_api_Write)) := hf 6 _ rfl
    rw [T_sl_api_Write.cells] at f6
    obtain ⟨n0, e0, -⟩ := rd_int T_int.und f0
    obtain ⟨n1, e1, -⟩ := rd_int T_int.und f1
    obtain ⟨n2, e2, w2⟩ := rd_int T_uint64.und f2
    obtain ⟨s3, e3, -⟩ := rd_string T_string.und f3
    obtain ⟨n4, e4, -⟩ := rd_int T_int.und f4
    obtain ⟨m, e5, k1, k2, k3⟩ := Msg.of_rd f5
    obtain ⟨v, rows, e6, hS, hr⟩ := rd_slice T_sl_api_Write.und (by rw [T_api_Write.cells]; decide) f6
    obtain ⟨ws, rfl⟩ := Wr.of_rows hr
    rw [T_api_Write.cells] at hS
    have w2 := wf_u64 w2
    obtain ⟨n2, rfl⟩ := nat_of w2.1
    obtain ⟨s3, rfl⟩ := str_of s3
    simp only [List.drop_succ_cons, List.drop_zero, List.take_succ_cons, List.take_zero, List.cons.injEq, and_true, Msg.cells] at e0 e1 e2 e3 e4 e5 e6
    obtain ⟨rfl, rfl, rfl, rfl, rfl, rfl, rfl, rfl⟩ := e5
    subst e0 e1 e2 e3 e4 e6
    exact ⟨(⟨n0, n1, n2, s3, n4, m, ws⟩, _), rfl, hS, ⟨by show n2 < _; omega, k1, k2, k3⟩⟩
theorem Act.of_rows : ∀ {rows : List (List Value)}, (∀ r ∈ rows, Rd enc PG w spare held T_api_Act r) → ∃ xs : List AcV, rows = xs.map arow ∧ AcS (heapOf w) xs
  | [], _ => ⟨[], rfl, fun p hp => by cases hp⟩
  | r :: rs, h => by
    obtain ⟨m, rfl, h1, h2⟩ := Act.of_rd (h r (by simp))
    obtain ⟨xs, rfl, hx⟩ := Act.of_rows (rows := rs) (fun x hx => h x (by simp [hx]))
    refine ⟨m :: xs, rfl, fun p hp => ?_⟩
    rcases List.mem_cons.1 hp with rfl | hp
    · exact ⟨h1, h2⟩
    · exact hx p hp
theorem Cfg.of_rd {cs : List Value} (h : Rd enc PG w spare held T_api_Config cs) : ∃ c : Cfg, cs = c.cells ∧ CfgOk c := by
  obtain ⟨hl, hf⟩ := rd_struct T_api_Config.und h
  rw [T_api_Config.cells] at hl
  match cs, hl with
  | [c0, c1, c2, c3, c4, c5, c6, c7, c8], _ =>
    have f0 : Rd enc PG w spare held T_int (([c0, c1, c2, c3, c4, c5, c6, c7, c8].drop 0).take (PG.cellsOf T_int)) := hf 0 _ rfl
    rw [T_int.cells] at f0
    have f1 : Rd enc PG w spare held T_int (([c0, c1, c2, c3, c4, c5, c6, c7, c8].drop 1).take (PG.cellsOf T_int)) := hf 1 _ rfl
    rw [T_int.cells] at f1
    have f2 : Rd enc PG w spare held T_int (([c0, c1, c2, c3, c4, c5, c6, c7, c8].drop 2).take (PG.cellsOf T_int)) := hf 2 _ rfl
    rw [T_int.cells] at f2
    have f3 : Rd enc PG w spare held T_int (([c0, c1, c2, c3, c4, c5, c6, c7, c8].drop 3).take (PG.cellsOf T_int)) := hf 3 _ rfl
    rw [T_int.cells] at f3
    have f4 : Rd enc PG w spare held T_int (([c0, c1, c2, c3, c4, c5, c6, c7, c8].drop 4).take (PG.cellsOf T_int)) := hf 4 _ rfl
    rw [T_int.cells] at f4
    have f5 : Rd enc PG w spare held T_2_uint64 (([c0, c1, c2, c3, c4, c5, c6, c7, c8].drop 5).take (PG.cellsOf T_2_uint64)) := hf 5 _ rfl
    rw [T_2_uint64.cells] at f5
    have f6 : Rd enc PG w spare held T_2_uint64 (([c0, c1, c2, c3, c4, c5, c6, c7, c8].drop 7).take (PG.cellsOf T_2_uint64)) := hf 6 _ rfl
    rw [T_2_uint64.cells] at f6
    obtain ⟨n0, e0, -⟩ := rd_int T_int.und f0
    obtain ⟨n1, e1, -⟩ := rd_int T_int.und f1
    obtain ⟨n2, e2, -⟩ := rd_int T_int.und f2
    obtain ⟨n3, e3, -⟩ := rd_int T_int.und f3
    obtain ⟨n4, e4, -⟩ := rd_int T_int.und f4
    obtain ⟨-, hg⟩ := rd_array T_2_uint64.und f5
    obtain ⟨-, hh⟩ := rd_array T_2_uint64.und f6
    have g0 := hg 0 (by decide)
    have g1 := hg 1 (by decide)
    have k0 := hh 0 (by decide)
    have k1 := hh 1 (by decide)
    rw [T_uint64.cells] at g0 g1 k0 k1
    obtain ⟨a0, p0, x0⟩ := rd_int T_uint64.und g0
    obtain ⟨a1, p1, x1⟩ := rd_int T_uint64.und g1
    obtain ⟨b0, q0, y0⟩ := rd_int T_uint64.und k0
    obtain ⟨b1, q1, y1⟩ := rd_int T_uint64.und k1
    have x0 := wf_u64 x0
    have x1 := wf_u64 x1
    have y0 := wf_u64 y0
    have y1 := wf_u64 y1
    obtain ⟨a0, rfl⟩ := nat_of x0.1
    obtain ⟨a1, rfl⟩ := nat_of x1.1
    obtain ⟨b0, rfl⟩ := nat_of y0.1
    obtain ⟨b1, rfl⟩ := nat_of y1.1
    simp only [Nat.zero_mul, Nat.one_mul, List.drop_succ_cons, List.drop_zero, List.take_succ_cons, List.take_zero, List.cons.injEq, and_true] at e0 e1 e2 e3 e4 p0 p1 q0 q1
    subst e0 e1 e2 e3 e4 p0 p1 q0 q1
    exact ⟨⟨n0, n1, n2, n3, n4, a0, a1, b0, b1⟩, rfl, ⟨by show a0 < _; omega, by show a1 < _; omega, by show b0 < _; omega, by show b1 < _; omega⟩⟩
end
end Go.Proofs.Ytflgnfiebgcegaa
