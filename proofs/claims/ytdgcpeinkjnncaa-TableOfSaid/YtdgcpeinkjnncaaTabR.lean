/- table: acts, notes, items and packets that are read of a row. -/
import Derived.Test.YtdgcpeinkjnncaaScrR
import Derived.Test.YtdgcpeinkjnncaaTabC
set_option linter.unusedSimpArgs false
set_option linter.unusedVariables false
namespace Go.Proofs.Ytdgcpeinkjnncaa
open Go Go.RowKit Go.ChangeShapes
set_option maxRecDepth 20000
theorem T_api_Packet.cells : PG.cellsOf T_api_Packet = 4 := by kernel_rfl
theorem T_api_Note.cells : PG.cellsOf T_api_Note = 5 := by kernel_rfl
theorem T_api_Item.cells : PG.cellsOf T_api_Item = 5 := by kernel_rfl
theorem T_carrackref15_Act.cells : PG.cellsOf T_carrackref15_Act = 6 := by kernel_rfl
theorem T_int.cells : PG.cellsOf T_int = 1 := by kernel_rfl
theorem T_bool.cells : PG.cellsOf T_bool = 1 := by kernel_rfl
theorem T_uint64.cells : PG.cellsOf T_uint64 = 1 := by kernel_rfl
theorem T_string.cells : PG.cellsOf T_string = 1 := by kernel_rfl
section
variable {H : Type} {enc : TypeId × Value → H} {w : World} {spare : Nat → Bool} {held : Bool}
def Pk.ok (p : Pk) : Prop := 0 ≤ p.s ∧ 0 ≤ p.t
theorem Pk.of_rd {cs : List Value} (h : Rd enc PG w spare held T_api_Packet cs) : ∃ p : Pk, cs = p.cells ∧ p.ok := by
  obtain ⟨hl, hf⟩ := rd_struct T_api_Packet.und h
  rw [T_api_Packet.cells] at hl
  match cs, hl with
  | [c0, c1, c2, c3], _ =>
    have f0 : Rd enc PG w spare held T_int (([c0, c1, c2, c3].drop 0).take (PG.cellsOf T_int)) := hf 0 _ rfl
    rw [T_int.cells] at f0
    have f1 : Rd enc PG w spare held T_uint64 (([c0, c1, c2, c3].drop 1).take (PG.cellsOf T_uint64)) := hf 1 _ rfl
    rw [T_uint64.cells] at f1
    have f2 : Rd enc PG w spare held T_uint64 (([c0, c1, c2, c3].drop 2).take (PG.cellsOf T_uint64)) := hf 2 _ rfl
    rw [T_uint64.cells] at f2
    have f3 : Rd enc PG w spare held T_string (([c0, c1, c2, c3].drop 3).take (PG.cellsOf T_string)) := hf 3 _ rfl
    rw [T_string.cells] at f3
    obtain ⟨n0, e0, -⟩ := rd_int T_int.und f0
    obtain ⟨n1, e1, w1⟩ := rd_int T_uint64.und f1
    obtain ⟨n2, e2, w2⟩ := rd_int T_uint64.und f2
    obtain ⟨s3, e3, -⟩ := rd_string T_string.und f3
    simp only [List.drop_succ_cons, List.drop_zero, List.take_succ_cons, List.take_zero, List.cons.injEq, and_true] at e0 e1 e2 e3
    subst e0 e1 e2 e3
    exact ⟨⟨n0, n1, n2, s3⟩, rfl, (wf_u64 w1).1, (wf_u64 w2).1⟩
theorem It.of_rd {cs : List Value} (h : Rd enc PG w spare held T_api_Item cs) : ∃ i : It, cs = i.cells ∧ i.p.ok := by
  obtain ⟨hl, hf⟩ := rd_struct T_api_Item.und h
  rw [T_api_Item.cells] at hl
  match cs, hl with
  | [c0, c1, c2, c3, c4], _ =>
    have f0 : Rd enc PG w spare held T_api_Packet (([c0, c1, c2, c3, c4].drop 0).take (PG.cellsOf T_api_Packet)) := hf 0 _ rfl
    rw [T_api_Packet.cells] at f0
    have f1 : Rd enc PG w spare held T_int (([c0, c1, c2, c3, c4].drop 4).take (PG.cellsOf T_int)) := hf 1 _ rfl
    rw [T_int.cells] at f1
    obtain ⟨p, e0, hp⟩ := Pk.of_rd f0
    obtain ⟨n1, e1, -⟩ := rd_int T_int.und f1
    simp only [List.drop_succ_cons, List.drop_zero, List.take_succ_cons, List.take_zero, List.cons.injEq, and_true, Pk.cells] at e0 e1
    obtain ⟨rfl, rfl, rfl, rfl⟩ := e0
    subst e1
    exact ⟨⟨p, n1⟩, rfl, hp⟩
theorem Nt.of_rd {cs : List Value} (h : Rd enc PG w spare held T_api_Note cs) : ∃ n : Nt, cs = n.cells ∧ n.p.ok := by
  obtain ⟨hl, hf⟩ := rd_struct T_api_Note.und h
  rw [T_api_Note.cells] at hl
  match cs, hl with
  | [c0, c1, c2, c3, c4], _ =>
    have f0 : Rd enc PG w spare held T_int (([c0, c1, c2, c3, c4].drop 0).take (PG.cellsOf T_int)) := hf 0 _ rfl
    rw [T_int.cells] at f0
    have f1 : Rd enc PG w spare held T_api_Packet (([c0, c1, c2, c3, c4].drop 1).take (PG.cellsOf T_api_Packet)) := hf 1 _ rfl
    rw [T_api_Packet.cells] at f1
    obtain ⟨n0, e0, -⟩ := rd_int T_int.und f0
    obtain ⟨p, e1, hp⟩ := Pk.of_rd f1
    simp only [List.drop_succ_cons, List.drop_zero, List.take_succ_cons, List.take_zero, List.cons.injEq, and_true, Pk.cells] at e0 e1
    obtain ⟨rfl, rfl, rfl, rfl⟩ := e1
    subst e0
    exact ⟨⟨n0, p⟩, rfl, hp⟩
theorem Ac.of_rd {cs : List Value} (h : Rd enc PG w spare held T_carrackref15_Act cs) : ∃ a : Ac, cs = a.cells ∧ a.n.p.ok := by
  obtain ⟨hl, hf⟩ := rd_struct T_carrackref15_Act.und h
  rw [T_carrackref15_Act.cells] at hl
  match cs, hl with
  | [c0, c1, c2, c3, c4, c5], _ =>
    have f0 : Rd enc PG w spare held T_bool (([c0, c1, c2, c3, c4, c5].drop 0).take (PG.cellsOf T_bool)) := hf 0 _ rfl
    rw [T_bool.cells] at f0
    have f1 : Rd enc PG w spare held T_api_Note (([c0, c1, c2, c3, c4, c5].drop 1).take (PG.cellsOf T_api_Note)) := hf 1 _ rfl
    rw [T_api_Note.cells] at f1
    obtain ⟨n0, e0⟩ := rd_bool T_bool.und f0
    obtain ⟨n, e1, hp⟩ := Nt.of_rd f1
    simp only [List.drop_succ_cons, List.drop_zero, List.take_succ_cons, List.take_zero, List.cons.injEq, and_true, Nt.cells] at e0 e1
    obtain ⟨rfl, rfl, rfl, rfl, rfl⟩ := e1
    subst e0
    exact ⟨⟨n0, n⟩, rfl, hp⟩
theorem rows_of {α : Type} {cells : α → List Value} {P : α → Prop} {t : TypeId} (hof : ∀ cs, Rd enc PG w spare held t cs → ∃ a, cs = cells a ∧ P a) : ∀ {rows : List (List Value)}, (∀ r ∈ rows, Rd enc PG w spare held t r) → ∃ xs : List α, rows = xs.map cells ∧ ∀ x ∈ xs, P x
  | [], _ => ⟨[], rfl, by simp⟩
  | r :: rs, h => by
    obtain ⟨m, rfl, hm⟩ := hof r (h r (by simp))
    obtain ⟨xs, rfl, hx⟩ := rows_of hof (rows := rs) (fun x hx => h x (by simp [hx]))
    exact ⟨m :: xs, rfl, fun x hx' => by rcases List.mem_cons.1 hx' with rfl | h; exact hm; exact hx x h⟩
theorem It.of_rows {rows : List (List Value)} (h : ∀ r ∈ rows, Rd enc PG w spare held T_api_Item r) : ∃ xs : List It, rows = xs.map It.cells ∧ ∀ x ∈ xs, x.p.ok := rows_of (fun _ => It.of_rd) h
theorem Nt.of_rows {rows : List (List Value)} (h : ∀ r ∈ rows, Rd enc PG w spare held T_api_Note r) : ∃ xs : List Nt, rows = xs.map Nt.cells ∧ ∀ x ∈ xs, x.p.ok := rows_of (fun _ => Nt.of_rd) h
theorem Ac.of_rows {rows : List (List Value)} (h : ∀ r ∈ rows, Rd enc PG w spare held T_carrackref15_Act r) : ∃ xs : List Ac, rows = xs.map Ac.cells ∧ ∀ x ∈ xs, x.n.p.ok := rows_of (fun _ => Ac.of_rd) h
end
end Go.Proofs.Ytdgcpeinkjnncaa
