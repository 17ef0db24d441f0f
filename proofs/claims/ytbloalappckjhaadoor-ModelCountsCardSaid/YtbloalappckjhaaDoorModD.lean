/- model: what is read of packets and entries; the listed variable. -/
import Derived.Test.YtbloalappckjhaaDoorHLaid
import Derived.Test.YtbloalappckjhaaDoorModE
import Derived.Test.YtbloalappckjhaaDoorCards
import Derived.Test.YtbloalappckjhaaDoorTie
import Derived.WalkKit
import Derived.ProofKit
set_option linter.unusedSimpArgs false
set_option linter.unusedVariables false
namespace Go.Proofs.YtbloalappckjhaaDoor
open Go Go.RowKit Go.ChangeShapes
theorem kidsPG : Kids PG (· < PG.types.size) := kids_rows (by kernel_rfl) (by kernel_rfl)
theorem fullPG : ∀ t e, t < PG.types.size → PG.underlying t = some (.slice e) → 0 < PG.cellsOf e := slices_full_of PG (by kernel_rfl)
theorem T_int.cells : PG.cellsOf T_int = 1 := by kernel_rfl
theorem T_uint64.cells : PG.cellsOf T_uint64 = 1 := by kernel_rfl
theorem T_string.cells : PG.cellsOf T_string = 1 := by kernel_rfl
theorem T_api_Packet.cells : PG.cellsOf T_api_Packet = 4 := by kernel_rfl
theorem T_carrackref22_Entry.cells : PG.cellsOf T_carrackref22_Entry = 5 := by kernel_rfl
theorem open_st {H : Type} {enc : TypeId × Value → H} {P : Program} {w : World} {spare : Nat → Bool} {held : Bool} {r : Reach} {base : Nat} {t : TypeId} {fs : Array Field} {v : Value} {d : DataW H} {p : List MemPlace} (ht : P.underlying t = some (.struct fs)) (hval : Value.okWide P w r base t v) (hd : DataW.Trod enc P w 0 spare held t v d p) :
    ∃ cs, v = .agg cs ∧ Rd enc P w spare held t cs.toList := by
  obtain ⟨cs, rfl, _⟩ := Go.WideShapes.okWide_struct ht hval
  obtain ⟨k, hk⟩ := hd
  exact ⟨cs, rfl, k, _, hk⟩
theorem Pkt.of_rd {H : Type} {enc : TypeId × Value → H} {w : World} {spare : Nat → Bool} {held : Bool} {cs : List Value} (h : Rd enc PG w spare held T_api_Packet cs) : ∃ m : Pkt, cs = m.cells := by
  obtain ⟨hl, hf⟩ := rd_struct T_api_Packet.und h
  rw [T_api_Packet.cells] at hl
  match cs, hl with
  | [c0, c1, c2, c3], _ =>
    have g0 : Rd enc PG w spare held T_int (([c0, c1, c2, c3].drop 0).take (PG.cellsOf T_int)) := hf 0 _ rfl
    have g1 : Rd enc PG w spare held T_uint64 (([c0, c1, c2, c3].drop 1).take (PG.cellsOf T_uint64)) := hf 1 _ rfl
    have g2 : Rd enc PG w spare held T_uint64 (([c0, c1, c2, c3].drop 2).take (PG.cellsOf T_uint64)) := hf 2 _ rfl
    have g3 : Rd enc PG w spare held T_string (([c0, c1, c2, c3].drop 3).take (PG.cellsOf T_string)) := hf 3 _ rfl
    rw [T_int.cells] at g0
    rw [T_uint64.cells] at g1 g2
    rw [T_string.cells] at g3
    obtain ⟨m0, q0, -⟩ := rd_int T_int.und g0
    obtain ⟨m1, q1, -⟩ := rd_int T_uint64.und g1
    obtain ⟨m2, q2, -⟩ := rd_int T_uint64.und g2
    obtain ⟨m3, q3, -⟩ := rd_string T_string.und g3
    simp only [List.drop_succ_cons, List.drop_zero, List.take_succ_cons, List.take_zero, List.cons.injEq, and_true] at q0 q1 q2 q3
    subst q0 q1 q2 q3
    exact ⟨⟨m0, m1, m2, m3⟩, rfl⟩
theorem Ent.of_rd {H : Type} {enc : TypeId × Value → H} {w : World} {spare : Nat → Bool} {held : Bool} {cs : List Value} (h : Rd enc PG w spare held T_carrackref22_Entry cs) : ∃ m : Ent, cs = m.cells := by
  obtain ⟨hl, hf⟩ := rd_struct T_carrackref22_Entry.und h
  rw [T_carrackref22_Entry.cells] at hl
  match cs, hl with
  | [c0, c1, c2, c3, c4], _ =>
    have g0 : Rd enc PG w spare held T_api_Packet (([c0, c1, c2, c3, c4].drop 0).take (PG.cellsOf T_api_Packet)) := hf 0 _ rfl
    have g1 : Rd enc PG w spare held T_int (([c0, c1, c2, c3, c4].drop 4).take (PG.cellsOf T_int)) := hf 1 _ rfl
    rw [T_api_Packet.cells] at g0
    rw [T_int.cells] at g1
    obtain ⟨m, hm⟩ := Pkt.of_rd g0
    obtain ⟨s, q1, -⟩ := rd_int T_int.und g1
    simp only [List.drop_succ_cons, List.drop_zero, List.take_succ_cons, List.take_zero, List.cons.injEq, and_true, Pkt.cells] at hm q1
    obtain ⟨rfl, rfl, rfl, rfl⟩ := hm
    subst q1
    exact ⟨⟨m, s⟩, rfl⟩
theorem Ent.of_rows {H : Type} {enc : TypeId × Value → H} {w : World} {spare : Nat → Bool} {held : Bool} : ∀ {rows : List (List Value)}, (∀ r ∈ rows, Rd enc PG w spare held T_carrackref22_Entry r) → ∃ xs : List Ent, rows = xs.map Ent.cells
  | [], _ => ⟨[], rfl⟩
  | r :: rs, h => by
    obtain ⟨m, rfl⟩ := Ent.of_rd (h r (by simp))
    obtain ⟨xs, rfl⟩ := Ent.of_rows (rows := rs) (fun x hx => h x (by simp [hx]))
    exact ⟨m :: xs, rfl⟩
def laidL : List (String × DataW Unit) := [("carrack/model.follows", Rows.laid_carrack_model_follows)]
theorem door_met (os : Os) (args : Array Value) : laidMetH Tryd.prog laidL ((World.doorLaid Tryd.prog 400 os).forCall (fun _ _ => 0) ⟨#[], args, []⟩).memory :=
  laidMetH_of_parts3 (fuel := 8) (laidMet_of_run' 8 (by kernel_rfl) (by kernel_rfl)) (by kernel_rfl) (by kernel_rfl)
theorem fol_of {W : World} (h : laidMetH Tryd.prog laidL W) : Fol (heapOf W) := by
  rw [MakeChecks.laidMetH_plain _ _ _ (by kernel_rfl)] at h
  obtain ⟨ps, h1, _⟩ := h
  obtain ⟨e, fr, hh⟩ := laid_cells (m := 3) (g := 0) (t := T_4_2_int) h1 (List.mem_cons_self ..) (by kernel_rfl) (by kernel_rfl) (by kernel_rfl)
  exact ⟨e, fr, hh⟩
end Go.Proofs.YtbloalappckjhaaDoor
