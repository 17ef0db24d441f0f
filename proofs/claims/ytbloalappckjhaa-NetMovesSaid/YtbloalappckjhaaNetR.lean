/- net: the rows. -/
import Derived.Test.YtbloalappckjhaaNetM
import Derived.Test.YtbloalappckjhaaHRow
import Derived.WalkKit
import Derived.ProofKit
set_option linter.unusedSimpArgs false
set_option linter.unusedVariables false
namespace Go.Proofs.Ytbloalappckjhaa
open Go Go.RowKit Go.ChangeShapes

theorem kidsPG : Kids PG (· < PG.types.size) := kids_rows (by kernel_rfl) (by kernel_rfl)
theorem fullPG : ∀ t e, t < PG.types.size → PG.underlying t = some (.slice e) → 0 < PG.cellsOf e := slices_full_of PG (by kernel_rfl)
theorem T_api_Packet.cells : PG.cellsOf T_api_Packet = 4 := by kernel_rfl
theorem T_api_Message.cells : PG.cellsOf T_api_Message = 8 := by kernel_rfl
theorem T_int.cells : PG.cellsOf T_int = 1 := by kernel_rfl
theorem T_uint64.cells : PG.cellsOf T_uint64 = 1 := by kernel_rfl
theorem T_string.cells : PG.cellsOf T_string = 1 := by kernel_rfl
theorem Msg.of_rd {H : Type} {enc : TypeId × Value → H} {w : World} {spare : Nat → Bool} {held : Bool} {cs : List Value} (h : Rd enc PG w spare held T_api_Message cs) : ∃ m : Msg, cs = m.cells := by
  obtain ⟨hl, hf⟩ := rd_struct T_api_Message.und h
  rw [T_api_Message.cells] at hl
  match cs, hl with
  | [c0, c1, c2, c3, c4, c5, c6, c7], _ =>
    have f0 : Rd enc PG w spare held T_int (([c0, c1, c2, c3, c4, c5, c6, c7].drop 0).take (PG.cellsOf T_int)) := hf 0 _ rfl
    rw [T_int.cells] at f0
    have f1 : Rd enc PG w spare held T_int (([c0, c1, c2, c3, c4, c5, c6, c7].drop 1).take (PG.cellsOf T_int)) := hf 1 _ rfl
    rw [T_int.cells] at f1
    have f2 : Rd enc PG w spare held T_uint64 (([c0, c1, c2, c3, c4, c5, c6, c7].drop 2).take (PG.cellsOf T_uint64)) := hf 2 _ rfl
    rw [T_uint64.cells] at f2
    have f3 : Rd enc PG w spare held T_api_Packet (([c0, c1, c2, c3, c4, c5, c6, c7].drop 3).take (PG.cellsOf T_api_Packet)) := hf 3 _ rfl
    rw [T_api_Packet.cells] at f3
    have f4 : Rd enc PG w spare held T_string (([c0, c1, c2, c3, c4, c5, c6, c7].drop 7).take (PG.cellsOf T_string)) := hf 4 _ rfl
    rw [T_string.cells] at f4
    obtain ⟨n0, e0, -⟩ := rd_int T_int.und f0
    obtain ⟨n1, e1, -⟩ := rd_int T_int.und f1
    obtain ⟨n2, e2, -⟩ := rd_int T_uint64.und f2
    obtain ⟨s4, e4, -⟩ := rd_string T_string.und f4
    obtain ⟨-, hg⟩ := rd_struct T_api_Packet.und f3
    have g0 : Rd enc PG w spare held T_int (((([c0, c1, c2, c3, c4, c5, c6, c7].drop 3).take 4).drop 0).take (PG.cellsOf T_int)) := hg 0 _ rfl
    rw [T_int.cells] at g0
    have g1 : Rd enc PG w spare held T_uint64 (((([c0, c1, c2, c3, c4, c5, c6, c7].drop 3).take 4).drop 1).take (PG.cellsOf T_uint64)) := hg 1 _ rfl
    rw [T_uint64.cells] at g1
    have g2 : Rd enc PG w spare held T_uint64 (((([c0, c1, c2, c3, c4, c5, c6, c7].drop 3).take 4).drop 2).take (PG.cellsOf T_uint64)) := hg 2 _ rfl
    rw [T_uint64.cells] at g2
    have g3 : Rd enc PG w spare held T_string (((([c0, c1, c2, c3, c4, c5, c6, c7].drop 3).take 4).drop 3).take (PG.cellsOf T_string)) := hg 3 _ rfl
    rw [T_string.cells] at g3
    obtain ⟨m0, q0, -⟩ := rd_int T_int.und g0
    obtain ⟨m1, q1, -⟩ := rd_int T_uint64.und g1
    obtain ⟨m2, q2, -⟩ := rd_int T_uint64.und g2
    obtain ⟨m3, q3, -⟩ := rd_string T_string.und g3
    simp only [List.drop_succ_cons, List.drop_zero, List.take_succ_cons, List.take_zero, List.cons.injEq, and_true] at e0 e1 e2 e4 q0 q1 q2 q3
    subst e0 e1 e2 e4 q0 q1 q2 q3
    exact ⟨⟨n0, n1, n2, m0, m1, m2, m3, s4⟩, rfl⟩
theorem Msg.of_rows {H : Type} {enc : TypeId × Value → H} {w : World} {spare : Nat → Bool} {held : Bool} : ∀ {rows : List (List Value)}, (∀ r ∈ rows, Rd enc PG w spare held T_api_Message r) → ∃ xs : List Msg, rows = xs.map Msg.cells
  | [], _ => ⟨[], rfl⟩
  | r :: rs, h => by
    obtain ⟨m, rfl⟩ := Msg.of_rd (h r (by simp))
    obtain ⟨xs, rfl⟩ := Msg.of_rows (rows := rs) (fun x hx => h x (by simp [hx]))
    exact ⟨m :: xs, rfl⟩
end Go.Proofs.Ytbloalappckjhaa
namespace Go.Proofs.Ytbloalappckjhaa.netMoves
open Go Go.ChangeShapes Go.WideShapes Go.ChangeAt Go.RowKit
theorem own : ownKnob Try.prog.godebug = none := by kernel_rfl
set_option maxRecDepth 100000 in
theorem lifted (os : Os) (started : os.Started) (H : Type) (enc : TypeId × Value → H) :
    ReturnsInHanded {} Try.checked os 4 .any (Rows.netMovesSpec.pre6 enc Try.prog Try.f4 Rows.netMovesRow.domain false) (Rows.netMovesSpec.post enc Try.prog Try.f4 false true false false) := by
  refine returnsInHanded_of_change (C := Try.checked) own started (by kernel_rfl) Try.func4
    (ChangeSpec.witness6 (enc := enc) (C := Try.checked) false ⟨#[], #[.slice none 0 0, .int .i64 0, .int .i64 0], []⟩ 8 (by kernel_rfl) (by kernel_rfl) (by kernel_rfl) (by kernel_rfl)) ?_
  intro W base args ds gs before hval0 hW hcnd _
  have hval : ∀ (j : Nat) t v, Try.f4.params[j]? = some t → args[j]? = some v → Value.okWide Try.prog W .any base t v := hval0
  have hW' := hW
  obtain ⟨p, q, hA0, hV, rfl, hfz, hnd⟩ := hW
  have hA : DataW.TrodAll enc Try.prog W 0 (fun _ => true) true Try.f4.params.toList args.toList ds p := hA0
  rw [Try.params4] at hA hval
  obtain ⟨v0, vs0, d0, ds0, p0, q0, hargs, rfl, rfl, h0, r0⟩ := trodAll_cons hA
  obtain ⟨v1, vs1, d1, ds1, p1, q1, rfl, rfl, rfl, h1, r1⟩ := trodAll_cons r0
  obtain ⟨v2, vs2, d2, ds2, p2, q2, rfl, rfl, rfl, h2, r2⟩ := trodAll_cons r1
  obtain ⟨rfl, rfl, rfl⟩ := trodAll_nil r2
  obtain rfl : args = #[v0, v1, v2] := by cases args; simp_all
  obtain ⟨rfl, rfl⟩ := trodVars_none hV
  obtain ⟨rows, s0, s1⟩ := open_rd T_sl_api_Message.und (by rw [T_api_Message.cells]; decide) (hval 0 _ v0 rfl rfl) h0
  obtain ⟨xs, rfl⟩ := Msg.of_rows s1
  rw [T_api_Message.cells] at s0
  obtain ⟨a1, rfl, rfl, rfl, w1⟩ := open_int Try.underlying3 (hval 1 3 v1 rfl rfl) h1
  obtain ⟨a2, rfl, rfl, rfl, w2⟩ := open_int Try.underlying3 (hval 2 3 v2 rfl rfl) h2
  refine (calls_kept (NetMoves_ok s0 a1 a2 fun h' hx => ⟨rfl, hx⟩)).mono fun e W' ⟨he, hk⟩ => ?_
  subst he
  exact ⟨_, rfl, post_of_kept kidsPG fullPG (by rw [Try.params4]; decide +kernel) Try.underlying4 (by kernel_rfl) rfl hW' hk rfl rfl rfl⟩
theorem over : Rows.netMovesRow.holds Try.pinned (OpenSpec.ofChange Rows.netMovesSpec) :=
  OpenClaim.holds_of_wide 4 Try.f4 rfl rfl rfl rfl rfl rfl rfl ⟨rfl, rfl, rfl, rfl, rfl⟩ rfl rfl rfl rfl rfl (by kernel_rfl) Try.func4 (by kernel_rfl)
    (of_decide_eq_true (by kernel_rfl)) (by unfold Func.isWrapper; first | (rw [if_pos (by decide +kernel)]; kernel_rfl) | (rw [if_neg (by decide +kernel)]; exact ⟨rfl, rfl⟩))
    (fun os started H enc _ => lifted os started H enc)
theorem proved : Rows.NetMovesSaid :=
  over
#print axioms proved
end Go.Proofs.Ytbloalappckjhaa.netMoves
