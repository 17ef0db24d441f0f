/- net: what is read of acts; the row NetPlays. -/
import Derived.Test.YtbloalappckjhaaNetD
import Derived.Test.YtbloalappckjhaaNetP
set_option linter.unusedSimpArgs false
set_option linter.unusedVariables false
namespace Go.Proofs.Ytbloalappckjhaa
open Go Go.RowKit Go.ChangeShapes
theorem T_carrackref20_Act.cells : PG.cellsOf T_carrackref20_Act = 4 := by kernel_rfl
theorem T_sl_api_Message.cells : PG.cellsOf T_sl_api_Message = 1 := by kernel_rfl
theorem NAct.of_rd {H : Type} {enc : TypeId × Value → H} {w : World} {spare : Nat → Bool} {held : Bool} {cs : List Value} (h : Rd enc PG w spare held T_carrackref20_Act cs) : ∃ m : NAct, cs = m.cells ∧ SlR (heapOf w) 8 m.v (m.l.map Msg.cells) := by
  obtain ⟨hl, hf⟩ := rd_struct T_carrackref20_Act.und h
  rw [T_carrackref20_Act.cells] at hl
  match cs, hl with
  | [c0, c1, c2, c3], _ =>
    have f0 : Rd enc PG w spare held T_int (([c0, c1, c2, c3].drop 0).take (PG.cellsOf T_int)) := hf 0 _ rfl
    have f1 : Rd enc PG w spare held T_int (([c0, c1, c2, c3].drop 1).take (PG.cellsOf T_int)) := hf 1 _ rfl
    have f2 : Rd enc PG w spare held T_int (([c0, c1, c2, c3].drop 2).take (PG.cellsOf T_int)) := hf 2 _ rfl
    have f3 : Rd enc PG w spare held T_sl_api_Message (([c0, c1, c2, c3].drop 3).take (PG.cellsOf T_sl_api_Message)) := hf 3 _ rfl
    rw [T_int.cells] at f0 f1 f2
    rw [T_sl_api_Message.cells] at f3
    obtain ⟨n0, e0, -⟩ := rd_int T_int.und f0
    obtain ⟨n1, e1, -⟩ := rd_int T_int.und f1
    obtain ⟨n2, e2, -⟩ := rd_int T_int.und f2
    obtain ⟨v, rows, e3, s3, r3⟩ := rd_slice T_sl_api_Message.und (by rw [T_api_Message.cells]; decide) f3
    obtain ⟨xs, rfl⟩ := Msg.of_rows r3
    rw [T_api_Message.cells] at s3
    simp only [List.drop_succ_cons, List.drop_zero, List.take_succ_cons, List.take_zero, List.cons.injEq, and_true] at e0 e1 e2 e3
    subst e0 e1 e2 e3
    exact ⟨⟨n0, n1, n2, c3, xs⟩, rfl, s3⟩
theorem NAct.of_rows {H : Type} {enc : TypeId × Value → H} {w : World} {spare : Nat → Bool} {held : Bool} : ∀ {rows : List (List Value)}, (∀ r ∈ rows, Rd enc PG w spare held T_carrackref20_Act r) → ∃ xs : List NAct, rows = xs.map NAct.cells ∧ NActs (heapOf w) xs
  | [], _ => ⟨[], rfl, fun _ h => by cases h⟩
  | r :: rs, h => by
    obtain ⟨m, rfl, hm⟩ := NAct.of_rd (h r (by simp))
    obtain ⟨xs, rfl, hx⟩ := NAct.of_rows (rows := rs) (fun x hx => h x (by simp [hx]))
    refine ⟨m :: xs, rfl, fun a ha => ?_⟩
    rcases List.mem_cons.1 ha with rfl | ha
    · exact hm
    · exact hx a ha
theorem NetPlays_row {h : PH} {x : Value} {rows : List (List Value)} (hx : SlR h 4 x rows) {xs : List NAct} (e : rows = xs.map NAct.cells ∧ NActs h xs) {k : Value → PH → Prop} (hk : ∀ h', Ext h h' → k (.bool true) h') :
    CallsH PG id_carracklaw20_NetPlays #[x] h k := by obtain ⟨rfl, hA⟩ := e; exact NetPlays_ok hx hA hk
end Go.Proofs.Ytbloalappckjhaa
namespace Go.Proofs.Ytbloalappckjhaa.netPlays
open Go Go.ChangeShapes Go.WideShapes Go.ChangeAt Go.RowKit
theorem own : ownKnob Try.prog.godebug = none := by kernel_rfl
set_option maxRecDepth 100000 in
theorem lifted (os : Os) (started : os.Started) (H : Type) (enc : TypeId × Value → H) :
    ReturnsInHanded {} Try.checked os 6 .any (Rows.netPlaysSpec.pre6 enc Try.prog Try.f6 Rows.netPlaysRow.domain false) (Rows.netPlaysSpec.post enc Try.prog Try.f6 false true false false) := by
  refine returnsInHanded_of_change (C := Try.checked) own started (by kernel_rfl) Try.func6
    (ChangeSpec.witness6 (enc := enc) (C := Try.checked) false ⟨#[], #[.slice none 0 0], []⟩ 8 (by kernel_rfl) (by kernel_rfl) (by kernel_rfl) (by kernel_rfl)) ?_
  intro W base args ds gs before hval0 hW hcnd _
  have hval : ∀ (j : Nat) t v, Try.f6.params[j]? = some t → args[j]? = some v → Value.okWide Try.prog W .any base t v := hval0
  have hW' := hW
  obtain ⟨p, q, hA0, hV, rfl, hfz, hnd⟩ := hW
  have hA : DataW.TrodAll enc Try.prog W 0 (fun _ => true) true Try.f6.params.toList args.toList ds p := hA0
  rw [Try.params6] at hA hval
  obtain ⟨v0, vs0, d0, ds0, p0, q0, hargs, rfl, rfl, h0, r0⟩ := trodAll_cons hA
  obtain ⟨rfl, rfl, rfl⟩ := trodAll_nil r0
  obtain rfl : args = #[v0] := by cases args; simp_all
  obtain ⟨rfl, rfl⟩ := trodVars_none hV
  obtain ⟨rows0, s0, o0⟩ := open_rd T_sl_carrackref20_Act.und (by rw [T_carrackref20_Act.cells]; decide) (hval 0 _ v0 rfl rfl) h0
  rw [T_carrackref20_Act.cells] at s0
  obtain ⟨xs0, e0⟩ := NAct.of_rows o0
  refine (calls_kept (NetPlays_row s0 e0 fun h' hx => ⟨rfl, hx⟩)).mono fun e W' ⟨he, hk⟩ => ?_
  subst he
  exact ⟨_, rfl, post_of_kept kidsPG fullPG (by rw [Try.params6]; decide +kernel) Try.underlying4 (by kernel_rfl) rfl hW' hk rfl rfl rfl⟩
theorem over : Rows.netPlaysRow.holds Try.pinned (OpenSpec.ofChange Rows.netPlaysSpec) :=
  OpenClaim.holds_of_wide 6 Try.f6 rfl rfl rfl rfl rfl rfl rfl ⟨rfl, rfl, rfl, rfl, rfl⟩ rfl rfl rfl rfl rfl (by kernel_rfl) Try.func6 (by kernel_rfl)
    (of_decide_eq_true (by kernel_rfl)) (by unfold Func.isWrapper; first | (rw [if_pos (by decide +kernel)]; kernel_rfl) | (rw [if_neg (by decide +kernel)]; exact ⟨rfl, rfl⟩))
    (fun os started H enc _ => lifted os started H enc)
theorem proved : Rows.NetPlaysSaid :=
  over
#print axioms proved
end Go.Proofs.Ytbloalappckjhaa.netPlays
