/- For every list of acts, every configuration and every string the statement ScriptBack answers true. -/
import Derived.Test.YtflgnfiebgcegaaScrBB
import Derived.Test.YtflgnfiebgcegaaScrRA
set_option linter.unusedSimpArgs false
set_option linter.unusedVariables false
namespace Go.Proofs.Ytflgnfiebgcegaa
open Go Go.ChangeShapes
theorem ScriptBack_row {h : PH} {x : Value} {rows : List (List Value)} {cs : Array Value} {c : Cfg} {xs : List AcV} (hx : SlR h 14 x rows) (more : List UInt8) (e : rows = xs.map arow ∧ AcS h xs) (e1 : cs.toList = c.cells ∧ CfgOk c) {k : Value → PH → Prop} (hk : ∀ h', Ext h h' → k (.bool true) h') :
    CallsH PG id_carracklaw23_ScriptBack #[x, .agg cs, .string (tx more)] h k := by
  obtain ⟨rfl, hA⟩ := e
  obtain ⟨ec, hc⟩ := e1
  obtain rfl : cs = c.cells.toArray := by rw [← ec]
  exact ScriptBack_ok hx hA hc hk
end Go.Proofs.Ytflgnfiebgcegaa
namespace Go.Proofs.Ytflgnfiebgcegaa.scriptBack
open Go Go.ChangeShapes Go.WideShapes Go.ChangeAt Go.RowKit
theorem own : ownKnob Try.prog.godebug = none := by kernel_rfl
set_option maxRecDepth 100000 in
theorem lifted (os : Os) (started : os.Started) (H : Type) (enc : TypeId × Value → H) :
    ReturnsInHanded {} Try.checked os 4 .any (Rows.scriptBackSpec.pre6 enc Try.prog Try.f4 Rows.scriptBackRow.domain false) (Rows.scriptBackSpec.post enc Try.prog Try.f4 false true false false) := by
  refine returnsInHanded_of_change (C := Try.checked) own started (by kernel_rfl) Try.func4
    (ChangeSpec.witness6 (enc := enc) (C := Try.checked) false ⟨#[], #[.slice none 0 0, .agg Cfg.zero.cells.toArray, .string ⟨#[]⟩], []⟩ 8 (by kernel_rfl) (by kernel_rfl) (by kernel_rfl) (by kernel_rfl)) ?_
  intro W base args ds gs before hval0 hW hcnd _
  have hval : ∀ (j : Nat) t v, Try.f4.params[j]? = some t → args[j]? = some v → Value.okWide Try.prog W .any base t v := hval0
  have hW' := hW
  obtain ⟨p, q, hA0, hV, rfl, hfz, hnd⟩ := hW
  have hA : DataW.TrodAll enc Try.prog W 0 (fun _ => true) true Try.f4.params.toList args.toList ds p := hA0
  rw [Try.params4] at hA hval
  obtain ⟨v0, vs0, d0, ds0, p0, q0, hargs, rfl, rfl, h0, r0⟩ := trodAll_cons hA
  obtain ⟨v1, vs1, d1, ds1, p1, q1, rfl, rfl, rfl, h1, r1⟩ := trodAll_cons r0
  obtain ⟨v2, vs2, d2, ds2, p2, q2, rfl, rfl, rfl, h2, r2⟩ := trodAll_cons r1
  obtain ⟨rfl, rfl, rfl⟩ := trodAll_nil r2
  obtain rfl : args = #[v0, v1, v2] := by cases args; simp_all
  obtain ⟨rfl, rfl⟩ := trodVars_none hV
  obtain ⟨rows0, s0, o0⟩ := open_rd T_sl_api_Act.und (by rw [T_api_Act.cells]; decide) (hval 0 _ v0 rfl rfl) h0
  rw [T_api_Act.cells] at s0
  obtain ⟨xs0, e0⟩ := Act.of_rows o0
  obtain ⟨cs1, rfl, -⟩ := okWide_struct T_api_Config.und (hval 1 _ v1 rfl rfl)
  obtain ⟨xs1, e1⟩ := Cfg.of_rd (open_any h1)
  obtain ⟨b2, rfl, -, -, z2⟩ := Go.ChangeMaps.open_string Try.underlying9 (hval 2 9 v2 rfl rfl) h2
  obtain ⟨a2, rfl⟩ : ∃ l, b2 = tx l := ⟨_, (tx_list b2).symm⟩
  refine (calls_kept (ScriptBack_row s0 a2 e0 e1 fun h' hx => ⟨rfl, hx⟩)).mono fun e W' ⟨he, hk⟩ => ?_
  subst he
  exact ⟨_, rfl, post_of_kept kidsPG fullPG (by rw [Try.params4]; decide +kernel) Try.underlying4 (by kernel_rfl) rfl hW' hk rfl rfl rfl⟩
theorem over : Rows.scriptBackRow.holds Try.pinned (OpenSpec.ofChange Rows.scriptBackSpec) :=
  OpenClaim.holds_of_wide 4 Try.f4 rfl rfl rfl rfl rfl rfl rfl ⟨rfl, rfl, rfl, rfl, rfl⟩ rfl rfl rfl rfl rfl (by kernel_rfl) Try.func4 (by kernel_rfl)
    (of_decide_eq_true (by kernel_rfl)) (by unfold Func.isWrapper; first | (rw [if_pos (by decide +kernel)]; kernel_rfl) | (rw [if_neg (by decide +kernel)]; exact ⟨rfl, rfl⟩))
    (fun os started H enc _ => lifted os started H enc)
theorem proved : Rows.ScriptBackSaid :=
  over
#print axioms proved
end Go.Proofs.Ytflgnfiebgcegaa.scriptBack
