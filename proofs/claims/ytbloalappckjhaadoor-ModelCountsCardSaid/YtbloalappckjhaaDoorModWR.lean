/- model: the card of ModelCounts. -/
import Derived.Test.YtbloalappckjhaaDoorModD
import Derived.Test.YtbloalappckjhaaDoorModW
set_option linter.unusedSimpArgs false
set_option linter.unusedVariables false
namespace Go.Proofs.YtbloalappckjhaaDoor
open Go
theorem ModelCounts_row {h : PH} (hF : Fol h) {x y : Value} {r1 r2 : List (List Value)} (hx : SlR h 5 x r1) (hy : SlR h 5 y r2) {was now : List Ent} (e1 : r1 = was.map Ent.cells) (e2 : r2 = now.map Ent.cells) {k : Value → PH → Prop} (hk : ∀ h', Ext h h' → k (.bool true) h') :
    CallsH PG id_carracklaw22_ModelCounts #[x, y] h k := by
  subst e1 e2; exact ModelCounts_ok hF hx hy hk
end Go.Proofs.YtbloalappckjhaaDoor
namespace Go.Proofs.YtbloalappckjhaaDoor.modelCounts
open Go Go.ChangeShapes Go.WideShapes Go.ChangeAt Go.WideMaps Go.WideElems Go.RowKit
theorem own : ownKnob Tryd.prog.godebug = none := by kernel_rfl
set_option maxRecDepth 100000 in
theorem lifted (os : Os) (started : os.Started) (H : Type) (enc : TypeId × Value → H) :
    ReturnsInHanded {} Tryd.checked os 5 .any (fun w args => (Rows.modelCountsSpec.pre enc Tryd.prog Tryd.f5 [] false w args ∧ laidMetH Tryd.prog laidL w) ∧ sizedMet enc Tryd.prog Tryd.f5 (OpenSpec.ofChange Rows.modelCountsSpec) false w args)
      (Rows.modelCountsSpec.post enc Tryd.prog Tryd.f5 false true false false) := by
  refine returnsInHanded_of_change_and (C := Tryd.checked) (X := fun w _ => laidMetH Tryd.prog laidL w) (fun _ _ _ hh h => h.of_heap hh) own started (by kernel_rfl) Tryd.func5
    (ChangeSpec.witness_shaped (enc := enc) (C := Tryd.checked) (os := os) (X := fun w _ => laidMetH Tryd.prog laidL w) false (World.doorLaid Tryd.prog 400 os) #[.slice none 0 0, .slice none 0 0] 8 rfl (World.shaped_of_RefB (by kernel_rfl) (by kernel_rfl)) (by kernel_rfl) (by kernel_rfl) (by kernel_rfl) (door_met os _)) ?_
  intro W base args ds gs before hval0 hW _ _ hL _
  have hval : ∀ (j : Nat) t v, Tryd.f5.params[j]? = some t → args[j]? = some v → Value.okWide Tryd.prog W .any base t v := hval0
  have hW' := hW
  obtain ⟨p, q, hA0, hV, rfl, hfz, hnd⟩ := hW
  have hA : DataW.TrodAll enc Tryd.prog W 0 (fun _ => true) true Tryd.f5.params.toList args.toList ds p := hA0
  rw [Tryd.params5] at hA hval
  obtain ⟨v0, vs0, d0, ds0, p0, q0, hargs, rfl, rfl, h0, r0⟩ := trodAll_cons hA
  obtain ⟨v1, vs1, d1, ds1, p1, q1, rfl, rfl, rfl, h1, r1⟩ := trodAll_cons r0
  obtain ⟨rfl, rfl, rfl⟩ := trodAll_nil r1
  obtain rfl : args = #[v0, v1] := by cases args; simp_all
  obtain ⟨rfl, rfl⟩ := trodVars_none hV
  obtain ⟨rows0, s0, o0⟩ := open_rd T_sl_carrackref22_Entry.und (by rw [T_carrackref22_Entry.cells]; decide) (hval 0 _ v0 rfl rfl) h0
  rw [T_carrackref22_Entry.cells] at s0
  obtain ⟨xs0, e0⟩ := Ent.of_rows o0
  obtain ⟨rows1, s1, o1⟩ := open_rd T_sl_carrackref22_Entry.und (by rw [T_carrackref22_Entry.cells]; decide) (hval 1 _ v1 rfl rfl) h1
  rw [T_carrackref22_Entry.cells] at s1
  obtain ⟨xs1, e1⟩ := Ent.of_rows o1
  refine (calls_kept (ModelCounts_row (fol_of hL) s0 s1 e0 e1 fun h' hx => ⟨rfl, hx⟩)).mono fun e W' ⟨he, hk⟩ => ?_
  subst he
  exact ⟨_, rfl, post_of_kept kidsPG fullPG (by rw [Tryd.params5]; decide +kernel) Tryd.underlying4 (by kernel_rfl) rfl hW' hk rfl rfl rfl⟩
theorem over : Rows.modelCountsRow.holds Tryd.pinned (OpenSpec.ofChange Rows.modelCountsSpec) :=
  OpenClaim.holds_of_wide 5 Tryd.f5 rfl rfl rfl rfl rfl rfl rfl ⟨rfl, rfl, rfl, rfl, rfl⟩ rfl rfl rfl rfl rfl (by kernel_rfl) Tryd.func5 (by kernel_rfl)
    (of_decide_eq_true (by kernel_rfl)) (by unfold Func.isWrapper; first | (rw [if_pos (by decide +kernel)]; kernel_rfl) | (rw [if_neg (by decide +kernel)]; exact ⟨rfl, rfl⟩))
    (fun os started H enc _ => lifted os started H enc)
theorem proved : Rows.ModelCountsCardSaid :=
  Claim7.holds_tied_plain_at .later [] [.widerDeep] true (true, "15967882d441571482ec9bc1112570dd352218e25c89b25f80bf27d4f0acd3ca") false
    over (fun _ h => by cases h) (by kernel_rfl) (fun _ h => by cases h) modelCounts_row_tie rfl ⟨rfl, rfl⟩ (by kernel_rfl) rfl
    (fun f fn hf hfn => by
      obtain rfl : f = 5 := Option.some.inj ((show Tryd.prog.funcNamed Rows.modelCountsRow.func = some 5 by kernel_rfl).symm.trans hf) |>.symm
      obtain rfl : fn = Tryd.f5 := (Option.some.inj (Tryd.func5.symm.trans hfn)).symm
      exact ⟨by kernel_rfl, fun j t ht => by
        have hall : (Tryd.f5.params.toList.all fun u => !Tryd.prog.wantsStandIn u) = true := by kernel_rfl
        have hm : t ∈ Tryd.f5.params.toList := by simpa using Array.mem_of_getElem? ht
        exact (show Tryd.prog.wantsStandIn t = false by simpa using List.all_eq_true.1 hall t hm)⟩)
    (by kernel_rfl)
#print axioms proved
end Go.Proofs.YtbloalappckjhaaDoor.modelCounts
