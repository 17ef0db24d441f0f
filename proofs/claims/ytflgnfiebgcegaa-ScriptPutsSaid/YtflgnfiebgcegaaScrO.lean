/- script: an act with the fields alone that its kind has; the same acts. -/
import Derived.Test.YtflgnfiebgcegaaScrD
set_option linter.unusedSimpArgs false
set_option linter.unusedVariables false
namespace Go.Proofs.Ytflgnfiebgcegaa
open Go
set_option maxRecDepth 20000
def onlyA (A : Act) : Act :=
  if A.kind = 0 then { Act.zero A.kind with chain := A.chain, timeout := A.timeout, data := A.data }
  else if A.kind = 1 then { Act.zero A.kind with chain := A.chain }
  else if A.kind = 6 then { Act.zero A.kind with msg := A.msg }
  else if A.kind = 8 then { Act.zero A.kind with writes := A.writes }
  else if A.kind = 3 ∨ A.kind = 4 ∨ A.kind = 5 ∨ A.kind = 7 then { Act.zero A.kind with n := A.n }
  else Act.zero A.kind
theorem SlR.cell {h : PH} {size : Nat} {v : Value} {rows : List (List Value)} (H : SlR h size v rows) : isCell v = true := by
  obtain ⟨_, _, rfl, -⟩ := H.here; rfl
theorem ok30 {h : PH} {r3 r8 : Nat} {c : Array Value} {A : Act} {v : Value} (h3 : h r3 = some (.cells c T_api_Act (0, 0))) (hc : c.size = 14) (hv : isCell v = true) (H : ABox h r8 A v) {k : Value → PH → Prop} (hk : ∀ h', Upd [r3] h h' → k (.agg (A.cells v).toArray) h') :
    script_only_k30 k (.pointer (some ⟨r3, 0, none⟩)) (.pointer (some ⟨r8, 0, none⟩)) h := by
  unfold script_only_k30 script_only_k31
  rw [H.load]
  simp only [popO_some, bindH_eq, condV_bool, condV_true, condV_false, yV_bool, gopV_tt, gopV_ff, gopV_tf, gopV_ft, pickV_t, pickV_f, pickV_bool, nilS_ptr, add_eq, sub_eq, mul_eq, lss_eq, leq_eq, gtr_eq, geq_eq, not_eq, minI_eq, maxI_eq, extract_0, extract_1, extract_2, eqlI, neqI, makeFunc_eq, decide_true, decide_false, if_true, if_false, Bool.false_eq_true, Bool.not_true, Bool.not_false, reduceIte, List.getElem?_toArray, List.getElem?_cons_zero, List.getElem?_cons_succ, Option.isSome_none, List.length_map]
  refine store_box h3 T_api_Act.info (by show 14 = 14; rfl) (by show 0 < 14; decide) (by rw [hc]; rfl) (A.cellOk hv) ?_
  rw [load_box T_api_Act.und rfl T_api_Act.info T_api_Act.size set_same rfl]
  exact hk _ (Upd.set (by simp))
set_option maxHeartbeats 4000000 in
theorem only_ok {h : PH} {A : Act} {v : Value} {K : Nat} (hK : K < 9) (hA : A.kind = K) (hv : SlR h 2 v (A.writes.map Wr.cells)) {k : Value → PH → Prop}
    (hk : ∀ w h', SlR h' 2 w ((onlyA A).writes.map Wr.cells) → Ext h h' → k (.agg ((onlyA A).cells w).toArray) h') : CallsH PG id_script_only #[.agg (A.cells v).toArray] h k := by
  apply script_only.call
  unfold script_only
  intro r1 hr1
  try rw [bindH_eq]
  have u1 : Ext h (h.set r1 (.cells (Value.agg (A.cells v).toArray).cells T_api_Act)) := Upd.new hr1
  have B1 : ABox (h.set r1 (.cells (Value.agg (A.cells v).toArray).cells T_api_Act)) r1 A v := ⟨set_same⟩
  generalize h.set r1 (.cells (Value.agg (A.cells v).toArray).cells T_api_Act) = h1 at *
  intro r3 hr3
  try rw [bindH_eq]
  have u3 : Ext h1 (h1.set r3 (.cells (zcells PG T_api_Act) T_api_Act)) := Upd.new hr3
  have b3 : (h1.set r3 (.cells (zcells PG T_api_Act) T_api_Act)) r3 = some (.cells (zcells PG T_api_Act) T_api_Act (0, 0)) := set_same
  generalize h1.set r3 (.cells (zcells PG T_api_Act) T_api_Act) = h3 at *
  have B1 := B1.ext u3
  simp only [T_api_Act.f0, T_int.load, B1.kind, act_build, popO_some, bindH_eq, condV_bool, condV_true, condV_false, yV_bool, gopV_tt, gopV_ff, gopV_tf, gopV_ft, pickV_t, pickV_f, pickV_bool, nilS_ptr, add_eq, sub_eq, mul_eq, lss_eq, leq_eq, gtr_eq, geq_eq, not_eq, minI_eq, maxI_eq, extract_0, extract_1, extract_2, eqlI, neqI, makeFunc_eq, decide_true, decide_false, if_true, if_false, Bool.false_eq_true, Bool.not_true, Bool.not_false, reduceIte, List.getElem?_toArray, List.getElem?_cons_zero, List.getElem?_cons_succ, Option.isSome_none, List.length_map]
  intro r8 hr8
  have n18 : r1 ≠ r8 := fun e => by subst e; rw [B1.here] at hr8; cases hr8
  have n38 : r3 ≠ r8 := fun e => by subst e; rw [b3] at hr8; cases hr8
  refine put_act hr8 (Act.zero A.kind) (v := .slice none 0 0) rfl fun h4 B8 u4 => ?_
  have B1 := B1.ext u4
  have b3 := u4.get b3
  have hz : (zcells PG T_api_Act).size = 14 := by rw [T_api_Act.zc]; rfl
  have w4 : Ext h h4 := (u1.trans u3).trans u4
  have f3 : Fresh h [r3] := Fresh.one (u1.none hr3)
  have f8 : Fresh h [r8] := Fresh.one ((u1.trans u3).none hr8)
  -- the end: the box r8 holds the answer
  have fin : ∀ (h' : PH) (B : Act) (w : Value), Upd [r8] h4 h' → ABox h' r8 B w → onlyA A = B → SlR h 2 w (B.writes.map Wr.cells) → script_only_k30 k (.pointer (some ⟨r3, 0, none⟩)) (.pointer (some ⟨r8, 0, none⟩)) h' := by
    intro h' B w u HB e S
    subst e
    refine ok30 (u.get b3 (by simpa using n38)) hz S.cell HB fun h5 u5 => ?_
    have w5 : Ext h h5 := (w4.fresh u f8).fresh u5 f3
    exact hk w h5 (S.ext w5) w5
  have nil : SlR h 2 (.slice none 0 0) (([] : List Wr).map Wr.cells) := nilW.slR
  have ks : ∀ {h'}, Upd [r8] h4 h' → ABox h' r1 A v := fun u => B1.upd u (by simpa using n18)
  have k55 : ∀ c, A.kind = c → (c = 3 ∨ c = 4 ∨ c = 5 ∨ c = 7) → script_only_k55 k (.pointer (some ⟨r1, 0, none⟩)) (.pointer (some ⟨r3, 0, none⟩)) (.pointer (some ⟨r8, 0, none⟩)) (.bool true) h4 := by
    intro c hc hcc
    unfold script_only_k55
    simp only [T_api_Act.f4, Nat.zero_add, T_int.load, B1.c4, popO_some, bindH_eq, condV_bool, condV_true, condV_false, yV_bool, gopV_tt, gopV_ff, gopV_tf, gopV_ft, pickV_t, pickV_f, pickV_bool, nilS_ptr, add_eq, sub_eq, mul_eq, lss_eq, leq_eq, gtr_eq, geq_eq, not_eq, minI_eq, maxI_eq, extract_0, extract_1, extract_2, eqlI, neqI, makeFunc_eq, decide_true, decide_false, if_true, if_false, Bool.false_eq_true, Bool.not_true, Bool.not_false, reduceIte, List.getElem?_toArray, List.getElem?_cons_zero, List.getElem?_cons_succ, Option.isSome_none, List.length_map]
    refine B8.set (A' := { Act.zero A.kind with n := A.n }) T_int.und rfl T_int.info T_int.size (by decide) rfl rfl fun h5 H5 u5 _ => ?_
    refine fin h5 _ _ u5 H5 ?_ nil
    rcases hcc with rfl | rfl | rfl | rfl <;> (unfold onlyA; simp [hc])
  simp only [B1.kind, T_int.load, T_api_Act.f0]
  have : K = 0 ∨ K = 1 ∨ K = 2 ∨ K = 3 ∨ K = 4 ∨ K = 5 ∨ K = 6 ∨ K = 7 ∨ K = 8 := by omega
  rcases this with rfl | rfl | rfl | rfl | rfl | rfl | rfl | rfl | rfl
  · have hA : A.kind = 0 := hA
    simp only [hA, T_api_Act.f1, T_api_Act.f2, T_api_Act.f3, Nat.zero_add, T_int.load, T_uint64.load, T_string.load, B1.c1, B1.c2, B1.c3, Int.reduceBEq, beq_self_eq_true, popO_some, bindH_eq, condV_bool, condV_true, condV_false, yV_bool, gopV_tt, gopV_ff, gopV_tf, gopV_ft, pickV_t, pickV_f, pickV_bool, nilS_ptr, add_eq, sub_eq, mul_eq, lss_eq, leq_eq, gtr_eq, geq_eq, not_eq, minI_eq, maxI_eq, extract_0, extract_1, extract_2, eqlI, neqI, makeFunc_eq, decide_true, decide_false, if_true, if_false, Bool.false_eq_true, Bool.not_true, Bool.not_false, reduceIte, List.getElem?_toArray, List.getElem?_cons_zero, List.getElem?_cons_succ, Option.isSome_none, List.length_map]
    rw [hA] at B8
    refine B8.set (A' := { Act.zero 0 with chain := A.chain }) T_int.und rfl T_int.info T_int.size (by decide) rfl rfl fun h5 H5 u5 _ => ?_
    refine ⟨(ks u5).c3, (ks u5).c2, ?_⟩
    refine H5.set (A' := { Act.zero 0 with chain := A.chain, timeout := A.timeout }) T_uint64.und rfl T_uint64.info T_uint64.size (by decide) rfl rfl fun h6 H6 u6 _ => ?_
    refine ⟨(ks (u5.trans u6)).c3, ?_⟩
    refine H6.set (A' := { Act.zero 0 with chain := A.chain, timeout := A.timeout, data := A.data }) T_string.und rfl T_string.info T_string.size (by decide) rfl rfl fun h7 H7 u7 _ => ?_
    exact fin h7 _ _ ((u5.trans u6).trans u7) H7 (by unfold onlyA; simp [hA]) nil
  · have hA : A.kind = 1 := hA
    simp only [hA, T_api_Act.f1, Nat.zero_add, T_int.load, B1.c1, Int.reduceBEq, beq_self_eq_true, popO_some, bindH_eq, condV_bool, condV_true, condV_false, yV_bool, gopV_tt, gopV_ff, gopV_tf, gopV_ft, pickV_t, pickV_f, pickV_bool, nilS_ptr, add_eq, sub_eq, mul_eq, lss_eq, leq_eq, gtr_eq, geq_eq, not_eq, minI_eq, maxI_eq, extract_0, extract_1, extract_2, eqlI, neqI, makeFunc_eq, decide_true, decide_false, if_true, if_false, Bool.false_eq_true, Bool.not_true, Bool.not_false, reduceIte, List.getElem?_toArray, List.getElem?_cons_zero, List.getElem?_cons_succ, Option.isSome_none, List.length_map]
    rw [hA] at B8
    refine B8.set (A' := { Act.zero 1 with chain := A.chain }) T_int.und rfl T_int.info T_int.size (by decide) rfl rfl fun h5 H5 u5 _ => ?_
    exact fin h5 _ _ u5 H5 (by unfold onlyA; simp [hA]) nil
  · have hA : A.kind = 2 := hA
    simp only [hA, Int.reduceBEq, beq_self_eq_true, popO_some, bindH_eq, condV_bool, condV_true, condV_false, yV_bool, gopV_tt, gopV_ff, gopV_tf, gopV_ft, pickV_t, pickV_f, pickV_bool, nilS_ptr, add_eq, sub_eq, mul_eq, lss_eq, leq_eq, gtr_eq, geq_eq, not_eq, minI_eq, maxI_eq, extract_0, extract_1, extract_2, eqlI, neqI, makeFunc_eq, decide_true, decide_false, if_true, if_false, Bool.false_eq_true, Bool.not_true, Bool.not_false, reduceIte, List.getElem?_toArray, List.getElem?_cons_zero, List.getElem?_cons_succ, Option.isSome_none, List.length_map]
    unfold script_only_k55
    simp only [popO_some, bindH_eq, condV_bool, condV_true, condV_false, yV_bool, gopV_tt, gopV_ff, gopV_tf, gopV_ft, pickV_t, pickV_f, pickV_bool, nilS_ptr, add_eq, sub_eq, mul_eq, lss_eq, leq_eq, gtr_eq, geq_eq, not_eq, minI_eq, maxI_eq, extract_0, extract_1, extract_2, eqlI, neqI, makeFunc_eq, decide_true, decide_false, if_true, if_false, Bool.false_eq_true, Bool.not_true, Bool.not_false, reduceIte, List.getElem?_toArray, List.getElem?_cons_zero, List.getElem?_cons_succ, Option.isSome_none, List.length_map]
    exact fin h4 _ _ Upd.refl B8 (by unfold onlyA; simp [hA]) nil
  · have hA : A.kind = 3 := hA
    simp only [hA, Int.reduceBEq, beq_self_eq_true, popO_some, bindH_eq, condV_bool, condV_true, condV_false, yV_bool, gopV_tt, gopV_ff, gopV_tf, gopV_ft, pickV_t, pickV_f, pickV_bool, nilS_ptr, add_eq, sub_eq, mul_eq, lss_eq, leq_eq, gtr_eq, geq_eq, not_eq, minI_eq, maxI_eq, extract_0, extract_1, extract_2, eqlI, neqI, makeFunc_eq, decide_true, decide_false, if_true, if_false, Bool.false_eq_true, Bool.not_true, Bool.not_false, reduceIte, List.getElem?_toArray, List.getElem?_cons_zero, List.getElem?_cons_succ, Option.isSome_none, List.length_map]
    exact k55 3 hA (by simp)
  · have hA : A.kind = 4 := hA
    simp only [hA, Int.reduceBEq, beq_self_eq_true, popO_some, bindH_eq, condV_bool, condV_true, condV_false, yV_bool, gopV_tt, gopV_ff, gopV_tf, gopV_ft, pickV_t, pickV_f, pickV_bool, nilS_ptr, add_eq, sub_eq, mul_eq, lss_eq, leq_eq, gtr_eq, geq_eq, not_eq, minI_eq, maxI_eq, extract_0, extract_1, extract_2, eqlI, neqI, makeFunc_eq, decide_true, decide_false, if_true, if_false, Bool.false_eq_true, Bool.not_true, Bool.not_false, reduceIte, List.getElem?_toArray, List.getElem?_cons_zero, List.getElem?_cons_succ, Option.isSome_none, List.length_map]
    exact k55 4 hA (by simp)
  · have hA : A.kind = 5 := hA
    simp only [hA, Int.reduceBEq, beq_self_eq_true, popO_some, bindH_eq, condV_bool, condV_true, condV_false, yV_bool, gopV_tt, gopV_ff, gopV_tf, gopV_ft, pickV_t, pickV_f, pickV_bool, nilS_ptr, add_eq, sub_eq, mul_eq, lss_eq, leq_eq, gtr_eq, geq_eq, not_eq, minI_eq, maxI_eq, extract_0, extract_1, extract_2, eqlI, neqI, makeFunc_eq, decide_true, decide_false, if_true, if_false, Bool.false_eq_true, Bool.not_true, Bool.not_false, reduceIte, List.getElem?_toArray, List.getElem?_cons_zero, List.getElem?_cons_succ, Option.isSome_none, List.length_map]
    exact k55 5 hA (by simp)
  · have hA : A.kind = 6 := hA
    simp only [hA, T_api_Act.f5, Nat.zero_add, B1.msg, Int.reduceBEq, beq_self_eq_true, popO_some, bindH_eq, condV_bool, condV_true, condV_false, yV_bool, gopV_tt, gopV_ff, gopV_tf, gopV_ft, pickV_t, pickV_f, pickV_bool, nilS_ptr, add_eq, sub_eq, mul_eq, lss_eq, leq_eq, gtr_eq, geq_eq, not_eq, minI_eq, maxI_eq, extract_0, extract_1, extract_2, eqlI, neqI, makeFunc_eq, decide_true, decide_false, if_true, if_false, Bool.false_eq_true, Bool.not_true, Bool.not_false, reduceIte, List.getElem?_toArray, List.getElem?_cons_zero, List.getElem?_cons_succ, Option.isSome_none, List.length_map]
    refine B8.setMsg fun h5 H5 u5 => ?_
    exact fin h5 _ _ u5 H5 (by unfold onlyA; simp [hA]) nil
  · have hA : A.kind = 7 := hA
    simp only [hA, Int.reduceBEq, beq_self_eq_true, popO_some, bindH_eq, condV_bool, condV_true, condV_false, yV_bool, gopV_tt, gopV_ff, gopV_tf, gopV_ft, pickV_t, pickV_f, pickV_bool, nilS_ptr, add_eq, sub_eq, mul_eq, lss_eq, leq_eq, gtr_eq, geq_eq, not_eq, minI_eq, maxI_eq, extract_0, extract_1, extract_2, eqlI, neqI, makeFunc_eq, decide_true, decide_false, if_true, if_false, Bool.false_eq_true, Bool.not_true, Bool.not_false, reduceIte, List.getElem?_toArray, List.getElem?_cons_zero, List.getElem?_cons_succ, Option.isSome_none, List.length_map]
    exact k55 7 hA (by simp)
  · have hA : A.kind = 8 := hA
    simp only [hA, T_api_Act.f6, Nat.zero_add, T_sl_api_Write.load, B1.field6, Int.reduceBEq, beq_self_eq_true, popO_some, bindH_eq, condV_bool, condV_true, condV_false, yV_bool, gopV_tt, gopV_ff, gopV_tf, gopV_ft, pickV_t, pickV_f, pickV_bool, nilS_ptr, add_eq, sub_eq, mul_eq, lss_eq, leq_eq, gtr_eq, geq_eq, not_eq, minI_eq, maxI_eq, extract_0, extract_1, extract_2, eqlI, neqI, makeFunc_eq, decide_true, decide_false, if_true, if_false, Bool.false_eq_true, Bool.not_true, Bool.not_false, reduceIte, List.getElem?_toArray, List.getElem?_cons_zero, List.getElem?_cons_succ, Option.isSome_none, List.length_map]
    refine ABox.setW A.writes hv.cell B8 fun h5 H5 u5 => ?_
    exact fin h5 _ _ u5 H5 (by unfold onlyA; simp [hA]) hv
end Go.Proofs.Ytflgnfiebgcegaa
