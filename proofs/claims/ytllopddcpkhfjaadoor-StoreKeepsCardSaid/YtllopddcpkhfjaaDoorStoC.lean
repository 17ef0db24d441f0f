/- store: keys, the sort. -/
import Derived.Test.YtllopddcpkhfjaaDoorMerD
import Derived.Test.YtllopddcpkhfjaaDoorHMapR
import Derived.Test.YtllopddcpkhfjaaDoorStoL
set_option linter.unusedSimpArgs false
set_option linter.unusedVariables false
namespace Go.Proofs.YtllopddcpkhfjaaDoor
open Go Bld Go.Sort Go.Shelf
set_option maxRecDepth 20000
def skey (k : Tx) : Value := .string (tx k)
theorem eqStr {h : PH} {n : Nat} (a b : Tx) : SemE PG h (Op.equalIn (n + 1) T_string (.string (tx a)) (.string (tx b))) = some (decide (a = b)) := by
  rw [eqIn_string T_string.und, beq_bytes]
  congr 1
  rw [Bool.eq_iff_iff]
  simp only [decide_eq_true_eq]
  exact ⟨tx_inj, fun e => by rw [e]⟩
theorem neqStr {h : PH} {t : TypeId} {x y : Operand} (a b : Tx) : SemE PG h (binS .neq t x y (.string (tx a)) (.string (tx b))) = some (.bool (!decide (a = b))) := by
  have e : SemE PG h (binS .neq t x y (.string (tx a)) (.string (tx b))) = some (.bool (!((tx a).toList == (tx b).toList))) := rfl
  rw [e, tx_toList, tx_toList]
  congr 3
  rw [Bool.eq_iff_iff]; simp
theorem eqlStr {h : PH} {t : TypeId} {x y : Operand} (a b : Tx) : SemE PG h (binS .eql t x y (.string (tx a)) (.string (tx b))) = some (.bool (decide (a = b))) := by
  have e : SemE PG h (binS .eql t x y (.string (tx a)) (.string (tx b))) = some (.bool ((tx a).toList == (tx b).toList)) := rfl
  rw [e, tx_toList, tx_toList]
  congr 2
  rw [Bool.eq_iff_iff]; simp
theorem skeyed : Keyed PG T_string skey where
  chk := fun h b a => by unfold skey; cases b <;> kernel_rfl
  eq := fun h a b => eqStr (n := 9999) a b
  bits := fun a => by
    show Instr.sameBits (9999 + 1) (.string (tx a)) (.string (tx a)) = true
    simp [Instr.sameBits, beq_bytes]
  now := ⟨_, T_string.und, .inr fun a b => by
    unfold skey
    show some (tx a == tx b) = _
    rw [beq_bytes]
    congr 1
    rw [Bool.eq_iff_iff]
    simp only [decide_eq_true_eq]
    exact ⟨tx_inj, fun e => by rw [e]⟩⟩
/-! ### the order of pairs -/
def cfP (p q : Pr) : Int := if p.k < q.k then -1 else if q.k < p.k then 1 else 0
theorem Compare_ok {h : PH} {a b : Tx} {k : Value → PH → Prop} (hk : k (.int .i64 (if a < b then -1 else if b < a then 1 else 0)) h) : CallsH PG id_cmp_Compare_string #[.string (tx a), .string (tx b)] h k := by
  apply cmp_Compare_string.call
  unfold cmp_Compare_string
  apply cmp_isNaN_string.call
  unfold cmp_isNaN_string
  simp only [neqStr, decide_true, popO_some, bindH_eq, condV_bool, condV_true, condV_false, yV_bool, gopV_tt, gopV_ff, gopV_tf, gopV_ft, pickV_t, pickV_f, pickV_bool, nilS_ptr, add_eq, sub_eq, mul_eq, lss_eq, leq_eq, gtr_eq, geq_eq, not_eq, minI_eq, maxI_eq, extract_0, extract_1, extract_2, eqlI, neqI, makeFunc_eq, decide_true, decide_false, if_true, if_false, Bool.false_eq_true, Bool.not_true, Bool.not_false, reduceIte, List.getElem?_toArray, List.getElem?_cons_zero, List.getElem?_cons_succ, Option.isSome_none, List.length_map]
  apply cmp_isNaN_string.call
  unfold cmp_isNaN_string
  simp only [neqStr, decide_true, popO_some, bindH_eq, condV_bool, condV_true, condV_false, yV_bool, gopV_tt, gopV_ff, gopV_tf, gopV_ft, pickV_t, pickV_f, pickV_bool, nilS_ptr, add_eq, sub_eq, mul_eq, lss_eq, leq_eq, gtr_eq, geq_eq, not_eq, minI_eq, maxI_eq, extract_0, extract_1, extract_2, eqlI, neqI, makeFunc_eq, decide_true, decide_false, if_true, if_false, Bool.false_eq_true, Bool.not_true, Bool.not_false, reduceIte, List.getElem?_toArray, List.getElem?_cons_zero, List.getElem?_cons_succ, Option.isSome_none, List.length_map]
  by_cases h1 : a < b
  · rw [if_pos h1] at hk
    simp only [lss_tx, h1, popO_some, bindH_eq, condV_bool, condV_true, condV_false, yV_bool, gopV_tt, gopV_ff, gopV_tf, gopV_ft, pickV_t, pickV_f, pickV_bool, nilS_ptr, add_eq, sub_eq, mul_eq, lss_eq, leq_eq, gtr_eq, geq_eq, not_eq, minI_eq, maxI_eq, extract_0, extract_1, extract_2, eqlI, neqI, makeFunc_eq, decide_true, decide_false, if_true, if_false, Bool.false_eq_true, Bool.not_true, Bool.not_false, reduceIte, List.getElem?_toArray, List.getElem?_cons_zero, List.getElem?_cons_succ, Option.isSome_none, List.length_map]
    exact hk
  · rw [if_neg h1] at hk
    by_cases h2 : b < a
    · rw [if_pos h2] at hk
      simp only [lss_tx, gtr_tx, h1, h2, popO_some, bindH_eq, condV_bool, condV_true, condV_false, yV_bool, gopV_tt, gopV_ff, gopV_tf, gopV_ft, pickV_t, pickV_f, pickV_bool, nilS_ptr, add_eq, sub_eq, mul_eq, lss_eq, leq_eq, gtr_eq, geq_eq, not_eq, minI_eq, maxI_eq, extract_0, extract_1, extract_2, eqlI, neqI, makeFunc_eq, decide_true, decide_false, if_true, if_false, Bool.false_eq_true, Bool.not_true, Bool.not_false, reduceIte, List.getElem?_toArray, List.getElem?_cons_zero, List.getElem?_cons_succ, Option.isSome_none, List.length_map]
      exact hk
    · rw [if_neg h2] at hk
      simp only [lss_tx, gtr_tx, h1, h2, popO_some, bindH_eq, condV_bool, condV_true, condV_false, yV_bool, gopV_tt, gopV_ff, gopV_tf, gopV_ft, pickV_t, pickV_f, pickV_bool, nilS_ptr, add_eq, sub_eq, mul_eq, lss_eq, leq_eq, gtr_eq, geq_eq, not_eq, minI_eq, maxI_eq, extract_0, extract_1, extract_2, eqlI, neqI, makeFunc_eq, decide_true, decide_false, if_true, if_false, Bool.false_eq_true, Bool.not_true, Bool.not_false, reduceIte, List.getElem?_toArray, List.getElem?_cons_zero, List.getElem?_cons_succ, Option.isSome_none, List.length_map]
      exact hk
theorem less_ok (p q : Pr) {h : PH} {k : Value → PH → Prop} (hk : ∀ h', Ext h h' → k (.int .i64 (cfP p q)) h') : CallsH PG id_store_Store_Commit_1 #[p.val, q.val] h k := by
  apply store_Store_Commit_1.call
  unfold store_Store_Commit_1
  rw [pairBox, pairBox]
  intro r1 hr1
  try rw [bindH_eq]
  have u1 : Ext h (h.set r1 (.cells #[.string (tx p.k), .string (tx p.v)] T_api_Pair)) := Upd.new hr1
  have a1 : (h.set r1 (.cells #[.string (tx p.k), .string (tx p.v)] T_api_Pair)) r1 = some (.cells #[.string (tx p.k), .string (tx p.v)] T_api_Pair (0, 0)) := set_same
  generalize h.set r1 (.cells #[.string (tx p.k), .string (tx p.v)] T_api_Pair) = h1 at *
  intro r2 hr2
  try rw [bindH_eq]
  have u2 : Ext h1 (h1.set r2 (.cells #[.string (tx q.k), .string (tx q.v)] T_api_Pair)) := Upd.new hr2
  have a2 : (h1.set r2 (.cells #[.string (tx q.k), .string (tx q.v)] T_api_Pair)) r2 = some (.cells #[.string (tx q.k), .string (tx q.v)] T_api_Pair (0, 0)) := set_same
  generalize h1.set r2 (.cells #[.string (tx q.k), .string (tx q.v)] T_api_Pair) = h2 at *
  have b1 := u2.get a1
  have c0 : cellH h2 ⟨r1, 0, none⟩ = some (.string (tx p.k)) := by simp [cellH, b1]
  have c1 : cellH h2 ⟨r2, 0, none⟩ = some (.string (tx q.k)) := by simp [cellH, a2]
  simp only [T_api_Pair.f0, T_string.load, c0, c1, popO_some, bindH_eq, condV_bool, condV_true, condV_false, yV_bool, gopV_tt, gopV_ff, gopV_tf, gopV_ft, pickV_t, pickV_f, pickV_bool, nilS_ptr, add_eq, sub_eq, mul_eq, lss_eq, leq_eq, gtr_eq, geq_eq, not_eq, minI_eq, maxI_eq, extract_0, extract_1, extract_2, eqlI, neqI, makeFunc_eq, decide_true, decide_false, if_true, if_false, Bool.false_eq_true, Bool.not_true, Bool.not_false, reduceIte, List.getElem?_toArray, List.getElem?_cons_zero, List.getElem?_cons_succ, Option.isSome_none, List.length_map]
  exact Compare_ok (hk _ (u1.trans u2))
theorem ltOf_eq (a b : Pr) : ltOf cfP a b = decide (a.k < b.k) := by
  unfold ltOf cfP
  by_cases h1 : a.k < b.k
  · simp [h1]
  · by_cases h2 : b.k < a.k
    · simp [h1, h2]
    · simp [h1, h2]
theorem tx_ntrans {x y z : Tx} (h1 : ¬ x < y) (h2 : ¬ y < z) : ¬ x < z := by
  intro h
  rcases tx_total x y with h3 | rfl | h3
  · exact h1 h3
  · exact h2 h
  · exact h2 (List.lt_trans h3 h)
theorem swoP : SWO (ltOf cfP) where
  irrefl x := by rw [ltOf_eq]; simp [List.lt_irrefl]
  trans x y z h1 h2 := by
    rw [ltOf_eq] at *
    simp only [decide_eq_true_eq] at *
    exact List.lt_trans h1 h2
  ntrans x y z h1 h2 := by
    rw [ltOf_eq] at *
    simp only [decide_eq_false_iff_not] at *
    exact tx_ntrans h1 h2
instance : Inhabited Pr := ⟨⟨[], []⟩⟩
theorem Sort_ok {h : PH} {v : Value} {F : List Nat} {l : List Pr} (H : OwnR h T_api_Pair 2 v (l.map Pr.cells) F) (hl : l.length ≤ 1000000) {k : Value → PH → Prop}
    (hk : ∀ (l' : List Pr) h', l'.Perm l → l'.Pairwise (fun a b => ¬ b.k < a.k) → OwnR h' T_api_Pair 2 v (l'.map Pr.cells) F → Upd F h h' → k (.tuple #[]) h') :
    CallsH PG id_slices_SortFunc_sl_api_Pair_api_Pair #[v, .func (.func id_store_Store_Commit_1) #[] #[]] h k := by
  refine sortFunc_ok (P := PG) sortLay (f := id_slices_SortFunc_sl_api_Pair_api_Pair) rfl (k := 2) (by decide) Tryd.isAgg51 Tryd.sizeOf51 Pr.cells (fun _ => rfl) (fun x v hv => ?_) cfP swoP (g := id_store_Store_Commit_1) (by kernel_rfl)
    (fun x y => less_ok x y fun h' _ => rfl) (by kernel_rfl) H (by omega) (fun l' h' hp hs hO u => hk l' h' hp ?_ hO u)
  · simp only [Pr.cells, List.mem_cons, List.not_mem_nil, or_false] at hv
    rcases hv with rfl | rfl <;> rfl
  · refine hs.imp fun {a b} hab => ?_
    rw [ltOf_eq] at hab
    simpa using hab
end Go.Proofs.YtllopddcpkhfjaaDoor
