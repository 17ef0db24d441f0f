/- The texts of this claim, put together. -/
import Derived.Test.YtlkjippiaghbmaaRecGRC4
/- record: a state that may be; a step. -/
set_option linter.unusedSimpArgs false
set_option linter.unusedVariables false
namespace Go.Proofs.Ytlkjippiaghbmaa
open Go
set_option maxRecDepth 20000
theorem Equal_ok {h : PH} {x y : Value} {xs ys : List It} (hx : ISl h x xs) (hy : ISl h y ys) (hl : xs.length ≤ 1000000) {k : Value → PH → Prop} (hk : k (.bool (decide (xs = ys))) h) : CallsH PG id_slices_Equal_sl_api_Item_api_Item #[x, y] h k := by
  apply slices_Equal_sl_api_Item_api_Item.call
  unfold slices_Equal_sl_api_Item_api_Item
  have lx := It.len hx
  have ly := It.len hy
  by_cases hle : xs.length = ys.length
  · have q : ((xs.length : Int) != (ys.length : Int)) = false := by simp [hle]
    simp only [lx, ly, neqI, q, popO_some, bindH_eq, condV_bool, condV_true, condV_false, yV_bool, gopV_tt, gopV_ff, gopV_tf, gopV_ft, pickV_t, pickV_f, pickV_bool, nilS_ptr, add_eq, sub_eq, mul_eq, lss_eq, leq_eq, gtr_eq, geq_eq, not_eq, minI_eq, maxI_eq, extract_0, extract_1, extract_2, eqlI, neqI, makeFunc_eq, decide_true, decide_false, if_true, if_false, Bool.false_eq_true, Bool.not_true, Bool.not_false, reduceIte, List.getElem?_toArray, List.getElem?_cons_zero, List.getElem?_cons_succ, Option.isSome_none, List.length_map]
    refine ⟨fun vs h' => ∃ i : Nat, i ≤ xs.length ∧ vs = [x, y, .int .i64 (xs.length : Int), .int .i64 (i : Int)] ∧ h' = h ∧ xs.take i = ys.take i, upTo xs.length 3, ⟨0, by omega, rfl, rfl, by simp⟩, ?_⟩
    rintro ρ h' ⟨i, hi, hvs, rfl, ht⟩
    simp only [List.map_cons, List.map_nil, List.cons.injEq, and_true] at hvs
    obtain ⟨v0, v1, v12, v13⟩ := hvs
    simp only [v0, v1, v12, v13, List.map_cons, List.map_nil]
    unfold slices_Equal_sl_api_Item_api_Item_b6
    by_cases hlt : i < xs.length
    · have g1 : ((i : Int) < (xs.length : Int)) = True := eq_true (by omega)
      have gi : IntKind.i64.wrap ((i : Int) + 1) = ((i + 1 : Nat) : Int) := by rw [i64_wrap (by omega) (by omega)]; omega
      have e1 : xs[i]? = some xs[i] := List.getElem?_eq_getElem hlt
      have hlt2 : i < ys.length := by omega
      have e2 : ys[i]? = some ys[i] := List.getElem?_eq_getElem hlt2
      obtain ⟨a1, p1, q1⟩ := hx.wItem e1
      obtain ⟨a2, p2, q2⟩ := hy.wItem e2
      have t1 : xs.take (i + 1) = xs.take i ++ [xs[i]] := List.take_succ_eq_append_getElem hlt
      have t2 : ys.take (i + 1) = ys.take i ++ [ys[i]] := List.take_succ_eq_append_getElem hlt2
      have hn := It.neq (h := h') (x := .tmp 19) (y := .tmp 23) xs[i] ys[i]
      unfold It.val at hn
      simp only [g1, p1, q1, p2, q2, hn, popO_some, bindH_eq, condV_bool, condV_true, condV_false, yV_bool, gopV_tt, gopV_ff, gopV_tf, gopV_ft, pickV_t, pickV_f, pickV_bool, nilS_ptr, add_eq, sub_eq, mul_eq, lss_eq, leq_eq, gtr_eq, geq_eq, not_eq, minI_eq, maxI_eq, extract_0, extract_1, extract_2, eqlI, neqI, makeFunc_eq, decide_true, decide_false, if_true, if_false, Bool.false_eq_true, Bool.not_true, Bool.not_false, reduceIte, List.getElem?_toArray, List.getElem?_cons_zero, List.getElem?_cons_succ, Option.isSome_none, List.length_map]
      by_cases he : xs[i] = ys[i]
      · simp only [he, decide_true, gi, popO_some, bindH_eq, condV_bool, condV_true, condV_false, yV_bool, gopV_tt, gopV_ff, gopV_tf, gopV_ft, pickV_t, pickV_f, pickV_bool, nilS_ptr, add_eq, sub_eq, mul_eq, lss_eq, leq_eq, gtr_eq, geq_eq, not_eq, minI_eq, maxI_eq, extract_0, extract_1, extract_2, eqlI, neqI, makeFunc_eq, decide_true, decide_false, if_true, if_false, Bool.false_eq_true, Bool.not_true, Bool.not_false, reduceIte, List.getElem?_toArray, List.getElem?_cons_zero, List.getElem?_cons_succ, Option.isSome_none, List.length_map, yV_undef, gopV_none, Nat.zero_add, Nat.reduceAdd, beq_self_eq_true, bne_self_eq_false, and_self, Bool.true_and, Bool.false_and, Bool.and_true, Bool.and_false, Bool.true_or, Bool.false_or, Bool.or_true, Bool.or_false]
        refine ⟨⟨i + 1, by omega, rfl, (by trivial), by rw [t1, t2, ht, he]⟩, ?_⟩
        simp only [upTo, List.getElem?_cons_succ, List.getElem?_cons_zero]
        omega
      · have hne : ¬ xs = ys := fun e => he (by subst e; rfl)
        simp only [he, decide_false, popO_some, bindH_eq, condV_bool, condV_true, condV_false, yV_bool, gopV_tt, gopV_ff, gopV_tf, gopV_ft, pickV_t, pickV_f, pickV_bool, nilS_ptr, add_eq, sub_eq, mul_eq, lss_eq, leq_eq, gtr_eq, geq_eq, not_eq, minI_eq, maxI_eq, extract_0, extract_1, extract_2, eqlI, neqI, makeFunc_eq, decide_true, decide_false, if_true, if_false, Bool.false_eq_true, Bool.not_true, Bool.not_false, reduceIte, List.getElem?_toArray, List.getElem?_cons_zero, List.getElem?_cons_succ, Option.isSome_none, List.length_map, yV_undef, gopV_none, Nat.zero_add, Nat.reduceAdd, beq_self_eq_true, bne_self_eq_false, and_self, Bool.true_and, Bool.false_and, Bool.and_true, Bool.and_false, Bool.true_or, Bool.false_or, Bool.or_true, Bool.or_false]
        simpa [hne] using hk
    · have g1 : ((i : Int) < (xs.length : Int)) = False := eq_false (by omega)
      rw [List.take_of_length_le (by omega), List.take_of_length_le (by omega)] at ht
      simp only [g1, popO_some, bindH_eq, condV_bool, condV_true, condV_false, yV_bool, gopV_tt, gopV_ff, gopV_tf, gopV_ft, pickV_t, pickV_f, pickV_bool, nilS_ptr, add_eq, sub_eq, mul_eq, lss_eq, leq_eq, gtr_eq, geq_eq, not_eq, minI_eq, maxI_eq, extract_0, extract_1, extract_2, eqlI, neqI, makeFunc_eq, decide_true, decide_false, if_true, if_false, Bool.false_eq_true, Bool.not_true, Bool.not_false, reduceIte, List.getElem?_toArray, List.getElem?_cons_zero, List.getElem?_cons_succ, Option.isSome_none, List.length_map]
      simpa [ht] using hk
  · have q : ((xs.length : Int) != (ys.length : Int)) = true := by rw [bne_iff_ne]; omega
    have hne : ¬ xs = ys := fun e => hle (by rw [e])
    simp only [lx, ly, neqI, q, popO_some, bindH_eq, condV_bool, condV_true, condV_false, yV_bool, gopV_tt, gopV_ff, gopV_tf, gopV_ft, pickV_t, pickV_f, pickV_bool, nilS_ptr, add_eq, sub_eq, mul_eq, lss_eq, leq_eq, gtr_eq, geq_eq, not_eq, minI_eq, maxI_eq, extract_0, extract_1, extract_2, eqlI, neqI, makeFunc_eq, decide_true, decide_false, if_true, if_false, Bool.false_eq_true, Bool.not_true, Bool.not_false, reduceIte, List.getElem?_toArray, List.getElem?_cons_zero, List.getElem?_cons_succ, Option.isSome_none, List.length_map]
    simpa [hne] using hk
theorem It.b0 : SemA PG (Instr.buildSlice T_sl_api_Item 0 #[]) = some (.cells #[] T_api_Item, fun r => pure (.slice (some ⟨r, 0, none⟩) 0 0)) := by kernel_rfl
theorem CloneI_ok {h : PH} {v : Value} {l : List It} (S : ISl h v l) (hl : l.length ≤ 1000000) {k : Value → PH → Prop} (hk : ∀ v' h', ISl h' v' l → NewV h v' → Ext h h' → k v' h') : CallsH PG id_slices_Clone_sl_api_Item_api_Item #[v] h k := by
  apply slices_Clone_sl_api_Item_api_Item.call
  unfold slices_Clone_sl_api_Item_api_Item
  have hS := S
  obtain ⟨va, c, hv, hc1, hc2, hc3, -⟩ := S.here
  rw [List.length_map] at hv
  subst hv
  cases va with
  | none =>
    have hnil : l.map It.cells = [] := by
      by_cases h0 : l.map It.cells = []
      · exact h0
      · obtain ⟨b, o, cs, e, fr, e1, _⟩ := hc3 h0
        cases e1
    have hl0 : l = [] := List.map_eq_nil_iff.1 hnil
    subst hl0
    simp only [eqlNil T_sl_api_Item.und, Option.isNone_none, popO_some, bindH_eq, condV_bool, condV_true, condV_false, yV_bool, gopV_tt, gopV_ff, gopV_tf, gopV_ft, pickV_t, pickV_f, pickV_bool, nilS_ptr, add_eq, sub_eq, mul_eq, lss_eq, leq_eq, gtr_eq, geq_eq, not_eq, minI_eq, maxI_eq, extract_0, extract_1, extract_2, eqlI, neqI, makeFunc_eq, decide_true, decide_false, if_true, if_false, Bool.false_eq_true, Bool.not_true, Bool.not_false, reduceIte, List.getElem?_toArray, List.getElem?_cons_zero, List.getElem?_cons_succ, Option.isSome_none, List.length_map]
    exact hk _ _ nilI NewV.nil Upd.refl
  | some va =>
    simp only [eqlNil T_sl_api_Item.und, Option.isNone_some, It.b0, popO_some, bindH_eq, condV_bool, condV_true, condV_false, yV_bool, gopV_tt, gopV_ff, gopV_tf, gopV_ft, pickV_t, pickV_f, pickV_bool, nilS_ptr, add_eq, sub_eq, mul_eq, lss_eq, leq_eq, gtr_eq, geq_eq, not_eq, minI_eq, maxI_eq, extract_0, extract_1, extract_2, eqlI, neqI, makeFunc_eq, decide_true, decide_false, if_true, if_false, Bool.false_eq_true, Bool.not_true, Bool.not_false, reduceIte, List.getElem?_toArray, List.getElem?_cons_zero, List.getElem?_cons_succ, Option.isSome_none, List.length_map]
    intro r hr
    refine popO_pure ?_
    try rw [bindH_eq]
    have u1 : Ext h (h.set r (.cells #[] T_api_Item)) := Upd.new hr
    have O1 : OwnR (h.set r (.cells #[] T_api_Item)) T_api_Item 5 (.slice (some ⟨r, 0, none⟩) 0 0) (([] : List It).map It.cells) [r] := OwnR.lit (n := 0) (It.rows []) set_same (by simp) (by decide) rfl
    generalize h.set r (.cells #[] T_api_Item) = h1 at *
    refine append_own T_sl_api_Item.und T_sl_api_Item.und T_api_Item.info T_api_Item.size T_api_Item.bytes T_api_Item.zero rfl (by decide) O1 (hS.ext u1) (It.isC l) (by simp; omega) ?_
    intro v2 h2 F2 O2 u2 k2 _
    rw [List.map_nil, List.nil_append] at O2
    have f2 : Fresh h F2 := fun b hb => by
      rcases k2 b hb with h1 | h1
      · simp only [List.mem_singleton] at h1
        subst h1; exact hr
      · exact u1.none h1
    exact hk _ _ O2.slR (O2.newV f2) (u1.fresh u2 (Fresh.one hr))
/-! ### a state -/
def chk (d : Dm) (room : Int) : Int :=
  if ofE room d.its = 1 ∨ ¬ (okPl d.p0 ∧ okPl d.p1) then 1 else if ofE room d.its ≠ 0 then ofE room d.its else if ofL d.its ≠ d.its then 15 else 0
theorem badPl_ok {h : PH} (q : Pl) {k : Value → PH → Prop} (hk : ∀ h', Ext h h' → k (.bool (!decide (okPl q))) h') : CallsH PG id_record_Check_1 #[.agg q.cells.toArray] h k := by
  apply record_Check_1.call
  unfold record_Check_1
  intro r hr
  try rw [bindH_eq]
  have u1 : Ext h (h.set r (.cells (Value.cells (.agg q.cells.toArray)) T_api_Place)) := Upd.new hr
  have B1 : Bx (h.set r (.cells (Value.cells (.agg q.cells.toArray)) T_api_Place)) r q.cells := Bx.new
  generalize h.set r (.cells (Value.cells (.agg q.cells.toArray)) T_api_Place) = h1 at *
  have hk := hk _ u1
  simp only [T_api_Place.f1, T_int.load, B1.cell, Pl.cells, popO_some, bindH_eq, condV_bool, condV_true, condV_false, yV_bool, gopV_tt, gopV_ff, gopV_tf, gopV_ft, pickV_t, pickV_f, pickV_bool, nilS_ptr, add_eq, sub_eq, mul_eq, lss_eq, leq_eq, gtr_eq, geq_eq, not_eq, minI_eq, maxI_eq, extract_0, extract_1, extract_2, eqlI, neqI, makeFunc_eq, decide_true, decide_false, if_true, if_false, Bool.false_eq_true, Bool.not_true, Bool.not_false, reduceIte, List.getElem?_toArray, List.getElem?_cons_zero, List.getElem?_cons_succ, Option.isSome_none, List.length_map, yV_undef, gopV_none, Nat.zero_add, Nat.reduceAdd, beq_self_eq_true, bne_self_eq_false, and_self, Bool.true_and, Bool.false_and, Bool.and_true, Bool.and_false, Bool.true_or, Bool.false_or, Bool.or_true, Bool.or_false]
  by_cases h1' : q.i < 0
  · have : ¬ okPl q := fun h => by have := h.1; omega
    simp only [this, decide_false, Bool.not_false] at hk
    simp only [h1', popO_some, bindH_eq, condV_bool, condV_true, condV_false, yV_bool, gopV_tt, gopV_ff, gopV_tf, gopV_ft, pickV_t, pickV_f, pickV_bool, nilS_ptr, add_eq, sub_eq, mul_eq, lss_eq, leq_eq, gtr_eq, geq_eq, not_eq, minI_eq, maxI_eq, extract_0, extract_1, extract_2, eqlI, neqI, makeFunc_eq, decide_true, decide_false, if_true, if_false, Bool.false_eq_true, Bool.not_true, Bool.not_false, reduceIte, List.getElem?_toArray, List.getElem?_cons_zero, List.getElem?_cons_succ, Option.isSome_none, List.length_map, yV_undef, gopV_none, Nat.zero_add, Nat.reduceAdd, beq_self_eq_true, bne_self_eq_false, and_self, Bool.true_and, Bool.false_and, Bool.and_true, Bool.and_false, Bool.true_or, Bool.false_or, Bool.or_true, Bool.or_false]
    exact hk
  · by_cases h2' : 65535 < q.i
    · have : ¬ okPl q := fun h => by have := h.2; omega
      simp only [this, decide_false, Bool.not_false] at hk
      simp only [h1', h2', T_int.load, B1.cell, Pl.cells, popO_some, bindH_eq, condV_bool, condV_true, condV_false, yV_bool, gopV_tt, gopV_ff, gopV_tf, gopV_ft, pickV_t, pickV_f, pickV_bool, nilS_ptr, add_eq, sub_eq, mul_eq, lss_eq, leq_eq, gtr_eq, geq_eq, not_eq, minI_eq, maxI_eq, extract_0, extract_1, extract_2, eqlI, neqI, makeFunc_eq, decide_true, decide_false, if_true, if_false, Bool.false_eq_true, Bool.not_true, Bool.not_false, reduceIte, List.getElem?_toArray, List.getElem?_cons_zero, List.getElem?_cons_succ, Option.isSome_none, List.length_map, yV_undef, gopV_none, Nat.zero_add, Nat.reduceAdd, beq_self_eq_true, bne_self_eq_false, and_self, Bool.true_and, Bool.false_and, Bool.and_true, Bool.and_false, Bool.true_or, Bool.false_or, Bool.or_true, Bool.or_false]
      exact hk
    · have : okPl q := ⟨by omega, by omega⟩
      simp only [this, decide_true, Bool.not_true] at hk
      simp only [h1', h2', T_int.load, B1.cell, Pl.cells, popO_some, bindH_eq, condV_bool, condV_true, condV_false, yV_bool, gopV_tt, gopV_ff, gopV_tf, gopV_ft, pickV_t, pickV_f, pickV_bool, nilS_ptr, add_eq, sub_eq, mul_eq, lss_eq, leq_eq, gtr_eq, geq_eq, not_eq, minI_eq, maxI_eq, extract_0, extract_1, extract_2, eqlI, neqI, makeFunc_eq, decide_true, decide_false, if_true, if_false, Bool.false_eq_true, Bool.not_true, Bool.not_false, reduceIte, List.getElem?_toArray, List.getElem?_cons_zero, List.getElem?_cons_succ, Option.isSome_none, List.length_map, yV_undef, gopV_none, Nat.zero_add, Nat.reduceAdd, beq_self_eq_true, bne_self_eq_false, and_self, Bool.true_and, Bool.false_and, Bool.and_true, Bool.and_false, Bool.true_or, Bool.false_or, Bool.or_true, Bool.or_false]
      exact hk
theorem slice2 {r o : Nat} : SemP PG (Instr.sliceAt T_2_api_Place (.pointer (some ⟨r, o, none⟩)) none none none) = some (.slice (some ⟨r, o, none⟩) 2 2) := by kernel_rfl
theorem Pl.rows (l : List Pl) : Rows 2 (l.map Pl.cells) := fun r hr => by obtain ⟨m, _, rfl⟩ := List.mem_map.1 hr; rfl
theorem Places_bad {h : PH} {v : Value} {l : List Pl} (S : SlR h 2 v (l.map Pl.cells)) (hl : l.length ≤ 100) {k : Value → PH → Prop} (hk : ∀ h', Ext h h' → k (.bool (l.any fun q => !decide (okPl q))) h') : CallsH PG id_slices_ContainsFunc_sl_api_Place_api_Place #[v, .func (.func id_record_Check_1) #[] #[]] h k := by
  apply slices_ContainsFunc_sl_api_Place_api_Place.call
  unfold slices_ContainsFunc_sl_api_Place_api_Place
  apply slices_IndexFunc_sl_api_Place_api_Place.call
  unfold slices_IndexFunc_sl_api_Place_api_Place
  have lv := S.len (t' := T_int) T_sl_api_Place.und
  rw [List.length_map] at lv
  simp only [lv, popO_some, bindH_eq, condV_bool, condV_true, condV_false, yV_bool, gopV_tt, gopV_ff, gopV_tf, gopV_ft, pickV_t, pickV_f, pickV_bool, nilS_ptr, add_eq, sub_eq, mul_eq, lss_eq, leq_eq, gtr_eq, geq_eq, not_eq, minI_eq, maxI_eq, extract_0, extract_1, extract_2, eqlI, neqI, makeFunc_eq, decide_true, decide_false, if_true, if_false, Bool.false_eq_true, Bool.not_true, Bool.not_false, reduceIte, List.getElem?_toArray, List.getElem?_cons_zero, List.getElem?_cons_succ, Option.isSome_none, List.length_map]
  refine ⟨fun vs h' => ∃ i : Nat, i ≤ l.length ∧ vs = [v, .func (.func id_record_Check_1) #[] #[], .int .i64 (l.length : Int), .int .i64 (i : Int)] ∧ Ext h h' ∧ ∀ q ∈ l.take i, okPl q, upTo l.length 3, ⟨0, by omega, rfl, Upd.refl, by simp⟩, ?_⟩
  rintro ρ h' ⟨i, hi, hvs, u, hq⟩
  simp only [List.map_cons, List.map_nil, List.cons.injEq, and_true] at hvs
  obtain ⟨v0, v1, v7, v8⟩ := hvs
  simp only [v0, v1, v7, v8, List.map_cons, List.map_nil]
  unfold slices_IndexFunc_sl_api_Place_api_Place_b3
  by_cases hlt : i < l.length
  · have g1 : ((i : Int) < (l.length : Int)) = True := eq_true (by omega)
    have gi : IntKind.i64.wrap ((i : Int) + 1) = ((i + 1 : Nat) : Int) := by rw [i64_wrap (by omega) (by omega)]; omega
    have g0 : ((0 : Int) ≤ (i : Int)) = True := eq_true (by omega)
    have e1 : l[i]? = some l[i] := List.getElem?_eq_getElem hlt
    have hmem : l[i] ∈ l := List.getElem_mem hlt
    have t1 : l.take (i + 1) = l.take i ++ [l[i]] := List.take_succ_eq_append_getElem hlt
    obtain ⟨a, p1, q1⟩ := (S.ext u).loadAgg (k := .i64) (j := (i : Int)) (r := (l[i]).cells) T_sl_api_Place.und T_api_Place.info T_api_Place.size T_api_Place.und rfl (by omega) (by rw [Int.toNat_natCast, List.getElem?_map, e1]; rfl)
    generalize l[i] = q at *
    simp only [g1, p1, q1, popO_some, bindH_eq, condV_bool, condV_true, condV_false, yV_bool, gopV_tt, gopV_ff, gopV_tf, gopV_ft, pickV_t, pickV_f, pickV_bool, nilS_ptr, add_eq, sub_eq, mul_eq, lss_eq, leq_eq, gtr_eq, geq_eq, not_eq, minI_eq, maxI_eq, extract_0, extract_1, extract_2, eqlI, neqI, makeFunc_eq, decide_true, decide_false, if_true, if_false, Bool.false_eq_true, Bool.not_true, Bool.not_false, reduceIte, List.getElem?_toArray, List.getElem?_cons_zero, List.getElem?_cons_succ, Option.isSome_none, List.length_map]
    show CallsH PG id_record_Check_1 #[.agg q.cells.toArray] h' _
    refine badPl_ok q fun h2 u2 => ?_
    by_cases hok : okPl q
    · simp only [hok, decide_true, gi, popO_some, bindH_eq, condV_bool, condV_true, condV_false, yV_bool, gopV_tt, gopV_ff, gopV_tf, gopV_ft, pickV_t, pickV_f, pickV_bool, nilS_ptr, add_eq, sub_eq, mul_eq, lss_eq, leq_eq, gtr_eq, geq_eq, not_eq, minI_eq, maxI_eq, extract_0, extract_1, extract_2, eqlI, neqI, makeFunc_eq, decide_true, decide_false, if_true, if_false, Bool.false_eq_true, Bool.not_true, Bool.not_false, reduceIte, List.getElem?_toArray, List.getElem?_cons_zero, List.getElem?_cons_succ, Option.isSome_none, List.length_map, yV_undef, gopV_none, Nat.zero_add, Nat.reduceAdd, beq_self_eq_true, bne_self_eq_false, and_self, Bool.true_and, Bool.false_and, Bool.and_true, Bool.and_false, Bool.true_or, Bool.false_or, Bool.or_true, Bool.or_false]
      refine ⟨⟨i + 1, by omega, rfl, u.trans u2, fun y hy => ?_⟩, ?_⟩
      · rw [t1, List.mem_append, List.mem_singleton] at hy
        rcases hy with hy | rfl
        · exact hq y hy
        · exact hok
      · simp only [upTo, List.getElem?_cons_succ, List.getElem?_cons_zero]
        omega
    · have : (l.any fun q => !decide (okPl q)) = true := List.any_eq_true.2 ⟨q, hmem, by simp [hok]⟩
      rw [this] at hk
      simp only [hok, decide_false, g0, popO_some, bindH_eq, condV_bool, condV_true, condV_false, yV_bool, gopV_tt, gopV_ff, gopV_tf, gopV_ft, pickV_t, pickV_f, pickV_bool, nilS_ptr, add_eq, sub_eq, mul_eq, lss_eq, leq_eq, gtr_eq, geq_eq, not_eq, minI_eq, maxI_eq, extract_0, extract_1, extract_2, eqlI, neqI, makeFunc_eq, decide_true, decide_false, if_true, if_false, Bool.false_eq_true, Bool.not_true, Bool.not_false, reduceIte, List.getElem?_toArray, List.getElem?_cons_zero, List.getElem?_cons_succ, Option.isSome_none, List.length_map, yV_undef, gopV_none, Nat.zero_add, Nat.reduceAdd, beq_self_eq_true, bne_self_eq_false, and_self, Bool.true_and, Bool.false_and, Bool.and_true, Bool.and_false, Bool.true_or, Bool.false_or, Bool.or_true, Bool.or_false]
      exact hk _ (u.trans u2)
  · have g1 : ((i : Int) < (l.length : Int)) = False := eq_false (by omega)
    rw [List.take_of_length_le (by omega)] at hq
    have : (l.any fun q => !decide (okPl q)) = false := by
      rw [List.any_eq_false]
      intro q hm
      simp [hq q hm]
    rw [this] at hk
    simp only [g1, show ((0 : Int) ≤ -1) = False from eq_false (by decide), popO_some, bindH_eq, condV_bool, condV_true, condV_false, yV_bool, gopV_tt, gopV_ff, gopV_tf, gopV_ft, pickV_t, pickV_f, pickV_bool, nilS_ptr, add_eq, sub_eq, mul_eq, lss_eq, leq_eq, gtr_eq, geq_eq, not_eq, minI_eq, maxI_eq, extract_0, extract_1, extract_2, eqlI, neqI, makeFunc_eq, decide_true, decide_false, if_true, if_false, Bool.false_eq_true, Bool.not_true, Bool.not_false, reduceIte, List.getElem?_toArray, List.getElem?_cons_zero, List.getElem?_cons_succ, Option.isSome_none, List.length_map]
    exact hk _ u
theorem check_ok {h : PH} {d : Dm} {v : Value} {room : Int} (V : ISl h v d.its) (hl : d.its.length ≤ 1000) {k : Value → PH → Prop} (hk : ∀ h', Ext h h' → k (.int .i64 (chk d room)) h') : CallsH PG id_record_Check #[d.v v, .int .i64 room] h k := by
  apply record_Check.call
  unfold record_Check
  intro r hr
  try rw [bindH_eq]
  have u1 : Ext h (h.set r (.cells (Value.cells (d.v v)) T_api_Daemon)) := Upd.new hr
  have B1 : Bx (h.set r (.cells (Value.cells (d.v v)) T_api_Daemon)) r (d.cells v) := Bx.new
  generalize h.set r (.cells (Value.cells (d.v v)) T_api_Daemon) = h1 at *
  simp only [T_api_Daemon.f1, T_api_Daemon.f0, T_sl_api_Item.load, B1.cell, Dm.cells, slice2, popO_some, bindH_eq, condV_bool, condV_true, condV_false, yV_bool, gopV_tt, gopV_ff, gopV_tf, gopV_ft, pickV_t, pickV_f, pickV_bool, nilS_ptr, add_eq, sub_eq, mul_eq, lss_eq, leq_eq, gtr_eq, geq_eq, not_eq, minI_eq, maxI_eq, extract_0, extract_1, extract_2, eqlI, neqI, makeFunc_eq, decide_true, decide_false, if_true, if_false, Bool.false_eq_true, Bool.not_true, Bool.not_false, reduceIte, List.getElem?_toArray, List.getElem?_cons_zero, List.getElem?_cons_succ, Option.isSome_none, List.length_map, yV_undef, gopV_none, Nat.zero_add, Nat.reduceAdd, beq_self_eq_true, bne_self_eq_false, and_self, Bool.true_and, Bool.false_and, Bool.and_true, Bool.and_false, Bool.true_or, Bool.false_or, Bool.or_true, Bool.or_false]
  have places : ∀ {h2 : PH}, Ext h1 h2 → SlR h2 2 (.slice (some ⟨r, 0, none⟩) 2 2) ([d.p0, d.p1].map Pl.cells) := by
    intro h2 u2
    obtain ⟨e, hb⟩ := B1.ext u2
    exact ⟨Pl.rows _, _, 2, rfl, by simp, by decide, fun _ => ⟨r, 0, _, e, (0, 0), rfl, hb, by simp [Dm.cells], by simp [Dm.cells, Pl.cells]⟩, trivial⟩
  have hany : ([d.p0, d.p1].any fun q => !decide (okPl q)) = !decide (okPl d.p0 ∧ okPl d.p1) := by
    by_cases a : okPl d.p0 <;> by_cases b : okPl d.p1 <;> simp [a, b]
  refine Of_ok (V.ext u1) hl (fun h2 u2 hne => ?_) (fun a h2 F h0 H2 f2 u2 => ?_)
  · simp only [popO_some, bindH_eq, condV_bool, condV_true, condV_false, yV_bool, gopV_tt, gopV_ff, gopV_tf, gopV_ft, pickV_t, pickV_f, pickV_bool, nilS_ptr, add_eq, sub_eq, mul_eq, lss_eq, leq_eq, gtr_eq, geq_eq, not_eq, minI_eq, maxI_eq, extract_0, extract_1, extract_2, eqlI, neqI, makeFunc_eq, decide_true, decide_false, if_true, if_false, Bool.false_eq_true, Bool.not_true, Bool.not_false, reduceIte, List.getElem?_toArray, List.getElem?_cons_zero, List.getElem?_cons_succ, Option.isSome_none, List.length_map]
    refine Places_bad (places u2) (by simp) fun h3 u3 => ?_
    rw [hany]
    have u := (u1.trans u2).trans u3
    have hk := hk _ u
    unfold chk at hk
    by_cases e1 : ofE room d.its = 1
    · rw [if_pos (.inl e1)] at hk
      simp only [e1, eqlI, popO_some, bindH_eq, condV_bool, condV_true, condV_false, yV_bool, gopV_tt, gopV_ff, gopV_tf, gopV_ft, pickV_t, pickV_f, pickV_bool, nilS_ptr, add_eq, sub_eq, mul_eq, lss_eq, leq_eq, gtr_eq, geq_eq, not_eq, minI_eq, maxI_eq, extract_0, extract_1, extract_2, eqlI, neqI, makeFunc_eq, decide_true, decide_false, if_true, if_false, Bool.false_eq_true, Bool.not_true, Bool.not_false, reduceIte, List.getElem?_toArray, List.getElem?_cons_zero, List.getElem?_cons_succ, Option.isSome_none, List.length_map, yV_undef, gopV_none, Nat.zero_add, Nat.reduceAdd, beq_self_eq_true, bne_self_eq_false, and_self, Bool.true_and, Bool.false_and, Bool.and_true, Bool.and_false, Bool.true_or, Bool.false_or, Bool.or_true, Bool.or_false]
      exact hk
    · have q : (ofE room d.its == 1) = false := by simp [e1]
      by_cases hp : okPl d.p0 ∧ okPl d.p1
      · rw [if_neg (by simp [e1, hp]), if_pos hne] at hk
        have q0 : (ofE room d.its != 0) = true := by simp [hne]
        simp only [q, q0, hp, eqlI, neqI, decide_true, popO_some, bindH_eq, condV_bool, condV_true, condV_false, yV_bool, gopV_tt, gopV_ff, gopV_tf, gopV_ft, pickV_t, pickV_f, pickV_bool, nilS_ptr, add_eq, sub_eq, mul_eq, lss_eq, leq_eq, gtr_eq, geq_eq, not_eq, minI_eq, maxI_eq, extract_0, extract_1, extract_2, eqlI, neqI, makeFunc_eq, decide_true, decide_false, if_true, if_false, Bool.false_eq_true, Bool.not_true, Bool.not_false, reduceIte, List.getElem?_toArray, List.getElem?_cons_zero, List.getElem?_cons_succ, Option.isSome_none, List.length_map, yV_undef, gopV_none, Nat.zero_add, Nat.reduceAdd, beq_self_eq_true, bne_self_eq_false, and_self, Bool.true_and, Bool.false_and, Bool.and_true, Bool.and_false, Bool.true_or, Bool.false_or, Bool.or_true, Bool.or_false]
        exact hk
      · rw [if_pos (.inr hp)] at hk
        simp only [q, hp, eqlI, decide_false, popO_some, bindH_eq, condV_bool, condV_true, condV_false, yV_bool, gopV_tt, gopV_ff, gopV_tf, gopV_ft, pickV_t, pickV_f, pickV_bool, nilS_ptr, add_eq, sub_eq, mul_eq, lss_eq, leq_eq, gtr_eq, geq_eq, not_eq, minI_eq, maxI_eq, extract_0, extract_1, extract_2, eqlI, neqI, makeFunc_eq, decide_true, decide_false, if_true, if_false, Bool.false_eq_true, Bool.not_true, Bool.not_false, reduceIte, List.getElem?_toArray, List.getElem?_cons_zero, List.getElem?_cons_succ, Option.isSome_none, List.length_map, yV_undef, gopV_none, Nat.zero_add, Nat.reduceAdd, beq_self_eq_true, bne_self_eq_false, and_self, Bool.true_and, Bool.false_and, Bool.and_true, Bool.and_false, Bool.true_or, Bool.false_or, Bool.or_true, Bool.or_false]
        exact hk
  · simp only [popO_some, bindH_eq, condV_bool, condV_true, condV_false, yV_bool, gopV_tt, gopV_ff, gopV_tf, gopV_ft, pickV_t, pickV_f, pickV_bool, nilS_ptr, add_eq, sub_eq, mul_eq, lss_eq, leq_eq, gtr_eq, geq_eq, not_eq, minI_eq, maxI_eq, extract_0, extract_1, extract_2, eqlI, neqI, makeFunc_eq, decide_true, decide_false, if_true, if_false, Bool.false_eq_true, Bool.not_true, Bool.not_false, reduceIte, List.getElem?_toArray, List.getElem?_cons_zero, List.getElem?_cons_succ, Option.isSome_none, List.length_map]
    refine Places_bad (places u2) (by simp) fun h3 u3 => ?_
    rw [hany]
    have u := (u1.trans u2).trans u3
    have B3 := (B1.ext u2).ext u3
    by_cases hp : okPl d.p0 ∧ okPl d.p1
    · simp only [hp, eqlI, neqI, decide_true, show ((0 : Int) == 1) = false from rfl, T_api_Daemon.f1, T_sl_api_Item.load, B3.cell, Dm.cells, popO_some, bindH_eq, condV_bool, condV_true, condV_false, yV_bool, gopV_tt, gopV_ff, gopV_tf, gopV_ft, pickV_t, pickV_f, pickV_bool, nilS_ptr, add_eq, sub_eq, mul_eq, lss_eq, leq_eq, gtr_eq, geq_eq, not_eq, minI_eq, maxI_eq, extract_0, extract_1, extract_2, eqlI, neqI, makeFunc_eq, decide_true, decide_false, if_true, if_false, Bool.false_eq_true, Bool.not_true, Bool.not_false, reduceIte, List.getElem?_toArray, List.getElem?_cons_zero, List.getElem?_cons_succ, Option.isSome_none, List.length_map, yV_undef, gopV_none, Nat.zero_add, Nat.reduceAdd, beq_self_eq_true, bne_self_eq_false, and_self, Bool.true_and, Bool.false_and, Bool.and_true, Bool.and_false, Bool.true_or, Bool.false_or, Bool.or_true, Bool.or_false]
      refine Items_ok (H2.ext u3) (by have := ofL_len d.its; omega) fun v2 h4 G O4 f4 u4 => ?_
      have B4 := B3.ext u4
      refine ⟨by simp only [T_sl_api_Item.load, B4.cell, Dm.cells, popO_some, bindH_eq, condV_bool, condV_true, condV_false, yV_bool, gopV_tt, gopV_ff, gopV_tf, gopV_ft, pickV_t, pickV_f, pickV_bool, nilS_ptr, add_eq, sub_eq, mul_eq, lss_eq, leq_eq, gtr_eq, geq_eq, not_eq, minI_eq, maxI_eq, extract_0, extract_1, extract_2, eqlI, neqI, makeFunc_eq, decide_true, decide_false, if_true, if_false, Bool.false_eq_true, Bool.not_true, Bool.not_false, reduceIte, List.getElem?_toArray, List.getElem?_cons_zero, List.getElem?_cons_succ, Option.isSome_none, List.length_map, yV_undef, gopV_none, Nat.zero_add, Nat.reduceAdd, beq_self_eq_true, bne_self_eq_false, and_self, Bool.true_and, Bool.false_and, Bool.and_true, Bool.and_false, Bool.true_or, Bool.false_or, Bool.or_true, Bool.or_false], ?_⟩
      refine Equal_ok O4.slR (V.ext (u.trans u4)) (by have := ofL_len d.its; omega) ?_
      have hk := hk _ (u.trans u4)
      unfold chk at hk
      rw [if_neg (by simp [h0, hp]), if_neg (by simp [h0])] at hk
      by_cases he : ofL d.its = d.its
      · rw [if_neg (by simp [he])] at hk
        simp only [he, decide_true, popO_some, bindH_eq, condV_bool, condV_true, condV_false, yV_bool, gopV_tt, gopV_ff, gopV_tf, gopV_ft, pickV_t, pickV_f, pickV_bool, nilS_ptr, add_eq, sub_eq, mul_eq, lss_eq, leq_eq, gtr_eq, geq_eq, not_eq, minI_eq, maxI_eq, extract_0, extract_1, extract_2, eqlI, neqI, makeFunc_eq, decide_true, decide_false, if_true, if_false, Bool.false_eq_true, Bool.not_true, Bool.not_false, reduceIte, List.getElem?_toArray, List.getElem?_cons_zero, List.getElem?_cons_succ, Option.isSome_none, List.length_map, yV_undef, gopV_none, Nat.zero_add, Nat.reduceAdd, beq_self_eq_true, bne_self_eq_false, and_self, Bool.true_and, Bool.false_and, Bool.and_true, Bool.and_false, Bool.true_or, Bool.false_or, Bool.or_true, Bool.or_false]
        exact hk
      · rw [if_pos he] at hk
        simp only [he, decide_false, popO_some, bindH_eq, condV_bool, condV_true, condV_false, yV_bool, gopV_tt, gopV_ff, gopV_tf, gopV_ft, pickV_t, pickV_f, pickV_bool, nilS_ptr, add_eq, sub_eq, mul_eq, lss_eq, leq_eq, gtr_eq, geq_eq, not_eq, minI_eq, maxI_eq, extract_0, extract_1, extract_2, eqlI, neqI, makeFunc_eq, decide_true, decide_false, if_true, if_false, Bool.false_eq_true, Bool.not_true, Bool.not_false, reduceIte, List.getElem?_toArray, List.getElem?_cons_zero, List.getElem?_cons_succ, Option.isSome_none, List.length_map, yV_undef, gopV_none, Nat.zero_add, Nat.reduceAdd, beq_self_eq_true, bne_self_eq_false, and_self, Bool.true_and, Bool.false_and, Bool.and_true, Bool.and_false, Bool.true_or, Bool.false_or, Bool.or_true, Bool.or_false]
        exact hk
    · have hk := hk _ u
      unfold chk at hk
      rw [if_pos (.inr hp)] at hk
      simp only [hp, eqlI, decide_false, show ((0 : Int) == 1) = false from rfl, popO_some, bindH_eq, condV_bool, condV_true, condV_false, yV_bool, gopV_tt, gopV_ff, gopV_tf, gopV_ft, pickV_t, pickV_f, pickV_bool, nilS_ptr, add_eq, sub_eq, mul_eq, lss_eq, leq_eq, gtr_eq, geq_eq, not_eq, minI_eq, maxI_eq, extract_0, extract_1, extract_2, eqlI, neqI, makeFunc_eq, decide_true, decide_false, if_true, if_false, Bool.false_eq_true, Bool.not_true, Bool.not_false, reduceIte, List.getElem?_toArray, List.getElem?_cons_zero, List.getElem?_cons_succ, Option.isSome_none, List.length_map, yV_undef, gopV_none, Nat.zero_add, Nat.reduceAdd, beq_self_eq_true, bne_self_eq_false, and_self, Bool.true_and, Bool.false_and, Bool.and_true, Bool.and_false, Bool.true_or, Bool.false_or, Bool.or_true, Bool.or_false]
      exact hk
end Go.Proofs.Ytlkjippiaghbmaa
/- record: a step, records replayed. -/
set_option linter.unusedSimpArgs false
set_option linter.unusedVariables false
namespace Go.Proofs.Ytlkjippiaghbmaa
open Go
set_option maxRecDepth 20000
/-- Notes applied to a table: what it holds, the first error. -/
def aply (room : Int) : List It → List Nt → List It × Int
  | L, [] => (L, 0)
  | L, n :: ns => if appE L room n ≠ 0 then (appL L room n, appE L room n) else aply room (appL L room n) ns
theorem appL_len {L : List It} (hs : Srt L) (room : Int) (n : Nt) : (appL L room n).length ≤ L.length + 1 := by
  have hp : ∀ i : It, (putL L room i).length ≤ L.length + 1 := fun i => by
    unfold putL
    split
    · omega
    · exact ins_le hs i
  unfold appL
  split
  · omega
  · split
    · split
      · omega
      · exact hp _
    · split
      · split
        · exact ins_le hs _
        · exact hp _
      · have := del_len L n.p.key; omega
theorem aply_len (room : Int) : ∀ {L : List It}, Srt L → ∀ l : List Nt, (aply room L l).1.length ≤ L.length + l.length
  | L, hs, [] => by simp [aply]
  | L, hs, n :: ns => by
    have h1 := appL_len hs room n
    unfold aply
    split
    · simp only [List.length_cons]; omega
    · have h2 := aply_len room (hs.app room n) ns
      simp only [List.length_cons]; omega
theorem SlR.ntb {h : PH} {v : Value} {l : List Nt} (S : NSl h v l) {j : Nat} {x : Nt} (hx : l[j]? = some x) :
    ∃ a, SemP PG (Instr.indexAt T_sl_api_Note v (.int .i64 (j : Int))) = some (.pointer (some a)) ∧ SemE PG h (Instr.loadAt T_api_Note (.pointer (some a))) = some (.agg x.cells.toArray) := S.wNote hx
theorem sApply_ok {h : PH} {a : Nat} {L : List It} {room : Int} {F : List Nat} (H : TAt h a L room F) {v : Value} {l : List Nt} (S : NSl h v l) (hv : l ≠ [] → ∀ x n c, v = .slice (some x) n c → x.block ∉ F) (hl : l.length ≤ 1000000) {k : Value → PH → Prop}
    (hk : ∀ h' (n : Int), TAt h' a (aply room L l).1 room F → Upd F h h' → k (.tuple #[.int .i64 n, .int .i64 (aply room L l).2]) h') : CallsH PG id_scan_Apply #[.pointer (some ⟨a, 0, none⟩), v] h k := by
  apply scan_Apply.call
  unfold scan_Apply
  have lv := Nt.len S
  simp only [lv, popO_some, bindH_eq, condV_bool, condV_true, condV_false, yV_bool, gopV_tt, gopV_ff, gopV_tf, gopV_ft, pickV_t, pickV_f, pickV_bool, nilS_ptr, add_eq, sub_eq, mul_eq, lss_eq, leq_eq, gtr_eq, geq_eq, not_eq, minI_eq, maxI_eq, extract_0, extract_1, extract_2, eqlI, neqI, makeFunc_eq, decide_true, decide_false, if_true, if_false, Bool.false_eq_true, Bool.not_true, Bool.not_false, reduceIte, List.getElem?_toArray, List.getElem?_cons_zero, List.getElem?_cons_succ, Option.isSome_none, List.length_map]
  refine ⟨fun vs h' => ∃ (i : Nat) (L' : List It), i ≤ l.length ∧ vs = [.pointer (some ⟨a, 0, none⟩), v, v, .int .i64 (l.length : Int), .int .i64 (i : Int)] ∧ TAt h' a L' room F ∧ Upd F h h' ∧ aply room L l = aply room L' (l.drop i), upTo l.length 4, ⟨0, L, by omega, rfl, H, Upd.refl, by simp⟩, ?_⟩
  rintro ρ h' ⟨i, L', hi, hvs, H', u, hap⟩
  simp only [List.map_cons, List.map_nil, List.cons.injEq, and_true] at hvs
  obtain ⟨v0, v1, v9, v10, v11⟩ := hvs
  simp only [v0, v1, v9, v10, v11, List.map_cons, List.map_nil]
  unfold scan_Apply_b3
  by_cases hlt : i < l.length
  · have g1 : ((i : Int) < (l.length : Int)) = True := eq_true (by omega)
    have gi : IntKind.i64.wrap ((i : Int) + 1) = ((i + 1 : Nat) : Int) := by rw [i64_wrap (by omega) (by omega)]; omega
    have e1 : l[i]? = some l[i] := List.getElem?_eq_getElem hlt
    obtain ⟨pa, p1, q1⟩ := SlR.ntb (SlR.upd0 S u fun hne => hv (by simpa using hne)) e1
    have hdrop : l.drop i = l[i] :: l.drop (i + 1) := List.drop_eq_getElem_cons hlt
    generalize l[i] = n at *
    rw [hdrop] at hap
    simp only [g1, p1, q1, popO_some, bindH_eq, condV_bool, condV_true, condV_false, yV_bool, gopV_tt, gopV_ff, gopV_tf, gopV_ft, pickV_t, pickV_f, pickV_bool, nilS_ptr, add_eq, sub_eq, mul_eq, lss_eq, leq_eq, gtr_eq, geq_eq, not_eq, minI_eq, maxI_eq, extract_0, extract_1, extract_2, eqlI, neqI, makeFunc_eq, decide_true, decide_false, if_true, if_false, Bool.false_eq_true, Bool.not_true, Bool.not_false, reduceIte, List.getElem?_toArray, List.getElem?_cons_zero, List.getElem?_cons_succ, Option.isSome_none, List.length_map]
    intro r hr
    try rw [bindH_eq]
    refine T_api_Note.fill hr rfl (by simp [Nt.cells, isCell]) fun h2 B2 u2 => ?_
    have l2 : SemE PG h2 (Instr.loadAt T_api_Note (.pointer (some ⟨r, 0, none⟩))) = some (.agg n.cells.toArray) := T_api_Note.agg B2 (by show 0 + 5 ≤ 5; decide)
    simp only [l2, popO_some, bindH_eq, condV_bool, condV_true, condV_false, yV_bool, gopV_tt, gopV_ff, gopV_tf, gopV_ft, pickV_t, pickV_f, pickV_bool, nilS_ptr, add_eq, sub_eq, mul_eq, lss_eq, leq_eq, gtr_eq, geq_eq, not_eq, minI_eq, maxI_eq, extract_0, extract_1, extract_2, eqlI, neqI, makeFunc_eq, decide_true, decide_false, if_true, if_false, Bool.false_eq_true, Bool.not_true, Bool.not_false, reduceIte, List.getElem?_toArray, List.getElem?_cons_zero, List.getElem?_cons_succ, Option.isSome_none, List.length_map]
    refine Apply_ok (H'.ext u2) n fun h3 H3 u3 => ?_
    have u' : Upd F h h3 := (u.trans u2.upd).trans u3
    by_cases h0 : appE L' room n = 0
    · have q : (appE L' room n != 0) = false := by simp [h0]
      simp only [aply, h0, ne_eq, not_true_eq_false, if_false] at hap
      simp only [neqI, h0, gi, popO_some, bindH_eq, condV_bool, condV_true, condV_false, yV_bool, gopV_tt, gopV_ff, gopV_tf, gopV_ft, pickV_t, pickV_f, pickV_bool, nilS_ptr, add_eq, sub_eq, mul_eq, lss_eq, leq_eq, gtr_eq, geq_eq, not_eq, minI_eq, maxI_eq, extract_0, extract_1, extract_2, eqlI, neqI, makeFunc_eq, decide_true, decide_false, if_true, if_false, Bool.false_eq_true, Bool.not_true, Bool.not_false, reduceIte, List.getElem?_toArray, List.getElem?_cons_zero, List.getElem?_cons_succ, Option.isSome_none, List.length_map, yV_undef, gopV_none, Nat.zero_add, Nat.reduceAdd, beq_self_eq_true, bne_self_eq_false, and_self, Bool.true_and, Bool.false_and, Bool.and_true, Bool.and_false, Bool.true_or, Bool.false_or, Bool.or_true, Bool.or_false]
      refine ⟨⟨i + 1, _, by omega, rfl, H3, u', hap⟩, ?_⟩
      simp only [upTo, List.getElem?_cons_succ, List.getElem?_cons_zero]
      omega
    · have q : (appE L' room n != 0) = true := by simp [h0]
      simp only [aply, ne_eq, h0, not_false_eq_true, if_true] at hap
      simp only [neqI, q, popO_some, bindH_eq, condV_bool, condV_true, condV_false, yV_bool, gopV_tt, gopV_ff, gopV_tf, gopV_ft, pickV_t, pickV_f, pickV_bool, nilS_ptr, add_eq, sub_eq, mul_eq, lss_eq, leq_eq, gtr_eq, geq_eq, not_eq, minI_eq, maxI_eq, extract_0, extract_1, extract_2, eqlI, neqI, makeFunc_eq, decide_true, decide_false, if_true, if_false, Bool.false_eq_true, Bool.not_true, Bool.not_false, reduceIte, List.getElem?_toArray, List.getElem?_cons_zero, List.getElem?_cons_succ, Option.isSome_none, List.length_map, yV_undef, gopV_none, Nat.zero_add, Nat.reduceAdd, beq_self_eq_true, bne_self_eq_false, and_self, Bool.true_and, Bool.false_and, Bool.and_true, Bool.and_false, Bool.true_or, Bool.false_or, Bool.or_true, Bool.or_false]
      have := hk h3 (i : Int) (by rw [hap]; exact H3) u'
      rw [hap] at this
      exact this
  · have g1 : ((i : Int) < (l.length : Int)) = False := eq_false (by omega)
    rw [List.drop_of_length_le (by omega)] at hap
    simp only [g1, lv, popO_some, bindH_eq, condV_bool, condV_true, condV_false, yV_bool, gopV_tt, gopV_ff, gopV_tf, gopV_ft, pickV_t, pickV_f, pickV_bool, nilS_ptr, add_eq, sub_eq, mul_eq, lss_eq, leq_eq, gtr_eq, geq_eq, not_eq, minI_eq, maxI_eq, extract_0, extract_1, extract_2, eqlI, neqI, makeFunc_eq, decide_true, decide_false, if_true, if_false, Bool.false_eq_true, Bool.not_true, Bool.not_false, reduceIte, List.getElem?_toArray, List.getElem?_cons_zero, List.getElem?_cons_succ, Option.isSome_none, List.length_map]
    have := hk h' (l.length : Int) (by rw [hap]; exact H') u
    rw [hap] at this
    exact this
def stp (d : Dm) (room : Int) (r : Rc) : Dm × Int :=
  if chk d room ≠ 0 then (Dm.zero, chk d room)
  else if r.bytes.2 ≠ 0 then (Dm.zero, r.bytes.2)
  else if r.k = 1 then (if chk r.s room ≠ 0 then (Dm.zero, chk r.s room) else (r.s, 0))
  else if (aply room (ofL d.its) r.ns).2 ≠ 0 then (Dm.zero, (aply room (ofL d.its) r.ns).2)
  else (⟨if r.ch = 0 then r.pl else d.p0, if r.ch = 0 then d.p1 else r.pl, (aply room (ofL d.its) r.ns).1⟩, 0)
theorem bytes_plain {r : Rc} (h : r.bytes.2 = 0) : r.plain = true := by
  unfold Rc.bytes at h
  cases e : r.plain with
  | true => rfl
  | false => rw [e] at h; cases h
theorem plain2 {r : Rc} (h : r.plain = true) (h1 : ¬ r.k = 1) : r.k = 2 ∧ r.s = Dm.zero ∧ (r.ch = 0 ∨ r.ch = 1) ∧ r.ns.length ≤ 16 := by
  unfold Rc.plain at h
  rw [if_neg h1] at h
  split at h
  · rename_i h2
    simp only [Bool.and_eq_true, decide_eq_true_eq, Bool.or_eq_true] at h
    obtain ⟨⟨⟨⟨a, b⟩, c⟩, d⟩, e⟩ := h
    refine ⟨h2, ?_, d, e⟩
    obtain ⟨k, ⟨p0, p1, its⟩, ch, pl, ns⟩ := r
    simp only at a b c
    subst a b
    rw [List.length_eq_zero_iff] at c
    subst c
    rfl
  · cases h
theorem plain1 {r : Rc} (h : r.plain = true) (h1 : r.k = 1) : r.ch = 0 ∧ r.pl = Pl.zero ∧ r.ns = [] ∧ r.s.its.length ≤ 40 := by
  unfold Rc.plain at h
  rw [if_pos h1] at h
  simp only [Bool.and_eq_true, decide_eq_true_eq] at h
  exact ⟨h.1.1.1, h.1.1.2, List.length_eq_zero_iff.1 h.1.2, h.2⟩
theorem Dm.load {h : PH} {r : Nat} {cs : List Value} (B : Bx h r cs) {o : Nat} {d : Dm} {v : Value} (ho : (cs.drop o).take 5 = d.cells v) : SemE PG h (Instr.loadAt T_api_Daemon (.pointer (some ⟨r, o, none⟩))) = some (d.v v) := by
  have hl : o + 5 ≤ cs.length := by
    have : ((cs.drop o).take 5).length = 5 := by rw [ho]; rfl
    rw [List.length_take, List.length_drop] at this; omega
  rw [T_api_Daemon.agg B hl, ho]; rfl
theorem step_ok {h : PH} {d : Dm} {v : Value} {room : Int} {r : Rc} {vi vn : Value} (V : ISl h v d.its) (VI : ISl h vi r.s.its) (VN : NSl h vn r.ns) (wf : r.wf) (hl : d.its.length ≤ 1000) {k : Value → PH → Prop}
    (hk : ∀ h' v', ISl h' v' (stp d room r).1.its → NewV h v' → Ext h h' → k (.tuple #[(stp d room r).1.v v', .int .i64 (stp d room r).2]) h') : CallsH PG id_record_Step #[d.v v, .int .i64 room, r.v vi vn] h k := by
  apply record_Step.call
  unfold record_Step
  intro r1 hr1
  try rw [bindH_eq]
  have u1 : Ext h (h.set r1 (.cells (Value.cells (d.v v)) T_api_Daemon)) := Upd.new hr1
  have B1 : Bx (h.set r1 (.cells (Value.cells (d.v v)) T_api_Daemon)) r1 (d.cells v) := Bx.new
  generalize h.set r1 (.cells (Value.cells (d.v v)) T_api_Daemon) = h1 at *
  intro r3 hr3
  try rw [bindH_eq]
  have u3 : Ext h1 (h1.set r3 (.cells (Value.cells (r.v vi vn)) T_api_Record)) := Upd.new hr3
  have B3 : Bx (h1.set r3 (.cells (Value.cells (r.v vi vn)) T_api_Record)) r3 (r.cells vi vn) := Bx.new
  have B13 := B1.ext u3
  have n13 : r1 ≠ r3 := B1.apart hr3
  generalize h1.set r3 (.cells (Value.cells (r.v vi vn)) T_api_Record) = h3 at *
  intro r5 hr5
  try rw [bindH_eq]
  have u5 : Ext h3 (h3.set r5 (.cells (zcells PG T_api_Daemon) T_api_Daemon)) := Upd.new hr5
  have Z := T_api_Daemon.zbox (h := h3) (r := r5)
  have B15 := B13.ext u5
  have B35 := B3.ext u5
  have n15 : r1 ≠ r5 := B13.apart hr5
  have n35 : r3 ≠ r5 := B3.apart hr5
  generalize h3.set r5 (.cells (zcells PG T_api_Daemon) T_api_Daemon) = h5 at *
  have e5 := (u1.trans u3).trans u5
  have f1 : Fresh h [r1] := Fresh.one hr1
  have f3 : Fresh h [r3] := Fresh.one (u1.none hr3)
  have f5 : Fresh h [r5] := Fresh.one ((u1.trans u3).none hr5)
  have K1 : h5 r1 ≠ none := B15.known
  have K3 : h5 r3 ≠ none := B35.known
  have K5 : h5 r5 ≠ none := Z.known
  -- an error's answer
  have bad : ∀ {h' : PH} {e : Int}, Ext h5 h' → stp d room r = (Dm.zero, e) → SemH PG (storeS T_api_Daemon (.pointer (some ⟨r5, 0, none⟩)) (Dm.v Dm.zero (.slice none 0 0))) h' fun v12 h13 => popO (SemE PG h13 (Instr.loadAt T_api_Daemon (.pointer (some ⟨r5, 0, none⟩)))) fun v14 => k (.tuple #[v14, .int .i64 e]) h13 := by
    intro h' e u hs
    refine T_api_Daemon.put (Z.ext u) rfl (by show 0 + 5 ≤ 5; decide) (Dm.isC _ rfl) fun h2 B2 u2 => ?_
    simp only [Dm.load (o := 0) (d := Dm.zero) (v := .slice none 0 0) B2 rfl, popO_some, bindH_eq, condV_bool, condV_true, condV_false, yV_bool, gopV_tt, gopV_ff, gopV_tf, gopV_ft, pickV_t, pickV_f, pickV_bool, nilS_ptr, add_eq, sub_eq, mul_eq, lss_eq, leq_eq, gtr_eq, geq_eq, not_eq, minI_eq, maxI_eq, extract_0, extract_1, extract_2, eqlI, neqI, makeFunc_eq, decide_true, decide_false, if_true, if_false, Bool.false_eq_true, Bool.not_true, Bool.not_false, reduceIte, List.getElem?_toArray, List.getElem?_cons_zero, List.getElem?_cons_succ, Option.isSome_none, List.length_map]
    rw [hs] at hk
    exact hk h2 _ nilI NewV.nil ((e5.trans u).fresh u2 f5)
  have hdef : stp d room r = if chk d room ≠ 0 then (Dm.zero, chk d room) else if r.bytes.2 ≠ 0 then (Dm.zero, r.bytes.2) else if r.k = 1 then (if chk r.s room ≠ 0 then (Dm.zero, chk r.s room) else (r.s, 0)) else if (aply room (ofL d.its) r.ns).2 ≠ 0 then (Dm.zero, (aply room (ofL d.its) r.ns).2) else (⟨if r.ch = 0 then r.pl else d.p0, if r.ch = 0 then d.p1 else r.pl, (aply room (ofL d.its) r.ns).1⟩, 0) := rfl
  simp only [Dm.load (o := 0) (d := d) (v := v) B15 rfl, popO_some, bindH_eq, condV_bool, condV_true, condV_false, yV_bool, gopV_tt, gopV_ff, gopV_tf, gopV_ft, pickV_t, pickV_f, pickV_bool, nilS_ptr, add_eq, sub_eq, mul_eq, lss_eq, leq_eq, gtr_eq, geq_eq, not_eq, minI_eq, maxI_eq, extract_0, extract_1, extract_2, eqlI, neqI, makeFunc_eq, decide_true, decide_false, if_true, if_false, Bool.false_eq_true, Bool.not_true, Bool.not_false, reduceIte, List.getElem?_toArray, List.getElem?_cons_zero, List.getElem?_cons_succ, Option.isSome_none, List.length_map]
  refine check_ok (V.ext e5) hl fun h6 u6 => ?_
  by_cases c0 : chk d room = 0
  · rw [if_neg (by simp [c0])] at hdef
    have lr : SemE PG h6 (Instr.loadAt T_api_Record (.pointer (some ⟨r3, 0, none⟩))) = some (r.v vi vn) := T_api_Record.agg (B35.ext u6) (by show 0 + 10 ≤ 10; decide)
    simp only [c0, neqI, lr, popO_some, bindH_eq, condV_bool, condV_true, condV_false, yV_bool, gopV_tt, gopV_ff, gopV_tf, gopV_ft, pickV_t, pickV_f, pickV_bool, nilS_ptr, add_eq, sub_eq, mul_eq, lss_eq, leq_eq, gtr_eq, geq_eq, not_eq, minI_eq, maxI_eq, extract_0, extract_1, extract_2, eqlI, neqI, makeFunc_eq, decide_true, decide_false, if_true, if_false, Bool.false_eq_true, Bool.not_true, Bool.not_false, reduceIte, List.getElem?_toArray, List.getElem?_cons_zero, List.getElem?_cons_succ, Option.isSome_none, List.length_map, yV_undef, gopV_none, Nat.zero_add, Nat.reduceAdd, beq_self_eq_true, bne_self_eq_false, and_self, Bool.true_and, Bool.false_and, Bool.and_true, Bool.and_false, Bool.true_or, Bool.false_or, Bool.or_true, Bool.or_false]
    refine bytes_ok (VI.ext (e5.trans u6)) (VN.ext (e5.trans u6)) wf fun h7 u7 => ?_
    have e57 := u6.trans u7
    by_cases c1 : r.bytes.2 = 0
    · rw [if_neg (by simp [c1])] at hdef
      have hp := bytes_plain c1
      simp only [c1, neqI, T_api_Record.f0, T_int.load, (B35.ext e57).cell, Rc.cells, eqlI, popO_some, bindH_eq, condV_bool, condV_true, condV_false, yV_bool, gopV_tt, gopV_ff, gopV_tf, gopV_ft, pickV_t, pickV_f, pickV_bool, nilS_ptr, add_eq, sub_eq, mul_eq, lss_eq, leq_eq, gtr_eq, geq_eq, not_eq, minI_eq, maxI_eq, extract_0, extract_1, extract_2, eqlI, neqI, makeFunc_eq, decide_true, decide_false, if_true, if_false, Bool.false_eq_true, Bool.not_true, Bool.not_false, reduceIte, List.getElem?_toArray, List.getElem?_cons_zero, List.getElem?_cons_succ, Option.isSome_none, List.length_map, yV_undef, gopV_none, Nat.zero_add, Nat.reduceAdd, beq_self_eq_true, bne_self_eq_false, and_self, Bool.true_and, Bool.false_and, Bool.and_true, Bool.and_false, Bool.true_or, Bool.false_or, Bool.or_true, Bool.or_false]
      by_cases k1 : r.k = 1
      · rw [if_pos k1] at hdef
        obtain ⟨q0, q1, q2, q40⟩ := plain1 hp k1
        have q : (r.k == 1) = true := by simp [k1]
        simp only [q, T_api_Record.f1, Dm.load (o := 1) (d := r.s) (v := vi) (B35.ext e57) rfl, popO_some, bindH_eq, condV_bool, condV_true, condV_false, yV_bool, gopV_tt, gopV_ff, gopV_tf, gopV_ft, pickV_t, pickV_f, pickV_bool, nilS_ptr, add_eq, sub_eq, mul_eq, lss_eq, leq_eq, gtr_eq, geq_eq, not_eq, minI_eq, maxI_eq, extract_0, extract_1, extract_2, eqlI, neqI, makeFunc_eq, decide_true, decide_false, if_true, if_false, Bool.false_eq_true, Bool.not_true, Bool.not_false, reduceIte, List.getElem?_toArray, List.getElem?_cons_zero, List.getElem?_cons_succ, Option.isSome_none, List.length_map, yV_undef, gopV_none, Nat.zero_add, Nat.reduceAdd, beq_self_eq_true, bne_self_eq_false, and_self, Bool.true_and, Bool.false_and, Bool.and_true, Bool.and_false, Bool.true_or, Bool.false_or, Bool.or_true, Bool.or_false]
        refine check_ok (VI.ext (e5.trans e57)) (by omega) fun h8 u8 => ?_
        have e58 := e57.trans u8
        by_cases c2 : chk r.s room = 0
        · rw [if_neg (by simp [c2])] at hdef
          simp only [c2, neqI, T_api_Record.f1, T_api_Daemon.f1, T_sl_api_Item.load, (B35.ext e58).cell, Rc.cells, popO_some, bindH_eq, condV_bool, condV_true, condV_false, yV_bool, gopV_tt, gopV_ff, gopV_tf, gopV_ft, pickV_t, pickV_f, pickV_bool, nilS_ptr, add_eq, sub_eq, mul_eq, lss_eq, leq_eq, gtr_eq, geq_eq, not_eq, minI_eq, maxI_eq, extract_0, extract_1, extract_2, eqlI, neqI, makeFunc_eq, decide_true, decide_false, if_true, if_false, Bool.false_eq_true, Bool.not_true, Bool.not_false, reduceIte, List.getElem?_toArray, List.getElem?_cons_zero, List.getElem?_cons_succ, Option.isSome_none, List.length_map, yV_undef, gopV_none, Nat.zero_add, Nat.reduceAdd, beq_self_eq_true, bne_self_eq_false, and_self, Bool.true_and, Bool.false_and, Bool.and_true, Bool.and_false, Bool.true_or, Bool.false_or, Bool.or_true, Bool.or_false]
          refine CloneI_ok (VI.ext (e5.trans e58)) (by omega) fun v' h9 V9 nv u9 => ?_
          have e59 := e58.trans u9
          have nv5 := nv.of e58
          try simp only [T_api_Record.f1, T_api_Daemon.f1, popO_some, bindH_eq, condV_bool, condV_true, condV_false, yV_bool, gopV_tt, gopV_ff, gopV_tf, gopV_ft, pickV_t, pickV_f, pickV_bool, nilS_ptr, add_eq, sub_eq, mul_eq, lss_eq, leq_eq, gtr_eq, geq_eq, not_eq, minI_eq, maxI_eq, extract_0, extract_1, extract_2, eqlI, neqI, makeFunc_eq, decide_true, decide_false, if_true, if_false, Bool.false_eq_true, Bool.not_true, Bool.not_false, reduceIte, List.getElem?_toArray, List.getElem?_cons_zero, List.getElem?_cons_succ, Option.isSome_none, List.length_map, yV_undef, gopV_none, Nat.zero_add, Nat.reduceAdd, beq_self_eq_true, bne_self_eq_false, and_self, Bool.true_and, Bool.false_and, Bool.and_true, Bool.and_false, Bool.true_or, Bool.false_or, Bool.or_true, Bool.or_false]
          refine T_sl_api_Item.put (B35.ext e59) (o := 5) (by show 5 < 10; decide) V9.isc fun h10 B10 u10 => ?_
          simp only [T_api_Record.f1, Dm.load (o := 1) (d := r.s) (v := v') B10 rfl, popO_some, bindH_eq, condV_bool, condV_true, condV_false, yV_bool, gopV_tt, gopV_ff, gopV_tf, gopV_ft, pickV_t, pickV_f, pickV_bool, nilS_ptr, add_eq, sub_eq, mul_eq, lss_eq, leq_eq, gtr_eq, geq_eq, not_eq, minI_eq, maxI_eq, extract_0, extract_1, extract_2, eqlI, neqI, makeFunc_eq, decide_true, decide_false, if_true, if_false, Bool.false_eq_true, Bool.not_true, Bool.not_false, reduceIte, List.getElem?_toArray, List.getElem?_cons_zero, List.getElem?_cons_succ, Option.isSome_none, List.length_map, yV_undef, gopV_none, Nat.zero_add, Nat.reduceAdd, beq_self_eq_true, bne_self_eq_false, and_self, Bool.true_and, Bool.false_and, Bool.and_true, Bool.and_false, Bool.true_or, Bool.false_or, Bool.or_true, Bool.or_false]
          refine T_api_Daemon.put ((Z.ext e59).upd u10 (by simpa using n35.symm)) rfl (by show 0 + 5 ≤ 5; decide) (Dm.isC _ V9.isc) fun h11 B11 u11 => ?_
          simp only [Dm.load (o := 0) (d := r.s) (v := v') B11 rfl, popO_some, bindH_eq, condV_bool, condV_true, condV_false, yV_bool, gopV_tt, gopV_ff, gopV_tf, gopV_ft, pickV_t, pickV_f, pickV_bool, nilS_ptr, add_eq, sub_eq, mul_eq, lss_eq, leq_eq, gtr_eq, geq_eq, not_eq, minI_eq, maxI_eq, extract_0, extract_1, extract_2, eqlI, neqI, makeFunc_eq, decide_true, decide_false, if_true, if_false, Bool.false_eq_true, Bool.not_true, Bool.not_false, reduceIte, List.getElem?_toArray, List.getElem?_cons_zero, List.getElem?_cons_succ, Option.isSome_none, List.length_map]
          rw [hdef] at hk
          refine hk h11 v' ((V9.upd u10 fun x n c e => ?_).upd u11 fun x n c e => ?_) (nv5.of e5) (((e5.trans e59).fresh u10 f3).fresh u11 f5)
          · simp only [List.mem_singleton]; intro e'; exact K3 (by rw [← e']; exact nv5 x n c e)
          · simp only [List.mem_singleton]; intro e'; exact K5 (by rw [← e']; exact nv5 x n c e)
        · rw [if_pos c2] at hdef
          have q2' : (chk r.s room != 0) = true := by simp [c2]
          simp only [neqI, q2', dm_zero, popO_some, bindH_eq, condV_bool, condV_true, condV_false, yV_bool, gopV_tt, gopV_ff, gopV_tf, gopV_ft, pickV_t, pickV_f, pickV_bool, nilS_ptr, add_eq, sub_eq, mul_eq, lss_eq, leq_eq, gtr_eq, geq_eq, not_eq, minI_eq, maxI_eq, extract_0, extract_1, extract_2, eqlI, neqI, makeFunc_eq, decide_true, decide_false, if_true, if_false, Bool.false_eq_true, Bool.not_true, Bool.not_false, reduceIte, List.getElem?_toArray, List.getElem?_cons_zero, List.getElem?_cons_succ, Option.isSome_none, List.length_map, yV_undef, gopV_none, Nat.zero_add, Nat.reduceAdd, beq_self_eq_true, bne_self_eq_false, and_self, Bool.true_and, Bool.false_and, Bool.and_true, Bool.and_false, Bool.true_or, Bool.false_or, Bool.or_true, Bool.or_false]
          exact bad e58 hdef
      · rw [if_neg k1] at hdef
        obtain ⟨k2, q0, q1, q16⟩ := plain2 hp k1
        have q : (r.k == 1) = false := by simp [k1]
        simp only [q, T_api_Daemon.f1, T_sl_api_Item.load, (B15.ext e57).cell, Dm.cells, popO_some, bindH_eq, condV_bool, condV_true, condV_false, yV_bool, gopV_tt, gopV_ff, gopV_tf, gopV_ft, pickV_t, pickV_f, pickV_bool, nilS_ptr, add_eq, sub_eq, mul_eq, lss_eq, leq_eq, gtr_eq, geq_eq, not_eq, minI_eq, maxI_eq, extract_0, extract_1, extract_2, eqlI, neqI, makeFunc_eq, decide_true, decide_false, if_true, if_false, Bool.false_eq_true, Bool.not_true, Bool.not_false, reduceIte, List.getElem?_toArray, List.getElem?_cons_zero, List.getElem?_cons_succ, Option.isSome_none, List.length_map, yV_undef, gopV_none, Nat.zero_add, Nat.reduceAdd, beq_self_eq_true, bne_self_eq_false, and_self, Bool.true_and, Bool.false_and, Bool.and_true, Bool.and_false, Bool.true_or, Bool.false_or, Bool.or_true, Bool.or_false]
        have hof : ofE room d.its = 0 := by
          unfold chk at c0
          by_cases h0 : ofE room d.its = 0
          · exact h0
          · by_cases h1 : ofE room d.its = 1 ∨ ¬ (okPl d.p0 ∧ okPl d.p1)
            · rw [if_pos h1] at c0; cases c0
            · rw [if_neg h1, if_pos h0] at c0; exact c0
        refine Of_ok (V.ext (e5.trans e57)) hl (fun h8 u8 hne => absurd hof hne) (fun a h8 F h0 H8 f8 u8 => ?_)
        have e58 := e57.trans u8
        simp only [T_api_Record.f4, T_sl_api_Note.load, (B35.ext e58).cell, Rc.cells, popO_some, bindH_eq, condV_bool, condV_true, condV_false, yV_bool, gopV_tt, gopV_ff, gopV_tf, gopV_ft, pickV_t, pickV_f, pickV_bool, nilS_ptr, add_eq, sub_eq, mul_eq, lss_eq, leq_eq, gtr_eq, geq_eq, not_eq, minI_eq, maxI_eq, extract_0, extract_1, extract_2, eqlI, neqI, makeFunc_eq, decide_true, decide_false, if_true, if_false, Bool.false_eq_true, Bool.not_true, Bool.not_false, reduceIte, List.getElem?_toArray, List.getElem?_cons_zero, List.getElem?_cons_succ, Option.isSome_none, List.length_map, yV_undef, gopV_none, Nat.zero_add, Nat.reduceAdd, beq_self_eq_true, bne_self_eq_false, and_self, Bool.true_and, Bool.false_and, Bool.and_true, Bool.and_false, Bool.true_or, Bool.false_or, Bool.or_true, Bool.or_false]
        have VN8 := VN.ext (e5.trans e58)
        refine sApply_ok H8 VN8 (fun hne x n c e hm => ?_) (by omega) fun h9 n H9 u9 => ?_
        · exact (VN.ext (e5.trans e57)).known (by simpa using hne) e (f8 _ hm)
        · have fF : Fresh h5 F := f8.of e57
          have e59 := e58.fresh u9 fF
          by_cases c3 : (aply room (ofL d.its) r.ns).2 = 0
          · rw [if_neg (by simp [c3])] at hdef
            simp only [c3, neqI, popO_some, bindH_eq, condV_bool, condV_true, condV_false, yV_bool, gopV_tt, gopV_ff, gopV_tf, gopV_ft, pickV_t, pickV_f, pickV_bool, nilS_ptr, add_eq, sub_eq, mul_eq, lss_eq, leq_eq, gtr_eq, geq_eq, not_eq, minI_eq, maxI_eq, extract_0, extract_1, extract_2, eqlI, neqI, makeFunc_eq, decide_true, decide_false, if_true, if_false, Bool.false_eq_true, Bool.not_true, Bool.not_false, reduceIte, List.getElem?_toArray, List.getElem?_cons_zero, List.getElem?_cons_succ, Option.isSome_none, List.length_map, yV_undef, gopV_none, Nat.zero_add, Nat.reduceAdd, beq_self_eq_true, bne_self_eq_false, and_self, Bool.true_and, Bool.false_and, Bool.and_true, Bool.and_false, Bool.true_or, Bool.false_or, Bool.or_true, Bool.or_false]
            refine Items_ok H9 (by
              have a1 := aply_len room (srt_ofL d.its) r.ns
              have a2 := ofL_len d.its
              omega) fun v' h10 G O10 f10 u10 => ?_
            have e510 := e59.trans u10
            have nv := (O10.newV f10).of e59
            try simp only [T_api_Daemon.f1, popO_some, bindH_eq, condV_bool, condV_true, condV_false, yV_bool, gopV_tt, gopV_ff, gopV_tf, gopV_ft, pickV_t, pickV_f, pickV_bool, nilS_ptr, add_eq, sub_eq, mul_eq, lss_eq, leq_eq, gtr_eq, geq_eq, not_eq, minI_eq, maxI_eq, extract_0, extract_1, extract_2, eqlI, neqI, makeFunc_eq, decide_true, decide_false, if_true, if_false, Bool.false_eq_true, Bool.not_true, Bool.not_false, reduceIte, List.getElem?_toArray, List.getElem?_cons_zero, List.getElem?_cons_succ, Option.isSome_none, List.length_map, yV_undef, gopV_none, Nat.zero_add, Nat.reduceAdd, beq_self_eq_true, bne_self_eq_false, and_self, Bool.true_and, Bool.false_and, Bool.and_true, Bool.and_false, Bool.true_or, Bool.false_or, Bool.or_true, Bool.or_false]
            refine T_sl_api_Item.put (B15.ext e510) (o := 4) (by show 4 < 5; decide) O10.slR.isc fun h11 B11 u11 => ?_
            have C11 := (B35.ext e510).upd u11 (by simpa using n13.symm)
            have Z11 := (Z.ext e510).upd u11 (by simpa using n15.symm)
            have l11 : SemE PG h11 (Instr.loadAt T_api_Place (.pointer (some ⟨r3, 7, none⟩))) = some (.agg r.pl.cells.toArray) := T_api_Place.agg C11 (by show 7 + 2 ≤ 10; decide)
            simp only [T_api_Record.f2, T_api_Record.f3, T_int.load, C11.cell, Rc.cells, l11, T_api_Daemon.f0, popO_some, bindH_eq, condV_bool, condV_true, condV_false, yV_bool, gopV_tt, gopV_ff, gopV_tf, gopV_ft, pickV_t, pickV_f, pickV_bool, nilS_ptr, add_eq, sub_eq, mul_eq, lss_eq, leq_eq, gtr_eq, geq_eq, not_eq, minI_eq, maxI_eq, extract_0, extract_1, extract_2, eqlI, neqI, makeFunc_eq, decide_true, decide_false, if_true, if_false, Bool.false_eq_true, Bool.not_true, Bool.not_false, reduceIte, List.getElem?_toArray, List.getElem?_cons_zero, List.getElem?_cons_succ, Option.isSome_none, List.length_map, yV_undef, gopV_none, Nat.zero_add, Nat.reduceAdd, beq_self_eq_true, bne_self_eq_false, and_self, Bool.true_and, Bool.false_and, Bool.and_true, Bool.and_false, Bool.true_or, Bool.false_or, Bool.or_true, Bool.or_false]
            have fin : ∀ {d' : Dm} {h12 : PH}, stp d room r = (d', 0) → d'.its = (aply room (ofL d.its) r.ns).1 → Bx h12 r1 (d'.cells v') → Upd [r1] h11 h12 → popO (SemE PG h12 (Instr.loadAt T_api_Daemon (.pointer (some ⟨r1, 0, none⟩)))) fun v81 => SemH PG (storeS T_api_Daemon (.pointer (some ⟨r5, 0, none⟩)) v81) h12 fun v82 h83 => popO (SemE PG h83 (Instr.loadAt T_api_Daemon (.pointer (some ⟨r5, 0, none⟩)))) fun v84 => k (.tuple #[v84, .int .i64 0]) h83 := by
              intro d' h12 hs hi B12 u12
              simp only [Dm.load (o := 0) (d := d') (v := v') B12 rfl, popO_some, bindH_eq, condV_bool, condV_true, condV_false, yV_bool, gopV_tt, gopV_ff, gopV_tf, gopV_ft, pickV_t, pickV_f, pickV_bool, nilS_ptr, add_eq, sub_eq, mul_eq, lss_eq, leq_eq, gtr_eq, geq_eq, not_eq, minI_eq, maxI_eq, extract_0, extract_1, extract_2, eqlI, neqI, makeFunc_eq, decide_true, decide_false, if_true, if_false, Bool.false_eq_true, Bool.not_true, Bool.not_false, reduceIte, List.getElem?_toArray, List.getElem?_cons_zero, List.getElem?_cons_succ, Option.isSome_none, List.length_map]
              refine T_api_Daemon.put (Z11.upd u12 (by simpa using n15.symm)) rfl (by show 0 + 5 ≤ 5; decide) (Dm.isC _ O10.slR.isc) fun h13 B13' u13 => ?_
              simp only [Dm.load (o := 0) (d := d') (v := v') B13' rfl, popO_some, bindH_eq, condV_bool, condV_true, condV_false, yV_bool, gopV_tt, gopV_ff, gopV_tf, gopV_ft, pickV_t, pickV_f, pickV_bool, nilS_ptr, add_eq, sub_eq, mul_eq, lss_eq, leq_eq, gtr_eq, geq_eq, not_eq, minI_eq, maxI_eq, extract_0, extract_1, extract_2, eqlI, neqI, makeFunc_eq, decide_true, decide_false, if_true, if_false, Bool.false_eq_true, Bool.not_true, Bool.not_false, reduceIte, List.getElem?_toArray, List.getElem?_cons_zero, List.getElem?_cons_succ, Option.isSome_none, List.length_map]
              rw [hs] at hk
              have V' : ISl h13 v' d'.its := by
                rw [hi]
                refine ((SlR.upd O10.slR u11 fun x n c e => ?_).upd u12 fun x n c e => ?_).upd u13 fun x n c e => ?_
                · simp only [List.mem_singleton]; intro e'; exact K1 (by rw [← e']; exact nv x n c e)
                · simp only [List.mem_singleton]; intro e'; exact K1 (by rw [← e']; exact nv x n c e)
                · simp only [List.mem_singleton]; intro e'; exact K5 (by rw [← e']; exact nv x n c e)
              exact hk h13 v' V' (nv.of e5) ((((e5.trans e510).fresh u11 f1).fresh u12 f1).fresh u13 f5)
            rcases q1 with q1 | q1
            · have ix := indexAt_array (P := PG) (t := T_2_api_Place) (b := r1) (o := 0) (k := .i64) (j := 0) T_2_api_Place.und T_api_Place.info T_api_Place.size (by omega) (by omega)
              simp only [q1, ix, popO_some, bindH_eq, condV_bool, condV_true, condV_false, yV_bool, gopV_tt, gopV_ff, gopV_tf, gopV_ft, pickV_t, pickV_f, pickV_bool, nilS_ptr, add_eq, sub_eq, mul_eq, lss_eq, leq_eq, gtr_eq, geq_eq, not_eq, minI_eq, maxI_eq, extract_0, extract_1, extract_2, eqlI, neqI, makeFunc_eq, decide_true, decide_false, if_true, if_false, Bool.false_eq_true, Bool.not_true, Bool.not_false, reduceIte, List.getElem?_toArray, List.getElem?_cons_zero, List.getElem?_cons_succ, Option.isSome_none, List.length_map, yV_undef, gopV_none, Nat.zero_add, Nat.reduceAdd, beq_self_eq_true, bne_self_eq_false, and_self, Bool.true_and, Bool.false_and, Bool.and_true, Bool.and_false, Bool.true_or, Bool.false_or, Bool.or_true, Bool.or_false]
              refine T_api_Place.put B11 (o := 0) rfl (by show 0 + 2 ≤ 5; decide) (by simp [Pl.cells, isCell]) fun h12 B12 u12 => ?_
              exact fin (d' := ⟨r.pl, d.p1, (aply room (ofL d.its) r.ns).1⟩) (by rw [hdef, if_pos q1, if_pos q1]) rfl B12 u12
            · have ix := indexAt_array (P := PG) (t := T_2_api_Place) (b := r1) (o := 0) (k := .i64) (j := 1) T_2_api_Place.und T_api_Place.info T_api_Place.size (by omega) (by omega)
              have hn0 : ¬ r.ch = 0 := by omega
              simp only [q1, ix, popO_some, bindH_eq, condV_bool, condV_true, condV_false, yV_bool, gopV_tt, gopV_ff, gopV_tf, gopV_ft, pickV_t, pickV_f, pickV_bool, nilS_ptr, add_eq, sub_eq, mul_eq, lss_eq, leq_eq, gtr_eq, geq_eq, not_eq, minI_eq, maxI_eq, extract_0, extract_1, extract_2, eqlI, neqI, makeFunc_eq, decide_true, decide_false, if_true, if_false, Bool.false_eq_true, Bool.not_true, Bool.not_false, reduceIte, List.getElem?_toArray, List.getElem?_cons_zero, List.getElem?_cons_succ, Option.isSome_none, List.length_map, yV_undef, gopV_none, Nat.zero_add, Nat.reduceAdd, beq_self_eq_true, bne_self_eq_false, and_self, Bool.true_and, Bool.false_and, Bool.and_true, Bool.and_false, Bool.true_or, Bool.false_or, Bool.or_true, Bool.or_false]
              refine T_api_Place.put B11 (o := 2) rfl (by show 2 + 2 ≤ 5; decide) (by simp [Pl.cells, isCell]) fun h12 B12 u12 => ?_
              exact fin (d' := ⟨d.p0, r.pl, (aply room (ofL d.its) r.ns).1⟩) (by rw [hdef, if_neg hn0, if_neg hn0]) rfl B12 u12
          · rw [if_pos c3] at hdef
            have q3 : ((aply room (ofL d.its) r.ns).2 != 0) = true := by simp [c3]
            simp only [neqI, q3, dm_zero, popO_some, bindH_eq, condV_bool, condV_true, condV_false, yV_bool, gopV_tt, gopV_ff, gopV_tf, gopV_ft, pickV_t, pickV_f, pickV_bool, nilS_ptr, add_eq, sub_eq, mul_eq, lss_eq, leq_eq, gtr_eq, geq_eq, not_eq, minI_eq, maxI_eq, extract_0, extract_1, extract_2, eqlI, neqI, makeFunc_eq, decide_true, decide_false, if_true, if_false, Bool.false_eq_true, Bool.not_true, Bool.not_false, reduceIte, List.getElem?_toArray, List.getElem?_cons_zero, List.getElem?_cons_succ, Option.isSome_none, List.length_map, yV_undef, gopV_none, Nat.zero_add, Nat.reduceAdd, beq_self_eq_true, bne_self_eq_false, and_self, Bool.true_and, Bool.false_and, Bool.and_true, Bool.and_false, Bool.true_or, Bool.false_or, Bool.or_true, Bool.or_false]
            exact bad e59 hdef
    · rw [if_pos c1] at hdef
      have q1 : (r.bytes.2 != 0) = true := by simp [c1]
      simp only [neqI, q1, dm_zero, popO_some, bindH_eq, condV_bool, condV_true, condV_false, yV_bool, gopV_tt, gopV_ff, gopV_tf, gopV_ft, pickV_t, pickV_f, pickV_bool, nilS_ptr, add_eq, sub_eq, mul_eq, lss_eq, leq_eq, gtr_eq, geq_eq, not_eq, minI_eq, maxI_eq, extract_0, extract_1, extract_2, eqlI, neqI, makeFunc_eq, decide_true, decide_false, if_true, if_false, Bool.false_eq_true, Bool.not_true, Bool.not_false, reduceIte, List.getElem?_toArray, List.getElem?_cons_zero, List.getElem?_cons_succ, Option.isSome_none, List.length_map, yV_undef, gopV_none, Nat.zero_add, Nat.reduceAdd, beq_self_eq_true, bne_self_eq_false, and_self, Bool.true_and, Bool.false_and, Bool.and_true, Bool.and_false, Bool.true_or, Bool.false_or, Bool.or_true, Bool.or_false]
      exact bad e57 hdef
  · rw [if_pos c0] at hdef
    have q0 : (chk d room != 0) = true := by simp [c0]
    simp only [neqI, q0, dm_zero, popO_some, bindH_eq, condV_bool, condV_true, condV_false, yV_bool, gopV_tt, gopV_ff, gopV_tf, gopV_ft, pickV_t, pickV_f, pickV_bool, nilS_ptr, add_eq, sub_eq, mul_eq, lss_eq, leq_eq, gtr_eq, geq_eq, not_eq, minI_eq, maxI_eq, extract_0, extract_1, extract_2, eqlI, neqI, makeFunc_eq, decide_true, decide_false, if_true, if_false, Bool.false_eq_true, Bool.not_true, Bool.not_false, reduceIte, List.getElem?_toArray, List.getElem?_cons_zero, List.getElem?_cons_succ, Option.isSome_none, List.length_map, yV_undef, gopV_none, Nat.zero_add, Nat.reduceAdd, beq_self_eq_true, bne_self_eq_false, and_self, Bool.true_and, Bool.false_and, Bool.and_true, Bool.and_false, Bool.true_or, Bool.false_or, Bool.or_true, Bool.or_false]
    exact bad u6 hdef
end Go.Proofs.Ytlkjippiaghbmaa
/- record: records replayed. -/
set_option linter.unusedSimpArgs false
set_option linter.unusedVariables false
namespace Go.Proofs.Ytlkjippiaghbmaa
open Go
set_option maxRecDepth 20000
def tcell (p : Tx) : List Value := [.string (tx p)]
theorem tcell.rows (l : List Tx) : Rows 1 (l.map tcell) := fun r hr => by obtain ⟨m, _, rfl⟩ := List.mem_map.1 hr; rfl
theorem t_at {h : PH} {v : Value} {l : List Tx} (S : SlR h 1 v (l.map tcell)) {i : Nat} {x : Tx} (hx : l[i]? = some x) : ∃ a, SemP PG (Instr.indexAt T_sl_string v (.int .i64 (i : Int))) = some (.pointer (some a)) ∧ SemE PG h (Instr.loadAt T_string (.pointer (some a))) = some (.string (tx x)) :=
  S.loadCell (t := T_sl_string) (k := .i64) (j := (i : Int)) T_sl_string.und T_string.info T_string.size T_string.und rfl (by omega) (by rw [Int.toNat_natCast, List.getElem?_map, hx]; rfl)
theorem t_len {h : PH} {v : Value} {l : List Tx} (S : SlR h 1 v (l.map tcell)) : SemP PG (Builtin.len_ #[T_sl_string] T_int #[v]) = some (.int .i64 l.length) := by
  have := S.len (t' := T_int) T_sl_string.und
  rw [List.length_map] at this
  exact this
/-! ### what is read is of numbers that Go has -/
theorem pk_wf (a b c : Nat) (hb : b < 18446744073709551616) (hc : c < 18446744073709551616) (d : ByteArray) : (⟨(a : Int), (b : Int), (c : Int), d⟩ : Pk).wf := ⟨by simp, by simp only; omega, by simp, by simp only; omega⟩
theorem Pk.wf_zero : (default : Pk).wf := ⟨by decide, by decide, by decide, by decide⟩
theorem Pl.wf_zero : Pl.zero.wf := ⟨by decide, by decide⟩
theorem pl_wf (a : Nat) (b : Int) (h : a < 18446744073709551616) : (⟨(a : Int), b⟩ : Pl).wf := ⟨by simp, by simp only; omega⟩
theorem ite_pk {c : Prop} [Decidable c] {p q : Pk} (hp : p.wf) (hq : q.wf) : (if c then p else q).wf := by split <;> assumption
theorem ite_pl {c : Prop} [Decidable c] {p q : Pl} (hp : p.wf) (hq : q.wf) : (if c then p else q).wf := by split <;> assumption
theorem rPk_wf (st : Stt) : (rPk st).1.wf := by
  have h1 := rGet_lt (rGet st 1).2 8
  have h2 := rGet_lt (rGet (rGet st 1).2 8).2 8
  have hc : (rC st).1.wf := pk_wf _ _ _ h1 h2 _
  unfold rPk
  exact ite_pk hc Pk.wf_zero
theorem rMany_wf (g : Int) : ∀ (n : Nat) (st : Stt) (acc : List (Int × Pk)), (∀ x ∈ acc, x.2.wf) → ∀ x ∈ (rMany g n st acc).1, x.2.wf
  | 0, st, acc, h => h
  | n + 1, st, acc, h => by
    unfold rMany
    split
    · refine rMany_wf g n _ _ fun x hx => ?_
      rcases List.mem_append.1 hx with hx | hx
      · exact h x hx
      · simp only [List.mem_singleton] at hx
        subst hx
        exact rPk_wf _
    · exact h
theorem rList_wf (g : Int) (st : Stt) : ∀ x ∈ (rList g st).1, x.2.wf := by
  unfold rList
  simp only
  split
  · exact rMany_wf g _ _ _ (by simp)
  · simp
theorem rPl_wf (st : Stt) : (rPl st).1.wf := by
  have h1 := rGet_lt st 8
  unfold rPl
  exact ite_pl (pl_wf _ _ h1) Pl.wf_zero
theorem Dm.wf_zero : Dm.zero.wf := ⟨Pl.wf_zero, Pl.wf_zero, by simp [Dm.zero]⟩
theorem Rc.wf_zero : Rc.zero.wf := ⟨Dm.wf_zero, Pl.wf_zero, by simp [Rc.zero]⟩
theorem rd_wf (s : Tx) : (Rc.rd s).1.wf := by
  unfold Rc.rd
  split
  · refine ⟨⟨rPl_wf _, rPl_wf _, fun x hx => ?_⟩, Pl.wf_zero, by simp⟩
    obtain ⟨y, hy, rfl⟩ := List.mem_map.1 hx
    exact rList_wf _ _ y hy
  · split
    · refine ⟨Dm.wf_zero, rPl_wf _, fun x hx => ?_⟩
      obtain ⟨y, hy, rfl⟩ := List.mem_map.1 hx
      exact rList_wf _ _ y hy
    · exact ⟨Dm.wf_zero, Pl.wf_zero, by simp⟩
theorem parse_wf (s : Tx) : (parseP s).1.wf := by
  unfold parseP
  split
  · exact Rc.wf_zero
  · exact rd_wf s
/-! ### states that may be -/
structure OkD (d : Dm) (room : Int) : Prop where
  r1 : 1 ≤ room
  r2 : room ≤ 40
  len : (d.its.length : Int) ≤ room
  all : d.its.all It.right = true
  p0 : okPl d.p0
  p1 : okPl d.p1
  srt : ofL d.its = d.its
  nd : (d.its.map It.key).Nodup
theorem chk_ok {d : Dm} {room : Int} : chk d room = 0 ↔ OkD d room := by
  unfold chk
  constructor
  · intro h
    by_cases h1 : ofE room d.its = 1 ∨ ¬ (okPl d.p0 ∧ okPl d.p1)
    · rw [if_pos h1] at h; cases h
    · rw [if_neg h1] at h
      by_cases h2 : ofE room d.its = 0
      · rw [if_neg (by simp [h2])] at h
        by_cases h3 : ofL d.its = d.its
        · have hp : okPl d.p0 ∧ okPl d.p1 := Classical.byContradiction fun hn => h1 (.inr hn)
          unfold ofE at h2
          by_cases a : room < 1 ∨ 40 < room
          · rw [if_pos a] at h2; cases h2
          · rw [if_neg a] at h2
            by_cases b : d.its.all It.right = false
            · rw [if_pos b] at h2; cases h2
            · rw [if_neg b] at h2
              by_cases c : ¬ (d.its.map It.key).Nodup
              · rw [if_pos c] at h2; cases h2
              · rw [if_neg c] at h2
                by_cases e : room < d.its.length
                · rw [if_pos e] at h2; cases h2
                · exact ⟨by omega, by omega, by omega, by simpa using b, hp.1, hp.2, h3, Classical.byContradiction c⟩
        · rw [if_pos h3] at h; cases h
      · rw [if_pos h2] at h; exact absurd h h2
  · intro H
    have e : ofE room d.its = 0 := by
      unfold ofE
      rw [if_neg (by have := H.r1; have := H.r2; omega), if_neg (by simp [H.all]), if_neg (by simpa using H.nd), if_neg (by have := H.len; omega)]
    rw [if_neg (by simp [e, H.p0, H.p1]), if_neg (by simp [e]), if_neg (by simp [H.srt])]
theorem aply_room {room : Int} : ∀ {L : List It}, Srt L → (L.length : Int) ≤ room → ∀ l : List Nt, ((aply room L l).1.length : Int) ≤ room
  | L, hs, h, [] => h
  | L, hs, h, n :: ns => by
    unfold aply
    split
    · exact app_len hs h n
    · exact aply_room (hs.app room n) (app_len hs h n) ns
theorem stp_len {d : Dm} {room : Int} {r : Rc} : (stp d room r).1.its.length ≤ 40 := by
  unfold stp
  split
  · simp [Dm.zero]
  · rename_i h0
    have H := chk_ok.1 (Classical.byContradiction fun h => h0 h)
    split
    · simp [Dm.zero]
    · split
      · split
        · simp [Dm.zero]
        · rename_i h1
          have H1 := chk_ok.1 (Classical.byContradiction fun h => h1 h)
          have a := H1.len
          have b := H1.r2
          show r.s.its.length ≤ 40
          omega
      · split
        · simp [Dm.zero]
        · have a := aply_room (room := room) (srt_ofL d.its) (by rw [H.srt]; exact H.len) r.ns
          have b := H.r2
          show (aply room (ofL d.its) r.ns).1.length ≤ 40
          omega
/-! ### replaying -/
def first0 (room : Int) (s : Tx) : Dm × Int :=
  if (parseP s).2 ≠ 0 then (Dm.zero, (parseP s).2) else if (parseP s).1.k ≠ 1 then (Dm.zero, 5) else if chk (parseP s).1.s room ≠ 0 then (Dm.zero, chk (parseP s).1.s room) else ((parseP s).1.s, 0)
def rstep (room : Int) (st : Dm × Int) (s : Tx) : Dm × Int := if st.2 = 0 then (if (parseP s).2 = 0 then stp st.1 room (parseP s).1 else (st.1, (parseP s).2)) else st
def rpl (room : Int) : List Tx → Dm × Int
  | [] => (Dm.zero, 3)
  | s :: l => if (l.foldl (rstep room) (first0 room s)).2 ≠ 0 then (Dm.zero, (l.foldl (rstep room) (first0 room s)).2) else l.foldl (rstep room) (first0 room s)
theorem first0_len {room : Int} {s : Tx} : (first0 room s).1.its.length ≤ 40 := by
  unfold first0
  split
  · simp [Dm.zero]
  · split
    · simp [Dm.zero]
    · split
      · simp [Dm.zero]
      · rename_i h1
        have H1 := chk_ok.1 (Classical.byContradiction fun h => h1 h)
        have a := H1.len
        have b := H1.r2
        show (parseP s).1.s.its.length ≤ 40
        omega
theorem parse_few {s : Tx} : (parseP s).1.s.its.length ≤ 1000 := by
  unfold parseP
  split
  · simp [Rc.zero, Dm.zero]
  · have : (rList 2 (rPl (rPl (rGet (0, s) 1).2).2).2).1.length ≤ 1000 := by
      unfold rList
      simp only
      have hn := rGet_lt (rPl (rPl (rGet (0, s) 1).2).2).2 1
      split
      · have key : ∀ (n : Nat) (st : Stt) (acc : List (Int × Pk)), (rMany 2 n st acc).1.length ≤ acc.length + n := by
          intro n
          induction n with
          | zero => intro st acc; simp [rMany]
          | succ n ih =>
            intro st acc
            unfold rMany
            split
            · have := ih (rOne 2 st).2 (acc ++ [(rOne 2 st).1])
              simp only [List.length_append, List.length_cons, List.length_nil] at this
              omega
            · simp only; omega
        have := key (rGet (rPl (rPl (rGet (0, s) 1).2).2).2 1).1 (rGet (rPl (rPl (rGet (0, s) 1).2).2).2 1).2 []
        simp only [List.length_nil] at this
        omega
      · simp
    unfold Rc.rd
    split
    · simpa using this
    · split
      · simp [Dm.zero]
      · simp [Dm.zero]
theorem rec_first_ok {h : PH} {room : Int} {s : Tx} {k : Value → PH → Prop} (hk : ∀ h' v', ISl h' v' (first0 room s).1.its → NewV h v' → Ext h h' → k (.tuple #[(first0 room s).1.v v', .int .i64 (first0 room s).2]) h') : CallsH PG id_record_first #[.int .i64 room, .string (tx s)] h k := by
  apply record_first.call
  unfold record_first
  intro r1 hr1
  try rw [bindH_eq]
  have u1 : Ext h (h.set r1 (.cells (zcells PG T_api_Daemon) T_api_Daemon)) := Upd.new hr1
  have Z := T_api_Daemon.zbox (h := h) (r := r1)
  generalize h.set r1 (.cells (zcells PG T_api_Daemon) T_api_Daemon) = h1 at *
  have f1 : Fresh h [r1] := Fresh.one hr1
  refine parse_ok fun h2 v w V W nv nw u2 => ?_
  have e2 := u1.trans u2
  simp only [popO_some, bindH_eq, condV_bool, condV_true, condV_false, yV_bool, gopV_tt, gopV_ff, gopV_tf, gopV_ft, pickV_t, pickV_f, pickV_bool, nilS_ptr, add_eq, sub_eq, mul_eq, lss_eq, leq_eq, gtr_eq, geq_eq, not_eq, minI_eq, maxI_eq, extract_0, extract_1, extract_2, eqlI, neqI, makeFunc_eq, decide_true, decide_false, if_true, if_false, Bool.false_eq_true, Bool.not_true, Bool.not_false, reduceIte, List.getElem?_toArray, List.getElem?_cons_zero, List.getElem?_cons_succ, Option.isSome_none, List.length_map]
  intro r7 hr7
  try rw [bindH_eq]
  refine T_api_Record.fill hr7 rfl (Rc.isC _ V.isc W.isc) fun h3 B3 u3 => ?_
  have e3 := e2.trans u3
  have Z3 := (Z.ext u2).ext u3
  have hn1 : ∀ x n c, v = .slice (some x) n c → x.block ≠ r1 := fun x n c e hb => Z.known (by rw [← hb]; exact nv x n c e)
  have bad : ∀ {h' : PH} {e : Int}, Ext h3 h' → first0 room s = (Dm.zero, e) → SemH PG (storeS T_api_Daemon (.pointer (some ⟨r1, 0, none⟩)) (Dm.v Dm.zero (.slice none 0 0))) h' fun v12 h13 => popO (SemE PG h13 (Instr.loadAt T_api_Daemon (.pointer (some ⟨r1, 0, none⟩)))) fun v14 => k (.tuple #[v14, .int .i64 e]) h13 := by
    intro h' e u hs
    refine T_api_Daemon.put (Z3.ext u) rfl (by show 0 + 5 ≤ 5; decide) (Dm.isC _ rfl) fun h2 B2 u2 => ?_
    simp only [Dm.load (o := 0) (d := Dm.zero) (v := .slice none 0 0) B2 rfl, popO_some, bindH_eq, condV_bool, condV_true, condV_false, yV_bool, gopV_tt, gopV_ff, gopV_tf, gopV_ft, pickV_t, pickV_f, pickV_bool, nilS_ptr, add_eq, sub_eq, mul_eq, lss_eq, leq_eq, gtr_eq, geq_eq, not_eq, minI_eq, maxI_eq, extract_0, extract_1, extract_2, eqlI, neqI, makeFunc_eq, decide_true, decide_false, if_true, if_false, Bool.false_eq_true, Bool.not_true, Bool.not_false, reduceIte, List.getElem?_toArray, List.getElem?_cons_zero, List.getElem?_cons_succ, Option.isSome_none, List.length_map]
    rw [hs] at hk
    exact hk h2 _ nilI NewV.nil ((e3.trans u).fresh u2 f1)
  have hdef : first0 room s = if (parseP s).2 ≠ 0 then (Dm.zero, (parseP s).2) else if (parseP s).1.k ≠ 1 then (Dm.zero, 5) else if chk (parseP s).1.s room ≠ 0 then (Dm.zero, chk (parseP s).1.s room) else ((parseP s).1.s, 0) := rfl
  by_cases c0 : (parseP s).2 = 0
  · rw [if_neg (by simp [c0])] at hdef
    simp only [c0, neqI, T_api_Record.f0, T_int.load, B3.cell, Rc.cells, popO_some, bindH_eq, condV_bool, condV_true, condV_false, yV_bool, gopV_tt, gopV_ff, gopV_tf, gopV_ft, pickV_t, pickV_f, pickV_bool, nilS_ptr, add_eq, sub_eq, mul_eq, lss_eq, leq_eq, gtr_eq, geq_eq, not_eq, minI_eq, maxI_eq, extract_0, extract_1, extract_2, eqlI, neqI, makeFunc_eq, decide_true, decide_false, if_true, if_false, Bool.false_eq_true, Bool.not_true, Bool.not_false, reduceIte, List.getElem?_toArray, List.getElem?_cons_zero, List.getElem?_cons_succ, Option.isSome_none, List.length_map, yV_undef, gopV_none, Nat.zero_add, Nat.reduceAdd, beq_self_eq_true, bne_self_eq_false, and_self, Bool.true_and, Bool.false_and, Bool.and_true, Bool.and_false, Bool.true_or, Bool.false_or, Bool.or_true, Bool.or_false]
    by_cases c1 : (parseP s).1.k = 1
    · rw [if_neg (by simp [c1])] at hdef
      have q : ((parseP s).1.k != 1) = false := by simp [c1]
      simp only [q, T_api_Record.f1, Dm.load (o := 1) (d := (parseP s).1.s) (v := v) B3 rfl, popO_some, bindH_eq, condV_bool, condV_true, condV_false, yV_bool, gopV_tt, gopV_ff, gopV_tf, gopV_ft, pickV_t, pickV_f, pickV_bool, nilS_ptr, add_eq, sub_eq, mul_eq, lss_eq, leq_eq, gtr_eq, geq_eq, not_eq, minI_eq, maxI_eq, extract_0, extract_1, extract_2, eqlI, neqI, makeFunc_eq, decide_true, decide_false, if_true, if_false, Bool.false_eq_true, Bool.not_true, Bool.not_false, reduceIte, List.getElem?_toArray, List.getElem?_cons_zero, List.getElem?_cons_succ, Option.isSome_none, List.length_map, yV_undef, gopV_none, Nat.zero_add, Nat.reduceAdd, beq_self_eq_true, bne_self_eq_false, and_self, Bool.true_and, Bool.false_and, Bool.and_true, Bool.and_false, Bool.true_or, Bool.false_or, Bool.or_true, Bool.or_false]
      refine check_ok (V.ext u3) parse_few fun h4 u4 => ?_
      have e4 := e3.trans u4
      by_cases c2 : chk (parseP s).1.s room = 0
      · rw [if_neg (by simp [c2])] at hdef
        simp only [c2, neqI, T_api_Record.f1, Dm.load (o := 1) (d := (parseP s).1.s) (v := v) (B3.ext u4) rfl, popO_some, bindH_eq, condV_bool, condV_true, condV_false, yV_bool, gopV_tt, gopV_ff, gopV_tf, gopV_ft, pickV_t, pickV_f, pickV_bool, nilS_ptr, add_eq, sub_eq, mul_eq, lss_eq, leq_eq, gtr_eq, geq_eq, not_eq, minI_eq, maxI_eq, extract_0, extract_1, extract_2, eqlI, neqI, makeFunc_eq, decide_true, decide_false, if_true, if_false, Bool.false_eq_true, Bool.not_true, Bool.not_false, reduceIte, List.getElem?_toArray, List.getElem?_cons_zero, List.getElem?_cons_succ, Option.isSome_none, List.length_map, yV_undef, gopV_none, Nat.zero_add, Nat.reduceAdd, beq_self_eq_true, bne_self_eq_false, and_self, Bool.true_and, Bool.false_and, Bool.and_true, Bool.and_false, Bool.true_or, Bool.false_or, Bool.or_true, Bool.or_false]
        refine T_api_Daemon.put (Z3.ext u4) rfl (by show 0 + 5 ≤ 5; decide) (Dm.isC _ V.isc) fun h5 B5 u5 => ?_
        simp only [Dm.load (o := 0) (d := (parseP s).1.s) (v := v) B5 rfl, popO_some, bindH_eq, condV_bool, condV_true, condV_false, yV_bool, gopV_tt, gopV_ff, gopV_tf, gopV_ft, pickV_t, pickV_f, pickV_bool, nilS_ptr, add_eq, sub_eq, mul_eq, lss_eq, leq_eq, gtr_eq, geq_eq, not_eq, minI_eq, maxI_eq, extract_0, extract_1, extract_2, eqlI, neqI, makeFunc_eq, decide_true, decide_false, if_true, if_false, Bool.false_eq_true, Bool.not_true, Bool.not_false, reduceIte, List.getElem?_toArray, List.getElem?_cons_zero, List.getElem?_cons_succ, Option.isSome_none, List.length_map]
        rw [hdef] at hk
        exact hk h5 v (((V.ext u3).ext u4).upd u5 fun x n c e => by simpa using hn1 x n c e) (nv.of u1) (e4.fresh u5 f1)
      · rw [if_pos c2] at hdef
        have q2 : (chk (parseP s).1.s room != 0) = true := by simp [c2]
        simp only [neqI, q2, dm_zero, popO_some, bindH_eq, condV_bool, condV_true, condV_false, yV_bool, gopV_tt, gopV_ff, gopV_tf, gopV_ft, pickV_t, pickV_f, pickV_bool, nilS_ptr, add_eq, sub_eq, mul_eq, lss_eq, leq_eq, gtr_eq, geq_eq, not_eq, minI_eq, maxI_eq, extract_0, extract_1, extract_2, eqlI, neqI, makeFunc_eq, decide_true, decide_false, if_true, if_false, Bool.false_eq_true, Bool.not_true, Bool.not_false, reduceIte, List.getElem?_toArray, List.getElem?_cons_zero, List.getElem?_cons_succ, Option.isSome_none, List.length_map, yV_undef, gopV_none, Nat.zero_add, Nat.reduceAdd, beq_self_eq_true, bne_self_eq_false, and_self, Bool.true_and, Bool.false_and, Bool.and_true, Bool.and_false, Bool.true_or, Bool.false_or, Bool.or_true, Bool.or_false]
        exact bad u4 hdef
    · rw [if_pos c1] at hdef
      have q : ((parseP s).1.k != 1) = true := by simp [c1]
      simp only [q, dm_zero, popO_some, bindH_eq, condV_bool, condV_true, condV_false, yV_bool, gopV_tt, gopV_ff, gopV_tf, gopV_ft, pickV_t, pickV_f, pickV_bool, nilS_ptr, add_eq, sub_eq, mul_eq, lss_eq, leq_eq, gtr_eq, geq_eq, not_eq, minI_eq, maxI_eq, extract_0, extract_1, extract_2, eqlI, neqI, makeFunc_eq, decide_true, decide_false, if_true, if_false, Bool.false_eq_true, Bool.not_true, Bool.not_false, reduceIte, List.getElem?_toArray, List.getElem?_cons_zero, List.getElem?_cons_succ, Option.isSome_none, List.length_map, yV_undef, gopV_none, Nat.zero_add, Nat.reduceAdd, beq_self_eq_true, bne_self_eq_false, and_self, Bool.true_and, Bool.false_and, Bool.and_true, Bool.and_false, Bool.true_or, Bool.false_or, Bool.or_true, Bool.or_false]
      exact bad Upd.refl hdef
  · rw [if_pos c0] at hdef
    have q0 : ((parseP s).2 != 0) = true := by simp [c0]
    simp only [neqI, q0, dm_zero, popO_some, bindH_eq, condV_bool, condV_true, condV_false, yV_bool, gopV_tt, gopV_ff, gopV_tf, gopV_ft, pickV_t, pickV_f, pickV_bool, nilS_ptr, add_eq, sub_eq, mul_eq, lss_eq, leq_eq, gtr_eq, geq_eq, not_eq, minI_eq, maxI_eq, extract_0, extract_1, extract_2, eqlI, neqI, makeFunc_eq, decide_true, decide_false, if_true, if_false, Bool.false_eq_true, Bool.not_true, Bool.not_false, reduceIte, List.getElem?_toArray, List.getElem?_cons_zero, List.getElem?_cons_succ, Option.isSome_none, List.length_map, yV_undef, gopV_none, Nat.zero_add, Nat.reduceAdd, beq_self_eq_true, bne_self_eq_false, and_self, Bool.true_and, Bool.false_and, Bool.and_true, Bool.and_false, Bool.true_or, Bool.false_or, Bool.or_true, Bool.or_false]
    exact bad Upd.refl hdef
end Go.Proofs.Ytlkjippiaghbmaa
/- record: Replay. -/
set_option linter.unusedSimpArgs false
set_option linter.unusedVariables false
namespace Go.Proofs.Ytlkjippiaghbmaa
open Go
set_option maxRecDepth 20000
def outG (l : List It) (v : Value) (G : List Nat) : Prop := l ≠ [] → ∀ x n c, v = .slice (some x) n c → x.block ∉ G
theorem outG.new {h : PH} {l : List It} {v : Value} {G : List Nat} (n : NewV h v) (hG : ∀ b ∈ G, h b ≠ none) : outG l v G := fun _ x m c e hm => hG _ hm (n x m c e)
theorem ISl.updG {h h' : PH} {l : List It} {v : Value} {G F : List Nat} (V : ISl h v l) (o : outG l v G) (u : Upd F h h') (hF : ∀ b ∈ F, b ∈ G) : ISl h' v l := SlR.upd0 V u fun hne x n c e hm => o (by simpa using hne) x n c e (hF _ hm)
theorem replay1_ok {h : PH} {rE rD rM : Nat} {d : Dm} {e room : Int} {v : Value} {s : Tx} {G : List Nat} (BE : Bx h rE [.int .i64 e]) (BD : Bx h rD (d.cells v)) (BM : Bx h rM [.int .i64 room]) (V : ISl h v d.its) (n1 : rE ≠ rD) (n2 : rM ≠ rD) (n3 : rM ≠ rE) (hG : ∀ b ∈ G, h b ≠ none) (gE : rE ∈ G) (gD : rD ∈ G) (ov : outG d.its v G) (hl : d.its.length ≤ 1000) {k : Value → PH → Prop}
    (hk : ∀ h' v', Bx h' rE [.int .i64 (rstep room (d, e) s).2] → Bx h' rD ((rstep room (d, e) s).1.cells v') → ISl h' v' (rstep room (d, e) s).1.its → outG (rstep room (d, e) s).1.its v' G → (∀ {h0 : PH}, NewV h0 v → Ext h0 h → NewV h0 v') → Upd [rE, rD] h h' → k (.tuple #[]) h') :
    CallsH PG id_record_Replay_1 #[.string (tx s), .pointer (some ⟨rE, 0, none⟩), .pointer (some ⟨rD, 0, none⟩), .pointer (some ⟨rM, 0, none⟩)] h k := by
  apply record_Replay_1.call
  unfold record_Replay_1
  simp only [rc_zero, T_api_Errno.load, BE.cell, popO_some, bindH_eq, condV_bool, condV_true, condV_false, yV_bool, gopV_tt, gopV_ff, gopV_tf, gopV_ft, pickV_t, pickV_f, pickV_bool, nilS_ptr, add_eq, sub_eq, mul_eq, lss_eq, leq_eq, gtr_eq, geq_eq, not_eq, minI_eq, maxI_eq, extract_0, extract_1, extract_2, eqlI, neqI, makeFunc_eq, decide_true, decide_false, if_true, if_false, Bool.false_eq_true, Bool.not_true, Bool.not_false, reduceIte, List.getElem?_toArray, List.getElem?_cons_zero, List.getElem?_cons_succ, Option.isSome_none, List.length_map, yV_undef, gopV_none, Nat.zero_add, Nat.reduceAdd, beq_self_eq_true, bne_self_eq_false, and_self, Bool.true_and, Bool.false_and, Bool.and_true, Bool.and_false, Bool.true_or, Bool.false_or, Bool.or_true, Bool.or_false]
  intro r3 hr3
  try rw [bindH_eq]
  refine T_api_Record.fill hr3 rfl (Rc.isC _ rfl rfl) fun h1 B1 u1 => ?_
  have BE1 := BE.ext u1
  have BD1 := BD.ext u1
  have BM1 := BM.ext u1
  have n3E : r3 ≠ rE := (BE.apart hr3).symm
  have n3D : r3 ≠ rD := (BD.apart hr3).symm
  have hdef : rstep room (d, e) s = if e = 0 then (if (parseP s).2 = 0 then stp d room (parseP s).1 else (d, (parseP s).2)) else (d, e) := rfl
  simp only [BE1.cell, popO_some, bindH_eq, condV_bool, condV_true, condV_false, yV_bool, gopV_tt, gopV_ff, gopV_tf, gopV_ft, pickV_t, pickV_f, pickV_bool, nilS_ptr, add_eq, sub_eq, mul_eq, lss_eq, leq_eq, gtr_eq, geq_eq, not_eq, minI_eq, maxI_eq, extract_0, extract_1, extract_2, eqlI, neqI, makeFunc_eq, decide_true, decide_false, if_true, if_false, Bool.false_eq_true, Bool.not_true, Bool.not_false, reduceIte, List.getElem?_toArray, List.getElem?_cons_zero, List.getElem?_cons_succ, Option.isSome_none, List.length_map, yV_undef, gopV_none, Nat.zero_add, Nat.reduceAdd, beq_self_eq_true, bne_self_eq_false, and_self, Bool.true_and, Bool.false_and, Bool.and_true, Bool.and_false, Bool.true_or, Bool.false_or, Bool.or_true, Bool.or_false]
  have last : ∀ {h2 : PH} {d' : Dm} {e' : Int} {v' : Value}, rstep room (d, e) s = (d', e') → Bx h2 rD (d'.cells v') → Bx h2 rE [.int .i64 e] → ISl h2 v' d'.its → outG d'.its v' G → (∀ {h0 : PH}, NewV h0 v → Ext h0 h → NewV h0 v') → Upd [rE, rD] h h2 → record_Replay_1_k26 k (.pointer (some ⟨rE, 0, none⟩)) (.int .i64 e') h2 := by
    intro h2 d' e' v' hs B2 E2 V2 o2 w2 u2
    unfold record_Replay_1_k26
    refine T_api_Errno.put E2 (o := 0) (by show 0 < 1; decide) rfl fun h3 B3 u3 => ?_
    rw [hs] at hk
    exact hk h3 v' B3 (B2.upd u3 (by simpa using n1.symm)) (ISl.updG V2 o2 u3 fun b hb => by simp only [List.mem_singleton] at hb; subst hb; exact gE) o2 w2 (u2.trans (u3.mono fun b hb => .inl (by simp only [List.mem_singleton] at hb; simp [hb])))
  have u1' : Upd [rE, rD] h h1 := u1.upd
  by_cases c0 : e = 0
  · subst c0
    rw [if_pos rfl] at hdef
    simp only [eqlI, BE1.cell, popO_some, bindH_eq, condV_bool, condV_true, condV_false, yV_bool, gopV_tt, gopV_ff, gopV_tf, gopV_ft, pickV_t, pickV_f, pickV_bool, nilS_ptr, add_eq, sub_eq, mul_eq, lss_eq, leq_eq, gtr_eq, geq_eq, not_eq, minI_eq, maxI_eq, extract_0, extract_1, extract_2, eqlI, neqI, makeFunc_eq, decide_true, decide_false, if_true, if_false, Bool.false_eq_true, Bool.not_true, Bool.not_false, reduceIte, List.getElem?_toArray, List.getElem?_cons_zero, List.getElem?_cons_succ, Option.isSome_none, List.length_map, yV_undef, gopV_none, Nat.zero_add, Nat.reduceAdd, beq_self_eq_true, bne_self_eq_false, and_self, Bool.true_and, Bool.false_and, Bool.and_true, Bool.and_false, Bool.true_or, Bool.false_or, Bool.or_true, Bool.or_false]
    refine ⟨by trivial, ?_⟩
    refine parse_ok fun h2 vi vn VI VN ni nn u2 => ?_
    simp only [popO_some, bindH_eq, condV_bool, condV_true, condV_false, yV_bool, gopV_tt, gopV_ff, gopV_tf, gopV_ft, pickV_t, pickV_f, pickV_bool, nilS_ptr, add_eq, sub_eq, mul_eq, lss_eq, leq_eq, gtr_eq, geq_eq, not_eq, minI_eq, maxI_eq, extract_0, extract_1, extract_2, eqlI, neqI, makeFunc_eq, decide_true, decide_false, if_true, if_false, Bool.false_eq_true, Bool.not_true, Bool.not_false, reduceIte, List.getElem?_toArray, List.getElem?_cons_zero, List.getElem?_cons_succ, Option.isSome_none, List.length_map]
    have B2 := B1.ext u2
    refine T_api_Record.put B2 rfl (by show 0 + 10 ≤ 10; decide) (Rc.isC _ VI.isc VN.isc) fun h3 B3 u3 => ?_
    have hn3 : ∀ {x : Addr}, h1 x.block = none → x.block ∉ [r3] := fun hx => by
      simp only [List.mem_singleton]; intro hb; rw [hb] at hx; exact B1.known hx
    have VI3 := SlR.upd VI u3 fun x n c e => hn3 (ni x n c e)
    have VN3 := SlR.upd VN u3 fun x n c e => hn3 (nn x n c e)
    have BE3 := (BE1.ext u2).upd u3 (by simpa using n3E.symm)
    have BD3 := (BD1.ext u2).upd u3 (by simpa using n3D.symm)
    have BM3 := (BM1.ext u2).upd u3 (by simpa using (BM.apart hr3))
    have e3 : Ext h h3 := (u1.trans u2).fresh u3 (Fresh.one hr3)
    unfold record_Replay_1_k15
    by_cases c1 : (parseP s).2 = 0
    · rw [if_pos c1] at hdef
      have q : ((parseP s).2 == 0) = true := by simp [c1]
      have lr : SemE PG h3 (Instr.loadAt T_api_Record (.pointer (some ⟨r3, 0, none⟩))) = some ((parseP s).1.v vi vn) := T_api_Record.agg B3 (by show 0 + 10 ≤ 10; decide)
      simp only [eqlI, q, Dm.load (o := 0) (d := d) (v := v) BD3 rfl, T_int.load, BM3.cell, lr, popO_some, bindH_eq, condV_bool, condV_true, condV_false, yV_bool, gopV_tt, gopV_ff, gopV_tf, gopV_ft, pickV_t, pickV_f, pickV_bool, nilS_ptr, add_eq, sub_eq, mul_eq, lss_eq, leq_eq, gtr_eq, geq_eq, not_eq, minI_eq, maxI_eq, extract_0, extract_1, extract_2, eqlI, neqI, makeFunc_eq, decide_true, decide_false, if_true, if_false, Bool.false_eq_true, Bool.not_true, Bool.not_false, reduceIte, List.getElem?_toArray, List.getElem?_cons_zero, List.getElem?_cons_succ, Option.isSome_none, List.length_map, yV_undef, gopV_none, Nat.zero_add, Nat.reduceAdd, beq_self_eq_true, bne_self_eq_false, and_self, Bool.true_and, Bool.false_and, Bool.and_true, Bool.and_false, Bool.true_or, Bool.false_or, Bool.or_true, Bool.or_false]
      refine step_ok (V.ext e3) VI3 VN3 (parse_wf s) hl fun h4 v' V4 nv u4 => ?_
      simp only [popO_some, bindH_eq, condV_bool, condV_true, condV_false, yV_bool, gopV_tt, gopV_ff, gopV_tf, gopV_ft, pickV_t, pickV_f, pickV_bool, nilS_ptr, add_eq, sub_eq, mul_eq, lss_eq, leq_eq, gtr_eq, geq_eq, not_eq, minI_eq, maxI_eq, extract_0, extract_1, extract_2, eqlI, neqI, makeFunc_eq, decide_true, decide_false, if_true, if_false, Bool.false_eq_true, Bool.not_true, Bool.not_false, reduceIte, List.getElem?_toArray, List.getElem?_cons_zero, List.getElem?_cons_succ, Option.isSome_none, List.length_map]
      have o4 : outG (stp d room (parseP s).1).1.its v' G := outG.new (nv.of e3) hG
      refine T_api_Daemon.put (BD3.ext u4) rfl (by show 0 + 5 ≤ 5; decide) (Dm.isC _ V4.isc) fun h5 B5 u5 => ?_
      refine last (d' := (stp d room (parseP s).1).1) (e' := (stp d room (parseP s).1).2) (v' := v') hdef B5 ((BE3.ext u4).upd u5 (by simpa using n1)) (ISl.updG V4 o4 u5 fun b hb => by simp only [List.mem_singleton] at hb; subst hb; exact gD) o4 (fun _ e0 => (nv.of e3).of e0) ?_
      exact ((e3.trans u4).upd).trans (u5.mono fun b hb => .inl (by simp only [List.mem_singleton] at hb; simp [hb]))
    · rw [if_neg c1] at hdef
      have q : ((parseP s).2 == 0) = false := by simp [c1]
      simp only [eqlI, q, popO_some, bindH_eq, condV_bool, condV_true, condV_false, yV_bool, gopV_tt, gopV_ff, gopV_tf, gopV_ft, pickV_t, pickV_f, pickV_bool, nilS_ptr, add_eq, sub_eq, mul_eq, lss_eq, leq_eq, gtr_eq, geq_eq, not_eq, minI_eq, maxI_eq, extract_0, extract_1, extract_2, eqlI, neqI, makeFunc_eq, decide_true, decide_false, if_true, if_false, Bool.false_eq_true, Bool.not_true, Bool.not_false, reduceIte, List.getElem?_toArray, List.getElem?_cons_zero, List.getElem?_cons_succ, Option.isSome_none, List.length_map, yV_undef, gopV_none, Nat.zero_add, Nat.reduceAdd, beq_self_eq_true, bne_self_eq_false, and_self, Bool.true_and, Bool.false_and, Bool.and_true, Bool.and_false, Bool.true_or, Bool.false_or, Bool.or_true, Bool.or_false]
      exact last (d' := d) (e' := (parseP s).2) (v' := v) hdef BD3 BE3 (V.ext e3) ov (fun n _ => n) e3.upd
  · rw [if_neg c0] at hdef
    have q : (e == 0) = false := by simp [c0]
    simp only [eqlI, q, popO_some, bindH_eq, condV_bool, condV_true, condV_false, yV_bool, gopV_tt, gopV_ff, gopV_tf, gopV_ft, pickV_t, pickV_f, pickV_bool, nilS_ptr, add_eq, sub_eq, mul_eq, lss_eq, leq_eq, gtr_eq, geq_eq, not_eq, minI_eq, maxI_eq, extract_0, extract_1, extract_2, eqlI, neqI, makeFunc_eq, decide_true, decide_false, if_true, if_false, Bool.false_eq_true, Bool.not_true, Bool.not_false, reduceIte, List.getElem?_toArray, List.getElem?_cons_zero, List.getElem?_cons_succ, Option.isSome_none, List.length_map, yV_undef, gopV_none, Nat.zero_add, Nat.reduceAdd, beq_self_eq_true, bne_self_eq_false, and_self, Bool.true_and, Bool.false_and, Bool.and_true, Bool.and_false, Bool.true_or, Bool.false_or, Bool.or_true, Bool.or_false]
    refine ⟨by trivial, ?_⟩
    unfold record_Replay_1_k15
    simp only [eqlI, q, popO_some, bindH_eq, condV_bool, condV_true, condV_false, yV_bool, gopV_tt, gopV_ff, gopV_tf, gopV_ft, pickV_t, pickV_f, pickV_bool, nilS_ptr, add_eq, sub_eq, mul_eq, lss_eq, leq_eq, gtr_eq, geq_eq, not_eq, minI_eq, maxI_eq, extract_0, extract_1, extract_2, eqlI, neqI, makeFunc_eq, decide_true, decide_false, if_true, if_false, Bool.false_eq_true, Bool.not_true, Bool.not_false, reduceIte, List.getElem?_toArray, List.getElem?_cons_zero, List.getElem?_cons_succ, Option.isSome_none, List.length_map, yV_undef, gopV_none, Nat.zero_add, Nat.reduceAdd, beq_self_eq_true, bne_self_eq_false, and_self, Bool.true_and, Bool.false_and, Bool.and_true, Bool.and_false, Bool.true_or, Bool.false_or, Bool.or_true, Bool.or_false]
    exact last (d' := d) (e' := e) (v' := v) hdef BD1 BE1 (V.ext u1) ov (fun n _ => n) u1'
theorem replay_ok {h : PH} {room : Int} {x : Value} {l : List Tx} (S : SlR h 1 x (l.map tcell)) (hl : l.length ≤ 1000) {k : Value → PH → Prop}
    (hk : ∀ h' v', ISl h' v' (rpl room l).1.its → NewV h v' → Ext h h' → k (.tuple #[(rpl room l).1.v v', .int .i64 (rpl room l).2]) h') : CallsH PG id_record_Replay #[.int .i64 room, x] h k := by
  apply record_Replay.call
  unfold record_Replay
  have lx := t_len S
  intro r1 hr1
  try rw [bindH_eq]
  have u1 : Ext h (h.set r1 (.cells (Value.cells (.int .i64 room)) T_int)) := Upd.new hr1
  have B1 : Bx (h.set r1 (.cells (Value.cells (.int .i64 room)) T_int)) r1 [.int .i64 room] := Bx.new
  generalize h.set r1 (.cells (Value.cells (.int .i64 room)) T_int) = h1 at *
  intro r3 hr3
  try rw [bindH_eq]
  have u3 : Ext h1 (h1.set r3 (.cells (zcells PG T_api_Daemon) T_api_Daemon)) := Upd.new hr3
  have Z := T_api_Daemon.zbox (h := h1) (r := r3)
  have B13 := B1.ext u3
  have n13 : r1 ≠ r3 := B1.apart hr3
  generalize h1.set r3 (.cells (zcells PG T_api_Daemon) T_api_Daemon) = h3 at *
  have e3 := u1.trans u3
  have f3 : Fresh h [r3] := Fresh.one (u1.none hr3)
  cases l with
  | nil =>
    simp only [lx, List.length_nil, eqlI, show (((0 : Nat) : Int) == 0) = true from rfl, dm_zero, popO_some, bindH_eq, condV_bool, condV_true, condV_false, yV_bool, gopV_tt, gopV_ff, gopV_tf, gopV_ft, pickV_t, pickV_f, pickV_bool, nilS_ptr, add_eq, sub_eq, mul_eq, lss_eq, leq_eq, gtr_eq, geq_eq, not_eq, minI_eq, maxI_eq, extract_0, extract_1, extract_2, eqlI, neqI, makeFunc_eq, decide_true, decide_false, if_true, if_false, Bool.false_eq_true, Bool.not_true, Bool.not_false, reduceIte, List.getElem?_toArray, List.getElem?_cons_zero, List.getElem?_cons_succ, Option.isSome_none, List.length_map, yV_undef, gopV_none, Nat.zero_add, Nat.reduceAdd, beq_self_eq_true, bne_self_eq_false, and_self, Bool.true_and, Bool.false_and, Bool.and_true, Bool.and_false, Bool.true_or, Bool.false_or, Bool.or_true, Bool.or_false]
    refine T_api_Daemon.put Z rfl (by show 0 + 5 ≤ 5; decide) (Dm.isC _ rfl) fun h4 B4 u4 => ?_
    simp only [Dm.load (o := 0) (d := Dm.zero) (v := .slice none 0 0) B4 rfl, popO_some, bindH_eq, condV_bool, condV_true, condV_false, yV_bool, gopV_tt, gopV_ff, gopV_tf, gopV_ft, pickV_t, pickV_f, pickV_bool, nilS_ptr, add_eq, sub_eq, mul_eq, lss_eq, leq_eq, gtr_eq, geq_eq, not_eq, minI_eq, maxI_eq, extract_0, extract_1, extract_2, eqlI, neqI, makeFunc_eq, decide_true, decide_false, if_true, if_false, Bool.false_eq_true, Bool.not_true, Bool.not_false, reduceIte, List.getElem?_toArray, List.getElem?_cons_zero, List.getElem?_cons_succ, Option.isSome_none, List.length_map]
    exact hk h4 _ nilI NewV.nil (e3.fresh u4 f3)
  | cons s l =>
    have q : (((s :: l).length : Int) == 0) = false := by
      rw [beq_eq_false_iff_ne]
      simp only [List.length_cons]
      omega
    obtain ⟨a0, p0, q0⟩ := t_at (S.ext e3) (i := 0) (x := s) rfl
    rw [show ((0 : Nat) : Int) = 0 from rfl] at p0
    simp only [lx, eqlI, q, T_int.load, B13.cell, p0, q0, popO_some, bindH_eq, condV_bool, condV_true, condV_false, yV_bool, gopV_tt, gopV_ff, gopV_tf, gopV_ft, pickV_t, pickV_f, pickV_bool, nilS_ptr, add_eq, sub_eq, mul_eq, lss_eq, leq_eq, gtr_eq, geq_eq, not_eq, minI_eq, maxI_eq, extract_0, extract_1, extract_2, eqlI, neqI, makeFunc_eq, decide_true, decide_false, if_true, if_false, Bool.false_eq_true, Bool.not_true, Bool.not_false, reduceIte, List.getElem?_toArray, List.getElem?_cons_zero, List.getElem?_cons_succ, Option.isSome_none, List.length_map, yV_undef, gopV_none, Nat.zero_add, Nat.reduceAdd, beq_self_eq_true, bne_self_eq_false, and_self, Bool.true_and, Bool.false_and, Bool.and_true, Bool.and_false, Bool.true_or, Bool.false_or, Bool.or_true, Bool.or_false]
    refine rec_first_ok fun h4 v V4 nv u4 => ?_
    have e4 := e3.trans u4
    simp only [popO_some, bindH_eq, condV_bool, condV_true, condV_false, yV_bool, gopV_tt, gopV_ff, gopV_tf, gopV_ft, pickV_t, pickV_f, pickV_bool, nilS_ptr, add_eq, sub_eq, mul_eq, lss_eq, leq_eq, gtr_eq, geq_eq, not_eq, minI_eq, maxI_eq, extract_0, extract_1, extract_2, eqlI, neqI, makeFunc_eq, decide_true, decide_false, if_true, if_false, Bool.false_eq_true, Bool.not_true, Bool.not_false, reduceIte, List.getElem?_toArray, List.getElem?_cons_zero, List.getElem?_cons_succ, Option.isSome_none, List.length_map]
    intro rD hrD
    try rw [bindH_eq]
    intro rE hrE
    try rw [bindH_eq]
    have uD : Ext h4 (h4.set rD (.cells (zcells PG T_api_Daemon) T_api_Daemon)) := Upd.new hrD
    have ZD := T_api_Daemon.zbox (h := h4) (r := rD)
    generalize h4.set rD (.cells (zcells PG T_api_Daemon) T_api_Daemon) = h5 at *
    have uE : Ext h5 (h5.set rE (.cells (zcells PG T_api_Errno) T_api_Errno)) := Upd.new hrE
    have ZE := T_api_Errno.zbox (h := h5) (r := rE)
    have ZD6 := ZD.ext uE
    have nED : rE ≠ rD := (ZD.apart hrE).symm
    generalize h5.set rE (.cells (zcells PG T_api_Errno) T_api_Errno) = h6 at *
    have e46 := uD.trans uE
    have B6 := (B13.ext u4).ext e46
    have Z6 := (Z.ext u4).ext e46
    have n1D : r1 ≠ rD := (B13.ext u4).apart hrD
    have n1E : r1 ≠ rE := ((B13.ext u4).ext uD).apart hrE
    have n3D : r3 ≠ rD := (Z.ext u4).apart hrD
    have n3E : r3 ≠ rE := ((Z.ext u4).ext uD).apart hrE
    have K4 : ∀ b ∈ [r1, r3, rD, rE], h6 b ≠ none := by
      intro b hb
      simp only [List.mem_cons, List.not_mem_nil, or_false] at hb
      rcases hb with rfl | rfl | rfl | rfl
      · exact B6.known
      · exact Z6.known
      · exact ZD6.known
      · exact ZE.known
    have ov : outG (first0 room s).1.its v [r1, r3, rD, rE] := fun hne y n c e hm => by
      have hn := nv y n c e
      have hk4 := V4.known (by simpa using hne) e
      simp only [List.mem_cons, List.not_mem_nil, or_false] at hm
      rcases hm with hm | hm | hm | hm
      · rw [hm] at hn; exact B13.known hn
      · rw [hm] at hn; exact Z.known hn
      · rw [hm] at hk4; exact hk4 hrD
      · rw [hm] at hk4; exact hk4 (uD.none hrE)
    have nvh : NewV h v := nv.of e3
    have fG : Fresh h [rE, rD] := fun b hb => by
      simp only [List.mem_cons, List.not_mem_nil, or_false] at hb
      rcases hb with rfl | rfl
      · exact (e4.trans uD).none hrE
      · exact e4.none hrD
    have V6 := (V4.ext uD).ext uE
    refine T_api_Daemon.put ZD6 rfl (by show 0 + 5 ≤ 5; decide) (Dm.isC _ V4.isc) fun h7 B7 u7 => ?_
    refine T_api_Errno.put (ZE.upd u7 (by simpa using nED)) (o := 0) (by show 0 < 1; decide) rfl fun h8 B8 u8 => ?_
    have BD8 := B7.upd u8 (by simpa using nED.symm)
    have V8 : ISl h8 v (first0 room s).1.its := ISl.updG (ISl.updG V6 ov u7 fun b hb => by simp only [List.mem_singleton] at hb; subst hb; simp) ov u8 fun b hb => by simp only [List.mem_singleton] at hb; subst hb; simp
    have B18 := (B6.upd u7 (by simpa using n1D)).upd u8 (by simpa using n1E)
    have Z8 := (Z6.upd u7 (by simpa using n3D)).upd u8 (by simpa using n3E)
    have e8 : Ext h h8 := (((e4.trans e46).fresh u7 fun b hb => fG b (by simp only [List.mem_singleton] at hb; simp [hb]))).fresh u8 fun b hb => fG b (by simp only [List.mem_singleton] at hb; simp [hb])
    have hcut := S.cut (lo := some (.int .i64 ((1 : Nat) : Int))) (hi := none) (l := 1) (m := (s :: l).length) T_sl_string.und T_string.info T_string.size (.inr ⟨_, rfl⟩) (.inl ⟨rfl, by simp⟩) (by simp) (by simp)
    obtain ⟨x', s1, t1, -⟩ := hcut
    have hrows : (((s :: l).map tcell).take (s :: l).length).drop 1 = l.map tcell := by
      rw [List.take_of_length_le (by simp)]; rfl
    rw [hrows] at t1
    rw [show ((1 : Nat) : Int) = 1 from rfl] at s1
    have lx' := t_len t1
    have e7' : first0 room s = ((first0 room s).1, (first0 room s).2) := rfl
    simp only [s1, lx', popO_some, bindH_eq, condV_bool, condV_true, condV_false, yV_bool, gopV_tt, gopV_ff, gopV_tf, gopV_ft, pickV_t, pickV_f, pickV_bool, nilS_ptr, add_eq, sub_eq, mul_eq, lss_eq, leq_eq, gtr_eq, geq_eq, not_eq, minI_eq, maxI_eq, extract_0, extract_1, extract_2, eqlI, neqI, makeFunc_eq, decide_true, decide_false, if_true, if_false, Bool.false_eq_true, Bool.not_true, Bool.not_false, reduceIte, List.getElem?_toArray, List.getElem?_cons_zero, List.getElem?_cons_succ, Option.isSome_none, List.length_map, yV_undef, gopV_none, Nat.zero_add, Nat.reduceAdd, beq_self_eq_true, bne_self_eq_false, and_self, Bool.true_and, Bool.false_and, Bool.and_true, Bool.and_false, Bool.true_or, Bool.false_or, Bool.or_true, Bool.or_false]
    refine ⟨fun vs h' => ∃ (i : Nat) (d : Dm) (e : Int) (v : Value), i ≤ l.length ∧ vs = [.pointer (some ⟨r3, 0, none⟩), .pointer (some ⟨rD, 0, none⟩), .pointer (some ⟨rE, 0, none⟩), .func (.func id_record_Replay_1) #[] #[.pointer (some ⟨rE, 0, none⟩), .pointer (some ⟨rD, 0, none⟩), .pointer (some ⟨r1, 0, none⟩)], x', .int .i64 (l.length : Int), .int .i64 (i : Int)] ∧ Bx h' rE [.int .i64 e] ∧ Bx h' rD (d.cells v) ∧ Bx h' r1 [.int .i64 room] ∧ Bx h' r3 (Dm.zero.cells (.slice none 0 0)) ∧ ISl h' v d.its ∧ outG d.its v [r1, r3, rD, rE] ∧ NewV h v ∧ Ext h h' ∧ (d, e) = (l.take i).foldl (rstep room) (first0 room s) ∧ d.its.length ≤ 1000, upTo l.length 6, ⟨0, _, _, v, by omega, rfl, B8, BD8, B18, Z8, V8, ov, nvh, e8, rfl, by have := first0_len (room := room) (s := s); omega⟩, ?_⟩
    rintro ρ h' ⟨i, d, e, v', hi, hvs, BE, BD, BM, BZ, V', o', nv', e', hst, hlen⟩
    simp only [List.map_cons, List.map_nil, List.cons.injEq, and_true] at hvs
    obtain ⟨v4, v6, v7, v8, v25, v26, v27⟩ := hvs
    simp only [v4, v6, v7, v8, v25, v26, v27, List.map_cons, List.map_nil]
    unfold record_Replay_b30
    have hGK : ∀ b ∈ [r1, r3, rD, rE], h' b ≠ none := by
      intro b hb
      simp only [List.mem_cons, List.not_mem_nil, or_false] at hb
      rcases hb with rfl | rfl | rfl | rfl
      · exact BM.known
      · exact BZ.known
      · exact BD.known
      · exact BE.known
    by_cases hlt : i < l.length
    · have g1 : ((i : Int) < (l.length : Int)) = True := eq_true (by omega)
      have gi : IntKind.i64.wrap ((i : Int) + 1) = ((i + 1 : Nat) : Int) := by rw [i64_wrap (by omega) (by simp only [List.length_cons] at hl; omega)]; omega
      obtain ⟨pa, p1, q1⟩ := t_at (t1.ext e') (i := i) (x := l[i]) (List.getElem?_eq_getElem hlt)
      have htk : (l.take (i + 1)).foldl (rstep room) (first0 room s) = rstep room (d, e) l[i] := by
        rw [List.take_succ_eq_append_getElem hlt, List.foldl_append, ← hst]; rfl
      generalize l[i] = y at *
      simp only [g1, p1, q1, popO_some, bindH_eq, condV_bool, condV_true, condV_false, yV_bool, gopV_tt, gopV_ff, gopV_tf, gopV_ft, pickV_t, pickV_f, pickV_bool, nilS_ptr, add_eq, sub_eq, mul_eq, lss_eq, leq_eq, gtr_eq, geq_eq, not_eq, minI_eq, maxI_eq, extract_0, extract_1, extract_2, eqlI, neqI, makeFunc_eq, decide_true, decide_false, if_true, if_false, Bool.false_eq_true, Bool.not_true, Bool.not_false, reduceIte, List.getElem?_toArray, List.getElem?_cons_zero, List.getElem?_cons_succ, Option.isSome_none, List.length_map]
      show CallsH PG id_record_Replay_1 #[.string (tx y), .pointer (some ⟨rE, 0, none⟩), .pointer (some ⟨rD, 0, none⟩), .pointer (some ⟨r1, 0, none⟩)] h' _
      refine replay1_ok BE BD BM V' nED n1D n1E hGK (by simp) (by simp) o' hlen fun h9 v9 BE9 BD9 V9 o9 nw9 u9 => ?_
      simp only [gi, popO_some, bindH_eq, condV_bool, condV_true, condV_false, yV_bool, gopV_tt, gopV_ff, gopV_tf, gopV_ft, pickV_t, pickV_f, pickV_bool, nilS_ptr, add_eq, sub_eq, mul_eq, lss_eq, leq_eq, gtr_eq, geq_eq, not_eq, minI_eq, maxI_eq, extract_0, extract_1, extract_2, eqlI, neqI, makeFunc_eq, decide_true, decide_false, if_true, if_false, Bool.false_eq_true, Bool.not_true, Bool.not_false, reduceIte, List.getElem?_toArray, List.getElem?_cons_zero, List.getElem?_cons_succ, Option.isSome_none, List.length_map]
      refine ⟨⟨i + 1, _, _, v9, by omega, rfl, BE9, BD9, BM.upd u9 (by simp [n1D, n1E]), BZ.upd u9 (by simp [n3D, n3E]), V9, o9, ?_, e'.fresh u9 fG, htk.symm, ?_⟩, ?_⟩
      · exact nw9 nv' e'
      · unfold rstep
        split
        · split
          · have := stp_len (d := d) (room := room) (r := (parseP y).1); simp only at *; omega
          · exact hlen
        · exact hlen
      · simp only [upTo, List.getElem?_cons_succ, List.getElem?_cons_zero]
        omega
    · have g1 : ((i : Int) < (l.length : Int)) = False := eq_false (by omega)
      rw [List.take_of_length_le (by omega)] at hst
      have hdef : rpl room (s :: l) = if e ≠ 0 then (Dm.zero, e) else (d, e) := by
        show (if (l.foldl (rstep room) (first0 room s)).2 ≠ 0 then _ else _) = _
        rw [← hst]
      simp only [g1, T_api_Errno.load, BE.cell, popO_some, bindH_eq, condV_bool, condV_true, condV_false, yV_bool, gopV_tt, gopV_ff, gopV_tf, gopV_ft, pickV_t, pickV_f, pickV_bool, nilS_ptr, add_eq, sub_eq, mul_eq, lss_eq, leq_eq, gtr_eq, geq_eq, not_eq, minI_eq, maxI_eq, extract_0, extract_1, extract_2, eqlI, neqI, makeFunc_eq, decide_true, decide_false, if_true, if_false, Bool.false_eq_true, Bool.not_true, Bool.not_false, reduceIte, List.getElem?_toArray, List.getElem?_cons_zero, List.getElem?_cons_succ, Option.isSome_none, List.length_map, yV_undef, gopV_none, Nat.zero_add, Nat.reduceAdd, beq_self_eq_true, bne_self_eq_false, and_self, Bool.true_and, Bool.false_and, Bool.and_true, Bool.and_false, Bool.true_or, Bool.false_or, Bool.or_true, Bool.or_false]
      by_cases h0 : e = 0
      · rw [if_neg (by simp [h0])] at hdef
        have q0' : (e != 0) = false := by simp [h0]
        simp only [neqI, q0', Dm.load (o := 0) (d := d) (v := v') BD rfl, popO_some, bindH_eq, condV_bool, condV_true, condV_false, yV_bool, gopV_tt, gopV_ff, gopV_tf, gopV_ft, pickV_t, pickV_f, pickV_bool, nilS_ptr, add_eq, sub_eq, mul_eq, lss_eq, leq_eq, gtr_eq, geq_eq, not_eq, minI_eq, maxI_eq, extract_0, extract_1, extract_2, eqlI, neqI, makeFunc_eq, decide_true, decide_false, if_true, if_false, Bool.false_eq_true, Bool.not_true, Bool.not_false, reduceIte, List.getElem?_toArray, List.getElem?_cons_zero, List.getElem?_cons_succ, Option.isSome_none, List.length_map, yV_undef, gopV_none, Nat.zero_add, Nat.reduceAdd, beq_self_eq_true, bne_self_eq_false, and_self, Bool.true_and, Bool.false_and, Bool.and_true, Bool.and_false, Bool.true_or, Bool.false_or, Bool.or_true, Bool.or_false]
        refine T_api_Daemon.put BZ rfl (by show 0 + 5 ≤ 5; decide) (Dm.isC _ V'.isc) fun h9 B9 u9 => ?_
        simp only [Dm.load (o := 0) (d := d) (v := v') B9 rfl, popO_some, bindH_eq, condV_bool, condV_true, condV_false, yV_bool, gopV_tt, gopV_ff, gopV_tf, gopV_ft, pickV_t, pickV_f, pickV_bool, nilS_ptr, add_eq, sub_eq, mul_eq, lss_eq, leq_eq, gtr_eq, geq_eq, not_eq, minI_eq, maxI_eq, extract_0, extract_1, extract_2, eqlI, neqI, makeFunc_eq, decide_true, decide_false, if_true, if_false, Bool.false_eq_true, Bool.not_true, Bool.not_false, reduceIte, List.getElem?_toArray, List.getElem?_cons_zero, List.getElem?_cons_succ, Option.isSome_none, List.length_map]
        rw [hdef] at hk
        subst h0
        exact hk h9 v' (ISl.updG V' o' u9 fun b hb => by simp only [List.mem_singleton] at hb; subst hb; simp) nv' (e'.fresh u9 f3)
      · rw [if_pos h0] at hdef
        have q0' : (e != 0) = true := by simp [h0]
        simp only [neqI, q0', dm_zero, BE.cell, popO_some, bindH_eq, condV_bool, condV_true, condV_false, yV_bool, gopV_tt, gopV_ff, gopV_tf, gopV_ft, pickV_t, pickV_f, pickV_bool, nilS_ptr, add_eq, sub_eq, mul_eq, lss_eq, leq_eq, gtr_eq, geq_eq, not_eq, minI_eq, maxI_eq, extract_0, extract_1, extract_2, eqlI, neqI, makeFunc_eq, decide_true, decide_false, if_true, if_false, Bool.false_eq_true, Bool.not_true, Bool.not_false, reduceIte, List.getElem?_toArray, List.getElem?_cons_zero, List.getElem?_cons_succ, Option.isSome_none, List.length_map, yV_undef, gopV_none, Nat.zero_add, Nat.reduceAdd, beq_self_eq_true, bne_self_eq_false, and_self, Bool.true_and, Bool.false_and, Bool.and_true, Bool.and_false, Bool.true_or, Bool.false_or, Bool.or_true, Bool.or_false]
        refine T_api_Daemon.put BZ rfl (by show 0 + 5 ≤ 5; decide) (Dm.isC _ rfl) fun h9 B9 u9 => ?_
        have BE9 := BE.upd u9 (by simpa using n3E.symm)
        simp only [BE9.cell, Dm.load (o := 0) (d := Dm.zero) (v := .slice none 0 0) B9 rfl, popO_some, bindH_eq, condV_bool, condV_true, condV_false, yV_bool, gopV_tt, gopV_ff, gopV_tf, gopV_ft, pickV_t, pickV_f, pickV_bool, nilS_ptr, add_eq, sub_eq, mul_eq, lss_eq, leq_eq, gtr_eq, geq_eq, not_eq, minI_eq, maxI_eq, extract_0, extract_1, extract_2, eqlI, neqI, makeFunc_eq, decide_true, decide_false, if_true, if_false, Bool.false_eq_true, Bool.not_true, Bool.not_false, reduceIte, List.getElem?_toArray, List.getElem?_cons_zero, List.getElem?_cons_succ, Option.isSome_none, List.length_map, yV_undef, gopV_none, Nat.zero_add, Nat.reduceAdd, beq_self_eq_true, bne_self_eq_false, and_self, Bool.true_and, Bool.false_and, Bool.and_true, Bool.and_false, Bool.true_or, Bool.false_or, Bool.or_true, Bool.or_false]
        refine ⟨by trivial, ?_⟩
        rw [hdef] at hk
        exact hk h9 _ nilI NewV.nil (e'.fresh u9 f3)
end Go.Proofs.Ytlkjippiaghbmaa
/- record: what is written is what is read. -/
set_option linter.unusedSimpArgs false
set_option linter.unusedVariables false
namespace Go.Proofs.Ytlkjippiaghbmaa
open Go
set_option maxRecDepth 20000
def rS1 (st : Stt) : (Pl × List (Int × Pk)) × Stt := (((rPl st).1, (rList 2 (rPl st).2).1), (rList 2 (rPl st).2).2)
def rS0 (st : Stt) : Rc × Stt := (⟨1, ⟨(rPl st).1, (rS1 (rPl st).2).1.1, (rS1 (rPl st).2).1.2.map It.of⟩, 0, Pl.zero, []⟩, (rS1 (rPl st).2).2)
def rN1 (st : Stt) : (Pl × List (Int × Pk)) × Stt := (((rPl st).1, (rList 4 (rPl st).2).1), (rList 4 (rPl st).2).2)
def rN0 (st : Stt) : Rc × Stt := (⟨2, Dm.zero, ((rGet st 1).1 : Int), (rN1 (rGet st 1).2).1.1, (rN1 (rGet st 1).2).1.2.map Nt.of⟩, (rN1 (rGet st 1).2).2)
def rdB (k : Nat) (st : Stt) : Rc × Stt := if k = 1 then rS0 st else if k = 2 then rN0 st else (⟨(k : Int), Dm.zero, 0, Pl.zero, []⟩, st)
def rdS (st : Stt) : Rc × Stt := (((fun _ r => r) (rGet st 1).1 (rdB (rGet st 1).1 (rGet st 1).2).1), (rdB (rGet st 1).1 (rGet st 1).2).2)
theorem rd_eq (s : Tx) : Rc.rd s = rdS (0, s) := by
  unfold Rc.rd rdS rdB
  split
  · rfl
  · split <;> rfl
theorem rS1_sticky : Sticky rS1 := fun e s h => (rList_sticky 2).keep (rPl_sticky e s h) h
theorem rS0_sticky : Sticky rS0 := fun e s h => rS1_sticky.keep (rPl_sticky e s h) h
theorem rN1_sticky : Sticky rN1 := fun e s h => (rList_sticky 4).keep (rPl_sticky e s h) h
theorem rN0_sticky : Sticky rN0 := fun e s h => rN1_sticky.keep (rGet_sticky 1 e s h) h
theorem rdB_sticky (k : Nat) : Sticky (rdB k) := fun e s h => by
  unfold rdB
  split
  · exact rS0_sticky e s h
  · split
    · exact rN0_sticky e s h
    · rfl
def ItOk (i : It) : Prop := 1 ≤ i.g ∧ i.g ≤ 2 ∧ i.p.right = true
def NtOk (n : Nt) : Prop := 1 ≤ n.k ∧ n.k ≤ 4 ∧ n.p.right = true
theorem okOne_it {i : It} : okOne i.x ↔ ItOk i := by
  unfold okOne It.x kindN ItOk
  simp only
  split <;> constructor <;> rintro ⟨a, b, c⟩ <;> refine ⟨?_, ?_, c⟩ <;> omega
theorem okOne_nt {i : Nt} : okOne i.x ↔ NtOk i := by
  unfold okOne Nt.x kindN NtOk
  simp only
  split <;> constructor <;> rintro ⟨a, b, c⟩ <;> refine ⟨?_, ?_, c⟩ <;> omega
theorem x_it {i : It} (h : ItOk i) : i.x = (i.g, i.p) := by
  unfold ItOk at h
  unfold It.x kindN
  rw [if_neg (by omega)]
theorem x_nt {i : Nt} (h : NtOk i) : i.x = (i.k, i.p) := by
  unfold NtOk at h
  unfold Nt.x kindN
  rw [if_neg (by omega)]
theorem of_it {i : It} (h : ItOk i) : It.of i.x = i := by rw [x_it h]; rfl
theorem of_nt {i : Nt} (h : NtOk i) : Nt.of i.x = i := by rw [x_nt h]; rfl
theorem ofs_it {l : List It} (h : ∀ i ∈ l, ItOk i) : (l.map It.x).map It.of = l := by
  rw [List.map_map]
  conv => rhs; rw [← List.map_id l]
  exact List.map_congr_left fun i hi => of_it (h i hi)
theorem ofs_nt {l : List Nt} (h : ∀ i ∈ l, NtOk i) : (l.map Nt.x).map Nt.of = l := by
  rw [List.map_map]
  conv => rhs; rw [← List.map_id l]
  exact List.map_congr_left fun i hi => of_nt (h i hi)
theorem okList_it {l : List It} (hl : l.length ≤ 40) : okList (l.map It.x) ↔ ∀ i ∈ l, ItOk i := by
  unfold okList
  simp only [List.length_map, List.forall_mem_map, okOne_it]
  exact ⟨fun h => h.2, fun h => ⟨by omega, h⟩⟩
theorem okList_nt {l : List Nt} (hl : l.length ≤ 16) : okList (l.map Nt.x) ↔ ∀ i ∈ l, NtOk i := by
  unfold okList
  simp only [List.length_map, List.forall_mem_map, okOne_nt]
  exact ⟨fun h => h.2, fun h => ⟨by omega, h⟩⟩
/-- What has bytes. -/
structure RcOk (r : Rc) : Prop where
  plain : r.plain = true
  a : r.k = 1 → okPl r.s.p0 ∧ okPl r.s.p1 ∧ ∀ i ∈ r.s.its, ItOk i
  b : r.k = 2 → okPl r.pl ∧ ∀ i ∈ r.ns, NtOk i
def Rc.bs (r : Rc) : Tx := if r.k = 1 then be 1 1 ++ (r.s.p0.bs ++ (r.s.p1.bs ++ listBs (r.s.its.map It.x))) else be 2 1 ++ (be r.ch.toNat 1 ++ (r.pl.bs ++ listBs (r.ns.map Nt.x)))
theorem wBytes_bad {st : Stt} (h : st.1 = 1) : wBytes st = ([], 1) := by unfold wBytes; rw [h, if_neg (by decide)]
theorem bytes_iff (r : Rc) : (RcOk r ∧ r.bytes = (r.bs, 0)) ∨ (¬ RcOk r ∧ r.bytes = ([], 1)) := by
  by_cases hp : r.plain = true
  · by_cases k1 : r.k = 1
    · obtain ⟨-, -, -, h40⟩ := plain1 hp k1
      have e0 : wByte (0, []) r.k = (0, be 1 1) := by rw [k1]; rfl
      by_cases a : okPl r.s.p0
      · by_cases b : okPl r.s.p1
        · by_cases c : okList (r.s.its.map It.x)
          · left
            refine ⟨⟨hp, fun _ => ⟨a, b, (okList_it h40).1 c⟩, fun h => by omega⟩, ?_⟩
            unfold Rc.bytes Rc.wr Rc.bs
            rw [if_pos hp, if_pos k1, if_pos k1, e0, wPl_good a, wPl_good b, wList_good c]
            simp only [wBytes, if_true, List.append_assoc]
          · right
            refine ⟨fun h => c ((okList_it h40).2 (h.a k1).2.2), ?_⟩
            unfold Rc.bytes Rc.wr
            rw [if_pos hp, if_pos k1, e0, wPl_good a, wPl_good b]
            exact wBytes_bad (wList_wrong c _)
        · right
          refine ⟨fun h => b (h.a k1).2.1, ?_⟩
          unfold Rc.bytes Rc.wr
          rw [if_pos hp, if_pos k1, e0, wPl_good a]
          exact wBytes_bad (wList_bad (wPl_wrong b _) _)
      · right
        refine ⟨fun h => a (h.a k1).1, ?_⟩
        unfold Rc.bytes Rc.wr
        rw [if_pos hp, if_pos k1, e0]
        exact wBytes_bad (wList_bad (wPl_bad (wPl_wrong a _) _) _)
    · obtain ⟨k2, -, hc, h16⟩ := plain2 hp k1
      have e0 : wByte (0, []) r.k = (0, be 2 1) := by rw [k2]; rfl
      have e1 : wByte (0, be 2 1) r.ch = (0, be 2 1 ++ be r.ch.toNat 1) := by unfold wByte; rw [if_pos (by omega)]
      by_cases a : okPl r.pl
      · by_cases c : okList (r.ns.map Nt.x)
        · left
          refine ⟨⟨hp, fun h => absurd h k1, fun _ => ⟨a, (okList_nt h16).1 c⟩⟩, ?_⟩
          unfold Rc.bytes Rc.wr Rc.bs
          rw [if_pos hp, if_neg k1, if_neg k1, e0, e1, wPl_good a, wList_good c]
          simp only [wBytes, if_true, List.append_assoc]
        · right
          refine ⟨fun h => c ((okList_nt h16).2 (h.b k2).2), ?_⟩
          unfold Rc.bytes Rc.wr
          rw [if_pos hp, if_neg k1, e0, e1, wPl_good a]
          exact wBytes_bad (wList_wrong c _)
      · right
        refine ⟨fun h => a (h.b k2).1, ?_⟩
        unfold Rc.bytes Rc.wr
        rw [if_pos hp, if_neg k1, e0, e1]
        exact wBytes_bad (wList_bad (wPl_wrong a _) _)
  · right
    refine ⟨fun h => hp h.plain, ?_⟩
    unfold Rc.bytes
    rw [if_neg hp]
theorem bytes_zero {r : Rc} (h : r.bytes.2 = 0) : RcOk r ∧ r.bytes.1 = r.bs := by
  rcases bytes_iff r with ⟨a, b⟩ | ⟨a, b⟩
  · exact ⟨a, by rw [b]⟩
  · rw [b] at h; cases h
theorem bytes_not {r : Rc} (h : r.bytes.2 ≠ 0) : ¬ RcOk r ∧ r.bytes = ([], 1) := by
  rcases bytes_iff r with ⟨a, b⟩ | ⟨a, b⟩
  · rw [b] at h; exact absurd rfl h
  · exact ⟨a, b⟩
theorem rd_reads {r : Rc} (h : RcOk r) (w : r.wf) : Reads rdS r.bs r := by
  have hp := h.plain
  by_cases k1 : r.k = 1
  · obtain ⟨a, b, c⟩ := h.a k1
    obtain ⟨q0, q1, q2, q3⟩ := plain1 hp k1
    have hl := rList_reads (g := 2) (by decide) (l := r.s.its.map It.x) (by simp; omega) fun x hx => by
      obtain ⟨i, hi, rfl⟩ := List.mem_map.1 hx
      have := c i hi
      rw [x_it this]
      exact ⟨this.1, this.2.1, this.2.2, w.s.i i hi⟩
    have s1 : Reads rS1 _ _ := (rPl_reads b w.s.b.1 w.s.b.2).bind (S := fun _ st => rList 2 st) (f := fun p l => (p, l)) hl fun _ => rList_sticky 2
    have s0 : Reads rS0 _ _ := (rPl_reads a w.s.a.1 w.s.a.2).bind (S := fun _ st => rS1 st) (f := fun p x => (⟨1, ⟨p, x.1, x.2.map It.of⟩, 0, Pl.zero, []⟩ : Rc)) s1 fun _ => rS1_sticky
    have sB : Reads (rdB 1) _ _ := s0
    have sS : Reads rdS _ _ := (rGet_reads (n := 1) (c := 1) (by decide)).bind (S := fun k st => rdB k st) (f := fun _ r => r) sB fun k => rdB_sticky k
    have er : (⟨1, ⟨r.s.p0, r.s.p1, (r.s.its.map It.x).map It.of⟩, 0, Pl.zero, []⟩ : Rc) = r := by
      rw [ofs_it c]
      obtain ⟨k, ⟨p0, p1, its⟩, ch, pl, ns⟩ := r
      simp only at k1 q0 q1 q2
      subst k1 q0 q1 q2
      rfl
    simp only at sS
    rw [er] at sS
    unfold Rc.bs
    rw [if_pos k1]
    exact sS
  · obtain ⟨k2, q0, q1, q2⟩ := plain2 hp k1
    obtain ⟨a, c⟩ := h.b k2
    have hl := rList_reads (g := 4) (by decide) (l := r.ns.map Nt.x) (by simp; omega) fun x hx => by
      obtain ⟨i, hi, rfl⟩ := List.mem_map.1 hx
      have := c i hi
      rw [x_nt this]
      exact ⟨this.1, this.2.1, this.2.2, w.n i hi⟩
    have s1 : Reads rN1 _ _ := (rPl_reads a w.pl.1 w.pl.2).bind (S := fun _ st => rList 4 st) (f := fun p l => (p, l)) hl fun _ => rList_sticky 4
    have s0 : Reads rN0 _ _ := (rGet_reads (n := r.ch.toNat) (c := 1) (by omega)).bind (S := fun _ st => rN1 st) (f := fun (k : Nat) (x : Pl × List (Int × Pk)) => (⟨2, Dm.zero, (k : Int), x.1, x.2.map Nt.of⟩ : Rc)) s1 fun _ => rN1_sticky
    have sB : Reads (rdB 2) _ _ := s0
    have sS : Reads rdS _ _ := (rGet_reads (n := 2) (c := 1) (by decide)).bind (S := fun k st => rdB k st) (f := fun _ r => r) sB fun k => rdB_sticky k
    have er : (⟨2, Dm.zero, (r.ch.toNat : Int), r.pl, (r.ns.map Nt.x).map Nt.of⟩ : Rc) = r := by
      rw [ofs_nt c, Int.toNat_of_nonneg (by omega)]
      obtain ⟨k, ⟨p0, p1, its⟩, ch, pl, ns⟩ := r
      simp only at k2 q0
      subst k2
      rw [← q0]
    simp only at sS
    rw [er] at sS
    unfold Rc.bs
    rw [if_neg k1]
    exact sS
theorem parse_back {r : Rc} (h : RcOk r) (w : r.wf) : parseP r.bs = (r, 0) := by
  have hr := (rd_reads h w).all []
  rw [List.append_nil] at hr
  unfold parseP parseSt
  rw [rd_eq, hr]
  simp only [h.plain, if_true]
  rfl
theorem parse_more {r : Rc} (h : RcOk r) (w : r.wf) {more : Tx} (hm : more ≠ []) : parseP (r.bs ++ more) = (Rc.zero, 7) := by
  have hr := (rd_reads h w).all more
  have e7 : rEnd (0, more) = 7 := by unfold rEnd; rw [if_pos ⟨rfl, hm⟩]
  unfold parseP parseSt
  rw [rd_eq, hr]
  simp only [h.plain, if_true, e7]
  rfl
theorem parse_cut {r : Rc} (h : RcOk r) (w : r.wf) {n : Nat} (hn : n < r.bs.length) : parseP (r.bs.take n) = (Rc.zero, 6) := by
  have hr := (rd_reads h w).cut n hn
  have hst : (parseSt (r.bs.take n)).1 = 6 := by
    unfold parseSt
    rw [rd_eq]
    split
    · exact hr
    · exact rFail_sticky hr (by decide)
  have e6 : rEnd (parseSt (r.bs.take n)) = 6 := by unfold rEnd; rw [hst, if_neg (by simp)]
  unfold parseP
  rw [e6, if_pos (by decide)]
end Go.Proofs.Ytlkjippiaghbmaa
/- record: the statements' helpers; the example. -/
set_option linter.unusedSimpArgs false
set_option linter.unusedVariables false
namespace Go.Proofs.Ytlkjippiaghbmaa
open Go
set_option maxRecDepth 20000
theorem two_load {h : PH} {r : Nat} {cs : List Value} (B : Bx h r cs) {o : Nat} {p q : Pl} (ho : (cs.drop o).take 4 = p.cells ++ q.cells) : SemE PG h (Instr.loadAt T_2_api_Place (.pointer (some ⟨r, o, none⟩))) = some (two p q) := by
  have hl : o + 4 ≤ cs.length := by
    have : ((cs.drop o).take 4).length = 4 := by rw [ho]; rfl
    rw [List.length_take, List.length_drop] at this; omega
  rw [T_2_api_Place.agg B hl, ho]; rfl
theorem pl_load {h : PH} {r : Nat} {cs : List Value} (B : Bx h r cs) {o : Nat} {p : Pl} (ho : (cs.drop o).take 2 = p.cells) : SemE PG h (Instr.loadAt T_api_Place (.pointer (some ⟨r, o, none⟩))) = some (.agg p.cells.toArray) := by
  have hl : o + 2 ≤ cs.length := by
    have : ((cs.drop o).take 2).length = 2 := by rw [ho]; rfl
    rw [List.length_take, List.length_drop] at this; omega
  rw [T_api_Place.agg B hl, ho]
theorem sameState_ok {h : PH} {d d' : Dm} {v v' : Value} (V : ISl h v d.its) (V' : ISl h v' d'.its) (hl : d.its.length ≤ 1000000) {k : Value → PH → Prop} (hk : ∀ h', Ext h h' → k (.bool (decide (d = d'))) h') : CallsH PG id_carrackref17_SameState #[d.v v, d'.v v'] h k := by
  apply carrackref17_SameState.call
  unfold carrackref17_SameState
  intro r1 hr1
  try rw [bindH_eq]
  have u1 : Ext h (h.set r1 (.cells (Value.cells (d.v v)) T_api_Daemon)) := Upd.new hr1
  have B1 : Bx (h.set r1 (.cells (Value.cells (d.v v)) T_api_Daemon)) r1 (d.cells v) := Bx.new
  generalize h.set r1 (.cells (Value.cells (d.v v)) T_api_Daemon) = h1 at *
  intro r3 hr3
  try rw [bindH_eq]
  have u3 : Ext h1 (h1.set r3 (.cells (Value.cells (d'.v v')) T_api_Daemon)) := Upd.new hr3
  have B3 : Bx (h1.set r3 (.cells (Value.cells (d'.v v')) T_api_Daemon)) r3 (d'.cells v') := Bx.new
  have B13 := B1.ext u3
  generalize h1.set r3 (.cells (Value.cells (d'.v v')) T_api_Daemon) = h3 at *
  have u := u1.trans u3
  have hk := hk _ u
  have la : SemE PG h3 (Instr.loadAt T_2_api_Place (.pointer (some ⟨r1, 0, none⟩))) = some (two d.p0 d.p1) := two_load B13 rfl
  have lb : SemE PG h3 (Instr.loadAt T_2_api_Place (.pointer (some ⟨r3, 0, none⟩))) = some (two d'.p0 d'.p1) := two_load B3 rfl
  simp only [T_api_Daemon.f0, la, lb, two.eql, popO_some, bindH_eq, condV_bool, condV_true, condV_false, yV_bool, gopV_tt, gopV_ff, gopV_tf, gopV_ft, pickV_t, pickV_f, pickV_bool, nilS_ptr, add_eq, sub_eq, mul_eq, lss_eq, leq_eq, gtr_eq, geq_eq, not_eq, minI_eq, maxI_eq, extract_0, extract_1, extract_2, eqlI, neqI, makeFunc_eq, decide_true, decide_false, if_true, if_false, Bool.false_eq_true, Bool.not_true, Bool.not_false, reduceIte, List.getElem?_toArray, List.getElem?_cons_zero, List.getElem?_cons_succ, Option.isSome_none, List.length_map, yV_undef, gopV_none, Nat.zero_add, Nat.reduceAdd, beq_self_eq_true, bne_self_eq_false, and_self, Bool.true_and, Bool.false_and, Bool.and_true, Bool.and_false, Bool.true_or, Bool.false_or, Bool.or_true, Bool.or_false]
  by_cases c0 : d.p0 = d'.p0 ∧ d.p1 = d'.p1
  · simp only [c0, decide_true, T_api_Daemon.f1, T_sl_api_Item.load, B13.cell, B3.cell, Dm.cells, popO_some, bindH_eq, condV_bool, condV_true, condV_false, yV_bool, gopV_tt, gopV_ff, gopV_tf, gopV_ft, pickV_t, pickV_f, pickV_bool, nilS_ptr, add_eq, sub_eq, mul_eq, lss_eq, leq_eq, gtr_eq, geq_eq, not_eq, minI_eq, maxI_eq, extract_0, extract_1, extract_2, eqlI, neqI, makeFunc_eq, decide_true, decide_false, if_true, if_false, Bool.false_eq_true, Bool.not_true, Bool.not_false, reduceIte, List.getElem?_toArray, List.getElem?_cons_zero, List.getElem?_cons_succ, Option.isSome_none, List.length_map, yV_undef, gopV_none, Nat.zero_add, Nat.reduceAdd, beq_self_eq_true, bne_self_eq_false, and_self, Bool.true_and, Bool.false_and, Bool.and_true, Bool.and_false, Bool.true_or, Bool.false_or, Bool.or_true, Bool.or_false]
    refine Same_ok (V.ext u) (V'.ext u) hl ?_
    have e : decide (d.its = d'.its) = decide (d = d') := by
      rw [Bool.eq_iff_iff]
      obtain ⟨a, b, c⟩ := d
      obtain ⟨a', b', c'⟩ := d'
      simp only at c0
      simp [c0.1, c0.2]
    rw [e]
    exact hk
  · have hne : ¬ d = d' := fun e => c0 (by rw [e]; exact ⟨rfl, rfl⟩)
    simp only [hne, decide_false] at hk
    simp only [c0, decide_false, popO_some, bindH_eq, condV_bool, condV_true, condV_false, yV_bool, gopV_tt, gopV_ff, gopV_tf, gopV_ft, pickV_t, pickV_f, pickV_bool, nilS_ptr, add_eq, sub_eq, mul_eq, lss_eq, leq_eq, gtr_eq, geq_eq, not_eq, minI_eq, maxI_eq, extract_0, extract_1, extract_2, eqlI, neqI, makeFunc_eq, decide_true, decide_false, if_true, if_false, Bool.false_eq_true, Bool.not_true, Bool.not_false, reduceIte, List.getElem?_toArray, List.getElem?_cons_zero, List.getElem?_cons_succ, Option.isSome_none, List.length_map, yV_undef, gopV_none, Nat.zero_add, Nat.reduceAdd, beq_self_eq_true, bne_self_eq_false, and_self, Bool.true_and, Bool.false_and, Bool.and_true, Bool.and_false, Bool.true_or, Bool.false_or, Bool.or_true, Bool.or_false]
    exact hk
theorem Nt.eqIn {h : PH} (m m' : Nt) : SemE PG h (Op.equalIn (9999 + 1) T_api_Note (.agg m.cells.toArray) (.agg m'.cells.toArray)) = some (decide (m = m')) := by
  rw [eqIn_struct T_api_Note.und (by kernel_rfl) (fun f => match f.offset with | 0 => m.k == m'.k | _ => (m.p.f == m'.p.f && (m.p.s == m'.p.s && (m.p.t == m'.p.t && (m.p.d == m'.p.d && true)))))]
  · congr 1
    simp only [beq_bytes]
    rw [Bool.eq_iff_iff]
    obtain ⟨g, a, b, c, d⟩ := m
    obtain ⟨g', a', b', c', d'⟩ := m'
    simp [and_assoc]
  · intro f hf
    simp only [List.mem_cons, List.not_mem_nil, or_false] at hf
    rcases hf with rfl | rfl
    · exact ⟨by decide, _, _, part_cell T_int.und rfl rfl, part_cell T_int.und rfl rfl, eqIn_int T_int.und⟩
    · exact ⟨by decide, _, _, part_agg T_api_Packet.und rfl T_api_Packet.info T_api_Packet.size, part_agg T_api_Packet.und rfl T_api_Packet.info T_api_Packet.size, Pk.eqIn (d := 9997) m.p m'.p⟩
theorem Nt.neq {h : PH} {x y : Operand} (m m' : Nt) : SemE PG h (binS .neq T_api_Note x y (.agg m.cells.toArray) (.agg m'.cells.toArray)) = some (.bool (!decide (m = m'))) := neqStruct (by kernel_rfl) (Nt.eqIn m m')
theorem notes13_ok {h : PH} {v w : Value} {l : List Nt} (V : NSl h v l) (W : NSl h w l) (hl : l.length ≤ 1000000) {k : Value → PH → Prop} (hk : k (.bool true) h) : CallsH PG id_carrackref13_Notes #[v, w] h k := by
  apply carrackref13_Notes.call
  unfold carrackref13_Notes
  have lv := Nt.len V
  have lw := Nt.len W
  simp only [lv, lw, neqI, bne_self_eq_false, popO_some, bindH_eq, condV_bool, condV_true, condV_false, yV_bool, gopV_tt, gopV_ff, gopV_tf, gopV_ft, pickV_t, pickV_f, pickV_bool, nilS_ptr, add_eq, sub_eq, mul_eq, lss_eq, leq_eq, gtr_eq, geq_eq, not_eq, minI_eq, maxI_eq, extract_0, extract_1, extract_2, eqlI, neqI, makeFunc_eq, decide_true, decide_false, if_true, if_false, Bool.false_eq_true, Bool.not_true, Bool.not_false, reduceIte, List.getElem?_toArray, List.getElem?_cons_zero, List.getElem?_cons_succ, Option.isSome_none, List.length_map]
  refine ⟨fun vs h' => ∃ i : Nat, i ≤ l.length ∧ vs = [v, w, .int .i64 (i : Int)] ∧ h' = h, upTo l.length 2, ⟨0, by omega, rfl, rfl⟩, ?_⟩
  rintro ρ h' ⟨i, hi, hvs, rfl⟩
  simp only [List.map_cons, List.map_nil, List.cons.injEq, and_true] at hvs
  obtain ⟨v0, v1, v5⟩ := hvs
  simp only [v0, v1, v5, List.map_cons, List.map_nil]
  unfold carrackref13_Notes_b5
  by_cases hlt : i < l.length
  · have g1 : ((i : Int) < (l.length : Int)) = True := eq_true (by omega)
    have gi : IntKind.i64.wrap ((i : Int) + 1) = ((i + 1 : Nat) : Int) := by rw [i64_wrap (by omega) (by omega)]; omega
    have e1 : l[i]? = some l[i] := List.getElem?_eq_getElem hlt
    obtain ⟨a1, p1, q1⟩ := SlR.wNote V e1
    obtain ⟨a2, p2, q2⟩ := SlR.wNote W e1
    simp only [lv, g1, p1, q1, p2, q2, Nt.neq, decide_true, gi, popO_some, bindH_eq, condV_bool, condV_true, condV_false, yV_bool, gopV_tt, gopV_ff, gopV_tf, gopV_ft, pickV_t, pickV_f, pickV_bool, nilS_ptr, add_eq, sub_eq, mul_eq, lss_eq, leq_eq, gtr_eq, geq_eq, not_eq, minI_eq, maxI_eq, extract_0, extract_1, extract_2, eqlI, neqI, makeFunc_eq, decide_true, decide_false, if_true, if_false, Bool.false_eq_true, Bool.not_true, Bool.not_false, reduceIte, List.getElem?_toArray, List.getElem?_cons_zero, List.getElem?_cons_succ, Option.isSome_none, List.length_map, yV_undef, gopV_none, Nat.zero_add, Nat.reduceAdd, beq_self_eq_true, bne_self_eq_false, and_self, Bool.true_and, Bool.false_and, Bool.and_true, Bool.and_false, Bool.true_or, Bool.false_or, Bool.or_true, Bool.or_false]
    refine ⟨⟨i + 1, by omega, rfl, (by trivial)⟩, ?_⟩
    simp only [upTo, List.getElem?_cons_succ, List.getElem?_cons_zero]
    omega
  · have g1 : ((i : Int) < (l.length : Int)) = False := eq_false (by omega)
    simp only [lv, g1, popO_some, bindH_eq, condV_bool, condV_true, condV_false, yV_bool, gopV_tt, gopV_ff, gopV_tf, gopV_ft, pickV_t, pickV_f, pickV_bool, nilS_ptr, add_eq, sub_eq, mul_eq, lss_eq, leq_eq, gtr_eq, geq_eq, not_eq, minI_eq, maxI_eq, extract_0, extract_1, extract_2, eqlI, neqI, makeFunc_eq, decide_true, decide_false, if_true, if_false, Bool.false_eq_true, Bool.not_true, Bool.not_false, reduceIte, List.getElem?_toArray, List.getElem?_cons_zero, List.getElem?_cons_succ, Option.isSome_none, List.length_map]
    exact hk
theorem rsame_ok {h : PH} {r : Rc} {v w v' w' : Value} (V : ISl h v r.s.its) (W : NSl h w r.ns) (V' : ISl h v' r.s.its) (W' : NSl h w' r.ns) (hl : r.s.its.length ≤ 1000000) (hn : r.ns.length ≤ 1000000) {k : Value → PH → Prop} (hk : ∀ h', Ext h h' → k (.bool true) h') : CallsH PG id_carracklaw17_same #[r.v v w, r.v v' w'] h k := by
  apply carracklaw17_same.call
  unfold carracklaw17_same
  intro r1 hr1
  try rw [bindH_eq]
  have u1 : Ext h (h.set r1 (.cells (Value.cells (r.v v w)) T_api_Record)) := Upd.new hr1
  have B1 : Bx (h.set r1 (.cells (Value.cells (r.v v w)) T_api_Record)) r1 (r.cells v w) := Bx.new
  generalize h.set r1 (.cells (Value.cells (r.v v w)) T_api_Record) = h1 at *
  intro r3 hr3
  try rw [bindH_eq]
  have u3 : Ext h1 (h1.set r3 (.cells (Value.cells (r.v v' w')) T_api_Record)) := Upd.new hr3
  have B3 : Bx (h1.set r3 (.cells (Value.cells (r.v v' w')) T_api_Record)) r3 (r.cells v' w') := Bx.new
  have B13 := B1.ext u3
  generalize h1.set r3 (.cells (Value.cells (r.v v' w')) T_api_Record) = h3 at *
  have u := u1.trans u3
  have la : SemE PG h3 (Instr.loadAt T_api_Place (.pointer (some ⟨r1, 7, none⟩))) = some (.agg r.pl.cells.toArray) := pl_load B13 rfl
  have lb : SemE PG h3 (Instr.loadAt T_api_Place (.pointer (some ⟨r3, 7, none⟩))) = some (.agg r.pl.cells.toArray) := pl_load B3 rfl
  have lc : SemE PG h3 (Instr.loadAt T_api_Daemon (.pointer (some ⟨r1, 1, none⟩))) = some (r.s.v v) := Dm.load B13 rfl
  have ld : SemE PG h3 (Instr.loadAt T_api_Daemon (.pointer (some ⟨r3, 1, none⟩))) = some (r.s.v v') := Dm.load B3 rfl
  simp only [T_api_Record.f0, T_api_Record.f1, T_api_Record.f2, T_api_Record.f3, T_int.load, B13.cell, B3.cell, Rc.cells, eqlI, la, lb, lc, ld, Pl.eql, decide_true, popO_some, bindH_eq, condV_bool, condV_true, condV_false, yV_bool, gopV_tt, gopV_ff, gopV_tf, gopV_ft, pickV_t, pickV_f, pickV_bool, nilS_ptr, add_eq, sub_eq, mul_eq, lss_eq, leq_eq, gtr_eq, geq_eq, not_eq, minI_eq, maxI_eq, extract_0, extract_1, extract_2, eqlI, neqI, makeFunc_eq, decide_true, decide_false, if_true, if_false, Bool.false_eq_true, Bool.not_true, Bool.not_false, reduceIte, List.getElem?_toArray, List.getElem?_cons_zero, List.getElem?_cons_succ, Option.isSome_none, List.length_map, yV_undef, gopV_none, Nat.zero_add, Nat.reduceAdd, beq_self_eq_true, bne_self_eq_false, and_self, Bool.true_and, Bool.false_and, Bool.and_true, Bool.and_false, Bool.true_or, Bool.false_or, Bool.or_true, Bool.or_false]
  refine sameState_ok (V.ext u) (V'.ext u) hl fun h4 u4 => ?_
  have e4 := u.trans u4
  simp only [decide_true, T_api_Record.f4, T_sl_api_Note.load, (B13.ext u4).cell, (B3.ext u4).cell, Rc.cells, popO_some, bindH_eq, condV_bool, condV_true, condV_false, yV_bool, gopV_tt, gopV_ff, gopV_tf, gopV_ft, pickV_t, pickV_f, pickV_bool, nilS_ptr, add_eq, sub_eq, mul_eq, lss_eq, leq_eq, gtr_eq, geq_eq, not_eq, minI_eq, maxI_eq, extract_0, extract_1, extract_2, eqlI, neqI, makeFunc_eq, decide_true, decide_false, if_true, if_false, Bool.false_eq_true, Bool.not_true, Bool.not_false, reduceIte, List.getElem?_toArray, List.getElem?_cons_zero, List.getElem?_cons_succ, Option.isSome_none, List.length_map, yV_undef, gopV_none, Nat.zero_add, Nat.reduceAdd, beq_self_eq_true, bne_self_eq_false, and_self, Bool.true_and, Bool.false_and, Bool.and_true, Bool.and_false, Bool.true_or, Bool.false_or, Bool.or_true, Bool.or_false]
  refine notes13_ok (W.ext e4) (W'.ext e4) hn ?_
  exact hk _ e4
theorem SlR.ntd {h : PH} {v : Value} {l : List Nt} (S : NSl h v l) {j : Nat} {x : Nt} (hx : l[j]? = some x) : ∃ b o, SemP PG (Instr.indexAt T_sl_api_Note v (.int .i64 (j : Int))) = some (.pointer (some ⟨b, o, none⟩)) ∧ cellH h ⟨b, o + 4, none⟩ = some (.string x.p.d) := by
  obtain ⟨b, o, h1, h2, -⟩ := S.fields T_sl_api_Note.und T_api_Note.info T_api_Note.size (k := .i64) (j := j) (r := x.cells) (by rw [List.getElem?_map, hx]; rfl)
  exact ⟨b, o, h1, h2 4 _ rfl⟩
theorem SlR.itd {h : PH} {v : Value} {l : List It} (S : ISl h v l) {j : Nat} {x : It} (hx : l[j]? = some x) : ∃ b o, SemP PG (Instr.indexAt T_sl_api_Item v (.int .i64 (j : Int))) = some (.pointer (some ⟨b, o, none⟩)) ∧ cellH h ⟨b, o + 3, none⟩ = some (.string x.p.d) := by
  obtain ⟨b, o, h1, h2, -⟩ := S.fields T_sl_api_Item.und T_api_Item.info T_api_Item.size (k := .i64) (j := j) (r := x.cells) (by rw [List.getElem?_map, hx]; rfl)
  exact ⟨b, o, h1, h2 3 _ rfl⟩
theorem rfew_ok {h : PH} {r : Rc} {v w : Value} (V : ISl h v r.s.its) (W : NSl h w r.ns) {k : Value → PH → Prop} (hk : ∀ h' b, (b = true → r.ns.length ≤ 300 ∧ r.s.its.length ≤ 300) → Ext h h' → k (.bool b) h') : CallsH PG id_carracklaw17_few #[r.v v w] h k := by
  apply carracklaw17_few.call
  unfold carracklaw17_few
  intro r1 hr1
  try rw [bindH_eq]
  have u1 : Ext h (h.set r1 (.cells (Value.cells (r.v v w)) T_api_Record)) := Upd.new hr1
  have B1 : Bx (h.set r1 (.cells (Value.cells (r.v v w)) T_api_Record)) r1 (r.cells v w) := Bx.new
  generalize h.set r1 (.cells (Value.cells (r.v v w)) T_api_Record) = h1 at *
  have lv := It.len V
  have lw := Nt.len W
  by_cases c0 : 300 < r.ns.length
  · have g0 : ((300 : Int) < (r.ns.length : Int)) = True := eq_true (by omega)
    simp only [T_api_Record.f4, T_sl_api_Note.load, B1.cell, Rc.cells, lw, g0, popO_some, bindH_eq, condV_bool, condV_true, condV_false, yV_bool, gopV_tt, gopV_ff, gopV_tf, gopV_ft, pickV_t, pickV_f, pickV_bool, nilS_ptr, add_eq, sub_eq, mul_eq, lss_eq, leq_eq, gtr_eq, geq_eq, not_eq, minI_eq, maxI_eq, extract_0, extract_1, extract_2, eqlI, neqI, makeFunc_eq, decide_true, decide_false, if_true, if_false, Bool.false_eq_true, Bool.not_true, Bool.not_false, reduceIte, List.getElem?_toArray, List.getElem?_cons_zero, List.getElem?_cons_succ, Option.isSome_none, List.length_map, yV_undef, gopV_none, Nat.zero_add, Nat.reduceAdd, beq_self_eq_true, bne_self_eq_false, and_self, Bool.true_and, Bool.false_and, Bool.and_true, Bool.and_false, Bool.true_or, Bool.false_or, Bool.or_true, Bool.or_false]
    exact hk _ _ (fun h => by cases h) u1
  have g0 : ((300 : Int) < (r.ns.length : Int)) = False := eq_false (by omega)
  by_cases c1 : 300 < r.s.its.length
  · have g1 : ((300 : Int) < (r.s.its.length : Int)) = True := eq_true (by omega)
    simp only [T_api_Record.f4, T_api_Record.f1, T_api_Daemon.f1, T_sl_api_Item.load, T_sl_api_Note.load, B1.cell, Rc.cells, lv, lw, g0, g1, popO_some, bindH_eq, condV_bool, condV_true, condV_false, yV_bool, gopV_tt, gopV_ff, gopV_tf, gopV_ft, pickV_t, pickV_f, pickV_bool, nilS_ptr, add_eq, sub_eq, mul_eq, lss_eq, leq_eq, gtr_eq, geq_eq, not_eq, minI_eq, maxI_eq, extract_0, extract_1, extract_2, eqlI, neqI, makeFunc_eq, decide_true, decide_false, if_true, if_false, Bool.false_eq_true, Bool.not_true, Bool.not_false, reduceIte, List.getElem?_toArray, List.getElem?_cons_zero, List.getElem?_cons_succ, Option.isSome_none, List.length_map, yV_undef, gopV_none, Nat.zero_add, Nat.reduceAdd, beq_self_eq_true, bne_self_eq_false, and_self, Bool.true_and, Bool.false_and, Bool.and_true, Bool.and_false, Bool.true_or, Bool.false_or, Bool.or_true, Bool.or_false]
    exact hk _ _ (fun h => by cases h) u1
  have g1 : ((300 : Int) < (r.s.its.length : Int)) = False := eq_false (by omega)
  have fin : ∀ b : Bool, k (.bool b) h1 := fun b => hk _ _ (fun _ => ⟨by omega, by omega⟩) u1
  simp only [T_api_Record.f4, T_api_Record.f1, T_api_Daemon.f1, T_sl_api_Item.load, T_sl_api_Note.load, B1.cell, Rc.cells, lv, lw, g0, g1, popO_some, bindH_eq, condV_bool, condV_true, condV_false, yV_bool, gopV_tt, gopV_ff, gopV_tf, gopV_ft, pickV_t, pickV_f, pickV_bool, nilS_ptr, add_eq, sub_eq, mul_eq, lss_eq, leq_eq, gtr_eq, geq_eq, not_eq, minI_eq, maxI_eq, extract_0, extract_1, extract_2, eqlI, neqI, makeFunc_eq, decide_true, decide_false, if_true, if_false, Bool.false_eq_true, Bool.not_true, Bool.not_false, reduceIte, List.getElem?_toArray, List.getElem?_cons_zero, List.getElem?_cons_succ, Option.isSome_none, List.length_map, yV_undef, gopV_none, Nat.zero_add, Nat.reduceAdd, beq_self_eq_true, bne_self_eq_false, and_self, Bool.true_and, Bool.false_and, Bool.and_true, Bool.and_false, Bool.true_or, Bool.false_or, Bool.or_true, Bool.or_false]
  refine ⟨fun vs h' => ∃ i : Nat, i ≤ r.ns.length ∧ vs = [.pointer (some ⟨r1, 0, none⟩), .int .i64 (i : Int)] ∧ h' = h1, upTo r.ns.length 1, ⟨0, by omega, rfl, rfl⟩, ?_⟩
  rintro ρ h' ⟨i, hi, hvs, rfl⟩
  simp only [List.map_cons, List.map_nil, List.cons.injEq, and_true] at hvs
  obtain ⟨v1, v3⟩ := hvs
  simp only [v1, v3, List.map_cons, List.map_nil]
  unfold carracklaw17_few_b29
  by_cases hlt : i < r.ns.length
  · have g2 : ((i : Int) < (r.ns.length : Int)) = True := eq_true (by omega)
    have gi : IntKind.i64.wrap ((i : Int) + 1) = ((i + 1 : Nat) : Int) := by rw [i64_wrap (by omega) (by omega)]; omega
    obtain ⟨b, o, p1, p2⟩ := SlR.ntd (W.ext u1) (j := i) (x := r.ns[i]) (List.getElem?_eq_getElem hlt)
    generalize r.ns[i] = x at *
    have ho : o + 1 + 3 = o + 4 := by omega
    simp only [T_api_Record.f4, T_sl_api_Note.load, B1.cell, Rc.cells, lw, g2, p1, T_api_Note.f1, T_api_Packet.f3, ho, T_string.load, p2, T_string.len, popO_some, bindH_eq, condV_bool, condV_true, condV_false, yV_bool, gopV_tt, gopV_ff, gopV_tf, gopV_ft, pickV_t, pickV_f, pickV_bool, nilS_ptr, add_eq, sub_eq, mul_eq, lss_eq, leq_eq, gtr_eq, geq_eq, not_eq, minI_eq, maxI_eq, extract_0, extract_1, extract_2, eqlI, neqI, makeFunc_eq, decide_true, decide_false, if_true, if_false, Bool.false_eq_true, Bool.not_true, Bool.not_false, reduceIte, List.getElem?_toArray, List.getElem?_cons_zero, List.getElem?_cons_succ, Option.isSome_none, List.length_map, yV_undef, gopV_none, Nat.zero_add, Nat.reduceAdd, beq_self_eq_true, bne_self_eq_false, and_self, Bool.true_and, Bool.false_and, Bool.and_true, Bool.and_false, Bool.true_or, Bool.false_or, Bool.or_true, Bool.or_false]
    by_cases c2 : (300 : Int) < (x.p.d.size : Int)
    · simp only [c2, popO_some, bindH_eq, condV_bool, condV_true, condV_false, yV_bool, gopV_tt, gopV_ff, gopV_tf, gopV_ft, pickV_t, pickV_f, pickV_bool, nilS_ptr, add_eq, sub_eq, mul_eq, lss_eq, leq_eq, gtr_eq, geq_eq, not_eq, minI_eq, maxI_eq, extract_0, extract_1, extract_2, eqlI, neqI, makeFunc_eq, decide_true, decide_false, if_true, if_false, Bool.false_eq_true, Bool.not_true, Bool.not_false, reduceIte, List.getElem?_toArray, List.getElem?_cons_zero, List.getElem?_cons_succ, Option.isSome_none, List.length_map, yV_undef, gopV_none, Nat.zero_add, Nat.reduceAdd, beq_self_eq_true, bne_self_eq_false, and_self, Bool.true_and, Bool.false_and, Bool.and_true, Bool.and_false, Bool.true_or, Bool.false_or, Bool.or_true, Bool.or_false]
      exact fin false
    · simp only [c2, gi, popO_some, bindH_eq, condV_bool, condV_true, condV_false, yV_bool, gopV_tt, gopV_ff, gopV_tf, gopV_ft, pickV_t, pickV_f, pickV_bool, nilS_ptr, add_eq, sub_eq, mul_eq, lss_eq, leq_eq, gtr_eq, geq_eq, not_eq, minI_eq, maxI_eq, extract_0, extract_1, extract_2, eqlI, neqI, makeFunc_eq, decide_true, decide_false, if_true, if_false, Bool.false_eq_true, Bool.not_true, Bool.not_false, reduceIte, List.getElem?_toArray, List.getElem?_cons_zero, List.getElem?_cons_succ, Option.isSome_none, List.length_map, yV_undef, gopV_none, Nat.zero_add, Nat.reduceAdd, beq_self_eq_true, bne_self_eq_false, and_self, Bool.true_and, Bool.false_and, Bool.and_true, Bool.and_false, Bool.true_or, Bool.false_or, Bool.or_true, Bool.or_false]
      refine ⟨⟨i + 1, by omega, rfl, by trivial⟩, ?_⟩
      simp only [upTo, List.getElem?_cons_succ, List.getElem?_cons_zero]
      omega
  · have g2 : ((i : Int) < (r.ns.length : Int)) = False := eq_false (by omega)
    simp only [T_api_Record.f4, T_sl_api_Note.load, B1.cell, Rc.cells, lw, g2, popO_some, bindH_eq, condV_bool, condV_true, condV_false, yV_bool, gopV_tt, gopV_ff, gopV_tf, gopV_ft, pickV_t, pickV_f, pickV_bool, nilS_ptr, add_eq, sub_eq, mul_eq, lss_eq, leq_eq, gtr_eq, geq_eq, not_eq, minI_eq, maxI_eq, extract_0, extract_1, extract_2, eqlI, neqI, makeFunc_eq, decide_true, decide_false, if_true, if_false, Bool.false_eq_true, Bool.not_true, Bool.not_false, reduceIte, List.getElem?_toArray, List.getElem?_cons_zero, List.getElem?_cons_succ, Option.isSome_none, List.length_map, yV_undef, gopV_none, Nat.zero_add, Nat.reduceAdd, beq_self_eq_true, bne_self_eq_false, and_self, Bool.true_and, Bool.false_and, Bool.and_true, Bool.and_false, Bool.true_or, Bool.false_or, Bool.or_true, Bool.or_false]
    refine ⟨fun vs h2 => ∃ i : Nat, i ≤ r.s.its.length ∧ vs = [.pointer (some ⟨r1, 0, none⟩), .int .i64 (i : Int)] ∧ h2 = h', upTo r.s.its.length 1, ⟨0, by omega, rfl, rfl⟩, ?_⟩
    rintro ρ2 h2 ⟨j, hj, hvs, rfl⟩
    simp only [List.map_cons, List.map_nil, List.cons.injEq, and_true] at hvs
    obtain ⟨w1, w4⟩ := hvs
    simp only [w1, w4, List.map_cons, List.map_nil]
    unfold carracklaw17_few_b44
    by_cases hlt2 : j < r.s.its.length
    · have g3 : ((j : Int) < (r.s.its.length : Int)) = True := eq_true (by omega)
      have gi : IntKind.i64.wrap ((j : Int) + 1) = ((j + 1 : Nat) : Int) := by rw [i64_wrap (by omega) (by omega)]; omega
      obtain ⟨b, o, p1, p2⟩ := SlR.itd (V.ext u1) (j := j) (x := r.s.its[j]) (List.getElem?_eq_getElem hlt2)
      generalize r.s.its[j] = x at *
      simp only [T_api_Record.f1, T_api_Daemon.f1, T_sl_api_Item.load, B1.cell, Rc.cells, lv, g3, p1, T_api_Item.f0, T_api_Packet.f3, T_string.load, p2, T_string.len, popO_some, bindH_eq, condV_bool, condV_true, condV_false, yV_bool, gopV_tt, gopV_ff, gopV_tf, gopV_ft, pickV_t, pickV_f, pickV_bool, nilS_ptr, add_eq, sub_eq, mul_eq, lss_eq, leq_eq, gtr_eq, geq_eq, not_eq, minI_eq, maxI_eq, extract_0, extract_1, extract_2, eqlI, neqI, makeFunc_eq, decide_true, decide_false, if_true, if_false, Bool.false_eq_true, Bool.not_true, Bool.not_false, reduceIte, List.getElem?_toArray, List.getElem?_cons_zero, List.getElem?_cons_succ, Option.isSome_none, List.length_map, yV_undef, gopV_none, Nat.zero_add, Nat.reduceAdd, beq_self_eq_true, bne_self_eq_false, and_self, Bool.true_and, Bool.false_and, Bool.and_true, Bool.and_false, Bool.true_or, Bool.false_or, Bool.or_true, Bool.or_false]
      by_cases c2 : (300 : Int) < (x.p.d.size : Int)
      · simp only [c2, popO_some, bindH_eq, condV_bool, condV_true, condV_false, yV_bool, gopV_tt, gopV_ff, gopV_tf, gopV_ft, pickV_t, pickV_f, pickV_bool, nilS_ptr, add_eq, sub_eq, mul_eq, lss_eq, leq_eq, gtr_eq, geq_eq, not_eq, minI_eq, maxI_eq, extract_0, extract_1, extract_2, eqlI, neqI, makeFunc_eq, decide_true, decide_false, if_true, if_false, Bool.false_eq_true, Bool.not_true, Bool.not_false, reduceIte, List.getElem?_toArray, List.getElem?_cons_zero, List.getElem?_cons_succ, Option.isSome_none, List.length_map, yV_undef, gopV_none, Nat.zero_add, Nat.reduceAdd, beq_self_eq_true, bne_self_eq_false, and_self, Bool.true_and, Bool.false_and, Bool.and_true, Bool.and_false, Bool.true_or, Bool.false_or, Bool.or_true, Bool.or_false]
        exact fin false
      · simp only [c2, gi, popO_some, bindH_eq, condV_bool, condV_true, condV_false, yV_bool, gopV_tt, gopV_ff, gopV_tf, gopV_ft, pickV_t, pickV_f, pickV_bool, nilS_ptr, add_eq, sub_eq, mul_eq, lss_eq, leq_eq, gtr_eq, geq_eq, not_eq, minI_eq, maxI_eq, extract_0, extract_1, extract_2, eqlI, neqI, makeFunc_eq, decide_true, decide_false, if_true, if_false, Bool.false_eq_true, Bool.not_true, Bool.not_false, reduceIte, List.getElem?_toArray, List.getElem?_cons_zero, List.getElem?_cons_succ, Option.isSome_none, List.length_map, yV_undef, gopV_none, Nat.zero_add, Nat.reduceAdd, beq_self_eq_true, bne_self_eq_false, and_self, Bool.true_and, Bool.false_and, Bool.and_true, Bool.and_false, Bool.true_or, Bool.false_or, Bool.or_true, Bool.or_false]
        refine ⟨⟨j + 1, by omega, rfl, by trivial⟩, ?_⟩
        simp only [upTo, List.getElem?_cons_succ, List.getElem?_cons_zero]
        omega
    · have g3 : ((j : Int) < (r.s.its.length : Int)) = False := eq_false (by omega)
      simp only [T_api_Record.f1, T_api_Daemon.f1, T_sl_api_Item.load, B1.cell, Rc.cells, lv, g3, popO_some, bindH_eq, condV_bool, condV_true, condV_false, yV_bool, gopV_tt, gopV_ff, gopV_tf, gopV_ft, pickV_t, pickV_f, pickV_bool, nilS_ptr, add_eq, sub_eq, mul_eq, lss_eq, leq_eq, gtr_eq, geq_eq, not_eq, minI_eq, maxI_eq, extract_0, extract_1, extract_2, eqlI, neqI, makeFunc_eq, decide_true, decide_false, if_true, if_false, Bool.false_eq_true, Bool.not_true, Bool.not_false, reduceIte, List.getElem?_toArray, List.getElem?_cons_zero, List.getElem?_cons_succ, Option.isSome_none, List.length_map, yV_undef, gopV_none, Nat.zero_add, Nat.reduceAdd, beq_self_eq_true, bne_self_eq_false, and_self, Bool.true_and, Bool.false_and, Bool.and_true, Bool.and_false, Bool.true_or, Bool.false_or, Bool.or_true, Bool.or_false]
      exact fin true
end Go.Proofs.Ytlkjippiaghbmaa
/- record: the example; a scan's record moves its place alone. -/
set_option linter.unusedSimpArgs false
set_option linter.unusedVariables false
namespace Go.Proofs.Ytlkjippiaghbmaa
open Go
set_option maxRecDepth 20000
def awN : Nt := ⟨1, ⟨0, 1, 9, ⟨#[]⟩⟩⟩
def awA : Rc := ⟨1, Dm.zero, 0, Pl.zero, []⟩
def awB : Rc := ⟨2, Dm.zero, 0, ⟨5, 1⟩, [awN]⟩
theorem awA_ok : RcOk awA := ⟨by decide, fun _ => ⟨by decide, by decide, by simp [awA, Dm.zero]⟩, fun h => by cases h⟩
theorem awB_ok : RcOk awB := ⟨by decide, (fun h => by cases h), fun _ => ⟨by decide, fun i hi => by
  simp only [awB, List.mem_singleton] at hi
  subst hi
  exact ⟨by decide, by decide, by decide⟩⟩⟩
theorem awA_wf : awA.wf := ⟨Dm.wf_zero, Pl.wf_zero, by simp [awA]⟩
theorem awB_wf : awB.wf := ⟨Dm.wf_zero, ⟨by decide, by decide⟩, fun x hx => by
  simp only [awB, List.mem_singleton] at hx
  subst hx
  exact ⟨by decide, by decide, by decide, by decide⟩⟩
theorem bytes_of_ok {r : Rc} (h : RcOk r) : r.bytes = (r.bs, 0) := by
  rcases bytes_iff r with ⟨_, b⟩ | ⟨a, _⟩
  · exact b
  · exact absurd h a
def awD : Dm := ⟨⟨5, 1⟩, Pl.zero, [⟨awN.p, 1⟩]⟩
theorem awStep : stp Dm.zero 2 awB = (awD, 0) := by
  unfold stp
  rw [bytes_of_ok awB_ok]
  decide
theorem awRpl : rpl 2 [awA.bs, awB.bs] = (awD, 0) := by
  unfold rpl
  have e1 : first0 2 awA.bs = (Dm.zero, 0) := by
    unfold first0
    rw [parse_back awA_ok awA_wf]
    decide
  have e2 : rstep 2 (Dm.zero, 0) awB.bs = (awD, 0) := by
    unfold rstep
    rw [parse_back awB_ok awB_wf]
    exact awStep
  show (if ([awB.bs].foldl (rstep 2) (first0 2 awA.bs)).2 ≠ 0 then _ else _) = _
  rw [e1]
  simp only [List.foldl_cons, List.foldl_nil, e2]
  rfl
theorem aw_p : SemP PG (Instr.build T_api_Packet #[(1, (Value.int IntKind.u64 1)), (2, (Value.int IntKind.u64 9))]) = some (.agg awN.p.cells.toArray) := by kernel_rfl
theorem aw_n : SemP PG (Instr.build T_api_Note #[(0, (Value.int IntKind.i64 1)), (1, .agg awN.p.cells.toArray)]) = some (.agg awN.cells.toArray) := by kernel_rfl
theorem aw_ra : SemP PG (Instr.build T_api_Record #[(0, (Value.int IntKind.i64 1))]) = some (awA.v (.slice none 0 0) (.slice none 0 0)) := by kernel_rfl
theorem aw_pl : SemP PG (Instr.build T_api_Place #[(0, (Value.int IntKind.u64 5)), (1, (Value.int IntKind.i64 1))]) = some (.agg (Pl.cells ⟨5, 1⟩).toArray) := by kernel_rfl
theorem aw_rb (b : Option Addr) (n c : Nat) : SemP PG (Instr.build T_api_Record #[(0, (Value.int IntKind.i64 2)), (3, .agg (Pl.cells ⟨5, 1⟩).toArray), (4, .slice b n c)]) = some (awB.v (.slice none 0 0) (.slice b n c)) := by kernel_rfl
theorem str_lit2 (a b : ByteArray) : SemA PG (Instr.buildSlice T_sl_string 2 #[(0, .string a), (1, .string b)]) = some (.cells #[.string a, .string b] T_string, fun r => pure (.slice (some ⟨r, 0, none⟩) 2 2)) := by kernel_rfl
theorem aw_it : SemP PG (Instr.build T_api_Item #[(0, .agg awN.p.cells.toArray), (1, (Value.int IntKind.i64 1))]) = some (It.val ⟨awN.p, 1⟩) := by kernel_rfl
theorem rawake_ok {h : PH} {k : Value → PH → Prop} (hk : ∀ h', Ext h h' → k (.bool true) h') : CallsH PG id_carracklaw17_awake #[] h k := by
  apply carracklaw17_awake.call
  unfold carracklaw17_awake
  simp only [aw_p, aw_n, popO_some, bindH_eq, condV_bool, condV_true, condV_false, yV_bool, gopV_tt, gopV_ff, gopV_tf, gopV_ft, pickV_t, pickV_f, pickV_bool, nilS_ptr, add_eq, sub_eq, mul_eq, lss_eq, leq_eq, gtr_eq, geq_eq, not_eq, minI_eq, maxI_eq, extract_0, extract_1, extract_2, eqlI, neqI, makeFunc_eq, decide_true, decide_false, if_true, if_false, Bool.false_eq_true, Bool.not_true, Bool.not_false, reduceIte, List.getElem?_toArray, List.getElem?_cons_zero, List.getElem?_cons_succ, Option.isSome_none, List.length_map]
  intro r3 hr3
  try rw [bindH_eq]
  refine T_api_Note.fill hr3 rfl (by simp [awN, Nt.cells, isCell]) fun h1 B1 u1 => ?_
  simp only [aw_ra, popO_some, bindH_eq, condV_bool, condV_true, condV_false, yV_bool, gopV_tt, gopV_ff, gopV_tf, gopV_ft, pickV_t, pickV_f, pickV_bool, nilS_ptr, add_eq, sub_eq, mul_eq, lss_eq, leq_eq, gtr_eq, geq_eq, not_eq, minI_eq, maxI_eq, extract_0, extract_1, extract_2, eqlI, neqI, makeFunc_eq, decide_true, decide_false, if_true, if_false, Bool.false_eq_true, Bool.not_true, Bool.not_false, reduceIte, List.getElem?_toArray, List.getElem?_cons_zero, List.getElem?_cons_succ, Option.isSome_none, List.length_map]
  refine bytes_ok (r := awA) nilI nilN awA_wf fun h2 u2 => ?_
  have e2 := u1.trans u2
  have ln : SemE PG h2 (Instr.loadAt T_api_Note (.pointer (some ⟨r3, 0, none⟩))) = some (.agg awN.cells.toArray) := T_api_Note.agg (B1.ext u2) (by show 0 + 5 ≤ 5; decide)
  rw [bytes_of_ok awA_ok]
  simp only [aw_pl, ln, rnt_lit1, popO_some, bindH_eq, condV_bool, condV_true, condV_false, yV_bool, gopV_tt, gopV_ff, gopV_tf, gopV_ft, pickV_t, pickV_f, pickV_bool, nilS_ptr, add_eq, sub_eq, mul_eq, lss_eq, leq_eq, gtr_eq, geq_eq, not_eq, minI_eq, maxI_eq, extract_0, extract_1, extract_2, eqlI, neqI, makeFunc_eq, decide_true, decide_false, if_true, if_false, Bool.false_eq_true, Bool.not_true, Bool.not_false, reduceIte, List.getElem?_toArray, List.getElem?_cons_zero, List.getElem?_cons_succ, Option.isSome_none, List.length_map]
  intro r14 hr14
  refine popO_pure ?_
  try rw [bindH_eq]
  have u3 : Ext h2 (h2.set r14 (.cells awN.cells.toArray T_api_Note (0, 0))) := Upd.new hr14
  have S3 : NSl (h2.set r14 (.cells awN.cells.toArray T_api_Note (0, 0))) (.slice (some ⟨r14, 0, none⟩) 1 1) [awN] := (OwnR.lit (n := 1) (Nt.rows [awN]) set_same (by simp) (by decide) (by simp)).slR
  generalize h2.set r14 (.cells awN.cells.toArray T_api_Note (0, 0)) = h3 at *
  simp only [aw_rb, popO_some, bindH_eq, condV_bool, condV_true, condV_false, yV_bool, gopV_tt, gopV_ff, gopV_tf, gopV_ft, pickV_t, pickV_f, pickV_bool, nilS_ptr, add_eq, sub_eq, mul_eq, lss_eq, leq_eq, gtr_eq, geq_eq, not_eq, minI_eq, maxI_eq, extract_0, extract_1, extract_2, eqlI, neqI, makeFunc_eq, decide_true, decide_false, if_true, if_false, Bool.false_eq_true, Bool.not_true, Bool.not_false, reduceIte, List.getElem?_toArray, List.getElem?_cons_zero, List.getElem?_cons_succ, Option.isSome_none, List.length_map]
  refine bytes_ok (r := awB) nilI S3 awB_wf fun h4 u4 => ?_
  have e4 := (e2.trans u3).trans u4
  rw [bytes_of_ok awB_ok]
  simp only [str_lit2, popO_some, bindH_eq, condV_bool, condV_true, condV_false, yV_bool, gopV_tt, gopV_ff, gopV_tf, gopV_ft, pickV_t, pickV_f, pickV_bool, nilS_ptr, add_eq, sub_eq, mul_eq, lss_eq, leq_eq, gtr_eq, geq_eq, not_eq, minI_eq, maxI_eq, extract_0, extract_1, extract_2, eqlI, neqI, makeFunc_eq, decide_true, decide_false, if_true, if_false, Bool.false_eq_true, Bool.not_true, Bool.not_false, reduceIte, List.getElem?_toArray, List.getElem?_cons_zero, List.getElem?_cons_succ, Option.isSome_none, List.length_map]
  intro r23 hr23
  refine popO_pure ?_
  try rw [bindH_eq]
  have u5 : Ext h4 (h4.set r23 (.cells #[.string (tx awA.bs), .string (tx awB.bs)] T_string)) := Upd.new hr23
  have S5 : SlR (h4.set r23 (.cells #[.string (tx awA.bs), .string (tx awB.bs)] T_string)) 1 (.slice (some ⟨r23, 0, none⟩) 2 2) ([awA.bs, awB.bs].map tcell) := (OwnR.lit (n := 2) (tcell.rows [awA.bs, awB.bs]) set_same (by simp) (by decide) rfl).slR
  generalize h4.set r23 (.cells #[.string (tx awA.bs), .string (tx awB.bs)] T_string) = h5 at *
  refine replay_ok S5 (by simp) fun h6 v V nv u6 => ?_
  rw [awRpl] at V ⊢
  have e6 := (e4.trans u5).trans u6
  simp only [popO_some, bindH_eq, condV_bool, condV_true, condV_false, yV_bool, gopV_tt, gopV_ff, gopV_tf, gopV_ft, pickV_t, pickV_f, pickV_bool, nilS_ptr, add_eq, sub_eq, mul_eq, lss_eq, leq_eq, gtr_eq, geq_eq, not_eq, minI_eq, maxI_eq, extract_0, extract_1, extract_2, eqlI, neqI, makeFunc_eq, decide_true, decide_false, if_true, if_false, Bool.false_eq_true, Bool.not_true, Bool.not_false, reduceIte, List.getElem?_toArray, List.getElem?_cons_zero, List.getElem?_cons_succ, Option.isSome_none, List.length_map]
  intro r31 hr31
  try rw [bindH_eq]
  refine T_api_Daemon.fill hr31 rfl (Dm.isC _ V.isc) fun h7 B7 u7 => ?_
  have e7 := e6.trans u7
  have V7 := V.ext u7
  have lv := It.len V7
  have B17 := B1.ext (((((u2.trans u3).trans u4).trans u5).trans u6).trans u7)
  obtain ⟨pa, p1, p2⟩ := V7.wItem (j := 0) (x := ⟨awN.p, 1⟩) rfl
  rw [show ((0 : Nat) : Int) = 0 from rfl] at p1
  have lp : SemE PG h7 (Instr.loadAt T_api_Packet (.pointer (some ⟨r3, 1, none⟩))) = some (.agg awN.p.cells.toArray) := T_api_Packet.agg B17 (by show 1 + 4 ≤ 5; decide)
  have lq : SemE PG h7 (Instr.loadAt T_api_Place (.pointer (some ⟨r31, 0, none⟩))) = some (.agg (Pl.cells ⟨5, 1⟩).toArray) := pl_load B7 rfl
  have ix := indexAt_array (P := PG) (t := T_2_api_Place) (b := r31) (o := 0) (k := .i64) (j := 0) T_2_api_Place.und T_api_Place.info T_api_Place.size (by omega) (by omega)
  have ie : ∀ x y, SemE PG h7 (binS .eql T_api_Item x y (.agg (It.cells ⟨awN.p, 1⟩).toArray) (It.val ⟨awN.p, 1⟩)) = some (.bool true) := fun x y => by
    have := eqlStruct (x := x) (y := y) (t := T_api_Item) (by kernel_rfl) (It.eqIn (h := h7) ⟨awN.p, 1⟩ ⟨awN.p, 1⟩)
    rw [decide_eq_true (rfl : (⟨awN.p, 1⟩ : It) = ⟨awN.p, 1⟩)] at this
    exact this
  have ll : ((awD.its.length : Int) == 1) = true := rfl
  simp only [eqlI, T_api_Daemon.f1, T_sl_api_Item.load, B7.cell, Dm.cells, lv, ll, p1, p2, T_api_Note.f1, lp, aw_it, ie, T_api_Daemon.f0, ix, Int.toNat_zero, Nat.zero_mul, Nat.add_zero, lq, aw_pl, Pl.eql, decide_true, popO_some, bindH_eq, condV_bool, condV_true, condV_false, yV_bool, gopV_tt, gopV_ff, gopV_tf, gopV_ft, pickV_t, pickV_f, pickV_bool, nilS_ptr, add_eq, sub_eq, mul_eq, lss_eq, leq_eq, gtr_eq, geq_eq, not_eq, minI_eq, maxI_eq, extract_0, extract_1, extract_2, eqlI, neqI, makeFunc_eq, decide_true, decide_false, if_true, if_false, Bool.false_eq_true, Bool.not_true, Bool.not_false, reduceIte, List.getElem?_toArray, List.getElem?_cons_zero, List.getElem?_cons_succ, Option.isSome_none, List.length_map, yV_undef, gopV_none, Nat.zero_add, Nat.reduceAdd, beq_self_eq_true, bne_self_eq_false, and_self, Bool.true_and, Bool.false_and, Bool.and_true, Bool.and_false, Bool.true_or, Bool.false_or, Bool.or_true, Bool.or_false]
  exact hk _ e7
/-! ### RecordPlaces -/
theorem ixP {r i : Nat} (hi : i < 2) : SemP PG (Instr.indexAt T_2_api_Place (.pointer (some ⟨r, 0, none⟩)) (.int .i64 (i : Int))) = some (.pointer (some ⟨r, i * 2, none⟩)) := by
  have ix := indexAt_array (P := PG) (t := T_2_api_Place) (b := r) (o := 0) (k := .i64) (j := (i : Int)) T_2_api_Place.und T_api_Place.info T_api_Place.size (by omega) (by omega)
  rw [ix, Int.toNat_natCast, Nat.zero_add]
theorem ixP0 {r : Nat} : SemP PG (Instr.indexAt T_2_api_Place (.pointer (some ⟨r, 0, none⟩)) (.int .i64 0)) = some (.pointer (some ⟨r, 0, none⟩)) := ixP (i := 0) (by decide)
theorem ixP1 {r : Nat} : SemP PG (Instr.indexAt T_2_api_Place (.pointer (some ⟨r, 0, none⟩)) (.int .i64 1)) = some (.pointer (some ⟨r, 2, none⟩)) := ixP (i := 1) (by decide)
theorem dm_build (p q : Pl) (b : Option Addr) (n c : Nat) : SemP PG (Instr.build T_api_Daemon #[(0, two p q), (1, .slice b n c)]) = some (Dm.v ⟨p, q, []⟩ (.slice b n c)) := by kernel_rfl
theorem rc_buildS (d : Dm) (b : Option Addr) (n c : Nat) : SemP PG (Instr.build T_api_Record #[(1, d.v (.slice b n c))]) = some (Rc.v ⟨0, d, 0, Pl.zero, []⟩ (.slice b n c) (.slice none 0 0)) := by kernel_rfl
end Go.Proofs.Ytlkjippiaghbmaa
/- the document's Of; TableOf; TableSame. -/
set_option maxRecDepth 40000
set_option linter.unusedSimpArgs false
set_option linter.unusedVariables false
namespace Go.Proofs.Ytlkjippiaghbmaa
open Go

theorem not_of_dup {l : List It} {i : Nat} (h : ¬ ((l.take i).map It.key).Nodup) : ¬ (l.map It.key).Nodup := fun hn => by
  apply h
  exact List.Nodup.sublist (List.Sublist.map _ (List.take_sublist i l)) hn
end Go.Proofs.Ytlkjippiaghbmaa
/- TableSame. -/
set_option maxRecDepth 40000
set_option linter.unusedSimpArgs false
set_option linter.unusedVariables false
namespace Go.Proofs.Ytlkjippiaghbmaa
open Go

def AR (L : List It) : Prop := ∀ i ∈ L, i.right = true
theorem mem_ins {L : List It} {i x : It} (h : x ∈ insL L i) : x = i ∨ x ∈ L := by
  have := (ins_perm L i).mem_iff.1 h
  rcases List.mem_cons.1 this with h | h
  · exact .inl h
  · unfold delL at h; exact .inr (List.mem_filter.1 h).1
theorem AR.ins {L : List It} (h : AR L) {i : It} (hi : i.right = true) : AR (insL L i) := fun x hx => by
  rcases mem_ins hx with rfl | hx
  · exact hi
  · exact h x hx
theorem AR.del {L : List It} (h : AR L) (k : Ky) : AR (delL L k) := fun x hx => h x (by unfold delL at hx; exact (List.mem_filter.1 hx).1)
theorem AR.put {L : List It} (h : AR L) {i : It} (hi : i.right = true) (room : Int) : AR (putL L room i) := by
  unfold putL; split
  · exact h
  · exact h.ins hi
theorem AR.app {L : List It} (h : AR L) (room : Int) (n : Nt) : AR (appL L room n) := by
  unfold appL
  by_cases hr : n.right = false
  · rw [if_pos hr]; exact h
  · rw [if_neg hr]
    have hp : n.p.right = true := by
      have : n.right = true := by simpa using hr
      unfold Nt.right at this
      simp only [Bool.and_eq_true] at this
      exact this.2
    split
    · split
      · exact h
      · exact h.put (by unfold It.right; simp [hp]) room
    · split
      · split
        · rename_i x hx
          obtain ⟨h1, _⟩ := getL_mem hx
          have := h x h1
          unfold It.right at this
          simp only [Bool.and_eq_true] at this
          exact h.ins (by unfold It.right; simp [this.2])
        · exact h.put (by unfold It.right; simp [hp]) room
      · exact h.del _
theorem AR.act {L : List It} (h : AR L) (room : Int) (c : Ac) : AR (actL L room c) := by
  unfold actL; split
  · exact h.del _
  · exact h.app room _
theorem app_twice {L : List It} (hs : Srt L) {room : Int} {n : Nt} (h0 : appE L room n = 0) : appE (appL L room n) room n = 0 ∧ appL (appL L room n) room n = appL L room n := by
  have hr : ¬ n.right = false := fun h => by unfold appE at h0; rw [if_pos h] at h0; cases h0
  by_cases h1 : n.k = 1
  · have put : ∀ i : It, putE L room i = 0 → putL L room i = insL L i := fun i h => by
      unfold putE at h; unfold putL
      split at h
      · cases h
      · rename_i hc; rw [if_neg hc]
    cases hg : getL L n.p.key with
    | some x =>
      have e : appL L room n = L := by unfold appL; rw [if_neg hr, if_pos h1, hg]; rfl
      rw [e]; exact ⟨h0, e⟩
    | none =>
      have e0 : putE L room ⟨n.p, 1⟩ = 0 := by unfold appE at h0; rw [if_neg hr, if_pos h1, hg] at h0; exact h0
      have e : appL L room n = insL L ⟨n.p, 1⟩ := by unfold appL; rw [if_neg hr, if_pos h1, hg]; exact put _ e0
      have g : getL (insL L ⟨n.p, 1⟩) n.p.key = some ⟨n.p, 1⟩ := ins_get hs ⟨n.p, 1⟩
      rw [e]
      exact ⟨by unfold appE; rw [if_neg hr, if_pos h1, g]; rfl, by unfold appL; rw [if_neg hr, if_pos h1, g]; rfl⟩
  · by_cases h2 : n.k = 2
    · have put : ∀ i : It, putE L room i = 0 → putL L room i = insL L i := fun i h => by
        unfold putE at h; unfold putL
        split at h
        · cases h
        · rename_i hc; rw [if_neg hc]
      cases hg : getL L n.p.key with
      | some x =>
        obtain ⟨_, hx2⟩ := getL_mem hg
        have e : appL L room n = insL L ⟨x.p, 2⟩ := by unfold appL; rw [if_neg hr, if_neg h1, if_pos h2, hg]
        have g : getL (insL L ⟨x.p, 2⟩) n.p.key = some ⟨x.p, 2⟩ := by rw [← hx2]; exact ins_get hs ⟨x.p, 2⟩
        rw [e]
        refine ⟨by unfold appE; rw [if_neg hr, if_neg h1, if_pos h2, g]; rfl, ?_⟩
        unfold appL; rw [if_neg hr, if_neg h1, if_pos h2, g]
        exact ins_ins hs rfl
      | none =>
        have e0 : putE L room ⟨n.p, 2⟩ = 0 := by unfold appE at h0; rw [if_neg hr, if_neg h1, if_pos h2, hg] at h0; exact h0
        have e : appL L room n = insL L ⟨n.p, 2⟩ := by unfold appL; rw [if_neg hr, if_neg h1, if_pos h2, hg]; exact put _ e0
        have g : getL (insL L ⟨n.p, 2⟩) n.p.key = some ⟨n.p, 2⟩ := ins_get hs ⟨n.p, 2⟩
        rw [e]
        refine ⟨by unfold appE; rw [if_neg hr, if_neg h1, if_pos h2, g]; rfl, ?_⟩
        unfold appL; rw [if_neg hr, if_neg h1, if_pos h2, g]
        exact ins_ins hs rfl
    · have e : ∀ X, appL X room n = delL X n.p.key := fun X => by unfold appL; rw [if_neg hr, if_neg h1, if_neg h2]
      have e' : ∀ X, appE X room n = 0 := fun X => by unfold appE; rw [if_neg hr, if_neg h1, if_neg h2]
      rw [e L]
      exact ⟨e' _, by rw [e, del_del]⟩

end Go.Proofs.Ytlkjippiaghbmaa
/- record: what a step leaves may be; RecordPlaces. -/
set_option linter.unusedSimpArgs false
set_option linter.unusedVariables false
namespace Go.Proofs.Ytlkjippiaghbmaa
open Go
set_option maxRecDepth 20000
theorem AR.aply {room : Int} : ∀ {L : List It} (l : List Nt), AR L → AR (aply room L l).1
  | L, [], h => h
  | L, n :: ns, h => by
    unfold Go.Proofs.Ytlkjippiaghbmaa.aply
    split
    · exact h.app room n
    · exact AR.aply ns (h.app room n)
theorem Srt.aply {room : Int} : ∀ {L : List It} (l : List Nt), Srt L → Srt (aply room L l).1
  | L, [], h => h
  | L, n :: ns, h => by
    unfold Go.Proofs.Ytlkjippiaghbmaa.aply
    split
    · exact h.app room n
    · exact Srt.aply ns (h.app room n)
theorem OkD.ar {d : Dm} {room : Int} (H : OkD d room) : AR d.its := fun i hi => List.all_eq_true.1 H.all i hi
theorem OkD.sorted {d : Dm} {room : Int} (H : OkD d room) : Srt d.its := by rw [← H.srt]; exact srt_ofL _
theorem stp_err {d : Dm} {room : Int} {r : Rc} (h : (stp d room r).2 ≠ 0) : (stp d room r).1 = Dm.zero := by
  unfold stp at *
  by_cases c0 : chk d room = 0
  · rw [if_neg (by simp [c0])] at *
    by_cases c1 : r.bytes.2 = 0
    · rw [if_neg (by simp [c1])] at *
      by_cases k1 : r.k = 1
      · rw [if_pos k1] at *
        by_cases c2 : chk r.s room = 0
        · rw [if_neg (by simp [c2])] at h; exact absurd rfl h
        · rw [if_pos c2]
      · rw [if_neg k1] at *
        by_cases c3 : (aply room (ofL d.its) r.ns).2 = 0
        · rw [if_neg (by simp [c3])] at h; exact absurd rfl h
        · rw [if_pos c3]
    · rw [if_pos c1]
  · rw [if_pos c0]
/-- A step without an error: from a state that may be, by a record that has bytes. -/
theorem stp_good {d : Dm} {room : Int} {r : Rc} (h : (stp d room r).2 = 0) : OkD d room ∧ RcOk r ∧ OkD (stp d room r).1 room ∧
    ((r.k = 1 ∧ (stp d room r).1 = r.s) ∨ (r.k = 2 ∧ (r.ch = 0 ∨ r.ch = 1) ∧ (aply room d.its r.ns).2 = 0 ∧ (stp d room r).1 = ⟨if r.ch = 0 then r.pl else d.p0, if r.ch = 0 then d.p1 else r.pl, (aply room d.its r.ns).1⟩)) := by
  unfold stp at *
  by_cases c0 : chk d room = 0
  · have H := chk_ok.1 c0
    rw [if_neg (by simp [c0])] at *
    by_cases c1 : r.bytes.2 = 0
    · have hr := (bytes_zero c1).1
      rw [if_neg (by simp [c1])] at *
      by_cases k1 : r.k = 1
      · rw [if_pos k1] at *
        by_cases c2 : chk r.s room = 0
        · rw [if_neg (by simp [c2])]
          exact ⟨H, hr, chk_ok.1 c2, .inl ⟨k1, rfl⟩⟩
        · rw [if_pos c2] at h; exact absurd h c2
      · obtain ⟨k2, -, hc, -⟩ := plain2 hr.plain k1
        obtain ⟨hpl, -⟩ := hr.b k2
        rw [if_neg k1] at *
        rw [H.srt] at *
        by_cases c3 : (aply room d.its r.ns).2 = 0
        · rw [if_neg (by simp [c3])]
          have hs := Srt.aply (room := room) r.ns H.sorted
          refine ⟨H, hr, ⟨H.r1, H.r2, aply_room H.sorted H.len r.ns, List.all_eq_true.2 fun i hi => AR.aply (room := room) r.ns H.ar i hi, ?_, ?_, ofL_srt hs, hs.nodup⟩, .inr ⟨k2, hc, c3, rfl⟩⟩
          · show okPl (if r.ch = 0 then r.pl else d.p0)
            split
            · exact hpl
            · exact H.p0
          · show okPl (if r.ch = 0 then d.p1 else r.pl)
            split
            · exact H.p1
            · exact hpl
        · rw [if_pos c3] at h; exact absurd h c3
    · rw [if_pos c1] at h; exact absurd h c1
  · rw [if_pos c0] at h; exact absurd h c0
theorem zero_its {h : PH} : ISl h (.slice none 0 0) Dm.zero.its := nilI
theorem RecordPlaces_ok {h : PH} {d : Dm} {room : Int} {r : Rc} {v vi vn : Value} (V : ISl h v d.its) (VI : ISl h vi r.s.its) (VN : NSl h vn r.ns) (wf : r.wf) {k : Value → PH → Prop} (hk : ∀ h', Ext h h' → k (.bool true) h') :
    CallsH PG id_carracklaw17_RecordPlaces #[d.v v, .int .i64 room, r.v vi vn] h k := by
  apply carracklaw17_RecordPlaces.call
  unfold carracklaw17_RecordPlaces
  intro r1 hr1
  try rw [bindH_eq]
  have u1 : Ext h (h.set r1 (.cells (Value.cells (d.v v)) T_api_Daemon)) := Upd.new hr1
  have B1 : Bx (h.set r1 (.cells (Value.cells (d.v v)) T_api_Daemon)) r1 (d.cells v) := Bx.new
  generalize h.set r1 (.cells (Value.cells (d.v v)) T_api_Daemon) = h1 at *
  intro r3 hr3
  try rw [bindH_eq]
  have u3 : Ext h1 (h1.set r3 (.cells (Value.cells (r.v vi vn)) T_api_Record)) := Upd.new hr3
  have B3 : Bx (h1.set r3 (.cells (Value.cells (r.v vi vn)) T_api_Record)) r3 (r.cells vi vn) := Bx.new
  have B13 := B1.ext u3
  generalize h1.set r3 (.cells (Value.cells (r.v vi vn)) T_api_Record) = h3 at *
  have e3 := u1.trans u3
  have ld : ∀ {h' : PH}, Ext h3 h' → SemE PG h' (Instr.loadAt T_api_Daemon (.pointer (some ⟨r1, 0, none⟩))) = some (d.v v) := fun u => Dm.load (o := 0) (B13.ext u) rfl
  have lr : ∀ {h' : PH}, Ext h3 h' → SemE PG h' (Instr.loadAt T_api_Record (.pointer (some ⟨r3, 0, none⟩))) = some (r.v vi vn) := fun u => T_api_Record.agg (B3.ext u) (by show 0 + 10 ≤ 10; decide)
  refine rawake_ok fun h4 u4 => ?_
  simp only [lr u4, popO_some, bindH_eq, condV_bool, condV_true, condV_false, yV_bool, gopV_tt, gopV_ff, gopV_tf, gopV_ft, pickV_t, pickV_f, pickV_bool, nilS_ptr, add_eq, sub_eq, mul_eq, lss_eq, leq_eq, gtr_eq, geq_eq, not_eq, minI_eq, maxI_eq, extract_0, extract_1, extract_2, eqlI, neqI, makeFunc_eq, decide_true, decide_false, if_true, if_false, Bool.false_eq_true, Bool.not_true, Bool.not_false, reduceIte, List.getElem?_toArray, List.getElem?_cons_zero, List.getElem?_cons_succ, Option.isSome_none, List.length_map, yV_undef, gopV_none, Nat.zero_add, Nat.reduceAdd, beq_self_eq_true, bne_self_eq_false, and_self, Bool.true_and, Bool.false_and, Bool.and_true, Bool.and_false, Bool.true_or, Bool.false_or, Bool.or_true, Bool.or_false]
  refine rfew_ok (VI.ext (e3.trans u4)) (VN.ext (e3.trans u4)) fun h5 b hb u5 => ?_
  have e5 := u4.trans u5
  cases b with
  | false =>
    simp only [popO_some, bindH_eq, condV_bool, condV_true, condV_false, yV_bool, gopV_tt, gopV_ff, gopV_tf, gopV_ft, pickV_t, pickV_f, pickV_bool, nilS_ptr, add_eq, sub_eq, mul_eq, lss_eq, leq_eq, gtr_eq, geq_eq, not_eq, minI_eq, maxI_eq, extract_0, extract_1, extract_2, eqlI, neqI, makeFunc_eq, decide_true, decide_false, if_true, if_false, Bool.false_eq_true, Bool.not_true, Bool.not_false, reduceIte, List.getElem?_toArray, List.getElem?_cons_zero, List.getElem?_cons_succ, Option.isSome_none, List.length_map, yV_undef, gopV_none, Nat.zero_add, Nat.reduceAdd, beq_self_eq_true, bne_self_eq_false, and_self, Bool.true_and, Bool.false_and, Bool.and_true, Bool.and_false, Bool.true_or, Bool.false_or, Bool.or_true, Bool.or_false]
    exact hk _ (e3.trans e5)
  | true =>
    obtain ⟨f1, f2⟩ := hb rfl
    obtain ⟨a, c, ev, -⟩ := V.here
    have hb2 : SemP PG (Instr.build T_api_Record #[(1, d.v v)]) = some (Rc.v ⟨0, d, 0, Pl.zero, []⟩ v (.slice none 0 0)) := by rw [ev]; exact rc_buildS _ _ _ _
    simp only [ld e5, hb2, popO_some, bindH_eq, condV_bool, condV_true, condV_false, yV_bool, gopV_tt, gopV_ff, gopV_tf, gopV_ft, pickV_t, pickV_f, pickV_bool, nilS_ptr, add_eq, sub_eq, mul_eq, lss_eq, leq_eq, gtr_eq, geq_eq, not_eq, minI_eq, maxI_eq, extract_0, extract_1, extract_2, eqlI, neqI, makeFunc_eq, decide_true, decide_false, if_true, if_false, Bool.false_eq_true, Bool.not_true, Bool.not_false, reduceIte, List.getElem?_toArray, List.getElem?_cons_zero, List.getElem?_cons_succ, Option.isSome_none, List.length_map, yV_undef, gopV_none, Nat.zero_add, Nat.reduceAdd, beq_self_eq_true, bne_self_eq_false, and_self, Bool.true_and, Bool.false_and, Bool.and_true, Bool.and_false, Bool.true_or, Bool.false_or, Bool.or_true, Bool.or_false]
    refine rfew_ok (r := ⟨0, d, 0, Pl.zero, []⟩) (V.ext (e3.trans e5)) nilN fun h6 b hb u6 => ?_
    have e6 := e5.trans u6
    cases b with
    | false =>
      simp only [popO_some, bindH_eq, condV_bool, condV_true, condV_false, yV_bool, gopV_tt, gopV_ff, gopV_tf, gopV_ft, pickV_t, pickV_f, pickV_bool, nilS_ptr, add_eq, sub_eq, mul_eq, lss_eq, leq_eq, gtr_eq, geq_eq, not_eq, minI_eq, maxI_eq, extract_0, extract_1, extract_2, eqlI, neqI, makeFunc_eq, decide_true, decide_false, if_true, if_false, Bool.false_eq_true, Bool.not_true, Bool.not_false, reduceIte, List.getElem?_toArray, List.getElem?_cons_zero, List.getElem?_cons_succ, Option.isSome_none, List.length_map, yV_undef, gopV_none, Nat.zero_add, Nat.reduceAdd, beq_self_eq_true, bne_self_eq_false, and_self, Bool.true_and, Bool.false_and, Bool.and_true, Bool.and_false, Bool.true_or, Bool.false_or, Bool.or_true, Bool.or_false]
      exact hk _ (e3.trans e6)
    | true =>
      obtain ⟨-, g2⟩ := hb rfl
      have g2' : d.its.length ≤ 300 := g2
      simp only [ld e6, popO_some, bindH_eq, condV_bool, condV_true, condV_false, yV_bool, gopV_tt, gopV_ff, gopV_tf, gopV_ft, pickV_t, pickV_f, pickV_bool, nilS_ptr, add_eq, sub_eq, mul_eq, lss_eq, leq_eq, gtr_eq, geq_eq, not_eq, minI_eq, maxI_eq, extract_0, extract_1, extract_2, eqlI, neqI, makeFunc_eq, decide_true, decide_false, if_true, if_false, Bool.false_eq_true, Bool.not_true, Bool.not_false, reduceIte, List.getElem?_toArray, List.getElem?_cons_zero, List.getElem?_cons_succ, Option.isSome_none, List.length_map, yV_undef, gopV_none, Nat.zero_add, Nat.reduceAdd, beq_self_eq_true, bne_self_eq_false, and_self, Bool.true_and, Bool.false_and, Bool.and_true, Bool.and_false, Bool.true_or, Bool.false_or, Bool.or_true, Bool.or_false]
      refine check_ok (V.ext (e3.trans e6)) (by omega) fun h7 u7 => ?_
      have e7 := e6.trans u7
      by_cases c0 : chk d room = 0
      · simp only [c0, neqI, ld e7, lr e7, popO_some, bindH_eq, condV_bool, condV_true, condV_false, yV_bool, gopV_tt, gopV_ff, gopV_tf, gopV_ft, pickV_t, pickV_f, pickV_bool, nilS_ptr, add_eq, sub_eq, mul_eq, lss_eq, leq_eq, gtr_eq, geq_eq, not_eq, minI_eq, maxI_eq, extract_0, extract_1, extract_2, eqlI, neqI, makeFunc_eq, decide_true, decide_false, if_true, if_false, Bool.false_eq_true, Bool.not_true, Bool.not_false, reduceIte, List.getElem?_toArray, List.getElem?_cons_zero, List.getElem?_cons_succ, Option.isSome_none, List.length_map, yV_undef, gopV_none, Nat.zero_add, Nat.reduceAdd, beq_self_eq_true, bne_self_eq_false, and_self, Bool.true_and, Bool.false_and, Bool.and_true, Bool.and_false, Bool.true_or, Bool.false_or, Bool.or_true, Bool.or_false]
        refine step_ok (V.ext (e3.trans e7)) (VI.ext (e3.trans e7)) (VN.ext (e3.trans e7)) wf (by omega) fun h8 v' V8 nv u8 => ?_
        have e8 := e7.trans u8
        have hlen := stp_len (d := d) (room := room) (r := r)
        have herr := stp_err (d := d) (room := room) (r := r)
        have hgood := stp_good (d := d) (room := room) (r := r)
        generalize stp d room r = x at *
        obtain ⟨x, e⟩ := x
        simp only at V8 hlen herr hgood
        simp only [popO_some, bindH_eq, condV_bool, condV_true, condV_false, yV_bool, gopV_tt, gopV_ff, gopV_tf, gopV_ft, pickV_t, pickV_f, pickV_bool, nilS_ptr, add_eq, sub_eq, mul_eq, lss_eq, leq_eq, gtr_eq, geq_eq, not_eq, minI_eq, maxI_eq, extract_0, extract_1, extract_2, eqlI, neqI, makeFunc_eq, decide_true, decide_false, if_true, if_false, Bool.false_eq_true, Bool.not_true, Bool.not_false, reduceIte, List.getElem?_toArray, List.getElem?_cons_zero, List.getElem?_cons_succ, Option.isSome_none, List.length_map, yV_undef, gopV_none, Nat.zero_add, Nat.reduceAdd, beq_self_eq_true, bne_self_eq_false, and_self, Bool.true_and, Bool.false_and, Bool.and_true, Bool.and_false, Bool.true_or, Bool.false_or, Bool.or_true, Bool.or_false]
        intro r53 hr53
        try rw [bindH_eq]
        refine T_api_Daemon.fill hr53 rfl (Dm.isC _ V8.isc) fun h9 B9 u9 => ?_
        have e9 := e8.trans u9
        have V9 := V8.ext u9
        have lx : ∀ {h' : PH}, Ext h9 h' → SemE PG h' (Instr.loadAt T_api_Daemon (.pointer (some ⟨r53, 0, none⟩))) = some (x.v v') := fun u => Dm.load (o := 0) (B9.ext u) rfl
        by_cases e0 : e = 0
        · subst e0
          obtain ⟨H, hr, Hx, hcase⟩ := hgood rfl
          simp only [neqI, lx Upd.refl, popO_some, bindH_eq, condV_bool, condV_true, condV_false, yV_bool, gopV_tt, gopV_ff, gopV_tf, gopV_ft, pickV_t, pickV_f, pickV_bool, nilS_ptr, add_eq, sub_eq, mul_eq, lss_eq, leq_eq, gtr_eq, geq_eq, not_eq, minI_eq, maxI_eq, extract_0, extract_1, extract_2, eqlI, neqI, makeFunc_eq, decide_true, decide_false, if_true, if_false, Bool.false_eq_true, Bool.not_true, Bool.not_false, reduceIte, List.getElem?_toArray, List.getElem?_cons_zero, List.getElem?_cons_succ, Option.isSome_none, List.length_map, yV_undef, gopV_none, Nat.zero_add, Nat.reduceAdd, beq_self_eq_true, bne_self_eq_false, and_self, Bool.true_and, Bool.false_and, Bool.and_true, Bool.and_false, Bool.true_or, Bool.false_or, Bool.or_true, Bool.or_false]
          refine check_ok V9 (by omega) fun h10 u10 => ?_
          have e10 := e9.trans u10
          have B10 := B9.ext u10
          have C10 := B3.ext e10
          simp only [chk_ok.2 Hx, neqI, T_api_Record.f0, T_int.load, C10.cell, Rc.cells, eqlI, popO_some, bindH_eq, condV_bool, condV_true, condV_false, yV_bool, gopV_tt, gopV_ff, gopV_tf, gopV_ft, pickV_t, pickV_f, pickV_bool, nilS_ptr, add_eq, sub_eq, mul_eq, lss_eq, leq_eq, gtr_eq, geq_eq, not_eq, minI_eq, maxI_eq, extract_0, extract_1, extract_2, eqlI, neqI, makeFunc_eq, decide_true, decide_false, if_true, if_false, Bool.false_eq_true, Bool.not_true, Bool.not_false, reduceIte, List.getElem?_toArray, List.getElem?_cons_zero, List.getElem?_cons_succ, Option.isSome_none, List.length_map, yV_undef, gopV_none, Nat.zero_add, Nat.reduceAdd, beq_self_eq_true, bne_self_eq_false, and_self, Bool.true_and, Bool.false_and, Bool.and_true, Bool.and_false, Bool.true_or, Bool.false_or, Bool.or_true, Bool.or_false]
          rcases hcase with ⟨k1, hx⟩ | ⟨k2, hc, ha, hx⟩
          · have q : (r.k == 1) = true := by simp [k1]
            have l1 : SemE PG h10 (Instr.loadAt T_api_Daemon (.pointer (some ⟨r3, 1, none⟩))) = some (r.s.v vi) := Dm.load C10 rfl
            simp only [q, lx u10, T_api_Record.f1, l1, popO_some, bindH_eq, condV_bool, condV_true, condV_false, yV_bool, gopV_tt, gopV_ff, gopV_tf, gopV_ft, pickV_t, pickV_f, pickV_bool, nilS_ptr, add_eq, sub_eq, mul_eq, lss_eq, leq_eq, gtr_eq, geq_eq, not_eq, minI_eq, maxI_eq, extract_0, extract_1, extract_2, eqlI, neqI, makeFunc_eq, decide_true, decide_false, if_true, if_false, Bool.false_eq_true, Bool.not_true, Bool.not_false, reduceIte, List.getElem?_toArray, List.getElem?_cons_zero, List.getElem?_cons_succ, Option.isSome_none, List.length_map, yV_undef, gopV_none, Nat.zero_add, Nat.reduceAdd, beq_self_eq_true, bne_self_eq_false, and_self, Bool.true_and, Bool.false_and, Bool.and_true, Bool.and_false, Bool.true_or, Bool.false_or, Bool.or_true, Bool.or_false]
            refine sameState_ok (V9.ext u10) (VI.ext (e3.trans e10)) (by omega) fun h11 u11 => ?_
            rw [decide_eq_true hx]
            exact hk _ ((e3.trans e10).trans u11)
          · have q : (r.k == 1) = false := by simp [k2]
            have lp : SemE PG h10 (Instr.loadAt T_api_Place (.pointer (some ⟨r3, 7, none⟩))) = some (.agg r.pl.cells.toArray) := pl_load C10 rfl
            have x0 : SemE PG h10 (Instr.loadAt T_api_Place (.pointer (some ⟨r53, 0, none⟩))) = some (.agg x.p0.cells.toArray) := pl_load B10 rfl
            have x1 : SemE PG h10 (Instr.loadAt T_api_Place (.pointer (some ⟨r53, 2, none⟩))) = some (.agg x.p1.cells.toArray) := pl_load B10 rfl
            have D10 := B13.ext e10
            have d0 : SemE PG h10 (Instr.loadAt T_api_Place (.pointer (some ⟨r1, 0, none⟩))) = some (.agg d.p0.cells.toArray) := pl_load D10 rfl
            have d1 : SemE PG h10 (Instr.loadAt T_api_Place (.pointer (some ⟨r1, 2, none⟩))) = some (.agg d.p1.cells.toArray) := pl_load D10 rfl
            have lw := Nt.len (VN.ext (e3.trans e10))
            have l2 : SemE PG h10 (Instr.loadAt T_2_api_Place (.pointer (some ⟨r53, 0, none⟩))) = some (two x.p0 x.p1) := two_load B10 rfl
            have hb3 : SemP PG (Instr.build T_api_Daemon #[(0, two x.p0 x.p1), (1, v)]) = some (Dm.v ⟨x.p0, x.p1, d.its⟩ v) := by rw [ev]; exact dm_build _ _ _ _ _
            -- the last test
            have fin : popO (SemP PG (binOp .gtr T_int (.int .i64 (r.ns.length : Int)) (.int .i64 0))) fun v138 =>
                gopV (yV v138) false (fun k141 => popO (SemE PG h10 (Instr.loadAt T_api_Daemon (.pointer (some ⟨r53, 0, none⟩)))) fun v142 => k141 v142 h10) h10 fun v139 h140 =>
                gopV (yV v138) false (fun k145 => popO (SemP PG (Instr.fieldAt T_api_Daemon (.pointer (some ⟨r53, 0, none⟩)) 0)) fun v146 => k145 v146 h140) h140 fun v143 h144 =>
                gopV (yV v138) false (fun k149 => popO (SemE PG h144 (Instr.loadAt T_2_api_Place v143)) fun v150 => k149 v150 h144) h144 fun v147 h148 =>
                gopV (yV v138) false (fun k153 => popO (SemP PG (Instr.fieldAt T_api_Daemon (.pointer (some ⟨r1, 0, none⟩)) 1)) fun v154 => k153 v154 h148) h148 fun v151 h152 =>
                gopV (yV v138) false (fun k157 => popO (SemE PG h152 (Instr.loadAt T_sl_api_Item v151)) fun v158 => k157 v158 h152) h152 fun v155 h156 =>
                gopV (yV v138) false (fun k161 => popO (SemP PG (Instr.build T_api_Daemon #[(0, v147), (1, v155)])) fun v162 => k161 v162 h156) h156 fun v159 h160 =>
                gopV (yV v138) false (fun k165 => CallsH PG id_carrackref17_SameState #[v139, v159] h160 fun v166 h167 => k165 v166 h167) h160 fun v163 h164 =>
                popO (pickV v138 (Value.bool true) v163) fun v168 => k v168 h164 := by
              by_cases hn : r.ns = []
              · have g : ((0 : Int) < (r.ns.length : Int)) = False := eq_false (by rw [hn]; simp)
                simp only [g, lx u10, T_api_Daemon.f0, T_api_Daemon.f1, l2, T_sl_api_Item.load, D10.cell, Dm.cells, hb3, popO_some, bindH_eq, condV_bool, condV_true, condV_false, yV_bool, gopV_tt, gopV_ff, gopV_tf, gopV_ft, pickV_t, pickV_f, pickV_bool, nilS_ptr, add_eq, sub_eq, mul_eq, lss_eq, leq_eq, gtr_eq, geq_eq, not_eq, minI_eq, maxI_eq, extract_0, extract_1, extract_2, eqlI, neqI, makeFunc_eq, decide_true, decide_false, if_true, if_false, Bool.false_eq_true, Bool.not_true, Bool.not_false, reduceIte, List.getElem?_toArray, List.getElem?_cons_zero, List.getElem?_cons_succ, Option.isSome_none, List.length_map, yV_undef, gopV_none, Nat.zero_add, Nat.reduceAdd, beq_self_eq_true, bne_self_eq_false, and_self, Bool.true_and, Bool.false_and, Bool.and_true, Bool.and_false, Bool.true_or, Bool.false_or, Bool.or_true, Bool.or_false]
                refine sameState_ok (d' := ⟨x.p0, x.p1, d.its⟩) (V9.ext u10) (V.ext (e3.trans e10)) (by omega) fun h11 u11 => ?_
                have hx' : x = ⟨x.p0, x.p1, d.its⟩ := by
                  have : x.its = d.its := by rw [hx, hn]; rfl
                  rw [← this]
                rw [decide_eq_true hx']
                exact hk _ ((e3.trans e10).trans u11)
              · have hp := List.length_pos_iff.2 hn
                have g : ((0 : Int) < (r.ns.length : Int)) = True := eq_true (by omega)
                simp only [g, popO_some, bindH_eq, condV_bool, condV_true, condV_false, yV_bool, gopV_tt, gopV_ff, gopV_tf, gopV_ft, pickV_t, pickV_f, pickV_bool, nilS_ptr, add_eq, sub_eq, mul_eq, lss_eq, leq_eq, gtr_eq, geq_eq, not_eq, minI_eq, maxI_eq, extract_0, extract_1, extract_2, eqlI, neqI, makeFunc_eq, decide_true, decide_false, if_true, if_false, Bool.false_eq_true, Bool.not_true, Bool.not_false, reduceIte, List.getElem?_toArray, List.getElem?_cons_zero, List.getElem?_cons_succ, Option.isSome_none, List.length_map, yV_undef, gopV_none, Nat.zero_add, Nat.reduceAdd, beq_self_eq_true, bne_self_eq_false, and_self, Bool.true_and, Bool.false_and, Bool.and_true, Bool.and_false, Bool.true_or, Bool.false_or, Bool.or_true, Bool.or_false]
                exact hk _ (e3.trans e10)
            simp only [popO_some, bindH_eq, condV_bool, condV_true, condV_false, yV_bool, gopV_tt, gopV_ff, gopV_tf, gopV_ft, pickV_t, pickV_f, pickV_bool, nilS_ptr, add_eq, sub_eq, mul_eq, lss_eq, leq_eq, gtr_eq, geq_eq, not_eq, minI_eq, maxI_eq, extract_0, extract_1, extract_2, eqlI, neqI, makeFunc_eq, decide_true, decide_false, if_true, if_false, Bool.false_eq_true, Bool.not_true, Bool.not_false, reduceIte, List.getElem?_toArray, List.getElem?_cons_zero, List.getElem?_cons_succ, Option.isSome_none, List.length_map, yV_undef, gopV_none, Nat.zero_add, Nat.reduceAdd, beq_self_eq_true, bne_self_eq_false, and_self, Bool.true_and, Bool.false_and, Bool.and_true, Bool.and_false, Bool.true_or, Bool.false_or, Bool.or_true, Bool.or_false] at fin
            rcases hc with hc | hc
            · have p0 : x.p0 = r.pl := by rw [hx]; simp [hc]
              have p1 : x.p1 = d.p1 := by rw [hx]; simp [hc]
              simp only [q, T_api_Record.f2, T_api_Record.f3, T_api_Record.f4, T_int.load, T_sl_api_Note.load, C10.cell, Rc.cells, hc, T_api_Daemon.f0, ixP0, ixP1, x0, x1, d0, d1, lp, Pl.neq, p0, p1, decide_true, show IntKind.i64.wrap (1 - 0) = 1 from rfl, lw, popO_some, bindH_eq, condV_bool, condV_true, condV_false, yV_bool, gopV_tt, gopV_ff, gopV_tf, gopV_ft, pickV_t, pickV_f, pickV_bool, nilS_ptr, add_eq, sub_eq, mul_eq, lss_eq, leq_eq, gtr_eq, geq_eq, not_eq, minI_eq, maxI_eq, extract_0, extract_1, extract_2, eqlI, neqI, makeFunc_eq, decide_true, decide_false, if_true, if_false, Bool.false_eq_true, Bool.not_true, Bool.not_false, reduceIte, List.getElem?_toArray, List.getElem?_cons_zero, List.getElem?_cons_succ, Option.isSome_none, List.length_map, yV_undef, gopV_none, Nat.zero_add, Nat.reduceAdd, beq_self_eq_true, bne_self_eq_false, and_self, Bool.true_and, Bool.false_and, Bool.and_true, Bool.and_false, Bool.true_or, Bool.false_or, Bool.or_true, Bool.or_false]
              exact fin
            · have p0 : x.p0 = d.p0 := by rw [hx]; simp [hc]
              have p1 : x.p1 = r.pl := by rw [hx]; simp [hc]
              simp only [q, T_api_Record.f2, T_api_Record.f3, T_api_Record.f4, T_int.load, T_sl_api_Note.load, C10.cell, Rc.cells, hc, T_api_Daemon.f0, ixP0, ixP1, x0, x1, d0, d1, lp, Pl.neq, p0, p1, decide_true, show IntKind.i64.wrap (1 - 1) = 0 from rfl, lw, popO_some, bindH_eq, condV_bool, condV_true, condV_false, yV_bool, gopV_tt, gopV_ff, gopV_tf, gopV_ft, pickV_t, pickV_f, pickV_bool, nilS_ptr, add_eq, sub_eq, mul_eq, lss_eq, leq_eq, gtr_eq, geq_eq, not_eq, minI_eq, maxI_eq, extract_0, extract_1, extract_2, eqlI, neqI, makeFunc_eq, decide_true, decide_false, if_true, if_false, Bool.false_eq_true, Bool.not_true, Bool.not_false, reduceIte, List.getElem?_toArray, List.getElem?_cons_zero, List.getElem?_cons_succ, Option.isSome_none, List.length_map, yV_undef, gopV_none, Nat.zero_add, Nat.reduceAdd, beq_self_eq_true, bne_self_eq_false, and_self, Bool.true_and, Bool.false_and, Bool.and_true, Bool.and_false, Bool.true_or, Bool.false_or, Bool.or_true, Bool.or_false]
              exact fin
        · have q : (e != 0) = true := by simp [e0]
          have hz := herr e0
          subst hz
          simp only [neqI, q, lx Upd.refl, dm_zero, popO_some, bindH_eq, condV_bool, condV_true, condV_false, yV_bool, gopV_tt, gopV_ff, gopV_tf, gopV_ft, pickV_t, pickV_f, pickV_bool, nilS_ptr, add_eq, sub_eq, mul_eq, lss_eq, leq_eq, gtr_eq, geq_eq, not_eq, minI_eq, maxI_eq, extract_0, extract_1, extract_2, eqlI, neqI, makeFunc_eq, decide_true, decide_false, if_true, if_false, Bool.false_eq_true, Bool.not_true, Bool.not_false, reduceIte, List.getElem?_toArray, List.getElem?_cons_zero, List.getElem?_cons_succ, Option.isSome_none, List.length_map, yV_undef, gopV_none, Nat.zero_add, Nat.reduceAdd, beq_self_eq_true, bne_self_eq_false, and_self, Bool.true_and, Bool.false_and, Bool.and_true, Bool.and_false, Bool.true_or, Bool.false_or, Bool.or_true, Bool.or_false]
          refine sameState_ok V9 zero_its (by simp [Dm.zero]) fun h10 u10 => ?_
          rw [decide_eq_true rfl]
          exact hk _ ((e3.trans e9).trans u10)
      · have q : (chk d room != 0) = true := by simp [c0]
        simp only [neqI, q, popO_some, bindH_eq, condV_bool, condV_true, condV_false, yV_bool, gopV_tt, gopV_ff, gopV_tf, gopV_ft, pickV_t, pickV_f, pickV_bool, nilS_ptr, add_eq, sub_eq, mul_eq, lss_eq, leq_eq, gtr_eq, geq_eq, not_eq, minI_eq, maxI_eq, extract_0, extract_1, extract_2, eqlI, neqI, makeFunc_eq, decide_true, decide_false, if_true, if_false, Bool.false_eq_true, Bool.not_true, Bool.not_false, reduceIte, List.getElem?_toArray, List.getElem?_cons_zero, List.getElem?_cons_succ, Option.isSome_none, List.length_map, yV_undef, gopV_none, Nat.zero_add, Nat.reduceAdd, beq_self_eq_true, bne_self_eq_false, and_self, Bool.true_and, Bool.false_and, Bool.and_true, Bool.and_false, Bool.true_or, Bool.false_or, Bool.or_true, Bool.or_false]
        exact hk _ (e3.trans e7)
end Go.Proofs.Ytlkjippiaghbmaa
/- record: states, records, notes and items that are read of a row. -/
set_option linter.unusedSimpArgs false
set_option linter.unusedVariables false
namespace Go.Proofs.Ytlkjippiaghbmaa
open Go Go.RowKit Go.ChangeShapes
set_option maxRecDepth 20000
theorem T_api_Place.cells : PG.cellsOf T_api_Place = 2 := by kernel_rfl
theorem T_2_api_Place.cells : PG.cellsOf T_2_api_Place = 4 := by kernel_rfl
theorem T_api_Daemon.cells : PG.cellsOf T_api_Daemon = 5 := by kernel_rfl
theorem T_api_Record.cells : PG.cellsOf T_api_Record = 10 := by kernel_rfl
theorem T_sl_api_Item.cells : PG.cellsOf T_sl_api_Item = 1 := by kernel_rfl
theorem T_sl_api_Note.cells : PG.cellsOf T_sl_api_Note = 1 := by kernel_rfl
section
variable {H : Type} {enc : TypeId × Value → H} {w : World} {spare : Nat → Bool} {held : Bool}
theorem rows_of' {α : Type} {cells : α → List Value} {P : α → Prop} {t : TypeId} (hof : ∀ cs, Rd enc PG w spare held t cs → ∃ a, cs = cells a ∧ P a) : ∀ {rows : List (List Value)}, (∀ r ∈ rows, Rd enc PG w spare held t r) → ∃ xs : List α, rows = xs.map cells ∧ ∀ x ∈ xs, P x
  | [], _ => ⟨[], rfl, by simp⟩
  | r :: rs, h => by
    obtain ⟨m, rfl, hm⟩ := hof r (h r (by simp))
    obtain ⟨xs, rfl, hx⟩ := rows_of' hof (rows := rs) (fun x hx => h x (by simp [hx]))
    exact ⟨m :: xs, rfl, fun x hx' => by rcases List.mem_cons.1 hx' with rfl | h; exact hm; exact hx x h⟩
theorem Pk.rd {cs : List Value} (h : Rd enc PG w spare held T_api_Packet cs) : ∃ p : Pk, cs = p.cells ∧ p.wf := by
  obtain ⟨hl, hf⟩ := rd_struct T_api_Packet.und h
  rw [T_api_Packet.cells] at hl
  match cs, hl with
  | [c0, c1, c2, c3], _ =>
    have f0 : Rd enc PG w spare held T_int (([c0, c1, c2, c3].drop 0).take (PG.cellsOf T_int)) := hf 0 _ rfl
    rw [T_int.cells] at f0
    have f1 : Rd enc PG w spare held T_uint64 (([c0, c1, c2, c3].drop 1).take (PG.cellsOf T_uint64)) := hf 1 _ rfl
    rw [T_uint64.cells] at f1
    have f2 : Rd enc PG w spare held T_uint64 (([c0, c1, c2, c3].drop 2).take (PG.cellsOf T_uint64)) := hf 2 _ rfl
    rw [T_uint64.cells] at f2
    have f3 : Rd enc PG w spare held T_string (([c0, c1, c2, c3].drop 3).take (PG.cellsOf T_string)) := hf 3 _ rfl
    rw [T_string.cells] at f3
    obtain ⟨n0, e0, -⟩ := rd_int T_int.und f0
    obtain ⟨n1, e1, w1⟩ := rd_int T_uint64.und f1
    have w1 := wf_u64 w1
    obtain ⟨n2, e2, w2⟩ := rd_int T_uint64.und f2
    have w2 := wf_u64 w2
    obtain ⟨n3, e3, -⟩ := rd_string T_string.und f3
    simp only [List.drop_succ_cons, List.drop_zero, List.take_succ_cons, List.take_zero, List.cons.injEq, and_true] at e0 e1 e2 e3
    subst e0 e1 e2 e3
    exact ⟨⟨n0, n1, n2, n3⟩, rfl, w1.1, by show n1 < _; omega, w2.1, by show n2 < _; omega⟩
theorem It.rd {cs : List Value} (h : Rd enc PG w spare held T_api_Item cs) : ∃ p : It, cs = p.cells ∧ p.p.wf := by
  obtain ⟨hl, hf⟩ := rd_struct T_api_Item.und h
  rw [T_api_Item.cells] at hl
  match cs, hl with
  | [c0, c1, c2, c3, c4], _ =>
    have f0 : Rd enc PG w spare held T_api_Packet (([c0, c1, c2, c3, c4].drop 0).take (PG.cellsOf T_api_Packet)) := hf 0 _ rfl
    rw [T_api_Packet.cells] at f0
    have f1 : Rd enc PG w spare held T_int (([c0, c1, c2, c3, c4].drop 4).take (PG.cellsOf T_int)) := hf 1 _ rfl
    rw [T_int.cells] at f1
    obtain ⟨n0, e0, w0⟩ := Pk.rd f0
    obtain ⟨n1, e1, -⟩ := rd_int T_int.und f1
    simp only [List.drop_succ_cons, List.drop_zero, List.take_succ_cons, List.take_zero, List.cons.injEq, and_true, Pk.cells] at e0 e1
    obtain ⟨rfl, rfl, rfl, rfl⟩ := e0
    subst e1
    exact ⟨⟨n0, n1⟩, rfl, w0⟩
theorem Nt.rd {cs : List Value} (h : Rd enc PG w spare held T_api_Note cs) : ∃ p : Nt, cs = p.cells ∧ p.p.wf := by
  obtain ⟨hl, hf⟩ := rd_struct T_api_Note.und h
  rw [T_api_Note.cells] at hl
  match cs, hl with
  | [c0, c1, c2, c3, c4], _ =>
    have f0 : Rd enc PG w spare held T_int (([c0, c1, c2, c3, c4].drop 0).take (PG.cellsOf T_int)) := hf 0 _ rfl
    rw [T_int.cells] at f0
    have f1 : Rd enc PG w spare held T_api_Packet (([c0, c1, c2, c3, c4].drop 1).take (PG.cellsOf T_api_Packet)) := hf 1 _ rfl
    rw [T_api_Packet.cells] at f1
    obtain ⟨n0, e0, -⟩ := rd_int T_int.und f0
    obtain ⟨n1, e1, w1⟩ := Pk.rd f1
    simp only [List.drop_succ_cons, List.drop_zero, List.take_succ_cons, List.take_zero, List.cons.injEq, and_true, Pk.cells] at e0 e1
    obtain ⟨rfl, rfl, rfl, rfl⟩ := e1
    subst e0
    exact ⟨⟨n0, n1⟩, rfl, w1⟩
theorem It.rds {rows : List (List Value)} (h : ∀ r ∈ rows, Rd enc PG w spare held T_api_Item r) : ∃ xs : List It, rows = xs.map It.cells ∧ ∀ x ∈ xs, x.p.wf := rows_of' (fun _ => It.rd) h
theorem Nt.rds {rows : List (List Value)} (h : ∀ r ∈ rows, Rd enc PG w spare held T_api_Note r) : ∃ xs : List Nt, rows = xs.map Nt.cells ∧ ∀ x ∈ xs, x.p.wf := rows_of' (fun _ => Nt.rd) h
theorem Pl.rd {cs : List Value} (h : Rd enc PG w spare held T_api_Place cs) : ∃ p : Pl, cs = p.cells ∧ p.wf := by
  obtain ⟨hl, hf⟩ := rd_struct T_api_Place.und h
  rw [T_api_Place.cells] at hl
  match cs, hl with
  | [c0, c1], _ =>
    have f0 : Rd enc PG w spare held T_uint64 (([c0, c1].drop 0).take (PG.cellsOf T_uint64)) := hf 0 _ rfl
    rw [T_uint64.cells] at f0
    have f1 : Rd enc PG w spare held T_int (([c0, c1].drop 1).take (PG.cellsOf T_int)) := hf 1 _ rfl
    rw [T_int.cells] at f1
    obtain ⟨n0, e0, w0⟩ := rd_int T_uint64.und f0
    have w0 := wf_u64 w0
    obtain ⟨n1, e1, -⟩ := rd_int T_int.und f1
    simp only [List.drop_succ_cons, List.drop_zero, List.take_succ_cons, List.take_zero, List.cons.injEq, and_true] at e0 e1
    subst e0 e1
    exact ⟨⟨n0, n1⟩, rfl, w0.1, by show n0 < _; omega⟩
theorem two.rd {cs : List Value} (h : Rd enc PG w spare held T_2_api_Place cs) : ∃ p : Pl × Pl, cs = p.1.cells ++ p.2.cells ∧ p.1.wf ∧ p.2.wf := by
  obtain ⟨hl, hf⟩ := rd_array T_2_api_Place.und h
  rw [T_2_api_Place.cells] at hl
  match cs, hl with
  | [c0, c1, c2, c3], _ =>
    have f0 : Rd enc PG w spare held T_api_Place (([c0, c1, c2, c3].drop (0 * PG.cellsOf T_api_Place)).take (PG.cellsOf T_api_Place)) := hf 0 (by decide)
    have f1 : Rd enc PG w spare held T_api_Place (([c0, c1, c2, c3].drop (1 * PG.cellsOf T_api_Place)).take (PG.cellsOf T_api_Place)) := hf 1 (by decide)
    rw [T_api_Place.cells] at f0 f1
    obtain ⟨p, e0, w0⟩ := Pl.rd f0
    obtain ⟨q, e1, w1⟩ := Pl.rd f1
    simp only [Nat.zero_mul, Nat.one_mul, List.drop_succ_cons, List.drop_zero, List.take_succ_cons, List.take_zero, List.cons.injEq, and_true, Pl.cells] at e0 e1
    obtain ⟨rfl, rfl⟩ := e0
    obtain ⟨rfl, rfl⟩ := e1
    exact ⟨(p, q), rfl, w0, w1⟩
theorem Dm.rd {cs : List Value} (h : Rd enc PG w spare held T_api_Daemon cs) : ∃ p : Dm × Value, cs = p.1.cells p.2 ∧ ISl (heapOf w) p.2 p.1.its ∧ p.1.wf := by
  obtain ⟨hl, hf⟩ := rd_struct T_api_Daemon.und h
  rw [T_api_Daemon.cells] at hl
  match cs, hl with
  | [c0, c1, c2, c3, c4], _ =>
    have f0 : Rd enc PG w spare held T_2_api_Place (([c0, c1, c2, c3, c4].drop 0).take (PG.cellsOf T_2_api_Place)) := hf 0 _ rfl
    rw [T_2_api_Place.cells] at f0
    have f1 : Rd enc PG w spare held T_sl_api_Item (([c0, c1, c2, c3, c4].drop 4).take (PG.cellsOf T_sl_api_Item)) := hf 1 _ rfl
    rw [T_sl_api_Item.cells] at f1
    obtain ⟨n0, e0, w0⟩ := two.rd f0
    obtain ⟨v1, rows1, e1, S1, hr1⟩ := rd_slice T_sl_api_Item.und (by rw [T_api_Item.cells]; decide) f1
    obtain ⟨n1, q1, w1⟩ := It.rds hr1
    subst q1
    rw [T_api_Item.cells] at S1
    simp only [List.drop_succ_cons, List.drop_zero, List.take_succ_cons, List.take_zero, List.cons.injEq, and_true, Pl.cells, List.cons_append, List.nil_append] at e0 e1
    obtain ⟨rfl, rfl, rfl, rfl⟩ := e0
    subst e1
    exact ⟨(⟨n0.1, n0.2, n1⟩, _), rfl, S1, w0.1, w0.2, w1⟩
theorem Rc.rd_ {cs : List Value} (h : Rd enc PG w spare held T_api_Record cs) : ∃ p : Rc × Value × Value, cs = p.1.cells p.2.1 p.2.2 ∧ ISl (heapOf w) p.2.1 p.1.s.its ∧ NSl (heapOf w) p.2.2 p.1.ns ∧ p.1.wf := by
  obtain ⟨hl, hf⟩ := rd_struct T_api_Record.und h
  rw [T_api_Record.cells] at hl
  match cs, hl with
  | [c0, c1, c2, c3, c4, c5, c6, c7, c8, c9], _ =>
    have f0 : Rd enc PG w spare held T_int (([c0, c1, c2, c3, c4, c5, c6, c7, c8, c9].drop 0).take (PG.cellsOf T_int)) := hf 0 _ rfl
    rw [T_int.cells] at f0
    have f1 : Rd enc PG w spare held T_api_Daemon (([c0, c1, c2, c3, c4, c5, c6, c7, c8, c9].drop 1).take (PG.cellsOf T_api_Daemon)) := hf 1 _ rfl
    rw [T_api_Daemon.cells] at f1
    have f2 : Rd enc PG w spare held T_int (([c0, c1, c2, c3, c4, c5, c6, c7, c8, c9].drop 6).take (PG.cellsOf T_int)) := hf 2 _ rfl
    rw [T_int.cells] at f2
    have f3 : Rd enc PG w spare held T_api_Place (([c0, c1, c2, c3, c4, c5, c6, c7, c8, c9].drop 7).take (PG.cellsOf T_api_Place)) := hf 3 _ rfl
    rw [T_api_Place.cells] at f3
    have f4 : Rd enc PG w spare held T_sl_api_Note (([c0, c1, c2, c3, c4, c5, c6, c7, c8, c9].drop 9).take (PG.cellsOf T_sl_api_Note)) := hf 4 _ rfl
    rw [T_sl_api_Note.cells] at f4
    obtain ⟨n0, e0, -⟩ := rd_int T_int.und f0
    obtain ⟨n1, e1, w1⟩ := Dm.rd f1
    obtain ⟨n2, e2, -⟩ := rd_int T_int.und f2
    obtain ⟨n3, e3, w3⟩ := Pl.rd f3
    obtain ⟨v4, rows4, e4, S4, hr4⟩ := rd_slice T_sl_api_Note.und (by rw [T_api_Note.cells]; decide) f4
    obtain ⟨n4, q4, w4⟩ := Nt.rds hr4
    subst q4
    rw [T_api_Note.cells] at S4
    simp only [List.drop_succ_cons, List.drop_zero, List.take_succ_cons, List.take_zero, List.cons.injEq, and_true, Dm.cells, Pl.cells] at e0 e1 e2 e3 e4
    obtain ⟨rfl, rfl, rfl, rfl, rfl⟩ := e1
    obtain ⟨rfl, rfl⟩ := e3
    subst e0 e2 e4
    exact ⟨(⟨n0, n1.1, n2, n3, n4⟩, n1.2, _), rfl, w1.1, S4, w1.2, w3, w4⟩
end
end Go.Proofs.Ytlkjippiaghbmaa
/- record: cut or followed: the statement RecordCuts. -/
set_option linter.unusedSimpArgs false
set_option linter.unusedVariables false
namespace Go.Proofs.Ytlkjippiaghbmaa
open Go
set_option maxRecDepth 20000
theorem bytes_dec (a b : Tx) : ((tx a).toList == (tx b).toList) = decide (a = b) := by
  have e : ∀ l : Tx, (tx l).toList = l := fun l => by rw [ByteArray.toList_eq]; simp [tx]
  rw [e, e, Bool.eq_iff_iff]; simp
theorem neqTx {h : PH} {t : TypeId} {x y : Operand} (a b : Tx) : SemE PG h (binS .neq t x y (.string (tx a)) (.string (tx b))) = some (.bool (!decide (a = b))) := by
  rw [← bytes_dec]; rfl
theorem eqlTx {h : PH} {t : TypeId} {x y : Operand} (a b : Tx) : SemE PG h (binS .eql t x y (.string (tx a)) (.string (tx b))) = some (.bool (decide (a = b))) := by
  rw [← bytes_dec]; rfl
theorem one_len {x : Int × Pk} (h : okOne x) : (oneBs x).length ≤ 84 := by
  have := (Pk.right_iff.1 h.2.2).2.2.2.2
  simp only [oneBs, Pk.bs, List.length_append, be_len, tx_len]
  omega
theorem ones_len : ∀ {l : List (Int × Pk)}, (∀ x ∈ l, okOne x) → (onesBs l).length ≤ 84 * l.length
  | [], _ => by simp [onesBs]
  | x :: l, h => by
    have h1 := one_len (h x (by simp))
    have h2 := ones_len (l := l) fun y hy => h y (by simp [hy])
    simp only [onesBs, List.length_append, List.length_cons]
    omega
theorem bs_len {r : Rc} (h : RcOk r) : r.bs.length ≤ 100000 := by
  unfold Rc.bs
  split
  case isTrue k1 =>
    obtain ⟨-, -, -, h40⟩ := plain1 h.plain k1
    have := ones_len (l := r.s.its.map It.x) (by simp only [List.forall_mem_map, okOne_it]; exact (h.a k1).2.2)
    simp only [Pl.bs, listBs, List.length_append, be_len, List.length_map] at *
    omega
  case isFalse k1 =>
    obtain ⟨k2, -, -, h16⟩ := plain2 h.plain k1
    have := ones_len (l := r.ns.map Nt.x) (by simp only [List.forall_mem_map, okOne_nt]; exact (h.b k2).2)
    simp only [Pl.bs, listBs, List.length_append, be_len, List.length_map] at *
    omega
theorem rc_zb : SemP PG (Instr.build T_api_Record #[]) = some (Rc.zero.v (.slice none 0 0) (.slice none 0 0)) := by kernel_rfl
theorem cut_ok {h : PH} {r : Rc} (ok : RcOk r) (w : r.wf) {v vn : Value} {b : Nat} (B : Bx h b (r.cells v vn)) (V : ISl h v r.s.its) (VN : NSl h vn r.ns) {n : Nat} (hn : n ≤ r.bs.length) {more : Tx} (hm : more.length ≤ 300) {R : Value → PH → Prop} (hR : ∀ h', Ext h h' → R (.bool true) h') :
    carracklaw17_RecordCuts_k46 R (.int .i64 (n : Int)) (.string (tx more)) (.pointer (some ⟨b, 0, none⟩)) (.string (tx r.bs)) h := by
  have hlen := bs_len ok
  have hi : r.s.its.length ≤ 1000000 ∧ r.ns.length ≤ 1000000 := by
    by_cases k1 : r.k = 1
    · obtain ⟨-, -, e, h40⟩ := plain1 ok.plain k1
      rw [e]; exact ⟨by omega, by simp⟩
    · obtain ⟨-, e, -, h16⟩ := plain2 ok.plain k1
      rw [e]; exact ⟨by simp [Dm.zero], by omega⟩
  unfold carracklaw17_RecordCuts_k46
  rw [cut_tx (i := 0) (j := n) T_string.und (.inl ⟨rfl, rfl⟩) (.inr ⟨_, rfl⟩) (by omega) hn]
  simp only [List.drop_zero, popO_some, bindH_eq, condV_bool, condV_true, condV_false, yV_bool, gopV_tt, gopV_ff, gopV_tf, gopV_ft, pickV_t, pickV_f, pickV_bool, nilS_ptr, add_eq, sub_eq, mul_eq, lss_eq, leq_eq, gtr_eq, geq_eq, not_eq, minI_eq, maxI_eq, extract_0, extract_1, extract_2, eqlI, neqI, makeFunc_eq, decide_true, decide_false, if_true, if_false, Bool.false_eq_true, Bool.not_true, Bool.not_false, reduceIte, List.getElem?_toArray, List.getElem?_cons_zero, List.getElem?_cons_succ, Option.isSome_none, List.length_map, yV_undef, gopV_none, Nat.zero_add, Nat.reduceAdd, beq_self_eq_true, bne_self_eq_false, and_self, Bool.true_and, Bool.false_and, Bool.and_true, Bool.and_false, Bool.true_or, Bool.false_or, Bool.or_true, Bool.or_false]
  have lenS : SemP PG (Builtin.len_ #[T_string] T_int #[.string (tx r.bs)]) = some (.int .i64 (r.bs.length : Int)) := by rw [len_string T_string.und, tx_size]
  refine parse_ok fun h1 pv pw I1 N1 _ _ u1 => ?_
  simp only [popO_some, bindH_eq, condV_bool, condV_true, condV_false, yV_bool, gopV_tt, gopV_ff, gopV_tf, gopV_ft, pickV_t, pickV_f, pickV_bool, nilS_ptr, add_eq, sub_eq, mul_eq, lss_eq, leq_eq, gtr_eq, geq_eq, not_eq, minI_eq, maxI_eq, extract_0, extract_1, extract_2, eqlI, neqI, makeFunc_eq, decide_true, decide_false, if_true, if_false, Bool.false_eq_true, Bool.not_true, Bool.not_false, reduceIte, List.getElem?_toArray, List.getElem?_cons_zero, List.getElem?_cons_succ, Option.isSome_none, List.length_map, yV_undef, gopV_none, Nat.zero_add, Nat.reduceAdd, beq_self_eq_true, bne_self_eq_false, and_self, Bool.true_and, Bool.false_and, Bool.and_true, Bool.and_false, Bool.true_or, Bool.false_or, Bool.or_true, Bool.or_false]
  intro r52 hr52
  try rw [bindH_eq]
  refine T_api_Record.fill hr52 rfl (Rc.isC _ I1.isc N1.isc) fun h2 B2 u2 => ?_
  have e2 := u1.trans u2
  have I2 := I1.ext u2
  have N2 := N1.ext u2
  have lr : ∀ {h' : PH}, Ext h2 h' → SemE PG h' (Instr.loadAt T_api_Record (.pointer (some ⟨r52, 0, none⟩))) = some ((parseP (r.bs.take n)).1.v pv pw) := fun u => T_api_Record.agg (B2.ext u) (by show 0 + 10 ≤ 10; decide)
  have l3 : ∀ {h' : PH}, Ext h2 h' → SemE PG h' (Instr.loadAt T_api_Record (.pointer (some ⟨b, 0, none⟩))) = some (r.v v vn) := fun u => T_api_Record.agg ((B.ext e2).ext u) (by show 0 + 10 ≤ 10; decide)
  by_cases hc : n < r.bs.length
  · have g : ((n : Int) < (r.bs.length : Int)) = True := eq_true (by omega)
    rw [parse_cut ok w hc] at I2 N2 lr
    simp only [lenS, g, parse_cut ok w hc, eqlI, lr Upd.refl, rc_zb, popO_some, bindH_eq, condV_bool, condV_true, condV_false, yV_bool, gopV_tt, gopV_ff, gopV_tf, gopV_ft, pickV_t, pickV_f, pickV_bool, nilS_ptr, add_eq, sub_eq, mul_eq, lss_eq, leq_eq, gtr_eq, geq_eq, not_eq, minI_eq, maxI_eq, extract_0, extract_1, extract_2, eqlI, neqI, makeFunc_eq, decide_true, decide_false, if_true, if_false, Bool.false_eq_true, Bool.not_true, Bool.not_false, reduceIte, List.getElem?_toArray, List.getElem?_cons_zero, List.getElem?_cons_succ, Option.isSome_none, List.length_map, yV_undef, gopV_none, Nat.zero_add, Nat.reduceAdd, beq_self_eq_true, bne_self_eq_false, and_self, Bool.true_and, Bool.false_and, Bool.and_true, Bool.and_false, Bool.true_or, Bool.false_or, Bool.or_true, Bool.or_false]
    refine rsame_ok I2 N2 nilI nilN (by simp [Rc.zero, Dm.zero]) (by simp [Rc.zero]) fun h3 u3 => ?_
    exact hR _ (e2.trans u3)
  · have en : n = r.bs.length := by omega
    subst en
    rw [List.take_length, parse_back ok w] at I2 N2 lr
    have g : ((r.bs.length : Int) < (r.bs.length : Int)) = False := eq_false (by omega)
    simp only [lenS, g, List.take_length, parse_back ok w, popO_some, bindH_eq, condV_bool, condV_true, condV_false, yV_bool, gopV_tt, gopV_ff, gopV_tf, gopV_ft, pickV_t, pickV_f, pickV_bool, nilS_ptr, add_eq, sub_eq, mul_eq, lss_eq, leq_eq, gtr_eq, geq_eq, not_eq, minI_eq, maxI_eq, extract_0, extract_1, extract_2, eqlI, neqI, makeFunc_eq, decide_true, decide_false, if_true, if_false, Bool.false_eq_true, Bool.not_true, Bool.not_false, reduceIte, List.getElem?_toArray, List.getElem?_cons_zero, List.getElem?_cons_succ, Option.isSome_none, List.length_map, yV_undef, gopV_none, Nat.zero_add, Nat.reduceAdd, beq_self_eq_true, bne_self_eq_false, and_self, Bool.true_and, Bool.false_and, Bool.and_true, Bool.and_false, Bool.true_or, Bool.false_or, Bool.or_true, Bool.or_false]
    rw [add_tx (by omega)]
    simp only [popO_some, bindH_eq, condV_bool, condV_true, condV_false, yV_bool, gopV_tt, gopV_ff, gopV_tf, gopV_ft, pickV_t, pickV_f, pickV_bool, nilS_ptr, add_eq, sub_eq, mul_eq, lss_eq, leq_eq, gtr_eq, geq_eq, not_eq, minI_eq, maxI_eq, extract_0, extract_1, extract_2, eqlI, neqI, makeFunc_eq, decide_true, decide_false, if_true, if_false, Bool.false_eq_true, Bool.not_true, Bool.not_false, reduceIte, List.getElem?_toArray, List.getElem?_cons_zero, List.getElem?_cons_succ, Option.isSome_none, List.length_map, yV_undef, gopV_none, Nat.zero_add, Nat.reduceAdd, beq_self_eq_true, bne_self_eq_false, and_self, Bool.true_and, Bool.false_and, Bool.and_true, Bool.and_false, Bool.true_or, Bool.false_or, Bool.or_true, Bool.or_false]
    refine parse_ok fun h3 qv qw I3 N3 _ _ u3 => ?_
    simp only [popO_some, bindH_eq, condV_bool, condV_true, condV_false, yV_bool, gopV_tt, gopV_ff, gopV_tf, gopV_ft, pickV_t, pickV_f, pickV_bool, nilS_ptr, add_eq, sub_eq, mul_eq, lss_eq, leq_eq, gtr_eq, geq_eq, not_eq, minI_eq, maxI_eq, extract_0, extract_1, extract_2, eqlI, neqI, makeFunc_eq, decide_true, decide_false, if_true, if_false, Bool.false_eq_true, Bool.not_true, Bool.not_false, reduceIte, List.getElem?_toArray, List.getElem?_cons_zero, List.getElem?_cons_succ, Option.isSome_none, List.length_map, yV_undef, gopV_none, Nat.zero_add, Nat.reduceAdd, beq_self_eq_true, bne_self_eq_false, and_self, Bool.true_and, Bool.false_and, Bool.and_true, Bool.and_false, Bool.true_or, Bool.false_or, Bool.or_true, Bool.or_false]
    intro r78 hr78
    try rw [bindH_eq]
    refine T_api_Record.fill hr78 rfl (Rc.isC _ I3.isc N3.isc) fun h4 B4 u4 => ?_
    have e4 := u3.trans u4
    have I4 := I3.ext u4
    have N4 := N3.ext u4
    have lq : ∀ {h' : PH}, Ext h4 h' → SemE PG h' (Instr.loadAt T_api_Record (.pointer (some ⟨r78, 0, none⟩))) = some ((parseP (r.bs ++ more)).1.v qv qw) := fun u => T_api_Record.agg (B4.ext u) (by show 0 + 10 ≤ 10; decide)
    simp only [eqlI, lr e4, l3 e4, popO_some, bindH_eq, condV_bool, condV_true, condV_false, yV_bool, gopV_tt, gopV_ff, gopV_tf, gopV_ft, pickV_t, pickV_f, pickV_bool, nilS_ptr, add_eq, sub_eq, mul_eq, lss_eq, leq_eq, gtr_eq, geq_eq, not_eq, minI_eq, maxI_eq, extract_0, extract_1, extract_2, eqlI, neqI, makeFunc_eq, decide_true, decide_false, if_true, if_false, Bool.false_eq_true, Bool.not_true, Bool.not_false, reduceIte, List.getElem?_toArray, List.getElem?_cons_zero, List.getElem?_cons_succ, Option.isSome_none, List.length_map, yV_undef, gopV_none, Nat.zero_add, Nat.reduceAdd, beq_self_eq_true, bne_self_eq_false, and_self, Bool.true_and, Bool.false_and, Bool.and_true, Bool.and_false, Bool.true_or, Bool.false_or, Bool.or_true, Bool.or_false]
    refine rsame_ok (I2.ext e4) (N2.ext e4) (V.ext (e2.trans e4)) (VN.ext (e2.trans e4)) hi.1 hi.2 fun h5 u5 => ?_
    have e5 := e4.trans u5
    simp only [popO_some, bindH_eq, condV_bool, condV_true, condV_false, yV_bool, gopV_tt, gopV_ff, gopV_tf, gopV_ft, pickV_t, pickV_f, pickV_bool, nilS_ptr, add_eq, sub_eq, mul_eq, lss_eq, leq_eq, gtr_eq, geq_eq, not_eq, minI_eq, maxI_eq, extract_0, extract_1, extract_2, eqlI, neqI, makeFunc_eq, decide_true, decide_false, if_true, if_false, Bool.false_eq_true, Bool.not_true, Bool.not_false, reduceIte, List.getElem?_toArray, List.getElem?_cons_zero, List.getElem?_cons_succ, Option.isSome_none, List.length_map, yV_undef, gopV_none, Nat.zero_add, Nat.reduceAdd, beq_self_eq_true, bne_self_eq_false, and_self, Bool.true_and, Bool.false_and, Bool.and_true, Bool.and_false, Bool.true_or, Bool.false_or, Bool.or_true, Bool.or_false]
    by_cases hmo : more = []
    · subst hmo
      rw [List.append_nil, parse_back ok w] at I4 N4 lq
      have q : (({ data := #[] } : ByteArray)) = tx [] := rfl
      simp only [q, eqlTx, neqTx, List.append_nil, parse_back ok w, eqlI, lq u5, l3 e5, decide_true, popO_some, bindH_eq, condV_bool, condV_true, condV_false, yV_bool, gopV_tt, gopV_ff, gopV_tf, gopV_ft, pickV_t, pickV_f, pickV_bool, nilS_ptr, add_eq, sub_eq, mul_eq, lss_eq, leq_eq, gtr_eq, geq_eq, not_eq, minI_eq, maxI_eq, extract_0, extract_1, extract_2, eqlI, neqI, makeFunc_eq, decide_true, decide_false, if_true, if_false, Bool.false_eq_true, Bool.not_true, Bool.not_false, reduceIte, List.getElem?_toArray, List.getElem?_cons_zero, List.getElem?_cons_succ, Option.isSome_none, List.length_map, yV_undef, gopV_none, Nat.zero_add, Nat.reduceAdd, beq_self_eq_true, bne_self_eq_false, and_self, Bool.true_and, Bool.false_and, Bool.and_true, Bool.and_false, Bool.true_or, Bool.false_or, Bool.or_true, Bool.or_false]
      refine rsame_ok (I4.ext u5) (N4.ext u5) (V.ext (e2.trans e5)) (VN.ext (e2.trans e5)) hi.1 hi.2 fun h6 u6 => ?_
      simp only [popO_some, bindH_eq, condV_bool, condV_true, condV_false, yV_bool, gopV_tt, gopV_ff, gopV_tf, gopV_ft, pickV_t, pickV_f, pickV_bool, nilS_ptr, add_eq, sub_eq, mul_eq, lss_eq, leq_eq, gtr_eq, geq_eq, not_eq, minI_eq, maxI_eq, extract_0, extract_1, extract_2, eqlI, neqI, makeFunc_eq, decide_true, decide_false, if_true, if_false, Bool.false_eq_true, Bool.not_true, Bool.not_false, reduceIte, List.getElem?_toArray, List.getElem?_cons_zero, List.getElem?_cons_succ, Option.isSome_none, List.length_map, yV_undef, gopV_none, Nat.zero_add, Nat.reduceAdd, beq_self_eq_true, bne_self_eq_false, and_self, Bool.true_and, Bool.false_and, Bool.and_true, Bool.and_false, Bool.true_or, Bool.false_or, Bool.or_true, Bool.or_false]
      exact hR _ ((e2.trans e5).trans u6)
    · rw [parse_more ok w hmo] at I4 N4 lq
      have q : (({ data := #[] } : ByteArray)) = tx [] := rfl
      have d : decide (more = []) = false := by simp [hmo]
      simp only [q, eqlTx, neqTx, parse_more ok w hmo, eqlI, lq u5, l3 e5, d, rc_zb, popO_some, bindH_eq, condV_bool, condV_true, condV_false, yV_bool, gopV_tt, gopV_ff, gopV_tf, gopV_ft, pickV_t, pickV_f, pickV_bool, nilS_ptr, add_eq, sub_eq, mul_eq, lss_eq, leq_eq, gtr_eq, geq_eq, not_eq, minI_eq, maxI_eq, extract_0, extract_1, extract_2, eqlI, neqI, makeFunc_eq, decide_true, decide_false, if_true, if_false, Bool.false_eq_true, Bool.not_true, Bool.not_false, reduceIte, List.getElem?_toArray, List.getElem?_cons_zero, List.getElem?_cons_succ, Option.isSome_none, List.length_map, yV_undef, gopV_none, Nat.zero_add, Nat.reduceAdd, beq_self_eq_true, bne_self_eq_false, and_self, Bool.true_and, Bool.false_and, Bool.and_true, Bool.and_false, Bool.true_or, Bool.false_or, Bool.or_true, Bool.or_false]
      refine rsame_ok (I4.ext u5) (N4.ext u5) nilI nilN (by simp [Rc.zero, Dm.zero]) (by simp [Rc.zero]) fun h6 u6 => ?_
      exact hR _ ((e2.trans e5).trans u6)
theorem RecordCuts_ok {h : PH} {r : Rc} {v vn : Value} (V : ISl h v r.s.its) (VN : NSl h vn r.ns) (wf : r.wf) (cut : Int) (more : Tx) {k : Value → PH → Prop} (hk : ∀ h', Ext h h' → k (.bool true) h') :
    CallsH PG id_carracklaw17_RecordCuts #[r.v v vn, .int .i64 cut, .string (tx more)] h k := by
  apply carracklaw17_RecordCuts.call
  unfold carracklaw17_RecordCuts
  intro r1 hr1
  try rw [bindH_eq]
  have u1 : Ext h (h.set r1 (.cells (Value.cells (r.v v vn)) T_api_Record)) := Upd.new hr1
  have B1 : Bx (h.set r1 (.cells (Value.cells (r.v v vn)) T_api_Record)) r1 (r.cells v vn) := Bx.new
  generalize h.set r1 (.cells (Value.cells (r.v v vn)) T_api_Record) = h1 at *
  have lr : ∀ {h' : PH}, Ext h1 h' → SemE PG h' (Instr.loadAt T_api_Record (.pointer (some ⟨r1, 0, none⟩))) = some (r.v v vn) := fun u => T_api_Record.agg (B1.ext u) (by show 0 + 10 ≤ 10; decide)
  refine rawake_ok fun h4 u4 => ?_
  simp only [lr u4, popO_some, bindH_eq, condV_bool, condV_true, condV_false, yV_bool, gopV_tt, gopV_ff, gopV_tf, gopV_ft, pickV_t, pickV_f, pickV_bool, nilS_ptr, add_eq, sub_eq, mul_eq, lss_eq, leq_eq, gtr_eq, geq_eq, not_eq, minI_eq, maxI_eq, extract_0, extract_1, extract_2, eqlI, neqI, makeFunc_eq, decide_true, decide_false, if_true, if_false, Bool.false_eq_true, Bool.not_true, Bool.not_false, reduceIte, List.getElem?_toArray, List.getElem?_cons_zero, List.getElem?_cons_succ, Option.isSome_none, List.length_map, yV_undef, gopV_none, Nat.zero_add, Nat.reduceAdd, beq_self_eq_true, bne_self_eq_false, and_self, Bool.true_and, Bool.false_and, Bool.and_true, Bool.and_false, Bool.true_or, Bool.false_or, Bool.or_true, Bool.or_false]
  refine rfew_ok (V.ext (u1.trans u4)) (VN.ext (u1.trans u4)) fun h5 b hb u5 => ?_
  have e5 := u4.trans u5
  have lenM : SemP PG (Builtin.len_ #[T_string] T_int #[.string (tx more)]) = some (.int .i64 (more.length : Int)) := by rw [len_string T_string.und, tx_size]
  cases b with
  | false =>
    simp only [popO_some, bindH_eq, condV_bool, condV_true, condV_false, yV_bool, gopV_tt, gopV_ff, gopV_tf, gopV_ft, pickV_t, pickV_f, pickV_bool, nilS_ptr, add_eq, sub_eq, mul_eq, lss_eq, leq_eq, gtr_eq, geq_eq, not_eq, minI_eq, maxI_eq, extract_0, extract_1, extract_2, eqlI, neqI, makeFunc_eq, decide_true, decide_false, if_true, if_false, Bool.false_eq_true, Bool.not_true, Bool.not_false, reduceIte, List.getElem?_toArray, List.getElem?_cons_zero, List.getElem?_cons_succ, Option.isSome_none, List.length_map, yV_undef, gopV_none, Nat.zero_add, Nat.reduceAdd, beq_self_eq_true, bne_self_eq_false, and_self, Bool.true_and, Bool.false_and, Bool.and_true, Bool.and_false, Bool.true_or, Bool.false_or, Bool.or_true, Bool.or_false]
    exact hk _ (u1.trans e5)
  | true =>
    by_cases hm : (300 : Int) < (more.length : Int)
    · have g := eq_true hm
      simp only [lenM, g, popO_some, bindH_eq, condV_bool, condV_true, condV_false, yV_bool, gopV_tt, gopV_ff, gopV_tf, gopV_ft, pickV_t, pickV_f, pickV_bool, nilS_ptr, add_eq, sub_eq, mul_eq, lss_eq, leq_eq, gtr_eq, geq_eq, not_eq, minI_eq, maxI_eq, extract_0, extract_1, extract_2, eqlI, neqI, makeFunc_eq, decide_true, decide_false, if_true, if_false, Bool.false_eq_true, Bool.not_true, Bool.not_false, reduceIte, List.getElem?_toArray, List.getElem?_cons_zero, List.getElem?_cons_succ, Option.isSome_none, List.length_map, yV_undef, gopV_none, Nat.zero_add, Nat.reduceAdd, beq_self_eq_true, bne_self_eq_false, and_self, Bool.true_and, Bool.false_and, Bool.and_true, Bool.and_false, Bool.true_or, Bool.false_or, Bool.or_true, Bool.or_false]
      exact hk _ (u1.trans e5)
    · have g := eq_false hm
      simp only [lenM, g, lr e5, popO_some, bindH_eq, condV_bool, condV_true, condV_false, yV_bool, gopV_tt, gopV_ff, gopV_tf, gopV_ft, pickV_t, pickV_f, pickV_bool, nilS_ptr, add_eq, sub_eq, mul_eq, lss_eq, leq_eq, gtr_eq, geq_eq, not_eq, minI_eq, maxI_eq, extract_0, extract_1, extract_2, eqlI, neqI, makeFunc_eq, decide_true, decide_false, if_true, if_false, Bool.false_eq_true, Bool.not_true, Bool.not_false, reduceIte, List.getElem?_toArray, List.getElem?_cons_zero, List.getElem?_cons_succ, Option.isSome_none, List.length_map, yV_undef, gopV_none, Nat.zero_add, Nat.reduceAdd, beq_self_eq_true, bne_self_eq_false, and_self, Bool.true_and, Bool.false_and, Bool.and_true, Bool.and_false, Bool.true_or, Bool.false_or, Bool.or_true, Bool.or_false]
      refine bytes_ok (V.ext (u1.trans e5)) (VN.ext (u1.trans e5)) wf fun h6 u6 => ?_
      have e6 := e5.trans u6
      have q : (({ data := #[] } : ByteArray)) = tx [] := rfl
      rcases bytes_iff r with ⟨ok, e⟩ | ⟨no, e⟩
      · have hlen := bs_len ok
        have lenS : SemP PG (Builtin.len_ #[T_string] T_int #[.string (tx r.bs)]) = some (.int .i64 (r.bs.length : Int)) := by rw [len_string T_string.und, tx_size]
        have hm' : more.length ≤ 300 := by omega
        by_cases hn : cut < 0
        · have g2 := eq_true hn
          simp only [e, neqI, g2, lenS, popO_some, bindH_eq, condV_bool, condV_true, condV_false, yV_bool, gopV_tt, gopV_ff, gopV_tf, gopV_ft, pickV_t, pickV_f, pickV_bool, nilS_ptr, add_eq, sub_eq, mul_eq, lss_eq, leq_eq, gtr_eq, geq_eq, not_eq, minI_eq, maxI_eq, extract_0, extract_1, extract_2, eqlI, neqI, makeFunc_eq, decide_true, decide_false, if_true, if_false, Bool.false_eq_true, Bool.not_true, Bool.not_false, reduceIte, List.getElem?_toArray, List.getElem?_cons_zero, List.getElem?_cons_succ, Option.isSome_none, List.length_map, yV_undef, gopV_none, Nat.zero_add, Nat.reduceAdd, beq_self_eq_true, bne_self_eq_false, and_self, Bool.true_and, Bool.false_and, Bool.and_true, Bool.and_false, Bool.true_or, Bool.false_or, Bool.or_true, Bool.or_false]
          exact cut_ok ok wf (B1.ext e6) (V.ext (u1.trans e6)) (VN.ext (u1.trans e6)) (Nat.le_refl _) hm' fun h7 u7 => hk _ ((u1.trans e6).trans u7)
        · have g2 := eq_false hn
          by_cases hx : (r.bs.length : Int) < cut
          · have g3 := eq_true hx
            simp only [e, neqI, g2, g3, lenS, popO_some, bindH_eq, condV_bool, condV_true, condV_false, yV_bool, gopV_tt, gopV_ff, gopV_tf, gopV_ft, pickV_t, pickV_f, pickV_bool, nilS_ptr, add_eq, sub_eq, mul_eq, lss_eq, leq_eq, gtr_eq, geq_eq, not_eq, minI_eq, maxI_eq, extract_0, extract_1, extract_2, eqlI, neqI, makeFunc_eq, decide_true, decide_false, if_true, if_false, Bool.false_eq_true, Bool.not_true, Bool.not_false, reduceIte, List.getElem?_toArray, List.getElem?_cons_zero, List.getElem?_cons_succ, Option.isSome_none, List.length_map, yV_undef, gopV_none, Nat.zero_add, Nat.reduceAdd, beq_self_eq_true, bne_self_eq_false, and_self, Bool.true_and, Bool.false_and, Bool.and_true, Bool.and_false, Bool.true_or, Bool.false_or, Bool.or_true, Bool.or_false]
            exact cut_ok ok wf (B1.ext e6) (V.ext (u1.trans e6)) (VN.ext (u1.trans e6)) (Nat.le_refl _) hm' fun h7 u7 => hk _ ((u1.trans e6).trans u7)
          · have g3 := eq_false hx
            obtain ⟨n, rfl⟩ : ∃ n : Nat, cut = (n : Int) := ⟨cut.toNat, by omega⟩
            simp only [e, neqI, g2, g3, lenS, popO_some, bindH_eq, condV_bool, condV_true, condV_false, yV_bool, gopV_tt, gopV_ff, gopV_tf, gopV_ft, pickV_t, pickV_f, pickV_bool, nilS_ptr, add_eq, sub_eq, mul_eq, lss_eq, leq_eq, gtr_eq, geq_eq, not_eq, minI_eq, maxI_eq, extract_0, extract_1, extract_2, eqlI, neqI, makeFunc_eq, decide_true, decide_false, if_true, if_false, Bool.false_eq_true, Bool.not_true, Bool.not_false, reduceIte, List.getElem?_toArray, List.getElem?_cons_zero, List.getElem?_cons_succ, Option.isSome_none, List.length_map, yV_undef, gopV_none, Nat.zero_add, Nat.reduceAdd, beq_self_eq_true, bne_self_eq_false, and_self, Bool.true_and, Bool.false_and, Bool.and_true, Bool.and_false, Bool.true_or, Bool.false_or, Bool.or_true, Bool.or_false]
            exact cut_ok ok wf (B1.ext e6) (V.ext (u1.trans e6)) (VN.ext (u1.trans e6)) (by omega) hm' fun h7 u7 => hk _ ((u1.trans e6).trans u7)
      · have n1 : ((1 : Int) != 0) = true := by decide
        simp only [e, neqI, n1, q, eqlTx, decide_true, popO_some, bindH_eq, condV_bool, condV_true, condV_false, yV_bool, gopV_tt, gopV_ff, gopV_tf, gopV_ft, pickV_t, pickV_f, pickV_bool, nilS_ptr, add_eq, sub_eq, mul_eq, lss_eq, leq_eq, gtr_eq, geq_eq, not_eq, minI_eq, maxI_eq, extract_0, extract_1, extract_2, eqlI, neqI, makeFunc_eq, decide_true, decide_false, if_true, if_false, Bool.false_eq_true, Bool.not_true, Bool.not_false, reduceIte, List.getElem?_toArray, List.getElem?_cons_zero, List.getElem?_cons_succ, Option.isSome_none, List.length_map, yV_undef, gopV_none, Nat.zero_add, Nat.reduceAdd, beq_self_eq_true, bne_self_eq_false, and_self, Bool.true_and, Bool.false_and, Bool.and_true, Bool.and_false, Bool.true_or, Bool.false_or, Bool.or_true, Bool.or_false]
        exact hk _ (u1.trans e6)
end Go.Proofs.Ytlkjippiaghbmaa
/- record: a list of records, one after another, and what a replay of their bytes tells. -/
set_option linter.unusedSimpArgs false
set_option linter.unusedVariables false
namespace Go.Proofs.Ytlkjippiaghbmaa
open Go
set_option maxRecDepth 20000
def wstep (room : Int) (st : Dm × Int) (x : Rc) : Dm × Int := if st.2 = 0 then stp st.1 room x else st
def wlk (room : Int) (x : Rc) (l : List Rc) : Dm × Int := l.foldl (wstep room) (x.s, chk x.s room)
def Rg (x : Rc) : Prop := RcOk x ∧ x.wf
theorem rstep_bs {room : Int} {x : Rc} (g : Rg x) (st : Dm × Int) : rstep room st x.bs = wstep room st x := by
  unfold rstep wstep
  rw [parse_back g.1 g.2]
  simp
theorem wstep_stick {room : Int} : ∀ (l : List Rc) {st : Dm × Int}, st.2 ≠ 0 → l.foldl (wstep room) st = st
  | [], _, _ => rfl
  | x :: l, st, h => by
    rw [List.foldl_cons, show wstep room st x = st from if_neg h]
    exact wstep_stick l h
theorem fold_bs {room : Int} : ∀ {l : List Rc} (_ : ∀ x ∈ l, Rg x) (st : Dm × Int), (l.map Rc.bs).foldl (rstep room) st = l.foldl (wstep room) st
  | [], _, _ => rfl
  | x :: l, h, st => by
    rw [List.map_cons, List.foldl_cons, List.foldl_cons, rstep_bs (h x (by simp))]
    exact fold_bs (fun y hy => h y (by simp [hy])) _
theorem rpl_good {room : Int} {x : Rc} {l : List Rc} (h : ∀ y ∈ x :: l, Rg y) (k1 : x.k = 1) : rpl room ((x :: l).map Rc.bs) = if (wlk room x l).2 ≠ 0 then (Dm.zero, (wlk room x l).2) else wlk room x l := by
  have gx := h x (by simp)
  have gl := fun y hy => h y (List.mem_cons_of_mem _ hy)
  rw [List.map_cons]
  unfold rpl
  simp only [fold_bs gl]
  have e : first0 room x.bs = if chk x.s room ≠ 0 then (Dm.zero, chk x.s room) else (x.s, 0) := by
    unfold first0
    rw [parse_back gx.1 gx.2]
    simp [k1]
  rw [e]
  unfold wlk
  by_cases c : chk x.s room = 0
  · simp only [c, ne_eq, not_true_eq_false, if_false]
  · rw [if_pos c, wstep_stick l (st := (Dm.zero, chk x.s room)) c, wstep_stick l (st := (x.s, chk x.s room)) c]
    simp [c]
theorem rpl_bad {room : Int} {x : Rc} {l : List Rc} (h : ∀ y ∈ x :: l, Rg y) (k1 : x.k ≠ 1) : (rpl room ((x :: l).map Rc.bs)).2 = 5 := by
  have gx := h x (by simp)
  have gl := fun y hy => h y (List.mem_cons_of_mem _ hy)
  rw [List.map_cons]
  unfold rpl
  simp only [fold_bs gl]
  have e : first0 room x.bs = (Dm.zero, 5) := by
    unfold first0
    rw [parse_back gx.1 gx.2]
    simp [k1]
  rw [e, wstep_stick l (st := (Dm.zero, 5)) (by decide)]
  simp
theorem stp_first {d : Dm} {room : Int} {r : Rc} (h : (stp d room r).2 = 0) (k1 : r.k = 1) : stp d room r = (r.s, chk r.s room) := by
  obtain ⟨-, -, Hx, hc⟩ := stp_good h
  rcases hc with ⟨-, hx⟩ | ⟨k2, -⟩
  · rw [hx] at Hx
    rw [chk_ok.2 Hx, ← hx, ← h]
  · rw [k1] at k2; cases k2
theorem wlk_cut {room : Int} {x : Rc} {l : List Rc} (h : (wlk room x l).2 = 0) {j : Nat} {y : Rc} (hj : (x :: l)[j]? = some y) (k1 : y.k = 1) : ∃ t, (x :: l).drop j = y :: t ∧ wlk room y t = wlk room x l := by
  cases j with
  | zero =>
    simp only [List.getElem?_cons_zero, Option.some.injEq] at hj
    subst hj
    exact ⟨l, rfl, rfl⟩
  | succ j =>
    rw [List.getElem?_cons_succ] at hj
    obtain ⟨hlt, hy⟩ := List.getElem?_eq_some_iff.1 hj
    have hd : l.drop j = y :: l.drop (j + 1) := by rw [← hy]; exact List.drop_eq_getElem_cons hlt
    refine ⟨l.drop (j + 1), by rw [List.drop_succ_cons, hd], ?_⟩
    have e : l = l.take j ++ y :: l.drop (j + 1) := by rw [← hd, List.take_append_drop]
    generalize l.take j = p at e
    generalize l.drop (j + 1) = t at e
    subst e
    unfold wlk at h ⊢
    rw [List.foldl_append, List.foldl_cons] at h ⊢
    generalize p.foldl (wstep room) (x.s, chk x.s room) = st at h ⊢
    have s0 : st.2 = 0 := Classical.byContradiction fun c => by
      rw [show wstep room st y = st from if_neg c, wstep_stick t c] at h
      exact c h
    have e1 : wstep room st y = stp st.1 room y := if_pos s0
    rw [e1] at h ⊢
    have s1 : (stp st.1 room y).2 = 0 := Classical.byContradiction fun c => by
      rw [wstep_stick t c] at h
      exact c h
    rw [stp_first s1 k1]
theorem wfold_good {room : Int} : ∀ (l : List Rc) {st : Dm × Int}, (st.2 = 0 → chk st.1 room = 0) → (l.foldl (wstep room) st).2 = 0 → chk (l.foldl (wstep room) st).1 room = 0
  | [], _, h, e => h e
  | x :: l, st, h, e => by
    rw [List.foldl_cons] at e ⊢
    refine wfold_good l (fun c => ?_) e
    unfold wstep at c ⊢
    by_cases s : st.2 = 0
    · rw [if_pos s] at c ⊢
      exact chk_ok.2 (stp_good c).2.2.1
    · rw [if_neg s] at c ⊢
      exact h c
theorem wlk_good {room : Int} {x : Rc} {l : List Rc} (h : (wlk room x l).2 = 0) : chk (wlk room x l).1 room = 0 := wfold_good l (fun c => c) h
theorem wlk_len {room : Int} {x : Rc} (hx : x.s.its.length ≤ 1000) (l : List Rc) : (wlk room x l).1.its.length ≤ 1000 := by
  have : ∀ (l : List Rc) (st : Dm × Int), st.1.its.length ≤ 1000 → (l.foldl (wstep room) st).1.its.length ≤ 1000 := fun l => by
    induction l with
    | nil => exact fun st h => h
    | cons y l ih =>
      intro st h
      refine ih _ ?_
      unfold wstep
      split
      · exact Nat.le_trans stp_len (by decide)
      · exact h
  exact this l _ hx
/-! ### rows -/
abbrev RV := Rc × Value × Value
def rrw (y : RV) : List Value := y.1.cells y.2.1 y.2.2
def RcS (h : PH) (l : List RV) : Prop := ∀ y ∈ l, ISl h y.2.1 y.1.s.its ∧ NSl h y.2.2 y.1.ns ∧ y.1.wf
theorem RcS.ext {h h' : PH} {l : List RV} (H : RcS h l) (u : Ext h h') : RcS h' l := fun y hy => ⟨(H y hy).1.ext u, (H y hy).2.1.ext u, (H y hy).2.2⟩
theorem SlR.rv {h : PH} {v : Value} {l : List RV} (S : SlR h 10 v (l.map rrw)) {j : Nat} {y : RV} (hy : l[j]? = some y) :
    ∃ b o, SemP PG (Instr.indexAt T_sl_api_Record v (.int .i64 (j : Int))) = some (.pointer (some ⟨b, o, none⟩)) ∧ SemE PG h (Instr.loadAt T_api_Record (.pointer (some ⟨b, o, none⟩))) = some (y.1.v y.2.1 y.2.2) ∧
      SemE PG h (Instr.loadAt T_api_Daemon (.pointer (some ⟨b, o + 1, none⟩))) = some (y.1.s.v y.2.1) ∧ SemE PG h (Instr.loadAt T_int (.pointer (some ⟨b, o, none⟩))) = some (.int .i64 y.1.k) := by
  obtain ⟨b, o, cs, e', fr, h1, hb, hle, hex⟩ := S.at T_sl_api_Record.und T_api_Record.info T_api_Record.size (k := .i64) (j := (j : Int)) (r := rrw y) (by omega) (by rw [List.getElem?_map, Int.toNat_natCast, hy]; rfl)
  have hd : ∀ i n, i + n ≤ 10 → (cs.extract (o + i) (o + i + n)).toList = ((rrw y).drop i).take n := fun i n hi => by
    rw [← hex]
    simp only [Array.toList_extract, List.extract_eq_take_drop, Nat.add_sub_cancel_left, List.drop_take, List.drop_drop, List.take_take]
    congr 1; omega
  have hc : cs[o]? = some (.int .i64 y.1.k) := by
    have := congrArg (fun l : List Value => l[0]?) (hd 0 1 (by decide))
    simp only [Array.toList_extract, List.extract_eq_take_drop, Nat.add_zero, Nat.add_sub_cancel_left, List.getElem?_take, List.getElem?_drop] at this
    simpa [rrw, Rc.cells] using this
  refine ⟨b, o, h1, ?_, ?_, ?_⟩
  · rw [T_api_Record.loadAgg hb hle]
    congr 2
    exact Array.ext' (hd 0 10 (by decide))
  · rw [T_api_Daemon.loadAgg hb (by omega)]
    congr 2
    exact Array.ext' (hd 1 5 (by decide))
  · rw [T_int.load]
    unfold cellH
    simp only [hb]
    exact hc
theorem rv_len {h : PH} {v : Value} {l : List RV} (S : SlR h 10 v (l.map rrw)) : SemP PG (Builtin.len_ #[T_sl_api_Record] T_int #[v]) = some (.int .i64 l.length) := by
  have := S.len (t' := T_int) T_sl_api_Record.und
  rw [List.length_map] at this
  exact this
end Go.Proofs.Ytlkjippiaghbmaa
