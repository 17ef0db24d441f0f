/- The texts of this claim, put together. -/
import Derived.Test.YtlkjippiaghbmaaGreatR19RC4
/- the document's table: what its functions do. -/
set_option maxRecDepth 20000
set_option linter.unusedSimpArgs false
set_option linter.unusedVariables false
namespace Go.Proofs.YtlkjippiaghbmaaGreat
open Go

theorem RRight_ok {h : PH} (p : Pk) (hs0 : 0 ≤ p.s) (ht0 : 0 ≤ p.t) {k : Value → PH → Prop} (hk : ∀ h', Ext h h' → k (.bool p.right) h') : CallsH PG id_carrackref10_Right #[.agg p.cells.toArray] h k := by
  apply carrackref10_Right.call
  unfold carrackref10_Right
  intro r hr
  rw [bindH_eq]
  have u : Ext h (h.set r (.cells (Value.cells (.agg p.cells.toArray)) T_api_Packet)) := Upd.new hr
  have b : Bx (h.set r (.cells (Value.cells (.agg p.cells.toArray)) T_api_Packet)) r p.cells := Bx.new
  generalize h.set r (.cells (Value.cells (.agg p.cells.toArray)) T_api_Packet) = h1 at *
  have c0 : cellH h1 ⟨r, 0, none⟩ = some (.int .i64 p.f) := b.cell 0
  have c1 : cellH h1 ⟨r, 0 + 1, none⟩ = some (.int .u64 p.s) := b.cell 1
  have c2 : cellH h1 ⟨r, 0 + 2, none⟩ = some (.int .u64 p.t) := b.cell 2
  have c3 : cellH h1 ⟨r, 0 + 3, none⟩ = some (.string p.d) := b.cell 3
  have hk := hk h1 u
  unfold Pk.right at hk
  have hf : (p.f = 0 ∨ p.f = 1) ∨ (p.f < 0 ∨ 1 < p.f) := by omega
  rcases hf with hf | hf
  · have g1 : (0 ≤ p.f) = True := by apply eq_true; omega
    have g2 : (p.f ≤ 1) = True := by apply eq_true; omega
    have go : SemE PG h1 (Instr.loadAt T_int (.pointer (some ⟨r, 0, none⟩))) = some (.int .i64 p.f) := by rw [T_int.load, c0]
    have first : ∀ X : Prop, X → X := fun _ x => x
    by_cases h3 : p.s = 0
    · have e3 : ((0 : Int) < p.s) = False := by apply eq_false; omega
      have e3' : (p.s ≠ 0) = False := by simp [h3]
      simp only [g1, g2, e3', decide_false, Bool.false_and, Bool.and_false, popO_some, bindH_eq, condV_bool, condV_true, condV_false, yV_bool, gopV_tt, gopV_ff, gopV_tf, gopV_ft, pickV_t, pickV_f, pickV_bool, nilS_ptr, add_eq, sub_eq, mul_eq, lss_eq, leq_eq, gtr_eq, geq_eq, not_eq, minI_eq, maxI_eq, extract_0, extract_1, extract_2, eqlI, neqI, makeFunc_eq, decide_true, decide_false, if_true, if_false, Bool.false_eq_true, Bool.not_true, Bool.not_false, reduceIte, List.getElem?_toArray, List.getElem?_cons_zero, List.getElem?_cons_succ, Option.isSome_none, List.length_map] at hk
      rcases hf with hf | hf
      · have d0 : (p.f == 0) = true := by simp [hf]
        simp only [T_api_Packet.f0, T_api_Packet.f1, T_api_Packet.f2, T_api_Packet.f3, T_int.load, T_uint64.load, T_string.load, c0, d0, c1, e3, popO_some, bindH_eq, condV_bool, condV_true, condV_false, yV_bool, gopV_tt, gopV_ff, gopV_tf, gopV_ft, pickV_t, pickV_f, pickV_bool, nilS_ptr, add_eq, sub_eq, mul_eq, lss_eq, leq_eq, gtr_eq, geq_eq, not_eq, minI_eq, maxI_eq, extract_0, extract_1, extract_2, eqlI, neqI, makeFunc_eq, decide_true, decide_false, if_true, if_false, Bool.false_eq_true, Bool.not_true, Bool.not_false, reduceIte, List.getElem?_toArray, List.getElem?_cons_zero, List.getElem?_cons_succ, Option.isSome_none, List.length_map]
        exact hk
      · have d0 : (p.f == 0) = false := by simp [hf]
        have d1 : (p.f == 1) = true := by simp [hf]
        simp only [T_api_Packet.f0, T_api_Packet.f1, T_api_Packet.f2, T_api_Packet.f3, T_int.load, T_uint64.load, T_string.load, c0, d0, d1, c1, e3, popO_some, bindH_eq, condV_bool, condV_true, condV_false, yV_bool, gopV_tt, gopV_ff, gopV_tf, gopV_ft, pickV_t, pickV_f, pickV_bool, nilS_ptr, add_eq, sub_eq, mul_eq, lss_eq, leq_eq, gtr_eq, geq_eq, not_eq, minI_eq, maxI_eq, extract_0, extract_1, extract_2, eqlI, neqI, makeFunc_eq, decide_true, decide_false, if_true, if_false, Bool.false_eq_true, Bool.not_true, Bool.not_false, reduceIte, List.getElem?_toArray, List.getElem?_cons_zero, List.getElem?_cons_succ, Option.isSome_none, List.length_map]
        exact hk
    · have e3 : ((0 : Int) < p.s) = True := by apply eq_true; omega
      have e3' : (p.s ≠ 0) = True := by simp [h3]
      by_cases h4 : p.t = 0
      · have e4 : ((0 : Int) < p.t) = False := by apply eq_false; omega
        have e4' : (p.t ≠ 0) = False := by simp [h4]
        simp only [g1, g2, e3', e4', decide_false, Bool.false_and, Bool.and_false, popO_some, bindH_eq, condV_bool, condV_true, condV_false, yV_bool, gopV_tt, gopV_ff, gopV_tf, gopV_ft, pickV_t, pickV_f, pickV_bool, nilS_ptr, add_eq, sub_eq, mul_eq, lss_eq, leq_eq, gtr_eq, geq_eq, not_eq, minI_eq, maxI_eq, extract_0, extract_1, extract_2, eqlI, neqI, makeFunc_eq, decide_true, decide_false, if_true, if_false, Bool.false_eq_true, Bool.not_true, Bool.not_false, reduceIte, List.getElem?_toArray, List.getElem?_cons_zero, List.getElem?_cons_succ, Option.isSome_none, List.length_map] at hk
        rcases hf with hf | hf
        · have d0 : (p.f == 0) = true := by simp [hf]
          simp only [T_api_Packet.f0, T_api_Packet.f1, T_api_Packet.f2, T_api_Packet.f3, T_int.load, T_uint64.load, T_string.load, c0, d0, c1, e3, c2, e4, popO_some, bindH_eq, condV_bool, condV_true, condV_false, yV_bool, gopV_tt, gopV_ff, gopV_tf, gopV_ft, pickV_t, pickV_f, pickV_bool, nilS_ptr, add_eq, sub_eq, mul_eq, lss_eq, leq_eq, gtr_eq, geq_eq, not_eq, minI_eq, maxI_eq, extract_0, extract_1, extract_2, eqlI, neqI, makeFunc_eq, decide_true, decide_false, if_true, if_false, Bool.false_eq_true, Bool.not_true, Bool.not_false, reduceIte, List.getElem?_toArray, List.getElem?_cons_zero, List.getElem?_cons_succ, Option.isSome_none, List.length_map]
          exact hk
        · have d0 : (p.f == 0) = false := by simp [hf]
          have d1 : (p.f == 1) = true := by simp [hf]
          simp only [T_api_Packet.f0, T_api_Packet.f1, T_api_Packet.f2, T_api_Packet.f3, T_int.load, T_uint64.load, T_string.load, c0, d0, d1, c1, e3, c2, e4, popO_some, bindH_eq, condV_bool, condV_true, condV_false, yV_bool, gopV_tt, gopV_ff, gopV_tf, gopV_ft, pickV_t, pickV_f, pickV_bool, nilS_ptr, add_eq, sub_eq, mul_eq, lss_eq, leq_eq, gtr_eq, geq_eq, not_eq, minI_eq, maxI_eq, extract_0, extract_1, extract_2, eqlI, neqI, makeFunc_eq, decide_true, decide_false, if_true, if_false, Bool.false_eq_true, Bool.not_true, Bool.not_false, reduceIte, List.getElem?_toArray, List.getElem?_cons_zero, List.getElem?_cons_succ, Option.isSome_none, List.length_map]
          exact hk
      · have e4 : ((0 : Int) < p.t) = True := by apply eq_true; omega
        have e4' : (p.t ≠ 0) = True := by simp [h4]
        have e5 : decide ((p.d.size : Int) ≤ 64) = decide (p.d.size ≤ 64) := by
          rw [Bool.eq_iff_iff]; simp only [decide_eq_true_eq]; omega
        simp only [g1, g2, e3', e4', Bool.and_self, Bool.true_and, popO_some, bindH_eq, condV_bool, condV_true, condV_false, yV_bool, gopV_tt, gopV_ff, gopV_tf, gopV_ft, pickV_t, pickV_f, pickV_bool, nilS_ptr, add_eq, sub_eq, mul_eq, lss_eq, leq_eq, gtr_eq, geq_eq, not_eq, minI_eq, maxI_eq, extract_0, extract_1, extract_2, eqlI, neqI, makeFunc_eq, decide_true, decide_false, if_true, if_false, Bool.false_eq_true, Bool.not_true, Bool.not_false, reduceIte, List.getElem?_toArray, List.getElem?_cons_zero, List.getElem?_cons_succ, Option.isSome_none, List.length_map] at hk
        rcases hf with hf | hf
        · have d0 : (p.f == 0) = true := by simp [hf]
          simp only [T_api_Packet.f0, T_api_Packet.f1, T_api_Packet.f2, T_api_Packet.f3, T_int.load, T_uint64.load, T_string.load, c0, d0, c1, e3, c2, e4, c3, len_string T_string.und, e5, popO_some, bindH_eq, condV_bool, condV_true, condV_false, yV_bool, gopV_tt, gopV_ff, gopV_tf, gopV_ft, pickV_t, pickV_f, pickV_bool, nilS_ptr, add_eq, sub_eq, mul_eq, lss_eq, leq_eq, gtr_eq, geq_eq, not_eq, minI_eq, maxI_eq, extract_0, extract_1, extract_2, eqlI, neqI, makeFunc_eq, decide_true, decide_false, if_true, if_false, Bool.false_eq_true, Bool.not_true, Bool.not_false, reduceIte, List.getElem?_toArray, List.getElem?_cons_zero, List.getElem?_cons_succ, Option.isSome_none, List.length_map]
          exact hk
        · have d0 : (p.f == 0) = false := by simp [hf]
          have d1 : (p.f == 1) = true := by simp [hf]
          simp only [T_api_Packet.f0, T_api_Packet.f1, T_api_Packet.f2, T_api_Packet.f3, T_int.load, T_uint64.load, T_string.load, c0, d0, d1, c1, e3, c2, e4, c3, len_string T_string.und, e5, popO_some, bindH_eq, condV_bool, condV_true, condV_false, yV_bool, gopV_tt, gopV_ff, gopV_tf, gopV_ft, pickV_t, pickV_f, pickV_bool, nilS_ptr, add_eq, sub_eq, mul_eq, lss_eq, leq_eq, gtr_eq, geq_eq, not_eq, minI_eq, maxI_eq, extract_0, extract_1, extract_2, eqlI, neqI, makeFunc_eq, decide_true, decide_false, if_true, if_false, Bool.false_eq_true, Bool.not_true, Bool.not_false, reduceIte, List.getElem?_toArray, List.getElem?_cons_zero, List.getElem?_cons_succ, Option.isSome_none, List.length_map]
          exact hk
  · have d0 : (p.f == 0) = false := by simp; omega
    have d1 : (p.f == 1) = false := by simp; omega
    have g : (decide (0 ≤ p.f) && decide (p.f ≤ 1)) = false := by
      rw [Bool.and_eq_false_iff]; simp only [decide_eq_false_iff_not]; omega
    simp only [g, Bool.false_and] at hk
    simp only [T_api_Packet.f0, T_int.load, c0, d0, d1, popO_some, bindH_eq, condV_bool, condV_true, condV_false, yV_bool, gopV_tt, gopV_ff, gopV_tf, gopV_ft, pickV_t, pickV_f, pickV_bool, nilS_ptr, add_eq, sub_eq, mul_eq, lss_eq, leq_eq, gtr_eq, geq_eq, not_eq, minI_eq, maxI_eq, extract_0, extract_1, extract_2, eqlI, neqI, makeFunc_eq, decide_true, decide_false, if_true, if_false, Bool.false_eq_true, Bool.not_true, Bool.not_false, reduceIte, List.getElem?_toArray, List.getElem?_cons_zero, List.getElem?_cons_succ, Option.isSome_none, List.length_map]
    exact hk
theorem RNRight_ok {h : PH} (n : Nt) (hs0 : 0 ≤ n.p.s) (ht0 : 0 ≤ n.p.t) {k : Value → PH → Prop} (hk : ∀ h', Ext h h' → k (.bool n.right) h') : CallsH PG id_carrackref14_Right #[.agg n.cells.toArray] h k := by
  apply carrackref14_Right.call
  unfold carrackref14_Right
  intro r hr
  rw [bindH_eq]
  have u : Ext h (h.set r (.cells (Value.cells (.agg n.cells.toArray)) T_api_Note)) := Upd.new hr
  have b : Bx (h.set r (.cells (Value.cells (.agg n.cells.toArray)) T_api_Note)) r n.cells := Bx.new
  generalize h.set r (.cells (Value.cells (.agg n.cells.toArray)) T_api_Note) = h1 at *
  have c0 : cellH h1 ⟨r, 0, none⟩ = some (.int .i64 n.k) := b.cell 0
  have p1 := b.pk (o := 0 + 1) (p := n.p) rfl
  unfold Nt.right at hk
  by_cases d1 : 1 ≤ n.k
  · by_cases d2 : n.k ≤ 4
    · simp only [T_api_Note.f0, T_api_Note.f1, T_int.load, c0, d1, d2, p1, Bool.true_and, Bool.and_self, popO_some, bindH_eq, condV_bool, condV_true, condV_false, yV_bool, gopV_tt, gopV_ff, gopV_tf, gopV_ft, pickV_t, pickV_f, pickV_bool, nilS_ptr, add_eq, sub_eq, mul_eq, lss_eq, leq_eq, gtr_eq, geq_eq, not_eq, minI_eq, maxI_eq, extract_0, extract_1, extract_2, eqlI, neqI, makeFunc_eq, decide_true, decide_false, if_true, if_false, Bool.false_eq_true, Bool.not_true, Bool.not_false, reduceIte, List.getElem?_toArray, List.getElem?_cons_zero, List.getElem?_cons_succ, Option.isSome_none, List.length_map] at hk ⊢
      exact RRight_ok n.p hs0 ht0 fun h2 u2 => hk h2 (u.trans u2)
    · simp only [T_api_Note.f0, T_api_Note.f1, T_int.load, c0, d1, d2, Bool.false_and, Bool.and_false, decide_false, popO_some, bindH_eq, condV_bool, condV_true, condV_false, yV_bool, gopV_tt, gopV_ff, gopV_tf, gopV_ft, pickV_t, pickV_f, pickV_bool, nilS_ptr, add_eq, sub_eq, mul_eq, lss_eq, leq_eq, gtr_eq, geq_eq, not_eq, minI_eq, maxI_eq, extract_0, extract_1, extract_2, eqlI, neqI, makeFunc_eq, decide_true, decide_false, if_true, if_false, Bool.false_eq_true, Bool.not_true, Bool.not_false, reduceIte, List.getElem?_toArray, List.getElem?_cons_zero, List.getElem?_cons_succ, Option.isSome_none, List.length_map] at hk ⊢
      exact hk _ u
  · simp only [T_api_Note.f0, T_api_Note.f1, T_int.load, c0, d1, Bool.false_and, decide_false, popO_some, bindH_eq, condV_bool, condV_true, condV_false, yV_bool, gopV_tt, gopV_ff, gopV_tf, gopV_ft, pickV_t, pickV_f, pickV_bool, nilS_ptr, add_eq, sub_eq, mul_eq, lss_eq, leq_eq, gtr_eq, geq_eq, not_eq, minI_eq, maxI_eq, extract_0, extract_1, extract_2, eqlI, neqI, makeFunc_eq, decide_true, decide_false, if_true, if_false, Bool.false_eq_true, Bool.not_true, Bool.not_false, reduceIte, List.getElem?_toArray, List.getElem?_cons_zero, List.getElem?_cons_succ, Option.isSome_none, List.length_map] at hk ⊢
    exact hk _ u
def It.right (i : It) : Bool := (decide (i.g = 1) || decide (i.g = 2)) && i.p.right
theorem RIRight_ok {h : PH} (i : It) (hs0 : 0 ≤ i.p.s) (ht0 : 0 ≤ i.p.t) {k : Value → PH → Prop} (hk : ∀ h', Ext h h' → k (.bool i.right) h') : CallsH PG id_carrackref14_RightItem #[i.val] h k := by
  apply carrackref14_RightItem.call
  unfold carrackref14_RightItem
  intro r hr
  rw [bindH_eq]
  have u : Ext h (h.set r (.cells (Value.cells i.val) T_api_Item)) := Upd.new hr
  have b : Bx (h.set r (.cells (Value.cells i.val) T_api_Item)) r i.cells := Bx.new
  generalize h.set r (.cells (Value.cells i.val) T_api_Item) = h1 at *
  have c0 : cellH h1 ⟨r, 0 + 4, none⟩ = some (.int .i64 i.g) := b.cell 4
  have p1 := b.pk (o := 0) (p := i.p) rfl
  unfold It.right at hk
  by_cases d1 : i.g = 1
  · have e1 : (i.g == 1) = true := by simp [d1]
    simp only [T_api_Item.f0, T_api_Item.f1, T_int.load, c0, e1, p1, popO_some, bindH_eq, condV_bool, condV_true, condV_false, yV_bool, gopV_tt, gopV_ff, gopV_tf, gopV_ft, pickV_t, pickV_f, pickV_bool, nilS_ptr, add_eq, sub_eq, mul_eq, lss_eq, leq_eq, gtr_eq, geq_eq, not_eq, minI_eq, maxI_eq, extract_0, extract_1, extract_2, eqlI, neqI, makeFunc_eq, decide_true, decide_false, if_true, if_false, Bool.false_eq_true, Bool.not_true, Bool.not_false, reduceIte, List.getElem?_toArray, List.getElem?_cons_zero, List.getElem?_cons_succ, Option.isSome_none, List.length_map]
    refine RRight_ok i.p hs0 ht0 fun h2 u2 => ?_
    have := hk h2 (u.trans u2)
    simpa [d1] using this
  · have e1 : (i.g == 1) = false := by simp [d1]
    by_cases d2 : i.g = 2
    · have e2 : (i.g == 2) = true := by simp [d2]
      simp only [T_api_Item.f0, T_api_Item.f1, T_int.load, c0, e1, e2, p1, popO_some, bindH_eq, condV_bool, condV_true, condV_false, yV_bool, gopV_tt, gopV_ff, gopV_tf, gopV_ft, pickV_t, pickV_f, pickV_bool, nilS_ptr, add_eq, sub_eq, mul_eq, lss_eq, leq_eq, gtr_eq, geq_eq, not_eq, minI_eq, maxI_eq, extract_0, extract_1, extract_2, eqlI, neqI, makeFunc_eq, decide_true, decide_false, if_true, if_false, Bool.false_eq_true, Bool.not_true, Bool.not_false, reduceIte, List.getElem?_toArray, List.getElem?_cons_zero, List.getElem?_cons_succ, Option.isSome_none, List.length_map]
      refine RRight_ok i.p hs0 ht0 fun h2 u2 => ?_
      have := hk h2 (u.trans u2)
      simpa [d2] using this
    · have e2 : (i.g == 2) = false := by simp [d2]
      simp only [T_api_Item.f0, T_api_Item.f1, T_int.load, c0, e1, e2, popO_some, bindH_eq, condV_bool, condV_true, condV_false, yV_bool, gopV_tt, gopV_ff, gopV_tf, gopV_ft, pickV_t, pickV_f, pickV_bool, nilS_ptr, add_eq, sub_eq, mul_eq, lss_eq, leq_eq, gtr_eq, geq_eq, not_eq, minI_eq, maxI_eq, extract_0, extract_1, extract_2, eqlI, neqI, makeFunc_eq, decide_true, decide_false, if_true, if_false, Bool.false_eq_true, Bool.not_true, Bool.not_false, reduceIte, List.getElem?_toArray, List.getElem?_cons_zero, List.getElem?_cons_succ, Option.isSome_none, List.length_map]
      have := hk _ u
      simpa [d1, d2] using this

/-! ### rows put together -/
theorem empty_lit : SemA PG (Instr.buildSlice T_sl_api_Item 0 #[]) = some (.cells #[] T_api_Item (0, 0), fun r => pure (.slice (some ⟨r, 0, none⟩) 0 0)) := by kernel_rfl
theorem app_it {h : PH} {v x : Value} {F : List Nat} {xs ys : List It} (H : OwnR h T_api_Item 5 v (xs.map It.cells) F) (S : SlR h 5 x (ys.map It.cells)) (hl : xs.length + ys.length ≤ 1000000) {k : Value → PH → Prop}
    (hk : ∀ v' h' F', OwnR h' T_api_Item 5 v' ((xs ++ ys).map It.cells) F' → Upd F h h' → (∀ b ∈ F', b ∈ F ∨ h b = none) → k v' h') : SemH PG (Builtin.append_ #[T_sl_api_Item, T_sl_api_Item] T_sl_api_Item #[v, x]) h k := by
  refine append_own T_sl_api_Item.und T_sl_api_Item.und T_api_Item.info T_api_Item.size T_api_Item.bytes T_api_Item.zero rfl (by decide) H S (It.isCell _) (by simp; omega) ?_
  intro v' h' F' hO u f _
  rw [← List.map_append] at hO
  exact hk v' h' F' hO u f
theorem OwnR.cutIt {h : PH} {v : Value} {F : List Nat} {L : List It} (H : OwnR h T_api_Item 5 v (L.map It.cells) F) {lo hi : Option Value} {l m : Nat}
    (hlo : lo = none ∧ l = 0 ∨ ∃ k, lo = some (.int k l)) (hhi : hi = none ∧ m = L.length ∨ ∃ k, hi = some (.int k m)) (h1 : l ≤ m) (h2 : m ≤ L.length) :
    ∃ v', SemP PG (Instr.sliceAt T_sl_api_Item v lo hi none) = some v' ∧ SlR h 5 v' (((L.take m).drop l).map It.cells) ∧ ∀ x n c, v' = .slice (some x) n c → x.block ∈ F := by
  obtain ⟨v', e1, e2, e3⟩ := H.slR.cut T_sl_api_Item.und T_api_Item.info T_api_Item.size (l := l) (m := m) hlo (by rcases hhi with ⟨a, b⟩ | h; exact .inl ⟨a, by rw [List.length_map]; exact b⟩; exact .inr h) h1 (by rw [List.length_map]; exact h2)
  refine ⟨v', e1, ?_, ?_⟩
  · rw [← List.map_take, ← List.map_drop] at e2; exact e2
  · intro x n c hx
    obtain ⟨x0, n0, c0, hx0, hb⟩ := e3 x n c hx
    rcases H.here with ⟨h3, _⟩ | ⟨b, cap, cs, h3, h4, _⟩
    · rw [h3] at hx0; cases hx0
    · rw [h3] at hx0
      simp only [Value.slice.injEq, Option.some.injEq] at hx0
      rw [hb, ← hx0.1, h4]; simp

theorem RPut_ok {h : PH} {a : Nat} {L : List It} {room : Int} {F : List Nat} (H : RAt h a L room F) (hL : L.length ≤ 1000) (i : It) (hg : getL L i.key = none) {k : Value → PH → Prop}
    (hk : ∀ h' F', RAt h' a (putL L room i) room F' → Upd F h h' → (∀ b ∈ F', b ∈ F ∨ h b = none) → k (.int .i64 (putE L room i)) h') : CallsH PG id_carrackref15_Table_put #[.pointer (some ⟨a, 0, none⟩), i.val] h k := by
  apply carrackref15_Table_put.call
  unfold carrackref15_Table_put
  intro r1 hr1
  rw [bindH_eq]
  have u1 : Ext h (h.set r1 (.cells (Value.cells i.val) T_api_Item)) := Upd.new hr1
  have b1 : Bx (h.set r1 (.cells (Value.cells i.val) T_api_Item)) r1 i.cells := Bx.new
  generalize h.set r1 (.cells (Value.cells i.val) T_api_Item) = h1 at *
  have H1 := H.ext u1
  have hs := H.srt
  have HK := H.known
  obtain ⟨v, G, ha, hO, rfl, hn⟩ := H1.here
  have c0 : cellH h1 ⟨a, 0, none⟩ = some v := by simp [cellH, ha]
  have c1 : cellH h1 ⟨a, 0 + 1, none⟩ = some (.int .i64 room) := by simp [cellH, ha]
  have lv := hO.slR.len (t' := T_int) T_sl_api_Item.und
  rw [List.length_map] at lv
  by_cases hr : room ≤ L.length
  · have e1 : (room ≤ (L.length : Int)) = True := eq_true hr
    simp only [T_carrackref15_Table.f0, T_carrackref15_Table.f1, T_sl_api_Item.load, T_int.load, c0, c1, lv, e1, popO_some, bindH_eq, condV_bool, condV_true, condV_false, yV_bool, gopV_tt, gopV_ff, gopV_tf, gopV_ft, pickV_t, pickV_f, pickV_bool, nilS_ptr, add_eq, sub_eq, mul_eq, lss_eq, leq_eq, gtr_eq, geq_eq, not_eq, minI_eq, maxI_eq, extract_0, extract_1, extract_2, eqlI, neqI, makeFunc_eq, decide_true, decide_false, if_true, if_false, Bool.false_eq_true, Bool.not_true, Bool.not_false, reduceIte, List.getElem?_toArray, List.getElem?_cons_zero, List.getElem?_cons_succ, Option.isSome_none, List.length_map]
    have h1 : putE L room i = 2 := by unfold putE; rw [if_pos ⟨hg, hr⟩]
    have h2 : putL L room i = L := by unfold putL; rw [if_pos ⟨hg, hr⟩]
    rw [← h1]
    exact hk _ _ (by rw [h2]; exact H1) (Ext.upd u1) (fun b hb => .inl hb)
  · have e1 : (room ≤ (L.length : Int)) = False := eq_false hr
    have q1 : cellH h1 ⟨r1, 0, none⟩ = some (.int .i64 i.p.f) := b1.cell 0
    have q2 : cellH h1 ⟨r1, 0 + 1, none⟩ = some (.int .u64 i.p.s) := b1.cell 1
    simp only [T_carrackref15_Table.f0, T_carrackref15_Table.f1, T_sl_api_Item.load, T_int.load, T_uint64.load, T_api_Item.f0, T_api_Packet.f0, T_api_Packet.f1, c0, c1, lv, e1, q1, q2, popO_some, bindH_eq, condV_bool, condV_true, condV_false, yV_bool, gopV_tt, gopV_ff, gopV_tf, gopV_ft, pickV_t, pickV_f, pickV_bool, nilS_ptr, add_eq, sub_eq, mul_eq, lss_eq, leq_eq, gtr_eq, geq_eq, not_eq, minI_eq, maxI_eq, extract_0, extract_1, extract_2, eqlI, neqI, makeFunc_eq, decide_true, decide_false, if_true, if_false, Bool.false_eq_true, Bool.not_true, Bool.not_false, reduceIte, List.getElem?_toArray, List.getElem?_cons_zero, List.getElem?_cons_succ, Option.isSome_none, List.length_map]
    refine Place_ok H1 (by omega) i.key ?_
    have hpl := pA_le L i.key
    obtain ⟨w1, s1, s2, s3⟩ := hO.cutIt (lo := none) (hi := some (.int .i64 (pA L i.key).length)) (l := 0) (m := (pA L i.key).length) (.inl ⟨rfl, rfl⟩) (.inr ⟨.i64, rfl⟩) (Nat.zero_le _) hpl
    obtain ⟨w2, t1, t2, t3⟩ := hO.cutIt (lo := some (.int .i64 (pA L i.key).length)) (hi := none) (l := (pA L i.key).length) (m := L.length) (.inr ⟨.i64, rfl⟩) (.inl ⟨rfl, rfl⟩) hpl (Nat.le_refl _)
    rw [List.drop_zero] at s2
    rw [List.take_of_length_le (Nat.le_refl _)] at t2
    simp only [T_carrackref15_Table.f0, T_sl_api_Item.load, c0, s1, t1, b1.it, empty_lit, popO_some, bindH_eq, condV_bool, condV_true, condV_false, yV_bool, gopV_tt, gopV_ff, gopV_tf, gopV_ft, pickV_t, pickV_f, pickV_bool, nilS_ptr, add_eq, sub_eq, mul_eq, lss_eq, leq_eq, gtr_eq, geq_eq, not_eq, minI_eq, maxI_eq, extract_0, extract_1, extract_2, eqlI, neqI, makeFunc_eq, decide_true, decide_false, if_true, if_false, Bool.false_eq_true, Bool.not_true, Bool.not_false, reduceIte, List.getElem?_toArray, List.getElem?_cons_zero, List.getElem?_cons_succ, Option.isSome_none, List.length_map]
    intro r2 hr2
    refine popO_pure ?_
    try rw [bindH_eq]
    have u2 : Ext h1 (h1.set r2 (.cells #[] T_api_Item)) := Upd.new hr2
    have hE : OwnR (h1.set r2 (.cells #[] T_api_Item)) T_api_Item 5 (.slice (some ⟨r2, 0, none⟩) 0 0) (([] : List It).map It.cells) [r2] := OwnR.lit (It.rows []) set_same rfl (by decide) rfl
    generalize h1.set r2 (.cells #[] T_api_Item) = h2 at *
    refine app_it hE (s2.ext u2) (by simp; omega) ?_
    intro v3 h3 F3 hO3 u3 f3
    have ha2 := u2.get ha
    have n2 : a ∉ [r2] := by simp; rintro rfl; rw [ha] at hr2; cases hr2
    have ha3 : h3 a = some (.cells #[v, .int .i64 room] T_carrackref15_Table (0, 0)) := u3.get ha2 n2
    have nr : r1 ∉ [r2] := by simp; rintro rfl; exact b1.known hr2
    have b3 := (b1.ext u2).upd u3 nr
    have c03 : cellH h3 ⟨a, 0, none⟩ = some v := by simp [cellH, ha3]
    refine ⟨c03, b3.it, ?_⟩
    rw [it_lit, popO_some]
    intro r4 hr4
    refine popO_pure ?_
    try rw [bindH_eq]
    have u4 : Ext h3 (h3.set r4 (.cells i.cells.toArray T_api_Item)) := Upd.new hr4
    have s4 : SlR (h3.set r4 (.cells i.cells.toArray T_api_Item)) 5 (.slice (some ⟨r4, 0, none⟩) 1 1) ([i].map It.cells) := (OwnR.lit (It.rows [i]) set_same (by simp) (by decide) (by simp)).slR
    have s4' := s4
    show SemH PG (Builtin.append_ #[T_sl_api_Item, T_sl_api_Item] T_sl_api_Item #[v3, .slice (some ⟨r4, 0, none⟩) 1 1]) (h3.set r4 (.cells i.cells.toArray T_api_Item)) _
    generalize h3.set r4 (.cells i.cells.toArray T_api_Item) = h4 at *
    have ha4 := u4.get ha3
    refine app_it (hO3.ext u4) s4 (by simp; omega) ?_
    intro v5 h5 F5 hO5 u5 f5
    -- what lay at h1 lies there still
    have fresh3 : ∀ b ∈ F3, h1 b = none := fun b hb => by
      rcases f3 b hb with h6 | h6
      · simp at h6; subst h6; exact hr2
      · exact u2.none h6
    have na3 : a ∉ F3 := fun hm => by rw [fresh3 a hm] at ha; cases ha
    have ha5 : h5 a = some (.cells #[v, .int .i64 room] T_carrackref15_Table (0, 0)) := u5.get ha4 na3
    have E2 : Ext h1 h3 := u2.fresh u3 (Fresh.one hr2)
    have E4 : Ext h1 h4 := E2.trans u4
    have E5 : Ext h1 h5 := E4.fresh u5 fresh3
    have c05 : cellH h5 ⟨a, 0, none⟩ = some v := by simp [cellH, ha5]
    refine ⟨c05, ?_⟩
    have fresh5 : ∀ b ∈ F5, h1 b = none := fun b hb => by
      rcases f5 b hb with h6 | h6
      · exact fresh3 b h6
      · exact E4.none h6
    refine app_it hO5 (t2.ext E5) (by simp; omega) ?_
    intro v6 h6 F6 hO6 u6 f6
    have na5 : a ∉ F5 := fun hm => by rw [fresh5 a hm] at ha; cases ha
    have ha6 := u6.get ha5 na5
    have E6 : Ext h1 h6 := E5.fresh u6 fresh5
    have fresh6 : ∀ b ∈ F6, h1 b = none := fun b hb => by
      rcases f6 b hb with h7 | h7
      · exact fresh5 b h7
      · exact E5.none h7
    have na6 : a ∉ F6 := fun hm => by rw [fresh6 a hm] at ha; cases ha
    refine store_cell T_sl_api_Item.und rfl ha6 (by simp) (by obtain ⟨_, _, rfl, -⟩ := hO6.slR.here; rfl) T_sl_api_Item.info T_sl_api_Item.size ?_
    have u7 : Upd [a] h6 (h6.set a (.cells (#[v, .int .i64 room].setIfInBounds 0 v6) T_carrackref15_Table (0, 0))) := Upd.set (by simp)
    have ha7 : (h6.set a (.cells (#[v, .int .i64 room].setIfInBounds 0 v6) T_carrackref15_Table (0, 0))) a = some (.cells #[v6, .int .i64 room] T_carrackref15_Table (0, 0)) := set_same
    generalize h6.set a (.cells (#[v, .int .i64 room].setIfInBounds 0 v6) T_carrackref15_Table (0, 0)) = h7 at *
    have e2 : putE L room i = 0 := by unfold putE; rw [if_neg (fun hc => hr hc.2)]
    have e3 : putL L room i = insL L i := by unfold putL; rw [if_neg (fun hc => hr hc.2)]
    have e4 : ([] : List It) ++ L.take (pA L i.key).length ++ [i] ++ L.drop (pA L i.key).length = insL L i := by rw [List.nil_append]; exact ins_cut hs hg
    rw [e4] at hO6
    rw [← e2]
    refine hk h7 (a :: F6) ⟨⟨v6, F6, ha7, by rw [e3]; exact hO6.upd u7 (fun b hb => by simp; rintro rfl; exact na6 hb), rfl, na6⟩, by rw [e3]; exact hs.ins i⟩ ?_ ?_
    · exact Upd.then (Ext.upd (u1.trans E6)) u7 (fun b hb => by left; simp at hb; simp [hb])
    · intro b hb
      rcases List.mem_cons.1 hb with rfl | hb
      · left; simp
      · right; exact u1.none (fresh6 b hb)
end Go.Proofs.YtlkjippiaghbmaaGreat
/- the document's table: Drop, Apply, Get, Copy, Fit. -/
set_option maxRecDepth 20000
set_option linter.unusedSimpArgs false
set_option linter.unusedVariables false
namespace Go.Proofs.YtlkjippiaghbmaaGreat
open Go

theorem del_rule {h2 : PH} {a : Nat} {L : List It} {room : Int} {F : List Nat} (H : RAt h2 a L room F) (hL : L.length ≤ 1000) {key : Ky} {x : It} (hg : getL L key = some x) {K : PH → Prop}
    (hk : ∀ h' F', RAt h' a (delL L key) room F' → Upd F h2 h' → (∀ b ∈ F', b ∈ F ∨ h2 b = none) → K h') :
    popO (SemP PG (nilS (.pointer (some ⟨a, 0, none⟩)))) fun v6 =>
 popO (SemP PG (Instr.fieldAt T_carrackref15_Table v6 0)) fun v7 =>
 popO (SemE PG h2 (Instr.loadAt T_sl_api_Item v7)) fun v8 =>
 popO (SemP PG (Instr.sliceAt T_sl_api_Item v8 none (some (.int .i64 (pA L key).length)) none)) fun v9 =>
 popO (SemP PG (nilS (.pointer (some ⟨a, 0, none⟩)))) fun v10 =>
 popO (SemP PG (Instr.fieldAt T_carrackref15_Table v10 0)) fun v11 =>
 popO (SemE PG h2 (Instr.loadAt T_sl_api_Item v11)) fun v12 =>
 popO (SemP PG (binOp BinOp.add T_int (.int .i64 (pA L key).length) (Value.int IntKind.i64 1))) fun v13 =>
 popO (SemP PG (Instr.sliceAt T_sl_api_Item v12 (some v13) none none)) fun v14 =>
 popO (SemA PG (Instr.buildSlice T_sl_api_Item 0 #[])) fun x16 => ∀ r15, h2 r15 = none → popO (SemP PG (x16.2 r15)) fun v17 => bindH (PH.set h2 r15 x16.1) fun h18 =>
 SemH PG (Builtin.append_ #[T_sl_api_Item, T_sl_api_Item] T_sl_api_Item #[v17, v9]) h18 fun v19 h20 =>
 SemE PG h20 (Instr.loadAt T_sl_api_Item v11) = some v12 ∧ (SemH PG (Builtin.append_ #[T_sl_api_Item, T_sl_api_Item] T_sl_api_Item #[v19, v14]) h20 fun v21 h22 =>
 (popO (SemP PG (nilS (.pointer (some ⟨a, 0, none⟩)))) fun v23 =>
 popO (SemP PG (Instr.fieldAt T_carrackref15_Table v23 0)) fun v24 =>
 SemH PG (storeS T_sl_api_Item v24 v21) h22 fun v25 h26 =>
 (K h26))) := by
  have hs := H.srt
  have HK := H.known
  obtain ⟨v, G, ha, hO, rfl, hn⟩ := H.here
  have c0 : cellH h2 ⟨a, 0, none⟩ = some v := by simp [cellH, ha]
  have hlt : (pA L key).length < L.length := by
    have := congrArg List.length (split3 hs key)
    rw [hg] at this
    simp only [List.length_append, Option.toList_some, List.length_cons, List.length_nil] at this
    omega
  have e5 : IntKind.i64.wrap (((pA L key).length : Int) + 1) = (((pA L key).length + 1 : Nat) : Int) := by rw [i64_wrap (by omega) (by omega)]; omega
  obtain ⟨w1, s1, s2, s3⟩ := hO.cutIt (lo := none) (hi := some (.int .i64 (pA L key).length)) (l := 0) (m := (pA L key).length) (.inl ⟨rfl, rfl⟩) (.inr ⟨.i64, rfl⟩) (Nat.zero_le _) (by omega)
  obtain ⟨w2, t1, t2, t3⟩ := hO.cutIt (lo := some (.int .i64 ((pA L key).length + 1 : Nat))) (hi := none) (l := (pA L key).length + 1) (m := L.length) (.inr ⟨.i64, rfl⟩) (.inl ⟨rfl, rfl⟩) (by omega) (Nat.le_refl _)
  rw [List.drop_zero] at s2
  rw [List.take_of_length_le (Nat.le_refl _)] at t2
  simp only [T_carrackref15_Table.f0, T_sl_api_Item.load, c0, s1, e5, t1, empty_lit, popO_some, bindH_eq, condV_bool, condV_true, condV_false, yV_bool, gopV_tt, gopV_ff, gopV_tf, gopV_ft, pickV_t, pickV_f, pickV_bool, nilS_ptr, add_eq, sub_eq, mul_eq, lss_eq, leq_eq, gtr_eq, geq_eq, not_eq, minI_eq, maxI_eq, extract_0, extract_1, extract_2, eqlI, neqI, makeFunc_eq, decide_true, decide_false, if_true, if_false, Bool.false_eq_true, Bool.not_true, Bool.not_false, reduceIte, List.getElem?_toArray, List.getElem?_cons_zero, List.getElem?_cons_succ, Option.isSome_none, List.length_map]
  intro r2 hr2
  refine popO_pure ?_
  try rw [bindH_eq]
  have u2 : Ext h2 (h2.set r2 (.cells #[] T_api_Item)) := Upd.new hr2
  have hE : OwnR (h2.set r2 (.cells #[] T_api_Item)) T_api_Item 5 (.slice (some ⟨r2, 0, none⟩) 0 0) (([] : List It).map It.cells) [r2] := OwnR.lit (It.rows []) set_same rfl (by decide) rfl
  generalize h2.set r2 (.cells #[] T_api_Item) = h3 at *
  refine app_it hE (s2.ext u2) (by simp; omega) ?_
  intro v4 h4 F4 hO4 u4 f4
  have ha3 := u2.get ha
  have n2 : a ∉ [r2] := by simp; rintro rfl; rw [ha] at hr2; cases hr2
  have ha4 : h4 a = some (.cells #[v, .int .i64 room] T_carrackref15_Table (0, 0)) := u4.get ha3 n2
  have c04 : cellH h4 ⟨a, 0, none⟩ = some v := by simp [cellH, ha4]
  refine ⟨c04, ?_⟩
  have E4 : Ext h2 h4 := u2.fresh u4 (Fresh.one hr2)
  have fresh4 : ∀ b ∈ F4, h2 b = none := fun b hb => by
    rcases f4 b hb with h6 | h6
    · simp at h6; subst h6; exact hr2
    · exact u2.none h6
  have na4 : a ∉ F4 := fun hm => by rw [fresh4 a hm] at ha; cases ha
  refine app_it hO4 (t2.ext E4) (by simp; omega) ?_
  intro v6 h6 F6 hO6 u6 f6
  have ha6 := u6.get ha4 na4
  have E6 : Ext h2 h6 := E4.fresh u6 fresh4
  have fresh6 : ∀ b ∈ F6, h2 b = none := fun b hb => by
    rcases f6 b hb with h7 | h7
    · exact fresh4 b h7
    · exact E4.none h7
  have na6 : a ∉ F6 := fun hm => by rw [fresh6 a hm] at ha; cases ha
  refine store_cell T_sl_api_Item.und rfl ha6 (by simp) (by obtain ⟨_, _, rfl, -⟩ := hO6.slR.here; rfl) T_sl_api_Item.info T_sl_api_Item.size ?_
  have u7 : Upd [a] h6 (h6.set a (.cells (#[v, .int .i64 room].setIfInBounds 0 v6) T_carrackref15_Table (0, 0))) := Upd.set (by simp)
  have ha7 : (h6.set a (.cells (#[v, .int .i64 room].setIfInBounds 0 v6) T_carrackref15_Table (0, 0))) a = some (.cells #[v6, .int .i64 room] T_carrackref15_Table (0, 0)) := set_same
  generalize h6.set a (.cells (#[v, .int .i64 room].setIfInBounds 0 v6) T_carrackref15_Table (0, 0)) = h7 at *
  have e4 : ([] : List It) ++ L.take (pA L key).length ++ L.drop ((pA L key).length + 1) = delL L key := by rw [List.nil_append]; exact del_cut hs hg
  rw [e4] at hO6
  refine hk h7 (a :: F6) ⟨⟨v6, F6, ha7, hO6.upd u7 (fun b hb => by simp; rintro rfl; exact na6 hb), rfl, na6⟩, hs.del _⟩ ?_ ?_
  · exact Upd.then (Ext.upd E6) u7 (fun b hb => by left; simp at hb; simp [hb])
  · intro b hb
    rcases List.mem_cons.1 hb with rfl | hb
    · left; simp
    · right; exact fresh6 b hb

theorem set_stage {L : List It} {p : Nat} {x : It} (hlt : p < L.length) (hat : L[p]? = some x) (g : Int) : (L.map It.cells).flatten.set (p * 5 + 4) (.int .i64 g) = ((L.take p ++ ⟨x.p, g⟩ :: L.drop (p + 1)).map It.cells).flatten := by
  have h2 : ((L.take p).map It.cells).flatten.length = p * 5 := by
    rw [(It.rows _).flat, List.length_map, List.length_take]; congr 1; omega
  have h1 : (L.map It.cells).flatten = ((L.take p).map It.cells).flatten ++ (x.cells ++ ((L.drop (p + 1)).map It.cells).flatten) := by
    have h3 : L = L.take p ++ x :: L.drop (p + 1) := by
      have : L.drop p = x :: L.drop (p + 1) := by
        rw [List.drop_eq_getElem_cons hlt]
        have : L[p] = x := by rw [List.getElem?_eq_getElem hlt] at hat; simpa using hat
        rw [this]
      rw [← this, List.take_append_drop]
    conv => lhs; rw [h3]
    simp only [List.map_append, List.flatten_append, List.map_cons, List.flatten_cons]
  rw [h1, List.set_append_right _ _ (by rw [h2]; omega), h2]
  simp only [List.map_append, List.flatten_append, List.map_cons, List.flatten_cons]
  congr 1
  rw [show p * 5 + 4 - p * 5 = 4 by omega]
  rfl
theorem RApply_ok {h : PH} {a : Nat} {L : List It} {room : Int} {F : List Nat} (H : RAt h a L room F) (hL : L.length ≤ 1000) (n : Nt) (hs0 : 0 ≤ n.p.s) (ht0 : 0 ≤ n.p.t) {k : Value → PH → Prop}
    (hk : ∀ h' F', RAt h' a (appL L room n) room F' → Upd F h h' → (∀ b ∈ F', b ∈ F ∨ h b = none) → k (.int .i64 (appE L room n)) h') : CallsH PG id_carrackref15_Table_Apply #[.pointer (some ⟨a, 0, none⟩), .agg n.cells.toArray] h k := by
  apply carrackref15_Table_Apply.call
  unfold carrackref15_Table_Apply
  intro r1 hr1
  rw [bindH_eq]
  have u1 : Ext h (h.set r1 (.cells (Value.cells (.agg n.cells.toArray)) T_api_Note)) := Upd.new hr1
  have b1 : Bx (h.set r1 (.cells (Value.cells (.agg n.cells.toArray)) T_api_Note)) r1 n.cells := Bx.new
  generalize h.set r1 (.cells (Value.cells (.agg n.cells.toArray)) T_api_Note) = h1 at *
  simp only [b1.nt, popO_some, bindH_eq, condV_bool, condV_true, condV_false, yV_bool, gopV_tt, gopV_ff, gopV_tf, gopV_ft, pickV_t, pickV_f, pickV_bool, nilS_ptr, add_eq, sub_eq, mul_eq, lss_eq, leq_eq, gtr_eq, geq_eq, not_eq, minI_eq, maxI_eq, extract_0, extract_1, extract_2, eqlI, neqI, makeFunc_eq, decide_true, decide_false, if_true, if_false, Bool.false_eq_true, Bool.not_true, Bool.not_false, reduceIte, List.getElem?_toArray, List.getElem?_cons_zero, List.getElem?_cons_succ, Option.isSome_none, List.length_map]
  refine RNRight_ok n hs0 ht0 fun h2 u2 => ?_
  have uu := u1.trans u2
  have b2 := b1.ext u2
  have H2 := H.ext uu
  have hs := H.srt
  cases hr : n.right with
  | false =>
    have e1 : appE L room n = 1 := by unfold appE; rw [if_pos hr]
    have e2 : appL L room n = L := by unfold appL; rw [if_pos hr]
    rw [e1, e2] at hk
    simp only [popO_some, bindH_eq, condV_bool, condV_true, condV_false, yV_bool, gopV_tt, gopV_ff, gopV_tf, gopV_ft, pickV_t, pickV_f, pickV_bool, nilS_ptr, add_eq, sub_eq, mul_eq, lss_eq, leq_eq, gtr_eq, geq_eq, not_eq, minI_eq, maxI_eq, extract_0, extract_1, extract_2, eqlI, neqI, makeFunc_eq, decide_true, decide_false, if_true, if_false, Bool.false_eq_true, Bool.not_true, Bool.not_false, reduceIte, List.getElem?_toArray, List.getElem?_cons_zero, List.getElem?_cons_succ, Option.isSome_none, List.length_map]
    exact hk h2 F H2 (Ext.upd uu) (fun b hb => .inl hb)
  | true =>
    have c0 : cellH h2 ⟨r1, 0, none⟩ = some (.int .i64 n.k) := b2.cell 0
    have c1 : cellH h2 ⟨r1, 0 + 1, none⟩ = some (.int .i64 n.p.f) := b2.cell 1
    have c2 : cellH h2 ⟨r1, 0 + 1 + 1, none⟩ = some (.int .u64 n.p.s) := b2.cell 2
    have p1 := b2.pk (o := 0 + 1) (p := n.p) rfl
    simp only [T_api_Note.f1, T_api_Packet.f0, T_api_Packet.f1, T_int.load, T_uint64.load, c1, c2, popO_some, bindH_eq, condV_bool, condV_true, condV_false, yV_bool, gopV_tt, gopV_ff, gopV_tf, gopV_ft, pickV_t, pickV_f, pickV_bool, nilS_ptr, add_eq, sub_eq, mul_eq, lss_eq, leq_eq, gtr_eq, geq_eq, not_eq, minI_eq, maxI_eq, extract_0, extract_1, extract_2, eqlI, neqI, makeFunc_eq, decide_true, decide_false, if_true, if_false, Bool.false_eq_true, Bool.not_true, Bool.not_false, reduceIte, List.getElem?_toArray, List.getElem?_cons_zero, List.getElem?_cons_succ, Option.isSome_none, List.length_map]
    refine Place_ok H2 (by omega) n.p.key ?_
    have hkr : 1 ≤ n.k ∧ n.k ≤ 4 := by
      unfold Nt.right at hr
      simp only [Bool.and_eq_true, decide_eq_true_eq] at hr
      exact hr.1
    have hrt : ¬ n.right = false := by rw [hr]; simp
    have hx : n.k = 1 ∨ n.k = 2 ∨ 2 < n.k := by omega
    have fin : ∀ {h' : PH} {F' : List Nat} {X : List It} {E : Int}, appL L room n = X → appE L room n = E → RAt h' a X room F' → Upd F h2 h' → (∀ b ∈ F', b ∈ F ∨ h2 b = none) → k (.int .i64 E) h' := by
      intro h' F' X E e1 e2 H' u' f'
      rw [← e2]
      exact hk h' F' (by rw [e1]; exact H') (Upd.then (Ext.upd uu) u' fun b hb => .inl hb) (fun b hb => by
        rcases f' b hb with h | h
        · exact .inl h
        · exact .inr (uu.none h))
    rcases hx with hA | hA | hA
    · have d1 : (n.k == 1) = true := by simp [hA]
      have d2 : (n.k == 2) = false := by simp [hA]
      have d3 : ((2 : Int) < n.k) = False := by apply eq_false; omega
      cases hg : getL L n.p.key with
      | none =>
        simp only [T_api_Note.f0, T_api_Note.f1, T_int.load, c0, d1, Option.isSome_none, p1, it_build, popO_some, bindH_eq, condV_bool, condV_true, condV_false, yV_bool, gopV_tt, gopV_ff, gopV_tf, gopV_ft, pickV_t, pickV_f, pickV_bool, nilS_ptr, add_eq, sub_eq, mul_eq, lss_eq, leq_eq, gtr_eq, geq_eq, not_eq, minI_eq, maxI_eq, extract_0, extract_1, extract_2, eqlI, neqI, makeFunc_eq, decide_true, decide_false, if_true, if_false, Bool.false_eq_true, Bool.not_true, Bool.not_false, reduceIte, List.getElem?_toArray, List.getElem?_cons_zero, List.getElem?_cons_succ, Option.isSome_none, List.length_map]
        refine RPut_ok H2 hL ⟨n.p, 1⟩ hg fun h3 F3 H3 u3 f3 => fin ?_ ?_ H3 u3 f3
        · unfold appL; rw [if_neg hrt, if_pos hA, hg]; rfl
        · unfold appE; rw [if_neg hrt, if_pos hA, hg]; rfl
      | some x =>
        simp only [T_api_Note.f0, T_api_Note.f1, T_int.load, c0, d1, d2, d3, Option.isSome_some, popO_some, bindH_eq, condV_bool, condV_true, condV_false, yV_bool, gopV_tt, gopV_ff, gopV_tf, gopV_ft, pickV_t, pickV_f, pickV_bool, nilS_ptr, add_eq, sub_eq, mul_eq, lss_eq, leq_eq, gtr_eq, geq_eq, not_eq, minI_eq, maxI_eq, extract_0, extract_1, extract_2, eqlI, neqI, makeFunc_eq, decide_true, decide_false, if_true, if_false, Bool.false_eq_true, Bool.not_true, Bool.not_false, reduceIte, List.getElem?_toArray, List.getElem?_cons_zero, List.getElem?_cons_succ, Option.isSome_none, List.length_map]
        unfold carrackref15_Table_Apply_k69 carrackref15_Table_Apply_k70
        refine fin ?_ ?_ H2 Upd.refl (fun b hb => .inl hb)
        · unfold appL; rw [if_neg hrt, if_pos hA, hg]; rfl
        · unfold appE; rw [if_neg hrt, if_pos hA, hg]; rfl
    · have d1 : (n.k == 1) = false := by simp [hA]
      have d2 : (n.k == 2) = true := by simp [hA]
      have n1 : ¬ n.k = 1 := by omega
      cases hg : getL L n.p.key with
      | none =>
        simp only [T_api_Note.f0, T_api_Note.f1, T_int.load, c0, d1, d2, Option.isSome_none, p1, it_build, popO_some, bindH_eq, condV_bool, condV_true, condV_false, yV_bool, gopV_tt, gopV_ff, gopV_tf, gopV_ft, pickV_t, pickV_f, pickV_bool, nilS_ptr, add_eq, sub_eq, mul_eq, lss_eq, leq_eq, gtr_eq, geq_eq, not_eq, minI_eq, maxI_eq, extract_0, extract_1, extract_2, eqlI, neqI, makeFunc_eq, decide_true, decide_false, if_true, if_false, Bool.false_eq_true, Bool.not_true, Bool.not_false, reduceIte, List.getElem?_toArray, List.getElem?_cons_zero, List.getElem?_cons_succ, Option.isSome_none, List.length_map]
        refine RPut_ok H2 hL ⟨n.p, 2⟩ hg fun h3 F3 H3 u3 f3 => fin ?_ ?_ H3 u3 f3
        · unfold appL; rw [if_neg hrt, if_neg n1, if_pos hA, hg]
        · unfold appE; rw [if_neg hrt, if_neg n1, if_pos hA, hg]; rfl
      | some x =>
        obtain ⟨hx1, hx2⟩ := getL_mem hg
        have eL : appL L room n = insL L ⟨x.p, 2⟩ := by unfold appL; rw [if_neg hrt, if_neg n1, if_pos hA, hg]
        have eE : appE L room n = 0 := by unfold appE; rw [if_neg hrt, if_neg n1, if_pos hA, hg]; rfl
        simp only [T_api_Note.f0, T_api_Note.f1, T_int.load, c0, d1, d2, Option.isSome_some, empty_lit, popO_some, bindH_eq, condV_bool, condV_true, condV_false, yV_bool, gopV_tt, gopV_ff, gopV_tf, gopV_ft, pickV_t, pickV_f, pickV_bool, nilS_ptr, add_eq, sub_eq, mul_eq, lss_eq, leq_eq, gtr_eq, geq_eq, not_eq, minI_eq, maxI_eq, extract_0, extract_1, extract_2, eqlI, neqI, makeFunc_eq, decide_true, decide_false, if_true, if_false, Bool.false_eq_true, Bool.not_true, Bool.not_false, reduceIte, List.getElem?_toArray, List.getElem?_cons_zero, List.getElem?_cons_succ, Option.isSome_none, List.length_map]
        intro r2 hr2
        refine popO_pure ?_
        try rw [bindH_eq]
        obtain ⟨v, G, ha, hO, rfl, hn⟩ := H2.here
        have u3 : Ext h2 (h2.set r2 (.cells #[] T_api_Item)) := Upd.new hr2
        have hE : OwnR (h2.set r2 (.cells #[] T_api_Item)) T_api_Item 5 (.slice (some ⟨r2, 0, none⟩) 0 0) (([] : List It).map It.cells) [r2] := OwnR.lit (It.rows []) set_same rfl (by decide) rfl
        generalize h2.set r2 (.cells #[] T_api_Item) = h3 at *
        have ha3 := u3.get ha
        have c03 : cellH h3 ⟨a, 0, none⟩ = some v := by simp [cellH, ha3]
        simp only [T_carrackref15_Table.f0, T_sl_api_Item.load, c03, popO_some, bindH_eq, condV_bool, condV_true, condV_false, yV_bool, gopV_tt, gopV_ff, gopV_tf, gopV_ft, pickV_t, pickV_f, pickV_bool, nilS_ptr, add_eq, sub_eq, mul_eq, lss_eq, leq_eq, gtr_eq, geq_eq, not_eq, minI_eq, maxI_eq, extract_0, extract_1, extract_2, eqlI, neqI, makeFunc_eq, decide_true, decide_false, if_true, if_false, Bool.false_eq_true, Bool.not_true, Bool.not_false, reduceIte, List.getElem?_toArray, List.getElem?_cons_zero, List.getElem?_cons_succ, Option.isSome_none, List.length_map]
        refine app_it hE (hO.slR.ext u3) (by simp; omega) ?_
        intro v4 h4 F4 hO4 u4 f4
        rw [List.nil_append] at hO4
        have E4 : Ext h2 h4 := u3.fresh u4 (Fresh.one hr2)
        have fresh4 : ∀ b ∈ F4, h2 b = none := fun b hb => by
          rcases f4 b hb with h6 | h6
          · simp at h6; subst h6; exact hr2
          · exact u3.none h6
        have na4 : a ∉ F4 := fun hm => by rw [fresh4 a hm] at ha; cases ha
        have ha4 := E4.get ha
        have hlt : (pA L n.p.key).length < L.length := by
          have := congrArg List.length (split3 hs n.p.key)
          rw [hg] at this
          simp only [List.length_append, Option.toList_some, List.length_cons, List.length_nil] at this
          omega
        have hat : L[(pA L n.p.key).length]? = some x := by
          have : (pA L n.p.key ++ ((getL L n.p.key).toList ++ pC L n.p.key))[(pA L n.p.key).length]? = some x := by
            rw [List.getElem?_append_right (Nat.le_refl _), Nat.sub_self, hg]; rfl
          rwa [← split3 hs n.p.key] at this
        -- the copy's stage is set
        obtain ⟨b', cap, cs, hv4, hF4, hb4, hle4, hcm4, hcs4, htk4⟩ : ∃ b cap cs, v4 = .slice (some ⟨b, 0, none⟩) (L.map It.cells).length cap ∧ F4 = [b] ∧ h4 b = some (.cells cs T_api_Item (0, 0)) ∧ (L.map It.cells).length ≤ cap ∧ cap ≤ maxL ∧ cs.size = cap * 5 ∧ cs.toList.take ((L.map It.cells).length * 5) = (L.map It.cells).flatten := by
          rcases hO4.here with ⟨_, h2, _⟩ | h2
          · exfalso
            have : L = [] := List.map_eq_nil_iff.1 h2
            subst this; simp at hlt
          · exact h2
        rw [List.length_map] at hv4 hle4 htk4
        have ix : SemP PG (Instr.indexAt T_sl_api_Item v4 (.int .i64 (pA L n.p.key).length)) = some (.pointer (some ⟨b', 0 + (pA L n.p.key).length * 5, none⟩)) := by
          rw [hv4]
          exact indexAt_slice T_sl_api_Item.und T_api_Item.info T_api_Item.size (by omega) (by omega)
        have hbound : (pA L n.p.key).length * 5 + 5 ≤ cap * 5 := by
          have : ((pA L n.p.key).length + 1) * 5 ≤ cap * 5 := Nat.mul_le_mul_right 5 (by omega)
          omega
        simp only [ix, T_api_Item.f1, popO_some, bindH_eq, condV_bool, condV_true, condV_false, yV_bool, gopV_tt, gopV_ff, gopV_tf, gopV_ft, pickV_t, pickV_f, pickV_bool, nilS_ptr, add_eq, sub_eq, mul_eq, lss_eq, leq_eq, gtr_eq, geq_eq, not_eq, minI_eq, maxI_eq, extract_0, extract_1, extract_2, eqlI, neqI, makeFunc_eq, decide_true, decide_false, if_true, if_false, Bool.false_eq_true, Bool.not_true, Bool.not_false, reduceIte, List.getElem?_toArray, List.getElem?_cons_zero, List.getElem?_cons_succ, Option.isSome_none, List.length_map]
        refine store_cell T_int.und rfl hb4 (by rw [hcs4]; omega) rfl T_int.info T_int.size ?_
        have u5 : Upd [b'] h4 (h4.set b' (.cells (cs.setIfInBounds (0 + (pA L n.p.key).length * 5 + 4) (.int .i64 2)) T_api_Item (0, 0))) := Upd.set (by simp)
        have hb5 : (h4.set b' (.cells (cs.setIfInBounds (0 + (pA L n.p.key).length * 5 + 4) (.int .i64 2)) T_api_Item (0, 0))) b' = some (.cells (cs.setIfInBounds (0 + (pA L n.p.key).length * 5 + 4) (.int .i64 2)) T_api_Item (0, 0)) := set_same
        generalize h4.set b' (.cells (cs.setIfInBounds (0 + (pA L n.p.key).length * 5 + 4) (.int .i64 2)) T_api_Item (0, 0)) = h5 at *
        have nab : a ≠ b' := by rintro rfl; exact na4 (by rw [hF4]; simp)
        have ha5 := u5.get ha4 (by simpa using nab)
        have hO5 : OwnR h5 T_api_Item 5 v4 ((insL L ⟨x.p, 2⟩).map It.cells) [b'] := by
          have hk2 : (⟨x.p, 2⟩ : It).key = n.p.key := hx2
          have hins := set_cut hs (i := ⟨x.p, 2⟩) (x := x) (by rw [hk2]; exact hg)
          rw [hk2] at hins
          have hlen : (insL L ⟨x.p, 2⟩).length = L.length := by
            rw [← hins]; simp only [List.length_append, List.length_take, List.length_cons, List.length_drop]; omega
          refine ⟨It.rows _, .inr ⟨b', cap, _, by rw [hv4, List.length_map, hlen], rfl, hb5, by rw [List.length_map, hlen]; exact hle4, hcm4, by simpa using hcs4, ?_⟩⟩
          rw [List.length_map, hlen]
          -- the cells
          have e0 : (L.map It.cells).flatten.set ((pA L n.p.key).length * 5 + 4) (.int .i64 2) = ((insL L ⟨x.p, 2⟩).map It.cells).flatten := by
            rw [← hins]; exact set_stage hlt hat 2
          rw [← e0, ← htk4, Array.toList_setIfInBounds, Nat.zero_add, List.take_set]
        have na5 : a ∉ [b'] := by simpa using nab
        refine store_cell T_sl_api_Item.und rfl ha5 (by simp) (by rw [hv4]; rfl) T_sl_api_Item.info T_sl_api_Item.size ?_
        have u7 : Upd [a] h5 (h5.set a (.cells (#[v, .int .i64 room].setIfInBounds 0 v4) T_carrackref15_Table (0, 0))) := Upd.set (by simp)
        have ha7 : (h5.set a (.cells (#[v, .int .i64 room].setIfInBounds 0 v4) T_carrackref15_Table (0, 0))) a = some (.cells #[v4, .int .i64 room] T_carrackref15_Table (0, 0)) := set_same
        generalize h5.set a (.cells (#[v, .int .i64 room].setIfInBounds 0 v4) T_carrackref15_Table (0, 0)) = h7 at *
        unfold carrackref15_Table_Apply_k69 carrackref15_Table_Apply_k70
        have fb : h2 b' = none := fresh4 b' (by rw [hF4]; simp)
        have E5 : Ext h2 h5 := E4.fresh u5 (Fresh.one fb)
        refine fin eL eE (F' := [a, b']) ⟨⟨v4, [b'], ha7, hO5.upd u7 (fun b hb => by simp at hb; subst hb; simpa using Ne.symm nab), rfl, na5⟩, hs.ins _⟩ ?_ ?_
        · exact Upd.then (Ext.upd E5) u7 (fun b hb => by left; simp at hb; simp [hb])
        · intro b hb
          simp only [List.mem_cons, List.not_mem_nil, or_false] at hb
          rcases hb with rfl | rfl
          · left; simp
          · right; exact fb
    · have d1 : (n.k == 1) = false := by simp; omega
      have d2 : (n.k == 2) = false := by simp; omega
      have d3 : ((2 : Int) < n.k) = True := by apply eq_true; omega
      have n1 : ¬ n.k = 1 := by omega
      have n2 : ¬ n.k = 2 := by omega
      have eL : appL L room n = delL L n.p.key := by unfold appL; rw [if_neg hrt, if_neg n1, if_neg n2]
      have eE : appE L room n = 0 := by unfold appE; rw [if_neg hrt, if_neg n1, if_neg n2]
      cases hg : getL L n.p.key with
      | none =>
        simp only [T_api_Note.f0, T_api_Note.f1, T_int.load, c0, d1, d2, d3, Option.isSome_none, popO_some, bindH_eq, condV_bool, condV_true, condV_false, yV_bool, gopV_tt, gopV_ff, gopV_tf, gopV_ft, pickV_t, pickV_f, pickV_bool, nilS_ptr, add_eq, sub_eq, mul_eq, lss_eq, leq_eq, gtr_eq, geq_eq, not_eq, minI_eq, maxI_eq, extract_0, extract_1, extract_2, eqlI, neqI, makeFunc_eq, decide_true, decide_false, if_true, if_false, Bool.false_eq_true, Bool.not_true, Bool.not_false, reduceIte, List.getElem?_toArray, List.getElem?_cons_zero, List.getElem?_cons_succ, Option.isSome_none, List.length_map]
        unfold carrackref15_Table_Apply_k69 carrackref15_Table_Apply_k70
        rw [del_none hg] at eL
        exact fin eL eE H2 Upd.refl (fun b hb => .inl hb)
      | some x =>
        have hx15 : ∀ X : Prop, X → X := fun _ x => x
        simp only [T_api_Note.f0, T_api_Note.f1, T_int.load, c0, d1, d2, d3, Option.isSome_some, extract_0, extract_1, popO_some, eqlI, yV_bool, gopV_tt, gopV_ft, pickV_t, pickV_f, condV_false, condV_true, gtr_eq, decide_true]
        exact del_rule H2 hL hg fun h' F' H' u f => by
          unfold carrackref15_Table_Apply_k69 carrackref15_Table_Apply_k70
          exact fin eL eE H' u f
end Go.Proofs.YtlkjippiaghbmaaGreat
/- the document's table: the rest; the statements' helpers. -/
set_option maxRecDepth 20000
set_option linter.unusedSimpArgs false
set_option linter.unusedVariables false
namespace Go.Proofs.YtlkjippiaghbmaaGreat
open Go

theorem zero_it : SemP PG (Instr.build T_api_Item #[]) = some (It.val default) := by kernel_rfl
theorem rt_build (v : Value) (hv : ∃ a n c, v = .slice a n c) (room : Int) : SemP PG (Instr.build T_carrackref15_Table #[(0, v), (1, .int .i64 room)]) = some (.agg #[v, .int .i64 room]) := by
  obtain ⟨a, n, c, rfl⟩ := hv
  kernel_rfl
/-! ### the statements' helpers -/
theorem Nt.isCell (l : List Nt) : ∀ r ∈ l.map Nt.cells, ∀ u ∈ r, isCell u = true := fun r hr u hu => by
  obtain ⟨m, _, rfl⟩ := List.mem_map.1 hr
  simp only [Nt.cells, List.mem_cons, List.not_mem_nil, or_false] at hu
  rcases hu with rfl | rfl | rfl | rfl | rfl <;> rfl
theorem nt_lit (x : Nt) : SemA PG (Instr.buildSlice T_sl_api_Note 1 #[(0, .agg x.cells.toArray)]) = some (.cells x.cells.toArray T_api_Note (0, 0), fun r => pure (.slice (some ⟨r, 0, none⟩) 1 1)) := by
  kernel_rfl
end Go.Proofs.YtlkjippiaghbmaaGreat
/- table: acts, notes, items and packets that are read of a row. -/
set_option linter.unusedSimpArgs false
set_option linter.unusedVariables false
namespace Go.Proofs.YtlkjippiaghbmaaGreat
open Go Go.RowKit Go.ChangeShapes
set_option maxRecDepth 20000
theorem T_api_Packet.cells : PG.cellsOf T_api_Packet = 4 := by kernel_rfl
theorem T_api_Note.cells : PG.cellsOf T_api_Note = 5 := by kernel_rfl
theorem T_api_Item.cells : PG.cellsOf T_api_Item = 5 := by kernel_rfl
theorem T_int.cells : PG.cellsOf T_int = 1 := by kernel_rfl
theorem T_uint64.cells : PG.cellsOf T_uint64 = 1 := by kernel_rfl
theorem T_string.cells : PG.cellsOf T_string = 1 := by kernel_rfl
section
variable {H : Type} {enc : TypeId × Value → H} {w : World} {spare : Nat → Bool} {held : Bool}
def Pk.ok (p : Pk) : Prop := 0 ≤ p.s ∧ 0 ≤ p.t
theorem Pk.of_rd {cs : List Value} (h : Rd enc PG w spare held T_api_Packet cs) : ∃ p : Pk, cs = p.cells ∧ p.ok := by
  obtain ⟨hl, hf⟩ := rd_struct T_api_Packet.und h
  rw [T_api_Packet.cells] at hl
  match cs, hl with
  | [c0, c1, c2, c3], _ =>
    have f0 : Rd enc PG w spare held T_int (([c0, c1, c2, c3].drop 0).take (PG.cellsOf T_int)) := hf 0 _ rfl
    rw [T_int.cells] at f0
    have f1 : Rd enc PG w spare held T_uint64 (([c0, c1, c2, c3].drop 1).take (PG.cellsOf T_uint64)) := hf 1 _ rfl
    rw [T_uint64.cells] at f1
    have f2 : Rd enc PG w spare held T_uint64 (([c0, c1, c2, c3].drop 2).take (PG.cellsOf T_uint64)) := hf 2 _ rfl
    rw [T_uint64.cells] at f2
    have f3 : Rd enc PG w spare held T_string (([c0, c1, c2, c3].drop 3).take (PG.cellsOf T_string)) := hf 3 _ rfl
    rw [T_string.cells] at f3
    obtain ⟨n0, e0, -⟩ := rd_int T_int.und f0
    obtain ⟨n1, e1, w1⟩ := rd_int T_uint64.und f1
    obtain ⟨n2, e2, w2⟩ := rd_int T_uint64.und f2
    obtain ⟨s3, e3, -⟩ := rd_string T_string.und f3
    simp only [List.drop_succ_cons, List.drop_zero, List.take_succ_cons, List.take_zero, List.cons.injEq, and_true] at e0 e1 e2 e3
    subst e0 e1 e2 e3
    exact ⟨⟨n0, n1, n2, s3⟩, rfl, (wf_u64 w1).1, (wf_u64 w2).1⟩
theorem It.of_rd {cs : List Value} (h : Rd enc PG w spare held T_api_Item cs) : ∃ i : It, cs = i.cells ∧ i.p.ok := by
  obtain ⟨hl, hf⟩ := rd_struct T_api_Item.und h
  rw [T_api_Item.cells] at hl
  match cs, hl with
  | [c0, c1, c2, c3, c4], _ =>
    have f0 : Rd enc PG w spare held T_api_Packet (([c0, c1, c2, c3, c4].drop 0).take (PG.cellsOf T_api_Packet)) := hf 0 _ rfl
    rw [T_api_Packet.cells] at f0
    have f1 : Rd enc PG w spare held T_int (([c0, c1, c2, c3, c4].drop 4).take (PG.cellsOf T_int)) := hf 1 _ rfl
    rw [T_int.cells] at f1
    obtain ⟨p, e0, hp⟩ := Pk.of_rd f0
    obtain ⟨n1, e1, -⟩ := rd_int T_int.und f1
    simp only [List.drop_succ_cons, List.drop_zero, List.take_succ_cons, List.take_zero, List.cons.injEq, and_true, Pk.cells] at e0 e1
    obtain ⟨rfl, rfl, rfl, rfl⟩ := e0
    subst e1
    exact ⟨⟨p, n1⟩, rfl, hp⟩
theorem Nt.of_rd {cs : List Value} (h : Rd enc PG w spare held T_api_Note cs) : ∃ n : Nt, cs = n.cells ∧ n.p.ok := by
  obtain ⟨hl, hf⟩ := rd_struct T_api_Note.und h
  rw [T_api_Note.cells] at hl
  match cs, hl with
  | [c0, c1, c2, c3, c4], _ =>
    have f0 : Rd enc PG w spare held T_int (([c0, c1, c2, c3, c4].drop 0).take (PG.cellsOf T_int)) := hf 0 _ rfl
    rw [T_int.cells] at f0
    have f1 : Rd enc PG w spare held T_api_Packet (([c0, c1, c2, c3, c4].drop 1).take (PG.cellsOf T_api_Packet)) := hf 1 _ rfl
    rw [T_api_Packet.cells] at f1
    obtain ⟨n0, e0, -⟩ := rd_int T_int.und f0
    obtain ⟨p, e1, hp⟩ := Pk.of_rd f1
    simp only [List.drop_succ_cons, List.drop_zero, List.take_succ_cons, List.take_zero, List.cons.injEq, and_true, Pk.cells] at e0 e1
    obtain ⟨rfl, rfl, rfl, rfl⟩ := e1
    subst e0
    exact ⟨⟨n0, p⟩, rfl, hp⟩
theorem rows_of {α : Type} {cells : α → List Value} {P : α → Prop} {t : TypeId} (hof : ∀ cs, Rd enc PG w spare held t cs → ∃ a, cs = cells a ∧ P a) : ∀ {rows : List (List Value)}, (∀ r ∈ rows, Rd enc PG w spare held t r) → ∃ xs : List α, rows = xs.map cells ∧ ∀ x ∈ xs, P x
  | [], _ => ⟨[], rfl, by simp⟩
  | r :: rs, h => by
    obtain ⟨m, rfl, hm⟩ := hof r (h r (by simp))
    obtain ⟨xs, rfl, hx⟩ := rows_of hof (rows := rs) (fun x hx => h x (by simp [hx]))
    exact ⟨m :: xs, rfl, fun x hx' => by rcases List.mem_cons.1 hx' with rfl | h; exact hm; exact hx x h⟩
theorem It.of_rows {rows : List (List Value)} (h : ∀ r ∈ rows, Rd enc PG w spare held T_api_Item r) : ∃ xs : List It, rows = xs.map It.cells ∧ ∀ x ∈ xs, x.p.ok := rows_of (fun _ => It.of_rd) h
theorem Nt.of_rows {rows : List (List Value)} (h : ∀ r ∈ rows, Rd enc PG w spare held T_api_Note r) : ∃ xs : List Nt, rows = xs.map Nt.cells ∧ ∀ x ∈ xs, x.p.ok := rows_of (fun _ => Nt.of_rd) h
end
end Go.Proofs.YtlkjippiaghbmaaGreat
/- TablePlays. -/
set_option maxRecDepth 40000
set_option linter.unusedSimpArgs false
set_option linter.unusedVariables false
namespace Go.Proofs.YtlkjippiaghbmaaGreat
open Go

theorem TAt.len_le {h : PH} {a : Nat} {L : List It} {room : Int} {F : List Nat} (H : TAt h a L room F) : True := trivial

end Go.Proofs.YtlkjippiaghbmaaGreat
/- TableBounds. -/
set_option maxRecDepth 40000
set_option linter.unusedSimpArgs false
set_option linter.unusedVariables false
namespace Go.Proofs.YtlkjippiaghbmaaGreat
open Go

theorem act_err {L : List It} {room : Int} {c : Ac} (h : actE L room c ≠ 0) : actL L room c = L := by
  unfold actE at h
  unfold actL
  by_cases hd : c.dr = true
  · rw [if_pos hd] at h ⊢
    unfold dropE at h
    cases hg : getL L c.n.p.key with
    | none => exact del_none hg
    | some x => rw [hg] at h; simp at h
  · rw [if_neg hd] at h ⊢
    unfold appE at h
    unfold appL
    by_cases h1 : c.n.right = false
    · rw [if_pos h1]
    · rw [if_neg h1] at h ⊢
      by_cases h2 : c.n.k = 1
      · rw [if_pos h2] at h ⊢
        by_cases h3 : (getL L c.n.p.key).isSome = true
        · rw [if_pos h3]
        · rw [if_neg h3] at h ⊢
          unfold putE at h
          unfold putL
          split at h
          · rename_i hc; rw [if_pos hc]
          · exact absurd rfl h
      · rw [if_neg h2] at h ⊢
        by_cases h3 : c.n.k = 2
        · rw [if_pos h3] at h ⊢
          cases hg : getL L c.n.p.key with
          | some x => rw [hg] at h; simp at h
          | none =>
            rw [hg] at h
            simp only [Option.isSome_none, Bool.false_eq_true, if_false] at h
            unfold putE at h
            show putL L room ⟨c.n.p, 2⟩ = L
            unfold putL
            split at h
            · rename_i hc; rw [if_pos hc]
            · exact absurd rfl h
        · rw [if_neg h3] at h
          exact absurd rfl h
theorem SlR.itk {h : PH} {x : Value} {xs : List It} (H : SlR h 5 x (xs.map It.cells)) {k : IntKind} {j : Nat} {m : It} (hm : xs[j]? = some m) :
    ∃ b o, SemP PG (Instr.indexAt T_sl_api_Item x (.int k j)) = some (.pointer (some ⟨b, o, none⟩)) ∧ SemE PG h (Instr.loadAt T_api_Packet (.pointer (some ⟨b, o, none⟩))) = some (.agg m.p.cells.toArray) := by
  obtain ⟨b, o, cs, e', fr, h1, hb, hle, hex⟩ := H.at T_sl_api_Item.und T_api_Item.info T_api_Item.size (k := k) (j := (j : Int)) (r := m.cells) (by omega) (by rw [List.getElem?_map, Int.toNat_natCast, hm]; rfl)
  refine ⟨b, o, h1, ?_⟩
  rw [T_api_Packet.loadAgg hb (by omega)]
  congr 2
  have : m.p.cells = (m.cells).take 4 := rfl
  rw [this, ← hex]
  apply Array.ext'
  simp [List.extract_eq_take_drop, List.take_take]
theorem put_pk {h : PH} {r : Nat} (hb : h r = some (.cells (zcells PG T_api_Packet) T_api_Packet (0, 0))) (p : Pk) {k : Value → PH → Prop} (hk : ∀ h', Bx h' r p.cells → Upd [r] h h' → k undef h') :
    SemH PG (storeS T_api_Packet (.pointer (some ⟨r, 0, none⟩)) (.agg p.cells.toArray)) h k := by
  refine store_box hb T_api_Packet.info (by show 4 = 4; rfl) (by show 0 < 4; decide) (by rw [T_api_Packet.zc]; rfl) p.allCell ?_
  exact hk _ ⟨_, set_same⟩ (Upd.set (by simp))

theorem fit_cons (room : Int) (L : List It) (n : Nt) (ns : List Nt) : fitL room L (n :: ns) = if appE L room n = 0 then fitL room (appL L room n) ns + 1 else 0 := rfl
theorem fit_le (room : Int) : ∀ (ns : List Nt) (L : List It), fitL room L ns ≤ ns.length
  | [], _ => Nat.le_refl _
  | n :: ns, L => by
    unfold fitL
    split
    · have := fit_le room ns (appL L room n)
      simp only [List.length_cons]; omega
    · omega
end Go.Proofs.YtlkjippiaghbmaaGreat
/- TableLives. -/
set_option maxRecDepth 40000
set_option linter.unusedSimpArgs false
set_option linter.unusedVariables false
namespace Go.Proofs.YtlkjippiaghbmaaGreat
open Go

theorem ins_mem (L : List It) (i : It) : i ∈ insL L i := by unfold insL; simp
theorem ins_get {L : List It} (hs : Srt L) (i : It) : getL (insL L i) i.key = some i := getL_of (hs.ins i).nodup (ins_mem L i)
theorem del_del (L : List It) (k : Ky) : delL (delL L k) k = delL L k := by unfold delL; simp [List.filter_filter]
theorem del_ins {L : List It} (hs : Srt L) (i : It) : delL (insL L i) i.key = delL L i.key := by
  refine Srt.unique ((hs.ins i).del _) (hs.del _) ?_
  have h := (ins_perm L i).filter fun j => decide (j.key ≠ i.key)
  have e : (i :: delL L i.key).filter (fun j => decide (j.key ≠ i.key)) = delL L i.key := by
    simp only [List.filter_cons, ne_eq, not_true, decide_false, Bool.false_eq_true, if_false]
    exact del_del L i.key
  rw [e] at h
  exact h
theorem ins_ins {L : List It} (hs : Srt L) {i j : It} (hk : i.key = j.key) : insL (insL L i) j = insL L j := by
  refine Srt.unique ((hs.ins i).ins j) (hs.ins j) ?_
  refine (ins_perm _ j).trans (List.Perm.trans ?_ (ins_perm L j).symm)
  rw [← hk, del_ins hs i]
theorem get_del {L : List It} {k : Ky} : getL (delL L k) k = none := getL_none.2 fun x hx => by
  unfold delL at hx
  simpa using (List.mem_filter.1 hx).2
/-- Sent, then Received; or the other way round. -/
theorem two_app {L : List It} (hs : Srt L) {p : Pk} (hr : p.right = true) (hg : getL L p.key = none) (hl : L.length < 40) (tu : Bool) :
    appE L 40 ⟨if tu then 2 else 1, p⟩ = 0 ∧ appE (appL L 40 ⟨if tu then 2 else 1, p⟩) 40 ⟨if tu then 1 else 2, p⟩ = 0 ∧ appL (appL L 40 ⟨if tu then 2 else 1, p⟩) 40 ⟨if tu then 1 else 2, p⟩ = insL L ⟨p, 2⟩ := by
  have r1 : ¬ (⟨1, p⟩ : Nt).right = false := by unfold Nt.right; rw [hr]; simp
  have r2 : ¬ (⟨2, p⟩ : Nt).right = false := by unfold Nt.right; rw [hr]; simp
  have e1 : ∀ g, putE L 40 ⟨p, g⟩ = 0 := fun g => by unfold putE; rw [if_neg (fun hc => by have := hc.2; omega)]
  have e2 : ∀ g, putL L 40 ⟨p, g⟩ = insL L ⟨p, g⟩ := fun g => by unfold putL; rw [if_neg (fun hc => by have := hc.2; omega)]
  have n21 : ¬ (2 : Int) = 1 := by decide
  cases tu with
  | false =>
    have a1 : appL L 40 ⟨1, p⟩ = insL L ⟨p, 1⟩ := by unfold appL; rw [if_neg r1, if_pos rfl, hg]; exact e2 1
    have a2 : appE L 40 ⟨1, p⟩ = 0 := by unfold appE; rw [if_neg r1, if_pos rfl, hg]; exact e1 1
    have g1 : getL (insL L ⟨p, 1⟩) p.key = some ⟨p, 1⟩ := ins_get hs ⟨p, 1⟩
    have a3 : appE (insL L ⟨p, 1⟩) 40 ⟨2, p⟩ = 0 := by unfold appE; rw [if_neg r2, if_neg n21, if_pos rfl, g1]; rfl
    have a4 : appL (insL L ⟨p, 1⟩) 40 ⟨2, p⟩ = insL L ⟨p, 2⟩ := by
      unfold appL; rw [if_neg r2, if_neg n21, if_pos rfl, g1]; exact ins_ins hs rfl
    simp only [Bool.false_eq_true, if_false]
    rw [a1]; exact ⟨a2, a3, a4⟩
  | true =>
    have a1 : appL L 40 ⟨2, p⟩ = insL L ⟨p, 2⟩ := by unfold appL; rw [if_neg r2, if_neg n21, if_pos rfl, hg]; exact e2 2
    have a2 : appE L 40 ⟨2, p⟩ = 0 := by unfold appE; rw [if_neg r2, if_neg n21, if_pos rfl, hg]; exact e1 2
    have g1 : getL (insL L ⟨p, 2⟩) p.key = some ⟨p, 2⟩ := ins_get hs ⟨p, 2⟩
    have a3 : appE (insL L ⟨p, 2⟩) 40 ⟨1, p⟩ = 0 := by unfold appE; rw [if_neg r1, if_pos rfl, g1]; rfl
    have a4 : appL (insL L ⟨p, 2⟩) 40 ⟨1, p⟩ = insL L ⟨p, 2⟩ := by unfold appL; rw [if_neg r1, if_pos rfl, g1]; rfl
    simp only [if_true]
    rw [a1]; exact ⟨a2, a3, a4⟩
theorem end_app (L : List It) {p : Pk} (hr : p.right = true) (kd : Int) (hk : kd = 3 ∨ kd = 4) : appE L 40 ⟨kd, p⟩ = 0 ∧ appL L 40 ⟨kd, p⟩ = delL L p.key := by
  have r3 : ¬ (⟨kd, p⟩ : Nt).right = false := by unfold Nt.right; rw [hr]; rcases hk with rfl | rfl <;> simp
  have n1 : ¬ kd = 1 := by omega
  have n2 : ¬ kd = 2 := by omega
  exact ⟨by unfold appE; rw [if_neg r3, if_neg n1, if_neg n2], by unfold appL; rw [if_neg r3, if_neg n1, if_neg n2]⟩

def NB (h : PH) (r : Nat) (n : Nt) : Prop := h r = some (.cells n.cells.toArray T_api_Note (0, 0))
theorem NB.bx {h : PH} {r : Nat} {n : Nt} (H : NB h r n) : Bx h r n.cells := ⟨_, H⟩
theorem nt_build (kd : Int) (p : Pk) : SemP PG (Instr.build T_api_Note #[(0, .int .i64 kd), (1, .agg p.cells.toArray)]) = some (.agg (Nt.cells ⟨kd, p⟩).toArray) := by kernel_rfl

theorem it_build2 (p : Pk) : SemP PG (Instr.build T_api_Item #[(0, .agg p.cells.toArray), (1, (Value.int IntKind.i64 2))]) = some (It.val ⟨p, 2⟩) := it_build p 2
end Go.Proofs.YtlkjippiaghbmaaGreat
/- tables made of items. -/
set_option maxRecDepth 40000
set_option linter.unusedSimpArgs false
set_option linter.unusedVariables false
namespace Go.Proofs.YtlkjippiaghbmaaGreat
open Go

def ofL (l : List It) : List It := l.foldl insL []
theorem ofL_snoc (l : List It) (x : It) : ofL (l ++ [x]) = insL (ofL l) x := by unfold ofL; rw [List.foldl_append]; rfl
theorem srt_ofL (l : List It) : Srt (ofL l) := by
  unfold ofL
  have : ∀ (l : List It) (L : List It), Srt L → Srt (l.foldl insL L) := by
    intro l
    induction l with
    | nil => intro L h; exact h
    | cons x l ih => intro L h; exact ih _ (h.ins x)
  exact this l [] List.Pairwise.nil
theorem key_ins (L : List It) (i : It) (k : Ky) : k ∈ (insL L i).map It.key ↔ k = i.key ∨ k ∈ L.map It.key := by
  rw [((ins_perm L i).map It.key).mem_iff, List.map_cons, List.mem_cons]
  constructor
  · rintro (h | h)
    · exact .inl h
    · obtain ⟨x, hx, rfl⟩ := List.mem_map.1 h
      unfold delL at hx
      exact .inr (List.mem_map_of_mem (List.mem_filter.1 hx).1)
  · rintro (h | h)
    · exact .inl h
    · obtain ⟨x, hx, rfl⟩ := List.mem_map.1 h
      by_cases e : x.key = i.key
      · exact .inl e
      · right
        unfold delL
        exact List.mem_map_of_mem (List.mem_filter.2 ⟨hx, by simpa using e⟩)
theorem key_ofL (l : List It) (k : Ky) : k ∈ (ofL l).map It.key ↔ k ∈ l.map It.key := by
  unfold ofL
  have : ∀ (l L : List It), k ∈ (l.foldl insL L).map It.key ↔ (k ∈ l.map It.key ∨ k ∈ L.map It.key) := by
    intro l
    induction l with
    | nil => intro L; simp
    | cons x l ih =>
      intro L
      rw [List.foldl_cons, ih, key_ins, List.map_cons, List.mem_cons]
      constructor
      · rintro (h | h | h)
        · exact .inl (.inr h)
        · exact .inl (.inl h)
        · exact .inr h
      · rintro ((h | h) | h)
        · exact .inr (.inl h)
        · exact .inl h
        · exact .inr (.inr h)
  rw [this]; simp
theorem get_ofL (l : List It) (k : Ky) : (getL (ofL l) k).isSome = decide (k ∈ l.map It.key) := by
  cases h : getL (ofL l) k with
  | some x =>
    obtain ⟨h1, h2⟩ := getL_mem h
    have : k ∈ l.map It.key := (key_ofL l k).1 (by rw [← h2]; exact List.mem_map_of_mem h1)
    simp only [Option.isSome_some]; exact (decide_eq_true this).symm
  | none =>
    have : k ∉ l.map It.key := fun hm => by
      obtain ⟨x, hx, e⟩ := List.mem_map.1 ((key_ofL l k).2 hm)
      exact getL_none.1 h x hx e
    simp only [Option.isSome_none]; exact (decide_eq_false this).symm
theorem nodup_snoc {l : List It} {x : It} : ((l ++ [x]).map It.key).Nodup ↔ (l.map It.key).Nodup ∧ x.key ∉ l.map It.key := by
  rw [List.map_append, List.nodup_append]
  simp only [List.map_cons, List.map_nil, List.nodup_cons, List.not_mem_nil, not_false_eq_true, List.nodup_nil, and_self, true_and, List.mem_singleton]
  constructor
  · rintro ⟨h1, h2⟩
    exact ⟨h1, fun hm => h2 _ hm _ rfl rfl⟩
  · rintro ⟨h1, h2⟩
    refine ⟨h1, ?_⟩
    rintro a ha b rfl rfl
    exact h2 ha
theorem ofL_srt {L : List It} (hs : Srt L) : ofL L = L := by
  have hp : ∀ (l L : List It), (L.map It.key ++ l.map It.key).Nodup → (l.foldl insL L).Perm (L ++ l) := by
    intro l
    induction l with
    | nil => intro L _; simp
    | cons x l ih =>
      intro L hn
      rw [List.map_cons] at hn
      have hx : x.key ∉ L.map It.key := fun hm => by
        rw [List.nodup_append] at hn
        exact hn.2.2 _ hm _ (by simp) rfl
      have hg : getL L x.key = none := getL_none.2 fun y hy e => hx (by rw [← e]; exact List.mem_map_of_mem hy)
      have h3 := ins_perm L x
      rw [del_none hg] at h3
      rw [List.foldl_cons]
      refine (ih (insL L x) ?_).trans ((h3.append_right l).trans List.perm_middle.symm)
      refine (((h3.map It.key).append_right (l.map It.key)).nodup_iff).2 ?_
      rw [List.map_cons, List.cons_append]
      exact (List.perm_middle.nodup_iff).1 hn
  exact Srt.unique (srt_ofL L) hs (hp L [] (by simpa using hs.nodup))

theorem ins_le {L : List It} (hs : Srt L) (i : It) : (insL L i).length ≤ L.length + 1 := by
  rw [ins_length_of hs]; split <;> omega
theorem ofL_len (l : List It) : (ofL l).length ≤ l.length := by
  unfold ofL
  have : ∀ (l L : List It), Srt L → (l.foldl insL L).length ≤ L.length + l.length := by
    intro l
    induction l with
    | nil => intro L _; simp
    | cons x l ih =>
      intro L hs
      rw [List.foldl_cons]
      have h1 := ih _ (hs.ins x)
      have h2 := ins_le hs x
      simp only [List.length_cons]; omega
  simpa using this l [] List.Pairwise.nil
def ofE (room : Int) (l : List It) : Int :=
  if room < 1 ∨ 40 < room then 1 else if l.all It.right = false then 1 else if ¬ (l.map It.key).Nodup then 4 else if room < l.length then 2 else 0

/-- What a call of Of hands back, with whatever it leaves. -/
theorem Of_ok {h : PH} {room : Int} {x : Value} {l : List It} (hx : SlR h 5 x (l.map It.cells)) (hl : l.length ≤ 1000) {k : Value → PH → Prop}
    (hbad : ∀ h', Ext h h' → ofE room l ≠ 0 → k (.tuple #[.pointer none, .int .i64 (ofE room l)]) h')
    (hk : ∀ a h' F, ofE room l = 0 → TAt h' a (ofL l) room F → Fresh h F → Ext h h' → k (.tuple #[.pointer (some ⟨a, 0, none⟩), .int .i64 0]) h') : CallsH PG id_table_Of #[.int .i64 room, x] h k := by
  have lx := hx.len (t' := T_int) T_sl_api_Item.und
  rw [List.length_map] at lx
  apply table_Of.call
  unfold table_Of
  have z1 : ((1 : Int) != 0) = true := by decide
  have z0 : ((0 : Int) != 0) = false := by decide
  refine New_ok room (fun hb => ?_) fun g1 g2 a h1 F H1 f1 u1 => ?_
  · have e : ofE room l = 1 := by unfold ofE; rw [if_pos hb]
    simp only [z1, popO_some, bindH_eq, condV_bool, condV_true, condV_false, yV_bool, gopV_tt, gopV_ff, gopV_tf, gopV_ft, pickV_t, pickV_f, pickV_bool, nilS_ptr, add_eq, sub_eq, mul_eq, lss_eq, leq_eq, gtr_eq, geq_eq, not_eq, minI_eq, maxI_eq, extract_0, extract_1, extract_2, eqlI, neqI, makeFunc_eq, decide_true, decide_false, if_true, if_false, Bool.false_eq_true, Bool.not_true, Bool.not_false, reduceIte, List.getElem?_toArray, List.getElem?_cons_zero, List.getElem?_cons_succ, Option.isSome_none, List.length_map]
    have := hbad h Upd.refl (by rw [e]; decide)
    rw [e] at this; exact this
  have hroom : ¬ (room < 1 ∨ 40 < room) := by omega
  simp only [z0, lx, popO_some, bindH_eq, condV_bool, condV_true, condV_false, yV_bool, gopV_tt, gopV_ff, gopV_tf, gopV_ft, pickV_t, pickV_f, pickV_bool, nilS_ptr, add_eq, sub_eq, mul_eq, lss_eq, leq_eq, gtr_eq, geq_eq, not_eq, minI_eq, maxI_eq, extract_0, extract_1, extract_2, eqlI, neqI, makeFunc_eq, decide_true, decide_false, if_true, if_false, Bool.false_eq_true, Bool.not_true, Bool.not_false, reduceIte, List.getElem?_toArray, List.getElem?_cons_zero, List.getElem?_cons_succ, Option.isSome_none, List.length_map]
  refine ⟨fun vs h' => ∃ (i : Nat) (tw : Bool), i ≤ l.length ∧ vs = [.int .i64 room, x, .pointer (some ⟨a, 0, none⟩), .bool tw, x, .int .i64 l.length, .int .i64 i] ∧ TAt h' a (ofL (l.take i)) room F ∧ Ext h h' ∧ (l.take i).all It.right = true ∧ tw = !decide (((l.take i).map It.key).Nodup), upTo l.length 6,
    ⟨0, false, by omega, rfl, H1, u1, by simp, by simp⟩, ?_⟩
  rintro ρ h' ⟨i, tw, hi, hvs, HT, w, har, htw⟩
  simp only [List.map_cons, List.map_nil, List.cons.injEq, and_true] at hvs
  obtain ⟨e0, e1, e2, e3, e4, e5, e6⟩ := hvs
  rw [e0, e1, e2, e3, e4, e5, e6]
  unfold table_Of_b8
  by_cases hlt : i < l.length
  · have hd : ((i : Int) < (l.length : Int)) = True := by apply eq_true; omega
    obtain ⟨m, hm⟩ : ∃ m, l[i]? = some m := ⟨_, List.getElem?_eq_getElem hlt⟩
    obtain ⟨y, y1, y2⟩ := (hx.ext w).it (k := .i64) hm
    have htake : l.take (i + 1) = l.take i ++ [m] := by rw [List.take_add_one, hm]; rfl
    have ei : IntKind.i64.wrap ((i : Int) + 1) = ((i + 1 : Nat) : Int) := by rw [i64_wrap (by omega) (by omega)]; omega
    simp only [hd, y1, y2, popO_some, bindH_eq, condV_bool, condV_true, condV_false, yV_bool, gopV_tt, gopV_ff, gopV_tf, gopV_ft, pickV_t, pickV_f, pickV_bool, nilS_ptr, add_eq, sub_eq, mul_eq, lss_eq, leq_eq, gtr_eq, geq_eq, not_eq, minI_eq, maxI_eq, extract_0, extract_1, extract_2, eqlI, neqI, makeFunc_eq, decide_true, decide_false, if_true, if_false, Bool.false_eq_true, Bool.not_true, Bool.not_false, reduceIte, List.getElem?_toArray, List.getElem?_cons_zero, List.getElem?_cons_succ, Option.isSome_none, List.length_map]
    intro r hr
    try rw [bindH_eq]
    refine put_it hr m fun h2 b2 u2 => ?_
    have w2 := w.trans u2
    have c4 : cellH h2 ⟨r, 0 + 4, none⟩ = some (.int .i64 m.g) := b2.cell 4
    have p2 := b2.pk (o := 0) (p := m.p) rfl
    have bad : m.right = false → ofE room l = 1 := fun hmr => by
      unfold ofE
      rw [if_neg hroom, if_pos]
      rw [List.all_eq_false]
      exact ⟨m, List.mem_of_getElem? hm, by simp [hmr]⟩
    have fail : ∀ h3, Ext h h3 → m.right = false → k (.tuple #[.pointer none, .int .i64 1]) h3 := fun h3 w3 hmr => by
      have e := bad hmr
      have := hbad h3 w3 (by rw [e]; decide)
      rw [e] at this; exact this
    have hcase : (m.g ≠ 1 ∧ m.g ≠ 2) ∨ (m.g = 1 ∨ m.g = 2) := by omega
    rcases hcase with ⟨n1, n2⟩ | hgg
    · have e1 : (m.g != 1) = true := by simp [n1]
      have e2 : (m.g != 2) = true := by simp [n2]
      have hmr : m.right = false := by unfold It.right; simp [n1, n2]
      simp only [T_api_Item.f1, T_int.load, c4, e1, e2, popO_some, bindH_eq, condV_bool, condV_true, condV_false, yV_bool, gopV_tt, gopV_ff, gopV_tf, gopV_ft, pickV_t, pickV_f, pickV_bool, nilS_ptr, add_eq, sub_eq, mul_eq, lss_eq, leq_eq, gtr_eq, geq_eq, not_eq, minI_eq, maxI_eq, extract_0, extract_1, extract_2, eqlI, neqI, makeFunc_eq, decide_true, decide_false, if_true, if_false, Bool.false_eq_true, Bool.not_true, Bool.not_false, reduceIte, List.getElem?_toArray, List.getElem?_cons_zero, List.getElem?_cons_succ, Option.isSome_none, List.length_map]
      exact fail h2 w2 hmr
    have z11 : ((1 : Int) != 1) = false := by decide
    have z21 : ((2 : Int) != 1) = true := by decide
    have z22 : ((2 : Int) != 2) = false := by decide
    have hmr : m.right = m.p.right := by unfold It.right; rcases hgg with h | h <;> simp [h]
    rcases hgg with hg | hg <;> rw [hg] at c4 <;> simp only [T_api_Item.f0, T_api_Item.f1, T_int.load, c4, z11, z21, z22, p2, popO_some, bindH_eq, condV_bool, condV_true, condV_false, yV_bool, gopV_tt, gopV_ff, gopV_tf, gopV_ft, pickV_t, pickV_f, pickV_bool, nilS_ptr, add_eq, sub_eq, mul_eq, lss_eq, leq_eq, gtr_eq, geq_eq, not_eq, minI_eq, maxI_eq, extract_0, extract_1, extract_2, eqlI, neqI, makeFunc_eq, decide_true, decide_false, if_true, if_false, Bool.false_eq_true, Bool.not_true, Bool.not_false, reduceIte, List.getElem?_toArray, List.getElem?_cons_zero, List.getElem?_cons_succ, Option.isSome_none, List.length_map] <;> refine Check_ok m.p fun h3 u3 => ?_
    all_goals
      cases hpr : m.p.right with
      | false =>
        simp only [Bool.false_eq_true, if_false, z1, popO_some, bindH_eq, condV_bool, condV_true, condV_false, yV_bool, gopV_tt, gopV_ff, gopV_tf, gopV_ft, pickV_t, pickV_f, pickV_bool, nilS_ptr, add_eq, sub_eq, mul_eq, lss_eq, leq_eq, gtr_eq, geq_eq, not_eq, minI_eq, maxI_eq, extract_0, extract_1, extract_2, eqlI, neqI, makeFunc_eq, decide_true, decide_false, if_true, if_false, Bool.false_eq_true, Bool.not_true, Bool.not_false, reduceIte, List.getElem?_toArray, List.getElem?_cons_zero, List.getElem?_cons_succ, Option.isSome_none, List.length_map]
        exact fail h3 (w2.trans u3) (by rw [hmr]; exact hpr)
      | true =>
        have b3 := b2.ext u3
        have c0 : cellH h3 ⟨r, 0, none⟩ = some (.int .i64 m.p.f) := b3.cell 0
        have c1 : cellH h3 ⟨r, 0 + 1, none⟩ = some (.int .u64 m.p.s) := b3.cell 1
        simp only [if_true, z0, T_api_Item.f0, T_api_Packet.f0, T_api_Packet.f1, T_int.load, T_uint64.load, c0, c1, pk_key_build, popO_some, bindH_eq, condV_bool, condV_true, condV_false, yV_bool, gopV_tt, gopV_ff, gopV_tf, gopV_ft, pickV_t, pickV_f, pickV_bool, nilS_ptr, add_eq, sub_eq, mul_eq, lss_eq, leq_eq, gtr_eq, geq_eq, not_eq, minI_eq, maxI_eq, extract_0, extract_1, extract_2, eqlI, neqI, makeFunc_eq, decide_true, decide_false, if_true, if_false, Bool.false_eq_true, Bool.not_true, Bool.not_false, reduceIte, List.getElem?_toArray, List.getElem?_cons_zero, List.getElem?_cons_succ, Option.isSome_none, List.length_map]
        intro r5 hr5
        try rw [bindH_eq]
        refine store_box set_same T_table_id.info (by show 2 = 2; rfl) (by show 0 < 2; decide) (by rw [T_table_id.zc]; rfl) (by simp [isCell, Pk.key]) ?_
        rw [set_set_same]
        have u5 : Ext h3 (h3.set r5 (.cells #[.int .i64 m.p.key.1, .int .u64 m.p.key.2] T_table_id (0, 0))) := Upd.new hr5
        have b5 : Bx (h3.set r5 (.cells #[.int .i64 m.p.key.1, .int .u64 m.p.key.2] T_table_id (0, 0))) r5 [.int .i64 m.p.key.1, .int .u64 m.p.key.2] := ⟨_, set_same⟩
        generalize h3.set r5 (.cells #[.int .i64 m.p.key.1, .int .u64 m.p.key.2] T_table_id (0, 0)) = h5 at *
        have U5 := (u2.trans u3).trans u5
        have H5 := HT.ext U5
        have hs := HT.srt
        obtain ⟨mm, ll, ha, hmm, hp, hF, ham⟩ := H5.here
        have hgl := fun k => getL_perm hp hs.nodup k
        have cm : cellH h5 ⟨a, 0, none⟩ = some (.map (some mm)) := by simp [cellH, ha]
        simp only [T_table_Table.f0, T_map_table_id_api_Item.load, cm, b5.id, look_eq hmm, hgl, popO_some, bindH_eq, condV_bool, condV_true, condV_false, yV_bool, gopV_tt, gopV_ff, gopV_tf, gopV_ft, pickV_t, pickV_f, pickV_bool, nilS_ptr, add_eq, sub_eq, mul_eq, lss_eq, leq_eq, gtr_eq, geq_eq, not_eq, minI_eq, maxI_eq, extract_0, extract_1, extract_2, eqlI, neqI, makeFunc_eq, decide_true, decide_false, if_true, if_false, Bool.false_eq_true, Bool.not_true, Bool.not_false, reduceIte, List.getElem?_toArray, List.getElem?_cons_zero, List.getElem?_cons_succ, Option.isSome_none, List.length_map]
        intro r7 hr7
        try rw [bindH_eq]
        refine put_it hr7 _ fun h7 b7 u7 => ?_
        have ha7 := u7.get ha
        have hm7 := MapAt.ext hmm u7
        have b57 := b5.ext u7
        have b37 := (b3.ext u5).ext u7
        have cm7 : cellH h7 ⟨a, 0, none⟩ = some (.map (some mm)) := by simp [cellH, ha7]
        have hgt : (getL (ofL (l.take i)) m.p.key).isSome = decide (m.key ∈ (l.take i).map It.key) := get_ofL (l.take i) m.p.key
        have hn := @nodup_snoc (l.take i) m
        have hFf : Fresh h F := f1
        have rest : ∀ (K : Value → PH → Prop), (∀ h9, TAt h9 a (ofL (l.take (i + 1))) room F → Ext h h9 → K undef h9) → SemH PG (mapUpdS T_map_table_id_api_Item (.map (some mm)) (kenc m.p.key) m.val) h7 K := fun K hK => by
          refine map_put kkeyed T_map_table_id_api_Item.und hm7 m.key m.val fun h9 hm9 u9 => ?_
          obtain ⟨l', q1, q2⟩ := put_perm hp hs m
          rw [q1] at hm9
          refine hK h9 ⟨⟨mm, l', u9.get ha7 (by simpa using ham), hm9, by rw [htake, ofL_snoc]; exact q2, hF, ham⟩, srt_ofL _⟩ ?_
          exact ((w.trans U5).trans u7).fresh u9 (Fresh.one (hFf mm (by rw [hF]; simp)))
        have hall : (l.take (i + 1)).all It.right = true := by rw [htake, List.all_append, har]; simp [hmr, hpr]
        cases tw with
        | true =>
          simp only [T_table_Table.f0, T_map_table_id_api_Item.load, cm7, b57.id, b37.it, popO_some, bindH_eq, condV_bool, condV_true, condV_false, yV_bool, gopV_tt, gopV_ff, gopV_tf, gopV_ft, pickV_t, pickV_f, pickV_bool, nilS_ptr, add_eq, sub_eq, mul_eq, lss_eq, leq_eq, gtr_eq, geq_eq, not_eq, minI_eq, maxI_eq, extract_0, extract_1, extract_2, eqlI, neqI, makeFunc_eq, decide_true, decide_false, if_true, if_false, Bool.false_eq_true, Bool.not_true, Bool.not_false, reduceIte, List.getElem?_toArray, List.getElem?_cons_zero, List.getElem?_cons_succ, Option.isSome_none, List.length_map]
          refine rest _ fun h9 H9 w9 => ?_
          simp only [ei, popO_some, bindH_eq, condV_bool, condV_true, condV_false, yV_bool, gopV_tt, gopV_ff, gopV_tf, gopV_ft, pickV_t, pickV_f, pickV_bool, nilS_ptr, add_eq, sub_eq, mul_eq, lss_eq, leq_eq, gtr_eq, geq_eq, not_eq, minI_eq, maxI_eq, extract_0, extract_1, extract_2, eqlI, neqI, makeFunc_eq, decide_true, decide_false, if_true, if_false, Bool.false_eq_true, Bool.not_true, Bool.not_false, reduceIte, List.getElem?_toArray, List.getElem?_cons_zero, List.getElem?_cons_succ, Option.isSome_none, List.length_map]
          have hnd : ¬ ((l.take i).map It.key).Nodup := by intro h; rw [decide_eq_true h] at htw; cases htw
          exact ⟨⟨i + 1, true, by omega, rfl, H9, w9, hall, by rw [htake, decide_eq_false (fun h => hnd (hn.1 h).1)]; rfl⟩, by simp [upTo, e6]; omega⟩
        | false =>
          have hnd : ((l.take i).map It.key).Nodup := by
            have : decide (((l.take i).map It.key).Nodup) = true := by simpa using htw.symm
            exact of_decide_eq_true this
          simp only [T_table_Table.f0, T_map_table_id_api_Item.load, cm7, b57.id, b37.it, popO_some, bindH_eq, condV_bool, condV_true, condV_false, yV_bool, gopV_tt, gopV_ff, gopV_tf, gopV_ft, pickV_t, pickV_f, pickV_bool, nilS_ptr, add_eq, sub_eq, mul_eq, lss_eq, leq_eq, gtr_eq, geq_eq, not_eq, minI_eq, maxI_eq, extract_0, extract_1, extract_2, eqlI, neqI, makeFunc_eq, decide_true, decide_false, if_true, if_false, Bool.false_eq_true, Bool.not_true, Bool.not_false, reduceIte, List.getElem?_toArray, List.getElem?_cons_zero, List.getElem?_cons_succ, Option.isSome_none, List.length_map]
          refine rest _ fun h9 H9 w9 => ?_
          simp only [ei, popO_some, bindH_eq, condV_bool, condV_true, condV_false, yV_bool, gopV_tt, gopV_ff, gopV_tf, gopV_ft, pickV_t, pickV_f, pickV_bool, nilS_ptr, add_eq, sub_eq, mul_eq, lss_eq, leq_eq, gtr_eq, geq_eq, not_eq, minI_eq, maxI_eq, extract_0, extract_1, extract_2, eqlI, neqI, makeFunc_eq, decide_true, decide_false, if_true, if_false, Bool.false_eq_true, Bool.not_true, Bool.not_false, reduceIte, List.getElem?_toArray, List.getElem?_cons_zero, List.getElem?_cons_succ, Option.isSome_none, List.length_map]
          refine ⟨⟨i + 1, (getL (ofL (l.take i)) m.p.key).isSome, by omega, rfl, H9, w9, hall, ?_⟩, by simp [upTo, e6]; omega⟩
          rw [hgt, htake]
          by_cases h2 : m.key ∈ (l.take i).map It.key
          · rw [decide_eq_true h2, decide_eq_false (fun h => (hn.1 h).2 h2)]; rfl
          · rw [decide_eq_false h2, decide_eq_true (hn.2 ⟨hnd, h2⟩)]; rfl
  · have hil : i = l.length := by omega
    have hd : ((i : Int) < (l.length : Int)) = False := by apply eq_false; omega
    rw [hil, List.take_length] at HT har htw
    have har' : ¬ l.all It.right = false := by rw [har]; simp
    simp only [hd, lx, popO_some, bindH_eq, condV_bool, condV_true, condV_false, yV_bool, gopV_tt, gopV_ff, gopV_tf, gopV_ft, pickV_t, pickV_f, pickV_bool, nilS_ptr, add_eq, sub_eq, mul_eq, lss_eq, leq_eq, gtr_eq, geq_eq, not_eq, minI_eq, maxI_eq, extract_0, extract_1, extract_2, eqlI, neqI, makeFunc_eq, decide_true, decide_false, if_true, if_false, Bool.false_eq_true, Bool.not_true, Bool.not_false, reduceIte, List.getElem?_toArray, List.getElem?_cons_zero, List.getElem?_cons_succ, Option.isSome_none, List.length_map]
    cases tw with
    | true =>
      have hnd : ¬ (l.map It.key).Nodup := by intro h; rw [decide_eq_true h] at htw; cases htw
      have e : ofE room l = 4 := by unfold ofE; rw [if_neg hroom, if_neg har', if_pos hnd]
      simp only [popO_some, bindH_eq, condV_bool, condV_true, condV_false, yV_bool, gopV_tt, gopV_ff, gopV_tf, gopV_ft, pickV_t, pickV_f, pickV_bool, nilS_ptr, add_eq, sub_eq, mul_eq, lss_eq, leq_eq, gtr_eq, geq_eq, not_eq, minI_eq, maxI_eq, extract_0, extract_1, extract_2, eqlI, neqI, makeFunc_eq, decide_true, decide_false, if_true, if_false, Bool.false_eq_true, Bool.not_true, Bool.not_false, reduceIte, List.getElem?_toArray, List.getElem?_cons_zero, List.getElem?_cons_succ, Option.isSome_none, List.length_map]
      have := hbad h' w (by rw [e]; decide)
      rw [e] at this; exact this
    | false =>
      have hnd : (l.map It.key).Nodup := by
        have : decide ((l.map It.key).Nodup) = true := by simpa using htw.symm
        exact of_decide_eq_true this
      by_cases hfull : room < (l.length : Int)
      · have e : ofE room l = 2 := by unfold ofE; rw [if_neg hroom, if_neg har', if_neg (fun h => h hnd), if_pos hfull]
        simp only [hfull, popO_some, bindH_eq, condV_bool, condV_true, condV_false, yV_bool, gopV_tt, gopV_ff, gopV_tf, gopV_ft, pickV_t, pickV_f, pickV_bool, nilS_ptr, add_eq, sub_eq, mul_eq, lss_eq, leq_eq, gtr_eq, geq_eq, not_eq, minI_eq, maxI_eq, extract_0, extract_1, extract_2, eqlI, neqI, makeFunc_eq, decide_true, decide_false, if_true, if_false, Bool.false_eq_true, Bool.not_true, Bool.not_false, reduceIte, List.getElem?_toArray, List.getElem?_cons_zero, List.getElem?_cons_succ, Option.isSome_none, List.length_map]
        have := hbad h' w (by rw [e]; decide)
        rw [e] at this; exact this
      · have e : ofE room l = 0 := by unfold ofE; rw [if_neg hroom, if_neg har', if_neg (fun h => h hnd), if_neg hfull]
        simp only [hfull, popO_some, bindH_eq, condV_bool, condV_true, condV_false, yV_bool, gopV_tt, gopV_ff, gopV_tf, gopV_ft, pickV_t, pickV_f, pickV_bool, nilS_ptr, add_eq, sub_eq, mul_eq, lss_eq, leq_eq, gtr_eq, geq_eq, not_eq, minI_eq, maxI_eq, extract_0, extract_1, extract_2, eqlI, neqI, makeFunc_eq, decide_true, decide_false, if_true, if_false, Bool.false_eq_true, Bool.not_true, Bool.not_false, reduceIte, List.getElem?_toArray, List.getElem?_cons_zero, List.getElem?_cons_succ, Option.isSome_none, List.length_map]
        exact hk a h' F e HT f1 w
end Go.Proofs.YtlkjippiaghbmaaGreat
/- record: a state that may be; a step. -/
set_option linter.unusedSimpArgs false
set_option linter.unusedVariables false
namespace Go.Proofs.YtlkjippiaghbmaaGreat
open Go
set_option maxRecDepth 20000
theorem Equal_ok {h : PH} {x y : Value} {xs ys : List It} (hx : ISl h x xs) (hy : ISl h y ys) (hl : xs.length ≤ 1000000) {k : Value → PH → Prop} (hk : k (.bool (decide (xs = ys))) h) : CallsH PG id_slices_Equal_sl_api_Item_api_Item #[x, y] h k := by
  apply slices_Equal_sl_api_Item_api_Item.call
  unfold slices_Equal_sl_api_Item_api_Item
  have lx := It.len hx
  have ly := It.len hy
  by_cases hle : xs.length = ys.length
  · have q : ((xs.length : Int) != (ys.length : Int)) = false := by simp [hle]
    simp only [lx, ly, neqI, q, popO_some, bindH_eq, condV_bool, condV_true, condV_false, yV_bool, gopV_tt, gopV_ff, gopV_tf, gopV_ft, pickV_t, pickV_f, pickV_bool, nilS_ptr, add_eq, sub_eq, mul_eq, lss_eq, leq_eq, gtr_eq, geq_eq, not_eq, minI_eq, maxI_eq, extract_0, extract_1, extract_2, eqlI, neqI, makeFunc_eq, decide_true, decide_false, if_true, if_false, Bool.false_eq_true, Bool.not_true, Bool.not_false, reduceIte, List.getElem?_toArray, List.getElem?_cons_zero, List.getElem?_cons_succ, Option.isSome_none, List.length_map]
    refine ⟨fun vs h' => ∃ i : Nat, i ≤ xs.length ∧ vs = [x, y, .int .i64 (xs.length : Int), .int .i64 (i : Int)] ∧ h' = h ∧ xs.take i = ys.take i, upTo xs.length 3, ⟨0, by omega, rfl, rfl, by simp⟩, ?_⟩
    rintro ρ h' ⟨i, hi, hvs, rfl, ht⟩
    simp only [List.map_cons, List.map_nil, List.cons.injEq, and_true] at hvs
    obtain ⟨v0, v1, v12, v13⟩ := hvs
    simp only [v0, v1, v12, v13, List.map_cons, List.map_nil]
    unfold slices_Equal_sl_api_Item_api_Item_b6
    by_cases hlt : i < xs.length
    · have g1 : ((i : Int) < (xs.length : Int)) = True := eq_true (by omega)
      have gi : IntKind.i64.wrap ((i : Int) + 1) = ((i + 1 : Nat) : Int) := by rw [i64_wrap (by omega) (by omega)]; omega
      have e1 : xs[i]? = some xs[i] := List.getElem?_eq_getElem hlt
      have hlt2 : i < ys.length := by omega
      have e2 : ys[i]? = some ys[i] := List.getElem?_eq_getElem hlt2
      obtain ⟨a1, p1, q1⟩ := hx.wItem e1
      obtain ⟨a2, p2, q2⟩ := hy.wItem e2
      have t1 : xs.take (i + 1) = xs.take i ++ [xs[i]] := List.take_succ_eq_append_getElem hlt
      have t2 : ys.take (i + 1) = ys.take i ++ [ys[i]] := List.take_succ_eq_append_getElem hlt2
      have hn := It.neq (h := h') (x := .tmp 19) (y := .tmp 23) xs[i] ys[i]
      unfold It.val at hn
      simp only [g1, p1, q1, p2, q2, hn, popO_some, bindH_eq, condV_bool, condV_true, condV_false, yV_bool, gopV_tt, gopV_ff, gopV_tf, gopV_ft, pickV_t, pickV_f, pickV_bool, nilS_ptr, add_eq, sub_eq, mul_eq, lss_eq, leq_eq, gtr_eq, geq_eq, not_eq, minI_eq, maxI_eq, extract_0, extract_1, extract_2, eqlI, neqI, makeFunc_eq, decide_true, decide_false, if_true, if_false, Bool.false_eq_true, Bool.not_true, Bool.not_false, reduceIte, List.getElem?_toArray, List.getElem?_cons_zero, List.getElem?_cons_succ, Option.isSome_none, List.length_map]
      by_cases he : xs[i] = ys[i]
      · simp only [he, decide_true, gi, popO_some, bindH_eq, condV_bool, condV_true, condV_false, yV_bool, gopV_tt, gopV_ff, gopV_tf, gopV_ft, pickV_t, pickV_f, pickV_bool, nilS_ptr, add_eq, sub_eq, mul_eq, lss_eq, leq_eq, gtr_eq, geq_eq, not_eq, minI_eq, maxI_eq, extract_0, extract_1, extract_2, eqlI, neqI, makeFunc_eq, decide_true, decide_false, if_true, if_false, Bool.false_eq_true, Bool.not_true, Bool.not_false, reduceIte, List.getElem?_toArray, List.getElem?_cons_zero, List.getElem?_cons_succ, Option.isSome_none, List.length_map, yV_undef, gopV_none, Nat.zero_add, Nat.reduceAdd, beq_self_eq_true, bne_self_eq_false, and_self, Bool.true_and, Bool.false_and, Bool.and_true, Bool.and_false, Bool.true_or, Bool.false_or, Bool.or_true, Bool.or_false]
        refine ⟨⟨i + 1, by omega, rfl, (by trivial), by rw [t1, t2, ht, he]⟩, ?_⟩
        simp only [upTo, List.getElem?_cons_succ, List.getElem?_cons_zero]
        omega
      · have hne : ¬ xs = ys := fun e => he (by subst e; rfl)
        simp only [he, decide_false, popO_some, bindH_eq, condV_bool, condV_true, condV_false, yV_bool, gopV_tt, gopV_ff, gopV_tf, gopV_ft, pickV_t, pickV_f, pickV_bool, nilS_ptr, add_eq, sub_eq, mul_eq, lss_eq, leq_eq, gtr_eq, geq_eq, not_eq, minI_eq, maxI_eq, extract_0, extract_1, extract_2, eqlI, neqI, makeFunc_eq, decide_true, decide_false, if_true, if_false, Bool.false_eq_true, Bool.not_true, Bool.not_false, reduceIte, List.getElem?_toArray, List.getElem?_cons_zero, List.getElem?_cons_succ, Option.isSome_none, List.length_map, yV_undef, gopV_none, Nat.zero_add, Nat.reduceAdd, beq_self_eq_true, bne_self_eq_false, and_self, Bool.true_and, Bool.false_and, Bool.and_true, Bool.and_false, Bool.true_or, Bool.false_or, Bool.or_true, Bool.or_false]
        simpa [hne] using hk
    · have g1 : ((i : Int) < (xs.length : Int)) = False := eq_false (by omega)
      rw [List.take_of_length_le (by omega), List.take_of_length_le (by omega)] at ht
      simp only [g1, popO_some, bindH_eq, condV_bool, condV_true, condV_false, yV_bool, gopV_tt, gopV_ff, gopV_tf, gopV_ft, pickV_t, pickV_f, pickV_bool, nilS_ptr, add_eq, sub_eq, mul_eq, lss_eq, leq_eq, gtr_eq, geq_eq, not_eq, minI_eq, maxI_eq, extract_0, extract_1, extract_2, eqlI, neqI, makeFunc_eq, decide_true, decide_false, if_true, if_false, Bool.false_eq_true, Bool.not_true, Bool.not_false, reduceIte, List.getElem?_toArray, List.getElem?_cons_zero, List.getElem?_cons_succ, Option.isSome_none, List.length_map]
      simpa [ht] using hk
  · have q : ((xs.length : Int) != (ys.length : Int)) = true := by rw [bne_iff_ne]; omega
    have hne : ¬ xs = ys := fun e => hle (by rw [e])
    simp only [lx, ly, neqI, q, popO_some, bindH_eq, condV_bool, condV_true, condV_false, yV_bool, gopV_tt, gopV_ff, gopV_tf, gopV_ft, pickV_t, pickV_f, pickV_bool, nilS_ptr, add_eq, sub_eq, mul_eq, lss_eq, leq_eq, gtr_eq, geq_eq, not_eq, minI_eq, maxI_eq, extract_0, extract_1, extract_2, eqlI, neqI, makeFunc_eq, decide_true, decide_false, if_true, if_false, Bool.false_eq_true, Bool.not_true, Bool.not_false, reduceIte, List.getElem?_toArray, List.getElem?_cons_zero, List.getElem?_cons_succ, Option.isSome_none, List.length_map]
    simpa [hne] using hk
theorem It.b0 : SemA PG (Instr.buildSlice T_sl_api_Item 0 #[]) = some (.cells #[] T_api_Item, fun r => pure (.slice (some ⟨r, 0, none⟩) 0 0)) := by kernel_rfl
theorem CloneI_ok {h : PH} {v : Value} {l : List It} (S : ISl h v l) (hl : l.length ≤ 1000000) {k : Value → PH → Prop} (hk : ∀ v' h', ISl h' v' l → NewV h v' → Ext h h' → k v' h') : CallsH PG id_slices_Clone_sl_api_Item_api_Item #[v] h k := by
  apply slices_Clone_sl_api_Item_api_Item.call
  unfold slices_Clone_sl_api_Item_api_Item
  have hS := S
  obtain ⟨va, c, hv, hc1, hc2, hc3, -⟩ := S.here
  rw [List.length_map] at hv
  subst hv
  cases va with
  | none =>
    have hnil : l.map It.cells = [] := by
      by_cases h0 : l.map It.cells = []
      · exact h0
      · obtain ⟨b, o, cs, e, fr, e1, _⟩ := hc3 h0
        cases e1
    have hl0 : l = [] := List.map_eq_nil_iff.1 hnil
    subst hl0
    simp only [eqlNil T_sl_api_Item.und, Option.isNone_none, popO_some, bindH_eq, condV_bool, condV_true, condV_false, yV_bool, gopV_tt, gopV_ff, gopV_tf, gopV_ft, pickV_t, pickV_f, pickV_bool, nilS_ptr, add_eq, sub_eq, mul_eq, lss_eq, leq_eq, gtr_eq, geq_eq, not_eq, minI_eq, maxI_eq, extract_0, extract_1, extract_2, eqlI, neqI, makeFunc_eq, decide_true, decide_false, if_true, if_false, Bool.false_eq_true, Bool.not_true, Bool.not_false, reduceIte, List.getElem?_toArray, List.getElem?_cons_zero, List.getElem?_cons_succ, Option.isSome_none, List.length_map]
    exact hk _ _ nilI NewV.nil Upd.refl
  | some va =>
    simp only [eqlNil T_sl_api_Item.und, Option.isNone_some, It.b0, popO_some, bindH_eq, condV_bool, condV_true, condV_false, yV_bool, gopV_tt, gopV_ff, gopV_tf, gopV_ft, pickV_t, pickV_f, pickV_bool, nilS_ptr, add_eq, sub_eq, mul_eq, lss_eq, leq_eq, gtr_eq, geq_eq, not_eq, minI_eq, maxI_eq, extract_0, extract_1, extract_2, eqlI, neqI, makeFunc_eq, decide_true, decide_false, if_true, if_false, Bool.false_eq_true, Bool.not_true, Bool.not_false, reduceIte, List.getElem?_toArray, List.getElem?_cons_zero, List.getElem?_cons_succ, Option.isSome_none, List.length_map]
    intro r hr
    refine popO_pure ?_
    try rw [bindH_eq]
    have u1 : Ext h (h.set r (.cells #[] T_api_Item)) := Upd.new hr
    have O1 : OwnR (h.set r (.cells #[] T_api_Item)) T_api_Item 5 (.slice (some ⟨r, 0, none⟩) 0 0) (([] : List It).map It.cells) [r] := OwnR.lit (n := 0) (It.rows []) set_same (by simp) (by decide) rfl
    generalize h.set r (.cells #[] T_api_Item) = h1 at *
    refine append_own T_sl_api_Item.und T_sl_api_Item.und T_api_Item.info T_api_Item.size T_api_Item.bytes T_api_Item.zero rfl (by decide) O1 (hS.ext u1) (It.isC l) (by simp; omega) ?_
    intro v2 h2 F2 O2 u2 k2 _
    rw [List.map_nil, List.nil_append] at O2
    have f2 : Fresh h F2 := fun b hb => by
      rcases k2 b hb with h1 | h1
      · simp only [List.mem_singleton] at h1
        subst h1; exact hr
      · exact u1.none h1
    exact hk _ _ O2.slR (O2.newV f2) (u1.fresh u2 (Fresh.one hr))
/-! ### a state -/
def chk (d : Dm) (room : Int) : Int :=
  if ofE room d.its = 1 ∨ ¬ (okPl d.p0 ∧ okPl d.p1) then 1 else if ofE room d.its ≠ 0 then ofE room d.its else if ofL d.its ≠ d.its then 15 else 0
theorem badPl_ok {h : PH} (q : Pl) {k : Value → PH → Prop} (hk : ∀ h', Ext h h' → k (.bool (!decide (okPl q))) h') : CallsH PG id_record_Check_1 #[.agg q.cells.toArray] h k := by
  apply record_Check_1.call
  unfold record_Check_1
  intro r hr
  try rw [bindH_eq]
  have u1 : Ext h (h.set r (.cells (Value.cells (.agg q.cells.toArray)) T_api_Place)) := Upd.new hr
  have B1 : Bx (h.set r (.cells (Value.cells (.agg q.cells.toArray)) T_api_Place)) r q.cells := Bx.new
  generalize h.set r (.cells (Value.cells (.agg q.cells.toArray)) T_api_Place) = h1 at *
  have hk := hk _ u1
  simp only [T_api_Place.f1, T_int.load, B1.cell, Pl.cells, popO_some, bindH_eq, condV_bool, condV_true, condV_false, yV_bool, gopV_tt, gopV_ff, gopV_tf, gopV_ft, pickV_t, pickV_f, pickV_bool, nilS_ptr, add_eq, sub_eq, mul_eq, lss_eq, leq_eq, gtr_eq, geq_eq, not_eq, minI_eq, maxI_eq, extract_0, extract_1, extract_2, eqlI, neqI, makeFunc_eq, decide_true, decide_false, if_true, if_false, Bool.false_eq_true, Bool.not_true, Bool.not_false, reduceIte, List.getElem?_toArray, List.getElem?_cons_zero, List.getElem?_cons_succ, Option.isSome_none, List.length_map, yV_undef, gopV_none, Nat.zero_add, Nat.reduceAdd, beq_self_eq_true, bne_self_eq_false, and_self, Bool.true_and, Bool.false_and, Bool.and_true, Bool.and_false, Bool.true_or, Bool.false_or, Bool.or_true, Bool.or_false]
  by_cases h1' : q.i < 0
  · have : ¬ okPl q := fun h => by have := h.1; omega
    simp only [this, decide_false, Bool.not_false] at hk
    simp only [h1', popO_some, bindH_eq, condV_bool, condV_true, condV_false, yV_bool, gopV_tt, gopV_ff, gopV_tf, gopV_ft, pickV_t, pickV_f, pickV_bool, nilS_ptr, add_eq, sub_eq, mul_eq, lss_eq, leq_eq, gtr_eq, geq_eq, not_eq, minI_eq, maxI_eq, extract_0, extract_1, extract_2, eqlI, neqI, makeFunc_eq, decide_true, decide_false, if_true, if_false, Bool.false_eq_true, Bool.not_true, Bool.not_false, reduceIte, List.getElem?_toArray, List.getElem?_cons_zero, List.getElem?_cons_succ, Option.isSome_none, List.length_map, yV_undef, gopV_none, Nat.zero_add, Nat.reduceAdd, beq_self_eq_true, bne_self_eq_false, and_self, Bool.true_and, Bool.false_and, Bool.and_true, Bool.and_false, Bool.true_or, Bool.false_or, Bool.or_true, Bool.or_false]
    exact hk
  · by_cases h2' : 65535 < q.i
    · have : ¬ okPl q := fun h => by have := h.2; omega
      simp only [this, decide_false, Bool.not_false] at hk
      simp only [h1', h2', T_int.load, B1.cell, Pl.cells, popO_some, bindH_eq, condV_bool, condV_true, condV_false, yV_bool, gopV_tt, gopV_ff, gopV_tf, gopV_ft, pickV_t, pickV_f, pickV_bool, nilS_ptr, add_eq, sub_eq, mul_eq, lss_eq, leq_eq, gtr_eq, geq_eq, not_eq, minI_eq, maxI_eq, extract_0, extract_1, extract_2, eqlI, neqI, makeFunc_eq, decide_true, decide_false, if_true, if_false, Bool.false_eq_true, Bool.not_true, Bool.not_false, reduceIte, List.getElem?_toArray, List.getElem?_cons_zero, List.getElem?_cons_succ, Option.isSome_none, List.length_map, yV_undef, gopV_none, Nat.zero_add, Nat.reduceAdd, beq_self_eq_true, bne_self_eq_false, and_self, Bool.true_and, Bool.false_and, Bool.and_true, Bool.and_false, Bool.true_or, Bool.false_or, Bool.or_true, Bool.or_false]
      exact hk
    · have : okPl q := ⟨by omega, by omega⟩
      simp only [this, decide_true, Bool.not_true] at hk
      simp only [h1', h2', T_int.load, B1.cell, Pl.cells, popO_some, bindH_eq, condV_bool, condV_true, condV_false, yV_bool, gopV_tt, gopV_ff, gopV_tf, gopV_ft, pickV_t, pickV_f, pickV_bool, nilS_ptr, add_eq, sub_eq, mul_eq, lss_eq, leq_eq, gtr_eq, geq_eq, not_eq, minI_eq, maxI_eq, extract_0, extract_1, extract_2, eqlI, neqI, makeFunc_eq, decide_true, decide_false, if_true, if_false, Bool.false_eq_true, Bool.not_true, Bool.not_false, reduceIte, List.getElem?_toArray, List.getElem?_cons_zero, List.getElem?_cons_succ, Option.isSome_none, List.length_map, yV_undef, gopV_none, Nat.zero_add, Nat.reduceAdd, beq_self_eq_true, bne_self_eq_false, and_self, Bool.true_and, Bool.false_and, Bool.and_true, Bool.and_false, Bool.true_or, Bool.false_or, Bool.or_true, Bool.or_false]
      exact hk
theorem slice2 {r o : Nat} : SemP PG (Instr.sliceAt T_2_api_Place (.pointer (some ⟨r, o, none⟩)) none none none) = some (.slice (some ⟨r, o, none⟩) 2 2) := by kernel_rfl
theorem Pl.rows (l : List Pl) : Rows 2 (l.map Pl.cells) := fun r hr => by obtain ⟨m, _, rfl⟩ := List.mem_map.1 hr; rfl
theorem Places_bad {h : PH} {v : Value} {l : List Pl} (S : SlR h 2 v (l.map Pl.cells)) (hl : l.length ≤ 100) {k : Value → PH → Prop} (hk : ∀ h', Ext h h' → k (.bool (l.any fun q => !decide (okPl q))) h') : CallsH PG id_slices_ContainsFunc_sl_api_Place_api_Place #[v, .func (.func id_record_Check_1) #[] #[]] h k := by
  apply slices_ContainsFunc_sl_api_Place_api_Place.call
  unfold slices_ContainsFunc_sl_api_Place_api_Place
  apply slices_IndexFunc_sl_api_Place_api_Place.call
  unfold slices_IndexFunc_sl_api_Place_api_Place
  have lv := S.len (t' := T_int) T_sl_api_Place.und
  rw [List.length_map] at lv
  simp only [lv, popO_some, bindH_eq, condV_bool, condV_true, condV_false, yV_bool, gopV_tt, gopV_ff, gopV_tf, gopV_ft, pickV_t, pickV_f, pickV_bool, nilS_ptr, add_eq, sub_eq, mul_eq, lss_eq, leq_eq, gtr_eq, geq_eq, not_eq, minI_eq, maxI_eq, extract_0, extract_1, extract_2, eqlI, neqI, makeFunc_eq, decide_true, decide_false, if_true, if_false, Bool.false_eq_true, Bool.not_true, Bool.not_false, reduceIte, List.getElem?_toArray, List.getElem?_cons_zero, List.getElem?_cons_succ, Option.isSome_none, List.length_map]
  refine ⟨fun vs h' => ∃ i : Nat, i ≤ l.length ∧ vs = [v, .func (.func id_record_Check_1) #[] #[], .int .i64 (l.length : Int), .int .i64 (i : Int)] ∧ Ext h h' ∧ ∀ q ∈ l.take i, okPl q, upTo l.length 3, ⟨0, by omega, rfl, Upd.refl, by simp⟩, ?_⟩
  rintro ρ h' ⟨i, hi, hvs, u, hq⟩
  simp only [List.map_cons, List.map_nil, List.cons.injEq, and_true] at hvs
  obtain ⟨v0, v1, v7, v8⟩ := hvs
  simp only [v0, v1, v7, v8, List.map_cons, List.map_nil]
  unfold slices_IndexFunc_sl_api_Place_api_Place_b3
  by_cases hlt : i < l.length
  · have g1 : ((i : Int) < (l.length : Int)) = True := eq_true (by omega)
    have gi : IntKind.i64.wrap ((i : Int) + 1) = ((i + 1 : Nat) : Int) := by rw [i64_wrap (by omega) (by omega)]; omega
    have g0 : ((0 : Int) ≤ (i : Int)) = True := eq_true (by omega)
    have e1 : l[i]? = some l[i] := List.getElem?_eq_getElem hlt
    have hmem : l[i] ∈ l := List.getElem_mem hlt
    have t1 : l.take (i + 1) = l.take i ++ [l[i]] := List.take_succ_eq_append_getElem hlt
    obtain ⟨a, p1, q1⟩ := (S.ext u).loadAgg (k := .i64) (j := (i : Int)) (r := (l[i]).cells) T_sl_api_Place.und T_api_Place.info T_api_Place.size T_api_Place.und rfl (by omega) (by rw [Int.toNat_natCast, List.getElem?_map, e1]; rfl)
    generalize l[i] = q at *
    simp only [g1, p1, q1, popO_some, bindH_eq, condV_bool, condV_true, condV_false, yV_bool, gopV_tt, gopV_ff, gopV_tf, gopV_ft, pickV_t, pickV_f, pickV_bool, nilS_ptr, add_eq, sub_eq, mul_eq, lss_eq, leq_eq, gtr_eq, geq_eq, not_eq, minI_eq, maxI_eq, extract_0, extract_1, extract_2, eqlI, neqI, makeFunc_eq, decide_true, decide_false, if_true, if_false, Bool.false_eq_true, Bool.not_true, Bool.not_false, reduceIte, List.getElem?_toArray, List.getElem?_cons_zero, List.getElem?_cons_succ, Option.isSome_none, List.length_map]
    show CallsH PG id_record_Check_1 #[.agg q.cells.toArray] h' _
    refine badPl_ok q fun h2 u2 => ?_
    by_cases hok : okPl q
    · simp only [hok, decide_true, gi, popO_some, bindH_eq, condV_bool, condV_true, condV_false, yV_bool, gopV_tt, gopV_ff, gopV_tf, gopV_ft, pickV_t, pickV_f, pickV_bool, nilS_ptr, add_eq, sub_eq, mul_eq, lss_eq, leq_eq, gtr_eq, geq_eq, not_eq, minI_eq, maxI_eq, extract_0, extract_1, extract_2, eqlI, neqI, makeFunc_eq, decide_true, decide_false, if_true, if_false, Bool.false_eq_true, Bool.not_true, Bool.not_false, reduceIte, List.getElem?_toArray, List.getElem?_cons_zero, List.getElem?_cons_succ, Option.isSome_none, List.length_map, yV_undef, gopV_none, Nat.zero_add, Nat.reduceAdd, beq_self_eq_true, bne_self_eq_false, and_self, Bool.true_and, Bool.false_and, Bool.and_true, Bool.and_false, Bool.true_or, Bool.false_or, Bool.or_true, Bool.or_false]
      refine ⟨⟨i + 1, by omega, rfl, u.trans u2, fun y hy => ?_⟩, ?_⟩
      · rw [t1, List.mem_append, List.mem_singleton] at hy
        rcases hy with hy | rfl
        · exact hq y hy
        · exact hok
      · simp only [upTo, List.getElem?_cons_succ, List.getElem?_cons_zero]
        omega
    · have : (l.any fun q => !decide (okPl q)) = true := List.any_eq_true.2 ⟨q, hmem, by simp [hok]⟩
      rw [this] at hk
      simp only [hok, decide_false, g0, popO_some, bindH_eq, condV_bool, condV_true, condV_false, yV_bool, gopV_tt, gopV_ff, gopV_tf, gopV_ft, pickV_t, pickV_f, pickV_bool, nilS_ptr, add_eq, sub_eq, mul_eq, lss_eq, leq_eq, gtr_eq, geq_eq, not_eq, minI_eq, maxI_eq, extract_0, extract_1, extract_2, eqlI, neqI, makeFunc_eq, decide_true, decide_false, if_true, if_false, Bool.false_eq_true, Bool.not_true, Bool.not_false, reduceIte, List.getElem?_toArray, List.getElem?_cons_zero, List.getElem?_cons_succ, Option.isSome_none, List.length_map, yV_undef, gopV_none, Nat.zero_add, Nat.reduceAdd, beq_self_eq_true, bne_self_eq_false, and_self, Bool.true_and, Bool.false_and, Bool.and_true, Bool.and_false, Bool.true_or, Bool.false_or, Bool.or_true, Bool.or_false]
      exact hk _ (u.trans u2)
  · have g1 : ((i : Int) < (l.length : Int)) = False := eq_false (by omega)
    rw [List.take_of_length_le (by omega)] at hq
    have : (l.any fun q => !decide (okPl q)) = false := by
      rw [List.any_eq_false]
      intro q hm
      simp [hq q hm]
    rw [this] at hk
    simp only [g1, show ((0 : Int) ≤ -1) = False from eq_false (by decide), popO_some, bindH_eq, condV_bool, condV_true, condV_false, yV_bool, gopV_tt, gopV_ff, gopV_tf, gopV_ft, pickV_t, pickV_f, pickV_bool, nilS_ptr, add_eq, sub_eq, mul_eq, lss_eq, leq_eq, gtr_eq, geq_eq, not_eq, minI_eq, maxI_eq, extract_0, extract_1, extract_2, eqlI, neqI, makeFunc_eq, decide_true, decide_false, if_true, if_false, Bool.false_eq_true, Bool.not_true, Bool.not_false, reduceIte, List.getElem?_toArray, List.getElem?_cons_zero, List.getElem?_cons_succ, Option.isSome_none, List.length_map]
    exact hk _ u
theorem check_ok {h : PH} {d : Dm} {v : Value} {room : Int} (V : ISl h v d.its) (hl : d.its.length ≤ 1000) {k : Value → PH → Prop} (hk : ∀ h', Ext h h' → k (.int .i64 (chk d room)) h') : CallsH PG id_record_Check #[d.v v, .int .i64 room] h k := by
  apply record_Check.call
  unfold record_Check
  intro r hr
  try rw [bindH_eq]
  have u1 : Ext h (h.set r (.cells (Value.cells (d.v v)) T_api_Daemon)) := Upd.new hr
  have B1 : Bx (h.set r (.cells (Value.cells (d.v v)) T_api_Daemon)) r (d.cells v) := Bx.new
  generalize h.set r (.cells (Value.cells (d.v v)) T_api_Daemon) = h1 at *
  simp only [T_api_Daemon.f1, T_api_Daemon.f0, T_sl_api_Item.load, B1.cell, Dm.cells, slice2, popO_some, bindH_eq, condV_bool, condV_true, condV_false, yV_bool, gopV_tt, gopV_ff, gopV_tf, gopV_ft, pickV_t, pickV_f, pickV_bool, nilS_ptr, add_eq, sub_eq, mul_eq, lss_eq, leq_eq, gtr_eq, geq_eq, not_eq, minI_eq, maxI_eq, extract_0, extract_1, extract_2, eqlI, neqI, makeFunc_eq, decide_true, decide_false, if_true, if_false, Bool.false_eq_true, Bool.not_true, Bool.not_false, reduceIte, List.getElem?_toArray, List.getElem?_cons_zero, List.getElem?_cons_succ, Option.isSome_none, List.length_map, yV_undef, gopV_none, Nat.zero_add, Nat.reduceAdd, beq_self_eq_true, bne_self_eq_false, and_self, Bool.true_and, Bool.false_and, Bool.and_true, Bool.and_false, Bool.true_or, Bool.false_or, Bool.or_true, Bool.or_false]
  have places : ∀ {h2 : PH}, Ext h1 h2 → SlR h2 2 (.slice (some ⟨r, 0, none⟩) 2 2) ([d.p0, d.p1].map Pl.cells) := by
    intro h2 u2
    obtain ⟨e, hb⟩ := B1.ext u2
    exact ⟨Pl.rows _, _, 2, rfl, by simp, by decide, fun _ => ⟨r, 0, _, e, (0, 0), rfl, hb, by simp [Dm.cells], by simp [Dm.cells, Pl.cells]⟩, trivial⟩
  have hany : ([d.p0, d.p1].any fun q => !decide (okPl q)) = !decide (okPl d.p0 ∧ okPl d.p1) := by
    by_cases a : okPl d.p0 <;> by_cases b : okPl d.p1 <;> simp [a, b]
  refine Of_ok (V.ext u1) hl (fun h2 u2 hne => ?_) (fun a h2 F h0 H2 f2 u2 => ?_)
  · simp only [popO_some, bindH_eq, condV_bool, condV_true, condV_false, yV_bool, gopV_tt, gopV_ff, gopV_tf, gopV_ft, pickV_t, pickV_f, pickV_bool, nilS_ptr, add_eq, sub_eq, mul_eq, lss_eq, leq_eq, gtr_eq, geq_eq, not_eq, minI_eq, maxI_eq, extract_0, extract_1, extract_2, eqlI, neqI, makeFunc_eq, decide_true, decide_false, if_true, if_false, Bool.false_eq_true, Bool.not_true, Bool.not_false, reduceIte, List.getElem?_toArray, List.getElem?_cons_zero, List.getElem?_cons_succ, Option.isSome_none, List.length_map]
    refine Places_bad (places u2) (by simp) fun h3 u3 => ?_
    rw [hany]
    have u := (u1.trans u2).trans u3
    have hk := hk _ u
    unfold chk at hk
    by_cases e1 : ofE room d.its = 1
    · rw [if_pos (.inl e1)] at hk
      simp only [e1, eqlI, popO_some, bindH_eq, condV_bool, condV_true, condV_false, yV_bool, gopV_tt, gopV_ff, gopV_tf, gopV_ft, pickV_t, pickV_f, pickV_bool, nilS_ptr, add_eq, sub_eq, mul_eq, lss_eq, leq_eq, gtr_eq, geq_eq, not_eq, minI_eq, maxI_eq, extract_0, extract_1, extract_2, eqlI, neqI, makeFunc_eq, decide_true, decide_false, if_true, if_false, Bool.false_eq_true, Bool.not_true, Bool.not_false, reduceIte, List.getElem?_toArray, List.getElem?_cons_zero, List.getElem?_cons_succ, Option.isSome_none, List.length_map, yV_undef, gopV_none, Nat.zero_add, Nat.reduceAdd, beq_self_eq_true, bne_self_eq_false, and_self, Bool.true_and, Bool.false_and, Bool.and_true, Bool.and_false, Bool.true_or, Bool.false_or, Bool.or_true, Bool.or_false]
      exact hk
    · have q : (ofE room d.its == 1) = false := by simp [e1]
      by_cases hp : okPl d.p0 ∧ okPl d.p1
      · rw [if_neg (by simp [e1, hp]), if_pos hne] at hk
        have q0 : (ofE room d.its != 0) = true := by simp [hne]
        simp only [q, q0, hp, eqlI, neqI, decide_true, popO_some, bindH_eq, condV_bool, condV_true, condV_false, yV_bool, gopV_tt, gopV_ff, gopV_tf, gopV_ft, pickV_t, pickV_f, pickV_bool, nilS_ptr, add_eq, sub_eq, mul_eq, lss_eq, leq_eq, gtr_eq, geq_eq, not_eq, minI_eq, maxI_eq, extract_0, extract_1, extract_2, eqlI, neqI, makeFunc_eq, decide_true, decide_false, if_true, if_false, Bool.false_eq_true, Bool.not_true, Bool.not_false, reduceIte, List.getElem?_toArray, List.getElem?_cons_zero, List.getElem?_cons_succ, Option.isSome_none, List.length_map, yV_undef, gopV_none, Nat.zero_add, Nat.reduceAdd, beq_self_eq_true, bne_self_eq_false, and_self, Bool.true_and, Bool.false_and, Bool.and_true, Bool.and_false, Bool.true_or, Bool.false_or, Bool.or_true, Bool.or_false]
        exact hk
      · rw [if_pos (.inr hp)] at hk
        simp only [q, hp, eqlI, decide_false, popO_some, bindH_eq, condV_bool, condV_true, condV_false, yV_bool, gopV_tt, gopV_ff, gopV_tf, gopV_ft, pickV_t, pickV_f, pickV_bool, nilS_ptr, add_eq, sub_eq, mul_eq, lss_eq, leq_eq, gtr_eq, geq_eq, not_eq, minI_eq, maxI_eq, extract_0, extract_1, extract_2, eqlI, neqI, makeFunc_eq, decide_true, decide_false, if_true, if_false, Bool.false_eq_true, Bool.not_true, Bool.not_false, reduceIte, List.getElem?_toArray, List.getElem?_cons_zero, List.getElem?_cons_succ, Option.isSome_none, List.length_map, yV_undef, gopV_none, Nat.zero_add, Nat.reduceAdd, beq_self_eq_true, bne_self_eq_false, and_self, Bool.true_and, Bool.false_and, Bool.and_true, Bool.and_false, Bool.true_or, Bool.false_or, Bool.or_true, Bool.or_false]
        exact hk
  · simp only [popO_some, bindH_eq, condV_bool, condV_true, condV_false, yV_bool, gopV_tt, gopV_ff, gopV_tf, gopV_ft, pickV_t, pickV_f, pickV_bool, nilS_ptr, add_eq, sub_eq, mul_eq, lss_eq, leq_eq, gtr_eq, geq_eq, not_eq, minI_eq, maxI_eq, extract_0, extract_1, extract_2, eqlI, neqI, makeFunc_eq, decide_true, decide_false, if_true, if_false, Bool.false_eq_true, Bool.not_true, Bool.not_false, reduceIte, List.getElem?_toArray, List.getElem?_cons_zero, List.getElem?_cons_succ, Option.isSome_none, List.length_map]
    refine Places_bad (places u2) (by simp) fun h3 u3 => ?_
    rw [hany]
    have u := (u1.trans u2).trans u3
    have B3 := (B1.ext u2).ext u3
    by_cases hp : okPl d.p0 ∧ okPl d.p1
    · simp only [hp, eqlI, neqI, decide_true, show ((0 : Int) == 1) = false from rfl, T_api_Daemon.f1, T_sl_api_Item.load, B3.cell, Dm.cells, popO_some, bindH_eq, condV_bool, condV_true, condV_false, yV_bool, gopV_tt, gopV_ff, gopV_tf, gopV_ft, pickV_t, pickV_f, pickV_bool, nilS_ptr, add_eq, sub_eq, mul_eq, lss_eq, leq_eq, gtr_eq, geq_eq, not_eq, minI_eq, maxI_eq, extract_0, extract_1, extract_2, eqlI, neqI, makeFunc_eq, decide_true, decide_false, if_true, if_false, Bool.false_eq_true, Bool.not_true, Bool.not_false, reduceIte, List.getElem?_toArray, List.getElem?_cons_zero, List.getElem?_cons_succ, Option.isSome_none, List.length_map, yV_undef, gopV_none, Nat.zero_add, Nat.reduceAdd, beq_self_eq_true, bne_self_eq_false, and_self, Bool.true_and, Bool.false_and, Bool.and_true, Bool.and_false, Bool.true_or, Bool.false_or, Bool.or_true, Bool.or_false]
      refine Items_ok (H2.ext u3) (by have := ofL_len d.its; omega) fun v2 h4 G O4 f4 u4 => ?_
      have B4 := B3.ext u4
      refine ⟨by simp only [T_sl_api_Item.load, B4.cell, Dm.cells, popO_some, bindH_eq, condV_bool, condV_true, condV_false, yV_bool, gopV_tt, gopV_ff, gopV_tf, gopV_ft, pickV_t, pickV_f, pickV_bool, nilS_ptr, add_eq, sub_eq, mul_eq, lss_eq, leq_eq, gtr_eq, geq_eq, not_eq, minI_eq, maxI_eq, extract_0, extract_1, extract_2, eqlI, neqI, makeFunc_eq, decide_true, decide_false, if_true, if_false, Bool.false_eq_true, Bool.not_true, Bool.not_false, reduceIte, List.getElem?_toArray, List.getElem?_cons_zero, List.getElem?_cons_succ, Option.isSome_none, List.length_map, yV_undef, gopV_none, Nat.zero_add, Nat.reduceAdd, beq_self_eq_true, bne_self_eq_false, and_self, Bool.true_and, Bool.false_and, Bool.and_true, Bool.and_false, Bool.true_or, Bool.false_or, Bool.or_true, Bool.or_false], ?_⟩
      refine Equal_ok O4.slR (V.ext (u.trans u4)) (by have := ofL_len d.its; omega) ?_
      have hk := hk _ (u.trans u4)
      unfold chk at hk
      rw [if_neg (by simp [h0, hp]), if_neg (by simp [h0])] at hk
      by_cases he : ofL d.its = d.its
      · rw [if_neg (by simp [he])] at hk
        simp only [he, decide_true, popO_some, bindH_eq, condV_bool, condV_true, condV_false, yV_bool, gopV_tt, gopV_ff, gopV_tf, gopV_ft, pickV_t, pickV_f, pickV_bool, nilS_ptr, add_eq, sub_eq, mul_eq, lss_eq, leq_eq, gtr_eq, geq_eq, not_eq, minI_eq, maxI_eq, extract_0, extract_1, extract_2, eqlI, neqI, makeFunc_eq, decide_true, decide_false, if_true, if_false, Bool.false_eq_true, Bool.not_true, Bool.not_false, reduceIte, List.getElem?_toArray, List.getElem?_cons_zero, List.getElem?_cons_succ, Option.isSome_none, List.length_map, yV_undef, gopV_none, Nat.zero_add, Nat.reduceAdd, beq_self_eq_true, bne_self_eq_false, and_self, Bool.true_and, Bool.false_and, Bool.and_true, Bool.and_false, Bool.true_or, Bool.false_or, Bool.or_true, Bool.or_false]
        exact hk
      · rw [if_pos he] at hk
        simp only [he, decide_false, popO_some, bindH_eq, condV_bool, condV_true, condV_false, yV_bool, gopV_tt, gopV_ff, gopV_tf, gopV_ft, pickV_t, pickV_f, pickV_bool, nilS_ptr, add_eq, sub_eq, mul_eq, lss_eq, leq_eq, gtr_eq, geq_eq, not_eq, minI_eq, maxI_eq, extract_0, extract_1, extract_2, eqlI, neqI, makeFunc_eq, decide_true, decide_false, if_true, if_false, Bool.false_eq_true, Bool.not_true, Bool.not_false, reduceIte, List.getElem?_toArray, List.getElem?_cons_zero, List.getElem?_cons_succ, Option.isSome_none, List.length_map, yV_undef, gopV_none, Nat.zero_add, Nat.reduceAdd, beq_self_eq_true, bne_self_eq_false, and_self, Bool.true_and, Bool.false_and, Bool.and_true, Bool.and_false, Bool.true_or, Bool.false_or, Bool.or_true, Bool.or_false]
        exact hk
    · have hk := hk _ u
      unfold chk at hk
      rw [if_pos (.inr hp)] at hk
      simp only [hp, eqlI, decide_false, show ((0 : Int) == 1) = false from rfl, popO_some, bindH_eq, condV_bool, condV_true, condV_false, yV_bool, gopV_tt, gopV_ff, gopV_tf, gopV_ft, pickV_t, pickV_f, pickV_bool, nilS_ptr, add_eq, sub_eq, mul_eq, lss_eq, leq_eq, gtr_eq, geq_eq, not_eq, minI_eq, maxI_eq, extract_0, extract_1, extract_2, eqlI, neqI, makeFunc_eq, decide_true, decide_false, if_true, if_false, Bool.false_eq_true, Bool.not_true, Bool.not_false, reduceIte, List.getElem?_toArray, List.getElem?_cons_zero, List.getElem?_cons_succ, Option.isSome_none, List.length_map, yV_undef, gopV_none, Nat.zero_add, Nat.reduceAdd, beq_self_eq_true, bne_self_eq_false, and_self, Bool.true_and, Bool.false_and, Bool.and_true, Bool.and_false, Bool.true_or, Bool.false_or, Bool.or_true, Bool.or_false]
      exact hk
end Go.Proofs.YtlkjippiaghbmaaGreat
/- record: a step, records replayed. -/
set_option linter.unusedSimpArgs false
set_option linter.unusedVariables false
namespace Go.Proofs.YtlkjippiaghbmaaGreat
open Go
set_option maxRecDepth 20000
/-- Notes applied to a table: what it holds, the first error. -/
def aply (room : Int) : List It → List Nt → List It × Int
  | L, [] => (L, 0)
  | L, n :: ns => if appE L room n ≠ 0 then (appL L room n, appE L room n) else aply room (appL L room n) ns
theorem appL_len {L : List It} (hs : Srt L) (room : Int) (n : Nt) : (appL L room n).length ≤ L.length + 1 := by
  have hp : ∀ i : It, (putL L room i).length ≤ L.length + 1 := fun i => by
    unfold putL
    split
    · omega
    · exact ins_le hs i
  unfold appL
  split
  · omega
  · split
    · split
      · omega
      · exact hp _
    · split
      · split
        · exact ins_le hs _
        · exact hp _
      · have := del_len L n.p.key; omega
theorem aply_len (room : Int) : ∀ {L : List It}, Srt L → ∀ l : List Nt, (aply room L l).1.length ≤ L.length + l.length
  | L, hs, [] => by simp [aply]
  | L, hs, n :: ns => by
    have h1 := appL_len hs room n
    unfold aply
    split
    · simp only [List.length_cons]; omega
    · have h2 := aply_len room (hs.app room n) ns
      simp only [List.length_cons]; omega
theorem SlR.ntb {h : PH} {v : Value} {l : List Nt} (S : NSl h v l) {j : Nat} {x : Nt} (hx : l[j]? = some x) :
    ∃ a, SemP PG (Instr.indexAt T_sl_api_Note v (.int .i64 (j : Int))) = some (.pointer (some a)) ∧ SemE PG h (Instr.loadAt T_api_Note (.pointer (some a))) = some (.agg x.cells.toArray) := S.wNote hx
theorem sApply_ok {h : PH} {a : Nat} {L : List It} {room : Int} {F : List Nat} (H : TAt h a L room F) {v : Value} {l : List Nt} (S : NSl h v l) (hv : l ≠ [] → ∀ x n c, v = .slice (some x) n c → x.block ∉ F) (hl : l.length ≤ 1000000) {k : Value → PH → Prop}
    (hk : ∀ h' (n : Int), TAt h' a (aply room L l).1 room F → Upd F h h' → k (.tuple #[.int .i64 n, .int .i64 (aply room L l).2]) h') : CallsH PG id_scan_Apply #[.pointer (some ⟨a, 0, none⟩), v] h k := by
  apply scan_Apply.call
  unfold scan_Apply
  have lv := Nt.len S
  simp only [lv, popO_some, bindH_eq, condV_bool, condV_true, condV_false, yV_bool, gopV_tt, gopV_ff, gopV_tf, gopV_ft, pickV_t, pickV_f, pickV_bool, nilS_ptr, add_eq, sub_eq, mul_eq, lss_eq, leq_eq, gtr_eq, geq_eq, not_eq, minI_eq, maxI_eq, extract_0, extract_1, extract_2, eqlI, neqI, makeFunc_eq, decide_true, decide_false, if_true, if_false, Bool.false_eq_true, Bool.not_true, Bool.not_false, reduceIte, List.getElem?_toArray, List.getElem?_cons_zero, List.getElem?_cons_succ, Option.isSome_none, List.length_map]
  refine ⟨fun vs h' => ∃ (i : Nat) (L' : List It), i ≤ l.length ∧ vs = [.pointer (some ⟨a, 0, none⟩), v, v, .int .i64 (l.length : Int), .int .i64 (i : Int)] ∧ TAt h' a L' room F ∧ Upd F h h' ∧ aply room L l = aply room L' (l.drop i), upTo l.length 4, ⟨0, L, by omega, rfl, H, Upd.refl, by simp⟩, ?_⟩
  rintro ρ h' ⟨i, L', hi, hvs, H', u, hap⟩
  simp only [List.map_cons, List.map_nil, List.cons.injEq, and_true] at hvs
  obtain ⟨v0, v1, v9, v10, v11⟩ := hvs
  simp only [v0, v1, v9, v10, v11, List.map_cons, List.map_nil]
  unfold scan_Apply_b3
  by_cases hlt : i < l.length
  · have g1 : ((i : Int) < (l.length : Int)) = True := eq_true (by omega)
    have gi : IntKind.i64.wrap ((i : Int) + 1) = ((i + 1 : Nat) : Int) := by rw [i64_wrap (by omega) (by omega)]; omega
    have e1 : l[i]? = some l[i] := List.getElem?_eq_getElem hlt
    obtain ⟨pa, p1, q1⟩ := SlR.ntb (SlR.upd0 S u fun hne => hv (by simpa using hne)) e1
    have hdrop : l.drop i = l[i] :: l.drop (i + 1) := List.drop_eq_getElem_cons hlt
    generalize l[i] = n at *
    rw [hdrop] at hap
    simp only [g1, p1, q1, popO_some, bindH_eq, condV_bool, condV_true, condV_false, yV_bool, gopV_tt, gopV_ff, gopV_tf, gopV_ft, pickV_t, pickV_f, pickV_bool, nilS_ptr, add_eq, sub_eq, mul_eq, lss_eq, leq_eq, gtr_eq, geq_eq, not_eq, minI_eq, maxI_eq, extract_0, extract_1, extract_2, eqlI, neqI, makeFunc_eq, decide_true, decide_false, if_true, if_false, Bool.false_eq_true, Bool.not_true, Bool.not_false, reduceIte, List.getElem?_toArray, List.getElem?_cons_zero, List.getElem?_cons_succ, Option.isSome_none, List.length_map]
    intro r hr
    try rw [bindH_eq]
    refine T_api_Note.fill hr rfl (by simp [Nt.cells, isCell]) fun h2 B2 u2 => ?_
    have l2 : SemE PG h2 (Instr.loadAt T_api_Note (.pointer (some ⟨r, 0, none⟩))) = some (.agg n.cells.toArray) := T_api_Note.agg B2 (by show 0 + 5 ≤ 5; decide)
    simp only [l2, popO_some, bindH_eq, condV_bool, condV_true, condV_false, yV_bool, gopV_tt, gopV_ff, gopV_tf, gopV_ft, pickV_t, pickV_f, pickV_bool, nilS_ptr, add_eq, sub_eq, mul_eq, lss_eq, leq_eq, gtr_eq, geq_eq, not_eq, minI_eq, maxI_eq, extract_0, extract_1, extract_2, eqlI, neqI, makeFunc_eq, decide_true, decide_false, if_true, if_false, Bool.false_eq_true, Bool.not_true, Bool.not_false, reduceIte, List.getElem?_toArray, List.getElem?_cons_zero, List.getElem?_cons_succ, Option.isSome_none, List.length_map]
    refine Apply_ok (H'.ext u2) n fun h3 H3 u3 => ?_
    have u' : Upd F h h3 := (u.trans u2.upd).trans u3
    by_cases h0 : appE L' room n = 0
    · have q : (appE L' room n != 0) = false := by simp [h0]
      simp only [aply, h0, ne_eq, not_true_eq_false, if_false] at hap
      simp only [neqI, h0, gi, popO_some, bindH_eq, condV_bool, condV_true, condV_false, yV_bool, gopV_tt, gopV_ff, gopV_tf, gopV_ft, pickV_t, pickV_f, pickV_bool, nilS_ptr, add_eq, sub_eq, mul_eq, lss_eq, leq_eq, gtr_eq, geq_eq, not_eq, minI_eq, maxI_eq, extract_0, extract_1, extract_2, eqlI, neqI, makeFunc_eq, decide_true, decide_false, if_true, if_false, Bool.false_eq_true, Bool.not_true, Bool.not_false, reduceIte, List.getElem?_toArray, List.getElem?_cons_zero, List.getElem?_cons_succ, Option.isSome_none, List.length_map, yV_undef, gopV_none, Nat.zero_add, Nat.reduceAdd, beq_self_eq_true, bne_self_eq_false, and_self, Bool.true_and, Bool.false_and, Bool.and_true, Bool.and_false, Bool.true_or, Bool.false_or, Bool.or_true, Bool.or_false]
      refine ⟨⟨i + 1, _, by omega, rfl, H3, u', hap⟩, ?_⟩
      simp only [upTo, List.getElem?_cons_succ, List.getElem?_cons_zero]
      omega
    · have q : (appE L' room n != 0) = true := by simp [h0]
      simp only [aply, ne_eq, h0, not_false_eq_true, if_true] at hap
      simp only [neqI, q, popO_some, bindH_eq, condV_bool, condV_true, condV_false, yV_bool, gopV_tt, gopV_ff, gopV_tf, gopV_ft, pickV_t, pickV_f, pickV_bool, nilS_ptr, add_eq, sub_eq, mul_eq, lss_eq, leq_eq, gtr_eq, geq_eq, not_eq, minI_eq, maxI_eq, extract_0, extract_1, extract_2, eqlI, neqI, makeFunc_eq, decide_true, decide_false, if_true, if_false, Bool.false_eq_true, Bool.not_true, Bool.not_false, reduceIte, List.getElem?_toArray, List.getElem?_cons_zero, List.getElem?_cons_succ, Option.isSome_none, List.length_map, yV_undef, gopV_none, Nat.zero_add, Nat.reduceAdd, beq_self_eq_true, bne_self_eq_false, and_self, Bool.true_and, Bool.false_and, Bool.and_true, Bool.and_false, Bool.true_or, Bool.false_or, Bool.or_true, Bool.or_false]
      have := hk h3 (i : Int) (by rw [hap]; exact H3) u'
      rw [hap] at this
      exact this
  · have g1 : ((i : Int) < (l.length : Int)) = False := eq_false (by omega)
    rw [List.drop_of_length_le (by omega)] at hap
    simp only [g1, lv, popO_some, bindH_eq, condV_bool, condV_true, condV_false, yV_bool, gopV_tt, gopV_ff, gopV_tf, gopV_ft, pickV_t, pickV_f, pickV_bool, nilS_ptr, add_eq, sub_eq, mul_eq, lss_eq, leq_eq, gtr_eq, geq_eq, not_eq, minI_eq, maxI_eq, extract_0, extract_1, extract_2, eqlI, neqI, makeFunc_eq, decide_true, decide_false, if_true, if_false, Bool.false_eq_true, Bool.not_true, Bool.not_false, reduceIte, List.getElem?_toArray, List.getElem?_cons_zero, List.getElem?_cons_succ, Option.isSome_none, List.length_map]
    have := hk h' (l.length : Int) (by rw [hap]; exact H') u
    rw [hap] at this
    exact this
def stp (d : Dm) (room : Int) (r : Rc) : Dm × Int :=
  if chk d room ≠ 0 then (Dm.zero, chk d room)
  else if r.bytes.2 ≠ 0 then (Dm.zero, r.bytes.2)
  else if r.k = 1 then (if chk r.s room ≠ 0 then (Dm.zero, chk r.s room) else (r.s, 0))
  else if (aply room (ofL d.its) r.ns).2 ≠ 0 then (Dm.zero, (aply room (ofL d.its) r.ns).2)
  else (⟨if r.ch = 0 then r.pl else d.p0, if r.ch = 0 then d.p1 else r.pl, (aply room (ofL d.its) r.ns).1⟩, 0)
theorem bytes_plain {r : Rc} (h : r.bytes.2 = 0) : r.plain = true := by
  unfold Rc.bytes at h
  cases e : r.plain with
  | true => rfl
  | false => rw [e] at h; cases h
theorem plain2 {r : Rc} (h : r.plain = true) (h1 : ¬ r.k = 1) : r.k = 2 ∧ r.s = Dm.zero ∧ (r.ch = 0 ∨ r.ch = 1) ∧ r.ns.length ≤ 16 := by
  unfold Rc.plain at h
  rw [if_neg h1] at h
  split at h
  · rename_i h2
    simp only [Bool.and_eq_true, decide_eq_true_eq, Bool.or_eq_true] at h
    obtain ⟨⟨⟨⟨a, b⟩, c⟩, d⟩, e⟩ := h
    refine ⟨h2, ?_, d, e⟩
    obtain ⟨k, ⟨p0, p1, its⟩, ch, pl, ns⟩ := r
    simp only at a b c
    subst a b
    rw [List.length_eq_zero_iff] at c
    subst c
    rfl
  · cases h
theorem plain1 {r : Rc} (h : r.plain = true) (h1 : r.k = 1) : r.ch = 0 ∧ r.pl = Pl.zero ∧ r.ns = [] ∧ r.s.its.length ≤ 40 := by
  unfold Rc.plain at h
  rw [if_pos h1] at h
  simp only [Bool.and_eq_true, decide_eq_true_eq] at h
  exact ⟨h.1.1.1, h.1.1.2, List.length_eq_zero_iff.1 h.1.2, h.2⟩
theorem Dm.load {h : PH} {r : Nat} {cs : List Value} (B : Bx h r cs) {o : Nat} {d : Dm} {v : Value} (ho : (cs.drop o).take 5 = d.cells v) : SemE PG h (Instr.loadAt T_api_Daemon (.pointer (some ⟨r, o, none⟩))) = some (d.v v) := by
  have hl : o + 5 ≤ cs.length := by
    have : ((cs.drop o).take 5).length = 5 := by rw [ho]; rfl
    rw [List.length_take, List.length_drop] at this; omega
  rw [T_api_Daemon.agg B hl, ho]; rfl
theorem step_ok {h : PH} {d : Dm} {v : Value} {room : Int} {r : Rc} {vi vn : Value} (V : ISl h v d.its) (VI : ISl h vi r.s.its) (VN : NSl h vn r.ns) (wf : r.wf) (hl : d.its.length ≤ 1000) {k : Value → PH → Prop}
    (hk : ∀ h' v', ISl h' v' (stp d room r).1.its → NewV h v' → Ext h h' → k (.tuple #[(stp d room r).1.v v', .int .i64 (stp d room r).2]) h') : CallsH PG id_record_Step #[d.v v, .int .i64 room, r.v vi vn] h k := by
  apply record_Step.call
  unfold record_Step
  intro r1 hr1
  try rw [bindH_eq]
  have u1 : Ext h (h.set r1 (.cells (Value.cells (d.v v)) T_api_Daemon)) := Upd.new hr1
  have B1 : Bx (h.set r1 (.cells (Value.cells (d.v v)) T_api_Daemon)) r1 (d.cells v) := Bx.new
  generalize h.set r1 (.cells (Value.cells (d.v v)) T_api_Daemon) = h1 at *
  intro r3 hr3
  try rw [bindH_eq]
  have u3 : Ext h1 (h1.set r3 (.cells (Value.cells (r.v vi vn)) T_api_Record)) := Upd.new hr3
  have B3 : Bx (h1.set r3 (.cells (Value.cells (r.v vi vn)) T_api_Record)) r3 (r.cells vi vn) := Bx.new
  have B13 := B1.ext u3
  have n13 : r1 ≠ r3 := B1.apart hr3
  generalize h1.set r3 (.cells (Value.cells (r.v vi vn)) T_api_Record) = h3 at *
  intro r5 hr5
  try rw [bindH_eq]
  have u5 : Ext h3 (h3.set r5 (.cells (zcells PG T_api_Daemon) T_api_Daemon)) := Upd.new hr5
  have Z := T_api_Daemon.zbox (h := h3) (r := r5)
  have B15 := B13.ext u5
  have B35 := B3.ext u5
  have n15 : r1 ≠ r5 := B13.apart hr5
  have n35 : r3 ≠ r5 := B3.apart hr5
  generalize h3.set r5 (.cells (zcells PG T_api_Daemon) T_api_Daemon) = h5 at *
  have e5 := (u1.trans u3).trans u5
  have f1 : Fresh h [r1] := Fresh.one hr1
  have f3 : Fresh h [r3] := Fresh.one (u1.none hr3)
  have f5 : Fresh h [r5] := Fresh.one ((u1.trans u3).none hr5)
  have K1 : h5 r1 ≠ none := B15.known
  have K3 : h5 r3 ≠ none := B35.known
  have K5 : h5 r5 ≠ none := Z.known
  -- an error's answer
  have bad : ∀ {h' : PH} {e : Int}, Ext h5 h' → stp d room r = (Dm.zero, e) → SemH PG (storeS T_api_Daemon (.pointer (some ⟨r5, 0, none⟩)) (Dm.v Dm.zero (.slice none 0 0))) h' fun v12 h13 => popO (SemE PG h13 (Instr.loadAt T_api_Daemon (.pointer (some ⟨r5, 0, none⟩)))) fun v14 => k (.tuple #[v14, .int .i64 e]) h13 := by
    intro h' e u hs
    refine T_api_Daemon.put (Z.ext u) rfl (by show 0 + 5 ≤ 5; decide) (Dm.isC _ rfl) fun h2 B2 u2 => ?_
    simp only [Dm.load (o := 0) (d := Dm.zero) (v := .slice none 0 0) B2 rfl, popO_some, bindH_eq, condV_bool, condV_true, condV_false, yV_bool, gopV_tt, gopV_ff, gopV_tf, gopV_ft, pickV_t, pickV_f, pickV_bool, nilS_ptr, add_eq, sub_eq, mul_eq, lss_eq, leq_eq, gtr_eq, geq_eq, not_eq, minI_eq, maxI_eq, extract_0, extract_1, extract_2, eqlI, neqI, makeFunc_eq, decide_true, decide_false, if_true, if_false, Bool.false_eq_true, Bool.not_true, Bool.not_false, reduceIte, List.getElem?_toArray, List.getElem?_cons_zero, List.getElem?_cons_succ, Option.isSome_none, List.length_map]
    rw [hs] at hk
    exact hk h2 _ nilI NewV.nil ((e5.trans u).fresh u2 f5)
  have hdef : stp d room r = if chk d room ≠ 0 then (Dm.zero, chk d room) else if r.bytes.2 ≠ 0 then (Dm.zero, r.bytes.2) else if r.k = 1 then (if chk r.s room ≠ 0 then (Dm.zero, chk r.s room) else (r.s, 0)) else if (aply room (ofL d.its) r.ns).2 ≠ 0 then (Dm.zero, (aply room (ofL d.its) r.ns).2) else (⟨if r.ch = 0 then r.pl else d.p0, if r.ch = 0 then d.p1 else r.pl, (aply room (ofL d.its) r.ns).1⟩, 0) := rfl
  simp only [Dm.load (o := 0) (d := d) (v := v) B15 rfl, popO_some, bindH_eq, condV_bool, condV_true, condV_false, yV_bool, gopV_tt, gopV_ff, gopV_tf, gopV_ft, pickV_t, pickV_f, pickV_bool, nilS_ptr, add_eq, sub_eq, mul_eq, lss_eq, leq_eq, gtr_eq, geq_eq, not_eq, minI_eq, maxI_eq, extract_0, extract_1, extract_2, eqlI, neqI, makeFunc_eq, decide_true, decide_false, if_true, if_false, Bool.false_eq_true, Bool.not_true, Bool.not_false, reduceIte, List.getElem?_toArray, List.getElem?_cons_zero, List.getElem?_cons_succ, Option.isSome_none, List.length_map]
  refine check_ok (V.ext e5) hl fun h6 u6 => ?_
  by_cases c0 : chk d room = 0
  · rw [if_neg (by simp [c0])] at hdef
    have lr : SemE PG h6 (Instr.loadAt T_api_Record (.pointer (some ⟨r3, 0, none⟩))) = some (r.v vi vn) := T_api_Record.agg (B35.ext u6) (by show 0 + 10 ≤ 10; decide)
    simp only [c0, neqI, lr, popO_some, bindH_eq, condV_bool, condV_true, condV_false, yV_bool, gopV_tt, gopV_ff, gopV_tf, gopV_ft, pickV_t, pickV_f, pickV_bool, nilS_ptr, add_eq, sub_eq, mul_eq, lss_eq, leq_eq, gtr_eq, geq_eq, not_eq, minI_eq, maxI_eq, extract_0, extract_1, extract_2, eqlI, neqI, makeFunc_eq, decide_true, decide_false, if_true, if_false, Bool.false_eq_true, Bool.not_true, Bool.not_false, reduceIte, List.getElem?_toArray, List.getElem?_cons_zero, List.getElem?_cons_succ, Option.isSome_none, List.length_map, yV_undef, gopV_none, Nat.zero_add, Nat.reduceAdd, beq_self_eq_true, bne_self_eq_false, and_self, Bool.true_and, Bool.false_and, Bool.and_true, Bool.and_false, Bool.true_or, Bool.false_or, Bool.or_true, Bool.or_false]
    refine bytes_ok (VI.ext (e5.trans u6)) (VN.ext (e5.trans u6)) wf fun h7 u7 => ?_
    have e57 := u6.trans u7
    by_cases c1 : r.bytes.2 = 0
    · rw [if_neg (by simp [c1])] at hdef
      have hp := bytes_plain c1
      simp only [c1, neqI, T_api_Record.f0, T_int.load, (B35.ext e57).cell, Rc.cells, eqlI, popO_some, bindH_eq, condV_bool, condV_true, condV_false, yV_bool, gopV_tt, gopV_ff, gopV_tf, gopV_ft, pickV_t, pickV_f, pickV_bool, nilS_ptr, add_eq, sub_eq, mul_eq, lss_eq, leq_eq, gtr_eq, geq_eq, not_eq, minI_eq, maxI_eq, extract_0, extract_1, extract_2, eqlI, neqI, makeFunc_eq, decide_true, decide_false, if_true, if_false, Bool.false_eq_true, Bool.not_true, Bool.not_false, reduceIte, List.getElem?_toArray, List.getElem?_cons_zero, List.getElem?_cons_succ, Option.isSome_none, List.length_map, yV_undef, gopV_none, Nat.zero_add, Nat.reduceAdd, beq_self_eq_true, bne_self_eq_false, and_self, Bool.true_and, Bool.false_and, Bool.and_true, Bool.and_false, Bool.true_or, Bool.false_or, Bool.or_true, Bool.or_false]
      by_cases k1 : r.k = 1
      · rw [if_pos k1] at hdef
        obtain ⟨q0, q1, q2, q40⟩ := plain1 hp k1
        have q : (r.k == 1) = true := by simp [k1]
        simp only [q, T_api_Record.f1, Dm.load (o := 1) (d := r.s) (v := vi) (B35.ext e57) rfl, popO_some, bindH_eq, condV_bool, condV_true, condV_false, yV_bool, gopV_tt, gopV_ff, gopV_tf, gopV_ft, pickV_t, pickV_f, pickV_bool, nilS_ptr, add_eq, sub_eq, mul_eq, lss_eq, leq_eq, gtr_eq, geq_eq, not_eq, minI_eq, maxI_eq, extract_0, extract_1, extract_2, eqlI, neqI, makeFunc_eq, decide_true, decide_false, if_true, if_false, Bool.false_eq_true, Bool.not_true, Bool.not_false, reduceIte, List.getElem?_toArray, List.getElem?_cons_zero, List.getElem?_cons_succ, Option.isSome_none, List.length_map, yV_undef, gopV_none, Nat.zero_add, Nat.reduceAdd, beq_self_eq_true, bne_self_eq_false, and_self, Bool.true_and, Bool.false_and, Bool.and_true, Bool.and_false, Bool.true_or, Bool.false_or, Bool.or_true, Bool.or_false]
        refine check_ok (VI.ext (e5.trans e57)) (by omega) fun h8 u8 => ?_
        have e58 := e57.trans u8
        by_cases c2 : chk r.s room = 0
        · rw [if_neg (by simp [c2])] at hdef
          simp only [c2, neqI, T_api_Record.f1, T_api_Daemon.f1, T_sl_api_Item.load, (B35.ext e58).cell, Rc.cells, popO_some, bindH_eq, condV_bool, condV_true, condV_false, yV_bool, gopV_tt, gopV_ff, gopV_tf, gopV_ft, pickV_t, pickV_f, pickV_bool, nilS_ptr, add_eq, sub_eq, mul_eq, lss_eq, leq_eq, gtr_eq, geq_eq, not_eq, minI_eq, maxI_eq, extract_0, extract_1, extract_2, eqlI, neqI, makeFunc_eq, decide_true, decide_false, if_true, if_false, Bool.false_eq_true, Bool.not_true, Bool.not_false, reduceIte, List.getElem?_toArray, List.getElem?_cons_zero, List.getElem?_cons_succ, Option.isSome_none, List.length_map, yV_undef, gopV_none, Nat.zero_add, Nat.reduceAdd, beq_self_eq_true, bne_self_eq_false, and_self, Bool.true_and, Bool.false_and, Bool.and_true, Bool.and_false, Bool.true_or, Bool.false_or, Bool.or_true, Bool.or_false]
          refine CloneI_ok (VI.ext (e5.trans e58)) (by omega) fun v' h9 V9 nv u9 => ?_
          have e59 := e58.trans u9
          have nv5 := nv.of e58
          try simp only [T_api_Record.f1, T_api_Daemon.f1, popO_some, bindH_eq, condV_bool, condV_true, condV_false, yV_bool, gopV_tt, gopV_ff, gopV_tf, gopV_ft, pickV_t, pickV_f, pickV_bool, nilS_ptr, add_eq, sub_eq, mul_eq, lss_eq, leq_eq, gtr_eq, geq_eq, not_eq, minI_eq, maxI_eq, extract_0, extract_1, extract_2, eqlI, neqI, makeFunc_eq, decide_true, decide_false, if_true, if_false, Bool.false_eq_true, Bool.not_true, Bool.not_false, reduceIte, List.getElem?_toArray, List.getElem?_cons_zero, List.getElem?_cons_succ, Option.isSome_none, List.length_map, yV_undef, gopV_none, Nat.zero_add, Nat.reduceAdd, beq_self_eq_true, bne_self_eq_false, and_self, Bool.true_and, Bool.false_and, Bool.and_true, Bool.and_false, Bool.true_or, Bool.false_or, Bool.or_true, Bool.or_false]
          refine T_sl_api_Item.put (B35.ext e59) (o := 5) (by show 5 < 10; decide) V9.isc fun h10 B10 u10 => ?_
          simp only [T_api_Record.f1, Dm.load (o := 1) (d := r.s) (v := v') B10 rfl, popO_some, bindH_eq, condV_bool, condV_true, condV_false, yV_bool, gopV_tt, gopV_ff, gopV_tf, gopV_ft, pickV_t, pickV_f, pickV_bool, nilS_ptr, add_eq, sub_eq, mul_eq, lss_eq, leq_eq, gtr_eq, geq_eq, not_eq, minI_eq, maxI_eq, extract_0, extract_1, extract_2, eqlI, neqI, makeFunc_eq, decide_true, decide_false, if_true, if_false, Bool.false_eq_true, Bool.not_true, Bool.not_false, reduceIte, List.getElem?_toArray, List.getElem?_cons_zero, List.getElem?_cons_succ, Option.isSome_none, List.length_map, yV_undef, gopV_none, Nat.zero_add, Nat.reduceAdd, beq_self_eq_true, bne_self_eq_false, and_self, Bool.true_and, Bool.false_and, Bool.and_true, Bool.and_false, Bool.true_or, Bool.false_or, Bool.or_true, Bool.or_false]
          refine T_api_Daemon.put ((Z.ext e59).upd u10 (by simpa using n35.symm)) rfl (by show 0 + 5 ≤ 5; decide) (Dm.isC _ V9.isc) fun h11 B11 u11 => ?_
          simp only [Dm.load (o := 0) (d := r.s) (v := v') B11 rfl, popO_some, bindH_eq, condV_bool, condV_true, condV_false, yV_bool, gopV_tt, gopV_ff, gopV_tf, gopV_ft, pickV_t, pickV_f, pickV_bool, nilS_ptr, add_eq, sub_eq, mul_eq, lss_eq, leq_eq, gtr_eq, geq_eq, not_eq, minI_eq, maxI_eq, extract_0, extract_1, extract_2, eqlI, neqI, makeFunc_eq, decide_true, decide_false, if_true, if_false, Bool.false_eq_true, Bool.not_true, Bool.not_false, reduceIte, List.getElem?_toArray, List.getElem?_cons_zero, List.getElem?_cons_succ, Option.isSome_none, List.length_map]
          rw [hdef] at hk
          refine hk h11 v' ((V9.upd u10 fun x n c e => ?_).upd u11 fun x n c e => ?_) (nv5.of e5) (((e5.trans e59).fresh u10 f3).fresh u11 f5)
          · simp only [List.mem_singleton]; intro e'; exact K3 (by rw [← e']; exact nv5 x n c e)
          · simp only [List.mem_singleton]; intro e'; exact K5 (by rw [← e']; exact nv5 x n c e)
        · rw [if_pos c2] at hdef
          have q2' : (chk r.s room != 0) = true := by simp [c2]
          simp only [neqI, q2', dm_zero, popO_some, bindH_eq, condV_bool, condV_true, condV_false, yV_bool, gopV_tt, gopV_ff, gopV_tf, gopV_ft, pickV_t, pickV_f, pickV_bool, nilS_ptr, add_eq, sub_eq, mul_eq, lss_eq, leq_eq, gtr_eq, geq_eq, not_eq, minI_eq, maxI_eq, extract_0, extract_1, extract_2, eqlI, neqI, makeFunc_eq, decide_true, decide_false, if_true, if_false, Bool.false_eq_true, Bool.not_true, Bool.not_false, reduceIte, List.getElem?_toArray, List.getElem?_cons_zero, List.getElem?_cons_succ, Option.isSome_none, List.length_map, yV_undef, gopV_none, Nat.zero_add, Nat.reduceAdd, beq_self_eq_true, bne_self_eq_false, and_self, Bool.true_and, Bool.false_and, Bool.and_true, Bool.and_false, Bool.true_or, Bool.false_or, Bool.or_true, Bool.or_false]
          exact bad e58 hdef
      · rw [if_neg k1] at hdef
        obtain ⟨k2, q0, q1, q16⟩ := plain2 hp k1
        have q : (r.k == 1) = false := by simp [k1]
        simp only [q, T_api_Daemon.f1, T_sl_api_Item.load, (B15.ext e57).cell, Dm.cells, popO_some, bindH_eq, condV_bool, condV_true, condV_false, yV_bool, gopV_tt, gopV_ff, gopV_tf, gopV_ft, pickV_t, pickV_f, pickV_bool, nilS_ptr, add_eq, sub_eq, mul_eq, lss_eq, leq_eq, gtr_eq, geq_eq, not_eq, minI_eq, maxI_eq, extract_0, extract_1, extract_2, eqlI, neqI, makeFunc_eq, decide_true, decide_false, if_true, if_false, Bool.false_eq_true, Bool.not_true, Bool.not_false, reduceIte, List.getElem?_toArray, List.getElem?_cons_zero, List.getElem?_cons_succ, Option.isSome_none, List.length_map, yV_undef, gopV_none, Nat.zero_add, Nat.reduceAdd, beq_self_eq_true, bne_self_eq_false, and_self, Bool.true_and, Bool.false_and, Bool.and_true, Bool.and_false, Bool.true_or, Bool.false_or, Bool.or_true, Bool.or_false]
        have hof : ofE room d.its = 0 := by
          unfold chk at c0
          by_cases h0 : ofE room d.its = 0
          · exact h0
          · by_cases h1 : ofE room d.its = 1 ∨ ¬ (okPl d.p0 ∧ okPl d.p1)
            · rw [if_pos h1] at c0; cases c0
            · rw [if_neg h1, if_pos h0] at c0; exact c0
        refine Of_ok (V.ext (e5.trans e57)) hl (fun h8 u8 hne => absurd hof hne) (fun a h8 F h0 H8 f8 u8 => ?_)
        have e58 := e57.trans u8
        simp only [T_api_Record.f4, T_sl_api_Note.load, (B35.ext e58).cell, Rc.cells, popO_some, bindH_eq, condV_bool, condV_true, condV_false, yV_bool, gopV_tt, gopV_ff, gopV_tf, gopV_ft, pickV_t, pickV_f, pickV_bool, nilS_ptr, add_eq, sub_eq, mul_eq, lss_eq, leq_eq, gtr_eq, geq_eq, not_eq, minI_eq, maxI_eq, extract_0, extract_1, extract_2, eqlI, neqI, makeFunc_eq, decide_true, decide_false, if_true, if_false, Bool.false_eq_true, Bool.not_true, Bool.not_false, reduceIte, List.getElem?_toArray, List.getElem?_cons_zero, List.getElem?_cons_succ, Option.isSome_none, List.length_map, yV_undef, gopV_none, Nat.zero_add, Nat.reduceAdd, beq_self_eq_true, bne_self_eq_false, and_self, Bool.true_and, Bool.false_and, Bool.and_true, Bool.and_false, Bool.true_or, Bool.false_or, Bool.or_true, Bool.or_false]
        have VN8 := VN.ext (e5.trans e58)
        refine sApply_ok H8 VN8 (fun hne x n c e hm => ?_) (by omega) fun h9 n H9 u9 => ?_
        · exact (VN.ext (e5.trans e57)).known (by simpa using hne) e (f8 _ hm)
        · have fF : Fresh h5 F := f8.of e57
          have e59 := e58.fresh u9 fF
          by_cases c3 : (aply room (ofL d.its) r.ns).2 = 0
          · rw [if_neg (by simp [c3])] at hdef
            simp only [c3, neqI, popO_some, bindH_eq, condV_bool, condV_true, condV_false, yV_bool, gopV_tt, gopV_ff, gopV_tf, gopV_ft, pickV_t, pickV_f, pickV_bool, nilS_ptr, add_eq, sub_eq, mul_eq, lss_eq, leq_eq, gtr_eq, geq_eq, not_eq, minI_eq, maxI_eq, extract_0, extract_1, extract_2, eqlI, neqI, makeFunc_eq, decide_true, decide_false, if_true, if_false, Bool.false_eq_true, Bool.not_true, Bool.not_false, reduceIte, List.getElem?_toArray, List.getElem?_cons_zero, List.getElem?_cons_succ, Option.isSome_none, List.length_map, yV_undef, gopV_none, Nat.zero_add, Nat.reduceAdd, beq_self_eq_true, bne_self_eq_false, and_self, Bool.true_and, Bool.false_and, Bool.and_true, Bool.and_false, Bool.true_or, Bool.false_or, Bool.or_true, Bool.or_false]
            refine Items_ok H9 (by
              have a1 := aply_len room (srt_ofL d.its) r.ns
              have a2 := ofL_len d.its
              omega) fun v' h10 G O10 f10 u10 => ?_
            have e510 := e59.trans u10
            have nv := (O10.newV f10).of e59
            try simp only [T_api_Daemon.f1, popO_some, bindH_eq, condV_bool, condV_true, condV_false, yV_bool, gopV_tt, gopV_ff, gopV_tf, gopV_ft, pickV_t, pickV_f, pickV_bool, nilS_ptr, add_eq, sub_eq, mul_eq, lss_eq, leq_eq, gtr_eq, geq_eq, not_eq, minI_eq, maxI_eq, extract_0, extract_1, extract_2, eqlI, neqI, makeFunc_eq, decide_true, decide_false, if_true, if_false, Bool.false_eq_true, Bool.not_true, Bool.not_false, reduceIte, List.getElem?_toArray, List.getElem?_cons_zero, List.getElem?_cons_succ, Option.isSome_none, List.length_map, yV_undef, gopV_none, Nat.zero_add, Nat.reduceAdd, beq_self_eq_true, bne_self_eq_false, and_self, Bool.true_and, Bool.false_and, Bool.and_true, Bool.and_false, Bool.true_or, Bool.false_or, Bool.or_true, Bool.or_false]
            refine T_sl_api_Item.put (B15.ext e510) (o := 4) (by show 4 < 5; decide) O10.slR.isc fun h11 B11 u11 => ?_
            have C11 := (B35.ext e510).upd u11 (by simpa using n13.symm)
            have Z11 := (Z.ext e510).upd u11 (by simpa using n15.symm)
            have l11 : SemE PG h11 (Instr.loadAt T_api_Place (.pointer (some ⟨r3, 7, none⟩))) = some (.agg r.pl.cells.toArray) := T_api_Place.agg C11 (by show 7 + 2 ≤ 10; decide)
            simp only [T_api_Record.f2, T_api_Record.f3, T_int.load, C11.cell, Rc.cells, l11, T_api_Daemon.f0, popO_some, bindH_eq, condV_bool, condV_true, condV_false, yV_bool, gopV_tt, gopV_ff, gopV_tf, gopV_ft, pickV_t, pickV_f, pickV_bool, nilS_ptr, add_eq, sub_eq, mul_eq, lss_eq, leq_eq, gtr_eq, geq_eq, not_eq, minI_eq, maxI_eq, extract_0, extract_1, extract_2, eqlI, neqI, makeFunc_eq, decide_true, decide_false, if_true, if_false, Bool.false_eq_true, Bool.not_true, Bool.not_false, reduceIte, List.getElem?_toArray, List.getElem?_cons_zero, List.getElem?_cons_succ, Option.isSome_none, List.length_map, yV_undef, gopV_none, Nat.zero_add, Nat.reduceAdd, beq_self_eq_true, bne_self_eq_false, and_self, Bool.true_and, Bool.false_and, Bool.and_true, Bool.and_false, Bool.true_or, Bool.false_or, Bool.or_true, Bool.or_false]
            have fin : ∀ {d' : Dm} {h12 : PH}, stp d room r = (d', 0) → d'.its = (aply room (ofL d.its) r.ns).1 → Bx h12 r1 (d'.cells v') → Upd [r1] h11 h12 → popO (SemE PG h12 (Instr.loadAt T_api_Daemon (.pointer (some ⟨r1, 0, none⟩)))) fun v81 => SemH PG (storeS T_api_Daemon (.pointer (some ⟨r5, 0, none⟩)) v81) h12 fun v82 h83 => popO (SemE PG h83 (Instr.loadAt T_api_Daemon (.pointer (some ⟨r5, 0, none⟩)))) fun v84 => k (.tuple #[v84, .int .i64 0]) h83 := by
              intro d' h12 hs hi B12 u12
              simp only [Dm.load (o := 0) (d := d') (v := v') B12 rfl, popO_some, bindH_eq, condV_bool, condV_true, condV_false, yV_bool, gopV_tt, gopV_ff, gopV_tf, gopV_ft, pickV_t, pickV_f, pickV_bool, nilS_ptr, add_eq, sub_eq, mul_eq, lss_eq, leq_eq, gtr_eq, geq_eq, not_eq, minI_eq, maxI_eq, extract_0, extract_1, extract_2, eqlI, neqI, makeFunc_eq, decide_true, decide_false, if_true, if_false, Bool.false_eq_true, Bool.not_true, Bool.not_false, reduceIte, List.getElem?_toArray, List.getElem?_cons_zero, List.getElem?_cons_succ, Option.isSome_none, List.length_map]
              refine T_api_Daemon.put (Z11.upd u12 (by simpa using n15.symm)) rfl (by show 0 + 5 ≤ 5; decide) (Dm.isC _ O10.slR.isc) fun h13 B13' u13 => ?_
              simp only [Dm.load (o := 0) (d := d') (v := v') B13' rfl, popO_some, bindH_eq, condV_bool, condV_true, condV_false, yV_bool, gopV_tt, gopV_ff, gopV_tf, gopV_ft, pickV_t, pickV_f, pickV_bool, nilS_ptr, add_eq, sub_eq, mul_eq, lss_eq, leq_eq, gtr_eq, geq_eq, not_eq, minI_eq, maxI_eq, extract_0, extract_1, extract_2, eqlI, neqI, makeFunc_eq, decide_true, decide_false, if_true, if_false, Bool.false_eq_true, Bool.not_true, Bool.not_false, reduceIte, List.getElem?_toArray, List.getElem?_cons_zero, List.getElem?_cons_succ, Option.isSome_none, List.length_map]
              rw [hs] at hk
              have V' : ISl h13 v' d'.its := by
                rw [hi]
                refine ((SlR.upd O10.slR u11 fun x n c e => ?_).upd u12 fun x n c e => ?_).upd u13 fun x n c e => ?_
                · simp only [List.mem_singleton]; intro e'; exact K1 (by rw [← e']; exact nv x n c e)
                · simp only [List.mem_singleton]; intro e'; exact K1 (by rw [← e']; exact nv x n c e)
                · simp only [List.mem_singleton]; intro e'; exact K5 (by rw [← e']; exact nv x n c e)
              exact hk h13 v' V' (nv.of e5) ((((e5.trans e510).fresh u11 f1).fresh u12 f1).fresh u13 f5)
            rcases q1 with q1 | q1
            · have ix := indexAt_array (P := PG) (t := T_2_api_Place) (b := r1) (o := 0) (k := .i64) (j := 0) T_2_api_Place.und T_api_Place.info T_api_Place.size (by omega) (by omega)
              simp only [q1, ix, popO_some, bindH_eq, condV_bool, condV_true, condV_false, yV_bool, gopV_tt, gopV_ff, gopV_tf, gopV_ft, pickV_t, pickV_f, pickV_bool, nilS_ptr, add_eq, sub_eq, mul_eq, lss_eq, leq_eq, gtr_eq, geq_eq, not_eq, minI_eq, maxI_eq, extract_0, extract_1, extract_2, eqlI, neqI, makeFunc_eq, decide_true, decide_false, if_true, if_false, Bool.false_eq_true, Bool.not_true, Bool.not_false, reduceIte, List.getElem?_toArray, List.getElem?_cons_zero, List.getElem?_cons_succ, Option.isSome_none, List.length_map, yV_undef, gopV_none, Nat.zero_add, Nat.reduceAdd, beq_self_eq_true, bne_self_eq_false, and_self, Bool.true_and, Bool.false_and, Bool.and_true, Bool.and_false, Bool.true_or, Bool.false_or, Bool.or_true, Bool.or_false]
              refine T_api_Place.put B11 (o := 0) rfl (by show 0 + 2 ≤ 5; decide) (by simp [Pl.cells, isCell]) fun h12 B12 u12 => ?_
              exact fin (d' := ⟨r.pl, d.p1, (aply room (ofL d.its) r.ns).1⟩) (by rw [hdef, if_pos q1, if_pos q1]) rfl B12 u12
            · have ix := indexAt_array (P := PG) (t := T_2_api_Place) (b := r1) (o := 0) (k := .i64) (j := 1) T_2_api_Place.und T_api_Place.info T_api_Place.size (by omega) (by omega)
              have hn0 : ¬ r.ch = 0 := by omega
              simp only [q1, ix, popO_some, bindH_eq, condV_bool, condV_true, condV_false, yV_bool, gopV_tt, gopV_ff, gopV_tf, gopV_ft, pickV_t, pickV_f, pickV_bool, nilS_ptr, add_eq, sub_eq, mul_eq, lss_eq, leq_eq, gtr_eq, geq_eq, not_eq, minI_eq, maxI_eq, extract_0, extract_1, extract_2, eqlI, neqI, makeFunc_eq, decide_true, decide_false, if_true, if_false, Bool.false_eq_true, Bool.not_true, Bool.not_false, reduceIte, List.getElem?_toArray, List.getElem?_cons_zero, List.getElem?_cons_succ, Option.isSome_none, List.length_map, yV_undef, gopV_none, Nat.zero_add, Nat.reduceAdd, beq_self_eq_true, bne_self_eq_false, and_self, Bool.true_and, Bool.false_and, Bool.and_true, Bool.and_false, Bool.true_or, Bool.false_or, Bool.or_true, Bool.or_false]
              refine T_api_Place.put B11 (o := 2) rfl (by show 2 + 2 ≤ 5; decide) (by simp [Pl.cells, isCell]) fun h12 B12 u12 => ?_
              exact fin (d' := ⟨d.p0, r.pl, (aply room (ofL d.its) r.ns).1⟩) (by rw [hdef, if_neg hn0, if_neg hn0]) rfl B12 u12
          · rw [if_pos c3] at hdef
            have q3 : ((aply room (ofL d.its) r.ns).2 != 0) = true := by simp [c3]
            simp only [neqI, q3, dm_zero, popO_some, bindH_eq, condV_bool, condV_true, condV_false, yV_bool, gopV_tt, gopV_ff, gopV_tf, gopV_ft, pickV_t, pickV_f, pickV_bool, nilS_ptr, add_eq, sub_eq, mul_eq, lss_eq, leq_eq, gtr_eq, geq_eq, not_eq, minI_eq, maxI_eq, extract_0, extract_1, extract_2, eqlI, neqI, makeFunc_eq, decide_true, decide_false, if_true, if_false, Bool.false_eq_true, Bool.not_true, Bool.not_false, reduceIte, List.getElem?_toArray, List.getElem?_cons_zero, List.getElem?_cons_succ, Option.isSome_none, List.length_map, yV_undef, gopV_none, Nat.zero_add, Nat.reduceAdd, beq_self_eq_true, bne_self_eq_false, and_self, Bool.true_and, Bool.false_and, Bool.and_true, Bool.and_false, Bool.true_or, Bool.false_or, Bool.or_true, Bool.or_false]
            exact bad e59 hdef
    · rw [if_pos c1] at hdef
      have q1 : (r.bytes.2 != 0) = true := by simp [c1]
      simp only [neqI, q1, dm_zero, popO_some, bindH_eq, condV_bool, condV_true, condV_false, yV_bool, gopV_tt, gopV_ff, gopV_tf, gopV_ft, pickV_t, pickV_f, pickV_bool, nilS_ptr, add_eq, sub_eq, mul_eq, lss_eq, leq_eq, gtr_eq, geq_eq, not_eq, minI_eq, maxI_eq, extract_0, extract_1, extract_2, eqlI, neqI, makeFunc_eq, decide_true, decide_false, if_true, if_false, Bool.false_eq_true, Bool.not_true, Bool.not_false, reduceIte, List.getElem?_toArray, List.getElem?_cons_zero, List.getElem?_cons_succ, Option.isSome_none, List.length_map, yV_undef, gopV_none, Nat.zero_add, Nat.reduceAdd, beq_self_eq_true, bne_self_eq_false, and_self, Bool.true_and, Bool.false_and, Bool.and_true, Bool.and_false, Bool.true_or, Bool.false_or, Bool.or_true, Bool.or_false]
      exact bad e57 hdef
  · rw [if_pos c0] at hdef
    have q0 : (chk d room != 0) = true := by simp [c0]
    simp only [neqI, q0, dm_zero, popO_some, bindH_eq, condV_bool, condV_true, condV_false, yV_bool, gopV_tt, gopV_ff, gopV_tf, gopV_ft, pickV_t, pickV_f, pickV_bool, nilS_ptr, add_eq, sub_eq, mul_eq, lss_eq, leq_eq, gtr_eq, geq_eq, not_eq, minI_eq, maxI_eq, extract_0, extract_1, extract_2, eqlI, neqI, makeFunc_eq, decide_true, decide_false, if_true, if_false, Bool.false_eq_true, Bool.not_true, Bool.not_false, reduceIte, List.getElem?_toArray, List.getElem?_cons_zero, List.getElem?_cons_succ, Option.isSome_none, List.length_map, yV_undef, gopV_none, Nat.zero_add, Nat.reduceAdd, beq_self_eq_true, bne_self_eq_false, and_self, Bool.true_and, Bool.false_and, Bool.and_true, Bool.and_false, Bool.true_or, Bool.false_or, Bool.or_true, Bool.or_false]
    exact bad u6 hdef
end Go.Proofs.YtlkjippiaghbmaaGreat
/- record: records replayed. -/
set_option linter.unusedSimpArgs false
set_option linter.unusedVariables false
namespace Go.Proofs.YtlkjippiaghbmaaGreat
open Go
set_option maxRecDepth 20000
def tcell (p : Tx) : List Value := [.string (tx p)]
theorem tcell.rows (l : List Tx) : Rows 1 (l.map tcell) := fun r hr => by obtain ⟨m, _, rfl⟩ := List.mem_map.1 hr; rfl
theorem t_at {h : PH} {v : Value} {l : List Tx} (S : SlR h 1 v (l.map tcell)) {i : Nat} {x : Tx} (hx : l[i]? = some x) : ∃ a, SemP PG (Instr.indexAt T_sl_string v (.int .i64 (i : Int))) = some (.pointer (some a)) ∧ SemE PG h (Instr.loadAt T_string (.pointer (some a))) = some (.string (tx x)) :=
  S.loadCell (t := T_sl_string) (k := .i64) (j := (i : Int)) T_sl_string.und T_string.info T_string.size T_string.und rfl (by omega) (by rw [Int.toNat_natCast, List.getElem?_map, hx]; rfl)
theorem t_len {h : PH} {v : Value} {l : List Tx} (S : SlR h 1 v (l.map tcell)) : SemP PG (Builtin.len_ #[T_sl_string] T_int #[v]) = some (.int .i64 l.length) := by
  have := S.len (t' := T_int) T_sl_string.und
  rw [List.length_map] at this
  exact this
/-! ### what is read is of numbers that Go has -/
theorem pk_wf (a b c : Nat) (hb : b < 18446744073709551616) (hc : c < 18446744073709551616) (d : ByteArray) : (⟨(a : Int), (b : Int), (c : Int), d⟩ : Pk).wf := ⟨by simp, by simp only; omega, by simp, by simp only; omega⟩
theorem Pk.wf_zero : (default : Pk).wf := ⟨by decide, by decide, by decide, by decide⟩
theorem Pl.wf_zero : Pl.zero.wf := ⟨by decide, by decide⟩
theorem pl_wf (a : Nat) (b : Int) (h : a < 18446744073709551616) : (⟨(a : Int), b⟩ : Pl).wf := ⟨by simp, by simp only; omega⟩
theorem ite_pk {c : Prop} [Decidable c] {p q : Pk} (hp : p.wf) (hq : q.wf) : (if c then p else q).wf := by split <;> assumption
theorem ite_pl {c : Prop} [Decidable c] {p q : Pl} (hp : p.wf) (hq : q.wf) : (if c then p else q).wf := by split <;> assumption
theorem rPk_wf (st : Stt) : (rPk st).1.wf := by
  have h1 := rGet_lt (rGet st 1).2 8
  have h2 := rGet_lt (rGet (rGet st 1).2 8).2 8
  have hc : (rC st).1.wf := pk_wf _ _ _ h1 h2 _
  unfold rPk
  exact ite_pk hc Pk.wf_zero
theorem rMany_wf (g : Int) : ∀ (n : Nat) (st : Stt) (acc : List (Int × Pk)), (∀ x ∈ acc, x.2.wf) → ∀ x ∈ (rMany g n st acc).1, x.2.wf
  | 0, st, acc, h => h
  | n + 1, st, acc, h => by
    unfold rMany
    split
    · refine rMany_wf g n _ _ fun x hx => ?_
      rcases List.mem_append.1 hx with hx | hx
      · exact h x hx
      · simp only [List.mem_singleton] at hx
        subst hx
        exact rPk_wf _
    · exact h
theorem rList_wf (g : Int) (st : Stt) : ∀ x ∈ (rList g st).1, x.2.wf := by
  unfold rList
  simp only
  split
  · exact rMany_wf g _ _ _ (by simp)
  · simp
theorem rPl_wf (st : Stt) : (rPl st).1.wf := by
  have h1 := rGet_lt st 8
  unfold rPl
  exact ite_pl (pl_wf _ _ h1) Pl.wf_zero
theorem Dm.wf_zero : Dm.zero.wf := ⟨Pl.wf_zero, Pl.wf_zero, by simp [Dm.zero]⟩
theorem Rc.wf_zero : Rc.zero.wf := ⟨Dm.wf_zero, Pl.wf_zero, by simp [Rc.zero]⟩
theorem rd_wf (s : Tx) : (Rc.rd s).1.wf := by
  unfold Rc.rd
  split
  · refine ⟨⟨rPl_wf _, rPl_wf _, fun x hx => ?_⟩, Pl.wf_zero, by simp⟩
    obtain ⟨y, hy, rfl⟩ := List.mem_map.1 hx
    exact rList_wf _ _ y hy
  · split
    · refine ⟨Dm.wf_zero, rPl_wf _, fun x hx => ?_⟩
      obtain ⟨y, hy, rfl⟩ := List.mem_map.1 hx
      exact rList_wf _ _ y hy
    · exact ⟨Dm.wf_zero, Pl.wf_zero, by simp⟩
theorem parse_wf (s : Tx) : (parseP s).1.wf := by
  unfold parseP
  split
  · exact Rc.wf_zero
  · exact rd_wf s
/-! ### states that may be -/
structure OkD (d : Dm) (room : Int) : Prop where
  r1 : 1 ≤ room
  r2 : room ≤ 40
  len : (d.its.length : Int) ≤ room
  all : d.its.all It.right = true
  p0 : okPl d.p0
  p1 : okPl d.p1
  srt : ofL d.its = d.its
  nd : (d.its.map It.key).Nodup
theorem chk_ok {d : Dm} {room : Int} : chk d room = 0 ↔ OkD d room := by
  unfold chk
  constructor
  · intro h
    by_cases h1 : ofE room d.its = 1 ∨ ¬ (okPl d.p0 ∧ okPl d.p1)
    · rw [if_pos h1] at h; cases h
    · rw [if_neg h1] at h
      by_cases h2 : ofE room d.its = 0
      · rw [if_neg (by simp [h2])] at h
        by_cases h3 : ofL d.its = d.its
        · have hp : okPl d.p0 ∧ okPl d.p1 := Classical.byContradiction fun hn => h1 (.inr hn)
          unfold ofE at h2
          by_cases a : room < 1 ∨ 40 < room
          · rw [if_pos a] at h2; cases h2
          · rw [if_neg a] at h2
            by_cases b : d.its.all It.right = false
            · rw [if_pos b] at h2; cases h2
            · rw [if_neg b] at h2
              by_cases c : ¬ (d.its.map It.key).Nodup
              · rw [if_pos c] at h2; cases h2
              · rw [if_neg c] at h2
                by_cases e : room < d.its.length
                · rw [if_pos e] at h2; cases h2
                · exact ⟨by omega, by omega, by omega, by simpa using b, hp.1, hp.2, h3, Classical.byContradiction c⟩
        · rw [if_pos h3] at h; cases h
      · rw [if_pos h2] at h; exact absurd h h2
  · intro H
    have e : ofE room d.its = 0 := by
      unfold ofE
      rw [if_neg (by have := H.r1; have := H.r2; omega), if_neg (by simp [H.all]), if_neg (by simpa using H.nd), if_neg (by have := H.len; omega)]
    rw [if_neg (by simp [e, H.p0, H.p1]), if_neg (by simp [e]), if_neg (by simp [H.srt])]
theorem aply_room {room : Int} : ∀ {L : List It}, Srt L → (L.length : Int) ≤ room → ∀ l : List Nt, ((aply room L l).1.length : Int) ≤ room
  | L, hs, h, [] => h
  | L, hs, h, n :: ns => by
    unfold aply
    split
    · exact app_len hs h n
    · exact aply_room (hs.app room n) (app_len hs h n) ns
theorem stp_len {d : Dm} {room : Int} {r : Rc} : (stp d room r).1.its.length ≤ 40 := by
  unfold stp
  split
  · simp [Dm.zero]
  · rename_i h0
    have H := chk_ok.1 (Classical.byContradiction fun h => h0 h)
    split
    · simp [Dm.zero]
    · split
      · split
        · simp [Dm.zero]
        · rename_i h1
          have H1 := chk_ok.1 (Classical.byContradiction fun h => h1 h)
          have a := H1.len
          have b := H1.r2
          show r.s.its.length ≤ 40
          omega
      · split
        · simp [Dm.zero]
        · have a := aply_room (room := room) (srt_ofL d.its) (by rw [H.srt]; exact H.len) r.ns
          have b := H.r2
          show (aply room (ofL d.its) r.ns).1.length ≤ 40
          omega
/-! ### replaying -/
def first0 (room : Int) (s : Tx) : Dm × Int :=
  if (parseP s).2 ≠ 0 then (Dm.zero, (parseP s).2) else if (parseP s).1.k ≠ 1 then (Dm.zero, 5) else if chk (parseP s).1.s room ≠ 0 then (Dm.zero, chk (parseP s).1.s room) else ((parseP s).1.s, 0)
def rstep (room : Int) (st : Dm × Int) (s : Tx) : Dm × Int := if st.2 = 0 then (if (parseP s).2 = 0 then stp st.1 room (parseP s).1 else (st.1, (parseP s).2)) else st
def rpl (room : Int) : List Tx → Dm × Int
  | [] => (Dm.zero, 3)
  | s :: l => if (l.foldl (rstep room) (first0 room s)).2 ≠ 0 then (Dm.zero, (l.foldl (rstep room) (first0 room s)).2) else l.foldl (rstep room) (first0 room s)
theorem first0_len {room : Int} {s : Tx} : (first0 room s).1.its.length ≤ 40 := by
  unfold first0
  split
  · simp [Dm.zero]
  · split
    · simp [Dm.zero]
    · split
      · simp [Dm.zero]
      · rename_i h1
        have H1 := chk_ok.1 (Classical.byContradiction fun h => h1 h)
        have a := H1.len
        have b := H1.r2
        show (parseP s).1.s.its.length ≤ 40
        omega
theorem parse_few {s : Tx} : (parseP s).1.s.its.length ≤ 1000 := by
  unfold parseP
  split
  · simp [Rc.zero, Dm.zero]
  · have : (rList 2 (rPl (rPl (rGet (0, s) 1).2).2).2).1.length ≤ 1000 := by
      unfold rList
      simp only
      have hn := rGet_lt (rPl (rPl (rGet (0, s) 1).2).2).2 1
      split
      · have key : ∀ (n : Nat) (st : Stt) (acc : List (Int × Pk)), (rMany 2 n st acc).1.length ≤ acc.length + n := by
          intro n
          induction n with
          | zero => intro st acc; simp [rMany]
          | succ n ih =>
            intro st acc
            unfold rMany
            split
            · have := ih (rOne 2 st).2 (acc ++ [(rOne 2 st).1])
              simp only [List.length_append, List.length_cons, List.length_nil] at this
              omega
            · simp only; omega
        have := key (rGet (rPl (rPl (rGet (0, s) 1).2).2).2 1).1 (rGet (rPl (rPl (rGet (0, s) 1).2).2).2 1).2 []
        simp only [List.length_nil] at this
        omega
      · simp
    unfold Rc.rd
    split
    · simpa using this
    · split
      · simp [Dm.zero]
      · simp [Dm.zero]
theorem rec_first_ok {h : PH} {room : Int} {s : Tx} {k : Value → PH → Prop} (hk : ∀ h' v', ISl h' v' (first0 room s).1.its → NewV h v' → Ext h h' → k (.tuple #[(first0 room s).1.v v', .int .i64 (first0 room s).2]) h') : CallsH PG id_record_first #[.int .i64 room, .string (tx s)] h k := by
  apply record_first.call
  unfold record_first
  intro r1 hr1
  try rw [bindH_eq]
  have u1 : Ext h (h.set r1 (.cells (zcells PG T_api_Daemon) T_api_Daemon)) := Upd.new hr1
  have Z := T_api_Daemon.zbox (h := h) (r := r1)
  generalize h.set r1 (.cells (zcells PG T_api_Daemon) T_api_Daemon) = h1 at *
  have f1 : Fresh h [r1] := Fresh.one hr1
  refine parse_ok fun h2 v w V W nv nw u2 => ?_
  have e2 := u1.trans u2
  simp only [popO_some, bindH_eq, condV_bool, condV_true, condV_false, yV_bool, gopV_tt, gopV_ff, gopV_tf, gopV_ft, pickV_t, pickV_f, pickV_bool, nilS_ptr, add_eq, sub_eq, mul_eq, lss_eq, leq_eq, gtr_eq, geq_eq, not_eq, minI_eq, maxI_eq, extract_0, extract_1, extract_2, eqlI, neqI, makeFunc_eq, decide_true, decide_false, if_true, if_false, Bool.false_eq_true, Bool.not_true, Bool.not_false, reduceIte, List.getElem?_toArray, List.getElem?_cons_zero, List.getElem?_cons_succ, Option.isSome_none, List.length_map]
  intro r7 hr7
  try rw [bindH_eq]
  refine T_api_Record.fill hr7 rfl (Rc.isC _ V.isc W.isc) fun h3 B3 u3 => ?_
  have e3 := e2.trans u3
  have Z3 := (Z.ext u2).ext u3
  have hn1 : ∀ x n c, v = .slice (some x) n c → x.block ≠ r1 := fun x n c e hb => Z.known (by rw [← hb]; exact nv x n c e)
  have bad : ∀ {h' : PH} {e : Int}, Ext h3 h' → first0 room s = (Dm.zero, e) → SemH PG (storeS T_api_Daemon (.pointer (some ⟨r1, 0, none⟩)) (Dm.v Dm.zero (.slice none 0 0))) h' fun v12 h13 => popO (SemE PG h13 (Instr.loadAt T_api_Daemon (.pointer (some ⟨r1, 0, none⟩)))) fun v14 => k (.tuple #[v14, .int .i64 e]) h13 := by
    intro h' e u hs
    refine T_api_Daemon.put (Z3.ext u) rfl (by show 0 + 5 ≤ 5; decide) (Dm.isC _ rfl) fun h2 B2 u2 => ?_
    simp only [Dm.load (o := 0) (d := Dm.zero) (v := .slice none 0 0) B2 rfl, popO_some, bindH_eq, condV_bool, condV_true, condV_false, yV_bool, gopV_tt, gopV_ff, gopV_tf, gopV_ft, pickV_t, pickV_f, pickV_bool, nilS_ptr, add_eq, sub_eq, mul_eq, lss_eq, leq_eq, gtr_eq, geq_eq, not_eq, minI_eq, maxI_eq, extract_0, extract_1, extract_2, eqlI, neqI, makeFunc_eq, decide_true, decide_false, if_true, if_false, Bool.false_eq_true, Bool.not_true, Bool.not_false, reduceIte, List.getElem?_toArray, List.getElem?_cons_zero, List.getElem?_cons_succ, Option.isSome_none, List.length_map]
    rw [hs] at hk
    exact hk h2 _ nilI NewV.nil ((e3.trans u).fresh u2 f1)
  have hdef : first0 room s = if (parseP s).2 ≠ 0 then (Dm.zero, (parseP s).2) else if (parseP s).1.k ≠ 1 then (Dm.zero, 5) else if chk (parseP s).1.s room ≠ 0 then (Dm.zero, chk (parseP s).1.s room) else ((parseP s).1.s, 0) := rfl
  by_cases c0 : (parseP s).2 = 0
  · rw [if_neg (by simp [c0])] at hdef
    simp only [c0, neqI, T_api_Record.f0, T_int.load, B3.cell, Rc.cells, popO_some, bindH_eq, condV_bool, condV_true, condV_false, yV_bool, gopV_tt, gopV_ff, gopV_tf, gopV_ft, pickV_t, pickV_f, pickV_bool, nilS_ptr, add_eq, sub_eq, mul_eq, lss_eq, leq_eq, gtr_eq, geq_eq, not_eq, minI_eq, maxI_eq, extract_0, extract_1, extract_2, eqlI, neqI, makeFunc_eq, decide_true, decide_false, if_true, if_false, Bool.false_eq_true, Bool.not_true, Bool.not_false, reduceIte, List.getElem?_toArray, List.getElem?_cons_zero, List.getElem?_cons_succ, Option.isSome_none, List.length_map, yV_undef, gopV_none, Nat.zero_add, Nat.reduceAdd, beq_self_eq_true, bne_self_eq_false, and_self, Bool.true_and, Bool.false_and, Bool.and_true, Bool.and_false, Bool.true_or, Bool.false_or, Bool.or_true, Bool.or_false]
    by_cases c1 : (parseP s).1.k = 1
    · rw [if_neg (by simp [c1])] at hdef
      have q : ((parseP s).1.k != 1) = false := by simp [c1]
      simp only [q, T_api_Record.f1, Dm.load (o := 1) (d := (parseP s).1.s) (v := v) B3 rfl, popO_some, bindH_eq, condV_bool, condV_true, condV_false, yV_bool, gopV_tt, gopV_ff, gopV_tf, gopV_ft, pickV_t, pickV_f, pickV_bool, nilS_ptr, add_eq, sub_eq, mul_eq, lss_eq, leq_eq, gtr_eq, geq_eq, not_eq, minI_eq, maxI_eq, extract_0, extract_1, extract_2, eqlI, neqI, makeFunc_eq, decide_true, decide_false, if_true, if_false, Bool.false_eq_true, Bool.not_true, Bool.not_false, reduceIte, List.getElem?_toArray, List.getElem?_cons_zero, List.getElem?_cons_succ, Option.isSome_none, List.length_map, yV_undef, gopV_none, Nat.zero_add, Nat.reduceAdd, beq_self_eq_true, bne_self_eq_false, and_self, Bool.true_and, Bool.false_and, Bool.and_true, Bool.and_false, Bool.true_or, Bool.false_or, Bool.or_true, Bool.or_false]
      refine check_ok (V.ext u3) parse_few fun h4 u4 => ?_
      have e4 := e3.trans u4
      by_cases c2 : chk (parseP s).1.s room = 0
      · rw [if_neg (by simp [c2])] at hdef
        simp only [c2, neqI, T_api_Record.f1, Dm.load (o := 1) (d := (parseP s).1.s) (v := v) (B3.ext u4) rfl, popO_some, bindH_eq, condV_bool, condV_true, condV_false, yV_bool, gopV_tt, gopV_ff, gopV_tf, gopV_ft, pickV_t, pickV_f, pickV_bool, nilS_ptr, add_eq, sub_eq, mul_eq, lss_eq, leq_eq, gtr_eq, geq_eq, not_eq, minI_eq, maxI_eq, extract_0, extract_1, extract_2, eqlI, neqI, makeFunc_eq, decide_true, decide_false, if_true, if_false, Bool.false_eq_true, Bool.not_true, Bool.not_false, reduceIte, List.getElem?_toArray, List.getElem?_cons_zero, List.getElem?_cons_succ, Option.isSome_none, List.length_map, yV_undef, gopV_none, Nat.zero_add, Nat.reduceAdd, beq_self_eq_true, bne_self_eq_false, and_self, Bool.true_and, Bool.false_and, Bool.and_true, Bool.and_false, Bool.true_or, Bool.false_or, Bool.or_true, Bool.or_false]
        refine T_api_Daemon.put (Z3.ext u4) rfl (by show 0 + 5 ≤ 5; decide) (Dm.isC _ V.isc) fun h5 B5 u5 => ?_
        simp only [Dm.load (o := 0) (d := (parseP s).1.s) (v := v) B5 rfl, popO_some, bindH_eq, condV_bool, condV_true, condV_false, yV_bool, gopV_tt, gopV_ff, gopV_tf, gopV_ft, pickV_t, pickV_f, pickV_bool, nilS_ptr, add_eq, sub_eq, mul_eq, lss_eq, leq_eq, gtr_eq, geq_eq, not_eq, minI_eq, maxI_eq, extract_0, extract_1, extract_2, eqlI, neqI, makeFunc_eq, decide_true, decide_false, if_true, if_false, Bool.false_eq_true, Bool.not_true, Bool.not_false, reduceIte, List.getElem?_toArray, List.getElem?_cons_zero, List.getElem?_cons_succ, Option.isSome_none, List.length_map]
        rw [hdef] at hk
        exact hk h5 v (((V.ext u3).ext u4).upd u5 fun x n c e => by simpa using hn1 x n c e) (nv.of u1) (e4.fresh u5 f1)
      · rw [if_pos c2] at hdef
        have q2 : (chk (parseP s).1.s room != 0) = true := by simp [c2]
        simp only [neqI, q2, dm_zero, popO_some, bindH_eq, condV_bool, condV_true, condV_false, yV_bool, gopV_tt, gopV_ff, gopV_tf, gopV_ft, pickV_t, pickV_f, pickV_bool, nilS_ptr, add_eq, sub_eq, mul_eq, lss_eq, leq_eq, gtr_eq, geq_eq, not_eq, minI_eq, maxI_eq, extract_0, extract_1, extract_2, eqlI, neqI, makeFunc_eq, decide_true, decide_false, if_true, if_false, Bool.false_eq_true, Bool.not_true, Bool.not_false, reduceIte, List.getElem?_toArray, List.getElem?_cons_zero, List.getElem?_cons_succ, Option.isSome_none, List.length_map, yV_undef, gopV_none, Nat.zero_add, Nat.reduceAdd, beq_self_eq_true, bne_self_eq_false, and_self, Bool.true_and, Bool.false_and, Bool.and_true, Bool.and_false, Bool.true_or, Bool.false_or, Bool.or_true, Bool.or_false]
        exact bad u4 hdef
    · rw [if_pos c1] at hdef
      have q : ((parseP s).1.k != 1) = true := by simp [c1]
      simp only [q, dm_zero, popO_some, bindH_eq, condV_bool, condV_true, condV_false, yV_bool, gopV_tt, gopV_ff, gopV_tf, gopV_ft, pickV_t, pickV_f, pickV_bool, nilS_ptr, add_eq, sub_eq, mul_eq, lss_eq, leq_eq, gtr_eq, geq_eq, not_eq, minI_eq, maxI_eq, extract_0, extract_1, extract_2, eqlI, neqI, makeFunc_eq, decide_true, decide_false, if_true, if_false, Bool.false_eq_true, Bool.not_true, Bool.not_false, reduceIte, List.getElem?_toArray, List.getElem?_cons_zero, List.getElem?_cons_succ, Option.isSome_none, List.length_map, yV_undef, gopV_none, Nat.zero_add, Nat.reduceAdd, beq_self_eq_true, bne_self_eq_false, and_self, Bool.true_and, Bool.false_and, Bool.and_true, Bool.and_false, Bool.true_or, Bool.false_or, Bool.or_true, Bool.or_false]
      exact bad Upd.refl hdef
  · rw [if_pos c0] at hdef
    have q0 : ((parseP s).2 != 0) = true := by simp [c0]
    simp only [neqI, q0, dm_zero, popO_some, bindH_eq, condV_bool, condV_true, condV_false, yV_bool, gopV_tt, gopV_ff, gopV_tf, gopV_ft, pickV_t, pickV_f, pickV_bool, nilS_ptr, add_eq, sub_eq, mul_eq, lss_eq, leq_eq, gtr_eq, geq_eq, not_eq, minI_eq, maxI_eq, extract_0, extract_1, extract_2, eqlI, neqI, makeFunc_eq, decide_true, decide_false, if_true, if_false, Bool.false_eq_true, Bool.not_true, Bool.not_false, reduceIte, List.getElem?_toArray, List.getElem?_cons_zero, List.getElem?_cons_succ, Option.isSome_none, List.length_map, yV_undef, gopV_none, Nat.zero_add, Nat.reduceAdd, beq_self_eq_true, bne_self_eq_false, and_self, Bool.true_and, Bool.false_and, Bool.and_true, Bool.and_false, Bool.true_or, Bool.false_or, Bool.or_true, Bool.or_false]
    exact bad Upd.refl hdef
end Go.Proofs.YtlkjippiaghbmaaGreat
/- record: Replay. -/
set_option linter.unusedSimpArgs false
set_option linter.unusedVariables false
namespace Go.Proofs.YtlkjippiaghbmaaGreat
open Go
set_option maxRecDepth 20000
def outG (l : List It) (v : Value) (G : List Nat) : Prop := l ≠ [] → ∀ x n c, v = .slice (some x) n c → x.block ∉ G
theorem outG.new {h : PH} {l : List It} {v : Value} {G : List Nat} (n : NewV h v) (hG : ∀ b ∈ G, h b ≠ none) : outG l v G := fun _ x m c e hm => hG _ hm (n x m c e)
theorem ISl.updG {h h' : PH} {l : List It} {v : Value} {G F : List Nat} (V : ISl h v l) (o : outG l v G) (u : Upd F h h') (hF : ∀ b ∈ F, b ∈ G) : ISl h' v l := SlR.upd0 V u fun hne x n c e hm => o (by simpa using hne) x n c e (hF _ hm)
theorem replay1_ok {h : PH} {rE rD rM : Nat} {d : Dm} {e room : Int} {v : Value} {s : Tx} {G : List Nat} (BE : Bx h rE [.int .i64 e]) (BD : Bx h rD (d.cells v)) (BM : Bx h rM [.int .i64 room]) (V : ISl h v d.its) (n1 : rE ≠ rD) (n2 : rM ≠ rD) (n3 : rM ≠ rE) (hG : ∀ b ∈ G, h b ≠ none) (gE : rE ∈ G) (gD : rD ∈ G) (ov : outG d.its v G) (hl : d.its.length ≤ 1000) {k : Value → PH → Prop}
    (hk : ∀ h' v', Bx h' rE [.int .i64 (rstep room (d, e) s).2] → Bx h' rD ((rstep room (d, e) s).1.cells v') → ISl h' v' (rstep room (d, e) s).1.its → outG (rstep room (d, e) s).1.its v' G → (∀ {h0 : PH}, NewV h0 v → Ext h0 h → NewV h0 v') → Upd [rE, rD] h h' → k (.tuple #[]) h') :
    CallsH PG id_record_Replay_1 #[.string (tx s), .pointer (some ⟨rE, 0, none⟩), .pointer (some ⟨rD, 0, none⟩), .pointer (some ⟨rM, 0, none⟩)] h k := by
  apply record_Replay_1.call
  unfold record_Replay_1
  simp only [rc_zero, T_api_Errno.load, BE.cell, popO_some, bindH_eq, condV_bool, condV_true, condV_false, yV_bool, gopV_tt, gopV_ff, gopV_tf, gopV_ft, pickV_t, pickV_f, pickV_bool, nilS_ptr, add_eq, sub_eq, mul_eq, lss_eq, leq_eq, gtr_eq, geq_eq, not_eq, minI_eq, maxI_eq, extract_0, extract_1, extract_2, eqlI, neqI, makeFunc_eq, decide_true, decide_false, if_true, if_false, Bool.false_eq_true, Bool.not_true, Bool.not_false, reduceIte, List.getElem?_toArray, List.getElem?_cons_zero, List.getElem?_cons_succ, Option.isSome_none, List.length_map, yV_undef, gopV_none, Nat.zero_add, Nat.reduceAdd, beq_self_eq_true, bne_self_eq_false, and_self, Bool.true_and, Bool.false_and, Bool.and_true, Bool.and_false, Bool.true_or, Bool.false_or, Bool.or_true, Bool.or_false]
  intro r3 hr3
  try rw [bindH_eq]
  refine T_api_Record.fill hr3 rfl (Rc.isC _ rfl rfl) fun h1 B1 u1 => ?_
  have BE1 := BE.ext u1
  have BD1 := BD.ext u1
  have BM1 := BM.ext u1
  have n3E : r3 ≠ rE := (BE.apart hr3).symm
  have n3D : r3 ≠ rD := (BD.apart hr3).symm
  have hdef : rstep room (d, e) s = if e = 0 then (if (parseP s).2 = 0 then stp d room (parseP s).1 else (d, (parseP s).2)) else (d, e) := rfl
  simp only [BE1.cell, popO_some, bindH_eq, condV_bool, condV_true, condV_false, yV_bool, gopV_tt, gopV_ff, gopV_tf, gopV_ft, pickV_t, pickV_f, pickV_bool, nilS_ptr, add_eq, sub_eq, mul_eq, lss_eq, leq_eq, gtr_eq, geq_eq, not_eq, minI_eq, maxI_eq, extract_0, extract_1, extract_2, eqlI, neqI, makeFunc_eq, decide_true, decide_false, if_true, if_false, Bool.false_eq_true, Bool.not_true, Bool.not_false, reduceIte, List.getElem?_toArray, List.getElem?_cons_zero, List.getElem?_cons_succ, Option.isSome_none, List.length_map, yV_undef, gopV_none, Nat.zero_add, Nat.reduceAdd, beq_self_eq_true, bne_self_eq_false, and_self, Bool.true_and, Bool.false_and, Bool.and_true, Bool.and_false, Bool.true_or, Bool.false_or, Bool.or_true, Bool.or_false]
  have last : ∀ {h2 : PH} {d' : Dm} {e' : Int} {v' : Value}, rstep room (d, e) s = (d', e') → Bx h2 rD (d'.cells v') → Bx h2 rE [.int .i64 e] → ISl h2 v' d'.its → outG d'.its v' G → (∀ {h0 : PH}, NewV h0 v → Ext h0 h → NewV h0 v') → Upd [rE, rD] h h2 → record_Replay_1_k26 k (.pointer (some ⟨rE, 0, none⟩)) (.int .i64 e') h2 := by
    intro h2 d' e' v' hs B2 E2 V2 o2 w2 u2
    unfold record_Replay_1_k26
    refine T_api_Errno.put E2 (o := 0) (by show 0 < 1; decide) rfl fun h3 B3 u3 => ?_
    rw [hs] at hk
    exact hk h3 v' B3 (B2.upd u3 (by simpa using n1.symm)) (ISl.updG V2 o2 u3 fun b hb => by simp only [List.mem_singleton] at hb; subst hb; exact gE) o2 w2 (u2.trans (u3.mono fun b hb => .inl (by simp only [List.mem_singleton] at hb; simp [hb])))
  have u1' : Upd [rE, rD] h h1 := u1.upd
  by_cases c0 : e = 0
  · subst c0
    rw [if_pos rfl] at hdef
    simp only [eqlI, BE1.cell, popO_some, bindH_eq, condV_bool, condV_true, condV_false, yV_bool, gopV_tt, gopV_ff, gopV_tf, gopV_ft, pickV_t, pickV_f, pickV_bool, nilS_ptr, add_eq, sub_eq, mul_eq, lss_eq, leq_eq, gtr_eq, geq_eq, not_eq, minI_eq, maxI_eq, extract_0, extract_1, extract_2, eqlI, neqI, makeFunc_eq, decide_true, decide_false, if_true, if_false, Bool.false_eq_true, Bool.not_true, Bool.not_false, reduceIte, List.getElem?_toArray, List.getElem?_cons_zero, List.getElem?_cons_succ, Option.isSome_none, List.length_map, yV_undef, gopV_none, Nat.zero_add, Nat.reduceAdd, beq_self_eq_true, bne_self_eq_false, and_self, Bool.true_and, Bool.false_and, Bool.and_true, Bool.and_false, Bool.true_or, Bool.false_or, Bool.or_true, Bool.or_false]
    refine ⟨by trivial, ?_⟩
    refine parse_ok fun h2 vi vn VI VN ni nn u2 => ?_
    simp only [popO_some, bindH_eq, condV_bool, condV_true, condV_false, yV_bool, gopV_tt, gopV_ff, gopV_tf, gopV_ft, pickV_t, pickV_f, pickV_bool, nilS_ptr, add_eq, sub_eq, mul_eq, lss_eq, leq_eq, gtr_eq, geq_eq, not_eq, minI_eq, maxI_eq, extract_0, extract_1, extract_2, eqlI, neqI, makeFunc_eq, decide_true, decide_false, if_true, if_false, Bool.false_eq_true, Bool.not_true, Bool.not_false, reduceIte, List.getElem?_toArray, List.getElem?_cons_zero, List.getElem?_cons_succ, Option.isSome_none, List.length_map]
    have B2 := B1.ext u2
    refine T_api_Record.put B2 rfl (by show 0 + 10 ≤ 10; decide) (Rc.isC _ VI.isc VN.isc) fun h3 B3 u3 => ?_
    have hn3 : ∀ {x : Addr}, h1 x.block = none → x.block ∉ [r3] := fun hx => by
      simp only [List.mem_singleton]; intro hb; rw [hb] at hx; exact B1.known hx
    have VI3 := SlR.upd VI u3 fun x n c e => hn3 (ni x n c e)
    have VN3 := SlR.upd VN u3 fun x n c e => hn3 (nn x n c e)
    have BE3 := (BE1.ext u2).upd u3 (by simpa using n3E.symm)
    have BD3 := (BD1.ext u2).upd u3 (by simpa using n3D.symm)
    have BM3 := (BM1.ext u2).upd u3 (by simpa using (BM.apart hr3))
    have e3 : Ext h h3 := (u1.trans u2).fresh u3 (Fresh.one hr3)
    unfold record_Replay_1_k15
    by_cases c1 : (parseP s).2 = 0
    · rw [if_pos c1] at hdef
      have q : ((parseP s).2 == 0) = true := by simp [c1]
      have lr : SemE PG h3 (Instr.loadAt T_api_Record (.pointer (some ⟨r3, 0, none⟩))) = some ((parseP s).1.v vi vn) := T_api_Record.agg B3 (by show 0 + 10 ≤ 10; decide)
      simp only [eqlI, q, Dm.load (o := 0) (d := d) (v := v) BD3 rfl, T_int.load, BM3.cell, lr, popO_some, bindH_eq, condV_bool, condV_true, condV_false, yV_bool, gopV_tt, gopV_ff, gopV_tf, gopV_ft, pickV_t, pickV_f, pickV_bool, nilS_ptr, add_eq, sub_eq, mul_eq, lss_eq, leq_eq, gtr_eq, geq_eq, not_eq, minI_eq, maxI_eq, extract_0, extract_1, extract_2, eqlI, neqI, makeFunc_eq, decide_true, decide_false, if_true, if_false, Bool.false_eq_true, Bool.not_true, Bool.not_false, reduceIte, List.getElem?_toArray, List.getElem?_cons_zero, List.getElem?_cons_succ, Option.isSome_none, List.length_map, yV_undef, gopV_none, Nat.zero_add, Nat.reduceAdd, beq_self_eq_true, bne_self_eq_false, and_self, Bool.true_and, Bool.false_and, Bool.and_true, Bool.and_false, Bool.true_or, Bool.false_or, Bool.or_true, Bool.or_false]
      refine step_ok (V.ext e3) VI3 VN3 (parse_wf s) hl fun h4 v' V4 nv u4 => ?_
      simp only [popO_some, bindH_eq, condV_bool, condV_true, condV_false, yV_bool, gopV_tt, gopV_ff, gopV_tf, gopV_ft, pickV_t, pickV_f, pickV_bool, nilS_ptr, add_eq, sub_eq, mul_eq, lss_eq, leq_eq, gtr_eq, geq_eq, not_eq, minI_eq, maxI_eq, extract_0, extract_1, extract_2, eqlI, neqI, makeFunc_eq, decide_true, decide_false, if_true, if_false, Bool.false_eq_true, Bool.not_true, Bool.not_false, reduceIte, List.getElem?_toArray, List.getElem?_cons_zero, List.getElem?_cons_succ, Option.isSome_none, List.length_map]
      have o4 : outG (stp d room (parseP s).1).1.its v' G := outG.new (nv.of e3) hG
      refine T_api_Daemon.put (BD3.ext u4) rfl (by show 0 + 5 ≤ 5; decide) (Dm.isC _ V4.isc) fun h5 B5 u5 => ?_
      refine last (d' := (stp d room (parseP s).1).1) (e' := (stp d room (parseP s).1).2) (v' := v') hdef B5 ((BE3.ext u4).upd u5 (by simpa using n1)) (ISl.updG V4 o4 u5 fun b hb => by simp only [List.mem_singleton] at hb; subst hb; exact gD) o4 (fun _ e0 => (nv.of e3).of e0) ?_
      exact ((e3.trans u4).upd).trans (u5.mono fun b hb => .inl (by simp only [List.mem_singleton] at hb; simp [hb]))
    · rw [if_neg c1] at hdef
      have q : ((parseP s).2 == 0) = false := by simp [c1]
      simp only [eqlI, q, popO_some, bindH_eq, condV_bool, condV_true, condV_false, yV_bool, gopV_tt, gopV_ff, gopV_tf, gopV_ft, pickV_t, pickV_f, pickV_bool, nilS_ptr, add_eq, sub_eq, mul_eq, lss_eq, leq_eq, gtr_eq, geq_eq, not_eq, minI_eq, maxI_eq, extract_0, extract_1, extract_2, eqlI, neqI, makeFunc_eq, decide_true, decide_false, if_true, if_false, Bool.false_eq_true, Bool.not_true, Bool.not_false, reduceIte, List.getElem?_toArray, List.getElem?_cons_zero, List.getElem?_cons_succ, Option.isSome_none, List.length_map, yV_undef, gopV_none, Nat.zero_add, Nat.reduceAdd, beq_self_eq_true, bne_self_eq_false, and_self, Bool.true_and, Bool.false_and, Bool.and_true, Bool.and_false, Bool.true_or, Bool.false_or, Bool.or_true, Bool.or_false]
      exact last (d' := d) (e' := (parseP s).2) (v' := v) hdef BD3 BE3 (V.ext e3) ov (fun n _ => n) e3.upd
  · rw [if_neg c0] at hdef
    have q : (e == 0) = false := by simp [c0]
    simp only [eqlI, q, popO_some, bindH_eq, condV_bool, condV_true, condV_false, yV_bool, gopV_tt, gopV_ff, gopV_tf, gopV_ft, pickV_t, pickV_f, pickV_bool, nilS_ptr, add_eq, sub_eq, mul_eq, lss_eq, leq_eq, gtr_eq, geq_eq, not_eq, minI_eq, maxI_eq, extract_0, extract_1, extract_2, eqlI, neqI, makeFunc_eq, decide_true, decide_false, if_true, if_false, Bool.false_eq_true, Bool.not_true, Bool.not_false, reduceIte, List.getElem?_toArray, List.getElem?_cons_zero, List.getElem?_cons_succ, Option.isSome_none, List.length_map, yV_undef, gopV_none, Nat.zero_add, Nat.reduceAdd, beq_self_eq_true, bne_self_eq_false, and_self, Bool.true_and, Bool.false_and, Bool.and_true, Bool.and_false, Bool.true_or, Bool.false_or, Bool.or_true, Bool.or_false]
    refine ⟨by trivial, ?_⟩
    unfold record_Replay_1_k15
    simp only [eqlI, q, popO_some, bindH_eq, condV_bool, condV_true, condV_false, yV_bool, gopV_tt, gopV_ff, gopV_tf, gopV_ft, pickV_t, pickV_f, pickV_bool, nilS_ptr, add_eq, sub_eq, mul_eq, lss_eq, leq_eq, gtr_eq, geq_eq, not_eq, minI_eq, maxI_eq, extract_0, extract_1, extract_2, eqlI, neqI, makeFunc_eq, decide_true, decide_false, if_true, if_false, Bool.false_eq_true, Bool.not_true, Bool.not_false, reduceIte, List.getElem?_toArray, List.getElem?_cons_zero, List.getElem?_cons_succ, Option.isSome_none, List.length_map, yV_undef, gopV_none, Nat.zero_add, Nat.reduceAdd, beq_self_eq_true, bne_self_eq_false, and_self, Bool.true_and, Bool.false_and, Bool.and_true, Bool.and_false, Bool.true_or, Bool.false_or, Bool.or_true, Bool.or_false]
    exact last (d' := d) (e' := e) (v' := v) hdef BD1 BE1 (V.ext u1) ov (fun n _ => n) u1'
theorem replay_ok {h : PH} {room : Int} {x : Value} {l : List Tx} (S : SlR h 1 x (l.map tcell)) (hl : l.length ≤ 1000) {k : Value → PH → Prop}
    (hk : ∀ h' v', ISl h' v' (rpl room l).1.its → NewV h v' → Ext h h' → k (.tuple #[(rpl room l).1.v v', .int .i64 (rpl room l).2]) h') : CallsH PG id_record_Replay #[.int .i64 room, x] h k := by
  apply record_Replay.call
  unfold record_Replay
  have lx := t_len S
  intro r1 hr1
  try rw [bindH_eq]
  have u1 : Ext h (h.set r1 (.cells (Value.cells (.int .i64 room)) T_int)) := Upd.new hr1
  have B1 : Bx (h.set r1 (.cells (Value.cells (.int .i64 room)) T_int)) r1 [.int .i64 room] := Bx.new
  generalize h.set r1 (.cells (Value.cells (.int .i64 room)) T_int) = h1 at *
  intro r3 hr3
  try rw [bindH_eq]
  have u3 : Ext h1 (h1.set r3 (.cells (zcells PG T_api_Daemon) T_api_Daemon)) := Upd.new hr3
  have Z := T_api_Daemon.zbox (h := h1) (r := r3)
  have B13 := B1.ext u3
  have n13 : r1 ≠ r3 := B1.apart hr3
  generalize h1.set r3 (.cells (zcells PG T_api_Daemon) T_api_Daemon) = h3 at *
  have e3 := u1.trans u3
  have f3 : Fresh h [r3] := Fresh.one (u1.none hr3)
  cases l with
  | nil =>
    simp only [lx, List.length_nil, eqlI, show (((0 : Nat) : Int) == 0) = true from rfl, dm_zero, popO_some, bindH_eq, condV_bool, condV_true, condV_false, yV_bool, gopV_tt, gopV_ff, gopV_tf, gopV_ft, pickV_t, pickV_f, pickV_bool, nilS_ptr, add_eq, sub_eq, mul_eq, lss_eq, leq_eq, gtr_eq, geq_eq, not_eq, minI_eq, maxI_eq, extract_0, extract_1, extract_2, eqlI, neqI, makeFunc_eq, decide_true, decide_false, if_true, if_false, Bool.false_eq_true, Bool.not_true, Bool.not_false, reduceIte, List.getElem?_toArray, List.getElem?_cons_zero, List.getElem?_cons_succ, Option.isSome_none, List.length_map, yV_undef, gopV_none, Nat.zero_add, Nat.reduceAdd, beq_self_eq_true, bne_self_eq_false, and_self, Bool.true_and, Bool.false_and, Bool.and_true, Bool.and_false, Bool.true_or, Bool.false_or, Bool.or_true, Bool.or_false]
    refine T_api_Daemon.put Z rfl (by show 0 + 5 ≤ 5; decide) (Dm.isC _ rfl) fun h4 B4 u4 => ?_
    simp only [Dm.load (o := 0) (d := Dm.zero) (v := .slice none 0 0) B4 rfl, popO_some, bindH_eq, condV_bool, condV_true, condV_false, yV_bool, gopV_tt, gopV_ff, gopV_tf, gopV_ft, pickV_t, pickV_f, pickV_bool, nilS_ptr, add_eq, sub_eq, mul_eq, lss_eq, leq_eq, gtr_eq, geq_eq, not_eq, minI_eq, maxI_eq, extract_0, extract_1, extract_2, eqlI, neqI, makeFunc_eq, decide_true, decide_false, if_true, if_false, Bool.false_eq_true, Bool.not_true, Bool.not_false, reduceIte, List.getElem?_toArray, List.getElem?_cons_zero, List.getElem?_cons_succ, Option.isSome_none, List.length_map]
    exact hk h4 _ nilI NewV.nil (e3.fresh u4 f3)
  | cons s l =>
    have q : (((s :: l).length : Int) == 0) = false := by
      rw [beq_eq_false_iff_ne]
      simp only [List.length_cons]
      omega
    obtain ⟨a0, p0, q0⟩ := t_at (S.ext e3) (i := 0) (x := s) rfl
    rw [show ((0 : Nat) : Int) = 0 from rfl] at p0
    simp only [lx, eqlI, q, T_int.load, B13.cell, p0, q0, popO_some, bindH_eq, condV_bool, condV_true, condV_false, yV_bool, gopV_tt, gopV_ff, gopV_tf, gopV_ft, pickV_t, pickV_f, pickV_bool, nilS_ptr, add_eq, sub_eq, mul_eq, lss_eq, leq_eq, gtr_eq, geq_eq, not_eq, minI_eq, maxI_eq, extract_0, extract_1, extract_2, eqlI, neqI, makeFunc_eq, decide_true, decide_false, if_true, if_false, Bool.false_eq_true, Bool.not_true, Bool.not_false, reduceIte, List.getElem?_toArray, List.getElem?_cons_zero, List.getElem?_cons_succ, Option.isSome_none, List.length_map, yV_undef, gopV_none, Nat.zero_add, Nat.reduceAdd, beq_self_eq_true, bne_self_eq_false, and_self, Bool.true_and, Bool.false_and, Bool.and_true, Bool.and_false, Bool.true_or, Bool.false_or, Bool.or_true, Bool.or_false]
    refine rec_first_ok fun h4 v V4 nv u4 => ?_
    have e4 := e3.trans u4
    simp only [popO_some, bindH_eq, condV_bool, condV_true, condV_false, yV_bool, gopV_tt, gopV_ff, gopV_tf, gopV_ft, pickV_t, pickV_f, pickV_bool, nilS_ptr, add_eq, sub_eq, mul_eq, lss_eq, leq_eq, gtr_eq, geq_eq, not_eq, minI_eq, maxI_eq, extract_0, extract_1, extract_2, eqlI, neqI, makeFunc_eq, decide_true, decide_false, if_true, if_false, Bool.false_eq_true, Bool.not_true, Bool.not_false, reduceIte, List.getElem?_toArray, List.getElem?_cons_zero, List.getElem?_cons_succ, Option.isSome_none, List.length_map]
    intro rD hrD
    try rw [bindH_eq]
    intro rE hrE
    try rw [bindH_eq]
    have uD : Ext h4 (h4.set rD (.cells (zcells PG T_api_Daemon) T_api_Daemon)) := Upd.new hrD
    have ZD := T_api_Daemon.zbox (h := h4) (r := rD)
    generalize h4.set rD (.cells (zcells PG T_api_Daemon) T_api_Daemon) = h5 at *
    have uE : Ext h5 (h5.set rE (.cells (zcells PG T_api_Errno) T_api_Errno)) := Upd.new hrE
    have ZE := T_api_Errno.zbox (h := h5) (r := rE)
    have ZD6 := ZD.ext uE
    have nED : rE ≠ rD := (ZD.apart hrE).symm
    generalize h5.set rE (.cells (zcells PG T_api_Errno) T_api_Errno) = h6 at *
    have e46 := uD.trans uE
    have B6 := (B13.ext u4).ext e46
    have Z6 := (Z.ext u4).ext e46
    have n1D : r1 ≠ rD := (B13.ext u4).apart hrD
    have n1E : r1 ≠ rE := ((B13.ext u4).ext uD).apart hrE
    have n3D : r3 ≠ rD := (Z.ext u4).apart hrD
    have n3E : r3 ≠ rE := ((Z.ext u4).ext uD).apart hrE
    have K4 : ∀ b ∈ [r1, r3, rD, rE], h6 b ≠ none := by
      intro b hb
      simp only [List.mem_cons, List.not_mem_nil, or_false] at hb
      rcases hb with rfl | rfl | rfl | rfl
      · exact B6.known
      · exact Z6.known
      · exact ZD6.known
      · exact ZE.known
    have ov : outG (first0 room s).1.its v [r1, r3, rD, rE] := fun hne y n c e hm => by
      have hn := nv y n c e
      have hk4 := V4.known (by simpa using hne) e
      simp only [List.mem_cons, List.not_mem_nil, or_false] at hm
      rcases hm with hm | hm | hm | hm
      · rw [hm] at hn; exact B13.known hn
      · rw [hm] at hn; exact Z.known hn
      · rw [hm] at hk4; exact hk4 hrD
      · rw [hm] at hk4; exact hk4 (uD.none hrE)
    have nvh : NewV h v := nv.of e3
    have fG : Fresh h [rE, rD] := fun b hb => by
      simp only [List.mem_cons, List.not_mem_nil, or_false] at hb
      rcases hb with rfl | rfl
      · exact (e4.trans uD).none hrE
      · exact e4.none hrD
    have V6 := (V4.ext uD).ext uE
    refine T_api_Daemon.put ZD6 rfl (by show 0 + 5 ≤ 5; decide) (Dm.isC _ V4.isc) fun h7 B7 u7 => ?_
    refine T_api_Errno.put (ZE.upd u7 (by simpa using nED)) (o := 0) (by show 0 < 1; decide) rfl fun h8 B8 u8 => ?_
    have BD8 := B7.upd u8 (by simpa using nED.symm)
    have V8 : ISl h8 v (first0 room s).1.its := ISl.updG (ISl.updG V6 ov u7 fun b hb => by simp only [List.mem_singleton] at hb; subst hb; simp) ov u8 fun b hb => by simp only [List.mem_singleton] at hb; subst hb; simp
    have B18 := (B6.upd u7 (by simpa using n1D)).upd u8 (by simpa using n1E)
    have Z8 := (Z6.upd u7 (by simpa using n3D)).upd u8 (by simpa using n3E)
    have e8 : Ext h h8 := (((e4.trans e46).fresh u7 fun b hb => fG b (by simp only [List.mem_singleton] at hb; simp [hb]))).fresh u8 fun b hb => fG b (by simp only [List.mem_singleton] at hb; simp [hb])
    have hcut := S.cut (lo := some (.int .i64 ((1 : Nat) : Int))) (hi := none) (l := 1) (m := (s :: l).length) T_sl_string.und T_string.info T_string.size (.inr ⟨_, rfl⟩) (.inl ⟨rfl, by simp⟩) (by simp) (by simp)
    obtain ⟨x', s1, t1, -⟩ := hcut
    have hrows : (((s :: l).map tcell).take (s :: l).length).drop 1 = l.map tcell := by
      rw [List.take_of_length_le (by simp)]; rfl
    rw [hrows] at t1
    rw [show ((1 : Nat) : Int) = 1 from rfl] at s1
    have lx' := t_len t1
    have e7' : first0 room s = ((first0 room s).1, (first0 room s).2) := rfl
    simp only [s1, lx', popO_some, bindH_eq, condV_bool, condV_true, condV_false, yV_bool, gopV_tt, gopV_ff, gopV_tf, gopV_ft, pickV_t, pickV_f, pickV_bool, nilS_ptr, add_eq, sub_eq, mul_eq, lss_eq, leq_eq, gtr_eq, geq_eq, not_eq, minI_eq, maxI_eq, extract_0, extract_1, extract_2, eqlI, neqI, makeFunc_eq, decide_true, decide_false, if_true, if_false, Bool.false_eq_true, Bool.not_true, Bool.not_false, reduceIte, List.getElem?_toArray, List.getElem?_cons_zero, List.getElem?_cons_succ, Option.isSome_none, List.length_map, yV_undef, gopV_none, Nat.zero_add, Nat.reduceAdd, beq_self_eq_true, bne_self_eq_false, and_self, Bool.true_and, Bool.false_and, Bool.and_true, Bool.and_false, Bool.true_or, Bool.false_or, Bool.or_true, Bool.or_false]
    refine ⟨fun vs h' => ∃ (i : Nat) (d : Dm) (e : Int) (v : Value), i ≤ l.length ∧ vs = [.pointer (some ⟨r3, 0, none⟩), .pointer (some ⟨rD, 0, none⟩), .pointer (some ⟨rE, 0, none⟩), .func (.func id_record_Replay_1) #[] #[.pointer (some ⟨rE, 0, none⟩), .pointer (some ⟨rD, 0, none⟩), .pointer (some ⟨r1, 0, none⟩)], x', .int .i64 (l.length : Int), .int .i64 (i : Int)] ∧ Bx h' rE [.int .i64 e] ∧ Bx h' rD (d.cells v) ∧ Bx h' r1 [.int .i64 room] ∧ Bx h' r3 (Dm.zero.cells (.slice none 0 0)) ∧ ISl h' v d.its ∧ outG d.its v [r1, r3, rD, rE] ∧ NewV h v ∧ Ext h h' ∧ (d, e) = (l.take i).foldl (rstep room) (first0 room s) ∧ d.its.length ≤ 1000, upTo l.length 6, ⟨0, _, _, v, by omega, rfl, B8, BD8, B18, Z8, V8, ov, nvh, e8, rfl, by have := first0_len (room := room) (s := s); omega⟩, ?_⟩
    rintro ρ h' ⟨i, d, e, v', hi, hvs, BE, BD, BM, BZ, V', o', nv', e', hst, hlen⟩
    simp only [List.map_cons, List.map_nil, List.cons.injEq, and_true] at hvs
    obtain ⟨v4, v6, v7, v8, v25, v26, v27⟩ := hvs
    simp only [v4, v6, v7, v8, v25, v26, v27, List.map_cons, List.map_nil]
    unfold record_Replay_b30
    have hGK : ∀ b ∈ [r1, r3, rD, rE], h' b ≠ none := by
      intro b hb
      simp only [List.mem_cons, List.not_mem_nil, or_false] at hb
      rcases hb with rfl | rfl | rfl | rfl
      · exact BM.known
      · exact BZ.known
      · exact BD.known
      · exact BE.known
    by_cases hlt : i < l.length
    · have g1 : ((i : Int) < (l.length : Int)) = True := eq_true (by omega)
      have gi : IntKind.i64.wrap ((i : Int) + 1) = ((i + 1 : Nat) : Int) := by rw [i64_wrap (by omega) (by simp only [List.length_cons] at hl; omega)]; omega
      obtain ⟨pa, p1, q1⟩ := t_at (t1.ext e') (i := i) (x := l[i]) (List.getElem?_eq_getElem hlt)
      have htk : (l.take (i + 1)).foldl (rstep room) (first0 room s) = rstep room (d, e) l[i] := by
        rw [List.take_succ_eq_append_getElem hlt, List.foldl_append, ← hst]; rfl
      generalize l[i] = y at *
      simp only [g1, p1, q1, popO_some, bindH_eq, condV_bool, condV_true, condV_false, yV_bool, gopV_tt, gopV_ff, gopV_tf, gopV_ft, pickV_t, pickV_f, pickV_bool, nilS_ptr, add_eq, sub_eq, mul_eq, lss_eq, leq_eq, gtr_eq, geq_eq, not_eq, minI_eq, maxI_eq, extract_0, extract_1, extract_2, eqlI, neqI, makeFunc_eq, decide_true, decide_false, if_true, if_false, Bool.false_eq_true, Bool.not_true, Bool.not_false, reduceIte, List.getElem?_toArray, List.getElem?_cons_zero, List.getElem?_cons_succ, Option.isSome_none, List.length_map]
      show CallsH PG id_record_Replay_1 #[.string (tx y), .pointer (some ⟨rE, 0, none⟩), .pointer (some ⟨rD, 0, none⟩), .pointer (some ⟨r1, 0, none⟩)] h' _
      refine replay1_ok BE BD BM V' nED n1D n1E hGK (by simp) (by simp) o' hlen fun h9 v9 BE9 BD9 V9 o9 nw9 u9 => ?_
      simp only [gi, popO_some, bindH_eq, condV_bool, condV_true, condV_false, yV_bool, gopV_tt, gopV_ff, gopV_tf, gopV_ft, pickV_t, pickV_f, pickV_bool, nilS_ptr, add_eq, sub_eq, mul_eq, lss_eq, leq_eq, gtr_eq, geq_eq, not_eq, minI_eq, maxI_eq, extract_0, extract_1, extract_2, eqlI, neqI, makeFunc_eq, decide_true, decide_false, if_true, if_false, Bool.false_eq_true, Bool.not_true, Bool.not_false, reduceIte, List.getElem?_toArray, List.getElem?_cons_zero, List.getElem?_cons_succ, Option.isSome_none, List.length_map]
      refine ⟨⟨i + 1, _, _, v9, by omega, rfl, BE9, BD9, BM.upd u9 (by simp [n1D, n1E]), BZ.upd u9 (by simp [n3D, n3E]), V9, o9, ?_, e'.fresh u9 fG, htk.symm, ?_⟩, ?_⟩
      · exact nw9 nv' e'
      · unfold rstep
        split
        · split
          · have := stp_len (d := d) (room := room) (r := (parseP y).1); simp only at *; omega
          · exact hlen
        · exact hlen
      · simp only [upTo, List.getElem?_cons_succ, List.getElem?_cons_zero]
        omega
    · have g1 : ((i : Int) < (l.length : Int)) = False := eq_false (by omega)
      rw [List.take_of_length_le (by omega)] at hst
      have hdef : rpl room (s :: l) = if e ≠ 0 then (Dm.zero, e) else (d, e) := by
        show (if (l.foldl (rstep room) (first0 room s)).2 ≠ 0 then _ else _) = _
        rw [← hst]
      simp only [g1, T_api_Errno.load, BE.cell, popO_some, bindH_eq, condV_bool, condV_true, condV_false, yV_bool, gopV_tt, gopV_ff, gopV_tf, gopV_ft, pickV_t, pickV_f, pickV_bool, nilS_ptr, add_eq, sub_eq, mul_eq, lss_eq, leq_eq, gtr_eq, geq_eq, not_eq, minI_eq, maxI_eq, extract_0, extract_1, extract_2, eqlI, neqI, makeFunc_eq, decide_true, decide_false, if_true, if_false, Bool.false_eq_true, Bool.not_true, Bool.not_false, reduceIte, List.getElem?_toArray, List.getElem?_cons_zero, List.getElem?_cons_succ, Option.isSome_none, List.length_map, yV_undef, gopV_none, Nat.zero_add, Nat.reduceAdd, beq_self_eq_true, bne_self_eq_false, and_self, Bool.true_and, Bool.false_and, Bool.and_true, Bool.and_false, Bool.true_or, Bool.false_or, Bool.or_true, Bool.or_false]
      by_cases h0 : e = 0
      · rw [if_neg (by simp [h0])] at hdef
        have q0' : (e != 0) = false := by simp [h0]
        simp only [neqI, q0', Dm.load (o := 0) (d := d) (v := v') BD rfl, popO_some, bindH_eq, condV_bool, condV_true, condV_false, yV_bool, gopV_tt, gopV_ff, gopV_tf, gopV_ft, pickV_t, pickV_f, pickV_bool, nilS_ptr, add_eq, sub_eq, mul_eq, lss_eq, leq_eq, gtr_eq, geq_eq, not_eq, minI_eq, maxI_eq, extract_0, extract_1, extract_2, eqlI, neqI, makeFunc_eq, decide_true, decide_false, if_true, if_false, Bool.false_eq_true, Bool.not_true, Bool.not_false, reduceIte, List.getElem?_toArray, List.getElem?_cons_zero, List.getElem?_cons_succ, Option.isSome_none, List.length_map, yV_undef, gopV_none, Nat.zero_add, Nat.reduceAdd, beq_self_eq_true, bne_self_eq_false, and_self, Bool.true_and, Bool.false_and, Bool.and_true, Bool.and_false, Bool.true_or, Bool.false_or, Bool.or_true, Bool.or_false]
        refine T_api_Daemon.put BZ rfl (by show 0 + 5 ≤ 5; decide) (Dm.isC _ V'.isc) fun h9 B9 u9 => ?_
        simp only [Dm.load (o := 0) (d := d) (v := v') B9 rfl, popO_some, bindH_eq, condV_bool, condV_true, condV_false, yV_bool, gopV_tt, gopV_ff, gopV_tf, gopV_ft, pickV_t, pickV_f, pickV_bool, nilS_ptr, add_eq, sub_eq, mul_eq, lss_eq, leq_eq, gtr_eq, geq_eq, not_eq, minI_eq, maxI_eq, extract_0, extract_1, extract_2, eqlI, neqI, makeFunc_eq, decide_true, decide_false, if_true, if_false, Bool.false_eq_true, Bool.not_true, Bool.not_false, reduceIte, List.getElem?_toArray, List.getElem?_cons_zero, List.getElem?_cons_succ, Option.isSome_none, List.length_map]
        rw [hdef] at hk
        subst h0
        exact hk h9 v' (ISl.updG V' o' u9 fun b hb => by simp only [List.mem_singleton] at hb; subst hb; simp) nv' (e'.fresh u9 f3)
      · rw [if_pos h0] at hdef
        have q0' : (e != 0) = true := by simp [h0]
        simp only [neqI, q0', dm_zero, BE.cell, popO_some, bindH_eq, condV_bool, condV_true, condV_false, yV_bool, gopV_tt, gopV_ff, gopV_tf, gopV_ft, pickV_t, pickV_f, pickV_bool, nilS_ptr, add_eq, sub_eq, mul_eq, lss_eq, leq_eq, gtr_eq, geq_eq, not_eq, minI_eq, maxI_eq, extract_0, extract_1, extract_2, eqlI, neqI, makeFunc_eq, decide_true, decide_false, if_true, if_false, Bool.false_eq_true, Bool.not_true, Bool.not_false, reduceIte, List.getElem?_toArray, List.getElem?_cons_zero, List.getElem?_cons_succ, Option.isSome_none, List.length_map, yV_undef, gopV_none, Nat.zero_add, Nat.reduceAdd, beq_self_eq_true, bne_self_eq_false, and_self, Bool.true_and, Bool.false_and, Bool.and_true, Bool.and_false, Bool.true_or, Bool.false_or, Bool.or_true, Bool.or_false]
        refine T_api_Daemon.put BZ rfl (by show 0 + 5 ≤ 5; decide) (Dm.isC _ rfl) fun h9 B9 u9 => ?_
        have BE9 := BE.upd u9 (by simpa using n3E.symm)
        simp only [BE9.cell, Dm.load (o := 0) (d := Dm.zero) (v := .slice none 0 0) B9 rfl, popO_some, bindH_eq, condV_bool, condV_true, condV_false, yV_bool, gopV_tt, gopV_ff, gopV_tf, gopV_ft, pickV_t, pickV_f, pickV_bool, nilS_ptr, add_eq, sub_eq, mul_eq, lss_eq, leq_eq, gtr_eq, geq_eq, not_eq, minI_eq, maxI_eq, extract_0, extract_1, extract_2, eqlI, neqI, makeFunc_eq, decide_true, decide_false, if_true, if_false, Bool.false_eq_true, Bool.not_true, Bool.not_false, reduceIte, List.getElem?_toArray, List.getElem?_cons_zero, List.getElem?_cons_succ, Option.isSome_none, List.length_map, yV_undef, gopV_none, Nat.zero_add, Nat.reduceAdd, beq_self_eq_true, bne_self_eq_false, and_self, Bool.true_and, Bool.false_and, Bool.and_true, Bool.and_false, Bool.true_or, Bool.false_or, Bool.or_true, Bool.or_false]
        refine ⟨by trivial, ?_⟩
        rw [hdef] at hk
        exact hk h9 _ nilI NewV.nil (e'.fresh u9 f3)
end Go.Proofs.YtlkjippiaghbmaaGreat
/- record: what is written is what is read. -/
set_option linter.unusedSimpArgs false
set_option linter.unusedVariables false
namespace Go.Proofs.YtlkjippiaghbmaaGreat
open Go
set_option maxRecDepth 20000
def rS1 (st : Stt) : (Pl × List (Int × Pk)) × Stt := (((rPl st).1, (rList 2 (rPl st).2).1), (rList 2 (rPl st).2).2)
def rS0 (st : Stt) : Rc × Stt := (⟨1, ⟨(rPl st).1, (rS1 (rPl st).2).1.1, (rS1 (rPl st).2).1.2.map It.of⟩, 0, Pl.zero, []⟩, (rS1 (rPl st).2).2)
def rN1 (st : Stt) : (Pl × List (Int × Pk)) × Stt := (((rPl st).1, (rList 4 (rPl st).2).1), (rList 4 (rPl st).2).2)
def rN0 (st : Stt) : Rc × Stt := (⟨2, Dm.zero, ((rGet st 1).1 : Int), (rN1 (rGet st 1).2).1.1, (rN1 (rGet st 1).2).1.2.map Nt.of⟩, (rN1 (rGet st 1).2).2)
def rdB (k : Nat) (st : Stt) : Rc × Stt := if k = 1 then rS0 st else if k = 2 then rN0 st else (⟨(k : Int), Dm.zero, 0, Pl.zero, []⟩, st)
def rdS (st : Stt) : Rc × Stt := (((fun _ r => r) (rGet st 1).1 (rdB (rGet st 1).1 (rGet st 1).2).1), (rdB (rGet st 1).1 (rGet st 1).2).2)
theorem rd_eq (s : Tx) : Rc.rd s = rdS (0, s) := by
  unfold Rc.rd rdS rdB
  split
  · rfl
  · split <;> rfl
theorem rS1_sticky : Sticky rS1 := fun e s h => (rList_sticky 2).keep (rPl_sticky e s h) h
theorem rS0_sticky : Sticky rS0 := fun e s h => rS1_sticky.keep (rPl_sticky e s h) h
theorem rN1_sticky : Sticky rN1 := fun e s h => (rList_sticky 4).keep (rPl_sticky e s h) h
theorem rN0_sticky : Sticky rN0 := fun e s h => rN1_sticky.keep (rGet_sticky 1 e s h) h
theorem rdB_sticky (k : Nat) : Sticky (rdB k) := fun e s h => by
  unfold rdB
  split
  · exact rS0_sticky e s h
  · split
    · exact rN0_sticky e s h
    · rfl
def ItOk (i : It) : Prop := 1 ≤ i.g ∧ i.g ≤ 2 ∧ i.p.right = true
def NtOk (n : Nt) : Prop := 1 ≤ n.k ∧ n.k ≤ 4 ∧ n.p.right = true
theorem okOne_it {i : It} : okOne i.x ↔ ItOk i := by
  unfold okOne It.x kindN ItOk
  simp only
  split <;> constructor <;> rintro ⟨a, b, c⟩ <;> refine ⟨?_, ?_, c⟩ <;> omega
theorem okOne_nt {i : Nt} : okOne i.x ↔ NtOk i := by
  unfold okOne Nt.x kindN NtOk
  simp only
  split <;> constructor <;> rintro ⟨a, b, c⟩ <;> refine ⟨?_, ?_, c⟩ <;> omega
theorem x_it {i : It} (h : ItOk i) : i.x = (i.g, i.p) := by
  unfold ItOk at h
  unfold It.x kindN
  rw [if_neg (by omega)]
theorem x_nt {i : Nt} (h : NtOk i) : i.x = (i.k, i.p) := by
  unfold NtOk at h
  unfold Nt.x kindN
  rw [if_neg (by omega)]
theorem of_it {i : It} (h : ItOk i) : It.of i.x = i := by rw [x_it h]; rfl
theorem of_nt {i : Nt} (h : NtOk i) : Nt.of i.x = i := by rw [x_nt h]; rfl
theorem ofs_it {l : List It} (h : ∀ i ∈ l, ItOk i) : (l.map It.x).map It.of = l := by
  rw [List.map_map]
  conv => rhs; rw [← List.map_id l]
  exact List.map_congr_left fun i hi => of_it (h i hi)
theorem ofs_nt {l : List Nt} (h : ∀ i ∈ l, NtOk i) : (l.map Nt.x).map Nt.of = l := by
  rw [List.map_map]
  conv => rhs; rw [← List.map_id l]
  exact List.map_congr_left fun i hi => of_nt (h i hi)
theorem okList_it {l : List It} (hl : l.length ≤ 40) : okList (l.map It.x) ↔ ∀ i ∈ l, ItOk i := by
  unfold okList
  simp only [List.length_map, List.forall_mem_map, okOne_it]
  exact ⟨fun h => h.2, fun h => ⟨by omega, h⟩⟩
theorem okList_nt {l : List Nt} (hl : l.length ≤ 16) : okList (l.map Nt.x) ↔ ∀ i ∈ l, NtOk i := by
  unfold okList
  simp only [List.length_map, List.forall_mem_map, okOne_nt]
  exact ⟨fun h => h.2, fun h => ⟨by omega, h⟩⟩
/-- What has bytes. -/
structure RcOk (r : Rc) : Prop where
  plain : r.plain = true
  a : r.k = 1 → okPl r.s.p0 ∧ okPl r.s.p1 ∧ ∀ i ∈ r.s.its, ItOk i
  b : r.k = 2 → okPl r.pl ∧ ∀ i ∈ r.ns, NtOk i
def Rc.bs (r : Rc) : Tx := if r.k = 1 then be 1 1 ++ (r.s.p0.bs ++ (r.s.p1.bs ++ listBs (r.s.its.map It.x))) else be 2 1 ++ (be r.ch.toNat 1 ++ (r.pl.bs ++ listBs (r.ns.map Nt.x)))
theorem wBytes_bad {st : Stt} (h : st.1 = 1) : wBytes st = ([], 1) := by unfold wBytes; rw [h, if_neg (by decide)]
theorem bytes_iff (r : Rc) : (RcOk r ∧ r.bytes = (r.bs, 0)) ∨ (¬ RcOk r ∧ r.bytes = ([], 1)) := by
  by_cases hp : r.plain = true
  · by_cases k1 : r.k = 1
    · obtain ⟨-, -, -, h40⟩ := plain1 hp k1
      have e0 : wByte (0, []) r.k = (0, be 1 1) := by rw [k1]; rfl
      by_cases a : okPl r.s.p0
      · by_cases b : okPl r.s.p1
        · by_cases c : okList (r.s.its.map It.x)
          · left
            refine ⟨⟨hp, fun _ => ⟨a, b, (okList_it h40).1 c⟩, fun h => by omega⟩, ?_⟩
            unfold Rc.bytes Rc.wr Rc.bs
            rw [if_pos hp, if_pos k1, if_pos k1, e0, wPl_good a, wPl_good b, wList_good c]
            simp only [wBytes, if_true, List.append_assoc]
          · right
            refine ⟨fun h => c ((okList_it h40).2 (h.a k1).2.2), ?_⟩
            unfold Rc.bytes Rc.wr
            rw [if_pos hp, if_pos k1, e0, wPl_good a, wPl_good b]
            exact wBytes_bad (wList_wrong c _)
        · right
          refine ⟨fun h => b (h.a k1).2.1, ?_⟩
          unfold Rc.bytes Rc.wr
          rw [if_pos hp, if_pos k1, e0, wPl_good a]
          exact wBytes_bad (wList_bad (wPl_wrong b _) _)
      · right
        refine ⟨fun h => a (h.a k1).1, ?_⟩
        unfold Rc.bytes Rc.wr
        rw [if_pos hp, if_pos k1, e0]
        exact wBytes_bad (wList_bad (wPl_bad (wPl_wrong a _) _) _)
    · obtain ⟨k2, -, hc, h16⟩ := plain2 hp k1
      have e0 : wByte (0, []) r.k = (0, be 2 1) := by rw [k2]; rfl
      have e1 : wByte (0, be 2 1) r.ch = (0, be 2 1 ++ be r.ch.toNat 1) := by unfold wByte; rw [if_pos (by omega)]
      by_cases a : okPl r.pl
      · by_cases c : okList (r.ns.map Nt.x)
        · left
          refine ⟨⟨hp, fun h => absurd h k1, fun _ => ⟨a, (okList_nt h16).1 c⟩⟩, ?_⟩
          unfold Rc.bytes Rc.wr Rc.bs
          rw [if_pos hp, if_neg k1, if_neg k1, e0, e1, wPl_good a, wList_good c]
          simp only [wBytes, if_true, List.append_assoc]
        · right
          refine ⟨fun h => c ((okList_nt h16).2 (h.b k2).2), ?_⟩
          unfold Rc.bytes Rc.wr
          rw [if_pos hp, if_neg k1, e0, e1, wPl_good a]
          exact wBytes_bad (wList_wrong c _)
      · right
        refine ⟨fun h => a (h.b k2).1, ?_⟩
        unfold Rc.bytes Rc.wr
        rw [if_pos hp, if_neg k1, e0, e1]
        exact wBytes_bad (wList_bad (wPl_wrong a _) _)
  · right
    refine ⟨fun h => hp h.plain, ?_⟩
    unfold Rc.bytes
    rw [if_neg hp]
theorem bytes_zero {r : Rc} (h : r.bytes.2 = 0) : RcOk r ∧ r.bytes.1 = r.bs := by
  rcases bytes_iff r with ⟨a, b⟩ | ⟨a, b⟩
  · exact ⟨a, by rw [b]⟩
  · rw [b] at h; cases h
theorem bytes_not {r : Rc} (h : r.bytes.2 ≠ 0) : ¬ RcOk r ∧ r.bytes = ([], 1) := by
  rcases bytes_iff r with ⟨a, b⟩ | ⟨a, b⟩
  · rw [b] at h; exact absurd rfl h
  · exact ⟨a, b⟩
theorem rd_reads {r : Rc} (h : RcOk r) (w : r.wf) : Reads rdS r.bs r := by
  have hp := h.plain
  by_cases k1 : r.k = 1
  · obtain ⟨a, b, c⟩ := h.a k1
    obtain ⟨q0, q1, q2, q3⟩ := plain1 hp k1
    have hl := rList_reads (g := 2) (by decide) (l := r.s.its.map It.x) (by simp; omega) fun x hx => by
      obtain ⟨i, hi, rfl⟩ := List.mem_map.1 hx
      have := c i hi
      rw [x_it this]
      exact ⟨this.1, this.2.1, this.2.2, w.s.i i hi⟩
    have s1 : Reads rS1 _ _ := (rPl_reads b w.s.b.1 w.s.b.2).bind (S := fun _ st => rList 2 st) (f := fun p l => (p, l)) hl fun _ => rList_sticky 2
    have s0 : Reads rS0 _ _ := (rPl_reads a w.s.a.1 w.s.a.2).bind (S := fun _ st => rS1 st) (f := fun p x => (⟨1, ⟨p, x.1, x.2.map It.of⟩, 0, Pl.zero, []⟩ : Rc)) s1 fun _ => rS1_sticky
    have sB : Reads (rdB 1) _ _ := s0
    have sS : Reads rdS _ _ := (rGet_reads (n := 1) (c := 1) (by decide)).bind (S := fun k st => rdB k st) (f := fun _ r => r) sB fun k => rdB_sticky k
    have er : (⟨1, ⟨r.s.p0, r.s.p1, (r.s.its.map It.x).map It.of⟩, 0, Pl.zero, []⟩ : Rc) = r := by
      rw [ofs_it c]
      obtain ⟨k, ⟨p0, p1, its⟩, ch, pl, ns⟩ := r
      simp only at k1 q0 q1 q2
      subst k1 q0 q1 q2
      rfl
    simp only at sS
    rw [er] at sS
    unfold Rc.bs
    rw [if_pos k1]
    exact sS
  · obtain ⟨k2, q0, q1, q2⟩ := plain2 hp k1
    obtain ⟨a, c⟩ := h.b k2
    have hl := rList_reads (g := 4) (by decide) (l := r.ns.map Nt.x) (by simp; omega) fun x hx => by
      obtain ⟨i, hi, rfl⟩ := List.mem_map.1 hx
      have := c i hi
      rw [x_nt this]
      exact ⟨this.1, this.2.1, this.2.2, w.n i hi⟩
    have s1 : Reads rN1 _ _ := (rPl_reads a w.pl.1 w.pl.2).bind (S := fun _ st => rList 4 st) (f := fun p l => (p, l)) hl fun _ => rList_sticky 4
    have s0 : Reads rN0 _ _ := (rGet_reads (n := r.ch.toNat) (c := 1) (by omega)).bind (S := fun _ st => rN1 st) (f := fun (k : Nat) (x : Pl × List (Int × Pk)) => (⟨2, Dm.zero, (k : Int), x.1, x.2.map Nt.of⟩ : Rc)) s1 fun _ => rN1_sticky
    have sB : Reads (rdB 2) _ _ := s0
    have sS : Reads rdS _ _ := (rGet_reads (n := 2) (c := 1) (by decide)).bind (S := fun k st => rdB k st) (f := fun _ r => r) sB fun k => rdB_sticky k
    have er : (⟨2, Dm.zero, (r.ch.toNat : Int), r.pl, (r.ns.map Nt.x).map Nt.of⟩ : Rc) = r := by
      rw [ofs_nt c, Int.toNat_of_nonneg (by omega)]
      obtain ⟨k, ⟨p0, p1, its⟩, ch, pl, ns⟩ := r
      simp only at k2 q0
      subst k2
      rw [← q0]
    simp only at sS
    rw [er] at sS
    unfold Rc.bs
    rw [if_neg k1]
    exact sS
theorem parse_back {r : Rc} (h : RcOk r) (w : r.wf) : parseP r.bs = (r, 0) := by
  have hr := (rd_reads h w).all []
  rw [List.append_nil] at hr
  unfold parseP parseSt
  rw [rd_eq, hr]
  simp only [h.plain, if_true]
  rfl
theorem parse_more {r : Rc} (h : RcOk r) (w : r.wf) {more : Tx} (hm : more ≠ []) : parseP (r.bs ++ more) = (Rc.zero, 7) := by
  have hr := (rd_reads h w).all more
  have e7 : rEnd (0, more) = 7 := by unfold rEnd; rw [if_pos ⟨rfl, hm⟩]
  unfold parseP parseSt
  rw [rd_eq, hr]
  simp only [h.plain, if_true, e7]
  rfl
theorem parse_cut {r : Rc} (h : RcOk r) (w : r.wf) {n : Nat} (hn : n < r.bs.length) : parseP (r.bs.take n) = (Rc.zero, 6) := by
  have hr := (rd_reads h w).cut n hn
  have hst : (parseSt (r.bs.take n)).1 = 6 := by
    unfold parseSt
    rw [rd_eq]
    split
    · exact hr
    · exact rFail_sticky hr (by decide)
  have e6 : rEnd (parseSt (r.bs.take n)) = 6 := by unfold rEnd; rw [hst, if_neg (by simp)]
  unfold parseP
  rw [e6, if_pos (by decide)]
end Go.Proofs.YtlkjippiaghbmaaGreat
/- record: the statements' helpers; the example. -/
set_option linter.unusedSimpArgs false
set_option linter.unusedVariables false
namespace Go.Proofs.YtlkjippiaghbmaaGreat
open Go
set_option maxRecDepth 20000
theorem two_load {h : PH} {r : Nat} {cs : List Value} (B : Bx h r cs) {o : Nat} {p q : Pl} (ho : (cs.drop o).take 4 = p.cells ++ q.cells) : SemE PG h (Instr.loadAt T_2_api_Place (.pointer (some ⟨r, o, none⟩))) = some (two p q) := by
  have hl : o + 4 ≤ cs.length := by
    have : ((cs.drop o).take 4).length = 4 := by rw [ho]; rfl
    rw [List.length_take, List.length_drop] at this; omega
  rw [T_2_api_Place.agg B hl, ho]; rfl
theorem pl_load {h : PH} {r : Nat} {cs : List Value} (B : Bx h r cs) {o : Nat} {p : Pl} (ho : (cs.drop o).take 2 = p.cells) : SemE PG h (Instr.loadAt T_api_Place (.pointer (some ⟨r, o, none⟩))) = some (.agg p.cells.toArray) := by
  have hl : o + 2 ≤ cs.length := by
    have : ((cs.drop o).take 2).length = 2 := by rw [ho]; rfl
    rw [List.length_take, List.length_drop] at this; omega
  rw [T_api_Place.agg B hl, ho]
theorem sameState_ok {h : PH} {d d' : Dm} {v v' : Value} (V : ISl h v d.its) (V' : ISl h v' d'.its) (hl : d.its.length ≤ 1000000) {k : Value → PH → Prop} (hk : ∀ h', Ext h h' → k (.bool (decide (d = d'))) h') : CallsH PG id_carrackref17_SameState #[d.v v, d'.v v'] h k := by
  apply carrackref17_SameState.call
  unfold carrackref17_SameState
  intro r1 hr1
  try rw [bindH_eq]
  have u1 : Ext h (h.set r1 (.cells (Value.cells (d.v v)) T_api_Daemon)) := Upd.new hr1
  have B1 : Bx (h.set r1 (.cells (Value.cells (d.v v)) T_api_Daemon)) r1 (d.cells v) := Bx.new
  generalize h.set r1 (.cells (Value.cells (d.v v)) T_api_Daemon) = h1 at *
  intro r3 hr3
  try rw [bindH_eq]
  have u3 : Ext h1 (h1.set r3 (.cells (Value.cells (d'.v v')) T_api_Daemon)) := Upd.new hr3
  have B3 : Bx (h1.set r3 (.cells (Value.cells (d'.v v')) T_api_Daemon)) r3 (d'.cells v') := Bx.new
  have B13 := B1.ext u3
  generalize h1.set r3 (.cells (Value.cells (d'.v v')) T_api_Daemon) = h3 at *
  have u := u1.trans u3
  have hk := hk _ u
  have la : SemE PG h3 (Instr.loadAt T_2_api_Place (.pointer (some ⟨r1, 0, none⟩))) = some (two d.p0 d.p1) := two_load B13 rfl
  have lb : SemE PG h3 (Instr.loadAt T_2_api_Place (.pointer (some ⟨r3, 0, none⟩))) = some (two d'.p0 d'.p1) := two_load B3 rfl
  simp only [T_api_Daemon.f0, la, lb, two.eql, popO_some, bindH_eq, condV_bool, condV_true, condV_false, yV_bool, gopV_tt, gopV_ff, gopV_tf, gopV_ft, pickV_t, pickV_f, pickV_bool, nilS_ptr, add_eq, sub_eq, mul_eq, lss_eq, leq_eq, gtr_eq, geq_eq, not_eq, minI_eq, maxI_eq, extract_0, extract_1, extract_2, eqlI, neqI, makeFunc_eq, decide_true, decide_false, if_true, if_false, Bool.false_eq_true, Bool.not_true, Bool.not_false, reduceIte, List.getElem?_toArray, List.getElem?_cons_zero, List.getElem?_cons_succ, Option.isSome_none, List.length_map, yV_undef, gopV_none, Nat.zero_add, Nat.reduceAdd, beq_self_eq_true, bne_self_eq_false, and_self, Bool.true_and, Bool.false_and, Bool.and_true, Bool.and_false, Bool.true_or, Bool.false_or, Bool.or_true, Bool.or_false]
  by_cases c0 : d.p0 = d'.p0 ∧ d.p1 = d'.p1
  · simp only [c0, decide_true, T_api_Daemon.f1, T_sl_api_Item.load, B13.cell, B3.cell, Dm.cells, popO_some, bindH_eq, condV_bool, condV_true, condV_false, yV_bool, gopV_tt, gopV_ff, gopV_tf, gopV_ft, pickV_t, pickV_f, pickV_bool, nilS_ptr, add_eq, sub_eq, mul_eq, lss_eq, leq_eq, gtr_eq, geq_eq, not_eq, minI_eq, maxI_eq, extract_0, extract_1, extract_2, eqlI, neqI, makeFunc_eq, decide_true, decide_false, if_true, if_false, Bool.false_eq_true, Bool.not_true, Bool.not_false, reduceIte, List.getElem?_toArray, List.getElem?_cons_zero, List.getElem?_cons_succ, Option.isSome_none, List.length_map, yV_undef, gopV_none, Nat.zero_add, Nat.reduceAdd, beq_self_eq_true, bne_self_eq_false, and_self, Bool.true_and, Bool.false_and, Bool.and_true, Bool.and_false, Bool.true_or, Bool.false_or, Bool.or_true, Bool.or_false]
    refine Same_ok (V.ext u) (V'.ext u) hl ?_
    have e : decide (d.its = d'.its) = decide (d = d') := by
      rw [Bool.eq_iff_iff]
      obtain ⟨a, b, c⟩ := d
      obtain ⟨a', b', c'⟩ := d'
      simp only at c0
      simp [c0.1, c0.2]
    rw [e]
    exact hk
  · have hne : ¬ d = d' := fun e => c0 (by rw [e]; exact ⟨rfl, rfl⟩)
    simp only [hne, decide_false] at hk
    simp only [c0, decide_false, popO_some, bindH_eq, condV_bool, condV_true, condV_false, yV_bool, gopV_tt, gopV_ff, gopV_tf, gopV_ft, pickV_t, pickV_f, pickV_bool, nilS_ptr, add_eq, sub_eq, mul_eq, lss_eq, leq_eq, gtr_eq, geq_eq, not_eq, minI_eq, maxI_eq, extract_0, extract_1, extract_2, eqlI, neqI, makeFunc_eq, decide_true, decide_false, if_true, if_false, Bool.false_eq_true, Bool.not_true, Bool.not_false, reduceIte, List.getElem?_toArray, List.getElem?_cons_zero, List.getElem?_cons_succ, Option.isSome_none, List.length_map, yV_undef, gopV_none, Nat.zero_add, Nat.reduceAdd, beq_self_eq_true, bne_self_eq_false, and_self, Bool.true_and, Bool.false_and, Bool.and_true, Bool.and_false, Bool.true_or, Bool.false_or, Bool.or_true, Bool.or_false]
    exact hk
theorem Nt.eqIn {h : PH} (m m' : Nt) : SemE PG h (Op.equalIn (9999 + 1) T_api_Note (.agg m.cells.toArray) (.agg m'.cells.toArray)) = some (decide (m = m')) := by
  rw [eqIn_struct T_api_Note.und (by kernel_rfl) (fun f => match f.offset with | 0 => m.k == m'.k | _ => (m.p.f == m'.p.f && (m.p.s == m'.p.s && (m.p.t == m'.p.t && (m.p.d == m'.p.d && true)))))]
  · congr 1
    simp only [beq_bytes]
    rw [Bool.eq_iff_iff]
    obtain ⟨g, a, b, c, d⟩ := m
    obtain ⟨g', a', b', c', d'⟩ := m'
    simp [and_assoc]
  · intro f hf
    simp only [List.mem_cons, List.not_mem_nil, or_false] at hf
    rcases hf with rfl | rfl
    · exact ⟨by decide, _, _, part_cell T_int.und rfl rfl, part_cell T_int.und rfl rfl, eqIn_int T_int.und⟩
    · exact ⟨by decide, _, _, part_agg T_api_Packet.und rfl T_api_Packet.info T_api_Packet.size, part_agg T_api_Packet.und rfl T_api_Packet.info T_api_Packet.size, Pk.eqIn (d := 9997) m.p m'.p⟩
theorem Nt.neq {h : PH} {x y : Operand} (m m' : Nt) : SemE PG h (binS .neq T_api_Note x y (.agg m.cells.toArray) (.agg m'.cells.toArray)) = some (.bool (!decide (m = m'))) := neqStruct (by kernel_rfl) (Nt.eqIn m m')
theorem SlR.ntd {h : PH} {v : Value} {l : List Nt} (S : NSl h v l) {j : Nat} {x : Nt} (hx : l[j]? = some x) : ∃ b o, SemP PG (Instr.indexAt T_sl_api_Note v (.int .i64 (j : Int))) = some (.pointer (some ⟨b, o, none⟩)) ∧ cellH h ⟨b, o + 4, none⟩ = some (.string x.p.d) := by
  obtain ⟨b, o, h1, h2, -⟩ := S.fields T_sl_api_Note.und T_api_Note.info T_api_Note.size (k := .i64) (j := j) (r := x.cells) (by rw [List.getElem?_map, hx]; rfl)
  exact ⟨b, o, h1, h2 4 _ rfl⟩
theorem SlR.itd {h : PH} {v : Value} {l : List It} (S : ISl h v l) {j : Nat} {x : It} (hx : l[j]? = some x) : ∃ b o, SemP PG (Instr.indexAt T_sl_api_Item v (.int .i64 (j : Int))) = some (.pointer (some ⟨b, o, none⟩)) ∧ cellH h ⟨b, o + 3, none⟩ = some (.string x.p.d) := by
  obtain ⟨b, o, h1, h2, -⟩ := S.fields T_sl_api_Item.und T_api_Item.info T_api_Item.size (k := .i64) (j := j) (r := x.cells) (by rw [List.getElem?_map, hx]; rfl)
  exact ⟨b, o, h1, h2 3 _ rfl⟩
theorem rfew_ok {h : PH} {r : Rc} {v w : Value} (V : ISl h v r.s.its) (W : NSl h w r.ns) {k : Value → PH → Prop} (hk : ∀ h' b, (b = true → r.ns.length ≤ 300 ∧ r.s.its.length ≤ 300) → Ext h h' → k (.bool b) h') : CallsH PG id_carracklaw17_few #[r.v v w] h k := by
  apply carracklaw17_few.call
  unfold carracklaw17_few
  intro r1 hr1
  try rw [bindH_eq]
  have u1 : Ext h (h.set r1 (.cells (Value.cells (r.v v w)) T_api_Record)) := Upd.new hr1
  have B1 : Bx (h.set r1 (.cells (Value.cells (r.v v w)) T_api_Record)) r1 (r.cells v w) := Bx.new
  generalize h.set r1 (.cells (Value.cells (r.v v w)) T_api_Record) = h1 at *
  have lv := It.len V
  have lw := Nt.len W
  by_cases c0 : 300 < r.ns.length
  · have g0 : ((300 : Int) < (r.ns.length : Int)) = True := eq_true (by omega)
    simp only [T_api_Record.f4, T_sl_api_Note.load, B1.cell, Rc.cells, lw, g0, popO_some, bindH_eq, condV_bool, condV_true, condV_false, yV_bool, gopV_tt, gopV_ff, gopV_tf, gopV_ft, pickV_t, pickV_f, pickV_bool, nilS_ptr, add_eq, sub_eq, mul_eq, lss_eq, leq_eq, gtr_eq, geq_eq, not_eq, minI_eq, maxI_eq, extract_0, extract_1, extract_2, eqlI, neqI, makeFunc_eq, decide_true, decide_false, if_true, if_false, Bool.false_eq_true, Bool.not_true, Bool.not_false, reduceIte, List.getElem?_toArray, List.getElem?_cons_zero, List.getElem?_cons_succ, Option.isSome_none, List.length_map, yV_undef, gopV_none, Nat.zero_add, Nat.reduceAdd, beq_self_eq_true, bne_self_eq_false, and_self, Bool.true_and, Bool.false_and, Bool.and_true, Bool.and_false, Bool.true_or, Bool.false_or, Bool.or_true, Bool.or_false]
    exact hk _ _ (fun h => by cases h) u1
  have g0 : ((300 : Int) < (r.ns.length : Int)) = False := eq_false (by omega)
  by_cases c1 : 300 < r.s.its.length
  · have g1 : ((300 : Int) < (r.s.its.length : Int)) = True := eq_true (by omega)
    simp only [T_api_Record.f4, T_api_Record.f1, T_api_Daemon.f1, T_sl_api_Item.load, T_sl_api_Note.load, B1.cell, Rc.cells, lv, lw, g0, g1, popO_some, bindH_eq, condV_bool, condV_true, condV_false, yV_bool, gopV_tt, gopV_ff, gopV_tf, gopV_ft, pickV_t, pickV_f, pickV_bool, nilS_ptr, add_eq, sub_eq, mul_eq, lss_eq, leq_eq, gtr_eq, geq_eq, not_eq, minI_eq, maxI_eq, extract_0, extract_1, extract_2, eqlI, neqI, makeFunc_eq, decide_true, decide_false, if_true, if_false, Bool.false_eq_true, Bool.not_true, Bool.not_false, reduceIte, List.getElem?_toArray, List.getElem?_cons_zero, List.getElem?_cons_succ, Option.isSome_none, List.length_map, yV_undef, gopV_none, Nat.zero_add, Nat.reduceAdd, beq_self_eq_true, bne_self_eq_false, and_self, Bool.true_and, Bool.false_and, Bool.and_true, Bool.and_false, Bool.true_or, Bool.false_or, Bool.or_true, Bool.or_false]
    exact hk _ _ (fun h => by cases h) u1
  have g1 : ((300 : Int) < (r.s.its.length : Int)) = False := eq_false (by omega)
  have fin : ∀ b : Bool, k (.bool b) h1 := fun b => hk _ _ (fun _ => ⟨by omega, by omega⟩) u1
  simp only [T_api_Record.f4, T_api_Record.f1, T_api_Daemon.f1, T_sl_api_Item.load, T_sl_api_Note.load, B1.cell, Rc.cells, lv, lw, g0, g1, popO_some, bindH_eq, condV_bool, condV_true, condV_false, yV_bool, gopV_tt, gopV_ff, gopV_tf, gopV_ft, pickV_t, pickV_f, pickV_bool, nilS_ptr, add_eq, sub_eq, mul_eq, lss_eq, leq_eq, gtr_eq, geq_eq, not_eq, minI_eq, maxI_eq, extract_0, extract_1, extract_2, eqlI, neqI, makeFunc_eq, decide_true, decide_false, if_true, if_false, Bool.false_eq_true, Bool.not_true, Bool.not_false, reduceIte, List.getElem?_toArray, List.getElem?_cons_zero, List.getElem?_cons_succ, Option.isSome_none, List.length_map, yV_undef, gopV_none, Nat.zero_add, Nat.reduceAdd, beq_self_eq_true, bne_self_eq_false, and_self, Bool.true_and, Bool.false_and, Bool.and_true, Bool.and_false, Bool.true_or, Bool.false_or, Bool.or_true, Bool.or_false]
  refine ⟨fun vs h' => ∃ i : Nat, i ≤ r.ns.length ∧ vs = [.pointer (some ⟨r1, 0, none⟩), .int .i64 (i : Int)] ∧ h' = h1, upTo r.ns.length 1, ⟨0, by omega, rfl, rfl⟩, ?_⟩
  rintro ρ h' ⟨i, hi, hvs, rfl⟩
  simp only [List.map_cons, List.map_nil, List.cons.injEq, and_true] at hvs
  obtain ⟨v1, v3⟩ := hvs
  simp only [v1, v3, List.map_cons, List.map_nil]
  unfold carracklaw17_few_b29
  by_cases hlt : i < r.ns.length
  · have g2 : ((i : Int) < (r.ns.length : Int)) = True := eq_true (by omega)
    have gi : IntKind.i64.wrap ((i : Int) + 1) = ((i + 1 : Nat) : Int) := by rw [i64_wrap (by omega) (by omega)]; omega
    obtain ⟨b, o, p1, p2⟩ := SlR.ntd (W.ext u1) (j := i) (x := r.ns[i]) (List.getElem?_eq_getElem hlt)
    generalize r.ns[i] = x at *
    have ho : o + 1 + 3 = o + 4 := by omega
    simp only [T_api_Record.f4, T_sl_api_Note.load, B1.cell, Rc.cells, lw, g2, p1, T_api_Note.f1, T_api_Packet.f3, ho, T_string.load, p2, T_string.len, popO_some, bindH_eq, condV_bool, condV_true, condV_false, yV_bool, gopV_tt, gopV_ff, gopV_tf, gopV_ft, pickV_t, pickV_f, pickV_bool, nilS_ptr, add_eq, sub_eq, mul_eq, lss_eq, leq_eq, gtr_eq, geq_eq, not_eq, minI_eq, maxI_eq, extract_0, extract_1, extract_2, eqlI, neqI, makeFunc_eq, decide_true, decide_false, if_true, if_false, Bool.false_eq_true, Bool.not_true, Bool.not_false, reduceIte, List.getElem?_toArray, List.getElem?_cons_zero, List.getElem?_cons_succ, Option.isSome_none, List.length_map, yV_undef, gopV_none, Nat.zero_add, Nat.reduceAdd, beq_self_eq_true, bne_self_eq_false, and_self, Bool.true_and, Bool.false_and, Bool.and_true, Bool.and_false, Bool.true_or, Bool.false_or, Bool.or_true, Bool.or_false]
    by_cases c2 : (300 : Int) < (x.p.d.size : Int)
    · simp only [c2, popO_some, bindH_eq, condV_bool, condV_true, condV_false, yV_bool, gopV_tt, gopV_ff, gopV_tf, gopV_ft, pickV_t, pickV_f, pickV_bool, nilS_ptr, add_eq, sub_eq, mul_eq, lss_eq, leq_eq, gtr_eq, geq_eq, not_eq, minI_eq, maxI_eq, extract_0, extract_1, extract_2, eqlI, neqI, makeFunc_eq, decide_true, decide_false, if_true, if_false, Bool.false_eq_true, Bool.not_true, Bool.not_false, reduceIte, List.getElem?_toArray, List.getElem?_cons_zero, List.getElem?_cons_succ, Option.isSome_none, List.length_map, yV_undef, gopV_none, Nat.zero_add, Nat.reduceAdd, beq_self_eq_true, bne_self_eq_false, and_self, Bool.true_and, Bool.false_and, Bool.and_true, Bool.and_false, Bool.true_or, Bool.false_or, Bool.or_true, Bool.or_false]
      exact fin false
    · simp only [c2, gi, popO_some, bindH_eq, condV_bool, condV_true, condV_false, yV_bool, gopV_tt, gopV_ff, gopV_tf, gopV_ft, pickV_t, pickV_f, pickV_bool, nilS_ptr, add_eq, sub_eq, mul_eq, lss_eq, leq_eq, gtr_eq, geq_eq, not_eq, minI_eq, maxI_eq, extract_0, extract_1, extract_2, eqlI, neqI, makeFunc_eq, decide_true, decide_false, if_true, if_false, Bool.false_eq_true, Bool.not_true, Bool.not_false, reduceIte, List.getElem?_toArray, List.getElem?_cons_zero, List.getElem?_cons_succ, Option.isSome_none, List.length_map, yV_undef, gopV_none, Nat.zero_add, Nat.reduceAdd, beq_self_eq_true, bne_self_eq_false, and_self, Bool.true_and, Bool.false_and, Bool.and_true, Bool.and_false, Bool.true_or, Bool.false_or, Bool.or_true, Bool.or_false]
      refine ⟨⟨i + 1, by omega, rfl, by trivial⟩, ?_⟩
      simp only [upTo, List.getElem?_cons_succ, List.getElem?_cons_zero]
      omega
  · have g2 : ((i : Int) < (r.ns.length : Int)) = False := eq_false (by omega)
    simp only [T_api_Record.f4, T_sl_api_Note.load, B1.cell, Rc.cells, lw, g2, popO_some, bindH_eq, condV_bool, condV_true, condV_false, yV_bool, gopV_tt, gopV_ff, gopV_tf, gopV_ft, pickV_t, pickV_f, pickV_bool, nilS_ptr, add_eq, sub_eq, mul_eq, lss_eq, leq_eq, gtr_eq, geq_eq, not_eq, minI_eq, maxI_eq, extract_0, extract_1, extract_2, eqlI, neqI, makeFunc_eq, decide_true, decide_false, if_true, if_false, Bool.false_eq_true, Bool.not_true, Bool.not_false, reduceIte, List.getElem?_toArray, List.getElem?_cons_zero, List.getElem?_cons_succ, Option.isSome_none, List.length_map, yV_undef, gopV_none, Nat.zero_add, Nat.reduceAdd, beq_self_eq_true, bne_self_eq_false, and_self, Bool.true_and, Bool.false_and, Bool.and_true, Bool.and_false, Bool.true_or, Bool.false_or, Bool.or_true, Bool.or_false]
    refine ⟨fun vs h2 => ∃ i : Nat, i ≤ r.s.its.length ∧ vs = [.pointer (some ⟨r1, 0, none⟩), .int .i64 (i : Int)] ∧ h2 = h', upTo r.s.its.length 1, ⟨0, by omega, rfl, rfl⟩, ?_⟩
    rintro ρ2 h2 ⟨j, hj, hvs, rfl⟩
    simp only [List.map_cons, List.map_nil, List.cons.injEq, and_true] at hvs
    obtain ⟨w1, w4⟩ := hvs
    simp only [w1, w4, List.map_cons, List.map_nil]
    unfold carracklaw17_few_b44
    by_cases hlt2 : j < r.s.its.length
    · have g3 : ((j : Int) < (r.s.its.length : Int)) = True := eq_true (by omega)
      have gi : IntKind.i64.wrap ((j : Int) + 1) = ((j + 1 : Nat) : Int) := by rw [i64_wrap (by omega) (by omega)]; omega
      obtain ⟨b, o, p1, p2⟩ := SlR.itd (V.ext u1) (j := j) (x := r.s.its[j]) (List.getElem?_eq_getElem hlt2)
      generalize r.s.its[j] = x at *
      simp only [T_api_Record.f1, T_api_Daemon.f1, T_sl_api_Item.load, B1.cell, Rc.cells, lv, g3, p1, T_api_Item.f0, T_api_Packet.f3, T_string.load, p2, T_string.len, popO_some, bindH_eq, condV_bool, condV_true, condV_false, yV_bool, gopV_tt, gopV_ff, gopV_tf, gopV_ft, pickV_t, pickV_f, pickV_bool, nilS_ptr, add_eq, sub_eq, mul_eq, lss_eq, leq_eq, gtr_eq, geq_eq, not_eq, minI_eq, maxI_eq, extract_0, extract_1, extract_2, eqlI, neqI, makeFunc_eq, decide_true, decide_false, if_true, if_false, Bool.false_eq_true, Bool.not_true, Bool.not_false, reduceIte, List.getElem?_toArray, List.getElem?_cons_zero, List.getElem?_cons_succ, Option.isSome_none, List.length_map, yV_undef, gopV_none, Nat.zero_add, Nat.reduceAdd, beq_self_eq_true, bne_self_eq_false, and_self, Bool.true_and, Bool.false_and, Bool.and_true, Bool.and_false, Bool.true_or, Bool.false_or, Bool.or_true, Bool.or_false]
      by_cases c2 : (300 : Int) < (x.p.d.size : Int)
      · simp only [c2, popO_some, bindH_eq, condV_bool, condV_true, condV_false, yV_bool, gopV_tt, gopV_ff, gopV_tf, gopV_ft, pickV_t, pickV_f, pickV_bool, nilS_ptr, add_eq, sub_eq, mul_eq, lss_eq, leq_eq, gtr_eq, geq_eq, not_eq, minI_eq, maxI_eq, extract_0, extract_1, extract_2, eqlI, neqI, makeFunc_eq, decide_true, decide_false, if_true, if_false, Bool.false_eq_true, Bool.not_true, Bool.not_false, reduceIte, List.getElem?_toArray, List.getElem?_cons_zero, List.getElem?_cons_succ, Option.isSome_none, List.length_map, yV_undef, gopV_none, Nat.zero_add, Nat.reduceAdd, beq_self_eq_true, bne_self_eq_false, and_self, Bool.true_and, Bool.false_and, Bool.and_true, Bool.and_false, Bool.true_or, Bool.false_or, Bool.or_true, Bool.or_false]
        exact fin false
      · simp only [c2, gi, popO_some, bindH_eq, condV_bool, condV_true, condV_false, yV_bool, gopV_tt, gopV_ff, gopV_tf, gopV_ft, pickV_t, pickV_f, pickV_bool, nilS_ptr, add_eq, sub_eq, mul_eq, lss_eq, leq_eq, gtr_eq, geq_eq, not_eq, minI_eq, maxI_eq, extract_0, extract_1, extract_2, eqlI, neqI, makeFunc_eq, decide_true, decide_false, if_true, if_false, Bool.false_eq_true, Bool.not_true, Bool.not_false, reduceIte, List.getElem?_toArray, List.getElem?_cons_zero, List.getElem?_cons_succ, Option.isSome_none, List.length_map, yV_undef, gopV_none, Nat.zero_add, Nat.reduceAdd, beq_self_eq_true, bne_self_eq_false, and_self, Bool.true_and, Bool.false_and, Bool.and_true, Bool.and_false, Bool.true_or, Bool.false_or, Bool.or_true, Bool.or_false]
        refine ⟨⟨j + 1, by omega, rfl, by trivial⟩, ?_⟩
        simp only [upTo, List.getElem?_cons_succ, List.getElem?_cons_zero]
        omega
    · have g3 : ((j : Int) < (r.s.its.length : Int)) = False := eq_false (by omega)
      simp only [T_api_Record.f1, T_api_Daemon.f1, T_sl_api_Item.load, B1.cell, Rc.cells, lv, g3, popO_some, bindH_eq, condV_bool, condV_true, condV_false, yV_bool, gopV_tt, gopV_ff, gopV_tf, gopV_ft, pickV_t, pickV_f, pickV_bool, nilS_ptr, add_eq, sub_eq, mul_eq, lss_eq, leq_eq, gtr_eq, geq_eq, not_eq, minI_eq, maxI_eq, extract_0, extract_1, extract_2, eqlI, neqI, makeFunc_eq, decide_true, decide_false, if_true, if_false, Bool.false_eq_true, Bool.not_true, Bool.not_false, reduceIte, List.getElem?_toArray, List.getElem?_cons_zero, List.getElem?_cons_succ, Option.isSome_none, List.length_map, yV_undef, gopV_none, Nat.zero_add, Nat.reduceAdd, beq_self_eq_true, bne_self_eq_false, and_self, Bool.true_and, Bool.false_and, Bool.and_true, Bool.and_false, Bool.true_or, Bool.false_or, Bool.or_true, Bool.or_false]
      exact fin true
end Go.Proofs.YtlkjippiaghbmaaGreat
/- record: the example; a scan's record moves its place alone. -/
set_option linter.unusedSimpArgs false
set_option linter.unusedVariables false
namespace Go.Proofs.YtlkjippiaghbmaaGreat
open Go
set_option maxRecDepth 20000
def awN : Nt := ⟨1, ⟨0, 1, 9, ⟨#[]⟩⟩⟩
def awA : Rc := ⟨1, Dm.zero, 0, Pl.zero, []⟩
def awB : Rc := ⟨2, Dm.zero, 0, ⟨5, 1⟩, [awN]⟩
theorem awA_ok : RcOk awA := ⟨by decide, fun _ => ⟨by decide, by decide, by simp [awA, Dm.zero]⟩, fun h => by cases h⟩
theorem awB_ok : RcOk awB := ⟨by decide, (fun h => by cases h), fun _ => ⟨by decide, fun i hi => by
  simp only [awB, List.mem_singleton] at hi
  subst hi
  exact ⟨by decide, by decide, by decide⟩⟩⟩
theorem awA_wf : awA.wf := ⟨Dm.wf_zero, Pl.wf_zero, by simp [awA]⟩
theorem awB_wf : awB.wf := ⟨Dm.wf_zero, ⟨by decide, by decide⟩, fun x hx => by
  simp only [awB, List.mem_singleton] at hx
  subst hx
  exact ⟨by decide, by decide, by decide, by decide⟩⟩
theorem bytes_of_ok {r : Rc} (h : RcOk r) : r.bytes = (r.bs, 0) := by
  rcases bytes_iff r with ⟨_, b⟩ | ⟨a, _⟩
  · exact b
  · exact absurd h a
def awD : Dm := ⟨⟨5, 1⟩, Pl.zero, [⟨awN.p, 1⟩]⟩
theorem awStep : stp Dm.zero 2 awB = (awD, 0) := by
  unfold stp
  rw [bytes_of_ok awB_ok]
  decide
theorem awRpl : rpl 2 [awA.bs, awB.bs] = (awD, 0) := by
  unfold rpl
  have e1 : first0 2 awA.bs = (Dm.zero, 0) := by
    unfold first0
    rw [parse_back awA_ok awA_wf]
    decide
  have e2 : rstep 2 (Dm.zero, 0) awB.bs = (awD, 0) := by
    unfold rstep
    rw [parse_back awB_ok awB_wf]
    exact awStep
  show (if ([awB.bs].foldl (rstep 2) (first0 2 awA.bs)).2 ≠ 0 then _ else _) = _
  rw [e1]
  simp only [List.foldl_cons, List.foldl_nil, e2]
  rfl
theorem aw_p : SemP PG (Instr.build T_api_Packet #[(1, (Value.int IntKind.u64 1)), (2, (Value.int IntKind.u64 9))]) = some (.agg awN.p.cells.toArray) := by kernel_rfl
theorem aw_n : SemP PG (Instr.build T_api_Note #[(0, (Value.int IntKind.i64 1)), (1, .agg awN.p.cells.toArray)]) = some (.agg awN.cells.toArray) := by kernel_rfl
theorem aw_ra : SemP PG (Instr.build T_api_Record #[(0, (Value.int IntKind.i64 1))]) = some (awA.v (.slice none 0 0) (.slice none 0 0)) := by kernel_rfl
theorem aw_pl : SemP PG (Instr.build T_api_Place #[(0, (Value.int IntKind.u64 5)), (1, (Value.int IntKind.i64 1))]) = some (.agg (Pl.cells ⟨5, 1⟩).toArray) := by kernel_rfl
theorem aw_rb (b : Option Addr) (n c : Nat) : SemP PG (Instr.build T_api_Record #[(0, (Value.int IntKind.i64 2)), (3, .agg (Pl.cells ⟨5, 1⟩).toArray), (4, .slice b n c)]) = some (awB.v (.slice none 0 0) (.slice b n c)) := by kernel_rfl
theorem str_lit2 (a b : ByteArray) : SemA PG (Instr.buildSlice T_sl_string 2 #[(0, .string a), (1, .string b)]) = some (.cells #[.string a, .string b] T_string, fun r => pure (.slice (some ⟨r, 0, none⟩) 2 2)) := by kernel_rfl
theorem aw_it : SemP PG (Instr.build T_api_Item #[(0, .agg awN.p.cells.toArray), (1, (Value.int IntKind.i64 1))]) = some (It.val ⟨awN.p, 1⟩) := by kernel_rfl
theorem rawake_ok {h : PH} {k : Value → PH → Prop} (hk : ∀ h', Ext h h' → k (.bool true) h') : CallsH PG id_carracklaw17_awake #[] h k := by
  apply carracklaw17_awake.call
  unfold carracklaw17_awake
  simp only [aw_p, aw_n, popO_some, bindH_eq, condV_bool, condV_true, condV_false, yV_bool, gopV_tt, gopV_ff, gopV_tf, gopV_ft, pickV_t, pickV_f, pickV_bool, nilS_ptr, add_eq, sub_eq, mul_eq, lss_eq, leq_eq, gtr_eq, geq_eq, not_eq, minI_eq, maxI_eq, extract_0, extract_1, extract_2, eqlI, neqI, makeFunc_eq, decide_true, decide_false, if_true, if_false, Bool.false_eq_true, Bool.not_true, Bool.not_false, reduceIte, List.getElem?_toArray, List.getElem?_cons_zero, List.getElem?_cons_succ, Option.isSome_none, List.length_map]
  intro r3 hr3
  try rw [bindH_eq]
  refine T_api_Note.fill hr3 rfl (by simp [awN, Nt.cells, isCell]) fun h1 B1 u1 => ?_
  simp only [aw_ra, popO_some, bindH_eq, condV_bool, condV_true, condV_false, yV_bool, gopV_tt, gopV_ff, gopV_tf, gopV_ft, pickV_t, pickV_f, pickV_bool, nilS_ptr, add_eq, sub_eq, mul_eq, lss_eq, leq_eq, gtr_eq, geq_eq, not_eq, minI_eq, maxI_eq, extract_0, extract_1, extract_2, eqlI, neqI, makeFunc_eq, decide_true, decide_false, if_true, if_false, Bool.false_eq_true, Bool.not_true, Bool.not_false, reduceIte, List.getElem?_toArray, List.getElem?_cons_zero, List.getElem?_cons_succ, Option.isSome_none, List.length_map]
  refine bytes_ok (r := awA) nilI nilN awA_wf fun h2 u2 => ?_
  have e2 := u1.trans u2
  have ln : SemE PG h2 (Instr.loadAt T_api_Note (.pointer (some ⟨r3, 0, none⟩))) = some (.agg awN.cells.toArray) := T_api_Note.agg (B1.ext u2) (by show 0 + 5 ≤ 5; decide)
  rw [bytes_of_ok awA_ok]
  simp only [aw_pl, ln, rnt_lit1, popO_some, bindH_eq, condV_bool, condV_true, condV_false, yV_bool, gopV_tt, gopV_ff, gopV_tf, gopV_ft, pickV_t, pickV_f, pickV_bool, nilS_ptr, add_eq, sub_eq, mul_eq, lss_eq, leq_eq, gtr_eq, geq_eq, not_eq, minI_eq, maxI_eq, extract_0, extract_1, extract_2, eqlI, neqI, makeFunc_eq, decide_true, decide_false, if_true, if_false, Bool.false_eq_true, Bool.not_true, Bool.not_false, reduceIte, List.getElem?_toArray, List.getElem?_cons_zero, List.getElem?_cons_succ, Option.isSome_none, List.length_map]
  intro r14 hr14
  refine popO_pure ?_
  try rw [bindH_eq]
  have u3 : Ext h2 (h2.set r14 (.cells awN.cells.toArray T_api_Note (0, 0))) := Upd.new hr14
  have S3 : NSl (h2.set r14 (.cells awN.cells.toArray T_api_Note (0, 0))) (.slice (some ⟨r14, 0, none⟩) 1 1) [awN] := (OwnR.lit (n := 1) (Nt.rows [awN]) set_same (by simp) (by decide) (by simp)).slR
  generalize h2.set r14 (.cells awN.cells.toArray T_api_Note (0, 0)) = h3 at *
  simp only [aw_rb, popO_some, bindH_eq, condV_bool, condV_true, condV_false, yV_bool, gopV_tt, gopV_ff, gopV_tf, gopV_ft, pickV_t, pickV_f, pickV_bool, nilS_ptr, add_eq, sub_eq, mul_eq, lss_eq, leq_eq, gtr_eq, geq_eq, not_eq, minI_eq, maxI_eq, extract_0, extract_1, extract_2, eqlI, neqI, makeFunc_eq, decide_true, decide_false, if_true, if_false, Bool.false_eq_true, Bool.not_true, Bool.not_false, reduceIte, List.getElem?_toArray, List.getElem?_cons_zero, List.getElem?_cons_succ, Option.isSome_none, List.length_map]
  refine bytes_ok (r := awB) nilI S3 awB_wf fun h4 u4 => ?_
  have e4 := (e2.trans u3).trans u4
  rw [bytes_of_ok awB_ok]
  simp only [str_lit2, popO_some, bindH_eq, condV_bool, condV_true, condV_false, yV_bool, gopV_tt, gopV_ff, gopV_tf, gopV_ft, pickV_t, pickV_f, pickV_bool, nilS_ptr, add_eq, sub_eq, mul_eq, lss_eq, leq_eq, gtr_eq, geq_eq, not_eq, minI_eq, maxI_eq, extract_0, extract_1, extract_2, eqlI, neqI, makeFunc_eq, decide_true, decide_false, if_true, if_false, Bool.false_eq_true, Bool.not_true, Bool.not_false, reduceIte, List.getElem?_toArray, List.getElem?_cons_zero, List.getElem?_cons_succ, Option.isSome_none, List.length_map]
  intro r23 hr23
  refine popO_pure ?_
  try rw [bindH_eq]
  have u5 : Ext h4 (h4.set r23 (.cells #[.string (tx awA.bs), .string (tx awB.bs)] T_string)) := Upd.new hr23
  have S5 : SlR (h4.set r23 (.cells #[.string (tx awA.bs), .string (tx awB.bs)] T_string)) 1 (.slice (some ⟨r23, 0, none⟩) 2 2) ([awA.bs, awB.bs].map tcell) := (OwnR.lit (n := 2) (tcell.rows [awA.bs, awB.bs]) set_same (by simp) (by decide) rfl).slR
  generalize h4.set r23 (.cells #[.string (tx awA.bs), .string (tx awB.bs)] T_string) = h5 at *
  refine replay_ok S5 (by simp) fun h6 v V nv u6 => ?_
  rw [awRpl] at V ⊢
  have e6 := (e4.trans u5).trans u6
  simp only [popO_some, bindH_eq, condV_bool, condV_true, condV_false, yV_bool, gopV_tt, gopV_ff, gopV_tf, gopV_ft, pickV_t, pickV_f, pickV_bool, nilS_ptr, add_eq, sub_eq, mul_eq, lss_eq, leq_eq, gtr_eq, geq_eq, not_eq, minI_eq, maxI_eq, extract_0, extract_1, extract_2, eqlI, neqI, makeFunc_eq, decide_true, decide_false, if_true, if_false, Bool.false_eq_true, Bool.not_true, Bool.not_false, reduceIte, List.getElem?_toArray, List.getElem?_cons_zero, List.getElem?_cons_succ, Option.isSome_none, List.length_map]
  intro r31 hr31
  try rw [bindH_eq]
  refine T_api_Daemon.fill hr31 rfl (Dm.isC _ V.isc) fun h7 B7 u7 => ?_
  have e7 := e6.trans u7
  have V7 := V.ext u7
  have lv := It.len V7
  have B17 := B1.ext (((((u2.trans u3).trans u4).trans u5).trans u6).trans u7)
  obtain ⟨pa, p1, p2⟩ := V7.wItem (j := 0) (x := ⟨awN.p, 1⟩) rfl
  rw [show ((0 : Nat) : Int) = 0 from rfl] at p1
  have lp : SemE PG h7 (Instr.loadAt T_api_Packet (.pointer (some ⟨r3, 1, none⟩))) = some (.agg awN.p.cells.toArray) := T_api_Packet.agg B17 (by show 1 + 4 ≤ 5; decide)
  have lq : SemE PG h7 (Instr.loadAt T_api_Place (.pointer (some ⟨r31, 0, none⟩))) = some (.agg (Pl.cells ⟨5, 1⟩).toArray) := pl_load B7 rfl
  have ix := indexAt_array (P := PG) (t := T_2_api_Place) (b := r31) (o := 0) (k := .i64) (j := 0) T_2_api_Place.und T_api_Place.info T_api_Place.size (by omega) (by omega)
  have ie : ∀ x y, SemE PG h7 (binS .eql T_api_Item x y (.agg (It.cells ⟨awN.p, 1⟩).toArray) (It.val ⟨awN.p, 1⟩)) = some (.bool true) := fun x y => by
    have := eqlStruct (x := x) (y := y) (t := T_api_Item) (by kernel_rfl) (It.eqIn (h := h7) ⟨awN.p, 1⟩ ⟨awN.p, 1⟩)
    rw [decide_eq_true (rfl : (⟨awN.p, 1⟩ : It) = ⟨awN.p, 1⟩)] at this
    exact this
  have ll : ((awD.its.length : Int) == 1) = true := rfl
  simp only [eqlI, T_api_Daemon.f1, T_sl_api_Item.load, B7.cell, Dm.cells, lv, ll, p1, p2, T_api_Note.f1, lp, aw_it, ie, T_api_Daemon.f0, ix, Int.toNat_zero, Nat.zero_mul, Nat.add_zero, lq, aw_pl, Pl.eql, decide_true, popO_some, bindH_eq, condV_bool, condV_true, condV_false, yV_bool, gopV_tt, gopV_ff, gopV_tf, gopV_ft, pickV_t, pickV_f, pickV_bool, nilS_ptr, add_eq, sub_eq, mul_eq, lss_eq, leq_eq, gtr_eq, geq_eq, not_eq, minI_eq, maxI_eq, extract_0, extract_1, extract_2, eqlI, neqI, makeFunc_eq, decide_true, decide_false, if_true, if_false, Bool.false_eq_true, Bool.not_true, Bool.not_false, reduceIte, List.getElem?_toArray, List.getElem?_cons_zero, List.getElem?_cons_succ, Option.isSome_none, List.length_map, yV_undef, gopV_none, Nat.zero_add, Nat.reduceAdd, beq_self_eq_true, bne_self_eq_false, and_self, Bool.true_and, Bool.false_and, Bool.and_true, Bool.and_false, Bool.true_or, Bool.false_or, Bool.or_true, Bool.or_false]
  exact hk _ e7
/-! ### RecordPlaces -/
theorem ixP {r i : Nat} (hi : i < 2) : SemP PG (Instr.indexAt T_2_api_Place (.pointer (some ⟨r, 0, none⟩)) (.int .i64 (i : Int))) = some (.pointer (some ⟨r, i * 2, none⟩)) := by
  have ix := indexAt_array (P := PG) (t := T_2_api_Place) (b := r) (o := 0) (k := .i64) (j := (i : Int)) T_2_api_Place.und T_api_Place.info T_api_Place.size (by omega) (by omega)
  rw [ix, Int.toNat_natCast, Nat.zero_add]
theorem ixP0 {r : Nat} : SemP PG (Instr.indexAt T_2_api_Place (.pointer (some ⟨r, 0, none⟩)) (.int .i64 0)) = some (.pointer (some ⟨r, 0, none⟩)) := ixP (i := 0) (by decide)
theorem ixP1 {r : Nat} : SemP PG (Instr.indexAt T_2_api_Place (.pointer (some ⟨r, 0, none⟩)) (.int .i64 1)) = some (.pointer (some ⟨r, 2, none⟩)) := ixP (i := 1) (by decide)
theorem dm_build (p q : Pl) (b : Option Addr) (n c : Nat) : SemP PG (Instr.build T_api_Daemon #[(0, two p q), (1, .slice b n c)]) = some (Dm.v ⟨p, q, []⟩ (.slice b n c)) := by kernel_rfl
theorem rc_buildS (d : Dm) (b : Option Addr) (n c : Nat) : SemP PG (Instr.build T_api_Record #[(1, d.v (.slice b n c))]) = some (Rc.v ⟨0, d, 0, Pl.zero, []⟩ (.slice b n c) (.slice none 0 0)) := by kernel_rfl
end Go.Proofs.YtlkjippiaghbmaaGreat
