/- the document's table: what its functions do. -/
import Derived.Test.YtdgcpeinkjnncaaTabD
set_option maxRecDepth 20000
set_option linter.unusedSimpArgs false
set_option linter.unusedVariables false
namespace Go.Proofs.Ytdgcpeinkjnncaa
open Go

theorem RRight_ok {h : PH} (p : Pk) (hs0 : 0 ≤ p.s) (ht0 : 0 ≤ p.t) {k : Value → PH → Prop} (hk : ∀ h', Ext h h' → k (.bool p.right) h') : CallsH PG id_carrackref10_Right #[.agg p.cells.toArray] h k := by
  apply carrackref10_Right.call
  unfold carrackref10_Right
  intro r hr
  rw [bindH_eq]
  have u : Ext h (h.set r (.cells (Value.cells (.agg p.cells.toArray)) T_api_Packet)) := Upd.new hr
  have b : Bx (h.set r (.cells (Value.cells (.agg p.cells.toArray)) T_api_Packet)) r p.cells := Bx.new
  generalize h.set r (.cells (Value.cells (.agg p.cells.toArray)) T_api_Packet) = h1 at *
  have c0 : cellH h1 ⟨r, 0, none⟩ = some (.int .i64 p.f) := b.cell 0
  have c1 : cellH h1 ⟨r, 0 + 1, none⟩ = some (.int .u64 p.s) := b.cell 1
  have c2 : cellH h1 ⟨r, 0 + 2, none⟩ = some (.int .u64 p.t) := b.cell 2
  have c3 : cellH h1 ⟨r, 0 + 3, none⟩ = some (.string p.d) := b.cell 3
  have hk := hk h1 u
  unfold Pk.right at hk
  have hf : (p.f = 0 ∨ p.f = 1) ∨ (p.f < 0 ∨ 1 < p.f) := by omega
  rcases hf with hf | hf
  · have g1 : (0 ≤ p.f) = True := by apply eq_true; omega
    have g2 : (p.f ≤ 1) = True := by apply eq_true; omega
    have go : SemE PG h1 (Instr.loadAt T_int (.pointer (some ⟨r, 0, none⟩))) = some (.int .i64 p.f) := by rw [T_int.load, c0]
    have first : ∀ X : Prop, X → X := fun _ x => x
    by_cases h3 : p.s = 0
    · have e3 : ((0 : Int) < p.s) = False := by apply eq_false; omega
      have e3' : (p.s ≠ 0) = False := by simp [h3]
      simp only [g1, g2, e3', decide_false, Bool.false_and, Bool.and_false, popO_some, bindH_eq, condV_bool, condV_true, condV_false, yV_bool, gopV_tt, gopV_ff, gopV_tf, gopV_ft, pickV_t, pickV_f, pickV_bool, nilS_ptr, add_eq, sub_eq, mul_eq, lss_eq, leq_eq, gtr_eq, geq_eq, not_eq, minI_eq, maxI_eq, extract_0, extract_1, extract_2, eqlI, neqI, makeFunc_eq, decide_true, decide_false, if_true, if_false, Bool.false_eq_true, Bool.not_true, Bool.not_false, reduceIte, List.getElem?_toArray, List.getElem?_cons_zero, List.getElem?_cons_succ, Option.isSome_none, List.length_map] at hk
      rcases hf with hf | hf
      · have d0 : (p.f == 0) = true := by simp [hf]
        simp only [T_api_Packet.f0, T_api_Packet.f1, T_api_Packet.f2, T_api_Packet.f3, T_int.load, T_uint64.load, T_string.load, c0, d0, c1, e3, popO_some, bindH_eq, condV_bool, condV_true, condV_false, yV_bool, gopV_tt, gopV_ff, gopV_tf, gopV_ft, pickV_t, pickV_f, pickV_bool, nilS_ptr, add_eq, sub_eq, mul_eq, lss_eq, leq_eq, gtr_eq, geq_eq, not_eq, minI_eq, maxI_eq, extract_0, extract_1, extract_2, eqlI, neqI, makeFunc_eq, decide_true, decide_false, if_true, if_false, Bool.false_eq_true, Bool.not_true, Bool.not_false, reduceIte, List.getElem?_toArray, List.getElem?_cons_zero, List.getElem?_cons_succ, Option.isSome_none, List.length_map]
        exact hk
      · have d0 : (p.f == 0) = false := by simp [hf]
        have d1 : (p.f == 1) = true := by simp [hf]
        simp only [T_api_Packet.f0, T_api_Packet.f1, T_api_Packet.f2, T_api_Packet.f3, T_int.load, T_uint64.load, T_string.load, c0, d0, d1, c1, e3, popO_some, bindH_eq, condV_bool, condV_true, condV_false, yV_bool, gopV_tt, gopV_ff, gopV_tf, gopV_ft, pickV_t, pickV_f, pickV_bool, nilS_ptr, add_eq, sub_eq, mul_eq, lss_eq, leq_eq, gtr_eq, geq_eq, not_eq, minI_eq, maxI_eq, extract_0, extract_1, extract_2, eqlI, neqI, makeFunc_eq, decide_true, decide_false, if_true, if_false, Bool.false_eq_true, Bool.not_true, Bool.not_false, reduceIte, List.getElem?_toArray, List.getElem?_cons_zero, List.getElem?_cons_succ, Option.isSome_none, List.length_map]
        exact hk
    · have e3 : ((0 : Int) < p.s) = True := by apply eq_true; omega
      have e3' : (p.s ≠ 0) = True := by simp [h3]
      by_cases h4 : p.t = 0
      · have e4 : ((0 : Int) < p.t) = False := by apply eq_false; omega
        have e4' : (p.t ≠ 0) = False := by simp [h4]
        simp only [g1, g2, e3', e4', decide_false, Bool.false_and, Bool.and_false, popO_some, bindH_eq, condV_bool, condV_true, condV_false, yV_bool, gopV_tt, gopV_ff, gopV_tf, gopV_ft, pickV_t, pickV_f, pickV_bool, nilS_ptr, add_eq, sub_eq, mul_eq, lss_eq, leq_eq, gtr_eq, geq_eq, not_eq, minI_eq, maxI_eq, extract_0, extract_1, extract_2, eqlI, neqI, makeFunc_eq, decide_true, decide_false, if_true, if_false, Bool.false_eq_true, Bool.not_true, Bool.not_false, reduceIte, List.getElem?_toArray, List.getElem?_cons_zero, List.getElem?_cons_succ, Option.isSome_none, List.length_map] at hk
        rcases hf with hf | hf
        · have d0 : (p.f == 0) = true := by simp [hf]
          simp only [T_api_Packet.f0, T_api_Packet.f1, T_api_Packet.f2, T_api_Packet.f3, T_int.load, T_uint64.load, T_string.load, c0, d0, c1, e3, c2, e4, popO_some, bindH_eq, condV_bool, condV_true, condV_false, yV_bool, gopV_tt, gopV_ff, gopV_tf, gopV_ft, pickV_t, pickV_f, pickV_bool, nilS_ptr, add_eq, sub_eq, mul_eq, lss_eq, leq_eq, gtr_eq, geq_eq, not_eq, minI_eq, maxI_eq, extract_0, extract_1, extract_2, eqlI, neqI, makeFunc_eq, decide_true, decide_false, if_true, if_false, Bool.false_eq_true, Bool.not_true, Bool.not_false, reduceIte, List.getElem?_toArray, List.getElem?_cons_zero, List.getElem?_cons_succ, Option.isSome_none, List.length_map]
          exact hk
        · have d0 : (p.f == 0) = false := by simp [hf]
          have d1 : (p.f == 1) = true := by simp [hf]
          simp only [T_api_Packet.f0, T_api_Packet.f1, T_api_Packet.f2, T_api_Packet.f3, T_int.load, T_uint64.load, T_string.load, c0, d0, d1, c1, e3, c2, e4, popO_some, bindH_eq, condV_bool, condV_true, condV_false, yV_bool, gopV_tt, gopV_ff, gopV_tf, gopV_ft, pickV_t, pickV_f, pickV_bool, nilS_ptr, add_eq, sub_eq, mul_eq, lss_eq, leq_eq, gtr_eq, geq_eq, not_eq, minI_eq, maxI_eq, extract_0, extract_1, extract_2, eqlI, neqI, makeFunc_eq, decide_true, decide_false, if_true, if_false, Bool.false_eq_true, Bool.not_true, Bool.not_false, reduceIte, List.getElem?_toArray, List.getElem?_cons_zero, List.getElem?_cons_succ, Option.isSome_none, List.length_map]
          exact hk
      · have e4 : ((0 : Int) < p.t) = True := by apply eq_true; omega
        have e4' : (p.t ≠ 0) = True := by simp [h4]
        have e5 : decide ((p.d.size : Int) ≤ 64) = decide (p.d.size ≤ 64) := by
          rw [Bool.eq_iff_iff]; simp only [decide_eq_true_eq]; omega
        simp only [g1, g2, e3', e4', Bool.and_self, Bool.true_and, popO_some, bindH_eq, condV_bool, condV_true, condV_false, yV_bool, gopV_tt, gopV_ff, gopV_tf, gopV_ft, pickV_t, pickV_f, pickV_bool, nilS_ptr, add_eq, sub_eq, mul_eq, lss_eq, leq_eq, gtr_eq, geq_eq, not_eq, minI_eq, maxI_eq, extract_0, extract_1, extract_2, eqlI, neqI, makeFunc_eq, decide_true, decide_false, if_true, if_false, Bool.false_eq_true, Bool.not_true, Bool.not_false, reduceIte, List.getElem?_toArray, List.getElem?_cons_zero, List.getElem?_cons_succ, Option.isSome_none, List.length_map] at hk
        rcases hf with hf | hf
        · have d0 : (p.f == 0) = true := by simp [hf]
          simp only [T_api_Packet.f0, T_api_Packet.f1, T_api_Packet.f2, T_api_Packet.f3, T_int.load, T_uint64.load, T_string.load, c0, d0, c1, e3, c2, e4, c3, len_string T_string.und, e5, popO_some, bindH_eq, condV_bool, condV_true, condV_false, yV_bool, gopV_tt, gopV_ff, gopV_tf, gopV_ft, pickV_t, pickV_f, pickV_bool, nilS_ptr, add_eq, sub_eq, mul_eq, lss_eq, leq_eq, gtr_eq, geq_eq, not_eq, minI_eq, maxI_eq, extract_0, extract_1, extract_2, eqlI, neqI, makeFunc_eq, decide_true, decide_false, if_true, if_false, Bool.false_eq_true, Bool.not_true, Bool.not_false, reduceIte, List.getElem?_toArray, List.getElem?_cons_zero, List.getElem?_cons_succ, Option.isSome_none, List.length_map]
          exact hk
        · have d0 : (p.f == 0) = false := by simp [hf]
          have d1 : (p.f == 1) = true := by simp [hf]
          simp only [T_api_Packet.f0, T_api_Packet.f1, T_api_Packet.f2, T_api_Packet.f3, T_int.load, T_uint64.load, T_string.load, c0, d0, d1, c1, e3, c2, e4, c3, len_string T_string.und, e5, popO_some, bindH_eq, condV_bool, condV_true, condV_false, yV_bool, gopV_tt, gopV_ff, gopV_tf, gopV_ft, pickV_t, pickV_f, pickV_bool, nilS_ptr, add_eq, sub_eq, mul_eq, lss_eq, leq_eq, gtr_eq, geq_eq, not_eq, minI_eq, maxI_eq, extract_0, extract_1, extract_2, eqlI, neqI, makeFunc_eq, decide_true, decide_false, if_true, if_false, Bool.false_eq_true, Bool.not_true, Bool.not_false, reduceIte, List.getElem?_toArray, List.getElem?_cons_zero, List.getElem?_cons_succ, Option.isSome_none, List.length_map]
          exact hk
  · have d0 : (p.f == 0) = false := by simp; omega
    have d1 : (p.f == 1) = false := by simp; omega
    have g : (decide (0 ≤ p.f) && decide (p.f ≤ 1)) = false := by
      rw [Bool.and_eq_false_iff]; simp only [decide_eq_false_iff_not]; omega
    simp only [g, Bool.false_and] at hk
    simp only [T_api_Packet.f0, T_int.load, c0, d0, d1, popO_some, bindH_eq, condV_bool, condV_true, condV_false, yV_bool, gopV_tt, gopV_ff, gopV_tf, gopV_ft, pickV_t, pickV_f, pickV_bool, nilS_ptr, add_eq, sub_eq, mul_eq, lss_eq, leq_eq, gtr_eq, geq_eq, not_eq, minI_eq, maxI_eq, extract_0, extract_1, extract_2, eqlI, neqI, makeFunc_eq, decide_true, decide_false, if_true, if_false, Bool.false_eq_true, Bool.not_true, Bool.not_false, reduceIte, List.getElem?_toArray, List.getElem?_cons_zero, List.getElem?_cons_succ, Option.isSome_none, List.length_map]
    exact hk
theorem RNRight_ok {h : PH} (n : Nt) (hs0 : 0 ≤ n.p.s) (ht0 : 0 ≤ n.p.t) {k : Value → PH → Prop} (hk : ∀ h', Ext h h' → k (.bool n.right) h') : CallsH PG id_carrackref14_Right #[.agg n.cells.toArray] h k := by
  apply carrackref14_Right.call
  unfold carrackref14_Right
  intro r hr
  rw [bindH_eq]
  have u : Ext h (h.set r (.cells (Value.cells (.agg n.cells.toArray)) T_api_Note)) := Upd.new hr
  have b : Bx (h.set r (.cells (Value.cells (.agg n.cells.toArray)) T_api_Note)) r n.cells := Bx.new
  generalize h.set r (.cells (Value.cells (.agg n.cells.toArray)) T_api_Note) = h1 at *
  have c0 : cellH h1 ⟨r, 0, none⟩ = some (.int .i64 n.k) := b.cell 0
  have p1 := b.pk (o := 0 + 1) (p := n.p) rfl
  unfold Nt.right at hk
  by_cases d1 : 1 ≤ n.k
  · by_cases d2 : n.k ≤ 4
    · simp only [T_api_Note.f0, T_api_Note.f1, T_int.load, c0, d1, d2, p1, Bool.true_and, Bool.and_self, popO_some, bindH_eq, condV_bool, condV_true, condV_false, yV_bool, gopV_tt, gopV_ff, gopV_tf, gopV_ft, pickV_t, pickV_f, pickV_bool, nilS_ptr, add_eq, sub_eq, mul_eq, lss_eq, leq_eq, gtr_eq, geq_eq, not_eq, minI_eq, maxI_eq, extract_0, extract_1, extract_2, eqlI, neqI, makeFunc_eq, decide_true, decide_false, if_true, if_false, Bool.false_eq_true, Bool.not_true, Bool.not_false, reduceIte, List.getElem?_toArray, List.getElem?_cons_zero, List.getElem?_cons_succ, Option.isSome_none, List.length_map] at hk ⊢
      exact RRight_ok n.p hs0 ht0 fun h2 u2 => hk h2 (u.trans u2)
    · simp only [T_api_Note.f0, T_api_Note.f1, T_int.load, c0, d1, d2, Bool.false_and, Bool.and_false, decide_false, popO_some, bindH_eq, condV_bool, condV_true, condV_false, yV_bool, gopV_tt, gopV_ff, gopV_tf, gopV_ft, pickV_t, pickV_f, pickV_bool, nilS_ptr, add_eq, sub_eq, mul_eq, lss_eq, leq_eq, gtr_eq, geq_eq, not_eq, minI_eq, maxI_eq, extract_0, extract_1, extract_2, eqlI, neqI, makeFunc_eq, decide_true, decide_false, if_true, if_false, Bool.false_eq_true, Bool.not_true, Bool.not_false, reduceIte, List.getElem?_toArray, List.getElem?_cons_zero, List.getElem?_cons_succ, Option.isSome_none, List.length_map] at hk ⊢
      exact hk _ u
  · simp only [T_api_Note.f0, T_api_Note.f1, T_int.load, c0, d1, Bool.false_and, decide_false, popO_some, bindH_eq, condV_bool, condV_true, condV_false, yV_bool, gopV_tt, gopV_ff, gopV_tf, gopV_ft, pickV_t, pickV_f, pickV_bool, nilS_ptr, add_eq, sub_eq, mul_eq, lss_eq, leq_eq, gtr_eq, geq_eq, not_eq, minI_eq, maxI_eq, extract_0, extract_1, extract_2, eqlI, neqI, makeFunc_eq, decide_true, decide_false, if_true, if_false, Bool.false_eq_true, Bool.not_true, Bool.not_false, reduceIte, List.getElem?_toArray, List.getElem?_cons_zero, List.getElem?_cons_succ, Option.isSome_none, List.length_map] at hk ⊢
    exact hk _ u
def It.right (i : It) : Bool := (decide (i.g = 1) || decide (i.g = 2)) && i.p.right
theorem RIRight_ok {h : PH} (i : It) (hs0 : 0 ≤ i.p.s) (ht0 : 0 ≤ i.p.t) {k : Value → PH → Prop} (hk : ∀ h', Ext h h' → k (.bool i.right) h') : CallsH PG id_carrackref14_RightItem #[i.val] h k := by
  apply carrackref14_RightItem.call
  unfold carrackref14_RightItem
  intro r hr
  rw [bindH_eq]
  have u : Ext h (h.set r (.cells (Value.cells i.val) T_api_Item)) := Upd.new hr
  have b : Bx (h.set r (.cells (Value.cells i.val) T_api_Item)) r i.cells := Bx.new
  generalize h.set r (.cells (Value.cells i.val) T_api_Item) = h1 at *
  have c0 : cellH h1 ⟨r, 0 + 4, none⟩ = some (.int .i64 i.g) := b.cell 4
  have p1 := b.pk (o := 0) (p := i.p) rfl
  unfold It.right at hk
  by_cases d1 : i.g = 1
  · have e1 : (i.g == 1) = true := by simp [d1]
    simp only [T_api_Item.f0, T_api_Item.f1, T_int.load, c0, e1, p1, popO_some, bindH_eq, condV_bool, condV_true, condV_false, yV_bool, gopV_tt, gopV_ff, gopV_tf, gopV_ft, pickV_t, pickV_f, pickV_bool, nilS_ptr, add_eq, sub_eq, mul_eq, lss_eq, leq_eq, gtr_eq, geq_eq, not_eq, minI_eq, maxI_eq, extract_0, extract_1, extract_2, eqlI, neqI, makeFunc_eq, decide_true, decide_false, if_true, if_false, Bool.false_eq_true, Bool.not_true, Bool.not_false, reduceIte, List.getElem?_toArray, List.getElem?_cons_zero, List.getElem?_cons_succ, Option.isSome_none, List.length_map]
    refine RRight_ok i.p hs0 ht0 fun h2 u2 => ?_
    have := hk h2 (u.trans u2)
    simpa [d1] using this
  · have e1 : (i.g == 1) = false := by simp [d1]
    by_cases d2 : i.g = 2
    · have e2 : (i.g == 2) = true := by simp [d2]
      simp only [T_api_Item.f0, T_api_Item.f1, T_int.load, c0, e1, e2, p1, popO_some, bindH_eq, condV_bool, condV_true, condV_false, yV_bool, gopV_tt, gopV_ff, gopV_tf, gopV_ft, pickV_t, pickV_f, pickV_bool, nilS_ptr, add_eq, sub_eq, mul_eq, lss_eq, leq_eq, gtr_eq, geq_eq, not_eq, minI_eq, maxI_eq, extract_0, extract_1, extract_2, eqlI, neqI, makeFunc_eq, decide_true, decide_false, if_true, if_false, Bool.false_eq_true, Bool.not_true, Bool.not_false, reduceIte, List.getElem?_toArray, List.getElem?_cons_zero, List.getElem?_cons_succ, Option.isSome_none, List.length_map]
      refine RRight_ok i.p hs0 ht0 fun h2 u2 => ?_
      have := hk h2 (u.trans u2)
      simpa [d2] using this
    · have e2 : (i.g == 2) = false := by simp [d2]
      simp only [T_api_Item.f0, T_api_Item.f1, T_int.load, c0, e1, e2, popO_some, bindH_eq, condV_bool, condV_true, condV_false, yV_bool, gopV_tt, gopV_ff, gopV_tf, gopV_ft, pickV_t, pickV_f, pickV_bool, nilS_ptr, add_eq, sub_eq, mul_eq, lss_eq, leq_eq, gtr_eq, geq_eq, not_eq, minI_eq, maxI_eq, extract_0, extract_1, extract_2, eqlI, neqI, makeFunc_eq, decide_true, decide_false, if_true, if_false, Bool.false_eq_true, Bool.not_true, Bool.not_false, reduceIte, List.getElem?_toArray, List.getElem?_cons_zero, List.getElem?_cons_succ, Option.isSome_none, List.length_map]
      have := hk _ u
      simpa [d1, d2] using this

/-! ### rows put together -/
theorem empty_lit : SemA PG (Instr.buildSlice T_sl_api_Item 0 #[]) = some (.cells #[] T_api_Item (0, 0), fun r => pure (.slice (some ⟨r, 0, none⟩) 0 0)) := by kernel_rfl
theorem app_it {h : PH} {v x : Value} {F : List Nat} {xs ys : List It} (H : OwnR h T_api_Item 5 v (xs.map It.cells) F) (S : SlR h 5 x (ys.map It.cells)) (hl : xs.length + ys.length ≤ 1000000) {k : Value → PH → Prop}
    (hk : ∀ v' h' F', OwnR h' T_api_Item 5 v' ((xs ++ ys).map It.cells) F' → Upd F h h' → (∀ b ∈ F', b ∈ F ∨ h b = none) → k v' h') : SemH PG (Builtin.append_ #[T_sl_api_Item, T_sl_api_Item] T_sl_api_Item #[v, x]) h k := by
  refine append_own T_sl_api_Item.und T_sl_api_Item.und T_api_Item.info T_api_Item.size T_api_Item.bytes T_api_Item.zero rfl (by decide) H S (It.isCell _) (by simp; omega) ?_
  intro v' h' F' hO u f _
  rw [← List.map_append] at hO
  exact hk v' h' F' hO u f
theorem OwnR.cutIt {h : PH} {v : Value} {F : List Nat} {L : List It} (H : OwnR h T_api_Item 5 v (L.map It.cells) F) {lo hi : Option Value} {l m : Nat}
    (hlo : lo = none ∧ l = 0 ∨ ∃ k, lo = some (.int k l)) (hhi : hi = none ∧ m = L.length ∨ ∃ k, hi = some (.int k m)) (h1 : l ≤ m) (h2 : m ≤ L.length) :
    ∃ v', SemP PG (Instr.sliceAt T_sl_api_Item v lo hi none) = some v' ∧ SlR h 5 v' (((L.take m).drop l).map It.cells) ∧ ∀ x n c, v' = .slice (some x) n c → x.block ∈ F := by
  obtain ⟨v', e1, e2, e3⟩ := H.slR.cut T_sl_api_Item.und T_api_Item.info T_api_Item.size (l := l) (m := m) hlo (by rcases hhi with ⟨a, b⟩ | h; exact .inl ⟨a, by rw [List.length_map]; exact b⟩; exact .inr h) h1 (by rw [List.length_map]; exact h2)
  refine ⟨v', e1, ?_, ?_⟩
  · rw [← List.map_take, ← List.map_drop] at e2; exact e2
  · intro x n c hx
    obtain ⟨x0, n0, c0, hx0, hb⟩ := e3 x n c hx
    rcases H.here with ⟨h3, _⟩ | ⟨b, cap, cs, h3, h4, _⟩
    · rw [h3] at hx0; cases hx0
    · rw [h3] at hx0
      simp only [Value.slice.injEq, Option.some.injEq] at hx0
      rw [hb, ← hx0.1, h4]; simp

theorem RPut_ok {h : PH} {a : Nat} {L : List It} {room : Int} {F : List Nat} (H : RAt h a L room F) (hL : L.length ≤ 1000) (i : It) (hg : getL L i.key = none) {k : Value → PH → Prop}
    (hk : ∀ h' F', RAt h' a (putL L room i) room F' → Upd F h h' → (∀ b ∈ F', b ∈ F ∨ h b = none) → k (.int .i64 (putE L room i)) h') : CallsH PG id_carrackref15_Table_put #[.pointer (some ⟨a, 0, none⟩), i.val] h k := by
  apply carrackref15_Table_put.call
  unfold carrackref15_Table_put
  intro r1 hr1
  rw [bindH_eq]
  have u1 : Ext h (h.set r1 (.cells (Value.cells i.val) T_api_Item)) := Upd.new hr1
  have b1 : Bx (h.set r1 (.cells (Value.cells i.val) T_api_Item)) r1 i.cells := Bx.new
  generalize h.set r1 (.cells (Value.cells i.val) T_api_Item) = h1 at *
  have H1 := H.ext u1
  have hs := H.srt
  have HK := H.known
  obtain ⟨v, G, ha, hO, rfl, hn⟩ := H1.here
  have c0 : cellH h1 ⟨a, 0, none⟩ = some v := by simp [cellH, ha]
  have c1 : cellH h1 ⟨a, 0 + 1, none⟩ = some (.int .i64 room) := by simp [cellH, ha]
  have lv := hO.slR.len (t' := T_int) T_sl_api_Item.und
  rw [List.length_map] at lv
  by_cases hr : room ≤ L.length
  · have e1 : (room ≤ (L.length : Int)) = True := eq_true hr
    simp only [T_carrackref15_Table.f0, T_carrackref15_Table.f1, T_sl_api_Item.load, T_int.load, c0, c1, lv, e1, popO_some, bindH_eq, condV_bool, condV_true, condV_false, yV_bool, gopV_tt, gopV_ff, gopV_tf, gopV_ft, pickV_t, pickV_f, pickV_bool, nilS_ptr, add_eq, sub_eq, mul_eq, lss_eq, leq_eq, gtr_eq, geq_eq, not_eq, minI_eq, maxI_eq, extract_0, extract_1, extract_2, eqlI, neqI, makeFunc_eq, decide_true, decide_false, if_true, if_false, Bool.false_eq_true, Bool.not_true, Bool.not_false, reduceIte, List.getElem?_toArray, List.getElem?_cons_zero, List.getElem?_cons_succ, Option.isSome_none, List.length_map]
    have h1 : putE L room i = 2 := by unfold putE; rw [if_pos ⟨hg, hr⟩]
    have h2 : putL L room i = L := by unfold putL; rw [if_pos ⟨hg, hr⟩]
    rw [← h1]
    exact hk _ _ (by rw [h2]; exact H1) (Ext.upd u1) (fun b hb => .inl hb)
  · have e1 : (room ≤ (L.length : Int)) = False := eq_false hr
    have q1 : cellH h1 ⟨r1, 0, none⟩ = some (.int .i64 i.p.f) := b1.cell 0
    have q2 : cellH h1 ⟨r1, 0 + 1, none⟩ = some (.int .u64 i.p.s) := b1.cell 1
    simp only [T_carrackref15_Table.f0, T_carrackref15_Table.f1, T_sl_api_Item.load, T_int.load, T_uint64.load, T_api_Item.f0, T_api_Packet.f0, T_api_Packet.f1, c0, c1, lv, e1, q1, q2, popO_some, bindH_eq, condV_bool, condV_true, condV_false, yV_bool, gopV_tt, gopV_ff, gopV_tf, gopV_ft, pickV_t, pickV_f, pickV_bool, nilS_ptr, add_eq, sub_eq, mul_eq, lss_eq, leq_eq, gtr_eq, geq_eq, not_eq, minI_eq, maxI_eq, extract_0, extract_1, extract_2, eqlI, neqI, makeFunc_eq, decide_true, decide_false, if_true, if_false, Bool.false_eq_true, Bool.not_true, Bool.not_false, reduceIte, List.getElem?_toArray, List.getElem?_cons_zero, List.getElem?_cons_succ, Option.isSome_none, List.length_map]
    refine Place_ok H1 (by omega) i.key ?_
    have hpl := pA_le L i.key
    obtain ⟨w1, s1, s2, s3⟩ := hO.cutIt (lo := none) (hi := some (.int .i64 (pA L i.key).length)) (l := 0) (m := (pA L i.key).length) (.inl ⟨rfl, rfl⟩) (.inr ⟨.i64, rfl⟩) (Nat.zero_le _) hpl
    obtain ⟨w2, t1, t2, t3⟩ := hO.cutIt (lo := some (.int .i64 (pA L i.key).length)) (hi := none) (l := (pA L i.key).length) (m := L.length) (.inr ⟨.i64, rfl⟩) (.inl ⟨rfl, rfl⟩) hpl (Nat.le_refl _)
    rw [List.drop_zero] at s2
    rw [List.take_of_length_le (Nat.le_refl _)] at t2
    simp only [T_carrackref15_Table.f0, T_sl_api_Item.load, c0, s1, t1, b1.it, empty_lit, popO_some, bindH_eq, condV_bool, condV_true, condV_false, yV_bool, gopV_tt, gopV_ff, gopV_tf, gopV_ft, pickV_t, pickV_f, pickV_bool, nilS_ptr, add_eq, sub_eq, mul_eq, lss_eq, leq_eq, gtr_eq, geq_eq, not_eq, minI_eq, maxI_eq, extract_0, extract_1, extract_2, eqlI, neqI, makeFunc_eq, decide_true, decide_false, if_true, if_false, Bool.false_eq_true, Bool.not_true, Bool.not_false, reduceIte, List.getElem?_toArray, List.getElem?_cons_zero, List.getElem?_cons_succ, Option.isSome_none, List.length_map]
    intro r2 hr2
    refine popO_pure ?_
    try rw [bindH_eq]
    have u2 : Ext h1 (h1.set r2 (.cells #[] T_api_Item)) := Upd.new hr2
    have hE : OwnR (h1.set r2 (.cells #[] T_api_Item)) T_api_Item 5 (.slice (some ⟨r2, 0, none⟩) 0 0) (([] : List It).map It.cells) [r2] := OwnR.lit (It.rows []) set_same rfl (by decide) rfl
    generalize h1.set r2 (.cells #[] T_api_Item) = h2 at *
    refine app_it hE (s2.ext u2) (by simp; omega) ?_
    intro v3 h3 F3 hO3 u3 f3
    have ha2 := u2.get ha
    have n2 : a ∉ [r2] := by simp; rintro rfl; rw [ha] at hr2; cases hr2
    have ha3 : h3 a = some (.cells #[v, .int .i64 room] T_carrackref15_Table (0, 0)) := u3.get ha2 n2
    have nr : r1 ∉ [r2] := by simp; rintro rfl; exact b1.known hr2
    have b3 := (b1.ext u2).upd u3 nr
    have c03 : cellH h3 ⟨a, 0, none⟩ = some v := by simp [cellH, ha3]
    refine ⟨c03, b3.it, ?_⟩
    rw [it_lit, popO_some]
    intro r4 hr4
    refine popO_pure ?_
    try rw [bindH_eq]
    have u4 : Ext h3 (h3.set r4 (.cells i.cells.toArray T_api_Item)) := Upd.new hr4
    have s4 : SlR (h3.set r4 (.cells i.cells.toArray T_api_Item)) 5 (.slice (some ⟨r4, 0, none⟩) 1 1) ([i].map It.cells) := (OwnR.lit (It.rows [i]) set_same (by simp) (by decide) (by simp)).slR
    have s4' := s4
    show SemH PG (Builtin.append_ #[T_sl_api_Item, T_sl_api_Item] T_sl_api_Item #[v3, .slice (some ⟨r4, 0, none⟩) 1 1]) (h3.set r4 (.cells i.cells.toArray T_api_Item)) _
    generalize h3.set r4 (.cells i.cells.toArray T_api_Item) = h4 at *
    have ha4 := u4.get ha3
    refine app_it (hO3.ext u4) s4 (by simp; omega) ?_
    intro v5 h5 F5 hO5 u5 f5
    -- what lay at h1 lies there still
    have fresh3 : ∀ b ∈ F3, h1 b = none := fun b hb => by
      rcases f3 b hb with h6 | h6
      · simp at h6; subst h6; exact hr2
      · exact u2.none h6
    have na3 : a ∉ F3 := fun hm => by rw [fresh3 a hm] at ha; cases ha
    have ha5 : h5 a = some (.cells #[v, .int .i64 room] T_carrackref15_Table (0, 0)) := u5.get ha4 na3
    have E2 : Ext h1 h3 := u2.fresh u3 (Fresh.one hr2)
    have E4 : Ext h1 h4 := E2.trans u4
    have E5 : Ext h1 h5 := E4.fresh u5 fresh3
    have c05 : cellH h5 ⟨a, 0, none⟩ = some v := by simp [cellH, ha5]
    refine ⟨c05, ?_⟩
    have fresh5 : ∀ b ∈ F5, h1 b = none := fun b hb => by
      rcases f5 b hb with h6 | h6
      · exact fresh3 b h6
      · exact E4.none h6
    refine app_it hO5 (t2.ext E5) (by simp; omega) ?_
    intro v6 h6 F6 hO6 u6 f6
    have na5 : a ∉ F5 := fun hm => by rw [fresh5 a hm] at ha; cases ha
    have ha6 := u6.get ha5 na5
    have E6 : Ext h1 h6 := E5.fresh u6 fresh5
    have fresh6 : ∀ b ∈ F6, h1 b = none := fun b hb => by
      rcases f6 b hb with h7 | h7
      · exact fresh5 b h7
      · exact E5.none h7
    have na6 : a ∉ F6 := fun hm => by rw [fresh6 a hm] at ha; cases ha
    refine store_cell T_sl_api_Item.und rfl ha6 (by simp) (by obtain ⟨_, _, rfl, -⟩ := hO6.slR.here; rfl) T_sl_api_Item.info T_sl_api_Item.size ?_
    have u7 : Upd [a] h6 (h6.set a (.cells (#[v, .int .i64 room].setIfInBounds 0 v6) T_carrackref15_Table (0, 0))) := Upd.set (by simp)
    have ha7 : (h6.set a (.cells (#[v, .int .i64 room].setIfInBounds 0 v6) T_carrackref15_Table (0, 0))) a = some (.cells #[v6, .int .i64 room] T_carrackref15_Table (0, 0)) := set_same
    generalize h6.set a (.cells (#[v, .int .i64 room].setIfInBounds 0 v6) T_carrackref15_Table (0, 0)) = h7 at *
    have e2 : putE L room i = 0 := by unfold putE; rw [if_neg (fun hc => hr hc.2)]
    have e3 : putL L room i = insL L i := by unfold putL; rw [if_neg (fun hc => hr hc.2)]
    have e4 : ([] : List It) ++ L.take (pA L i.key).length ++ [i] ++ L.drop (pA L i.key).length = insL L i := by rw [List.nil_append]; exact ins_cut hs hg
    rw [e4] at hO6
    rw [← e2]
    refine hk h7 (a :: F6) ⟨⟨v6, F6, ha7, by rw [e3]; exact hO6.upd u7 (fun b hb => by simp; rintro rfl; exact na6 hb), rfl, na6⟩, by rw [e3]; exact hs.ins i⟩ ?_ ?_
    · exact Upd.then (Ext.upd (u1.trans E6)) u7 (fun b hb => by left; simp at hb; simp [hb])
    · intro b hb
      rcases List.mem_cons.1 hb with rfl | hb
      · left; simp
      · right; exact u1.none (fresh6 b hb)
end Go.Proofs.Ytdgcpeinkjnncaa
