/- script: the same acts? -/
import Derived.Test.YtflgnfiebgcegaaScrO
set_option linter.unusedSimpArgs false
set_option linter.unusedVariables false
namespace Go.Proofs.Ytflgnfiebgcegaa
open Go
set_option maxRecDepth 20000
theorem Equal_ok {h : PH} {v w : Value} {A B : List Wr} (hv : SlR h 2 v (A.map Wr.cells)) (hw : SlR h 2 w (B.map Wr.cells)) {k : Value → PH → Prop} (hk : k (.bool (decide (A = B))) h) :
    CallsH PG id_slices_Equal_sl_api_Write_api_Write #[v, w] h k := by
  apply slices_Equal_sl_api_Write_api_Write.call
  unfold slices_Equal_sl_api_Write_api_Write
  have lv := hv.len (t' := T_int) T_sl_api_Write.und
  have lw := hw.len (t' := T_int) T_sl_api_Write.und
  have small := hv.small
  rw [List.length_map] at lv lw small
  simp only [lv, lw, popO_some, bindH_eq, condV_bool, condV_true, condV_false, yV_bool, gopV_tt, gopV_ff, gopV_tf, gopV_ft, pickV_t, pickV_f, pickV_bool, nilS_ptr, add_eq, sub_eq, mul_eq, lss_eq, leq_eq, gtr_eq, geq_eq, not_eq, minI_eq, maxI_eq, extract_0, extract_1, extract_2, eqlI, neqI, makeFunc_eq, decide_true, decide_false, if_true, if_false, Bool.false_eq_true, Bool.not_true, Bool.not_false, reduceIte, List.getElem?_toArray, List.getElem?_cons_zero, List.getElem?_cons_succ, Option.isSome_none, List.length_map]
  by_cases hl : A.length = B.length
  · have q : (((A.length : Nat) : Int) != ((B.length : Nat) : Int)) = false := by simp [hl]
    simp only [q, popO_some, bindH_eq, condV_bool, condV_true, condV_false, yV_bool, gopV_tt, gopV_ff, gopV_tf, gopV_ft, pickV_t, pickV_f, pickV_bool, nilS_ptr, add_eq, sub_eq, mul_eq, lss_eq, leq_eq, gtr_eq, geq_eq, not_eq, minI_eq, maxI_eq, extract_0, extract_1, extract_2, eqlI, neqI, makeFunc_eq, decide_true, decide_false, if_true, if_false, Bool.false_eq_true, Bool.not_true, Bool.not_false, reduceIte, List.getElem?_toArray, List.getElem?_cons_zero, List.getElem?_cons_succ, Option.isSome_none, List.length_map]
    refine ⟨fun vs h' => h' = h ∧ ∃ i : Nat, i ≤ A.length ∧ vs = [v, w, .int .i64 A.length, .int .i64 i] ∧ A.take i = B.take i, upTo A.length 3, ⟨rfl, 0, by omega, rfl, rfl⟩, ?_⟩
    rintro ρ h' ⟨rfl, i, hi, hvs, ht⟩
    simp only [List.map_cons, List.map_nil, List.cons.injEq, and_true] at hvs
    obtain ⟨e2, e3, e4, e5⟩ := hvs
    simp only [e2, e3, e4, e5]
    unfold slices_Equal_sl_api_Write_api_Write_b6
    by_cases hlt : i < A.length
    · have hd : ((i : Int) < (A.length : Int)) = True := by apply eq_true; omega
      obtain ⟨m, hm⟩ : ∃ m, A[i]? = some m := ⟨_, List.getElem?_eq_getElem hlt⟩
      obtain ⟨m', hm'⟩ : ∃ m, B[i]? = some m := ⟨_, List.getElem?_eq_getElem (by omega)⟩
      obtain ⟨a, a1, a2⟩ := hv.wr (k := .i64) hm
      obtain ⟨b, b1, b2⟩ := hw.wr (k := .i64) hm'
      simp only [hd, a1, a2, b1, b2, Wr.neq, popO_some, bindH_eq, condV_bool, condV_true, condV_false, yV_bool, gopV_tt, gopV_ff, gopV_tf, gopV_ft, pickV_t, pickV_f, pickV_bool, nilS_ptr, add_eq, sub_eq, mul_eq, lss_eq, leq_eq, gtr_eq, geq_eq, not_eq, minI_eq, maxI_eq, extract_0, extract_1, extract_2, eqlI, neqI, makeFunc_eq, decide_true, decide_false, if_true, if_false, Bool.false_eq_true, Bool.not_true, Bool.not_false, reduceIte, List.getElem?_toArray, List.getElem?_cons_zero, List.getElem?_cons_succ, Option.isSome_none, List.length_map]
      by_cases e : m = m'
      · have q : decide (m = m') = true := by simp [e]
        unfold maxL at small
        have ei : IntKind.i64.wrap ((i : Int) + 1) = ((i + 1 : Nat) : Int) := by rw [i64_wrap (by omega) (by omega)]; omega
        simp only [q, ei, popO_some, bindH_eq, condV_bool, condV_true, condV_false, yV_bool, gopV_tt, gopV_ff, gopV_tf, gopV_ft, pickV_t, pickV_f, pickV_bool, nilS_ptr, add_eq, sub_eq, mul_eq, lss_eq, leq_eq, gtr_eq, geq_eq, not_eq, minI_eq, maxI_eq, extract_0, extract_1, extract_2, eqlI, neqI, makeFunc_eq, decide_true, decide_false, if_true, if_false, Bool.false_eq_true, Bool.not_true, Bool.not_false, reduceIte, List.getElem?_toArray, List.getElem?_cons_zero, List.getElem?_cons_succ, Option.isSome_none, List.length_map]
        refine ⟨⟨by trivial, i + 1, by omega, rfl, ?_⟩, by simp [upTo, e5]; omega⟩
        rw [List.take_add_one, List.take_add_one, ht, hm, hm', e]
      · have q : decide (m = m') = false := by simp [e]
        have : decide (A = B) = false := by
          apply decide_eq_false; rintro rfl
          rw [hm] at hm'; exact e (Option.some.inj hm')
        rw [this] at hk
        simp only [q, popO_some, bindH_eq, condV_bool, condV_true, condV_false, yV_bool, gopV_tt, gopV_ff, gopV_tf, gopV_ft, pickV_t, pickV_f, pickV_bool, nilS_ptr, add_eq, sub_eq, mul_eq, lss_eq, leq_eq, gtr_eq, geq_eq, not_eq, minI_eq, maxI_eq, extract_0, extract_1, extract_2, eqlI, neqI, makeFunc_eq, decide_true, decide_false, if_true, if_false, Bool.false_eq_true, Bool.not_true, Bool.not_false, reduceIte, List.getElem?_toArray, List.getElem?_cons_zero, List.getElem?_cons_succ, Option.isSome_none, List.length_map]
        exact hk
    · have hd : ((i : Int) < (A.length : Int)) = False := by apply eq_false; omega
      rw [List.take_of_length_le (by omega), List.take_of_length_le (by omega)] at ht
      simp only [hd, popO_some, bindH_eq, condV_bool, condV_true, condV_false, yV_bool, gopV_tt, gopV_ff, gopV_tf, gopV_ft, pickV_t, pickV_f, pickV_bool, nilS_ptr, add_eq, sub_eq, mul_eq, lss_eq, leq_eq, gtr_eq, geq_eq, not_eq, minI_eq, maxI_eq, extract_0, extract_1, extract_2, eqlI, neqI, makeFunc_eq, decide_true, decide_false, if_true, if_false, Bool.false_eq_true, Bool.not_true, Bool.not_false, reduceIte, List.getElem?_toArray, List.getElem?_cons_zero, List.getElem?_cons_succ, Option.isSome_none, List.length_map]
      rwa [decide_eq_true ht] at hk
  · have q : (((A.length : Nat) : Int) != ((B.length : Nat) : Int)) = true := by simp; omega
    have : decide (A = B) = false := by
      apply decide_eq_false; rintro rfl; exact hl rfl
    rw [this] at hk
    simp only [q, popO_some, bindH_eq, condV_bool, condV_true, condV_false, yV_bool, gopV_tt, gopV_ff, gopV_tf, gopV_ft, pickV_t, pickV_f, pickV_bool, nilS_ptr, add_eq, sub_eq, mul_eq, lss_eq, leq_eq, gtr_eq, geq_eq, not_eq, minI_eq, maxI_eq, extract_0, extract_1, extract_2, eqlI, neqI, makeFunc_eq, decide_true, decide_false, if_true, if_false, Bool.false_eq_true, Bool.not_true, Bool.not_false, reduceIte, List.getElem?_toArray, List.getElem?_cons_zero, List.getElem?_cons_succ, Option.isSome_none, List.length_map]
    exact hk
set_option maxHeartbeats 1000000 in
theorem same_ok {h : PH} {A B : Act} {v w : Value} (hv : SlR h 2 v (A.writes.map Wr.cells)) (hw : SlR h 2 w (B.writes.map Wr.cells)) {k : Value → PH → Prop} (hk : ∀ h', Ext h h' → k (.bool (decide (A = B))) h') :
    CallsH PG id_script_same #[.agg (A.cells v).toArray, .agg (B.cells w).toArray] h k := by
  apply script_same.call
  unfold script_same
  intro r1 hr1
  try rw [bindH_eq]
  have u1 : Ext h (h.set r1 (.cells (Value.agg (A.cells v).toArray).cells T_api_Act)) := Upd.new hr1
  have B1 : ABox (h.set r1 (.cells (Value.agg (A.cells v).toArray).cells T_api_Act)) r1 A v := ⟨set_same⟩
  generalize h.set r1 (.cells (Value.agg (A.cells v).toArray).cells T_api_Act) = h1 at *
  intro r3 hr3
  try rw [bindH_eq]
  have u2 : Ext h1 (h1.set r3 (.cells (Value.agg (B.cells w).toArray).cells T_api_Act)) := Upd.new hr3
  have B3 : ABox (h1.set r3 (.cells (Value.agg (B.cells w).toArray).cells T_api_Act)) r3 B w := ⟨set_same⟩
  generalize h1.set r3 (.cells (Value.agg (B.cells w).toArray).cells T_api_Act) = h' at *
  have B1 := B1.ext u2
  have u := u1.trans u2
  have hv := hv.ext u
  have hw := hw.ext u
  have hk := hk _ u
  simp only [T_api_Act.f6, Nat.zero_add, T_sl_api_Write.load, B1.field6, B3.field6, popO_some, bindH_eq, condV_bool, condV_true, condV_false, yV_bool, gopV_tt, gopV_ff, gopV_tf, gopV_ft, pickV_t, pickV_f, pickV_bool, nilS_ptr, add_eq, sub_eq, mul_eq, lss_eq, leq_eq, gtr_eq, geq_eq, not_eq, minI_eq, maxI_eq, extract_0, extract_1, extract_2, eqlI, neqI, makeFunc_eq, decide_true, decide_false, if_true, if_false, Bool.false_eq_true, Bool.not_true, Bool.not_false, reduceIte, List.getElem?_toArray, List.getElem?_cons_zero, List.getElem?_cons_succ, Option.isSome_none, List.length_map]
  refine Equal_ok hv hw ?_
  by_cases ht : A.writes = B.writes
  · simp only [decide_eq_true ht, popO_some, bindH_eq, condV_bool, condV_true, condV_false, yV_bool, gopV_tt, gopV_ff, gopV_tf, gopV_ft, pickV_t, pickV_f, pickV_bool, nilS_ptr, add_eq, sub_eq, mul_eq, lss_eq, leq_eq, gtr_eq, geq_eq, not_eq, minI_eq, maxI_eq, extract_0, extract_1, extract_2, eqlI, neqI, makeFunc_eq, decide_true, decide_false, if_true, if_false, Bool.false_eq_true, Bool.not_true, Bool.not_false, reduceIte, List.getElem?_toArray, List.getElem?_cons_zero, List.getElem?_cons_succ, Option.isSome_none, List.length_map]
    have hkF : A ≠ B → k (.bool false) h' := fun e => by rw [decide_eq_false e] at hk; exact hk
    by_cases e0 : A.kind = B.kind
    rotate_left
    · simp only [T_api_Act.f0, T_api_Act.f1, T_api_Act.f2, T_api_Act.f3, T_api_Act.f4, T_api_Act.f5, Nat.zero_add, T_int.load, T_uint64.load, T_string.load, B1.kind, B3.kind, B1.c1, B3.c1, B1.c2, B3.c2, B1.c3, B3.c3, B1.c4, B3.c4, B1.msg, B3.msg, Msg.eql, eqlS, bdec, nat_eq, decide_eq_false e0, popO_some, bindH_eq, condV_bool, condV_true, condV_false, yV_bool, gopV_tt, gopV_ff, gopV_tf, gopV_ft, pickV_t, pickV_f, pickV_bool, nilS_ptr, add_eq, sub_eq, mul_eq, lss_eq, leq_eq, gtr_eq, geq_eq, not_eq, minI_eq, maxI_eq, extract_0, extract_1, extract_2, eqlI, neqI, makeFunc_eq, decide_true, decide_false, if_true, if_false, Bool.false_eq_true, Bool.not_true, Bool.not_false, reduceIte, List.getElem?_toArray, List.getElem?_cons_zero, List.getElem?_cons_succ, Option.isSome_none, List.length_map]; exact hkF (fun e => e0 (by rw [e]))
    by_cases e1 : A.chain = B.chain
    rotate_left
    · simp only [T_api_Act.f0, T_api_Act.f1, T_api_Act.f2, T_api_Act.f3, T_api_Act.f4, T_api_Act.f5, Nat.zero_add, T_int.load, T_uint64.load, T_string.load, B1.kind, B3.kind, B1.c1, B3.c1, B1.c2, B3.c2, B1.c3, B3.c3, B1.c4, B3.c4, B1.msg, B3.msg, Msg.eql, eqlS, bdec, nat_eq, decide_eq_true e0, decide_eq_false e1, popO_some, bindH_eq, condV_bool, condV_true, condV_false, yV_bool, gopV_tt, gopV_ff, gopV_tf, gopV_ft, pickV_t, pickV_f, pickV_bool, nilS_ptr, add_eq, sub_eq, mul_eq, lss_eq, leq_eq, gtr_eq, geq_eq, not_eq, minI_eq, maxI_eq, extract_0, extract_1, extract_2, eqlI, neqI, makeFunc_eq, decide_true, decide_false, if_true, if_false, Bool.false_eq_true, Bool.not_true, Bool.not_false, reduceIte, List.getElem?_toArray, List.getElem?_cons_zero, List.getElem?_cons_succ, Option.isSome_none, List.length_map]; exact hkF (fun e => e1 (by rw [e]))
    by_cases e2 : A.timeout = B.timeout
    rotate_left
    · simp only [T_api_Act.f0, T_api_Act.f1, T_api_Act.f2, T_api_Act.f3, T_api_Act.f4, T_api_Act.f5, Nat.zero_add, T_int.load, T_uint64.load, T_string.load, B1.kind, B3.kind, B1.c1, B3.c1, B1.c2, B3.c2, B1.c3, B3.c3, B1.c4, B3.c4, B1.msg, B3.msg, Msg.eql, eqlS, bdec, nat_eq, decide_eq_true e0, decide_eq_true e1, decide_eq_false e2, popO_some, bindH_eq, condV_bool, condV_true, condV_false, yV_bool, gopV_tt, gopV_ff, gopV_tf, gopV_ft, pickV_t, pickV_f, pickV_bool, nilS_ptr, add_eq, sub_eq, mul_eq, lss_eq, leq_eq, gtr_eq, geq_eq, not_eq, minI_eq, maxI_eq, extract_0, extract_1, extract_2, eqlI, neqI, makeFunc_eq, decide_true, decide_false, if_true, if_false, Bool.false_eq_true, Bool.not_true, Bool.not_false, reduceIte, List.getElem?_toArray, List.getElem?_cons_zero, List.getElem?_cons_succ, Option.isSome_none, List.length_map]; exact hkF (fun e => e2 (by rw [e]))
    by_cases e3 : A.data = B.data
    rotate_left
    · simp only [T_api_Act.f0, T_api_Act.f1, T_api_Act.f2, T_api_Act.f3, T_api_Act.f4, T_api_Act.f5, Nat.zero_add, T_int.load, T_uint64.load, T_string.load, B1.kind, B3.kind, B1.c1, B3.c1, B1.c2, B3.c2, B1.c3, B3.c3, B1.c4, B3.c4, B1.msg, B3.msg, Msg.eql, eqlS, bdec, nat_eq, decide_eq_true e0, decide_eq_true e1, decide_eq_true e2, decide_eq_false e3, popO_some, bindH_eq, condV_bool, condV_true, condV_false, yV_bool, gopV_tt, gopV_ff, gopV_tf, gopV_ft, pickV_t, pickV_f, pickV_bool, nilS_ptr, add_eq, sub_eq, mul_eq, lss_eq, leq_eq, gtr_eq, geq_eq, not_eq, minI_eq, maxI_eq, extract_0, extract_1, extract_2, eqlI, neqI, makeFunc_eq, decide_true, decide_false, if_true, if_false, Bool.false_eq_true, Bool.not_true, Bool.not_false, reduceIte, List.getElem?_toArray, List.getElem?_cons_zero, List.getElem?_cons_succ, Option.isSome_none, List.length_map]; exact hkF (fun e => e3 (by rw [e]))
    by_cases e4 : A.n = B.n
    rotate_left
    · simp only [T_api_Act.f0, T_api_Act.f1, T_api_Act.f2, T_api_Act.f3, T_api_Act.f4, T_api_Act.f5, Nat.zero_add, T_int.load, T_uint64.load, T_string.load, B1.kind, B3.kind, B1.c1, B3.c1, B1.c2, B3.c2, B1.c3, B3.c3, B1.c4, B3.c4, B1.msg, B3.msg, Msg.eql, eqlS, bdec, nat_eq, decide_eq_true e0, decide_eq_true e1, decide_eq_true e2, decide_eq_true e3, decide_eq_false e4, popO_some, bindH_eq, condV_bool, condV_true, condV_false, yV_bool, gopV_tt, gopV_ff, gopV_tf, gopV_ft, pickV_t, pickV_f, pickV_bool, nilS_ptr, add_eq, sub_eq, mul_eq, lss_eq, leq_eq, gtr_eq, geq_eq, not_eq, minI_eq, maxI_eq, extract_0, extract_1, extract_2, eqlI, neqI, makeFunc_eq, decide_true, decide_false, if_true, if_false, Bool.false_eq_true, Bool.not_true, Bool.not_false, reduceIte, List.getElem?_toArray, List.getElem?_cons_zero, List.getElem?_cons_succ, Option.isSome_none, List.length_map]; exact hkF (fun e => e4 (by rw [e]))
    by_cases e6 : A.msg = B.msg
    rotate_left
    · simp only [T_api_Act.f0, T_api_Act.f1, T_api_Act.f2, T_api_Act.f3, T_api_Act.f4, T_api_Act.f5, Nat.zero_add, T_int.load, T_uint64.load, T_string.load, B1.kind, B3.kind, B1.c1, B3.c1, B1.c2, B3.c2, B1.c3, B3.c3, B1.c4, B3.c4, B1.msg, B3.msg, Msg.eql, eqlS, bdec, nat_eq, decide_eq_true e0, decide_eq_true e1, decide_eq_true e2, decide_eq_true e3, decide_eq_true e4, decide_eq_false e6, popO_some, bindH_eq, condV_bool, condV_true, condV_false, yV_bool, gopV_tt, gopV_ff, gopV_tf, gopV_ft, pickV_t, pickV_f, pickV_bool, nilS_ptr, add_eq, sub_eq, mul_eq, lss_eq, leq_eq, gtr_eq, geq_eq, not_eq, minI_eq, maxI_eq, extract_0, extract_1, extract_2, eqlI, neqI, makeFunc_eq, decide_true, decide_false, if_true, if_false, Bool.false_eq_true, Bool.not_true, Bool.not_false, reduceIte, List.getElem?_toArray, List.getElem?_cons_zero, List.getElem?_cons_succ, Option.isSome_none, List.length_map]; exact hkF (fun e => e6 (by rw [e]))
    simp only [T_api_Act.f0, T_api_Act.f1, T_api_Act.f2, T_api_Act.f3, T_api_Act.f4, T_api_Act.f5, Nat.zero_add, T_int.load, T_uint64.load, T_string.load, B1.kind, B3.kind, B1.c1, B3.c1, B1.c2, B3.c2, B1.c3, B3.c3, B1.c4, B3.c4, B1.msg, B3.msg, Msg.eql, eqlS, bdec, nat_eq, decide_eq_true e0, decide_eq_true e1, decide_eq_true e2, decide_eq_true e3, decide_eq_true e4, decide_eq_true e6, popO_some, bindH_eq, condV_bool, condV_true, condV_false, yV_bool, gopV_tt, gopV_ff, gopV_tf, gopV_ft, pickV_t, pickV_f, pickV_bool, nilS_ptr, add_eq, sub_eq, mul_eq, lss_eq, leq_eq, gtr_eq, geq_eq, not_eq, minI_eq, maxI_eq, extract_0, extract_1, extract_2, eqlI, neqI, makeFunc_eq, decide_true, decide_false, if_true, if_false, Bool.false_eq_true, Bool.not_true, Bool.not_false, reduceIte, List.getElem?_toArray, List.getElem?_cons_zero, List.getElem?_cons_succ, Option.isSome_none, List.length_map]
    have : A = B := by cases A; cases B; simp_all
    rw [decide_eq_true this] at hk
    exact hk
  · simp only [decide_eq_false ht, popO_some, bindH_eq, condV_bool, condV_true, condV_false, yV_bool, gopV_tt, gopV_ff, gopV_tf, gopV_ft, pickV_t, pickV_f, pickV_bool, nilS_ptr, add_eq, sub_eq, mul_eq, lss_eq, leq_eq, gtr_eq, geq_eq, not_eq, minI_eq, maxI_eq, extract_0, extract_1, extract_2, eqlI, neqI, makeFunc_eq, decide_true, decide_false, if_true, if_false, Bool.false_eq_true, Bool.not_true, Bool.not_false, reduceIte, List.getElem?_toArray, List.getElem?_cons_zero, List.getElem?_cons_succ, Option.isSome_none, List.length_map]
    rw [decide_eq_false (fun e => ht (by rw [e]))] at hk
    exact hk
end Go.Proofs.Ytflgnfiebgcegaa
