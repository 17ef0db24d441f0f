/- script: the document's Put. -/
import Derived.Test.YtflgnfiebgcegaaScrV
set_option linter.unusedSimpArgs false
set_option linter.unusedVariables false
namespace Go.Proofs.Ytflgnfiebgcegaa
open Go
set_option maxRecDepth 20000
theorem fits1_ok {h : PH} {x : Int} {k : Value → PH → Prop} (hk : ∀ b, (b = true ↔ 0 ≤ x ∧ x ≤ 255) → k (.bool b) h) : CallsH PG id_carrackref23_fits #[.int .i64 x, .int .i64 1] h k := by
  apply carrackref23_fits.call
  unfold carrackref23_fits
  by_cases h0 : 0 ≤ x
  · by_cases h1 : x ≤ 255
    · simp only [h0, h1, Int.reduceBEq, beq_self_eq_true, popO_some, bindH_eq, condV_bool, condV_true, condV_false, yV_bool, gopV_tt, gopV_ff, gopV_tf, gopV_ft, pickV_t, pickV_f, pickV_bool, nilS_ptr, add_eq, sub_eq, mul_eq, lss_eq, leq_eq, gtr_eq, geq_eq, not_eq, minI_eq, maxI_eq, extract_0, extract_1, extract_2, eqlI, neqI, makeFunc_eq, decide_true, decide_false, if_true, if_false, Bool.false_eq_true, Bool.not_true, Bool.not_false, reduceIte, List.getElem?_toArray, List.getElem?_cons_zero, List.getElem?_cons_succ, Option.isSome_none, List.length_map]
      exact hk true ⟨fun _ => ⟨h0, h1⟩, fun _ => rfl⟩
    · simp only [h0, h1, Int.reduceBEq, beq_self_eq_true, popO_some, bindH_eq, condV_bool, condV_true, condV_false, yV_bool, gopV_tt, gopV_ff, gopV_tf, gopV_ft, pickV_t, pickV_f, pickV_bool, nilS_ptr, add_eq, sub_eq, mul_eq, lss_eq, leq_eq, gtr_eq, geq_eq, not_eq, minI_eq, maxI_eq, extract_0, extract_1, extract_2, eqlI, neqI, makeFunc_eq, decide_true, decide_false, if_true, if_false, Bool.false_eq_true, Bool.not_true, Bool.not_false, reduceIte, List.getElem?_toArray, List.getElem?_cons_zero, List.getElem?_cons_succ, Option.isSome_none, List.length_map]
      exact hk false ⟨fun e => (by cases e), fun e => absurd e.2 h1⟩
  · simp only [h0, Int.reduceBEq, beq_self_eq_true, popO_some, bindH_eq, condV_bool, condV_true, condV_false, yV_bool, gopV_tt, gopV_ff, gopV_tf, gopV_ft, pickV_t, pickV_f, pickV_bool, nilS_ptr, add_eq, sub_eq, mul_eq, lss_eq, leq_eq, gtr_eq, geq_eq, not_eq, minI_eq, maxI_eq, extract_0, extract_1, extract_2, eqlI, neqI, makeFunc_eq, decide_true, decide_false, if_true, if_false, Bool.false_eq_true, Bool.not_true, Bool.not_false, reduceIte, List.getElem?_toArray, List.getElem?_cons_zero, List.getElem?_cons_succ, Option.isSome_none, List.length_map]
    exact hk false ⟨fun e => (by cases e), fun e => absurd e.1 h0⟩
theorem fits2_ok {h : PH} {x : Int} {k : Value → PH → Prop} (hk : ∀ b, (b = true ↔ 0 ≤ x ∧ x ≤ 65535) → k (.bool b) h) : CallsH PG id_carrackref23_fits #[.int .i64 x, .int .i64 2] h k := by
  apply carrackref23_fits.call
  unfold carrackref23_fits
  by_cases h0 : 0 ≤ x
  · by_cases h1 : x ≤ 65535
    · simp only [h0, h1, Int.reduceBEq, beq_self_eq_true, popO_some, bindH_eq, condV_bool, condV_true, condV_false, yV_bool, gopV_tt, gopV_ff, gopV_tf, gopV_ft, pickV_t, pickV_f, pickV_bool, nilS_ptr, add_eq, sub_eq, mul_eq, lss_eq, leq_eq, gtr_eq, geq_eq, not_eq, minI_eq, maxI_eq, extract_0, extract_1, extract_2, eqlI, neqI, makeFunc_eq, decide_true, decide_false, if_true, if_false, Bool.false_eq_true, Bool.not_true, Bool.not_false, reduceIte, List.getElem?_toArray, List.getElem?_cons_zero, List.getElem?_cons_succ, Option.isSome_none, List.length_map]
      exact hk true ⟨fun _ => ⟨h0, h1⟩, fun _ => rfl⟩
    · simp only [h0, h1, Int.reduceBEq, beq_self_eq_true, popO_some, bindH_eq, condV_bool, condV_true, condV_false, yV_bool, gopV_tt, gopV_ff, gopV_tf, gopV_ft, pickV_t, pickV_f, pickV_bool, nilS_ptr, add_eq, sub_eq, mul_eq, lss_eq, leq_eq, gtr_eq, geq_eq, not_eq, minI_eq, maxI_eq, extract_0, extract_1, extract_2, eqlI, neqI, makeFunc_eq, decide_true, decide_false, if_true, if_false, Bool.false_eq_true, Bool.not_true, Bool.not_false, reduceIte, List.getElem?_toArray, List.getElem?_cons_zero, List.getElem?_cons_succ, Option.isSome_none, List.length_map]
      exact hk false ⟨fun e => (by cases e), fun e => absurd e.2 h1⟩
  · simp only [h0, Int.reduceBEq, beq_self_eq_true, popO_some, bindH_eq, condV_bool, condV_true, condV_false, yV_bool, gopV_tt, gopV_ff, gopV_tf, gopV_ft, pickV_t, pickV_f, pickV_bool, nilS_ptr, add_eq, sub_eq, mul_eq, lss_eq, leq_eq, gtr_eq, geq_eq, not_eq, minI_eq, maxI_eq, extract_0, extract_1, extract_2, eqlI, neqI, makeFunc_eq, decide_true, decide_false, if_true, if_false, Bool.false_eq_true, Bool.not_true, Bool.not_false, reduceIte, List.getElem?_toArray, List.getElem?_cons_zero, List.getElem?_cons_succ, Option.isSome_none, List.length_map]
    exact hk false ⟨fun e => (by cases e), fun e => absurd e.1 h0⟩
theorem nb1_ok {h : PH} {x : Int} {k : Value → PH → Prop} (hk : ∀ h', Ext h h' → k (.string (tx (nb x 1))) h') : CallsH PG id_carrackref23_num #[.int .i64 x, .int .i64 1] h k := num_ok (c := 1) (by decide) hk
theorem nb2_ok {h : PH} {x : Int} {k : Value → PH → Prop} (hk : ∀ h', Ext h h' → k (.string (tx (nb x 2))) h') : CallsH PG id_carrackref23_num #[.int .i64 x, .int .i64 2] h k := num_ok (c := 2) (by decide) hk
theorem be8_ok {h : PH} {n : Nat} (hn : n < 18446744073709551616) {k : Value → PH → Prop} (hk : ∀ h', Ext h h' → k (.string (tx (be n 8))) h') : CallsH PG id_carrackref03_Bytes #[.int .u64 n, .int .i64 8] h k := RBytes_ok (c := 8) hn (by decide) hk
theorem text23_ok {h : PH} {l : List UInt8} (hl : l.length ≤ 1000000000) {k : Value → PH → Prop} (hk : ∀ h', Ext h h' → k (.string (tx (be l.length 2 ++ l))) h') : CallsH PG id_carrackref23_text #[.string (tx l)] h k := by
  apply carrackref23_text.call
  unfold carrackref23_text
  simp only [T_string.len, tx_size, popO_some, bindH_eq, condV_bool, condV_true, condV_false, yV_bool, gopV_tt, gopV_ff, gopV_tf, gopV_ft, pickV_t, pickV_f, pickV_bool, nilS_ptr, add_eq, sub_eq, mul_eq, lss_eq, leq_eq, gtr_eq, geq_eq, not_eq, minI_eq, maxI_eq, extract_0, extract_1, extract_2, eqlI, neqI, makeFunc_eq, decide_true, decide_false, if_true, if_false, Bool.false_eq_true, Bool.not_true, Bool.not_false, reduceIte, List.getElem?_toArray, List.getElem?_cons_zero, List.getElem?_cons_succ, Option.isSome_none, List.length_map]
  refine num_nat (c := 2) (by omega) (by decide) fun h1 u1 => ?_
  have ea := add_tx (P := PG) (t := T_string) (a := be l.length 2) (b := l) (by rw [be_len]; omega)
  simp only [ea, popO_some, bindH_eq, condV_bool, condV_true, condV_false, yV_bool, gopV_tt, gopV_ff, gopV_tf, gopV_ft, pickV_t, pickV_f, pickV_bool, nilS_ptr, add_eq, sub_eq, mul_eq, lss_eq, leq_eq, gtr_eq, geq_eq, not_eq, minI_eq, maxI_eq, extract_0, extract_1, extract_2, eqlI, neqI, makeFunc_eq, decide_true, decide_false, if_true, if_false, Bool.false_eq_true, Bool.not_true, Bool.not_false, reduceIte, List.getElem?_toArray, List.getElem?_cons_zero, List.getElem?_cons_succ, Option.isSome_none, List.length_map]
  exact hk _ u1
theorem msg0_build : SemP PG (Instr.build T_api_Message #[]) = some (.agg Msg.zero.cells.toArray) := by kernel_rfl
theorem k16_ok {h : PH} {r : Nat} {B : Act} {v : Value} (H : ABox h r B v) (hv : ∃ A : List Wr, SlR h 2 v (A.map Wr.cells) ∧ A.length = B.writes.length) {k : Value → PH → Prop} (hk : ∀ b, (b = true ↔ B = Act.zero B.kind) → k (.bool b) h) : carrackref23_rest_k15 k (.pointer (some ⟨r, 0, none⟩)) h := by
  unfold carrackref23_rest_k15 carrackref23_rest_k16
  obtain ⟨ws, hS, hl⟩ := hv
  have lv := hS.len (t' := T_int) T_sl_api_Write.und
  rw [List.length_map, hl] at lv
  have no : B ≠ Act.zero B.kind → k (.bool false) h := fun h => hk false ⟨fun e => (by cases e), fun e => absurd e h⟩
  have z0 : (tx [] : ByteArray) = ⟨#[]⟩ := rfl
  by_cases e0 : B.chain = 0
  rotate_left
  · simp only [T_api_Act.f1, Nat.zero_add, T_int.load, H.c1, bdec, decide_eq_false e0, popO_some, bindH_eq, condV_bool, condV_true, condV_false, yV_bool, gopV_tt, gopV_ff, gopV_tf, gopV_ft, pickV_t, pickV_f, pickV_bool, nilS_ptr, add_eq, sub_eq, mul_eq, lss_eq, leq_eq, gtr_eq, geq_eq, not_eq, minI_eq, maxI_eq, extract_0, extract_1, extract_2, eqlI, neqI, makeFunc_eq, decide_true, decide_false, if_true, if_false, Bool.false_eq_true, Bool.not_true, Bool.not_false, reduceIte, List.getElem?_toArray, List.getElem?_cons_zero, List.getElem?_cons_succ, Option.isSome_none, List.length_map]
    exact no fun e => e0 (by rw [e]; rfl)
  by_cases e1 : B.timeout = 0
  rotate_left
  · have q : ((B.timeout : Int) = 0) = False := by apply eq_false; omega
    simp only [T_api_Act.f1, T_api_Act.f2, Nat.zero_add, T_int.load, T_uint64.load, H.c1, H.c2, bdec, decide_eq_true e0, q, popO_some, bindH_eq, condV_bool, condV_true, condV_false, yV_bool, gopV_tt, gopV_ff, gopV_tf, gopV_ft, pickV_t, pickV_f, pickV_bool, nilS_ptr, add_eq, sub_eq, mul_eq, lss_eq, leq_eq, gtr_eq, geq_eq, not_eq, minI_eq, maxI_eq, extract_0, extract_1, extract_2, eqlI, neqI, makeFunc_eq, decide_true, decide_false, if_true, if_false, Bool.false_eq_true, Bool.not_true, Bool.not_false, reduceIte, List.getElem?_toArray, List.getElem?_cons_zero, List.getElem?_cons_succ, Option.isSome_none, List.length_map]
    exact no fun e => e1 (by rw [e]; rfl)
  have q1 : ((B.timeout : Int) = 0) = True := by apply eq_true; omega
  by_cases e2 : B.data = []
  rotate_left
  · simp only [T_api_Act.f1, T_api_Act.f2, T_api_Act.f3, Nat.zero_add, T_int.load, T_uint64.load, T_string.load, H.c1, H.c2, H.c3, bdec, decide_eq_true e0, q1, tx0, eqlS, decide_eq_false e2, popO_some, bindH_eq, condV_bool, condV_true, condV_false, yV_bool, gopV_tt, gopV_ff, gopV_tf, gopV_ft, pickV_t, pickV_f, pickV_bool, nilS_ptr, add_eq, sub_eq, mul_eq, lss_eq, leq_eq, gtr_eq, geq_eq, not_eq, minI_eq, maxI_eq, extract_0, extract_1, extract_2, eqlI, neqI, makeFunc_eq, decide_true, decide_false, if_true, if_false, Bool.false_eq_true, Bool.not_true, Bool.not_false, reduceIte, List.getElem?_toArray, List.getElem?_cons_zero, List.getElem?_cons_succ, Option.isSome_none, List.length_map]
    exact no fun e => e2 (by rw [e]; rfl)
  by_cases e3 : B.n = 0
  rotate_left
  · simp only [T_api_Act.f1, T_api_Act.f2, T_api_Act.f3, T_api_Act.f4, Nat.zero_add, T_int.load, T_uint64.load, T_string.load, H.c1, H.c2, H.c3, H.c4, bdec, decide_eq_true e0, q1, tx0, eqlS, decide_eq_true e2, decide_eq_false e3, popO_some, bindH_eq, condV_bool, condV_true, condV_false, yV_bool, gopV_tt, gopV_ff, gopV_tf, gopV_ft, pickV_t, pickV_f, pickV_bool, nilS_ptr, add_eq, sub_eq, mul_eq, lss_eq, leq_eq, gtr_eq, geq_eq, not_eq, minI_eq, maxI_eq, extract_0, extract_1, extract_2, eqlI, neqI, makeFunc_eq, decide_true, decide_false, if_true, if_false, Bool.false_eq_true, Bool.not_true, Bool.not_false, reduceIte, List.getElem?_toArray, List.getElem?_cons_zero, List.getElem?_cons_succ, Option.isSome_none, List.length_map]
    exact no fun e => e3 (by rw [e]; rfl)
  by_cases e4 : B.msg = Msg.zero
  rotate_left
  · simp only [T_api_Act.f1, T_api_Act.f2, T_api_Act.f3, T_api_Act.f4, T_api_Act.f5, Nat.zero_add, T_int.load, T_uint64.load, T_string.load, H.c1, H.c2, H.c3, H.c4, H.msg, msg0_build, Msg.eql, bdec, decide_eq_true e0, q1, tx0, eqlS, decide_eq_true e2, decide_eq_true e3, decide_eq_false e4, popO_some, bindH_eq, condV_bool, condV_true, condV_false, yV_bool, gopV_tt, gopV_ff, gopV_tf, gopV_ft, pickV_t, pickV_f, pickV_bool, nilS_ptr, add_eq, sub_eq, mul_eq, lss_eq, leq_eq, gtr_eq, geq_eq, not_eq, minI_eq, maxI_eq, extract_0, extract_1, extract_2, eqlI, neqI, makeFunc_eq, decide_true, decide_false, if_true, if_false, Bool.false_eq_true, Bool.not_true, Bool.not_false, reduceIte, List.getElem?_toArray, List.getElem?_cons_zero, List.getElem?_cons_succ, Option.isSome_none, List.length_map]
    exact no fun e => e4 (by rw [e]; rfl)
  by_cases e5 : B.writes.length = 0
  · have q : ((B.writes.length : Int) = 0) = True := by apply eq_true; omega
    simp only [T_api_Act.f1, T_api_Act.f2, T_api_Act.f3, T_api_Act.f4, T_api_Act.f5, T_api_Act.f6, Nat.zero_add, T_int.load, T_uint64.load, T_string.load, T_sl_api_Write.load, H.field6, lv, H.c1, H.c2, H.c3, H.c4, H.msg, msg0_build, Msg.eql, bdec, decide_eq_true e0, q1, tx0, eqlS, decide_eq_true e2, decide_eq_true e3, decide_eq_true e4, q, popO_some, bindH_eq, condV_bool, condV_true, condV_false, yV_bool, gopV_tt, gopV_ff, gopV_tf, gopV_ft, pickV_t, pickV_f, pickV_bool, nilS_ptr, add_eq, sub_eq, mul_eq, lss_eq, leq_eq, gtr_eq, geq_eq, not_eq, minI_eq, maxI_eq, extract_0, extract_1, extract_2, eqlI, neqI, makeFunc_eq, decide_true, decide_false, if_true, if_false, Bool.false_eq_true, Bool.not_true, Bool.not_false, reduceIte, List.getElem?_toArray, List.getElem?_cons_zero, List.getElem?_cons_succ, Option.isSome_none, List.length_map]
    refine hk true ⟨fun _ => ?_, fun _ => rfl⟩
    obtain ⟨a1, a2, a3, a4, a5, a6, a7⟩ := B
    simp only at e0 e1 e2 e3 e4 e5
    have e5 := List.length_eq_zero_iff.1 e5
    subst e0 e1 e2 e3 e4 e5
    rfl
  · have q : ((B.writes.length : Int) = 0) = False := by apply eq_false; omega
    simp only [T_api_Act.f1, T_api_Act.f2, T_api_Act.f3, T_api_Act.f4, T_api_Act.f5, T_api_Act.f6, Nat.zero_add, T_int.load, T_uint64.load, T_string.load, T_sl_api_Write.load, H.field6, lv, H.c1, H.c2, H.c3, H.c4, H.msg, msg0_build, Msg.eql, bdec, decide_eq_true e0, q1, tx0, eqlS, decide_eq_true e2, decide_eq_true e3, decide_eq_true e4, q, popO_some, bindH_eq, condV_bool, condV_true, condV_false, yV_bool, gopV_tt, gopV_ff, gopV_tf, gopV_ft, pickV_t, pickV_f, pickV_bool, nilS_ptr, add_eq, sub_eq, mul_eq, lss_eq, leq_eq, gtr_eq, geq_eq, not_eq, minI_eq, maxI_eq, extract_0, extract_1, extract_2, eqlI, neqI, makeFunc_eq, decide_true, decide_false, if_true, if_false, Bool.false_eq_true, Bool.not_true, Bool.not_false, reduceIte, List.getElem?_toArray, List.getElem?_cons_zero, List.getElem?_cons_succ, Option.isSome_none, List.length_map]
    exact no fun e => e5 (by rw [e]; rfl)
set_option maxHeartbeats 2000000 in
theorem rest_ok {h : PH} {A : Act} {v : Value} {K : Nat} (hK : K < 9) (hA : A.kind = K) (hv : SlR h 2 v (A.writes.map Wr.cells)) {k : Value → PH → Prop} (hk : ∀ h' b, (b = true ↔ A = onlyA A) → Ext h h' → k (.bool b) h') : CallsH PG id_carrackref23_rest #[.agg (A.cells v).toArray] h k := by
  apply carrackref23_rest.call
  unfold carrackref23_rest
  intro r1 hr1
  try rw [bindH_eq]
  have u1 : Ext h (h.set r1 (.cells (Value.agg (A.cells v).toArray).cells T_api_Act)) := Upd.new hr1
  have B1 : ABox (h.set r1 (.cells (Value.agg (A.cells v).toArray).cells T_api_Act)) r1 A v := ⟨set_same⟩
  generalize h.set r1 (.cells (Value.agg (A.cells v).toArray).cells T_api_Act) = h1 at *
  simp only [T_api_Act.f0, T_int.load, B1.kind, popO_some, bindH_eq, condV_bool, condV_true, condV_false, yV_bool, gopV_tt, gopV_ff, gopV_tf, gopV_ft, pickV_t, pickV_f, pickV_bool, nilS_ptr, add_eq, sub_eq, mul_eq, lss_eq, leq_eq, gtr_eq, geq_eq, not_eq, minI_eq, maxI_eq, extract_0, extract_1, extract_2, eqlI, neqI, makeFunc_eq, decide_true, decide_false, if_true, if_false, Bool.false_eq_true, Bool.not_true, Bool.not_false, reduceIte, List.getElem?_toArray, List.getElem?_cons_zero, List.getElem?_cons_succ, Option.isSome_none, List.length_map]
  have fin : ∀ (h' : PH) (B : Act) (w : Value), Upd [r1] h1 h' → ABox h' r1 B w → (∃ ws : List Wr, SlR h 2 w (ws.map Wr.cells) ∧ ws.length = B.writes.length) → (B = Act.zero B.kind ↔ A = onlyA A) → carrackref23_rest_k15 k (.pointer (some ⟨r1, 0, none⟩)) h' := by
    intro h' B w u HB hw e
    have w' := u1.fresh u (Fresh.one hr1)
    obtain ⟨ws, hS, hl⟩ := hw
    exact k16_ok HB ⟨ws, hS.ext w', hl⟩ fun b hb => hk h' b (hb.trans e) w'
  have k98 : ∀ c : Int, A.kind = c → (c = 3 ∨ c = 4 ∨ c = 5 ∨ c = 7) → ∀ t4, carrackref23_rest_k98 k (.pointer (some ⟨r1, 0, none⟩)) t4 (.bool true) h1 := by
    intro c hc hcc t4
    unfold carrackref23_rest_k98
    simp only [T_api_Act.f4, Nat.zero_add, popO_some, bindH_eq, condV_bool, condV_true, condV_false, yV_bool, gopV_tt, gopV_ff, gopV_tf, gopV_ft, pickV_t, pickV_f, pickV_bool, nilS_ptr, add_eq, sub_eq, mul_eq, lss_eq, leq_eq, gtr_eq, geq_eq, not_eq, minI_eq, maxI_eq, extract_0, extract_1, extract_2, eqlI, neqI, makeFunc_eq, decide_true, decide_false, if_true, if_false, Bool.false_eq_true, Bool.not_true, Bool.not_false, reduceIte, List.getElem?_toArray, List.getElem?_cons_zero, List.getElem?_cons_succ, Option.isSome_none, List.length_map]
    refine B1.set (A' := { A with n := 0 }) (v' := v) T_int.und rfl T_int.info T_int.size (by decide) rfl rfl fun h2 H2 u2 _ => ?_
    refine fin h2 _ _ u2 H2 ⟨A.writes, hv, rfl⟩ ?_
    obtain ⟨a1, a2, a3, a4, a5, a6, a7⟩ := A
    simp only at hc
    subst hc
    rcases hcc with rfl | rfl | rfl | rfl <;> simp [onlyA, Act.zero]
  have cases9 : K = 0 ∨ K = 1 ∨ K = 2 ∨ K = 3 ∨ K = 4 ∨ K = 5 ∨ K = 6 ∨ K = 7 ∨ K = 8 := by omega
  rcases cases9 with rfl | rfl | rfl | rfl | rfl | rfl | rfl | rfl | rfl
  · have hA : A.kind = 0 := hA
    simp only [hA, T_api_Act.f1, T_api_Act.f2, T_api_Act.f3, Nat.zero_add, Int.reduceBEq, beq_self_eq_true, popO_some, bindH_eq, condV_bool, condV_true, condV_false, yV_bool, gopV_tt, gopV_ff, gopV_tf, gopV_ft, pickV_t, pickV_f, pickV_bool, nilS_ptr, add_eq, sub_eq, mul_eq, lss_eq, leq_eq, gtr_eq, geq_eq, not_eq, minI_eq, maxI_eq, extract_0, extract_1, extract_2, eqlI, neqI, makeFunc_eq, decide_true, decide_false, if_true, if_false, Bool.false_eq_true, Bool.not_true, Bool.not_false, reduceIte, List.getElem?_toArray, List.getElem?_cons_zero, List.getElem?_cons_succ, Option.isSome_none, List.length_map]
    refine B1.set (A' := { A with chain := 0 }) (v' := v) T_int.und rfl T_int.info T_int.size (by decide) rfl rfl fun h2 H2 u2 _ => ?_
    refine H2.set (A' := { A with chain := 0, timeout := 0 }) (v' := v) T_uint64.und rfl T_uint64.info T_uint64.size (by decide) rfl rfl fun h3 H3 u3 _ => ?_
    refine H3.set (A' := { A with chain := 0, timeout := 0, data := [] }) (v' := v) T_string.und rfl T_string.info T_string.size (by decide) rfl rfl fun h4 H4 u4 _ => ?_
    refine fin h4 _ _ ((u2.trans u3).trans u4) H4 ⟨A.writes, hv, rfl⟩ ?_
    obtain ⟨a1, a2, a3, a4, a5, a6, a7⟩ := A
    simp only at hA
    subst hA
    simp [onlyA, Act.zero]
  · have hA : A.kind = 1 := hA
    simp only [hA, T_api_Act.f1, Nat.zero_add, Int.reduceBEq, beq_self_eq_true, popO_some, bindH_eq, condV_bool, condV_true, condV_false, yV_bool, gopV_tt, gopV_ff, gopV_tf, gopV_ft, pickV_t, pickV_f, pickV_bool, nilS_ptr, add_eq, sub_eq, mul_eq, lss_eq, leq_eq, gtr_eq, geq_eq, not_eq, minI_eq, maxI_eq, extract_0, extract_1, extract_2, eqlI, neqI, makeFunc_eq, decide_true, decide_false, if_true, if_false, Bool.false_eq_true, Bool.not_true, Bool.not_false, reduceIte, List.getElem?_toArray, List.getElem?_cons_zero, List.getElem?_cons_succ, Option.isSome_none, List.length_map]
    refine B1.set (A' := { A with chain := 0 }) (v' := v) T_int.und rfl T_int.info T_int.size (by decide) rfl rfl fun h2 H2 u2 _ => ?_
    refine fin h2 _ _ u2 H2 ⟨A.writes, hv, rfl⟩ ?_
    obtain ⟨a1, a2, a3, a4, a5, a6, a7⟩ := A
    simp only at hA
    subst hA
    simp [onlyA, Act.zero]
  · have hA : A.kind = 2 := hA
    simp only [hA, Int.reduceBEq, beq_self_eq_true, popO_some, bindH_eq, condV_bool, condV_true, condV_false, yV_bool, gopV_tt, gopV_ff, gopV_tf, gopV_ft, pickV_t, pickV_f, pickV_bool, nilS_ptr, add_eq, sub_eq, mul_eq, lss_eq, leq_eq, gtr_eq, geq_eq, not_eq, minI_eq, maxI_eq, extract_0, extract_1, extract_2, eqlI, neqI, makeFunc_eq, decide_true, decide_false, if_true, if_false, Bool.false_eq_true, Bool.not_true, Bool.not_false, reduceIte, List.getElem?_toArray, List.getElem?_cons_zero, List.getElem?_cons_succ, Option.isSome_none, List.length_map]
    unfold carrackref23_rest_k98
    simp only [Int.reduceBEq, beq_self_eq_true, popO_some, bindH_eq, condV_bool, condV_true, condV_false, yV_bool, gopV_tt, gopV_ff, gopV_tf, gopV_ft, pickV_t, pickV_f, pickV_bool, nilS_ptr, add_eq, sub_eq, mul_eq, lss_eq, leq_eq, gtr_eq, geq_eq, not_eq, minI_eq, maxI_eq, extract_0, extract_1, extract_2, eqlI, neqI, makeFunc_eq, decide_true, decide_false, if_true, if_false, Bool.false_eq_true, Bool.not_true, Bool.not_false, reduceIte, List.getElem?_toArray, List.getElem?_cons_zero, List.getElem?_cons_succ, Option.isSome_none, List.length_map]
    refine fin h1 _ _ Upd.refl B1 ⟨A.writes, hv, rfl⟩ ?_
    unfold onlyA
    simp [hA]
  · have hA : A.kind = 3 := hA
    simp only [hA, Int.reduceBEq, beq_self_eq_true, popO_some, bindH_eq, condV_bool, condV_true, condV_false, yV_bool, gopV_tt, gopV_ff, gopV_tf, gopV_ft, pickV_t, pickV_f, pickV_bool, nilS_ptr, add_eq, sub_eq, mul_eq, lss_eq, leq_eq, gtr_eq, geq_eq, not_eq, minI_eq, maxI_eq, extract_0, extract_1, extract_2, eqlI, neqI, makeFunc_eq, decide_true, decide_false, if_true, if_false, Bool.false_eq_true, Bool.not_true, Bool.not_false, reduceIte, List.getElem?_toArray, List.getElem?_cons_zero, List.getElem?_cons_succ, Option.isSome_none, List.length_map]
    exact k98 3 hA (by simp) _
  · have hA : A.kind = 4 := hA
    simp only [hA, Int.reduceBEq, beq_self_eq_true, popO_some, bindH_eq, condV_bool, condV_true, condV_false, yV_bool, gopV_tt, gopV_ff, gopV_tf, gopV_ft, pickV_t, pickV_f, pickV_bool, nilS_ptr, add_eq, sub_eq, mul_eq, lss_eq, leq_eq, gtr_eq, geq_eq, not_eq, minI_eq, maxI_eq, extract_0, extract_1, extract_2, eqlI, neqI, makeFunc_eq, decide_true, decide_false, if_true, if_false, Bool.false_eq_true, Bool.not_true, Bool.not_false, reduceIte, List.getElem?_toArray, List.getElem?_cons_zero, List.getElem?_cons_succ, Option.isSome_none, List.length_map]
    exact k98 4 hA (by simp) _
  · have hA : A.kind = 5 := hA
    simp only [hA, Int.reduceBEq, beq_self_eq_true, popO_some, bindH_eq, condV_bool, condV_true, condV_false, yV_bool, gopV_tt, gopV_ff, gopV_tf, gopV_ft, pickV_t, pickV_f, pickV_bool, nilS_ptr, add_eq, sub_eq, mul_eq, lss_eq, leq_eq, gtr_eq, geq_eq, not_eq, minI_eq, maxI_eq, extract_0, extract_1, extract_2, eqlI, neqI, makeFunc_eq, decide_true, decide_false, if_true, if_false, Bool.false_eq_true, Bool.not_true, Bool.not_false, reduceIte, List.getElem?_toArray, List.getElem?_cons_zero, List.getElem?_cons_succ, Option.isSome_none, List.length_map]
    exact k98 5 hA (by simp) _
  · have hA : A.kind = 6 := hA
    simp only [hA, Int.reduceBEq, beq_self_eq_true, popO_some, bindH_eq, condV_bool, condV_true, condV_false, yV_bool, gopV_tt, gopV_ff, gopV_tf, gopV_ft, pickV_t, pickV_f, pickV_bool, nilS_ptr, add_eq, sub_eq, mul_eq, lss_eq, leq_eq, gtr_eq, geq_eq, not_eq, minI_eq, maxI_eq, extract_0, extract_1, extract_2, eqlI, neqI, makeFunc_eq, decide_true, decide_false, if_true, if_false, Bool.false_eq_true, Bool.not_true, Bool.not_false, reduceIte, List.getElem?_toArray, List.getElem?_cons_zero, List.getElem?_cons_succ, Option.isSome_none, List.length_map]
    unfold carrackref23_rest_k98
    simp only [T_api_Act.f5, Nat.zero_add, msg0_build, Int.reduceBEq, beq_self_eq_true, popO_some, bindH_eq, condV_bool, condV_true, condV_false, yV_bool, gopV_tt, gopV_ff, gopV_tf, gopV_ft, pickV_t, pickV_f, pickV_bool, nilS_ptr, add_eq, sub_eq, mul_eq, lss_eq, leq_eq, gtr_eq, geq_eq, not_eq, minI_eq, maxI_eq, extract_0, extract_1, extract_2, eqlI, neqI, makeFunc_eq, decide_true, decide_false, if_true, if_false, Bool.false_eq_true, Bool.not_true, Bool.not_false, reduceIte, List.getElem?_toArray, List.getElem?_cons_zero, List.getElem?_cons_succ, Option.isSome_none, List.length_map]
    refine B1.setMsg fun h2 H2 u2 => ?_
    refine fin h2 _ _ u2 H2 ⟨A.writes, hv, rfl⟩ ?_
    obtain ⟨a1, a2, a3, a4, a5, a6, a7⟩ := A
    simp only at hA
    subst hA
    simp [onlyA, Act.zero]
  · have hA : A.kind = 7 := hA
    simp only [hA, Int.reduceBEq, beq_self_eq_true, popO_some, bindH_eq, condV_bool, condV_true, condV_false, yV_bool, gopV_tt, gopV_ff, gopV_tf, gopV_ft, pickV_t, pickV_f, pickV_bool, nilS_ptr, add_eq, sub_eq, mul_eq, lss_eq, leq_eq, gtr_eq, geq_eq, not_eq, minI_eq, maxI_eq, extract_0, extract_1, extract_2, eqlI, neqI, makeFunc_eq, decide_true, decide_false, if_true, if_false, Bool.false_eq_true, Bool.not_true, Bool.not_false, reduceIte, List.getElem?_toArray, List.getElem?_cons_zero, List.getElem?_cons_succ, Option.isSome_none, List.length_map]
    exact k98 7 hA (by simp) _
  · have hA : A.kind = 8 := hA
    simp only [hA, Int.reduceBEq, beq_self_eq_true, popO_some, bindH_eq, condV_bool, condV_true, condV_false, yV_bool, gopV_tt, gopV_ff, gopV_tf, gopV_ft, pickV_t, pickV_f, pickV_bool, nilS_ptr, add_eq, sub_eq, mul_eq, lss_eq, leq_eq, gtr_eq, geq_eq, not_eq, minI_eq, maxI_eq, extract_0, extract_1, extract_2, eqlI, neqI, makeFunc_eq, decide_true, decide_false, if_true, if_false, Bool.false_eq_true, Bool.not_true, Bool.not_false, reduceIte, List.getElem?_toArray, List.getElem?_cons_zero, List.getElem?_cons_succ, Option.isSome_none, List.length_map]
    unfold carrackref23_rest_k98
    simp only [T_api_Act.f6, Nat.zero_add, Int.reduceBEq, beq_self_eq_true, popO_some, bindH_eq, condV_bool, condV_true, condV_false, yV_bool, gopV_tt, gopV_ff, gopV_tf, gopV_ft, pickV_t, pickV_f, pickV_bool, nilS_ptr, add_eq, sub_eq, mul_eq, lss_eq, leq_eq, gtr_eq, geq_eq, not_eq, minI_eq, maxI_eq, extract_0, extract_1, extract_2, eqlI, neqI, makeFunc_eq, decide_true, decide_false, if_true, if_false, Bool.false_eq_true, Bool.not_true, Bool.not_false, reduceIte, List.getElem?_toArray, List.getElem?_cons_zero, List.getElem?_cons_succ, Option.isSome_none, List.length_map]
    refine ABox.setW (v' := .slice none 0 0) [] rfl B1 fun h2 H2 u2 => ?_
    refine fin h2 _ _ u2 H2 ⟨[], nilW.slR, rfl⟩ ?_
    obtain ⟨a1, a2, a3, a4, a5, a6, a7⟩ := A
    simp only at hA
    subst hA
    simp [onlyA, Act.zero]
end Go.Proofs.Ytflgnfiebgcegaa
