/- script: the document's PutConfig; the law ScriptPuts. -/
import Derived.Test.YtflgnfiebgcegaaScrY
set_option linter.unusedSimpArgs false
set_option linter.unusedVariables false
namespace Go.Proofs.Ytflgnfiebgcegaa
open Go
set_option maxRecDepth 20000
open Classical in
set_option maxHeartbeats 8000000 in
theorem RPutConfig_ok {h : PH} {c : Cfg} (hc : CfgOk c) {k : Value → PH → Prop} (hk : ∀ h', Ext h h' → k (pairV (docC c)) h') : CallsH PG id_carrackref23_PutConfig #[.agg c.cells.toArray] h k := by
  unfold docC at hk
  apply carrackref23_PutConfig.call
  unfold carrackref23_PutConfig
  intro r1 hr1
  try rw [bindH_eq]
  have w : Ext h (h.set r1 (.cells (Value.agg c.cells.toArray).cells T_api_Config)) := Upd.new hr1
  have B : CBox (h.set r1 (.cells (Value.agg c.cells.toArray).cells T_api_Config)) r1 c := ⟨set_same⟩
  generalize h.set r1 (.cells (Value.agg c.cells.toArray).cells T_api_Config) = h1 at *
  have no : ¬ cOk c → k (.tuple #[.string ⟨#[]⟩, .int .i64 1]) h1 := fun e => by have := hk h1 w; rw [if_neg e] at this; exact this
  simp only [T_api_Config.f0, T_api_Config.f1, T_api_Config.f2, T_api_Config.f3, T_api_Config.f4, T_api_Config.f5, T_api_Config.f6, Nat.zero_add, Nat.reduceAdd, arr_at0, arr_at1, T_int.load, T_uint64.load, B.c0, B.c1, B.c2, B.c3, B.c4, B.c5, B.c6, B.c7, B.c8, popO_some, bindH_eq, condV_bool, condV_true, condV_false, yV_bool, gopV_tt, gopV_ff, gopV_tf, gopV_ft, pickV_t, pickV_f, pickV_bool, nilS_ptr, add_eq, sub_eq, mul_eq, lss_eq, leq_eq, gtr_eq, geq_eq, not_eq, minI_eq, maxI_eq, extract_0, extract_1, extract_2, eqlI, neqI, makeFunc_eq, decide_true, decide_false, if_true, if_false, Bool.false_eq_true, Bool.not_true, Bool.not_false, reduceIte, List.getElem?_toArray, List.getElem?_cons_zero, List.getElem?_cons_succ, Option.isSome_none, List.length_map]
  refine fits1_ok fun b0 hb0 => ?_
  cases b0 with
  | false =>
    simp only [T_api_Config.f0, T_api_Config.f1, T_api_Config.f2, T_api_Config.f3, T_api_Config.f4, T_api_Config.f5, T_api_Config.f6, Nat.zero_add, Nat.reduceAdd, arr_at0, arr_at1, T_int.load, T_uint64.load, B.c0, B.c1, B.c2, B.c3, B.c4, B.c5, B.c6, B.c7, B.c8, popO_some, bindH_eq, condV_bool, condV_true, condV_false, yV_bool, gopV_tt, gopV_ff, gopV_tf, gopV_ft, pickV_t, pickV_f, pickV_bool, nilS_ptr, add_eq, sub_eq, mul_eq, lss_eq, leq_eq, gtr_eq, geq_eq, not_eq, minI_eq, maxI_eq, extract_0, extract_1, extract_2, eqlI, neqI, makeFunc_eq, decide_true, decide_false, if_true, if_false, Bool.false_eq_true, Bool.not_true, Bool.not_false, reduceIte, List.getElem?_toArray, List.getElem?_cons_zero, List.getElem?_cons_succ, Option.isSome_none, List.length_map]
    exact no fun e => by have := hb0.2 e.1; cases this
  | true =>
  have p0 := hb0.1 rfl
  simp only [T_api_Config.f0, T_api_Config.f1, T_api_Config.f2, T_api_Config.f3, T_api_Config.f4, T_api_Config.f5, T_api_Config.f6, Nat.zero_add, Nat.reduceAdd, arr_at0, arr_at1, T_int.load, T_uint64.load, B.c0, B.c1, B.c2, B.c3, B.c4, B.c5, B.c6, B.c7, B.c8, popO_some, bindH_eq, condV_bool, condV_true, condV_false, yV_bool, gopV_tt, gopV_ff, gopV_tf, gopV_ft, pickV_t, pickV_f, pickV_bool, nilS_ptr, add_eq, sub_eq, mul_eq, lss_eq, leq_eq, gtr_eq, geq_eq, not_eq, minI_eq, maxI_eq, extract_0, extract_1, extract_2, eqlI, neqI, makeFunc_eq, decide_true, decide_false, if_true, if_false, Bool.false_eq_true, Bool.not_true, Bool.not_false, reduceIte, List.getElem?_toArray, List.getElem?_cons_zero, List.getElem?_cons_succ, Option.isSome_none, List.length_map]
  refine fits1_ok fun b1 hb1 => ?_
  cases b1 with
  | false =>
    simp only [T_api_Config.f0, T_api_Config.f1, T_api_Config.f2, T_api_Config.f3, T_api_Config.f4, T_api_Config.f5, T_api_Config.f6, Nat.zero_add, Nat.reduceAdd, arr_at0, arr_at1, T_int.load, T_uint64.load, B.c0, B.c1, B.c2, B.c3, B.c4, B.c5, B.c6, B.c7, B.c8, popO_some, bindH_eq, condV_bool, condV_true, condV_false, yV_bool, gopV_tt, gopV_ff, gopV_tf, gopV_ft, pickV_t, pickV_f, pickV_bool, nilS_ptr, add_eq, sub_eq, mul_eq, lss_eq, leq_eq, gtr_eq, geq_eq, not_eq, minI_eq, maxI_eq, extract_0, extract_1, extract_2, eqlI, neqI, makeFunc_eq, decide_true, decide_false, if_true, if_false, Bool.false_eq_true, Bool.not_true, Bool.not_false, reduceIte, List.getElem?_toArray, List.getElem?_cons_zero, List.getElem?_cons_succ, Option.isSome_none, List.length_map]
    exact no fun e => by have := hb1.2 e.2.1; cases this
  | true =>
  have p1 := hb1.1 rfl
  simp only [T_api_Config.f0, T_api_Config.f1, T_api_Config.f2, T_api_Config.f3, T_api_Config.f4, T_api_Config.f5, T_api_Config.f6, Nat.zero_add, Nat.reduceAdd, arr_at0, arr_at1, T_int.load, T_uint64.load, B.c0, B.c1, B.c2, B.c3, B.c4, B.c5, B.c6, B.c7, B.c8, popO_some, bindH_eq, condV_bool, condV_true, condV_false, yV_bool, gopV_tt, gopV_ff, gopV_tf, gopV_ft, pickV_t, pickV_f, pickV_bool, nilS_ptr, add_eq, sub_eq, mul_eq, lss_eq, leq_eq, gtr_eq, geq_eq, not_eq, minI_eq, maxI_eq, extract_0, extract_1, extract_2, eqlI, neqI, makeFunc_eq, decide_true, decide_false, if_true, if_false, Bool.false_eq_true, Bool.not_true, Bool.not_false, reduceIte, List.getElem?_toArray, List.getElem?_cons_zero, List.getElem?_cons_succ, Option.isSome_none, List.length_map]
  refine fits1_ok fun b2 hb2 => ?_
  cases b2 with
  | false =>
    simp only [T_api_Config.f0, T_api_Config.f1, T_api_Config.f2, T_api_Config.f3, T_api_Config.f4, T_api_Config.f5, T_api_Config.f6, Nat.zero_add, Nat.reduceAdd, arr_at0, arr_at1, T_int.load, T_uint64.load, B.c0, B.c1, B.c2, B.c3, B.c4, B.c5, B.c6, B.c7, B.c8, popO_some, bindH_eq, condV_bool, condV_true, condV_false, yV_bool, gopV_tt, gopV_ff, gopV_tf, gopV_ft, pickV_t, pickV_f, pickV_bool, nilS_ptr, add_eq, sub_eq, mul_eq, lss_eq, leq_eq, gtr_eq, geq_eq, not_eq, minI_eq, maxI_eq, extract_0, extract_1, extract_2, eqlI, neqI, makeFunc_eq, decide_true, decide_false, if_true, if_false, Bool.false_eq_true, Bool.not_true, Bool.not_false, reduceIte, List.getElem?_toArray, List.getElem?_cons_zero, List.getElem?_cons_succ, Option.isSome_none, List.length_map]
    exact no fun e => by have := hb2.2 e.2.2.1; cases this
  | true =>
  have p2 := hb2.1 rfl
  simp only [T_api_Config.f0, T_api_Config.f1, T_api_Config.f2, T_api_Config.f3, T_api_Config.f4, T_api_Config.f5, T_api_Config.f6, Nat.zero_add, Nat.reduceAdd, arr_at0, arr_at1, T_int.load, T_uint64.load, B.c0, B.c1, B.c2, B.c3, B.c4, B.c5, B.c6, B.c7, B.c8, popO_some, bindH_eq, condV_bool, condV_true, condV_false, yV_bool, gopV_tt, gopV_ff, gopV_tf, gopV_ft, pickV_t, pickV_f, pickV_bool, nilS_ptr, add_eq, sub_eq, mul_eq, lss_eq, leq_eq, gtr_eq, geq_eq, not_eq, minI_eq, maxI_eq, extract_0, extract_1, extract_2, eqlI, neqI, makeFunc_eq, decide_true, decide_false, if_true, if_false, Bool.false_eq_true, Bool.not_true, Bool.not_false, reduceIte, List.getElem?_toArray, List.getElem?_cons_zero, List.getElem?_cons_succ, Option.isSome_none, List.length_map]
  refine fits2_ok fun b3 hb3 => ?_
  cases b3 with
  | false =>
    simp only [T_api_Config.f0, T_api_Config.f1, T_api_Config.f2, T_api_Config.f3, T_api_Config.f4, T_api_Config.f5, T_api_Config.f6, Nat.zero_add, Nat.reduceAdd, arr_at0, arr_at1, T_int.load, T_uint64.load, B.c0, B.c1, B.c2, B.c3, B.c4, B.c5, B.c6, B.c7, B.c8, popO_some, bindH_eq, condV_bool, condV_true, condV_false, yV_bool, gopV_tt, gopV_ff, gopV_tf, gopV_ft, pickV_t, pickV_f, pickV_bool, nilS_ptr, add_eq, sub_eq, mul_eq, lss_eq, leq_eq, gtr_eq, geq_eq, not_eq, minI_eq, maxI_eq, extract_0, extract_1, extract_2, eqlI, neqI, makeFunc_eq, decide_true, decide_false, if_true, if_false, Bool.false_eq_true, Bool.not_true, Bool.not_false, reduceIte, List.getElem?_toArray, List.getElem?_cons_zero, List.getElem?_cons_succ, Option.isSome_none, List.length_map]
    exact no fun e => by have := hb3.2 e.2.2.2.1; cases this
  | true =>
  have p3 := hb3.1 rfl
  simp only [T_api_Config.f0, T_api_Config.f1, T_api_Config.f2, T_api_Config.f3, T_api_Config.f4, T_api_Config.f5, T_api_Config.f6, Nat.zero_add, Nat.reduceAdd, arr_at0, arr_at1, T_int.load, T_uint64.load, B.c0, B.c1, B.c2, B.c3, B.c4, B.c5, B.c6, B.c7, B.c8, popO_some, bindH_eq, condV_bool, condV_true, condV_false, yV_bool, gopV_tt, gopV_ff, gopV_tf, gopV_ft, pickV_t, pickV_f, pickV_bool, nilS_ptr, add_eq, sub_eq, mul_eq, lss_eq, leq_eq, gtr_eq, geq_eq, not_eq, minI_eq, maxI_eq, extract_0, extract_1, extract_2, eqlI, neqI, makeFunc_eq, decide_true, decide_false, if_true, if_false, Bool.false_eq_true, Bool.not_true, Bool.not_false, reduceIte, List.getElem?_toArray, List.getElem?_cons_zero, List.getElem?_cons_succ, Option.isSome_none, List.length_map]
  refine fits2_ok fun b4 hb4 => ?_
  cases b4 with
  | false =>
    simp only [T_api_Config.f0, T_api_Config.f1, T_api_Config.f2, T_api_Config.f3, T_api_Config.f4, T_api_Config.f5, T_api_Config.f6, Nat.zero_add, Nat.reduceAdd, arr_at0, arr_at1, T_int.load, T_uint64.load, B.c0, B.c1, B.c2, B.c3, B.c4, B.c5, B.c6, B.c7, B.c8, popO_some, bindH_eq, condV_bool, condV_true, condV_false, yV_bool, gopV_tt, gopV_ff, gopV_tf, gopV_ft, pickV_t, pickV_f, pickV_bool, nilS_ptr, add_eq, sub_eq, mul_eq, lss_eq, leq_eq, gtr_eq, geq_eq, not_eq, minI_eq, maxI_eq, extract_0, extract_1, extract_2, eqlI, neqI, makeFunc_eq, decide_true, decide_false, if_true, if_false, Bool.false_eq_true, Bool.not_true, Bool.not_false, reduceIte, List.getElem?_toArray, List.getElem?_cons_zero, List.getElem?_cons_succ, Option.isSome_none, List.length_map]
    exact no fun e => by have := hb4.2 e.2.2.2.2; cases this
  | true =>
  have p4 := hb4.1 rfl
  simp only [T_api_Config.f0, T_api_Config.f1, T_api_Config.f2, T_api_Config.f3, T_api_Config.f4, T_api_Config.f5, T_api_Config.f6, Nat.zero_add, Nat.reduceAdd, arr_at0, arr_at1, T_int.load, T_uint64.load, B.c0, B.c1, B.c2, B.c3, B.c4, B.c5, B.c6, B.c7, B.c8, popO_some, bindH_eq, condV_bool, condV_true, condV_false, yV_bool, gopV_tt, gopV_ff, gopV_tf, gopV_ft, pickV_t, pickV_f, pickV_bool, nilS_ptr, add_eq, sub_eq, mul_eq, lss_eq, leq_eq, gtr_eq, geq_eq, not_eq, minI_eq, maxI_eq, extract_0, extract_1, extract_2, eqlI, neqI, makeFunc_eq, decide_true, decide_false, if_true, if_false, Bool.false_eq_true, Bool.not_true, Bool.not_false, reduceIte, List.getElem?_toArray, List.getElem?_cons_zero, List.getElem?_cons_succ, Option.isSome_none, List.length_map]
  rw [if_pos (show cOk c from ⟨p0, p1, p2, p3, p4⟩)] at hk
  refine nb1_ok fun g0 y0 => ?_
  have B0 := B.ext y0
  refine ⟨by simp only [T_uint64.load, B0.c8], by simp only [T_uint64.load, B0.c7], by simp only [T_uint64.load, B0.c6], by simp only [T_uint64.load, B0.c5], by simp only [T_int.load, B0.c1], by simp only [T_int.load, B0.c0], by simp only [T_int.load, B0.c4], by simp only [T_int.load, B0.c3], ?_⟩
  refine nb1_ok fun g1 y1 => ?_
  have B1 := B0.ext y1
  refine ⟨by simp only [T_uint64.load, B1.c8], by simp only [T_uint64.load, B1.c7], by simp only [T_uint64.load, B1.c6], by simp only [T_uint64.load, B1.c5], by simp only [T_int.load, B1.c1], by simp only [T_int.load, B1.c0], by simp only [T_int.load, B1.c4], ?_⟩
  simp only [cat_tx (a := nb c.table 1) (b := nb c.batch 1) (by simp only [List.length_append, nb_len, be_len]; omega) (by simp only [nb_len, be_len]; omega), popO_some, bindH_eq, condV_bool, condV_true, condV_false, yV_bool, gopV_tt, gopV_ff, gopV_tf, gopV_ft, pickV_t, pickV_f, pickV_bool, nilS_ptr, add_eq, sub_eq, mul_eq, lss_eq, leq_eq, gtr_eq, geq_eq, not_eq, minI_eq, maxI_eq, extract_0, extract_1, extract_2, eqlI, neqI, makeFunc_eq, decide_true, decide_false, if_true, if_false, Bool.false_eq_true, Bool.not_true, Bool.not_false, reduceIte, List.getElem?_toArray, List.getElem?_cons_zero, List.getElem?_cons_succ, Option.isSome_none, List.length_map]
  refine nb1_ok fun g2 y2 => ?_
  have B2 := B1.ext y2
  refine ⟨by simp only [T_uint64.load, B2.c8], by simp only [T_uint64.load, B2.c7], by simp only [T_uint64.load, B2.c6], by simp only [T_uint64.load, B2.c5], by simp only [T_int.load, B2.c1], by simp only [T_int.load, B2.c0], ?_⟩
  simp only [cat_tx (a := nb c.table 1 ++ nb c.batch 1) (b := nb c.scan 1) (by simp only [List.length_append, nb_len, be_len]; omega) (by simp only [nb_len, be_len]; omega), popO_some, bindH_eq, condV_bool, condV_true, condV_false, yV_bool, gopV_tt, gopV_ff, gopV_tf, gopV_ft, pickV_t, pickV_f, pickV_bool, nilS_ptr, add_eq, sub_eq, mul_eq, lss_eq, leq_eq, gtr_eq, geq_eq, not_eq, minI_eq, maxI_eq, extract_0, extract_1, extract_2, eqlI, neqI, makeFunc_eq, decide_true, decide_false, if_true, if_false, Bool.false_eq_true, Bool.not_true, Bool.not_false, reduceIte, List.getElem?_toArray, List.getElem?_cons_zero, List.getElem?_cons_succ, Option.isSome_none, List.length_map]
  refine nb2_ok fun g3 y3 => ?_
  have B3 := B2.ext y3
  refine ⟨by simp only [T_uint64.load, B3.c8], by simp only [T_uint64.load, B3.c7], by simp only [T_uint64.load, B3.c6], by simp only [T_uint64.load, B3.c5], by simp only [T_int.load, B3.c1], ?_⟩
  simp only [cat_tx (a := nb c.table 1 ++ nb c.batch 1 ++ nb c.scan 1) (b := nb c.sector 2) (by simp only [List.length_append, nb_len, be_len]; omega) (by simp only [nb_len, be_len]; omega), popO_some, bindH_eq, condV_bool, condV_true, condV_false, yV_bool, gopV_tt, gopV_ff, gopV_tf, gopV_ft, pickV_t, pickV_f, pickV_bool, nilS_ptr, add_eq, sub_eq, mul_eq, lss_eq, leq_eq, gtr_eq, geq_eq, not_eq, minI_eq, maxI_eq, extract_0, extract_1, extract_2, eqlI, neqI, makeFunc_eq, decide_true, decide_false, if_true, if_false, Bool.false_eq_true, Bool.not_true, Bool.not_false, reduceIte, List.getElem?_toArray, List.getElem?_cons_zero, List.getElem?_cons_succ, Option.isSome_none, List.length_map]
  refine nb2_ok fun g4 y4 => ?_
  have B4 := B3.ext y4
  refine ⟨by simp only [T_uint64.load, B4.c8], by simp only [T_uint64.load, B4.c7], by simp only [T_uint64.load, B4.c6], by simp only [T_uint64.load, B4.c5], ?_⟩
  simp only [cat_tx (a := nb c.table 1 ++ nb c.batch 1 ++ nb c.scan 1 ++ nb c.sector 2) (b := nb c.sectors 2) (by simp only [List.length_append, nb_len, be_len]; omega) (by simp only [nb_len, be_len]; omega), popO_some, bindH_eq, condV_bool, condV_true, condV_false, yV_bool, gopV_tt, gopV_ff, gopV_tf, gopV_ft, pickV_t, pickV_f, pickV_bool, nilS_ptr, add_eq, sub_eq, mul_eq, lss_eq, leq_eq, gtr_eq, geq_eq, not_eq, minI_eq, maxI_eq, extract_0, extract_1, extract_2, eqlI, neqI, makeFunc_eq, decide_true, decide_false, if_true, if_false, Bool.false_eq_true, Bool.not_true, Bool.not_false, reduceIte, List.getElem?_toArray, List.getElem?_cons_zero, List.getElem?_cons_succ, Option.isSome_none, List.length_map]
  refine be8_ok hc.o0 fun g5 y5 => ?_
  have B5 := B4.ext y5
  refine ⟨by simp only [T_uint64.load, B5.c8], by simp only [T_uint64.load, B5.c7], by simp only [T_uint64.load, B5.c6], ?_⟩
  simp only [cat_tx (a := nb c.table 1 ++ nb c.batch 1 ++ nb c.scan 1 ++ nb c.sector 2 ++ nb c.sectors 2) (b := be c.h0 8) (by simp only [List.length_append, nb_len, be_len]; omega) (by simp only [nb_len, be_len]; omega), popO_some, bindH_eq, condV_bool, condV_true, condV_false, yV_bool, gopV_tt, gopV_ff, gopV_tf, gopV_ft, pickV_t, pickV_f, pickV_bool, nilS_ptr, add_eq, sub_eq, mul_eq, lss_eq, leq_eq, gtr_eq, geq_eq, not_eq, minI_eq, maxI_eq, extract_0, extract_1, extract_2, eqlI, neqI, makeFunc_eq, decide_true, decide_false, if_true, if_false, Bool.false_eq_true, Bool.not_true, Bool.not_false, reduceIte, List.getElem?_toArray, List.getElem?_cons_zero, List.getElem?_cons_succ, Option.isSome_none, List.length_map]
  refine be8_ok hc.o1 fun g6 y6 => ?_
  have B6 := B5.ext y6
  refine ⟨by simp only [T_uint64.load, B6.c8], by simp only [T_uint64.load, B6.c7], ?_⟩
  simp only [cat_tx (a := nb c.table 1 ++ nb c.batch 1 ++ nb c.scan 1 ++ nb c.sector 2 ++ nb c.sectors 2 ++ be c.h0 8) (b := be c.h1 8) (by simp only [List.length_append, nb_len, be_len]; omega) (by simp only [nb_len, be_len]; omega), popO_some, bindH_eq, condV_bool, condV_true, condV_false, yV_bool, gopV_tt, gopV_ff, gopV_tf, gopV_ft, pickV_t, pickV_f, pickV_bool, nilS_ptr, add_eq, sub_eq, mul_eq, lss_eq, leq_eq, gtr_eq, geq_eq, not_eq, minI_eq, maxI_eq, extract_0, extract_1, extract_2, eqlI, neqI, makeFunc_eq, decide_true, decide_false, if_true, if_false, Bool.false_eq_true, Bool.not_true, Bool.not_false, reduceIte, List.getElem?_toArray, List.getElem?_cons_zero, List.getElem?_cons_succ, Option.isSome_none, List.length_map]
  refine be8_ok hc.o2 fun g7 y7 => ?_
  have B7 := B6.ext y7
  refine ⟨by simp only [T_uint64.load, B7.c8], ?_⟩
  simp only [cat_tx (a := nb c.table 1 ++ nb c.batch 1 ++ nb c.scan 1 ++ nb c.sector 2 ++ nb c.sectors 2 ++ be c.h0 8 ++ be c.h1 8) (b := be c.s0 8) (by simp only [List.length_append, nb_len, be_len]; omega) (by simp only [nb_len, be_len]; omega), popO_some, bindH_eq, condV_bool, condV_true, condV_false, yV_bool, gopV_tt, gopV_ff, gopV_tf, gopV_ft, pickV_t, pickV_f, pickV_bool, nilS_ptr, add_eq, sub_eq, mul_eq, lss_eq, leq_eq, gtr_eq, geq_eq, not_eq, minI_eq, maxI_eq, extract_0, extract_1, extract_2, eqlI, neqI, makeFunc_eq, decide_true, decide_false, if_true, if_false, Bool.false_eq_true, Bool.not_true, Bool.not_false, reduceIte, List.getElem?_toArray, List.getElem?_cons_zero, List.getElem?_cons_succ, Option.isSome_none, List.length_map]
  refine be8_ok hc.o3 fun g8 y8 => ?_
  have B8 := B7.ext y8
  simp only [cat_tx (a := nb c.table 1 ++ nb c.batch 1 ++ nb c.scan 1 ++ nb c.sector 2 ++ nb c.sectors 2 ++ be c.h0 8 ++ be c.h1 8 ++ be c.s0 8) (b := be c.s1 8) (by simp only [List.length_append, nb_len, be_len]; omega) (by simp only [nb_len, be_len]; omega), popO_some, bindH_eq, condV_bool, condV_true, condV_false, yV_bool, gopV_tt, gopV_ff, gopV_tf, gopV_ft, pickV_t, pickV_f, pickV_bool, nilS_ptr, add_eq, sub_eq, mul_eq, lss_eq, leq_eq, gtr_eq, geq_eq, not_eq, minI_eq, maxI_eq, extract_0, extract_1, extract_2, eqlI, neqI, makeFunc_eq, decide_true, decide_false, if_true, if_false, Bool.false_eq_true, Bool.not_true, Bool.not_false, reduceIte, List.getElem?_toArray, List.getElem?_cons_zero, List.getElem?_cons_succ, Option.isSome_none, List.length_map]
  exact hk g8 (w.trans (y0.trans (y1.trans (y2.trans (y3.trans (y4.trans (y5.trans (y6.trans (y7.trans y8)))))))))
set_option maxHeartbeats 4000000 in
theorem ScriptPuts_ok {h : PH} {A : Act} {v : Value} {c : Cfg} {x : Value} {l : List RpV} (hA : ActOk A) (hv : SlR h 2 v (A.writes.map Wr.cells)) (hc : CfgOk c) (hx : SlR h 4 x (l.map rrow)) (hl : RpS h l) {k : Value → PH → Prop} (hk : ∀ h', Ext h h' → k (.bool true) h') :
    CallsH PG id_carracklaw23_ScriptPuts #[.agg (A.cells v).toArray, .agg c.cells.toArray, x] h k := by
  have lx := hx.len (t' := T_int) T_sl_api_Reply.und
  rw [List.length_map] at lx
  apply carracklaw23_ScriptPuts.call
  unfold carracklaw23_ScriptPuts
  intro r1 hr1
  try rw [bindH_eq]
  have u1 : Ext h (h.set r1 (.cells (Value.agg (A.cells v).toArray).cells T_api_Act)) := Upd.new hr1
  have B1 : ABox (h.set r1 (.cells (Value.agg (A.cells v).toArray).cells T_api_Act)) r1 A v := ⟨set_same⟩
  generalize h.set r1 (.cells (Value.agg (A.cells v).toArray).cells T_api_Act) = h1 at *
  intro r3 hr3
  try rw [bindH_eq]
  have u2 : Ext h1 (h1.set r3 (.cells (Value.agg c.cells.toArray).cells T_api_Config)) := Upd.new hr3
  have C2 : CBox (h1.set r3 (.cells (Value.agg c.cells.toArray).cells T_api_Config)) r3 c := ⟨set_same⟩
  generalize h1.set r3 (.cells (Value.agg c.cells.toArray).cells T_api_Config) = h2 at *
  have B2 := B1.ext u2
  refine awake23_ok fun h3 u3 => ?_
  have B3 := B2.ext u3
  have C3 := C2.ext u3
  have w3 := (u1.trans u2).trans u3
  simp only [B3.load, popO_some, bindH_eq, condV_bool, condV_true, condV_false, yV_bool, gopV_tt, gopV_ff, gopV_tf, gopV_ft, pickV_t, pickV_f, pickV_bool, nilS_ptr, add_eq, sub_eq, mul_eq, lss_eq, leq_eq, gtr_eq, geq_eq, not_eq, minI_eq, maxI_eq, extract_0, extract_1, extract_2, eqlI, neqI, makeFunc_eq, decide_true, decide_false, if_true, if_false, Bool.false_eq_true, Bool.not_true, Bool.not_false, reduceIte, List.getElem?_toArray, List.getElem?_cons_zero, List.getElem?_cons_succ, Option.isSome_none, List.length_map]
  refine few_ok (hv.ext w3) fun h4 b hb u4 => ?_
  have w4 := w3.trans u4
  have B4 := B3.ext u4
  have C4 := C3.ext u4
  cases b with
  | false =>
    simp only [popO_some, bindH_eq, condV_bool, condV_true, condV_false, yV_bool, gopV_tt, gopV_ff, gopV_tf, gopV_ft, pickV_t, pickV_f, pickV_bool, nilS_ptr, add_eq, sub_eq, mul_eq, lss_eq, leq_eq, gtr_eq, geq_eq, not_eq, minI_eq, maxI_eq, extract_0, extract_1, extract_2, eqlI, neqI, makeFunc_eq, decide_true, decide_false, if_true, if_false, Bool.false_eq_true, Bool.not_true, Bool.not_false, reduceIte, List.getElem?_toArray, List.getElem?_cons_zero, List.getElem?_cons_succ, Option.isSome_none, List.length_map]
    exact hk _ w4
  | true =>
  have hf := hb.1 rfl
  by_cases h40 : 40 < l.length
  · have q : ((40 : Int) < (l.length : Int)) = True := by apply eq_true; omega
    simp only [lx, q, popO_some, bindH_eq, condV_bool, condV_true, condV_false, yV_bool, gopV_tt, gopV_ff, gopV_tf, gopV_ft, pickV_t, pickV_f, pickV_bool, nilS_ptr, add_eq, sub_eq, mul_eq, lss_eq, leq_eq, gtr_eq, geq_eq, not_eq, minI_eq, maxI_eq, extract_0, extract_1, extract_2, eqlI, neqI, makeFunc_eq, decide_true, decide_false, if_true, if_false, Bool.false_eq_true, Bool.not_true, Bool.not_false, reduceIte, List.getElem?_toArray, List.getElem?_cons_zero, List.getElem?_cons_succ, Option.isSome_none, List.length_map]
    exact hk _ w4
  have q40 : ((40 : Int) < (l.length : Int)) = False := by apply eq_false; omega
  simp only [lx, q40, popO_some, bindH_eq, condV_bool, condV_true, condV_false, yV_bool, gopV_tt, gopV_ff, gopV_tf, gopV_ft, pickV_t, pickV_f, pickV_bool, nilS_ptr, add_eq, sub_eq, mul_eq, lss_eq, leq_eq, gtr_eq, geq_eq, not_eq, minI_eq, maxI_eq, extract_0, extract_1, extract_2, eqlI, neqI, makeFunc_eq, decide_true, decide_false, if_true, if_false, Bool.false_eq_true, Bool.not_true, Bool.not_false, reduceIte, List.getElem?_toArray, List.getElem?_cons_zero, List.getElem?_cons_succ, Option.isSome_none, List.length_map]
  refine ⟨fun vs h' => h' = h4 ∧ ∃ i : Nat, i ≤ l.length ∧ vs = [x, .pointer (some ⟨r1, 0, none⟩), .pointer (some ⟨r3, 0, none⟩), .int .i64 i], upTo l.length 3, ⟨rfl, 0, by omega, rfl⟩, ?_⟩
  rintro ρ h' ⟨rfl, i, hi, hvs⟩
  simp only [List.map_cons, List.map_nil, List.cons.injEq, and_true] at hvs
  obtain ⟨e2, e3, e4, e7⟩ := hvs
  simp only [e2, e3, e4, e7]
  unfold carracklaw23_ScriptPuts_b25
  by_cases hlt : i < l.length
  · have hd : ((i : Int) < (l.length : Int)) = True := by apply eq_true; omega
    obtain ⟨p, hp⟩ : ∃ p, l[i]? = some p := ⟨_, List.getElem?_eq_getElem hlt⟩
    obtain ⟨hpv, hps⟩ := hl p (List.mem_of_getElem? hp)
    obtain ⟨b, o, a1, c0, c1, c2, c3, a2⟩ := (hx.ext w4).reply (k := .i64) hp
    have lv := hpv.len (t' := T_int) T_sl_api_Errno.und
    rw [List.length_map] at lv
    simp only [lx, hd, a1, T_api_Reply.f3, T_sl_api_Errno.load, c3, lv, popO_some, bindH_eq, condV_bool, condV_true, condV_false, yV_bool, gopV_tt, gopV_ff, gopV_tf, gopV_ft, pickV_t, pickV_f, pickV_bool, nilS_ptr, add_eq, sub_eq, mul_eq, lss_eq, leq_eq, gtr_eq, geq_eq, not_eq, minI_eq, maxI_eq, extract_0, extract_1, extract_2, eqlI, neqI, makeFunc_eq, decide_true, decide_false, if_true, if_false, Bool.false_eq_true, Bool.not_true, Bool.not_false, reduceIte, List.getElem?_toArray, List.getElem?_cons_zero, List.getElem?_cons_succ, Option.isSome_none, List.length_map]
    by_cases hbig : 600 < p.1.codes.length
    · have q : ((600 : Int) < (p.1.codes.length : Int)) = True := by apply eq_true; omega
      simp only [q, popO_some, bindH_eq, condV_bool, condV_true, condV_false, yV_bool, gopV_tt, gopV_ff, gopV_tf, gopV_ft, pickV_t, pickV_f, pickV_bool, nilS_ptr, add_eq, sub_eq, mul_eq, lss_eq, leq_eq, gtr_eq, geq_eq, not_eq, minI_eq, maxI_eq, extract_0, extract_1, extract_2, eqlI, neqI, makeFunc_eq, decide_true, decide_false, if_true, if_false, Bool.false_eq_true, Bool.not_true, Bool.not_false, reduceIte, List.getElem?_toArray, List.getElem?_cons_zero, List.getElem?_cons_succ, Option.isSome_none, List.length_map]
      exact hk _ w4
    · have q : ((600 : Int) < (p.1.codes.length : Int)) = False := by apply eq_false; omega
      have ei : IntKind.i64.wrap ((i : Int) + 1) = ((i + 1 : Nat) : Int) := by rw [i64_wrap (by omega) (by omega)]; omega
      simp only [q, ei, popO_some, bindH_eq, condV_bool, condV_true, condV_false, yV_bool, gopV_tt, gopV_ff, gopV_tf, gopV_ft, pickV_t, pickV_f, pickV_bool, nilS_ptr, add_eq, sub_eq, mul_eq, lss_eq, leq_eq, gtr_eq, geq_eq, not_eq, minI_eq, maxI_eq, extract_0, extract_1, extract_2, eqlI, neqI, makeFunc_eq, decide_true, decide_false, if_true, if_false, Bool.false_eq_true, Bool.not_true, Bool.not_false, reduceIte, List.getElem?_toArray, List.getElem?_cons_zero, List.getElem?_cons_succ, Option.isSome_none, List.length_map]
      exact ⟨⟨by trivial, i + 1, by omega, rfl⟩, by simp [upTo, e7]; omega⟩
  · have hd : ((i : Int) < (l.length : Int)) = False := by apply eq_false; omega
    simp only [lx, hd, B4.load, popO_some, bindH_eq, condV_bool, condV_true, condV_false, yV_bool, gopV_tt, gopV_ff, gopV_tf, gopV_ft, pickV_t, pickV_f, pickV_bool, nilS_ptr, add_eq, sub_eq, mul_eq, lss_eq, leq_eq, gtr_eq, geq_eq, not_eq, minI_eq, maxI_eq, extract_0, extract_1, extract_2, eqlI, neqI, makeFunc_eq, decide_true, decide_false, if_true, if_false, Bool.false_eq_true, Bool.not_true, Bool.not_false, reduceIte, List.getElem?_toArray, List.getElem?_cons_zero, List.getElem?_cons_succ, Option.isSome_none, List.length_map]
    refine Put_ok hA (hv.ext w4) (by have := hf.2.2.2; omega) fun h5 u5 => ?_
    have B5 := B4.ext u5
    have w5 := w4.trans u5
    simp only [B5.load, popO_some, bindH_eq, condV_bool, condV_true, condV_false, yV_bool, gopV_tt, gopV_ff, gopV_tf, gopV_ft, pickV_t, pickV_f, pickV_bool, nilS_ptr, add_eq, sub_eq, mul_eq, lss_eq, leq_eq, gtr_eq, geq_eq, not_eq, minI_eq, maxI_eq, extract_0, extract_1, extract_2, eqlI, neqI, makeFunc_eq, decide_true, decide_false, if_true, if_false, Bool.false_eq_true, Bool.not_true, Bool.not_false, reduceIte, List.getElem?_toArray, List.getElem?_cons_zero, List.getElem?_cons_succ, Option.isSome_none, List.length_map]
    refine RPut_ok hA (hv.ext w5) hf fun h6 u6 => ?_
    have w6 := w5.trans u6
    have C6 := (C4.ext u5).ext u6
    simp only [C6.load, popO_some, bindH_eq, condV_bool, condV_true, condV_false, yV_bool, gopV_tt, gopV_ff, gopV_tf, gopV_ft, pickV_t, pickV_f, pickV_bool, nilS_ptr, add_eq, sub_eq, mul_eq, lss_eq, leq_eq, gtr_eq, geq_eq, not_eq, minI_eq, maxI_eq, extract_0, extract_1, extract_2, eqlI, neqI, makeFunc_eq, decide_true, decide_false, if_true, if_false, Bool.false_eq_true, Bool.not_true, Bool.not_false, reduceIte, List.getElem?_toArray, List.getElem?_cons_zero, List.getElem?_cons_succ, Option.isSome_none, List.length_map]
    refine PutConfig_ok hc fun h7 u7 => ?_
    have w7 := w6.trans u7
    have C7 := C6.ext u7
    simp only [C7.load, popO_some, bindH_eq, condV_bool, condV_true, condV_false, yV_bool, gopV_tt, gopV_ff, gopV_tf, gopV_ft, pickV_t, pickV_f, pickV_bool, nilS_ptr, add_eq, sub_eq, mul_eq, lss_eq, leq_eq, gtr_eq, geq_eq, not_eq, minI_eq, maxI_eq, extract_0, extract_1, extract_2, eqlI, neqI, makeFunc_eq, decide_true, decide_false, if_true, if_false, Bool.false_eq_true, Bool.not_true, Bool.not_false, reduceIte, List.getElem?_toArray, List.getElem?_cons_zero, List.getElem?_cons_succ, Option.isSome_none, List.length_map]
    refine RPutConfig_ok hc fun h8 u8 => ?_
    have w8 := w7.trans u8
    rw [putA_doc, putC_doc]
    have d1 : decide ((docA A).1 = (docA A).1) = true := by simp
    have d2 : ((docA A).2 == (docA A).2) = true := by simp
    have d3 : decide ((docC c).1 = (docC c).1) = true := by simp
    have d4 : ((docC c).2 == (docC c).2) = true := by simp
    simp only [eqlS, d1, d2, d3, d4, popO_some, bindH_eq, condV_bool, condV_true, condV_false, yV_bool, gopV_tt, gopV_ff, gopV_tf, gopV_ft, pickV_t, pickV_f, pickV_bool, nilS_ptr, add_eq, sub_eq, mul_eq, lss_eq, leq_eq, gtr_eq, geq_eq, not_eq, minI_eq, maxI_eq, extract_0, extract_1, extract_2, eqlI, neqI, makeFunc_eq, decide_true, decide_false, if_true, if_false, Bool.false_eq_true, Bool.not_true, Bool.not_false, reduceIte, List.getElem?_toArray, List.getElem?_cons_zero, List.getElem?_cons_succ, Option.isSome_none, List.length_map]
    refine SBytes_ok (hx.ext w8) (fun p hp => ⟨(hl p hp).1.ext w8, (hl p hp).2⟩) (by omega) fun h9 u9 => ?_
    have w9 := w8.trans u9
    refine RBytes23_ok (hx.ext w9) (fun p hp => ⟨(hl p hp).1.ext w9, (hl p hp).2⟩) (by omega) fun h10 u10 => ?_
    have d5 : decide (repsOut (l.map Prod.fst) = repsOut (l.map Prod.fst)) = true := by simp
    simp only [eqlS, d5, popO_some, bindH_eq, condV_bool, condV_true, condV_false, yV_bool, gopV_tt, gopV_ff, gopV_tf, gopV_ft, pickV_t, pickV_f, pickV_bool, nilS_ptr, add_eq, sub_eq, mul_eq, lss_eq, leq_eq, gtr_eq, geq_eq, not_eq, minI_eq, maxI_eq, extract_0, extract_1, extract_2, eqlI, neqI, makeFunc_eq, decide_true, decide_false, if_true, if_false, Bool.false_eq_true, Bool.not_true, Bool.not_false, reduceIte, List.getElem?_toArray, List.getElem?_cons_zero, List.getElem?_cons_succ, Option.isSome_none, List.length_map]
    exact hk _ (w9.trans u10)
end Go.Proofs.Ytflgnfiebgcegaa
