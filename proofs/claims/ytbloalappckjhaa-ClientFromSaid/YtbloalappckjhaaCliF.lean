/- client: the law ClientFrom. -/
import Derived.Test.YtbloalappckjhaaCliP
set_option linter.unusedSimpArgs false
set_option linter.unusedVariables false
namespace Go.Proofs.Ytbloalappckjhaa
open Go
theorem fromS_none {hs : List Int} {q : Int} (hf : fromS hs q = none) : ∀ y ∈ hs, ¬ q ≤ y := by
  unfold fromS at hf
  rw [List.find?_eq_none] at hf
  intro y hy
  have := hf y hy
  simpa using this
theorem fromS_mem {hs : List Int} {q z : Int} (hup : hs.Pairwise (· < ·)) (hf : fromS hs q = some z) : z ∈ hs ∧ q ≤ z ∧ ∀ y ∈ hs, q ≤ y → z ≤ y := by
  unfold fromS at hf
  have hm := List.mem_of_find?_eq_some hf
  have hq := List.find?_some hf
  simp only [decide_eq_true_eq] at hq
  rw [List.find?_eq_some_iff_append] at hf
  obtain ⟨_, us, bs, rfl, hlow⟩ := hf
  refine ⟨hm, hq, fun y hy hqy => ?_⟩
  rcases List.mem_append.1 hy with hb | hb
  · have := hlow y hb
    simp at this
    omega
  · rcases List.mem_cons.1 hb with hb | hb
    · omega
    · rw [List.pairwise_append, List.pairwise_cons] at hup
      have := hup.2.1.1 y hb
      omega
structure One (h0 h : PH) (c : Nat) (l : List Known) (hs : List Int) (FC : List Nat) : Prop where
  ext : Ext h0 h
  cl : ClientAt h c l hs FC
  fc : Fresh h0 FC
theorem One.step {h0 h h' : PH} {c : Nat} {l : List Known} {hs : List Int} {FC : List Nat} (T : One h0 h c l hs FC) (u : Ext h h') : One h0 h' c l hs FC :=
  ⟨T.ext.trans u, T.cl.ext u, T.fc⟩
set_option maxRecDepth 20000 in
theorem ClientFrom_ok {h : PH} {x : Value} {xs : List Known} (hx : SlR h 2 x (xs.map Known.cells)) (q : Int) {k : Value → PH → Prop} (hk : ∀ h', Ext h h' → k (.bool true) h') :
    CallsH PG id_carracklaw12_ClientFrom #[x, .int .u64 q] h k := by
  have lx := hx.len (t' := T_int) T_sl_carrackref12_Known.und
  rw [List.length_map] at lx
  apply carracklaw12_ClientFrom.call
  unfold carracklaw12_ClientFrom
  refine awake12_ok fun h1 u1 => ?_
  simp only [lx, popO_some, bindH_eq, condV_bool, condV_true, condV_false, yV_bool, gopV_tt, gopV_ff, gopV_tf, gopV_ft, pickV_t, pickV_f, pickV_bool, nilS_ptr, add_eq, sub_eq, mul_eq, lss_eq, leq_eq, gtr_eq, geq_eq, not_eq, minI_eq, maxI_eq, extract_0, extract_1, extract_2, eqlI, neqI, makeFunc_eq, decide_true, decide_false, if_true, if_false, Bool.false_eq_true, Bool.not_true, Bool.not_false, reduceIte, List.getElem?_toArray, List.getElem?_cons_zero, List.getElem?_cons_succ, Option.isSome_none, List.length_map]
  by_cases hc : (100 : Int) < xs.length
  · simp only [hc, popO_some, bindH_eq, condV_bool, condV_true, condV_false, yV_bool, gopV_tt, gopV_ff, gopV_tf, gopV_ft, pickV_t, pickV_f, pickV_bool, nilS_ptr, add_eq, sub_eq, mul_eq, lss_eq, leq_eq, gtr_eq, geq_eq, not_eq, minI_eq, maxI_eq, extract_0, extract_1, extract_2, eqlI, neqI, makeFunc_eq, decide_true, decide_false, if_true, if_false, Bool.false_eq_true, Bool.not_true, Bool.not_false, reduceIte, List.getElem?_toArray, List.getElem?_cons_zero, List.getElem?_cons_succ, Option.isSome_none, List.length_map]
    exact hk _ u1
  simp only [hc, popO_some, bindH_eq, condV_bool, condV_true, condV_false, yV_bool, gopV_tt, gopV_ff, gopV_tf, gopV_ft, pickV_t, pickV_f, pickV_bool, nilS_ptr, add_eq, sub_eq, mul_eq, lss_eq, leq_eq, gtr_eq, geq_eq, not_eq, minI_eq, maxI_eq, extract_0, extract_1, extract_2, eqlI, neqI, makeFunc_eq, decide_true, decide_false, if_true, if_false, Bool.false_eq_true, Bool.not_true, Bool.not_false, reduceIte, List.getElem?_toArray, List.getElem?_cons_zero, List.getElem?_cons_succ, Option.isSome_none, List.length_map]
  refine CNew_ok fun c h2 FC hC2 u2 f2 => ?_
  simp only [eqlPtrNil T_p_client_Client.und, Option.isNone_some, popO_some, bindH_eq, condV_bool, condV_true, condV_false, yV_bool, gopV_tt, gopV_ff, gopV_tf, gopV_ft, pickV_t, pickV_f, pickV_bool, nilS_ptr, add_eq, sub_eq, mul_eq, lss_eq, leq_eq, gtr_eq, geq_eq, not_eq, minI_eq, maxI_eq, extract_0, extract_1, extract_2, eqlI, neqI, makeFunc_eq, decide_true, decide_false, if_true, if_false, Bool.false_eq_true, Bool.not_true, Bool.not_false, reduceIte, List.getElem?_toArray, List.getElem?_cons_zero, List.getElem?_cons_succ, Option.isSome_none, List.length_map]
  refine ⟨fun vs h' => ∃ (i : Nat) (l : List Known) (hs : List Int) (FC : List Nat), i ≤ xs.length ∧ l.length ≤ i ∧ vs = [x, .int .u64 q, .pointer (some ⟨c, 0, none⟩), .int .i64 i] ∧ One h h' c l hs FC, upTo xs.length 3, ⟨0, [], [], FC, by omega, by simp, rfl, ⟨u1.trans u2, hC2, f2.of u1⟩⟩, ?_⟩
  rintro ρ h' ⟨i, l, hs, FC, hi, hli, hvs, T⟩
  simp only [List.map_cons, List.map_nil, List.cons.injEq, and_true] at hvs
  obtain ⟨e0, e1, e2, e5⟩ := hvs
  rw [e0, e1, e2, e5]
  unfold carracklaw12_ClientFrom_b10
  by_cases hlt : i < xs.length
  · have hd : ((i : Int) < (xs.length : Int)) = True := by apply eq_true; omega
    obtain ⟨y, hy⟩ : ∃ y, xs[i]? = some y := ⟨_, List.getElem?_eq_getElem hlt⟩
    have ei : IntKind.i64.wrap ((i : Int) + 1) = ((i + 1 : Nat) : Int) := by rw [i64_wrap (by omega) (by omega)]; omega
    obtain ⟨b, o, a1, a2, a3, -⟩ := (hx.ext T.ext).kn (k := .i64) hy
    simp only [lx, hd, a1, T_carrackref12_Known.f0, T_carrackref12_Known.f1, T_uint64.load, T_string.load, a2, a3, ei, popO_some, bindH_eq, condV_bool, condV_true, condV_false, yV_bool, gopV_tt, gopV_ff, gopV_tf, gopV_ft, pickV_t, pickV_f, pickV_bool, nilS_ptr, add_eq, sub_eq, mul_eq, lss_eq, leq_eq, gtr_eq, geq_eq, not_eq, minI_eq, maxI_eq, extract_0, extract_1, extract_2, eqlI, neqI, makeFunc_eq, decide_true, decide_false, if_true, if_false, Bool.false_eq_true, Bool.not_true, Bool.not_false, reduceIte, List.getElem?_toArray, List.getElem?_cons_zero, List.getElem?_cons_succ, Option.isSome_none, List.length_map]
    refine Set_ok T.cl y fun h4 hs4 F4 hC4 u4 k4 => ?_
    have hsl := setK_len l y
    exact ⟨⟨i + 1, _, hs4, F4, by omega, by omega, rfl, T.ext.fresh u4 T.fc, hC4, T.fc.grow T.ext k4⟩, by simp [upTo, e5]; omega⟩
  · have hd : ((i : Int) < (xs.length : Int)) = False := by apply eq_false; omega
    simp only [lx, hd, popO_some, bindH_eq, condV_bool, condV_true, condV_false, yV_bool, gopV_tt, gopV_ff, gopV_tf, gopV_ft, pickV_t, pickV_f, pickV_bool, nilS_ptr, add_eq, sub_eq, mul_eq, lss_eq, leq_eq, gtr_eq, geq_eq, not_eq, minI_eq, maxI_eq, extract_0, extract_1, extract_2, eqlI, neqI, makeFunc_eq, decide_true, decide_false, if_true, if_false, Bool.false_eq_true, Bool.not_true, Bool.not_false, reduceIte, List.getElem?_toArray, List.getElem?_cons_zero, List.getElem?_cons_succ, Option.isSome_none, List.length_map]
    refine From_ok T.cl q fun h3 u3 => ?_
    have T3 := T.step u3
    simp only [popO_some, bindH_eq, condV_bool, condV_true, condV_false, yV_bool, gopV_tt, gopV_ff, gopV_tf, gopV_ft, pickV_t, pickV_f, pickV_bool, nilS_ptr, add_eq, sub_eq, mul_eq, lss_eq, leq_eq, gtr_eq, geq_eq, not_eq, minI_eq, maxI_eq, extract_0, extract_1, extract_2, eqlI, neqI, makeFunc_eq, decide_true, decide_false, if_true, if_false, Bool.false_eq_true, Bool.not_true, Bool.not_false, reduceIte, List.getElem?_toArray, List.getElem?_cons_zero, List.getElem?_cons_succ, Option.isSome_none, List.length_map]
    refine Heights_ok T3.cl fun v h4 F4 hO u4 f4 => ?_
    have T4 := T3.step u4
    have hlen := T.cl.rank.len
    have lv := hO.slR.len (t' := T_int) T_sl_uint64.und
    rw [List.length_map] at lv
    refine ⟨fun vs h' => ∃ n : Nat, n ≤ hs.length ∧ vs = [.int .u64 q, .pointer (some ⟨c, 0, none⟩), .int .u64 ((fromS hs q).getD 0), .bool (fromS hs q).isSome, v, .int .i64 n] ∧ h' = h4, upTo hs.length 5, ⟨0, by simp, rfl, rfl⟩, ?_⟩
    rintro ρ h' ⟨n, hn, hvs, rfl⟩
    simp only [List.map_cons, List.map_nil, List.cons.injEq, and_true] at hvs
    obtain ⟨s0, s1, s2, s3, s4, s5⟩ := hvs
    rw [s0, s1, s2, s3, s4, s5]
    unfold carracklaw12_ClientFrom_b29
    by_cases hlt : n < hs.length
    · have hd : ((n : Int) < (hs.length : Int)) = True := by apply eq_true; omega
      obtain ⟨y, hy⟩ : ∃ y, hs[n]? = some y := ⟨_, List.getElem?_eq_getElem hlt⟩
      have ei : IntKind.i64.wrap ((n : Int) + 1) = ((n + 1 : Nat) : Int) := by rw [i64_wrap (by omega) (by omega)]; omega
      obtain ⟨p, p1, p2⟩ := hO.slR.u64 (k := .i64) hy
      have fin : (∃ n_1, n_1 ≤ hs.length ∧ [Value.int IntKind.u64 q, Value.pointer (some ⟨c, 0, none⟩), Value.int IntKind.u64 ((fromS hs q).getD 0), Value.bool (fromS hs q).isSome, v, Value.int IntKind.i64 ↑(n + 1)] = [Value.int IntKind.u64 q, Value.pointer (some ⟨c, 0, none⟩), Value.int IntKind.u64 ((fromS hs q).getD 0), Value.bool (fromS hs q).isSome, v, Value.int IntKind.i64 ↑n_1] ∧ h' = h') := ⟨n + 1, by omega, rfl, rfl⟩
      cases hf : fromS hs q with
      | none =>
        rw [hf] at fin
        have hle : (q ≤ y) = False := eq_false (fromS_none hf y (List.mem_of_getElem? hy))
        simp only [lv, hd, p1, p2, hle, ei, Option.isSome_none, Option.getD_none, popO_some, bindH_eq, condV_bool, condV_true, condV_false, yV_bool, gopV_tt, gopV_ff, gopV_tf, gopV_ft, pickV_t, pickV_f, pickV_bool, nilS_ptr, add_eq, sub_eq, mul_eq, lss_eq, leq_eq, gtr_eq, geq_eq, not_eq, minI_eq, maxI_eq, extract_0, extract_1, extract_2, eqlI, neqI, makeFunc_eq, decide_true, decide_false, if_true, if_false, Bool.false_eq_true, Bool.not_true, Bool.not_false, reduceIte, List.getElem?_toArray, List.getElem?_cons_zero, List.getElem?_cons_succ, Option.isSome_none, List.length_map]
        exact ⟨fin, by simp [upTo, s5]; omega⟩
      | some z =>
        rw [hf] at fin
        obtain ⟨z1, z2, z3⟩ := fromS_mem T.cl.rank.up hf
        by_cases c1 : q ≤ y
        · have c2 : (y < z) = False := by have := z3 y (List.mem_of_getElem? hy) c1; apply eq_false; omega
          simp only [lv, hd, p1, p2, c1, c2, ei, Option.isSome_some, Option.getD_some, popO_some, bindH_eq, condV_bool, condV_true, condV_false, yV_bool, gopV_tt, gopV_ff, gopV_tf, gopV_ft, pickV_t, pickV_f, pickV_bool, nilS_ptr, add_eq, sub_eq, mul_eq, lss_eq, leq_eq, gtr_eq, geq_eq, not_eq, minI_eq, maxI_eq, extract_0, extract_1, extract_2, eqlI, neqI, makeFunc_eq, decide_true, decide_false, if_true, if_false, Bool.false_eq_true, Bool.not_true, Bool.not_false, reduceIte, List.getElem?_toArray, List.getElem?_cons_zero, List.getElem?_cons_succ, Option.isSome_none, List.length_map]
          exact ⟨by simpa only [Option.getD_some, Option.isSome_some] using fin, by simp [upTo, s5]; omega⟩
        · simp only [lv, hd, p1, p2, c1, ei, Option.isSome_some, Option.getD_some, popO_some, bindH_eq, condV_bool, condV_true, condV_false, yV_bool, gopV_tt, gopV_ff, gopV_tf, gopV_ft, pickV_t, pickV_f, pickV_bool, nilS_ptr, add_eq, sub_eq, mul_eq, lss_eq, leq_eq, gtr_eq, geq_eq, not_eq, minI_eq, maxI_eq, extract_0, extract_1, extract_2, eqlI, neqI, makeFunc_eq, decide_true, decide_false, if_true, if_false, Bool.false_eq_true, Bool.not_true, Bool.not_false, reduceIte, List.getElem?_toArray, List.getElem?_cons_zero, List.getElem?_cons_succ, Option.isSome_none, List.length_map]
          exact ⟨by simpa only [Option.getD_some, Option.isSome_some] using fin, by simp [upTo, s5]; omega⟩
    · have hd : ((n : Int) < (hs.length : Int)) = False := by apply eq_false; omega
      simp only [lv, hd, popO_some, bindH_eq, condV_bool, condV_true, condV_false, yV_bool, gopV_tt, gopV_ff, gopV_tf, gopV_ft, pickV_t, pickV_f, pickV_bool, nilS_ptr, add_eq, sub_eq, mul_eq, lss_eq, leq_eq, gtr_eq, geq_eq, not_eq, minI_eq, maxI_eq, extract_0, extract_1, extract_2, eqlI, neqI, makeFunc_eq, decide_true, decide_false, if_true, if_false, Bool.false_eq_true, Bool.not_true, Bool.not_false, reduceIte, List.getElem?_toArray, List.getElem?_cons_zero, List.getElem?_cons_succ, Option.isSome_none, List.length_map]
      refine Root_ok T4.cl _ ?_
      cases hf : fromS hs q with
      | none =>
        have e : ((0 : Int) == 0) = true := rfl
        simp only [Option.isSome_none, Option.getD_none, e, popO_some, bindH_eq, condV_bool, condV_true, condV_false, yV_bool, gopV_tt, gopV_ff, gopV_tf, gopV_ft, pickV_t, pickV_f, pickV_bool, nilS_ptr, add_eq, sub_eq, mul_eq, lss_eq, leq_eq, gtr_eq, geq_eq, not_eq, minI_eq, maxI_eq, extract_0, extract_1, extract_2, eqlI, neqI, makeFunc_eq, decide_true, decide_false, if_true, if_false, Bool.false_eq_true, Bool.not_true, Bool.not_false, reduceIte, List.getElem?_toArray, List.getElem?_cons_zero, List.getElem?_cons_succ, Option.isSome_none, List.length_map]
        exact hk _ T4.ext
      | some z =>
        obtain ⟨z1, z2, z3⟩ := fromS_mem T.cl.rank.up hf
        have e : decide (z ∈ hts l) = true := by simpa using T.cl.rank.mem.1 z1
        simp only [rootL_some, Option.isSome_some, Option.getD_some, e, z2, popO_some, bindH_eq, condV_bool, condV_true, condV_false, yV_bool, gopV_tt, gopV_ff, gopV_tf, gopV_ft, pickV_t, pickV_f, pickV_bool, nilS_ptr, add_eq, sub_eq, mul_eq, lss_eq, leq_eq, gtr_eq, geq_eq, not_eq, minI_eq, maxI_eq, extract_0, extract_1, extract_2, eqlI, neqI, makeFunc_eq, decide_true, decide_false, if_true, if_false, Bool.false_eq_true, Bool.not_true, Bool.not_false, reduceIte, List.getElem?_toArray, List.getElem?_cons_zero, List.getElem?_cons_succ, Option.isSome_none, List.length_map]
        exact hk _ T4.ext
end Go.Proofs.Ytbloalappckjhaa
