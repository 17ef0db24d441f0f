/- client: the law ClientKeeps. -/
import Derived.Test.YtbloalappckjhaaCliP
set_option linter.unusedSimpArgs false
set_option linter.unusedVariables false
namespace Go.Proofs.Ytbloalappckjhaa
open Go
structure Keep (h0 h : PH) (c r : Nat) (l : List Known) (hs : List Int) (FC : List Nat) : Prop where
  ext : Ext h0 h
  cl : ClientAt h c l hs FC
  map : MapAt ukey h r (l.map Known.ent)
  fc : Fresh h0 FC
  fr : h0 r = none
  dis : r ∉ FC
theorem Keep.step {h0 h h' : PH} {c r : Nat} {l : List Known} {hs : List Int} {FC : List Nat} (T : Keep h0 h c r l hs FC) (u : Ext h h') : Keep h0 h' c r l hs FC :=
  ⟨T.ext.trans u, T.cl.ext u, T.map.ext u, T.fc, T.fr, T.dis⟩
theorem look_kn {h : PH} {r : Nat} {l : List Known} (H : MapAt ukey h r (l.map Known.ent)) (y : Int) (ok : Bool) : SemE PG h (Instr.lookup T_map_uint64_string (.map (some r)) (.int .u64 y) ok) = some (if ok then .tuple #[.string ((rootL l y).getD ⟨#[]⟩), .bool (rootL l y).isSome] else .string ((rootL l y).getD ⟨#[]⟩)) := by
  have hl := look_found (ukeyed T_uint64.und) T_map_uint64_string.und T_string.info T_string.zero H y ok
  rw [getM_ent] at hl
  rw [show (Value.int .u64 y) = ukey y from rfl, hl]
  cases rootL l y <;> cases ok <;> rfl
theorem fromS_self {hs : List Int} (hup : hs.Pairwise (· < ·)) {q : Nat} {y : Int} (hy : hs[q]? = some y) : fromS hs y = some y := by
  rw [← hy]
  refine fromS_cut ?_ ?_
  · intro z hz
    obtain ⟨j, hj, rfl⟩ := List.mem_iff_getElem.1 hz
    rw [List.length_take] at hj
    rw [List.getElem_take]
    exact up_get hup (List.getElem?_eq_getElem (by omega)) hy (by omega)
  · intro z hz
    obtain ⟨j, hj, rfl⟩ := List.mem_iff_getElem.1 hz
    rw [List.length_drop] at hj
    rw [List.getElem_drop]
    by_cases h0 : j = 0
    · subst h0
      have := hy
      rw [List.getElem?_eq_getElem (by omega)] at this
      simp at this
      simp [this]
    · have := up_get hup hy (List.getElem?_eq_getElem (i := q + j) (by omega)) (by omega)
      omega
set_option maxRecDepth 20000 in
theorem k70_ok {h0 h : PH} {c r i : Nat} {l : List Known} {hs : List Int} {FC : List Nat} {x : Value} (T : Keep h0 h c r l hs FC) (hi : i < 101) {R : Value → PH → Prop} {n13 : List Value → PH → Prop}
    (hk : ∀ h', Ext h h' → n13 [x, .pointer (some ⟨c, 0, none⟩), .map (some r), .int .i64 ((i + 1 : Nat) : Int)] h') :
    carracklaw12_ClientKeeps_k70 R n13 x (.pointer (some ⟨c, 0, none⟩)) (.map (some r)) (.int .i64 i) h := by
  have hlen := T.cl.rank.len
  have hfew := T.cl.few
  unfold carracklaw12_ClientKeeps_k70
  refine Heights_ok T.cl fun v h1 F1 hO u1 f1 => ?_
  have T1 := T.step u1
  have lv := hO.slR.len (t' := T_int) T_sl_uint64.und
  rw [List.length_map] at lv
  have lm := T1.map.len (t' := T_int) T_map_uint64_string.und
  rw [List.length_map] at lm
  have e1 : ((hs.length : Int) != (l.length : Int)) = false := by simp [hlen]
  have ei : IntKind.i64.wrap ((i : Int) + 1) = ((i + 1 : Nat) : Int) := by rw [i64_wrap (by omega) (by omega)]; omega
  have loop : LoopL [0, 3, 4, 5, 9, 10] (fun n129 ρ h => carracklaw12_ClientKeeps_b130 R n13 n129 (ρ 0) (ρ 3) (ρ 4) (ρ 5) (ρ 9) (ρ 10) h) [x, .pointer (some ⟨c, 0, none⟩), .map (some r), .int .i64 i, v, (Value.int IntKind.i64 0)] h1 := by
    refine ⟨fun vs h' => ∃ q : Nat, q ≤ hs.length ∧ vs = [x, .pointer (some ⟨c, 0, none⟩), .map (some r), .int .i64 i, v, .int .i64 q] ∧ Ext h1 h', upTo hs.length 5, ⟨0, by simp, rfl, Upd.refl⟩, ?_⟩
    rintro ρ h' ⟨q, hq, hvs, u2⟩
    simp only [List.map_cons, List.map_nil, List.cons.injEq, and_true] at hvs
    obtain ⟨s0, s1, s2, s3, s4, s5⟩ := hvs
    rw [s0, s1, s2, s3, s4, s5]
    unfold carracklaw12_ClientKeeps_b130
    by_cases hc : q < hs.length
    · have hd : ((q : Int) < (hs.length : Int)) = True := by simp only [eq_iff_iff, iff_true]; omega
      obtain ⟨y, hy⟩ : ∃ y, hs[q]? = some y := ⟨_, List.getElem?_eq_getElem hc⟩
      have T2 := T1.step u2
      have hO2 := hO.ext u2
      obtain ⟨p, p1, p2⟩ := hO2.slR.u64 (k := .i64) hy
      simp only [lv, hd, p1, p2, popO_some, bindH_eq, condV_bool, condV_true, condV_false, yV_bool, gopV_tt, gopV_ff, gopV_tf, gopV_ft, pickV_t, pickV_f, pickV_bool, nilS_ptr, add_eq, sub_eq, mul_eq, lss_eq, leq_eq, gtr_eq, geq_eq, not_eq, minI_eq, maxI_eq, extract_0, extract_1, extract_2, eqlI, neqI, makeFunc_eq, decide_true, decide_false, if_true, if_false, Bool.false_eq_true, Bool.not_true, Bool.not_false, reduceIte, List.getElem?_toArray, List.getElem?_cons_zero, List.getElem?_cons_succ, Option.isSome_none, List.length_map]
      refine Root_ok T2.cl y ?_
      simp only [p1, p2, popO_some, bindH_eq, condV_bool, condV_true, condV_false, yV_bool, gopV_tt, gopV_ff, gopV_tf, gopV_ft, pickV_t, pickV_f, pickV_bool, nilS_ptr, add_eq, sub_eq, mul_eq, lss_eq, leq_eq, gtr_eq, geq_eq, not_eq, minI_eq, maxI_eq, extract_0, extract_1, extract_2, eqlI, neqI, makeFunc_eq, decide_true, decide_false, if_true, if_false, Bool.false_eq_true, Bool.not_true, Bool.not_false, reduceIte, List.getElem?_toArray, List.getElem?_cons_zero, List.getElem?_cons_succ, Option.isSome_none, List.length_map]
      refine From_ok T2.cl y fun h3 u3 => ?_
      have T3 := T2.step u3
      have hO3 := hO2.ext u3
      obtain ⟨p', p1', p3⟩ := hO3.slR.u64 (k := .i64) hy
      rw [p1] at p1'
      simp only [Option.some.injEq, Value.pointer.injEq] at p1'
      subst p1'
      have hsome : (rootL l y).isSome = true := by
        rw [rootL_some]; simp only [decide_eq_true_eq]
        exact T.cl.rank.mem.1 (List.mem_of_getElem? hy)
      have ez : (y != y) = false := by simp
      have eq1 : IntKind.i64.wrap ((q : Int) + 1) = ((q + 1 : Nat) : Int) := by rw [i64_wrap (by omega) (by omega)]; omega
      simp only [hsome, fromS_self T.cl.rank.up hy, p1, p3, look_kn T3.map, neqS, bytes_ne, Option.isSome_some, Option.getD_some, ez, popO_some, bindH_eq, condV_bool, condV_true, condV_false, yV_bool, gopV_tt, gopV_ff, gopV_tf, gopV_ft, pickV_t, pickV_f, pickV_bool, nilS_ptr, add_eq, sub_eq, mul_eq, lss_eq, leq_eq, gtr_eq, geq_eq, not_eq, minI_eq, maxI_eq, extract_0, extract_1, extract_2, eqlI, neqI, makeFunc_eq, decide_true, decide_false, if_true, if_false, Bool.false_eq_true, Bool.not_true, Bool.not_false, reduceIte, List.getElem?_toArray, List.getElem?_cons_zero, List.getElem?_cons_succ, Option.isSome_none, List.length_map]
      by_cases h0 : q = 0
      · have hg : ((0 : Int) < (q : Int)) = False := by apply eq_false; omega
        simp only [hg, eq1, popO_some, bindH_eq, condV_bool, condV_true, condV_false, yV_bool, gopV_tt, gopV_ff, gopV_tf, gopV_ft, pickV_t, pickV_f, pickV_bool, nilS_ptr, add_eq, sub_eq, mul_eq, lss_eq, leq_eq, gtr_eq, geq_eq, not_eq, minI_eq, maxI_eq, extract_0, extract_1, extract_2, eqlI, neqI, makeFunc_eq, decide_true, decide_false, if_true, if_false, Bool.false_eq_true, Bool.not_true, Bool.not_false, reduceIte, List.getElem?_toArray, List.getElem?_cons_zero, List.getElem?_cons_succ, Option.isSome_none, List.length_map]
        exact ⟨⟨q + 1, by omega, rfl, u2.trans u3⟩, by simp [upTo, s5]; omega⟩
      · have hg : ((0 : Int) < (q : Int)) = True := by apply eq_true; omega
        have eq2 : IntKind.i64.wrap ((q : Int) - 1) = ((q - 1 : Nat) : Int) := by rw [i64_wrap (by omega) (by omega)]; omega
        obtain ⟨z, hz⟩ : ∃ z, hs[q - 1]? = some z := ⟨_, List.getElem?_eq_getElem (by omega)⟩
        obtain ⟨p4, p5, p6⟩ := hO3.slR.u64 (k := .i64) hz
        have hlt := up_get T.cl.rank.up hz hy (by omega)
        have hle : (y ≤ z) = False := by apply eq_false; omega
        simp only [hg, eq1, eq2, p1, p3, p5, p6, hle, popO_some, bindH_eq, condV_bool, condV_true, condV_false, yV_bool, gopV_tt, gopV_ff, gopV_tf, gopV_ft, pickV_t, pickV_f, pickV_bool, nilS_ptr, add_eq, sub_eq, mul_eq, lss_eq, leq_eq, gtr_eq, geq_eq, not_eq, minI_eq, maxI_eq, extract_0, extract_1, extract_2, eqlI, neqI, makeFunc_eq, decide_true, decide_false, if_true, if_false, Bool.false_eq_true, Bool.not_true, Bool.not_false, reduceIte, List.getElem?_toArray, List.getElem?_cons_zero, List.getElem?_cons_succ, Option.isSome_none, List.length_map]
        exact ⟨⟨q + 1, by omega, rfl, u2.trans u3⟩, by simp [upTo, s5]; omega⟩
    · have hd : ((q : Int) < (hs.length : Int)) = False := by apply eq_false; omega
      simp only [lv, hd, ei, popO_some, bindH_eq, condV_bool, condV_true, condV_false, yV_bool, gopV_tt, gopV_ff, gopV_tf, gopV_ft, pickV_t, pickV_f, pickV_bool, nilS_ptr, add_eq, sub_eq, mul_eq, lss_eq, leq_eq, gtr_eq, geq_eq, not_eq, minI_eq, maxI_eq, extract_0, extract_1, extract_2, eqlI, neqI, makeFunc_eq, decide_true, decide_false, if_true, if_false, Bool.false_eq_true, Bool.not_true, Bool.not_false, reduceIte, List.getElem?_toArray, List.getElem?_cons_zero, List.getElem?_cons_succ, Option.isSome_none, List.length_map]
      exact hk _ (u1.trans u2)
  simp only [lv, lm, e1, popO_some, bindH_eq, condV_bool, condV_true, condV_false, yV_bool, gopV_tt, gopV_ff, gopV_tf, gopV_ft, pickV_t, pickV_f, pickV_bool, nilS_ptr, add_eq, sub_eq, mul_eq, lss_eq, leq_eq, gtr_eq, geq_eq, not_eq, minI_eq, maxI_eq, extract_0, extract_1, extract_2, eqlI, neqI, makeFunc_eq, decide_true, decide_false, if_true, if_false, Bool.false_eq_true, Bool.not_true, Bool.not_false, reduceIte, List.getElem?_toArray, List.getElem?_cons_zero, List.getElem?_cons_succ, Option.isSome_none, List.length_map]
  by_cases h0 : hs.length = 0
  · have hg : ((0 : Int) < (hs.length : Int)) = False := by apply eq_false; omega
    simp only [hg, popO_some, bindH_eq, condV_bool, condV_true, condV_false, yV_bool, gopV_tt, gopV_ff, gopV_tf, gopV_ft, pickV_t, pickV_f, pickV_bool, nilS_ptr, add_eq, sub_eq, mul_eq, lss_eq, leq_eq, gtr_eq, geq_eq, not_eq, minI_eq, maxI_eq, extract_0, extract_1, extract_2, eqlI, neqI, makeFunc_eq, decide_true, decide_false, if_true, if_false, Bool.false_eq_true, Bool.not_true, Bool.not_false, reduceIte, List.getElem?_toArray, List.getElem?_cons_zero, List.getElem?_cons_succ, Option.isSome_none, List.length_map]
    exact ⟨by simp, loop⟩
  · have hg : ((0 : Int) < (hs.length : Int)) = True := by apply eq_true; omega
    have eq2 : IntKind.i64.wrap ((hs.length : Int) - 1) = ((hs.length - 1 : Nat) : Int) := by rw [i64_wrap (by omega) (by omega)]; omega
    obtain ⟨z, hz⟩ : ∃ z, hs[hs.length - 1]? = some z := ⟨_, List.getElem?_eq_getElem (by omega)⟩
    obtain ⟨p4, p5, p6⟩ := hO.slR.u64 (k := .i64) hz
    have hlat : latS hs = z := by unfold latS; rw [List.getLast?_eq_getElem?, hz]; rfl
    have ez : (z != z) = false := by simp
    simp only [hg, lv, eq2, p5, p6, popO_some, bindH_eq, condV_bool, condV_true, condV_false, yV_bool, gopV_tt, gopV_ff, gopV_tf, gopV_ft, pickV_t, pickV_f, pickV_bool, nilS_ptr, add_eq, sub_eq, mul_eq, lss_eq, leq_eq, gtr_eq, geq_eq, not_eq, minI_eq, maxI_eq, extract_0, extract_1, extract_2, eqlI, neqI, makeFunc_eq, decide_true, decide_false, if_true, if_false, Bool.false_eq_true, Bool.not_true, Bool.not_false, reduceIte, List.getElem?_toArray, List.getElem?_cons_zero, List.getElem?_cons_succ, Option.isSome_none, List.length_map]
    refine Latest_ok T1.cl ?_
    simp only [hlat, ez, p6, popO_some, bindH_eq, condV_bool, condV_true, condV_false, yV_bool, gopV_tt, gopV_ff, gopV_tf, gopV_ft, pickV_t, pickV_f, pickV_bool, nilS_ptr, add_eq, sub_eq, mul_eq, lss_eq, leq_eq, gtr_eq, geq_eq, not_eq, minI_eq, maxI_eq, extract_0, extract_1, extract_2, eqlI, neqI, makeFunc_eq, decide_true, decide_false, if_true, if_false, Bool.false_eq_true, Bool.not_true, Bool.not_false, reduceIte, List.getElem?_toArray, List.getElem?_cons_zero, List.getElem?_cons_succ, Option.isSome_none, List.length_map]
    exact ⟨by simp, loop⟩
set_option maxRecDepth 20000 in
theorem ClientKeeps_ok {h : PH} {x : Value} {xs : List Known} (hx : SlR h 2 x (xs.map Known.cells)) {k : Value → PH → Prop} (hk : ∀ h', Ext h h' → k (.bool true) h') :
    CallsH PG id_carracklaw12_ClientKeeps #[x] h k := by
  have lx := hx.len (t' := T_int) T_sl_carrackref12_Known.und
  rw [List.length_map] at lx
  apply carracklaw12_ClientKeeps.call
  unfold carracklaw12_ClientKeeps
  refine awake12_ok fun h1 u1 => ?_
  simp only [lx, popO_some, bindH_eq, condV_bool, condV_true, condV_false, yV_bool, gopV_tt, gopV_ff, gopV_tf, gopV_ft, pickV_t, pickV_f, pickV_bool, nilS_ptr, add_eq, sub_eq, mul_eq, lss_eq, leq_eq, gtr_eq, geq_eq, not_eq, minI_eq, maxI_eq, extract_0, extract_1, extract_2, eqlI, neqI, makeFunc_eq, decide_true, decide_false, if_true, if_false, Bool.false_eq_true, Bool.not_true, Bool.not_false, reduceIte, List.getElem?_toArray, List.getElem?_cons_zero, List.getElem?_cons_succ, Option.isSome_none, List.length_map]
  by_cases hc : (100 : Int) < xs.length
  · simp only [hc, popO_some, bindH_eq, condV_bool, condV_true, condV_false, yV_bool, gopV_tt, gopV_ff, gopV_tf, gopV_ft, pickV_t, pickV_f, pickV_bool, nilS_ptr, add_eq, sub_eq, mul_eq, lss_eq, leq_eq, gtr_eq, geq_eq, not_eq, minI_eq, maxI_eq, extract_0, extract_1, extract_2, eqlI, neqI, makeFunc_eq, decide_true, decide_false, if_true, if_false, Bool.false_eq_true, Bool.not_true, Bool.not_false, reduceIte, List.getElem?_toArray, List.getElem?_cons_zero, List.getElem?_cons_succ, Option.isSome_none, List.length_map]
    exact hk _ u1
  simp only [hc, popO_some, bindH_eq, condV_bool, condV_true, condV_false, yV_bool, gopV_tt, gopV_ff, gopV_tf, gopV_ft, pickV_t, pickV_f, pickV_bool, nilS_ptr, add_eq, sub_eq, mul_eq, lss_eq, leq_eq, gtr_eq, geq_eq, not_eq, minI_eq, maxI_eq, extract_0, extract_1, extract_2, eqlI, neqI, makeFunc_eq, decide_true, decide_false, if_true, if_false, Bool.false_eq_true, Bool.not_true, Bool.not_false, reduceIte, List.getElem?_toArray, List.getElem?_cons_zero, List.getElem?_cons_succ, Option.isSome_none, List.length_map]
  refine CNew_ok fun c h2 FC hC2 u2 f2 => ?_
  simp only [eqlPtrNil T_p_client_Client.und, Option.isNone_some, makeMap_eq, popO_some, bindH_eq, condV_bool, condV_true, condV_false, yV_bool, gopV_tt, gopV_ff, gopV_tf, gopV_ft, pickV_t, pickV_f, pickV_bool, nilS_ptr, add_eq, sub_eq, mul_eq, lss_eq, leq_eq, gtr_eq, geq_eq, not_eq, minI_eq, maxI_eq, extract_0, extract_1, extract_2, eqlI, neqI, makeFunc_eq, decide_true, decide_false, if_true, if_false, Bool.false_eq_true, Bool.not_true, Bool.not_false, reduceIte, List.getElem?_toArray, List.getElem?_cons_zero, List.getElem?_cons_succ, Option.isSome_none, List.length_map]
  intro r hr
  refine popO_pure ?_
  have u3 : Ext h2 (h2.set r (.map #[] 0)) := Upd.new hr
  have w2 := u1.trans u2
  have T0 : Keep h (h2.set r (.map #[] 0)) c r [] [] FC := ⟨w2.trans u3, hC2.ext u3, MapAt.new, f2.of u1, w2.none hr, fun hf => hC2.known _ hf hr⟩
  show LoopL _ _ _ (h2.set r (.map #[] 0))
  generalize h2.set r (.map #[] 0) = h3 at *
  refine ⟨fun vs h' => ∃ (i : Nat) (l : List Known) (hs : List Int) (FC : List Nat), i ≤ xs.length ∧ l.length ≤ i ∧ vs = [x, .pointer (some ⟨c, 0, none⟩), .map (some r), .int .i64 i] ∧ Keep h h' c r l hs FC, upTo xs.length 3, ⟨0, [], [], FC, by omega, by simp, rfl, T0⟩, ?_⟩
  rintro ρ h' ⟨i, l, hs, FC, hi, hli, hvs, T⟩
  simp only [List.map_cons, List.map_nil, List.cons.injEq, and_true] at hvs
  obtain ⟨e0, e1, e2, e5⟩ := hvs
  rw [e0, e1, e2, e5]
  unfold carracklaw12_ClientKeeps_b14
  by_cases hlt : i < xs.length
  · have hd : ((i : Int) < (xs.length : Int)) = True := by apply eq_true; omega
    obtain ⟨y, hy⟩ : ∃ y, xs[i]? = some y := ⟨_, List.getElem?_eq_getElem hlt⟩
    obtain ⟨b, o, a1, a2, a3, -⟩ := (hx.ext T.ext).kn (k := .i64) hy
    simp only [lx, hd, a1, T_carrackref12_Known.f0, T_carrackref12_Known.f1, T_uint64.load, T_string.load, a2, a3, popO_some, bindH_eq, condV_bool, condV_true, condV_false, yV_bool, gopV_tt, gopV_ff, gopV_tf, gopV_ft, pickV_t, pickV_f, pickV_bool, nilS_ptr, add_eq, sub_eq, mul_eq, lss_eq, leq_eq, gtr_eq, geq_eq, not_eq, minI_eq, maxI_eq, extract_0, extract_1, extract_2, eqlI, neqI, makeFunc_eq, decide_true, decide_false, if_true, if_false, Bool.false_eq_true, Bool.not_true, Bool.not_false, reduceIte, List.getElem?_toArray, List.getElem?_cons_zero, List.getElem?_cons_succ, Option.isSome_none, List.length_map]
    refine Set_ok T.cl y fun h4 hs4 F4 hC4 u4 k4 => ?_
    have w4 := T.ext.fresh u4 T.fc
    have f4 := T.fc.grow T.ext k4
    have hM4 := T.map.upd u4 T.dis
    have d4 : r ∉ F4 := fun hf => by
      rcases k4 r hf with h | h
      · exact T.dis h
      · exact T.map.known h
    obtain ⟨b', o', a1', a2', a3', -⟩ := (hx.ext w4).kn (k := .i64) hy
    rw [a1'] at a1
    simp only [Option.some.injEq, Value.pointer.injEq, Addr.mk.injEq, and_true] at a1
    obtain ⟨rfl, rfl⟩ := a1
    have hsl := setK_len l y
    have fin : ∀ {h5 : PH} {l5 : List Known}, Keep h h5 c r l5 hs4 F4 → l5.length ≤ i + 1 → carracklaw12_ClientKeeps_k70 k (fun vs h'_1 => (∃ i l hs FC, i ≤ xs.length ∧ l.length ≤ i ∧ vs = [x, Value.pointer (some ⟨c, 0, none⟩), Value.map (some r), Value.int IntKind.i64 ↑i] ∧ Keep h h'_1 c r l hs FC) ∧ upTo xs.length 3 vs h'_1 < upTo xs.length 3 (List.map ρ [0, 3, 4, 5]) h') x (.pointer (some ⟨c, 0, none⟩)) (.map (some r)) (.int .i64 i) h5 := by
      intro h5 l5 T5 hl5
      refine k70_ok T5 (by omega) fun h6 u6 => ?_
      exact ⟨⟨i + 1, l5, hs4, F4, by omega, by omega, rfl, T5.step u6⟩, by simp [upTo, e5]; omega⟩
    simp only [a1', T_carrackref12_Known.f0, T_carrackref12_Known.f1, T_uint64.load, T_string.load, T_string.len, a2', a3', look_kn hM4, rootL_some, popO_some, bindH_eq, condV_bool, condV_true, condV_false, yV_bool, gopV_tt, gopV_ff, gopV_tf, gopV_ft, pickV_t, pickV_f, pickV_bool, nilS_ptr, add_eq, sub_eq, mul_eq, lss_eq, leq_eq, gtr_eq, geq_eq, not_eq, minI_eq, maxI_eq, extract_0, extract_1, extract_2, eqlI, neqI, makeFunc_eq, decide_true, decide_false, if_true, if_false, Bool.false_eq_true, Bool.not_true, Bool.not_false, reduceIte, List.getElem?_toArray, List.getElem?_cons_zero, List.getElem?_cons_succ, Option.isSome_none, List.length_map]
    unfold setK at hC4 ⊢
    by_cases c1 : y.root.size = 32
    · have q1 : ((y.root.size : Int) == 32) = true := by simp [c1]
      rw [if_neg (by simpa using c1)] at hC4 ⊢
      by_cases c2 : y.height ∈ hts l
      · rw [if_pos c2] at hC4 ⊢
        have q4 : ((4 : Int) == 0) = false := rfl
        simp only [c2, q4, eqlI, neqB, bne_self_eq_false, popO_some, bindH_eq, condV_bool, condV_true, condV_false, yV_bool, gopV_tt, gopV_ff, gopV_tf, gopV_ft, pickV_t, pickV_f, pickV_bool, nilS_ptr, add_eq, sub_eq, mul_eq, lss_eq, leq_eq, gtr_eq, geq_eq, not_eq, minI_eq, maxI_eq, extract_0, extract_1, extract_2, eqlI, neqI, makeFunc_eq, decide_true, decide_false, if_true, if_false, Bool.false_eq_true, Bool.not_true, Bool.not_false, reduceIte, List.getElem?_toArray, List.getElem?_cons_zero, List.getElem?_cons_succ, Option.isSome_none, List.length_map]
        exact fin (l5 := l) ⟨w4, hC4, hM4, f4, T.fr, d4⟩ (by omega)
      · rw [if_neg c2, if_neg (by omega)] at hC4 ⊢
        have q4 : ((0 : Int) == 0) = true := rfl
        simp only [c2, q1, q4, neqB, bne_self_eq_false, a1', T_carrackref12_Known.f0, T_carrackref12_Known.f1, T_uint64.load, T_string.load, T_string.len, a2', a3', popO_some, bindH_eq, condV_bool, condV_true, condV_false, yV_bool, gopV_tt, gopV_ff, gopV_tf, gopV_ft, pickV_t, pickV_f, pickV_bool, nilS_ptr, add_eq, sub_eq, mul_eq, lss_eq, leq_eq, gtr_eq, geq_eq, not_eq, minI_eq, maxI_eq, extract_0, extract_1, extract_2, eqlI, neqI, makeFunc_eq, decide_true, decide_false, if_true, if_false, Bool.false_eq_true, Bool.not_true, Bool.not_false, reduceIte, List.getElem?_toArray, List.getElem?_cons_zero, List.getElem?_cons_succ, Option.isSome_none, List.length_map]
        refine map_put (enc := ukey) (ukeyed T_uint64.und) T_map_uint64_string.und hM4 y.height (.string y.root) fun h5 hM5 u5 => ?_
        have hput : putM (l.map Known.ent) y.height (.string y.root) = (l ++ [y]).map Known.ent := by
          unfold putM
          rw [keys_ent, if_neg c2]
          simp [Known.ent]
        rw [hput] at hM5
        refine fin ⟨w4.fresh u5 (Fresh.one T.fr), hC4.upd u5 (fun b hb hf => by simp at hf; subst hf; exact d4 hb), hM5, f4, T.fr, d4⟩ (by simp; omega)
    · have q1 : ((y.root.size : Int) == 32) = false := by simp; omega
      rw [if_pos (by simpa using c1)] at hC4 ⊢
      have q4 : ((1 : Int) == 0) = false := rfl
      by_cases c2 : y.height ∈ hts l
      · simp only [c2, q1, q4, neqB, bne_self_eq_false, popO_some, bindH_eq, condV_bool, condV_true, condV_false, yV_bool, gopV_tt, gopV_ff, gopV_tf, gopV_ft, pickV_t, pickV_f, pickV_bool, nilS_ptr, add_eq, sub_eq, mul_eq, lss_eq, leq_eq, gtr_eq, geq_eq, not_eq, minI_eq, maxI_eq, extract_0, extract_1, extract_2, eqlI, neqI, makeFunc_eq, decide_true, decide_false, if_true, if_false, Bool.false_eq_true, Bool.not_true, Bool.not_false, reduceIte, List.getElem?_toArray, List.getElem?_cons_zero, List.getElem?_cons_succ, Option.isSome_none, List.length_map]
        exact fin (l5 := l) ⟨w4, hC4, hM4, f4, T.fr, d4⟩ (by omega)
      · simp only [c2, q1, q4, neqB, bne_self_eq_false, a1', T_carrackref12_Known.f0, T_carrackref12_Known.f1, T_uint64.load, T_string.load, T_string.len, a2', a3', popO_some, bindH_eq, condV_bool, condV_true, condV_false, yV_bool, gopV_tt, gopV_ff, gopV_tf, gopV_ft, pickV_t, pickV_f, pickV_bool, nilS_ptr, add_eq, sub_eq, mul_eq, lss_eq, leq_eq, gtr_eq, geq_eq, not_eq, minI_eq, maxI_eq, extract_0, extract_1, extract_2, eqlI, neqI, makeFunc_eq, decide_true, decide_false, if_true, if_false, Bool.false_eq_true, Bool.not_true, Bool.not_false, reduceIte, List.getElem?_toArray, List.getElem?_cons_zero, List.getElem?_cons_succ, Option.isSome_none, List.length_map]
        exact fin (l5 := l) ⟨w4, hC4, hM4, f4, T.fr, d4⟩ (by omega)
  · have hd : ((i : Int) < (xs.length : Int)) = False := by apply eq_false; omega
    simp only [lx, hd, popO_some, bindH_eq, condV_bool, condV_true, condV_false, yV_bool, gopV_tt, gopV_ff, gopV_tf, gopV_ft, pickV_t, pickV_f, pickV_bool, nilS_ptr, add_eq, sub_eq, mul_eq, lss_eq, leq_eq, gtr_eq, geq_eq, not_eq, minI_eq, maxI_eq, extract_0, extract_1, extract_2, eqlI, neqI, makeFunc_eq, decide_true, decide_false, if_true, if_false, Bool.false_eq_true, Bool.not_true, Bool.not_false, reduceIte, List.getElem?_toArray, List.getElem?_cons_zero, List.getElem?_cons_succ, Option.isSome_none, List.length_map]
    exact hk _ T.ext
end Go.Proofs.Ytbloalappckjhaa
