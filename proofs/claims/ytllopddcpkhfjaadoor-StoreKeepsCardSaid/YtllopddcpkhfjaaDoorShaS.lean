/- sha: New, Sum. -/
import Derived.Test.YtllopddcpkhfjaaDoorShaD
set_option linter.unusedSimpArgs false
set_option linter.unusedVariables false
namespace Go.Proofs.YtllopddcpkhfjaaDoor
open Go Bld
set_option maxRecDepth 20000
def scell (p : List UInt8) : List Value := [.string (tx p)]
theorem scell.rows (l : List (List UInt8)) : Rows 1 (l.map scell) := fun r hr => by
  obtain ⟨p, -, rfl⟩ := List.mem_map.1 hr; rfl
theorem New_ok {h : PH} {k : Value → PH → Prop} (hk : ∀ h' a, h a = none → Ext h h' → HAt h' a S0 [] 0 → k (.pointer (some ⟨a, 0, none⟩)) h') : CallsH PG id_sha_New #[] h k := by
  apply sha_New.call
  unfold sha_New
  apply sha_begin.call
  unfold sha_begin
  intro r1 hr1
  try rw [bindH_eq]
  have zS : zcells PG T_sha_state = (zs 8).toArray := by rw [T_sha_state.zc]; rfl
  rw [zS]
  have u1 : Ext h (h.set r1 (.cells (zs 8).toArray T_sha_state)) := Upd.new hr1
  have a1 : (h.set r1 (.cells (zs 8).toArray T_sha_state)) r1 = some (.cells (zs 8).toArray T_sha_state (0, 0)) := set_same
  generalize h.set r1 (.cells (zs 8).toArray T_sha_state) = h1 at *
  have b1 : SemP PG (Instr.build T_8_uint32 #[(0, (Value.int IntKind.u32 1779033703)), (1, (Value.int IntKind.u32 3144134277)), (2, (Value.int IntKind.u32 1013904242)), (3, (Value.int IntKind.u32 2773480762)), (4, (Value.int IntKind.u32 1359893119)), (5, (Value.int IntKind.u32 2600822924)), (6, (Value.int IntKind.u32 528734635)), (7, (Value.int IntKind.u32 1541459225))]) = some (.agg #[wv S0.a, wv S0.b, wv S0.c, wv S0.d, wv S0.e, wv S0.f, wv S0.g, wv S0.h]) := by kernel_rfl
  have b2 : SemP PG (Instr.build T_sha_state #[(0, .agg #[wv S0.a, wv S0.b, wv S0.c, wv S0.d, wv S0.e, wv S0.f, wv S0.g, wv S0.h])]) = some (.agg #[wv S0.a, wv S0.b, wv S0.c, wv S0.d, wv S0.e, wv S0.f, wv S0.g, wv S0.h]) := by kernel_rfl
  have b3 : SemP PG (Instr.build T_sha_Hash #[(0, .agg #[wv S0.a, wv S0.b, wv S0.c, wv S0.d, wv S0.e, wv S0.f, wv S0.g, wv S0.h])]) = some (.agg (hcells S0 (.string (tx [])) (.int .i64 (0 : Nat)))) := by kernel_rfl
  simp only [b1, b2, popO_some, bindH_eq, condV_bool, condV_true, condV_false, yV_bool, gopV_tt, gopV_ff, gopV_tf, gopV_ft, pickV_t, pickV_f, pickV_bool, nilS_ptr, add_eq, sub_eq, mul_eq, lss_eq, leq_eq, gtr_eq, geq_eq, not_eq, minI_eq, maxI_eq, extract_0, extract_1, extract_2, eqlI, neqI, makeFunc_eq, decide_true, decide_false, if_true, if_false, Bool.false_eq_true, Bool.not_true, Bool.not_false, reduceIte, List.getElem?_toArray, List.getElem?_cons_zero, List.getElem?_cons_succ, Option.isSome_none, List.length_map]
  refine store_box a1 T_sha_state.info rfl (by simp) rfl (by simp [isw]) ?_
  have u2 : Ext h (h1.set r1 (.cells #[wv S0.a, wv S0.b, wv S0.c, wv S0.d, wv S0.e, wv S0.f, wv S0.g, wv S0.h] T_sha_state (0, 0))) := u1.fresh (Upd.set (F := [r1]) (by simp)) (Fresh.one hr1)
  have a2 : (h1.set r1 (.cells #[wv S0.a, wv S0.b, wv S0.c, wv S0.d, wv S0.e, wv S0.f, wv S0.g, wv S0.h] T_sha_state (0, 0))) r1 = some (.cells #[wv S0.a, wv S0.b, wv S0.c, wv S0.d, wv S0.e, wv S0.f, wv S0.g, wv S0.h] T_sha_state (0, 0)) := set_same
  generalize h1.set r1 (.cells #[wv S0.a, wv S0.b, wv S0.c, wv S0.d, wv S0.e, wv S0.f, wv S0.g, wv S0.h] T_sha_state (0, 0)) = h2 at *
  have lA := T_sha_state.loadAgg (o := 0) a2 (by simp)
  have lE : (#[wv S0.a, wv S0.b, wv S0.c, wv S0.d, wv S0.e, wv S0.f, wv S0.g, wv S0.h] : Array Value).extract 0 (0 + 8) = #[wv S0.a, wv S0.b, wv S0.c, wv S0.d, wv S0.e, wv S0.f, wv S0.g, wv S0.h] := rfl
  rw [lE] at lA
  simp only [lA, b3, popO_some, bindH_eq, condV_bool, condV_true, condV_false, yV_bool, gopV_tt, gopV_ff, gopV_tf, gopV_ft, pickV_t, pickV_f, pickV_bool, nilS_ptr, add_eq, sub_eq, mul_eq, lss_eq, leq_eq, gtr_eq, geq_eq, not_eq, minI_eq, maxI_eq, extract_0, extract_1, extract_2, eqlI, neqI, makeFunc_eq, decide_true, decide_false, if_true, if_false, Bool.false_eq_true, Bool.not_true, Bool.not_false, reduceIte, List.getElem?_toArray, List.getElem?_cons_zero, List.getElem?_cons_succ, Option.isSome_none, List.length_map]
  intro a ha
  try rw [bindH_eq]
  exact hk _ a (u2.none ha) (u2.trans (Upd.new ha)) set_same
theorem Sum_ok {h : PH} {v : Value} {parts : List (List UInt8)} (hK : KAt h) (hs : SlR h 1 v (parts.map scell)) (hl : parts.flatten.length ≤ 100000000) {k : Value → PH → Prop} (hk : ∀ h', Ext h h' → k (.string (tx (sha parts.flatten))) h') :
    CallsH PG id_sha_Sum #[v] h k := by
  apply sha_Sum.call
  unfold sha_Sum
  refine New_ok fun h1 a hna u1 ha => ?_
  have hs1 := hs.ext u1
  have lv := hs1.len (t' := T_int) T_sl_string.und
  rw [List.length_map] at lv
  simp only [lv, popO_some, bindH_eq, condV_bool, condV_true, condV_false, yV_bool, gopV_tt, gopV_ff, gopV_tf, gopV_ft, pickV_t, pickV_f, pickV_bool, nilS_ptr, add_eq, sub_eq, mul_eq, lss_eq, leq_eq, gtr_eq, geq_eq, not_eq, minI_eq, maxI_eq, extract_0, extract_1, extract_2, eqlI, neqI, makeFunc_eq, decide_true, decide_false, if_true, if_false, Bool.false_eq_true, Bool.not_true, Bool.not_false, reduceIte, List.getElem?_toArray, List.getElem?_cons_zero, List.getElem?_cons_succ, Option.isSome_none, List.length_map]
  have hsm := hs.small
  rw [List.length_map] at hsm
  unfold maxL at hsm
  refine ⟨fun vs h' => ∃ i, i ≤ parts.length ∧ vs = [.pointer (some ⟨a, 0, none⟩), v, .int .i64 parts.length, .int .i64 (i : Int)] ∧ Ext h h' ∧ HAt h' a (absorb S0 (parts.take i).flatten).1 (absorb S0 (parts.take i).flatten).2 (parts.take i).flatten.length, upTo parts.length 3, ⟨0, by omega, rfl, u1, by simpa [absorb_lt (s := S0) (l := []) (by simp)] using ha⟩, ?_⟩
  rintro ρ h' ⟨i, hi, hvs, u, ha'⟩
  simp only [List.map_cons, List.map_nil, List.cons.injEq, and_true] at hvs
  obtain ⟨v3, v7, v8, v9⟩ := hvs
  simp only [v3, v7, v8, v9, List.map_cons, List.map_nil]
  unfold sha_Sum_b5
  have hfl : (parts.take i).flatten.length ≤ parts.flatten.length := by
    have : parts.flatten = (parts.take i).flatten ++ (parts.drop i).flatten := by rw [← List.flatten_append, List.take_append_drop]
    rw [this, List.length_append]; omega
  by_cases hlt : i < parts.length
  · have e1 : ((i : Int) < (parts.length : Int)) = True := eq_true (by omega)
    have e2 : IntKind.i64.wrap ((i : Int) + 1) = ((i + 1 : Nat) : Int) := by rw [i64_wrap (by omega) (by omega)]; omega
    have hr : (parts.map scell)[(i : Int).toNat]? = some (scell parts[i]) := by rw [Int.toNat_natCast, List.getElem?_map, List.getElem?_eq_getElem hlt]; rfl
    obtain ⟨pa, hpa, hload⟩ := (hs.ext u).loadCell (t := T_sl_string) (k := .i64) (j := (i : Int)) T_sl_string.und T_string.info T_string.size T_string.und rfl (by omega) hr
    have ht : (parts.take (i + 1)).flatten = (parts.take i).flatten ++ parts[i] := by
      rw [List.take_succ_eq_append_getElem hlt, List.flatten_append]; simp
    have hfl2 : (parts.take (i + 1)).flatten.length ≤ parts.flatten.length := by
      have : parts.flatten = (parts.take (i + 1)).flatten ++ (parts.drop (i + 1)).flatten := by rw [← List.flatten_append, List.take_append_drop]
      rw [this, List.length_append]; omega
    rw [ht, List.length_append] at hfl2
    have hrest := absorb_rest S0 (parts.take i).flatten
    simp only [e1, hpa, hload, popO_some, bindH_eq, condV_bool, condV_true, condV_false, yV_bool, gopV_tt, gopV_ff, gopV_tf, gopV_ft, pickV_t, pickV_f, pickV_bool, nilS_ptr, add_eq, sub_eq, mul_eq, lss_eq, leq_eq, gtr_eq, geq_eq, not_eq, minI_eq, maxI_eq, extract_0, extract_1, extract_2, eqlI, neqI, makeFunc_eq, decide_true, decide_false, if_true, if_false, Bool.false_eq_true, Bool.not_true, Bool.not_false, reduceIte, List.getElem?_toArray, List.getElem?_cons_zero, List.getElem?_cons_succ, Option.isSome_none, List.length_map]
    refine Write_ok (hK.ext u) ha' (by omega) (by omega) fun h2 u2 ha2 => ?_
    simp only [e2, popO_some, bindH_eq, condV_bool, condV_true, condV_false, yV_bool, gopV_tt, gopV_ff, gopV_tf, gopV_ft, pickV_t, pickV_f, pickV_bool, nilS_ptr, add_eq, sub_eq, mul_eq, lss_eq, leq_eq, gtr_eq, geq_eq, not_eq, minI_eq, maxI_eq, extract_0, extract_1, extract_2, eqlI, neqI, makeFunc_eq, decide_true, decide_false, if_true, if_false, Bool.false_eq_true, Bool.not_true, Bool.not_false, reduceIte, List.getElem?_toArray, List.getElem?_cons_zero, List.getElem?_cons_succ, Option.isSome_none, List.length_map]
    refine ⟨⟨i + 1, by omega, rfl, u.fresh u2 (Fresh.one hna), ?_⟩, ?_⟩
    · rw [ht, absorb_app, List.length_append]; exact ha2
    · simp only [upTo, List.getElem?_cons_succ, List.getElem?_cons_zero]
      omega
  · have e1 : ((i : Int) < (parts.length : Int)) = False := eq_false (by omega)
    have hi' : i = parts.length := by omega
    simp only [e1, popO_some, bindH_eq, condV_bool, condV_true, condV_false, yV_bool, gopV_tt, gopV_ff, gopV_tf, gopV_ft, pickV_t, pickV_f, pickV_bool, nilS_ptr, add_eq, sub_eq, mul_eq, lss_eq, leq_eq, gtr_eq, geq_eq, not_eq, minI_eq, maxI_eq, extract_0, extract_1, extract_2, eqlI, neqI, makeFunc_eq, decide_true, decide_false, if_true, if_false, Bool.false_eq_true, Bool.not_true, Bool.not_false, reduceIte, List.getElem?_toArray, List.getElem?_cons_zero, List.getElem?_cons_succ, Option.isSome_none, List.length_map]
    refine HashSum_ok (hK.ext u) ha' (absorb_rest _ _) (by omega) fun h2 u2 => ?_
    have := hk h2 (u.trans u2)
    unfold sha at this
    rw [absorb_app] at this
    rw [hi', List.take_length]
    exact this
end Go.Proofs.YtllopddcpkhfjaaDoor
