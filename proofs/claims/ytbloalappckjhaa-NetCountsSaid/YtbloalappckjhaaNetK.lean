/- net: the law NetCounts. -/
import Derived.Test.YtbloalappckjhaaNetP
import Derived.Test.YtbloalappckjhaaHMap
set_option linter.unusedSimpArgs false
set_option linter.unusedVariables false
namespace Go.Proofs.Ytbloalappckjhaa
open Go

def Msg.key (m : Msg) : Value := .agg m.cells.toArray
theorem Msg.keyed : Keyed PG T_api_Message Msg.key where
  chk := fun h b a => by unfold Msg.key Msg.cells; cases b <;> kernel_rfl
  eq := fun h a b => Msg.eqIn a b
  bits := fun a => by
    show Instr.sameBits (9999 + 1) (.agg a.cells.toArray) (.agg a.cells.toArray) = true
    simp [Instr.sameBits, Msg.cells, beq_bytes]
  now := ⟨_, T_api_Message.und, .inl fun a b => rfl⟩

structure Cnt (h0 h : PH) (n r : Nat) (l : List Msg) (M : List (Msg × Value)) (FN : List Nat) : Prop where
  ext : Ext h0 h
  fn : Fresh h0 FN
  fr : h0 r = none
  net : NetAt h n l FN
  map : MapAt Msg.key h r M
  dis : r ∉ FN
  known : ∀ m ∈ l, getM M m = some (.bool true)
theorem Cnt.step {h0 h h' : PH} {n r : Nat} {l : List Msg} {M : List (Msg × Value)} {FN : List Nat} (T : Cnt h0 h n r l M FN) (u : Ext h h') : Cnt h0 h' n r l M FN := ⟨T.ext.trans u, T.fn, T.fr, T.net.ext u, T.map.ext u, T.dis, T.known⟩
theorem Cnt.go {h0 h h' : PH} {n r : Nat} {l l' : List Msg} {M : List (Msg × Value)} {FN F' : List Nat} (T : Cnt h0 h n r l M FN) (N : NetAt h' n l' F') (u : Upd FN h h') (g : ∀ b ∈ F', b ∈ FN ∨ h b = none) (hs : ∀ m ∈ l', m ∈ l) : Cnt h0 h' n r l' M F' :=
  ⟨T.ext.fresh u T.fn, T.fn.grow T.ext g, T.fr, N, T.map.upd u T.dis, fun hm => by
    rcases g r hm with h1 | h1
    · exact T.dis h1
    · exact T.map.known h1, fun m hm => T.known m (hs m hm)⟩
theorem Msg.look {h : PH} {r : Nat} {M : List (Msg × Value)} (H : MapAt Msg.key h r M) (m : Msg) : SemE PG h (Instr.lookup T_map_api_Message_bool (.map (some r)) (.agg m.cells.toArray) false) = some ((getM M m).getD (.bool false)) :=
  look_found Msg.keyed T_map_api_Message_bool.und T_bool.info T_bool.zero H m false

set_option maxRecDepth 20000 in
theorem k66_ok {h0 h : PH} {n r : Nat} {l l0 : List Msg} {M : List (Msg × Value)} {FN : List Nat} (T : Cnt h0 h n r l M FN) (hl : l.length ≤ 256) {x v8 : Value} {i : Nat} (hi : i < maxL) (h8 : SlR h 8 v8 (l0.map Msg.cells)) {ok : Bool} (hok : ok = false → l = l0)
    {R : Value → PH → Prop} {n14 : List Value → PH → Prop} (hk : ∀ h', Ext h h' → n14 [x, .pointer (some ⟨n, 0, none⟩), .int .i64 l.length, .map (some r), .int .i64 (i + 1 : Nat)] h') :
    carracklaw20_NetCounts_k66 R n14 x (.pointer (some ⟨n, 0, none⟩)) (.int .i64 l.length) (.map (some r)) (.int .i64 i) v8 (.bool ok) h := by
  unfold carracklaw20_NetCounts_k66
  refine List_ok T.net hl fun v1 h1 F1 hO1 u1 k1 => ?_
  have T1 := T.step u1
  have e1 : ((l.length : Int) != (l.length : Int)) = false := by simp
  have e2 : ((256 : Int) < (l.length : Int)) = False := by apply eq_false; omega
  have loop : LoopL [0, 3, 4, 5, 6, 14, 15] (fun n109 ρ h => carracklaw20_NetCounts_b110 R n14 n109 (ρ 0) (ρ 3) (ρ 4) (ρ 5) (ρ 6) (ρ 14) (ρ 15) h) [x, .pointer (some ⟨n, 0, none⟩), .int .i64 l.length, .map (some r), .int .i64 i, v1, (Value.int IntKind.i64 0)] h1 := by
    refine ⟨fun vs h' => ∃ q : Nat, q ≤ l.length ∧ vs = [x, .pointer (some ⟨n, 0, none⟩), .int .i64 l.length, .map (some r), .int .i64 i, v1, .int .i64 q] ∧ h' = h1, upTo l.length 6, ⟨0, by simp, rfl, rfl⟩, ?_⟩
    rintro ρ h' ⟨q, hq, hvs, rfl⟩
    simp only [List.map_cons, List.map_nil, List.cons.injEq, and_true] at hvs
    obtain ⟨s0, s1, s2, s3, s4, s5, s6⟩ := hvs
    rw [s0, s1, s2, s3, s4, s5, s6]
    unfold carracklaw20_NetCounts_b110
    by_cases hc : q < l.length
    · have hd : ((q : Int) < (l.length : Int)) = True := by simp only [eq_iff_iff, iff_true]; omega
      obtain ⟨m, hm⟩ : ∃ m, l[q]? = some m := ⟨_, List.getElem?_eq_getElem hc⟩
      obtain ⟨p, p1, p2⟩ := hO1.slR.msg (k := .i64) (j := (q : Int)) (m := m) (by omega) (by simpa using hm)
      have e5 : IntKind.i64.wrap ((q : Int) + 1) = ((q + 1 : Nat) : Int) := by rw [i64_wrap (by omega) (by omega)]; omega
      simp only [hO1.slR.len T_sl_api_Message.und, hd, p1, p2, Msg.look T1.map, T1.known m (List.mem_of_getElem? hm), Option.getD_some, e5, popO_some, bindH_eq, condV_bool, condV_true, condV_false, yV_bool, gopV_tt, gopV_ff, gopV_tf, gopV_ft, pickV_t, pickV_f, pickV_bool, nilS_ptr, add_eq, sub_eq, mul_eq, lss_eq, leq_eq, gtr_eq, geq_eq, not_eq, minI_eq, maxI_eq, extract_0, extract_1, extract_2, eqlI, neqI, makeFunc_eq, decide_true, decide_false, if_true, if_false, Bool.false_eq_true, Bool.not_true, Bool.not_false, reduceIte, List.getElem?_toArray, List.getElem?_cons_zero, List.getElem?_cons_succ, Option.isSome_none, List.length_map]
      refine ⟨⟨q + 1, by omega, rfl, trivial⟩, by simp [upTo, s6]; omega⟩
    · have hd : ((q : Int) < (l.length : Int)) = False := by apply eq_false; omega
      simp only [hO1.slR.len T_sl_api_Message.und, hd, i64_any hi, popO_some, bindH_eq, condV_bool, condV_true, condV_false, yV_bool, gopV_tt, gopV_ff, gopV_tf, gopV_ft, pickV_t, pickV_f, pickV_bool, nilS_ptr, add_eq, sub_eq, mul_eq, lss_eq, leq_eq, gtr_eq, geq_eq, not_eq, minI_eq, maxI_eq, extract_0, extract_1, extract_2, eqlI, neqI, makeFunc_eq, decide_true, decide_false, if_true, if_false, Bool.false_eq_true, Bool.not_true, Bool.not_false, reduceIte, List.getElem?_toArray, List.getElem?_cons_zero, List.getElem?_cons_succ, Option.isSome_none, List.length_map]
      exact hk _ u1
  simp only [hO1.slR.len T_sl_api_Message.und, e1, e2, popO_some, bindH_eq, condV_bool, condV_true, condV_false, yV_bool, gopV_tt, gopV_ff, gopV_tf, gopV_ft, pickV_t, pickV_f, pickV_bool, nilS_ptr, add_eq, sub_eq, mul_eq, lss_eq, leq_eq, gtr_eq, geq_eq, not_eq, minI_eq, maxI_eq, extract_0, extract_1, extract_2, eqlI, neqI, makeFunc_eq, decide_true, decide_false, if_true, if_false, Bool.false_eq_true, Bool.not_true, Bool.not_false, reduceIte, List.getElem?_toArray, List.getElem?_cons_zero, List.getElem?_cons_succ, Option.isSome_none, List.length_map]
  cases ok with
  | true =>
    simp only [popO_some, bindH_eq, condV_bool, condV_true, condV_false, yV_bool, gopV_tt, gopV_ff, gopV_tf, gopV_ft, pickV_t, pickV_f, pickV_bool, nilS_ptr, add_eq, sub_eq, mul_eq, lss_eq, leq_eq, gtr_eq, geq_eq, not_eq, minI_eq, maxI_eq, extract_0, extract_1, extract_2, eqlI, neqI, makeFunc_eq, decide_true, decide_false, if_true, if_false, Bool.false_eq_true, Bool.not_true, Bool.not_false, reduceIte, List.getElem?_toArray, List.getElem?_cons_zero, List.getElem?_cons_succ, Option.isSome_none, List.length_map]
    exact loop
  | false =>
    simp only [popO_some, bindH_eq, condV_bool, condV_true, condV_false, yV_bool, gopV_tt, gopV_ff, gopV_tf, gopV_ft, pickV_t, pickV_f, pickV_bool, nilS_ptr, add_eq, sub_eq, mul_eq, lss_eq, leq_eq, gtr_eq, geq_eq, not_eq, minI_eq, maxI_eq, extract_0, extract_1, extract_2, eqlI, neqI, makeFunc_eq, decide_true, decide_false, if_true, if_false, Bool.false_eq_true, Bool.not_true, Bool.not_false, reduceIte, List.getElem?_toArray, List.getElem?_cons_zero, List.getElem?_cons_succ, Option.isSome_none, List.length_map]
    refine Same_yes hO1.slR (h8.ext u1) (hok rfl) ?_
    simp only [popO_some, bindH_eq, condV_bool, condV_true, condV_false, yV_bool, gopV_tt, gopV_ff, gopV_tf, gopV_ft, pickV_t, pickV_f, pickV_bool, nilS_ptr, add_eq, sub_eq, mul_eq, lss_eq, leq_eq, gtr_eq, geq_eq, not_eq, minI_eq, maxI_eq, extract_0, extract_1, extract_2, eqlI, neqI, makeFunc_eq, decide_true, decide_false, if_true, if_false, Bool.false_eq_true, Bool.not_true, Bool.not_false, reduceIte, List.getElem?_toArray, List.getElem?_cons_zero, List.getElem?_cons_succ, Option.isSome_none, List.length_map]
    exact loop

set_option maxRecDepth 20000 in
theorem NetCounts_ok {h : PH} {x : Value} {xs : List NAct} (hx : SlR h 4 x (xs.map NAct.cells)) (hA : NActs h xs) {k : Value → PH → Prop} (hk : ∀ h', Ext h h' → k (.bool true) h') :
    CallsH PG id_carracklaw20_NetCounts #[x] h k := by
  have hsm := hx.small
  simp only [List.length_map] at hsm
  apply carracklaw20_NetCounts.call
  unfold carracklaw20_NetCounts
  refine awake20_ok fun h1 u1 => ?_
  simp only [popO_some, bindH_eq, condV_bool, condV_true, condV_false, yV_bool, gopV_tt, gopV_ff, gopV_tf, gopV_ft, pickV_t, pickV_f, pickV_bool, nilS_ptr, add_eq, sub_eq, mul_eq, lss_eq, leq_eq, gtr_eq, geq_eq, not_eq, minI_eq, maxI_eq, extract_0, extract_1, extract_2, eqlI, neqI, makeFunc_eq, decide_true, decide_false, if_true, if_false, Bool.false_eq_true, Bool.not_true, Bool.not_false, reduceIte, List.getElem?_toArray, List.getElem?_cons_zero, List.getElem?_cons_succ, Option.isSome_none, List.length_map]
  refine few_ok (hx.ext u1) (hA.ext u1) fun b => ?_
  cases b with
  | false => simp only [popO_some, bindH_eq, condV_bool, condV_true, condV_false, yV_bool, gopV_tt, gopV_ff, gopV_tf, gopV_ft, pickV_t, pickV_f, pickV_bool, nilS_ptr, add_eq, sub_eq, mul_eq, lss_eq, leq_eq, gtr_eq, geq_eq, not_eq, minI_eq, maxI_eq, extract_0, extract_1, extract_2, eqlI, neqI, makeFunc_eq, decide_true, decide_false, if_true, if_false, Bool.false_eq_true, Bool.not_true, Bool.not_false, reduceIte, List.getElem?_toArray, List.getElem?_cons_zero, List.getElem?_cons_succ, Option.isSome_none, List.length_map]; exact hk _ u1
  | true =>
    simp only [popO_some, bindH_eq, condV_bool, condV_true, condV_false, yV_bool, gopV_tt, gopV_ff, gopV_tf, gopV_ft, pickV_t, pickV_f, pickV_bool, nilS_ptr, add_eq, sub_eq, mul_eq, lss_eq, leq_eq, gtr_eq, geq_eq, not_eq, minI_eq, maxI_eq, extract_0, extract_1, extract_2, eqlI, neqI, makeFunc_eq, decide_true, decide_false, if_true, if_false, Bool.false_eq_true, Bool.not_true, Bool.not_false, reduceIte, List.getElem?_toArray, List.getElem?_cons_zero, List.getElem?_cons_succ, Option.isSome_none, List.length_map]
    refine New_ok fun a h2 na hN2 u2 => ?_
    simp only [eqlPtrNil T_p_net_Net.und, Option.isNone_some, makeMap_eq, popO_some, bindH_eq, condV_bool, condV_true, condV_false, yV_bool, gopV_tt, gopV_ff, gopV_tf, gopV_ft, pickV_t, pickV_f, pickV_bool, nilS_ptr, add_eq, sub_eq, mul_eq, lss_eq, leq_eq, gtr_eq, geq_eq, not_eq, minI_eq, maxI_eq, extract_0, extract_1, extract_2, eqlI, neqI, makeFunc_eq, decide_true, decide_false, if_true, if_false, Bool.false_eq_true, Bool.not_true, Bool.not_false, reduceIte, List.getElem?_toArray, List.getElem?_cons_zero, List.getElem?_cons_succ, Option.isSome_none, List.length_map]
    intro r hr
    refine popO_pure ?_
    have u3 : Ext h2 (h2.set r (.map #[] 0)) := Upd.new hr
    have w2 := u1.trans u2
    have T0 : Cnt h (h2.set r (.map #[] 0)) a r [] [] [a] :=
      ⟨w2.trans u3, (Fresh.one na).of u1, w2.none hr, hN2.ext u3, MapAt.new, fun hb => by simp at hb; subst hb; exact hN2.known _ (by simp) hr, by simp⟩
    refine ⟨fun vs h' => ∃ i : Nat, i ≤ xs.length ∧ ∃ l M FN, vs = [x, .pointer (some ⟨a, 0, none⟩), .int .i64 l.length, .map (some r), .int .i64 i] ∧ l.length ≤ 256 ∧ Cnt h h' a r l M FN, upTo xs.length 4, ⟨0, by simp, [], _, _, rfl, by simp, T0⟩, ?_⟩
    rintro ρ h3 ⟨i, hi, l, M, FN, hvs, hl, T⟩
    simp only [List.map_cons, List.map_nil, List.cons.injEq, and_true] at hvs
    obtain ⟨e0, e1, e2, e3, e4⟩ := hvs
    rw [e0, e1, e2, e3, e4]
    unfold carracklaw20_NetCounts_b15
    by_cases hc : i < xs.length
    · have hd : ((i : Int) < (xs.length : Int)) = True := by simp only [eq_iff_iff, iff_true]; omega
      obtain ⟨m, hm⟩ : ∃ m, xs[i]? = some m := ⟨_, List.getElem?_eq_getElem hc⟩
      have hmem := List.mem_of_getElem? hm
      have hx3 := hx.ext T.ext
      obtain ⟨p, p1, p2⟩ := hx3.act (k := .i64) (j := (i : Int)) (m := m) (by omega) (by simpa using hm)
      simp only [hx3.len T_sl_carrackref20_Act.und, hd, p1, p2, popO_some, bindH_eq, condV_bool, condV_true, condV_false, yV_bool, gopV_tt, gopV_ff, gopV_tf, gopV_ft, pickV_t, pickV_f, pickV_bool, nilS_ptr, add_eq, sub_eq, mul_eq, lss_eq, leq_eq, gtr_eq, geq_eq, not_eq, minI_eq, maxI_eq, extract_0, extract_1, extract_2, eqlI, neqI, makeFunc_eq, decide_true, decide_false, if_true, if_false, Bool.false_eq_true, Bool.not_true, Bool.not_false, reduceIte, List.getElem?_toArray, List.getElem?_cons_zero, List.getElem?_cons_succ, Option.isSome_none, List.length_map]
      intro r4 hr4
      refine NAct.box m (NAct.isSlice hA hmem) set_same rfl ?_
      rw [set_set_same]
      have u4 : Ext h3 (h3.set r4 (.cells m.cells.toArray T_carrackref20_Act)) := Upd.new hr4
      have hb4' : (h3.set r4 (.cells m.cells.toArray T_carrackref20_Act)) r4 = some (.cells m.cells.toArray T_carrackref20_Act) := set_same
      generalize h3.set r4 (.cells m.cells.toArray T_carrackref20_Act) = h4' at u4 hb4'
      refine List_ok (T.step u4).net hl fun v5 h4 F5 hO5 u5 k5 => ?_
      have T4 := (T.step u4).step u5
      have hb4 := u5.get hb4'
      have hfin : ∀ {h' : PH} {l' : List Msg} {M' : List (Msg × Value)} {FN' : List Nat} {ok : Bool}, Cnt h h' a r l' M' FN' → l'.length ≤ 256 → (ok = false → l' = l) → OwnR h' T_api_Message 8 v5 (l.map Msg.cells) F5 → carracklaw20_NetCounts_k65 k (fun vs h' => (∃ i : Nat, i ≤ xs.length ∧ ∃ l M FN, vs = [x, .pointer (some ⟨a, 0, none⟩), .int .i64 l.length, .map (some r), .int .i64 i] ∧ l.length ≤ 256 ∧ Cnt h h' a r l M FN) ∧ upTo xs.length 4 vs h' < upTo xs.length 4 (List.map ρ [0, 3, 4, 5, 6]) h3) x (.pointer (some ⟨a, 0, none⟩)) (.int .i64 l'.length) (.map (some r)) (.int .i64 i) v5 (.bool ok) h' := by
        intro h' l' M' FN' ok T' hl' hok hO'
        refine k66_ok T' hl' (by omega) hO'.slR hok fun h'' u'' => ?_
        exact ⟨⟨i + 1, by omega, l', M', FN', rfl, hl', T'.step u''⟩, by simp [upTo, e4]; omega⟩
      have g0 : cellH h4 ⟨r4, 0, none⟩ = some (.int .i64 m.kind) := by simp [cellH, hb4, NAct.cells]
      have g1 : cellH h4 ⟨r4, 1, none⟩ = some (.int .i64 m.k) := by simp [cellH, hb4, NAct.cells]
      have g2 : cellH h4 ⟨r4, 2, none⟩ = some (.int .i64 m.dest) := by simp [cellH, hb4, NAct.cells]
      have g3 : cellH h4 ⟨r4, 3, none⟩ = some m.v := by simp [cellH, hb4, NAct.cells]
      have nr4 : r4 ∉ FN := fun hm' => T.net.known r4 hm' hr4
      have d5 : ∀ b ∈ F5, b ∉ FN := fun b hb hf => (T.step u4).net.known b hf (k5 b hb)
      simp only [T_carrackref20_Act.f0, T_carrackref20_Act.f1, T_carrackref20_Act.f2, T_carrackref20_Act.f3, T_int.load, T_sl_api_Message.load, g0, g1, g2, g3, Nat.zero_add, popO_some, bindH_eq, condV_bool, condV_true, condV_false, yV_bool, gopV_tt, gopV_ff, gopV_tf, gopV_ft, pickV_t, pickV_f, pickV_bool, nilS_ptr, add_eq, sub_eq, mul_eq, lss_eq, leq_eq, gtr_eq, geq_eq, not_eq, minI_eq, maxI_eq, extract_0, extract_1, extract_2, eqlI, neqI, makeFunc_eq, decide_true, decide_false, if_true, if_false, Bool.false_eq_true, Bool.not_true, Bool.not_false, reduceIte, List.getElem?_toArray, List.getElem?_cons_zero, List.getElem?_cons_succ, Option.isSome_none, List.length_map]
      by_cases c0 : (m.kind == 0) = true
      · simp only [c0, popO_some, bindH_eq, condV_bool, condV_true, condV_false, yV_bool, gopV_tt, gopV_ff, gopV_tf, gopV_ft, pickV_t, pickV_f, pickV_bool, nilS_ptr, add_eq, sub_eq, mul_eq, lss_eq, leq_eq, gtr_eq, geq_eq, not_eq, minI_eq, maxI_eq, extract_0, extract_1, extract_2, eqlI, neqI, makeFunc_eq, decide_true, decide_false, if_true, if_false, Bool.false_eq_true, Bool.not_true, Bool.not_false, reduceIte, List.getElem?_toArray, List.getElem?_cons_zero, List.getElem?_cons_succ, Option.isSome_none, List.length_map]
        have hxs := (hA m hmem).ext T4.ext
        refine Send_ok T4.net hxs hl fun h5 F6 hN6 u6 k6 => ?_
        have hK : m.l.take (256 - l.length) = m.l.take (min m.l.length (256 - l.length)) := by rw [List.take_eq_take_iff]; omega
        rw [hK] at hN6
        generalize hKe : min m.l.length (256 - l.length) = K at hN6
        have hK1 : K ≤ m.l.length := by omega
        have hK2 : l.length + K ≤ 256 := by omega
        have w5 := T4.ext.fresh u6 T4.fn
        have f6 := T4.fn.grow T4.ext k6
        have nr6 : r ∉ F6 := fun hm' => by
          rcases k6 r hm' with h1 | h1
          · exact T4.dis h1
          · exact T4.map.known h1
        have hr4r : r4 ≠ r := by rintro rfl; exact T.map.known hr4
        have hb5 := u6.get hb4 nr4
        have g5 : cellH h5 ⟨r4, 3, none⟩ = some m.v := by simp [cellH, hb5, NAct.cells]
        have a1 : ((K : Int) < 0) = False := by apply eq_false; omega
        have a2 : ((m.l.length : Int) < (K : Int)) = False := by apply eq_false; omega
        have a3 : IntKind.i64.wrap ((l.length : Int) + (K : Int)) = ((l.length + K : Nat) : Int) := by rw [i64_wrap (by omega) (by omega)]; omega
        simp only [a1, T_carrackref20_Act.f3, T_sl_api_Message.load, g5, Nat.zero_add, ((hA m hmem).ext w5).len T_sl_api_Message.und, a2, a3, popO_some, bindH_eq, condV_bool, condV_true, condV_false, yV_bool, gopV_tt, gopV_ff, gopV_tf, gopV_ft, pickV_t, pickV_f, pickV_bool, nilS_ptr, add_eq, sub_eq, mul_eq, lss_eq, leq_eq, gtr_eq, geq_eq, not_eq, minI_eq, maxI_eq, extract_0, extract_1, extract_2, eqlI, neqI, makeFunc_eq, decide_true, decide_false, if_true, if_false, Bool.false_eq_true, Bool.not_true, Bool.not_false, reduceIte, List.getElem?_toArray, List.getElem?_cons_zero, List.getElem?_cons_succ, Option.isSome_none, List.length_map]
        refine ⟨fun vs h' => ∃ q : Nat, q ≤ K ∧ vs = [x, .pointer (some ⟨a, 0, none⟩), .int .i64 (l.length + K : Nat), .map (some r), .int .i64 i, .pointer (some ⟨r4, 0, none⟩), v5, .bool true, .int .i64 K, .int .i64 q] ∧ Upd [r] h5 h' ∧ ∃ M', MapAt Msg.key h' r M' ∧ (∀ z ∈ l, getM M' z = some (.bool true)) ∧ (∀ z ∈ m.l.take q, getM M' z = some (.bool true)), upTo K 9, ⟨0, by simp, rfl, Upd.refl, M, T4.map.upd u6 T4.dis, T4.known, by simp⟩, ?_⟩
        rintro σ h6 ⟨q, hq, hws, u7, M7, hM7, hk1, hk2⟩
        simp only [List.map_cons, List.map_nil, List.cons.injEq, and_true] at hws
        obtain ⟨s0, s1, s2, s3, s4, s5, s6, s7, s8, s9⟩ := hws
        rw [s0, s1, s2, s3, s4, s5, s6, s7, s8, s9]
        unfold carracklaw20_NetCounts_b56
        have w6 : Ext h h6 := w5.fresh u7 (Fresh.one T.fr)
        by_cases hcq : q < K
        · have hdq : ((q : Int) < (K : Int)) = True := by simp only [eq_iff_iff, iff_true]; omega
          obtain ⟨y, hy⟩ : ∃ y, m.l[q]? = some y := ⟨_, List.getElem?_eq_getElem (by omega)⟩
          obtain ⟨p, q1, q2⟩ := ((hA m hmem).ext w6).msg (k := .i64) (j := (q : Int)) (m := y) (by omega) (by simpa using hy)
          have hb6 := u7.get hb5 (by simpa using hr4r)
          have g6 : cellH h6 ⟨r4, 3, none⟩ = some m.v := by simp [cellH, hb6, NAct.cells]
          have a4 : IntKind.i64.wrap ((q : Int) + 1) = ((q + 1 : Nat) : Int) := by rw [i64_wrap (by omega) (by omega)]; omega
          simp only [hdq, T_carrackref20_Act.f3, T_sl_api_Message.load, g6, Nat.zero_add, q1, q2, a4, popO_some, bindH_eq, condV_bool, condV_true, condV_false, yV_bool, gopV_tt, gopV_ff, gopV_tf, gopV_ft, pickV_t, pickV_f, pickV_bool, nilS_ptr, add_eq, sub_eq, mul_eq, lss_eq, leq_eq, gtr_eq, geq_eq, not_eq, minI_eq, maxI_eq, extract_0, extract_1, extract_2, eqlI, neqI, makeFunc_eq, decide_true, decide_false, if_true, if_false, Bool.false_eq_true, Bool.not_true, Bool.not_false, reduceIte, List.getElem?_toArray, List.getElem?_cons_zero, List.getElem?_cons_succ, Option.isSome_none, List.length_map]
          refine map_put (enc := Msg.key) Msg.keyed T_map_api_Message_bool.und hM7 y (.bool true) fun h7 hM8 u8 => ?_
          refine ⟨⟨q + 1, by omega, rfl, u7.trans u8, _, hM8, fun z hz => ?_, fun z hz => ?_⟩, by simp [upTo, s9]; omega⟩
          · rw [getM_put]
            split
            · rfl
            · exact hk1 z hz
          · rw [getM_put]
            split
            · rfl
            · rename_i hne
              rw [List.take_add_one, hy, List.mem_append] at hz
              rcases hz with h | h
              · exact hk2 z h
              · simp at h; exact absurd h hne
        · have hdq : ((q : Int) < (K : Int)) = False := by apply eq_false; omega
          have hqK : q = K := by omega
          subst hqK
          simp only [hdq, popO_some, bindH_eq, condV_bool, condV_true, condV_false, yV_bool, gopV_tt, gopV_ff, gopV_tf, gopV_ft, pickV_t, pickV_f, pickV_bool, nilS_ptr, add_eq, sub_eq, mul_eq, lss_eq, leq_eq, gtr_eq, geq_eq, not_eq, minI_eq, maxI_eq, extract_0, extract_1, extract_2, eqlI, neqI, makeFunc_eq, decide_true, decide_false, if_true, if_false, Bool.false_eq_true, Bool.not_true, Bool.not_false, reduceIte, List.getElem?_toArray, List.getElem?_cons_zero, List.getElem?_cons_succ, Option.isSome_none, List.length_map]
          have T6 : Cnt h h6 a r (l ++ m.l.take q) M7 F6 := ⟨w6, f6, T.fr, hN6.upd u7 (fun b hb hf => by simp at hf; subst hf; exact nr6 hb), hM7, nr6, fun z hz => by
            rcases List.mem_append.1 hz with h | h
            · exact hk1 z h
            · exact hk2 z h⟩
          have hlen : (l ++ m.l.take q).length = l.length + q := by simp; omega
          have := hfin (ok := true) T6 (by omega) (by simp) ((hO5.upd u6 d5).upd u7 (fun b hb hf => by simp at hf; subst hf; exact (T.step u4).map.known (k5 _ hb)))
          rwa [hlen] at this
      have c0' : (m.kind == 0) = false := by simpa using c0
      simp only [c0', popO_some, bindH_eq, condV_bool, condV_true, condV_false, yV_bool, gopV_tt, gopV_ff, gopV_tf, gopV_ft, pickV_t, pickV_f, pickV_bool, nilS_ptr, add_eq, sub_eq, mul_eq, lss_eq, leq_eq, gtr_eq, geq_eq, not_eq, minI_eq, maxI_eq, extract_0, extract_1, extract_2, eqlI, neqI, makeFunc_eq, decide_true, decide_false, if_true, if_false, Bool.false_eq_true, Bool.not_true, Bool.not_false, reduceIte, List.getElem?_toArray, List.getElem?_cons_zero, List.getElem?_cons_succ, Option.isSome_none, List.length_map]
      by_cases c1 : (m.kind == 1) = true
      · simp only [c1, popO_some, bindH_eq, condV_bool, condV_true, condV_false, yV_bool, gopV_tt, gopV_ff, gopV_tf, gopV_ft, pickV_t, pickV_f, pickV_bool, nilS_ptr, add_eq, sub_eq, mul_eq, lss_eq, leq_eq, gtr_eq, geq_eq, not_eq, minI_eq, maxI_eq, extract_0, extract_1, extract_2, eqlI, neqI, makeFunc_eq, decide_true, decide_false, if_true, if_false, Bool.false_eq_true, Bool.not_true, Bool.not_false, reduceIte, List.getElem?_toArray, List.getElem?_cons_zero, List.getElem?_cons_succ, Option.isSome_none, List.length_map]
        by_cases hj : 0 ≤ m.k ∧ m.k < l.length
        · obtain ⟨j, hj'⟩ := Int.eq_ofNat_of_zero_le hj.1
          rw [hj'] at hj ⊢
          obtain ⟨y, hy⟩ : ∃ y, l[j]? = some y := ⟨_, List.getElem?_eq_getElem (by omega)⟩
          refine Take_yes T4.net hl hy fun h5 F6 hN6 u6 k6 => ?_
          have T5 := T4.go hN6 u6 k6 (fun m hm => List.mem_of_mem_eraseIdx hm)
          simp only [popO_some, bindH_eq, condV_bool, condV_true, condV_false, yV_bool, gopV_tt, gopV_ff, gopV_tf, gopV_ft, pickV_t, pickV_f, pickV_bool, nilS_ptr, add_eq, sub_eq, mul_eq, lss_eq, leq_eq, gtr_eq, geq_eq, not_eq, minI_eq, maxI_eq, extract_0, extract_1, extract_2, eqlI, neqI, makeFunc_eq, decide_true, decide_false, if_true, if_false, Bool.false_eq_true, Bool.not_true, Bool.not_false, reduceIte, List.getElem?_toArray, List.getElem?_cons_zero, List.getElem?_cons_succ, Option.isSome_none, List.length_map]
          intro r6 hr6
          refine Msg.box y set_same rfl ?_
          rw [set_set_same]
          have u7 : Ext h5 (h5.set r6 (.cells y.cells.toArray T_api_Message)) := Upd.new hr6
          have hb6 : (h5.set r6 (.cells y.cells.toArray T_api_Message)) r6 = some (.cells y.cells.toArray T_api_Message) := set_same
          generalize h5.set r6 (.cells y.cells.toArray T_api_Message) = h6 at u7 hb6
          have T6 := T5.step u7
          have ee : ((0 : Int) == 0) = true := rfl
          have ew : IntKind.i64.wrap ((l.length : Int) - 1) = ((l.eraseIdx j).length : Int) := by rw [List.length_eraseIdx_of_lt (by omega), i64_wrap (by omega) (by omega)]; omega
          simp only [ee, ew, Msg.unbox y hb6, Msg.look T6.map, T4.known y (List.mem_of_getElem? hy), Option.getD_some, popO_some, bindH_eq, condV_bool, condV_true, condV_false, yV_bool, gopV_tt, gopV_ff, gopV_tf, gopV_ft, pickV_t, pickV_f, pickV_bool, nilS_ptr, add_eq, sub_eq, mul_eq, lss_eq, leq_eq, gtr_eq, geq_eq, not_eq, minI_eq, maxI_eq, extract_0, extract_1, extract_2, eqlI, neqI, makeFunc_eq, decide_true, decide_false, if_true, if_false, Bool.false_eq_true, Bool.not_true, Bool.not_false, reduceIte, List.getElem?_toArray, List.getElem?_cons_zero, List.getElem?_cons_succ, Option.isSome_none, List.length_map]
          exact hfin T6 (by rw [List.length_eraseIdx_of_lt (by omega)]; omega) (by simp) ((hO5.upd u6 d5).ext u7)
        · refine Take_no T4.net m.k hj fun h5 u6 => ?_
          simp only [popO_some, bindH_eq, condV_bool, condV_true, condV_false, yV_bool, gopV_tt, gopV_ff, gopV_tf, gopV_ft, pickV_t, pickV_f, pickV_bool, nilS_ptr, add_eq, sub_eq, mul_eq, lss_eq, leq_eq, gtr_eq, geq_eq, not_eq, minI_eq, maxI_eq, extract_0, extract_1, extract_2, eqlI, neqI, makeFunc_eq, decide_true, decide_false, if_true, if_false, Bool.false_eq_true, Bool.not_true, Bool.not_false, reduceIte, List.getElem?_toArray, List.getElem?_cons_zero, List.getElem?_cons_succ, Option.isSome_none, List.length_map]
          intro r6 hr6
          refine Msg.box Msg.zero set_same rfl ?_
          rw [set_set_same]
          have u7 : Ext h5 (h5.set r6 (.cells Msg.zero.cells.toArray T_api_Message)) := Upd.new hr6
          have ee : ((3 : Int) == 0) = false := rfl
          simp only [ee, popO_some, bindH_eq, condV_bool, condV_true, condV_false, yV_bool, gopV_tt, gopV_ff, gopV_tf, gopV_ft, pickV_t, pickV_f, pickV_bool, nilS_ptr, add_eq, sub_eq, mul_eq, lss_eq, leq_eq, gtr_eq, geq_eq, not_eq, minI_eq, maxI_eq, extract_0, extract_1, extract_2, eqlI, neqI, makeFunc_eq, decide_true, decide_false, if_true, if_false, Bool.false_eq_true, Bool.not_true, Bool.not_false, reduceIte, List.getElem?_toArray, List.getElem?_cons_zero, List.getElem?_cons_succ, Option.isSome_none, List.length_map]
          exact hfin ((T4.step u6).step u7) hl (fun _ => rfl) ((hO5.ext u6).ext u7)
      have c1' : (m.kind == 1) = false := by simpa using c1
      simp only [c1', popO_some, bindH_eq, condV_bool, condV_true, condV_false, yV_bool, gopV_tt, gopV_ff, gopV_tf, gopV_ft, pickV_t, pickV_f, pickV_bool, nilS_ptr, add_eq, sub_eq, mul_eq, lss_eq, leq_eq, gtr_eq, geq_eq, not_eq, minI_eq, maxI_eq, extract_0, extract_1, extract_2, eqlI, neqI, makeFunc_eq, decide_true, decide_false, if_true, if_false, Bool.false_eq_true, Bool.not_true, Bool.not_false, reduceIte, List.getElem?_toArray, List.getElem?_cons_zero, List.getElem?_cons_succ, Option.isSome_none, List.length_map]
      by_cases c2 : (m.kind == 2) = true
      · simp only [c2, popO_some, bindH_eq, condV_bool, condV_true, condV_false, yV_bool, gopV_tt, gopV_ff, gopV_tf, gopV_ft, pickV_t, pickV_f, pickV_bool, nilS_ptr, add_eq, sub_eq, mul_eq, lss_eq, leq_eq, gtr_eq, geq_eq, not_eq, minI_eq, maxI_eq, extract_0, extract_1, extract_2, eqlI, neqI, makeFunc_eq, decide_true, decide_false, if_true, if_false, Bool.false_eq_true, Bool.not_true, Bool.not_false, reduceIte, List.getElem?_toArray, List.getElem?_cons_zero, List.getElem?_cons_succ, Option.isSome_none, List.length_map]
        by_cases hj : 0 ≤ m.k ∧ m.k < l.length
        · obtain ⟨j, hj'⟩ := Int.eq_ofNat_of_zero_le hj.1
          rw [hj'] at hj ⊢
          obtain ⟨y, hy⟩ : ∃ y, l[j]? = some y := ⟨_, List.getElem?_eq_getElem (by omega)⟩
          refine Twice_yes T4.net hl hy fun h5 F6 hN6 u6 k6 => ?_
          by_cases h256 : l.length = 256
          · rw [if_pos h256] at hN6 ⊢
            have T5 := T4.go hN6 u6 k6 (fun m hm => hm)
            have ee : ((2 : Int) == 0) = false := rfl
            simp only [ee, popO_some, bindH_eq, condV_bool, condV_true, condV_false, yV_bool, gopV_tt, gopV_ff, gopV_tf, gopV_ft, pickV_t, pickV_f, pickV_bool, nilS_ptr, add_eq, sub_eq, mul_eq, lss_eq, leq_eq, gtr_eq, geq_eq, not_eq, minI_eq, maxI_eq, extract_0, extract_1, extract_2, eqlI, neqI, makeFunc_eq, decide_true, decide_false, if_true, if_false, Bool.false_eq_true, Bool.not_true, Bool.not_false, reduceIte, List.getElem?_toArray, List.getElem?_cons_zero, List.getElem?_cons_succ, Option.isSome_none, List.length_map]
            exact hfin T5 hl (fun _ => rfl) (hO5.upd u6 d5)
          · rw [if_neg h256] at hN6 ⊢
            have T5 := T4.go hN6 u6 k6 (fun m hm => by
              rcases List.mem_append.1 hm with h | h
              · exact h
              · simp at h; subst h; exact List.mem_of_getElem? hy)
            have ee : ((0 : Int) == 0) = true := rfl
            have ew : IntKind.i64.wrap ((l.length : Int) + 1) = ((l ++ [y]).length : Int) := by rw [i64_wrap (by omega) (by omega)]; simp
            simp only [ee, ew, popO_some, bindH_eq, condV_bool, condV_true, condV_false, yV_bool, gopV_tt, gopV_ff, gopV_tf, gopV_ft, pickV_t, pickV_f, pickV_bool, nilS_ptr, add_eq, sub_eq, mul_eq, lss_eq, leq_eq, gtr_eq, geq_eq, not_eq, minI_eq, maxI_eq, extract_0, extract_1, extract_2, eqlI, neqI, makeFunc_eq, decide_true, decide_false, if_true, if_false, Bool.false_eq_true, Bool.not_true, Bool.not_false, reduceIte, List.getElem?_toArray, List.getElem?_cons_zero, List.getElem?_cons_succ, Option.isSome_none, List.length_map]
            exact hfin T5 (by simp; omega) (by simp) (hO5.upd u6 d5)
        · refine Twice_no T4.net m.k hj ?_
          have ee : ((3 : Int) == 0) = false := rfl
          simp only [ee, popO_some, bindH_eq, condV_bool, condV_true, condV_false, yV_bool, gopV_tt, gopV_ff, gopV_tf, gopV_ft, pickV_t, pickV_f, pickV_bool, nilS_ptr, add_eq, sub_eq, mul_eq, lss_eq, leq_eq, gtr_eq, geq_eq, not_eq, minI_eq, maxI_eq, extract_0, extract_1, extract_2, eqlI, neqI, makeFunc_eq, decide_true, decide_false, if_true, if_false, Bool.false_eq_true, Bool.not_true, Bool.not_false, reduceIte, List.getElem?_toArray, List.getElem?_cons_zero, List.getElem?_cons_succ, Option.isSome_none, List.length_map]
          exact hfin T4 hl (fun _ => rfl) hO5
      have c2' : (m.kind == 2) = false := by simpa using c2
      simp only [c2', popO_some, bindH_eq, condV_bool, condV_true, condV_false, yV_bool, gopV_tt, gopV_ff, gopV_tf, gopV_ft, pickV_t, pickV_f, pickV_bool, nilS_ptr, add_eq, sub_eq, mul_eq, lss_eq, leq_eq, gtr_eq, geq_eq, not_eq, minI_eq, maxI_eq, extract_0, extract_1, extract_2, eqlI, neqI, makeFunc_eq, decide_true, decide_false, if_true, if_false, Bool.false_eq_true, Bool.not_true, Bool.not_false, reduceIte, List.getElem?_toArray, List.getElem?_cons_zero, List.getElem?_cons_succ, Option.isSome_none, List.length_map]
      by_cases hj : (0 ≤ m.k ∧ m.k < l.length) ∧ (0 ≤ m.dest ∧ m.dest < l.length)
      · obtain ⟨j, hj'⟩ := Int.eq_ofNat_of_zero_le hj.1.1
        obtain ⟨t, ht'⟩ := Int.eq_ofNat_of_zero_le hj.2.1
        rw [hj', ht'] at hj
        rw [hj', ht']
        obtain ⟨y, hy⟩ : ∃ y, l[j]? = some y := ⟨_, List.getElem?_eq_getElem (by omega)⟩
        refine Move_yes T4.net hl hy (by omega) fun h5 hN6 u6 => ?_
        have T5 := T4.go hN6 u6 (fun b hb => .inl hb) (fun q hq => by
          obtain ⟨z, hz⟩ := List.getElem?_of_mem hq
          rw [mv_get l y (by omega) (by omega)] at hz
          split at hz
          · cases hz; exact List.mem_of_getElem? hy
          · split at hz
            · exact List.mem_of_getElem? hz
            · split at hz <;> exact List.mem_of_getElem? hz)
        have ee : ((0 : Int) == 0) = true := rfl
        have hlen := mv_len l y (j := j) (t := t) (by omega) (by omega)
        simp only [ee, popO_some, bindH_eq, condV_bool, condV_true, condV_false, yV_bool, gopV_tt, gopV_ff, gopV_tf, gopV_ft, pickV_t, pickV_f, pickV_bool, nilS_ptr, add_eq, sub_eq, mul_eq, lss_eq, leq_eq, gtr_eq, geq_eq, not_eq, minI_eq, maxI_eq, extract_0, extract_1, extract_2, eqlI, neqI, makeFunc_eq, decide_true, decide_false, if_true, if_false, Bool.false_eq_true, Bool.not_true, Bool.not_false, reduceIte, List.getElem?_toArray, List.getElem?_cons_zero, List.getElem?_cons_succ, Option.isSome_none, List.length_map]
        have := hfin (ok := true) T5 (by omega) (by simp) (hO5.upd u6 d5)
        rwa [hlen] at this
      · refine Move_no T4.net m.k m.dest hj ?_
        have ee : ((3 : Int) == 0) = false := rfl
        simp only [ee, popO_some, bindH_eq, condV_bool, condV_true, condV_false, yV_bool, gopV_tt, gopV_ff, gopV_tf, gopV_ft, pickV_t, pickV_f, pickV_bool, nilS_ptr, add_eq, sub_eq, mul_eq, lss_eq, leq_eq, gtr_eq, geq_eq, not_eq, minI_eq, maxI_eq, extract_0, extract_1, extract_2, eqlI, neqI, makeFunc_eq, decide_true, decide_false, if_true, if_false, Bool.false_eq_true, Bool.not_true, Bool.not_false, reduceIte, List.getElem?_toArray, List.getElem?_cons_zero, List.getElem?_cons_succ, Option.isSome_none, List.length_map]
        exact hfin T4 hl (fun _ => rfl) hO5
    · have hd : ((i : Int) < (xs.length : Int)) = False := by apply eq_false; omega
      simp only [(hx.ext T.ext).len T_sl_carrackref20_Act.und, hd, popO_some, bindH_eq, condV_bool, condV_true, condV_false, yV_bool, gopV_tt, gopV_ff, gopV_tf, gopV_ft, pickV_t, pickV_f, pickV_bool, nilS_ptr, add_eq, sub_eq, mul_eq, lss_eq, leq_eq, gtr_eq, geq_eq, not_eq, minI_eq, maxI_eq, extract_0, extract_1, extract_2, eqlI, neqI, makeFunc_eq, decide_true, decide_false, if_true, if_false, Bool.false_eq_true, Bool.not_true, Bool.not_false, reduceIte, List.getElem?_toArray, List.getElem?_cons_zero, List.getElem?_cons_succ, Option.isSome_none, List.length_map]
      exact hk _ T.ext
end Go.Proofs.Ytbloalappckjhaa
