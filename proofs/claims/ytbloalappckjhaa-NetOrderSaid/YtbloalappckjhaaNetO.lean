/- net: the law NetOrder. -/
import Derived.Test.YtbloalappckjhaaNetM
set_option linter.unusedSimpArgs false
set_option linter.unusedVariables false
namespace Go.Proofs.Ytbloalappckjhaa
open Go

theorem k126_ok {h0 h : PH} {a : Nat} {x : Value} {xs : List Msg} {F : List Nat} (hx : SlR h0 8 x (xs.map Msg.cells)) (w : Ext h0 h) (f : Fresh h0 F) (hN : NetAt h a (xs.take 256) F) {k : Value → PH → Prop} (hk : ∀ h', Ext h0 h' → k (.bool true) h') :
    carracklaw20_NetOrder_k126 k x (.pointer (some ⟨a, 0, none⟩)) (.int .i64 (xs.take 256).length) h := by
  unfold carracklaw20_NetOrder_k126
  have hl : (xs.take 256).length ≤ 256 := by simp; omega
  have hlx : (xs.take 256).length ≤ xs.length := by simp; omega
  refine ⟨fun vs h' => ∃ i : Nat, i ≤ (xs.take 256).length ∧ vs = [x, .pointer (some ⟨a, 0, none⟩), .int .i64 (xs.take 256).length, .int .i64 i] ∧ Ext h0 h' ∧ ∃ F', Fresh h0 F' ∧ NetAt h' a ((xs.take 256).drop i) F', upTo (xs.take 256).length 3, ⟨0, by simp, rfl, w, F, f, by simpa using hN⟩, ?_⟩
  rintro ρ h' ⟨i, hi, hvs, wi, Fi, fi, hNi⟩
  simp only [List.map_cons, List.map_nil, List.cons.injEq, and_true] at hvs
  obtain ⟨e0, e1, e2, e3⟩ := hvs
  rw [e0, e1, e2, e3]
  unfold carracklaw20_NetOrder_b128
  by_cases hc : i < (xs.take 256).length
  · have hd : ((i : Int) < ((xs.take 256).length : Int)) = True := by simp only [eq_iff_iff, iff_true]; omega
    simp only [hd, popO_some, bindH_eq, condV_bool, condV_true, condV_false, yV_bool, gopV_tt, gopV_ff, gopV_tf, gopV_ft, pickV_t, pickV_f, pickV_bool, nilS_ptr, add_eq, sub_eq, mul_eq, lss_eq, leq_eq, gtr_eq, geq_eq, not_eq, minI_eq, maxI_eq, extract_0, extract_1, extract_2, eqlI, neqI, makeFunc_eq, decide_true, decide_false, if_true, if_false, Bool.false_eq_true, Bool.not_true, Bool.not_false, reduceIte, List.getElem?_toArray, List.getElem?_cons_zero, List.getElem?_cons_succ, Option.isSome_none, List.length_map]
    obtain ⟨m, hm⟩ : ∃ m, (xs.take 256)[i]? = some m := ⟨_, List.getElem?_eq_getElem hc⟩
    refine Take_yes hNi (by simp; omega) (j := 0) (m := m) (by rw [List.getElem?_drop]; simpa using hm) fun h1 F1 hN1 u1 k1 => ?_
    have w1 := wi.fresh u1 fi
    have f1 := fi.grow wi k1
    simp only [popO_some, bindH_eq, condV_bool, condV_true, condV_false, yV_bool, gopV_tt, gopV_ff, gopV_tf, gopV_ft, pickV_t, pickV_f, pickV_bool, nilS_ptr, add_eq, sub_eq, mul_eq, lss_eq, leq_eq, gtr_eq, geq_eq, not_eq, minI_eq, maxI_eq, extract_0, extract_1, extract_2, eqlI, neqI, makeFunc_eq, decide_true, decide_false, if_true, if_false, Bool.false_eq_true, Bool.not_true, Bool.not_false, reduceIte, List.getElem?_toArray, List.getElem?_cons_zero, List.getElem?_cons_succ, Option.isSome_none, List.length_map]
    intro r hr
    refine Msg.box m set_same rfl ?_
    rw [set_set_same]
    have u2 : Ext h1 _ := Upd.new (o := .cells m.cells.toArray T_api_Message) hr
    have w2 := w1.trans u2
    have hmx : xs[i]? = some m := by rw [List.getElem?_take] at hm; split at hm; exact hm; cases hm
    obtain ⟨q, q1, q2⟩ := (hx.ext w2).msg (k := .i64) (j := (i : Int)) (m := m) (by omega) (by simpa using hmx)
    have e4 : ((0 : Int) != 0) = false := rfl
    have e5 : IntKind.i64.wrap ((i : Int) + 1) = ((i + 1 : Nat) : Int) := by rw [i64_wrap (by omega) (by omega)]; omega
    simp only [Msg.unbox m set_same, q1, q2, Msg.neq, e4, e5, popO_some, bindH_eq, condV_bool, condV_true, condV_false, yV_bool, gopV_tt, gopV_ff, gopV_tf, gopV_ft, pickV_t, pickV_f, pickV_bool, nilS_ptr, add_eq, sub_eq, mul_eq, lss_eq, leq_eq, gtr_eq, geq_eq, not_eq, minI_eq, maxI_eq, extract_0, extract_1, extract_2, eqlI, neqI, makeFunc_eq, decide_true, decide_false, if_true, if_false, Bool.false_eq_true, Bool.not_true, Bool.not_false, reduceIte, List.getElem?_toArray, List.getElem?_cons_zero, List.getElem?_cons_succ, Option.isSome_none, List.length_map]
    have e6 : ((xs.take 256).drop i).eraseIdx 0 = (xs.take 256).drop (i + 1) := by rw [List.eraseIdx_zero, List.tail_drop]
    rw [e6] at hN1
    refine ⟨⟨i + 1, by omega, rfl, w2, F1, f1, hN1.ext u2⟩, ?_⟩
    simp [upTo, e3]
    omega
  · have hd : ((i : Int) < ((xs.take 256).length : Int)) = False := by apply eq_false; omega
    simp only [hd, popO_some, bindH_eq, condV_bool, condV_true, condV_false, yV_bool, gopV_tt, gopV_ff, gopV_tf, gopV_ft, pickV_t, pickV_f, pickV_bool, nilS_ptr, add_eq, sub_eq, mul_eq, lss_eq, leq_eq, gtr_eq, geq_eq, not_eq, minI_eq, maxI_eq, extract_0, extract_1, extract_2, eqlI, neqI, makeFunc_eq, decide_true, decide_false, if_true, if_false, Bool.false_eq_true, Bool.not_true, Bool.not_false, reduceIte, List.getElem?_toArray, List.getElem?_cons_zero, List.getElem?_cons_succ, Option.isSome_none, List.length_map]
    have e7 : (xs.take 256).drop i = [] := List.drop_of_length_le (by omega)
    rw [e7] at hNi
    refine Take_no hNi 0 (by simp) fun h1 u1 => ?_
    simp only [popO_some, bindH_eq, condV_bool, condV_true, condV_false, yV_bool, gopV_tt, gopV_ff, gopV_tf, gopV_ft, pickV_t, pickV_f, pickV_bool, nilS_ptr, add_eq, sub_eq, mul_eq, lss_eq, leq_eq, gtr_eq, geq_eq, not_eq, minI_eq, maxI_eq, extract_0, extract_1, extract_2, eqlI, neqI, makeFunc_eq, decide_true, decide_false, if_true, if_false, Bool.false_eq_true, Bool.not_true, Bool.not_false, reduceIte, List.getElem?_toArray, List.getElem?_cons_zero, List.getElem?_cons_succ, Option.isSome_none, List.length_map]
    intro r hr
    refine Msg.box Msg.zero set_same rfl ?_
    rw [set_set_same]
    have u2 : Ext h1 _ := Upd.new (o := .cells Msg.zero.cells.toArray T_api_Message) hr
    have e4 : ((3 : Int) == 3) = true := rfl
    simp only [e4, popO_some, bindH_eq, condV_bool, condV_true, condV_false, yV_bool, gopV_tt, gopV_ff, gopV_tf, gopV_ft, pickV_t, pickV_f, pickV_bool, nilS_ptr, add_eq, sub_eq, mul_eq, lss_eq, leq_eq, gtr_eq, geq_eq, not_eq, minI_eq, maxI_eq, extract_0, extract_1, extract_2, eqlI, neqI, makeFunc_eq, decide_true, decide_false, if_true, if_false, Bool.false_eq_true, Bool.not_true, Bool.not_false, reduceIte, List.getElem?_toArray, List.getElem?_cons_zero, List.getElem?_cons_succ, Option.isSome_none, List.length_map]
    refine Len_ok ((hNi.ext u1).ext u2) ?_
    have e5 : ((([] : List Msg).length : Int) == 0) = true := rfl
    simp only [e5, popO_some, bindH_eq, condV_bool, condV_true, condV_false, yV_bool, gopV_tt, gopV_ff, gopV_tf, gopV_ft, pickV_t, pickV_f, pickV_bool, nilS_ptr, add_eq, sub_eq, mul_eq, lss_eq, leq_eq, gtr_eq, geq_eq, not_eq, minI_eq, maxI_eq, extract_0, extract_1, extract_2, eqlI, neqI, makeFunc_eq, decide_true, decide_false, if_true, if_false, Bool.false_eq_true, Bool.not_true, Bool.not_false, reduceIte, List.getElem?_toArray, List.getElem?_cons_zero, List.getElem?_cons_succ, Option.isSome_none, List.length_map]
    exact hk _ ((wi.trans u1).trans u2)

theorem mv_back (l : List Msg) {m : Msg} {j t : Nat} (hm : l[j]? = some m) (ht : t < l.length) : mv (mv l j t m) t j m = l := by
  have hj : j < l.length := (List.getElem?_eq_some_iff.1 hm).1
  have hlen := mv_len l m hj ht
  apply List.ext_getElem?; intro i
  rw [mv_get _ m (by omega) (by omega)]
  simp only [mv_get l m hj ht]
  by_cases hij : i = j
  · subst hij; rw [if_pos rfl, hm]
  rw [if_neg hij]
  repeat' split
  all_goals first | omega | rfl | (congr 1; omega)

theorem NetOrder_ok {h : PH} {x : Value} {xs : List Msg} (hx : SlR h 8 x (xs.map Msg.cells)) (j t : Int) {k : Value → PH → Prop} (hk : ∀ h', Ext h h' → k (.bool true) h') :
    CallsH PG id_carracklaw20_NetOrder #[x, .int .i64 j, .int .i64 t] h k := by
  apply carracklaw20_NetOrder.call
  unfold carracklaw20_NetOrder
  refine awake20_ok fun h1 u1 => ?_
  simp only [hx.len T_sl_api_Message.und, popO_some, bindH_eq, condV_bool, condV_true, condV_false, yV_bool, gopV_tt, gopV_ff, gopV_tf, gopV_ft, pickV_t, pickV_f, pickV_bool, nilS_ptr, add_eq, sub_eq, mul_eq, lss_eq, leq_eq, gtr_eq, geq_eq, not_eq, minI_eq, maxI_eq, extract_0, extract_1, extract_2, eqlI, neqI, makeFunc_eq, decide_true, decide_false, if_true, if_false, Bool.false_eq_true, Bool.not_true, Bool.not_false, reduceIte, List.getElem?_toArray, List.getElem?_cons_zero, List.getElem?_cons_succ, Option.isSome_none, List.length_map]
  by_cases hc : (400 : Int) < xs.length
  · simp only [hc, popO_some, bindH_eq, condV_bool, condV_true, condV_false, yV_bool, gopV_tt, gopV_ff, gopV_tf, gopV_ft, pickV_t, pickV_f, pickV_bool, nilS_ptr, add_eq, sub_eq, mul_eq, lss_eq, leq_eq, gtr_eq, geq_eq, not_eq, minI_eq, maxI_eq, extract_0, extract_1, extract_2, eqlI, neqI, makeFunc_eq, decide_true, decide_false, if_true, if_false, Bool.false_eq_true, Bool.not_true, Bool.not_false, reduceIte, List.getElem?_toArray, List.getElem?_cons_zero, List.getElem?_cons_succ, Option.isSome_none, List.length_map]
    exact hk _ u1
  simp only [hc, popO_some, bindH_eq, condV_bool, condV_true, condV_false, yV_bool, gopV_tt, gopV_ff, gopV_tf, gopV_ft, pickV_t, pickV_f, pickV_bool, nilS_ptr, add_eq, sub_eq, mul_eq, lss_eq, leq_eq, gtr_eq, geq_eq, not_eq, minI_eq, maxI_eq, extract_0, extract_1, extract_2, eqlI, neqI, makeFunc_eq, decide_true, decide_false, if_true, if_false, Bool.false_eq_true, Bool.not_true, Bool.not_false, reduceIte, List.getElem?_toArray, List.getElem?_cons_zero, List.getElem?_cons_succ, Option.isSome_none, List.length_map]
  refine New_ok fun a h2 na hN2 u2 => ?_
  simp only [eqlPtrNil T_p_net_Net.und, Option.isNone_some, popO_some, bindH_eq, condV_bool, condV_true, condV_false, yV_bool, gopV_tt, gopV_ff, gopV_tf, gopV_ft, pickV_t, pickV_f, pickV_bool, nilS_ptr, add_eq, sub_eq, mul_eq, lss_eq, leq_eq, gtr_eq, geq_eq, not_eq, minI_eq, maxI_eq, extract_0, extract_1, extract_2, eqlI, neqI, makeFunc_eq, decide_true, decide_false, if_true, if_false, Bool.false_eq_true, Bool.not_true, Bool.not_false, reduceIte, List.getElem?_toArray, List.getElem?_cons_zero, List.getElem?_cons_succ, Option.isSome_none, List.length_map]
  refine Send_ok hN2 ((hx.ext u1).ext u2) (by simp) fun h3 F3 hN3 u3 k3 => ?_
  have el : ([] : List Msg) ++ xs.take (256 - ([] : List Msg).length) = xs.take 256 := by simp
  rw [el] at hN3
  have hl : (xs.take 256).length ≤ 256 := by simp; omega
  have hlm : (xs.take 256).length = min xs.length 256 := by simp; omega
  have es : ((min xs.length (256 - ([] : List Msg).length) : Nat) : Int) = ((xs.take 256).length : Int) := by simp; omega
  rw [es]
  have w2 := u1.trans u2
  have f2 : Fresh h [a] := (Fresh.one na).of u1
  have w3 := w2.fresh u3 f2
  have f3 := f2.grow w2 k3
  have em : (if (256 : Int) < (xs.length : Int) then (256 : Int) else (xs.length : Int)) = ((xs.take 256).length : Int) := by rw [hlm]; split <;> omega
  have e1 : (((xs.take 256).length : Int) != ((xs.take 256).length : Int)) = false := by simp
  simp only [em, e1, popO_some, bindH_eq, condV_bool, condV_true, condV_false, yV_bool, gopV_tt, gopV_ff, gopV_tf, gopV_ft, pickV_t, pickV_f, pickV_bool, nilS_ptr, add_eq, sub_eq, mul_eq, lss_eq, leq_eq, gtr_eq, geq_eq, not_eq, minI_eq, maxI_eq, extract_0, extract_1, extract_2, eqlI, neqI, makeFunc_eq, decide_true, decide_false, if_true, if_false, Bool.false_eq_true, Bool.not_true, Bool.not_false, reduceIte, List.getElem?_toArray, List.getElem?_cons_zero, List.getElem?_cons_succ, Option.isSome_none, List.length_map]
  refine Len_ok hN3 ?_
  simp only [e1, hx.len T_sl_api_Message.und, popO_some, bindH_eq, condV_bool, condV_true, condV_false, yV_bool, gopV_tt, gopV_ff, gopV_tf, gopV_ft, pickV_t, pickV_f, pickV_bool, nilS_ptr, add_eq, sub_eq, mul_eq, lss_eq, leq_eq, gtr_eq, geq_eq, not_eq, minI_eq, maxI_eq, extract_0, extract_1, extract_2, eqlI, neqI, makeFunc_eq, decide_true, decide_false, if_true, if_false, Bool.false_eq_true, Bool.not_true, Bool.not_false, reduceIte, List.getElem?_toArray, List.getElem?_cons_zero, List.getElem?_cons_succ, Option.isSome_none, List.length_map]
  have ef : IntKind.i64.wrap 0 = 0 := rfl
  by_cases hlt : ((xs.take 256).length : Int) < (xs.length : Int)
  case' pos =>
    simp only [hlt, popO_some, bindH_eq, condV_bool, condV_true, condV_false, yV_bool, gopV_tt, gopV_ff, gopV_tf, gopV_ft, pickV_t, pickV_f, pickV_bool, nilS_ptr, add_eq, sub_eq, mul_eq, lss_eq, leq_eq, gtr_eq, geq_eq, not_eq, minI_eq, maxI_eq, extract_0, extract_1, extract_2, eqlI, neqI, makeFunc_eq, decide_true, decide_false, if_true, if_false, Bool.false_eq_true, Bool.not_true, Bool.not_false, reduceIte, List.getElem?_toArray, List.getElem?_cons_zero, List.getElem?_cons_succ, Option.isSome_none, List.length_map]
    refine Send_ok hN3 (hx.ext w3) hl fun h4 F4 hN4 u4 k4 => ?_
    have w4 := w3.fresh u4 f3
    have f4 := f3.grow w3 k4
    have e2 : (xs.take 256).length = 256 := by omega
    have e3 : ((min xs.length (256 - (xs.take 256).length) : Nat) : Int) = 0 := by omega
    have e4 : xs.take 256 ++ xs.take (256 - (xs.take 256).length) = xs.take 256 := by rw [e2]; simp
    have e5 : ((0 : Int) != 0) = false := rfl
    rw [e4] at hN4
    rw [e3]
    simp only [e5, popO_some, bindH_eq, condV_bool, condV_true, condV_false, yV_bool, gopV_tt, gopV_ff, gopV_tf, gopV_ft, pickV_t, pickV_f, pickV_bool, nilS_ptr, add_eq, sub_eq, mul_eq, lss_eq, leq_eq, gtr_eq, geq_eq, not_eq, minI_eq, maxI_eq, extract_0, extract_1, extract_2, eqlI, neqI, makeFunc_eq, decide_true, decide_false, if_true, if_false, Bool.false_eq_true, Bool.not_true, Bool.not_false, reduceIte, List.getElem?_toArray, List.getElem?_cons_zero, List.getElem?_cons_succ, Option.isSome_none, List.length_map]
  case' neg =>
    have w4 := w3
    have f4 := f3
    have hN4 := hN3
    simp only [hlt, popO_some, bindH_eq, condV_bool, condV_true, condV_false, yV_bool, gopV_tt, gopV_ff, gopV_tf, gopV_ft, pickV_t, pickV_f, pickV_bool, nilS_ptr, add_eq, sub_eq, mul_eq, lss_eq, leq_eq, gtr_eq, geq_eq, not_eq, minI_eq, maxI_eq, extract_0, extract_1, extract_2, eqlI, neqI, makeFunc_eq, decide_true, decide_false, if_true, if_false, Bool.false_eq_true, Bool.not_true, Bool.not_false, reduceIte, List.getElem?_toArray, List.getElem?_cons_zero, List.getElem?_cons_succ, Option.isSome_none, List.length_map]
  all_goals
    by_cases hj : (0 ≤ j ∧ j < (xs.take 256).length) ∧ (0 ≤ t ∧ t < (xs.take 256).length)
    · obtain ⟨n, rfl⟩ := Int.eq_ofNat_of_zero_le hj.1.1
      obtain ⟨o, rfl⟩ := Int.eq_ofNat_of_zero_le hj.2.1
      have hn : n < (xs.take 256).length := by omega
      have ho : o < (xs.take 256).length := by omega
      obtain ⟨m, hm⟩ : ∃ m, (xs.take 256)[n]? = some m := ⟨_, List.getElem?_eq_getElem hn⟩
      have hmx : xs[n]? = some m := by rw [List.getElem?_take] at hm; split at hm; exact hm; cases hm
      refine Move_yes hN4 hl hm ho fun h5 hN5 u5 => ?_
      have w5 := w4.fresh u5 f4
      have hlen := mv_len (xs.take 256) m hn ho
      have b1 : ((0 : Int) == 0) = true := rfl
      have b2 : ((0 : Int) != 0) = false := rfl
      simp only [b1, popO_some, bindH_eq, condV_bool, condV_true, condV_false, yV_bool, gopV_tt, gopV_ff, gopV_tf, gopV_ft, pickV_t, pickV_f, pickV_bool, nilS_ptr, add_eq, sub_eq, mul_eq, lss_eq, leq_eq, gtr_eq, geq_eq, not_eq, minI_eq, maxI_eq, extract_0, extract_1, extract_2, eqlI, neqI, makeFunc_eq, decide_true, decide_false, if_true, if_false, Bool.false_eq_true, Bool.not_true, Bool.not_false, reduceIte, List.getElem?_toArray, List.getElem?_cons_zero, List.getElem?_cons_succ, Option.isSome_none, List.length_map]
      refine List_ok hN5 (by omega) fun v6 h6 F6 hO6 u6 k6 => ?_
      have w6 := w5.trans u6
      obtain ⟨p, p1, p2⟩ := hO6.slR.msg (k := .i64) (j := (o : Int)) (m := m) (by omega) (by simpa using mv_at (xs.take 256) m hn ho)
      obtain ⟨q, q1, q2⟩ := (hx.ext w6).msg (k := .i64) (j := (n : Int)) (m := m) (by omega) (by simpa using hmx)
      simp only [hO6.slR.len T_sl_api_Message.und, hlen, e1, p1, p2, q1, q2, Msg.neq, popO_some, bindH_eq, condV_bool, condV_true, condV_false, yV_bool, gopV_tt, gopV_ff, gopV_tf, gopV_ft, pickV_t, pickV_f, pickV_bool, nilS_ptr, add_eq, sub_eq, mul_eq, lss_eq, leq_eq, gtr_eq, geq_eq, not_eq, minI_eq, maxI_eq, extract_0, extract_1, extract_2, eqlI, neqI, makeFunc_eq, decide_true, decide_false, if_true, if_false, Bool.false_eq_true, Bool.not_true, Bool.not_false, reduceIte, List.getElem?_toArray, List.getElem?_cons_zero, List.getElem?_cons_succ, Option.isSome_none, List.length_map]
      refine Move_yes (j := o) (t := n) (m := m) (hN5.ext u6) (by omega) (mv_at (xs.take 256) m hn ho) (by omega) fun h7 hN7 u7 => ?_
      have w7 := w6.fresh u7 f4
      rw [mv_back (xs.take 256) hm ho] at hN7
      simp only [b2, popO_some, bindH_eq, condV_bool, condV_true, condV_false, yV_bool, gopV_tt, gopV_ff, gopV_tf, gopV_ft, pickV_t, pickV_f, pickV_bool, nilS_ptr, add_eq, sub_eq, mul_eq, lss_eq, leq_eq, gtr_eq, geq_eq, not_eq, minI_eq, maxI_eq, extract_0, extract_1, extract_2, eqlI, neqI, makeFunc_eq, decide_true, decide_false, if_true, if_false, Bool.false_eq_true, Bool.not_true, Bool.not_false, reduceIte, List.getElem?_toArray, List.getElem?_cons_zero, List.getElem?_cons_succ, Option.isSome_none, List.length_map]
      exact k126_ok hx w7 f4 hN7 hk
    · refine Move_no hN4 j t hj ?_
      have b1 : ((3 : Int) == 0) = false := rfl
      simp only [b1, popO_some, bindH_eq, condV_bool, condV_true, condV_false, yV_bool, gopV_tt, gopV_ff, gopV_tf, gopV_ft, pickV_t, pickV_f, pickV_bool, nilS_ptr, add_eq, sub_eq, mul_eq, lss_eq, leq_eq, gtr_eq, geq_eq, not_eq, minI_eq, maxI_eq, extract_0, extract_1, extract_2, eqlI, neqI, makeFunc_eq, decide_true, decide_false, if_true, if_false, Bool.false_eq_true, Bool.not_true, Bool.not_false, reduceIte, List.getElem?_toArray, List.getElem?_cons_zero, List.getElem?_cons_succ, Option.isSome_none, List.length_map]
      by_cases c1 : 0 ≤ j
      · by_cases c2 : j < ((xs.take 256).length : Int)
        · by_cases c3 : 0 ≤ t
          · have c4 : ¬ t < ((xs.take 256).length : Int) := fun h => hj ⟨⟨c1, c2⟩, c3, h⟩
            simp only [c1, c2, c3, c4, popO_some, bindH_eq, condV_bool, condV_true, condV_false, yV_bool, gopV_tt, gopV_ff, gopV_tf, gopV_ft, pickV_t, pickV_f, pickV_bool, nilS_ptr, add_eq, sub_eq, mul_eq, lss_eq, leq_eq, gtr_eq, geq_eq, not_eq, minI_eq, maxI_eq, extract_0, extract_1, extract_2, eqlI, neqI, makeFunc_eq, decide_true, decide_false, if_true, if_false, Bool.false_eq_true, Bool.not_true, Bool.not_false, reduceIte, List.getElem?_toArray, List.getElem?_cons_zero, List.getElem?_cons_succ, Option.isSome_none, List.length_map]
            exact k126_ok hx w4 f4 hN4 hk
          · simp only [c1, c2, c3, popO_some, bindH_eq, condV_bool, condV_true, condV_false, yV_bool, gopV_tt, gopV_ff, gopV_tf, gopV_ft, pickV_t, pickV_f, pickV_bool, nilS_ptr, add_eq, sub_eq, mul_eq, lss_eq, leq_eq, gtr_eq, geq_eq, not_eq, minI_eq, maxI_eq, extract_0, extract_1, extract_2, eqlI, neqI, makeFunc_eq, decide_true, decide_false, if_true, if_false, Bool.false_eq_true, Bool.not_true, Bool.not_false, reduceIte, List.getElem?_toArray, List.getElem?_cons_zero, List.getElem?_cons_succ, Option.isSome_none, List.length_map]
            exact k126_ok hx w4 f4 hN4 hk
        · simp only [c1, c2, popO_some, bindH_eq, condV_bool, condV_true, condV_false, yV_bool, gopV_tt, gopV_ff, gopV_tf, gopV_ft, pickV_t, pickV_f, pickV_bool, nilS_ptr, add_eq, sub_eq, mul_eq, lss_eq, leq_eq, gtr_eq, geq_eq, not_eq, minI_eq, maxI_eq, extract_0, extract_1, extract_2, eqlI, neqI, makeFunc_eq, decide_true, decide_false, if_true, if_false, Bool.false_eq_true, Bool.not_true, Bool.not_false, reduceIte, List.getElem?_toArray, List.getElem?_cons_zero, List.getElem?_cons_succ, Option.isSome_none, List.length_map]
          exact k126_ok hx w4 f4 hN4 hk
      · simp only [c1, popO_some, bindH_eq, condV_bool, condV_true, condV_false, yV_bool, gopV_tt, gopV_ff, gopV_tf, gopV_ft, pickV_t, pickV_f, pickV_bool, nilS_ptr, add_eq, sub_eq, mul_eq, lss_eq, leq_eq, gtr_eq, geq_eq, not_eq, minI_eq, maxI_eq, extract_0, extract_1, extract_2, eqlI, neqI, makeFunc_eq, decide_true, decide_false, if_true, if_false, Bool.false_eq_true, Bool.not_true, Bool.not_false, reduceIte, List.getElem?_toArray, List.getElem?_cons_zero, List.getElem?_cons_succ, Option.isSome_none, List.length_map]
        exact k126_ok hx w4 f4 hN4 hk
end Go.Proofs.Ytbloalappckjhaa
