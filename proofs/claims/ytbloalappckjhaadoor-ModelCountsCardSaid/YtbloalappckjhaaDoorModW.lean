/- model: the law ModelCounts. -/
import Derived.Test.YtbloalappckjhaaDoorModV
set_option linter.unusedSimpArgs false
set_option linter.unusedVariables false
namespace Go.Proofs.YtbloalappckjhaaDoor
open Go
def inr (l : List Ent) : Nat := (l.filter fun e => stt e.state).length
theorem inr_take {l : List Ent} {i : Nat} {m : Ent} (hm : l[i]? = some m) : inr (l.take (i + 1)) = inr (l.take i) + if stt m.state = true then 1 else 0 := by
  unfold inr
  rw [List.take_add_one, hm, List.filter_append, List.length_append]
  by_cases h : stt m.state = true <;> simp [h]
theorem inr_le (l : List Ent) : inr l ≤ l.length := List.length_filter_le ..
theorem cntL_cons (e : Ent) (l : List Ent) (s : Int) : cntL (e :: l) s = (if e.state = s then 1 else 0) + cntL l s := by
  unfold cntL
  by_cases h : e.state = s
  · simp [h]; omega
  · simp [h]
theorem inr_sum (l : List Ent) : cntL l 0 + cntL l 1 + cntL l 2 + cntL l 3 + cntL l 4 = inr l := by
  induction l with
  | nil => rfl
  | cons e l ih =>
    have hc : inr (e :: l) = (if stt e.state = true then 1 else 0) + inr l := by
      unfold inr
      by_cases h : stt e.state = true
      · simp [h]; omega
      · simp [h]
    rw [cntL_cons, cntL_cons, cntL_cons, cntL_cons, cntL_cons, hc, ← ih]
    by_cases hs : 0 ≤ e.state ∧ e.state ≤ 4
    · have : e.state = 0 ∨ e.state = 1 ∨ e.state = 2 ∨ e.state = 3 ∨ e.state = 4 := by omega
      have h1 : stt e.state = true := by unfold stt; simp; omega
      rw [if_pos h1]
      rcases this with h | h | h | h | h <;> (rw [h]; simp; omega)
    · have h1 : stt e.state = false := by unfold stt; simp; omega
      rw [if_neg (by omega), if_neg (by omega), if_neg (by omega), if_neg (by omega), if_neg (by omega), h1]
      simp
theorem open_cnt (l : List Ent) : (openL l).length = cntL l 1 + cntL l 2 := by
  induction l with
  | nil => rfl
  | cons e l ih =>
    have : (openL (e :: l)).length = (if openE e = true then 1 else 0) + (openL l).length := by
      unfold openL
      by_cases h : openE e = true
      · simp [h]; omega
      · simp [h]
    rw [this, cntL_cons, cntL_cons, ih]
    unfold openE
    by_cases h1 : e.state = 1
    · rw [h1]; simp; omega
    · by_cases h2 : e.state = 2
      · rw [h2]; simp; omega
      · simp [h1, h2]
def sumC (l : List Ent) : Nat → Nat
  | 0 => 0
  | i + 1 => sumC l i + cntL l (i : Int)
theorem sumC_five (l : List Ent) : sumC l 5 = inr l := by
  rw [← inr_sum]
  simp [sumC]
theorem sumC_le {l : List Ent} {i : Nat} (hi : i ≤ 5) : sumC l i ≤ inr l := by
  rw [← sumC_five]
  have : i = 0 ∨ i = 1 ∨ i = 2 ∨ i = 3 ∨ i = 4 ∨ i = 5 := by omega
  rcases this with rfl | rfl | rfl | rfl | rfl | rfl <;> simp only [sumC] <;> omega
theorem stepL_nil (now : List Ent) : stepL [] now = true := rfl
set_option maxRecDepth 20000 in
theorem ModelCounts_ok {h : PH} (hF : Fol h) {x y : Value} {was now : List Ent} (hx : SlR h 5 x (was.map Ent.cells)) (hy : SlR h 5 y (now.map Ent.cells)) {k : Value → PH → Prop}
    (hk : ∀ h', Ext h h' → k (.bool true) h') : CallsH PG id_carracklaw22_ModelCounts #[x, y] h k := by
  have lx := hx.len (t' := T_int) T_sl_carrackref22_Entry.und
  have ly := hy.len (t' := T_int) T_sl_carrackref22_Entry.und
  rw [List.length_map] at lx ly
  apply carracklaw22_ModelCounts.call
  unfold carracklaw22_ModelCounts
  refine awake22_ok hF fun h1 u1 => ?_
  simp only [lx, popO_some, bindH_eq, condV_bool, condV_true, condV_false, yV_bool, gopV_tt, gopV_ff, gopV_tf, gopV_ft, pickV_t, pickV_f, pickV_bool, nilS_ptr, add_eq, sub_eq, mul_eq, lss_eq, leq_eq, gtr_eq, geq_eq, not_eq, minI_eq, maxI_eq, extract_0, extract_1, extract_2, eqlI, neqI, makeFunc_eq, decide_true, decide_false, if_true, if_false, Bool.false_eq_true, Bool.not_true, Bool.not_false, reduceIte, List.getElem?_toArray, List.getElem?_cons_zero, List.getElem?_cons_succ, Option.isSome_none, List.length_map]
  by_cases c1 : (60 : Int) < was.length
  · simp only [c1, popO_some, bindH_eq, condV_bool, condV_true, condV_false, yV_bool, gopV_tt, gopV_ff, gopV_tf, gopV_ft, pickV_t, pickV_f, pickV_bool, nilS_ptr, add_eq, sub_eq, mul_eq, lss_eq, leq_eq, gtr_eq, geq_eq, not_eq, minI_eq, maxI_eq, extract_0, extract_1, extract_2, eqlI, neqI, makeFunc_eq, decide_true, decide_false, if_true, if_false, Bool.false_eq_true, Bool.not_true, Bool.not_false, reduceIte, List.getElem?_toArray, List.getElem?_cons_zero, List.getElem?_cons_succ, Option.isSome_none, List.length_map]
    exact hk _ u1
  by_cases c2 : (60 : Int) < now.length
  · simp only [c1, ly, c2, popO_some, bindH_eq, condV_bool, condV_true, condV_false, yV_bool, gopV_tt, gopV_ff, gopV_tf, gopV_ft, pickV_t, pickV_f, pickV_bool, nilS_ptr, add_eq, sub_eq, mul_eq, lss_eq, leq_eq, gtr_eq, geq_eq, not_eq, minI_eq, maxI_eq, extract_0, extract_1, extract_2, eqlI, neqI, makeFunc_eq, decide_true, decide_false, if_true, if_false, Bool.false_eq_true, Bool.not_true, Bool.not_false, reduceIte, List.getElem?_toArray, List.getElem?_cons_zero, List.getElem?_cons_succ, Option.isSome_none, List.length_map]
    exact hk _ u1
  simp only [c1, ly, c2, popO_some, bindH_eq, condV_bool, condV_true, condV_false, yV_bool, gopV_tt, gopV_ff, gopV_tf, gopV_ft, pickV_t, pickV_f, pickV_bool, nilS_ptr, add_eq, sub_eq, mul_eq, lss_eq, leq_eq, gtr_eq, geq_eq, not_eq, minI_eq, maxI_eq, extract_0, extract_1, extract_2, eqlI, neqI, makeFunc_eq, decide_true, decide_false, if_true, if_false, Bool.false_eq_true, Bool.not_true, Bool.not_false, reduceIte, List.getElem?_toArray, List.getElem?_cons_zero, List.getElem?_cons_succ, Option.isSome_none, List.length_map]
  refine turned_ok (hx.ext u1) (by omega) fun v2 h2 F2 hO2 u2 f2 => ?_
  have w2 := u1.trans u2
  refine turned_ok (hy.ext w2) (by omega) fun v3 h3 F3 hO3 u3 f3 => ?_
  have w3 := w2.trans u3
  have s2 := hO2.slR.ext u3
  have s3 := hO3.slR
  clear hO2 hO3
  refine Count_ok s2 (by omega) fun h4 u4 => ?_
  intro r hr
  refine five_box was hr fun h5 B u5 => ?_
  have w5 := (w3.trans u4).trans u5
  have s2 := (s2.ext u4).ext u5
  have s3 := (s3.ext u4).ext u5
  have hF5 := hF.ext w5
  have hk5 : ∀ h', Ext h5 h' → k (.bool true) h' := fun h' u => hk _ (w5.trans u)
  have hx5 := hx.ext w5
  clear hk u1 u2 u3 u4 u5 w2 w3 w5 hr f2 f3 hF hx hy
  have l2 := s2.len (t' := T_int) T_sl_model_Entry.und
  rw [List.length_map] at l2
  refine ⟨fun vs h' => ∃ i : Nat, i ≤ was.length ∧ vs = [x, v2, v3, .pointer (some ⟨r, 0, none⟩), .int .i64 (inr (was.take i)), .int .i64 i] ∧ h' = h5, upTo was.length 5, ⟨0, by omega, rfl, rfl⟩, ?_⟩
  rintro ρ h' ⟨i, hi, hvs, rfl⟩
  simp only [List.map_cons, List.map_nil, List.cons.injEq, and_true] at hvs
  obtain ⟨g0, g1, g2, g3, g4, g5⟩ := hvs
  rw [g0, g1, g2, g3, g4, g5]
  unfold carracklaw22_ModelCounts_b29
  by_cases hlt : i < was.length
  · have hd : ((i : Int) < (was.length : Int)) = True := by apply eq_true; omega
    obtain ⟨m, hm⟩ : ∃ m, was[i]? = some m := ⟨_, List.getElem?_eq_getElem hlt⟩
    obtain ⟨b', o, a1, a2, a3⟩ := hx5.rent (k := .i64) hm
    have ei : IntKind.i64.wrap ((i : Int) + 1) = ((i + 1 : Nat) : Int) := by rw [i64_wrap (by omega) (by omega)]; omega
    have hle := inr_le (was.take i)
    rw [List.length_take] at hle
    have en : IntKind.i64.wrap ((inr (was.take i) : Int) + 1) = ((inr (was.take i) + 1 : Nat) : Int) := by rw [i64_wrap (by omega) (by omega)]; omega
    have ht := inr_take hm
    have no : stt m.state = false → carracklaw22_ModelCounts_k60 k (fun vs h'_1 => (∃ i, i ≤ was.length ∧ vs = [x, v2, v3, Value.pointer (some ⟨r, 0, none⟩), Value.int IntKind.i64 ↑(inr (was.take i)), Value.int IntKind.i64 ↑i] ∧ h'_1 = h') ∧ upTo was.length 5 vs h'_1 < upTo was.length 5 (List.map ρ [0, 5, 6, 7, 8, 9]) h') x v2 v3 (.pointer (some ⟨r, 0, none⟩)) (.int .i64 (inr (was.take i))) (.int .i64 i) h' := by
      intro hs
      unfold carracklaw22_ModelCounts_k60 carracklaw22_ModelCounts_k61
      simp only [ei, popO_some, bindH_eq, condV_bool, condV_true, condV_false, yV_bool, gopV_tt, gopV_ff, gopV_tf, gopV_ft, pickV_t, pickV_f, pickV_bool, nilS_ptr, add_eq, sub_eq, mul_eq, lss_eq, leq_eq, gtr_eq, geq_eq, not_eq, minI_eq, maxI_eq, extract_0, extract_1, extract_2, eqlI, neqI, makeFunc_eq, decide_true, decide_false, if_true, if_false, Bool.false_eq_true, Bool.not_true, Bool.not_false, reduceIte, List.getElem?_toArray, List.getElem?_cons_zero, List.getElem?_cons_succ, Option.isSome_none, List.length_map]
      rw [hs] at ht
      simp only [Bool.false_eq_true, if_false, Nat.add_zero] at ht
      exact ⟨⟨i + 1, by omega, by rw [ht], by trivial⟩, by simp [upTo, g5]; omega⟩
    by_cases hs0 : 0 ≤ m.state
    · by_cases hs4 : m.state ≤ 4
      · have hs : stt m.state = true := by unfold stt; simp; omega
        rw [hs] at ht
        simp only [if_true] at ht
        simp only [lx, hd, a1, T_carrackref22_Entry.f1, T_int.load, a3, hs0, hs4, en, popO_some, bindH_eq, condV_bool, condV_true, condV_false, yV_bool, gopV_tt, gopV_ff, gopV_tf, gopV_ft, pickV_t, pickV_f, pickV_bool, nilS_ptr, add_eq, sub_eq, mul_eq, lss_eq, leq_eq, gtr_eq, geq_eq, not_eq, minI_eq, maxI_eq, extract_0, extract_1, extract_2, eqlI, neqI, makeFunc_eq, decide_true, decide_false, if_true, if_false, Bool.false_eq_true, Bool.not_true, Bool.not_false, reduceIte, List.getElem?_toArray, List.getElem?_cons_zero, List.getElem?_cons_succ, Option.isSome_none, List.length_map]
        unfold carracklaw22_ModelCounts_k60 carracklaw22_ModelCounts_k61
        simp only [ei, popO_some, bindH_eq, condV_bool, condV_true, condV_false, yV_bool, gopV_tt, gopV_ff, gopV_tf, gopV_ft, pickV_t, pickV_f, pickV_bool, nilS_ptr, add_eq, sub_eq, mul_eq, lss_eq, leq_eq, gtr_eq, geq_eq, not_eq, minI_eq, maxI_eq, extract_0, extract_1, extract_2, eqlI, neqI, makeFunc_eq, decide_true, decide_false, if_true, if_false, Bool.false_eq_true, Bool.not_true, Bool.not_false, reduceIte, List.getElem?_toArray, List.getElem?_cons_zero, List.getElem?_cons_succ, Option.isSome_none, List.length_map]
        exact ⟨⟨i + 1, by omega, by rw [ht], by trivial⟩, by simp [upTo, g5]; omega⟩
      · simp only [lx, hd, a1, T_carrackref22_Entry.f1, T_int.load, a3, hs0, hs4, popO_some, bindH_eq, condV_bool, condV_true, condV_false, yV_bool, gopV_tt, gopV_ff, gopV_tf, gopV_ft, pickV_t, pickV_f, pickV_bool, nilS_ptr, add_eq, sub_eq, mul_eq, lss_eq, leq_eq, gtr_eq, geq_eq, not_eq, minI_eq, maxI_eq, extract_0, extract_1, extract_2, eqlI, neqI, makeFunc_eq, decide_true, decide_false, if_true, if_false, Bool.false_eq_true, Bool.not_true, Bool.not_false, reduceIte, List.getElem?_toArray, List.getElem?_cons_zero, List.getElem?_cons_succ, Option.isSome_none, List.length_map]
        exact no (by unfold stt; simp; omega)
    · simp only [lx, hd, a1, T_carrackref22_Entry.f1, T_int.load, a3, hs0, popO_some, bindH_eq, condV_bool, condV_true, condV_false, yV_bool, gopV_tt, gopV_ff, gopV_tf, gopV_ft, pickV_t, pickV_f, pickV_bool, nilS_ptr, add_eq, sub_eq, mul_eq, lss_eq, leq_eq, gtr_eq, geq_eq, not_eq, minI_eq, maxI_eq, extract_0, extract_1, extract_2, eqlI, neqI, makeFunc_eq, decide_true, decide_false, if_true, if_false, Bool.false_eq_true, Bool.not_true, Bool.not_false, reduceIte, List.getElem?_toArray, List.getElem?_cons_zero, List.getElem?_cons_succ, Option.isSome_none, List.length_map]
      exact no (by unfold stt; simp; omega)
  · have hd : ((i : Int) < (was.length : Int)) = False := by apply eq_false; omega
    rw [List.take_of_length_le (by omega)]
    simp only [lx, hd, popO_some, bindH_eq, condV_bool, condV_true, condV_false, yV_bool, gopV_tt, gopV_ff, gopV_tf, gopV_ft, pickV_t, pickV_f, pickV_bool, nilS_ptr, add_eq, sub_eq, mul_eq, lss_eq, leq_eq, gtr_eq, geq_eq, not_eq, minI_eq, maxI_eq, extract_0, extract_1, extract_2, eqlI, neqI, makeFunc_eq, decide_true, decide_false, if_true, if_false, Bool.false_eq_true, Bool.not_true, Bool.not_false, reduceIte, List.getElem?_toArray, List.getElem?_cons_zero, List.getElem?_cons_succ, Option.isSome_none, List.length_map]
    refine ⟨fun vs h'' => ∃ i : Nat, i ≤ 5 ∧ vs = [v2, v3, .pointer (some ⟨r, 0, none⟩), .int .i64 (inr was), .int .i64 (sumC was i), .int .i64 i] ∧ h'' = h', upTo 5 5, ⟨0, by omega, rfl, rfl⟩, ?_⟩
    rintro ρ2 h'' ⟨i, hi, hvs, rfl⟩
    simp only [List.map_cons, List.map_nil, List.cons.injEq, and_true] at hvs
    obtain ⟨g0, g1, g2, g3, g4, g5⟩ := hvs
    rw [g0, g1, g2, g3, g4, g5]
    unfold carracklaw22_ModelCounts_b64
    have hinr := inr_le was
    by_cases hlt : i < 5
    · have hd : ((i : Int) < 5) = True := by apply eq_true; omega
      obtain ⟨d1, d2⟩ := B.at (s := (i : Int)) (by omega)
      have ei : IntKind.i64.wrap ((i : Int) + 1) = ((i + 1 : Nat) : Int) := by rw [i64_wrap (by omega) (by omega)]; omega
      have hle := sumC_le (l := was) (i := i + 1) (by omega)
      have es : IntKind.i64.wrap ((sumC was i : Int) + (cntL was (i : Int) : Int)) = ((sumC was (i + 1) : Nat) : Int) := by
        simp only [sumC] at hle ⊢
        rw [i64_wrap (by omega) (by omega)]; omega
      simp only [hd, d1, T_int.load, d2, es, ei, popO_some, bindH_eq, condV_bool, condV_true, condV_false, yV_bool, gopV_tt, gopV_ff, gopV_tf, gopV_ft, pickV_t, pickV_f, pickV_bool, nilS_ptr, add_eq, sub_eq, mul_eq, lss_eq, leq_eq, gtr_eq, geq_eq, not_eq, minI_eq, maxI_eq, extract_0, extract_1, extract_2, eqlI, neqI, makeFunc_eq, decide_true, decide_false, if_true, if_false, Bool.false_eq_true, Bool.not_true, Bool.not_false, reduceIte, List.getElem?_toArray, List.getElem?_cons_zero, List.getElem?_cons_succ, Option.isSome_none, List.length_map]
      exact ⟨⟨i + 1, by omega, rfl, by trivial⟩, by simp [upTo, g5]; omega⟩
    · have hd : ((i : Int) < 5) = False := by apply eq_false; omega
      have hi5 : i = 5 := by omega
      subst hi5
      rw [sumC_five]
      obtain ⟨d1, d2⟩ := B.at (s := 1) (by decide)
      obtain ⟨d3, d4⟩ := B.at (s := 2) (by decide)
      have hoc := open_cnt was
      have hol := openL_len was
      have es : IntKind.i64.wrap ((cntL was 1 : Int) + (cntL was 2 : Int)) = ((openL was).length : Int) := by rw [i64_wrap (by omega) (by omega)]; omega
      have en : ((inr was : Int) != (inr was : Int)) = false := by simp
      have en2 : (((openL was).length : Int) != ((openL was).length : Int)) = false := by simp
      simp only [hd, en, d1, d3, T_int.load, d2, d4, es, popO_some, bindH_eq, condV_bool, condV_true, condV_false, yV_bool, gopV_tt, gopV_ff, gopV_tf, gopV_ft, pickV_t, pickV_f, pickV_bool, nilS_ptr, add_eq, sub_eq, mul_eq, lss_eq, leq_eq, gtr_eq, geq_eq, not_eq, minI_eq, maxI_eq, extract_0, extract_1, extract_2, eqlI, neqI, makeFunc_eq, decide_true, decide_false, if_true, if_false, Bool.false_eq_true, Bool.not_true, Bool.not_false, reduceIte, List.getElem?_toArray, List.getElem?_cons_zero, List.getElem?_cons_succ, Option.isSome_none, List.length_map]
      refine Open_ok s2 (by omega) fun va ha Fa hOa ua fa => ?_
      have la := hOa.slR.len (t' := T_int) T_sl_api_Packet.und
      rw [List.length_map] at la
      obtain ⟨_, d5⟩ := (B.ext ua).at (s := 1) (by decide)
      obtain ⟨_, d6⟩ := (B.ext ua).at (s := 2) (by decide)
      refine ⟨fun _ => by rw [d6], fun _ => by rw [d5], ?_⟩
      simp only [la, en2, popO_some, bindH_eq, condV_bool, condV_true, condV_false, yV_bool, gopV_tt, gopV_ff, gopV_tf, gopV_ft, pickV_t, pickV_f, pickV_bool, nilS_ptr, add_eq, sub_eq, mul_eq, lss_eq, leq_eq, gtr_eq, geq_eq, not_eq, minI_eq, maxI_eq, extract_0, extract_1, extract_2, eqlI, neqI, makeFunc_eq, decide_true, decide_false, if_true, if_false, Bool.false_eq_true, Bool.not_true, Bool.not_false, reduceIte, List.getElem?_toArray, List.getElem?_cons_zero, List.getElem?_cons_succ, Option.isSome_none, List.length_map]
      refine Step_ok (hF5.ext ua) nilE (s3.ext ua) (by simp) (by omega) fun hb ub => ?_
      have wb := ua.trans ub
      simp only [stepL_nil, popO_some, bindH_eq, condV_bool, condV_true, condV_false, yV_bool, gopV_tt, gopV_ff, gopV_tf, gopV_ft, pickV_t, pickV_f, pickV_bool, nilS_ptr, add_eq, sub_eq, mul_eq, lss_eq, leq_eq, gtr_eq, geq_eq, not_eq, minI_eq, maxI_eq, extract_0, extract_1, extract_2, eqlI, neqI, makeFunc_eq, decide_true, decide_false, if_true, if_false, Bool.false_eq_true, Bool.not_true, Bool.not_false, reduceIte, List.getElem?_toArray, List.getElem?_cons_zero, List.getElem?_cons_succ, Option.isSome_none, List.length_map]
      have s2 := s2.ext wb
      have s3 := s3.ext wb
      have hF6 := hF5.ext wb
      have hk6 : ∀ h', Ext hb h' → k (.bool true) h' := fun h' u => hk5 _ (wb.trans u)
      refine ⟨fun vs h' => ∃ i : Nat, i ≤ was.length ∧ vs = [v2, v3, .bool (stepL (was.take i) now), .int .i64 i] ∧ Ext hb h', upTo was.length 3, ⟨0, by omega, by rw [List.take_zero, stepL_nil]; rfl, Upd.refl⟩, ?_⟩
      rintro ρ3 h' ⟨i, hi, hvs, w⟩
      simp only [List.map_cons, List.map_nil, List.cons.injEq, and_true] at hvs
      obtain ⟨g0, g1, g2, g3⟩ := hvs
      rw [g0, g1, g2, g3]
      unfold carracklaw22_ModelCounts_b122
      by_cases hlt : i < was.length
      · have hd : ((i : Int) < (was.length : Int)) = True := by apply eq_true; omega
        obtain ⟨m, hm⟩ : ∃ m, was[i]? = some m := ⟨_, List.getElem?_eq_getElem hlt⟩
        have ei : IntKind.i64.wrap ((i : Int) + 1) = ((i + 1 : Nat) : Int) := by rw [i64_wrap (by omega) (by omega)]; omega
        have hst : stepL (was.take (i + 1)) now = (stepL (was.take i) now && stepL [m] now) := by
          unfold stepL
          rw [List.take_add_one, hm, List.all_append]
          rfl
        cases hs : stepL (was.take i) now with
        | true =>
          rw [hs, Bool.true_and] at hst
          obtain ⟨z, z1, z2, -⟩ := (s2.ext w).cut T_sl_model_Entry.und T_model_Entry.info T_model_Entry.size (.inr ⟨.i64, rfl⟩) (.inr ⟨.i64, rfl⟩) (show i ≤ i + 1 by omega) (show i + 1 ≤ _ by simp; omega)
          have hcut : ((was.map Ent.cells).take (i + 1)).drop i = [m].map Ent.cells := by
            rw [← List.map_take, ← List.map_drop, List.take_add_one, hm]
            simp [List.drop_append, Nat.min_eq_left (Nat.le_of_lt hlt)]
          rw [hcut] at z2
          simp only [l2, hd, ei, z1, popO_some, bindH_eq, condV_bool, condV_true, condV_false, yV_bool, gopV_tt, gopV_ff, gopV_tf, gopV_ft, pickV_t, pickV_f, pickV_bool, nilS_ptr, add_eq, sub_eq, mul_eq, lss_eq, leq_eq, gtr_eq, geq_eq, not_eq, minI_eq, maxI_eq, extract_0, extract_1, extract_2, eqlI, neqI, makeFunc_eq, decide_true, decide_false, if_true, if_false, Bool.false_eq_true, Bool.not_true, Bool.not_false, reduceIte, List.getElem?_toArray, List.getElem?_cons_zero, List.getElem?_cons_succ, Option.isSome_none, List.length_map]
          refine Step_ok (hF6.ext w) z2 (s3.ext w) (by simp) (by omega) fun hc uc => ?_
          exact ⟨⟨i + 1, by omega, by rw [hst], w.trans uc⟩, by simp [upTo, g3]; omega⟩
        | false =>
          rw [hs, Bool.false_and] at hst
          simp only [l2, hd, ei, popO_some, bindH_eq, condV_bool, condV_true, condV_false, yV_bool, gopV_tt, gopV_ff, gopV_tf, gopV_ft, pickV_t, pickV_f, pickV_bool, nilS_ptr, add_eq, sub_eq, mul_eq, lss_eq, leq_eq, gtr_eq, geq_eq, not_eq, minI_eq, maxI_eq, extract_0, extract_1, extract_2, eqlI, neqI, makeFunc_eq, decide_true, decide_false, if_true, if_false, Bool.false_eq_true, Bool.not_true, Bool.not_false, reduceIte, List.getElem?_toArray, List.getElem?_cons_zero, List.getElem?_cons_succ, Option.isSome_none, List.length_map]
          exact ⟨⟨i + 1, by omega, by rw [hst], w⟩, by simp [upTo, g3]; omega⟩
      · have hd : ((i : Int) < (was.length : Int)) = False := by apply eq_false; omega
        rw [List.take_of_length_le (by omega)]
        simp only [l2, hd, popO_some, bindH_eq, condV_bool, condV_true, condV_false, yV_bool, gopV_tt, gopV_ff, gopV_tf, gopV_ft, pickV_t, pickV_f, pickV_bool, nilS_ptr, add_eq, sub_eq, mul_eq, lss_eq, leq_eq, gtr_eq, geq_eq, not_eq, minI_eq, maxI_eq, extract_0, extract_1, extract_2, eqlI, neqI, makeFunc_eq, decide_true, decide_false, if_true, if_false, Bool.false_eq_true, Bool.not_true, Bool.not_false, reduceIte, List.getElem?_toArray, List.getElem?_cons_zero, List.getElem?_cons_succ, Option.isSome_none, List.length_map]
        refine Step_ok (hF6.ext w) (s2.ext w) (s3.ext w) (by omega) (by omega) fun hc uc => ?_
        have eb : (stepL was now == stepL was now) = true := by simp
        simp only [eqlB, eb, popO_some, bindH_eq, condV_bool, condV_true, condV_false, yV_bool, gopV_tt, gopV_ff, gopV_tf, gopV_ft, pickV_t, pickV_f, pickV_bool, nilS_ptr, add_eq, sub_eq, mul_eq, lss_eq, leq_eq, gtr_eq, geq_eq, not_eq, minI_eq, maxI_eq, extract_0, extract_1, extract_2, eqlI, neqI, makeFunc_eq, decide_true, decide_false, if_true, if_false, Bool.false_eq_true, Bool.not_true, Bool.not_false, reduceIte, List.getElem?_toArray, List.getElem?_cons_zero, List.getElem?_cons_succ, Option.isSome_none, List.length_map]
        exact hk6 _ (w.trans uc)
end Go.Proofs.YtbloalappckjhaaDoor
