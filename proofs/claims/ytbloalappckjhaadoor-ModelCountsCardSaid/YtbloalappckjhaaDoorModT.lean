/- model: the document's answers; counts; open ones. -/
import Derived.Test.YtbloalappckjhaaDoorModO
set_option linter.unusedSimpArgs false
set_option linter.unusedVariables false
namespace Go.Proofs.YtbloalappckjhaaDoor
open Go
theorem SlR.rent {h : PH} {x : Value} {xs : List Ent} (H : SlR h 5 x (xs.map Ent.cells)) {k : IntKind} {j : Nat} {m : Ent} (hm : xs[j]? = some m) :
    ∃ b o, SemP PG (Instr.indexAt T_sl_carrackref22_Entry x (.int k j)) = some (.pointer (some ⟨b, o, none⟩)) ∧ SemE PG h (Instr.loadAt T_api_Packet (.pointer (some ⟨b, o, none⟩))) = some (.agg m.pkt.cells.toArray) ∧ cellH h ⟨b, o + 4, none⟩ = some (.int .i64 m.state) := by
  obtain ⟨b, o, cs, e', fr, h1, hb, hle, hex⟩ := H.at T_sl_carrackref22_Entry.und T_carrackref22_Entry.info T_carrackref22_Entry.size (k := k) (j := (j : Int)) (r := m.cells) (by omega) (by rw [List.getElem?_map, Int.toNat_natCast, hm]; rfl)
  refine ⟨b, o, h1, ?_, ?_⟩
  · rw [T_api_Packet.loadAgg hb (by omega)]
    congr 2
    apply Array.ext'
    have : (cs.extract o (o + 4)).toList = ((cs.extract o (o + 5)).toList).take 4 := by
      simp [List.extract_eq_take_drop, List.take_take]
    rw [this, hex]; rfl
  · unfold cellH
    simp only [hb]
    have h4 : ((cs.extract o (o + 5)).toList)[4]? = some (.int .i64 m.state) := by rw [hex]; rfl
    simp only [Array.toList_extract, List.extract_eq_take_drop, Nat.add_sub_cancel_left, List.getElem?_take, List.getElem?_drop] at h4
    simpa using h4
theorem turned_ok {h : PH} {x : Value} {l : List Ent} (hx : SlR h 5 x (l.map Ent.cells)) (hl : l.length ≤ 1000000) {k : Value → PH → Prop}
    (hk : ∀ v h' F, OwnR h' T_model_Entry 5 v (l.map Ent.cells) F → Ext h h' → Fresh h F → k v h') : CallsH PG id_carracklaw22_turned #[x] h k := by
  have lx := hx.len (t' := T_int) T_sl_carrackref22_Entry.und
  rw [List.length_map] at lx
  apply carracklaw22_turned.call
  unfold carracklaw22_turned
  refine ⟨fun vs h' => ∃ (i : Nat) (v : Value) (F : List Nat), i ≤ l.length ∧ vs = [x, v, .int .i64 i] ∧ Ext h h' ∧ OwnR h' T_model_Entry 5 v ((l.take i).map Ent.cells) F ∧ Fresh h F, upTo l.length 2, ⟨0, _, [], by omega, rfl, Upd.refl, OwnR.nil, fun b hb => by cases hb⟩, ?_⟩
  rintro ρ h' ⟨i, v, F, hi, hvs, w, hO, f⟩
  simp only [List.map_cons, List.map_nil, List.cons.injEq, and_true] at hvs
  obtain ⟨e0, e1, e5⟩ := hvs
  rw [e0, e1, e5]
  unfold carracklaw22_turned_b2
  by_cases hlt : i < l.length
  · have hd : ((i : Int) < (l.length : Int)) = True := by apply eq_true; omega
    obtain ⟨m, hm⟩ : ∃ m, l[i]? = some m := ⟨_, List.getElem?_eq_getElem hlt⟩
    obtain ⟨b, o, a1, a2, a3⟩ := (hx.ext w).rent (k := .i64) hm
    have ei : IntKind.i64.wrap ((i : Int) + 1) = ((i + 1 : Nat) : Int) := by rw [i64_wrap (by omega) (by omega)]; omega
    simp only [lx, hd, a1, T_carrackref22_Entry.f0, T_carrackref22_Entry.f1, a2, T_int.load, a3, ent_build, ent_lit, popO_some, bindH_eq, condV_bool, condV_true, condV_false, yV_bool, gopV_tt, gopV_ff, gopV_tf, gopV_ft, pickV_t, pickV_f, pickV_bool, nilS_ptr, add_eq, sub_eq, mul_eq, lss_eq, leq_eq, gtr_eq, geq_eq, not_eq, minI_eq, maxI_eq, extract_0, extract_1, extract_2, eqlI, neqI, makeFunc_eq, decide_true, decide_false, if_true, if_false, Bool.false_eq_true, Bool.not_true, Bool.not_false, reduceIte, List.getElem?_toArray, List.getElem?_cons_zero, List.getElem?_cons_succ, Option.isSome_none, List.length_map]
    intro r hr
    refine popO_pure ?_
    have u1 : Ext h' (h'.set r (.cells m.cells.toArray T_model_Entry)) := Upd.new hr
    have s1 : SlR (h'.set r (.cells m.cells.toArray T_model_Entry)) 5 (.slice (some ⟨r, 0, none⟩) 1 1) ([m].map Ent.cells) := (OwnR.lit (Ent.rows [m]) set_same (by simp) (by decide) (by simp)).slR
    generalize h'.set r (.cells m.cells.toArray T_model_Entry) = h1 at *
    refine append_own T_sl_model_Entry.und T_sl_model_Entry.und T_model_Entry.info T_model_Entry.size T_model_Entry.bytes T_model_Entry.zero rfl (by decide) (hO.ext u1) s1 (Ent.isCell _) (by simp; omega) ?_
    intro v2 h2 F2 hO2 u2 k2 _
    rw [← List.map_append, show l.take i ++ [m] = l.take (i + 1) by rw [List.take_add_one, hm]; rfl] at hO2
    simp only [ei, popO_some, bindH_eq, condV_bool, condV_true, condV_false, yV_bool, gopV_tt, gopV_ff, gopV_tf, gopV_ft, pickV_t, pickV_f, pickV_bool, nilS_ptr, add_eq, sub_eq, mul_eq, lss_eq, leq_eq, gtr_eq, geq_eq, not_eq, minI_eq, maxI_eq, extract_0, extract_1, extract_2, eqlI, neqI, makeFunc_eq, decide_true, decide_false, if_true, if_false, Bool.false_eq_true, Bool.not_true, Bool.not_false, reduceIte, List.getElem?_toArray, List.getElem?_cons_zero, List.getElem?_cons_succ, Option.isSome_none, List.length_map]
    exact ⟨⟨i + 1, v2, F2, by omega, rfl, (w.trans u1).fresh u2 f, hO2, f.grow (w.trans u1) k2⟩, by simp [upTo, e5]; omega⟩
  · have hd : ((i : Int) < (l.length : Int)) = False := by apply eq_false; omega
    rw [List.take_of_length_le (by omega)] at hO
    simp only [lx, hd, popO_some, bindH_eq, condV_bool, condV_true, condV_false, yV_bool, gopV_tt, gopV_ff, gopV_tf, gopV_ft, pickV_t, pickV_f, pickV_bool, nilS_ptr, add_eq, sub_eq, mul_eq, lss_eq, leq_eq, gtr_eq, geq_eq, not_eq, minI_eq, maxI_eq, extract_0, extract_1, extract_2, eqlI, neqI, makeFunc_eq, decide_true, decide_false, if_true, if_false, Bool.false_eq_true, Bool.not_true, Bool.not_false, reduceIte, List.getElem?_toArray, List.getElem?_cons_zero, List.getElem?_cons_succ, Option.isSome_none, List.length_map]
    exact hk _ _ _ hO w f

/-! ### the document's -/
theorem RFollows_ok {h : PH} (a b : Int) {k : Value → PH → Prop} (hk : k (.bool (fol a b)) h) : CallsH PG id_carrackref22_Follows #[.int .i64 a, .int .i64 b] h k := by
  apply carrackref22_Follows.call
  unfold carrackref22_Follows
  have hfol : fol a b = ((a == 0 && b == 1) || (a == 1 && b == 2) || (a == 1 && b == 4) || (a == 2 && b == 3)) := by
    unfold fol tab
    rw [Bool.eq_iff_iff]
    simp
    omega
  rw [hfol] at hk
  by_cases a0 : a = 0
  · have q0 : (a == 0) = true := by simp [a0]
    have q1 : (a == 1) = false := by simp [a0]
    have q2 : (a == 2) = false := by simp [a0]
    rw [q0, q1, q2] at hk
    cases e : (b == 1) <;> (rw [e] at hk; simp only [q0, q1, q2, e, popO_some, bindH_eq, condV_bool, condV_true, condV_false, yV_bool, gopV_tt, gopV_ff, gopV_tf, gopV_ft, pickV_t, pickV_f, pickV_bool, nilS_ptr, add_eq, sub_eq, mul_eq, lss_eq, leq_eq, gtr_eq, geq_eq, not_eq, minI_eq, maxI_eq, extract_0, extract_1, extract_2, eqlI, neqI, makeFunc_eq, decide_true, decide_false, if_true, if_false, Bool.false_eq_true, Bool.not_true, Bool.not_false, reduceIte, List.getElem?_toArray, List.getElem?_cons_zero, List.getElem?_cons_succ, Option.isSome_none, List.length_map]; exact hk)
  have q0 : (a == 0) = false := by simp [a0]
  by_cases a1 : a = 1
  · have q1 : (a == 1) = true := by simp [a1]
    have q2 : (a == 2) = false := by simp [a1]
    rw [q0, q1, q2] at hk
    cases e : (b == 2) <;> cases e' : (b == 4) <;> (rw [e, e'] at hk; simp only [q0, q1, q2, e, e', popO_some, bindH_eq, condV_bool, condV_true, condV_false, yV_bool, gopV_tt, gopV_ff, gopV_tf, gopV_ft, pickV_t, pickV_f, pickV_bool, nilS_ptr, add_eq, sub_eq, mul_eq, lss_eq, leq_eq, gtr_eq, geq_eq, not_eq, minI_eq, maxI_eq, extract_0, extract_1, extract_2, eqlI, neqI, makeFunc_eq, decide_true, decide_false, if_true, if_false, Bool.false_eq_true, Bool.not_true, Bool.not_false, reduceIte, List.getElem?_toArray, List.getElem?_cons_zero, List.getElem?_cons_succ, Option.isSome_none, List.length_map]; exact hk)
  have q1 : (a == 1) = false := by simp [a1]
  by_cases a2 : a = 2
  · have q2 : (a == 2) = true := by simp [a2]
    rw [q0, q1, q2] at hk
    cases e : (b == 3) <;> (rw [e] at hk; simp only [q0, q1, q2, e, popO_some, bindH_eq, condV_bool, condV_true, condV_false, yV_bool, gopV_tt, gopV_ff, gopV_tf, gopV_ft, pickV_t, pickV_f, pickV_bool, nilS_ptr, add_eq, sub_eq, mul_eq, lss_eq, leq_eq, gtr_eq, geq_eq, not_eq, minI_eq, maxI_eq, extract_0, extract_1, extract_2, eqlI, neqI, makeFunc_eq, decide_true, decide_false, if_true, if_false, Bool.false_eq_true, Bool.not_true, Bool.not_false, reduceIte, List.getElem?_toArray, List.getElem?_cons_zero, List.getElem?_cons_succ, Option.isSome_none, List.length_map]; exact hk)
  have q2 : (a == 2) = false := by simp [a2]
  rw [q0, q1, q2] at hk
  simp only [q0, q1, q2, popO_some, bindH_eq, condV_bool, condV_true, condV_false, yV_bool, gopV_tt, gopV_ff, gopV_tf, gopV_ft, pickV_t, pickV_f, pickV_bool, nilS_ptr, add_eq, sub_eq, mul_eq, lss_eq, leq_eq, gtr_eq, geq_eq, not_eq, minI_eq, maxI_eq, extract_0, extract_1, extract_2, eqlI, neqI, makeFunc_eq, decide_true, decide_false, if_true, if_false, Bool.false_eq_true, Bool.not_true, Bool.not_false, reduceIte, List.getElem?_toArray, List.getElem?_cons_zero, List.getElem?_cons_succ, Option.isSome_none, List.length_map]
  exact hk
def stepK (K : List Int) (x y : Int) : List Int := if x ∈ K ∧ fol x y = true then (if y ∈ K then K else K ++ [y]) else K
def runK (a : Int) : Nat → List Int
  | 0 => [a]
  | i + 1 => stepK (runK a i) (((i / 5) % 5 : Nat) : Int) ((i % 5 : Nat) : Int)
theorem runK_reach {a b : Int} (ha : stt a = true) (hb : stt b = true) : decide (b ∈ runK a 125) = reach a b := by
  unfold stt at ha hb
  simp only [decide_eq_true_eq] at ha hb
  have : a = 0 ∨ a = 1 ∨ a = 2 ∨ a = 3 ∨ a = 4 := by omega
  have : b = 0 ∨ b = 1 ∨ b = 2 ∨ b = 3 ∨ b = 4 := by omega
  rcases ‹a = 0 ∨ _› with rfl | rfl | rfl | rfl | rfl <;> rcases ‹b = 0 ∨ _› with rfl | rfl | rfl | rfl | rfl <;> decide +kernel
def entk (x : Int) : Int × Value := (x, .bool true)
theorem getM_entk (K : List Int) (x : Int) : (getM (K.map entk) x).getD (.bool false) = .bool (decide (x ∈ K)) := by
  unfold getM
  induction K with
  | nil => rfl
  | cons p ps ih =>
    simp only [List.find?_cons, List.map_cons, entk, List.mem_cons]
    by_cases e : x = p
    · simp [e]
    · simp only [e, decide_false, false_or]; exact ih
theorem putM_entk (K : List Int) (y : Int) : putM (K.map entk) y (.bool true) = (if y ∈ K then K else K ++ [y]).map entk := by
  unfold putM
  have : keysM (K.map entk) = K := by simp [keysM, entk, Function.comp_def]
  rw [this]
  split
  · rw [List.map_map]
    apply List.map_congr_left
    intro z _
    simp only [Function.comp, entk]
    by_cases e : z = y
    · subst e; simp
    · simp [e]
  · simp [entk]
theorem look_k {h : PH} {r : Nat} {K : List Int} (H : MapAt ikey h r (K.map entk)) (y : Int) : SemE PG h (Instr.lookup T_map_int_bool (.map (some r)) (.int .i64 y) false) = some (.bool (decide (y ∈ K))) := by
  have hl := look_found (ikeyed T_int.und) T_map_int_bool.und T_bool.info T_bool.zero H y false
  rw [show (Value.int .i64 y) = ikey y from rfl, hl, getM_entk]; rfl
set_option maxRecDepth 20000 in
theorem RReached_ok {h : PH} (a b : Int) {k : Value → PH → Prop} (hk : ∀ h', Ext h h' → k (.bool (reach a b)) h') : CallsH PG id_carrackref22_Reached #[.int .i64 a, .int .i64 b] h k := by
  apply carrackref22_Reached.call
  unfold carrackref22_Reached
  have hend : stt a = false ∨ stt b = false → k (.bool false) h := fun hh => by
    have h0 := hk _ Upd.refl
    have : reach a b = false := by unfold reach; rcases hh with h | h <;> simp [h]
    rw [this] at h0; exact h0
  by_cases c1 : a < 0
  · simp only [c1, popO_some, bindH_eq, condV_bool, condV_true, condV_false, yV_bool, gopV_tt, gopV_ff, gopV_tf, gopV_ft, pickV_t, pickV_f, pickV_bool, nilS_ptr, add_eq, sub_eq, mul_eq, lss_eq, leq_eq, gtr_eq, geq_eq, not_eq, minI_eq, maxI_eq, extract_0, extract_1, extract_2, eqlI, neqI, makeFunc_eq, decide_true, decide_false, if_true, if_false, Bool.false_eq_true, Bool.not_true, Bool.not_false, reduceIte, List.getElem?_toArray, List.getElem?_cons_zero, List.getElem?_cons_succ, Option.isSome_none, List.length_map]
    exact hend (.inl (by unfold stt; simp; omega))
  by_cases c2 : 4 < a
  · simp only [c1, c2, popO_some, bindH_eq, condV_bool, condV_true, condV_false, yV_bool, gopV_tt, gopV_ff, gopV_tf, gopV_ft, pickV_t, pickV_f, pickV_bool, nilS_ptr, add_eq, sub_eq, mul_eq, lss_eq, leq_eq, gtr_eq, geq_eq, not_eq, minI_eq, maxI_eq, extract_0, extract_1, extract_2, eqlI, neqI, makeFunc_eq, decide_true, decide_false, if_true, if_false, Bool.false_eq_true, Bool.not_true, Bool.not_false, reduceIte, List.getElem?_toArray, List.getElem?_cons_zero, List.getElem?_cons_succ, Option.isSome_none, List.length_map]
    exact hend (.inl (by unfold stt; simp; omega))
  by_cases c3 : b < 0
  · simp only [c1, c2, c3, popO_some, bindH_eq, condV_bool, condV_true, condV_false, yV_bool, gopV_tt, gopV_ff, gopV_tf, gopV_ft, pickV_t, pickV_f, pickV_bool, nilS_ptr, add_eq, sub_eq, mul_eq, lss_eq, leq_eq, gtr_eq, geq_eq, not_eq, minI_eq, maxI_eq, extract_0, extract_1, extract_2, eqlI, neqI, makeFunc_eq, decide_true, decide_false, if_true, if_false, Bool.false_eq_true, Bool.not_true, Bool.not_false, reduceIte, List.getElem?_toArray, List.getElem?_cons_zero, List.getElem?_cons_succ, Option.isSome_none, List.length_map]
    exact hend (.inr (by unfold stt; simp; omega))
  by_cases c4 : 4 < b
  · simp only [c1, c2, c3, c4, popO_some, bindH_eq, condV_bool, condV_true, condV_false, yV_bool, gopV_tt, gopV_ff, gopV_tf, gopV_ft, pickV_t, pickV_f, pickV_bool, nilS_ptr, add_eq, sub_eq, mul_eq, lss_eq, leq_eq, gtr_eq, geq_eq, not_eq, minI_eq, maxI_eq, extract_0, extract_1, extract_2, eqlI, neqI, makeFunc_eq, decide_true, decide_false, if_true, if_false, Bool.false_eq_true, Bool.not_true, Bool.not_false, reduceIte, List.getElem?_toArray, List.getElem?_cons_zero, List.getElem?_cons_succ, Option.isSome_none, List.length_map]
    exact hend (.inr (by unfold stt; simp; omega))
  have ha : stt a = true := by unfold stt; simp; omega
  have hb : stt b = true := by unfold stt; simp; omega
  simp only [c1, c2, c3, c4, makeMap_eq, popO_some, bindH_eq, condV_bool, condV_true, condV_false, yV_bool, gopV_tt, gopV_ff, gopV_tf, gopV_ft, pickV_t, pickV_f, pickV_bool, nilS_ptr, add_eq, sub_eq, mul_eq, lss_eq, leq_eq, gtr_eq, geq_eq, not_eq, minI_eq, maxI_eq, extract_0, extract_1, extract_2, eqlI, neqI, makeFunc_eq, decide_true, decide_false, if_true, if_false, Bool.false_eq_true, Bool.not_true, Bool.not_false, reduceIte, List.getElem?_toArray, List.getElem?_cons_zero, List.getElem?_cons_succ, Option.isSome_none, List.length_map]
  intro r hr
  refine popO_pure ?_
  have u1 : Ext h (h.set r (.map #[] 0)) := Upd.new hr
  have hM : MapAt ikey (h.set r (.map #[] 0)) r (([] : List Int).map entk) := MapAt.new
  generalize h.set r (.map #[] 0) = h1 at *
  refine map_put (enc := ikey) (ikeyed T_int.und) T_map_int_bool.und hM a (.bool true) fun h2 hM2 u2 => ?_
  rw [putM_entk] at hM2
  have w2 := u1.fresh u2 (Fresh.one hr)
  refine ⟨fun vs h' => ∃ n : Nat, n ≤ 5 ∧ vs = [.int .i64 b, .map (some r), .int .i64 n] ∧ Ext h h' ∧ MapAt ikey h' r ((runK a (25 * n)).map entk), upTo 5 2, ⟨0, by omega, rfl, w2, by simpa [runK] using hM2⟩, ?_⟩
  rintro ρ h3 ⟨n, hn, hvs, w3, hM3⟩
  simp only [List.map_cons, List.map_nil, List.cons.injEq, and_true] at hvs
  obtain ⟨e1, e5, e6⟩ := hvs
  rw [e1, e5, e6]
  unfold carrackref22_Reached_b33
  by_cases hlt : n < 5
  · have hd : ((n : Int) < 5) = True := by apply eq_true; omega
    simp only [hd, popO_some, bindH_eq, condV_bool, condV_true, condV_false, yV_bool, gopV_tt, gopV_ff, gopV_tf, gopV_ft, pickV_t, pickV_f, pickV_bool, nilS_ptr, add_eq, sub_eq, mul_eq, lss_eq, leq_eq, gtr_eq, geq_eq, not_eq, minI_eq, maxI_eq, extract_0, extract_1, extract_2, eqlI, neqI, makeFunc_eq, decide_true, decide_false, if_true, if_false, Bool.false_eq_true, Bool.not_true, Bool.not_false, reduceIte, List.getElem?_toArray, List.getElem?_cons_zero, List.getElem?_cons_succ, Option.isSome_none, List.length_map]
    refine ⟨fun vs h' => ∃ x : Nat, x ≤ 5 ∧ vs = [.int .i64 b, .map (some r), .int .i64 n, .int .i64 x] ∧ Ext h h' ∧ MapAt ikey h' r ((runK a (25 * n + 5 * x)).map entk), upTo 5 3, ⟨0, by omega, rfl, w3, hM3⟩, ?_⟩
    rintro ρ2 h4 ⟨x, hx, hvs, w4, hM4⟩
    simp only [List.map_cons, List.map_nil, List.cons.injEq, and_true] at hvs
    obtain ⟨e1', e5', e6', e7⟩ := hvs
    rw [e1', e5', e6', e7]
    unfold carrackref22_Reached_b36
    by_cases hlx : x < 5
    · have hd : ((x : Int) < 5) = True := by apply eq_true; omega
      simp only [hd, popO_some, bindH_eq, condV_bool, condV_true, condV_false, yV_bool, gopV_tt, gopV_ff, gopV_tf, gopV_ft, pickV_t, pickV_f, pickV_bool, nilS_ptr, add_eq, sub_eq, mul_eq, lss_eq, leq_eq, gtr_eq, geq_eq, not_eq, minI_eq, maxI_eq, extract_0, extract_1, extract_2, eqlI, neqI, makeFunc_eq, decide_true, decide_false, if_true, if_false, Bool.false_eq_true, Bool.not_true, Bool.not_false, reduceIte, List.getElem?_toArray, List.getElem?_cons_zero, List.getElem?_cons_succ, Option.isSome_none, List.length_map]
      refine ⟨fun vs h' => ∃ y : Nat, y ≤ 5 ∧ vs = [.int .i64 b, .map (some r), .int .i64 n, .int .i64 x, .int .i64 y] ∧ Ext h h' ∧ MapAt ikey h' r ((runK a (25 * n + 5 * x + y)).map entk), upTo 5 4, ⟨0, by omega, rfl, w4, hM4⟩, ?_⟩
      rintro ρ3 h5 ⟨y, hy, hvs, w5, hM5⟩
      simp only [List.map_cons, List.map_nil, List.cons.injEq, and_true] at hvs
      obtain ⟨f1, f5, f6, f7, f8⟩ := hvs
      rw [f1, f5, f6, f7, f8]
      unfold carrackref22_Reached_b39
      by_cases hly : y < 5
      · have hd : ((y : Int) < 5) = True := by apply eq_true; omega
        have ei : IntKind.i64.wrap ((y : Int) + 1) = ((y + 1 : Nat) : Int) := by rw [i64_wrap (by omega) (by omega)]; omega
        have hr1 : runK a (25 * n + 5 * x + (y + 1)) = stepK (runK a (25 * n + 5 * x + y)) x y := by
          show runK a ((25 * n + 5 * x + y) + 1) = _
          rw [runK, show (25 * n + 5 * x + y) / 5 % 5 = x by omega, show (25 * n + 5 * x + y) % 5 = y by omega]
        simp only [hd, look_k hM5, popO_some, bindH_eq, condV_bool, condV_true, condV_false, yV_bool, gopV_tt, gopV_ff, gopV_tf, gopV_ft, pickV_t, pickV_f, pickV_bool, nilS_ptr, add_eq, sub_eq, mul_eq, lss_eq, leq_eq, gtr_eq, geq_eq, not_eq, minI_eq, maxI_eq, extract_0, extract_1, extract_2, eqlI, neqI, makeFunc_eq, decide_true, decide_false, if_true, if_false, Bool.false_eq_true, Bool.not_true, Bool.not_false, reduceIte, List.getElem?_toArray, List.getElem?_cons_zero, List.getElem?_cons_succ, Option.isSome_none, List.length_map]
        by_cases cx : (x : Int) ∈ runK a (25 * n + 5 * x + y)
        · simp only [cx, popO_some, bindH_eq, condV_bool, condV_true, condV_false, yV_bool, gopV_tt, gopV_ff, gopV_tf, gopV_ft, pickV_t, pickV_f, pickV_bool, nilS_ptr, add_eq, sub_eq, mul_eq, lss_eq, leq_eq, gtr_eq, geq_eq, not_eq, minI_eq, maxI_eq, extract_0, extract_1, extract_2, eqlI, neqI, makeFunc_eq, decide_true, decide_false, if_true, if_false, Bool.false_eq_true, Bool.not_true, Bool.not_false, reduceIte, List.getElem?_toArray, List.getElem?_cons_zero, List.getElem?_cons_succ, Option.isSome_none, List.length_map]
          refine RFollows_ok x y ?_
          cases cf : fol x y with
          | true =>
            simp only [popO_some, bindH_eq, condV_bool, condV_true, condV_false, yV_bool, gopV_tt, gopV_ff, gopV_tf, gopV_ft, pickV_t, pickV_f, pickV_bool, nilS_ptr, add_eq, sub_eq, mul_eq, lss_eq, leq_eq, gtr_eq, geq_eq, not_eq, minI_eq, maxI_eq, extract_0, extract_1, extract_2, eqlI, neqI, makeFunc_eq, decide_true, decide_false, if_true, if_false, Bool.false_eq_true, Bool.not_true, Bool.not_false, reduceIte, List.getElem?_toArray, List.getElem?_cons_zero, List.getElem?_cons_succ, Option.isSome_none, List.length_map]
            refine map_put (enc := ikey) (ikeyed T_int.und) T_map_int_bool.und hM5 y (.bool true) fun h6 hM6 u6 => ?_
            rw [putM_entk] at hM6
            unfold carrackref22_Reached_k56 carrackref22_Reached_k57
            simp only [ei, popO_some, bindH_eq, condV_bool, condV_true, condV_false, yV_bool, gopV_tt, gopV_ff, gopV_tf, gopV_ft, pickV_t, pickV_f, pickV_bool, nilS_ptr, add_eq, sub_eq, mul_eq, lss_eq, leq_eq, gtr_eq, geq_eq, not_eq, minI_eq, maxI_eq, extract_0, extract_1, extract_2, eqlI, neqI, makeFunc_eq, decide_true, decide_false, if_true, if_false, Bool.false_eq_true, Bool.not_true, Bool.not_false, reduceIte, List.getElem?_toArray, List.getElem?_cons_zero, List.getElem?_cons_succ, Option.isSome_none, List.length_map]
            refine ⟨⟨y + 1, by omega, rfl, w5.fresh u6 (Fresh.one hr), ?_⟩, by simp [upTo, f8]; omega⟩
            rw [hr1]
            unfold stepK
            rw [if_pos ⟨cx, cf⟩]
            exact hM6
          | false =>
            simp only [popO_some, bindH_eq, condV_bool, condV_true, condV_false, yV_bool, gopV_tt, gopV_ff, gopV_tf, gopV_ft, pickV_t, pickV_f, pickV_bool, nilS_ptr, add_eq, sub_eq, mul_eq, lss_eq, leq_eq, gtr_eq, geq_eq, not_eq, minI_eq, maxI_eq, extract_0, extract_1, extract_2, eqlI, neqI, makeFunc_eq, decide_true, decide_false, if_true, if_false, Bool.false_eq_true, Bool.not_true, Bool.not_false, reduceIte, List.getElem?_toArray, List.getElem?_cons_zero, List.getElem?_cons_succ, Option.isSome_none, List.length_map]
            unfold carrackref22_Reached_k56 carrackref22_Reached_k57
            simp only [ei, popO_some, bindH_eq, condV_bool, condV_true, condV_false, yV_bool, gopV_tt, gopV_ff, gopV_tf, gopV_ft, pickV_t, pickV_f, pickV_bool, nilS_ptr, add_eq, sub_eq, mul_eq, lss_eq, leq_eq, gtr_eq, geq_eq, not_eq, minI_eq, maxI_eq, extract_0, extract_1, extract_2, eqlI, neqI, makeFunc_eq, decide_true, decide_false, if_true, if_false, Bool.false_eq_true, Bool.not_true, Bool.not_false, reduceIte, List.getElem?_toArray, List.getElem?_cons_zero, List.getElem?_cons_succ, Option.isSome_none, List.length_map]
            refine ⟨⟨y + 1, by omega, rfl, w5, ?_⟩, by simp [upTo, f8]; omega⟩
            rw [hr1]
            unfold stepK
            rw [if_neg (by simp [cf])]
            exact hM5
        · simp only [cx, popO_some, bindH_eq, condV_bool, condV_true, condV_false, yV_bool, gopV_tt, gopV_ff, gopV_tf, gopV_ft, pickV_t, pickV_f, pickV_bool, nilS_ptr, add_eq, sub_eq, mul_eq, lss_eq, leq_eq, gtr_eq, geq_eq, not_eq, minI_eq, maxI_eq, extract_0, extract_1, extract_2, eqlI, neqI, makeFunc_eq, decide_true, decide_false, if_true, if_false, Bool.false_eq_true, Bool.not_true, Bool.not_false, reduceIte, List.getElem?_toArray, List.getElem?_cons_zero, List.getElem?_cons_succ, Option.isSome_none, List.length_map]
          unfold carrackref22_Reached_k56 carrackref22_Reached_k57
          simp only [ei, popO_some, bindH_eq, condV_bool, condV_true, condV_false, yV_bool, gopV_tt, gopV_ff, gopV_tf, gopV_ft, pickV_t, pickV_f, pickV_bool, nilS_ptr, add_eq, sub_eq, mul_eq, lss_eq, leq_eq, gtr_eq, geq_eq, not_eq, minI_eq, maxI_eq, extract_0, extract_1, extract_2, eqlI, neqI, makeFunc_eq, decide_true, decide_false, if_true, if_false, Bool.false_eq_true, Bool.not_true, Bool.not_false, reduceIte, List.getElem?_toArray, List.getElem?_cons_zero, List.getElem?_cons_succ, Option.isSome_none, List.length_map]
          refine ⟨⟨y + 1, by omega, rfl, w5, ?_⟩, by simp [upTo, f8]; omega⟩
          rw [hr1]
          unfold stepK
          rw [if_neg (by simp [cx])]
          exact hM5
      · have hd : ((y : Int) < 5) = False := by apply eq_false; omega
        have ei : IntKind.i64.wrap ((x : Int) + 1) = ((x + 1 : Nat) : Int) := by rw [i64_wrap (by omega) (by omega)]; omega
        simp only [hd, ei, popO_some, bindH_eq, condV_bool, condV_true, condV_false, yV_bool, gopV_tt, gopV_ff, gopV_tf, gopV_ft, pickV_t, pickV_f, pickV_bool, nilS_ptr, add_eq, sub_eq, mul_eq, lss_eq, leq_eq, gtr_eq, geq_eq, not_eq, minI_eq, maxI_eq, extract_0, extract_1, extract_2, eqlI, neqI, makeFunc_eq, decide_true, decide_false, if_true, if_false, Bool.false_eq_true, Bool.not_true, Bool.not_false, reduceIte, List.getElem?_toArray, List.getElem?_cons_zero, List.getElem?_cons_succ, Option.isSome_none, List.length_map]
        refine ⟨⟨x + 1, by omega, rfl, w5, ?_⟩, by simp [upTo, e7]; omega⟩
        have : 25 * n + 5 * (x + 1) = 25 * n + 5 * x + y := by omega
        rw [this]; exact hM5
    · have hd : ((x : Int) < 5) = False := by apply eq_false; omega
      have ei : IntKind.i64.wrap ((n : Int) + 1) = ((n + 1 : Nat) : Int) := by rw [i64_wrap (by omega) (by omega)]; omega
      simp only [hd, ei, popO_some, bindH_eq, condV_bool, condV_true, condV_false, yV_bool, gopV_tt, gopV_ff, gopV_tf, gopV_ft, pickV_t, pickV_f, pickV_bool, nilS_ptr, add_eq, sub_eq, mul_eq, lss_eq, leq_eq, gtr_eq, geq_eq, not_eq, minI_eq, maxI_eq, extract_0, extract_1, extract_2, eqlI, neqI, makeFunc_eq, decide_true, decide_false, if_true, if_false, Bool.false_eq_true, Bool.not_true, Bool.not_false, reduceIte, List.getElem?_toArray, List.getElem?_cons_zero, List.getElem?_cons_succ, Option.isSome_none, List.length_map]
      refine ⟨⟨n + 1, by omega, rfl, w4, ?_⟩, by simp [upTo, e6]; omega⟩
      have : 25 * (n + 1) = 25 * n + 5 * x := by omega
      rw [this]; exact hM4
  · have hd : ((n : Int) < 5) = False := by apply eq_false; omega
    have hn5 : n = 5 := by omega
    subst hn5
    simp only [hd, look_k hM3, popO_some, bindH_eq, condV_bool, condV_true, condV_false, yV_bool, gopV_tt, gopV_ff, gopV_tf, gopV_ft, pickV_t, pickV_f, pickV_bool, nilS_ptr, add_eq, sub_eq, mul_eq, lss_eq, leq_eq, gtr_eq, geq_eq, not_eq, minI_eq, maxI_eq, extract_0, extract_1, extract_2, eqlI, neqI, makeFunc_eq, decide_true, decide_false, if_true, if_false, Bool.false_eq_true, Bool.not_true, Bool.not_false, reduceIte, List.getElem?_toArray, List.getElem?_cons_zero, List.getElem?_cons_succ, Option.isSome_none, List.length_map]
    have := hk _ w3
    rw [← runK_reach ha hb] at this
    exact this
end Go.Proofs.YtbloalappckjhaaDoor
