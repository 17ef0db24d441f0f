/- model: states, what follows, what is reached. -/
import Derived.Test.YtbloalappckjhaaDoorHArr
import Derived.Test.YtbloalappckjhaaDoorSh
set_option linter.unusedSimpArgs false
set_option linter.unusedVariables false
namespace Go.Proofs.YtbloalappckjhaaDoor
open Go
theorem i64_wrap {x : Int} (h1 : -9223372036854775808 ≤ x) (h2 : x ≤ 9223372036854775807) : IntKind.i64.wrap x = x := IntWalk.i64_in _ ⟨h1, h2⟩
def upTo (n : Nat) (i : Nat) : List Value → PH → Nat := fun vs _ => match vs[i]? with
  | some (.int _ j) => n - j.toNat
  | _ => 0
def Fresh (h : PH) (F : List Nat) : Prop := ∀ b ∈ F, h b = none
theorem Fresh.one {h : PH} {a : Nat} (ha : h a = none) : Fresh h [a] := fun b hb => by simp at hb; subst hb; exact ha
theorem Ext.none {h h1 : PH} (u : Ext h h1) {b : Nat} (hb : h1 b = none) : h b = none := by
  cases e : h b with
  | none => rfl
  | some o => rw [u.get e] at hb; cases hb
theorem Fresh.grow {h h1 : PH} {F F' : List Nat} (f : Fresh h F) (u : Ext h h1) (hg : ∀ b ∈ F', b ∈ F ∨ h1 b = none) : Fresh h F' := fun b hb => by
  rcases hg b hb with h1 | h1
  · exact f b h1
  · exact u.none h1
theorem Fresh.of {h h1 : PH} {F : List Nat} (f : Fresh h1 F) (u : Ext h h1) : Fresh h F := fun b hb => u.none (f b hb)
theorem Ext.trans {h h1 h2 : PH} (u : Ext h h1) (v : Ext h1 h2) : Ext h h2 := Upd.trans u v
theorem Ext.fresh {h h1 h2 : PH} {F : List Nat} (u : Ext h h1) (v : Upd F h1 h2) (f : Fresh h F) : Ext h h2 := fun b o hb _ =>
  v b o (u.get hb) fun hm => by rw [f b hm] at hb; cases hb
theorem OwnR.ext {h h' : PH} {e : TypeId} {size : Nat} {v : Value} {rows : List (List Value)} {F : List Nat} (H : OwnR h e size v rows F) (u : Ext h h') : OwnR h' e size v rows F := H.upd u (by simp)
theorem popO_pure {α : Type} {v : α} {k : α → Prop} (hk : k v) : popO (SemP PG (pure v)) k := hk

/-! ### pairs of states -/
def pcell (p : Int × Int) : List Value := [.int .i64 p.1, .int .i64 p.2]
theorem pcell.rows (l : List (Int × Int)) : Rows 2 (l.map pcell) := fun r hr => by
  obtain ⟨m, _, rfl⟩ := List.mem_map.1 hr; rfl
def tab : List (Int × Int) := [(0, 1), (1, 2), (1, 4), (2, 3)]
def fol (a b : Int) : Bool := decide ((a, b) ∈ tab)
structure Fol (h : PH) : Prop where
  here : ∃ e fr, h 0 = some (.cells (tab.map pcell).flatten.toArray e fr)
theorem Fol.ext {h h' : PH} (H : Fol h) (u : Ext h h') : Fol h' := by
  obtain ⟨e, fr, h1⟩ := H
  exact ⟨e, fr, u.get h1⟩
theorem Fol.slR {h : PH} (H : Fol h) : SlR h 2 (.slice (some ⟨0, 0, none⟩) 4 4) (tab.map pcell) := by
  obtain ⟨e, fr, h1⟩ := H
  exact ⟨pcell.rows _, some ⟨0, 0, none⟩, 4, rfl, by decide, by decide, fun _ => ⟨0, 0, _, e, fr, rfl, h1, by decide, by rfl⟩, trivial⟩
theorem fol_slice : SemP PG (Instr.sliceAt T_4_2_int (Value.pointer (some ⟨0, 0, none⟩)) none none none) = some (.slice (some ⟨0, 0, none⟩) 4 4) := by kernel_rfl
theorem pair_build (a b : Int) : SemP PG (Instr.build T_2_int #[(0, .int .i64 a), (1, .int .i64 b)]) = some (.agg (pcell (a, b)).toArray) := by kernel_rfl
theorem pair_eql {h : PH} {x y : Operand} (p q : Int × Int) : SemE PG h (binS .eql T_2_int x y (.agg (pcell p).toArray) (.agg (pcell q).toArray)) = some (.bool (decide (p = q))) := by
  refine eqlStruct (by kernel_rfl) ?_
  rw [eqIn_array T_2_int.und T_int.info T_int.size (fun j => if j = 0 then p.1 == q.1 else p.2 == q.2)]
  · congr 1
    rw [Bool.eq_iff_iff]
    obtain ⟨a, b⟩ := p
    obtain ⟨c, d⟩ := q
    simp [List.range, List.range.loop]
  · intro j hj
    have : j = 0 ∨ j = 1 := by omega
    rcases this with rfl | rfl
    · exact ⟨_, _, part_cell T_int.und rfl rfl, part_cell T_int.und rfl rfl, eqIn_int T_int.und⟩
    · exact ⟨_, _, part_cell T_int.und rfl rfl, part_cell T_int.und rfl rfl, eqIn_int T_int.und⟩
theorem SlR.pair {h : PH} {x : Value} {xs : List (Int × Int)} (H : SlR h 2 x (xs.map pcell)) {k : IntKind} {j : Nat} {m : Int × Int} (hm : xs[j]? = some m) :
    ∃ a, SemP PG (Instr.indexAt T_sl_2_int x (.int k j)) = some (.pointer (some a)) ∧ SemE PG h (Instr.loadAt T_2_int (.pointer (some a))) = some (.agg (pcell m).toArray) :=
  H.loadAgg T_sl_2_int.und T_2_int.info T_2_int.size T_2_int.und rfl (by omega) (by rw [List.getElem?_map, Int.toNat_natCast, hm]; rfl)
theorem Contains_ok {h : PH} {x : Value} {xs : List (Int × Int)} (hx : SlR h 2 x (xs.map pcell)) (hl : xs.length ≤ 1000000) (q : Int × Int) {k : Value → PH → Prop}
    (hk : ∀ h', Ext h h' → k (.bool (decide (q ∈ xs))) h') : CallsH PG id_slices_Contains_sl_2_int_2_int #[x, .agg (pcell q).toArray] h k := by
  have lx := hx.len (t' := T_int) T_sl_2_int.und
  rw [List.length_map] at lx
  apply slices_Contains_sl_2_int_2_int.call
  unfold slices_Contains_sl_2_int_2_int
  intro r1 hr1
  have u1 : Ext h (h.set r1 (.cells (Value.agg (pcell q).toArray).cells T_2_int)) := Upd.new hr1
  have b1 : (h.set r1 (.cells (Value.agg (pcell q).toArray).cells T_2_int)) r1 = some (.cells (pcell q).toArray T_2_int) := set_same
  show popO (SemE PG (h.set r1 (.cells (Value.agg (pcell q).toArray).cells T_2_int)) (Instr.loadAt T_2_int (.pointer (some ⟨r1, 0, none⟩)))) _
  generalize h.set r1 (.cells (Value.agg (pcell q).toArray).cells T_2_int) = h1 at *
  rw [load_box T_2_int.und rfl T_2_int.info T_2_int.size b1 rfl]
  simp only [popO_some, bindH_eq, condV_bool, condV_true, condV_false, yV_bool, gopV_tt, gopV_ff, gopV_tf, gopV_ft, pickV_t, pickV_f, pickV_bool, nilS_ptr, add_eq, sub_eq, mul_eq, lss_eq, leq_eq, gtr_eq, geq_eq, not_eq, minI_eq, maxI_eq, extract_0, extract_1, extract_2, eqlI, neqI, makeFunc_eq, decide_true, decide_false, if_true, if_false, Bool.false_eq_true, Bool.not_true, Bool.not_false, reduceIte, List.getElem?_toArray, List.getElem?_cons_zero, List.getElem?_cons_succ, Option.isSome_none, List.length_map]
  apply slices_Index_sl_2_int_2_int.call
  unfold slices_Index_sl_2_int_2_int
  intro r2 hr2
  have u2 : Ext h1 (h1.set r2 (.cells (Value.agg (pcell q).toArray).cells T_2_int)) := Upd.new hr2
  have b2 : (h1.set r2 (.cells (Value.agg (pcell q).toArray).cells T_2_int)) r2 = some (.cells (pcell q).toArray T_2_int) := set_same
  show popO (SemP PG (Builtin.len_ #[T_sl_2_int] T_int #[x])) (fun v => _)
  simp only [lx, popO_some, bindH_eq, condV_bool, condV_true, condV_false, yV_bool, gopV_tt, gopV_ff, gopV_tf, gopV_ft, pickV_t, pickV_f, pickV_bool, nilS_ptr, add_eq, sub_eq, mul_eq, lss_eq, leq_eq, gtr_eq, geq_eq, not_eq, minI_eq, maxI_eq, extract_0, extract_1, extract_2, eqlI, neqI, makeFunc_eq, decide_true, decide_false, if_true, if_false, Bool.false_eq_true, Bool.not_true, Bool.not_false, reduceIte, List.getElem?_toArray, List.getElem?_cons_zero, List.getElem?_cons_succ, Option.isSome_none, List.length_map]
  show LoopL _ _ _ (h1.set r2 (.cells (Value.agg (pcell q).toArray).cells T_2_int))
  generalize h1.set r2 (.cells (Value.agg (pcell q).toArray).cells T_2_int) = h2 at *
  have w := u1.trans u2
  refine ⟨fun vs h' => ∃ i : Nat, i ≤ xs.length ∧ vs = [x, .pointer (some ⟨r2, 0, none⟩), .int .i64 xs.length, .int .i64 i] ∧ h' = h2 ∧ q ∉ xs.take i, upTo xs.length 3, ⟨0, by omega, rfl, rfl, by simp⟩, ?_⟩
  rintro ρ h' ⟨i, hi, hvs, rfl, hq⟩
  simp only [List.map_cons, List.map_nil, List.cons.injEq, and_true] at hvs
  obtain ⟨e0, e1, e2, e5⟩ := hvs
  rw [e0, e1, e2, e5]
  unfold slices_Index_sl_2_int_2_int_b5
  by_cases hlt : i < xs.length
  · have hd : ((i : Int) < (xs.length : Int)) = True := by apply eq_true; omega
    obtain ⟨m, hm⟩ : ∃ m, xs[i]? = some m := ⟨_, List.getElem?_eq_getElem hlt⟩
    obtain ⟨a, a1, a2⟩ := (hx.ext w).pair (k := .i64) hm
    have ei : IntKind.i64.wrap ((i : Int) + 1) = ((i + 1 : Nat) : Int) := by rw [i64_wrap (by omega) (by omega)]; omega
    simp only [hd, load_box T_2_int.und rfl T_2_int.info T_2_int.size b2 rfl, a1, a2, pair_eql, popO_some, bindH_eq, condV_bool, condV_true, condV_false, yV_bool, gopV_tt, gopV_ff, gopV_tf, gopV_ft, pickV_t, pickV_f, pickV_bool, nilS_ptr, add_eq, sub_eq, mul_eq, lss_eq, leq_eq, gtr_eq, geq_eq, not_eq, minI_eq, maxI_eq, extract_0, extract_1, extract_2, eqlI, neqI, makeFunc_eq, decide_true, decide_false, if_true, if_false, Bool.false_eq_true, Bool.not_true, Bool.not_false, reduceIte, List.getElem?_toArray, List.getElem?_cons_zero, List.getElem?_cons_succ, Option.isSome_none, List.length_map]
    by_cases c : q = m
    · have h0 : (0 ≤ (i : Int)) = True := by apply eq_true; omega
      have hin : q ∈ xs := by rw [c]; exact List.mem_of_getElem? hm
      have := hk _ w
      simp only [hin, popO_some, bindH_eq, condV_bool, condV_true, condV_false, yV_bool, gopV_tt, gopV_ff, gopV_tf, gopV_ft, pickV_t, pickV_f, pickV_bool, nilS_ptr, add_eq, sub_eq, mul_eq, lss_eq, leq_eq, gtr_eq, geq_eq, not_eq, minI_eq, maxI_eq, extract_0, extract_1, extract_2, eqlI, neqI, makeFunc_eq, decide_true, decide_false, if_true, if_false, Bool.false_eq_true, Bool.not_true, Bool.not_false, reduceIte, List.getElem?_toArray, List.getElem?_cons_zero, List.getElem?_cons_succ, Option.isSome_none, List.length_map] at this
      simp only [c, h0, popO_some, bindH_eq, condV_bool, condV_true, condV_false, yV_bool, gopV_tt, gopV_ff, gopV_tf, gopV_ft, pickV_t, pickV_f, pickV_bool, nilS_ptr, add_eq, sub_eq, mul_eq, lss_eq, leq_eq, gtr_eq, geq_eq, not_eq, minI_eq, maxI_eq, extract_0, extract_1, extract_2, eqlI, neqI, makeFunc_eq, decide_true, decide_false, if_true, if_false, Bool.false_eq_true, Bool.not_true, Bool.not_false, reduceIte, List.getElem?_toArray, List.getElem?_cons_zero, List.getElem?_cons_succ, Option.isSome_none, List.length_map]
      exact this
    · simp only [c, ei, popO_some, bindH_eq, condV_bool, condV_true, condV_false, yV_bool, gopV_tt, gopV_ff, gopV_tf, gopV_ft, pickV_t, pickV_f, pickV_bool, nilS_ptr, add_eq, sub_eq, mul_eq, lss_eq, leq_eq, gtr_eq, geq_eq, not_eq, minI_eq, maxI_eq, extract_0, extract_1, extract_2, eqlI, neqI, makeFunc_eq, decide_true, decide_false, if_true, if_false, Bool.false_eq_true, Bool.not_true, Bool.not_false, reduceIte, List.getElem?_toArray, List.getElem?_cons_zero, List.getElem?_cons_succ, Option.isSome_none, List.length_map]
      refine ⟨⟨i + 1, by omega, rfl, by trivial, ?_⟩, by simp [upTo, e5]; omega⟩
      rw [List.take_add_one, hm]
      simp [hq, c]
  · have hd : ((i : Int) < (xs.length : Int)) = False := by apply eq_false; omega
    have h0 : (0 ≤ (-1 : Int)) = False := by apply eq_false; omega
    rw [List.take_of_length_le (by omega)] at hq
    have := hk _ w
    simp only [hq, popO_some, bindH_eq, condV_bool, condV_true, condV_false, yV_bool, gopV_tt, gopV_ff, gopV_tf, gopV_ft, pickV_t, pickV_f, pickV_bool, nilS_ptr, add_eq, sub_eq, mul_eq, lss_eq, leq_eq, gtr_eq, geq_eq, not_eq, minI_eq, maxI_eq, extract_0, extract_1, extract_2, eqlI, neqI, makeFunc_eq, decide_true, decide_false, if_true, if_false, Bool.false_eq_true, Bool.not_true, Bool.not_false, reduceIte, List.getElem?_toArray, List.getElem?_cons_zero, List.getElem?_cons_succ, Option.isSome_none, List.length_map] at this
    simp only [hd, h0, popO_some, bindH_eq, condV_bool, condV_true, condV_false, yV_bool, gopV_tt, gopV_ff, gopV_tf, gopV_ft, pickV_t, pickV_f, pickV_bool, nilS_ptr, add_eq, sub_eq, mul_eq, lss_eq, leq_eq, gtr_eq, geq_eq, not_eq, minI_eq, maxI_eq, extract_0, extract_1, extract_2, eqlI, neqI, makeFunc_eq, decide_true, decide_false, if_true, if_false, Bool.false_eq_true, Bool.not_true, Bool.not_false, reduceIte, List.getElem?_toArray, List.getElem?_cons_zero, List.getElem?_cons_succ, Option.isSome_none, List.length_map]
    exact this
theorem Follows_ok {h : PH} (hF : Fol h) (a b : Int) {k : Value → PH → Prop} (hk : ∀ h', Ext h h' → k (.bool (fol a b)) h') : CallsH PG id_model_Follows #[.int .i64 a, .int .i64 b] h k := by
  apply model_Follows.call
  unfold model_Follows
  simp only [fol_slice, pair_build, popO_some, bindH_eq, condV_bool, condV_true, condV_false, yV_bool, gopV_tt, gopV_ff, gopV_tf, gopV_ft, pickV_t, pickV_f, pickV_bool, nilS_ptr, add_eq, sub_eq, mul_eq, lss_eq, leq_eq, gtr_eq, geq_eq, not_eq, minI_eq, maxI_eq, extract_0, extract_1, extract_2, eqlI, neqI, makeFunc_eq, decide_true, decide_false, if_true, if_false, Bool.false_eq_true, Bool.not_true, Bool.not_false, reduceIte, List.getElem?_toArray, List.getElem?_cons_zero, List.getElem?_cons_succ, Option.isSome_none, List.length_map]
  exact Contains_ok hF.slR (by decide) (a, b) hk

/-! ### by a question -/
theorem ContainsF_ok {h : PH} {x fv : Value} {xs : List (Int × Int)} {f : Int × Int → Bool} (hx : SlR h 2 x (xs.map pcell)) (hl : xs.length ≤ 1000000)
    (hf : ∀ p ∈ xs, ∀ h', Ext h h' → ∀ k' : Value → PH → Prop, (∀ h'', Ext h' h'' → k' (.bool (f p)) h'') → callC PG fv #[.agg (pcell p).toArray] h' k') {k : Value → PH → Prop}
    (hk : ∀ h', Ext h h' → k (.bool (xs.any f)) h') : CallsH PG id_slices_ContainsFunc_sl_2_int_2_int #[x, fv] h k := by
  have lx := hx.len (t' := T_int) T_sl_2_int.und
  rw [List.length_map] at lx
  apply slices_ContainsFunc_sl_2_int_2_int.call
  unfold slices_ContainsFunc_sl_2_int_2_int
  apply slices_IndexFunc_sl_2_int_2_int.call
  unfold slices_IndexFunc_sl_2_int_2_int
  simp only [lx, popO_some, bindH_eq, condV_bool, condV_true, condV_false, yV_bool, gopV_tt, gopV_ff, gopV_tf, gopV_ft, pickV_t, pickV_f, pickV_bool, nilS_ptr, add_eq, sub_eq, mul_eq, lss_eq, leq_eq, gtr_eq, geq_eq, not_eq, minI_eq, maxI_eq, extract_0, extract_1, extract_2, eqlI, neqI, makeFunc_eq, decide_true, decide_false, if_true, if_false, Bool.false_eq_true, Bool.not_true, Bool.not_false, reduceIte, List.getElem?_toArray, List.getElem?_cons_zero, List.getElem?_cons_succ, Option.isSome_none, List.length_map]
  refine ⟨fun vs h' => ∃ i : Nat, i ≤ xs.length ∧ vs = [x, fv, .int .i64 xs.length, .int .i64 i] ∧ Ext h h' ∧ ∀ p ∈ xs.take i, f p = false, upTo xs.length 3, ⟨0, by omega, rfl, Upd.refl, by simp⟩, ?_⟩
  rintro ρ h' ⟨i, hi, hvs, w, hq⟩
  simp only [List.map_cons, List.map_nil, List.cons.injEq, and_true] at hvs
  obtain ⟨e0, e1, e2, e5⟩ := hvs
  rw [e0, e1, e2, e5]
  unfold slices_IndexFunc_sl_2_int_2_int_b3
  by_cases hlt : i < xs.length
  · have hd : ((i : Int) < (xs.length : Int)) = True := by apply eq_true; omega
    obtain ⟨m, hm⟩ : ∃ m, xs[i]? = some m := ⟨_, List.getElem?_eq_getElem hlt⟩
    obtain ⟨a, a1, a2⟩ := (hx.ext w).pair (k := .i64) hm
    have ei : IntKind.i64.wrap ((i : Int) + 1) = ((i + 1 : Nat) : Int) := by rw [i64_wrap (by omega) (by omega)]; omega
    simp only [hd, a1, a2, popO_some, bindH_eq, condV_bool, condV_true, condV_false, yV_bool, gopV_tt, gopV_ff, gopV_tf, gopV_ft, pickV_t, pickV_f, pickV_bool, nilS_ptr, add_eq, sub_eq, mul_eq, lss_eq, leq_eq, gtr_eq, geq_eq, not_eq, minI_eq, maxI_eq, extract_0, extract_1, extract_2, eqlI, neqI, makeFunc_eq, decide_true, decide_false, if_true, if_false, Bool.false_eq_true, Bool.not_true, Bool.not_false, reduceIte, List.getElem?_toArray, List.getElem?_cons_zero, List.getElem?_cons_succ, Option.isSome_none, List.length_map]
    refine hf m (List.mem_of_getElem? hm) _ w _ fun h2 u2 => ?_
    cases c : f m with
    | true =>
      have h0 : (0 ≤ (i : Int)) = True := by apply eq_true; omega
      have hin : xs.any f = true := List.any_eq_true.2 ⟨m, List.mem_of_getElem? hm, c⟩
      have := hk _ (w.trans u2)
      rw [hin] at this
      simp only [h0, popO_some, bindH_eq, condV_bool, condV_true, condV_false, yV_bool, gopV_tt, gopV_ff, gopV_tf, gopV_ft, pickV_t, pickV_f, pickV_bool, nilS_ptr, add_eq, sub_eq, mul_eq, lss_eq, leq_eq, gtr_eq, geq_eq, not_eq, minI_eq, maxI_eq, extract_0, extract_1, extract_2, eqlI, neqI, makeFunc_eq, decide_true, decide_false, if_true, if_false, Bool.false_eq_true, Bool.not_true, Bool.not_false, reduceIte, List.getElem?_toArray, List.getElem?_cons_zero, List.getElem?_cons_succ, Option.isSome_none, List.length_map]
      exact this
    | false =>
      simp only [ei, popO_some, bindH_eq, condV_bool, condV_true, condV_false, yV_bool, gopV_tt, gopV_ff, gopV_tf, gopV_ft, pickV_t, pickV_f, pickV_bool, nilS_ptr, add_eq, sub_eq, mul_eq, lss_eq, leq_eq, gtr_eq, geq_eq, not_eq, minI_eq, maxI_eq, extract_0, extract_1, extract_2, eqlI, neqI, makeFunc_eq, decide_true, decide_false, if_true, if_false, Bool.false_eq_true, Bool.not_true, Bool.not_false, reduceIte, List.getElem?_toArray, List.getElem?_cons_zero, List.getElem?_cons_succ, Option.isSome_none, List.length_map]
      refine ⟨⟨i + 1, by omega, rfl, w.trans u2, ?_⟩, by simp [upTo, e5]; omega⟩
      intro p hp
      rw [List.take_add_one, hm] at hp
      rcases List.mem_append.1 hp with hp | hp
      · exact hq p hp
      · simp at hp; subst hp; exact c
  · have hd : ((i : Int) < (xs.length : Int)) = False := by apply eq_false; omega
    have h0 : (0 ≤ (-1 : Int)) = False := by apply eq_false; omega
    rw [List.take_of_length_le (by omega)] at hq
    have hin : xs.any f = false := by
      rw [List.any_eq_false]
      intro p hp
      simp [hq p hp]
    have := hk _ w
    rw [hin] at this
    simp only [hd, h0, popO_some, bindH_eq, condV_bool, condV_true, condV_false, yV_bool, gopV_tt, gopV_ff, gopV_tf, gopV_ft, pickV_t, pickV_f, pickV_bool, nilS_ptr, add_eq, sub_eq, mul_eq, lss_eq, leq_eq, gtr_eq, geq_eq, not_eq, minI_eq, maxI_eq, extract_0, extract_1, extract_2, eqlI, neqI, makeFunc_eq, decide_true, decide_false, if_true, if_false, Bool.false_eq_true, Bool.not_true, Bool.not_false, reduceIte, List.getElem?_toArray, List.getElem?_cons_zero, List.getElem?_cons_succ, Option.isSome_none, List.length_map]
    exact this

/-! ### reached -/
def stt (a : Int) : Bool := decide (0 ≤ a ∧ a ≤ 4)
def reach (a b : Int) : Bool := stt a && stt b && (decide (a = b) || decide (a = 0) || (decide (a = 1) && decide (2 ≤ b)) || (decide (a = 2) && decide (b = 3)))
def rank (a : Int) : Nat := if a = 0 then 3 else if a = 1 then 2 else if a = 2 then 1 else 0
theorem state_ok {h : PH} (a : Int) {k : Value → PH → Prop} (hk : k (.bool (stt a)) h) : CallsH PG id_model_state #[.int .i64 a] h k := by
  apply model_state.call
  unfold model_state
  unfold stt at hk
  by_cases c1 : 0 ≤ a
  · by_cases c2 : a ≤ 4
    · simp only [c1, c2, popO_some, bindH_eq, condV_bool, condV_true, condV_false, yV_bool, gopV_tt, gopV_ff, gopV_tf, gopV_ft, pickV_t, pickV_f, pickV_bool, nilS_ptr, add_eq, sub_eq, mul_eq, lss_eq, leq_eq, gtr_eq, geq_eq, not_eq, minI_eq, maxI_eq, extract_0, extract_1, extract_2, eqlI, neqI, makeFunc_eq, decide_true, decide_false, if_true, if_false, Bool.false_eq_true, Bool.not_true, Bool.not_false, reduceIte, List.getElem?_toArray, List.getElem?_cons_zero, List.getElem?_cons_succ, Option.isSome_none, List.length_map]
      simpa [c1, c2] using hk
    · simp only [c1, c2, popO_some, bindH_eq, condV_bool, condV_true, condV_false, yV_bool, gopV_tt, gopV_ff, gopV_tf, gopV_ft, pickV_t, pickV_f, pickV_bool, nilS_ptr, add_eq, sub_eq, mul_eq, lss_eq, leq_eq, gtr_eq, geq_eq, not_eq, minI_eq, maxI_eq, extract_0, extract_1, extract_2, eqlI, neqI, makeFunc_eq, decide_true, decide_false, if_true, if_false, Bool.false_eq_true, Bool.not_true, Bool.not_false, reduceIte, List.getElem?_toArray, List.getElem?_cons_zero, List.getElem?_cons_succ, Option.isSome_none, List.length_map]
      simpa [c1, c2] using hk
  · simp only [c1, popO_some, bindH_eq, condV_bool, condV_true, condV_false, yV_bool, gopV_tt, gopV_ff, gopV_tf, gopV_ft, pickV_t, pickV_f, pickV_bool, nilS_ptr, add_eq, sub_eq, mul_eq, lss_eq, leq_eq, gtr_eq, geq_eq, not_eq, minI_eq, maxI_eq, extract_0, extract_1, extract_2, eqlI, neqI, makeFunc_eq, decide_true, decide_false, if_true, if_false, Bool.false_eq_true, Bool.not_true, Bool.not_false, reduceIte, List.getElem?_toArray, List.getElem?_cons_zero, List.getElem?_cons_succ, Option.isSome_none, List.length_map]
    simpa [c1] using hk
theorem reach_step {a b : Int} (ha : stt a = true) (hb : stt b = true) (hab : a ≠ b) : tab.any (fun p => decide (p.1 = a) && reach p.2 b) = reach a b := by
  unfold stt at ha hb
  simp only [decide_eq_true_eq] at ha hb
  have : a = 0 ∨ a = 1 ∨ a = 2 ∨ a = 3 ∨ a = 4 := by omega
  have : b = 0 ∨ b = 1 ∨ b = 2 ∨ b = 3 ∨ b = 4 := by omega
  rcases ‹a = 0 ∨ _› with rfl | rfl | rfl | rfl | rfl <;> rcases ‹b = 0 ∨ _› with rfl | rfl | rfl | rfl | rfl <;> first | (exact absurd rfl hab) | decide
theorem rank_tab {p : Int × Int} (hp : p ∈ tab) : rank p.2 < rank p.1 := by
  simp only [tab, List.mem_cons, List.not_mem_nil, or_false] at hp
  rcases hp with rfl | rfl | rfl | rfl <;> decide
set_option maxRecDepth 20000 in
theorem Reached_body {h : PH} (hF : Fol h) (a b : Int) (sub : ∀ p ∈ tab, p.1 = a → ∀ h', Ext h h' → ∀ k' : Value → PH → Prop, (∀ h'', Ext h' h'' → k' (.bool (reach p.2 b)) h'') → CallsH PG id_model_Reached #[.int .i64 p.2, .int .i64 b] h' k') {k : Value → PH → Prop}
    (hk : ∀ h', Ext h h' → k (.bool (reach a b)) h') : CallsH PG id_model_Reached #[.int .i64 a, .int .i64 b] h k := by
  apply model_Reached.call
  unfold model_Reached
  intro r1 hr1
  simp only [popO_some, bindH_eq, condV_bool, condV_true, condV_false, yV_bool, gopV_tt, gopV_ff, gopV_tf, gopV_ft, pickV_t, pickV_f, pickV_bool, nilS_ptr, add_eq, sub_eq, mul_eq, lss_eq, leq_eq, gtr_eq, geq_eq, not_eq, minI_eq, maxI_eq, extract_0, extract_1, extract_2, eqlI, neqI, makeFunc_eq, decide_true, decide_false, if_true, if_false, Bool.false_eq_true, Bool.not_true, Bool.not_false, reduceIte, List.getElem?_toArray, List.getElem?_cons_zero, List.getElem?_cons_succ, Option.isSome_none, List.length_map]
  intro r3 hr3
  have u1 : Ext h (h.set r1 (.cells (Value.cells (.int .i64 a)) T_int)) := Upd.new hr1
  have e1 : (h.set r1 (.cells (Value.cells (.int .i64 a)) T_int)) r1 = some (.cells #[.int .i64 a] T_int) := set_same
  generalize h.set r1 (.cells (Value.cells (.int .i64 a)) T_int) = h1 at *
  have u2 : Ext h1 (h1.set r3 (.cells (Value.cells (.int .i64 b)) T_int)) := Upd.new hr3
  have e2 : (h1.set r3 (.cells (Value.cells (.int .i64 b)) T_int)) r3 = some (.cells #[.int .i64 b] T_int) := set_same
  have e3 := u2.get e1
  generalize h1.set r3 (.cells (Value.cells (.int .i64 b)) T_int) = h2 at *
  have w := u1.trans u2
  have l1 : cellH h2 ⟨r1, 0, none⟩ = some (.int .i64 a) := by simp [cellH, e3]
  have l2 : cellH h2 ⟨r3, 0, none⟩ = some (.int .i64 b) := by simp [cellH, e2]
  simp only [T_int.load, l1, popO_some, bindH_eq, condV_bool, condV_true, condV_false, yV_bool, gopV_tt, gopV_ff, gopV_tf, gopV_ft, pickV_t, pickV_f, pickV_bool, nilS_ptr, add_eq, sub_eq, mul_eq, lss_eq, leq_eq, gtr_eq, geq_eq, not_eq, minI_eq, maxI_eq, extract_0, extract_1, extract_2, eqlI, neqI, makeFunc_eq, decide_true, decide_false, if_true, if_false, Bool.false_eq_true, Bool.not_true, Bool.not_false, reduceIte, List.getElem?_toArray, List.getElem?_cons_zero, List.getElem?_cons_succ, Option.isSome_none, List.length_map]
  refine state_ok a ?_
  have hend : stt a = false ∨ stt b = false → k (.bool false) h2 := fun hh => by
    have h0 := hk _ w
    have : reach a b = false := by unfold reach; rcases hh with h | h <;> simp [h]
    rw [this] at h0; exact h0
  cases ca : stt a with
  | false =>
    simp only [popO_some, bindH_eq, condV_bool, condV_true, condV_false, yV_bool, gopV_tt, gopV_ff, gopV_tf, gopV_ft, pickV_t, pickV_f, pickV_bool, nilS_ptr, add_eq, sub_eq, mul_eq, lss_eq, leq_eq, gtr_eq, geq_eq, not_eq, minI_eq, maxI_eq, extract_0, extract_1, extract_2, eqlI, neqI, makeFunc_eq, decide_true, decide_false, if_true, if_false, Bool.false_eq_true, Bool.not_true, Bool.not_false, reduceIte, List.getElem?_toArray, List.getElem?_cons_zero, List.getElem?_cons_succ, Option.isSome_none, List.length_map]
    exact hend (.inl ca)
  | true =>
    simp only [T_int.load, l2, popO_some, bindH_eq, condV_bool, condV_true, condV_false, yV_bool, gopV_tt, gopV_ff, gopV_tf, gopV_ft, pickV_t, pickV_f, pickV_bool, nilS_ptr, add_eq, sub_eq, mul_eq, lss_eq, leq_eq, gtr_eq, geq_eq, not_eq, minI_eq, maxI_eq, extract_0, extract_1, extract_2, eqlI, neqI, makeFunc_eq, decide_true, decide_false, if_true, if_false, Bool.false_eq_true, Bool.not_true, Bool.not_false, reduceIte, List.getElem?_toArray, List.getElem?_cons_zero, List.getElem?_cons_succ, Option.isSome_none, List.length_map]
    refine state_ok b ?_
    cases cb : stt b with
    | false =>
      simp only [popO_some, bindH_eq, condV_bool, condV_true, condV_false, yV_bool, gopV_tt, gopV_ff, gopV_tf, gopV_ft, pickV_t, pickV_f, pickV_bool, nilS_ptr, add_eq, sub_eq, mul_eq, lss_eq, leq_eq, gtr_eq, geq_eq, not_eq, minI_eq, maxI_eq, extract_0, extract_1, extract_2, eqlI, neqI, makeFunc_eq, decide_true, decide_false, if_true, if_false, Bool.false_eq_true, Bool.not_true, Bool.not_false, reduceIte, List.getElem?_toArray, List.getElem?_cons_zero, List.getElem?_cons_succ, Option.isSome_none, List.length_map]
      exact hend (.inr cb)
    | true =>
      simp only [T_int.load, l1, l2, popO_some, bindH_eq, condV_bool, condV_true, condV_false, yV_bool, gopV_tt, gopV_ff, gopV_tf, gopV_ft, pickV_t, pickV_f, pickV_bool, nilS_ptr, add_eq, sub_eq, mul_eq, lss_eq, leq_eq, gtr_eq, geq_eq, not_eq, minI_eq, maxI_eq, extract_0, extract_1, extract_2, eqlI, neqI, makeFunc_eq, decide_true, decide_false, if_true, if_false, Bool.false_eq_true, Bool.not_true, Bool.not_false, reduceIte, List.getElem?_toArray, List.getElem?_cons_zero, List.getElem?_cons_succ, Option.isSome_none, List.length_map]
      by_cases c : a = b
      · have e : (a == b) = true := by simp [c]
        have : reach a b = true := by unfold reach; rw [ca, cb]; simp [c]
        have hh := hk _ w
        rw [this] at hh
        simp only [e, popO_some, bindH_eq, condV_bool, condV_true, condV_false, yV_bool, gopV_tt, gopV_ff, gopV_tf, gopV_ft, pickV_t, pickV_f, pickV_bool, nilS_ptr, add_eq, sub_eq, mul_eq, lss_eq, leq_eq, gtr_eq, geq_eq, not_eq, minI_eq, maxI_eq, extract_0, extract_1, extract_2, eqlI, neqI, makeFunc_eq, decide_true, decide_false, if_true, if_false, Bool.false_eq_true, Bool.not_true, Bool.not_false, reduceIte, List.getElem?_toArray, List.getElem?_cons_zero, List.getElem?_cons_succ, Option.isSome_none, List.length_map]
        exact hh
      · have e : (a == b) = false := by simp [c]
        simp only [e, fol_slice, popO_some, bindH_eq, condV_bool, condV_true, condV_false, yV_bool, gopV_tt, gopV_ff, gopV_tf, gopV_ft, pickV_t, pickV_f, pickV_bool, nilS_ptr, add_eq, sub_eq, mul_eq, lss_eq, leq_eq, gtr_eq, geq_eq, not_eq, minI_eq, maxI_eq, extract_0, extract_1, extract_2, eqlI, neqI, makeFunc_eq, decide_true, decide_false, if_true, if_false, Bool.false_eq_true, Bool.not_true, Bool.not_false, reduceIte, List.getElem?_toArray, List.getElem?_cons_zero, List.getElem?_cons_succ, Option.isSome_none, List.length_map]
        refine ContainsF_ok (f := fun p => decide (p.1 = a) && reach p.2 b) (hF.ext w).slR (by decide) ?_ (fun h3 u3 => ?_)
        · intro p hp h3 u3 k' hk'
          show CallsH PG id_model_Reached_1 #[.agg (pcell p).toArray, .pointer (some ⟨r1, 0, none⟩), .pointer (some ⟨r3, 0, none⟩)] h3 k'
          apply model_Reached_1.call
          unfold model_Reached_1
          intro r4 hr4
          have u4 : Ext h3 (h3.set r4 (.cells (Value.agg (pcell p).toArray).cells T_2_int)) := Upd.new hr4
          have b4 : (h3.set r4 (.cells (Value.agg (pcell p).toArray).cells T_2_int)) r4 = some (.cells (pcell p).toArray T_2_int) := set_same
          rw [bindH_eq]
          generalize h3.set r4 (.cells (Value.agg (pcell p).toArray).cells T_2_int) = h4 at *
          have m1 : cellH h4 ⟨r4, 0, none⟩ = some (.int .i64 p.1) := by simp [cellH, b4, pcell]
          have m2 : cellH h4 ⟨r4, 1, none⟩ = some (.int .i64 p.2) := by simp [cellH, b4, pcell]
          have m3 : cellH h4 ⟨r1, 0, none⟩ = some (.int .i64 a) := by simp [cellH, (u3.trans u4).get e3]
          have m4 : cellH h4 ⟨r3, 0, none⟩ = some (.int .i64 b) := by simp [cellH, (u3.trans u4).get e2]
          have i1 : SemP PG (Instr.indexAt T_2_int (.pointer (some ⟨r4, 0, none⟩)) (.int .i64 0)) = some (.pointer (some ⟨r4, 0, none⟩)) := by
            rw [indexAt_array T_2_int.und T_int.info T_int.size (by decide) (by decide)]; rfl
          have i2 : SemP PG (Instr.indexAt T_2_int (.pointer (some ⟨r4, 0, none⟩)) (.int .i64 1)) = some (.pointer (some ⟨r4, 1, none⟩)) := by
            rw [indexAt_array T_2_int.und T_int.info T_int.size (by decide) (by decide)]; rfl
          simp only [i1, T_int.load, m1, m3, popO_some, bindH_eq, condV_bool, condV_true, condV_false, yV_bool, gopV_tt, gopV_ff, gopV_tf, gopV_ft, pickV_t, pickV_f, pickV_bool, nilS_ptr, add_eq, sub_eq, mul_eq, lss_eq, leq_eq, gtr_eq, geq_eq, not_eq, minI_eq, maxI_eq, extract_0, extract_1, extract_2, eqlI, neqI, makeFunc_eq, decide_true, decide_false, if_true, if_false, Bool.false_eq_true, Bool.not_true, Bool.not_false, reduceIte, List.getElem?_toArray, List.getElem?_cons_zero, List.getElem?_cons_succ, Option.isSome_none, List.length_map]
          by_cases cc : p.1 = a
          · have e : (p.1 == a) = true := by simp [cc]
            simp only [e, i2, T_int.load, m2, m4, popO_some, bindH_eq, condV_bool, condV_true, condV_false, yV_bool, gopV_tt, gopV_ff, gopV_tf, gopV_ft, pickV_t, pickV_f, pickV_bool, nilS_ptr, add_eq, sub_eq, mul_eq, lss_eq, leq_eq, gtr_eq, geq_eq, not_eq, minI_eq, maxI_eq, extract_0, extract_1, extract_2, eqlI, neqI, makeFunc_eq, decide_true, decide_false, if_true, if_false, Bool.false_eq_true, Bool.not_true, Bool.not_false, reduceIte, List.getElem?_toArray, List.getElem?_cons_zero, List.getElem?_cons_succ, Option.isSome_none, List.length_map]
            refine sub p hp cc h4 (w.trans (u3.trans u4)) _ fun h5 u5 => ?_
            have := hk' h5 (u4.trans u5)
            simpa [cc] using this
          · have e : (p.1 == a) = false := by simp [cc]
            simp only [e, popO_some, bindH_eq, condV_bool, condV_true, condV_false, yV_bool, gopV_tt, gopV_ff, gopV_tf, gopV_ft, pickV_t, pickV_f, pickV_bool, nilS_ptr, add_eq, sub_eq, mul_eq, lss_eq, leq_eq, gtr_eq, geq_eq, not_eq, minI_eq, maxI_eq, extract_0, extract_1, extract_2, eqlI, neqI, makeFunc_eq, decide_true, decide_false, if_true, if_false, Bool.false_eq_true, Bool.not_true, Bool.not_false, reduceIte, List.getElem?_toArray, List.getElem?_cons_zero, List.getElem?_cons_succ, Option.isSome_none, List.length_map]
            have := hk' h4 u4
            simpa [cc] using this
        · rw [reach_step ca cb c]
          exact hk _ (w.trans u3)
theorem Reached_ok' : ∀ (n : Nat) {h : PH} (_ : Fol h) (a b : Int) (_ : rank a ≤ n) {k : Value → PH → Prop} (_ : ∀ h', Ext h h' → k (.bool (reach a b)) h'), CallsH PG id_model_Reached #[.int .i64 a, .int .i64 b] h k := by
  intro n
  induction n with
  | zero =>
    intro h hF a b hr k hk
    refine Reached_body hF a b (fun p hp hpa => ?_) hk
    have := rank_tab hp
    rw [hpa] at this
    omega
  | succ n ih =>
    intro h hF a b hr k hk
    refine Reached_body hF a b (fun p hp hpa h' u k' hk' => ?_) hk
    have := rank_tab hp
    rw [hpa] at this
    exact ih (hF.ext u) p.2 b (by omega) hk'
theorem Reached_ok {h : PH} (hF : Fol h) (a b : Int) {k : Value → PH → Prop} (hk : ∀ h', Ext h h' → k (.bool (reach a b)) h') : CallsH PG id_model_Reached #[.int .i64 a, .int .i64 b] h k :=
  Reached_ok' _ hF a b (Nat.le_refl _) hk
theorem awake22_ok {h : PH} (hF : Fol h) {k : Value → PH → Prop} (hk : ∀ h', Ext h h' → k (.bool true) h') : CallsH PG id_carracklaw22_awake #[] h k := by
  apply carracklaw22_awake.call
  unfold carracklaw22_awake
  have e1 : fol 1 3 = false := by decide
  have e2 : reach 1 3 = true := by decide
  have e3 : reach 4 3 = false := by decide
  have e4 : fol 0 1 = true := by decide
  refine Follows_ok hF 1 3 fun h1 u1 => ?_
  simp only [e1, popO_some, bindH_eq, condV_bool, condV_true, condV_false, yV_bool, gopV_tt, gopV_ff, gopV_tf, gopV_ft, pickV_t, pickV_f, pickV_bool, nilS_ptr, add_eq, sub_eq, mul_eq, lss_eq, leq_eq, gtr_eq, geq_eq, not_eq, minI_eq, maxI_eq, extract_0, extract_1, extract_2, eqlI, neqI, makeFunc_eq, decide_true, decide_false, if_true, if_false, Bool.false_eq_true, Bool.not_true, Bool.not_false, reduceIte, List.getElem?_toArray, List.getElem?_cons_zero, List.getElem?_cons_succ, Option.isSome_none, List.length_map]
  refine Reached_ok (hF.ext u1) 1 3 fun h2 u2 => ?_
  simp only [e2, popO_some, bindH_eq, condV_bool, condV_true, condV_false, yV_bool, gopV_tt, gopV_ff, gopV_tf, gopV_ft, pickV_t, pickV_f, pickV_bool, nilS_ptr, add_eq, sub_eq, mul_eq, lss_eq, leq_eq, gtr_eq, geq_eq, not_eq, minI_eq, maxI_eq, extract_0, extract_1, extract_2, eqlI, neqI, makeFunc_eq, decide_true, decide_false, if_true, if_false, Bool.false_eq_true, Bool.not_true, Bool.not_false, reduceIte, List.getElem?_toArray, List.getElem?_cons_zero, List.getElem?_cons_succ, Option.isSome_none, List.length_map]
  refine Reached_ok (hF.ext (u1.trans u2)) 4 3 fun h3 u3 => ?_
  simp only [e3, popO_some, bindH_eq, condV_bool, condV_true, condV_false, yV_bool, gopV_tt, gopV_ff, gopV_tf, gopV_ft, pickV_t, pickV_f, pickV_bool, nilS_ptr, add_eq, sub_eq, mul_eq, lss_eq, leq_eq, gtr_eq, geq_eq, not_eq, minI_eq, maxI_eq, extract_0, extract_1, extract_2, eqlI, neqI, makeFunc_eq, decide_true, decide_false, if_true, if_false, Bool.false_eq_true, Bool.not_true, Bool.not_false, reduceIte, List.getElem?_toArray, List.getElem?_cons_zero, List.getElem?_cons_succ, Option.isSome_none, List.length_map]
  refine Follows_ok (hF.ext ((u1.trans u2).trans u3)) 0 1 fun h4 u4 => ?_
  simp only [e4, popO_some, bindH_eq, condV_bool, condV_true, condV_false, yV_bool, gopV_tt, gopV_ff, gopV_tf, gopV_ft, pickV_t, pickV_f, pickV_bool, nilS_ptr, add_eq, sub_eq, mul_eq, lss_eq, leq_eq, gtr_eq, geq_eq, not_eq, minI_eq, maxI_eq, extract_0, extract_1, extract_2, eqlI, neqI, makeFunc_eq, decide_true, decide_false, if_true, if_false, Bool.false_eq_true, Bool.not_true, Bool.not_false, reduceIte, List.getElem?_toArray, List.getElem?_cons_zero, List.getElem?_cons_succ, Option.isSome_none, List.length_map]
  exact hk _ (((u1.trans u2).trans u3).trans u4)
end Go.Proofs.YtbloalappckjhaaDoor
