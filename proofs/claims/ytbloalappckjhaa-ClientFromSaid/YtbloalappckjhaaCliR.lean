/- client: the document's client, as rules for its calls. -/
import Derived.Test.YtbloalappckjhaaCliC
import Derived.Test.YtbloalappckjhaaHByt
set_option linter.unusedSimpArgs false
set_option linter.unusedVariables false
namespace Go.Proofs.Ytbloalappckjhaa
open Go

/-! ### plain -/
def leastAt (l : List Int) (x : Int) (best : Int) (ok : Bool) : Prop := if ok then best ∈ l ∧ x ≤ best ∧ ∀ y ∈ l, x ≤ y → best ≤ y else best = 0 ∧ ∀ y ∈ l, ¬ x ≤ y
theorem leastAt_eq {hs : List Int} {l : List Known} (R : Ranked hs l) {x best : Int} {ok : Bool} (H : leastAt (hts l) x best ok) : (fromS hs x).getD 0 = best ∧ (fromS hs x).isSome = ok := by
  unfold leastAt at H
  cases hf : fromS hs x with
  | none =>
    unfold fromS at hf
    rw [List.find?_eq_none] at hf
    cases ok with
    | false => simp only [Bool.false_eq_true, if_false] at H; exact ⟨H.1.symm, rfl⟩
    | true =>
      simp only [if_true] at H
      have := hf best (R.mem.2 H.1)
      simp only [decide_eq_true_eq] at this
      exact absurd H.2.1 this
  | some y =>
    unfold fromS at hf
    have hy := List.mem_of_find?_eq_some hf
    have hxy := List.find?_some hf
    simp only [decide_eq_true_eq] at hxy
    cases ok with
    | false =>
      simp only [Bool.false_eq_true, if_false] at H
      exact absurd hxy (H.2 y (R.mem.1 hy))
    | true =>
      simp only [if_true] at H
      refine ⟨?_, rfl⟩
      have h1 := H.2.2 y (R.mem.1 hy) hxy
      rw [List.find?_eq_some_iff_append] at hf
      obtain ⟨_, us, bs, rfl, hlow⟩ := hf
      have hb := R.mem.2 H.1
      rcases List.mem_append.1 hb with hb | hb
      · have := hlow best hb
        simp at this
        omega
      · rcases List.mem_cons.1 hb with hb | hb
        · exact hb.symm
        · have hup := R.up
          rw [List.pairwise_append, List.pairwise_cons] at hup
          have := hup.2.1.1 best hb
          simp only [Option.getD_some]
          omega
theorem latS_eq {hs : List Int} {l : List Known} (R : Ranked hs l) (hpos : ∀ y ∈ hts l, 0 ≤ y) {best : Int} (h1 : best = 0 ∨ best ∈ hts l) (h2 : ∀ y ∈ hts l, y ≤ best) (h0 : 0 ≤ best) : latS hs = best := by
  unfold latS
  rcases List.eq_nil_or_concat hs with rfl | ⟨ys, y, rfl⟩
  · rcases h1 with h | h
    · exact h.symm
    · exact absurd (R.mem.2 h) (by simp)
  · have hy : y ∈ hts l := R.mem.1 (by simp)
    have e1 := h2 y hy
    have e0 := hpos y hy
    simp only [List.concat_eq_append, List.getLast?_append, List.getLast?_singleton, Option.some_or, Option.getD_some]
    rcases h1 with h | h
    · omega
    · have := R.mem.2 h
      rcases List.mem_append.1 (by simpa [List.concat_eq_append] using this : best ∈ ys ++ [y]) with hb | hb
      · have hup := R.up
        rw [List.concat_eq_append, List.pairwise_append] at hup
        have := hup.2.2 best hb y (by simp)
        omega
      · simp at hb; exact hb.symm

/-! ### rules -/
theorem SlR.kn {h : PH} {x : Value} {xs : List Known} (H : SlR h 2 x (xs.map Known.cells)) {k : IntKind} {j : Nat} {m : Known} (hm : xs[j]? = some m) :
    ∃ b o, SemP PG (Instr.indexAt T_sl_carrackref12_Known x (.int k j)) = some (.pointer (some ⟨b, o, none⟩)) ∧ cellH h ⟨b, o, none⟩ = some (.int .u64 m.height) ∧ cellH h ⟨b, o + 1, none⟩ = some (.string m.root) ∧ SemE PG h (Instr.loadAt T_carrackref12_Known (.pointer (some ⟨b, o, none⟩))) = some (.agg m.cells.toArray) := by
  obtain ⟨b, o, h1, h2, h3⟩ := H.fields T_sl_carrackref12_Known.und T_carrackref12_Known.info T_carrackref12_Known.size (k := k) (j := j) (r := m.cells) (by rw [List.getElem?_map, hm]; rfl)
  exact ⟨b, o, h1, h2 0 _ rfl, h2 1 _ rfl, h3 _ T_carrackref12_Known.und rfl⟩
theorem numbers_ok {h : PH} {x y : Value} {xs ys : List Int} (hx : SlR h 1 x (xs.map ucell)) (hy : SlR h 1 y (ys.map ucell)) (hl : xs.length ≤ 1000000) (hxy : xs = ys) {k : Value → PH → Prop} (hk : k (.bool true) h) :
    CallsH PG id_carracklaw12_numbers #[x, y] h k := by
  subst hxy
  have lx := hx.len (t' := T_int) T_sl_uint64.und
  have ly := hy.len (t' := T_int) T_sl_uint64.und
  rw [List.length_map] at lx ly
  apply carracklaw12_numbers.call
  unfold carracklaw12_numbers
  have e1 : ((xs.length : Int) != (xs.length : Int)) = false := by simp
  simp only [lx, ly, e1, popO_some, bindH_eq, condV_bool, condV_true, condV_false, yV_bool, gopV_tt, gopV_ff, gopV_tf, gopV_ft, pickV_t, pickV_f, pickV_bool, nilS_ptr, add_eq, sub_eq, mul_eq, lss_eq, leq_eq, gtr_eq, geq_eq, not_eq, minI_eq, maxI_eq, extract_0, extract_1, extract_2, eqlI, neqI, makeFunc_eq, decide_true, decide_false, if_true, if_false, Bool.false_eq_true, Bool.not_true, Bool.not_false, reduceIte, List.getElem?_toArray, List.getElem?_cons_zero, List.getElem?_cons_succ, Option.isSome_none, List.length_map]
  refine ⟨fun vs h' => ∃ i : Nat, i ≤ xs.length ∧ vs = [x, y, .int .i64 i] ∧ h' = h, upTo xs.length 2, ⟨0, by omega, rfl, rfl⟩, ?_⟩
  rintro ρ h' ⟨i, hi, hvs, rfl⟩
  simp only [List.map_cons, List.map_nil, List.cons.injEq, and_true] at hvs
  obtain ⟨e0, e1, e5⟩ := hvs
  rw [e0, e1, e5]
  unfold carracklaw12_numbers_b5
  by_cases hlt : i < xs.length
  · have hd : ((i : Int) < (xs.length : Int)) = True := by apply eq_true; omega
    obtain ⟨m, hm⟩ : ∃ m, xs[i]? = some m := ⟨_, List.getElem?_eq_getElem hlt⟩
    obtain ⟨a, a1, a2⟩ := hx.u64 (k := .i64) hm
    obtain ⟨b, b1, b2⟩ := hy.u64 (k := .i64) hm
    have e2 : IntKind.i64.wrap ((i : Int) + 1) = ((i + 1 : Nat) : Int) := by rw [i64_wrap (by omega) (by omega)]; omega
    have e3 : (m != m) = false := by simp
    simp only [lx, hd, a1, a2, b1, b2, e2, e3, popO_some, bindH_eq, condV_bool, condV_true, condV_false, yV_bool, gopV_tt, gopV_ff, gopV_tf, gopV_ft, pickV_t, pickV_f, pickV_bool, nilS_ptr, add_eq, sub_eq, mul_eq, lss_eq, leq_eq, gtr_eq, geq_eq, not_eq, minI_eq, maxI_eq, extract_0, extract_1, extract_2, eqlI, neqI, makeFunc_eq, decide_true, decide_false, if_true, if_false, Bool.false_eq_true, Bool.not_true, Bool.not_false, reduceIte, List.getElem?_toArray, List.getElem?_cons_zero, List.getElem?_cons_succ, Option.isSome_none, List.length_map]
    exact ⟨⟨i + 1, by omega, rfl, by trivial⟩, by simp [upTo, e5]; omega⟩
  · have hd : ((i : Int) < (xs.length : Int)) = False := by apply eq_false; omega
    simp only [lx, hd, popO_some, bindH_eq, condV_bool, condV_true, condV_false, yV_bool, gopV_tt, gopV_ff, gopV_tf, gopV_ft, pickV_t, pickV_f, pickV_bool, nilS_ptr, add_eq, sub_eq, mul_eq, lss_eq, leq_eq, gtr_eq, geq_eq, not_eq, minI_eq, maxI_eq, extract_0, extract_1, extract_2, eqlI, neqI, makeFunc_eq, decide_true, decide_false, if_true, if_false, Bool.false_eq_true, Bool.not_true, Bool.not_false, reduceIte, List.getElem?_toArray, List.getElem?_cons_zero, List.getElem?_cons_succ, Option.isSome_none, List.length_map]
    exact hk

structure KRefAt (h : PH) (a : Nat) (l : List Known) (F : List Nat) : Prop where
  here : ∃ v G, h a = some (.cells #[v] T_carrackref12_Client (0, 0)) ∧ OwnR h T_carrackref12_Known 2 v (l.map Known.cells) G ∧ F = a :: G ∧ a ∉ G
theorem KRefAt.known {h : PH} {a : Nat} {l : List Known} {F : List Nat} (H : KRefAt h a l F) : ∀ b ∈ F, h b ≠ none := by
  obtain ⟨v, G, ha, hO, rfl, hn⟩ := H
  intro b hb
  rcases List.mem_cons.1 hb with rfl | hb
  · rw [ha]; simp
  · exact hO.known b hb
theorem KRefAt.upd {h h' : PH} {a : Nat} {l : List Known} {F G : List Nat} (H : KRefAt h a l F) (u : Upd G h h') (hd : ∀ b ∈ F, b ∉ G) : KRefAt h' a l F := by
  obtain ⟨v, G', ha, hO, rfl, hn⟩ := H
  exact ⟨v, G', u.get ha (hd a (by simp)), hO.upd u (fun b hb => hd b (by simp [hb])), rfl, hn⟩
theorem KRefAt.ext {h h' : PH} {a : Nat} {l : List Known} {F : List Nat} (H : KRefAt h a l F) (u : Ext h h') : KRefAt h' a l F := H.upd u (by simp)

theorem KRoot_ok {h : PH} {a : Nat} {l : List Known} {F : List Nat} (hR : KRefAt h a l F) (hl : l.length ≤ 1000000) (x : Int) {k : Value → PH → Prop}
    (hk : k (.tuple #[.string ((rootL l x).getD ⟨#[]⟩), .bool (rootL l x).isSome]) h) : CallsH PG id_carrackref12_Client_Root #[.pointer (some ⟨a, 0, none⟩), .int .u64 x] h k := by
  obtain ⟨v, G, ha, hO, rfl, hn⟩ := hR
  have lv := hO.slR.len (t' := T_int) T_sl_carrackref12_Known.und
  rw [List.length_map] at lv
  apply carrackref12_Client_Root.call
  unfold carrackref12_Client_Root
  refine ⟨fun vs h' => ∃ i : Nat, i ≤ l.length ∧ vs = [.pointer (some ⟨a, 0, none⟩), .int .u64 x, .int .i64 i] ∧ h' = h ∧ rootL l x = rootL (l.drop i) x, upTo l.length 2, ⟨0, by omega, rfl, rfl, rfl⟩, ?_⟩
  rintro ρ h' ⟨i, hi, hvs, rfl, hr⟩
  simp only [List.map_cons, List.map_nil, List.cons.injEq, and_true] at hvs
  obtain ⟨e0, e1, e5⟩ := hvs
  rw [e0, e1, e5]
  unfold carrackref12_Client_Root_b2
  by_cases hlt : i < l.length
  · have hd : ((i : Int) < (l.length : Int)) = True := by apply eq_true; omega
    obtain ⟨m, hm⟩ : ∃ m, l[i]? = some m := ⟨_, List.getElem?_eq_getElem hlt⟩
    obtain ⟨b, o, a1, a2, a3, -⟩ := hO.slR.kn (k := .i64) hm
    have e2 : IntKind.i64.wrap ((i : Int) + 1) = ((i + 1 : Nat) : Int) := by rw [i64_wrap (by omega) (by omega)]; omega
    have ha' : cellH h' ⟨a, 0, none⟩ = some v := by simp [cellH, ha]
    have hdr : l.drop i = m :: l.drop (i + 1) := by
      rw [List.drop_eq_getElem_cons hlt]
      rw [List.getElem?_eq_getElem hlt] at hm
      simp at hm; rw [hm]
    simp only [T_carrackref12_Client.f0, T_sl_carrackref12_Known.load, ha', lv, hd, a1, T_carrackref12_Known.f0, T_carrackref12_Known.f1, T_uint64.load, T_string.load, a2, a3, e2, popO_some, bindH_eq, condV_bool, condV_true, condV_false, yV_bool, gopV_tt, gopV_ff, gopV_tf, gopV_ft, pickV_t, pickV_f, pickV_bool, nilS_ptr, add_eq, sub_eq, mul_eq, lss_eq, leq_eq, gtr_eq, geq_eq, not_eq, minI_eq, maxI_eq, extract_0, extract_1, extract_2, eqlI, neqI, makeFunc_eq, decide_true, decide_false, if_true, if_false, Bool.false_eq_true, Bool.not_true, Bool.not_false, reduceIte, List.getElem?_toArray, List.getElem?_cons_zero, List.getElem?_cons_succ, Option.isSome_none, List.length_map]
    by_cases e : x = m.height
    · have e3 : (m.height == x) = true := by simp [e]
      have e4 : rootL l x = some m.root := by rw [hr, hdr]; simp [rootL, e]
      rw [e4] at hk
      simp only [e3, popO_some, bindH_eq, condV_bool, condV_true, condV_false, yV_bool, gopV_tt, gopV_ff, gopV_tf, gopV_ft, pickV_t, pickV_f, pickV_bool, nilS_ptr, add_eq, sub_eq, mul_eq, lss_eq, leq_eq, gtr_eq, geq_eq, not_eq, minI_eq, maxI_eq, extract_0, extract_1, extract_2, eqlI, neqI, makeFunc_eq, decide_true, decide_false, if_true, if_false, Bool.false_eq_true, Bool.not_true, Bool.not_false, reduceIte, List.getElem?_toArray, List.getElem?_cons_zero, List.getElem?_cons_succ, Option.isSome_none, List.length_map]
      exact hk
    · have e3 : (m.height == x) = false := by simp; exact fun h => e h.symm
      simp only [e3, popO_some, bindH_eq, condV_bool, condV_true, condV_false, yV_bool, gopV_tt, gopV_ff, gopV_tf, gopV_ft, pickV_t, pickV_f, pickV_bool, nilS_ptr, add_eq, sub_eq, mul_eq, lss_eq, leq_eq, gtr_eq, geq_eq, not_eq, minI_eq, maxI_eq, extract_0, extract_1, extract_2, eqlI, neqI, makeFunc_eq, decide_true, decide_false, if_true, if_false, Bool.false_eq_true, Bool.not_true, Bool.not_false, reduceIte, List.getElem?_toArray, List.getElem?_cons_zero, List.getElem?_cons_succ, Option.isSome_none, List.length_map]
      refine ⟨⟨i + 1, by omega, rfl, by trivial, ?_⟩, by simp [upTo, e5]; omega⟩
      rw [hr, hdr]
      simp [rootL, e]
  · have hd : ((i : Int) < (l.length : Int)) = False := by apply eq_false; omega
    have ha' : cellH h' ⟨a, 0, none⟩ = some v := by simp [cellH, ha]
    simp only [T_carrackref12_Client.f0, T_sl_carrackref12_Known.load, ha', lv, hd, popO_some, bindH_eq, condV_bool, condV_true, condV_false, yV_bool, gopV_tt, gopV_ff, gopV_tf, gopV_ft, pickV_t, pickV_f, pickV_bool, nilS_ptr, add_eq, sub_eq, mul_eq, lss_eq, leq_eq, gtr_eq, geq_eq, not_eq, minI_eq, maxI_eq, extract_0, extract_1, extract_2, eqlI, neqI, makeFunc_eq, decide_true, decide_false, if_true, if_false, Bool.false_eq_true, Bool.not_true, Bool.not_false, reduceIte, List.getElem?_toArray, List.getElem?_cons_zero, List.getElem?_cons_succ, Option.isSome_none, List.length_map]
    have e4 : rootL l x = none := by rw [hr, List.drop_of_length_le (by omega)]; rfl
    rw [e4] at hk
    exact hk
theorem hts_take {l : List Known} {i : Nat} {m : Known} (hm : l[i]? = some m) : hts (l.take (i + 1)) = hts (l.take i) ++ [m.height] := by
  rw [List.take_add_one, hm]; simp [hts]
theorem KLatest_ok {h : PH} {a : Nat} {l : List Known} {hs : List Int} {F : List Nat} (hR : KRefAt h a l F) (hl : l.length ≤ 1000000) (R : Ranked hs l) (hpos : ∀ y ∈ hts l, 0 ≤ y) {k : Value → PH → Prop}
    (hk : k (.int .u64 (latS hs)) h) : CallsH PG id_carrackref12_Client_Latest #[.pointer (some ⟨a, 0, none⟩)] h k := by
  obtain ⟨v, G, ha, hO, rfl, hn⟩ := hR
  have lv := hO.slR.len (t' := T_int) T_sl_carrackref12_Known.und
  rw [List.length_map] at lv
  apply carrackref12_Client_Latest.call
  unfold carrackref12_Client_Latest
  refine ⟨fun vs h' => ∃ (i : Nat) (best : Int), i ≤ l.length ∧ vs = [.pointer (some ⟨a, 0, none⟩), .int .u64 best, .int .i64 i] ∧ h' = h ∧ (best = 0 ∨ best ∈ hts (l.take i)) ∧ (∀ y ∈ hts (l.take i), y ≤ best) ∧ 0 ≤ best, upTo l.length 2, ⟨0, 0, by omega, rfl, rfl, .inl rfl, by simp [hts], by omega⟩, ?_⟩
  rintro ρ h' ⟨i, best, hi, hvs, rfl, q1, q2, q3⟩
  simp only [List.map_cons, List.map_nil, List.cons.injEq, and_true] at hvs
  obtain ⟨e0, e1, e5⟩ := hvs
  rw [e0, e1, e5]
  unfold carrackref12_Client_Latest_b2
  have ha' : cellH h' ⟨a, 0, none⟩ = some v := by simp [cellH, ha]
  by_cases hlt : i < l.length
  · have hd : ((i : Int) < (l.length : Int)) = True := by apply eq_true; omega
    obtain ⟨m, hm⟩ : ∃ m, l[i]? = some m := ⟨_, List.getElem?_eq_getElem hlt⟩
    obtain ⟨b, o, a1, a2, a3, -⟩ := hO.slR.kn (k := .i64) hm
    have e2 : IntKind.i64.wrap ((i : Int) + 1) = ((i + 1 : Nat) : Int) := by rw [i64_wrap (by omega) (by omega)]; omega
    have hmp : 0 ≤ m.height := hpos _ (List.mem_map_of_mem (List.mem_of_getElem? hm))
    simp only [T_carrackref12_Client.f0, T_sl_carrackref12_Known.load, ha', lv, hd, a1, T_carrackref12_Known.f0, T_uint64.load, a2, popO_some, bindH_eq, condV_bool, condV_true, condV_false, yV_bool, gopV_tt, gopV_ff, gopV_tf, gopV_ft, pickV_t, pickV_f, pickV_bool, nilS_ptr, add_eq, sub_eq, mul_eq, lss_eq, leq_eq, gtr_eq, geq_eq, not_eq, minI_eq, maxI_eq, extract_0, extract_1, extract_2, eqlI, neqI, makeFunc_eq, decide_true, decide_false, if_true, if_false, Bool.false_eq_true, Bool.not_true, Bool.not_false, reduceIte, List.getElem?_toArray, List.getElem?_cons_zero, List.getElem?_cons_succ, Option.isSome_none, List.length_map]
    by_cases e : best < m.height
    · simp only [e, popO_some, bindH_eq, condV_bool, condV_true, condV_false, yV_bool, gopV_tt, gopV_ff, gopV_tf, gopV_ft, pickV_t, pickV_f, pickV_bool, nilS_ptr, add_eq, sub_eq, mul_eq, lss_eq, leq_eq, gtr_eq, geq_eq, not_eq, minI_eq, maxI_eq, extract_0, extract_1, extract_2, eqlI, neqI, makeFunc_eq, decide_true, decide_false, if_true, if_false, Bool.false_eq_true, Bool.not_true, Bool.not_false, reduceIte, List.getElem?_toArray, List.getElem?_cons_zero, List.getElem?_cons_succ, Option.isSome_none, List.length_map]
      unfold carrackref12_Client_Latest_k21 carrackref12_Client_Latest_k22
      simp only [e2, popO_some, bindH_eq, condV_bool, condV_true, condV_false, yV_bool, gopV_tt, gopV_ff, gopV_tf, gopV_ft, pickV_t, pickV_f, pickV_bool, nilS_ptr, add_eq, sub_eq, mul_eq, lss_eq, leq_eq, gtr_eq, geq_eq, not_eq, minI_eq, maxI_eq, extract_0, extract_1, extract_2, eqlI, neqI, makeFunc_eq, decide_true, decide_false, if_true, if_false, Bool.false_eq_true, Bool.not_true, Bool.not_false, reduceIte, List.getElem?_toArray, List.getElem?_cons_zero, List.getElem?_cons_succ, Option.isSome_none, List.length_map]
      refine ⟨⟨i + 1, m.height, by omega, rfl, by trivial, .inr ?_, ?_, hmp⟩, by simp [upTo, e5]; omega⟩
      · rw [hts_take hm]; simp
      · intro y hy
        rw [hts_take hm] at hy
        rcases List.mem_append.1 hy with hy | hy
        · have := q2 y hy; omega
        · simp at hy; omega
    · simp only [e, popO_some, bindH_eq, condV_bool, condV_true, condV_false, yV_bool, gopV_tt, gopV_ff, gopV_tf, gopV_ft, pickV_t, pickV_f, pickV_bool, nilS_ptr, add_eq, sub_eq, mul_eq, lss_eq, leq_eq, gtr_eq, geq_eq, not_eq, minI_eq, maxI_eq, extract_0, extract_1, extract_2, eqlI, neqI, makeFunc_eq, decide_true, decide_false, if_true, if_false, Bool.false_eq_true, Bool.not_true, Bool.not_false, reduceIte, List.getElem?_toArray, List.getElem?_cons_zero, List.getElem?_cons_succ, Option.isSome_none, List.length_map]
      unfold carrackref12_Client_Latest_k21 carrackref12_Client_Latest_k22
      simp only [e2, popO_some, bindH_eq, condV_bool, condV_true, condV_false, yV_bool, gopV_tt, gopV_ff, gopV_tf, gopV_ft, pickV_t, pickV_f, pickV_bool, nilS_ptr, add_eq, sub_eq, mul_eq, lss_eq, leq_eq, gtr_eq, geq_eq, not_eq, minI_eq, maxI_eq, extract_0, extract_1, extract_2, eqlI, neqI, makeFunc_eq, decide_true, decide_false, if_true, if_false, Bool.false_eq_true, Bool.not_true, Bool.not_false, reduceIte, List.getElem?_toArray, List.getElem?_cons_zero, List.getElem?_cons_succ, Option.isSome_none, List.length_map]
      refine ⟨⟨i + 1, best, by omega, rfl, by trivial, ?_, ?_, q3⟩, by simp [upTo, e5]; omega⟩
      · rw [hts_take hm]; simp; rcases q1 with h | h
        · exact .inl h
        · exact .inr (.inl h)
      · intro y hy
        rw [hts_take hm] at hy
        rcases List.mem_append.1 hy with hy | hy
        · exact q2 y hy
        · simp at hy; omega
  · have hd : ((i : Int) < (l.length : Int)) = False := by apply eq_false; omega
    simp only [T_carrackref12_Client.f0, T_sl_carrackref12_Known.load, ha', lv, hd, popO_some, bindH_eq, condV_bool, condV_true, condV_false, yV_bool, gopV_tt, gopV_ff, gopV_tf, gopV_ft, pickV_t, pickV_f, pickV_bool, nilS_ptr, add_eq, sub_eq, mul_eq, lss_eq, leq_eq, gtr_eq, geq_eq, not_eq, minI_eq, maxI_eq, extract_0, extract_1, extract_2, eqlI, neqI, makeFunc_eq, decide_true, decide_false, if_true, if_false, Bool.false_eq_true, Bool.not_true, Bool.not_false, reduceIte, List.getElem?_toArray, List.getElem?_cons_zero, List.getElem?_cons_succ, Option.isSome_none, List.length_map]
    rw [List.take_of_length_le (by omega)] at q1 q2
    rw [latS_eq R hpos q1 q2 q3] at hk
    exact hk
set_option maxRecDepth 20000 in
theorem KFrom_ok {h : PH} {a : Nat} {l : List Known} {hs : List Int} {F : List Nat} (hR : KRefAt h a l F) (hl : l.length ≤ 1000000) (R : Ranked hs l) (x : Int) {k : Value → PH → Prop}
    (hk : k (.tuple #[.int .u64 ((fromS hs x).getD 0), .bool (fromS hs x).isSome]) h) : CallsH PG id_carrackref12_Client_From #[.pointer (some ⟨a, 0, none⟩), .int .u64 x] h k := by
  obtain ⟨v, G, ha, hO, rfl, hn⟩ := hR
  have lv := hO.slR.len (t' := T_int) T_sl_carrackref12_Known.und
  rw [List.length_map] at lv
  apply carrackref12_Client_From.call
  unfold carrackref12_Client_From
  refine ⟨fun vs h' => ∃ (i : Nat) (best : Int) (ok : Bool), i ≤ l.length ∧ vs = [.pointer (some ⟨a, 0, none⟩), .int .u64 x, .int .u64 best, .bool ok, .int .i64 i] ∧ h' = h ∧ leastAt (hts (l.take i)) x best ok, upTo l.length 4, ⟨0, 0, false, by omega, rfl, rfl, by simp [leastAt, hts]⟩, ?_⟩
  rintro ρ h' ⟨i, best, ok, hi, hvs, rfl, q⟩
  simp only [List.map_cons, List.map_nil, List.cons.injEq, and_true] at hvs
  obtain ⟨e0, e1, e2, e3, e5⟩ := hvs
  rw [e0, e1, e2, e3, e5]
  unfold carrackref12_Client_From_b2
  have ha' : cellH h' ⟨a, 0, none⟩ = some v := by simp [cellH, ha]
  by_cases hlt : i < l.length
  · have hd : ((i : Int) < (l.length : Int)) = True := by apply eq_true; omega
    obtain ⟨m, hm⟩ : ∃ m, l[i]? = some m := ⟨_, List.getElem?_eq_getElem hlt⟩
    obtain ⟨b, o, a1, a2, a3, -⟩ := hO.slR.kn (k := .i64) hm
    have ei : IntKind.i64.wrap ((i : Int) + 1) = ((i + 1 : Nat) : Int) := by rw [i64_wrap (by omega) (by omega)]; omega
    simp only [T_carrackref12_Client.f0, T_sl_carrackref12_Known.load, ha', lv, hd, a1, T_carrackref12_Known.f0, T_uint64.load, a2, popO_some, bindH_eq, condV_bool, condV_true, condV_false, yV_bool, gopV_tt, gopV_ff, gopV_tf, gopV_ft, pickV_t, pickV_f, pickV_bool, nilS_ptr, add_eq, sub_eq, mul_eq, lss_eq, leq_eq, gtr_eq, geq_eq, not_eq, minI_eq, maxI_eq, extract_0, extract_1, extract_2, eqlI, neqI, makeFunc_eq, decide_true, decide_false, if_true, if_false, Bool.false_eq_true, Bool.not_true, Bool.not_false, reduceIte, List.getElem?_toArray, List.getElem?_cons_zero, List.getElem?_cons_succ, Option.isSome_none, List.length_map]
    have yes : x ≤ m.height → (ok = true → m.height < best) → leastAt (hts (l.take (i + 1))) x m.height true := by
      intro h1 h2
      rw [hts_take hm]
      unfold leastAt at q ⊢
      simp only [if_true]
      refine ⟨by simp, h1, fun y hy hxy => ?_⟩
      rcases List.mem_append.1 hy with hy | hy
      · cases ok with
        | true =>
          have h3 := h2 rfl
          simp only [if_true] at q
          have := q.2.2 y hy hxy
          omega
        | false =>
          simp only [Bool.false_eq_true, if_false] at q
          exact absurd hxy (q.2 y hy)
      · simp at hy; omega
    have no : (¬ x ≤ m.height ∨ ok = true ∧ best ≤ m.height) → leastAt (hts (l.take (i + 1))) x best ok := by
      intro h1
      rw [hts_take hm]
      unfold leastAt at q ⊢
      cases ok with
      | true =>
        simp only [if_true] at q ⊢
        refine ⟨by simp [q.1], q.2.1, fun y hy hxy => ?_⟩
        rcases List.mem_append.1 hy with hy | hy
        · exact q.2.2 y hy hxy
        · simp at hy
          subst hy
          rcases h1 with h1 | h1
          · exact absurd hxy h1
          · exact h1.2
      | false =>
        simp only [Bool.false_eq_true, if_false] at q ⊢
        refine ⟨q.1, fun y hy => ?_⟩
        rcases List.mem_append.1 hy with hy | hy
        · exact q.2 y hy
        · simp at hy
          subst hy
          rcases h1 with h1 | h1
          · exact h1
          · cases h1.1
    by_cases c : x ≤ m.height
    · cases ok with
      | false =>
        simp only [c, popO_some, bindH_eq, condV_bool, condV_true, condV_false, yV_bool, gopV_tt, gopV_ff, gopV_tf, gopV_ft, pickV_t, pickV_f, pickV_bool, nilS_ptr, add_eq, sub_eq, mul_eq, lss_eq, leq_eq, gtr_eq, geq_eq, not_eq, minI_eq, maxI_eq, extract_0, extract_1, extract_2, eqlI, neqI, makeFunc_eq, decide_true, decide_false, if_true, if_false, Bool.false_eq_true, Bool.not_true, Bool.not_false, reduceIte, List.getElem?_toArray, List.getElem?_cons_zero, List.getElem?_cons_succ, Option.isSome_none, List.length_map]
        unfold carrackref12_Client_From_k40 carrackref12_Client_From_k41
        simp only [ei, popO_some, bindH_eq, condV_bool, condV_true, condV_false, yV_bool, gopV_tt, gopV_ff, gopV_tf, gopV_ft, pickV_t, pickV_f, pickV_bool, nilS_ptr, add_eq, sub_eq, mul_eq, lss_eq, leq_eq, gtr_eq, geq_eq, not_eq, minI_eq, maxI_eq, extract_0, extract_1, extract_2, eqlI, neqI, makeFunc_eq, decide_true, decide_false, if_true, if_false, Bool.false_eq_true, Bool.not_true, Bool.not_false, reduceIte, List.getElem?_toArray, List.getElem?_cons_zero, List.getElem?_cons_succ, Option.isSome_none, List.length_map]
        exact ⟨⟨i + 1, m.height, true, by omega, rfl, by trivial, yes c (by simp)⟩, by simp [upTo, e5]; omega⟩
      | true =>
        by_cases c2 : m.height < best
        · simp only [c, c2, popO_some, bindH_eq, condV_bool, condV_true, condV_false, yV_bool, gopV_tt, gopV_ff, gopV_tf, gopV_ft, pickV_t, pickV_f, pickV_bool, nilS_ptr, add_eq, sub_eq, mul_eq, lss_eq, leq_eq, gtr_eq, geq_eq, not_eq, minI_eq, maxI_eq, extract_0, extract_1, extract_2, eqlI, neqI, makeFunc_eq, decide_true, decide_false, if_true, if_false, Bool.false_eq_true, Bool.not_true, Bool.not_false, reduceIte, List.getElem?_toArray, List.getElem?_cons_zero, List.getElem?_cons_succ, Option.isSome_none, List.length_map]
          unfold carrackref12_Client_From_k40 carrackref12_Client_From_k41
          simp only [ei, popO_some, bindH_eq, condV_bool, condV_true, condV_false, yV_bool, gopV_tt, gopV_ff, gopV_tf, gopV_ft, pickV_t, pickV_f, pickV_bool, nilS_ptr, add_eq, sub_eq, mul_eq, lss_eq, leq_eq, gtr_eq, geq_eq, not_eq, minI_eq, maxI_eq, extract_0, extract_1, extract_2, eqlI, neqI, makeFunc_eq, decide_true, decide_false, if_true, if_false, Bool.false_eq_true, Bool.not_true, Bool.not_false, reduceIte, List.getElem?_toArray, List.getElem?_cons_zero, List.getElem?_cons_succ, Option.isSome_none, List.length_map]
          exact ⟨⟨i + 1, m.height, true, by omega, rfl, by trivial, yes c (fun _ => c2)⟩, by simp [upTo, e5]; omega⟩
        · simp only [c, c2, popO_some, bindH_eq, condV_bool, condV_true, condV_false, yV_bool, gopV_tt, gopV_ff, gopV_tf, gopV_ft, pickV_t, pickV_f, pickV_bool, nilS_ptr, add_eq, sub_eq, mul_eq, lss_eq, leq_eq, gtr_eq, geq_eq, not_eq, minI_eq, maxI_eq, extract_0, extract_1, extract_2, eqlI, neqI, makeFunc_eq, decide_true, decide_false, if_true, if_false, Bool.false_eq_true, Bool.not_true, Bool.not_false, reduceIte, List.getElem?_toArray, List.getElem?_cons_zero, List.getElem?_cons_succ, Option.isSome_none, List.length_map]
          unfold carrackref12_Client_From_k40 carrackref12_Client_From_k41
          simp only [ei, popO_some, bindH_eq, condV_bool, condV_true, condV_false, yV_bool, gopV_tt, gopV_ff, gopV_tf, gopV_ft, pickV_t, pickV_f, pickV_bool, nilS_ptr, add_eq, sub_eq, mul_eq, lss_eq, leq_eq, gtr_eq, geq_eq, not_eq, minI_eq, maxI_eq, extract_0, extract_1, extract_2, eqlI, neqI, makeFunc_eq, decide_true, decide_false, if_true, if_false, Bool.false_eq_true, Bool.not_true, Bool.not_false, reduceIte, List.getElem?_toArray, List.getElem?_cons_zero, List.getElem?_cons_succ, Option.isSome_none, List.length_map]
          exact ⟨⟨i + 1, best, true, by omega, rfl, by trivial, no (.inr ⟨rfl, by omega⟩)⟩, by simp [upTo, e5]; omega⟩
    · simp only [c, popO_some, bindH_eq, condV_bool, condV_true, condV_false, yV_bool, gopV_tt, gopV_ff, gopV_tf, gopV_ft, pickV_t, pickV_f, pickV_bool, nilS_ptr, add_eq, sub_eq, mul_eq, lss_eq, leq_eq, gtr_eq, geq_eq, not_eq, minI_eq, maxI_eq, extract_0, extract_1, extract_2, eqlI, neqI, makeFunc_eq, decide_true, decide_false, if_true, if_false, Bool.false_eq_true, Bool.not_true, Bool.not_false, reduceIte, List.getElem?_toArray, List.getElem?_cons_zero, List.getElem?_cons_succ, Option.isSome_none, List.length_map]
      unfold carrackref12_Client_From_k40 carrackref12_Client_From_k41
      simp only [ei, popO_some, bindH_eq, condV_bool, condV_true, condV_false, yV_bool, gopV_tt, gopV_ff, gopV_tf, gopV_ft, pickV_t, pickV_f, pickV_bool, nilS_ptr, add_eq, sub_eq, mul_eq, lss_eq, leq_eq, gtr_eq, geq_eq, not_eq, minI_eq, maxI_eq, extract_0, extract_1, extract_2, eqlI, neqI, makeFunc_eq, decide_true, decide_false, if_true, if_false, Bool.false_eq_true, Bool.not_true, Bool.not_false, reduceIte, List.getElem?_toArray, List.getElem?_cons_zero, List.getElem?_cons_succ, Option.isSome_none, List.length_map]
      exact ⟨⟨i + 1, best, ok, by omega, rfl, by trivial, no (.inl c)⟩, by simp [upTo, e5]; omega⟩
  · have hd : ((i : Int) < (l.length : Int)) = False := by apply eq_false; omega
    simp only [T_carrackref12_Client.f0, T_sl_carrackref12_Known.load, ha', lv, hd, popO_some, bindH_eq, condV_bool, condV_true, condV_false, yV_bool, gopV_tt, gopV_ff, gopV_tf, gopV_ft, pickV_t, pickV_f, pickV_bool, nilS_ptr, add_eq, sub_eq, mul_eq, lss_eq, leq_eq, gtr_eq, geq_eq, not_eq, minI_eq, maxI_eq, extract_0, extract_1, extract_2, eqlI, neqI, makeFunc_eq, decide_true, decide_false, if_true, if_false, Bool.false_eq_true, Bool.not_true, Bool.not_false, reduceIte, List.getElem?_toArray, List.getElem?_cons_zero, List.getElem?_cons_succ, Option.isSome_none, List.length_map]
    rw [List.take_of_length_le (by omega)] at q
    obtain ⟨p1, p2⟩ := leastAt_eq R q
    rw [p1, p2] at hk
    exact hk
theorem u64_wrap {x : Int} (h1 : 0 ≤ x) (h2 : x < 18446744073709551616) : IntKind.u64.wrap x = x := by
  unfold IntKind.wrap
  simp [IntKind.signed, IntKind.bits]
  omega
theorem kn_lit0 : SemA PG (Instr.buildSlice T_sl_carrackref12_Known 0 #[]) = some (.cells #[] T_carrackref12_Known, fun r => pure (.slice (some ⟨r, 0, none⟩) 0 0)) := by kernel_rfl
theorem kn_lit1 (m : Known) : SemA PG (Instr.buildSlice T_sl_carrackref12_Known 1 #[(0, .agg m.cells.toArray)]) = some (.cells m.cells.toArray T_carrackref12_Known, fun r => pure (.slice (some ⟨r, 0, none⟩) 1 1)) := by kernel_rfl
theorem kn_build (m : Known) : SemP PG (Instr.build T_carrackref12_Known #[(0, .int .u64 m.height), (1, .string m.root)]) = some (.agg m.cells.toArray) := by kernel_rfl
set_option maxRecDepth 20000 in
theorem KSet_ok {h : PH} {a : Nat} {l : List Known} {F : List Nat} (hR : KRefAt h a l F) (hl : l.length ≤ 4096) (x : Known) {k : Value → PH → Prop}
    (hk : ∀ h' F', KRefAt h' a (setK l x).2 F' → Upd [a] h h' → (∀ b ∈ F', b ∈ F ∨ h b = none) → k (.int .i64 (setK l x).1) h') : CallsH PG id_carrackref12_Client_Set #[.pointer (some ⟨a, 0, none⟩), .int .u64 x.height, .string x.root] h k := by
  apply carrackref12_Client_Set.call
  unfold carrackref12_Client_Set
  unfold setK at hk
  simp only [T_string.len, popO_some, bindH_eq, condV_bool, condV_true, condV_false, yV_bool, gopV_tt, gopV_ff, gopV_tf, gopV_ft, pickV_t, pickV_f, pickV_bool, nilS_ptr, add_eq, sub_eq, mul_eq, lss_eq, leq_eq, gtr_eq, geq_eq, not_eq, minI_eq, maxI_eq, extract_0, extract_1, extract_2, eqlI, neqI, makeFunc_eq, decide_true, decide_false, if_true, if_false, Bool.false_eq_true, Bool.not_true, Bool.not_false, reduceIte, List.getElem?_toArray, List.getElem?_cons_zero, List.getElem?_cons_succ, Option.isSome_none, List.length_map]
  by_cases c1 : x.root.size = 32
  · have e1 : ((x.root.size : Int) != 32) = false := by simp [c1]
    rw [if_neg (by simpa using c1)] at hk
    simp only [e1, popO_some, bindH_eq, condV_bool, condV_true, condV_false, yV_bool, gopV_tt, gopV_ff, gopV_tf, gopV_ft, pickV_t, pickV_f, pickV_bool, nilS_ptr, add_eq, sub_eq, mul_eq, lss_eq, leq_eq, gtr_eq, geq_eq, not_eq, minI_eq, maxI_eq, extract_0, extract_1, extract_2, eqlI, neqI, makeFunc_eq, decide_true, decide_false, if_true, if_false, Bool.false_eq_true, Bool.not_true, Bool.not_false, reduceIte, List.getElem?_toArray, List.getElem?_cons_zero, List.getElem?_cons_succ, Option.isSome_none, List.length_map]
    refine KRoot_ok hR (by omega) x.height ?_
    simp only [rootL_some, popO_some, bindH_eq, condV_bool, condV_true, condV_false, yV_bool, gopV_tt, gopV_ff, gopV_tf, gopV_ft, pickV_t, pickV_f, pickV_bool, nilS_ptr, add_eq, sub_eq, mul_eq, lss_eq, leq_eq, gtr_eq, geq_eq, not_eq, minI_eq, maxI_eq, extract_0, extract_1, extract_2, eqlI, neqI, makeFunc_eq, decide_true, decide_false, if_true, if_false, Bool.false_eq_true, Bool.not_true, Bool.not_false, reduceIte, List.getElem?_toArray, List.getElem?_cons_zero, List.getElem?_cons_succ, Option.isSome_none, List.length_map]
    by_cases c2 : x.height ∈ hts l
    · simp only [c2, popO_some, bindH_eq, condV_bool, condV_true, condV_false, yV_bool, gopV_tt, gopV_ff, gopV_tf, gopV_ft, pickV_t, pickV_f, pickV_bool, nilS_ptr, add_eq, sub_eq, mul_eq, lss_eq, leq_eq, gtr_eq, geq_eq, not_eq, minI_eq, maxI_eq, extract_0, extract_1, extract_2, eqlI, neqI, makeFunc_eq, decide_true, decide_false, if_true, if_false, Bool.false_eq_true, Bool.not_true, Bool.not_false, reduceIte, List.getElem?_toArray, List.getElem?_cons_zero, List.getElem?_cons_succ, Option.isSome_none, List.length_map]
      rw [if_pos c2] at hk
      exact hk _ _ hR Upd.refl (fun b hb => .inl hb)
    · rw [if_neg c2] at hk
      obtain ⟨v, G, ha, hO, hF, hn⟩ := hR.here
      have lv := hO.slR.len (t' := T_int) T_sl_carrackref12_Known.und
      rw [List.length_map] at lv
      have ha' : cellH h ⟨a, 0, none⟩ = some v := by simp [cellH, ha]
      simp only [c2, T_carrackref12_Client.f0, T_sl_carrackref12_Known.load, ha', lv, popO_some, bindH_eq, condV_bool, condV_true, condV_false, yV_bool, gopV_tt, gopV_ff, gopV_tf, gopV_ft, pickV_t, pickV_f, pickV_bool, nilS_ptr, add_eq, sub_eq, mul_eq, lss_eq, leq_eq, gtr_eq, geq_eq, not_eq, minI_eq, maxI_eq, extract_0, extract_1, extract_2, eqlI, neqI, makeFunc_eq, decide_true, decide_false, if_true, if_false, Bool.false_eq_true, Bool.not_true, Bool.not_false, reduceIte, List.getElem?_toArray, List.getElem?_cons_zero, List.getElem?_cons_succ, Option.isSome_none, List.length_map]
      by_cases c3 : 4096 ≤ l.length
      · have e3 : ((4096 : Int) ≤ (l.length : Int)) = True := by apply eq_true; omega
        simp only [e3, popO_some, bindH_eq, condV_bool, condV_true, condV_false, yV_bool, gopV_tt, gopV_ff, gopV_tf, gopV_ft, pickV_t, pickV_f, pickV_bool, nilS_ptr, add_eq, sub_eq, mul_eq, lss_eq, leq_eq, gtr_eq, geq_eq, not_eq, minI_eq, maxI_eq, extract_0, extract_1, extract_2, eqlI, neqI, makeFunc_eq, decide_true, decide_false, if_true, if_false, Bool.false_eq_true, Bool.not_true, Bool.not_false, reduceIte, List.getElem?_toArray, List.getElem?_cons_zero, List.getElem?_cons_succ, Option.isSome_none, List.length_map]
        rw [if_pos c3] at hk
        exact hk _ _ hR Upd.refl (fun b hb => .inl hb)
      · have e3 : ((4096 : Int) ≤ (l.length : Int)) = False := by apply eq_false; omega
        rw [if_neg c3] at hk
        simp only [e3, kn_lit0, popO_some, bindH_eq, condV_bool, condV_true, condV_false, yV_bool, gopV_tt, gopV_ff, gopV_tf, gopV_ft, pickV_t, pickV_f, pickV_bool, nilS_ptr, add_eq, sub_eq, mul_eq, lss_eq, leq_eq, gtr_eq, geq_eq, not_eq, minI_eq, maxI_eq, extract_0, extract_1, extract_2, eqlI, neqI, makeFunc_eq, decide_true, decide_false, if_true, if_false, Bool.false_eq_true, Bool.not_true, Bool.not_false, reduceIte, List.getElem?_toArray, List.getElem?_cons_zero, List.getElem?_cons_succ, Option.isSome_none, List.length_map]
        intro r hr
        refine popO_pure ?_
        have u1 : Ext h (h.set r (.cells #[] T_carrackref12_Known)) := Upd.new hr
        have hN : OwnR (h.set r (.cells #[] T_carrackref12_Known)) T_carrackref12_Known 2 (.slice (some ⟨r, 0, none⟩) 0 0) [] [r] := OwnR.lit (by intro r hr; cases hr) set_same rfl (by simp) rfl
        have f1 : Fresh h [r] := Fresh.one hr
        generalize h.set r (.cells #[] T_carrackref12_Known) = h1 at *
        have ha1 : cellH h1 ⟨a, 0, none⟩ = some v := by simp [cellH, u1.get ha]
        simp only [ha1, popO_some, bindH_eq, condV_bool, condV_true, condV_false, yV_bool, gopV_tt, gopV_ff, gopV_tf, gopV_ft, pickV_t, pickV_f, pickV_bool, nilS_ptr, add_eq, sub_eq, mul_eq, lss_eq, leq_eq, gtr_eq, geq_eq, not_eq, minI_eq, maxI_eq, extract_0, extract_1, extract_2, eqlI, neqI, makeFunc_eq, decide_true, decide_false, if_true, if_false, Bool.false_eq_true, Bool.not_true, Bool.not_false, reduceIte, List.getElem?_toArray, List.getElem?_cons_zero, List.getElem?_cons_succ, Option.isSome_none, List.length_map]
        refine append_own T_sl_carrackref12_Known.und T_sl_carrackref12_Known.und T_carrackref12_Known.info T_carrackref12_Known.size T_carrackref12_Known.bytes T_carrackref12_Known.zero rfl (by decide) hN (hO.slR.ext u1) (Known.isCell _) (by simp; omega) ?_
        intro v2 h2 F2 hO2 u2 k2 _
        have w2 := u1.fresh u2 f1
        have f2 := f1.grow u1 k2
        rw [List.nil_append] at hO2
        simp only [kn_build, kn_lit1, popO_some, bindH_eq, condV_bool, condV_true, condV_false, yV_bool, gopV_tt, gopV_ff, gopV_tf, gopV_ft, pickV_t, pickV_f, pickV_bool, nilS_ptr, add_eq, sub_eq, mul_eq, lss_eq, leq_eq, gtr_eq, geq_eq, not_eq, minI_eq, maxI_eq, extract_0, extract_1, extract_2, eqlI, neqI, makeFunc_eq, decide_true, decide_false, if_true, if_false, Bool.false_eq_true, Bool.not_true, Bool.not_false, reduceIte, List.getElem?_toArray, List.getElem?_cons_zero, List.getElem?_cons_succ, Option.isSome_none, List.length_map]
        intro r3 hr3
        refine popO_pure ?_
        have u3 : Ext h2 (h2.set r3 (.cells x.cells.toArray T_carrackref12_Known)) := Upd.new hr3
        have hx3 : SlR (h2.set r3 (.cells x.cells.toArray T_carrackref12_Known)) 2 (.slice (some ⟨r3, 0, none⟩) 1 1) ([x].map Known.cells) := (OwnR.lit (Known.rows _) set_same (by simp) (by decide) (by simp)).slR
        generalize h2.set r3 (.cells x.cells.toArray T_carrackref12_Known) = h3 at *
        refine append_own T_sl_carrackref12_Known.und T_sl_carrackref12_Known.und T_carrackref12_Known.info T_carrackref12_Known.size T_carrackref12_Known.bytes T_carrackref12_Known.zero rfl (by decide) (hO2.ext u3) hx3 (Known.isCell _) (by simp; omega) ?_
        intro v4 h4 F4 hO4 u4 k4 _
        have w4 := (w2.trans u3).fresh u4 f2
        have f4 := f2.grow (w2.trans u3) k4
        rw [← List.map_append] at hO4
        have ha4 := w4.get ha
        have na4 : a ∉ F4 := fun hm' => by have := f4 a hm'; rw [ha] at this; cases this
        refine store_cell T_sl_carrackref12_Known.und rfl ha4 (by simp) ?_ T_sl_carrackref12_Known.info T_sl_carrackref12_Known.size ?_
        · obtain ⟨_, _, rfl, -⟩ := hO4.slR.here; rfl
        refine hk _ (a :: F4) ⟨v4, F4, by simpa using set_same, hO4.upd (Upd.set (F := [a]) (by simp)) (fun b hb => by simp; rintro rfl; exact na4 hb), rfl, na4⟩ (w4.upd.trans (Upd.set (by simp))) ?_
        intro b hb
        simp only [List.mem_cons] at hb
        rcases hb with rfl | hb
        · exact .inl (by rw [hF]; simp)
        · exact .inr (f4 b hb)
  · have e1 : ((x.root.size : Int) != 32) = true := by simp; omega
    rw [if_pos (by simpa using c1)] at hk
    simp only [e1, popO_some, bindH_eq, condV_bool, condV_true, condV_false, yV_bool, gopV_tt, gopV_ff, gopV_tf, gopV_ft, pickV_t, pickV_f, pickV_bool, nilS_ptr, add_eq, sub_eq, mul_eq, lss_eq, leq_eq, gtr_eq, geq_eq, not_eq, minI_eq, maxI_eq, extract_0, extract_1, extract_2, eqlI, neqI, makeFunc_eq, decide_true, decide_false, if_true, if_false, Bool.false_eq_true, Bool.not_true, Bool.not_false, reduceIte, List.getElem?_toArray, List.getElem?_cons_zero, List.getElem?_cons_succ, Option.isSome_none, List.length_map]
    exact hk _ _ hR Upd.refl (fun b hb => .inl hb)

theorem up_get {hs : List Int} (hup : hs.Pairwise (· < ·)) {i j : Nat} {x y : Int} (hi : hs[i]? = some x) (hj : hs[j]? = some y) (hij : i < j) : x < y := by
  obtain ⟨a, rfl⟩ := List.getElem?_eq_some_iff.1 hi
  obtain ⟨b, rfl⟩ := List.getElem?_eq_some_iff.1 hj
  exact List.pairwise_iff_getElem.1 hup i j a b hij
set_option maxRecDepth 20000 in
theorem KHeights_ok {h : PH} {a : Nat} {l : List Known} {hs : List Int} {F : List Nat} (hR : KRefAt h a l F) (hl : l.length ≤ 4096) (R : Ranked hs l) (hpos : ∀ y ∈ hts l, 0 ≤ y ∧ y < 18446744073709551616) {k : Value → PH → Prop}
    (hk : ∀ v' h' F', OwnR h' T_uint64 1 v' (hs.map ucell) F' → Ext h h' → Fresh h F' → k v' h') : CallsH PG id_carrackref12_Client_Heights #[.pointer (some ⟨a, 0, none⟩)] h k := by
  have hlen := R.len
  have hb : ∀ {i : Nat} {x : Int}, hs[i]? = some x → 0 ≤ x ∧ x < 18446744073709551616 := fun hi => hpos _ (R.mem.1 (List.mem_of_getElem? hi))
  apply carrackref12_Client_Heights.call
  unfold carrackref12_Client_Heights
  refine ⟨fun vs h' => ∃ (i : Nat) (v : Value) (at_ : Int) (G : List Nat), i ≤ hs.length ∧ vs = [.pointer (some ⟨a, 0, none⟩), v, .int .u64 at_] ∧ OwnR h' T_uint64 1 v ((hs.take i).map ucell) G ∧ Ext h h' ∧ Fresh h G ∧ (∀ j y, j < i → hs[j]? = some y → y < at_) ∧ (∀ j y, i ≤ j → hs[j]? = some y → at_ ≤ y),
    fun vs _ => match vs with | [_, .slice _ n _, _] => hs.length - n | _ => 0, ⟨0, .slice none 0 0, 0, [], by omega, rfl, OwnR.nil, Upd.refl, (fun b hb => by cases hb), (fun j y hj => absurd hj (by omega)), fun j y _ hy => (hb hy).1⟩, ?_⟩
  rintro ρ h' ⟨i, v, at_, G, hi, hvs, hO, u, f, q1, q2⟩
  simp only [List.map_cons, List.map_nil, List.cons.injEq, and_true] at hvs
  obtain ⟨e0, e1, e2⟩ := hvs
  rw [e0, e1, e2]
  unfold carrackref12_Client_Heights_b2
  refine KFrom_ok (hR.ext u) (by omega) R at_ ?_
  have hf : fromS hs at_ = hs[i]? := by
    refine fromS_cut ?_ ?_
    · intro y hy
      obtain ⟨j, hj, rfl⟩ := List.mem_iff_getElem.1 hy
      rw [List.length_take] at hj
      rw [List.getElem_take]
      exact q1 j _ (by omega) (List.getElem?_eq_getElem (by omega))
    · intro y hy
      obtain ⟨j, hj, rfl⟩ := List.mem_iff_getElem.1 hy
      rw [List.length_drop] at hj
      rw [List.getElem_drop]
      exact q2 (i + j) _ (by omega) (List.getElem?_eq_getElem (by omega))
  rw [hf]
  by_cases hlt : i < hs.length
  · obtain ⟨x, hx⟩ : ∃ x, hs[i]? = some x := ⟨_, List.getElem?_eq_getElem hlt⟩
    rw [hx]
    simp only [Option.getD_some, Option.isSome_some, ubuild, popO_some, bindH_eq, condV_bool, condV_true, condV_false, yV_bool, gopV_tt, gopV_ff, gopV_tf, gopV_ft, pickV_t, pickV_f, pickV_bool, nilS_ptr, add_eq, sub_eq, mul_eq, lss_eq, leq_eq, gtr_eq, geq_eq, not_eq, minI_eq, maxI_eq, extract_0, extract_1, extract_2, eqlI, neqI, makeFunc_eq, decide_true, decide_false, if_true, if_false, Bool.false_eq_true, Bool.not_true, Bool.not_false, reduceIte, List.getElem?_toArray, List.getElem?_cons_zero, List.getElem?_cons_succ, Option.isSome_none, List.length_map]
    intro r3 hr3
    refine popO_pure ?_
    have u3 : Ext h' (h'.set r3 (.cells #[.int .u64 x] T_uint64)) := Upd.new hr3
    have hx3 : SlR (h'.set r3 (.cells #[.int .u64 x] T_uint64)) 1 (.slice (some ⟨r3, 0, none⟩) 1 1) ([x].map ucell) := (OwnR.lit (ucell.rows _) set_same (by simp) (by decide) (by simp [ucell])).slR
    generalize h'.set r3 (.cells #[.int .u64 x] T_uint64) = h3 at *
    refine append_own T_sl_uint64.und T_sl_uint64.und T_uint64.info T_uint64.size T_uint64.bytes T_uint64.zero rfl (by decide) (hO.ext u3) hx3 (ucell.isCell _) (by simp; omega) ?_
    intro v4 h4 F4 hO4 u4 k4 _
    have w4 := (u.trans u3).fresh u4 f
    have f4 := f.grow (u.trans u3) k4
    rw [← List.map_append, show hs.take i ++ [x] = hs.take (i + 1) by rw [List.take_add_one, hx]; rfl] at hO4
    obtain ⟨b1, b2⟩ := hb hx
    by_cases c : x + 1 = 18446744073709551616
    · have e : IntKind.u64.wrap (x + 1) = 0 := by rw [c]; decide
      have ee : ((0 : Int) == 0) = true := rfl
      simp only [e, ee, popO_some, bindH_eq, condV_bool, condV_true, condV_false, yV_bool, gopV_tt, gopV_ff, gopV_tf, gopV_ft, pickV_t, pickV_f, pickV_bool, nilS_ptr, add_eq, sub_eq, mul_eq, lss_eq, leq_eq, gtr_eq, geq_eq, not_eq, minI_eq, maxI_eq, extract_0, extract_1, extract_2, eqlI, neqI, makeFunc_eq, decide_true, decide_false, if_true, if_false, Bool.false_eq_true, Bool.not_true, Bool.not_false, reduceIte, List.getElem?_toArray, List.getElem?_cons_zero, List.getElem?_cons_succ, Option.isSome_none, List.length_map]
      have hfull : hs.take (i + 1) = hs := by
        refine List.take_of_length_le ?_
        by_cases hh : i + 1 < hs.length
        · exfalso
          obtain ⟨y, hy⟩ : ∃ y, hs[i + 1]? = some y := ⟨_, List.getElem?_eq_getElem hh⟩
          have := up_get R.up hx hy (by omega)
          have := (hb hy).2
          omega
        · omega
      rw [hfull] at hO4
      exact hk _ _ _ hO4 w4 f4
    · have e : IntKind.u64.wrap (x + 1) = x + 1 := u64_wrap (by omega) (by omega)
      have ee : ((x + 1 : Int) == 0) = false := by simp; omega
      simp only [e, ee, popO_some, bindH_eq, condV_bool, condV_true, condV_false, yV_bool, gopV_tt, gopV_ff, gopV_tf, gopV_ft, pickV_t, pickV_f, pickV_bool, nilS_ptr, add_eq, sub_eq, mul_eq, lss_eq, leq_eq, gtr_eq, geq_eq, not_eq, minI_eq, maxI_eq, extract_0, extract_1, extract_2, eqlI, neqI, makeFunc_eq, decide_true, decide_false, if_true, if_false, Bool.false_eq_true, Bool.not_true, Bool.not_false, reduceIte, List.getElem?_toArray, List.getElem?_cons_zero, List.getElem?_cons_succ, Option.isSome_none, List.length_map]
      refine ⟨⟨i + 1, v4, x + 1, F4, by omega, rfl, hO4, w4, f4, fun j y hj hy => ?_, fun j y hj hy => ?_⟩, ?_⟩
      · by_cases hji : j = i
        · subst hji; rw [hx] at hy; cases hy; omega
        · have := up_get R.up hy hx (by omega); omega
      · have := up_get R.up hx hy (by omega); omega
      · obtain ⟨_, _, rfl, -⟩ := hO4.slR.here
        obtain ⟨_, _, rfl, -⟩ := hO.slR.here
        simp [e1]
        omega
  · have hn : hs[i]? = none := by simp; omega
    rw [hn]
    simp only [Option.isSome_none, popO_some, bindH_eq, condV_bool, condV_true, condV_false, yV_bool, gopV_tt, gopV_ff, gopV_tf, gopV_ft, pickV_t, pickV_f, pickV_bool, nilS_ptr, add_eq, sub_eq, mul_eq, lss_eq, leq_eq, gtr_eq, geq_eq, not_eq, minI_eq, maxI_eq, extract_0, extract_1, extract_2, eqlI, neqI, makeFunc_eq, decide_true, decide_false, if_true, if_false, Bool.false_eq_true, Bool.not_true, Bool.not_false, reduceIte, List.getElem?_toArray, List.getElem?_cons_zero, List.getElem?_cons_succ, Option.isSome_none, List.length_map]
    rw [List.take_of_length_le (by omega)] at hO
    exact hk _ _ _ hO u f

/-! ### the document's example -/
theorem zeros32 : SemA PG (Instr.makeSlice T_sl_uint8 (Value.int IntKind.i64 32) (Value.int IntKind.i64 32)) = some (.cells (((List.replicate 32 (0 : UInt8)).map bcell).flatten.toArray) T_uint8, fun r => pure (.slice (some ⟨r, 0, none⟩) 32 32)) := by kernel_rfl
set_option maxRecDepth 20000 in
theorem awake12_ok {h : PH} {k : Value → PH → Prop} (hk : ∀ h', Ext h h' → k (.bool true) h') : CallsH PG id_carracklaw12_awake #[] h k := by
  apply carracklaw12_awake.call
  unfold carracklaw12_awake
  refine CNew_ok fun a h1 F1 hC1 u1 f1 => ?_
  simp only [eqlPtrNil T_p_client_Client.und, Option.isNone_some, zeros32, popO_some, bindH_eq, condV_bool, condV_true, condV_false, yV_bool, gopV_tt, gopV_ff, gopV_tf, gopV_ft, pickV_t, pickV_f, pickV_bool, nilS_ptr, add_eq, sub_eq, mul_eq, lss_eq, leq_eq, gtr_eq, geq_eq, not_eq, minI_eq, maxI_eq, extract_0, extract_1, extract_2, eqlI, neqI, makeFunc_eq, decide_true, decide_false, if_true, if_false, Bool.false_eq_true, Bool.not_true, Bool.not_false, reduceIte, List.getElem?_toArray, List.getElem?_cons_zero, List.getElem?_cons_succ, Option.isSome_none, List.length_map]
  intro r hr
  refine popO_pure ?_
  have u2 : Ext h1 (h1.set r (.cells (((List.replicate 32 (0 : UInt8)).map bcell).flatten.toArray) T_uint8)) := Upd.new hr
  have hs2 : SlR (h1.set r (.cells (((List.replicate 32 (0 : UInt8)).map bcell).flatten.toArray) T_uint8)) 1 (.slice (some ⟨r, 0, none⟩) 32 32) ((List.replicate 32 (0 : UInt8)).map bcell) :=
    (OwnR.lit (bcell.rows _) set_same (by simp) (by decide) (by simp)).slR
  generalize h1.set r (.cells (((List.replicate 32 (0 : UInt8)).map bcell).flatten.toArray) T_uint8) = h2 at *
  simp only [conv_bytes T_sl_uint8.und T_uint8.und T_string.und hs2, popO_some, bindH_eq, condV_bool, condV_true, condV_false, yV_bool, gopV_tt, gopV_ff, gopV_tf, gopV_ft, pickV_t, pickV_f, pickV_bool, nilS_ptr, add_eq, sub_eq, mul_eq, lss_eq, leq_eq, gtr_eq, geq_eq, not_eq, minI_eq, maxI_eq, extract_0, extract_1, extract_2, eqlI, neqI, makeFunc_eq, decide_true, decide_false, if_true, if_false, Bool.false_eq_true, Bool.not_true, Bool.not_false, reduceIte, List.getElem?_toArray, List.getElem?_cons_zero, List.getElem?_cons_succ, Option.isSome_none, List.length_map]
  have hC2 := hC1.ext u2
  have w2 := u1.trans u2
  generalize hz : (⟨(List.replicate 32 (0 : UInt8)).toArray⟩ : ByteArray) = z
  have hzs : z.size = 32 := by rw [← hz]; rfl
  have s1 : setK [] ⟨9, z⟩ = (0, [⟨9, z⟩]) := by simp [setK, hzs, hts]
  have s2 : setK [⟨9, z⟩] ⟨5, z⟩ = (0, [⟨9, z⟩, ⟨5, z⟩]) := by simp [setK, hzs, hts]
  refine Set_ok hC2 ⟨9, z⟩ fun h3 hs3 F3 hC3 u3 k3 => ?_
  rw [s1] at hC3 ⊢
  have w3 := w2.fresh u3 f1
  have f3 := f1.grow w2 k3
  refine Set_ok hC3 ⟨5, z⟩ fun h4 hs4 F4 hC4 u4 k4 => ?_
  rw [s2] at hC4 ⊢
  have w4 := w3.fresh u4 f3
  have hr4 : hs4 = [5, 9] := by
    have p := hC4.rank.perm
    have up := hC4.rank.up
    have hl := hC4.rank.len
    match hs4, hl with
    | [x, y], _ =>
      have hx : x ∈ [9, 5] := p.mem_iff.1 (by simp)
      have hy : y ∈ [9, 5] := p.mem_iff.1 (by simp)
      simp at up hx hy
      rcases hx with rfl | rfl <;> rcases hy with rfl | rfl <;> first | rfl | (exfalso; omega)
  subst hr4
  refine From_ok hC4 6 fun h5 u5 => ?_
  have hC5 := hC4.ext u5
  have e1 : fromS [5, 9] 6 = some 9 := by decide
  have e2 : latS [5, 9] = 9 := by decide
  have e3 : ((0 : Int) == 0) = true := rfl
  have e4 : ((9 : Int) == 9) = true := rfl
  simp only [e1, Option.getD_some, Option.isSome_some, e3, e4, popO_some, bindH_eq, condV_bool, condV_true, condV_false, yV_bool, gopV_tt, gopV_ff, gopV_tf, gopV_ft, pickV_t, pickV_f, pickV_bool, nilS_ptr, add_eq, sub_eq, mul_eq, lss_eq, leq_eq, gtr_eq, geq_eq, not_eq, minI_eq, maxI_eq, extract_0, extract_1, extract_2, eqlI, neqI, makeFunc_eq, decide_true, decide_false, if_true, if_false, Bool.false_eq_true, Bool.not_true, Bool.not_false, reduceIte, List.getElem?_toArray, List.getElem?_cons_zero, List.getElem?_cons_succ, Option.isSome_none, List.length_map]
  refine Latest_ok hC5 ?_
  simp only [e2, e4, popO_some, bindH_eq, condV_bool, condV_true, condV_false, yV_bool, gopV_tt, gopV_ff, gopV_tf, gopV_ft, pickV_t, pickV_f, pickV_bool, nilS_ptr, add_eq, sub_eq, mul_eq, lss_eq, leq_eq, gtr_eq, geq_eq, not_eq, minI_eq, maxI_eq, extract_0, extract_1, extract_2, eqlI, neqI, makeFunc_eq, decide_true, decide_false, if_true, if_false, Bool.false_eq_true, Bool.not_true, Bool.not_false, reduceIte, List.getElem?_toArray, List.getElem?_cons_zero, List.getElem?_cons_succ, Option.isSome_none, List.length_map]
  exact hk _ (w4.trans u5)
end Go.Proofs.Ytbloalappckjhaa
