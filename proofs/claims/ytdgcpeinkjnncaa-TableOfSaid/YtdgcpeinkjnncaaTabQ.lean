/- the document's Of; TableOf; TableSame. -/
import Derived.Test.YtdgcpeinkjnncaaTabO
set_option maxRecDepth 40000
set_option linter.unusedSimpArgs false
set_option linter.unusedVariables false
namespace Go.Proofs.Ytdgcpeinkjnncaa
open Go

theorem ins_le {L : List It} (hs : Srt L) (i : It) : (insL L i).length ≤ L.length + 1 := by
  rw [ins_length_of hs]; split <;> omega
theorem ofL_len (l : List It) : (ofL l).length ≤ l.length := by
  unfold ofL
  have : ∀ (l L : List It), Srt L → (l.foldl insL L).length ≤ L.length + l.length := by
    intro l
    induction l with
    | nil => intro L _; simp
    | cons x l ih =>
      intro L hs
      rw [List.foldl_cons]
      have h1 := ih _ (hs.ins x)
      have h2 := ins_le hs x
      simp only [List.length_cons]; omega
  simpa using this l [] List.Pairwise.nil
theorem not_of_dup {l : List It} {i : Nat} (h : ¬ ((l.take i).map It.key).Nodup) : ¬ (l.map It.key).Nodup := fun hn => by
  apply h
  exact List.Nodup.sublist (List.Sublist.map _ (List.take_sublist i l)) hn
theorem ROf_ok {h : PH} {room : Int} {x : Value} {l : List It} (hx : SlR h 5 x (l.map It.cells)) (hl : l.length ≤ 900) (hw : ∀ m ∈ l, m.p.ok) {k : Value → PH → Prop}
    (hbad : ∀ h', Ext h h' → ofE room l ≠ 0 → k (.tuple #[.pointer none, .int .i64 (ofE room l)]) h')
    (hk : ∀ a h' F, ofE room l = 0 → RAt h' a (ofL l) room F → Fresh h F → Ext h h' → k (.tuple #[.pointer (some ⟨a, 0, none⟩), .int .i64 0]) h') : CallsH PG id_carrackref15_Of #[.int .i64 room, x] h k := by
  have lx := hx.len (t' := T_int) T_sl_api_Item.und
  rw [List.length_map] at lx
  apply carrackref15_Of.call
  unfold carrackref15_Of
  by_cases hroom : room < 1 ∨ 40 < room
  · have e : ofE room l = 1 := by unfold ofE; rw [if_pos hroom]
    have := hbad h Upd.refl (by rw [e]; decide)
    rw [e] at this
    by_cases d2 : room < 1
    · simp only [d2, popO_some, bindH_eq, condV_bool, condV_true, condV_false, yV_bool, gopV_tt, gopV_ff, gopV_tf, gopV_ft, pickV_t, pickV_f, pickV_bool, nilS_ptr, add_eq, sub_eq, mul_eq, lss_eq, leq_eq, gtr_eq, geq_eq, not_eq, minI_eq, maxI_eq, extract_0, extract_1, extract_2, eqlI, neqI, makeFunc_eq, decide_true, decide_false, if_true, if_false, Bool.false_eq_true, Bool.not_true, Bool.not_false, reduceIte, List.getElem?_toArray, List.getElem?_cons_zero, List.getElem?_cons_succ, Option.isSome_none, List.length_map]; exact this
    · have d3 : (40 < room) = True := by apply eq_true; omega
      simp only [d2, d3, popO_some, bindH_eq, condV_bool, condV_true, condV_false, yV_bool, gopV_tt, gopV_ff, gopV_tf, gopV_ft, pickV_t, pickV_f, pickV_bool, nilS_ptr, add_eq, sub_eq, mul_eq, lss_eq, leq_eq, gtr_eq, geq_eq, not_eq, minI_eq, maxI_eq, extract_0, extract_1, extract_2, eqlI, neqI, makeFunc_eq, decide_true, decide_false, if_true, if_false, Bool.false_eq_true, Bool.not_true, Bool.not_false, reduceIte, List.getElem?_toArray, List.getElem?_cons_zero, List.getElem?_cons_succ, Option.isSome_none, List.length_map]; exact this
  have d2 : (room < 1) = False := by apply eq_false; omega
  have d3 : (40 < room) = False := by apply eq_false; omega
  simp only [d2, d3, popO_some, bindH_eq, condV_bool, condV_true, condV_false, yV_bool, gopV_tt, gopV_ff, gopV_tf, gopV_ft, pickV_t, pickV_f, pickV_bool, nilS_ptr, add_eq, sub_eq, mul_eq, lss_eq, leq_eq, gtr_eq, geq_eq, not_eq, minI_eq, maxI_eq, extract_0, extract_1, extract_2, eqlI, neqI, makeFunc_eq, decide_true, decide_false, if_true, if_false, Bool.false_eq_true, Bool.not_true, Bool.not_false, reduceIte, List.getElem?_toArray, List.getElem?_cons_zero, List.getElem?_cons_succ, Option.isSome_none, List.length_map]
  refine ⟨fun vs h' => ∃ i : Nat, i ≤ l.length ∧ vs = [.int .i64 room, x, .int .i64 i] ∧ Ext h h' ∧ (l.take i).all It.right = true, upTo l.length 2, ⟨0, by omega, rfl, Upd.refl, by simp⟩, ?_⟩
  rintro ρ h' ⟨i, hi, hvs, w, har⟩
  simp only [List.map_cons, List.map_nil, List.cons.injEq, and_true] at hvs
  obtain ⟨e0, e1, e2⟩ := hvs
  rw [e0, e1, e2]
  unfold carrackref15_Of_b11
  by_cases hlt : i < l.length
  · have hd : ((i : Int) < (l.length : Int)) = True := by apply eq_true; omega
    obtain ⟨m, hm⟩ : ∃ m, l[i]? = some m := ⟨_, List.getElem?_eq_getElem hlt⟩
    obtain ⟨y, y1, y2⟩ := (hx.ext w).it (k := .i64) hm
    have htake : l.take (i + 1) = l.take i ++ [m] := by rw [List.take_add_one, hm]; rfl
    have ei : IntKind.i64.wrap ((i : Int) + 1) = ((i + 1 : Nat) : Int) := by rw [i64_wrap (by omega) (by omega)]; omega
    have hwm := hw m (List.mem_of_getElem? hm)
    simp only [lx, hd, y1, y2, popO_some, bindH_eq, condV_bool, condV_true, condV_false, yV_bool, gopV_tt, gopV_ff, gopV_tf, gopV_ft, pickV_t, pickV_f, pickV_bool, nilS_ptr, add_eq, sub_eq, mul_eq, lss_eq, leq_eq, gtr_eq, geq_eq, not_eq, minI_eq, maxI_eq, extract_0, extract_1, extract_2, eqlI, neqI, makeFunc_eq, decide_true, decide_false, if_true, if_false, Bool.false_eq_true, Bool.not_true, Bool.not_false, reduceIte, List.getElem?_toArray, List.getElem?_cons_zero, List.getElem?_cons_succ, Option.isSome_none, List.length_map]
    refine RIRight_ok m hwm.1 hwm.2 fun h2 u2 => ?_
    cases hr : m.right with
    | false =>
      have e : ofE room l = 1 := by
        unfold ofE
        rw [if_neg hroom, if_pos]
        rw [List.all_eq_false]
        exact ⟨m, List.mem_of_getElem? hm, by simp [hr]⟩
      simp only [popO_some, bindH_eq, condV_bool, condV_true, condV_false, yV_bool, gopV_tt, gopV_ff, gopV_tf, gopV_ft, pickV_t, pickV_f, pickV_bool, nilS_ptr, add_eq, sub_eq, mul_eq, lss_eq, leq_eq, gtr_eq, geq_eq, not_eq, minI_eq, maxI_eq, extract_0, extract_1, extract_2, eqlI, neqI, makeFunc_eq, decide_true, decide_false, if_true, if_false, Bool.false_eq_true, Bool.not_true, Bool.not_false, reduceIte, List.getElem?_toArray, List.getElem?_cons_zero, List.getElem?_cons_succ, Option.isSome_none, List.length_map]
      have := hbad h2 (w.trans u2) (by rw [e]; decide)
      rw [e] at this; exact this
    | true =>
      simp only [ei, popO_some, bindH_eq, condV_bool, condV_true, condV_false, yV_bool, gopV_tt, gopV_ff, gopV_tf, gopV_ft, pickV_t, pickV_f, pickV_bool, nilS_ptr, add_eq, sub_eq, mul_eq, lss_eq, leq_eq, gtr_eq, geq_eq, not_eq, minI_eq, maxI_eq, extract_0, extract_1, extract_2, eqlI, neqI, makeFunc_eq, decide_true, decide_false, if_true, if_false, Bool.false_eq_true, Bool.not_true, Bool.not_false, reduceIte, List.getElem?_toArray, List.getElem?_cons_zero, List.getElem?_cons_succ, Option.isSome_none, List.length_map]
      exact ⟨⟨i + 1, by omega, rfl, w.trans u2, by rw [htake, List.all_append, har]; simp [hr]⟩, by simp [upTo, e2]; omega⟩
  · have hil : i = l.length := by omega
    have hd : ((i : Int) < (l.length : Int)) = False := by apply eq_false; omega
    rw [hil, List.take_length] at har
    have har' : ¬ l.all It.right = false := by rw [har]; simp
    have el : IntKind.i64.wrap ((l.length : Int) + 1) = ((l.length + 1 : Nat) : Int) := by rw [i64_wrap (by omega) (by omega)]; omega
    have rb : SemP PG (Instr.build T_carrackref15_Table #[(1, .int .i64 (l.length + 1 : Nat))]) = some (.agg #[.slice none 0 0, .int .i64 (l.length + 1 : Nat)]) := by kernel_rfl
    simp only [lx, hd, el, rb, popO_some, bindH_eq, condV_bool, condV_true, condV_false, yV_bool, gopV_tt, gopV_ff, gopV_tf, gopV_ft, pickV_t, pickV_f, pickV_bool, nilS_ptr, add_eq, sub_eq, mul_eq, lss_eq, leq_eq, gtr_eq, geq_eq, not_eq, minI_eq, maxI_eq, extract_0, extract_1, extract_2, eqlI, neqI, makeFunc_eq, decide_true, decide_false, if_true, if_false, Bool.false_eq_true, Bool.not_true, Bool.not_false, reduceIte, List.getElem?_toArray, List.getElem?_cons_zero, List.getElem?_cons_succ, Option.isSome_none, List.length_map]
    intro r hr
    try rw [bindH_eq]
    have u4 : Ext h' (h'.set r (.cells (Value.cells (.agg #[.slice none 0 0, .int .i64 (l.length + 1 : Nat)])) T_carrackref15_Table)) := Upd.new hr
    have R4 : RAt (h'.set r (.cells (Value.cells (.agg #[.slice none 0 0, .int .i64 (l.length + 1 : Nat)])) T_carrackref15_Table)) r [] (l.length + 1 : Nat) [r] := ⟨⟨.slice none 0 0, [], set_same, OwnR.nil, rfl, by simp⟩, List.Pairwise.nil⟩
    have fr0 : h r = none := w.none hr
    generalize h'.set r (.cells (Value.cells (.agg #[.slice none 0 0, .int .i64 (l.length + 1 : Nat)])) T_carrackref15_Table) = h4 at *
    refine ⟨fun vs h' => ∃ (i : Nat) (G : List Nat), i ≤ l.length ∧ vs = [.int .i64 room, x, .pointer (some ⟨r, 0, none⟩), .int .i64 i] ∧ RAt h' r (ofL (l.take i)) (l.length + 1 : Nat) G ∧ Fresh h G ∧ Ext h h' ∧ ((l.take i).map It.key).Nodup, upTo l.length 3,
      ⟨0, [r], by omega, rfl, R4, Fresh.one fr0, w.trans u4, by simp⟩, ?_⟩
    rintro ρ2 h5 ⟨q, G, hq, hvs2, HR, fG, w5, hnd⟩
    simp only [List.map_cons, List.map_nil, List.cons.injEq, and_true] at hvs2
    obtain ⟨g0, g1, g2, g3⟩ := hvs2
    rw [g0, g1, g2, g3]
    unfold carrackref15_Of_b26
    have hlen : (ofL (l.take q)).length ≤ q := by
      have h1 := ofL_len (l.take q)
      have h2 : (l.take q).length ≤ q := by rw [List.length_take]; omega
      omega
    by_cases hqlt : q < l.length
    · have hd : ((q : Int) < (l.length : Int)) = True := by apply eq_true; omega
      obtain ⟨m, hm⟩ : ∃ m, l[q]? = some m := ⟨_, List.getElem?_eq_getElem hqlt⟩
      obtain ⟨b, o, a1, a2, a3, _, a5⟩ := (hx.ext w5).itf (k := .i64) hm
      have htake : l.take (q + 1) = l.take q ++ [m] := by rw [List.take_add_one, hm]; rfl
      have ei : IntKind.i64.wrap ((q : Int) + 1) = ((q + 1 : Nat) : Int) := by rw [i64_wrap (by omega) (by omega)]; omega
      have hn := @nodup_snoc (l.take q) m
      simp only [lx, hd, a1, T_api_Item.f0, T_api_Packet.f0, T_api_Packet.f1, T_int.load, T_uint64.load, a2, a3, popO_some, bindH_eq, condV_bool, condV_true, condV_false, yV_bool, gopV_tt, gopV_ff, gopV_tf, gopV_ft, pickV_t, pickV_f, pickV_bool, nilS_ptr, add_eq, sub_eq, mul_eq, lss_eq, leq_eq, gtr_eq, geq_eq, not_eq, minI_eq, maxI_eq, extract_0, extract_1, extract_2, eqlI, neqI, makeFunc_eq, decide_true, decide_false, if_true, if_false, Bool.false_eq_true, Bool.not_true, Bool.not_false, reduceIte, List.getElem?_toArray, List.getElem?_cons_zero, List.getElem?_cons_succ, Option.isSome_none, List.length_map]
      refine Place_ok HR (by omega) m.key ?_
      have hgt : (getL (ofL (l.take q)) m.key).isSome = decide (m.key ∈ (l.take q).map It.key) := get_ofL (l.take q) m.key
      rw [hgt]
      by_cases hmem : m.key ∈ (l.take q).map It.key
      · have hdup : ¬ (l.map It.key).Nodup := not_of_dup (i := q + 1) (by rw [htake]; exact fun h => (hn.1 h).2 hmem)
        have e : ofE room l = 4 := by unfold ofE; rw [if_neg hroom, if_neg har', if_pos hdup]
        simp only [hmem, popO_some, bindH_eq, condV_bool, condV_true, condV_false, yV_bool, gopV_tt, gopV_ff, gopV_tf, gopV_ft, pickV_t, pickV_f, pickV_bool, nilS_ptr, add_eq, sub_eq, mul_eq, lss_eq, leq_eq, gtr_eq, geq_eq, not_eq, minI_eq, maxI_eq, extract_0, extract_1, extract_2, eqlI, neqI, makeFunc_eq, decide_true, decide_false, if_true, if_false, Bool.false_eq_true, Bool.not_true, Bool.not_false, reduceIte, List.getElem?_toArray, List.getElem?_cons_zero, List.getElem?_cons_succ, Option.isSome_none, List.length_map]
        have := hbad h5 w5 (by rw [e]; decide)
        rw [e] at this; exact this
      · have hg : getL (ofL (l.take q)) m.key = none := by
          rw [decide_eq_false hmem] at hgt
          simpa using hgt
        simp only [hmem, a1, a5, popO_some, bindH_eq, condV_bool, condV_true, condV_false, yV_bool, gopV_tt, gopV_ff, gopV_tf, gopV_ft, pickV_t, pickV_f, pickV_bool, nilS_ptr, add_eq, sub_eq, mul_eq, lss_eq, leq_eq, gtr_eq, geq_eq, not_eq, minI_eq, maxI_eq, extract_0, extract_1, extract_2, eqlI, neqI, makeFunc_eq, decide_true, decide_false, if_true, if_false, Bool.false_eq_true, Bool.not_true, Bool.not_false, reduceIte, List.getElem?_toArray, List.getElem?_cons_zero, List.getElem?_cons_succ, Option.isSome_none, List.length_map]
        refine RPut_ok HR (by omega) m hg fun h6 G6 H6 u6 f6 => ?_
        have e2 : putL (ofL (l.take q)) ((l.length + 1 : Nat) : Int) m = insL (ofL (l.take q)) m := by unfold putL; rw [if_neg (fun hc => by have := hc.2; omega)]
        rw [e2] at H6
        simp only [ei, popO_some, bindH_eq, condV_bool, condV_true, condV_false, yV_bool, gopV_tt, gopV_ff, gopV_tf, gopV_ft, pickV_t, pickV_f, pickV_bool, nilS_ptr, add_eq, sub_eq, mul_eq, lss_eq, leq_eq, gtr_eq, geq_eq, not_eq, minI_eq, maxI_eq, extract_0, extract_1, extract_2, eqlI, neqI, makeFunc_eq, decide_true, decide_false, if_true, if_false, Bool.false_eq_true, Bool.not_true, Bool.not_false, reduceIte, List.getElem?_toArray, List.getElem?_cons_zero, List.getElem?_cons_succ, Option.isSome_none, List.length_map]
        exact ⟨⟨q + 1, G6, by omega, rfl, by rw [htake, ofL_snoc]; exact H6, fG.grow w5 f6, w5.fresh u6 fG, by rw [htake]; exact hn.2 ⟨hnd, hmem⟩⟩, by simp [upTo, g3]; omega⟩
    · have hql : q = l.length := by omega
      have hd : ((q : Int) < (l.length : Int)) = False := by apply eq_false; omega
      rw [hql, List.take_length] at HR hnd
      by_cases hfull : room < (l.length : Int)
      · have e : ofE room l = 2 := by unfold ofE; rw [if_neg hroom, if_neg har', if_neg (fun h => h hnd), if_pos hfull]
        simp only [lx, hd, hfull, popO_some, bindH_eq, condV_bool, condV_true, condV_false, yV_bool, gopV_tt, gopV_ff, gopV_tf, gopV_ft, pickV_t, pickV_f, pickV_bool, nilS_ptr, add_eq, sub_eq, mul_eq, lss_eq, leq_eq, gtr_eq, geq_eq, not_eq, minI_eq, maxI_eq, extract_0, extract_1, extract_2, eqlI, neqI, makeFunc_eq, decide_true, decide_false, if_true, if_false, Bool.false_eq_true, Bool.not_true, Bool.not_false, reduceIte, List.getElem?_toArray, List.getElem?_cons_zero, List.getElem?_cons_succ, Option.isSome_none, List.length_map]
        have := hbad h5 w5 (by rw [e]; decide)
        rw [e] at this; exact this
      · have e : ofE room l = 0 := by unfold ofE; rw [if_neg hroom, if_neg har', if_neg (fun h => h hnd), if_neg hfull]
        obtain ⟨v, G', ha, hO, hG, hna⟩ := HR.here
        simp only [lx, hd, hfull, T_carrackref15_Table.f1, popO_some, bindH_eq, condV_bool, condV_true, condV_false, yV_bool, gopV_tt, gopV_ff, gopV_tf, gopV_ft, pickV_t, pickV_f, pickV_bool, nilS_ptr, add_eq, sub_eq, mul_eq, lss_eq, leq_eq, gtr_eq, geq_eq, not_eq, minI_eq, maxI_eq, extract_0, extract_1, extract_2, eqlI, neqI, makeFunc_eq, decide_true, decide_false, if_true, if_false, Bool.false_eq_true, Bool.not_true, Bool.not_false, reduceIte, List.getElem?_toArray, List.getElem?_cons_zero, List.getElem?_cons_succ, Option.isSome_none, List.length_map]
        refine store_cell T_int.und rfl ha (by simp) rfl T_int.info T_int.size ?_
        have u7 : Upd [r] h5 (h5.set r (.cells (#[v, .int .i64 (l.length + 1 : Nat)].setIfInBounds (0 + 1) (.int .i64 room)) T_carrackref15_Table (0, 0))) := Upd.set (by simp)
        have ha7 : (h5.set r (.cells (#[v, .int .i64 (l.length + 1 : Nat)].setIfInBounds (0 + 1) (.int .i64 room)) T_carrackref15_Table (0, 0))) r = some (.cells #[v, .int .i64 room] T_carrackref15_Table (0, 0)) := set_same
        generalize h5.set r (.cells (#[v, .int .i64 (l.length + 1 : Nat)].setIfInBounds (0 + 1) (.int .i64 room)) T_carrackref15_Table (0, 0)) = h7 at *
        exact hk r h7 G e ⟨⟨v, G', ha7, hO.upd u7 (fun b hb => by simp; rintro rfl; exact hna hb), hG, hna⟩, srt_ofL _⟩ fG (w5.fresh u7 (Fresh.one fr0))

theorem rptrNil {h : PH} {x y : Operand} {a : Nat} : SemE PG h (binS .eql T_p_carrackref15_Table x y (.pointer (some ⟨a, 0, none⟩)) (.pointer none)) = some (.bool false) := eqlPtrNil T_p_carrackref15_Table.und
theorem rptrNilT {h : PH} {x y : Operand} : SemE PG h (binS .eql T_p_carrackref15_Table x y (.pointer none) (.pointer none)) = some (.bool true) := eqlPtrNil T_p_carrackref15_Table.und
theorem of_ok {h0 : PH} {room : Int} {x : Value} {l : List It} (hx : SlR h0 5 x (l.map It.cells)) (hw : ∀ m ∈ l, m.p.ok) {k : Value → PH → Prop} (hk : ∀ h', Ext h0 h' → k (.bool true) h') : CallsH PG id_carracklaw15_TableOf #[.int .i64 room, x] h0 k := by
  have lx := hx.len (t' := T_int) T_sl_api_Item.und
  rw [List.length_map] at lx
  apply carracklaw15_TableOf.call
  unfold carracklaw15_TableOf
  refine awake_ok fun h1 u1 => ?_
  by_cases hl : 100 < l.length
  · have d1 : ((100 : Int) < (l.length : Int)) = True := by apply eq_true; omega
    simp only [lx, d1, popO_some, bindH_eq, condV_bool, condV_true, condV_false, yV_bool, gopV_tt, gopV_ff, gopV_tf, gopV_ft, pickV_t, pickV_f, pickV_bool, nilS_ptr, add_eq, sub_eq, mul_eq, lss_eq, leq_eq, gtr_eq, geq_eq, not_eq, minI_eq, maxI_eq, extract_0, extract_1, extract_2, eqlI, neqI, makeFunc_eq, decide_true, decide_false, if_true, if_false, Bool.false_eq_true, Bool.not_true, Bool.not_false, reduceIte, List.getElem?_toArray, List.getElem?_cons_zero, List.getElem?_cons_succ, Option.isSome_none, List.length_map]
    exact hk h1 u1
  have d1 : ((100 : Int) < (l.length : Int)) = False := by apply eq_false; omega
  simp only [lx, d1, popO_some, bindH_eq, condV_bool, condV_true, condV_false, yV_bool, gopV_tt, gopV_ff, gopV_tf, gopV_ft, pickV_t, pickV_f, pickV_bool, nilS_ptr, add_eq, sub_eq, mul_eq, lss_eq, leq_eq, gtr_eq, geq_eq, not_eq, minI_eq, maxI_eq, extract_0, extract_1, extract_2, eqlI, neqI, makeFunc_eq, decide_true, decide_false, if_true, if_false, Bool.false_eq_true, Bool.not_true, Bool.not_false, reduceIte, List.getElem?_toArray, List.getElem?_cons_zero, List.getElem?_cons_succ, Option.isSome_none, List.length_map]
  refine ⟨fun vs h' => ∃ i : Nat, i ≤ l.length ∧ vs = [.int .i64 room, x, .int .i64 i] ∧ h' = h1, upTo l.length 2, ⟨0, by omega, rfl, rfl⟩, ?_⟩
  rintro ρ h' ⟨i, hi, hvs, rfl⟩
  simp only [List.map_cons, List.map_nil, List.cons.injEq, and_true] at hvs
  obtain ⟨e0, e1, e2⟩ := hvs
  rw [e0, e1, e2]
  unfold carracklaw15_TableOf_b7
  by_cases hlt : i < l.length
  · have hd : ((i : Int) < (l.length : Int)) = True := by apply eq_true; omega
    obtain ⟨m, hm⟩ : ∃ m, l[i]? = some m := ⟨_, List.getElem?_eq_getElem hlt⟩
    obtain ⟨b, o, a1, a2, a3, a4, a5⟩ := (hx.ext u1).itf (k := .i64) hm
    have ei : IntKind.i64.wrap ((i : Int) + 1) = ((i + 1 : Nat) : Int) := by rw [i64_wrap (by omega) (by omega)]; omega
    by_cases hs : (300 : Int) < (m.p.d.size : Int)
    · simp only [lx, hd, a1, T_api_Item.f0, T_api_Packet.f3, T_string.load, a4, len_string T_string.und, hs, popO_some, bindH_eq, condV_bool, condV_true, condV_false, yV_bool, gopV_tt, gopV_ff, gopV_tf, gopV_ft, pickV_t, pickV_f, pickV_bool, nilS_ptr, add_eq, sub_eq, mul_eq, lss_eq, leq_eq, gtr_eq, geq_eq, not_eq, minI_eq, maxI_eq, extract_0, extract_1, extract_2, eqlI, neqI, makeFunc_eq, decide_true, decide_false, if_true, if_false, Bool.false_eq_true, Bool.not_true, Bool.not_false, reduceIte, List.getElem?_toArray, List.getElem?_cons_zero, List.getElem?_cons_succ, Option.isSome_none, List.length_map]
      exact hk _ u1
    · simp only [lx, hd, a1, T_api_Item.f0, T_api_Packet.f3, T_string.load, a4, len_string T_string.und, hs, ei, popO_some, bindH_eq, condV_bool, condV_true, condV_false, yV_bool, gopV_tt, gopV_ff, gopV_tf, gopV_ft, pickV_t, pickV_f, pickV_bool, nilS_ptr, add_eq, sub_eq, mul_eq, lss_eq, leq_eq, gtr_eq, geq_eq, not_eq, minI_eq, maxI_eq, extract_0, extract_1, extract_2, eqlI, neqI, makeFunc_eq, decide_true, decide_false, if_true, if_false, Bool.false_eq_true, Bool.not_true, Bool.not_false, reduceIte, List.getElem?_toArray, List.getElem?_cons_zero, List.getElem?_cons_succ, Option.isSome_none, List.length_map]
      exact ⟨⟨i + 1, by omega, rfl, by trivial⟩, by simp [upTo, e2]; omega⟩
  · have hd : ((i : Int) < (l.length : Int)) = False := by apply eq_false; omega
    simp only [lx, hd, popO_some, bindH_eq, condV_bool, condV_true, condV_false, yV_bool, gopV_tt, gopV_ff, gopV_tf, gopV_ft, pickV_t, pickV_f, pickV_bool, nilS_ptr, add_eq, sub_eq, mul_eq, lss_eq, leq_eq, gtr_eq, geq_eq, not_eq, minI_eq, maxI_eq, extract_0, extract_1, extract_2, eqlI, neqI, makeFunc_eq, decide_true, decide_false, if_true, if_false, Bool.false_eq_true, Bool.not_true, Bool.not_false, reduceIte, List.getElem?_toArray, List.getElem?_cons_zero, List.getElem?_cons_succ, Option.isSome_none, List.length_map]
    have z0 : ((0 : Int) != 0) = false := by decide
    refine Of_ok (hx.ext u1) (by omega) (fun h2 u2 hne => ?_) (fun a h2 F he H2 f2 u2 => ?_)
    · simp only [popO_some, bindH_eq, condV_bool, condV_true, condV_false, yV_bool, gopV_tt, gopV_ff, gopV_tf, gopV_ft, pickV_t, pickV_f, pickV_bool, nilS_ptr, add_eq, sub_eq, mul_eq, lss_eq, leq_eq, gtr_eq, geq_eq, not_eq, minI_eq, maxI_eq, extract_0, extract_1, extract_2, eqlI, neqI, makeFunc_eq, decide_true, decide_false, if_true, if_false, Bool.false_eq_true, Bool.not_true, Bool.not_false, reduceIte, List.getElem?_toArray, List.getElem?_cons_zero, List.getElem?_cons_succ, Option.isSome_none, List.length_map]
      have hee : (ofE room l != ofE room l) = false := by simp
      have hbb : (true != true) = false := by decide
      refine ROf_ok (hx.ext (u1.trans u2)) (by omega) hw (fun h3 u3 _ => ?_) (fun a h3 F he _ _ _ => absurd he hne)
      simp only [hee, ptrNilT, rptrNilT, neqB, hbb, popO_some, bindH_eq, condV_bool, condV_true, condV_false, yV_bool, gopV_tt, gopV_ff, gopV_tf, gopV_ft, pickV_t, pickV_f, pickV_bool, nilS_ptr, add_eq, sub_eq, mul_eq, lss_eq, leq_eq, gtr_eq, geq_eq, not_eq, minI_eq, maxI_eq, extract_0, extract_1, extract_2, eqlI, neqI, makeFunc_eq, decide_true, decide_false, if_true, if_false, Bool.false_eq_true, Bool.not_true, Bool.not_false, reduceIte, List.getElem?_toArray, List.getElem?_cons_zero, List.getElem?_cons_succ, Option.isSome_none, List.length_map]
      refine ⟨fun hc => by simp at hc, ?_⟩
      exact hk h3 ((u1.trans u2).trans u3)
    · simp only [popO_some, bindH_eq, condV_bool, condV_true, condV_false, yV_bool, gopV_tt, gopV_ff, gopV_tf, gopV_ft, pickV_t, pickV_f, pickV_bool, nilS_ptr, add_eq, sub_eq, mul_eq, lss_eq, leq_eq, gtr_eq, geq_eq, not_eq, minI_eq, maxI_eq, extract_0, extract_1, extract_2, eqlI, neqI, makeFunc_eq, decide_true, decide_false, if_true, if_false, Bool.false_eq_true, Bool.not_true, Bool.not_false, reduceIte, List.getElem?_toArray, List.getElem?_cons_zero, List.getElem?_cons_succ, Option.isSome_none, List.length_map]
      have hbb : (false != false) = false := by decide
      refine ROf_ok (hx.ext (u1.trans u2)) (by omega) hw (fun h3 u3 hne => absurd he hne) (fun r h3 G _ R3 f3 u3 => ?_)
      obtain ⟨v, G', hr, hO, hG, hna⟩ := R3.here
      have c0 : cellH h3 ⟨r, 0, none⟩ = some v := by simp [cellH, hr]
      simp only [z0, ptrNil, rptrNil, neqB, hbb, T_carrackref15_Table.f0, T_sl_api_Item.load, c0, popO_some, bindH_eq, condV_bool, condV_true, condV_false, yV_bool, gopV_tt, gopV_ff, gopV_tf, gopV_ft, pickV_t, pickV_f, pickV_bool, nilS_ptr, add_eq, sub_eq, mul_eq, lss_eq, leq_eq, gtr_eq, geq_eq, not_eq, minI_eq, maxI_eq, extract_0, extract_1, extract_2, eqlI, neqI, makeFunc_eq, decide_true, decide_false, if_true, if_false, Bool.false_eq_true, Bool.not_true, Bool.not_false, reduceIte, List.getElem?_toArray, List.getElem?_cons_zero, List.getElem?_cons_succ, Option.isSome_none, List.length_map]
      have hol := ofL_len l
      refine Items_ok (H2.ext u3) (by omega) fun v4 h4 G4 hO4 f4 u4 => ?_
      have c04 : cellH h4 ⟨r, 0, none⟩ = some v := by simp [cellH, u4.get hr]
      refine ⟨fun _ => c04, ?_⟩
      try simp only [popO_some, bindH_eq, condV_bool, condV_true, condV_false, yV_bool, gopV_tt, gopV_ff, gopV_tf, gopV_ft, pickV_t, pickV_f, pickV_bool, nilS_ptr, add_eq, sub_eq, mul_eq, lss_eq, leq_eq, gtr_eq, geq_eq, not_eq, minI_eq, maxI_eq, extract_0, extract_1, extract_2, eqlI, neqI, makeFunc_eq, decide_true, decide_false, if_true, if_false, Bool.false_eq_true, Bool.not_true, Bool.not_false, reduceIte, List.getElem?_toArray, List.getElem?_cons_zero, List.getElem?_cons_succ, Option.isSome_none, List.length_map]
      refine Same_ok hO4.slR (hO.ext u4).slR (by omega) ?_
      have e5 : decide (ofL l = ofL l) = true := by simp
      simp only [e5, popO_some, bindH_eq, condV_bool, condV_true, condV_false, yV_bool, gopV_tt, gopV_ff, gopV_tf, gopV_ft, pickV_t, pickV_f, pickV_bool, nilS_ptr, add_eq, sub_eq, mul_eq, lss_eq, leq_eq, gtr_eq, geq_eq, not_eq, minI_eq, maxI_eq, extract_0, extract_1, extract_2, eqlI, neqI, makeFunc_eq, decide_true, decide_false, if_true, if_false, Bool.false_eq_true, Bool.not_true, Bool.not_false, reduceIte, List.getElem?_toArray, List.getElem?_cons_zero, List.getElem?_cons_succ, Option.isSome_none, List.length_map]
      exact hk h4 (((u1.trans u2).trans u3).trans u4)
theorem TableOf_ok {h : PH} {x : Value} {r1 : List (List Value)} (room : Int) (hx : SlR h 5 x r1) {l : List It} (e1 : r1 = l.map It.cells ∧ ∀ c ∈ l, c.p.ok)
    {k : Value → PH → Prop} (hk : ∀ h', Ext h h' → k (.bool true) h') : CallsH PG id_carracklaw15_TableOf #[.int .i64 room, x] h k := by
  obtain ⟨rfl, h1⟩ := e1
  exact of_ok hx h1 hk
end Go.Proofs.Ytdgcpeinkjnncaa
