/- record: the card of RecordSteps. -/
import Derived.Test.YtlkjippiaghbmaaGreatR19RC5
/- the document's Of; TableOf; TableSame. -/
set_option maxRecDepth 40000
set_option linter.unusedSimpArgs false
set_option linter.unusedVariables false
namespace Go.Proofs.YtlkjippiaghbmaaGreat
open Go

theorem not_of_dup {l : List It} {i : Nat} (h : ¬ ((l.take i).map It.key).Nodup) : ¬ (l.map It.key).Nodup := fun hn => by
  apply h
  exact List.Nodup.sublist (List.Sublist.map _ (List.take_sublist i l)) hn
theorem ROf_ok {h : PH} {room : Int} {x : Value} {l : List It} (hx : SlR h 5 x (l.map It.cells)) (hl : l.length ≤ 900) (hw : ∀ m ∈ l, m.p.ok) {k : Value → PH → Prop}
    (hbad : ∀ h', Ext h h' → ofE room l ≠ 0 → k (.tuple #[.pointer none, .int .i64 (ofE room l)]) h')
    (hk : ∀ a h' F, ofE room l = 0 → RAt h' a (ofL l) room F → Fresh h F → Ext h h' → k (.tuple #[.pointer (some ⟨a, 0, none⟩), .int .i64 0]) h') : CallsH PG id_carrackref15_Of #[.int .i64 room, x] h k := by
  have lx := hx.len (t' := T_int) T_sl_api_Item.und
  rw [List.length_map] at lx
  apply carrackref15_Of.call
  unfold carrackref15_Of
  by_cases hroom : room < 1 ∨ 40 < room
  · have e : ofE room l = 1 := by unfold ofE; rw [if_pos hroom]
    have := hbad h Upd.refl (by rw [e]; decide)
    rw [e] at this
    by_cases d2 : room < 1
    · simp only [d2, popO_some, bindH_eq, condV_bool, condV_true, condV_false, yV_bool, gopV_tt, gopV_ff, gopV_tf, gopV_ft, pickV_t, pickV_f, pickV_bool, nilS_ptr, add_eq, sub_eq, mul_eq, lss_eq, leq_eq, gtr_eq, geq_eq, not_eq, minI_eq, maxI_eq, extract_0, extract_1, extract_2, eqlI, neqI, makeFunc_eq, decide_true, decide_false, if_true, if_false, Bool.false_eq_true, Bool.not_true, Bool.not_false, reduceIte, List.getElem?_toArray, List.getElem?_cons_zero, List.getElem?_cons_succ, Option.isSome_none, List.length_map]; exact this
    · have d3 : (40 < room) = True := by apply eq_true; omega
      simp only [d2, d3, popO_some, bindH_eq, condV_bool, condV_true, condV_false, yV_bool, gopV_tt, gopV_ff, gopV_tf, gopV_ft, pickV_t, pickV_f, pickV_bool, nilS_ptr, add_eq, sub_eq, mul_eq, lss_eq, leq_eq, gtr_eq, geq_eq, not_eq, minI_eq, maxI_eq, extract_0, extract_1, extract_2, eqlI, neqI, makeFunc_eq, decide_true, decide_false, if_true, if_false, Bool.false_eq_true, Bool.not_true, Bool.not_false, reduceIte, List.getElem?_toArray, List.getElem?_cons_zero, List.getElem?_cons_succ, Option.isSome_none, List.length_map]; exact this
  have d2 : (room < 1) = False := by apply eq_false; omega
  have d3 : (40 < room) = False := by apply eq_false; omega
  simp only [d2, d3, popO_some, bindH_eq, condV_bool, condV_true, condV_false, yV_bool, gopV_tt, gopV_ff, gopV_tf, gopV_ft, pickV_t, pickV_f, pickV_bool, nilS_ptr, add_eq, sub_eq, mul_eq, lss_eq, leq_eq, gtr_eq, geq_eq, not_eq, minI_eq, maxI_eq, extract_0, extract_1, extract_2, eqlI, neqI, makeFunc_eq, decide_true, decide_false, if_true, if_false, Bool.false_eq_true, Bool.not_true, Bool.not_false, reduceIte, List.getElem?_toArray, List.getElem?_cons_zero, List.getElem?_cons_succ, Option.isSome_none, List.length_map]
  refine ⟨fun vs h' => ∃ i : Nat, i ≤ l.length ∧ vs = [.int .i64 room, x, .int .i64 i] ∧ Ext h h' ∧ (l.take i).all It.right = true, upTo l.length 2, ⟨0, by omega, rfl, Upd.refl, by simp⟩, ?_⟩
  rintro ρ h' ⟨i, hi, hvs, w, har⟩
  simp only [List.map_cons, List.map_nil, List.cons.injEq, and_true] at hvs
  obtain ⟨e0, e1, e2⟩ := hvs
  rw [e0, e1, e2]
  unfold carrackref15_Of_b11
  by_cases hlt : i < l.length
  · have hd : ((i : Int) < (l.length : Int)) = True := by apply eq_true; omega
    obtain ⟨m, hm⟩ : ∃ m, l[i]? = some m := ⟨_, List.getElem?_eq_getElem hlt⟩
    obtain ⟨y, y1, y2⟩ := (hx.ext w).it (k := .i64) hm
    have htake : l.take (i + 1) = l.take i ++ [m] := by rw [List.take_add_one, hm]; rfl
    have ei : IntKind.i64.wrap ((i : Int) + 1) = ((i + 1 : Nat) : Int) := by rw [i64_wrap (by omega) (by omega)]; omega
    have hwm := hw m (List.mem_of_getElem? hm)
    simp only [lx, hd, y1, y2, popO_some, bindH_eq, condV_bool, condV_true, condV_false, yV_bool, gopV_tt, gopV_ff, gopV_tf, gopV_ft, pickV_t, pickV_f, pickV_bool, nilS_ptr, add_eq, sub_eq, mul_eq, lss_eq, leq_eq, gtr_eq, geq_eq, not_eq, minI_eq, maxI_eq, extract_0, extract_1, extract_2, eqlI, neqI, makeFunc_eq, decide_true, decide_false, if_true, if_false, Bool.false_eq_true, Bool.not_true, Bool.not_false, reduceIte, List.getElem?_toArray, List.getElem?_cons_zero, List.getElem?_cons_succ, Option.isSome_none, List.length_map]
    refine RIRight_ok m hwm.1 hwm.2 fun h2 u2 => ?_
    cases hr : m.right with
    | false =>
      have e : ofE room l = 1 := by
        unfold ofE
        rw [if_neg hroom, if_pos]
        rw [List.all_eq_false]
        exact ⟨m, List.mem_of_getElem? hm, by simp [hr]⟩
      simp only [popO_some, bindH_eq, condV_bool, condV_true, condV_false, yV_bool, gopV_tt, gopV_ff, gopV_tf, gopV_ft, pickV_t, pickV_f, pickV_bool, nilS_ptr, add_eq, sub_eq, mul_eq, lss_eq, leq_eq, gtr_eq, geq_eq, not_eq, minI_eq, maxI_eq, extract_0, extract_1, extract_2, eqlI, neqI, makeFunc_eq, decide_true, decide_false, if_true, if_false, Bool.false_eq_true, Bool.not_true, Bool.not_false, reduceIte, List.getElem?_toArray, List.getElem?_cons_zero, List.getElem?_cons_succ, Option.isSome_none, List.length_map]
      have := hbad h2 (w.trans u2) (by rw [e]; decide)
      rw [e] at this; exact this
    | true =>
      simp only [ei, popO_some, bindH_eq, condV_bool, condV_true, condV_false, yV_bool, gopV_tt, gopV_ff, gopV_tf, gopV_ft, pickV_t, pickV_f, pickV_bool, nilS_ptr, add_eq, sub_eq, mul_eq, lss_eq, leq_eq, gtr_eq, geq_eq, not_eq, minI_eq, maxI_eq, extract_0, extract_1, extract_2, eqlI, neqI, makeFunc_eq, decide_true, decide_false, if_true, if_false, Bool.false_eq_true, Bool.not_true, Bool.not_false, reduceIte, List.getElem?_toArray, List.getElem?_cons_zero, List.getElem?_cons_succ, Option.isSome_none, List.length_map]
      exact ⟨⟨i + 1, by omega, rfl, w.trans u2, by rw [htake, List.all_append, har]; simp [hr]⟩, by simp [upTo, e2]; omega⟩
  · have hil : i = l.length := by omega
    have hd : ((i : Int) < (l.length : Int)) = False := by apply eq_false; omega
    rw [hil, List.take_length] at har
    have har' : ¬ l.all It.right = false := by rw [har]; simp
    have el : IntKind.i64.wrap ((l.length : Int) + 1) = ((l.length + 1 : Nat) : Int) := by rw [i64_wrap (by omega) (by omega)]; omega
    have rb : SemP PG (Instr.build T_carrackref15_Table #[(1, .int .i64 (l.length + 1 : Nat))]) = some (.agg #[.slice none 0 0, .int .i64 (l.length + 1 : Nat)]) := by kernel_rfl
    simp only [lx, hd, el, rb, popO_some, bindH_eq, condV_bool, condV_true, condV_false, yV_bool, gopV_tt, gopV_ff, gopV_tf, gopV_ft, pickV_t, pickV_f, pickV_bool, nilS_ptr, add_eq, sub_eq, mul_eq, lss_eq, leq_eq, gtr_eq, geq_eq, not_eq, minI_eq, maxI_eq, extract_0, extract_1, extract_2, eqlI, neqI, makeFunc_eq, decide_true, decide_false, if_true, if_false, Bool.false_eq_true, Bool.not_true, Bool.not_false, reduceIte, List.getElem?_toArray, List.getElem?_cons_zero, List.getElem?_cons_succ, Option.isSome_none, List.length_map]
    intro r hr
    try rw [bindH_eq]
    have u4 : Ext h' (h'.set r (.cells (Value.cells (.agg #[.slice none 0 0, .int .i64 (l.length + 1 : Nat)])) T_carrackref15_Table)) := Upd.new hr
    have R4 : RAt (h'.set r (.cells (Value.cells (.agg #[.slice none 0 0, .int .i64 (l.length + 1 : Nat)])) T_carrackref15_Table)) r [] (l.length + 1 : Nat) [r] := ⟨⟨.slice none 0 0, [], set_same, OwnR.nil, rfl, by simp⟩, List.Pairwise.nil⟩
    have fr0 : h r = none := w.none hr
    generalize h'.set r (.cells (Value.cells (.agg #[.slice none 0 0, .int .i64 (l.length + 1 : Nat)])) T_carrackref15_Table) = h4 at *
    refine ⟨fun vs h' => ∃ (i : Nat) (G : List Nat), i ≤ l.length ∧ vs = [.int .i64 room, x, .pointer (some ⟨r, 0, none⟩), .int .i64 i] ∧ RAt h' r (ofL (l.take i)) (l.length + 1 : Nat) G ∧ Fresh h G ∧ Ext h h' ∧ ((l.take i).map It.key).Nodup, upTo l.length 3,
      ⟨0, [r], by omega, rfl, R4, Fresh.one fr0, w.trans u4, by simp⟩, ?_⟩
    rintro ρ2 h5 ⟨q, G, hq, hvs2, HR, fG, w5, hnd⟩
    simp only [List.map_cons, List.map_nil, List.cons.injEq, and_true] at hvs2
    obtain ⟨g0, g1, g2, g3⟩ := hvs2
    rw [g0, g1, g2, g3]
    unfold carrackref15_Of_b26
    have hlen : (ofL (l.take q)).length ≤ q := by
      have h1 := ofL_len (l.take q)
      have h2 : (l.take q).length ≤ q := by rw [List.length_take]; omega
      omega
    by_cases hqlt : q < l.length
    · have hd : ((q : Int) < (l.length : Int)) = True := by apply eq_true; omega
      obtain ⟨m, hm⟩ : ∃ m, l[q]? = some m := ⟨_, List.getElem?_eq_getElem hqlt⟩
      obtain ⟨b, o, a1, a2, a3, _, a5⟩ := (hx.ext w5).itf (k := .i64) hm
      have htake : l.take (q + 1) = l.take q ++ [m] := by rw [List.take_add_one, hm]; rfl
      have ei : IntKind.i64.wrap ((q : Int) + 1) = ((q + 1 : Nat) : Int) := by rw [i64_wrap (by omega) (by omega)]; omega
      have hn := @nodup_snoc (l.take q) m
      simp only [lx, hd, a1, T_api_Item.f0, T_api_Packet.f0, T_api_Packet.f1, T_int.load, T_uint64.load, a2, a3, popO_some, bindH_eq, condV_bool, condV_true, condV_false, yV_bool, gopV_tt, gopV_ff, gopV_tf, gopV_ft, pickV_t, pickV_f, pickV_bool, nilS_ptr, add_eq, sub_eq, mul_eq, lss_eq, leq_eq, gtr_eq, geq_eq, not_eq, minI_eq, maxI_eq, extract_0, extract_1, extract_2, eqlI, neqI, makeFunc_eq, decide_true, decide_false, if_true, if_false, Bool.false_eq_true, Bool.not_true, Bool.not_false, reduceIte, List.getElem?_toArray, List.getElem?_cons_zero, List.getElem?_cons_succ, Option.isSome_none, List.length_map]
      refine Place_ok HR (by omega) m.key ?_
      have hgt : (getL (ofL (l.take q)) m.key).isSome = decide (m.key ∈ (l.take q).map It.key) := get_ofL (l.take q) m.key
      rw [hgt]
      by_cases hmem : m.key ∈ (l.take q).map It.key
      · have hdup : ¬ (l.map It.key).Nodup := not_of_dup (i := q + 1) (by rw [htake]; exact fun h => (hn.1 h).2 hmem)
        have e : ofE room l = 4 := by unfold ofE; rw [if_neg hroom, if_neg har', if_pos hdup]
        simp only [hmem, popO_some, bindH_eq, condV_bool, condV_true, condV_false, yV_bool, gopV_tt, gopV_ff, gopV_tf, gopV_ft, pickV_t, pickV_f, pickV_bool, nilS_ptr, add_eq, sub_eq, mul_eq, lss_eq, leq_eq, gtr_eq, geq_eq, not_eq, minI_eq, maxI_eq, extract_0, extract_1, extract_2, eqlI, neqI, makeFunc_eq, decide_true, decide_false, if_true, if_false, Bool.false_eq_true, Bool.not_true, Bool.not_false, reduceIte, List.getElem?_toArray, List.getElem?_cons_zero, List.getElem?_cons_succ, Option.isSome_none, List.length_map]
        have := hbad h5 w5 (by rw [e]; decide)
        rw [e] at this; exact this
      · have hg : getL (ofL (l.take q)) m.key = none := by
          rw [decide_eq_false hmem] at hgt
          simpa using hgt
        simp only [hmem, a1, a5, popO_some, bindH_eq, condV_bool, condV_true, condV_false, yV_bool, gopV_tt, gopV_ff, gopV_tf, gopV_ft, pickV_t, pickV_f, pickV_bool, nilS_ptr, add_eq, sub_eq, mul_eq, lss_eq, leq_eq, gtr_eq, geq_eq, not_eq, minI_eq, maxI_eq, extract_0, extract_1, extract_2, eqlI, neqI, makeFunc_eq, decide_true, decide_false, if_true, if_false, Bool.false_eq_true, Bool.not_true, Bool.not_false, reduceIte, List.getElem?_toArray, List.getElem?_cons_zero, List.getElem?_cons_succ, Option.isSome_none, List.length_map]
        refine RPut_ok HR (by omega) m hg fun h6 G6 H6 u6 f6 => ?_
        have e2 : putL (ofL (l.take q)) ((l.length + 1 : Nat) : Int) m = insL (ofL (l.take q)) m := by unfold putL; rw [if_neg (fun hc => by have := hc.2; omega)]
        rw [e2] at H6
        simp only [ei, popO_some, bindH_eq, condV_bool, condV_true, condV_false, yV_bool, gopV_tt, gopV_ff, gopV_tf, gopV_ft, pickV_t, pickV_f, pickV_bool, nilS_ptr, add_eq, sub_eq, mul_eq, lss_eq, leq_eq, gtr_eq, geq_eq, not_eq, minI_eq, maxI_eq, extract_0, extract_1, extract_2, eqlI, neqI, makeFunc_eq, decide_true, decide_false, if_true, if_false, Bool.false_eq_true, Bool.not_true, Bool.not_false, reduceIte, List.getElem?_toArray, List.getElem?_cons_zero, List.getElem?_cons_succ, Option.isSome_none, List.length_map]
        exact ⟨⟨q + 1, G6, by omega, rfl, by rw [htake, ofL_snoc]; exact H6, fG.grow w5 f6, w5.fresh u6 fG, by rw [htake]; exact hn.2 ⟨hnd, hmem⟩⟩, by simp [upTo, g3]; omega⟩
    · have hql : q = l.length := by omega
      have hd : ((q : Int) < (l.length : Int)) = False := by apply eq_false; omega
      rw [hql, List.take_length] at HR hnd
      by_cases hfull : room < (l.length : Int)
      · have e : ofE room l = 2 := by unfold ofE; rw [if_neg hroom, if_neg har', if_neg (fun h => h hnd), if_pos hfull]
        simp only [lx, hd, hfull, popO_some, bindH_eq, condV_bool, condV_true, condV_false, yV_bool, gopV_tt, gopV_ff, gopV_tf, gopV_ft, pickV_t, pickV_f, pickV_bool, nilS_ptr, add_eq, sub_eq, mul_eq, lss_eq, leq_eq, gtr_eq, geq_eq, not_eq, minI_eq, maxI_eq, extract_0, extract_1, extract_2, eqlI, neqI, makeFunc_eq, decide_true, decide_false, if_true, if_false, Bool.false_eq_true, Bool.not_true, Bool.not_false, reduceIte, List.getElem?_toArray, List.getElem?_cons_zero, List.getElem?_cons_succ, Option.isSome_none, List.length_map]
        have := hbad h5 w5 (by rw [e]; decide)
        rw [e] at this; exact this
      · have e : ofE room l = 0 := by unfold ofE; rw [if_neg hroom, if_neg har', if_neg (fun h => h hnd), if_neg hfull]
        obtain ⟨v, G', ha, hO, hG, hna⟩ := HR.here
        simp only [lx, hd, hfull, T_carrackref15_Table.f1, popO_some, bindH_eq, condV_bool, condV_true, condV_false, yV_bool, gopV_tt, gopV_ff, gopV_tf, gopV_ft, pickV_t, pickV_f, pickV_bool, nilS_ptr, add_eq, sub_eq, mul_eq, lss_eq, leq_eq, gtr_eq, geq_eq, not_eq, minI_eq, maxI_eq, extract_0, extract_1, extract_2, eqlI, neqI, makeFunc_eq, decide_true, decide_false, if_true, if_false, Bool.false_eq_true, Bool.not_true, Bool.not_false, reduceIte, List.getElem?_toArray, List.getElem?_cons_zero, List.getElem?_cons_succ, Option.isSome_none, List.length_map]
        refine store_cell T_int.und rfl ha (by simp) rfl T_int.info T_int.size ?_
        have u7 : Upd [r] h5 (h5.set r (.cells (#[v, .int .i64 (l.length + 1 : Nat)].setIfInBounds (0 + 1) (.int .i64 room)) T_carrackref15_Table (0, 0))) := Upd.set (by simp)
        have ha7 : (h5.set r (.cells (#[v, .int .i64 (l.length + 1 : Nat)].setIfInBounds (0 + 1) (.int .i64 room)) T_carrackref15_Table (0, 0))) r = some (.cells #[v, .int .i64 room] T_carrackref15_Table (0, 0)) := set_same
        generalize h5.set r (.cells (#[v, .int .i64 (l.length + 1 : Nat)].setIfInBounds (0 + 1) (.int .i64 room)) T_carrackref15_Table (0, 0)) = h7 at *
        exact hk r h7 G e ⟨⟨v, G', ha7, hO.upd u7 (fun b hb => by simp; rintro rfl; exact hna hb), hG, hna⟩, srt_ofL _⟩ fG (w5.fresh u7 (Fresh.one fr0))

end Go.Proofs.YtlkjippiaghbmaaGreat
/- TableSame. -/
set_option maxRecDepth 40000
set_option linter.unusedSimpArgs false
set_option linter.unusedVariables false
namespace Go.Proofs.YtlkjippiaghbmaaGreat
open Go

def AR (L : List It) : Prop := ∀ i ∈ L, i.right = true
theorem mem_ins {L : List It} {i x : It} (h : x ∈ insL L i) : x = i ∨ x ∈ L := by
  have := (ins_perm L i).mem_iff.1 h
  rcases List.mem_cons.1 this with h | h
  · exact .inl h
  · unfold delL at h; exact .inr (List.mem_filter.1 h).1
theorem AR.ins {L : List It} (h : AR L) {i : It} (hi : i.right = true) : AR (insL L i) := fun x hx => by
  rcases mem_ins hx with rfl | hx
  · exact hi
  · exact h x hx
theorem AR.del {L : List It} (h : AR L) (k : Ky) : AR (delL L k) := fun x hx => h x (by unfold delL at hx; exact (List.mem_filter.1 hx).1)
theorem AR.put {L : List It} (h : AR L) {i : It} (hi : i.right = true) (room : Int) : AR (putL L room i) := by
  unfold putL; split
  · exact h
  · exact h.ins hi
theorem AR.app {L : List It} (h : AR L) (room : Int) (n : Nt) : AR (appL L room n) := by
  unfold appL
  by_cases hr : n.right = false
  · rw [if_pos hr]; exact h
  · rw [if_neg hr]
    have hp : n.p.right = true := by
      have : n.right = true := by simpa using hr
      unfold Nt.right at this
      simp only [Bool.and_eq_true] at this
      exact this.2
    split
    · split
      · exact h
      · exact h.put (by unfold It.right; simp [hp]) room
    · split
      · split
        · rename_i x hx
          obtain ⟨h1, _⟩ := getL_mem hx
          have := h x h1
          unfold It.right at this
          simp only [Bool.and_eq_true] at this
          exact h.ins (by unfold It.right; simp [this.2])
        · exact h.put (by unfold It.right; simp [hp]) room
      · exact h.del _
theorem AR.act {L : List It} (h : AR L) (room : Int) (c : Ac) : AR (actL L room c) := by
  unfold actL; split
  · exact h.del _
  · exact h.app room _
theorem app_twice {L : List It} (hs : Srt L) {room : Int} {n : Nt} (h0 : appE L room n = 0) : appE (appL L room n) room n = 0 ∧ appL (appL L room n) room n = appL L room n := by
  have hr : ¬ n.right = false := fun h => by unfold appE at h0; rw [if_pos h] at h0; cases h0
  by_cases h1 : n.k = 1
  · have put : ∀ i : It, putE L room i = 0 → putL L room i = insL L i := fun i h => by
      unfold putE at h; unfold putL
      split at h
      · cases h
      · rename_i hc; rw [if_neg hc]
    cases hg : getL L n.p.key with
    | some x =>
      have e : appL L room n = L := by unfold appL; rw [if_neg hr, if_pos h1, hg]; rfl
      rw [e]; exact ⟨h0, e⟩
    | none =>
      have e0 : putE L room ⟨n.p, 1⟩ = 0 := by unfold appE at h0; rw [if_neg hr, if_pos h1, hg] at h0; exact h0
      have e : appL L room n = insL L ⟨n.p, 1⟩ := by unfold appL; rw [if_neg hr, if_pos h1, hg]; exact put _ e0
      have g : getL (insL L ⟨n.p, 1⟩) n.p.key = some ⟨n.p, 1⟩ := ins_get hs ⟨n.p, 1⟩
      rw [e]
      exact ⟨by unfold appE; rw [if_neg hr, if_pos h1, g]; rfl, by unfold appL; rw [if_neg hr, if_pos h1, g]; rfl⟩
  · by_cases h2 : n.k = 2
    · have put : ∀ i : It, putE L room i = 0 → putL L room i = insL L i := fun i h => by
        unfold putE at h; unfold putL
        split at h
        · cases h
        · rename_i hc; rw [if_neg hc]
      cases hg : getL L n.p.key with
      | some x =>
        obtain ⟨_, hx2⟩ := getL_mem hg
        have e : appL L room n = insL L ⟨x.p, 2⟩ := by unfold appL; rw [if_neg hr, if_neg h1, if_pos h2, hg]
        have g : getL (insL L ⟨x.p, 2⟩) n.p.key = some ⟨x.p, 2⟩ := by rw [← hx2]; exact ins_get hs ⟨x.p, 2⟩
        rw [e]
        refine ⟨by unfold appE; rw [if_neg hr, if_neg h1, if_pos h2, g]; rfl, ?_⟩
        unfold appL; rw [if_neg hr, if_neg h1, if_pos h2, g]
        exact ins_ins hs rfl
      | none =>
        have e0 : putE L room ⟨n.p, 2⟩ = 0 := by unfold appE at h0; rw [if_neg hr, if_neg h1, if_pos h2, hg] at h0; exact h0
        have e : appL L room n = insL L ⟨n.p, 2⟩ := by unfold appL; rw [if_neg hr, if_neg h1, if_pos h2, hg]; exact put _ e0
        have g : getL (insL L ⟨n.p, 2⟩) n.p.key = some ⟨n.p, 2⟩ := ins_get hs ⟨n.p, 2⟩
        rw [e]
        refine ⟨by unfold appE; rw [if_neg hr, if_neg h1, if_pos h2, g]; rfl, ?_⟩
        unfold appL; rw [if_neg hr, if_neg h1, if_pos h2, g]
        exact ins_ins hs rfl
    · have e : ∀ X, appL X room n = delL X n.p.key := fun X => by unfold appL; rw [if_neg hr, if_neg h1, if_neg h2]
      have e' : ∀ X, appE X room n = 0 := fun X => by unfold appE; rw [if_neg hr, if_neg h1, if_neg h2]
      rw [e L]
      exact ⟨e' _, by rw [e, del_del]⟩

end Go.Proofs.YtlkjippiaghbmaaGreat
/- record: what a step leaves may be; RecordPlaces. -/
set_option linter.unusedSimpArgs false
set_option linter.unusedVariables false
namespace Go.Proofs.YtlkjippiaghbmaaGreat
open Go
set_option maxRecDepth 20000
theorem AR.aply {room : Int} : ∀ {L : List It} (l : List Nt), AR L → AR (aply room L l).1
  | L, [], h => h
  | L, n :: ns, h => by
    unfold Go.Proofs.YtlkjippiaghbmaaGreat.aply
    split
    · exact h.app room n
    · exact AR.aply ns (h.app room n)
theorem Srt.aply {room : Int} : ∀ {L : List It} (l : List Nt), Srt L → Srt (aply room L l).1
  | L, [], h => h
  | L, n :: ns, h => by
    unfold Go.Proofs.YtlkjippiaghbmaaGreat.aply
    split
    · exact h.app room n
    · exact Srt.aply ns (h.app room n)
theorem OkD.ar {d : Dm} {room : Int} (H : OkD d room) : AR d.its := fun i hi => List.all_eq_true.1 H.all i hi
theorem OkD.sorted {d : Dm} {room : Int} (H : OkD d room) : Srt d.its := by rw [← H.srt]; exact srt_ofL _
theorem stp_err {d : Dm} {room : Int} {r : Rc} (h : (stp d room r).2 ≠ 0) : (stp d room r).1 = Dm.zero := by
  unfold stp at *
  by_cases c0 : chk d room = 0
  · rw [if_neg (by simp [c0])] at *
    by_cases c1 : r.bytes.2 = 0
    · rw [if_neg (by simp [c1])] at *
      by_cases k1 : r.k = 1
      · rw [if_pos k1] at *
        by_cases c2 : chk r.s room = 0
        · rw [if_neg (by simp [c2])] at h; exact absurd rfl h
        · rw [if_pos c2]
      · rw [if_neg k1] at *
        by_cases c3 : (aply room (ofL d.its) r.ns).2 = 0
        · rw [if_neg (by simp [c3])] at h; exact absurd rfl h
        · rw [if_pos c3]
    · rw [if_pos c1]
  · rw [if_pos c0]
/-- A step without an error: from a state that may be, by a record that has bytes. -/
theorem stp_good {d : Dm} {room : Int} {r : Rc} (h : (stp d room r).2 = 0) : OkD d room ∧ RcOk r ∧ OkD (stp d room r).1 room ∧
    ((r.k = 1 ∧ (stp d room r).1 = r.s) ∨ (r.k = 2 ∧ (r.ch = 0 ∨ r.ch = 1) ∧ (aply room d.its r.ns).2 = 0 ∧ (stp d room r).1 = ⟨if r.ch = 0 then r.pl else d.p0, if r.ch = 0 then d.p1 else r.pl, (aply room d.its r.ns).1⟩)) := by
  unfold stp at *
  by_cases c0 : chk d room = 0
  · have H := chk_ok.1 c0
    rw [if_neg (by simp [c0])] at *
    by_cases c1 : r.bytes.2 = 0
    · have hr := (bytes_zero c1).1
      rw [if_neg (by simp [c1])] at *
      by_cases k1 : r.k = 1
      · rw [if_pos k1] at *
        by_cases c2 : chk r.s room = 0
        · rw [if_neg (by simp [c2])]
          exact ⟨H, hr, chk_ok.1 c2, .inl ⟨k1, rfl⟩⟩
        · rw [if_pos c2] at h; exact absurd h c2
      · obtain ⟨k2, -, hc, -⟩ := plain2 hr.plain k1
        obtain ⟨hpl, -⟩ := hr.b k2
        rw [if_neg k1] at *
        rw [H.srt] at *
        by_cases c3 : (aply room d.its r.ns).2 = 0
        · rw [if_neg (by simp [c3])]
          have hs := Srt.aply (room := room) r.ns H.sorted
          refine ⟨H, hr, ⟨H.r1, H.r2, aply_room H.sorted H.len r.ns, List.all_eq_true.2 fun i hi => AR.aply (room := room) r.ns H.ar i hi, ?_, ?_, ofL_srt hs, hs.nodup⟩, .inr ⟨k2, hc, c3, rfl⟩⟩
          · show okPl (if r.ch = 0 then r.pl else d.p0)
            split
            · exact hpl
            · exact H.p0
          · show okPl (if r.ch = 0 then d.p1 else r.pl)
            split
            · exact H.p1
            · exact hpl
        · rw [if_pos c3] at h; exact absurd h c3
    · rw [if_pos c1] at h; exact absurd h c1
  · rw [if_pos c0] at h; exact absurd h c0
theorem zero_its {h : PH} : ISl h (.slice none 0 0) Dm.zero.its := nilI
end Go.Proofs.YtlkjippiaghbmaaGreat
/- record: states, records, notes and items that are read of a row. -/
set_option linter.unusedSimpArgs false
set_option linter.unusedVariables false
namespace Go.Proofs.YtlkjippiaghbmaaGreat
open Go Go.RowKit Go.ChangeShapes
set_option maxRecDepth 20000
theorem T_api_Place.cells : PG.cellsOf T_api_Place = 2 := by kernel_rfl
theorem T_2_api_Place.cells : PG.cellsOf T_2_api_Place = 4 := by kernel_rfl
theorem T_api_Daemon.cells : PG.cellsOf T_api_Daemon = 5 := by kernel_rfl
theorem T_api_Record.cells : PG.cellsOf T_api_Record = 10 := by kernel_rfl
theorem T_sl_api_Item.cells : PG.cellsOf T_sl_api_Item = 1 := by kernel_rfl
theorem T_sl_api_Note.cells : PG.cellsOf T_sl_api_Note = 1 := by kernel_rfl
section
variable {H : Type} {enc : TypeId × Value → H} {w : World} {spare : Nat → Bool} {held : Bool}
theorem rows_of' {α : Type} {cells : α → List Value} {P : α → Prop} {t : TypeId} (hof : ∀ cs, Rd enc PG w spare held t cs → ∃ a, cs = cells a ∧ P a) : ∀ {rows : List (List Value)}, (∀ r ∈ rows, Rd enc PG w spare held t r) → ∃ xs : List α, rows = xs.map cells ∧ ∀ x ∈ xs, P x
  | [], _ => ⟨[], rfl, by simp⟩
  | r :: rs, h => by
    obtain ⟨m, rfl, hm⟩ := hof r (h r (by simp))
    obtain ⟨xs, rfl, hx⟩ := rows_of' hof (rows := rs) (fun x hx => h x (by simp [hx]))
    exact ⟨m :: xs, rfl, fun x hx' => by rcases List.mem_cons.1 hx' with rfl | h; exact hm; exact hx x h⟩
theorem Pk.rd {cs : List Value} (h : Rd enc PG w spare held T_api_Packet cs) : ∃ p : Pk, cs = p.cells ∧ p.wf := by
  obtain ⟨hl, hf⟩ := rd_struct T_api_Packet.und h
  rw [T_api_Packet.cells] at hl
  match cs, hl with
  | [c0, c1, c2, c3], _ =>
    have f0 : Rd enc PG w spare held T_int (([c0, c1, c2, c3].drop 0).take (PG.cellsOf T_int)) := hf 0 _ rfl
    rw [T_int.cells] at f0
    have f1 : Rd enc PG w spare held T_uint64 (([c0, c1, c2, c3].drop 1).take (PG.cellsOf T_uint64)) := hf 1 _ rfl
    rw [T_uint64.cells] at f1
    have f2 : Rd enc PG w spare held T_uint64 (([c0, c1, c2, c3].drop 2).take (PG.cellsOf T_uint64)) := hf 2 _ rfl
    rw [T_uint64.cells] at f2
    have f3 : Rd enc PG w spare held T_string (([c0, c1, c2, c3].drop 3).take (PG.cellsOf T_string)) := hf 3 _ rfl
    rw [T_string.cells] at f3
    obtain ⟨n0, e0, -⟩ := rd_int T_int.und f0
    obtain ⟨n1, e1, w1⟩ := rd_int T_uint64.und f1
    have w1 := wf_u64 w1
    obtain ⟨n2, e2, w2⟩ := rd_int T_uint64.und f2
    have w2 := wf_u64 w2
    obtain ⟨n3, e3, -⟩ := rd_string T_string.und f3
    simp only [List.drop_succ_cons, List.drop_zero, List.take_succ_cons, List.take_zero, List.cons.injEq, and_true] at e0 e1 e2 e3
    subst e0 e1 e2 e3
    exact ⟨⟨n0, n1, n2, n3⟩, rfl, w1.1, by show n1 < _; omega, w2.1, by show n2 < _; omega⟩
theorem It.rd {cs : List Value} (h : Rd enc PG w spare held T_api_Item cs) : ∃ p : It, cs = p.cells ∧ p.p.wf := by
  obtain ⟨hl, hf⟩ := rd_struct T_api_Item.und h
  rw [T_api_Item.cells] at hl
  match cs, hl with
  | [c0, c1, c2, c3, c4], _ =>
    have f0 : Rd enc PG w spare held T_api_Packet (([c0, c1, c2, c3, c4].drop 0).take (PG.cellsOf T_api_Packet)) := hf 0 _ rfl
    rw [T_api_Packet.cells] at f0
    have f1 : Rd enc PG w spare held T_int (([c0, c1, c2, c3, c4].drop 4).take (PG.cellsOf T_int)) := hf 1 _ rfl
    rw [T_int.cells] at f1
    obtain ⟨n0, e0, w0⟩ := Pk.rd f0
    obtain ⟨n1, e1, -⟩ := rd_int T_int.und f1
    simp only [List.drop_succ_cons, List.drop_zero, List.take_succ_cons, List.take_zero, List.cons.injEq, and_true, Pk.cells] at e0 e1
    obtain ⟨rfl, rfl, rfl, rfl⟩ := e0
    subst e1
    exact ⟨⟨n0, n1⟩, rfl, w0⟩
theorem Nt.rd {cs : List Value} (h : Rd enc PG w spare held T_api_Note cs) : ∃ p : Nt, cs = p.cells ∧ p.p.wf := by
  obtain ⟨hl, hf⟩ := rd_struct T_api_Note.und h
  rw [T_api_Note.cells] at hl
  match cs, hl with
  | [c0, c1, c2, c3, c4], _ =>
    have f0 : Rd enc PG w spare held T_int (([c0, c1, c2, c3, c4].drop 0).take (PG.cellsOf T_int)) := hf 0 _ rfl
    rw [T_int.cells] at f0
    have f1 : Rd enc PG w spare held T_api_Packet (([c0, c1, c2, c3, c4].drop 1).take (PG.cellsOf T_api_Packet)) := hf 1 _ rfl
    rw [T_api_Packet.cells] at f1
    obtain ⟨n0, e0, -⟩ := rd_int T_int.und f0
    obtain ⟨n1, e1, w1⟩ := Pk.rd f1
    simp only [List.drop_succ_cons, List.drop_zero, List.take_succ_cons, List.take_zero, List.cons.injEq, and_true, Pk.cells] at e0 e1
    obtain ⟨rfl, rfl, rfl, rfl⟩ := e1
    subst e0
    exact ⟨⟨n0, n1⟩, rfl, w1⟩
theorem It.rds {rows : List (List Value)} (h : ∀ r ∈ rows, Rd enc PG w spare held T_api_Item r) : ∃ xs : List It, rows = xs.map It.cells ∧ ∀ x ∈ xs, x.p.wf := rows_of' (fun _ => It.rd) h
theorem Nt.rds {rows : List (List Value)} (h : ∀ r ∈ rows, Rd enc PG w spare held T_api_Note r) : ∃ xs : List Nt, rows = xs.map Nt.cells ∧ ∀ x ∈ xs, x.p.wf := rows_of' (fun _ => Nt.rd) h
theorem Pl.rd {cs : List Value} (h : Rd enc PG w spare held T_api_Place cs) : ∃ p : Pl, cs = p.cells ∧ p.wf := by
  obtain ⟨hl, hf⟩ := rd_struct T_api_Place.und h
  rw [T_api_Place.cells] at hl
  match cs, hl with
  | [c0, c1], _ =>
    have f0 : Rd enc PG w spare held T_uint64 (([c0, c1].drop 0).take (PG.cellsOf T_uint64)) := hf 0 _ rfl
    rw [T_uint64.cells] at f0
    have f1 : Rd enc PG w spare held T_int (([c0, c1].drop 1).take (PG.cellsOf T_int)) := hf 1 _ rfl
    rw [T_int.cells] at f1
    obtain ⟨n0, e0, w0⟩ := rd_int T_uint64.und f0
    have w0 := wf_u64 w0
    obtain ⟨n1, e1, -⟩ := rd_int T_int.und f1
    simp only [List.drop_succ_cons, List.drop_zero, List.take_succ_cons, List.take_zero, List.cons.injEq, and_true] at e0 e1
    subst e0 e1
    exact ⟨⟨n0, n1⟩, rfl, w0.1, by show n0 < _; omega⟩
theorem two.rd {cs : List Value} (h : Rd enc PG w spare held T_2_api_Place cs) : ∃ p : Pl × Pl, cs = p.1.cells ++ p.2.cells ∧ p.1.wf ∧ p.2.wf := by
  obtain ⟨hl, hf⟩ := rd_array T_2_api_Place.und h
  rw [T_2_api_Place.cells] at hl
  match cs, hl with
  | [c0, c1, c2, c3], _ =>
    have f0 : Rd enc PG w spare held T_api_Place (([c0, c1, c2, c3].drop (0 * PG.cellsOf T_api_Place)).take (PG.cellsOf T_api_Place)) := hf 0 (by decide)
    have f1 : Rd enc PG w spare held T_api_Place (([c0, c1, c2, c3].drop (1 * PG.cellsOf T_api_Place)).take (PG.cellsOf T_api_Place)) := hf 1 (by decide)
    rw [T_api_Place.cells] at f0 f1
    obtain ⟨p, e0, w0⟩ := Pl.rd f0
    obtain ⟨q, e1, w1⟩ := Pl.rd f1
    simp only [Nat.zero_mul, Nat.one_mul, List.drop_succ_cons, List.drop_zero, List.take_succ_cons, List.take_zero, List.cons.injEq, and_true, Pl.cells] at e0 e1
    obtain ⟨rfl, rfl⟩ := e0
    obtain ⟨rfl, rfl⟩ := e1
    exact ⟨(p, q), rfl, w0, w1⟩
theorem Dm.rd {cs : List Value} (h : Rd enc PG w spare held T_api_Daemon cs) : ∃ p : Dm × Value, cs = p.1.cells p.2 ∧ ISl (heapOf w) p.2 p.1.its ∧ p.1.wf := by
  obtain ⟨hl, hf⟩ := rd_struct T_api_Daemon.und h
  rw [T_api_Daemon.cells] at hl
  match cs, hl with
  | [c0, c1, c2, c3, c4], _ =>
    have f0 : Rd enc PG w spare held T_2_api_Place (([c0, c1, c2, c3, c4].drop 0).take (PG.cellsOf T_2_api_Place)) := hf 0 _ rfl
    rw [T_2_api_Place.cells] at f0
    have f1 : Rd enc PG w spare held T_sl_api_Item (([c0, c1, c2, c3, c4].drop 4).take (PG.cellsOf T_sl_api_Item)) := hf 1 _ rfl
    rw [T_sl_api_Item.cells] at f1
    obtain ⟨n0, e0, w0⟩ := two.rd f0
    obtain ⟨v1, rows1, e1, S1, hr1⟩ := rd_slice T_sl_api_Item.und (by rw [T_api_Item.cells]; decide) f1
    obtain ⟨n1, q1, w1⟩ := It.rds hr1
    subst q1
    rw [T_api_Item.cells] at S1
    simp only [List.drop_succ_cons, List.drop_zero, List.take_succ_cons, List.take_zero, List.cons.injEq, and_true, Pl.cells, List.cons_append, List.nil_append] at e0 e1
    obtain ⟨rfl, rfl, rfl, rfl⟩ := e0
    subst e1
    exact ⟨(⟨n0.1, n0.2, n1⟩, _), rfl, S1, w0.1, w0.2, w1⟩
theorem Rc.rd_ {cs : List Value} (h : Rd enc PG w spare held T_api_Record cs) : ∃ p : Rc × Value × Value, cs = p.1.cells p.2.1 p.2.2 ∧ ISl (heapOf w) p.2.1 p.1.s.its ∧ NSl (heapOf w) p.2.2 p.1.ns ∧ p.1.wf := by
  obtain ⟨hl, hf⟩ := rd_struct T_api_Record.und h
  rw [T_api_Record.cells] at hl
  match cs, hl with
  | [c0, c1, c2, c3, c4, c5, c6, c7, c8, c9], _ =>
    have f0 : Rd enc PG w spare held T_int (([c0, c1, c2, c3, c4, c5, c6, c7, c8, c9].drop 0).take (PG.cellsOf T_int)) := hf 0 _ rfl
    rw [T_int.cells] at f0
    have f1 : Rd enc PG w spare held T_api_Daemon (([c0, c1, c2, c3, c4, c5, c6, c7, c8, c9].drop 1).take (PG.cellsOf T_api_Daemon)) := hf 1 _ rfl
    rw [T_api_Daemon.cells] at f1
    have f2 : Rd enc PG w spare held T_int (([c0, c1, c2, c3, c4, c5, c6, c7, c8, c9].drop 6).take (PG.cellsOf T_int)) := hf 2 _ rfl
    rw [T_int.cells] at f2
    have f3 : Rd enc PG w spare held T_api_Place (([c0, c1, c2, c3, c4, c5, c6, c7, c8, c9].drop 7).take (PG.cellsOf T_api_Place)) := hf 3 _ rfl
    rw [T_api_Place.cells] at f3
    have f4 : Rd enc PG w spare held T_sl_api_Note (([c0, c1, c2, c3, c4, c5, c6, c7, c8, c9].drop 9).take (PG.cellsOf T_sl_api_Note)) := hf 4 _ rfl
    rw [T_sl_api_Note.cells] at f4
    obtain ⟨n0, e0, -⟩ := rd_int T_int.und f0
    obtain ⟨n1, e1, w1⟩ := Dm.rd f1
    obtain ⟨n2, e2, -⟩ := rd_int T_int.und f2
    obtain ⟨n3, e3, w3⟩ := Pl.rd f3
    obtain ⟨v4, rows4, e4, S4, hr4⟩ := rd_slice T_sl_api_Note.und (by rw [T_api_Note.cells]; decide) f4
    obtain ⟨n4, q4, w4⟩ := Nt.rds hr4
    subst q4
    rw [T_api_Note.cells] at S4
    simp only [List.drop_succ_cons, List.drop_zero, List.take_succ_cons, List.take_zero, List.cons.injEq, and_true, Dm.cells, Pl.cells] at e0 e1 e2 e3 e4
    obtain ⟨rfl, rfl, rfl, rfl, rfl⟩ := e1
    obtain ⟨rfl, rfl⟩ := e3
    subst e0 e2 e4
    exact ⟨(⟨n0, n1.1, n2, n3, n4⟩, n1.2, _), rfl, w1.1, S4, w1.2, w3, w4⟩
end
end Go.Proofs.YtlkjippiaghbmaaGreat
/- the document's numbers as bytes. -/
set_option linter.unusedSimpArgs false
set_option linter.unusedVariables false
namespace Go.Proofs.YtlkjippiaghbmaaGreat
open Go
set_option maxRecDepth 20000
theorem cvb_u8 (x : Int) : SemP PG (convert T_uint64 T_uint8 (.int .u64 x)) = some (.int .u8 (IntKind.u8.wrap x)) := by kernel_rfl
theorem byte_litR (x : Int) : SemA PG (Instr.buildSlice T_sl_uint8 1 #[(0, .int .u8 x)]) = some (.cells #[.int .u8 x] T_uint8, fun r => pure (.slice (some ⟨r, 0, none⟩) 1 1)) := by kernel_rfl
theorem RBytes_ok {h : PH} {n c : Nat} (hn : n < 18446744073709551616) (hc : c ≤ 1000) {k : Value → PH → Prop} (hk : ∀ h', Ext h h' → k (.string (tx (be n c))) h') : CallsH PG id_carrackref03_Bytes #[.int .u64 n, .int .i64 c] h k := by
  apply carrackref03_Bytes.call
  unfold carrackref03_Bytes
  refine ⟨fun vs h' => ∃ i : Nat, i ≤ c ∧ vs = [.int .u64 ((n / 256 ^ i : Nat) : Int), .int .i64 c, .string (tx ((be n c).drop (c - i))), .int .i64 i] ∧ Ext h h', upTo c 3, ⟨0, by omega, by rw [List.drop_of_length_le (by rw [be_len]; omega)]; simp [tx_nil], Upd.refl⟩, ?_⟩
  rintro ρ h' ⟨i, hi, hvs, w⟩
  simp only [List.map_cons, List.map_nil, List.cons.injEq, and_true] at hvs
  obtain ⟨s0, s1, s2, s3⟩ := hvs
  rw [s0, s1, s2, s3]
  unfold carrackref03_Bytes_b2
  by_cases hlt : i < c
  · have hd : ((i : Int) < (c : Int)) = True := by apply eq_true; omega
    have hle : n / 256 ^ i ≤ n := Nat.div_le_self _ _
    have e1 : Int.tmod ((n / 256 ^ i : Nat) : Int) 256 = ((n / 256 ^ i % 256 : Nat) : Int) := (Int.ofNat_tmod _ 256).symm
    have e2 : IntKind.u8.wrap ((n / 256 ^ i % 256 : Nat) : Int) = ((UInt8.ofNat (n / 256 ^ i % 256)).toNat : Int) := by rw [u8_wrap]; simp
    have e3 : IntKind.u64.wrap (Int.tdiv ((n / 256 ^ i : Nat) : Int) 256) = ((n / 256 ^ (i + 1) : Nat) : Int) := by
      have : Int.tdiv ((n / 256 ^ i : Nat) : Int) 256 = ((n / 256 ^ i / 256 : Nat) : Int) := rfl
      have hd2 : n / 256 ^ i / 256 = n / 256 ^ (i + 1) := by rw [Nat.div_div_eq_div_mul, Nat.pow_succ]
      rw [this, hd2]
      exact u64_wrap (Int.natCast_nonneg _) (by have := Nat.div_le_self n (256 ^ (i + 1)); omega)
    have ei : IntKind.i64.wrap ((i : Int) + 1) = ((i + 1 : Nat) : Int) := by rw [i64_wrap (by omega) (by omega)]; omega
    simp only [hd, rem_eq (show (256 : Int) ≠ 0 by decide), quo_eq (show (256 : Int) ≠ 0 by decide), e1, cvb_u8, e2, byte_litR, popO_some, bindH_eq, condV_bool, condV_true, condV_false, yV_bool, gopV_tt, gopV_ff, gopV_tf, gopV_ft, pickV_t, pickV_f, pickV_bool, nilS_ptr, add_eq, sub_eq, mul_eq, lss_eq, leq_eq, gtr_eq, geq_eq, not_eq, minI_eq, maxI_eq, extract_0, extract_1, extract_2, eqlI, neqI, makeFunc_eq, decide_true, decide_false, if_true, if_false, Bool.false_eq_true, Bool.not_true, Bool.not_false, reduceIte, List.getElem?_toArray, List.getElem?_cons_zero, List.getElem?_cons_succ, Option.isSome_none, List.length_map]
    intro r hr
    refine popO_pure ?_
    have u1 : Ext h' (h'.set r (.cells #[.int .u8 (UInt8.ofNat (n / 256 ^ i % 256)).toNat] T_uint8)) := Upd.new hr
    have s1 : SlR (h'.set r (.cells #[.int .u8 (UInt8.ofNat (n / 256 ^ i % 256)).toNat] T_uint8)) 1 (.slice (some ⟨r, 0, none⟩) 1 1) ([UInt8.ofNat (n / 256 ^ i % 256)].map bcell) := (OwnR.lit (bcell.rows [_]) set_same (by simp) (by decide) (by simp [bcell])).slR
    generalize h'.set r (.cells #[.int .u8 (UInt8.ofNat (n / 256 ^ i % 256)).toNat] T_uint8) = h1 at *
    have hcv := conv_bytes T_sl_uint8.und T_uint8.und T_string.und s1
    have hcv' : SemE PG h1 (convert T_sl_uint8 T_string (.slice (some ⟨r, 0, none⟩) 1 1)) = some (.string (tx [UInt8.ofNat (n / 256 ^ i % 256)])) := hcv
    have hadd : SemP PG (binOp .add T_string (.string (tx [UInt8.ofNat (n / 256 ^ i % 256)])) (.string (tx ((be n c).drop (c - i))))) = some (.string (tx ((be n c).drop (c - (i + 1))))) := by
      rw [add_tx (by rw [List.length_drop, be_len]; simp; omega)]
      congr 3
      have hg := be_get n c (c - (i + 1)) (by omega)
      have : c - 1 - (c - (i + 1)) = i := by omega
      rw [this] at hg
      obtain ⟨hlt', hg'⟩ := List.getElem?_eq_some_iff.1 hg
      rw [List.drop_eq_getElem_cons hlt', hg']
      have : c - (i + 1) + 1 = c - i := by omega
      rw [this]; rfl
    simp only [hcv', hadd, e3, ei, popO_some, bindH_eq, condV_bool, condV_true, condV_false, yV_bool, gopV_tt, gopV_ff, gopV_tf, gopV_ft, pickV_t, pickV_f, pickV_bool, nilS_ptr, add_eq, sub_eq, mul_eq, lss_eq, leq_eq, gtr_eq, geq_eq, not_eq, minI_eq, maxI_eq, extract_0, extract_1, extract_2, eqlI, neqI, makeFunc_eq, decide_true, decide_false, if_true, if_false, Bool.false_eq_true, Bool.not_true, Bool.not_false, reduceIte, List.getElem?_toArray, List.getElem?_cons_zero, List.getElem?_cons_succ, Option.isSome_none, List.length_map]
    exact ⟨⟨i + 1, by omega, rfl, w.trans u1⟩, by simp [upTo, s3]; omega⟩
  · have hd : ((i : Int) < (c : Int)) = False := by apply eq_false; omega
    have hic : i = c := by omega
    subst hic
    rw [Nat.sub_self, List.drop_zero]
    simp only [hd, popO_some, bindH_eq, condV_bool, condV_true, condV_false, yV_bool, gopV_tt, gopV_ff, gopV_tf, gopV_ft, pickV_t, pickV_f, pickV_bool, nilS_ptr, add_eq, sub_eq, mul_eq, lss_eq, leq_eq, gtr_eq, geq_eq, not_eq, minI_eq, maxI_eq, extract_0, extract_1, extract_2, eqlI, neqI, makeFunc_eq, decide_true, decide_false, if_true, if_false, Bool.false_eq_true, Bool.not_true, Bool.not_false, reduceIte, List.getElem?_toArray, List.getElem?_cons_zero, List.getElem?_cons_succ, Option.isSome_none, List.length_map]
    exact hk _ w
end Go.Proofs.YtlkjippiaghbmaaGreat
/- the document's bytes of a packet. -/
set_option linter.unusedSimpArgs false
set_option linter.unusedVariables false
namespace Go.Proofs.YtlkjippiaghbmaaGreat
open Go
set_option maxRecDepth 20000
theorem cvi_u64 (x : Int) : SemP PG (convert T_int T_uint64 (.int .i64 x)) = some (.int .u64 (IntKind.u64.wrap x)) := by kernel_rfl
theorem RPBytes_ok {h : PH} {p : Pk} (w : p.wf) (hr : p.right = true) {k : Value → PH → Prop} (hk : ∀ h', Ext h h' → k (.string (tx p.bs)) h') : CallsH PG id_carrackref10_Bytes #[.agg p.cells.toArray] h k := by
  obtain ⟨r1, r2, -, -, r5⟩ := Pk.right_iff.1 hr
  obtain ⟨w1, w2, w3, w4⟩ := w
  have ed := tx_tx p
  have el := tx_len p
  obtain ⟨f, s, t, d⟩ := p
  obtain ⟨f, rfl⟩ := Int.eq_ofNat_of_zero_le r1
  obtain ⟨s, rfl⟩ := Int.eq_ofNat_of_zero_le w1
  obtain ⟨t, rfl⟩ := Int.eq_ofNat_of_zero_le w3
  simp only at r2 w2 w4 r5
  unfold Pk.bs at hk
  simp only [Int.toNat_natCast] at hk
  generalize Pk.tx ⟨(f : Int), (s : Int), (t : Int), d⟩ = l at *
  subst ed
  simp only [tx_size] at el r5
  apply carrackref10_Bytes.call
  unfold carrackref10_Bytes
  intro r hr
  try rw [bindH_eq]
  have u1 : Ext h (h.set r (.cells (Value.cells (.agg (Pk.cells ⟨(f : Int), (s : Int), (t : Int), tx l⟩).toArray)) T_api_Packet)) := Upd.new hr
  have B1 : Bx (h.set r (.cells (Value.cells (.agg (Pk.cells ⟨(f : Int), (s : Int), (t : Int), tx l⟩).toArray)) T_api_Packet)) r (Pk.cells ⟨(f : Int), (s : Int), (t : Int), tx l⟩) := Bx.new
  generalize h.set r (.cells (Value.cells (.agg (Pk.cells ⟨(f : Int), (s : Int), (t : Int), tx l⟩).toArray)) T_api_Packet) = h1 at *
  have l0 : ∀ {h' : PH}, Ext h1 h' → SemE PG h' (Instr.loadAt T_int (.pointer (some ⟨r, 0, none⟩))) = some (.int .i64 (f : Int)) := fun u => by rw [T_int.load, (B1.ext u).cell]; rfl
  have l1 : ∀ {h' : PH}, Ext h1 h' → SemE PG h' (Instr.loadAt T_uint64 (.pointer (some ⟨r, 1, none⟩))) = some (.int .u64 (s : Int)) := fun u => by rw [T_uint64.load, (B1.ext u).cell]; rfl
  have l2 : ∀ {h' : PH}, Ext h1 h' → SemE PG h' (Instr.loadAt T_uint64 (.pointer (some ⟨r, 2, none⟩))) = some (.int .u64 (t : Int)) := fun u => by rw [T_uint64.load, (B1.ext u).cell]; rfl
  have l3 : ∀ {h' : PH}, Ext h1 h' → SemE PG h' (Instr.loadAt T_string (.pointer (some ⟨r, 3, none⟩))) = some (.string (tx l)) := fun u => by rw [T_string.load, (B1.ext u).cell]; rfl
  have c1 : IntKind.u64.wrap (f : Int) = (f : Int) := u64_wrap (by omega) (by omega)
  have c2 : IntKind.u64.wrap (l.length : Int) = (l.length : Int) := u64_wrap (by omega) (by omega)
  have ln : SemP PG (Builtin.len_ #[T_string] T_int #[.string (tx l)]) = some (.int .i64 (l.length : Int)) := by rw [len_string T_string.und, tx_size]
  simp only [T_api_Packet.f0, T_api_Packet.f1, T_api_Packet.f2, T_api_Packet.f3, l0 Upd.refl, l1 Upd.refl, l2 Upd.refl, l3 Upd.refl, ln, cvi_u64, c1, c2, popO_some, bindH_eq, condV_bool, condV_true, condV_false, yV_bool, gopV_tt, gopV_ff, gopV_tf, gopV_ft, pickV_t, pickV_f, pickV_bool, nilS_ptr, add_eq, sub_eq, mul_eq, lss_eq, leq_eq, gtr_eq, geq_eq, not_eq, minI_eq, maxI_eq, extract_0, extract_1, extract_2, eqlI, neqI, makeFunc_eq, decide_true, decide_false, if_true, if_false, Bool.false_eq_true, Bool.not_true, Bool.not_false, reduceIte, List.getElem?_toArray, List.getElem?_cons_zero, List.getElem?_cons_succ, Option.isSome_none, List.length_map, yV_undef, gopV_none, Nat.zero_add, Nat.reduceAdd, beq_self_eq_true, bne_self_eq_false, and_self, Bool.true_and, Bool.false_and, Bool.and_true, Bool.and_false, Bool.true_or, Bool.false_or, Bool.or_true, Bool.or_false]
  refine RBytes_ok (by omega) (by decide) fun h2 u2 => ?_
  simp only [Nat.zero_add, l1 u2, l2 u2, l3 u2, eq_self, true_and]
  refine RBytes_ok (by omega) (by decide) fun h3 u3 => ?_
  have e3 := u2.trans u3
  have a1 : SemP PG (binOp .add T_string (.string (tx (be f 1))) (.string (tx (be s 8)))) = some (.string (tx (be f 1 ++ be s 8))) := add_tx (by simp only [be_len]; decide)
  simp only [l2 e3, l3 e3, a1, eq_self, true_and, popO_some, bindH_eq, condV_bool, condV_true, condV_false, yV_bool, gopV_tt, gopV_ff, gopV_tf, gopV_ft, pickV_t, pickV_f, pickV_bool, nilS_ptr, add_eq, sub_eq, mul_eq, lss_eq, leq_eq, gtr_eq, geq_eq, not_eq, minI_eq, maxI_eq, extract_0, extract_1, extract_2, eqlI, neqI, makeFunc_eq, decide_true, decide_false, if_true, if_false, Bool.false_eq_true, Bool.not_true, Bool.not_false, reduceIte, List.getElem?_toArray, List.getElem?_cons_zero, List.getElem?_cons_succ, Option.isSome_none, List.length_map, yV_undef, gopV_none, Nat.zero_add, Nat.reduceAdd, beq_self_eq_true, bne_self_eq_false, and_self, Bool.true_and, Bool.false_and, Bool.and_true, Bool.and_false, Bool.true_or, Bool.false_or, Bool.or_true, Bool.or_false]
  refine RBytes_ok (by omega) (by decide) fun h4 u4 => ?_
  have e4 := e3.trans u4
  have a2 : SemP PG (binOp .add T_string (.string (tx (be f 1 ++ be s 8))) (.string (tx (be t 8)))) = some (.string (tx ((be f 1 ++ be s 8) ++ be t 8))) := add_tx (by simp only [be_len, List.length_append]; decide)
  simp only [l3 e4, a2, eq_self, true_and, popO_some, bindH_eq, condV_bool, condV_true, condV_false, yV_bool, gopV_tt, gopV_ff, gopV_tf, gopV_ft, pickV_t, pickV_f, pickV_bool, nilS_ptr, add_eq, sub_eq, mul_eq, lss_eq, leq_eq, gtr_eq, geq_eq, not_eq, minI_eq, maxI_eq, extract_0, extract_1, extract_2, eqlI, neqI, makeFunc_eq, decide_true, decide_false, if_true, if_false, Bool.false_eq_true, Bool.not_true, Bool.not_false, reduceIte, List.getElem?_toArray, List.getElem?_cons_zero, List.getElem?_cons_succ, Option.isSome_none, List.length_map, yV_undef, gopV_none, Nat.zero_add, Nat.reduceAdd, beq_self_eq_true, bne_self_eq_false, and_self, Bool.true_and, Bool.false_and, Bool.and_true, Bool.and_false, Bool.true_or, Bool.false_or, Bool.or_true, Bool.or_false]
  refine RBytes_ok (by omega) (by decide) fun h5 u5 => ?_
  have e5 := e4.trans u5
  have a3 : SemP PG (binOp .add T_string (.string (tx ((be f 1 ++ be s 8) ++ be t 8))) (.string (tx (be l.length 2)))) = some (.string (tx (((be f 1 ++ be s 8) ++ be t 8) ++ be l.length 2))) := add_tx (by simp only [be_len, List.length_append]; decide)
  have a4 : SemP PG (binOp .add T_string (.string (tx (((be f 1 ++ be s 8) ++ be t 8) ++ be l.length 2))) (.string (tx l))) = some (.string (tx ((((be f 1 ++ be s 8) ++ be t 8) ++ be l.length 2) ++ l))) := add_tx (by simp only [be_len, List.length_append]; omega)
  simp only [l3 e5, a3, a4, eq_self, true_and, popO_some, bindH_eq, condV_bool, condV_true, condV_false, yV_bool, gopV_tt, gopV_ff, gopV_tf, gopV_ft, pickV_t, pickV_f, pickV_bool, nilS_ptr, add_eq, sub_eq, mul_eq, lss_eq, leq_eq, gtr_eq, geq_eq, not_eq, minI_eq, maxI_eq, extract_0, extract_1, extract_2, eqlI, neqI, makeFunc_eq, decide_true, decide_false, if_true, if_false, Bool.false_eq_true, Bool.not_true, Bool.not_false, reduceIte, List.getElem?_toArray, List.getElem?_cons_zero, List.getElem?_cons_succ, Option.isSome_none, List.length_map, yV_undef, gopV_none, Nat.zero_add, Nat.reduceAdd, beq_self_eq_true, bne_self_eq_false, and_self, Bool.true_and, Bool.false_and, Bool.and_true, Bool.and_false, Bool.true_or, Bool.false_or, Bool.or_true, Bool.or_false]
  rw [List.append_assoc, List.append_assoc, List.append_assoc]
  exact hk _ (u1.trans e5)
end Go.Proofs.YtlkjippiaghbmaaGreat
/- the document's bytes of a place, of items, of notes. -/
set_option linter.unusedSimpArgs false
set_option linter.unusedVariables false
namespace Go.Proofs.YtlkjippiaghbmaaGreat
open Go
set_option maxRecDepth 20000
theorem RPlace_ok {h : PH} {q : Pl} (w : q.wf) {k : Value → PH → Prop} (hbad : ¬ okPl q → ∀ h', Ext h h' → k (.tuple #[.string (tx []), .int .i64 1]) h') (hk : okPl q → ∀ h', Ext h h' → k (.tuple #[.string (tx q.bs), .int .i64 0]) h') : CallsH PG id_carrackref14_Place #[.agg q.cells.toArray] h k := by
  apply carrackref14_Place.call
  unfold carrackref14_Place
  intro r hr
  try rw [bindH_eq]
  have u1 : Ext h (h.set r (.cells (Value.cells (.agg q.cells.toArray)) T_api_Place)) := Upd.new hr
  have B1 : Bx (h.set r (.cells (Value.cells (.agg q.cells.toArray)) T_api_Place)) r q.cells := Bx.new
  generalize h.set r (.cells (Value.cells (.agg q.cells.toArray)) T_api_Place) = h1 at *
  have l0 : ∀ {h' : PH}, Ext h1 h' → SemE PG h' (Instr.loadAt T_uint64 (.pointer (some ⟨r, 0, none⟩))) = some (.int .u64 q.h) := fun u => by rw [T_uint64.load, (B1.ext u).cell]; rfl
  have l1 : ∀ {h' : PH}, Ext h1 h' → SemE PG h' (Instr.loadAt T_int (.pointer (some ⟨r, 1, none⟩))) = some (.int .i64 q.i) := fun u => by rw [T_int.load, (B1.ext u).cell]; rfl
  have q0 : ({ data := #[] } : ByteArray) = tx [] := rfl
  by_cases h0 : q.i < 0
  · have g := eq_true h0
    simp only [T_api_Place.f1, l1 Upd.refl, g, q0, popO_some, bindH_eq, condV_bool, condV_true, condV_false, yV_bool, gopV_tt, gopV_ff, gopV_tf, gopV_ft, pickV_t, pickV_f, pickV_bool, nilS_ptr, add_eq, sub_eq, mul_eq, lss_eq, leq_eq, gtr_eq, geq_eq, not_eq, minI_eq, maxI_eq, extract_0, extract_1, extract_2, eqlI, neqI, makeFunc_eq, decide_true, decide_false, if_true, if_false, Bool.false_eq_true, Bool.not_true, Bool.not_false, reduceIte, List.getElem?_toArray, List.getElem?_cons_zero, List.getElem?_cons_succ, Option.isSome_none, List.length_map, yV_undef, gopV_none, Nat.zero_add, Nat.reduceAdd, beq_self_eq_true, bne_self_eq_false, and_self, Bool.true_and, Bool.false_and, Bool.and_true, Bool.and_false, Bool.true_or, Bool.false_or, Bool.or_true, Bool.or_false]
    exact hbad (fun c => by have := c.1; omega) _ u1
  have g := eq_false h0
  by_cases h2 : 65535 < q.i
  · have g2 := eq_true h2
    simp only [T_api_Place.f1, l1 Upd.refl, g, g2, q0, popO_some, bindH_eq, condV_bool, condV_true, condV_false, yV_bool, gopV_tt, gopV_ff, gopV_tf, gopV_ft, pickV_t, pickV_f, pickV_bool, nilS_ptr, add_eq, sub_eq, mul_eq, lss_eq, leq_eq, gtr_eq, geq_eq, not_eq, minI_eq, maxI_eq, extract_0, extract_1, extract_2, eqlI, neqI, makeFunc_eq, decide_true, decide_false, if_true, if_false, Bool.false_eq_true, Bool.not_true, Bool.not_false, reduceIte, List.getElem?_toArray, List.getElem?_cons_zero, List.getElem?_cons_succ, Option.isSome_none, List.length_map, yV_undef, gopV_none, Nat.zero_add, Nat.reduceAdd, beq_self_eq_true, bne_self_eq_false, and_self, Bool.true_and, Bool.false_and, Bool.and_true, Bool.and_false, Bool.true_or, Bool.false_or, Bool.or_true, Bool.or_false]
    exact hbad (fun c => by have := c.2; omega) _ u1
  have g2 := eq_false h2
  have hk := hk ⟨by omega, by omega⟩
  obtain ⟨H, i⟩ := q
  obtain ⟨w1, w2⟩ := w
  simp only at *
  obtain ⟨H, rfl⟩ := Int.eq_ofNat_of_zero_le w1
  obtain ⟨i, rfl⟩ := Int.eq_ofNat_of_zero_le (Int.not_lt.1 h0)
  have c1 : IntKind.u64.wrap (i : Int) = (i : Int) := u64_wrap (by omega) (by omega)
  simp only [T_api_Place.f1, T_api_Place.f0, l1 Upd.refl, l0 Upd.refl, g, g2, cvi_u64, c1, popO_some, bindH_eq, condV_bool, condV_true, condV_false, yV_bool, gopV_tt, gopV_ff, gopV_tf, gopV_ft, pickV_t, pickV_f, pickV_bool, nilS_ptr, add_eq, sub_eq, mul_eq, lss_eq, leq_eq, gtr_eq, geq_eq, not_eq, minI_eq, maxI_eq, extract_0, extract_1, extract_2, eqlI, neqI, makeFunc_eq, decide_true, decide_false, if_true, if_false, Bool.false_eq_true, Bool.not_true, Bool.not_false, reduceIte, List.getElem?_toArray, List.getElem?_cons_zero, List.getElem?_cons_succ, Option.isSome_none, List.length_map, yV_undef, gopV_none, Nat.zero_add, Nat.reduceAdd, beq_self_eq_true, bne_self_eq_false, and_self, Bool.true_and, Bool.false_and, Bool.and_true, Bool.and_false, Bool.true_or, Bool.false_or, Bool.or_true, Bool.or_false]
  refine RBytes_ok (by omega) (by decide) fun h2 u2 => ?_
  simp only [l1 u2, eq_self, true_and]
  refine RBytes_ok (by omega) (by decide) fun h3 u3 => ?_
  rw [add_tx (by simp only [be_len]; decide)]
  simp only [popO_some, bindH_eq, condV_bool, condV_true, condV_false, yV_bool, gopV_tt, gopV_ff, gopV_tf, gopV_ft, pickV_t, pickV_f, pickV_bool, nilS_ptr, add_eq, sub_eq, mul_eq, lss_eq, leq_eq, gtr_eq, geq_eq, not_eq, minI_eq, maxI_eq, extract_0, extract_1, extract_2, eqlI, neqI, makeFunc_eq, decide_true, decide_false, if_true, if_false, Bool.false_eq_true, Bool.not_true, Bool.not_false, reduceIte, List.getElem?_toArray, List.getElem?_cons_zero, List.getElem?_cons_succ, Option.isSome_none, List.length_map, yV_undef, gopV_none, Nat.zero_add, Nat.reduceAdd, beq_self_eq_true, bne_self_eq_false, and_self, Bool.true_and, Bool.false_and, Bool.and_true, Bool.and_false, Bool.true_or, Bool.false_or, Bool.or_true, Bool.or_false]
  unfold Pl.bs at hk
  exact hk _ (u1.trans (u2.trans u3))
theorem right_it {i : It} : i.right = true ↔ ItOk i := by
  unfold It.right ItOk
  simp only [Bool.and_eq_true, Bool.or_eq_true, decide_eq_true_eq]
  constructor
  · rintro ⟨a, b⟩; exact ⟨by omega, by omega, b⟩
  · rintro ⟨a, b, c⟩; exact ⟨by omega, c⟩
theorem right_nt {i : Nt} : i.right = true ↔ NtOk i := by
  unfold Nt.right NtOk
  simp only [Bool.and_eq_true, decide_eq_true_eq, and_assoc]
theorem one_le {x : Int × Pk} (h : x.2.right = true) : (oneBs x).length ≤ 84 := by
  have := (Pk.right_iff.1 h).2.2.2.2
  simp only [oneBs, Pk.bs, List.length_append, be_len, tx_len]
  omega
theorem onesBs_snoc (l : List (Int × Pk)) (x : Int × Pk) : onesBs (l ++ [x]) = onesBs l ++ oneBs x := by
  induction l with
  | nil => simp [onesBs]
  | cons y l ih => simp [onesBs, ih]
theorem ones_le : ∀ {l : List (Int × Pk)}, (∀ x ∈ l, x.2.right = true) → (onesBs l).length ≤ 84 * l.length
  | [], _ => by simp [onesBs]
  | x :: l, h => by
    have h1 := one_le (h x (by simp))
    have h2 := ones_le (l := l) fun y hy => h y (by simp [hy])
    simp only [onesBs, List.length_append, List.length_cons]
    omega
theorem len0 (x : Tx) : SemP PG (Builtin.len_ #[T_string] T_int #[.string (tx x)]) = some (.int .i64 (x.length : Int)) := by rw [len_string T_string.und, tx_size]

theorem RItems_ok {h : PH} {v : Value} {l : List It} (V : SlR h 5 v (l.map It.cells)) (hl : l.length ≤ 100000) (w : ∀ i ∈ l, i.p.wf) {k : Value → PH → Prop}
    (hbad : ¬ (l.length ≤ 255 ∧ ∀ i ∈ l, i.right = true) → ∀ h', Ext h h' → k (.tuple #[.string (tx []), .int .i64 1]) h') (hk : l.length ≤ 255 → (∀ i ∈ l, i.right = true) → ∀ h', Ext h h' → k (.tuple #[.string (tx (listBs (l.map It.x))), .int .i64 0]) h') :
    CallsH PG id_carrackref14_Items #[v] h k := by
  have lx := V.len (t' := T_int) T_sl_api_Item.und
  rw [List.length_map] at lx
  have q0 : ({ data := #[] } : ByteArray) = tx [] := rfl
  apply carrackref14_Items.call
  unfold carrackref14_Items
  by_cases h2 : 255 < l.length
  · have g : ((255 : Int) < (l.length : Int)) = True := eq_true (by omega)
    simp only [lx, g, q0, popO_some, bindH_eq, condV_bool, condV_true, condV_false, yV_bool, gopV_tt, gopV_ff, gopV_tf, gopV_ft, pickV_t, pickV_f, pickV_bool, nilS_ptr, add_eq, sub_eq, mul_eq, lss_eq, leq_eq, gtr_eq, geq_eq, not_eq, minI_eq, maxI_eq, extract_0, extract_1, extract_2, eqlI, neqI, makeFunc_eq, decide_true, decide_false, if_true, if_false, Bool.false_eq_true, Bool.not_true, Bool.not_false, reduceIte, List.getElem?_toArray, List.getElem?_cons_zero, List.getElem?_cons_succ, Option.isSome_none, List.length_map, yV_undef, gopV_none, Nat.zero_add, Nat.reduceAdd, beq_self_eq_true, bne_self_eq_false, and_self, Bool.true_and, Bool.false_and, Bool.and_true, Bool.and_false, Bool.true_or, Bool.false_or, Bool.or_true, Bool.or_false]
    exact hbad (fun c => by have := c.1; omega) _ Upd.refl
  have g : ((255 : Int) < (l.length : Int)) = False := eq_false (by omega)
  have c1 : IntKind.u64.wrap (l.length : Int) = (l.length : Int) := u64_wrap (by omega) (by omega)
  simp only [lx, g, cvi_u64, c1, popO_some, bindH_eq, condV_bool, condV_true, condV_false, yV_bool, gopV_tt, gopV_ff, gopV_tf, gopV_ft, pickV_t, pickV_f, pickV_bool, nilS_ptr, add_eq, sub_eq, mul_eq, lss_eq, leq_eq, gtr_eq, geq_eq, not_eq, minI_eq, maxI_eq, extract_0, extract_1, extract_2, eqlI, neqI, makeFunc_eq, decide_true, decide_false, if_true, if_false, Bool.false_eq_true, Bool.not_true, Bool.not_false, reduceIte, List.getElem?_toArray, List.getElem?_cons_zero, List.getElem?_cons_succ, Option.isSome_none, List.length_map, yV_undef, gopV_none, Nat.zero_add, Nat.reduceAdd, beq_self_eq_true, bne_self_eq_false, and_self, Bool.true_and, Bool.false_and, Bool.and_true, Bool.and_false, Bool.true_or, Bool.false_or, Bool.or_true, Bool.or_false]
  refine RBytes_ok (by omega) (by decide) fun h2 u2 => ?_
  refine ⟨fun vs h' => ∃ i : Nat, i ≤ l.length ∧ vs = [v, .string (tx (be l.length 1 ++ onesBs ((l.take i).map It.x))), .int .i64 (i : Int)] ∧ Ext h h' ∧ ∀ y ∈ l.take i, y.right = true, upTo l.length 2, ⟨0, by omega, by simp [onesBs], u2, by simp⟩, ?_⟩
  rintro ρ h' ⟨i, hi, hvs, u, hr⟩
  simp only [List.map_cons, List.map_nil, List.cons.injEq, and_true] at hvs
  obtain ⟨e0, e1, e2⟩ := hvs
  unfold carrackref14_Items_b8
  rw [e0, e1, e2]
  by_cases hlt : i < l.length
  · have hd : ((i : Int) < (l.length : Int)) = True := by apply eq_true; omega
    obtain ⟨m, hm⟩ : ∃ m, l[i]? = some m := ⟨_, List.getElem?_eq_getElem hlt⟩
    have hmem : m ∈ l := List.mem_of_getElem? hm
    have look : ∃ b o, SemP PG (Instr.indexAt T_sl_api_Item v (.int .i64 (i : Int))) = some (.pointer (some ⟨b, o, none⟩)) ∧ ∀ {h'' : PH}, Ext h h'' → SemE PG h'' (Instr.loadAt T_api_Item (.pointer (some ⟨b, o, none⟩))) = some (m.val) ∧ SemE PG h'' (Instr.loadAt T_int (.pointer (some ⟨b, o + 4, none⟩))) = some (.int .i64 m.g) ∧ SemE PG h'' (Instr.loadAt T_api_Packet (.pointer (some ⟨b, o, none⟩))) = some (.agg m.p.cells.toArray) := by
      obtain ⟨b, o, cs, e', fr, h1, hb, hle, hex⟩ := V.at T_sl_api_Item.und T_api_Item.info T_api_Item.size (k := .i64) (j := (i : Int)) (r := m.cells) (by omega) (by rw [List.getElem?_map, Int.toNat_natCast, hm]; rfl)
      have hd : ∀ i n, i + n ≤ 5 → (cs.extract (o + i) (o + i + n)).toList = (m.cells.drop i).take n := fun i n hi => by
        rw [← hex]
        simp only [Array.toList_extract, List.extract_eq_take_drop, Nat.add_sub_cancel_left, List.drop_take, List.drop_drop, List.take_take]
        congr 1; omega
      refine ⟨b, o, h1, fun {h''} u => ?_⟩
      have hb' := u.get hb
      refine ⟨?_, ?_, ?_⟩
      · rw [T_api_Item.loadAgg hb' hle]
        congr 2
        exact Array.ext' (hd 0 5 (by decide))
      · rw [T_int.load]
        unfold cellH
        simp only [hb']
        have := congrArg (fun l : List Value => l[0]?) (hd 4 1 (by decide))
        simp only [Array.toList_extract, List.extract_eq_take_drop, Nat.add_zero, Nat.add_sub_cancel_left, List.getElem?_take, List.getElem?_drop] at this
        simpa [It.cells, Pk.cells] using this
      · rw [T_api_Packet.loadAgg hb' (by omega)]
        congr 2
        exact Array.ext' (hd 0 4 (by decide))
    obtain ⟨b, o, a1, a2⟩ := look
    have ei : IntKind.i64.wrap ((i : Int) + 1) = ((i + 1 : Nat) : Int) := by rw [i64_wrap (by omega) (by omega)]; omega
    have wm := w m hmem
    simp only [lx, hd, a1, (a2 u).1, popO_some, bindH_eq, condV_bool, condV_true, condV_false, yV_bool, gopV_tt, gopV_ff, gopV_tf, gopV_ft, pickV_t, pickV_f, pickV_bool, nilS_ptr, add_eq, sub_eq, mul_eq, lss_eq, leq_eq, gtr_eq, geq_eq, not_eq, minI_eq, maxI_eq, extract_0, extract_1, extract_2, eqlI, neqI, makeFunc_eq, decide_true, decide_false, if_true, if_false, Bool.false_eq_true, Bool.not_true, Bool.not_false, reduceIte, List.getElem?_toArray, List.getElem?_cons_zero, List.getElem?_cons_succ, Option.isSome_none, List.length_map, yV_undef, gopV_none, Nat.zero_add, Nat.reduceAdd, beq_self_eq_true, bne_self_eq_false, and_self, Bool.true_and, Bool.false_and, Bool.and_true, Bool.and_false, Bool.true_or, Bool.false_or, Bool.or_true, Bool.or_false]
    refine RIRight_ok m wm.1 wm.2.2.1 fun h3 u3 => ?_
    have e3 := u.trans u3
    by_cases hm2 : m.right = true
    · have ok := right_it.1 hm2
      have hp : m.p.right = true := ok.2.2
      obtain ⟨n, hn⟩ : ∃ n : Nat, m.g = (n : Int) := Int.eq_ofNat_of_zero_le (by have := ok.1; omega)
      have ex : m.x = ((n : Int), m.p) := by rw [x_it ok, hn]
      have hn' : n ≤ 255 := by have := ok.2.1; omega
      have c2 : IntKind.u64.wrap (n : Int) = (n : Int) := u64_wrap (by omega) (by omega)
      have hlen : (onesBs ((l.take i).map It.x)).length ≤ 84 * 255 := by
        have := ones_le (l := (l.take i).map It.x) (by
          simp only [List.forall_mem_map]
          intro y hy
          have oy := right_it.1 (hr y hy)
          rw [x_it oy]
          exact oy.2.2)
        rw [List.length_map, List.length_take] at this
        omega
      simp only [hm2, T_api_Item.f0, T_api_Item.f1, (a2 e3).2.1, (a2 e3).2.2, hn, cvi_u64, c2, popO_some, bindH_eq, condV_bool, condV_true, condV_false, yV_bool, gopV_tt, gopV_ff, gopV_tf, gopV_ft, pickV_t, pickV_f, pickV_bool, nilS_ptr, add_eq, sub_eq, mul_eq, lss_eq, leq_eq, gtr_eq, geq_eq, not_eq, minI_eq, maxI_eq, extract_0, extract_1, extract_2, eqlI, neqI, makeFunc_eq, decide_true, decide_false, if_true, if_false, Bool.false_eq_true, Bool.not_true, Bool.not_false, reduceIte, List.getElem?_toArray, List.getElem?_cons_zero, List.getElem?_cons_succ, Option.isSome_none, List.length_map, yV_undef, gopV_none, Nat.zero_add, Nat.reduceAdd, beq_self_eq_true, bne_self_eq_false, and_self, Bool.true_and, Bool.false_and, Bool.and_true, Bool.and_false, Bool.true_or, Bool.false_or, Bool.or_true, Bool.or_false]
      refine RBytes_ok (by omega) (by decide) fun h4 u4 => ?_
      have e4 := e3.trans u4
      have s1 : SemP PG (binOp .add T_string (.string (tx (be l.length 1 ++ onesBs ((l.take i).map It.x)))) (.string (tx (be n 1)))) = some (.string (tx ((be l.length 1 ++ onesBs ((l.take i).map It.x)) ++ be n 1))) := add_tx (by simp only [be_len, List.length_append]; omega)
      simp only [(a2 e4).2.2, s1, eq_self, true_and, popO_some, bindH_eq, condV_bool, condV_true, condV_false, yV_bool, gopV_tt, gopV_ff, gopV_tf, gopV_ft, pickV_t, pickV_f, pickV_bool, nilS_ptr, add_eq, sub_eq, mul_eq, lss_eq, leq_eq, gtr_eq, geq_eq, not_eq, minI_eq, maxI_eq, extract_0, extract_1, extract_2, eqlI, neqI, makeFunc_eq, decide_true, decide_false, if_true, if_false, Bool.false_eq_true, Bool.not_true, Bool.not_false, reduceIte, List.getElem?_toArray, List.getElem?_cons_zero, List.getElem?_cons_succ, Option.isSome_none, List.length_map, yV_undef, gopV_none, Nat.zero_add, Nat.reduceAdd, beq_self_eq_true, bne_self_eq_false, and_self, Bool.true_and, Bool.false_and, Bool.and_true, Bool.and_false, Bool.true_or, Bool.false_or, Bool.or_true, Bool.or_false]
      refine RPBytes_ok wm hp fun h5 u5 => ?_
      have hpl : m.p.bs.length ≤ 84 := by
        have := (Pk.right_iff.1 hp).2.2.2.2
        simp only [Pk.bs, List.length_append, be_len, tx_len]
        omega
      have s2 : SemP PG (binOp .add T_string (.string (tx ((be l.length 1 ++ onesBs ((l.take i).map It.x)) ++ be n 1))) (.string (tx m.p.bs))) = some (.string (tx (be l.length 1 ++ onesBs ((l.take (i + 1)).map It.x)))) := by
        rw [add_tx (by simp only [be_len, List.length_append]; omega), List.take_add_one, hm]
        simp only [Option.toList, List.map_append, List.map_cons, List.map_nil, onesBs_snoc, ex, oneBs, Int.toNat_natCast, List.append_assoc]
      simp only [s2, ei, popO_some, bindH_eq, condV_bool, condV_true, condV_false, yV_bool, gopV_tt, gopV_ff, gopV_tf, gopV_ft, pickV_t, pickV_f, pickV_bool, nilS_ptr, add_eq, sub_eq, mul_eq, lss_eq, leq_eq, gtr_eq, geq_eq, not_eq, minI_eq, maxI_eq, extract_0, extract_1, extract_2, eqlI, neqI, makeFunc_eq, decide_true, decide_false, if_true, if_false, Bool.false_eq_true, Bool.not_true, Bool.not_false, reduceIte, List.getElem?_toArray, List.getElem?_cons_zero, List.getElem?_cons_succ, Option.isSome_none, List.length_map, yV_undef, gopV_none, Nat.zero_add, Nat.reduceAdd, beq_self_eq_true, bne_self_eq_false, and_self, Bool.true_and, Bool.false_and, Bool.and_true, Bool.and_false, Bool.true_or, Bool.false_or, Bool.or_true, Bool.or_false]
      refine ⟨⟨i + 1, by omega, rfl, e4.trans u5, fun y hy => ?_⟩, by simp [upTo, e2]; omega⟩
      rw [List.take_add_one, hm] at hy
      rcases List.mem_append.1 hy with hy | hy
      · exact hr y hy
      · simp at hy; subst hy; exact hm2
    · have hf : m.right = false := by simpa using hm2
      simp only [hf, q0, popO_some, bindH_eq, condV_bool, condV_true, condV_false, yV_bool, gopV_tt, gopV_ff, gopV_tf, gopV_ft, pickV_t, pickV_f, pickV_bool, nilS_ptr, add_eq, sub_eq, mul_eq, lss_eq, leq_eq, gtr_eq, geq_eq, not_eq, minI_eq, maxI_eq, extract_0, extract_1, extract_2, eqlI, neqI, makeFunc_eq, decide_true, decide_false, if_true, if_false, Bool.false_eq_true, Bool.not_true, Bool.not_false, reduceIte, List.getElem?_toArray, List.getElem?_cons_zero, List.getElem?_cons_succ, Option.isSome_none, List.length_map, yV_undef, gopV_none, Nat.zero_add, Nat.reduceAdd, beq_self_eq_true, bne_self_eq_false, and_self, Bool.true_and, Bool.false_and, Bool.and_true, Bool.and_false, Bool.true_or, Bool.false_or, Bool.or_true, Bool.or_false]
      exact hbad (fun c => hm2 (c.2 m hmem)) _ e3
  · have hd : ((i : Int) < (l.length : Int)) = False := by apply eq_false; omega
    rw [List.take_of_length_le (by omega)] at hr e1 ⊢
    simp only [lx, hd, popO_some, bindH_eq, condV_bool, condV_true, condV_false, yV_bool, gopV_tt, gopV_ff, gopV_tf, gopV_ft, pickV_t, pickV_f, pickV_bool, nilS_ptr, add_eq, sub_eq, mul_eq, lss_eq, leq_eq, gtr_eq, geq_eq, not_eq, minI_eq, maxI_eq, extract_0, extract_1, extract_2, eqlI, neqI, makeFunc_eq, decide_true, decide_false, if_true, if_false, Bool.false_eq_true, Bool.not_true, Bool.not_false, reduceIte, List.getElem?_toArray, List.getElem?_cons_zero, List.getElem?_cons_succ, Option.isSome_none, List.length_map, yV_undef, gopV_none, Nat.zero_add, Nat.reduceAdd, beq_self_eq_true, bne_self_eq_false, and_self, Bool.true_and, Bool.false_and, Bool.and_true, Bool.and_false, Bool.true_or, Bool.false_or, Bool.or_true, Bool.or_false]
    have hk := hk (by omega) hr _ u
    unfold listBs at hk
    rw [List.length_map] at hk
    exact hk

theorem RNotes_ok {h : PH} {v : Value} {l : List Nt} (V : SlR h 5 v (l.map Nt.cells)) (hl : l.length ≤ 100000) (w : ∀ i ∈ l, i.p.wf) {k : Value → PH → Prop}
    (hbad : ¬ (l.length ≤ 255 ∧ ∀ i ∈ l, i.right = true) → ∀ h', Ext h h' → k (.tuple #[.string (tx []), .int .i64 1]) h') (hk : l.length ≤ 255 → (∀ i ∈ l, i.right = true) → ∀ h', Ext h h' → k (.tuple #[.string (tx (listBs (l.map Nt.x))), .int .i64 0]) h') :
    CallsH PG id_carrackref14_Notes #[v] h k := by
  have lx := V.len (t' := T_int) T_sl_api_Note.und
  rw [List.length_map] at lx
  have q0 : ({ data := #[] } : ByteArray) = tx [] := rfl
  apply carrackref14_Notes.call
  unfold carrackref14_Notes
  by_cases h2 : 255 < l.length
  · have g : ((255 : Int) < (l.length : Int)) = True := eq_true (by omega)
    simp only [lx, g, q0, popO_some, bindH_eq, condV_bool, condV_true, condV_false, yV_bool, gopV_tt, gopV_ff, gopV_tf, gopV_ft, pickV_t, pickV_f, pickV_bool, nilS_ptr, add_eq, sub_eq, mul_eq, lss_eq, leq_eq, gtr_eq, geq_eq, not_eq, minI_eq, maxI_eq, extract_0, extract_1, extract_2, eqlI, neqI, makeFunc_eq, decide_true, decide_false, if_true, if_false, Bool.false_eq_true, Bool.not_true, Bool.not_false, reduceIte, List.getElem?_toArray, List.getElem?_cons_zero, List.getElem?_cons_succ, Option.isSome_none, List.length_map, yV_undef, gopV_none, Nat.zero_add, Nat.reduceAdd, beq_self_eq_true, bne_self_eq_false, and_self, Bool.true_and, Bool.false_and, Bool.and_true, Bool.and_false, Bool.true_or, Bool.false_or, Bool.or_true, Bool.or_false]
    exact hbad (fun c => by have := c.1; omega) _ Upd.refl
  have g : ((255 : Int) < (l.length : Int)) = False := eq_false (by omega)
  have c1 : IntKind.u64.wrap (l.length : Int) = (l.length : Int) := u64_wrap (by omega) (by omega)
  simp only [lx, g, cvi_u64, c1, popO_some, bindH_eq, condV_bool, condV_true, condV_false, yV_bool, gopV_tt, gopV_ff, gopV_tf, gopV_ft, pickV_t, pickV_f, pickV_bool, nilS_ptr, add_eq, sub_eq, mul_eq, lss_eq, leq_eq, gtr_eq, geq_eq, not_eq, minI_eq, maxI_eq, extract_0, extract_1, extract_2, eqlI, neqI, makeFunc_eq, decide_true, decide_false, if_true, if_false, Bool.false_eq_true, Bool.not_true, Bool.not_false, reduceIte, List.getElem?_toArray, List.getElem?_cons_zero, List.getElem?_cons_succ, Option.isSome_none, List.length_map, yV_undef, gopV_none, Nat.zero_add, Nat.reduceAdd, beq_self_eq_true, bne_self_eq_false, and_self, Bool.true_and, Bool.false_and, Bool.and_true, Bool.and_false, Bool.true_or, Bool.false_or, Bool.or_true, Bool.or_false]
  refine RBytes_ok (by omega) (by decide) fun h2 u2 => ?_
  refine ⟨fun vs h' => ∃ i : Nat, i ≤ l.length ∧ vs = [v, .string (tx (be l.length 1 ++ onesBs ((l.take i).map Nt.x))), .int .i64 (i : Int)] ∧ Ext h h' ∧ ∀ y ∈ l.take i, y.right = true, upTo l.length 2, ⟨0, by omega, by simp [onesBs], u2, by simp⟩, ?_⟩
  rintro ρ h' ⟨i, hi, hvs, u, hr⟩
  simp only [List.map_cons, List.map_nil, List.cons.injEq, and_true] at hvs
  obtain ⟨e0, e1, e2⟩ := hvs
  unfold carrackref14_Notes_b8
  rw [e0, e1, e2]
  by_cases hlt : i < l.length
  · have hd : ((i : Int) < (l.length : Int)) = True := by apply eq_true; omega
    obtain ⟨m, hm⟩ : ∃ m, l[i]? = some m := ⟨_, List.getElem?_eq_getElem hlt⟩
    have hmem : m ∈ l := List.mem_of_getElem? hm
    have look : ∃ b o, SemP PG (Instr.indexAt T_sl_api_Note v (.int .i64 (i : Int))) = some (.pointer (some ⟨b, o, none⟩)) ∧ ∀ {h'' : PH}, Ext h h'' → SemE PG h'' (Instr.loadAt T_api_Note (.pointer (some ⟨b, o, none⟩))) = some (.agg m.cells.toArray) ∧ SemE PG h'' (Instr.loadAt T_int (.pointer (some ⟨b, o, none⟩))) = some (.int .i64 m.k) ∧ SemE PG h'' (Instr.loadAt T_api_Packet (.pointer (some ⟨b, o + 1, none⟩))) = some (.agg m.p.cells.toArray) := by
      obtain ⟨b, o, cs, e', fr, h1, hb, hle, hex⟩ := V.at T_sl_api_Note.und T_api_Note.info T_api_Note.size (k := .i64) (j := (i : Int)) (r := m.cells) (by omega) (by rw [List.getElem?_map, Int.toNat_natCast, hm]; rfl)
      have hd : ∀ i n, i + n ≤ 5 → (cs.extract (o + i) (o + i + n)).toList = (m.cells.drop i).take n := fun i n hi => by
        rw [← hex]
        simp only [Array.toList_extract, List.extract_eq_take_drop, Nat.add_sub_cancel_left, List.drop_take, List.drop_drop, List.take_take]
        congr 1; omega
      refine ⟨b, o, h1, fun {h''} u => ?_⟩
      have hb' := u.get hb
      refine ⟨?_, ?_, ?_⟩
      · rw [T_api_Note.loadAgg hb' hle]
        congr 2
        exact Array.ext' (hd 0 5 (by decide))
      · rw [T_int.load]
        unfold cellH
        simp only [hb']
        have := congrArg (fun l : List Value => l[0]?) (hd 0 1 (by decide))
        simp only [Array.toList_extract, List.extract_eq_take_drop, Nat.add_zero, Nat.add_sub_cancel_left, List.getElem?_take, List.getElem?_drop] at this
        simpa [Nt.cells, Pk.cells] using this
      · rw [T_api_Packet.loadAgg hb' (by omega)]
        congr 2
        exact Array.ext' (hd 1 4 (by decide))
    obtain ⟨b, o, a1, a2⟩ := look
    have ei : IntKind.i64.wrap ((i : Int) + 1) = ((i + 1 : Nat) : Int) := by rw [i64_wrap (by omega) (by omega)]; omega
    have wm := w m hmem
    simp only [lx, hd, a1, (a2 u).1, popO_some, bindH_eq, condV_bool, condV_true, condV_false, yV_bool, gopV_tt, gopV_ff, gopV_tf, gopV_ft, pickV_t, pickV_f, pickV_bool, nilS_ptr, add_eq, sub_eq, mul_eq, lss_eq, leq_eq, gtr_eq, geq_eq, not_eq, minI_eq, maxI_eq, extract_0, extract_1, extract_2, eqlI, neqI, makeFunc_eq, decide_true, decide_false, if_true, if_false, Bool.false_eq_true, Bool.not_true, Bool.not_false, reduceIte, List.getElem?_toArray, List.getElem?_cons_zero, List.getElem?_cons_succ, Option.isSome_none, List.length_map, yV_undef, gopV_none, Nat.zero_add, Nat.reduceAdd, beq_self_eq_true, bne_self_eq_false, and_self, Bool.true_and, Bool.false_and, Bool.and_true, Bool.and_false, Bool.true_or, Bool.false_or, Bool.or_true, Bool.or_false]
    refine RNRight_ok m wm.1 wm.2.2.1 fun h3 u3 => ?_
    have e3 := u.trans u3
    by_cases hm2 : m.right = true
    · have ok := right_nt.1 hm2
      have hp : m.p.right = true := ok.2.2
      obtain ⟨n, hn⟩ : ∃ n : Nat, m.k = (n : Int) := Int.eq_ofNat_of_zero_le (by have := ok.1; omega)
      have ex : m.x = ((n : Int), m.p) := by rw [x_nt ok, hn]
      have hn' : n ≤ 255 := by have := ok.2.1; omega
      have c2 : IntKind.u64.wrap (n : Int) = (n : Int) := u64_wrap (by omega) (by omega)
      have hlen : (onesBs ((l.take i).map Nt.x)).length ≤ 84 * 255 := by
        have := ones_le (l := (l.take i).map Nt.x) (by
          simp only [List.forall_mem_map]
          intro y hy
          have oy := right_nt.1 (hr y hy)
          rw [x_nt oy]
          exact oy.2.2)
        rw [List.length_map, List.length_take] at this
        omega
      simp only [hm2, T_api_Note.f0, T_api_Note.f1, (a2 e3).2.1, (a2 e3).2.2, hn, cvi_u64, c2, popO_some, bindH_eq, condV_bool, condV_true, condV_false, yV_bool, gopV_tt, gopV_ff, gopV_tf, gopV_ft, pickV_t, pickV_f, pickV_bool, nilS_ptr, add_eq, sub_eq, mul_eq, lss_eq, leq_eq, gtr_eq, geq_eq, not_eq, minI_eq, maxI_eq, extract_0, extract_1, extract_2, eqlI, neqI, makeFunc_eq, decide_true, decide_false, if_true, if_false, Bool.false_eq_true, Bool.not_true, Bool.not_false, reduceIte, List.getElem?_toArray, List.getElem?_cons_zero, List.getElem?_cons_succ, Option.isSome_none, List.length_map, yV_undef, gopV_none, Nat.zero_add, Nat.reduceAdd, beq_self_eq_true, bne_self_eq_false, and_self, Bool.true_and, Bool.false_and, Bool.and_true, Bool.and_false, Bool.true_or, Bool.false_or, Bool.or_true, Bool.or_false]
      refine RBytes_ok (by omega) (by decide) fun h4 u4 => ?_
      have e4 := e3.trans u4
      have s1 : SemP PG (binOp .add T_string (.string (tx (be l.length 1 ++ onesBs ((l.take i).map Nt.x)))) (.string (tx (be n 1)))) = some (.string (tx ((be l.length 1 ++ onesBs ((l.take i).map Nt.x)) ++ be n 1))) := add_tx (by simp only [be_len, List.length_append]; omega)
      simp only [(a2 e4).2.2, s1, eq_self, true_and, popO_some, bindH_eq, condV_bool, condV_true, condV_false, yV_bool, gopV_tt, gopV_ff, gopV_tf, gopV_ft, pickV_t, pickV_f, pickV_bool, nilS_ptr, add_eq, sub_eq, mul_eq, lss_eq, leq_eq, gtr_eq, geq_eq, not_eq, minI_eq, maxI_eq, extract_0, extract_1, extract_2, eqlI, neqI, makeFunc_eq, decide_true, decide_false, if_true, if_false, Bool.false_eq_true, Bool.not_true, Bool.not_false, reduceIte, List.getElem?_toArray, List.getElem?_cons_zero, List.getElem?_cons_succ, Option.isSome_none, List.length_map, yV_undef, gopV_none, Nat.zero_add, Nat.reduceAdd, beq_self_eq_true, bne_self_eq_false, and_self, Bool.true_and, Bool.false_and, Bool.and_true, Bool.and_false, Bool.true_or, Bool.false_or, Bool.or_true, Bool.or_false]
      refine RPBytes_ok wm hp fun h5 u5 => ?_
      have hpl : m.p.bs.length ≤ 84 := by
        have := (Pk.right_iff.1 hp).2.2.2.2
        simp only [Pk.bs, List.length_append, be_len, tx_len]
        omega
      have s2 : SemP PG (binOp .add T_string (.string (tx ((be l.length 1 ++ onesBs ((l.take i).map Nt.x)) ++ be n 1))) (.string (tx m.p.bs))) = some (.string (tx (be l.length 1 ++ onesBs ((l.take (i + 1)).map Nt.x)))) := by
        rw [add_tx (by simp only [be_len, List.length_append]; omega), List.take_add_one, hm]
        simp only [Option.toList, List.map_append, List.map_cons, List.map_nil, onesBs_snoc, ex, oneBs, Int.toNat_natCast, List.append_assoc]
      simp only [s2, ei, popO_some, bindH_eq, condV_bool, condV_true, condV_false, yV_bool, gopV_tt, gopV_ff, gopV_tf, gopV_ft, pickV_t, pickV_f, pickV_bool, nilS_ptr, add_eq, sub_eq, mul_eq, lss_eq, leq_eq, gtr_eq, geq_eq, not_eq, minI_eq, maxI_eq, extract_0, extract_1, extract_2, eqlI, neqI, makeFunc_eq, decide_true, decide_false, if_true, if_false, Bool.false_eq_true, Bool.not_true, Bool.not_false, reduceIte, List.getElem?_toArray, List.getElem?_cons_zero, List.getElem?_cons_succ, Option.isSome_none, List.length_map, yV_undef, gopV_none, Nat.zero_add, Nat.reduceAdd, beq_self_eq_true, bne_self_eq_false, and_self, Bool.true_and, Bool.false_and, Bool.and_true, Bool.and_false, Bool.true_or, Bool.false_or, Bool.or_true, Bool.or_false]
      refine ⟨⟨i + 1, by omega, rfl, e4.trans u5, fun y hy => ?_⟩, by simp [upTo, e2]; omega⟩
      rw [List.take_add_one, hm] at hy
      rcases List.mem_append.1 hy with hy | hy
      · exact hr y hy
      · simp at hy; subst hy; exact hm2
    · have hf : m.right = false := by simpa using hm2
      simp only [hf, q0, popO_some, bindH_eq, condV_bool, condV_true, condV_false, yV_bool, gopV_tt, gopV_ff, gopV_tf, gopV_ft, pickV_t, pickV_f, pickV_bool, nilS_ptr, add_eq, sub_eq, mul_eq, lss_eq, leq_eq, gtr_eq, geq_eq, not_eq, minI_eq, maxI_eq, extract_0, extract_1, extract_2, eqlI, neqI, makeFunc_eq, decide_true, decide_false, if_true, if_false, Bool.false_eq_true, Bool.not_true, Bool.not_false, reduceIte, List.getElem?_toArray, List.getElem?_cons_zero, List.getElem?_cons_succ, Option.isSome_none, List.length_map, yV_undef, gopV_none, Nat.zero_add, Nat.reduceAdd, beq_self_eq_true, bne_self_eq_false, and_self, Bool.true_and, Bool.false_and, Bool.and_true, Bool.and_false, Bool.true_or, Bool.false_or, Bool.or_true, Bool.or_false]
      exact hbad (fun c => hm2 (c.2 m hmem)) _ e3
  · have hd : ((i : Int) < (l.length : Int)) = False := by apply eq_false; omega
    rw [List.take_of_length_le (by omega)] at hr e1 ⊢
    simp only [lx, hd, popO_some, bindH_eq, condV_bool, condV_true, condV_false, yV_bool, gopV_tt, gopV_ff, gopV_tf, gopV_ft, pickV_t, pickV_f, pickV_bool, nilS_ptr, add_eq, sub_eq, mul_eq, lss_eq, leq_eq, gtr_eq, geq_eq, not_eq, minI_eq, maxI_eq, extract_0, extract_1, extract_2, eqlI, neqI, makeFunc_eq, decide_true, decide_false, if_true, if_false, Bool.false_eq_true, Bool.not_true, Bool.not_false, reduceIte, List.getElem?_toArray, List.getElem?_cons_zero, List.getElem?_cons_succ, Option.isSome_none, List.length_map, yV_undef, gopV_none, Nat.zero_add, Nat.reduceAdd, beq_self_eq_true, bne_self_eq_false, and_self, Bool.true_and, Bool.false_and, Bool.and_true, Bool.and_false, Bool.true_or, Bool.false_or, Bool.or_true, Bool.or_false]
    have hk := hk (by omega) hr _ u
    unfold listBs at hk
    rw [List.length_map] at hk
    exact hk
end Go.Proofs.YtlkjippiaghbmaaGreat
/- the document's bytes of a record: whether it has any. -/
set_option linter.unusedSimpArgs false
set_option linter.unusedVariables false
namespace Go.Proofs.YtlkjippiaghbmaaGreat
open Go
set_option maxRecDepth 20000
theorem ixQ {r o i : Nat} (hi : i < 2) : SemP PG (Instr.indexAt T_2_api_Place (.pointer (some ⟨r, o, none⟩)) (.int .i64 (i : Int))) = some (.pointer (some ⟨r, o + i * 2, none⟩)) := by
  have ix := indexAt_array (P := PG) (t := T_2_api_Place) (b := r) (o := o) (k := .i64) (j := (i : Int)) T_2_api_Place.und T_api_Place.info T_api_Place.size (by omega) (by omega)
  rw [ix, Int.toNat_natCast]
theorem ixQ0 {r o : Nat} : SemP PG (Instr.indexAt T_2_api_Place (.pointer (some ⟨r, o, none⟩)) (.int .i64 0)) = some (.pointer (some ⟨r, o, none⟩)) := ixQ (i := 0) (by decide)
theorem ixQ1 {r o : Nat} : SemP PG (Instr.indexAt T_2_api_Place (.pointer (some ⟨r, o, none⟩)) (.int .i64 1)) = some (.pointer (some ⟨r, o + 2, none⟩)) := ixQ (i := 1) (by decide)
theorem two.neq {h : PH} {x y : Operand} (p q p' q' : Pl) : SemE PG h (binS .neq T_2_api_Place x y (two p q) (two p' q')) = some (.bool (!decide (p = p' ∧ q = q'))) := by
  refine neqStruct (by kernel_rfl) ?_
  rw [eqIn_array T_2_api_Place.und T_api_Place.info T_api_Place.size (fun j => if j = 0 then decide (p = p') else decide (q = q'))]
  · congr 1
    simp [List.range, List.range.loop]
  · intro j hj
    have : j = 0 ∨ j = 1 := by omega
    rcases this with rfl | rfl
    · exact ⟨_, _, part_agg T_api_Place.und rfl T_api_Place.info T_api_Place.size, part_agg T_api_Place.und rfl T_api_Place.info T_api_Place.size, Pl.eqIn (d := 9997) p p'⟩
    · exact ⟨_, _, part_agg T_api_Place.und rfl T_api_Place.info T_api_Place.size, part_agg T_api_Place.und rfl T_api_Place.info T_api_Place.size, Pl.eqIn (d := 9997) q q'⟩
theorem RPlace1_ok {h : PH} {q : Pl} (w : q.wf) {k : Value → PH → Prop} (hk : ∀ h' s e, (e = 0 ∧ okPl q ∨ e = 1 ∧ ¬ okPl q) → s.length ≤ 100000 → Ext h h' → k (.tuple #[.string (tx s), .int .i64 e]) h') : CallsH PG id_carrackref14_Place #[.agg q.cells.toArray] h k :=
  RPlace_ok w (fun c h' u => hk h' [] 1 (.inr ⟨rfl, c⟩) (by simp) u) (fun c h' u => hk h' _ 0 (.inl ⟨rfl, c⟩) (by simp [Pl.bs, be_len]) u)
theorem RItems1_ok {h : PH} {v : Value} {l : List It} (V : SlR h 5 v (l.map It.cells)) (hl : l.length ≤ 100000) (w : ∀ i ∈ l, i.p.wf) {k : Value → PH → Prop}
    (hk : ∀ h' s e, (e = 0 ∧ (∀ i ∈ l, ItOk i) ∨ e = 1 ∧ ¬ (l.length ≤ 255 ∧ ∀ i ∈ l, ItOk i)) → s.length ≤ 100000 → Ext h h' → k (.tuple #[.string (tx s), .int .i64 e]) h') : CallsH PG id_carrackref14_Items #[v] h k :=
  RItems_ok V hl w (fun c h' u => hk h' [] 1 (.inr ⟨rfl, fun d => c ⟨d.1, fun i hi => right_it.2 (d.2 i hi)⟩⟩) (by simp) u) (fun c d h' u => hk h' _ 0 (.inl ⟨rfl, fun i hi => right_it.1 (d i hi)⟩) (by
    have := ones_le (l := l.map It.x) (by
      simp only [List.forall_mem_map]
      intro y hy
      rw [x_it (right_it.1 (d y hy))]
      exact (right_it.1 (d y hy)).2.2)
    simp only [listBs, List.length_append, be_len, List.length_map] at *
    omega) u)
theorem RNotes1_ok {h : PH} {v : Value} {l : List Nt} (V : SlR h 5 v (l.map Nt.cells)) (hl : l.length ≤ 100000) (w : ∀ i ∈ l, i.p.wf) {k : Value → PH → Prop}
    (hk : ∀ h' s e, (e = 0 ∧ (∀ i ∈ l, NtOk i) ∨ e = 1 ∧ ¬ (l.length ≤ 255 ∧ ∀ i ∈ l, NtOk i)) → s.length ≤ 100000 → Ext h h' → k (.tuple #[.string (tx s), .int .i64 e]) h') : CallsH PG id_carrackref14_Notes #[v] h k :=
  RNotes_ok V hl w (fun c h' u => hk h' [] 1 (.inr ⟨rfl, fun d => c ⟨d.1, fun i hi => right_nt.2 (d.2 i hi)⟩⟩) (by simp) u) (fun c d h' u => hk h' _ 0 (.inl ⟨rfl, fun i hi => right_nt.1 (d i hi)⟩) (by
    have := ones_le (l := l.map Nt.x) (by
      simp only [List.forall_mem_map]
      intro y hy
      rw [x_nt (right_nt.1 (d y hy))]
      exact (right_nt.1 (d y hy)).2.2)
    simp only [listBs, List.length_append, be_len, List.length_map] at *
    omega) u)
theorem RRBytes_ok {h : PH} {r : Rc} {v vn : Value} (V : ISl h v r.s.its) (VN : NSl h vn r.ns) (wf : r.wf) (hi : r.s.its.length ≤ 100000) (hn : r.ns.length ≤ 100000) {k : Value → PH → Prop}
    (hk : ∀ h' s e, (e = 0 ∧ RcOk r ∨ e = 1 ∧ ¬ RcOk r) → Ext h h' → k (.tuple #[.string (tx s), .int .i64 e]) h') : CallsH PG id_carrackref17_Bytes #[r.v v vn] h k := by
  apply carrackref17_Bytes.call
  unfold carrackref17_Bytes
  intro r1 hr1
  try rw [bindH_eq]
  have u1 : Ext h (h.set r1 (.cells (Value.cells (r.v v vn)) T_api_Record)) := Upd.new hr1
  have B1 : Bx (h.set r1 (.cells (Value.cells (r.v v vn)) T_api_Record)) r1 (r.cells v vn) := Bx.new
  generalize h.set r1 (.cells (Value.cells (r.v v vn)) T_api_Record) = h1 at *
  have q0 : ({ data := #[] } : ByteArray) = tx [] := rfl
  have q1 : ({ data := #[1] } : ByteArray) = tx [1] := rfl
  have q2 : ({ data := #[2] } : ByteArray) = tx [2] := rfl
  have lk : ∀ {h' : PH}, Ext h1 h' → SemE PG h' (Instr.loadAt T_int (.pointer (some ⟨r1, 0, none⟩))) = some (.int .i64 r.k) := fun u => by rw [T_int.load, (B1.ext u).cell]; rfl
  have lp0 : ∀ {h' : PH}, Ext h1 h' → SemE PG h' (Instr.loadAt T_api_Place (.pointer (some ⟨r1, 1, none⟩))) = some (.agg r.s.p0.cells.toArray) := fun u => pl_load (B1.ext u) rfl
  have lp1 : ∀ {h' : PH}, Ext h1 h' → SemE PG h' (Instr.loadAt T_api_Place (.pointer (some ⟨r1, 3, none⟩))) = some (.agg r.s.p1.cells.toArray) := fun u => pl_load (B1.ext u) rfl
  have ltw : ∀ {h' : PH}, Ext h1 h' → SemE PG h' (Instr.loadAt T_2_api_Place (.pointer (some ⟨r1, 1, none⟩))) = some (two r.s.p0 r.s.p1) := fun u => two_load (B1.ext u) rfl
  have lit : ∀ {h' : PH}, Ext h1 h' → SemE PG h' (Instr.loadAt T_sl_api_Item (.pointer (some ⟨r1, 5, none⟩))) = some v := fun u => by rw [T_sl_api_Item.load, (B1.ext u).cell]; rfl
  have lch : ∀ {h' : PH}, Ext h1 h' → SemE PG h' (Instr.loadAt T_int (.pointer (some ⟨r1, 6, none⟩))) = some (.int .i64 r.ch) := fun u => by rw [T_int.load, (B1.ext u).cell]; rfl
  have lpl : ∀ {h' : PH}, Ext h1 h' → SemE PG h' (Instr.loadAt T_api_Place (.pointer (some ⟨r1, 7, none⟩))) = some (.agg r.pl.cells.toArray) := fun u => pl_load (B1.ext u) rfl
  have lph : ∀ {h' : PH}, Ext h1 h' → SemE PG h' (Instr.loadAt T_uint64 (.pointer (some ⟨r1, 7, none⟩))) = some (.int .u64 r.pl.h) := fun u => by rw [T_uint64.load, (B1.ext u).cell]; rfl
  have lpi : ∀ {h' : PH}, Ext h1 h' → SemE PG h' (Instr.loadAt T_int (.pointer (some ⟨r1, 8, none⟩))) = some (.int .i64 r.pl.i) := fun u => by rw [T_int.load, (B1.ext u).cell]; rfl
  have lns : ∀ {h' : PH}, Ext h1 h' → SemE PG h' (Instr.loadAt T_sl_api_Note (.pointer (some ⟨r1, 9, none⟩))) = some vn := fun u => by rw [T_sl_api_Note.load, (B1.ext u).cell]; rfl
  have li := It.len V
  have ln := Nt.len VN
  by_cases k1 : r.k = 1
  · have kk : (r.k == 1) = true := by simp [k1]
    have notok : ∀ {h' : PH}, Ext h1 h' → ¬ RcOk r → k (.tuple #[.string (tx []), .int .i64 1]) h' := fun u c => hk _ [] 1 (.inr ⟨rfl, c⟩) (u1.trans u)
    simp only [T_api_Record.f0, T_api_Record.f1, T_api_Daemon.f0, T_api_Daemon.f1, ixQ0, ixQ1, Nat.zero_add, Nat.reduceAdd, lk Upd.refl, eqlI, kk, lp0 Upd.refl, popO_some, bindH_eq, condV_bool, condV_true, condV_false, yV_bool, gopV_tt, gopV_ff, gopV_tf, gopV_ft, pickV_t, pickV_f, pickV_bool, nilS_ptr, add_eq, sub_eq, mul_eq, lss_eq, leq_eq, gtr_eq, geq_eq, not_eq, minI_eq, maxI_eq, extract_0, extract_1, extract_2, eqlI, neqI, makeFunc_eq, decide_true, decide_false, if_true, if_false, Bool.false_eq_true, Bool.not_true, Bool.not_false, reduceIte, List.getElem?_toArray, List.getElem?_cons_zero, List.getElem?_cons_succ, Option.isSome_none, List.length_map, yV_undef, gopV_none, Nat.zero_add, Nat.reduceAdd, beq_self_eq_true, bne_self_eq_false, and_self, Bool.true_and, Bool.false_and, Bool.and_true, Bool.and_false, Bool.true_or, Bool.false_or, Bool.or_true, Bool.or_false]
    refine RPlace1_ok wf.s.a fun h2 s0 e0 c0 g0 u2 => ?_
    simp only [lp1 u2, popO_some, bindH_eq, condV_bool, condV_true, condV_false, yV_bool, gopV_tt, gopV_ff, gopV_tf, gopV_ft, pickV_t, pickV_f, pickV_bool, nilS_ptr, add_eq, sub_eq, mul_eq, lss_eq, leq_eq, gtr_eq, geq_eq, not_eq, minI_eq, maxI_eq, extract_0, extract_1, extract_2, eqlI, neqI, makeFunc_eq, decide_true, decide_false, if_true, if_false, Bool.false_eq_true, Bool.not_true, Bool.not_false, reduceIte, List.getElem?_toArray, List.getElem?_cons_zero, List.getElem?_cons_succ, Option.isSome_none, List.length_map, yV_undef, gopV_none, Nat.zero_add, Nat.reduceAdd, beq_self_eq_true, bne_self_eq_false, and_self, Bool.true_and, Bool.false_and, Bool.and_true, Bool.and_false, Bool.true_or, Bool.false_or, Bool.or_true, Bool.or_false]
    refine RPlace1_ok wf.s.b fun h3 s1 e1 c1 g1 u3 => ?_
    have e3 := u2.trans u3
    simp only [lit e3, popO_some, bindH_eq, condV_bool, condV_true, condV_false, yV_bool, gopV_tt, gopV_ff, gopV_tf, gopV_ft, pickV_t, pickV_f, pickV_bool, nilS_ptr, add_eq, sub_eq, mul_eq, lss_eq, leq_eq, gtr_eq, geq_eq, not_eq, minI_eq, maxI_eq, extract_0, extract_1, extract_2, eqlI, neqI, makeFunc_eq, decide_true, decide_false, if_true, if_false, Bool.false_eq_true, Bool.not_true, Bool.not_false, reduceIte, List.getElem?_toArray, List.getElem?_cons_zero, List.getElem?_cons_succ, Option.isSome_none, List.length_map, yV_undef, gopV_none, Nat.zero_add, Nat.reduceAdd, beq_self_eq_true, bne_self_eq_false, and_self, Bool.true_and, Bool.false_and, Bool.and_true, Bool.and_false, Bool.true_or, Bool.false_or, Bool.or_true, Bool.or_false]
    refine RItems1_ok (V.ext (u1.trans e3)) hi wf.s.i fun h4 s2 e2 c2 g2 u4 => ?_
    have e4 := e3.trans u4
    rcases c0 with ⟨rfl, c0⟩ | ⟨rfl, c0⟩
    case inr =>
      have n1 : ((1 : Int) != 0) = true := by decide
      simp only [neqI, n1, q0, popO_some, bindH_eq, condV_bool, condV_true, condV_false, yV_bool, gopV_tt, gopV_ff, gopV_tf, gopV_ft, pickV_t, pickV_f, pickV_bool, nilS_ptr, add_eq, sub_eq, mul_eq, lss_eq, leq_eq, gtr_eq, geq_eq, not_eq, minI_eq, maxI_eq, extract_0, extract_1, extract_2, eqlI, neqI, makeFunc_eq, decide_true, decide_false, if_true, if_false, Bool.false_eq_true, Bool.not_true, Bool.not_false, reduceIte, List.getElem?_toArray, List.getElem?_cons_zero, List.getElem?_cons_succ, Option.isSome_none, List.length_map, yV_undef, gopV_none, Nat.zero_add, Nat.reduceAdd, beq_self_eq_true, bne_self_eq_false, and_self, Bool.true_and, Bool.false_and, Bool.and_true, Bool.and_false, Bool.true_or, Bool.false_or, Bool.or_true, Bool.or_false]
      exact notok e4 fun c => c0 (c.a k1).1
    rcases c1 with ⟨rfl, c1⟩ | ⟨rfl, c1⟩
    case inr =>
      have n1 : ((1 : Int) != 0) = true := by decide
      simp only [neqI, n1, q0, popO_some, bindH_eq, condV_bool, condV_true, condV_false, yV_bool, gopV_tt, gopV_ff, gopV_tf, gopV_ft, pickV_t, pickV_f, pickV_bool, nilS_ptr, add_eq, sub_eq, mul_eq, lss_eq, leq_eq, gtr_eq, geq_eq, not_eq, minI_eq, maxI_eq, extract_0, extract_1, extract_2, eqlI, neqI, makeFunc_eq, decide_true, decide_false, if_true, if_false, Bool.false_eq_true, Bool.not_true, Bool.not_false, reduceIte, List.getElem?_toArray, List.getElem?_cons_zero, List.getElem?_cons_succ, Option.isSome_none, List.length_map, yV_undef, gopV_none, Nat.zero_add, Nat.reduceAdd, beq_self_eq_true, bne_self_eq_false, and_self, Bool.true_and, Bool.false_and, Bool.and_true, Bool.and_false, Bool.true_or, Bool.false_or, Bool.or_true, Bool.or_false]
      exact notok e4 fun c => c1 (c.a k1).2.1
    rcases c2 with ⟨rfl, c2⟩ | ⟨rfl, c2⟩
    case inr =>
      have n1 : ((1 : Int) != 0) = true := by decide
      simp only [neqI, n1, q0, popO_some, bindH_eq, condV_bool, condV_true, condV_false, yV_bool, gopV_tt, gopV_ff, gopV_tf, gopV_ft, pickV_t, pickV_f, pickV_bool, nilS_ptr, add_eq, sub_eq, mul_eq, lss_eq, leq_eq, gtr_eq, geq_eq, not_eq, minI_eq, maxI_eq, extract_0, extract_1, extract_2, eqlI, neqI, makeFunc_eq, decide_true, decide_false, if_true, if_false, Bool.false_eq_true, Bool.not_true, Bool.not_false, reduceIte, List.getElem?_toArray, List.getElem?_cons_zero, List.getElem?_cons_succ, Option.isSome_none, List.length_map, yV_undef, gopV_none, Nat.zero_add, Nat.reduceAdd, beq_self_eq_true, bne_self_eq_false, and_self, Bool.true_and, Bool.false_and, Bool.and_true, Bool.and_false, Bool.true_or, Bool.false_or, Bool.or_true, Bool.or_false]
      exact notok e4 fun c => c2 ⟨by have := (plain1 c.plain k1).2.2.2; omega, (c.a k1).2.2⟩
    by_cases d1 : 40 < r.s.its.length
    · have g : ((40 : Int) < (r.s.its.length : Int)) = True := eq_true (by omega)
      simp only [neqI, T_api_Record.f1, T_api_Daemon.f1, lit e4, li, g, q0, Nat.zero_add, Nat.reduceAdd, popO_some, bindH_eq, condV_bool, condV_true, condV_false, yV_bool, gopV_tt, gopV_ff, gopV_tf, gopV_ft, pickV_t, pickV_f, pickV_bool, nilS_ptr, add_eq, sub_eq, mul_eq, lss_eq, leq_eq, gtr_eq, geq_eq, not_eq, minI_eq, maxI_eq, extract_0, extract_1, extract_2, eqlI, neqI, makeFunc_eq, decide_true, decide_false, if_true, if_false, Bool.false_eq_true, Bool.not_true, Bool.not_false, reduceIte, List.getElem?_toArray, List.getElem?_cons_zero, List.getElem?_cons_succ, Option.isSome_none, List.length_map, yV_undef, gopV_none, Nat.zero_add, Nat.reduceAdd, beq_self_eq_true, bne_self_eq_false, and_self, Bool.true_and, Bool.false_and, Bool.and_true, Bool.and_false, Bool.true_or, Bool.false_or, Bool.or_true, Bool.or_false]
      exact notok e4 fun c => by have := (plain1 c.plain k1).2.2.2; omega
    have g : ((40 : Int) < (r.s.its.length : Int)) = False := eq_false (by omega)
    by_cases d2 : r.ch = 0
    case neg =>
      have g2 : (r.ch != 0) = true := by simp [d2]
      simp only [neqI, T_api_Record.f1, T_api_Record.f2, T_api_Daemon.f1, lit e4, li, g, lch e4, g2, q0, Nat.zero_add, Nat.reduceAdd, popO_some, bindH_eq, condV_bool, condV_true, condV_false, yV_bool, gopV_tt, gopV_ff, gopV_tf, gopV_ft, pickV_t, pickV_f, pickV_bool, nilS_ptr, add_eq, sub_eq, mul_eq, lss_eq, leq_eq, gtr_eq, geq_eq, not_eq, minI_eq, maxI_eq, extract_0, extract_1, extract_2, eqlI, neqI, makeFunc_eq, decide_true, decide_false, if_true, if_false, Bool.false_eq_true, Bool.not_true, Bool.not_false, reduceIte, List.getElem?_toArray, List.getElem?_cons_zero, List.getElem?_cons_succ, Option.isSome_none, List.length_map, yV_undef, gopV_none, Nat.zero_add, Nat.reduceAdd, beq_self_eq_true, bne_self_eq_false, and_self, Bool.true_and, Bool.false_and, Bool.and_true, Bool.and_false, Bool.true_or, Bool.false_or, Bool.or_true, Bool.or_false]
      exact notok e4 fun c => d2 (plain1 c.plain k1).1
    have g2 : (r.ch != 0) = false := by simp [d2]
    by_cases d3 : r.pl.h = 0
    case neg =>
      have g3 : (r.pl.h != 0) = true := by simp [d3]
      simp only [neqI, T_api_Record.f1, T_api_Record.f2, T_api_Record.f3, T_api_Daemon.f1, T_api_Place.f0, lit e4, li, g, lch e4, g2, lph e4, g3, q0, Nat.zero_add, Nat.reduceAdd, popO_some, bindH_eq, condV_bool, condV_true, condV_false, yV_bool, gopV_tt, gopV_ff, gopV_tf, gopV_ft, pickV_t, pickV_f, pickV_bool, nilS_ptr, add_eq, sub_eq, mul_eq, lss_eq, leq_eq, gtr_eq, geq_eq, not_eq, minI_eq, maxI_eq, extract_0, extract_1, extract_2, eqlI, neqI, makeFunc_eq, decide_true, decide_false, if_true, if_false, Bool.false_eq_true, Bool.not_true, Bool.not_false, reduceIte, List.getElem?_toArray, List.getElem?_cons_zero, List.getElem?_cons_succ, Option.isSome_none, List.length_map, yV_undef, gopV_none, Nat.zero_add, Nat.reduceAdd, beq_self_eq_true, bne_self_eq_false, and_self, Bool.true_and, Bool.false_and, Bool.and_true, Bool.and_false, Bool.true_or, Bool.false_or, Bool.or_true, Bool.or_false]
      exact notok e4 fun c => d3 (by rw [(plain1 c.plain k1).2.1]; rfl)
    have g3 : (r.pl.h != 0) = false := by simp [d3]
    by_cases d4 : r.pl.i = 0
    case neg =>
      have g4 : (r.pl.i != 0) = true := by simp [d4]
      simp only [neqI, T_api_Record.f1, T_api_Record.f2, T_api_Record.f3, T_api_Daemon.f1, T_api_Place.f0, T_api_Place.f1, lit e4, li, g, lch e4, g2, lph e4, g3, lpi e4, g4, q0, Nat.zero_add, Nat.reduceAdd, popO_some, bindH_eq, condV_bool, condV_true, condV_false, yV_bool, gopV_tt, gopV_ff, gopV_tf, gopV_ft, pickV_t, pickV_f, pickV_bool, nilS_ptr, add_eq, sub_eq, mul_eq, lss_eq, leq_eq, gtr_eq, geq_eq, not_eq, minI_eq, maxI_eq, extract_0, extract_1, extract_2, eqlI, neqI, makeFunc_eq, decide_true, decide_false, if_true, if_false, Bool.false_eq_true, Bool.not_true, Bool.not_false, reduceIte, List.getElem?_toArray, List.getElem?_cons_zero, List.getElem?_cons_succ, Option.isSome_none, List.length_map, yV_undef, gopV_none, Nat.zero_add, Nat.reduceAdd, beq_self_eq_true, bne_self_eq_false, and_self, Bool.true_and, Bool.false_and, Bool.and_true, Bool.and_false, Bool.true_or, Bool.false_or, Bool.or_true, Bool.or_false]
      exact notok e4 fun c => d4 (by rw [(plain1 c.plain k1).2.1]; rfl)
    have g4 : (r.pl.i != 0) = false := by simp [d4]
    by_cases d5 : 0 < r.ns.length
    · have g5 : ((0 : Int) < (r.ns.length : Int)) = True := eq_true (by omega)
      simp only [neqI, T_api_Record.f1, T_api_Record.f2, T_api_Record.f3, T_api_Record.f4, T_api_Daemon.f1, T_api_Place.f0, T_api_Place.f1, lit e4, li, g, lch e4, g2, lph e4, g3, lpi e4, g4, lns e4, ln, g5, q0, Nat.zero_add, Nat.reduceAdd, popO_some, bindH_eq, condV_bool, condV_true, condV_false, yV_bool, gopV_tt, gopV_ff, gopV_tf, gopV_ft, pickV_t, pickV_f, pickV_bool, nilS_ptr, add_eq, sub_eq, mul_eq, lss_eq, leq_eq, gtr_eq, geq_eq, not_eq, minI_eq, maxI_eq, extract_0, extract_1, extract_2, eqlI, neqI, makeFunc_eq, decide_true, decide_false, if_true, if_false, Bool.false_eq_true, Bool.not_true, Bool.not_false, reduceIte, List.getElem?_toArray, List.getElem?_cons_zero, List.getElem?_cons_succ, Option.isSome_none, List.length_map, yV_undef, gopV_none, Nat.zero_add, Nat.reduceAdd, beq_self_eq_true, bne_self_eq_false, and_self, Bool.true_and, Bool.false_and, Bool.and_true, Bool.and_false, Bool.true_or, Bool.false_or, Bool.or_true, Bool.or_false]
      exact notok e4 fun c => by rw [(plain1 c.plain k1).2.2.1] at d5; simp at d5
    have g5 : ((0 : Int) < (r.ns.length : Int)) = False := eq_false (by omega)
    have ok : RcOk r := by
      refine ⟨?_, fun _ => ⟨c0, c1, c2⟩, fun h2 => by rw [k1] at h2; cases h2⟩
      unfold Rc.plain
      rw [if_pos k1]
      have e5 : r.ns.length = 0 := by omega
      have e6 : r.pl = Pl.zero := by
        have : ∀ q : Pl, q.h = 0 → q.i = 0 → q = Pl.zero := fun q a b => by
          obtain ⟨x, y⟩ := q
          simp only at a b
          subst a b; rfl
        exact this _ d3 d4
      simp only [d2, e5, e6, decide_true, Bool.and_true, Bool.true_and, decide_eq_true_eq]
      omega
    have a1 : SemP PG (binOp .add T_string (.string (tx [1])) (.string (tx s0))) = some (.string (tx ([1] ++ s0))) := add_tx (by simp only [List.length_cons, List.length_nil]; omega)
    have a2 : SemP PG (binOp .add T_string (.string (tx ([1] ++ s0))) (.string (tx s1))) = some (.string (tx (([1] ++ s0) ++ s1))) := add_tx (by simp only [List.length_append, List.length_cons, List.length_nil]; omega)
    have a3 : SemP PG (binOp .add T_string (.string (tx (([1] ++ s0) ++ s1))) (.string (tx s2))) = some (.string (tx ((([1] ++ s0) ++ s1) ++ s2))) := add_tx (by simp only [List.length_append, List.length_cons, List.length_nil]; omega)
    simp only [neqI, T_api_Record.f1, T_api_Record.f2, T_api_Record.f3, T_api_Record.f4, T_api_Daemon.f1, T_api_Place.f0, T_api_Place.f1, lit e4, li, g, lch e4, g2, lph e4, g3, lpi e4, g4, lns e4, ln, g5, q1, a1, a2, a3, Nat.zero_add, Nat.reduceAdd, popO_some, bindH_eq, condV_bool, condV_true, condV_false, yV_bool, gopV_tt, gopV_ff, gopV_tf, gopV_ft, pickV_t, pickV_f, pickV_bool, nilS_ptr, add_eq, sub_eq, mul_eq, lss_eq, leq_eq, gtr_eq, geq_eq, not_eq, minI_eq, maxI_eq, extract_0, extract_1, extract_2, eqlI, neqI, makeFunc_eq, decide_true, decide_false, if_true, if_false, Bool.false_eq_true, Bool.not_true, Bool.not_false, reduceIte, List.getElem?_toArray, List.getElem?_cons_zero, List.getElem?_cons_succ, Option.isSome_none, List.length_map, yV_undef, gopV_none, Nat.zero_add, Nat.reduceAdd, beq_self_eq_true, bne_self_eq_false, and_self, Bool.true_and, Bool.false_and, Bool.and_true, Bool.and_false, Bool.true_or, Bool.false_or, Bool.or_true, Bool.or_false]
    exact hk _ _ 0 (.inl ⟨rfl, ok⟩) (u1.trans e4)
  have kk : (r.k == 1) = false := by simp [k1]
  by_cases k2 : r.k = 2
  case neg =>
    have kk2 : (r.k == 2) = false := by simp [k2]
    simp only [T_api_Record.f0, lk Upd.refl, eqlI, kk, kk2, q0, popO_some, bindH_eq, condV_bool, condV_true, condV_false, yV_bool, gopV_tt, gopV_ff, gopV_tf, gopV_ft, pickV_t, pickV_f, pickV_bool, nilS_ptr, add_eq, sub_eq, mul_eq, lss_eq, leq_eq, gtr_eq, geq_eq, not_eq, minI_eq, maxI_eq, extract_0, extract_1, extract_2, eqlI, neqI, makeFunc_eq, decide_true, decide_false, if_true, if_false, Bool.false_eq_true, Bool.not_true, Bool.not_false, reduceIte, List.getElem?_toArray, List.getElem?_cons_zero, List.getElem?_cons_succ, Option.isSome_none, List.length_map, yV_undef, gopV_none, Nat.zero_add, Nat.reduceAdd, beq_self_eq_true, bne_self_eq_false, and_self, Bool.true_and, Bool.false_and, Bool.and_true, Bool.and_false, Bool.true_or, Bool.false_or, Bool.or_true, Bool.or_false]
    exact hk _ _ 1 (.inr ⟨rfl, fun c => by have := (plain2 c.plain k1).1; exact k2 this⟩) u1
  have kk2 : (r.k == 2) = true := by simp [k2]
  have notok : ∀ {h' : PH}, Ext h1 h' → ¬ RcOk r → k (.tuple #[.string (tx []), .int .i64 1]) h' := fun u c => hk _ [] 1 (.inr ⟨rfl, c⟩) (u1.trans u)
  simp only [T_api_Record.f0, T_api_Record.f3, lk Upd.refl, eqlI, kk, kk2, lpl Upd.refl, Nat.zero_add, popO_some, bindH_eq, condV_bool, condV_true, condV_false, yV_bool, gopV_tt, gopV_ff, gopV_tf, gopV_ft, pickV_t, pickV_f, pickV_bool, nilS_ptr, add_eq, sub_eq, mul_eq, lss_eq, leq_eq, gtr_eq, geq_eq, not_eq, minI_eq, maxI_eq, extract_0, extract_1, extract_2, eqlI, neqI, makeFunc_eq, decide_true, decide_false, if_true, if_false, Bool.false_eq_true, Bool.not_true, Bool.not_false, reduceIte, List.getElem?_toArray, List.getElem?_cons_zero, List.getElem?_cons_succ, Option.isSome_none, List.length_map, yV_undef, gopV_none, Nat.zero_add, Nat.reduceAdd, beq_self_eq_true, bne_self_eq_false, and_self, Bool.true_and, Bool.false_and, Bool.and_true, Bool.and_false, Bool.true_or, Bool.false_or, Bool.or_true, Bool.or_false]
  refine RPlace1_ok wf.pl fun h2 s0 e0 c0 g0 u2 => ?_
  simp only [T_api_Record.f4, lns u2, Nat.zero_add, popO_some, bindH_eq, condV_bool, condV_true, condV_false, yV_bool, gopV_tt, gopV_ff, gopV_tf, gopV_ft, pickV_t, pickV_f, pickV_bool, nilS_ptr, add_eq, sub_eq, mul_eq, lss_eq, leq_eq, gtr_eq, geq_eq, not_eq, minI_eq, maxI_eq, extract_0, extract_1, extract_2, eqlI, neqI, makeFunc_eq, decide_true, decide_false, if_true, if_false, Bool.false_eq_true, Bool.not_true, Bool.not_false, reduceIte, List.getElem?_toArray, List.getElem?_cons_zero, List.getElem?_cons_succ, Option.isSome_none, List.length_map, yV_undef, gopV_none, Nat.zero_add, Nat.reduceAdd, beq_self_eq_true, bne_self_eq_false, and_self, Bool.true_and, Bool.false_and, Bool.and_true, Bool.and_false, Bool.true_or, Bool.false_or, Bool.or_true, Bool.or_false]
  refine RNotes1_ok (VN.ext (u1.trans u2)) hn wf.n fun h4 s2 e2 c2 g2 u4 => ?_
  have e4 := u2.trans u4
  rcases c0 with ⟨rfl, c0⟩ | ⟨rfl, c0⟩
  case inr =>
    have n1 : ((1 : Int) != 0) = true := by decide
    simp only [neqI, n1, q0, popO_some, bindH_eq, condV_bool, condV_true, condV_false, yV_bool, gopV_tt, gopV_ff, gopV_tf, gopV_ft, pickV_t, pickV_f, pickV_bool, nilS_ptr, add_eq, sub_eq, mul_eq, lss_eq, leq_eq, gtr_eq, geq_eq, not_eq, minI_eq, maxI_eq, extract_0, extract_1, extract_2, eqlI, neqI, makeFunc_eq, decide_true, decide_false, if_true, if_false, Bool.false_eq_true, Bool.not_true, Bool.not_false, reduceIte, List.getElem?_toArray, List.getElem?_cons_zero, List.getElem?_cons_succ, Option.isSome_none, List.length_map, yV_undef, gopV_none, Nat.zero_add, Nat.reduceAdd, beq_self_eq_true, bne_self_eq_false, and_self, Bool.true_and, Bool.false_and, Bool.and_true, Bool.and_false, Bool.true_or, Bool.false_or, Bool.or_true, Bool.or_false]
    exact notok e4 fun c => c0 (c.b k2).1
  rcases c2 with ⟨rfl, c2⟩ | ⟨rfl, c2⟩
  case inr =>
    have n1 : ((1 : Int) != 0) = true := by decide
    simp only [neqI, n1, q0, popO_some, bindH_eq, condV_bool, condV_true, condV_false, yV_bool, gopV_tt, gopV_ff, gopV_tf, gopV_ft, pickV_t, pickV_f, pickV_bool, nilS_ptr, add_eq, sub_eq, mul_eq, lss_eq, leq_eq, gtr_eq, geq_eq, not_eq, minI_eq, maxI_eq, extract_0, extract_1, extract_2, eqlI, neqI, makeFunc_eq, decide_true, decide_false, if_true, if_false, Bool.false_eq_true, Bool.not_true, Bool.not_false, reduceIte, List.getElem?_toArray, List.getElem?_cons_zero, List.getElem?_cons_succ, Option.isSome_none, List.length_map, yV_undef, gopV_none, Nat.zero_add, Nat.reduceAdd, beq_self_eq_true, bne_self_eq_false, and_self, Bool.true_and, Bool.false_and, Bool.and_true, Bool.and_false, Bool.true_or, Bool.false_or, Bool.or_true, Bool.or_false]
    exact notok e4 fun c => c2 ⟨by have := (plain2 c.plain k1).2.2.2; omega, (c.b k2).2⟩
  by_cases d1 : 16 < r.ns.length
  · have g : ((16 : Int) < (r.ns.length : Int)) = True := eq_true (by omega)
    simp only [neqI, T_api_Record.f4, lns e4, ln, g, q0, Nat.zero_add, Nat.reduceAdd, popO_some, bindH_eq, condV_bool, condV_true, condV_false, yV_bool, gopV_tt, gopV_ff, gopV_tf, gopV_ft, pickV_t, pickV_f, pickV_bool, nilS_ptr, add_eq, sub_eq, mul_eq, lss_eq, leq_eq, gtr_eq, geq_eq, not_eq, minI_eq, maxI_eq, extract_0, extract_1, extract_2, eqlI, neqI, makeFunc_eq, decide_true, decide_false, if_true, if_false, Bool.false_eq_true, Bool.not_true, Bool.not_false, reduceIte, List.getElem?_toArray, List.getElem?_cons_zero, List.getElem?_cons_succ, Option.isSome_none, List.length_map, yV_undef, gopV_none, Nat.zero_add, Nat.reduceAdd, beq_self_eq_true, bne_self_eq_false, and_self, Bool.true_and, Bool.false_and, Bool.and_true, Bool.and_false, Bool.true_or, Bool.false_or, Bool.or_true, Bool.or_false]
    exact notok e4 fun c => by have := (plain2 c.plain k1).2.2.2; omega
  have g : ((16 : Int) < (r.ns.length : Int)) = False := eq_false (by omega)
  by_cases d2 : r.ch < 0
  · have f2 := eq_true d2
    simp only [neqI, T_api_Record.f4, T_api_Record.f2, lns e4, ln, g, lch e4, f2, q0, Nat.zero_add, Nat.reduceAdd, popO_some, bindH_eq, condV_bool, condV_true, condV_false, yV_bool, gopV_tt, gopV_ff, gopV_tf, gopV_ft, pickV_t, pickV_f, pickV_bool, nilS_ptr, add_eq, sub_eq, mul_eq, lss_eq, leq_eq, gtr_eq, geq_eq, not_eq, minI_eq, maxI_eq, extract_0, extract_1, extract_2, eqlI, neqI, makeFunc_eq, decide_true, decide_false, if_true, if_false, Bool.false_eq_true, Bool.not_true, Bool.not_false, reduceIte, List.getElem?_toArray, List.getElem?_cons_zero, List.getElem?_cons_succ, Option.isSome_none, List.length_map, yV_undef, gopV_none, Nat.zero_add, Nat.reduceAdd, beq_self_eq_true, bne_self_eq_false, and_self, Bool.true_and, Bool.false_and, Bool.and_true, Bool.and_false, Bool.true_or, Bool.false_or, Bool.or_true, Bool.or_false]
    exact notok e4 fun c => by have := (plain2 c.plain k1).2.2.1; omega
  have f2 := eq_false d2
  by_cases d3 : 1 < r.ch
  · have f3 := eq_true d3
    simp only [neqI, T_api_Record.f4, T_api_Record.f2, lns e4, ln, g, lch e4, f2, f3, q0, Nat.zero_add, Nat.reduceAdd, popO_some, bindH_eq, condV_bool, condV_true, condV_false, yV_bool, gopV_tt, gopV_ff, gopV_tf, gopV_ft, pickV_t, pickV_f, pickV_bool, nilS_ptr, add_eq, sub_eq, mul_eq, lss_eq, leq_eq, gtr_eq, geq_eq, not_eq, minI_eq, maxI_eq, extract_0, extract_1, extract_2, eqlI, neqI, makeFunc_eq, decide_true, decide_false, if_true, if_false, Bool.false_eq_true, Bool.not_true, Bool.not_false, reduceIte, List.getElem?_toArray, List.getElem?_cons_zero, List.getElem?_cons_succ, Option.isSome_none, List.length_map, yV_undef, gopV_none, Nat.zero_add, Nat.reduceAdd, beq_self_eq_true, bne_self_eq_false, and_self, Bool.true_and, Bool.false_and, Bool.and_true, Bool.and_false, Bool.true_or, Bool.false_or, Bool.or_true, Bool.or_false]
    exact notok e4 fun c => by have := (plain2 c.plain k1).2.2.1; omega
  have f3 := eq_false d3
  by_cases d4 : 0 < r.s.its.length
  · have f4 : ((0 : Int) < (r.s.its.length : Int)) = True := eq_true (by omega)
    simp only [neqI, T_api_Record.f4, T_api_Record.f2, T_api_Record.f1, T_api_Daemon.f1, lns e4, ln, g, lch e4, f2, f3, lit e4, li, f4, q0, Nat.zero_add, Nat.reduceAdd, popO_some, bindH_eq, condV_bool, condV_true, condV_false, yV_bool, gopV_tt, gopV_ff, gopV_tf, gopV_ft, pickV_t, pickV_f, pickV_bool, nilS_ptr, add_eq, sub_eq, mul_eq, lss_eq, leq_eq, gtr_eq, geq_eq, not_eq, minI_eq, maxI_eq, extract_0, extract_1, extract_2, eqlI, neqI, makeFunc_eq, decide_true, decide_false, if_true, if_false, Bool.false_eq_true, Bool.not_true, Bool.not_false, reduceIte, List.getElem?_toArray, List.getElem?_cons_zero, List.getElem?_cons_succ, Option.isSome_none, List.length_map, yV_undef, gopV_none, Nat.zero_add, Nat.reduceAdd, beq_self_eq_true, bne_self_eq_false, and_self, Bool.true_and, Bool.false_and, Bool.and_true, Bool.and_false, Bool.true_or, Bool.false_or, Bool.or_true, Bool.or_false]
    exact notok e4 fun c => by rw [(plain2 c.plain k1).2.1] at d4; simp [Dm.zero] at d4
  have f4 : ((0 : Int) < (r.s.its.length : Int)) = False := eq_false (by omega)
  by_cases d5 : r.s.p0 = Pl.zero ∧ r.s.p1 = Pl.zero
  case neg =>
    have f5 : decide (r.s.p0 = Pl.zero ∧ r.s.p1 = Pl.zero) = false := by simpa using d5
    simp only [neqI, T_api_Record.f4, T_api_Record.f2, T_api_Record.f1, T_api_Daemon.f1, T_api_Daemon.f0, lns e4, ln, g, lch e4, f2, f3, lit e4, li, f4, ltw e4, two_zero, two.neq, f5, q0, Nat.zero_add, Nat.reduceAdd, popO_some, bindH_eq, condV_bool, condV_true, condV_false, yV_bool, gopV_tt, gopV_ff, gopV_tf, gopV_ft, pickV_t, pickV_f, pickV_bool, nilS_ptr, add_eq, sub_eq, mul_eq, lss_eq, leq_eq, gtr_eq, geq_eq, not_eq, minI_eq, maxI_eq, extract_0, extract_1, extract_2, eqlI, neqI, makeFunc_eq, decide_true, decide_false, if_true, if_false, Bool.false_eq_true, Bool.not_true, Bool.not_false, reduceIte, List.getElem?_toArray, List.getElem?_cons_zero, List.getElem?_cons_succ, Option.isSome_none, List.length_map, yV_undef, gopV_none, Nat.zero_add, Nat.reduceAdd, beq_self_eq_true, bne_self_eq_false, and_self, Bool.true_and, Bool.false_and, Bool.and_true, Bool.and_false, Bool.true_or, Bool.false_or, Bool.or_true, Bool.or_false]
    exact notok e4 fun c => d5 (by rw [(plain2 c.plain k1).2.1]; exact ⟨rfl, rfl⟩)
  have f5 : decide (r.s.p0 = Pl.zero ∧ r.s.p1 = Pl.zero) = true := by simpa using d5
  have ok : RcOk r := by
    refine ⟨?_, fun h1 => absurd h1 k1, fun _ => ⟨c0, c2⟩⟩
    unfold Rc.plain
    rw [if_neg k1, if_pos k2, f5]
    have e5 : r.s.its.length = 0 := by omega
    have e6 : r.ch = 0 ∨ r.ch = 1 := by omega
    simp only [e5, decide_true, Bool.true_and, Bool.and_eq_true, Bool.or_eq_true, decide_eq_true_eq]
    exact ⟨e6, by omega⟩
  obtain ⟨c, hc⟩ : ∃ c : Nat, r.ch = (c : Int) := Int.eq_ofNat_of_zero_le (by omega)
  have hc1 : c ≤ 1 := by omega
  have cw : IntKind.u64.wrap (c : Int) = (c : Int) := u64_wrap (by omega) (by omega)
  rw [hc] at f2 f3 lch
  simp only [neqI, T_api_Record.f4, T_api_Record.f2, T_api_Record.f1, T_api_Daemon.f1, T_api_Daemon.f0, lns e4, ln, g, lch e4, f2, f3, lit e4, li, f4, ltw e4, two_zero, two.neq, f5, cvi_u64, cw, Nat.zero_add, Nat.reduceAdd, popO_some, bindH_eq, condV_bool, condV_true, condV_false, yV_bool, gopV_tt, gopV_ff, gopV_tf, gopV_ft, pickV_t, pickV_f, pickV_bool, nilS_ptr, add_eq, sub_eq, mul_eq, lss_eq, leq_eq, gtr_eq, geq_eq, not_eq, minI_eq, maxI_eq, extract_0, extract_1, extract_2, eqlI, neqI, makeFunc_eq, decide_true, decide_false, if_true, if_false, Bool.false_eq_true, Bool.not_true, Bool.not_false, reduceIte, List.getElem?_toArray, List.getElem?_cons_zero, List.getElem?_cons_succ, Option.isSome_none, List.length_map, yV_undef, gopV_none, Nat.zero_add, Nat.reduceAdd, beq_self_eq_true, bne_self_eq_false, and_self, Bool.true_and, Bool.false_and, Bool.and_true, Bool.and_false, Bool.true_or, Bool.false_or, Bool.or_true, Bool.or_false]
  refine RBytes_ok (by omega) (by decide) fun h5 u5 => ?_
  have a1 : SemP PG (binOp .add T_string (.string (tx [2])) (.string (tx (be c 1)))) = some (.string (tx ([2] ++ be c 1))) := add_tx (by simp only [List.length_cons, List.length_nil, be_len]; omega)
  have a2 : SemP PG (binOp .add T_string (.string (tx ([2] ++ be c 1))) (.string (tx s0))) = some (.string (tx (([2] ++ be c 1) ++ s0))) := add_tx (by simp only [List.length_append, List.length_cons, List.length_nil, be_len]; omega)
  have a3 : SemP PG (binOp .add T_string (.string (tx (([2] ++ be c 1) ++ s0))) (.string (tx s2))) = some (.string (tx ((([2] ++ be c 1) ++ s0) ++ s2))) := add_tx (by simp only [List.length_append, List.length_cons, List.length_nil, be_len]; omega)
  simp only [q2, a1, a2, a3, popO_some, bindH_eq, condV_bool, condV_true, condV_false, yV_bool, gopV_tt, gopV_ff, gopV_tf, gopV_ft, pickV_t, pickV_f, pickV_bool, nilS_ptr, add_eq, sub_eq, mul_eq, lss_eq, leq_eq, gtr_eq, geq_eq, not_eq, minI_eq, maxI_eq, extract_0, extract_1, extract_2, eqlI, neqI, makeFunc_eq, decide_true, decide_false, if_true, if_false, Bool.false_eq_true, Bool.not_true, Bool.not_false, reduceIte, List.getElem?_toArray, List.getElem?_cons_zero, List.getElem?_cons_succ, Option.isSome_none, List.length_map, yV_undef, gopV_none, Nat.zero_add, Nat.reduceAdd, beq_self_eq_true, bne_self_eq_false, and_self, Bool.true_and, Bool.false_and, Bool.and_true, Bool.and_false, Bool.true_or, Bool.false_or, Bool.or_true, Bool.or_false]
  exact hk _ _ 0 (.inl ⟨rfl, ok⟩) (u1.trans (e4.trans u5))
end Go.Proofs.YtlkjippiaghbmaaGreat
/- the document's Apply, Check, Step of a record. -/
set_option linter.unusedSimpArgs false
set_option linter.unusedVariables false
namespace Go.Proofs.YtlkjippiaghbmaaGreat
open Go
set_option maxRecDepth 20000
theorem RA16_ok {h : PH} {a : Nat} {L : List It} {room : Int} {F : List Nat} (H : RAt h a L room F) {v : Value} {l : List Nt} (S : NSl h v l) (hv : l ≠ [] → ∀ x n c, v = .slice (some x) n c → x.block ∉ F) (hl : L.length + l.length ≤ 1000) (w : ∀ n ∈ l, n.p.wf) {k : Value → PH → Prop}
    (hk : ∀ h' F' (n : Int), RAt h' a (aply room L l).1 room F' → Upd F h h' → (∀ b ∈ F', b ∈ F ∨ h b = none) → k (.tuple #[.int .i64 n, .int .i64 (aply room L l).2]) h') : CallsH PG id_carrackref16_Apply #[.pointer (some ⟨a, 0, none⟩), v] h k := by
  apply carrackref16_Apply.call
  unfold carrackref16_Apply
  have lv := Nt.len S
  refine ⟨fun vs h' => ∃ (i : Nat) (L' : List It) (F' : List Nat), i ≤ l.length ∧ vs = [.pointer (some ⟨a, 0, none⟩), v, .int .i64 (i : Int)] ∧ RAt h' a L' room F' ∧ Upd F h h' ∧ (∀ b ∈ F', b ∈ F ∨ h b = none) ∧ L'.length ≤ L.length + i ∧ aply room L l = aply room L' (l.drop i), upTo l.length 2, ⟨0, L, F, by omega, rfl, H, Upd.refl, (fun b hb => .inl hb), by omega, by simp⟩, ?_⟩
  rintro ρ h' ⟨i, L', F', hi, hvs, H', u, hF, hLL, hap⟩
  simp only [List.map_cons, List.map_nil, List.cons.injEq, and_true] at hvs
  obtain ⟨v0, v1, v2⟩ := hvs
  unfold carrackref16_Apply_b2
  simp only [v0, v1, v2, List.map_cons, List.map_nil]
  by_cases hlt : i < l.length
  · have g1 : ((i : Int) < (l.length : Int)) = True := eq_true (by omega)
    have gi : IntKind.i64.wrap ((i : Int) + 1) = ((i + 1 : Nat) : Int) := by rw [i64_wrap (by omega) (by omega)]; omega
    have e1 : l[i]? = some l[i] := List.getElem?_eq_getElem hlt
    have hmem : l[i] ∈ l := List.getElem_mem hlt
    obtain ⟨pa, p1, q1⟩ := SlR.ntb (SlR.upd0 S u fun hne => hv (by simpa using hne)) e1
    have hdrop : l.drop i = l[i] :: l.drop (i + 1) := List.drop_eq_getElem_cons hlt
    generalize l[i] = n at *
    rw [hdrop] at hap
    have wn := w n hmem
    simp only [lv, g1, p1, q1, popO_some, bindH_eq, condV_bool, condV_true, condV_false, yV_bool, gopV_tt, gopV_ff, gopV_tf, gopV_ft, pickV_t, pickV_f, pickV_bool, nilS_ptr, add_eq, sub_eq, mul_eq, lss_eq, leq_eq, gtr_eq, geq_eq, not_eq, minI_eq, maxI_eq, extract_0, extract_1, extract_2, eqlI, neqI, makeFunc_eq, decide_true, decide_false, if_true, if_false, Bool.false_eq_true, Bool.not_true, Bool.not_false, reduceIte, List.getElem?_toArray, List.getElem?_cons_zero, List.getElem?_cons_succ, Option.isSome_none, List.length_map, yV_undef, gopV_none, Nat.zero_add, Nat.reduceAdd, beq_self_eq_true, bne_self_eq_false, and_self, Bool.true_and, Bool.false_and, Bool.and_true, Bool.and_false, Bool.true_or, Bool.false_or, Bool.or_true, Bool.or_false]
    refine RApply_ok H' (by omega) n wn.1 wn.2.2.1 fun h3 F3 H3 u3 f3 => ?_
    have hF' : ∀ b ∈ F', b ∈ F ∨ h b = none := hF
    have u' : Upd F h h3 := u.then u3 hF'
    have g3 : ∀ b ∈ F3, b ∈ F ∨ h b = none := fun b hb => by
      rcases f3 b hb with hb | hb
      · exact hF b hb
      · by_cases hbF : b ∈ F
        · exact .inl hbF
        · right
          cases hx : h b with
          | none => rfl
          | some o => have := u b o hx hbF; rw [hb] at this; cases this
    have hlen : (appL L' room n).length ≤ L'.length + 1 := appL_len H'.srt room n
    by_cases h0 : appE L' room n = 0
    · simp only [aply, h0, ne_eq, not_true_eq_false, if_false] at hap
      simp only [neqI, h0, gi, popO_some, bindH_eq, condV_bool, condV_true, condV_false, yV_bool, gopV_tt, gopV_ff, gopV_tf, gopV_ft, pickV_t, pickV_f, pickV_bool, nilS_ptr, add_eq, sub_eq, mul_eq, lss_eq, leq_eq, gtr_eq, geq_eq, not_eq, minI_eq, maxI_eq, extract_0, extract_1, extract_2, eqlI, neqI, makeFunc_eq, decide_true, decide_false, if_true, if_false, Bool.false_eq_true, Bool.not_true, Bool.not_false, reduceIte, List.getElem?_toArray, List.getElem?_cons_zero, List.getElem?_cons_succ, Option.isSome_none, List.length_map, yV_undef, gopV_none, Nat.zero_add, Nat.reduceAdd, beq_self_eq_true, bne_self_eq_false, and_self, Bool.true_and, Bool.false_and, Bool.and_true, Bool.and_false, Bool.true_or, Bool.false_or, Bool.or_true, Bool.or_false]
      refine ⟨⟨i + 1, _, F3, by omega, rfl, H3, u', g3, by omega, hap⟩, ?_⟩
      simp only [upTo, List.getElem?_cons_succ, List.getElem?_cons_zero]
      omega
    · have q : (appE L' room n != 0) = true := by simp [h0]
      simp only [aply, ne_eq, h0, not_false_eq_true, if_true] at hap
      simp only [neqI, q, popO_some, bindH_eq, condV_bool, condV_true, condV_false, yV_bool, gopV_tt, gopV_ff, gopV_tf, gopV_ft, pickV_t, pickV_f, pickV_bool, nilS_ptr, add_eq, sub_eq, mul_eq, lss_eq, leq_eq, gtr_eq, geq_eq, not_eq, minI_eq, maxI_eq, extract_0, extract_1, extract_2, eqlI, neqI, makeFunc_eq, decide_true, decide_false, if_true, if_false, Bool.false_eq_true, Bool.not_true, Bool.not_false, reduceIte, List.getElem?_toArray, List.getElem?_cons_zero, List.getElem?_cons_succ, Option.isSome_none, List.length_map, yV_undef, gopV_none, Nat.zero_add, Nat.reduceAdd, beq_self_eq_true, bne_self_eq_false, and_self, Bool.true_and, Bool.false_and, Bool.and_true, Bool.and_false, Bool.true_or, Bool.false_or, Bool.or_true, Bool.or_false]
      have := hk h3 F3 (i : Int) (by rw [hap]; exact H3) u' g3
      rw [hap] at this
      exact this
  · have g1 : ((i : Int) < (l.length : Int)) = False := eq_false (by omega)
    rw [List.drop_of_length_le (by omega)] at hap
    simp only [lv, g1, popO_some, bindH_eq, condV_bool, condV_true, condV_false, yV_bool, gopV_tt, gopV_ff, gopV_tf, gopV_ft, pickV_t, pickV_f, pickV_bool, nilS_ptr, add_eq, sub_eq, mul_eq, lss_eq, leq_eq, gtr_eq, geq_eq, not_eq, minI_eq, maxI_eq, extract_0, extract_1, extract_2, eqlI, neqI, makeFunc_eq, decide_true, decide_false, if_true, if_false, Bool.false_eq_true, Bool.not_true, Bool.not_false, reduceIte, List.getElem?_toArray, List.getElem?_cons_zero, List.getElem?_cons_succ, Option.isSome_none, List.length_map, yV_undef, gopV_none, Nat.zero_add, Nat.reduceAdd, beq_self_eq_true, bne_self_eq_false, and_self, Bool.true_and, Bool.false_and, Bool.and_true, Bool.and_false, Bool.true_or, Bool.false_or, Bool.or_true, Bool.or_false]
    have := hk h' F' (l.length : Int) (by rw [hap]; exact H') u hF
    rw [hap] at this
    exact this
theorem chk_eq {d : Dm} {room : Int} : chk d room = if ¬ (okPl d.p0 ∧ okPl d.p1) then 1 else if ofE room d.its ≠ 0 then ofE room d.its else if ofL d.its ≠ d.its then 15 else 0 := by
  unfold chk
  by_cases h : okPl d.p0 ∧ okPl d.p1
  · by_cases e1 : ofE room d.its = 1
    · simp [h, e1]
    · simp [h, e1]
  · simp [h]
theorem RCheck_ok {h : PH} {d : Dm} {v : Value} {room : Int} (V : ISl h v d.its) (hl : d.its.length ≤ 900) (w : d.wf) {k : Value → PH → Prop} (hk : ∀ h', Ext h h' → k (.int .i64 (chk d room)) h') : CallsH PG id_carrackref17_Check #[d.v v, .int .i64 room] h k := by
  apply carrackref17_Check.call
  unfold carrackref17_Check
  intro r1 hr1
  try rw [bindH_eq]
  have u1 : Ext h (h.set r1 (.cells (Value.cells (d.v v)) T_api_Daemon)) := Upd.new hr1
  have B1 : Bx (h.set r1 (.cells (Value.cells (d.v v)) T_api_Daemon)) r1 (d.cells v) := Bx.new
  generalize h.set r1 (.cells (Value.cells (d.v v)) T_api_Daemon) = h1 at *
  have lit : ∀ {h' : PH}, Ext h1 h' → SemE PG h' (Instr.loadAt T_sl_api_Item (.pointer (some ⟨r1, 4, none⟩))) = some v := fun u => by rw [T_sl_api_Item.load, (B1.ext u).cell]; rfl
  simp only [T_api_Daemon.f1, Nat.zero_add, lit Upd.refl, popO_some, bindH_eq, condV_bool, condV_true, condV_false, yV_bool, gopV_tt, gopV_ff, gopV_tf, gopV_ft, pickV_t, pickV_f, pickV_bool, nilS_ptr, add_eq, sub_eq, mul_eq, lss_eq, leq_eq, gtr_eq, geq_eq, not_eq, minI_eq, maxI_eq, extract_0, extract_1, extract_2, eqlI, neqI, makeFunc_eq, decide_true, decide_false, if_true, if_false, Bool.false_eq_true, Bool.not_true, Bool.not_false, reduceIte, List.getElem?_toArray, List.getElem?_cons_zero, List.getElem?_cons_succ, Option.isSome_none, List.length_map, yV_undef, gopV_none, Nat.zero_add, Nat.reduceAdd, beq_self_eq_true, bne_self_eq_false, and_self, Bool.true_and, Bool.false_and, Bool.and_true, Bool.and_false, Bool.true_or, Bool.false_or, Bool.or_true, Bool.or_false]
  have main : ∀ (h6 : PH) (tv : Value) (e : Int), (ofE room d.its ≠ 0 ∧ tv = .pointer none ∧ e = ofE room d.its) ∨ (ofE room d.its = 0 ∧ e = 0 ∧ ∃ a F, tv = .pointer (some ⟨a, 0, none⟩) ∧ RAt h6 a (ofL d.its) room F) → Ext h1 h6 →
      LoopL [2, 5, 6, 7] (fun n9 ρ h => carrackref17_Check_b10 k n9 (ρ 2) (ρ 5) (ρ 6) (ρ 7) h) [(Value.pointer (some ⟨r1, 0, none⟩)), tv, .int .i64 e, (Value.int IntKind.i64 0)] h6 := by
    intro h6 tv e X u6
    have hk := hk _ (u1.trans u6)
    rw [chk_eq] at hk
    have li : ∀ (q : Pl) (o : Nat), (d.cells v)[o + 1]? = some (.int .i64 q.i) → SemE PG h6 (Instr.loadAt T_int (.pointer (some ⟨r1, o + 1, none⟩))) = some (.int .i64 q.i) := fun q o hq => by rw [T_int.load, (B1.ext u6).cell, hq]
    refine ⟨fun vs h' => ∃ i : Nat, i ≤ 2 ∧ vs = [(Value.pointer (some ⟨r1, 0, none⟩)), tv, .int .i64 e, .int .i64 (i : Int)] ∧ h' = h6 ∧ (1 ≤ i → okPl d.p0) ∧ (2 ≤ i → okPl d.p1), upTo 2 3, ⟨0, by omega, rfl, rfl, by omega, by omega⟩, ?_⟩
    rintro ρ h' ⟨i, hi, hvs, rfl, o0, o1⟩
    simp only [List.map_cons, List.map_nil, List.cons.injEq, and_true] at hvs
    obtain ⟨v0, v1, v2, v3⟩ := hvs
    unfold carrackref17_Check_b10
    rw [v0, v1, v2, v3]
    by_cases hlt : i < 2
    · have g1 : ((i : Int) < 2) = True := eq_true (by omega)
      have gi : IntKind.i64.wrap ((i : Int) + 1) = ((i + 1 : Nat) : Int) := by rw [i64_wrap (by omega) (by omega)]; omega
      have ix := ixP (r := r1) hlt
      obtain ⟨q, hq, hc⟩ : ∃ q : Pl, (d.cells v)[i * 2 + 1]? = some (.int .i64 q.i) ∧ (q = d.p0 ∧ i = 0 ∨ q = d.p1 ∧ i = 1) := by
        have : i = 0 ∨ i = 1 := by omega
        rcases this with rfl | rfl
        · exact ⟨d.p0, rfl, .inl ⟨rfl, rfl⟩⟩
        · exact ⟨d.p1, rfl, .inr ⟨rfl, rfl⟩⟩
      have lq := li q (i * 2) hq
      have bad : ¬ okPl q → k (.int .i64 1) h' := fun c => by
        rw [if_pos (by rcases hc with ⟨rfl, -⟩ | ⟨rfl, -⟩
                       · exact fun x => c x.1
                       · exact fun x => c x.2)] at hk
        exact hk
      by_cases d0 : q.i < 0
      · have f0 := eq_true d0
        simp only [g1, T_api_Daemon.f0, ix, T_api_Place.f1, lq, f0, popO_some, bindH_eq, condV_bool, condV_true, condV_false, yV_bool, gopV_tt, gopV_ff, gopV_tf, gopV_ft, pickV_t, pickV_f, pickV_bool, nilS_ptr, add_eq, sub_eq, mul_eq, lss_eq, leq_eq, gtr_eq, geq_eq, not_eq, minI_eq, maxI_eq, extract_0, extract_1, extract_2, eqlI, neqI, makeFunc_eq, decide_true, decide_false, if_true, if_false, Bool.false_eq_true, Bool.not_true, Bool.not_false, reduceIte, List.getElem?_toArray, List.getElem?_cons_zero, List.getElem?_cons_succ, Option.isSome_none, List.length_map, yV_undef, gopV_none, Nat.zero_add, Nat.reduceAdd, beq_self_eq_true, bne_self_eq_false, and_self, Bool.true_and, Bool.false_and, Bool.and_true, Bool.and_false, Bool.true_or, Bool.false_or, Bool.or_true, Bool.or_false]
        exact bad fun c => by have := c.1; omega
      have f0 := eq_false d0
      by_cases d1 : 65535 < q.i
      · have f1 := eq_true d1
        simp only [g1, T_api_Daemon.f0, ix, T_api_Place.f1, lq, f0, f1, popO_some, bindH_eq, condV_bool, condV_true, condV_false, yV_bool, gopV_tt, gopV_ff, gopV_tf, gopV_ft, pickV_t, pickV_f, pickV_bool, nilS_ptr, add_eq, sub_eq, mul_eq, lss_eq, leq_eq, gtr_eq, geq_eq, not_eq, minI_eq, maxI_eq, extract_0, extract_1, extract_2, eqlI, neqI, makeFunc_eq, decide_true, decide_false, if_true, if_false, Bool.false_eq_true, Bool.not_true, Bool.not_false, reduceIte, List.getElem?_toArray, List.getElem?_cons_zero, List.getElem?_cons_succ, Option.isSome_none, List.length_map, yV_undef, gopV_none, Nat.zero_add, Nat.reduceAdd, beq_self_eq_true, bne_self_eq_false, and_self, Bool.true_and, Bool.false_and, Bool.and_true, Bool.and_false, Bool.true_or, Bool.false_or, Bool.or_true, Bool.or_false]
        exact bad fun c => by have := c.2; omega
      have f1 := eq_false d1
      have okq : okPl q := ⟨by omega, by omega⟩
      simp only [g1, T_api_Daemon.f0, ix, T_api_Place.f1, lq, f0, f1, gi, popO_some, bindH_eq, condV_bool, condV_true, condV_false, yV_bool, gopV_tt, gopV_ff, gopV_tf, gopV_ft, pickV_t, pickV_f, pickV_bool, nilS_ptr, add_eq, sub_eq, mul_eq, lss_eq, leq_eq, gtr_eq, geq_eq, not_eq, minI_eq, maxI_eq, extract_0, extract_1, extract_2, eqlI, neqI, makeFunc_eq, decide_true, decide_false, if_true, if_false, Bool.false_eq_true, Bool.not_true, Bool.not_false, reduceIte, List.getElem?_toArray, List.getElem?_cons_zero, List.getElem?_cons_succ, Option.isSome_none, List.length_map, yV_undef, gopV_none, Nat.zero_add, Nat.reduceAdd, beq_self_eq_true, bne_self_eq_false, and_self, Bool.true_and, Bool.false_and, Bool.and_true, Bool.and_false, Bool.true_or, Bool.false_or, Bool.or_true, Bool.or_false]
      refine ⟨⟨i + 1, by omega, rfl, (by first | rfl | trivial), fun _ => ?_, fun h2 => ?_⟩, by simp [upTo, v3]; omega⟩
      · rcases hc with ⟨rfl, -⟩ | ⟨rfl, hi1⟩
        · exact okq
        · exact o0 (by omega)
      · rcases hc with ⟨rfl, h0⟩ | ⟨rfl, -⟩
        · omega
        · exact okq
    · have g1 : ((i : Int) < 2) = False := eq_false (by omega)
      rw [if_neg (by exact fun c => c ⟨o0 (by omega), o1 (by omega)⟩)] at hk
      rcases X with ⟨hne, rfl, rfl⟩ | ⟨h0, rfl, a, F, rfl, H⟩
      · have q : (ofE room d.its != 0) = true := by simp [hne]
        rw [if_pos hne] at hk
        simp only [g1, neqI, q, popO_some, bindH_eq, condV_bool, condV_true, condV_false, yV_bool, gopV_tt, gopV_ff, gopV_tf, gopV_ft, pickV_t, pickV_f, pickV_bool, nilS_ptr, add_eq, sub_eq, mul_eq, lss_eq, leq_eq, gtr_eq, geq_eq, not_eq, minI_eq, maxI_eq, extract_0, extract_1, extract_2, eqlI, neqI, makeFunc_eq, decide_true, decide_false, if_true, if_false, Bool.false_eq_true, Bool.not_true, Bool.not_false, reduceIte, List.getElem?_toArray, List.getElem?_cons_zero, List.getElem?_cons_succ, Option.isSome_none, List.length_map, yV_undef, gopV_none, Nat.zero_add, Nat.reduceAdd, beq_self_eq_true, bne_self_eq_false, and_self, Bool.true_and, Bool.false_and, Bool.and_true, Bool.and_false, Bool.true_or, Bool.false_or, Bool.or_true, Bool.or_false]
        exact hk
      · rw [if_neg (by simpa using h0)] at hk
        obtain ⟨tvv, G, ha, hO, -, -⟩ := H.here
        have lt : SemE PG h' (Instr.loadAt T_sl_api_Item (.pointer (some ⟨a, 0, none⟩))) = some tvv := by
          rw [T_sl_api_Item.load]; unfold cellH; simp [ha]
        have hx := ofL_len d.its
        simp only [g1, neqI, nilS_ptr, T_carrackref15_Table.f0, lt, T_api_Daemon.f1, Nat.zero_add, lit u6, popO_some, bindH_eq, condV_bool, condV_true, condV_false, yV_bool, gopV_tt, gopV_ff, gopV_tf, gopV_ft, pickV_t, pickV_f, pickV_bool, nilS_ptr, add_eq, sub_eq, mul_eq, lss_eq, leq_eq, gtr_eq, geq_eq, not_eq, minI_eq, maxI_eq, extract_0, extract_1, extract_2, eqlI, neqI, makeFunc_eq, decide_true, decide_false, if_true, if_false, Bool.false_eq_true, Bool.not_true, Bool.not_false, reduceIte, List.getElem?_toArray, List.getElem?_cons_zero, List.getElem?_cons_succ, Option.isSome_none, List.length_map, yV_undef, gopV_none, Nat.zero_add, Nat.reduceAdd, beq_self_eq_true, bne_self_eq_false, and_self, Bool.true_and, Bool.false_and, Bool.and_true, Bool.and_false, Bool.true_or, Bool.false_or, Bool.or_true, Bool.or_false]
        refine Same_ok hO.slR (V.ext (u1.trans u6)) (by omega) ?_
        by_cases hs : ofL d.its = d.its
        · rw [if_neg (by simpa using hs)] at hk
          have hs' := decide_eq_true hs
          simp only [hs', popO_some, bindH_eq, condV_bool, condV_true, condV_false, yV_bool, gopV_tt, gopV_ff, gopV_tf, gopV_ft, pickV_t, pickV_f, pickV_bool, nilS_ptr, add_eq, sub_eq, mul_eq, lss_eq, leq_eq, gtr_eq, geq_eq, not_eq, minI_eq, maxI_eq, extract_0, extract_1, extract_2, eqlI, neqI, makeFunc_eq, decide_true, decide_false, if_true, if_false, Bool.false_eq_true, Bool.not_true, Bool.not_false, reduceIte, List.getElem?_toArray, List.getElem?_cons_zero, List.getElem?_cons_succ, Option.isSome_none, List.length_map, yV_undef, gopV_none, Nat.zero_add, Nat.reduceAdd, beq_self_eq_true, bne_self_eq_false, and_self, Bool.true_and, Bool.false_and, Bool.and_true, Bool.and_false, Bool.true_or, Bool.false_or, Bool.or_true, Bool.or_false]
          exact hk
        · rw [if_pos hs] at hk
          have hs' := decide_eq_false hs
          simp only [hs', popO_some, bindH_eq, condV_bool, condV_true, condV_false, yV_bool, gopV_tt, gopV_ff, gopV_tf, gopV_ft, pickV_t, pickV_f, pickV_bool, nilS_ptr, add_eq, sub_eq, mul_eq, lss_eq, leq_eq, gtr_eq, geq_eq, not_eq, minI_eq, maxI_eq, extract_0, extract_1, extract_2, eqlI, neqI, makeFunc_eq, decide_true, decide_false, if_true, if_false, Bool.false_eq_true, Bool.not_true, Bool.not_false, reduceIte, List.getElem?_toArray, List.getElem?_cons_zero, List.getElem?_cons_succ, Option.isSome_none, List.length_map, yV_undef, gopV_none, Nat.zero_add, Nat.reduceAdd, beq_self_eq_true, bne_self_eq_false, and_self, Bool.true_and, Bool.false_and, Bool.and_true, Bool.and_false, Bool.true_or, Bool.false_or, Bool.or_true, Bool.or_false]
          exact hk
  refine ROf_ok (V.ext u1) hl (fun m hm => ⟨(w.i m hm).1, (w.i m hm).2.2.1⟩) (fun h6 u6 hne => ?_) (fun a h6 F h0 H f u6 => ?_)
  · simp only [popO_some, bindH_eq, condV_bool, condV_true, condV_false, yV_bool, gopV_tt, gopV_ff, gopV_tf, gopV_ft, pickV_t, pickV_f, pickV_bool, nilS_ptr, add_eq, sub_eq, mul_eq, lss_eq, leq_eq, gtr_eq, geq_eq, not_eq, minI_eq, maxI_eq, extract_0, extract_1, extract_2, eqlI, neqI, makeFunc_eq, decide_true, decide_false, if_true, if_false, Bool.false_eq_true, Bool.not_true, Bool.not_false, reduceIte, List.getElem?_toArray, List.getElem?_cons_zero, List.getElem?_cons_succ, Option.isSome_none, List.length_map, yV_undef, gopV_none, Nat.zero_add, Nat.reduceAdd, beq_self_eq_true, bne_self_eq_false, and_self, Bool.true_and, Bool.false_and, Bool.and_true, Bool.and_false, Bool.true_or, Bool.false_or, Bool.or_true, Bool.or_false]
    exact main h6 _ _ (.inl ⟨hne, rfl, rfl⟩) u6
  · simp only [popO_some, bindH_eq, condV_bool, condV_true, condV_false, yV_bool, gopV_tt, gopV_ff, gopV_tf, gopV_ft, pickV_t, pickV_f, pickV_bool, nilS_ptr, add_eq, sub_eq, mul_eq, lss_eq, leq_eq, gtr_eq, geq_eq, not_eq, minI_eq, maxI_eq, extract_0, extract_1, extract_2, eqlI, neqI, makeFunc_eq, decide_true, decide_false, if_true, if_false, Bool.false_eq_true, Bool.not_true, Bool.not_false, reduceIte, List.getElem?_toArray, List.getElem?_cons_zero, List.getElem?_cons_succ, Option.isSome_none, List.length_map, yV_undef, gopV_none, Nat.zero_add, Nat.reduceAdd, beq_self_eq_true, bne_self_eq_false, and_self, Bool.true_and, Bool.false_and, Bool.and_true, Bool.and_false, Bool.true_or, Bool.false_or, Bool.or_true, Bool.or_false]
    exact main h6 _ _ (.inr ⟨h0, rfl, a, F, rfl, H⟩) u6
end Go.Proofs.YtlkjippiaghbmaaGreat
/- the document's Step of a record; the statement RecordSteps. -/
set_option linter.unusedSimpArgs false
set_option linter.unusedVariables false
namespace Go.Proofs.YtlkjippiaghbmaaGreat
open Go
set_option maxRecDepth 20000
theorem RStep_ok {h : PH} {d : Dm} {v : Value} {room : Int} {r : Rc} {vi vn : Value} (V : ISl h v d.its) (w : d.wf) (hl : d.its.length ≤ 900) (VI : ISl h vi r.s.its) (VN : NSl h vn r.ns) (wf : r.wf) (hi : r.s.its.length ≤ 900) (hn : r.ns.length ≤ 100000) {k : Value → PH → Prop}
    (hk : ∀ h' v', ISl h' v' (stp d room r).1.its → Ext h h' → k (.tuple #[(stp d room r).1.v v', .int .i64 (stp d room r).2]) h') : CallsH PG id_carrackref17_Step #[d.v v, .int .i64 room, r.v vi vn] h k := by
  apply carrackref17_Step.call
  unfold carrackref17_Step
  intro r1 hr1
  try rw [bindH_eq]
  have u1 : Ext h (h.set r1 (.cells (Value.cells (d.v v)) T_api_Daemon)) := Upd.new hr1
  have B1 : Bx (h.set r1 (.cells (Value.cells (d.v v)) T_api_Daemon)) r1 (d.cells v) := Bx.new
  generalize h.set r1 (.cells (Value.cells (d.v v)) T_api_Daemon) = h1 at *
  intro r3 hr3
  try rw [bindH_eq]
  have u3 : Ext h1 (h1.set r3 (.cells (Value.cells (r.v vi vn)) T_api_Record)) := Upd.new hr3
  have B3 : Bx (h1.set r3 (.cells (Value.cells (r.v vi vn)) T_api_Record)) r3 (r.cells vi vn) := Bx.new
  have B13 := B1.ext u3
  generalize h1.set r3 (.cells (Value.cells (r.v vi vn)) T_api_Record) = h3 at *
  intro r5 hr5
  try rw [bindH_eq]
  have u5 : Ext h3 (h3.set r5 (.cells (zcells PG T_api_Daemon) T_api_Daemon)) := Upd.new hr5
  have Z := T_api_Daemon.zbox (h := h3) (r := r5)
  have B15 := B13.ext u5
  have B35 := B3.ext u5
  generalize h3.set r5 (.cells (zcells PG T_api_Daemon) T_api_Daemon) = h5 at *
  have e5 := (u1.trans u3).trans u5
  have f5 : Fresh h [r5] := Fresh.one ((u1.trans u3).none hr5)
  have K5 : h5 r5 ≠ none := Z.known
  -- an answer
  have out : ∀ {h' : PH} {x : Dm} {e : Int} {v' : Value}, Ext h5 h' → stp d room r = (x, e) → ISl h' v' x.its → outG x.its v' [r5] → SemH PG (storeS T_api_Daemon (.pointer (some ⟨r5, 0, none⟩)) (x.v v')) h' fun v12 h13 => popO (SemE PG h13 (Instr.loadAt T_api_Daemon (.pointer (some ⟨r5, 0, none⟩)))) fun v14 => k (.tuple #[v14, .int .i64 e]) h13 := by
    intro h' x e v' u hs X o
    refine T_api_Daemon.put (Z.ext u) rfl (by show 0 + 5 ≤ 5; decide) (Dm.isC _ X.isc) fun h2 B2 u2 => ?_
    simp only [Dm.load (o := 0) (d := x) (v := v') B2 rfl, popO_some, bindH_eq, condV_bool, condV_true, condV_false, yV_bool, gopV_tt, gopV_ff, gopV_tf, gopV_ft, pickV_t, pickV_f, pickV_bool, nilS_ptr, add_eq, sub_eq, mul_eq, lss_eq, leq_eq, gtr_eq, geq_eq, not_eq, minI_eq, maxI_eq, extract_0, extract_1, extract_2, eqlI, neqI, makeFunc_eq, decide_true, decide_false, if_true, if_false, Bool.false_eq_true, Bool.not_true, Bool.not_false, reduceIte, List.getElem?_toArray, List.getElem?_cons_zero, List.getElem?_cons_succ, Option.isSome_none, List.length_map]
    rw [hs] at hk
    exact hk h2 v' (ISl.updG X o u2 (fun b hb => hb)) ((e5.trans u).fresh u2 f5)
  have bad : ∀ {h' : PH} {e : Int}, Ext h5 h' → stp d room r = (Dm.zero, e) → SemH PG (storeS T_api_Daemon (.pointer (some ⟨r5, 0, none⟩)) (Dm.v Dm.zero (.slice none 0 0))) h' fun v12 h13 => popO (SemE PG h13 (Instr.loadAt T_api_Daemon (.pointer (some ⟨r5, 0, none⟩)))) fun v14 => k (.tuple #[v14, .int .i64 e]) h13 :=
    fun u hs => out u hs nilI (fun hne => absurd rfl hne)
  have hdef : stp d room r = if chk d room ≠ 0 then (Dm.zero, chk d room) else if r.bytes.2 ≠ 0 then (Dm.zero, r.bytes.2) else if r.k = 1 then (if chk r.s room ≠ 0 then (Dm.zero, chk r.s room) else (r.s, 0)) else if (aply room (ofL d.its) r.ns).2 ≠ 0 then (Dm.zero, (aply room (ofL d.its) r.ns).2) else (⟨if r.ch = 0 then r.pl else d.p0, if r.ch = 0 then d.p1 else r.pl, (aply room (ofL d.its) r.ns).1⟩, 0) := rfl
  have ld : ∀ {h' : PH}, Ext h5 h' → SemE PG h' (Instr.loadAt T_api_Daemon (.pointer (some ⟨r1, 0, none⟩))) = some (d.v v) := fun u => Dm.load (o := 0) (B15.ext u) rfl
  have lr : ∀ {h' : PH}, Ext h5 h' → SemE PG h' (Instr.loadAt T_api_Record (.pointer (some ⟨r3, 0, none⟩))) = some (r.v vi vn) := fun u => T_api_Record.agg (B35.ext u) (by show 0 + 10 ≤ 10; decide)
  have lk : ∀ {h' : PH}, Ext h5 h' → SemE PG h' (Instr.loadAt T_int (.pointer (some ⟨r3, 0, none⟩))) = some (.int .i64 r.k) := fun u => by rw [T_int.load, (B35.ext u).cell]; rfl
  have ls : ∀ {h' : PH}, Ext h5 h' → SemE PG h' (Instr.loadAt T_api_Daemon (.pointer (some ⟨r3, 1, none⟩))) = some (r.s.v vi) := fun u => Dm.load (o := 1) (B35.ext u) rfl
  have lit : ∀ {h' : PH}, Ext h5 h' → SemE PG h' (Instr.loadAt T_sl_api_Item (.pointer (some ⟨r1, 4, none⟩))) = some v := fun u => by rw [T_sl_api_Item.load, (B15.ext u).cell]; rfl
  have ln : ∀ {h' : PH}, Ext h5 h' → SemE PG h' (Instr.loadAt T_sl_api_Note (.pointer (some ⟨r3, 9, none⟩))) = some vn := fun u => by rw [T_sl_api_Note.load, (B35.ext u).cell]; rfl
  have l2 : ∀ {h' : PH}, Ext h5 h' → SemE PG h' (Instr.loadAt T_2_api_Place (.pointer (some ⟨r1, 0, none⟩))) = some (two d.p0 d.p1) := fun u => two_load (B15.ext u) rfl
  have lch : ∀ {h' : PH}, Ext h5 h' → SemE PG h' (Instr.loadAt T_int (.pointer (some ⟨r3, 6, none⟩))) = some (.int .i64 r.ch) := fun u => by rw [T_int.load, (B35.ext u).cell]; rfl
  have lpl : ∀ {h' : PH}, Ext h5 h' → SemE PG h' (Instr.loadAt T_api_Place (.pointer (some ⟨r3, 7, none⟩))) = some (.agg r.pl.cells.toArray) := fun u => pl_load (B35.ext u) rfl
  simp only [ld Upd.refl, popO_some, bindH_eq, condV_bool, condV_true, condV_false, yV_bool, gopV_tt, gopV_ff, gopV_tf, gopV_ft, pickV_t, pickV_f, pickV_bool, nilS_ptr, add_eq, sub_eq, mul_eq, lss_eq, leq_eq, gtr_eq, geq_eq, not_eq, minI_eq, maxI_eq, extract_0, extract_1, extract_2, eqlI, neqI, makeFunc_eq, decide_true, decide_false, if_true, if_false, Bool.false_eq_true, Bool.not_true, Bool.not_false, reduceIte, List.getElem?_toArray, List.getElem?_cons_zero, List.getElem?_cons_succ, Option.isSome_none, List.length_map, yV_undef, gopV_none, Nat.zero_add, Nat.reduceAdd, beq_self_eq_true, bne_self_eq_false, and_self, Bool.true_and, Bool.false_and, Bool.and_true, Bool.and_false, Bool.true_or, Bool.false_or, Bool.or_true, Bool.or_false]
  refine RCheck_ok (V.ext e5) hl w fun h6 u6 => ?_
  by_cases c0 : chk d room = 0
  case neg =>
    have q : (chk d room != 0) = true := by simp [c0]
    rw [if_pos c0] at hdef
    simp only [neqI, q, dm_zero, popO_some, bindH_eq, condV_bool, condV_true, condV_false, yV_bool, gopV_tt, gopV_ff, gopV_tf, gopV_ft, pickV_t, pickV_f, pickV_bool, nilS_ptr, add_eq, sub_eq, mul_eq, lss_eq, leq_eq, gtr_eq, geq_eq, not_eq, minI_eq, maxI_eq, extract_0, extract_1, extract_2, eqlI, neqI, makeFunc_eq, decide_true, decide_false, if_true, if_false, Bool.false_eq_true, Bool.not_true, Bool.not_false, reduceIte, List.getElem?_toArray, List.getElem?_cons_zero, List.getElem?_cons_succ, Option.isSome_none, List.length_map, yV_undef, gopV_none, Nat.zero_add, Nat.reduceAdd, beq_self_eq_true, bne_self_eq_false, and_self, Bool.true_and, Bool.false_and, Bool.and_true, Bool.and_false, Bool.true_or, Bool.false_or, Bool.or_true, Bool.or_false]
    exact bad u6 hdef
  rw [if_neg (by simp [c0])] at hdef
  simp only [c0, neqI, lr u6, popO_some, bindH_eq, condV_bool, condV_true, condV_false, yV_bool, gopV_tt, gopV_ff, gopV_tf, gopV_ft, pickV_t, pickV_f, pickV_bool, nilS_ptr, add_eq, sub_eq, mul_eq, lss_eq, leq_eq, gtr_eq, geq_eq, not_eq, minI_eq, maxI_eq, extract_0, extract_1, extract_2, eqlI, neqI, makeFunc_eq, decide_true, decide_false, if_true, if_false, Bool.false_eq_true, Bool.not_true, Bool.not_false, reduceIte, List.getElem?_toArray, List.getElem?_cons_zero, List.getElem?_cons_succ, Option.isSome_none, List.length_map, yV_undef, gopV_none, Nat.zero_add, Nat.reduceAdd, beq_self_eq_true, bne_self_eq_false, and_self, Bool.true_and, Bool.false_and, Bool.and_true, Bool.and_false, Bool.true_or, Bool.false_or, Bool.or_true, Bool.or_false]
  refine RRBytes_ok (VI.ext (e5.trans u6)) (VN.ext (e5.trans u6)) wf (by omega) hn fun h7 s e he u7 => ?_
  have e7 := u6.trans u7
  rcases he with ⟨rfl, ok⟩ | ⟨rfl, no⟩
  case inr =>
    have n1 : ((1 : Int) != 0) = true := by decide
    rcases bytes_iff r with ⟨ok, -⟩ | ⟨-, eb⟩
    · exact absurd ok no
    rw [eb] at hdef
    simp only [neqI, n1, dm_zero, popO_some, bindH_eq, condV_bool, condV_true, condV_false, yV_bool, gopV_tt, gopV_ff, gopV_tf, gopV_ft, pickV_t, pickV_f, pickV_bool, nilS_ptr, add_eq, sub_eq, mul_eq, lss_eq, leq_eq, gtr_eq, geq_eq, not_eq, minI_eq, maxI_eq, extract_0, extract_1, extract_2, eqlI, neqI, makeFunc_eq, decide_true, decide_false, if_true, if_false, Bool.false_eq_true, Bool.not_true, Bool.not_false, reduceIte, List.getElem?_toArray, List.getElem?_cons_zero, List.getElem?_cons_succ, Option.isSome_none, List.length_map, yV_undef, gopV_none, Nat.zero_add, Nat.reduceAdd, beq_self_eq_true, bne_self_eq_false, and_self, Bool.true_and, Bool.false_and, Bool.and_true, Bool.and_false, Bool.true_or, Bool.false_or, Bool.or_true, Bool.or_false]
    exact bad e7 (by rw [hdef]; rfl)
  rw [bytes_of_ok ok] at hdef
  simp only [ne_eq, not_true_eq_false, if_false] at hdef
  simp only [T_api_Record.f0, lk e7, neqI, eqlI, popO_some, bindH_eq, condV_bool, condV_true, condV_false, yV_bool, gopV_tt, gopV_ff, gopV_tf, gopV_ft, pickV_t, pickV_f, pickV_bool, nilS_ptr, add_eq, sub_eq, mul_eq, lss_eq, leq_eq, gtr_eq, geq_eq, not_eq, minI_eq, maxI_eq, extract_0, extract_1, extract_2, eqlI, neqI, makeFunc_eq, decide_true, decide_false, if_true, if_false, Bool.false_eq_true, Bool.not_true, Bool.not_false, reduceIte, List.getElem?_toArray, List.getElem?_cons_zero, List.getElem?_cons_succ, Option.isSome_none, List.length_map, yV_undef, gopV_none, Nat.zero_add, Nat.reduceAdd, beq_self_eq_true, bne_self_eq_false, and_self, Bool.true_and, Bool.false_and, Bool.and_true, Bool.and_false, Bool.true_or, Bool.false_or, Bool.or_true, Bool.or_false]
  by_cases k1 : r.k = 1
  · have q : (r.k == 1) = true := by simp [k1]
    rw [if_pos k1] at hdef
    simp only [q, T_api_Record.f1, Nat.zero_add, ls e7, popO_some, bindH_eq, condV_bool, condV_true, condV_false, yV_bool, gopV_tt, gopV_ff, gopV_tf, gopV_ft, pickV_t, pickV_f, pickV_bool, nilS_ptr, add_eq, sub_eq, mul_eq, lss_eq, leq_eq, gtr_eq, geq_eq, not_eq, minI_eq, maxI_eq, extract_0, extract_1, extract_2, eqlI, neqI, makeFunc_eq, decide_true, decide_false, if_true, if_false, Bool.false_eq_true, Bool.not_true, Bool.not_false, reduceIte, List.getElem?_toArray, List.getElem?_cons_zero, List.getElem?_cons_succ, Option.isSome_none, List.length_map, yV_undef, gopV_none, Nat.zero_add, Nat.reduceAdd, beq_self_eq_true, bne_self_eq_false, and_self, Bool.true_and, Bool.false_and, Bool.and_true, Bool.and_false, Bool.true_or, Bool.false_or, Bool.or_true, Bool.or_false]
    refine RCheck_ok (VI.ext (e5.trans e7)) hi wf.s fun h8 u8 => ?_
    have e8 := e7.trans u8
    by_cases c2 : chk r.s room = 0
    · rw [if_neg (by simp [c2])] at hdef
      simp only [c2, neqI, T_api_Record.f1, Nat.zero_add, ls e8, popO_some, bindH_eq, condV_bool, condV_true, condV_false, yV_bool, gopV_tt, gopV_ff, gopV_tf, gopV_ft, pickV_t, pickV_f, pickV_bool, nilS_ptr, add_eq, sub_eq, mul_eq, lss_eq, leq_eq, gtr_eq, geq_eq, not_eq, minI_eq, maxI_eq, extract_0, extract_1, extract_2, eqlI, neqI, makeFunc_eq, decide_true, decide_false, if_true, if_false, Bool.false_eq_true, Bool.not_true, Bool.not_false, reduceIte, List.getElem?_toArray, List.getElem?_cons_zero, List.getElem?_cons_succ, Option.isSome_none, List.length_map, yV_undef, gopV_none, Nat.zero_add, Nat.reduceAdd, beq_self_eq_true, bne_self_eq_false, and_self, Bool.true_and, Bool.false_and, Bool.and_true, Bool.and_false, Bool.true_or, Bool.false_or, Bool.or_true, Bool.or_false]
      refine out e8 hdef (VI.ext (e5.trans e8)) fun hne x n c e hm => ?_
      have := VI.known (by simpa using hne) e
      simp only [List.mem_singleton] at hm
      rw [hm] at this
      exact this (f5 r5 (by simp))
    · rw [if_pos c2] at hdef
      have q2 : (chk r.s room != 0) = true := by simp [c2]
      simp only [neqI, q2, dm_zero, popO_some, bindH_eq, condV_bool, condV_true, condV_false, yV_bool, gopV_tt, gopV_ff, gopV_tf, gopV_ft, pickV_t, pickV_f, pickV_bool, nilS_ptr, add_eq, sub_eq, mul_eq, lss_eq, leq_eq, gtr_eq, geq_eq, not_eq, minI_eq, maxI_eq, extract_0, extract_1, extract_2, eqlI, neqI, makeFunc_eq, decide_true, decide_false, if_true, if_false, Bool.false_eq_true, Bool.not_true, Bool.not_false, reduceIte, List.getElem?_toArray, List.getElem?_cons_zero, List.getElem?_cons_succ, Option.isSome_none, List.length_map, yV_undef, gopV_none, Nat.zero_add, Nat.reduceAdd, beq_self_eq_true, bne_self_eq_false, and_self, Bool.true_and, Bool.false_and, Bool.and_true, Bool.and_false, Bool.true_or, Bool.false_or, Bool.or_true, Bool.or_false]
      exact bad e8 hdef
  · have q : (r.k == 1) = false := by simp [k1]
    obtain ⟨k2, -, hch, q16⟩ := plain2 ok.plain k1
    rw [if_neg k1] at hdef
    have hof : ofE room d.its = 0 := by
      rw [chk_eq] at c0
      by_cases h0 : ofE room d.its = 0
      · exact h0
      · by_cases h1 : okPl d.p0 ∧ okPl d.p1
        · rw [if_neg (by simpa using h1), if_pos h0] at c0; exact c0
        · rw [if_pos h1] at c0; cases c0
    simp only [q, T_api_Daemon.f1, Nat.zero_add, lit e7, popO_some, bindH_eq, condV_bool, condV_true, condV_false, yV_bool, gopV_tt, gopV_ff, gopV_tf, gopV_ft, pickV_t, pickV_f, pickV_bool, nilS_ptr, add_eq, sub_eq, mul_eq, lss_eq, leq_eq, gtr_eq, geq_eq, not_eq, minI_eq, maxI_eq, extract_0, extract_1, extract_2, eqlI, neqI, makeFunc_eq, decide_true, decide_false, if_true, if_false, Bool.false_eq_true, Bool.not_true, Bool.not_false, reduceIte, List.getElem?_toArray, List.getElem?_cons_zero, List.getElem?_cons_succ, Option.isSome_none, List.length_map, yV_undef, gopV_none, Nat.zero_add, Nat.reduceAdd, beq_self_eq_true, bne_self_eq_false, and_self, Bool.true_and, Bool.false_and, Bool.and_true, Bool.and_false, Bool.true_or, Bool.false_or, Bool.or_true, Bool.or_false]
    refine ROf_ok (V.ext (e5.trans e7)) hl (fun m hm => ⟨(w.i m hm).1, (w.i m hm).2.2.1⟩) (fun h8 u8 hne => absurd hof hne) (fun a h8 F _ H8 f8 u8 => ?_)
    have e8 := e7.trans u8
    have hx := ofL_len d.its
    simp only [T_api_Record.f4, Nat.zero_add, ln e8, popO_some, bindH_eq, condV_bool, condV_true, condV_false, yV_bool, gopV_tt, gopV_ff, gopV_tf, gopV_ft, pickV_t, pickV_f, pickV_bool, nilS_ptr, add_eq, sub_eq, mul_eq, lss_eq, leq_eq, gtr_eq, geq_eq, not_eq, minI_eq, maxI_eq, extract_0, extract_1, extract_2, eqlI, neqI, makeFunc_eq, decide_true, decide_false, if_true, if_false, Bool.false_eq_true, Bool.not_true, Bool.not_false, reduceIte, List.getElem?_toArray, List.getElem?_cons_zero, List.getElem?_cons_succ, Option.isSome_none, List.length_map, yV_undef, gopV_none, Nat.zero_add, Nat.reduceAdd, beq_self_eq_true, bne_self_eq_false, and_self, Bool.true_and, Bool.false_and, Bool.and_true, Bool.and_false, Bool.true_or, Bool.false_or, Bool.or_true, Bool.or_false]
    refine RA16_ok H8 (VN.ext (e5.trans e8)) (fun hne x n c e hm => (VN.ext (e5.trans e7)).known (by simpa using hne) e (f8 _ hm)) (by omega) wf.n fun h9 F9 n H9 u9 g9 => ?_
    have e9 := e8.fresh u9 (f8.of e7)
    by_cases c3 : (aply room (ofL d.its) r.ns).2 = 0
    case neg =>
      have q3 : ((aply room (ofL d.its) r.ns).2 != 0) = true := by simp [c3]
      rw [if_pos c3] at hdef
      simp only [neqI, q3, dm_zero, popO_some, bindH_eq, condV_bool, condV_true, condV_false, yV_bool, gopV_tt, gopV_ff, gopV_tf, gopV_ft, pickV_t, pickV_f, pickV_bool, nilS_ptr, add_eq, sub_eq, mul_eq, lss_eq, leq_eq, gtr_eq, geq_eq, not_eq, minI_eq, maxI_eq, extract_0, extract_1, extract_2, eqlI, neqI, makeFunc_eq, decide_true, decide_false, if_true, if_false, Bool.false_eq_true, Bool.not_true, Bool.not_false, reduceIte, List.getElem?_toArray, List.getElem?_cons_zero, List.getElem?_cons_succ, Option.isSome_none, List.length_map, yV_undef, gopV_none, Nat.zero_add, Nat.reduceAdd, beq_self_eq_true, bne_self_eq_false, and_self, Bool.true_and, Bool.false_and, Bool.and_true, Bool.and_false, Bool.true_or, Bool.false_or, Bool.or_true, Bool.or_false]
      exact bad e9 hdef
    rw [if_neg (by simpa using c3)] at hdef
    obtain ⟨tv, G, ha, hO, eF, -⟩ := H9.here
    generalize (aply room (ofL d.its) r.ns).1 = L at *
    have fF : Fresh h5 F9 := (f8.of e7).grow e8 g9
    have fG : Fresh h5 G := fun b hb => fF b (by rw [eF]; simp [hb])
    have nv := hO.newV fG
    have lt : SemE PG h9 (Instr.loadAt T_sl_api_Item (.pointer (some ⟨a, 0, none⟩))) = some tv := by
      rw [T_sl_api_Item.load]; unfold cellH; simp [ha]
    have VL : ISl h9 tv L := hO.slR
    obtain ⟨ta, tc, etv, -⟩ := VL.here
    have hb : SemP PG (Instr.build T_api_Daemon #[(0, two d.p0 d.p1), (1, tv)]) = some (Dm.v ⟨d.p0, d.p1, L⟩ tv) := by rw [etv]; exact dm_build _ _ _ _ _
    simp only [c3, neqI, T_api_Daemon.f0, l2 e9, nilS_ptr, T_carrackref15_Table.f0, lt, hb, popO_some, bindH_eq, condV_bool, condV_true, condV_false, yV_bool, gopV_tt, gopV_ff, gopV_tf, gopV_ft, pickV_t, pickV_f, pickV_bool, nilS_ptr, add_eq, sub_eq, mul_eq, lss_eq, leq_eq, gtr_eq, geq_eq, not_eq, minI_eq, maxI_eq, extract_0, extract_1, extract_2, eqlI, neqI, makeFunc_eq, decide_true, decide_false, if_true, if_false, Bool.false_eq_true, Bool.not_true, Bool.not_false, reduceIte, List.getElem?_toArray, List.getElem?_cons_zero, List.getElem?_cons_succ, Option.isSome_none, List.length_map, yV_undef, gopV_none, Nat.zero_add, Nat.reduceAdd, beq_self_eq_true, bne_self_eq_false, and_self, Bool.true_and, Bool.false_and, Bool.and_true, Bool.and_false, Bool.true_or, Bool.false_or, Bool.or_true, Bool.or_false]
    intro r65 hr65
    try rw [bindH_eq]
    refine T_api_Daemon.fill hr65 rfl (Dm.isC _ VL.isc) fun h10 B10 u10 => ?_
    have e10 := e9.trans u10
    have f65 : Fresh h5 [r65] := Fresh.one (e9.none hr65)
    have VLa := VL.ext u10
    have oK : ∀ {b : Nat}, h5 b ≠ none → outG L tv [b] := fun hb => outG.new nv (fun c hc => by simp only [List.mem_singleton] at hc; rw [hc]; exact hb)
    have o65 : outG L tv [r65] := fun hne x n c e hm => by
      simp only [List.mem_singleton] at hm
      exact VL.known (by simpa using hne) e (by rw [hm]; exact hr65)
    rcases hch with hc | hc
    · rw [hc] at lch hdef
      simp only [if_true] at hdef
      simp only [T_api_Record.f2, T_api_Record.f3, Nat.zero_add, lch e10, lpl e10, T_api_Daemon.f0, ixP0, popO_some, bindH_eq, condV_bool, condV_true, condV_false, yV_bool, gopV_tt, gopV_ff, gopV_tf, gopV_ft, pickV_t, pickV_f, pickV_bool, nilS_ptr, add_eq, sub_eq, mul_eq, lss_eq, leq_eq, gtr_eq, geq_eq, not_eq, minI_eq, maxI_eq, extract_0, extract_1, extract_2, eqlI, neqI, makeFunc_eq, decide_true, decide_false, if_true, if_false, Bool.false_eq_true, Bool.not_true, Bool.not_false, reduceIte, List.getElem?_toArray, List.getElem?_cons_zero, List.getElem?_cons_succ, Option.isSome_none, List.length_map, yV_undef, gopV_none, Nat.zero_add, Nat.reduceAdd, beq_self_eq_true, bne_self_eq_false, and_self, Bool.true_and, Bool.false_and, Bool.and_true, Bool.and_false, Bool.true_or, Bool.false_or, Bool.or_true, Bool.or_false]
      refine T_api_Place.put B10 (o := 0) (vs := r.pl.cells) rfl (by show 0 + 2 ≤ 5; decide) (by simp [Pl.cells, isCell]) fun h11 B11 u11 => ?_
      have VL11 := ISl.updG VLa o65 u11 (fun b hb => hb)
      have e11 := e10.fresh u11 f65
      simp only [Dm.load (o := 0) (d := ⟨r.pl, d.p1, L⟩) (v := tv) B11 rfl, popO_some, bindH_eq, condV_bool, condV_true, condV_false, yV_bool, gopV_tt, gopV_ff, gopV_tf, gopV_ft, pickV_t, pickV_f, pickV_bool, nilS_ptr, add_eq, sub_eq, mul_eq, lss_eq, leq_eq, gtr_eq, geq_eq, not_eq, minI_eq, maxI_eq, extract_0, extract_1, extract_2, eqlI, neqI, makeFunc_eq, decide_true, decide_false, if_true, if_false, Bool.false_eq_true, Bool.not_true, Bool.not_false, reduceIte, List.getElem?_toArray, List.getElem?_cons_zero, List.getElem?_cons_succ, Option.isSome_none, List.length_map, yV_undef, gopV_none, Nat.zero_add, Nat.reduceAdd, beq_self_eq_true, bne_self_eq_false, and_self, Bool.true_and, Bool.false_and, Bool.and_true, Bool.and_false, Bool.true_or, Bool.false_or, Bool.or_true, Bool.or_false]
      exact out e11 hdef VL11 (oK K5)
    · have n1 : ¬ ((1 : Int) = 0) := by decide
      rw [hc] at lch hdef
      simp only [n1, if_false] at hdef
      simp only [T_api_Record.f2, T_api_Record.f3, Nat.zero_add, lch e10, lpl e10, T_api_Daemon.f0, ixP1, popO_some, bindH_eq, condV_bool, condV_true, condV_false, yV_bool, gopV_tt, gopV_ff, gopV_tf, gopV_ft, pickV_t, pickV_f, pickV_bool, nilS_ptr, add_eq, sub_eq, mul_eq, lss_eq, leq_eq, gtr_eq, geq_eq, not_eq, minI_eq, maxI_eq, extract_0, extract_1, extract_2, eqlI, neqI, makeFunc_eq, decide_true, decide_false, if_true, if_false, Bool.false_eq_true, Bool.not_true, Bool.not_false, reduceIte, List.getElem?_toArray, List.getElem?_cons_zero, List.getElem?_cons_succ, Option.isSome_none, List.length_map, yV_undef, gopV_none, Nat.zero_add, Nat.reduceAdd, beq_self_eq_true, bne_self_eq_false, and_self, Bool.true_and, Bool.false_and, Bool.and_true, Bool.and_false, Bool.true_or, Bool.false_or, Bool.or_true, Bool.or_false]
      refine T_api_Place.put B10 (o := 2) (vs := r.pl.cells) rfl (by show 2 + 2 ≤ 5; decide) (by simp [Pl.cells, isCell]) fun h11 B11 u11 => ?_
      have VL11 := ISl.updG VLa o65 u11 (fun b hb => hb)
      have e11 := e10.fresh u11 f65
      simp only [Dm.load (o := 0) (d := ⟨d.p0, r.pl, L⟩) (v := tv) B11 rfl, popO_some, bindH_eq, condV_bool, condV_true, condV_false, yV_bool, gopV_tt, gopV_ff, gopV_tf, gopV_ft, pickV_t, pickV_f, pickV_bool, nilS_ptr, add_eq, sub_eq, mul_eq, lss_eq, leq_eq, gtr_eq, geq_eq, not_eq, minI_eq, maxI_eq, extract_0, extract_1, extract_2, eqlI, neqI, makeFunc_eq, decide_true, decide_false, if_true, if_false, Bool.false_eq_true, Bool.not_true, Bool.not_false, reduceIte, List.getElem?_toArray, List.getElem?_cons_zero, List.getElem?_cons_succ, Option.isSome_none, List.length_map, yV_undef, gopV_none, Nat.zero_add, Nat.reduceAdd, beq_self_eq_true, bne_self_eq_false, and_self, Bool.true_and, Bool.false_and, Bool.and_true, Bool.and_false, Bool.true_or, Bool.false_or, Bool.or_true, Bool.or_false]
      exact out e11 hdef VL11 (oK K5)
theorem RecordSteps_ok {h : PH} {d : Dm} (room : Int) {r : Rc} {v vi vn : Value} (V : ISl h v d.its) (w : d.wf) (VI : ISl h vi r.s.its) (VN : NSl h vn r.ns) (wf : r.wf) {k : Value → PH → Prop} (hk : ∀ h', Ext h h' → k (.bool true) h') :
    CallsH PG id_carracklaw17_RecordSteps #[d.v v, .int .i64 room, r.v vi vn] h k := by
  apply carracklaw17_RecordSteps.call
  unfold carracklaw17_RecordSteps
  intro r1 hr1
  try rw [bindH_eq]
  have u1 : Ext h (h.set r1 (.cells (Value.cells (d.v v)) T_api_Daemon)) := Upd.new hr1
  have B1 : Bx (h.set r1 (.cells (Value.cells (d.v v)) T_api_Daemon)) r1 (d.cells v) := Bx.new
  generalize h.set r1 (.cells (Value.cells (d.v v)) T_api_Daemon) = h1 at *
  intro r3 hr3
  try rw [bindH_eq]
  have u3 : Ext h1 (h1.set r3 (.cells (Value.cells (r.v vi vn)) T_api_Record)) := Upd.new hr3
  have B3 : Bx (h1.set r3 (.cells (Value.cells (r.v vi vn)) T_api_Record)) r3 (r.cells vi vn) := Bx.new
  have B13 := B1.ext u3
  generalize h1.set r3 (.cells (Value.cells (r.v vi vn)) T_api_Record) = h3 at *
  have e3 := u1.trans u3
  have ld : ∀ {h' : PH}, Ext h3 h' → SemE PG h' (Instr.loadAt T_api_Daemon (.pointer (some ⟨r1, 0, none⟩))) = some (d.v v) := fun u => Dm.load (o := 0) (B13.ext u) rfl
  have lr : ∀ {h' : PH}, Ext h3 h' → SemE PG h' (Instr.loadAt T_api_Record (.pointer (some ⟨r3, 0, none⟩))) = some (r.v vi vn) := fun u => T_api_Record.agg (B3.ext u) (by show 0 + 10 ≤ 10; decide)
  refine rawake_ok fun h4 u4 => ?_
  simp only [lr u4, popO_some, bindH_eq, condV_bool, condV_true, condV_false, yV_bool, gopV_tt, gopV_ff, gopV_tf, gopV_ft, pickV_t, pickV_f, pickV_bool, nilS_ptr, add_eq, sub_eq, mul_eq, lss_eq, leq_eq, gtr_eq, geq_eq, not_eq, minI_eq, maxI_eq, extract_0, extract_1, extract_2, eqlI, neqI, makeFunc_eq, decide_true, decide_false, if_true, if_false, Bool.false_eq_true, Bool.not_true, Bool.not_false, reduceIte, List.getElem?_toArray, List.getElem?_cons_zero, List.getElem?_cons_succ, Option.isSome_none, List.length_map, yV_undef, gopV_none, Nat.zero_add, Nat.reduceAdd, beq_self_eq_true, bne_self_eq_false, and_self, Bool.true_and, Bool.false_and, Bool.and_true, Bool.and_false, Bool.true_or, Bool.false_or, Bool.or_true, Bool.or_false]
  refine rfew_ok (VI.ext (e3.trans u4)) (VN.ext (e3.trans u4)) fun h5 b hb u5 => ?_
  have e5 := u4.trans u5
  cases b with
  | false =>
    simp only [popO_some, bindH_eq, condV_bool, condV_true, condV_false, yV_bool, gopV_tt, gopV_ff, gopV_tf, gopV_ft, pickV_t, pickV_f, pickV_bool, nilS_ptr, add_eq, sub_eq, mul_eq, lss_eq, leq_eq, gtr_eq, geq_eq, not_eq, minI_eq, maxI_eq, extract_0, extract_1, extract_2, eqlI, neqI, makeFunc_eq, decide_true, decide_false, if_true, if_false, Bool.false_eq_true, Bool.not_true, Bool.not_false, reduceIte, List.getElem?_toArray, List.getElem?_cons_zero, List.getElem?_cons_succ, Option.isSome_none, List.length_map, yV_undef, gopV_none, Nat.zero_add, Nat.reduceAdd, beq_self_eq_true, bne_self_eq_false, and_self, Bool.true_and, Bool.false_and, Bool.and_true, Bool.and_false, Bool.true_or, Bool.false_or, Bool.or_true, Bool.or_false]
    exact hk _ (e3.trans e5)
  | true =>
    obtain ⟨f1, f2⟩ := hb rfl
    obtain ⟨a, c, ev, -⟩ := V.here
    have hb2 : SemP PG (Instr.build T_api_Record #[(1, d.v v)]) = some (Rc.v ⟨0, d, 0, Pl.zero, []⟩ v (.slice none 0 0)) := by rw [ev]; exact rc_buildS _ _ _ _
    simp only [ld e5, hb2, popO_some, bindH_eq, condV_bool, condV_true, condV_false, yV_bool, gopV_tt, gopV_ff, gopV_tf, gopV_ft, pickV_t, pickV_f, pickV_bool, nilS_ptr, add_eq, sub_eq, mul_eq, lss_eq, leq_eq, gtr_eq, geq_eq, not_eq, minI_eq, maxI_eq, extract_0, extract_1, extract_2, eqlI, neqI, makeFunc_eq, decide_true, decide_false, if_true, if_false, Bool.false_eq_true, Bool.not_true, Bool.not_false, reduceIte, List.getElem?_toArray, List.getElem?_cons_zero, List.getElem?_cons_succ, Option.isSome_none, List.length_map, yV_undef, gopV_none, Nat.zero_add, Nat.reduceAdd, beq_self_eq_true, bne_self_eq_false, and_self, Bool.true_and, Bool.false_and, Bool.and_true, Bool.and_false, Bool.true_or, Bool.false_or, Bool.or_true, Bool.or_false]
    refine rfew_ok (r := ⟨0, d, 0, Pl.zero, []⟩) (V.ext (e3.trans e5)) nilN fun h6 b hb u6 => ?_
    have e6 := e5.trans u6
    cases b with
    | false =>
      simp only [popO_some, bindH_eq, condV_bool, condV_true, condV_false, yV_bool, gopV_tt, gopV_ff, gopV_tf, gopV_ft, pickV_t, pickV_f, pickV_bool, nilS_ptr, add_eq, sub_eq, mul_eq, lss_eq, leq_eq, gtr_eq, geq_eq, not_eq, minI_eq, maxI_eq, extract_0, extract_1, extract_2, eqlI, neqI, makeFunc_eq, decide_true, decide_false, if_true, if_false, Bool.false_eq_true, Bool.not_true, Bool.not_false, reduceIte, List.getElem?_toArray, List.getElem?_cons_zero, List.getElem?_cons_succ, Option.isSome_none, List.length_map, yV_undef, gopV_none, Nat.zero_add, Nat.reduceAdd, beq_self_eq_true, bne_self_eq_false, and_self, Bool.true_and, Bool.false_and, Bool.and_true, Bool.and_false, Bool.true_or, Bool.false_or, Bool.or_true, Bool.or_false]
      exact hk _ (e3.trans e6)
    | true =>
      obtain ⟨-, g2⟩ := hb rfl
      have g2' : d.its.length ≤ 300 := g2
      simp only [ld e6, lr e6, popO_some, bindH_eq, condV_bool, condV_true, condV_false, yV_bool, gopV_tt, gopV_ff, gopV_tf, gopV_ft, pickV_t, pickV_f, pickV_bool, nilS_ptr, add_eq, sub_eq, mul_eq, lss_eq, leq_eq, gtr_eq, geq_eq, not_eq, minI_eq, maxI_eq, extract_0, extract_1, extract_2, eqlI, neqI, makeFunc_eq, decide_true, decide_false, if_true, if_false, Bool.false_eq_true, Bool.not_true, Bool.not_false, reduceIte, List.getElem?_toArray, List.getElem?_cons_zero, List.getElem?_cons_succ, Option.isSome_none, List.length_map, yV_undef, gopV_none, Nat.zero_add, Nat.reduceAdd, beq_self_eq_true, bne_self_eq_false, and_self, Bool.true_and, Bool.false_and, Bool.and_true, Bool.and_false, Bool.true_or, Bool.false_or, Bool.or_true, Bool.or_false]
      refine step_ok (V.ext (e3.trans e6)) (VI.ext (e3.trans e6)) (VN.ext (e3.trans e6)) wf (by omega) fun h7 v1 V7 _ u7 => ?_
      have e7 := e6.trans u7
      have hlen := stp_len (d := d) (room := room) (r := r)
      simp only [popO_some, bindH_eq, condV_bool, condV_true, condV_false, yV_bool, gopV_tt, gopV_ff, gopV_tf, gopV_ft, pickV_t, pickV_f, pickV_bool, nilS_ptr, add_eq, sub_eq, mul_eq, lss_eq, leq_eq, gtr_eq, geq_eq, not_eq, minI_eq, maxI_eq, extract_0, extract_1, extract_2, eqlI, neqI, makeFunc_eq, decide_true, decide_false, if_true, if_false, Bool.false_eq_true, Bool.not_true, Bool.not_false, reduceIte, List.getElem?_toArray, List.getElem?_cons_zero, List.getElem?_cons_succ, Option.isSome_none, List.length_map, yV_undef, gopV_none, Nat.zero_add, Nat.reduceAdd, beq_self_eq_true, bne_self_eq_false, and_self, Bool.true_and, Bool.false_and, Bool.and_true, Bool.and_false, Bool.true_or, Bool.false_or, Bool.or_true, Bool.or_false]
      intro r36 hr36
      try rw [bindH_eq]
      refine T_api_Daemon.fill hr36 rfl (Dm.isC _ V7.isc) fun h8 B8 u8 => ?_
      have e8 := e7.trans u8
      have V8 := V7.ext u8
      have l8 : ∀ {h' : PH}, Ext h8 h' → SemE PG h' (Instr.loadAt T_api_Daemon (.pointer (some ⟨r36, 0, none⟩))) = some ((stp d room r).1.v v1) := fun u => Dm.load (o := 0) (B8.ext u) rfl
      simp only [ld e8, lr e8, popO_some, bindH_eq, condV_bool, condV_true, condV_false, yV_bool, gopV_tt, gopV_ff, gopV_tf, gopV_ft, pickV_t, pickV_f, pickV_bool, nilS_ptr, add_eq, sub_eq, mul_eq, lss_eq, leq_eq, gtr_eq, geq_eq, not_eq, minI_eq, maxI_eq, extract_0, extract_1, extract_2, eqlI, neqI, makeFunc_eq, decide_true, decide_false, if_true, if_false, Bool.false_eq_true, Bool.not_true, Bool.not_false, reduceIte, List.getElem?_toArray, List.getElem?_cons_zero, List.getElem?_cons_succ, Option.isSome_none, List.length_map, yV_undef, gopV_none, Nat.zero_add, Nat.reduceAdd, beq_self_eq_true, bne_self_eq_false, and_self, Bool.true_and, Bool.false_and, Bool.and_true, Bool.and_false, Bool.true_or, Bool.false_or, Bool.or_true, Bool.or_false]
      refine RStep_ok (V.ext (e3.trans e8)) w (by omega) (VI.ext (e3.trans e8)) (VN.ext (e3.trans e8)) wf (by omega) (by omega) fun h9 v2 V9 u9 => ?_
      have e9 := e8.trans u9
      simp only [popO_some, bindH_eq, condV_bool, condV_true, condV_false, yV_bool, gopV_tt, gopV_ff, gopV_tf, gopV_ft, pickV_t, pickV_f, pickV_bool, nilS_ptr, add_eq, sub_eq, mul_eq, lss_eq, leq_eq, gtr_eq, geq_eq, not_eq, minI_eq, maxI_eq, extract_0, extract_1, extract_2, eqlI, neqI, makeFunc_eq, decide_true, decide_false, if_true, if_false, Bool.false_eq_true, Bool.not_true, Bool.not_false, reduceIte, List.getElem?_toArray, List.getElem?_cons_zero, List.getElem?_cons_succ, Option.isSome_none, List.length_map, yV_undef, gopV_none, Nat.zero_add, Nat.reduceAdd, beq_self_eq_true, bne_self_eq_false, and_self, Bool.true_and, Bool.false_and, Bool.and_true, Bool.and_false, Bool.true_or, Bool.false_or, Bool.or_true, Bool.or_false]
      intro r46 hr46
      try rw [bindH_eq]
      refine T_api_Daemon.fill hr46 rfl (Dm.isC _ V9.isc) fun h10 B10 u10 => ?_
      have e10 := e9.trans u10
      have l10 : ∀ {h' : PH}, Ext h10 h' → SemE PG h' (Instr.loadAt T_api_Daemon (.pointer (some ⟨r46, 0, none⟩))) = some ((stp d room r).1.v v2) := fun u => Dm.load (o := 0) (B10.ext u) rfl
      simp only [l8 (u9.trans u10), l10 Upd.refl, popO_some, bindH_eq, condV_bool, condV_true, condV_false, yV_bool, gopV_tt, gopV_ff, gopV_tf, gopV_ft, pickV_t, pickV_f, pickV_bool, nilS_ptr, add_eq, sub_eq, mul_eq, lss_eq, leq_eq, gtr_eq, geq_eq, not_eq, minI_eq, maxI_eq, extract_0, extract_1, extract_2, eqlI, neqI, makeFunc_eq, decide_true, decide_false, if_true, if_false, Bool.false_eq_true, Bool.not_true, Bool.not_false, reduceIte, List.getElem?_toArray, List.getElem?_cons_zero, List.getElem?_cons_succ, Option.isSome_none, List.length_map, yV_undef, gopV_none, Nat.zero_add, Nat.reduceAdd, beq_self_eq_true, bne_self_eq_false, and_self, Bool.true_and, Bool.false_and, Bool.and_true, Bool.and_false, Bool.true_or, Bool.false_or, Bool.or_true, Bool.or_false]
      refine sameState_ok (V8.ext (u9.trans u10)) (V9.ext u10) (by omega) fun h11 u11 => ?_
      have e11 := e10.trans u11
      have q : ((stp d room r).2 == (stp d room r).2) = true := by simp
      simp only [decide_true, eqlI, q, ld e11, popO_some, bindH_eq, condV_bool, condV_true, condV_false, yV_bool, gopV_tt, gopV_ff, gopV_tf, gopV_ft, pickV_t, pickV_f, pickV_bool, nilS_ptr, add_eq, sub_eq, mul_eq, lss_eq, leq_eq, gtr_eq, geq_eq, not_eq, minI_eq, maxI_eq, extract_0, extract_1, extract_2, eqlI, neqI, makeFunc_eq, decide_true, decide_false, if_true, if_false, Bool.false_eq_true, Bool.not_true, Bool.not_false, reduceIte, List.getElem?_toArray, List.getElem?_cons_zero, List.getElem?_cons_succ, Option.isSome_none, List.length_map, yV_undef, gopV_none, Nat.zero_add, Nat.reduceAdd, beq_self_eq_true, bne_self_eq_false, and_self, Bool.true_and, Bool.false_and, Bool.and_true, Bool.and_false, Bool.true_or, Bool.false_or, Bool.or_true, Bool.or_false]
      refine check_ok (V.ext (e3.trans e11)) (by omega) fun h12 u12 => ?_
      have e12 := e11.trans u12
      have q2 : (chk d room == chk d room) = true := by simp
      simp only [ld e12, eq_self, implies_true, true_and, popO_some, bindH_eq, condV_bool, condV_true, condV_false, yV_bool, gopV_tt, gopV_ff, gopV_tf, gopV_ft, pickV_t, pickV_f, pickV_bool, nilS_ptr, add_eq, sub_eq, mul_eq, lss_eq, leq_eq, gtr_eq, geq_eq, not_eq, minI_eq, maxI_eq, extract_0, extract_1, extract_2, eqlI, neqI, makeFunc_eq, decide_true, decide_false, if_true, if_false, Bool.false_eq_true, Bool.not_true, Bool.not_false, reduceIte, List.getElem?_toArray, List.getElem?_cons_zero, List.getElem?_cons_succ, Option.isSome_none, List.length_map, yV_undef, gopV_none, Nat.zero_add, Nat.reduceAdd, beq_self_eq_true, bne_self_eq_false, and_self, Bool.true_and, Bool.false_and, Bool.and_true, Bool.and_false, Bool.true_or, Bool.false_or, Bool.or_true, Bool.or_false]
      refine RCheck_ok (V.ext (e3.trans e12)) (by omega) w fun h13 u13 => ?_
      simp only [eqlI, q2, popO_some, bindH_eq, condV_bool, condV_true, condV_false, yV_bool, gopV_tt, gopV_ff, gopV_tf, gopV_ft, pickV_t, pickV_f, pickV_bool, nilS_ptr, add_eq, sub_eq, mul_eq, lss_eq, leq_eq, gtr_eq, geq_eq, not_eq, minI_eq, maxI_eq, extract_0, extract_1, extract_2, eqlI, neqI, makeFunc_eq, decide_true, decide_false, if_true, if_false, Bool.false_eq_true, Bool.not_true, Bool.not_false, reduceIte, List.getElem?_toArray, List.getElem?_cons_zero, List.getElem?_cons_succ, Option.isSome_none, List.length_map, yV_undef, gopV_none, Nat.zero_add, Nat.reduceAdd, beq_self_eq_true, bne_self_eq_false, and_self, Bool.true_and, Bool.false_and, Bool.and_true, Bool.and_false, Bool.true_or, Bool.false_or, Bool.or_true, Bool.or_false]
      exact hk _ (e3.trans (e12.trans u13))
end Go.Proofs.YtlkjippiaghbmaaGreat
/- record: the card of RecordSteps. -/
set_option linter.unusedSimpArgs false
set_option linter.unusedVariables false
namespace Go.Proofs.YtlkjippiaghbmaaGreat
open Go
theorem RecordSteps_row {h : PH} (room : Int) {cs0 cs2 : Array Value} {x : Dm × Value} (e0 : cs0.toList = x.1.cells x.2 ∧ ISl h x.2 x.1.its ∧ x.1.wf) {y : Rc × Value × Value} (e2 : cs2.toList = y.1.cells y.2.1 y.2.2 ∧ ISl h y.2.1 y.1.s.its ∧ NSl h y.2.2 y.1.ns ∧ y.1.wf) {k : Value → PH → Prop} (hk : ∀ h', Ext h h' → k (.bool true) h') :
    CallsH PG id_carracklaw17_RecordSteps #[.agg cs0, .int .i64 room, .agg cs2] h k := by
  obtain ⟨ea, V, w⟩ := e0
  obtain ⟨eb, VI, VN, wf⟩ := e2
  obtain rfl : cs0 = (x.1.cells x.2).toArray := by rw [← ea]
  obtain rfl : cs2 = (y.1.cells y.2.1 y.2.2).toArray := by rw [← eb]
  exact RecordSteps_ok room V w VI VN wf hk
end Go.Proofs.YtlkjippiaghbmaaGreat
namespace Go.Proofs.YtlkjippiaghbmaaGreat.recordSteps
open Go Go.ChangeShapes Go.WideShapes Go.ChangeAt Go.RowKit
theorem own : ownKnob Tryz.prog.godebug = none := by kernel_rfl
set_option maxRecDepth 100000 in
theorem lifted (os : Os) (started : os.Started) (H : Type) (enc : TypeId × Value → H) :
    ReturnsInHanded {} Tryz.checked os 3 .any (Rows.recordStepsSpec.pre6 enc Tryz.prog Tryz.f3 Rows.recordStepsRow.domain false) (Rows.recordStepsSpec.post enc Tryz.prog Tryz.f3 false true false false) := by
  refine returnsInHanded_of_change (C := Tryz.checked) own started (by kernel_rfl) Tryz.func3
    (ChangeSpec.witness6 (enc := enc) (C := Tryz.checked) false ⟨#[], #[.agg (Dm.cells Dm.zero (.slice none 0 0)).toArray, .int .i64 0, .agg (Rc.cells Rc.zero (.slice none 0 0) (.slice none 0 0)).toArray], []⟩ 8 (by kernel_rfl) (by kernel_rfl) (by kernel_rfl) (by kernel_rfl)) ?_
  intro W base args ds gs before hval0 hW hcnd _
  have hval : ∀ (j : Nat) t v, Tryz.f3.params[j]? = some t → args[j]? = some v → Value.okWide Tryz.prog W .any base t v := hval0
  have hW' := hW
  obtain ⟨p, q, hA0, hV, rfl, hfz, hnd⟩ := hW
  have hA : DataW.TrodAll enc Tryz.prog W 0 (fun _ => true) true Tryz.f3.params.toList args.toList ds p := hA0
  rw [Tryz.params3] at hA hval
  obtain ⟨v0, vs0, d0, ds0, p0, q0, hargs, rfl, rfl, h0, r0⟩ := trodAll_cons hA
  obtain ⟨v1, vs1, d1, ds1, p1, q1, rfl, rfl, rfl, h1, r1⟩ := trodAll_cons r0
  obtain ⟨v2, vs2, d2, ds2, p2, q2, rfl, rfl, rfl, h2, r2⟩ := trodAll_cons r1
  obtain ⟨rfl, rfl, rfl⟩ := trodAll_nil r2
  obtain rfl : args = #[v0, v1, v2] := by cases args; simp_all
  obtain ⟨rfl, rfl⟩ := trodVars_none hV
  obtain ⟨cs0, rfl, -⟩ := okWide_struct T_api_Daemon.und (hval 0 _ v0 rfl rfl)
  obtain ⟨xs0, e0⟩ := Dm.rd (open_any h0)
  obtain ⟨a1, rfl, rfl, rfl, w1⟩ := open_int Tryz.underlying3 (hval 1 3 v1 rfl rfl) h1
  obtain ⟨cs2, rfl, -⟩ := okWide_struct T_api_Record.und (hval 2 _ v2 rfl rfl)
  obtain ⟨xs2, e2⟩ := Rc.rd_ (open_any h2)
  refine (calls_kept (RecordSteps_row a1 e0 e2 fun h' hx => ⟨rfl, hx⟩)).mono fun e W' ⟨he, hk⟩ => ?_
  subst he
  exact ⟨_, rfl, post_of_kept kidsPG fullPG (by rw [Tryz.params3]; decide +kernel) Tryz.underlying4 (by kernel_rfl) rfl hW' hk rfl rfl rfl⟩
theorem over : Rows.recordStepsRow.holds Tryz.pinned (OpenSpec.ofChange Rows.recordStepsSpec) :=
  OpenClaim.holds_of_wide 3 Tryz.f3 rfl rfl rfl rfl rfl rfl rfl ⟨rfl, rfl, rfl, rfl, rfl⟩ rfl rfl rfl rfl rfl (by kernel_rfl) Tryz.func3 (by kernel_rfl)
    (of_decide_eq_true (by kernel_rfl)) (by unfold Func.isWrapper; first | (rw [if_pos (by decide +kernel)]; kernel_rfl) | (rw [if_neg (by decide +kernel)]; exact ⟨rfl, rfl⟩))
    (fun os started H enc _ => lifted os started H enc)
theorem proved : Rows.RecordStepsSaid :=
  over
#print axioms proved
end Go.Proofs.YtlkjippiaghbmaaGreat.recordSteps
