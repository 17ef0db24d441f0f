/- TablePlays. -/
import Derived.Test.YtdgcpeinkjnncaaTabG
import Derived.Test.YtdgcpeinkjnncaaTabR
set_option maxRecDepth 40000
set_option linter.unusedSimpArgs false
set_option linter.unusedVariables false
namespace Go.Proofs.Ytdgcpeinkjnncaa
open Go

theorem ptrNil {h : PH} {x y : Operand} {a : Nat} : SemE PG h (binS .eql T_p_table_Table x y (.pointer (some ⟨a, 0, none⟩)) (.pointer none)) = some (.bool false) := eqlPtrNil T_p_table_Table.und
theorem ptrNilT {h : PH} {x y : Operand} : SemE PG h (binS .eql T_p_table_Table x y (.pointer none) (.pointer none)) = some (.bool true) := eqlPtrNil T_p_table_Table.und
theorem ptrNe {h : PH} {x y : Operand} {a : Nat} : SemE PG h (binS .neq T_p_table_Table x y (.pointer (some ⟨a, 0, none⟩)) (.pointer none)) = some (.bool true) := neqPtrNil T_p_table_Table.und
theorem neqB {h : PH} {x y : Operand} (a b : Bool) : SemE PG h (binS .neq T_bool x y (.bool a) (.bool b)) = some (.bool (a != b)) := by
  cases a <;> cases b <;> kernel_rfl
theorem TAt.len_le {h : PH} {a : Nat} {L : List It} {room : Int} {F : List Nat} (H : TAt h a L room F) : True := trivial

set_option maxHeartbeats 1000000 in
theorem plays_ok {h : PH} {room f s : Int} {x y : Value} {al : List Ac} {ns : List Nt} (hx : SlR h 6 x (al.map Ac.cells)) (hy : SlR h 5 y (ns.map Nt.cells)) (hwa : ∀ c ∈ al, 0 ≤ c.n.p.s ∧ 0 ≤ c.n.p.t) (hwn : ∀ n ∈ ns, 0 ≤ n.p.s ∧ 0 ≤ n.p.t) {k : Value → PH → Prop}
    (hk : ∀ h', Ext h h' → k (.bool true) h') : CallsH PG id_carracklaw15_TablePlays #[.int .i64 room, x, .int .i64 f, .int .u64 s, y] h k := by
  have lx := hx.len (t' := T_int) T_sl_carrackref15_Act.und
  rw [List.length_map] at lx
  apply carracklaw15_TablePlays.call
  unfold carracklaw15_TablePlays
  refine awake_ok fun h1 u1 => ?_
  by_cases hl : 100 < al.length
  · have d1 : ((100 : Int) < (al.length : Int)) = True := by apply eq_true; omega
    simp only [lx, d1, popO_some, bindH_eq, condV_bool, condV_true, condV_false, yV_bool, gopV_tt, gopV_ff, gopV_tf, gopV_ft, pickV_t, pickV_f, pickV_bool, nilS_ptr, add_eq, sub_eq, mul_eq, lss_eq, leq_eq, gtr_eq, geq_eq, not_eq, minI_eq, maxI_eq, extract_0, extract_1, extract_2, eqlI, neqI, makeFunc_eq, decide_true, decide_false, if_true, if_false, Bool.false_eq_true, Bool.not_true, Bool.not_false, reduceIte, List.getElem?_toArray, List.getElem?_cons_zero, List.getElem?_cons_succ, Option.isSome_none, List.length_map]
    exact hk h1 u1
  have d1 : ((100 : Int) < (al.length : Int)) = False := by apply eq_false; omega
  simp only [lx, d1, popO_some, bindH_eq, condV_bool, condV_true, condV_false, yV_bool, gopV_tt, gopV_ff, gopV_tf, gopV_ft, pickV_t, pickV_f, pickV_bool, nilS_ptr, add_eq, sub_eq, mul_eq, lss_eq, leq_eq, gtr_eq, geq_eq, not_eq, minI_eq, maxI_eq, extract_0, extract_1, extract_2, eqlI, neqI, makeFunc_eq, decide_true, decide_false, if_true, if_false, Bool.false_eq_true, Bool.not_true, Bool.not_false, reduceIte, List.getElem?_toArray, List.getElem?_cons_zero, List.getElem?_cons_succ, Option.isSome_none, List.length_map]
  refine notes_ok (hx.ext u1) (by omega) fun v h2 F2 hO2 f2 u2 => ?_
  refine few_ok hO2.slR fun b _ => ?_
  have w2 := u1.trans u2
  cases b with
  | false => simp only [popO_some, bindH_eq, condV_bool, condV_true, condV_false, yV_bool, gopV_tt, gopV_ff, gopV_tf, gopV_ft, pickV_t, pickV_f, pickV_bool, nilS_ptr, add_eq, sub_eq, mul_eq, lss_eq, leq_eq, gtr_eq, geq_eq, not_eq, minI_eq, maxI_eq, extract_0, extract_1, extract_2, eqlI, neqI, makeFunc_eq, decide_true, decide_false, if_true, if_false, Bool.false_eq_true, Bool.not_true, Bool.not_false, reduceIte, List.getElem?_toArray, List.getElem?_cons_zero, List.getElem?_cons_succ, Option.isSome_none, List.length_map]; exact hk h2 w2
  | true =>
  simp only [popO_some, bindH_eq, condV_bool, condV_true, condV_false, yV_bool, gopV_tt, gopV_ff, gopV_tf, gopV_ft, pickV_t, pickV_f, pickV_bool, nilS_ptr, add_eq, sub_eq, mul_eq, lss_eq, leq_eq, gtr_eq, geq_eq, not_eq, minI_eq, maxI_eq, extract_0, extract_1, extract_2, eqlI, neqI, makeFunc_eq, decide_true, decide_false, if_true, if_false, Bool.false_eq_true, Bool.not_true, Bool.not_false, reduceIte, List.getElem?_toArray, List.getElem?_cons_zero, List.getElem?_cons_succ, Option.isSome_none, List.length_map]
  refine few_ok (hy.ext w2) fun b hb => ?_
  cases b with
  | false => simp only [popO_some, bindH_eq, condV_bool, condV_true, condV_false, yV_bool, gopV_tt, gopV_ff, gopV_tf, gopV_ft, pickV_t, pickV_f, pickV_bool, nilS_ptr, add_eq, sub_eq, mul_eq, lss_eq, leq_eq, gtr_eq, geq_eq, not_eq, minI_eq, maxI_eq, extract_0, extract_1, extract_2, eqlI, neqI, makeFunc_eq, decide_true, decide_false, if_true, if_false, Bool.false_eq_true, Bool.not_true, Bool.not_false, reduceIte, List.getElem?_toArray, List.getElem?_cons_zero, List.getElem?_cons_succ, Option.isSome_none, List.length_map]; exact hk h2 w2
  | true =>
  have hnl := hb rfl
  simp only [popO_some, bindH_eq, condV_bool, condV_true, condV_false, yV_bool, gopV_tt, gopV_ff, gopV_tf, gopV_ft, pickV_t, pickV_f, pickV_bool, nilS_ptr, add_eq, sub_eq, mul_eq, lss_eq, leq_eq, gtr_eq, geq_eq, not_eq, minI_eq, maxI_eq, extract_0, extract_1, extract_2, eqlI, neqI, makeFunc_eq, decide_true, decide_false, if_true, if_false, Bool.false_eq_true, Bool.not_true, Bool.not_false, reduceIte, List.getElem?_toArray, List.getElem?_cons_zero, List.getElem?_cons_succ, Option.isSome_none, List.length_map]
  have z1 : ((1 : Int) == 1) = true := by decide
  have z0 : ((0 : Int) != 0) = false := by decide
  refine New_ok room (fun hbad => ?_) fun g1 g2 a h3 F3 H3 f3 u3 => ?_
  · by_cases d2 : room < 1
    · simp only [d2, z1, ptrNilT, popO_some, bindH_eq, condV_bool, condV_true, condV_false, yV_bool, gopV_tt, gopV_ff, gopV_tf, gopV_ft, pickV_t, pickV_f, pickV_bool, nilS_ptr, add_eq, sub_eq, mul_eq, lss_eq, leq_eq, gtr_eq, geq_eq, not_eq, minI_eq, maxI_eq, extract_0, extract_1, extract_2, eqlI, neqI, makeFunc_eq, decide_true, decide_false, if_true, if_false, Bool.false_eq_true, Bool.not_true, Bool.not_false, reduceIte, List.getElem?_toArray, List.getElem?_cons_zero, List.getElem?_cons_succ, Option.isSome_none, List.length_map]; exact hk h2 w2
    · have d3 : (40 < room) = True := by apply eq_true; omega
      simp only [d2, d3, z1, ptrNilT, popO_some, bindH_eq, condV_bool, condV_true, condV_false, yV_bool, gopV_tt, gopV_ff, gopV_tf, gopV_ft, pickV_t, pickV_f, pickV_bool, nilS_ptr, add_eq, sub_eq, mul_eq, lss_eq, leq_eq, gtr_eq, geq_eq, not_eq, minI_eq, maxI_eq, extract_0, extract_1, extract_2, eqlI, neqI, makeFunc_eq, decide_true, decide_false, if_true, if_false, Bool.false_eq_true, Bool.not_true, Bool.not_false, reduceIte, List.getElem?_toArray, List.getElem?_cons_zero, List.getElem?_cons_succ, Option.isSome_none, List.length_map]; exact hk h2 w2
  have d2 : (room < 1) = False := by apply eq_false; omega
  have d3 : (40 < room) = False := by apply eq_false; omega
  have rb : SemP PG (Instr.build T_carrackref15_Table #[(1, .int .i64 room)]) = some (.agg #[.slice none 0 0, .int .i64 room]) := by kernel_rfl
  simp only [d2, d3, z0, ptrNil, rb, popO_some, bindH_eq, condV_bool, condV_true, condV_false, yV_bool, gopV_tt, gopV_ff, gopV_tf, gopV_ft, pickV_t, pickV_f, pickV_bool, nilS_ptr, add_eq, sub_eq, mul_eq, lss_eq, leq_eq, gtr_eq, geq_eq, not_eq, minI_eq, maxI_eq, extract_0, extract_1, extract_2, eqlI, neqI, makeFunc_eq, decide_true, decide_false, if_true, if_false, Bool.false_eq_true, Bool.not_true, Bool.not_false, reduceIte, List.getElem?_toArray, List.getElem?_cons_zero, List.getElem?_cons_succ, Option.isSome_none, List.length_map]
  intro r hr
  try rw [bindH_eq]
  have w3 := w2.trans u3
  have u4 : Ext h3 (h3.set r (.cells (Value.cells (.agg #[.slice none 0 0, .int .i64 room])) T_carrackref15_Table)) := Upd.new hr
  have R4 : RAt (h3.set r (.cells (Value.cells (.agg #[.slice none 0 0, .int .i64 room])) T_carrackref15_Table)) r [] room [r] := ⟨⟨.slice none 0 0, [], set_same, OwnR.nil, rfl, by simp⟩, List.Pairwise.nil⟩
  have H4 := H3.ext u4
  have fr0 : h r = none := w3.none hr
  have dis : ∀ b ∈ F3, b ∉ [r] := fun b hb => by simp; rintro rfl; exact H3.known b hb hr
  generalize h3.set r (.cells (Value.cells (.agg #[.slice none 0 0, .int .i64 room])) T_carrackref15_Table) = h4 at *
  have f3' : Fresh h F3 := fun b hb => w2.none (f3 b hb)
  refine ⟨fun vs h' => ∃ (i : Nat) (L : List It) (F G : List Nat), i ≤ al.length ∧ vs = [.int .i64 room, x, .int .i64 f, .int .u64 s, y, .pointer (some ⟨a, 0, none⟩), .pointer (some ⟨r, 0, none⟩), .int .i64 i] ∧ TAt h' a L room F ∧ RAt h' r L room G ∧ Fresh h F ∧ Fresh h G ∧ (∀ b ∈ F, b ∉ G) ∧ L.length ≤ room ∧ Ext h h',
    upTo al.length 7, ⟨0, [], F3, [r], by omega, rfl, H4, R4, f3', Fresh.one fr0, dis, by simp; omega, w3.trans u4⟩, ?_⟩
  rintro ρ h' ⟨i, L, F, G, hi, hvs, HT, HR, fF, fG, dj, hLr, w⟩
  simp only [List.map_cons, List.map_nil, List.cons.injEq, and_true] at hvs
  obtain ⟨e0, e1, e2, e3, e4, e5, e6, e7⟩ := hvs
  rw [e0, e1, e2, e3, e4, e5, e6, e7]
  unfold carracklaw15_TablePlays_b72
  by_cases hlt : i < al.length
  · have hd : ((i : Int) < (al.length : Int)) = True := by apply eq_true; omega
    obtain ⟨c, hc⟩ : ∃ m, al[i]? = some m := ⟨_, List.getElem?_eq_getElem hlt⟩
    obtain ⟨hw1, hw2⟩ := hwa c (List.mem_of_getElem? hc)
    obtain ⟨p, p1, p2⟩ := (hx.ext w).ac (k := .i64) hc
    have ei : IntKind.i64.wrap ((i : Int) + 1) = ((i + 1 : Nat) : Int) := by rw [i64_wrap (by omega) (by omega)]; omega
    simp only [lx, hd, p1, p2, popO_some, bindH_eq, condV_bool, condV_true, condV_false, yV_bool, gopV_tt, gopV_ff, gopV_tf, gopV_ft, pickV_t, pickV_f, pickV_bool, nilS_ptr, add_eq, sub_eq, mul_eq, lss_eq, leq_eq, gtr_eq, geq_eq, not_eq, minI_eq, maxI_eq, extract_0, extract_1, extract_2, eqlI, neqI, makeFunc_eq, decide_true, decide_false, if_true, if_false, Bool.false_eq_true, Bool.not_true, Bool.not_false, reduceIte, List.getElem?_toArray, List.getElem?_cons_zero, List.getElem?_cons_succ, Option.isSome_none, List.length_map]
    refine do_ok HT c fun h5 H5 u5 => ?_
    have w5 : Ext h h5 := w.fresh u5 fF
    obtain ⟨p', p1', p2'⟩ := (hx.ext w5).ac (k := .i64) hc
    rw [p1] at p1'; cases p1'
    refine ⟨p2', ?_⟩
    have R5 := HR.upd u5 (fun b hb hm => dj b hm hb)
    refine RAct_ok R5 (by omega) c hw1 hw2 fun h6 G6 R6 u6 g6 => ?_
    have w6 : Ext h h6 := w5.fresh u6 fG
    have H6 := H5.upd u6 dj
    have fG6 : Fresh h G6 := fG.grow w5 g6
    have dj6 : ∀ b ∈ F, b ∉ G6 := fun b hb hm => by
      rcases g6 b hm with h7 | h7
      · exact dj b hb h7
      · exact H5.known b hb h7
    have hLr6 := act_len HT.srt hLr c
    have e8 : (actE L room c != actE L room c) = false := by simp
    obtain ⟨vr, Gr, hr6, hOr, hGr, hnr⟩ := R6.here
    have c0 : cellH h6 ⟨r, 0, none⟩ = some vr := by simp [cellH, hr6]
    simp only [e8, T_carrackref15_Table.f0, T_sl_api_Item.load, c0, popO_some, bindH_eq, condV_bool, condV_true, condV_false, yV_bool, gopV_tt, gopV_ff, gopV_tf, gopV_ft, pickV_t, pickV_f, pickV_bool, nilS_ptr, add_eq, sub_eq, mul_eq, lss_eq, leq_eq, gtr_eq, geq_eq, not_eq, minI_eq, maxI_eq, extract_0, extract_1, extract_2, eqlI, neqI, makeFunc_eq, decide_true, decide_false, if_true, if_false, Bool.false_eq_true, Bool.not_true, Bool.not_false, reduceIte, List.getElem?_toArray, List.getElem?_cons_zero, List.getElem?_cons_succ, Option.isSome_none, List.length_map]
    refine Items_ok H6 (by omega) fun v7 h7 G7 hO7 f7 u7 => ?_
    have c07 : cellH h7 ⟨r, 0, none⟩ = some vr := by simp [cellH, u7.get hr6]
    refine ⟨fun _ => c07, ?_⟩
    try simp only [popO_some, bindH_eq, condV_bool, condV_true, condV_false, yV_bool, gopV_tt, gopV_ff, gopV_tf, gopV_ft, pickV_t, pickV_f, pickV_bool, nilS_ptr, add_eq, sub_eq, mul_eq, lss_eq, leq_eq, gtr_eq, geq_eq, not_eq, minI_eq, maxI_eq, extract_0, extract_1, extract_2, eqlI, neqI, makeFunc_eq, decide_true, decide_false, if_true, if_false, Bool.false_eq_true, Bool.not_true, Bool.not_false, reduceIte, List.getElem?_toArray, List.getElem?_cons_zero, List.getElem?_cons_succ, Option.isSome_none, List.length_map]
    refine Same_ok hO7.slR (hOr.ext u7).slR (by omega) ?_
    have lr := (hOr.ext u7).slR.len (t' := T_int) T_sl_api_Item.und
    rw [List.length_map] at lr
    simp only [T_carrackref15_Table.f0, T_sl_api_Item.load, c07, lr, popO_some, bindH_eq, condV_bool, condV_true, condV_false, yV_bool, gopV_tt, gopV_ff, gopV_tf, gopV_ft, pickV_t, pickV_f, pickV_bool, nilS_ptr, add_eq, sub_eq, mul_eq, lss_eq, leq_eq, gtr_eq, geq_eq, not_eq, minI_eq, maxI_eq, extract_0, extract_1, extract_2, eqlI, neqI, makeFunc_eq, decide_true, decide_false, if_true, if_false, Bool.false_eq_true, Bool.not_true, Bool.not_false, reduceIte, List.getElem?_toArray, List.getElem?_cons_zero, List.getElem?_cons_succ, Option.isSome_none, List.length_map]
    refine Len_ok (H6.ext u7) ?_
    refine ⟨fun _ => c07, ?_⟩
    have e9 : (((actL L room c).length : Int) != ((actL L room c).length : Int)) = false := by simp
    simp only [e9, popO_some, bindH_eq, condV_bool, condV_true, condV_false, yV_bool, gopV_tt, gopV_ff, gopV_tf, gopV_ft, pickV_t, pickV_f, pickV_bool, nilS_ptr, add_eq, sub_eq, mul_eq, lss_eq, leq_eq, gtr_eq, geq_eq, not_eq, minI_eq, maxI_eq, extract_0, extract_1, extract_2, eqlI, neqI, makeFunc_eq, decide_true, decide_false, if_true, if_false, Bool.false_eq_true, Bool.not_true, Bool.not_false, reduceIte, List.getElem?_toArray, List.getElem?_cons_zero, List.getElem?_cons_succ, Option.isSome_none, List.length_map]
    have w7 := w6.trans u7
    refine Get_ok (H6.ext u7) (f, s) fun h8 u8 => ?_
    try simp only [popO_some, bindH_eq, condV_bool, condV_true, condV_false, yV_bool, gopV_tt, gopV_ff, gopV_tf, gopV_ft, pickV_t, pickV_f, pickV_bool, nilS_ptr, add_eq, sub_eq, mul_eq, lss_eq, leq_eq, gtr_eq, geq_eq, not_eq, minI_eq, maxI_eq, extract_0, extract_1, extract_2, eqlI, neqI, makeFunc_eq, decide_true, decide_false, if_true, if_false, Bool.false_eq_true, Bool.not_true, Bool.not_false, reduceIte, List.getElem?_toArray, List.getElem?_cons_zero, List.getElem?_cons_succ, Option.isSome_none, List.length_map]
    intro r9 hr9
    try rw [bindH_eq]
    refine put_it hr9 _ fun h10 b10 u10 => ?_
    have w10 := (w7.trans u8).trans u10
    have U10 := (u7.trans u8).trans u10
    refine RGet_ok (R6.ext U10) (by omega) (f, s) fun h11 u11 => ?_
    try simp only [popO_some, bindH_eq, condV_bool, condV_true, condV_false, yV_bool, gopV_tt, gopV_ff, gopV_tf, gopV_ft, pickV_t, pickV_f, pickV_bool, nilS_ptr, add_eq, sub_eq, mul_eq, lss_eq, leq_eq, gtr_eq, geq_eq, not_eq, minI_eq, maxI_eq, extract_0, extract_1, extract_2, eqlI, neqI, makeFunc_eq, decide_true, decide_false, if_true, if_false, Bool.false_eq_true, Bool.not_true, Bool.not_false, reduceIte, List.getElem?_toArray, List.getElem?_cons_zero, List.getElem?_cons_succ, Option.isSome_none, List.length_map]
    intro r12 hr12
    try rw [bindH_eq]
    refine put_it hr12 _ fun h13 b13 u13 => ?_
    have b10' := (b10.ext u11).ext u13
    have e10 : (!decide (((getL (actL L room c) (f, s)).getD default) = ((getL (actL L room c) (f, s)).getD default))) = false := by simp
    have e11 : ((getL (actL L room c) (f, s)).isSome != (getL (actL L room c) (f, s)).isSome) = false := by simp
    simp only [b10'.it, b13.it, It.neq, e10, neqB, e11, ei, popO_some, bindH_eq, condV_bool, condV_true, condV_false, yV_bool, gopV_tt, gopV_ff, gopV_tf, gopV_ft, pickV_t, pickV_f, pickV_bool, nilS_ptr, add_eq, sub_eq, mul_eq, lss_eq, leq_eq, gtr_eq, geq_eq, not_eq, minI_eq, maxI_eq, extract_0, extract_1, extract_2, eqlI, neqI, makeFunc_eq, decide_true, decide_false, if_true, if_false, Bool.false_eq_true, Bool.not_true, Bool.not_false, reduceIte, List.getElem?_toArray, List.getElem?_cons_zero, List.getElem?_cons_succ, Option.isSome_none, List.length_map]
    have U13 := (U10.trans u11).trans u13
    exact ⟨⟨i + 1, _, F, G6, by omega, rfl, H6.ext U13, R6.ext U13, fF, fG6, dj6, hLr6, w6.trans U13⟩, by simp [upTo, e7]; omega⟩
  · have hd : ((i : Int) < (al.length : Int)) = False := by apply eq_false; omega
    simp only [lx, hd, popO_some, bindH_eq, condV_bool, condV_true, condV_false, yV_bool, gopV_tt, gopV_ff, gopV_tf, gopV_ft, pickV_t, pickV_f, pickV_bool, nilS_ptr, add_eq, sub_eq, mul_eq, lss_eq, leq_eq, gtr_eq, geq_eq, not_eq, minI_eq, maxI_eq, extract_0, extract_1, extract_2, eqlI, neqI, makeFunc_eq, decide_true, decide_false, if_true, if_false, Bool.false_eq_true, Bool.not_true, Bool.not_false, reduceIte, List.getElem?_toArray, List.getElem?_cons_zero, List.getElem?_cons_succ, Option.isSome_none, List.length_map]
    refine Copy_ok HT fun a2 h5 F5 H5 f5 u5 => ?_
    simp only [ptrNe, popO_some, bindH_eq, condV_bool, condV_true, condV_false, yV_bool, gopV_tt, gopV_ff, gopV_tf, gopV_ft, pickV_t, pickV_f, pickV_bool, nilS_ptr, add_eq, sub_eq, mul_eq, lss_eq, leq_eq, gtr_eq, geq_eq, not_eq, minI_eq, maxI_eq, extract_0, extract_1, extract_2, eqlI, neqI, makeFunc_eq, decide_true, decide_false, if_true, if_false, Bool.false_eq_true, Bool.not_true, Bool.not_false, reduceIte, List.getElem?_toArray, List.getElem?_cons_zero, List.getElem?_cons_succ, Option.isSome_none, List.length_map]
    have w5 := w.trans u5
    refine Fit_ok (HT.ext u5) (hy.ext w5) (by omega) fun h6 u6 => ?_
    try simp only [popO_some, bindH_eq, condV_bool, condV_true, condV_false, yV_bool, gopV_tt, gopV_ff, gopV_tf, gopV_ft, pickV_t, pickV_f, pickV_bool, nilS_ptr, add_eq, sub_eq, mul_eq, lss_eq, leq_eq, gtr_eq, geq_eq, not_eq, minI_eq, maxI_eq, extract_0, extract_1, extract_2, eqlI, neqI, makeFunc_eq, decide_true, decide_false, if_true, if_false, Bool.false_eq_true, Bool.not_true, Bool.not_false, reduceIte, List.getElem?_toArray, List.getElem?_cons_zero, List.getElem?_cons_succ, Option.isSome_none, List.length_map]
    have w6 := w5.trans u6
    refine RFit_ok (HR.ext (u5.trans u6)) hLr (by omega) (hy.ext w6) (by omega) hwn fun h7 u7 => ?_
    have w7 := w6.trans u7
    have U7 := (u5.trans u6).trans u7
    have R7 := HR.ext U7
    obtain ⟨vr, Gr, hr7, hOr, hGr, hnr⟩ := R7.here
    have c0 : cellH h7 ⟨r, 0, none⟩ = some vr := by simp [cellH, hr7]
    have e8 : ((fitL room L ns : Int) == (fitL room L ns : Int)) = true := by simp
    simp only [e8, T_carrackref15_Table.f0, T_sl_api_Item.load, c0, popO_some, bindH_eq, condV_bool, condV_true, condV_false, yV_bool, gopV_tt, gopV_ff, gopV_tf, gopV_ft, pickV_t, pickV_f, pickV_bool, nilS_ptr, add_eq, sub_eq, mul_eq, lss_eq, leq_eq, gtr_eq, geq_eq, not_eq, minI_eq, maxI_eq, extract_0, extract_1, extract_2, eqlI, neqI, makeFunc_eq, decide_true, decide_false, if_true, if_false, Bool.false_eq_true, Bool.not_true, Bool.not_false, reduceIte, List.getElem?_toArray, List.getElem?_cons_zero, List.getElem?_cons_succ, Option.isSome_none, List.length_map]
    refine Items_ok (HT.ext U7) (by omega) fun v8 h8 G8 hO8 f8 u8 => ?_
    have c08 : cellH h8 ⟨r, 0, none⟩ = some vr := by simp [cellH, u8.get hr7]
    refine ⟨fun _ => c08, ?_⟩
    try simp only [popO_some, bindH_eq, condV_bool, condV_true, condV_false, yV_bool, gopV_tt, gopV_ff, gopV_tf, gopV_ft, pickV_t, pickV_f, pickV_bool, nilS_ptr, add_eq, sub_eq, mul_eq, lss_eq, leq_eq, gtr_eq, geq_eq, not_eq, minI_eq, maxI_eq, extract_0, extract_1, extract_2, eqlI, neqI, makeFunc_eq, decide_true, decide_false, if_true, if_false, Bool.false_eq_true, Bool.not_true, Bool.not_false, reduceIte, List.getElem?_toArray, List.getElem?_cons_zero, List.getElem?_cons_succ, Option.isSome_none, List.length_map]
    refine Same_ok hO8.slR (hOr.ext u8).slR (by omega) ?_
    simp only [T_carrackref15_Table.f0, T_sl_api_Item.load, c08, popO_some, bindH_eq, condV_bool, condV_true, condV_false, yV_bool, gopV_tt, gopV_ff, gopV_tf, gopV_ft, pickV_t, pickV_f, pickV_bool, nilS_ptr, add_eq, sub_eq, mul_eq, lss_eq, leq_eq, gtr_eq, geq_eq, not_eq, minI_eq, maxI_eq, extract_0, extract_1, extract_2, eqlI, neqI, makeFunc_eq, decide_true, decide_false, if_true, if_false, Bool.false_eq_true, Bool.not_true, Bool.not_false, reduceIte, List.getElem?_toArray, List.getElem?_cons_zero, List.getElem?_cons_succ, Option.isSome_none, List.length_map]
    refine Items_ok (H5.ext ((u6.trans u7).trans u8)) (by omega) fun v9 h9 G9 hO9 f9 u9 => ?_
    have c09 : cellH h9 ⟨r, 0, none⟩ = some vr := by simp [cellH, u9.get (u8.get hr7)]
    refine ⟨fun _ => c09, ?_⟩
    try simp only [popO_some, bindH_eq, condV_bool, condV_true, condV_false, yV_bool, gopV_tt, gopV_ff, gopV_tf, gopV_ft, pickV_t, pickV_f, pickV_bool, nilS_ptr, add_eq, sub_eq, mul_eq, lss_eq, leq_eq, gtr_eq, geq_eq, not_eq, minI_eq, maxI_eq, extract_0, extract_1, extract_2, eqlI, neqI, makeFunc_eq, decide_true, decide_false, if_true, if_false, Bool.false_eq_true, Bool.not_true, Bool.not_false, reduceIte, List.getElem?_toArray, List.getElem?_cons_zero, List.getElem?_cons_succ, Option.isSome_none, List.length_map]
    refine Same_ok hO9.slR ((hOr.ext u8).ext u9).slR (by omega) ?_
    try simp only [popO_some, bindH_eq, condV_bool, condV_true, condV_false, yV_bool, gopV_tt, gopV_ff, gopV_tf, gopV_ft, pickV_t, pickV_f, pickV_bool, nilS_ptr, add_eq, sub_eq, mul_eq, lss_eq, leq_eq, gtr_eq, geq_eq, not_eq, minI_eq, maxI_eq, extract_0, extract_1, extract_2, eqlI, neqI, makeFunc_eq, decide_true, decide_false, if_true, if_false, Bool.false_eq_true, Bool.not_true, Bool.not_false, reduceIte, List.getElem?_toArray, List.getElem?_cons_zero, List.getElem?_cons_succ, Option.isSome_none, List.length_map]
    have er : (room == room) = true := by simp
    refine Room_ok (HT.ext ((U7.trans u8).trans u9)) ?_
    simp only [er, popO_some, bindH_eq, condV_bool, condV_true, condV_false, yV_bool, gopV_tt, gopV_ff, gopV_tf, gopV_ft, pickV_t, pickV_f, pickV_bool, nilS_ptr, add_eq, sub_eq, mul_eq, lss_eq, leq_eq, gtr_eq, geq_eq, not_eq, minI_eq, maxI_eq, extract_0, extract_1, extract_2, eqlI, neqI, makeFunc_eq, decide_true, decide_false, if_true, if_false, Bool.false_eq_true, Bool.not_true, Bool.not_false, reduceIte, List.getElem?_toArray, List.getElem?_cons_zero, List.getElem?_cons_succ, Option.isSome_none, List.length_map]
    refine Room_ok (H5.ext (((u6.trans u7).trans u8).trans u9)) ?_
    simp only [er, popO_some, bindH_eq, condV_bool, condV_true, condV_false, yV_bool, gopV_tt, gopV_ff, gopV_tf, gopV_ft, pickV_t, pickV_f, pickV_bool, nilS_ptr, add_eq, sub_eq, mul_eq, lss_eq, leq_eq, gtr_eq, geq_eq, not_eq, minI_eq, maxI_eq, extract_0, extract_1, extract_2, eqlI, neqI, makeFunc_eq, decide_true, decide_false, if_true, if_false, Bool.false_eq_true, Bool.not_true, Bool.not_false, reduceIte, List.getElem?_toArray, List.getElem?_cons_zero, List.getElem?_cons_succ, Option.isSome_none, List.length_map]
    exact hk h9 ((w7.trans u8).trans u9)
theorem TablePlays_ok {h : PH} {x y : Value} {r1 r2 : List (List Value)} (room : Int) (hx : SlR h 6 x r1) (f s : Int) (hy : SlR h 5 y r2) {al : List Ac} (e1 : r1 = al.map Ac.cells ∧ ∀ c ∈ al, c.n.p.ok) {ns : List Nt} (e2 : r2 = ns.map Nt.cells ∧ ∀ n ∈ ns, n.p.ok)
    {k : Value → PH → Prop} (hk : ∀ h', Ext h h' → k (.bool true) h') : CallsH PG id_carracklaw15_TablePlays #[.int .i64 room, x, .int .i64 f, .int .u64 s, y] h k := by
  obtain ⟨rfl, h1⟩ := e1
  obtain ⟨rfl, h2⟩ := e2
  exact plays_ok hx hy h1 h2 hk
end Go.Proofs.Ytdgcpeinkjnncaa
