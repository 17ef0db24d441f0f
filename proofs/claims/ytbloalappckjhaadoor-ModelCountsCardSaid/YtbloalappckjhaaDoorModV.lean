/- model: counts; the laws ModelTells and ModelCounts. -/
import Derived.Test.YtbloalappckjhaaDoorModU
set_option linter.unusedSimpArgs false
set_option linter.unusedVariables false
namespace Go.Proofs.YtbloalappckjhaaDoor
open Go
def cnts (l : List Ent) : List Value := [.int .i64 (cntL l 0), .int .i64 (cntL l 1), .int .i64 (cntL l 2), .int .i64 (cntL l 3), .int .i64 (cntL l 4)]
theorem cntL_take {l : List Ent} {i : Nat} {m : Ent} (hm : l[i]? = some m) (s : Int) : cntL (l.take (i + 1)) s = cntL (l.take i) s + if m.state = s then 1 else 0 := by
  unfold cntL
  rw [List.take_add_one, hm, List.filter_append, List.length_append]
  by_cases h : m.state = s <;> simp [h]
theorem cntL_le (l : List Ent) (s : Int) : cntL l s ≤ l.length := List.length_filter_le ..
theorem cnts_set {l : List Ent} {i : Nat} {m : Ent} (hm : l[i]? = some m) (hs : 0 ≤ m.state ∧ m.state ≤ 4) : (cnts (l.take i)).toArray.setIfInBounds m.state.toNat (.int .i64 ((cntL (l.take i) m.state + 1 : Nat) : Int)) = (cnts (l.take (i + 1))).toArray := by
  have : m.state = 0 ∨ m.state = 1 ∨ m.state = 2 ∨ m.state = 3 ∨ m.state = 4 := by omega
  rcases this with e | e | e | e | e <;> (unfold cnts; rw [cntL_take hm, cntL_take hm, cntL_take hm, cntL_take hm, cntL_take hm, e]; simp)
theorem cnts_same {l : List Ent} {i : Nat} {m : Ent} (hm : l[i]? = some m) (hs : ¬ (0 ≤ m.state ∧ m.state ≤ 4)) : cnts (l.take (i + 1)) = cnts (l.take i) := by
  unfold cnts
  rw [cntL_take hm, cntL_take hm, cntL_take hm, cntL_take hm, cntL_take hm, if_neg (by omega), if_neg (by omega), if_neg (by omega), if_neg (by omega), if_neg (by omega)]
  simp
theorem cnts_get (l : List Ent) {s : Int} (hs : 0 ≤ s ∧ s ≤ 4) : (cnts l)[s.toNat]? = some (.int .i64 (cntL l s)) := by
  have : s = 0 ∨ s = 1 ∨ s = 2 ∨ s = 3 ∨ s = 4 := by omega
  rcases this with rfl | rfl | rfl | rfl | rfl <;> rfl
theorem cnts_cell (l : List Ent) : ∀ v ∈ (cnts l).toArray.toList, isCell v = true := fun v hv => by
  simp only [cnts, List.mem_cons, List.not_mem_nil, or_false] at hv
  rcases hv with rfl | rfl | rfl | rfl | rfl <;> rfl
/-- Five counts in a block. -/
structure CBox (h : PH) (r : Nat) (l : List Ent) : Prop where
  here : h r = some (.cells (cnts l).toArray T_5_int (0, 0))
theorem CBox.ext {h h' : PH} {r : Nat} {l : List Ent} (H : CBox h r l) (u : Ext h h') : CBox h' r l := ⟨u.get H.here⟩
theorem CBox.load {h : PH} {r : Nat} {l : List Ent} (H : CBox h r l) : SemE PG h (Instr.loadAt T_5_int (.pointer (some ⟨r, 0, none⟩))) = some (.agg (cnts l).toArray) :=
  load_box T_5_int.und rfl T_5_int.info T_5_int.size H.here rfl
theorem CBox.at {h : PH} {r : Nat} {l : List Ent} (H : CBox h r l) {s : Int} (hs : 0 ≤ s ∧ s ≤ 4) : SemP PG (Instr.indexAt T_5_int (.pointer (some ⟨r, 0, none⟩)) (.int .i64 s)) = some (.pointer (some ⟨r, s.toNat, none⟩)) ∧ cellH h ⟨r, s.toNat, none⟩ = some (.int .i64 (cntL l s)) := by
  constructor
  · rw [indexAt_array T_5_int.und T_int.info T_int.size hs.1 (by omega)]
    simp
  · have := cnts_get l hs
    unfold cellH
    simp only [H.here]
    simpa using this
theorem cnts_nil : zcells PG T_5_int = (cnts []).toArray := by rw [T_5_int.zc]; rfl
theorem CBox.step {h : PH} {r i : Nat} {l : List Ent} {m : Ent} (H : CBox h r (l.take i)) (hl : l.length ≤ 1000000) (hm : l[i]? = some m) (hs : 0 ≤ m.state ∧ m.state ≤ 4) {k : Value → PH → Prop} (hk : ∀ h', CBox h' r (l.take (i + 1)) → Upd [r] h h' → k undef h') :
    SemH PG (storeS T_int (.pointer (some ⟨r, m.state.toNat, none⟩)) (.int .i64 (IntKind.i64.wrap ((cntL (l.take i) m.state : Int) + 1)))) h k := by
  have hle := cntL_le (l.take i) m.state
  rw [List.length_take] at hle
  have ew : IntKind.i64.wrap ((cntL (l.take i) m.state : Int) + 1) = ((cntL (l.take i) m.state + 1 : Nat) : Int) := by rw [i64_wrap (by omega) (by omega)]; omega
  rw [ew]
  refine store_cell T_int.und rfl H.here (by show m.state.toNat < 5; omega) rfl T_int.info T_int.size ?_
  rw [cnts_set hm hs]
  exact hk _ ⟨set_same⟩ (Upd.set (by simp))
set_option maxRecDepth 20000 in
theorem Count_ok {h : PH} {x : Value} {l : List Ent} (hx : SlR h 5 x (l.map Ent.cells)) (hl : l.length ≤ 1000000) {k : Value → PH → Prop}
    (hk : ∀ h', Ext h h' → k (.agg (cnts l).toArray) h') : CallsH PG id_model_Count #[x] h k := by
  have lx := hx.len (t' := T_int) T_sl_model_Entry.und
  rw [List.length_map] at lx
  apply model_Count.call
  unfold model_Count
  intro r1 hr1
  rw [bindH_eq]
  intro r3 hr3
  rw [bindH_eq]
  rw [cnts_nil] at *
  have u1 : Ext h (h.set r1 (.cells (cnts []).toArray T_5_int)) := Upd.new hr1
  have b1 : CBox (h.set r1 (.cells (cnts []).toArray T_5_int)) r1 [] := ⟨set_same⟩
  generalize h.set r1 (.cells (cnts []).toArray T_5_int) = h1 at *
  have u3 : Ext h1 (h1.set r3 (.cells (cnts []).toArray T_5_int)) := Upd.new hr3
  have b3 : CBox (h1.set r3 (.cells (cnts []).toArray T_5_int)) r3 [] := ⟨set_same⟩
  have hne : r1 ≠ r3 := ne_new b1.here hr3
  have b1 := b1.ext u3
  have n3 : h r3 = none := u1.none hr3
  generalize h1.set r3 (.cells (cnts []).toArray T_5_int) = h2 at *
  have w := u1.trans u3
  simp only [lx, popO_some, bindH_eq, condV_bool, condV_true, condV_false, yV_bool, gopV_tt, gopV_ff, gopV_tf, gopV_ft, pickV_t, pickV_f, pickV_bool, nilS_ptr, add_eq, sub_eq, mul_eq, lss_eq, leq_eq, gtr_eq, geq_eq, not_eq, minI_eq, maxI_eq, extract_0, extract_1, extract_2, eqlI, neqI, makeFunc_eq, decide_true, decide_false, if_true, if_false, Bool.false_eq_true, Bool.not_true, Bool.not_false, reduceIte, List.getElem?_toArray, List.getElem?_cons_zero, List.getElem?_cons_succ, Option.isSome_none, List.length_map]
  refine ⟨fun vs h' => ∃ i : Nat, i ≤ l.length ∧ vs = [.pointer (some ⟨r1, 0, none⟩), .pointer (some ⟨r3, 0, none⟩), x, .int .i64 l.length, .int .i64 i] ∧ Ext h h' ∧ CBox h' r1 [] ∧ CBox h' r3 (l.take i), upTo l.length 4, ⟨0, by omega, rfl, w, b1, b3⟩, ?_⟩
  rintro ρ h' ⟨i, hi, hvs, w, b1, b3⟩
  simp only [List.map_cons, List.map_nil, List.cons.injEq, and_true] at hvs
  obtain ⟨e0, e1, e2, e3, e5⟩ := hvs
  rw [e0, e1, e2, e3, e5]
  unfold model_Count_b7
  by_cases hlt : i < l.length
  · have hd : ((i : Int) < (l.length : Int)) = True := by apply eq_true; omega
    obtain ⟨m, hm⟩ : ∃ m, l[i]? = some m := ⟨_, List.getElem?_eq_getElem hlt⟩
    obtain ⟨a, a1, a2⟩ := (hx.ext w).ent (k := .i64) hm
    have ei : IntKind.i64.wrap ((i : Int) + 1) = ((i + 1 : Nat) : Int) := by rw [i64_wrap (by omega) (by omega)]; omega
    simp only [hd, a1, a2, popO_some, bindH_eq, condV_bool, condV_true, condV_false, yV_bool, gopV_tt, gopV_ff, gopV_tf, gopV_ft, pickV_t, pickV_f, pickV_bool, nilS_ptr, add_eq, sub_eq, mul_eq, lss_eq, leq_eq, gtr_eq, geq_eq, not_eq, minI_eq, maxI_eq, extract_0, extract_1, extract_2, eqlI, neqI, makeFunc_eq, decide_true, decide_false, if_true, if_false, Bool.false_eq_true, Bool.not_true, Bool.not_false, reduceIte, List.getElem?_toArray, List.getElem?_cons_zero, List.getElem?_cons_succ, Option.isSome_none, List.length_map]
    intro r0 hr0
    refine put_box hr0 m fun h3 B u4 => ?_
    have b1 := b1.ext u4
    have b3 := b3.ext u4
    simp only [T_model_Entry.f1, Nat.zero_add, T_int.load, B.state, popO_some, bindH_eq, condV_bool, condV_true, condV_false, yV_bool, gopV_tt, gopV_ff, gopV_tf, gopV_ft, pickV_t, pickV_f, pickV_bool, nilS_ptr, add_eq, sub_eq, mul_eq, lss_eq, leq_eq, gtr_eq, geq_eq, not_eq, minI_eq, maxI_eq, extract_0, extract_1, extract_2, eqlI, neqI, makeFunc_eq, decide_true, decide_false, if_true, if_false, Bool.false_eq_true, Bool.not_true, Bool.not_false, reduceIte, List.getElem?_toArray, List.getElem?_cons_zero, List.getElem?_cons_succ, Option.isSome_none, List.length_map]
    refine state_ok m.state ?_
    by_cases hs : 0 ≤ m.state ∧ m.state ≤ 4
    · obtain ⟨c1, c2⟩ := b3.at hs
      simp only [stt, hs, and_self, T_int.load, B.state, c1, c2, popO_some, bindH_eq, condV_bool, condV_true, condV_false, yV_bool, gopV_tt, gopV_ff, gopV_tf, gopV_ft, pickV_t, pickV_f, pickV_bool, nilS_ptr, add_eq, sub_eq, mul_eq, lss_eq, leq_eq, gtr_eq, geq_eq, not_eq, minI_eq, maxI_eq, extract_0, extract_1, extract_2, eqlI, neqI, makeFunc_eq, decide_true, decide_false, if_true, if_false, Bool.false_eq_true, Bool.not_true, Bool.not_false, reduceIte, List.getElem?_toArray, List.getElem?_cons_zero, List.getElem?_cons_succ, Option.isSome_none, List.length_map]
      refine b3.step hl hm hs fun h5 b5 u5 => ?_
      unfold model_Count_k27 model_Count_k28
      simp only [ei, popO_some, bindH_eq, condV_bool, condV_true, condV_false, yV_bool, gopV_tt, gopV_ff, gopV_tf, gopV_ft, pickV_t, pickV_f, pickV_bool, nilS_ptr, add_eq, sub_eq, mul_eq, lss_eq, leq_eq, gtr_eq, geq_eq, not_eq, minI_eq, maxI_eq, extract_0, extract_1, extract_2, eqlI, neqI, makeFunc_eq, decide_true, decide_false, if_true, if_false, Bool.false_eq_true, Bool.not_true, Bool.not_false, reduceIte, List.getElem?_toArray, List.getElem?_cons_zero, List.getElem?_cons_succ, Option.isSome_none, List.length_map]
      exact ⟨⟨i + 1, by omega, rfl, (w.trans u4).fresh u5 (Fresh.one n3), ⟨u5.get b1.here (by simp [hne])⟩, b5⟩, by simp [upTo, e5]; omega⟩
    · simp only [stt, hs, popO_some, bindH_eq, condV_bool, condV_true, condV_false, yV_bool, gopV_tt, gopV_ff, gopV_tf, gopV_ft, pickV_t, pickV_f, pickV_bool, nilS_ptr, add_eq, sub_eq, mul_eq, lss_eq, leq_eq, gtr_eq, geq_eq, not_eq, minI_eq, maxI_eq, extract_0, extract_1, extract_2, eqlI, neqI, makeFunc_eq, decide_true, decide_false, if_true, if_false, Bool.false_eq_true, Bool.not_true, Bool.not_false, reduceIte, List.getElem?_toArray, List.getElem?_cons_zero, List.getElem?_cons_succ, Option.isSome_none, List.length_map]
      unfold model_Count_k27 model_Count_k28
      simp only [ei, popO_some, bindH_eq, condV_bool, condV_true, condV_false, yV_bool, gopV_tt, gopV_ff, gopV_tf, gopV_ft, pickV_t, pickV_f, pickV_bool, nilS_ptr, add_eq, sub_eq, mul_eq, lss_eq, leq_eq, gtr_eq, geq_eq, not_eq, minI_eq, maxI_eq, extract_0, extract_1, extract_2, eqlI, neqI, makeFunc_eq, decide_true, decide_false, if_true, if_false, Bool.false_eq_true, Bool.not_true, Bool.not_false, reduceIte, List.getElem?_toArray, List.getElem?_cons_zero, List.getElem?_cons_succ, Option.isSome_none, List.length_map]
      refine ⟨⟨i + 1, by omega, rfl, w.trans u4, b1, ⟨?_⟩⟩, by simp [upTo, e5]; omega⟩
      rw [cnts_same hm hs]; exact b3.here
  · have hd : ((i : Int) < (l.length : Int)) = False := by apply eq_false; omega
    rw [List.take_of_length_le (by omega)] at b3
    simp only [hd, b3.load, popO_some, bindH_eq, condV_bool, condV_true, condV_false, yV_bool, gopV_tt, gopV_ff, gopV_tf, gopV_ft, pickV_t, pickV_f, pickV_bool, nilS_ptr, add_eq, sub_eq, mul_eq, lss_eq, leq_eq, gtr_eq, geq_eq, not_eq, minI_eq, maxI_eq, extract_0, extract_1, extract_2, eqlI, neqI, makeFunc_eq, decide_true, decide_false, if_true, if_false, Bool.false_eq_true, Bool.not_true, Bool.not_false, reduceIte, List.getElem?_toArray, List.getElem?_cons_zero, List.getElem?_cons_succ, Option.isSome_none, List.length_map]
    refine store_box b1.here T_5_int.info (by show 5 = 5; rfl) (by show 0 < 5; decide) (by rfl) (cnts_cell l) ?_
    rw [load_box T_5_int.und rfl T_5_int.info T_5_int.size set_same rfl]
    simp only [popO_some, bindH_eq, condV_bool, condV_true, condV_false, yV_bool, gopV_tt, gopV_ff, gopV_tf, gopV_ft, pickV_t, pickV_f, pickV_bool, nilS_ptr, add_eq, sub_eq, mul_eq, lss_eq, leq_eq, gtr_eq, geq_eq, not_eq, minI_eq, maxI_eq, extract_0, extract_1, extract_2, eqlI, neqI, makeFunc_eq, decide_true, decide_false, if_true, if_false, Bool.false_eq_true, Bool.not_true, Bool.not_false, reduceIte, List.getElem?_toArray, List.getElem?_cons_zero, List.getElem?_cons_succ, Option.isSome_none, List.length_map]
    exact hk _ (w.fresh (Upd.set (F := [r1]) (by simp)) (Fresh.one hr1))
theorem cnts_neq {h : PH} {x y : Operand} (l : List Ent) : SemE PG h (binS .neq T_5_int x y (.agg (cnts l).toArray) (.agg (cnts l).toArray)) = some (.bool false) := by
  rw [neqStruct (b := true) (by kernel_rfl)]
  · rfl
  · rw [eqIn_array T_5_int.und T_int.info T_int.size (fun _ => true)]
    · rfl
    · intro j hj
      obtain ⟨c, hc⟩ : ∃ c, (cnts l).toArray[j * 1]? = some (.int .i64 c) := by
        have : j = 0 ∨ j = 1 ∨ j = 2 ∨ j = 3 ∨ j = 4 := by omega
        rcases this with rfl | rfl | rfl | rfl | rfl <;> exact ⟨_, rfl⟩
      exact ⟨.int .i64 c, .int .i64 c, part_cell T_int.und rfl hc, part_cell T_int.und rfl hc, by rw [eqIn_int T_int.und]; simp⟩
theorem SlR.pk {h : PH} {x : Value} {xs : List Pkt} (H : SlR h 4 x (xs.map Pkt.cells)) {k : IntKind} {j : Nat} {m : Pkt} (hm : xs[j]? = some m) :
    ∃ a, SemP PG (Instr.indexAt T_sl_api_Packet x (.int k j)) = some (.pointer (some a)) ∧ SemE PG h (Instr.loadAt T_api_Packet (.pointer (some a))) = some (.agg m.cells.toArray) :=
  H.loadAgg T_sl_api_Packet.und T_api_Packet.info T_api_Packet.size T_api_Packet.und rfl (by omega) (by rw [List.getElem?_map, Int.toNat_natCast, hm]; rfl)
theorem five_build : SemP PG (Instr.build T_5_int #[]) = some (.agg (cnts []).toArray) := by kernel_rfl
theorem five_box {h : PH} {r : Nat} (l : List Ent) (hr : h r = none) {k : Value → PH → Prop} (hk : ∀ h', CBox h' r l → Ext h h' → k undef h') :
    SemH PG (storeS T_5_int (.pointer (some ⟨r, 0, none⟩)) (.agg (cnts l).toArray)) (h.set r (.cells (zcells PG T_5_int) T_5_int)) k := by
  refine store_box set_same T_5_int.info (by show 5 = 5; rfl) (by show 0 < 5; decide) (by rw [cnts_nil]; rfl) (cnts_cell l) ?_
  rw [set_set_same]
  exact hk _ ⟨set_same⟩ (Upd.new hr)
set_option maxRecDepth 20000 in
theorem ModelTells_ok {h : PH} (hF : Fol h) (a b : Int) {x y : Value} {was now : List Ent} (hx : SlR h 5 x (was.map Ent.cells)) (hy : SlR h 5 y (now.map Ent.cells)) {k : Value → PH → Prop}
    (hk : ∀ h', Ext h h' → k (.bool true) h') : CallsH PG id_carracklaw22_ModelTells #[.int .i64 a, .int .i64 b, x, y] h k := by
  have lx := hx.len (t' := T_int) T_sl_carrackref22_Entry.und
  have ly := hy.len (t' := T_int) T_sl_carrackref22_Entry.und
  rw [List.length_map] at lx ly
  apply carracklaw22_ModelTells.call
  unfold carracklaw22_ModelTells
  refine awake22_ok hF fun h1 u1 => ?_
  simp only [lx, popO_some, bindH_eq, condV_bool, condV_true, condV_false, yV_bool, gopV_tt, gopV_ff, gopV_tf, gopV_ft, pickV_t, pickV_f, pickV_bool, nilS_ptr, add_eq, sub_eq, mul_eq, lss_eq, leq_eq, gtr_eq, geq_eq, not_eq, minI_eq, maxI_eq, extract_0, extract_1, extract_2, eqlI, neqI, makeFunc_eq, decide_true, decide_false, if_true, if_false, Bool.false_eq_true, Bool.not_true, Bool.not_false, reduceIte, List.getElem?_toArray, List.getElem?_cons_zero, List.getElem?_cons_succ, Option.isSome_none, List.length_map]
  by_cases c1 : (60 : Int) < was.length
  · simp only [c1, popO_some, bindH_eq, condV_bool, condV_true, condV_false, yV_bool, gopV_tt, gopV_ff, gopV_tf, gopV_ft, pickV_t, pickV_f, pickV_bool, nilS_ptr, add_eq, sub_eq, mul_eq, lss_eq, leq_eq, gtr_eq, geq_eq, not_eq, minI_eq, maxI_eq, extract_0, extract_1, extract_2, eqlI, neqI, makeFunc_eq, decide_true, decide_false, if_true, if_false, Bool.false_eq_true, Bool.not_true, Bool.not_false, reduceIte, List.getElem?_toArray, List.getElem?_cons_zero, List.getElem?_cons_succ, Option.isSome_none, List.length_map]
    exact hk _ u1
  by_cases c2 : (60 : Int) < now.length
  · simp only [c1, ly, c2, popO_some, bindH_eq, condV_bool, condV_true, condV_false, yV_bool, gopV_tt, gopV_ff, gopV_tf, gopV_ft, pickV_t, pickV_f, pickV_bool, nilS_ptr, add_eq, sub_eq, mul_eq, lss_eq, leq_eq, gtr_eq, geq_eq, not_eq, minI_eq, maxI_eq, extract_0, extract_1, extract_2, eqlI, neqI, makeFunc_eq, decide_true, decide_false, if_true, if_false, Bool.false_eq_true, Bool.not_true, Bool.not_false, reduceIte, List.getElem?_toArray, List.getElem?_cons_zero, List.getElem?_cons_succ, Option.isSome_none, List.length_map]
    exact hk _ u1
  simp only [c1, ly, c2, popO_some, bindH_eq, condV_bool, condV_true, condV_false, yV_bool, gopV_tt, gopV_ff, gopV_tf, gopV_ft, pickV_t, pickV_f, pickV_bool, nilS_ptr, add_eq, sub_eq, mul_eq, lss_eq, leq_eq, gtr_eq, geq_eq, not_eq, minI_eq, maxI_eq, extract_0, extract_1, extract_2, eqlI, neqI, makeFunc_eq, decide_true, decide_false, if_true, if_false, Bool.false_eq_true, Bool.not_true, Bool.not_false, reduceIte, List.getElem?_toArray, List.getElem?_cons_zero, List.getElem?_cons_succ, Option.isSome_none, List.length_map]
  refine turned_ok (hx.ext u1) (by omega) fun v2 h2 F2 hO2 u2 f2 => ?_
  have w2 := u1.trans u2
  refine turned_ok (hy.ext w2) (by omega) fun v3 h3 F3 hO3 u3 f3 => ?_
  have w3 := w2.trans u3
  refine Follows_ok (hF.ext w3) a b fun h4 u4 => ?_
  have w4 := w3.trans u4
  refine RFollows_ok a b ?_
  simp only [neqB, bne_self_eq_false, popO_some, bindH_eq, condV_bool, condV_true, condV_false, yV_bool, gopV_tt, gopV_ff, gopV_tf, gopV_ft, pickV_t, pickV_f, pickV_bool, nilS_ptr, add_eq, sub_eq, mul_eq, lss_eq, leq_eq, gtr_eq, geq_eq, not_eq, minI_eq, maxI_eq, extract_0, extract_1, extract_2, eqlI, neqI, makeFunc_eq, decide_true, decide_false, if_true, if_false, Bool.false_eq_true, Bool.not_true, Bool.not_false, reduceIte, List.getElem?_toArray, List.getElem?_cons_zero, List.getElem?_cons_succ, Option.isSome_none, List.length_map]
  refine Reached_ok (hF.ext w4) a b fun h5 u5 => ?_
  have w5 := w4.trans u5
  refine RReached_ok a b fun h6 u6 => ?_
  have w6 := w5.trans u6
  simp only [neqB, bne_self_eq_false, popO_some, bindH_eq, condV_bool, condV_true, condV_false, yV_bool, gopV_tt, gopV_ff, gopV_tf, gopV_ft, pickV_t, pickV_f, pickV_bool, nilS_ptr, add_eq, sub_eq, mul_eq, lss_eq, leq_eq, gtr_eq, geq_eq, not_eq, minI_eq, maxI_eq, extract_0, extract_1, extract_2, eqlI, neqI, makeFunc_eq, decide_true, decide_false, if_true, if_false, Bool.false_eq_true, Bool.not_true, Bool.not_false, reduceIte, List.getElem?_toArray, List.getElem?_cons_zero, List.getElem?_cons_succ, Option.isSome_none, List.length_map]
  have x26 := ((u3.trans u4).trans u5).trans u6
  refine Step_ok (hF.ext w6) (hO2.slR.ext x26) (hO3.slR.ext ((u4.trans u5).trans u6)) (by omega) (by omega) fun h7 u7 => ?_
  have w7 := w6.trans u7
  refine RStep_ok (hx.ext w7) (hy.ext w7) (by omega) (by omega) fun h8 u8 => ?_
  have w8 := w7.trans u8
  simp only [neqB, bne_self_eq_false, five_build, popO_some, bindH_eq, condV_bool, condV_true, condV_false, yV_bool, gopV_tt, gopV_ff, gopV_tf, gopV_ft, pickV_t, pickV_f, pickV_bool, nilS_ptr, add_eq, sub_eq, mul_eq, lss_eq, leq_eq, gtr_eq, geq_eq, not_eq, minI_eq, maxI_eq, extract_0, extract_1, extract_2, eqlI, neqI, makeFunc_eq, decide_true, decide_false, if_true, if_false, Bool.false_eq_true, Bool.not_true, Bool.not_false, reduceIte, List.getElem?_toArray, List.getElem?_cons_zero, List.getElem?_cons_succ, Option.isSome_none, List.length_map]
  intro r hr
  refine five_box [] hr fun h9 B9 u9 => ?_
  have w9 := w8.trans u9
  have s9 := hO2.slR.ext (((x26.trans u7).trans u8).trans u9)
  have nr : h r = none := w8.none hr
  have nr2 : h2 r = none := ((x26.trans u7).trans u8).none hr
  have x29 : Ext h2 h9 := ((x26.trans u7).trans u8).trans u9
  refine ⟨fun vs h' => ∃ i : Nat, i ≤ was.length ∧ vs = [x, v2, .pointer (some ⟨r, 0, none⟩), .int .i64 i] ∧ Ext h h' ∧ Ext h2 h' ∧ CBox h' r (was.take i), upTo was.length 3, ⟨0, by omega, rfl, w9, x29, B9⟩, ?_⟩
  rintro ρ h' ⟨i, hi, hvs, w, w', B⟩
  simp only [List.map_cons, List.map_nil, List.cons.injEq, and_true] at hvs
  obtain ⟨e0, e1, e2, e5⟩ := hvs
  rw [e0, e1, e2, e5]
  unfold carracklaw22_ModelTells_b87
  by_cases hlt : i < was.length
  · have hd : ((i : Int) < (was.length : Int)) = True := by apply eq_true; omega
    obtain ⟨m, hm⟩ : ∃ m, was[i]? = some m := ⟨_, List.getElem?_eq_getElem hlt⟩
    obtain ⟨b', o, a1, a2, a3⟩ := (hx.ext w).rent (k := .i64) hm
    have ei : IntKind.i64.wrap ((i : Int) + 1) = ((i + 1 : Nat) : Int) := by rw [i64_wrap (by omega) (by omega)]; omega
    have skip : ¬ (0 ≤ m.state ∧ m.state ≤ 4) → carracklaw22_ModelTells_k108 k (fun vs h'_1 => (∃ i, i ≤ was.length ∧ vs = [x, v2, Value.pointer (some ⟨r, 0, none⟩), Value.int IntKind.i64 ↑i] ∧ Ext h h'_1 ∧ Ext h2 h'_1 ∧ CBox h'_1 r (List.take i was)) ∧ upTo was.length 3 vs h'_1 < upTo was.length 3 (List.map ρ [2, 9, 11, 12]) h') x v2 (.pointer (some ⟨r, 0, none⟩)) (.int .i64 i) h' := by
      intro hs
      unfold carracklaw22_ModelTells_k108 carracklaw22_ModelTells_k109
      simp only [ei, popO_some, bindH_eq, condV_bool, condV_true, condV_false, yV_bool, gopV_tt, gopV_ff, gopV_tf, gopV_ft, pickV_t, pickV_f, pickV_bool, nilS_ptr, add_eq, sub_eq, mul_eq, lss_eq, leq_eq, gtr_eq, geq_eq, not_eq, minI_eq, maxI_eq, extract_0, extract_1, extract_2, eqlI, neqI, makeFunc_eq, decide_true, decide_false, if_true, if_false, Bool.false_eq_true, Bool.not_true, Bool.not_false, reduceIte, List.getElem?_toArray, List.getElem?_cons_zero, List.getElem?_cons_succ, Option.isSome_none, List.length_map]
      refine ⟨⟨i + 1, by omega, rfl, w, w', ⟨?_⟩⟩, by simp [upTo, e5]; omega⟩
      rw [cnts_same hm hs]; exact B.here
    by_cases hs0 : 0 ≤ m.state
    · by_cases hs4 : m.state < 5
      · have hs : 0 ≤ m.state ∧ m.state ≤ 4 := by omega
        obtain ⟨d1, d2⟩ := B.at hs
        simp only [lx, hd, a1, T_carrackref22_Entry.f1, T_int.load, a3, hs0, hs4, d1, d2, popO_some, bindH_eq, condV_bool, condV_true, condV_false, yV_bool, gopV_tt, gopV_ff, gopV_tf, gopV_ft, pickV_t, pickV_f, pickV_bool, nilS_ptr, add_eq, sub_eq, mul_eq, lss_eq, leq_eq, gtr_eq, geq_eq, not_eq, minI_eq, maxI_eq, extract_0, extract_1, extract_2, eqlI, neqI, makeFunc_eq, decide_true, decide_false, if_true, if_false, Bool.false_eq_true, Bool.not_true, Bool.not_false, reduceIte, List.getElem?_toArray, List.getElem?_cons_zero, List.getElem?_cons_succ, Option.isSome_none, List.length_map]
        refine B.step (by omega) hm hs fun h5 b5 u5 => ?_
        unfold carracklaw22_ModelTells_k108 carracklaw22_ModelTells_k109
        simp only [ei, popO_some, bindH_eq, condV_bool, condV_true, condV_false, yV_bool, gopV_tt, gopV_ff, gopV_tf, gopV_ft, pickV_t, pickV_f, pickV_bool, nilS_ptr, add_eq, sub_eq, mul_eq, lss_eq, leq_eq, gtr_eq, geq_eq, not_eq, minI_eq, maxI_eq, extract_0, extract_1, extract_2, eqlI, neqI, makeFunc_eq, decide_true, decide_false, if_true, if_false, Bool.false_eq_true, Bool.not_true, Bool.not_false, reduceIte, List.getElem?_toArray, List.getElem?_cons_zero, List.getElem?_cons_succ, Option.isSome_none, List.length_map]
        exact ⟨⟨i + 1, by omega, rfl, w.fresh u5 (Fresh.one nr), w'.fresh u5 (Fresh.one nr2), b5⟩, by simp [upTo, e5]; omega⟩
      · simp only [lx, hd, a1, T_carrackref22_Entry.f1, T_int.load, a3, hs0, hs4, popO_some, bindH_eq, condV_bool, condV_true, condV_false, yV_bool, gopV_tt, gopV_ff, gopV_tf, gopV_ft, pickV_t, pickV_f, pickV_bool, nilS_ptr, add_eq, sub_eq, mul_eq, lss_eq, leq_eq, gtr_eq, geq_eq, not_eq, minI_eq, maxI_eq, extract_0, extract_1, extract_2, eqlI, neqI, makeFunc_eq, decide_true, decide_false, if_true, if_false, Bool.false_eq_true, Bool.not_true, Bool.not_false, reduceIte, List.getElem?_toArray, List.getElem?_cons_zero, List.getElem?_cons_succ, Option.isSome_none, List.length_map]
        exact skip (by omega)
    · simp only [lx, hd, a1, T_carrackref22_Entry.f1, T_int.load, a3, hs0, popO_some, bindH_eq, condV_bool, condV_true, condV_false, yV_bool, gopV_tt, gopV_ff, gopV_tf, gopV_ft, pickV_t, pickV_f, pickV_bool, nilS_ptr, add_eq, sub_eq, mul_eq, lss_eq, leq_eq, gtr_eq, geq_eq, not_eq, minI_eq, maxI_eq, extract_0, extract_1, extract_2, eqlI, neqI, makeFunc_eq, decide_true, decide_false, if_true, if_false, Bool.false_eq_true, Bool.not_true, Bool.not_false, reduceIte, List.getElem?_toArray, List.getElem?_cons_zero, List.getElem?_cons_succ, Option.isSome_none, List.length_map]
      exact skip (by omega)
  · have hd : ((i : Int) < (was.length : Int)) = False := by apply eq_false; omega
    rw [List.take_of_length_le (by omega)] at B
    simp only [lx, hd, popO_some, bindH_eq, condV_bool, condV_true, condV_false, yV_bool, gopV_tt, gopV_ff, gopV_tf, gopV_ft, pickV_t, pickV_f, pickV_bool, nilS_ptr, add_eq, sub_eq, mul_eq, lss_eq, leq_eq, gtr_eq, geq_eq, not_eq, minI_eq, maxI_eq, extract_0, extract_1, extract_2, eqlI, neqI, makeFunc_eq, decide_true, decide_false, if_true, if_false, Bool.false_eq_true, Bool.not_true, Bool.not_false, reduceIte, List.getElem?_toArray, List.getElem?_cons_zero, List.getElem?_cons_succ, Option.isSome_none, List.length_map]
    refine Open_ok (hO2.slR.ext w') (by omega) fun va ha Fa hOa ua fa => ?_
    refine ROpen_ok (hx.ext (w.trans ua)) (by omega) fun vb hb Fb hOb ub fb => ?_
    have la := (hOa.slR.ext ub).len (t' := T_int) T_sl_api_Packet.und
    have lb := hOb.slR.len (t' := T_int) T_sl_api_Packet.und
    have B2 := (B.ext ua).ext ub
    have wb := (w.trans ua).trans ub
    rw [List.length_map] at la lb
    have en : (((openL was).length : Int) != ((openL was).length : Int)) = false := by simp
    simp only [la, lb, en, B2.load, popO_some, bindH_eq, condV_bool, condV_true, condV_false, yV_bool, gopV_tt, gopV_ff, gopV_tf, gopV_ft, pickV_t, pickV_f, pickV_bool, nilS_ptr, add_eq, sub_eq, mul_eq, lss_eq, leq_eq, gtr_eq, geq_eq, not_eq, minI_eq, maxI_eq, extract_0, extract_1, extract_2, eqlI, neqI, makeFunc_eq, decide_true, decide_false, if_true, if_false, Bool.false_eq_true, Bool.not_true, Bool.not_false, reduceIte, List.getElem?_toArray, List.getElem?_cons_zero, List.getElem?_cons_succ, Option.isSome_none, List.length_map]
    refine Count_ok (hO2.slR.ext ((w'.trans ua).trans ub)) (by omega) fun hc uc => ?_
    have B3 := B2.ext uc
    refine ⟨fun _ => B3.load, ?_⟩
    simp only [cnts_neq, popO_some, bindH_eq, condV_bool, condV_true, condV_false, yV_bool, gopV_tt, gopV_ff, gopV_tf, gopV_ft, pickV_t, pickV_f, pickV_bool, nilS_ptr, add_eq, sub_eq, mul_eq, lss_eq, leq_eq, gtr_eq, geq_eq, not_eq, minI_eq, maxI_eq, extract_0, extract_1, extract_2, eqlI, neqI, makeFunc_eq, decide_true, decide_false, if_true, if_false, Bool.false_eq_true, Bool.not_true, Bool.not_false, reduceIte, List.getElem?_toArray, List.getElem?_cons_zero, List.getElem?_cons_succ, Option.isSome_none, List.length_map]
    have sa := (hOa.slR.ext ub).ext uc
    have sb := hOb.slR.ext uc
    have hol := openL_len was
    refine ⟨fun vs h' => ∃ i : Nat, i ≤ (openL was).length ∧ vs = [va, vb, .int .i64 i] ∧ h' = hc, upTo (openL was).length 2, ⟨0, by omega, rfl, rfl⟩, ?_⟩
    rintro ρ h' ⟨i, hi, hvs, rfl⟩
    simp only [List.map_cons, List.map_nil, List.cons.injEq, and_true] at hvs
    obtain ⟨f0, f1, f2⟩ := hvs
    rw [f0, f1, f2]
    unfold carracklaw22_ModelTells_b136
    by_cases hlt : i < (openL was).length
    · have hd : ((i : Int) < ((openL was).length : Int)) = True := by apply eq_true; omega
      obtain ⟨p, hp⟩ : ∃ p, (openL was)[i]? = some p := ⟨_, List.getElem?_eq_getElem hlt⟩
      obtain ⟨a', g1, g2⟩ := sa.pk (k := .i64) hp
      obtain ⟨b', g3, g4⟩ := sb.pk (k := .i64) hp
      have ei : IntKind.i64.wrap ((i : Int) + 1) = ((i + 1 : Nat) : Int) := by rw [i64_wrap (by omega) (by omega)]; omega
      simp only [la, hd, g1, g2, g3, g4, Pkt.neq, ei, popO_some, bindH_eq, condV_bool, condV_true, condV_false, yV_bool, gopV_tt, gopV_ff, gopV_tf, gopV_ft, pickV_t, pickV_f, pickV_bool, nilS_ptr, add_eq, sub_eq, mul_eq, lss_eq, leq_eq, gtr_eq, geq_eq, not_eq, minI_eq, maxI_eq, extract_0, extract_1, extract_2, eqlI, neqI, makeFunc_eq, decide_true, decide_false, if_true, if_false, Bool.false_eq_true, Bool.not_true, Bool.not_false, reduceIte, List.getElem?_toArray, List.getElem?_cons_zero, List.getElem?_cons_succ, Option.isSome_none, List.length_map]
      exact ⟨⟨i + 1, by omega, rfl, by trivial⟩, by simp [upTo, f2]; omega⟩
    · have hd : ((i : Int) < ((openL was).length : Int)) = False := by apply eq_false; omega
      simp only [la, hd, popO_some, bindH_eq, condV_bool, condV_true, condV_false, yV_bool, gopV_tt, gopV_ff, gopV_tf, gopV_ft, pickV_t, pickV_f, pickV_bool, nilS_ptr, add_eq, sub_eq, mul_eq, lss_eq, leq_eq, gtr_eq, geq_eq, not_eq, minI_eq, maxI_eq, extract_0, extract_1, extract_2, eqlI, neqI, makeFunc_eq, decide_true, decide_false, if_true, if_false, Bool.false_eq_true, Bool.not_true, Bool.not_false, reduceIte, List.getElem?_toArray, List.getElem?_cons_zero, List.getElem?_cons_succ, Option.isSome_none, List.length_map]
      exact hk _ (wb.trans uc)
end Go.Proofs.YtbloalappckjhaaDoor
