/- carrackref20: the document's net, as rules. -/
import Derived.Test.YtbloalappckjhaaNetM
set_option linter.unusedSimpArgs false
set_option linter.unusedVariables false
namespace Go.Proofs.Ytbloalappckjhaa
open Go

structure RefAt (h : PH) (a : Nat) (l : List Msg) (F : List Nat) : Prop where
  here : ∃ v G, h a = some (.cells #[v] T_carrackref20_Net (0, 0)) ∧ OwnR h T_api_Message 8 v (l.map Msg.cells) G ∧ F = a :: G ∧ a ∉ G
theorem RefAt.known {h : PH} {a : Nat} {l : List Msg} {F : List Nat} (H : RefAt h a l F) : ∀ b ∈ F, h b ≠ none := by
  obtain ⟨v, G, ha, hO, rfl, hn⟩ := H
  intro b hb
  rcases List.mem_cons.1 hb with rfl | hb
  · rw [ha]; simp
  · exact hO.known b hb
theorem RefAt.upd {h h' : PH} {a : Nat} {l : List Msg} {F G : List Nat} (H : RefAt h a l F) (u : Upd G h h') (hd : ∀ b ∈ F, b ∉ G) : RefAt h' a l F := by
  obtain ⟨v, G', ha, hO, rfl, hn⟩ := H
  exact ⟨v, G', u.get ha (hd a (by simp)), hO.upd u (fun b hb => hd b (by simp [hb])), rfl, hn⟩
theorem RefAt.ext {h h' : PH} {a : Nat} {l : List Msg} {F : List Nat} (H : RefAt h a l F) (u : Ext h h') : RefAt h' a l F := H.upd u (by simp)
theorem Msg.lit0 : SemA PG (Instr.buildSlice T_sl_api_Message 0 #[]) = some (.cells #[] T_api_Message, fun r => pure (.slice (some ⟨r, 0, none⟩) 0 0)) := by kernel_rfl

/-- append([]Message{}, y...): a copy of one's own. -/
theorem fresh_app {h : PH} {y : Value} {ys : List Msg} (hy : SlR h 8 y (ys.map Msg.cells)) (hl : ys.length ≤ 1000000) {r : Nat} (hr : h r = none) {k : Value → PH → Prop}
    (hk : ∀ v' h' F', OwnR h' T_api_Message 8 v' (ys.map Msg.cells) F' → Ext h h' → Fresh h F' → k v' h') :
    SemH PG (Builtin.append_ #[T_sl_api_Message, T_sl_api_Message] T_sl_api_Message #[.slice (some ⟨r, 0, none⟩) 0 0, y]) (h.set r (.cells #[] T_api_Message)) k := by
  have hO : OwnR (h.set r (.cells #[] T_api_Message)) T_api_Message 8 (.slice (some ⟨r, 0, none⟩) 0 0) [] [r] := OwnR.lit (by intro r hr; cases hr) set_same rfl (by simp) rfl
  refine append_own T_sl_api_Message.und T_sl_api_Message.und T_api_Message.info T_api_Message.size T_api_Message.bytes T_api_Message.zero rfl (by decide) hO (hy.ext (Upd.new hr)) (Msg.isCell _) (by simp; omega) ?_
  intro v' h' F' hO' hU hF' hC
  have w : Ext h (h.set r (.cells #[] T_api_Message)) := Upd.new hr
  exact hk v' h' F' (by simpa using hO') (w.fresh hU (Fresh.one hr)) ((Fresh.one hr).grow w hF')
/-- append(v, y...) to one's own. -/
theorem own_app {h : PH} {v y : Value} {xs ys : List Msg} {F : List Nat} (hO : OwnR h T_api_Message 8 v (xs.map Msg.cells) F) (hy : SlR h 8 y (ys.map Msg.cells)) (hl : xs.length ≤ 1000000) (hl2 : ys.length ≤ 1000000) {k : Value → PH → Prop}
    (hk : ∀ v' h' F', OwnR h' T_api_Message 8 v' ((xs ++ ys).map Msg.cells) F' → Upd F h h' → (∀ b ∈ F', b ∈ F ∨ h b = none) → k v' h') :
    SemH PG (Builtin.append_ #[T_sl_api_Message, T_sl_api_Message] T_sl_api_Message #[v, y]) h k := by
  refine append_own T_sl_api_Message.und T_sl_api_Message.und T_api_Message.info T_api_Message.size T_api_Message.bytes T_api_Message.zero rfl (by decide) hO hy (Msg.isCell _) (by simp; omega) ?_
  intro v' h' F' hO' hU hF' hC
  exact hk v' h' F' (by simpa using hO') hU hF'
theorem RefAt.store {h : PH} {a : Nat} {l l2 : List Msg} {F G : List Nat} {v : Value} (H : RefAt h a l F) (hO : OwnR h T_api_Message 8 v (l2.map Msg.cells) G) (hn : a ∉ G) {k : Value → PH → Prop}
    (hk : ∀ h', RefAt h' a l2 (a :: G) → Upd [a] h h' → k undef h') : SemH PG (storeS T_sl_api_Message (.pointer (some ⟨a, 0, none⟩)) v) h k := by
  obtain ⟨v0, G0, ha, hO0, rfl, hn0⟩ := H
  refine store_cell T_sl_api_Message.und rfl ha (by simp) ?_ T_sl_api_Message.info T_sl_api_Message.size ?_
  · obtain ⟨_, _, rfl, -⟩ := hO.slR.here; rfl
  · exact hk _ ⟨v, G, by simpa using set_same, hO.upd (Upd.set (F := [a]) (by simp)) (fun b hb => by simp; rintro rfl; exact hn hb), rfl, hn⟩ (Upd.set (by simp))

set_option maxRecDepth 20000 in
theorem RefSend_ok {h : PH} {a : Nat} {l xs : List Msg} {F : List Nat} {x : Value} (hR : RefAt h a l F) (hx : ∀ h', Upd [a] h h' → SlR h' 8 x (xs.map Msg.cells)) (hl : l.length ≤ 256)
    {k : Value → PH → Prop} (hk : ∀ h' F', RefAt h' a (l ++ xs.take (256 - l.length)) F' → Upd [a] h h' → (∀ b ∈ F', b ∈ F ∨ h b = none) → k (.int .i64 (min xs.length (256 - l.length) : Nat)) h') :
    CallsH PG id_carrackref20_Net_Send #[.pointer (some ⟨a, 0, none⟩), x] h k := by
  have hsm := (hx h Upd.refl).small
  simp only [List.length_map] at hsm
  apply carrackref20_Net_Send.call
  unfold carrackref20_Net_Send
  refine ⟨fun vs h' => ∃ i : Nat, i ≤ xs.length ∧ l.length + i ≤ 256 ∧ vs = [.pointer (some ⟨a, 0, none⟩), x, .int .i64 i] ∧ Upd [a] h h' ∧ ∃ F', (∀ b ∈ F', b ∈ F ∨ h b = none) ∧ RefAt h' a (l ++ xs.take i) F', upTo xs.length 2, ⟨0, by simp, by omega, rfl, Upd.refl, F, fun b hb => .inl hb, by simpa using hR⟩, ?_⟩
  rintro ρ h1 ⟨i, hi, hi2, hvs, ui, Fi, fi, hRi⟩
  simp only [List.map_cons, List.map_nil, List.cons.injEq, and_true] at hvs
  obtain ⟨e0, e1, e2⟩ := hvs
  rw [e0, e1, e2]
  unfold carrackref20_Net_Send_b2
  have hx1 := hx h1 ui
  by_cases hc : i < xs.length
  · have hd : ((i : Int) < (xs.length : Int)) = True := by simp only [eq_iff_iff, iff_true]; omega
    have hRi' := hRi
    obtain ⟨v, G, ha, hO, rfl, hn⟩ := hRi
    have hle : (l ++ xs.take i).length = l.length + i := by simp; omega
    obtain ⟨va, vc, hv, -⟩ := hO.slR.here
    rw [List.length_map, hle] at hv
    subst hv
    simp only [hx1.len T_sl_api_Message.und, hd, popO_some, bindH_eq, condV_bool, condV_true, condV_false, yV_bool, gopV_tt, gopV_ff, gopV_tf, gopV_ft, pickV_t, pickV_f, pickV_bool, nilS_ptr, add_eq, sub_eq, mul_eq, lss_eq, leq_eq, gtr_eq, geq_eq, not_eq, minI_eq, maxI_eq, extract_0, extract_1, extract_2, eqlI, neqI, makeFunc_eq, decide_true, decide_false, if_true, if_false, Bool.false_eq_true, Bool.not_true, Bool.not_false, reduceIte, List.getElem?_toArray, List.getElem?_cons_zero, List.getElem?_cons_succ, Option.isSome_none, List.length_map]
    simp only [T_carrackref20_Net.f0, T_sl_api_Message.load, cellH, ha, popO_some, bindH_eq, condV_bool, condV_true, condV_false, yV_bool, gopV_tt, gopV_ff, gopV_tf, gopV_ft, pickV_t, pickV_f, pickV_bool, nilS_ptr, add_eq, sub_eq, mul_eq, lss_eq, leq_eq, gtr_eq, geq_eq, not_eq, minI_eq, maxI_eq, extract_0, extract_1, extract_2, eqlI, neqI, makeFunc_eq, decide_true, decide_false, if_true, if_false, Bool.false_eq_true, Bool.not_true, Bool.not_false, reduceIte, List.getElem?_toArray, List.getElem?_cons_zero, List.getElem?_cons_succ, Option.isSome_none, List.length_map]
    simp only [T_sl_api_Message.len, popO_some, bindH_eq, condV_bool, condV_true, condV_false, yV_bool, gopV_tt, gopV_ff, gopV_tf, gopV_ft, pickV_t, pickV_f, pickV_bool, nilS_ptr, add_eq, sub_eq, mul_eq, lss_eq, leq_eq, gtr_eq, geq_eq, not_eq, minI_eq, maxI_eq, extract_0, extract_1, extract_2, eqlI, neqI, makeFunc_eq, decide_true, decide_false, if_true, if_false, Bool.false_eq_true, Bool.not_true, Bool.not_false, reduceIte, List.getElem?_toArray, List.getElem?_cons_zero, List.getElem?_cons_succ, Option.isSome_none, List.length_map]
    rcases Nat.lt_or_ge (l.length + i) 256 with h256 | h256
    · have hd2 : (((l.length + i : Nat) : Int) < 256) = True := by simp only [eq_iff_iff, iff_true]; omega
      obtain ⟨m, hm⟩ : ∃ m, xs[i]? = some m := ⟨_, List.getElem?_eq_getElem hc⟩
      obtain ⟨p, p1, p2⟩ := hx1.msg (k := .i64) (j := (i : Int)) (m := m) (by omega) (by simpa using hm)
      simp only [hd2, p1, p2, Msg.lit0, popO_some, bindH_eq, condV_bool, condV_true, condV_false, yV_bool, gopV_tt, gopV_ff, gopV_tf, gopV_ft, pickV_t, pickV_f, pickV_bool, nilS_ptr, add_eq, sub_eq, mul_eq, lss_eq, leq_eq, gtr_eq, geq_eq, not_eq, minI_eq, maxI_eq, extract_0, extract_1, extract_2, eqlI, neqI, makeFunc_eq, decide_true, decide_false, if_true, if_false, Bool.false_eq_true, Bool.not_true, Bool.not_false, reduceIte, List.getElem?_toArray, List.getElem?_cons_zero, List.getElem?_cons_succ, Option.isSome_none, List.length_map]
      intro r hr
      refine popO_pure ?_
      refine fresh_app hO.slR (by omega) hr fun v2 h2 F2 hO2 u2 f2 => ?_
      have ui2 := ui.trans (u2.upd (F := [a]))
      obtain ⟨p', q1, q2⟩ := (hx h2 ui2).msg (k := .i64) (j := (i : Int)) (m := m) (by omega) (by simpa using hm)
      obtain rfl : p = p' := by rw [p1] at q1; simpa using q1
      refine ⟨q2, ?_⟩
      simp only [Msg.lit1, popO_some, bindH_eq, condV_bool, condV_true, condV_false, yV_bool, gopV_tt, gopV_ff, gopV_tf, gopV_ft, pickV_t, pickV_f, pickV_bool, nilS_ptr, add_eq, sub_eq, mul_eq, lss_eq, leq_eq, gtr_eq, geq_eq, not_eq, minI_eq, maxI_eq, extract_0, extract_1, extract_2, eqlI, neqI, makeFunc_eq, decide_true, decide_false, if_true, if_false, Bool.false_eq_true, Bool.not_true, Bool.not_false, reduceIte, List.getElem?_toArray, List.getElem?_cons_zero, List.getElem?_cons_succ, Option.isSome_none, List.length_map]
      intro r3 hr3
      refine popO_pure ?_
      have u3 : Ext h2 (h2.set r3 (.cells m.cells.toArray T_api_Message)) := Upd.new hr3
      refine own_app (hO2.ext u3) (OwnR.lit (Msg.rows [m]) set_same (by simp) (by decide) (by simp)).slR (by omega) (by simp) fun v4 h4 F4 hO4 u4 k4 => ?_
      have w3 := u2.trans u3
      have w4 := w3.fresh u4 f2
      have f4 := f2.grow w3 k4
      have e5 : IntKind.i64.wrap ((i : Int) + 1) = ((i + 1 : Nat) : Int) := by rw [i64_wrap (by omega) (by unfold maxL at hsm; omega)]; omega
      refine (hRi'.ext w4).store hO4 (fun hm' => by have := f4 a hm'; rw [ha] at this; cases this) fun h5 hR5 u5 => ?_
      simp only [e5, popO_some, bindH_eq, condV_bool, condV_true, condV_false, yV_bool, gopV_tt, gopV_ff, gopV_tf, gopV_ft, pickV_t, pickV_f, pickV_bool, nilS_ptr, add_eq, sub_eq, mul_eq, lss_eq, leq_eq, gtr_eq, geq_eq, not_eq, minI_eq, maxI_eq, extract_0, extract_1, extract_2, eqlI, neqI, makeFunc_eq, decide_true, decide_false, if_true, if_false, Bool.false_eq_true, Bool.not_true, Bool.not_false, reduceIte, List.getElem?_toArray, List.getElem?_cons_zero, List.getElem?_cons_succ, Option.isSome_none, List.length_map]
      have e6 : l ++ xs.take i ++ [m] = l ++ xs.take (i + 1) := by rw [List.append_assoc, List.take_add_one, hm]; rfl
      rw [e6] at hR5
      refine ⟨⟨i + 1, by omega, by omega, rfl, (ui.trans (w4.upd (F := [a]))).trans u5, a :: F4, fun b hb => ?_, hR5⟩, by simp [upTo, e2]; omega⟩
      rcases List.mem_cons.1 hb with rfl | hb
      · exact fi b (by simp)
      · have := f4 b hb
        by_cases hh : h b = none
        · exact .inr hh
        · exfalso
          obtain ⟨o, ho⟩ := Option.ne_none_iff_exists'.1 hh
          by_cases hba : b = a
          · subst hba; rw [ha] at this; cases this
          · rw [ui.get ho (by simpa using hba)] at this; cases this
    · have hd2 : (((l.length + i : Nat) : Int) < 256) = False := by apply eq_false; omega
      simp only [hd2, popO_some, bindH_eq, condV_bool, condV_true, condV_false, yV_bool, gopV_tt, gopV_ff, gopV_tf, gopV_ft, pickV_t, pickV_f, pickV_bool, nilS_ptr, add_eq, sub_eq, mul_eq, lss_eq, leq_eq, gtr_eq, geq_eq, not_eq, minI_eq, maxI_eq, extract_0, extract_1, extract_2, eqlI, neqI, makeFunc_eq, decide_true, decide_false, if_true, if_false, Bool.false_eq_true, Bool.not_true, Bool.not_false, reduceIte, List.getElem?_toArray, List.getElem?_cons_zero, List.getElem?_cons_succ, Option.isSome_none, List.length_map]
      have e6 : 256 - l.length = i := by omega
      rw [e6] at hk
      rw [show min xs.length i = i by omega] at hk
      exact hk _ _ hRi' ui fi
  · have hd : ((i : Int) < (xs.length : Int)) = False := by apply eq_false; omega
    simp only [hx1.len T_sl_api_Message.und, hd, popO_some, bindH_eq, condV_bool, condV_true, condV_false, yV_bool, gopV_tt, gopV_ff, gopV_tf, gopV_ft, pickV_t, pickV_f, pickV_bool, nilS_ptr, add_eq, sub_eq, mul_eq, lss_eq, leq_eq, gtr_eq, geq_eq, not_eq, minI_eq, maxI_eq, extract_0, extract_1, extract_2, eqlI, neqI, makeFunc_eq, decide_true, decide_false, if_true, if_false, Bool.false_eq_true, Bool.not_true, Bool.not_false, reduceIte, List.getElem?_toArray, List.getElem?_cons_zero, List.getElem?_cons_succ, Option.isSome_none, List.length_map]
    have e7 : xs.take (256 - l.length) = xs.take i := by rw [List.take_of_length_le (by omega), List.take_of_length_le (by omega)]
    rw [e7, show min xs.length (256 - l.length) = i by omega] at hk
    exact hk _ _ hRi ui fi

theorem Msg.build0 : SemP PG (Instr.build T_api_Message #[]) = some (.agg Msg.zero.cells.toArray) := T_api_Message.build0
set_option maxRecDepth 20000 in
theorem RefTake_no {h : PH} {a : Nat} {l : List Msg} {F : List Nat} (hR : RefAt h a l F) (j : Int) (hj : ¬ (0 ≤ j ∧ j < l.length)) {k : Value → PH → Prop}
    (hk : ∀ h', Ext h h' → k (.tuple #[.agg Msg.zero.cells.toArray, .int .i64 3]) h') : CallsH PG id_carrackref20_Net_Take #[.pointer (some ⟨a, 0, none⟩), .int .i64 j] h k := by
  apply carrackref20_Net_Take.call
  unfold carrackref20_Net_Take
  intro r hr
  rw [bindH_eq]
  have u1 : Ext h (h.set r (.cells (zcells PG T_api_Message) T_api_Message)) := Upd.new hr
  obtain ⟨v, G, ha, hO, rfl, hn⟩ := hR.ext u1
  obtain ⟨va, vc, hv, -⟩ := hO.slR.here
  rw [List.length_map] at hv
  subst hv
  have tail : ∀ {h2 : PH}, h2 = h.set r (.cells (zcells PG T_api_Message) T_api_Message) → SemH PG (storeS T_api_Message (.pointer (some ⟨r, 0, none⟩)) (.agg Msg.zero.cells.toArray)) h2 fun v32 h33 =>
      popO (SemE PG h33 (Instr.loadAt T_api_Message (Value.pointer (some ⟨r, 0, none⟩)))) fun v34 => k (Value.tuple #[v34, (Value.int IntKind.i64 3)]) h33 := by
    rintro h2 rfl
    refine Msg.box _ set_same rfl ?_
    rw [set_set_same, Msg.unbox _ set_same]
    exact hk _ (Upd.new hr)
  by_cases h0 : j < 0
  · simp only [h0, Msg.build0, popO_some, bindH_eq, condV_bool, condV_true, condV_false, yV_bool, gopV_tt, gopV_ff, gopV_tf, gopV_ft, pickV_t, pickV_f, pickV_bool, nilS_ptr, add_eq, sub_eq, mul_eq, lss_eq, leq_eq, gtr_eq, geq_eq, not_eq, minI_eq, maxI_eq, extract_0, extract_1, extract_2, eqlI, neqI, makeFunc_eq, decide_true, decide_false, if_true, if_false, Bool.false_eq_true, Bool.not_true, Bool.not_false, reduceIte, List.getElem?_toArray, List.getElem?_cons_zero, List.getElem?_cons_succ, Option.isSome_none, List.length_map]
    exact tail rfl
  · have h1 : ((l.length : Int) ≤ j) = True := by apply eq_true; omega
    simp only [h0, T_carrackref20_Net.f0, T_sl_api_Message.load, cellH, ha, T_sl_api_Message.len, h1, Msg.build0, popO_some, bindH_eq, condV_bool, condV_true, condV_false, yV_bool, gopV_tt, gopV_ff, gopV_tf, gopV_ft, pickV_t, pickV_f, pickV_bool, nilS_ptr, add_eq, sub_eq, mul_eq, lss_eq, leq_eq, gtr_eq, geq_eq, not_eq, minI_eq, maxI_eq, extract_0, extract_1, extract_2, eqlI, neqI, makeFunc_eq, decide_true, decide_false, if_true, if_false, Bool.false_eq_true, Bool.not_true, Bool.not_false, reduceIte, List.getElem?_toArray, List.getElem?_cons_zero, List.getElem?_cons_succ, Option.isSome_none, List.length_map]
    exact tail rfl
set_option maxRecDepth 20000 in
theorem RefTake_yes {h : PH} {a : Nat} {l : List Msg} {F : List Nat} (hR : RefAt h a l F) (hl : l.length ≤ 256) {j : Nat} {m : Msg} (hm : l[j]? = some m) {k : Value → PH → Prop}
    (hk : ∀ h' F', RefAt h' a (l.eraseIdx j) F' → Upd [a] h h' → (∀ b ∈ F', b ∈ F ∨ h b = none) → k (.tuple #[.agg m.cells.toArray, .int .i64 0]) h') : CallsH PG id_carrackref20_Net_Take #[.pointer (some ⟨a, 0, none⟩), .int .i64 j] h k := by
  have hj : j < l.length := (List.getElem?_eq_some_iff.1 hm).1
  apply carrackref20_Net_Take.call
  unfold carrackref20_Net_Take
  intro r hr
  rw [bindH_eq]
  have u1 : Ext h (h.set r (.cells (zcells PG T_api_Message) T_api_Message)) := Upd.new hr
  have hr1 : (h.set r (.cells (zcells PG T_api_Message) T_api_Message)) r = some (.cells (zcells PG T_api_Message) T_api_Message) := set_same
  generalize h.set r (.cells (zcells PG T_api_Message) T_api_Message) = h1 at u1 hr1
  have hR1 := hR.ext u1
  obtain ⟨v, G, ha, hO, rfl, hn⟩ := hR1
  have hra : r ≠ a := by
    rintro rfl
    exact hR.known r (by simp) hr
  obtain ⟨va, vc, hv, -⟩ := hO.slR.here
  rw [List.length_map] at hv
  subst hv
  have c0 : ((j : Int) < 0) = False := by apply eq_false; omega
  have c1 : ((l.length : Int) ≤ (j : Int)) = False := by apply eq_false; omega
  obtain ⟨p, p1, p2⟩ := hO.slR.msg (k := .i64) (j := (j : Int)) (m := m) (by omega) (by simpa using hm)
  simp only [c0, T_carrackref20_Net.f0, T_sl_api_Message.load, cellH, ha, T_sl_api_Message.len, c1, p1, p2, popO_some, bindH_eq, condV_bool, condV_true, condV_false, yV_bool, gopV_tt, gopV_ff, gopV_tf, gopV_ft, pickV_t, pickV_f, pickV_bool, nilS_ptr, add_eq, sub_eq, mul_eq, lss_eq, leq_eq, gtr_eq, geq_eq, not_eq, minI_eq, maxI_eq, extract_0, extract_1, extract_2, eqlI, neqI, makeFunc_eq, decide_true, decide_false, if_true, if_false, Bool.false_eq_true, Bool.not_true, Bool.not_false, reduceIte, List.getElem?_toArray, List.getElem?_cons_zero, List.getElem?_cons_succ, Option.isSome_none, List.length_map]
  intro r2 hr2
  refine Msg.box m set_same rfl ?_
  rw [set_set_same]
  have u2 : Ext h1 (h1.set r2 (.cells m.cells.toArray T_api_Message)) := Upd.new hr2
  have hr22 : (h1.set r2 (.cells m.cells.toArray T_api_Message)) r2 = some (.cells m.cells.toArray T_api_Message) := set_same
  generalize h1.set r2 (.cells m.cells.toArray T_api_Message) = h2 at u2 hr22
  have w2 := u1.trans u2
  have hO2 := hO.ext u2
  have ha2 := u2.get ha
  have e1 : IntKind.i64.wrap ((j : Int) + 1) = ((j + 1 : Nat) : Int) := by rw [i64_wrap (by omega) (by omega)]; omega
  obtain ⟨x1, y1, y2, -⟩ := hO2.slR.cut T_sl_api_Message.und T_api_Message.info T_api_Message.size (lo := none) (.inl ⟨rfl, rfl⟩) (.inr ⟨.i64, rfl⟩) (Nat.zero_le _) (show j ≤ _ by simp; omega)
  obtain ⟨x2, z1, z2, -⟩ := hO2.slR.cut T_sl_api_Message.und T_api_Message.info T_api_Message.size (hi := none) (.inr ⟨.i64, rfl⟩) (.inl ⟨rfl, rfl⟩) (show j + 1 ≤ _ by simp; omega) (Nat.le_refl _)
  rw [List.drop_zero, ← List.map_take] at y2
  rw [List.take_of_length_le (Nat.le_refl _), ← List.map_drop] at z2
  simp only [ha2, e1, y1, z1, Msg.lit0, popO_some, bindH_eq, condV_bool, condV_true, condV_false, yV_bool, gopV_tt, gopV_ff, gopV_tf, gopV_ft, pickV_t, pickV_f, pickV_bool, nilS_ptr, add_eq, sub_eq, mul_eq, lss_eq, leq_eq, gtr_eq, geq_eq, not_eq, minI_eq, maxI_eq, extract_0, extract_1, extract_2, eqlI, neqI, makeFunc_eq, decide_true, decide_false, if_true, if_false, Bool.false_eq_true, Bool.not_true, Bool.not_false, reduceIte, List.getElem?_toArray, List.getElem?_cons_zero, List.getElem?_cons_succ, Option.isSome_none, List.length_map]
  intro r3 hr3
  refine popO_pure ?_
  refine fresh_app y2 (by simp; omega) hr3 fun v4 h4 F4 hO4 u4 f4 => ?_
  have ha4 := u4.get ha2
  simp only [T_sl_api_Message.load, cellH, ha4, popO_some, bindH_eq, condV_bool, condV_true, condV_false, yV_bool, gopV_tt, gopV_ff, gopV_tf, gopV_ft, pickV_t, pickV_f, pickV_bool, nilS_ptr, add_eq, sub_eq, mul_eq, lss_eq, leq_eq, gtr_eq, geq_eq, not_eq, minI_eq, maxI_eq, extract_0, extract_1, extract_2, eqlI, neqI, makeFunc_eq, decide_true, decide_false, if_true, if_false, Bool.false_eq_true, Bool.not_true, Bool.not_false, reduceIte, List.getElem?_toArray, List.getElem?_cons_zero, List.getElem?_cons_succ, Option.isSome_none, List.length_map]
  refine ⟨trivial, ?_⟩
  refine own_app hO4 (z2.ext u4) (by simp; omega) (by simp; omega) fun v5 h5 F5 hO5 u5 k5 => ?_
  have w5 := u4.fresh u5 f4
  have f5 := f4.grow u4 k5
  have hR5 : RefAt h5 a l (a :: G) := (((hR.ext u1).ext u2).ext w5)
  refine (RefAt.mk ⟨_, G, (w5.get ha2), hO2.ext w5, rfl, hn⟩ : RefAt h5 a l (a :: G)).store hO5 (fun hm' => by have := f5 a hm'; rw [ha2] at this; cases this) fun h6 hR6 u6 => ?_
  have hr26 := u6.get (w5.get hr22) (by simp; rintro rfl; exact hR.known r2 (by simp) (u1.none hr2))
  have hr6 := u6.get (w5.get (u2.get hr1)) (by simpa using hra)
  simp only [Msg.unbox m hr26, popO_some, bindH_eq, condV_bool, condV_true, condV_false, yV_bool, gopV_tt, gopV_ff, gopV_tf, gopV_ft, pickV_t, pickV_f, pickV_bool, nilS_ptr, add_eq, sub_eq, mul_eq, lss_eq, leq_eq, gtr_eq, geq_eq, not_eq, minI_eq, maxI_eq, extract_0, extract_1, extract_2, eqlI, neqI, makeFunc_eq, decide_true, decide_false, if_true, if_false, Bool.false_eq_true, Bool.not_true, Bool.not_false, reduceIte, List.getElem?_toArray, List.getElem?_cons_zero, List.getElem?_cons_succ, Option.isSome_none, List.length_map]
  refine Msg.box m hr6 (by kernel_rfl) ?_
  have hr7 : (h6.set r (.cells m.cells.toArray T_api_Message)) r = some (.cells m.cells.toArray T_api_Message) := set_same
  simp only [Msg.unbox m hr7, popO_some, bindH_eq, condV_bool, condV_true, condV_false, yV_bool, gopV_tt, gopV_ff, gopV_tf, gopV_ft, pickV_t, pickV_f, pickV_bool, nilS_ptr, add_eq, sub_eq, mul_eq, lss_eq, leq_eq, gtr_eq, geq_eq, not_eq, minI_eq, maxI_eq, extract_0, extract_1, extract_2, eqlI, neqI, makeFunc_eq, decide_true, decide_false, if_true, if_false, Bool.false_eq_true, Bool.not_true, Bool.not_false, reduceIte, List.getElem?_toArray, List.getElem?_cons_zero, List.getElem?_cons_succ, Option.isSome_none, List.length_map]
  have hrk := u2.get hr1
  have hr5 : ∀ b ∈ a :: F5, b ∉ [r] := by
    intro b hb
    rcases List.mem_cons.1 hb with rfl | hb
    · simpa using fun e => hra e.symm
    · simp only [List.mem_singleton]
      rintro rfl
      have := f5 b hb
      rw [hrk] at this; cases this
  have e2 : l.take j ++ l.drop (j + 1) = l.eraseIdx j := (List.eraseIdx_eq_take_drop_succ _ _).symm
  rw [e2] at hR6
  have wa : Upd [a] h h6 := (((u1.trans u2).trans w5).upd (F := [a])).trans u6
  refine hk _ (a :: F5) (hR6.upd (Upd.set (F := [r]) (by simp)) hr5) (wa.then (Upd.set (F := [r]) (by simp)) fun b hb => .inr (by simp at hb; subst hb; exact hr)) fun b hb => ?_
  rcases List.mem_cons.1 hb with rfl | hb
  · exact .inl (by simp)
  · exact .inr (w2.none (f5 b hb))

set_option maxRecDepth 20000 in
theorem RefTwice_no {h : PH} {a : Nat} {l : List Msg} {F : List Nat} (hR : RefAt h a l F) (j : Int) (hj : ¬ (0 ≤ j ∧ j < l.length)) {k : Value → PH → Prop} (hk : k (.int .i64 3) h) :
    CallsH PG id_carrackref20_Net_Twice #[.pointer (some ⟨a, 0, none⟩), .int .i64 j] h k := by
  apply carrackref20_Net_Twice.call
  unfold carrackref20_Net_Twice
  obtain ⟨v, G, ha, hO, rfl, hn⟩ := hR
  obtain ⟨va, vc, hv, -⟩ := hO.slR.here
  rw [List.length_map] at hv
  subst hv
  by_cases h0 : j < 0
  · simp only [h0, popO_some, bindH_eq, condV_bool, condV_true, condV_false, yV_bool, gopV_tt, gopV_ff, gopV_tf, gopV_ft, pickV_t, pickV_f, pickV_bool, nilS_ptr, add_eq, sub_eq, mul_eq, lss_eq, leq_eq, gtr_eq, geq_eq, not_eq, minI_eq, maxI_eq, extract_0, extract_1, extract_2, eqlI, neqI, makeFunc_eq, decide_true, decide_false, if_true, if_false, Bool.false_eq_true, Bool.not_true, Bool.not_false, reduceIte, List.getElem?_toArray, List.getElem?_cons_zero, List.getElem?_cons_succ, Option.isSome_none, List.length_map]
    exact hk
  · have h1 : ((l.length : Int) ≤ j) = True := by apply eq_true; omega
    simp only [h0, T_carrackref20_Net.f0, T_sl_api_Message.load, cellH, ha, T_sl_api_Message.len, h1, popO_some, bindH_eq, condV_bool, condV_true, condV_false, yV_bool, gopV_tt, gopV_ff, gopV_tf, gopV_ft, pickV_t, pickV_f, pickV_bool, nilS_ptr, add_eq, sub_eq, mul_eq, lss_eq, leq_eq, gtr_eq, geq_eq, not_eq, minI_eq, maxI_eq, extract_0, extract_1, extract_2, eqlI, neqI, makeFunc_eq, decide_true, decide_false, if_true, if_false, Bool.false_eq_true, Bool.not_true, Bool.not_false, reduceIte, List.getElem?_toArray, List.getElem?_cons_zero, List.getElem?_cons_succ, Option.isSome_none, List.length_map]
    exact hk
set_option maxRecDepth 20000 in
theorem RefTwice_yes {h : PH} {a : Nat} {l : List Msg} {F : List Nat} (hR : RefAt h a l F) (hl : l.length ≤ 256) {j : Nat} {m : Msg} (hm : l[j]? = some m) {k : Value → PH → Prop}
    (hk : ∀ h' F', RefAt h' a (if l.length = 256 then l else l ++ [m]) F' → Upd [a] h h' → (∀ b ∈ F', b ∈ F ∨ h b = none) → k (.int .i64 (if l.length = 256 then 2 else 0)) h') :
    CallsH PG id_carrackref20_Net_Twice #[.pointer (some ⟨a, 0, none⟩), .int .i64 j] h k := by
  have hj : j < l.length := (List.getElem?_eq_some_iff.1 hm).1
  apply carrackref20_Net_Twice.call
  unfold carrackref20_Net_Twice
  have hR' := hR
  obtain ⟨v, G, ha, hO, rfl, hn⟩ := hR'
  obtain ⟨va, vc, hv, -⟩ := hO.slR.here
  rw [List.length_map] at hv
  subst hv
  have c0 : ((j : Int) < 0) = False := by apply eq_false; omega
  have c1 : ((l.length : Int) ≤ (j : Int)) = False := by apply eq_false; omega
  have e1 : IntKind.i64.wrap ((j : Int) + 1) = ((j + 1 : Nat) : Int) := by rw [i64_wrap (by omega) (by omega)]; omega
  obtain ⟨x1, y1, -, -⟩ := hO.slR.cut T_sl_api_Message.und T_api_Message.info T_api_Message.size (.inr ⟨.i64, rfl⟩) (.inr ⟨.i64, rfl⟩) (show j ≤ j + 1 by omega) (show j + 1 ≤ _ by simp; omega)
  simp only [c0, T_carrackref20_Net.f0, T_sl_api_Message.load, cellH, ha, T_sl_api_Message.len, c1, e1, y1, popO_some, bindH_eq, condV_bool, condV_true, condV_false, yV_bool, gopV_tt, gopV_ff, gopV_tf, gopV_ft, pickV_t, pickV_f, pickV_bool, nilS_ptr, add_eq, sub_eq, mul_eq, lss_eq, leq_eq, gtr_eq, geq_eq, not_eq, minI_eq, maxI_eq, extract_0, extract_1, extract_2, eqlI, neqI, makeFunc_eq, decide_true, decide_false, if_true, if_false, Bool.false_eq_true, Bool.not_true, Bool.not_false, reduceIte, List.getElem?_toArray, List.getElem?_cons_zero, List.getElem?_cons_succ, Option.isSome_none, List.length_map]
  refine RefSend_ok (xs := [m]) hR (fun h' u => ?_) hl fun h2 F2 hR2 u2 k2 => ?_
  · obtain ⟨x2, z1, z2, -⟩ := (hO.upd u (fun b hb => by simp; rintro rfl; exact hn hb)).slR.cut T_sl_api_Message.und T_api_Message.info T_api_Message.size (.inr ⟨.i64, rfl⟩) (.inr ⟨.i64, rfl⟩) (show j ≤ j + 1 by omega) (show j + 1 ≤ _ by simp; omega)
    obtain rfl : x1 = x2 := by rw [y1] at z1; simpa using z1
    have : (((l.map Msg.cells).take (j + 1)).drop j) = [m].map Msg.cells := by
      rw [← List.map_take, ← List.map_drop, List.take_add_one, hm]
      simp [List.drop_append, Nat.min_eq_left (Nat.le_of_lt hj)]
    rwa [this] at z2
  · by_cases h256 : l.length = 256
    · have e : (((min [m].length (256 - l.length) : Nat) : Int) == 0) = true := by simp [h256]
      rw [if_pos h256, if_pos h256] at hk
      simp only [e, popO_some, bindH_eq, condV_bool, condV_true, condV_false, yV_bool, gopV_tt, gopV_ff, gopV_tf, gopV_ft, pickV_t, pickV_f, pickV_bool, nilS_ptr, add_eq, sub_eq, mul_eq, lss_eq, leq_eq, gtr_eq, geq_eq, not_eq, minI_eq, maxI_eq, extract_0, extract_1, extract_2, eqlI, neqI, makeFunc_eq, decide_true, decide_false, if_true, if_false, Bool.false_eq_true, Bool.not_true, Bool.not_false, reduceIte, List.getElem?_toArray, List.getElem?_cons_zero, List.getElem?_cons_succ, Option.isSome_none, List.length_map]
      exact hk _ F2 (by simpa [h256] using hR2) u2 k2
    · have e : (((min [m].length (256 - l.length) : Nat) : Int) == 0) = false := by simp; omega
      rw [if_neg h256, if_neg h256] at hk
      simp only [e, popO_some, bindH_eq, condV_bool, condV_true, condV_false, yV_bool, gopV_tt, gopV_ff, gopV_tf, gopV_ft, pickV_t, pickV_f, pickV_bool, nilS_ptr, add_eq, sub_eq, mul_eq, lss_eq, leq_eq, gtr_eq, geq_eq, not_eq, minI_eq, maxI_eq, extract_0, extract_1, extract_2, eqlI, neqI, makeFunc_eq, decide_true, decide_false, if_true, if_false, Bool.false_eq_true, Bool.not_true, Bool.not_false, reduceIte, List.getElem?_toArray, List.getElem?_cons_zero, List.getElem?_cons_succ, Option.isSome_none, List.length_map]
      refine hk _ F2 ?_ u2 k2
      rwa [List.take_of_length_le (l := [m]) (by simp; omega)] at hR2

theorem mv_ref (l : List Msg) (m : Msg) {j t : Nat} (hj : j < l.length) (ht : t < l.length) : (l.eraseIdx j).take t ++ [m] ++ (l.eraseIdx j).drop t = mv l j t m := by
  apply List.ext_getElem?; intro i
  have hle : (l.eraseIdx j).length = l.length - 1 := List.length_eraseIdx_of_lt hj
  rw [mv_get l m hj ht]
  simp only [List.getElem?_append, List.getElem?_take, List.getElem?_drop, List.length_append, List.length_take, List.length_drop, List.length_cons, List.length_nil, List.getElem?_cons, List.getElem?_nil, List.getElem?_eraseIdx, hle]
  repeat' split
  all_goals first | omega | rfl | (congr 1; omega)
set_option maxRecDepth 20000 in
theorem RefMove_no {h : PH} {a : Nat} {l : List Msg} {F : List Nat} (hR : RefAt h a l F) (j t : Int) (hj : ¬ ((0 ≤ j ∧ j < l.length) ∧ (0 ≤ t ∧ t < l.length))) {k : Value → PH → Prop} (hk : k (.int .i64 3) h) :
    CallsH PG id_carrackref20_Net_Move #[.pointer (some ⟨a, 0, none⟩), .int .i64 j, .int .i64 t] h k := by
  apply carrackref20_Net_Move.call
  unfold carrackref20_Net_Move
  obtain ⟨v, G, ha, hO, rfl, hn⟩ := hR
  obtain ⟨va, vc, hv, -⟩ := hO.slR.here
  rw [List.length_map] at hv
  subst hv
  by_cases h0 : j < 0
  · simp only [h0, popO_some, bindH_eq, condV_bool, condV_true, condV_false, yV_bool, gopV_tt, gopV_ff, gopV_tf, gopV_ft, pickV_t, pickV_f, pickV_bool, nilS_ptr, add_eq, sub_eq, mul_eq, lss_eq, leq_eq, gtr_eq, geq_eq, not_eq, minI_eq, maxI_eq, extract_0, extract_1, extract_2, eqlI, neqI, makeFunc_eq, decide_true, decide_false, if_true, if_false, Bool.false_eq_true, Bool.not_true, Bool.not_false, reduceIte, List.getElem?_toArray, List.getElem?_cons_zero, List.getElem?_cons_succ, Option.isSome_none, List.length_map]
    exact hk
  by_cases h1 : (l.length : Int) ≤ j
  · simp only [h0, T_carrackref20_Net.f0, T_sl_api_Message.load, cellH, ha, T_sl_api_Message.len, h1, popO_some, bindH_eq, condV_bool, condV_true, condV_false, yV_bool, gopV_tt, gopV_ff, gopV_tf, gopV_ft, pickV_t, pickV_f, pickV_bool, nilS_ptr, add_eq, sub_eq, mul_eq, lss_eq, leq_eq, gtr_eq, geq_eq, not_eq, minI_eq, maxI_eq, extract_0, extract_1, extract_2, eqlI, neqI, makeFunc_eq, decide_true, decide_false, if_true, if_false, Bool.false_eq_true, Bool.not_true, Bool.not_false, reduceIte, List.getElem?_toArray, List.getElem?_cons_zero, List.getElem?_cons_succ, Option.isSome_none, List.length_map]
    exact hk
  by_cases h2 : t < 0
  · simp only [h0, T_carrackref20_Net.f0, T_sl_api_Message.load, cellH, ha, T_sl_api_Message.len, h1, h2, popO_some, bindH_eq, condV_bool, condV_true, condV_false, yV_bool, gopV_tt, gopV_ff, gopV_tf, gopV_ft, pickV_t, pickV_f, pickV_bool, nilS_ptr, add_eq, sub_eq, mul_eq, lss_eq, leq_eq, gtr_eq, geq_eq, not_eq, minI_eq, maxI_eq, extract_0, extract_1, extract_2, eqlI, neqI, makeFunc_eq, decide_true, decide_false, if_true, if_false, Bool.false_eq_true, Bool.not_true, Bool.not_false, reduceIte, List.getElem?_toArray, List.getElem?_cons_zero, List.getElem?_cons_succ, Option.isSome_none, List.length_map]
    exact hk
  have h3 : ((l.length : Int) ≤ t) = True := by apply eq_true; omega
  simp only [h0, T_carrackref20_Net.f0, T_sl_api_Message.load, cellH, ha, T_sl_api_Message.len, h1, h2, h3, popO_some, bindH_eq, condV_bool, condV_true, condV_false, yV_bool, gopV_tt, gopV_ff, gopV_tf, gopV_ft, pickV_t, pickV_f, pickV_bool, nilS_ptr, add_eq, sub_eq, mul_eq, lss_eq, leq_eq, gtr_eq, geq_eq, not_eq, minI_eq, maxI_eq, extract_0, extract_1, extract_2, eqlI, neqI, makeFunc_eq, decide_true, decide_false, if_true, if_false, Bool.false_eq_true, Bool.not_true, Bool.not_false, reduceIte, List.getElem?_toArray, List.getElem?_cons_zero, List.getElem?_cons_succ, Option.isSome_none, List.length_map]
  exact hk
set_option maxRecDepth 20000 in
theorem RefMove_yes {h : PH} {a : Nat} {l : List Msg} {F : List Nat} (hR : RefAt h a l F) (hl : l.length ≤ 256) {j t : Nat} {m : Msg} (hm : l[j]? = some m) (ht : t < l.length) {k : Value → PH → Prop}
    (hk : ∀ h' F', RefAt h' a (mv l j t m) F' → Upd [a] h h' → (∀ b ∈ F', b ∈ F ∨ h b = none) → k (.int .i64 0) h') : CallsH PG id_carrackref20_Net_Move #[.pointer (some ⟨a, 0, none⟩), .int .i64 j, .int .i64 t] h k := by
  have hj : j < l.length := (List.getElem?_eq_some_iff.1 hm).1
  apply carrackref20_Net_Move.call
  unfold carrackref20_Net_Move
  have hR' := hR
  obtain ⟨v, G, ha, hO, rfl, hn⟩ := hR'
  obtain ⟨va, vc, hv, -⟩ := hO.slR.here
  rw [List.length_map] at hv
  subst hv
  have c0 : ((j : Int) < 0) = False := by apply eq_false; omega
  have c1 : ((l.length : Int) ≤ (j : Int)) = False := by apply eq_false; omega
  have c2 : ((t : Int) < 0) = False := by apply eq_false; omega
  have c3 : ((l.length : Int) ≤ (t : Int)) = False := by apply eq_false; omega
  simp only [c0, T_carrackref20_Net.f0, T_sl_api_Message.load, cellH, ha, T_sl_api_Message.len, c1, c2, c3, popO_some, bindH_eq, condV_bool, condV_true, condV_false, yV_bool, gopV_tt, gopV_ff, gopV_tf, gopV_ft, pickV_t, pickV_f, pickV_bool, nilS_ptr, add_eq, sub_eq, mul_eq, lss_eq, leq_eq, gtr_eq, geq_eq, not_eq, minI_eq, maxI_eq, extract_0, extract_1, extract_2, eqlI, neqI, makeFunc_eq, decide_true, decide_false, if_true, if_false, Bool.false_eq_true, Bool.not_true, Bool.not_false, reduceIte, List.getElem?_toArray, List.getElem?_cons_zero, List.getElem?_cons_succ, Option.isSome_none, List.length_map]
  refine RefTake_yes hR hl hm fun h1 F1 hR1 u1 k1 => ?_
  have hle : (l.eraseIdx j).length = l.length - 1 := List.length_eraseIdx_of_lt hj
  rw [← mv_ref l m hj ht] at hk
  generalize l.eraseIdx j = l1 at hR1 hle hk
  simp only [popO_some, bindH_eq, condV_bool, condV_true, condV_false, yV_bool, gopV_tt, gopV_ff, gopV_tf, gopV_ft, pickV_t, pickV_f, pickV_bool, nilS_ptr, add_eq, sub_eq, mul_eq, lss_eq, leq_eq, gtr_eq, geq_eq, not_eq, minI_eq, maxI_eq, extract_0, extract_1, extract_2, eqlI, neqI, makeFunc_eq, decide_true, decide_false, if_true, if_false, Bool.false_eq_true, Bool.not_true, Bool.not_false, reduceIte, List.getElem?_toArray, List.getElem?_cons_zero, List.getElem?_cons_succ, Option.isSome_none, List.length_map]
  intro r hr
  refine Msg.box m set_same rfl ?_
  rw [set_set_same]
  have u2 : Ext h1 (h1.set r (.cells m.cells.toArray T_api_Message)) := Upd.new hr
  have hr2 : (h1.set r (.cells m.cells.toArray T_api_Message)) r = some (.cells m.cells.toArray T_api_Message) := set_same
  generalize h1.set r (.cells m.cells.toArray T_api_Message) = h2 at u2 hr2
  have hR2 := hR1.ext u2
  have hR2' := hR2
  obtain ⟨v2, G2, ha2, hO2, rfl, hn2⟩ := hR2'
  obtain ⟨x1, y1, y2, -⟩ := hO2.slR.cut T_sl_api_Message.und T_api_Message.info T_api_Message.size (lo := none) (.inl ⟨rfl, rfl⟩) (.inr ⟨.i64, rfl⟩) (Nat.zero_le _) (show t ≤ _ by simp; omega)
  obtain ⟨x2, z1, z2, -⟩ := hO2.slR.cut T_sl_api_Message.und T_api_Message.info T_api_Message.size (hi := none) (.inr ⟨.i64, rfl⟩) (.inl ⟨rfl, rfl⟩) (show t ≤ _ by simp; omega) (Nat.le_refl _)
  rw [List.drop_zero, ← List.map_take] at y2
  rw [List.take_of_length_le (Nat.le_refl _), ← List.map_drop] at z2
  simp only [T_carrackref20_Net.f0, T_sl_api_Message.load, cellH, ha2, y1, z1, Msg.unbox m hr2, Msg.lit0, popO_some, bindH_eq, condV_bool, condV_true, condV_false, yV_bool, gopV_tt, gopV_ff, gopV_tf, gopV_ft, pickV_t, pickV_f, pickV_bool, nilS_ptr, add_eq, sub_eq, mul_eq, lss_eq, leq_eq, gtr_eq, geq_eq, not_eq, minI_eq, maxI_eq, extract_0, extract_1, extract_2, eqlI, neqI, makeFunc_eq, decide_true, decide_false, if_true, if_false, Bool.false_eq_true, Bool.not_true, Bool.not_false, reduceIte, List.getElem?_toArray, List.getElem?_cons_zero, List.getElem?_cons_succ, Option.isSome_none, List.length_map]
  intro r3 hr3
  refine popO_pure ?_
  refine fresh_app y2 (by simp; omega) hr3 fun v4 h4 F4 hO4 u4 f4 => ?_
  have ha4 := u4.get ha2
  have hr4 := u4.get hr2
  simp only [T_sl_api_Message.load, cellH, ha4, Msg.unbox m hr4, Msg.lit1, popO_some, bindH_eq, condV_bool, condV_true, condV_false, yV_bool, gopV_tt, gopV_ff, gopV_tf, gopV_ft, pickV_t, pickV_f, pickV_bool, nilS_ptr, add_eq, sub_eq, mul_eq, lss_eq, leq_eq, gtr_eq, geq_eq, not_eq, minI_eq, maxI_eq, extract_0, extract_1, extract_2, eqlI, neqI, makeFunc_eq, decide_true, decide_false, if_true, if_false, Bool.false_eq_true, Bool.not_true, Bool.not_false, reduceIte, List.getElem?_toArray, List.getElem?_cons_zero, List.getElem?_cons_succ, Option.isSome_none, List.length_map]
  refine ⟨trivial, trivial, ?_⟩
  intro r5 hr5
  refine popO_pure ?_
  have u5 : Ext h4 (h4.set r5 (.cells m.cells.toArray T_api_Message)) := Upd.new hr5
  refine own_app (hO4.ext u5) (OwnR.lit (Msg.rows [m]) set_same (by simp) (by decide) (by simp)).slR (by simp; omega) (by simp) fun v6 h6 F6 hO6 u6 k6 => ?_
  have w5 := u4.trans u5
  have w6 := w5.fresh u6 f4
  have f6 := f4.grow w5 k6
  have ha6 := w6.get ha2
  simp only [T_sl_api_Message.load, cellH, ha6, popO_some, bindH_eq, condV_bool, condV_true, condV_false, yV_bool, gopV_tt, gopV_ff, gopV_tf, gopV_ft, pickV_t, pickV_f, pickV_bool, nilS_ptr, add_eq, sub_eq, mul_eq, lss_eq, leq_eq, gtr_eq, geq_eq, not_eq, minI_eq, maxI_eq, extract_0, extract_1, extract_2, eqlI, neqI, makeFunc_eq, decide_true, decide_false, if_true, if_false, Bool.false_eq_true, Bool.not_true, Bool.not_false, reduceIte, List.getElem?_toArray, List.getElem?_cons_zero, List.getElem?_cons_succ, Option.isSome_none, List.length_map]
  refine ⟨trivial, ?_⟩
  refine own_app hO6 (z2.ext w6) (by simp; omega) (by simp; omega) fun v7 h7 F7 hO7 u7 k7 => ?_
  have w7 := w6.fresh u7 f6
  have f7 := f6.grow w6 k7
  refine (hR2.ext w7).store hO7 (fun hm' => by have := f7 a hm'; rw [ha2] at this; cases this) fun h8 hR8 u8 => ?_
  have wa : Upd [a] h h8 := ((u1.trans (u2.upd (F := [a]))).trans (w7.upd (F := [a]))).trans u8
  refine hk _ (a :: F7) hR8 wa fun b hb => ?_
  rcases List.mem_cons.1 hb with rfl | hb
  · exact .inl (by simp)
  · have e1 : h1 b = none := u2.none (f7 b hb)
    by_cases hh : h b = none
    · exact .inr hh
    · exfalso
      obtain ⟨o, ho⟩ := Option.ne_none_iff_exists'.1 hh
      by_cases hba : b = a
      · subst hba; exact hR1.known b (by simp) e1
      · rw [u1.get ho (by simpa using hba)] at e1; cases e1
end Go.Proofs.Ytbloalappckjhaa
