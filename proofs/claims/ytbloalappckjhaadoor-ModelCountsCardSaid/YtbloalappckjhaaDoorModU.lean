/- model: the document's Step; open ones; counts. -/
import Derived.Test.YtbloalappckjhaaDoorModT
set_option linter.unusedSimpArgs false
set_option linter.unusedVariables false
namespace Go.Proofs.YtbloalappckjhaaDoor
open Go
theorem firstE_skip {now : List Ent} {p : Pkt} {k : Nat} (hn : ∀ e ∈ now.take k, e.pkt ≠ p) : firstE now p = match now[k]? with
    | some e => if e.pkt = p then some e.state else firstE (now.drop (k + 1)) p
    | none => none := by
  unfold firstE
  have h1 : now.find? (fun e => decide (e.pkt = p)) = (now.drop k).find? (fun e => decide (e.pkt = p)) := by
    conv => lhs; rw [← List.take_append_drop k now]
    rw [List.find?_append]
    have : (now.take k).find? (fun e => decide (e.pkt = p)) = none := by
      rw [List.find?_eq_none]
      intro e he
      simpa using hn e he
    rw [this, Option.none_or]
  rw [h1]
  cases hk : now[k]? with
  | none =>
    have := List.getElem?_eq_none_iff.1 hk
    rw [List.drop_of_length_le this]; rfl
  | some e =>
    obtain ⟨hlt, he⟩ := List.getElem?_eq_some_iff.1 hk
    rw [List.drop_eq_getElem_cons hlt, he, List.find?_cons]
    by_cases c : e.pkt = p
    · simp [c]
    · simp [c]
theorem stepL_take {was now : List Ent} {i : Nat} {m : Ent} (hm : was[i]? = some m) : stepL (was.take (i + 1)) now = (stepL (was.take i) now && match firstE now m.pkt with | none => false | some s => reach m.state s) := by
  unfold stepL
  rw [List.take_add_one, hm, List.all_append]
  simp only [Option.toList_some, List.all_cons, List.all_nil, Bool.and_true]
  rfl
set_option maxRecDepth 20000 in
theorem RStep_ok {h : PH} {x y : Value} {was now : List Ent} (hx : SlR h 5 x (was.map Ent.cells)) (hy : SlR h 5 y (now.map Ent.cells)) (hl : was.length ≤ 1000000) (hl2 : now.length ≤ 1000000) {k : Value → PH → Prop}
    (hk : ∀ h', Ext h h' → k (.bool (stepL was now)) h') : CallsH PG id_carrackref22_Step #[x, y] h k := by
  have lx := hx.len (t' := T_int) T_sl_carrackref22_Entry.und
  have ly := hy.len (t' := T_int) T_sl_carrackref22_Entry.und
  rw [List.length_map] at lx ly
  apply carrackref22_Step.call
  unfold carrackref22_Step
  refine ⟨fun vs h' => ∃ i : Nat, i ≤ was.length ∧ vs = [x, y, .int .i64 i] ∧ Ext h h' ∧ stepL (was.take i) now = true, upTo was.length 2, ⟨0, by omega, rfl, Upd.refl, by simp [stepL]⟩, ?_⟩
  rintro ρ h1 ⟨i, hi, hvs, w1, hs⟩
  simp only [List.map_cons, List.map_nil, List.cons.injEq, and_true] at hvs
  obtain ⟨e0, e1, e5⟩ := hvs
  rw [e0, e1, e5]
  unfold carrackref22_Step_b2
  by_cases hlt : i < was.length
  · have hd : ((i : Int) < (was.length : Int)) = True := by apply eq_true; omega
    obtain ⟨m, hm⟩ : ∃ m, was[i]? = some m := ⟨_, List.getElem?_eq_getElem hlt⟩
    have ei : IntKind.i64.wrap ((i : Int) + 1) = ((i + 1 : Nat) : Int) := by rw [i64_wrap (by omega) (by omega)]; omega
    have no : stepL (was.take (i + 1)) now = false → stepL was now = false := by
      intro hf
      unfold stepL at hf ⊢
      rw [List.all_eq_false] at hf ⊢
      obtain ⟨z, hz, hz2⟩ := hf
      exact ⟨z, List.mem_of_mem_take hz, hz2⟩
    simp only [lx, hd, popO_some, bindH_eq, condV_bool, condV_true, condV_false, yV_bool, gopV_tt, gopV_ff, gopV_tf, gopV_ft, pickV_t, pickV_f, pickV_bool, nilS_ptr, add_eq, sub_eq, mul_eq, lss_eq, leq_eq, gtr_eq, geq_eq, not_eq, minI_eq, maxI_eq, extract_0, extract_1, extract_2, eqlI, neqI, makeFunc_eq, decide_true, decide_false, if_true, if_false, Bool.false_eq_true, Bool.not_true, Bool.not_false, reduceIte, List.getElem?_toArray, List.getElem?_cons_zero, List.getElem?_cons_succ, Option.isSome_none, List.length_map]
    refine ⟨fun vs h' => ∃ q : Nat, q ≤ now.length ∧ vs = [x, y, .int .i64 i, .int .i64 q] ∧ h' = h1 ∧ ∀ e ∈ now.take q, e.pkt ≠ m.pkt, upTo now.length 3, ⟨0, by omega, rfl, rfl, by simp⟩, ?_⟩
    rintro ρ2 h' ⟨q, hq, hvs, rfl, hne⟩
    simp only [List.map_cons, List.map_nil, List.cons.injEq, and_true] at hvs
    obtain ⟨f0, f1, f5, f6⟩ := hvs
    rw [f0, f1, f5, f6]
    unfold carrackref22_Step_b6
    obtain ⟨b, o, a1, a2, a3⟩ := (hx.ext w1).rent (k := .i64) hm
    have hfs := firstE_skip hne
    by_cases hlq : q < now.length
    · have hdq : ((q : Int) < (now.length : Int)) = True := by apply eq_true; omega
      obtain ⟨z, hz⟩ : ∃ z, now[q]? = some z := ⟨_, List.getElem?_eq_getElem hlq⟩
      obtain ⟨b', o', c1, c2, c3⟩ := (hy.ext w1).rent (k := .i64) hz
      have eq : IntKind.i64.wrap ((q : Int) + 1) = ((q + 1 : Nat) : Int) := by rw [i64_wrap (by omega) (by omega)]; omega
      simp only [ly, hdq, a1, c1, T_carrackref22_Entry.f0, a2, c2, Pkt.neq, popO_some, bindH_eq, condV_bool, condV_true, condV_false, yV_bool, gopV_tt, gopV_ff, gopV_tf, gopV_ft, pickV_t, pickV_f, pickV_bool, nilS_ptr, add_eq, sub_eq, mul_eq, lss_eq, leq_eq, gtr_eq, geq_eq, not_eq, minI_eq, maxI_eq, extract_0, extract_1, extract_2, eqlI, neqI, makeFunc_eq, decide_true, decide_false, if_true, if_false, Bool.false_eq_true, Bool.not_true, Bool.not_false, reduceIte, List.getElem?_toArray, List.getElem?_cons_zero, List.getElem?_cons_succ, Option.isSome_none, List.length_map]
      by_cases cp : z.pkt = m.pkt
      · have e2 : ((q : Int) == (now.length : Int)) = false := by simp; omega
        simp only [cp, ly, e2, a1, c1, T_carrackref22_Entry.f1, T_int.load, a3, c3, popO_some, bindH_eq, condV_bool, condV_true, condV_false, yV_bool, gopV_tt, gopV_ff, gopV_tf, gopV_ft, pickV_t, pickV_f, pickV_bool, nilS_ptr, add_eq, sub_eq, mul_eq, lss_eq, leq_eq, gtr_eq, geq_eq, not_eq, minI_eq, maxI_eq, extract_0, extract_1, extract_2, eqlI, neqI, makeFunc_eq, decide_true, decide_false, if_true, if_false, Bool.false_eq_true, Bool.not_true, Bool.not_false, reduceIte, List.getElem?_toArray, List.getElem?_cons_zero, List.getElem?_cons_succ, Option.isSome_none, List.length_map]
        rw [hz] at hfs
        simp only [cp, if_true] at hfs
        refine RReached_ok m.state z.state fun h2 u2 => ?_
        have hst := stepL_take (now := now) hm
        rw [hs, hfs] at hst
        simp only [Bool.true_and] at hst
        cases cr : reach m.state z.state with
        | true =>
          rw [cr] at hst
          simp only [ei, popO_some, bindH_eq, condV_bool, condV_true, condV_false, yV_bool, gopV_tt, gopV_ff, gopV_tf, gopV_ft, pickV_t, pickV_f, pickV_bool, nilS_ptr, add_eq, sub_eq, mul_eq, lss_eq, leq_eq, gtr_eq, geq_eq, not_eq, minI_eq, maxI_eq, extract_0, extract_1, extract_2, eqlI, neqI, makeFunc_eq, decide_true, decide_false, if_true, if_false, Bool.false_eq_true, Bool.not_true, Bool.not_false, reduceIte, List.getElem?_toArray, List.getElem?_cons_zero, List.getElem?_cons_succ, Option.isSome_none, List.length_map]
          exact ⟨⟨i + 1, by omega, rfl, w1.trans u2, hst⟩, by simp [upTo, e5]; omega⟩
        | false =>
          rw [cr] at hst
          have := hk _ (w1.trans u2)
          rw [no hst] at this
          simp only [popO_some, bindH_eq, condV_bool, condV_true, condV_false, yV_bool, gopV_tt, gopV_ff, gopV_tf, gopV_ft, pickV_t, pickV_f, pickV_bool, nilS_ptr, add_eq, sub_eq, mul_eq, lss_eq, leq_eq, gtr_eq, geq_eq, not_eq, minI_eq, maxI_eq, extract_0, extract_1, extract_2, eqlI, neqI, makeFunc_eq, decide_true, decide_false, if_true, if_false, Bool.false_eq_true, Bool.not_true, Bool.not_false, reduceIte, List.getElem?_toArray, List.getElem?_cons_zero, List.getElem?_cons_succ, Option.isSome_none, List.length_map]
          exact this
      · simp only [cp, eq, popO_some, bindH_eq, condV_bool, condV_true, condV_false, yV_bool, gopV_tt, gopV_ff, gopV_tf, gopV_ft, pickV_t, pickV_f, pickV_bool, nilS_ptr, add_eq, sub_eq, mul_eq, lss_eq, leq_eq, gtr_eq, geq_eq, not_eq, minI_eq, maxI_eq, extract_0, extract_1, extract_2, eqlI, neqI, makeFunc_eq, decide_true, decide_false, if_true, if_false, Bool.false_eq_true, Bool.not_true, Bool.not_false, reduceIte, List.getElem?_toArray, List.getElem?_cons_zero, List.getElem?_cons_succ, Option.isSome_none, List.length_map]
        refine ⟨⟨q + 1, by omega, rfl, by trivial, ?_⟩, by simp [upTo, f6]; omega⟩
        intro e he
        rw [List.take_add_one, hz] at he
        rcases List.mem_append.1 he with he | he
        · exact hne e he
        · simp at he; subst he; exact cp
    · have hdq : ((q : Int) < (now.length : Int)) = False := by apply eq_false; omega
      have e2 : ((q : Int) == (now.length : Int)) = true := by simp; omega
      have hnone : now[q]? = none := List.getElem?_eq_none (by omega)
      rw [hnone] at hfs
      have hst := stepL_take (now := now) hm
      rw [hs, hfs] at hst
      have := hk _ w1
      rw [no hst] at this
      simp only [ly, hdq, e2, popO_some, bindH_eq, condV_bool, condV_true, condV_false, yV_bool, gopV_tt, gopV_ff, gopV_tf, gopV_ft, pickV_t, pickV_f, pickV_bool, nilS_ptr, add_eq, sub_eq, mul_eq, lss_eq, leq_eq, gtr_eq, geq_eq, not_eq, minI_eq, maxI_eq, extract_0, extract_1, extract_2, eqlI, neqI, makeFunc_eq, decide_true, decide_false, if_true, if_false, Bool.false_eq_true, Bool.not_true, Bool.not_false, reduceIte, List.getElem?_toArray, List.getElem?_cons_zero, List.getElem?_cons_succ, Option.isSome_none, List.length_map]
      exact this
  · have hd : ((i : Int) < (was.length : Int)) = False := by apply eq_false; omega
    rw [List.take_of_length_le (by omega)] at hs
    have := hk _ w1
    rw [hs] at this
    simp only [lx, hd, popO_some, bindH_eq, condV_bool, condV_true, condV_false, yV_bool, gopV_tt, gopV_ff, gopV_tf, gopV_ft, pickV_t, pickV_f, pickV_bool, nilS_ptr, add_eq, sub_eq, mul_eq, lss_eq, leq_eq, gtr_eq, geq_eq, not_eq, minI_eq, maxI_eq, extract_0, extract_1, extract_2, eqlI, neqI, makeFunc_eq, decide_true, decide_false, if_true, if_false, Bool.false_eq_true, Bool.not_true, Bool.not_false, reduceIte, List.getElem?_toArray, List.getElem?_cons_zero, List.getElem?_cons_succ, Option.isSome_none, List.length_map]
    exact this

/-! ### open ones -/
theorem pkt_lit (m : Pkt) : SemA PG (Instr.buildSlice T_sl_api_Packet 1 #[(0, .agg m.cells.toArray)]) = some (.cells m.cells.toArray T_api_Packet, fun r => pure (.slice (some ⟨r, 0, none⟩) 1 1)) := by kernel_rfl
theorem openL_take {l : List Ent} {i : Nat} {m : Ent} (hm : l[i]? = some m) : openL (l.take (i + 1)) = openL (l.take i) ++ if openE m then [m.pkt] else [] := by
  unfold openL
  rw [List.take_add_one, hm, List.filter_append, List.map_append]
  congr 1
  cases h : openE m <;> simp [h]
theorem openL_len (l : List Ent) : (openL l).length ≤ l.length := by unfold openL; rw [List.length_map]; exact List.length_filter_le ..
theorem Open_app {h : PH} {v : Value} {xs : List Pkt} {F : List Nat} (hO : OwnR h T_api_Packet 4 v (xs.map Pkt.cells) F) (hl : xs.length ≤ 1000000) (p : Pkt) {k : Value → PH → Prop}
    (hk : ∀ v' h' F', OwnR h' T_api_Packet 4 v' ((xs ++ [p]).map Pkt.cells) F' → Upd F h h' → (∀ b ∈ F', b ∈ F ∨ h b = none) → k v' h') {r : Nat} (hr : h r = none) :
    SemH PG (Builtin.append_ #[T_sl_api_Packet, T_sl_api_Packet] T_sl_api_Packet #[v, .slice (some ⟨r, 0, none⟩) 1 1]) (h.set r (.cells p.cells.toArray T_api_Packet)) k := by
  have u1 : Ext h (h.set r (.cells p.cells.toArray T_api_Packet)) := Upd.new hr
  have s1 : SlR (h.set r (.cells p.cells.toArray T_api_Packet)) 4 (.slice (some ⟨r, 0, none⟩) 1 1) ([p].map Pkt.cells) := (OwnR.lit (Pkt.rows [p]) set_same (by simp) (by decide) (by simp)).slR
  refine append_own T_sl_api_Packet.und T_sl_api_Packet.und T_api_Packet.info T_api_Packet.size T_api_Packet.bytes T_api_Packet.zero rfl (by decide) (hO.ext u1) s1 (Pkt.isCell _) (by simp; omega) ?_
  intro v2 h2 F2 hO2 u2 k2 _
  rw [← List.map_append] at hO2
  refine hk v2 h2 F2 hO2 (u1.upd.trans u2) fun b hb => ?_
  rcases k2 b hb with h' | h'
  · exact .inl h'
  · exact .inr (u1.none h')
set_option maxRecDepth 20000 in
theorem ROpen_ok {h : PH} {x : Value} {l : List Ent} (hx : SlR h 5 x (l.map Ent.cells)) (hl : l.length ≤ 1000000) {k : Value → PH → Prop}
    (hk : ∀ v h' F, OwnR h' T_api_Packet 4 v ((openL l).map Pkt.cells) F → Ext h h' → Fresh h F → k v h') : CallsH PG id_carrackref22_Open #[x] h k := by
  have lx := hx.len (t' := T_int) T_sl_carrackref22_Entry.und
  rw [List.length_map] at lx
  apply carrackref22_Open.call
  unfold carrackref22_Open
  refine ⟨fun vs h' => ∃ (i : Nat) (v : Value) (F : List Nat), i ≤ l.length ∧ vs = [x, v, .int .i64 i] ∧ Ext h h' ∧ OwnR h' T_api_Packet 4 v ((openL (l.take i)).map Pkt.cells) F ∧ Fresh h F, upTo l.length 2, ⟨0, _, [], by omega, rfl, Upd.refl, OwnR.nil, fun b hb => by cases hb⟩, ?_⟩
  rintro ρ h' ⟨i, v, F, hi, hvs, w, hO, f⟩
  simp only [List.map_cons, List.map_nil, List.cons.injEq, and_true] at hvs
  obtain ⟨e0, e1, e5⟩ := hvs
  rw [e0, e1, e5]
  unfold carrackref22_Open_b2
  by_cases hlt : i < l.length
  · have hd : ((i : Int) < (l.length : Int)) = True := by apply eq_true; omega
    obtain ⟨m, hm⟩ : ∃ m, l[i]? = some m := ⟨_, List.getElem?_eq_getElem hlt⟩
    obtain ⟨b, o, a1, a2, a3⟩ := (hx.ext w).rent (k := .i64) hm
    have ei : IntKind.i64.wrap ((i : Int) + 1) = ((i + 1 : Nat) : Int) := by rw [i64_wrap (by omega) (by omega)]; omega
    have hlen := openL_len (l.take i)
    rw [List.length_take] at hlen
    have app : openE m = true → ∀ (hd : ((i : Int) < (l.length : Int)) = True), ∀ r, h' r = none → popO (SemP PG ((fun r => (pure (Value.slice (some ⟨r, 0, none⟩) 1 1) : Sem Value)) r)) fun v37 => bindH (h'.set r (.cells m.pkt.cells.toArray T_api_Packet)) fun h38 => SemH PG (Builtin.append_ #[T_sl_api_Packet, T_sl_api_Packet] T_sl_api_Packet #[v, v37]) h38 fun v39 h40 => carrackref22_Open_k41 k (fun vs h'_1 => (∃ i v F, i ≤ l.length ∧ vs = [x, v, Value.int IntKind.i64 ↑i] ∧ Ext h h'_1 ∧ OwnR h'_1 T_api_Packet 4 v (List.map Pkt.cells (openL (List.take i l))) F ∧ Fresh h F) ∧ upTo l.length 2 vs h'_1 < upTo l.length 2 (List.map ρ [0, 3, 4]) h') x v39 (.int .i64 i) h40 := by
      intro ho _ r hr
      refine popO_pure ?_
      rw [bindH_eq]
      refine Open_app hO (by omega) m.pkt (fun v2 h2 F2 hO2 u2 k2 => ?_) hr
      unfold carrackref22_Open_k41 carrackref22_Open_k42
      have ht := openL_take hm
      rw [ho] at ht
      simp only [if_true] at ht
      rw [← ht] at hO2
      simp only [ei, popO_some, bindH_eq, condV_bool, condV_true, condV_false, yV_bool, gopV_tt, gopV_ff, gopV_tf, gopV_ft, pickV_t, pickV_f, pickV_bool, nilS_ptr, add_eq, sub_eq, mul_eq, lss_eq, leq_eq, gtr_eq, geq_eq, not_eq, minI_eq, maxI_eq, extract_0, extract_1, extract_2, eqlI, neqI, makeFunc_eq, decide_true, decide_false, if_true, if_false, Bool.false_eq_true, Bool.not_true, Bool.not_false, reduceIte, List.getElem?_toArray, List.getElem?_cons_zero, List.getElem?_cons_succ, Option.isSome_none, List.length_map]
      exact ⟨⟨i + 1, v2, F2, by omega, rfl, w.fresh u2 f, hO2, f.grow w k2⟩, by simp [upTo, e5]; omega⟩
    by_cases c1 : m.state = 1
    · have q1 : (m.state == 1) = true := by simp [c1]
      simp only [lx, hd, a1, T_carrackref22_Entry.f0, T_carrackref22_Entry.f1, a2, T_int.load, a3, q1, pkt_lit, popO_some, bindH_eq, condV_bool, condV_true, condV_false, yV_bool, gopV_tt, gopV_ff, gopV_tf, gopV_ft, pickV_t, pickV_f, pickV_bool, nilS_ptr, add_eq, sub_eq, mul_eq, lss_eq, leq_eq, gtr_eq, geq_eq, not_eq, minI_eq, maxI_eq, extract_0, extract_1, extract_2, eqlI, neqI, makeFunc_eq, decide_true, decide_false, if_true, if_false, Bool.false_eq_true, Bool.not_true, Bool.not_false, reduceIte, List.getElem?_toArray, List.getElem?_cons_zero, List.getElem?_cons_succ, Option.isSome_none, List.length_map]
      have := app (by simp [openE, q1]) hd
      simpa only [popO_some, bindH_eq, condV_bool, condV_true, condV_false, yV_bool, gopV_tt, gopV_ff, gopV_tf, gopV_ft, pickV_t, pickV_f, pickV_bool, nilS_ptr, add_eq, sub_eq, mul_eq, lss_eq, leq_eq, gtr_eq, geq_eq, not_eq, minI_eq, maxI_eq, extract_0, extract_1, extract_2, eqlI, neqI, makeFunc_eq, decide_true, decide_false, if_true, if_false, Bool.false_eq_true, Bool.not_true, Bool.not_false, reduceIte, List.getElem?_toArray, List.getElem?_cons_zero, List.getElem?_cons_succ, Option.isSome_none, List.length_map] using this
    · have q1 : (m.state == 1) = false := by simp [c1]
      by_cases c2 : m.state = 2
      · have q2 : (m.state == 2) = true := by simp [c2]
        simp only [lx, hd, a1, T_carrackref22_Entry.f0, T_carrackref22_Entry.f1, a2, T_int.load, a3, q1, q2, pkt_lit, popO_some, bindH_eq, condV_bool, condV_true, condV_false, yV_bool, gopV_tt, gopV_ff, gopV_tf, gopV_ft, pickV_t, pickV_f, pickV_bool, nilS_ptr, add_eq, sub_eq, mul_eq, lss_eq, leq_eq, gtr_eq, geq_eq, not_eq, minI_eq, maxI_eq, extract_0, extract_1, extract_2, eqlI, neqI, makeFunc_eq, decide_true, decide_false, if_true, if_false, Bool.false_eq_true, Bool.not_true, Bool.not_false, reduceIte, List.getElem?_toArray, List.getElem?_cons_zero, List.getElem?_cons_succ, Option.isSome_none, List.length_map]
        have := app (by simp [openE, q2]) hd
        simpa only [popO_some, bindH_eq, condV_bool, condV_true, condV_false, yV_bool, gopV_tt, gopV_ff, gopV_tf, gopV_ft, pickV_t, pickV_f, pickV_bool, nilS_ptr, add_eq, sub_eq, mul_eq, lss_eq, leq_eq, gtr_eq, geq_eq, not_eq, minI_eq, maxI_eq, extract_0, extract_1, extract_2, eqlI, neqI, makeFunc_eq, decide_true, decide_false, if_true, if_false, Bool.false_eq_true, Bool.not_true, Bool.not_false, reduceIte, List.getElem?_toArray, List.getElem?_cons_zero, List.getElem?_cons_succ, Option.isSome_none, List.length_map] using this
      · have q2 : (m.state == 2) = false := by simp [c2]
        simp only [lx, hd, a1, T_carrackref22_Entry.f0, T_carrackref22_Entry.f1, a2, T_int.load, a3, q1, q2, popO_some, bindH_eq, condV_bool, condV_true, condV_false, yV_bool, gopV_tt, gopV_ff, gopV_tf, gopV_ft, pickV_t, pickV_f, pickV_bool, nilS_ptr, add_eq, sub_eq, mul_eq, lss_eq, leq_eq, gtr_eq, geq_eq, not_eq, minI_eq, maxI_eq, extract_0, extract_1, extract_2, eqlI, neqI, makeFunc_eq, decide_true, decide_false, if_true, if_false, Bool.false_eq_true, Bool.not_true, Bool.not_false, reduceIte, List.getElem?_toArray, List.getElem?_cons_zero, List.getElem?_cons_succ, Option.isSome_none, List.length_map]
        unfold carrackref22_Open_k41 carrackref22_Open_k42
        have ht := openL_take hm
        rw [show openE m = false by simp [openE, q1, q2]] at ht
        simp only [Bool.false_eq_true, if_false, List.append_nil] at ht
        rw [← ht] at hO
        simp only [ei, popO_some, bindH_eq, condV_bool, condV_true, condV_false, yV_bool, gopV_tt, gopV_ff, gopV_tf, gopV_ft, pickV_t, pickV_f, pickV_bool, nilS_ptr, add_eq, sub_eq, mul_eq, lss_eq, leq_eq, gtr_eq, geq_eq, not_eq, minI_eq, maxI_eq, extract_0, extract_1, extract_2, eqlI, neqI, makeFunc_eq, decide_true, decide_false, if_true, if_false, Bool.false_eq_true, Bool.not_true, Bool.not_false, reduceIte, List.getElem?_toArray, List.getElem?_cons_zero, List.getElem?_cons_succ, Option.isSome_none, List.length_map]
        exact ⟨⟨i + 1, v, F, by omega, rfl, w, hO, f⟩, by simp [upTo, e5]; omega⟩
  · have hd : ((i : Int) < (l.length : Int)) = False := by apply eq_false; omega
    rw [List.take_of_length_le (by omega)] at hO
    simp only [lx, hd, popO_some, bindH_eq, condV_bool, condV_true, condV_false, yV_bool, gopV_tt, gopV_ff, gopV_tf, gopV_ft, pickV_t, pickV_f, pickV_bool, nilS_ptr, add_eq, sub_eq, mul_eq, lss_eq, leq_eq, gtr_eq, geq_eq, not_eq, minI_eq, maxI_eq, extract_0, extract_1, extract_2, eqlI, neqI, makeFunc_eq, decide_true, decide_false, if_true, if_false, Bool.false_eq_true, Bool.not_true, Bool.not_false, reduceIte, List.getElem?_toArray, List.getElem?_cons_zero, List.getElem?_cons_succ, Option.isSome_none, List.length_map]
    exact hk _ _ _ hO w f
set_option maxRecDepth 20000 in
theorem Open_ok {h : PH} {x : Value} {l : List Ent} (hx : SlR h 5 x (l.map Ent.cells)) (hl : l.length ≤ 1000000) {k : Value → PH → Prop}
    (hk : ∀ v h' F, OwnR h' T_api_Packet 4 v ((openL l).map Pkt.cells) F → Ext h h' → Fresh h F → k v h') : CallsH PG id_model_Open #[x] h k := by
  have lx := hx.len (t' := T_int) T_sl_model_Entry.und
  rw [List.length_map] at lx
  apply model_Open.call
  unfold model_Open
  simp only [lx, popO_some, bindH_eq, condV_bool, condV_true, condV_false, yV_bool, gopV_tt, gopV_ff, gopV_tf, gopV_ft, pickV_t, pickV_f, pickV_bool, nilS_ptr, add_eq, sub_eq, mul_eq, lss_eq, leq_eq, gtr_eq, geq_eq, not_eq, minI_eq, maxI_eq, extract_0, extract_1, extract_2, eqlI, neqI, makeFunc_eq, decide_true, decide_false, if_true, if_false, Bool.false_eq_true, Bool.not_true, Bool.not_false, reduceIte, List.getElem?_toArray, List.getElem?_cons_zero, List.getElem?_cons_succ, Option.isSome_none, List.length_map]
  refine ⟨fun vs h' => ∃ (i : Nat) (v : Value) (F : List Nat), i ≤ l.length ∧ vs = [v, x, .int .i64 l.length, .int .i64 i] ∧ Ext h h' ∧ OwnR h' T_api_Packet 4 v ((openL (l.take i)).map Pkt.cells) F ∧ Fresh h F, upTo l.length 3, ⟨0, _, [], by omega, rfl, Upd.refl, OwnR.nil, fun b hb => by cases hb⟩, ?_⟩
  rintro ρ h' ⟨i, v, F, hi, hvs, w, hO, f⟩
  simp only [List.map_cons, List.map_nil, List.cons.injEq, and_true] at hvs
  obtain ⟨e0, e1, e2, e5⟩ := hvs
  rw [e0, e1, e2, e5]
  unfold model_Open_b3
  by_cases hlt : i < l.length
  · have hd : ((i : Int) < (l.length : Int)) = True := by apply eq_true; omega
    obtain ⟨m, hm⟩ : ∃ m, l[i]? = some m := ⟨_, List.getElem?_eq_getElem hlt⟩
    obtain ⟨a, a1, a2⟩ := (hx.ext w).ent (k := .i64) hm
    have ei : IntKind.i64.wrap ((i : Int) + 1) = ((i + 1 : Nat) : Int) := by rw [i64_wrap (by omega) (by omega)]; omega
    have hlen := openL_len (l.take i)
    rw [List.length_take] at hlen
    simp only [hd, a1, a2, popO_some, bindH_eq, condV_bool, condV_true, condV_false, yV_bool, gopV_tt, gopV_ff, gopV_tf, gopV_ft, pickV_t, pickV_f, pickV_bool, nilS_ptr, add_eq, sub_eq, mul_eq, lss_eq, leq_eq, gtr_eq, geq_eq, not_eq, minI_eq, maxI_eq, extract_0, extract_1, extract_2, eqlI, neqI, makeFunc_eq, decide_true, decide_false, if_true, if_false, Bool.false_eq_true, Bool.not_true, Bool.not_false, reduceIte, List.getElem?_toArray, List.getElem?_cons_zero, List.getElem?_cons_succ, Option.isSome_none, List.length_map]
    intro r0 hr0
    refine put_box hr0 m fun h1 B u1 => ?_
    have w1 := w.trans u1
    have hO1 := hO.ext u1
    simp only [T_model_Entry.f0, T_model_Entry.f1, Nat.zero_add, T_int.load, B.state, B.pkt, pkt_lit, popO_some, bindH_eq, condV_bool, condV_true, condV_false, yV_bool, gopV_tt, gopV_ff, gopV_tf, gopV_ft, pickV_t, pickV_f, pickV_bool, nilS_ptr, add_eq, sub_eq, mul_eq, lss_eq, leq_eq, gtr_eq, geq_eq, not_eq, minI_eq, maxI_eq, extract_0, extract_1, extract_2, eqlI, neqI, makeFunc_eq, decide_true, decide_false, if_true, if_false, Bool.false_eq_true, Bool.not_true, Bool.not_false, reduceIte, List.getElem?_toArray, List.getElem?_cons_zero, List.getElem?_cons_succ, Option.isSome_none, List.length_map]
    have ht := openL_take hm
    have app : openE m = true → ∀ r, h1 r = none → SemH PG (Builtin.append_ #[T_sl_api_Packet, T_sl_api_Packet] T_sl_api_Packet #[v, .slice (some ⟨r, 0, none⟩) 1 1]) (h1.set r (.cells m.pkt.cells.toArray T_api_Packet)) fun v39 h40 => model_Open_k35 k (fun vs h'_1 => (∃ i v F, i ≤ l.length ∧ vs = [v, x, Value.int IntKind.i64 ↑l.length, Value.int IntKind.i64 ↑i] ∧ Ext h h'_1 ∧ OwnR h'_1 T_api_Packet 4 v (List.map Pkt.cells (openL (List.take i l))) F ∧ Fresh h F) ∧ upTo l.length 3 vs h'_1 < upTo l.length 3 (List.map ρ [3, 6, 7, 8]) h') v39 x (.int .i64 l.length) (.int .i64 i) h40 := by
      intro ho r hr
      refine Open_app hO1 (by omega) m.pkt (fun v2 h2 F2 hO2 u2 k2 => ?_) hr
      unfold model_Open_k35 model_Open_k36
      rw [ho] at ht
      simp only [if_true] at ht
      rw [← ht] at hO2
      simp only [ei, popO_some, bindH_eq, condV_bool, condV_true, condV_false, yV_bool, gopV_tt, gopV_ff, gopV_tf, gopV_ft, pickV_t, pickV_f, pickV_bool, nilS_ptr, add_eq, sub_eq, mul_eq, lss_eq, leq_eq, gtr_eq, geq_eq, not_eq, minI_eq, maxI_eq, extract_0, extract_1, extract_2, eqlI, neqI, makeFunc_eq, decide_true, decide_false, if_true, if_false, Bool.false_eq_true, Bool.not_true, Bool.not_false, reduceIte, List.getElem?_toArray, List.getElem?_cons_zero, List.getElem?_cons_succ, Option.isSome_none, List.length_map]
      exact ⟨⟨i + 1, v2, F2, by omega, rfl, w1.fresh u2 f, hO2, f.grow w1 k2⟩, by simp [upTo, e5]; omega⟩
    by_cases c1 : m.state = 1
    · have q1 : (m.state == 1) = true := by simp [c1]
      simp only [q1, T_int.load, B.state, B.pkt, pkt_lit, popO_some, bindH_eq, condV_bool, condV_true, condV_false, yV_bool, gopV_tt, gopV_ff, gopV_tf, gopV_ft, pickV_t, pickV_f, pickV_bool, nilS_ptr, add_eq, sub_eq, mul_eq, lss_eq, leq_eq, gtr_eq, geq_eq, not_eq, minI_eq, maxI_eq, extract_0, extract_1, extract_2, eqlI, neqI, makeFunc_eq, decide_true, decide_false, if_true, if_false, Bool.false_eq_true, Bool.not_true, Bool.not_false, reduceIte, List.getElem?_toArray, List.getElem?_cons_zero, List.getElem?_cons_succ, Option.isSome_none, List.length_map]
      intro r hr
      refine popO_pure ?_
      exact app (by simp [openE, q1]) r hr
    · have q1 : (m.state == 1) = false := by simp [c1]
      by_cases c2 : m.state = 2
      · have q2 : (m.state == 2) = true := by simp [c2]
        simp only [q1, q2, T_int.load, B.state, B.pkt, pkt_lit, popO_some, bindH_eq, condV_bool, condV_true, condV_false, yV_bool, gopV_tt, gopV_ff, gopV_tf, gopV_ft, pickV_t, pickV_f, pickV_bool, nilS_ptr, add_eq, sub_eq, mul_eq, lss_eq, leq_eq, gtr_eq, geq_eq, not_eq, minI_eq, maxI_eq, extract_0, extract_1, extract_2, eqlI, neqI, makeFunc_eq, decide_true, decide_false, if_true, if_false, Bool.false_eq_true, Bool.not_true, Bool.not_false, reduceIte, List.getElem?_toArray, List.getElem?_cons_zero, List.getElem?_cons_succ, Option.isSome_none, List.length_map]
        intro r hr
        refine popO_pure ?_
        exact app (by simp [openE, q2]) r hr
      · have q2 : (m.state == 2) = false := by simp [c2]
        simp only [q1, q2, T_int.load, B.state, popO_some, bindH_eq, condV_bool, condV_true, condV_false, yV_bool, gopV_tt, gopV_ff, gopV_tf, gopV_ft, pickV_t, pickV_f, pickV_bool, nilS_ptr, add_eq, sub_eq, mul_eq, lss_eq, leq_eq, gtr_eq, geq_eq, not_eq, minI_eq, maxI_eq, extract_0, extract_1, extract_2, eqlI, neqI, makeFunc_eq, decide_true, decide_false, if_true, if_false, Bool.false_eq_true, Bool.not_true, Bool.not_false, reduceIte, List.getElem?_toArray, List.getElem?_cons_zero, List.getElem?_cons_succ, Option.isSome_none, List.length_map]
        unfold model_Open_k35 model_Open_k36
        rw [show openE m = false by simp [openE, q1, q2]] at ht
        simp only [Bool.false_eq_true, if_false, List.append_nil] at ht
        rw [← ht] at hO1
        simp only [ei, popO_some, bindH_eq, condV_bool, condV_true, condV_false, yV_bool, gopV_tt, gopV_ff, gopV_tf, gopV_ft, pickV_t, pickV_f, pickV_bool, nilS_ptr, add_eq, sub_eq, mul_eq, lss_eq, leq_eq, gtr_eq, geq_eq, not_eq, minI_eq, maxI_eq, extract_0, extract_1, extract_2, eqlI, neqI, makeFunc_eq, decide_true, decide_false, if_true, if_false, Bool.false_eq_true, Bool.not_true, Bool.not_false, reduceIte, List.getElem?_toArray, List.getElem?_cons_zero, List.getElem?_cons_succ, Option.isSome_none, List.length_map]
        exact ⟨⟨i + 1, v, F, by omega, rfl, w1, hO1, f⟩, by simp [upTo, e5]; omega⟩
  · have hd : ((i : Int) < (l.length : Int)) = False := by apply eq_false; omega
    rw [List.take_of_length_le (by omega)] at hO
    simp only [hd, popO_some, bindH_eq, condV_bool, condV_true, condV_false, yV_bool, gopV_tt, gopV_ff, gopV_tf, gopV_ft, pickV_t, pickV_f, pickV_bool, nilS_ptr, add_eq, sub_eq, mul_eq, lss_eq, leq_eq, gtr_eq, geq_eq, not_eq, minI_eq, maxI_eq, extract_0, extract_1, extract_2, eqlI, neqI, makeFunc_eq, decide_true, decide_false, if_true, if_false, Bool.false_eq_true, Bool.not_true, Bool.not_false, reduceIte, List.getElem?_toArray, List.getElem?_cons_zero, List.getElem?_cons_succ, Option.isSome_none, List.length_map]
    exact hk _ _ _ hO w f
end Go.Proofs.YtbloalappckjhaaDoor
