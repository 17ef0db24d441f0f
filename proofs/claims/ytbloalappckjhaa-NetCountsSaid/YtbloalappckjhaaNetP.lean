/- net: the law NetPlays. -/
import Derived.Test.YtbloalappckjhaaRefN
set_option linter.unusedSimpArgs false
set_option linter.unusedVariables false
namespace Go.Proofs.Ytbloalappckjhaa
open Go

structure NAct where
  kind : Int
  k : Int
  dest : Int
  v : Value
  l : List Msg
def NAct.cells (a : NAct) : List Value := [.int .i64 a.kind, .int .i64 a.k, .int .i64 a.dest, a.v]
def NActs (h : PH) (l : List NAct) : Prop := ∀ a ∈ l, SlR h 8 a.v (a.l.map Msg.cells)
theorem NActs.ext {h h' : PH} {l : List NAct} (H : NActs h l) (u : Ext h h') : NActs h' l := fun a ha => (H a ha).ext u
theorem NAct.isSlice {h : PH} {l : List NAct} (H : NActs h l) {a : NAct} (ha : a ∈ l) : isCell a.v = true := by
  obtain ⟨_, _, hv, -⟩ := (H a ha).here
  rw [hv]; rfl
theorem NAct.box {h : PH} {r : Nat} {c : Array Value} (a : NAct) (hs : isCell a.v = true) {k : Value → PH → Prop} (hb : h r = some (.cells c T_carrackref20_Act (0, 0))) (hc : c.size = 4) (hk : k undef (h.set r (.cells a.cells.toArray T_carrackref20_Act (0, 0)))) :
    SemH PG (storeS T_carrackref20_Act (.pointer (some ⟨r, 0, none⟩)) (.agg a.cells.toArray)) h k :=
  store_box hb T_carrackref20_Act.info T_carrackref20_Act.size (by show 0 < 4; decide) hc (fun v hv => by
    simp only [NAct.cells, List.mem_cons, List.not_mem_nil, or_false] at hv
    rcases hv with rfl | rfl | rfl | rfl
    · rfl
    · rfl
    · rfl
    · exact hs) hk
theorem SlR.act {h : PH} {x : Value} {xs : List NAct} (H : SlR h 4 x (xs.map NAct.cells)) {k : IntKind} {j : Int} {m : NAct} (h0 : 0 ≤ j) (hm : xs[j.toNat]? = some m) :
    ∃ a, SemP PG (Instr.indexAt T_sl_carrackref20_Act x (.int k j)) = some (.pointer (some a)) ∧ SemE PG h (Instr.loadAt T_carrackref20_Act (.pointer (some a))) = some (.agg m.cells.toArray) :=
  H.loadAgg T_sl_carrackref20_Act.und T_carrackref20_Act.info T_carrackref20_Act.size T_carrackref20_Act.und rfl h0 (by rw [List.getElem?_map, hm]; rfl)

theorem few_ok {h : PH} {x : Value} {xs : List NAct} (hx : SlR h 4 x (xs.map NAct.cells)) (hA : NActs h xs) {k : Value → PH → Prop} (hk : ∀ b, k (.bool b) h) : CallsH PG id_carracklaw20_few #[x] h k := by
  have hsm := hx.small
  simp only [List.length_map] at hsm
  apply carracklaw20_few.call
  unfold carracklaw20_few
  simp only [hx.len T_sl_carrackref20_Act.und, popO_some, bindH_eq, condV_bool, condV_true, condV_false, yV_bool, gopV_tt, gopV_ff, gopV_tf, gopV_ft, pickV_t, pickV_f, pickV_bool, nilS_ptr, add_eq, sub_eq, mul_eq, lss_eq, leq_eq, gtr_eq, geq_eq, not_eq, minI_eq, maxI_eq, extract_0, extract_1, extract_2, eqlI, neqI, makeFunc_eq, decide_true, decide_false, if_true, if_false, Bool.false_eq_true, Bool.not_true, Bool.not_false, reduceIte, List.getElem?_toArray, List.getElem?_cons_zero, List.getElem?_cons_succ, Option.isSome_none, List.length_map]
  by_cases h60 : (60 : Int) < xs.length
  · simp only [h60, popO_some, bindH_eq, condV_bool, condV_true, condV_false, yV_bool, gopV_tt, gopV_ff, gopV_tf, gopV_ft, pickV_t, pickV_f, pickV_bool, nilS_ptr, add_eq, sub_eq, mul_eq, lss_eq, leq_eq, gtr_eq, geq_eq, not_eq, minI_eq, maxI_eq, extract_0, extract_1, extract_2, eqlI, neqI, makeFunc_eq, decide_true, decide_false, if_true, if_false, Bool.false_eq_true, Bool.not_true, Bool.not_false, reduceIte, List.getElem?_toArray, List.getElem?_cons_zero, List.getElem?_cons_succ, Option.isSome_none, List.length_map]
    exact hk _
  simp only [h60, popO_some, bindH_eq, condV_bool, condV_true, condV_false, yV_bool, gopV_tt, gopV_ff, gopV_tf, gopV_ft, pickV_t, pickV_f, pickV_bool, nilS_ptr, add_eq, sub_eq, mul_eq, lss_eq, leq_eq, gtr_eq, geq_eq, not_eq, minI_eq, maxI_eq, extract_0, extract_1, extract_2, eqlI, neqI, makeFunc_eq, decide_true, decide_false, if_true, if_false, Bool.false_eq_true, Bool.not_true, Bool.not_false, reduceIte, List.getElem?_toArray, List.getElem?_cons_zero, List.getElem?_cons_succ, Option.isSome_none, List.length_map]
  refine ⟨fun vs h' => ∃ i : Nat, i ≤ xs.length ∧ vs = [x, .int .i64 i] ∧ h' = h, upTo xs.length 1, ⟨0, by simp, rfl, rfl⟩, ?_⟩
  rintro ρ h' ⟨i, hi, hvs, rfl⟩
  simp only [List.map_cons, List.map_nil, List.cons.injEq, and_true] at hvs
  obtain ⟨e0, e1⟩ := hvs
  rw [e0, e1]
  unfold carracklaw20_few_b4
  by_cases hc : i < xs.length
  · have hd : ((i : Int) < (xs.length : Int)) = True := by simp only [eq_iff_iff, iff_true]; omega
    obtain ⟨m, hm⟩ : ∃ m, xs[i]? = some m := ⟨_, List.getElem?_eq_getElem hc⟩
    obtain ⟨b, o, cs, e', fr, p1, p2, p3, p4⟩ := hx.at T_sl_carrackref20_Act.und T_carrackref20_Act.info T_carrackref20_Act.size (k := .i64) (j := (i : Int)) (r := m.cells) (by omega) (by simp [hm])
    have hv : cs[o + 3]? = some m.v := by
      have := congrArg (fun l : List Value => l[3]?) p4
      simp only [NAct.cells, List.getElem?_cons_succ, List.getElem?_cons_zero, Array.getElem?_toList] at this
      rw [Array.getElem?_extract] at this
      split at this
      · exact this
      · cases this
    obtain ⟨va, vc, hv2, -⟩ := (hA m (List.mem_of_getElem? hm)).here
    rw [List.length_map] at hv2
    have e5 : IntKind.i64.wrap ((i : Int) + 1) = ((i + 1 : Nat) : Int) := by rw [i64_wrap (by omega) (by unfold maxL at hsm; omega)]; omega
    simp only [hx.len T_sl_carrackref20_Act.und, hd, p1, T_carrackref20_Act.f3, T_sl_api_Message.load, cellH, p2, hv, hv2, T_sl_api_Message.len, popO_some, bindH_eq, condV_bool, condV_true, condV_false, yV_bool, gopV_tt, gopV_ff, gopV_tf, gopV_ft, pickV_t, pickV_f, pickV_bool, nilS_ptr, add_eq, sub_eq, mul_eq, lss_eq, leq_eq, gtr_eq, geq_eq, not_eq, minI_eq, maxI_eq, extract_0, extract_1, extract_2, eqlI, neqI, makeFunc_eq, decide_true, decide_false, if_true, if_false, Bool.false_eq_true, Bool.not_true, Bool.not_false, reduceIte, List.getElem?_toArray, List.getElem?_cons_zero, List.getElem?_cons_succ, Option.isSome_none, List.length_map]
    by_cases h300 : (300 : Int) < m.l.length
    · simp only [h300, popO_some, bindH_eq, condV_bool, condV_true, condV_false, yV_bool, gopV_tt, gopV_ff, gopV_tf, gopV_ft, pickV_t, pickV_f, pickV_bool, nilS_ptr, add_eq, sub_eq, mul_eq, lss_eq, leq_eq, gtr_eq, geq_eq, not_eq, minI_eq, maxI_eq, extract_0, extract_1, extract_2, eqlI, neqI, makeFunc_eq, decide_true, decide_false, if_true, if_false, Bool.false_eq_true, Bool.not_true, Bool.not_false, reduceIte, List.getElem?_toArray, List.getElem?_cons_zero, List.getElem?_cons_succ, Option.isSome_none, List.length_map]
      exact hk _
    · simp only [h300, e5, popO_some, bindH_eq, condV_bool, condV_true, condV_false, yV_bool, gopV_tt, gopV_ff, gopV_tf, gopV_ft, pickV_t, pickV_f, pickV_bool, nilS_ptr, add_eq, sub_eq, mul_eq, lss_eq, leq_eq, gtr_eq, geq_eq, not_eq, minI_eq, maxI_eq, extract_0, extract_1, extract_2, eqlI, neqI, makeFunc_eq, decide_true, decide_false, if_true, if_false, Bool.false_eq_true, Bool.not_true, Bool.not_false, reduceIte, List.getElem?_toArray, List.getElem?_cons_zero, List.getElem?_cons_succ, Option.isSome_none, List.length_map]
      refine ⟨⟨i + 1, by omega, rfl, trivial⟩, by simp [upTo, e1]; omega⟩
  · have hd : ((i : Int) < (xs.length : Int)) = False := by apply eq_false; omega
    simp only [hx.len T_sl_carrackref20_Act.und, hd, popO_some, bindH_eq, condV_bool, condV_true, condV_false, yV_bool, gopV_tt, gopV_ff, gopV_tf, gopV_ft, pickV_t, pickV_f, pickV_bool, nilS_ptr, add_eq, sub_eq, mul_eq, lss_eq, leq_eq, gtr_eq, geq_eq, not_eq, minI_eq, maxI_eq, extract_0, extract_1, extract_2, eqlI, neqI, makeFunc_eq, decide_true, decide_false, if_true, if_false, Bool.false_eq_true, Bool.not_true, Bool.not_false, reduceIte, List.getElem?_toArray, List.getElem?_cons_zero, List.getElem?_cons_succ, Option.isSome_none, List.length_map]
    exact hk _

structure Two (h0 h : PH) (n r : Nat) (l l2 : List Msg) (FN FR : List Nat) : Prop where
  ext : Ext h0 h
  fn : Fresh h0 FN
  fr : Fresh h0 FR
  net : NetAt h n l FN
  ref : RefAt h r l2 FR
  dis : ∀ b ∈ FN, b ∉ FR
theorem Two.step {h0 h h' : PH} {n r : Nat} {l l2 : List Msg} {FN FR : List Nat} (T : Two h0 h n r l l2 FN FR) (u : Ext h h') : Two h0 h' n r l l2 FN FR := ⟨T.ext.trans u, T.fn, T.fr, T.net.ext u, T.ref.ext u, T.dis⟩
theorem Two.goNet {h0 h h' : PH} {n r : Nat} {l l2 l' : List Msg} {FN FR F' : List Nat} (T : Two h0 h n r l l2 FN FR) (N : NetAt h' n l' F') (u : Upd FN h h') (g : ∀ b ∈ F', b ∈ FN ∨ h b = none) : Two h0 h' n r l' l2 F' FR :=
  ⟨T.ext.fresh u T.fn, T.fn.grow T.ext g, T.fr, N, T.ref.upd u (fun b hb hf => T.dis b hf hb), fun b hb hf => by
    rcases g b hb with h1 | h1
    · exact T.dis b h1 hf
    · exact T.ref.known b hf h1⟩
theorem RefAt.own {h : PH} {a : Nat} {l : List Msg} {F : List Nat} (H : RefAt h a l F) : a ∈ F := by obtain ⟨v, G, ha, hO, rfl, hn⟩ := H; simp
theorem Two.goRef {h0 h h' : PH} {n r : Nat} {l l2 l' : List Msg} {FN FR F' : List Nat} (T : Two h0 h n r l l2 FN FR) (N : RefAt h' r l' F') (u : Upd [r] h h') (g : ∀ b ∈ F', b ∈ FR ∨ h b = none) : Two h0 h' n r l l' FN F' :=
  ⟨T.ext.fresh u (fun b hb => by simp at hb; subst hb; exact T.fr _ T.ref.own), T.fn, T.fr.grow T.ext g, T.net.upd u (fun b hb hf => by simp at hf; subst hf; exact T.dis b hb T.ref.own), N, fun b hb hf => by
    rcases g b hf with h1 | h1
    · exact T.dis b hb h1
    · exact T.net.known b hb h1⟩
theorem i64_any {i : Nat} (h : i < maxL) : IntKind.i64.wrap ((i : Int) + 1) = ((i + 1 : Nat) : Int) := by unfold maxL at h; rw [i64_wrap (by omega) (by omega)]; omega

theorem k36_ok {h0 h : PH} {n r : Nat} {l : List Msg} {FN FR : List Nat} (T : Two h0 h n r l l FN FR) (hl : l.length ≤ 256) {x : Value} {i : Nat} (hi : i < maxL) {R : Value → PH → Prop} {n13 : List Value → PH → Prop}
    (hk : ∀ h', Ext h h' → n13 [x, .pointer (some ⟨n, 0, none⟩), .pointer (some ⟨r, 0, none⟩), .int .i64 (i + 1 : Nat)] h') :
    carracklaw20_NetPlays_k36 R n13 x (.pointer (some ⟨n, 0, none⟩)) (.pointer (some ⟨r, 0, none⟩)) (.int .i64 i) (.bool true) h := by
  unfold carracklaw20_NetPlays_k36
  obtain ⟨v, G, ha, hO, rfl, hn⟩ := T.ref
  obtain ⟨va, vc, hv, -⟩ := hO.slR.here
  rw [List.length_map] at hv
  subst hv
  simp only [T_carrackref20_Net.f0, T_sl_api_Message.load, cellH, ha, popO_some, bindH_eq, condV_bool, condV_true, condV_false, yV_bool, gopV_tt, gopV_ff, gopV_tf, gopV_ft, pickV_t, pickV_f, pickV_bool, nilS_ptr, add_eq, sub_eq, mul_eq, lss_eq, leq_eq, gtr_eq, geq_eq, not_eq, minI_eq, maxI_eq, extract_0, extract_1, extract_2, eqlI, neqI, makeFunc_eq, decide_true, decide_false, if_true, if_false, Bool.false_eq_true, Bool.not_true, Bool.not_false, reduceIte, List.getElem?_toArray, List.getElem?_cons_zero, List.getElem?_cons_succ, Option.isSome_none, List.length_map]
  refine List_ok T.net hl fun v1 h1 F1 hO1 u1 k1 => ?_
  have ha1 := u1.get ha
  simp only [T_sl_api_Message.load, cellH, ha1, popO_some, bindH_eq, condV_bool, condV_true, condV_false, yV_bool, gopV_tt, gopV_ff, gopV_tf, gopV_ft, pickV_t, pickV_f, pickV_bool, nilS_ptr, add_eq, sub_eq, mul_eq, lss_eq, leq_eq, gtr_eq, geq_eq, not_eq, minI_eq, maxI_eq, extract_0, extract_1, extract_2, eqlI, neqI, makeFunc_eq, decide_true, decide_false, if_true, if_false, Bool.false_eq_true, Bool.not_true, Bool.not_false, reduceIte, List.getElem?_toArray, List.getElem?_cons_zero, List.getElem?_cons_succ, Option.isSome_none, List.length_map]
  refine ⟨fun _ => trivial, ?_⟩
  refine Same_yes hO1.slR (hO.ext u1).slR rfl ?_
  simp only [T_carrackref20_Net.f0, T_sl_api_Message.load, cellH, ha1, T_sl_api_Message.len, popO_some, bindH_eq, condV_bool, condV_true, condV_false, yV_bool, gopV_tt, gopV_ff, gopV_tf, gopV_ft, pickV_t, pickV_f, pickV_bool, nilS_ptr, add_eq, sub_eq, mul_eq, lss_eq, leq_eq, gtr_eq, geq_eq, not_eq, minI_eq, maxI_eq, extract_0, extract_1, extract_2, eqlI, neqI, makeFunc_eq, decide_true, decide_false, if_true, if_false, Bool.false_eq_true, Bool.not_true, Bool.not_false, reduceIte, List.getElem?_toArray, List.getElem?_cons_zero, List.getElem?_cons_succ, Option.isSome_none, List.length_map]
  refine Len_ok (T.net.ext u1) ?_
  have e1 : ((l.length : Int) != (l.length : Int)) = false := by simp
  simp only [T_sl_api_Message.load, cellH, ha1, e1, i64_any hi, popO_some, bindH_eq, condV_bool, condV_true, condV_false, yV_bool, gopV_tt, gopV_ff, gopV_tf, gopV_ft, pickV_t, pickV_f, pickV_bool, nilS_ptr, add_eq, sub_eq, mul_eq, lss_eq, leq_eq, gtr_eq, geq_eq, not_eq, minI_eq, maxI_eq, extract_0, extract_1, extract_2, eqlI, neqI, makeFunc_eq, decide_true, decide_false, if_true, if_false, Bool.false_eq_true, Bool.not_true, Bool.not_false, reduceIte, List.getElem?_toArray, List.getElem?_cons_zero, List.getElem?_cons_succ, Option.isSome_none, List.length_map]
  exact ⟨fun _ => trivial, hk _ u1⟩

set_option maxRecDepth 20000 in
theorem NetPlays_ok {h : PH} {x : Value} {xs : List NAct} (hx : SlR h 4 x (xs.map NAct.cells)) (hA : NActs h xs) {k : Value → PH → Prop} (hk : ∀ h', Ext h h' → k (.bool true) h') :
    CallsH PG id_carracklaw20_NetPlays #[x] h k := by
  have hsm := hx.small
  simp only [List.length_map] at hsm
  apply carracklaw20_NetPlays.call
  unfold carracklaw20_NetPlays
  refine awake20_ok fun h1 u1 => ?_
  simp only [popO_some, bindH_eq, condV_bool, condV_true, condV_false, yV_bool, gopV_tt, gopV_ff, gopV_tf, gopV_ft, pickV_t, pickV_f, pickV_bool, nilS_ptr, add_eq, sub_eq, mul_eq, lss_eq, leq_eq, gtr_eq, geq_eq, not_eq, minI_eq, maxI_eq, extract_0, extract_1, extract_2, eqlI, neqI, makeFunc_eq, decide_true, decide_false, if_true, if_false, Bool.false_eq_true, Bool.not_true, Bool.not_false, reduceIte, List.getElem?_toArray, List.getElem?_cons_zero, List.getElem?_cons_succ, Option.isSome_none, List.length_map]
  refine few_ok (hx.ext u1) (hA.ext u1) fun b => ?_
  cases b with
  | false => simp only [popO_some, bindH_eq, condV_bool, condV_true, condV_false, yV_bool, gopV_tt, gopV_ff, gopV_tf, gopV_ft, pickV_t, pickV_f, pickV_bool, nilS_ptr, add_eq, sub_eq, mul_eq, lss_eq, leq_eq, gtr_eq, geq_eq, not_eq, minI_eq, maxI_eq, extract_0, extract_1, extract_2, eqlI, neqI, makeFunc_eq, decide_true, decide_false, if_true, if_false, Bool.false_eq_true, Bool.not_true, Bool.not_false, reduceIte, List.getElem?_toArray, List.getElem?_cons_zero, List.getElem?_cons_succ, Option.isSome_none, List.length_map]; exact hk _ u1
  | true =>
    simp only [popO_some, bindH_eq, condV_bool, condV_true, condV_false, yV_bool, gopV_tt, gopV_ff, gopV_tf, gopV_ft, pickV_t, pickV_f, pickV_bool, nilS_ptr, add_eq, sub_eq, mul_eq, lss_eq, leq_eq, gtr_eq, geq_eq, not_eq, minI_eq, maxI_eq, extract_0, extract_1, extract_2, eqlI, neqI, makeFunc_eq, decide_true, decide_false, if_true, if_false, Bool.false_eq_true, Bool.not_true, Bool.not_false, reduceIte, List.getElem?_toArray, List.getElem?_cons_zero, List.getElem?_cons_succ, Option.isSome_none, List.length_map]
    refine New_ok fun a h2 na hN2 u2 => ?_
    simp only [T_carrackref20_Net.build0, popO_some, bindH_eq, condV_bool, condV_true, condV_false, yV_bool, gopV_tt, gopV_ff, gopV_tf, gopV_ft, pickV_t, pickV_f, pickV_bool, nilS_ptr, add_eq, sub_eq, mul_eq, lss_eq, leq_eq, gtr_eq, geq_eq, not_eq, minI_eq, maxI_eq, extract_0, extract_1, extract_2, eqlI, neqI, makeFunc_eq, decide_true, decide_false, if_true, if_false, Bool.false_eq_true, Bool.not_true, Bool.not_false, reduceIte, List.getElem?_toArray, List.getElem?_cons_zero, List.getElem?_cons_succ, Option.isSome_none, List.length_map]
    intro r hr
    simp only [eqlPtrNil T_p_net_Net.und, Option.isNone_some, popO_some, bindH_eq, condV_bool, condV_true, condV_false, yV_bool, gopV_tt, gopV_ff, gopV_tf, gopV_ft, pickV_t, pickV_f, pickV_bool, nilS_ptr, add_eq, sub_eq, mul_eq, lss_eq, leq_eq, gtr_eq, geq_eq, not_eq, minI_eq, maxI_eq, extract_0, extract_1, extract_2, eqlI, neqI, makeFunc_eq, decide_true, decide_false, if_true, if_false, Bool.false_eq_true, Bool.not_true, Bool.not_false, reduceIte, List.getElem?_toArray, List.getElem?_cons_zero, List.getElem?_cons_succ, Option.isSome_none, List.length_map]
    have u3 : Ext h2 (h2.set r (.cells #[.slice none 0 0] T_carrackref20_Net)) := Upd.new hr
    have w2 := u1.trans u2
    have T0 : Two h (h2.set r (.cells #[.slice none 0 0] T_carrackref20_Net)) a r [] [] [a] [r] :=
      ⟨w2.trans u3, (Fresh.one na).of u1, (Fresh.one hr).of w2, hN2.ext u3, ⟨.slice none 0 0, [], set_same, OwnR.nil, rfl, by simp⟩, fun b hb hf => by
        simp at hb hf; subst hb; subst hf; exact hN2.known _ (by simp) hr⟩
    refine ⟨fun vs h' => ∃ i : Nat, i ≤ xs.length ∧ vs = [x, .pointer (some ⟨a, 0, none⟩), .pointer (some ⟨r, 0, none⟩), .int .i64 i] ∧ ∃ l FN FR, l.length ≤ 256 ∧ Two h h' a r l l FN FR, upTo xs.length 3, ⟨0, by simp, rfl, [], _, _, by simp, T0⟩, ?_⟩
    rintro ρ h3 ⟨i, hi, hvs, l, FN, FR, hl, T⟩
    simp only [List.map_cons, List.map_nil, List.cons.injEq, and_true] at hvs
    obtain ⟨e0, e1, e2, e3⟩ := hvs
    rw [e0, e1, e2, e3]
    unfold carracklaw20_NetPlays_b14
    by_cases hc : i < xs.length
    · have hd : ((i : Int) < (xs.length : Int)) = True := by simp only [eq_iff_iff, iff_true]; omega
      obtain ⟨m, hm⟩ : ∃ m, xs[i]? = some m := ⟨_, List.getElem?_eq_getElem hc⟩
      have hmem := List.mem_of_getElem? hm
      have hx3 := hx.ext T.ext
      obtain ⟨p, p1, p2⟩ := hx3.act (k := .i64) (j := (i : Int)) (m := m) (by omega) (by simpa using hm)
      simp only [hx3.len T_sl_carrackref20_Act.und, hd, p1, p2, popO_some, bindH_eq, condV_bool, condV_true, condV_false, yV_bool, gopV_tt, gopV_ff, gopV_tf, gopV_ft, pickV_t, pickV_f, pickV_bool, nilS_ptr, add_eq, sub_eq, mul_eq, lss_eq, leq_eq, gtr_eq, geq_eq, not_eq, minI_eq, maxI_eq, extract_0, extract_1, extract_2, eqlI, neqI, makeFunc_eq, decide_true, decide_false, if_true, if_false, Bool.false_eq_true, Bool.not_true, Bool.not_false, reduceIte, List.getElem?_toArray, List.getElem?_cons_zero, List.getElem?_cons_succ, Option.isSome_none, List.length_map]
      intro r4 hr4
      refine NAct.box m (NAct.isSlice hA hmem) set_same rfl ?_
      rw [set_set_same]
      have u4 : Ext h3 (h3.set r4 (.cells m.cells.toArray T_carrackref20_Act)) := Upd.new hr4
      have hb4 : (h3.set r4 (.cells m.cells.toArray T_carrackref20_Act)) r4 = some (.cells m.cells.toArray T_carrackref20_Act) := set_same
      generalize h3.set r4 (.cells m.cells.toArray T_carrackref20_Act) = h4 at u4 hb4
      have T4 := T.step u4
      have hfin : ∀ {h' : PH} {l' : List Msg} {FN' FR' : List Nat}, Two h h' a r l' l' FN' FR' → l'.length ≤ 256 → carracklaw20_NetPlays_k36 k (fun vs h' => (∃ i : Nat, i ≤ xs.length ∧ vs = [x, .pointer (some ⟨a, 0, none⟩), .pointer (some ⟨r, 0, none⟩), .int .i64 i] ∧ ∃ l FN FR, l.length ≤ 256 ∧ Two h h' a r l l FN FR) ∧ upTo xs.length 3 vs h' < upTo xs.length 3 (List.map ρ [0, 3, 4, 5]) h3) x (.pointer (some ⟨a, 0, none⟩)) (.pointer (some ⟨r, 0, none⟩)) (.int .i64 i) (.bool true) h' := by
        intro h' l' FN' FR' T' hl'
        refine k36_ok T' hl' (by omega) fun h'' u'' => ?_
        exact ⟨⟨i + 1, by omega, rfl, l', FN', FR', hl', T'.step u''⟩, by simp [upTo, e3]; omega⟩
      have g0 : cellH h4 ⟨r4, 0, none⟩ = some (.int .i64 m.kind) := by simp [cellH, hb4, NAct.cells]
      have g1 : cellH h4 ⟨r4, 1, none⟩ = some (.int .i64 m.k) := by simp [cellH, hb4, NAct.cells]
      have g2 : cellH h4 ⟨r4, 2, none⟩ = some (.int .i64 m.dest) := by simp [cellH, hb4, NAct.cells]
      have g3 : cellH h4 ⟨r4, 3, none⟩ = some m.v := by simp [cellH, hb4, NAct.cells]
      have nr4 : r4 ∉ FN := fun hm' => T.net.known r4 hm' hr4
      simp only [T_carrackref20_Act.f0, T_carrackref20_Act.f1, T_carrackref20_Act.f2, T_carrackref20_Act.f3, T_int.load, T_sl_api_Message.load, g0, g1, g2, g3, Nat.zero_add, popO_some, bindH_eq, condV_bool, condV_true, condV_false, yV_bool, gopV_tt, gopV_ff, gopV_tf, gopV_ft, pickV_t, pickV_f, pickV_bool, nilS_ptr, add_eq, sub_eq, mul_eq, lss_eq, leq_eq, gtr_eq, geq_eq, not_eq, minI_eq, maxI_eq, extract_0, extract_1, extract_2, eqlI, neqI, makeFunc_eq, decide_true, decide_false, if_true, if_false, Bool.false_eq_true, Bool.not_true, Bool.not_false, reduceIte, List.getElem?_toArray, List.getElem?_cons_zero, List.getElem?_cons_succ, Option.isSome_none, List.length_map]
      have hfin5 : ∀ {h' : PH} {l' : List Msg} {FN' FR' : List Nat}, Two h h' a r l' l' FN' FR' → l'.length ≤ 256 → carracklaw20_NetPlays_k35 k (fun vs h' => (∃ i : Nat, i ≤ xs.length ∧ vs = [x, .pointer (some ⟨a, 0, none⟩), .pointer (some ⟨r, 0, none⟩), .int .i64 i] ∧ ∃ l FN FR, l.length ≤ 256 ∧ Two h h' a r l l FN FR) ∧ upTo xs.length 3 vs h' < upTo xs.length 3 (List.map ρ [0, 3, 4, 5]) h3) x (.pointer (some ⟨a, 0, none⟩)) (.pointer (some ⟨r, 0, none⟩)) (.int .i64 i) (.bool true) h' := hfin
      clear hfin
      have kept4 : ∀ {h' : PH} {q : Nat} {w : Value}, Upd FN h4 h' → cellH h4 ⟨r4, q, none⟩ = some w → cellH h' ⟨r4, q, none⟩ = some w := by
        intro h' q w u hw
        simpa only [cellH, hb4, u.get hb4 nr4] using hw
      by_cases c0 : (m.kind == 0) = true
      · simp only [c0, popO_some, bindH_eq, condV_bool, condV_true, condV_false, yV_bool, gopV_tt, gopV_ff, gopV_tf, gopV_ft, pickV_t, pickV_f, pickV_bool, nilS_ptr, add_eq, sub_eq, mul_eq, lss_eq, leq_eq, gtr_eq, geq_eq, not_eq, minI_eq, maxI_eq, extract_0, extract_1, extract_2, eqlI, neqI, makeFunc_eq, decide_true, decide_false, if_true, if_false, Bool.false_eq_true, Bool.not_true, Bool.not_false, reduceIte, List.getElem?_toArray, List.getElem?_cons_zero, List.getElem?_cons_succ, Option.isSome_none, List.length_map]
        have hxs := (hA m hmem).ext T4.ext
        refine Send_ok T4.net hxs hl fun h5 F5 hN5 u5 k5 => ?_
        have T5 := T4.goNet hN5 u5 k5
        refine ⟨by rw [kept4 u5 g3], ?_⟩
        refine RefSend_ok T5.ref (fun h' u' => (hA m hmem).ext (T5.ext.fresh u' (fun b hb => by simp at hb; subst hb; exact T5.fr _ T5.ref.own))) hl fun h6 F6 hR6 u6 k6 => ?_
        have T6 := T5.goRef hR6 u6 k6
        have ee : (((min m.l.length (256 - l.length) : Nat) : Int) == ((min m.l.length (256 - l.length) : Nat) : Int)) = true := by simp
        simp only [ee, popO_some, bindH_eq, condV_bool, condV_true, condV_false, yV_bool, gopV_tt, gopV_ff, gopV_tf, gopV_ft, pickV_t, pickV_f, pickV_bool, nilS_ptr, add_eq, sub_eq, mul_eq, lss_eq, leq_eq, gtr_eq, geq_eq, not_eq, minI_eq, maxI_eq, extract_0, extract_1, extract_2, eqlI, neqI, makeFunc_eq, decide_true, decide_false, if_true, if_false, Bool.false_eq_true, Bool.not_true, Bool.not_false, reduceIte, List.getElem?_toArray, List.getElem?_cons_zero, List.getElem?_cons_succ, Option.isSome_none, List.length_map]
        exact hfin5 T6 (by simp; omega)
      have c0' : (m.kind == 0) = false := by simpa using c0
      simp only [c0', popO_some, bindH_eq, condV_bool, condV_true, condV_false, yV_bool, gopV_tt, gopV_ff, gopV_tf, gopV_ft, pickV_t, pickV_f, pickV_bool, nilS_ptr, add_eq, sub_eq, mul_eq, lss_eq, leq_eq, gtr_eq, geq_eq, not_eq, minI_eq, maxI_eq, extract_0, extract_1, extract_2, eqlI, neqI, makeFunc_eq, decide_true, decide_false, if_true, if_false, Bool.false_eq_true, Bool.not_true, Bool.not_false, reduceIte, List.getElem?_toArray, List.getElem?_cons_zero, List.getElem?_cons_succ, Option.isSome_none, List.length_map]
      by_cases c1 : (m.kind == 1) = true
      · simp only [c1, popO_some, bindH_eq, condV_bool, condV_true, condV_false, yV_bool, gopV_tt, gopV_ff, gopV_tf, gopV_ft, pickV_t, pickV_f, pickV_bool, nilS_ptr, add_eq, sub_eq, mul_eq, lss_eq, leq_eq, gtr_eq, geq_eq, not_eq, minI_eq, maxI_eq, extract_0, extract_1, extract_2, eqlI, neqI, makeFunc_eq, decide_true, decide_false, if_true, if_false, Bool.false_eq_true, Bool.not_true, Bool.not_false, reduceIte, List.getElem?_toArray, List.getElem?_cons_zero, List.getElem?_cons_succ, Option.isSome_none, List.length_map]
        by_cases hj : 0 ≤ m.k ∧ m.k < l.length
        · obtain ⟨j, hj'⟩ := Int.eq_ofNat_of_zero_le hj.1
          rw [hj'] at g1 hj ⊢
          obtain ⟨y, hy⟩ : ∃ y, l[j]? = some y := ⟨_, List.getElem?_eq_getElem (by omega)⟩
          refine Take_yes T4.net hl hy fun h5 F5 hN5 u5 k5 => ?_
          have T5 := T4.goNet hN5 u5 k5
          simp only [popO_some, bindH_eq, condV_bool, condV_true, condV_false, yV_bool, gopV_tt, gopV_ff, gopV_tf, gopV_ft, pickV_t, pickV_f, pickV_bool, nilS_ptr, add_eq, sub_eq, mul_eq, lss_eq, leq_eq, gtr_eq, geq_eq, not_eq, minI_eq, maxI_eq, extract_0, extract_1, extract_2, eqlI, neqI, makeFunc_eq, decide_true, decide_false, if_true, if_false, Bool.false_eq_true, Bool.not_true, Bool.not_false, reduceIte, List.getElem?_toArray, List.getElem?_cons_zero, List.getElem?_cons_succ, Option.isSome_none, List.length_map]
          intro r6 hr6
          refine Msg.box y set_same rfl ?_
          rw [set_set_same]
          have u6 : Ext h5 (h5.set r6 (.cells y.cells.toArray T_api_Message)) := Upd.new hr6
          have hb6 : (h5.set r6 (.cells y.cells.toArray T_api_Message)) r6 = some (.cells y.cells.toArray T_api_Message) := set_same
          generalize h5.set r6 (.cells y.cells.toArray T_api_Message) = h6 at u6 hb6
          have T6 := T5.step u6
          have g1' : cellH h6 ⟨r4, 1, none⟩ = some (.int .i64 j) := by
            have h55 := u6.get (u5.get hb4 nr4)
            simpa only [cellH, hb4, h55] using g1
          simp only [T_carrackref20_Act.f1, T_int.load, g1', Nat.zero_add, popO_some, bindH_eq, condV_bool, condV_true, condV_false, yV_bool, gopV_tt, gopV_ff, gopV_tf, gopV_ft, pickV_t, pickV_f, pickV_bool, nilS_ptr, add_eq, sub_eq, mul_eq, lss_eq, leq_eq, gtr_eq, geq_eq, not_eq, minI_eq, maxI_eq, extract_0, extract_1, extract_2, eqlI, neqI, makeFunc_eq, decide_true, decide_false, if_true, if_false, Bool.false_eq_true, Bool.not_true, Bool.not_false, reduceIte, List.getElem?_toArray, List.getElem?_cons_zero, List.getElem?_cons_succ, Option.isSome_none, List.length_map]
          have nr6 : r6 ≠ r := by rintro rfl; exact T5.ref.known _ T5.ref.own hr6
          refine RefTake_yes T6.ref hl hy fun h7 F7 hR7 u7 k7 => ?_
          have T7 := T6.goRef hR7 u7 k7
          simp only [popO_some, bindH_eq, condV_bool, condV_true, condV_false, yV_bool, gopV_tt, gopV_ff, gopV_tf, gopV_ft, pickV_t, pickV_f, pickV_bool, nilS_ptr, add_eq, sub_eq, mul_eq, lss_eq, leq_eq, gtr_eq, geq_eq, not_eq, minI_eq, maxI_eq, extract_0, extract_1, extract_2, eqlI, neqI, makeFunc_eq, decide_true, decide_false, if_true, if_false, Bool.false_eq_true, Bool.not_true, Bool.not_false, reduceIte, List.getElem?_toArray, List.getElem?_cons_zero, List.getElem?_cons_succ, Option.isSome_none, List.length_map]
          intro r8 hr8
          refine Msg.box y set_same rfl ?_
          rw [set_set_same]
          have u8 : Ext h7 (h7.set r8 (.cells y.cells.toArray T_api_Message)) := Upd.new hr8
          have hb8 : (h7.set r8 (.cells y.cells.toArray T_api_Message)) r8 = some (.cells y.cells.toArray T_api_Message) := set_same
          generalize h7.set r8 (.cells y.cells.toArray T_api_Message) = h8 at u8 hb8
          have T8 := T7.step u8
          have hb68 := u8.get (u7.get hb6 (by simpa using nr6))
          have ee : ((0 : Int) == 0) = true := rfl
          simp only [Msg.unbox y hb68, Msg.unbox y hb8, Msg.eql, ee, popO_some, bindH_eq, condV_bool, condV_true, condV_false, yV_bool, gopV_tt, gopV_ff, gopV_tf, gopV_ft, pickV_t, pickV_f, pickV_bool, nilS_ptr, add_eq, sub_eq, mul_eq, lss_eq, leq_eq, gtr_eq, geq_eq, not_eq, minI_eq, maxI_eq, extract_0, extract_1, extract_2, eqlI, neqI, makeFunc_eq, decide_true, decide_false, if_true, if_false, Bool.false_eq_true, Bool.not_true, Bool.not_false, reduceIte, List.getElem?_toArray, List.getElem?_cons_zero, List.getElem?_cons_succ, Option.isSome_none, List.length_map]
          exact hfin5 T8 (by rw [List.length_eraseIdx_of_lt (by omega)]; omega)
        · refine Take_no T4.net m.k hj fun h5 u5 => ?_
          have T5 := T4.step u5
          simp only [popO_some, bindH_eq, condV_bool, condV_true, condV_false, yV_bool, gopV_tt, gopV_ff, gopV_tf, gopV_ft, pickV_t, pickV_f, pickV_bool, nilS_ptr, add_eq, sub_eq, mul_eq, lss_eq, leq_eq, gtr_eq, geq_eq, not_eq, minI_eq, maxI_eq, extract_0, extract_1, extract_2, eqlI, neqI, makeFunc_eq, decide_true, decide_false, if_true, if_false, Bool.false_eq_true, Bool.not_true, Bool.not_false, reduceIte, List.getElem?_toArray, List.getElem?_cons_zero, List.getElem?_cons_succ, Option.isSome_none, List.length_map]
          intro r6 hr6
          refine Msg.box Msg.zero set_same rfl ?_
          rw [set_set_same]
          have u6 : Ext h5 (h5.set r6 (.cells Msg.zero.cells.toArray T_api_Message)) := Upd.new hr6
          have hb6 : (h5.set r6 (.cells Msg.zero.cells.toArray T_api_Message)) r6 = some (.cells Msg.zero.cells.toArray T_api_Message) := set_same
          generalize h5.set r6 (.cells Msg.zero.cells.toArray T_api_Message) = h6 at u6 hb6
          have T6 := T5.step u6
          have g1' : cellH h6 ⟨r4, 1, none⟩ = some (.int .i64 m.k) := by
            have h55 := u6.get (u5.get hb4)
            simpa only [cellH, hb4, h55] using g1
          simp only [T_carrackref20_Act.f1, T_int.load, g1', Nat.zero_add, popO_some, bindH_eq, condV_bool, condV_true, condV_false, yV_bool, gopV_tt, gopV_ff, gopV_tf, gopV_ft, pickV_t, pickV_f, pickV_bool, nilS_ptr, add_eq, sub_eq, mul_eq, lss_eq, leq_eq, gtr_eq, geq_eq, not_eq, minI_eq, maxI_eq, extract_0, extract_1, extract_2, eqlI, neqI, makeFunc_eq, decide_true, decide_false, if_true, if_false, Bool.false_eq_true, Bool.not_true, Bool.not_false, reduceIte, List.getElem?_toArray, List.getElem?_cons_zero, List.getElem?_cons_succ, Option.isSome_none, List.length_map]
          refine RefTake_no T6.ref m.k hj fun h7 u7 => ?_
          have T7 := T6.step u7
          simp only [popO_some, bindH_eq, condV_bool, condV_true, condV_false, yV_bool, gopV_tt, gopV_ff, gopV_tf, gopV_ft, pickV_t, pickV_f, pickV_bool, nilS_ptr, add_eq, sub_eq, mul_eq, lss_eq, leq_eq, gtr_eq, geq_eq, not_eq, minI_eq, maxI_eq, extract_0, extract_1, extract_2, eqlI, neqI, makeFunc_eq, decide_true, decide_false, if_true, if_false, Bool.false_eq_true, Bool.not_true, Bool.not_false, reduceIte, List.getElem?_toArray, List.getElem?_cons_zero, List.getElem?_cons_succ, Option.isSome_none, List.length_map]
          intro r8 hr8
          refine Msg.box Msg.zero set_same rfl ?_
          rw [set_set_same]
          have u8 : Ext h7 (h7.set r8 (.cells Msg.zero.cells.toArray T_api_Message)) := Upd.new hr8
          have hb8 : (h7.set r8 (.cells Msg.zero.cells.toArray T_api_Message)) r8 = some (.cells Msg.zero.cells.toArray T_api_Message) := set_same
          generalize h7.set r8 (.cells Msg.zero.cells.toArray T_api_Message) = h8 at u8 hb8
          have T8 := T7.step u8
          have hb68 := u8.get (u7.get hb6)
          have ee : ((3 : Int) == 3) = true := rfl
          simp only [Msg.unbox Msg.zero hb68, Msg.unbox Msg.zero hb8, Msg.eql, ee, popO_some, bindH_eq, condV_bool, condV_true, condV_false, yV_bool, gopV_tt, gopV_ff, gopV_tf, gopV_ft, pickV_t, pickV_f, pickV_bool, nilS_ptr, add_eq, sub_eq, mul_eq, lss_eq, leq_eq, gtr_eq, geq_eq, not_eq, minI_eq, maxI_eq, extract_0, extract_1, extract_2, eqlI, neqI, makeFunc_eq, decide_true, decide_false, if_true, if_false, Bool.false_eq_true, Bool.not_true, Bool.not_false, reduceIte, List.getElem?_toArray, List.getElem?_cons_zero, List.getElem?_cons_succ, Option.isSome_none, List.length_map]
          exact hfin5 T8 hl
      have c1' : (m.kind == 1) = false := by simpa using c1
      simp only [c1', popO_some, bindH_eq, condV_bool, condV_true, condV_false, yV_bool, gopV_tt, gopV_ff, gopV_tf, gopV_ft, pickV_t, pickV_f, pickV_bool, nilS_ptr, add_eq, sub_eq, mul_eq, lss_eq, leq_eq, gtr_eq, geq_eq, not_eq, minI_eq, maxI_eq, extract_0, extract_1, extract_2, eqlI, neqI, makeFunc_eq, decide_true, decide_false, if_true, if_false, Bool.false_eq_true, Bool.not_true, Bool.not_false, reduceIte, List.getElem?_toArray, List.getElem?_cons_zero, List.getElem?_cons_succ, Option.isSome_none, List.length_map]
      by_cases c2 : (m.kind == 2) = true
      · simp only [c2, popO_some, bindH_eq, condV_bool, condV_true, condV_false, yV_bool, gopV_tt, gopV_ff, gopV_tf, gopV_ft, pickV_t, pickV_f, pickV_bool, nilS_ptr, add_eq, sub_eq, mul_eq, lss_eq, leq_eq, gtr_eq, geq_eq, not_eq, minI_eq, maxI_eq, extract_0, extract_1, extract_2, eqlI, neqI, makeFunc_eq, decide_true, decide_false, if_true, if_false, Bool.false_eq_true, Bool.not_true, Bool.not_false, reduceIte, List.getElem?_toArray, List.getElem?_cons_zero, List.getElem?_cons_succ, Option.isSome_none, List.length_map]
        by_cases hj : 0 ≤ m.k ∧ m.k < l.length
        · obtain ⟨j, hj'⟩ := Int.eq_ofNat_of_zero_le hj.1
          rw [hj'] at g1 hj ⊢
          obtain ⟨y, hy⟩ : ∃ y, l[j]? = some y := ⟨_, List.getElem?_eq_getElem (by omega)⟩
          refine Twice_yes T4.net hl hy fun h5 F5 hN5 u5 k5 => ?_
          have T5 := T4.goNet hN5 u5 k5
          refine ⟨by rw [kept4 u5 g1], ?_⟩
          refine RefTwice_yes T5.ref hl hy fun h6 F6 hR6 u6 k6 => ?_
          have T6 := T5.goRef hR6 u6 k6
          have ee : ((if l.length = 256 then (2 : Int) else 0) == (if l.length = 256 then 2 else 0)) = true := by simp
          simp only [eqlI, popO_some]
          rw [ee]
          refine hfin5 T6 ?_
          split
          · exact hl
          · simp; omega
        · refine Twice_no T4.net m.k hj ?_
          refine ⟨by rw [g1], ?_⟩
          refine RefTwice_no T4.ref m.k hj ?_
          have ee : ((3 : Int) == 3) = true := rfl
          simp only [ee, popO_some, bindH_eq, condV_bool, condV_true, condV_false, yV_bool, gopV_tt, gopV_ff, gopV_tf, gopV_ft, pickV_t, pickV_f, pickV_bool, nilS_ptr, add_eq, sub_eq, mul_eq, lss_eq, leq_eq, gtr_eq, geq_eq, not_eq, minI_eq, maxI_eq, extract_0, extract_1, extract_2, eqlI, neqI, makeFunc_eq, decide_true, decide_false, if_true, if_false, Bool.false_eq_true, Bool.not_true, Bool.not_false, reduceIte, List.getElem?_toArray, List.getElem?_cons_zero, List.getElem?_cons_succ, Option.isSome_none, List.length_map]
          exact hfin5 T4 hl
      have c2' : (m.kind == 2) = false := by simpa using c2
      simp only [c2', popO_some, bindH_eq, condV_bool, condV_true, condV_false, yV_bool, gopV_tt, gopV_ff, gopV_tf, gopV_ft, pickV_t, pickV_f, pickV_bool, nilS_ptr, add_eq, sub_eq, mul_eq, lss_eq, leq_eq, gtr_eq, geq_eq, not_eq, minI_eq, maxI_eq, extract_0, extract_1, extract_2, eqlI, neqI, makeFunc_eq, decide_true, decide_false, if_true, if_false, Bool.false_eq_true, Bool.not_true, Bool.not_false, reduceIte, List.getElem?_toArray, List.getElem?_cons_zero, List.getElem?_cons_succ, Option.isSome_none, List.length_map]
      by_cases hj : (0 ≤ m.k ∧ m.k < l.length) ∧ (0 ≤ m.dest ∧ m.dest < l.length)
      · obtain ⟨j, hj'⟩ := Int.eq_ofNat_of_zero_le hj.1.1
        obtain ⟨t, ht'⟩ := Int.eq_ofNat_of_zero_le hj.2.1
        rw [hj', ht'] at hj
        rw [hj'] at g1
        rw [ht'] at g2
        rw [hj', ht']
        obtain ⟨y, hy⟩ : ∃ y, l[j]? = some y := ⟨_, List.getElem?_eq_getElem (by omega)⟩
        refine Move_yes T4.net hl hy (by omega) fun h5 hN5 u5 => ?_
        have T5 := T4.goNet hN5 u5 (fun b hb => .inl hb)
        refine ⟨by rw [kept4 u5 g2], by rw [kept4 u5 g1], ?_⟩
        refine RefMove_yes T5.ref hl hy (by omega) fun h6 F6 hR6 u6 k6 => ?_
        have T6 := T5.goRef hR6 u6 k6
        have ee : ((0 : Int) == 0) = true := rfl
        simp only [ee, popO_some, bindH_eq, condV_bool, condV_true, condV_false, yV_bool, gopV_tt, gopV_ff, gopV_tf, gopV_ft, pickV_t, pickV_f, pickV_bool, nilS_ptr, add_eq, sub_eq, mul_eq, lss_eq, leq_eq, gtr_eq, geq_eq, not_eq, minI_eq, maxI_eq, extract_0, extract_1, extract_2, eqlI, neqI, makeFunc_eq, decide_true, decide_false, if_true, if_false, Bool.false_eq_true, Bool.not_true, Bool.not_false, reduceIte, List.getElem?_toArray, List.getElem?_cons_zero, List.getElem?_cons_succ, Option.isSome_none, List.length_map]
        exact hfin5 T6 (by rw [mv_len l y (by omega) (by omega)]; exact hl)
      · refine Move_no T4.net m.k m.dest hj ?_
        refine ⟨by rw [g2], by rw [g1], ?_⟩
        refine RefMove_no T4.ref m.k m.dest hj ?_
        have ee : ((3 : Int) == 3) = true := rfl
        simp only [ee, popO_some, bindH_eq, condV_bool, condV_true, condV_false, yV_bool, gopV_tt, gopV_ff, gopV_tf, gopV_ft, pickV_t, pickV_f, pickV_bool, nilS_ptr, add_eq, sub_eq, mul_eq, lss_eq, leq_eq, gtr_eq, geq_eq, not_eq, minI_eq, maxI_eq, extract_0, extract_1, extract_2, eqlI, neqI, makeFunc_eq, decide_true, decide_false, if_true, if_false, Bool.false_eq_true, Bool.not_true, Bool.not_false, reduceIte, List.getElem?_toArray, List.getElem?_cons_zero, List.getElem?_cons_succ, Option.isSome_none, List.length_map]
        exact hfin5 T4 hl
    · have hd : ((i : Int) < (xs.length : Int)) = False := by apply eq_false; omega
      simp only [(hx.ext T.ext).len T_sl_carrackref20_Act.und, hd, popO_some, bindH_eq, condV_bool, condV_true, condV_false, yV_bool, gopV_tt, gopV_ff, gopV_tf, gopV_ft, pickV_t, pickV_f, pickV_bool, nilS_ptr, add_eq, sub_eq, mul_eq, lss_eq, leq_eq, gtr_eq, geq_eq, not_eq, minI_eq, maxI_eq, extract_0, extract_1, extract_2, eqlI, neqI, makeFunc_eq, decide_true, decide_false, if_true, if_false, Bool.false_eq_true, Bool.not_true, Bool.not_false, reduceIte, List.getElem?_toArray, List.getElem?_cons_zero, List.getElem?_cons_succ, Option.isSome_none, List.length_map]
      exact hk _ T.ext
end Go.Proofs.Ytbloalappckjhaa
