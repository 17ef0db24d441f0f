/- store: StoreKeeps. -/
import Derived.Test.YtllopddcpkhfjaaDoorStoS
set_option linter.unusedSimpArgs false
set_option linter.unusedVariables false
namespace Go.Proofs.YtllopddcpkhfjaaDoor
open Go Bld
set_option maxRecDepth 20000
theorem app_s {h : PH} {v x : Value} {l ys : List Tx} {F : List Nat} (O : OwnR h T_string 1 v (l.map scell) F) (S : SlR h 1 x (ys.map scell)) (hl : l.length + ys.length ≤ 1000000) {t : TypeId} {k : Value → PH → Prop}
    (hk : ∀ v' h' F', OwnR h' T_string 1 v' ((l ++ ys).map scell) F' → Upd F h h' → (∀ b ∈ F', b ∈ F ∨ h b = none) → k v' h') : SemH PG (Builtin.append_ #[T_sl_string, T_sl_string] t #[v, x]) h k := by
  refine append_own T_sl_string.und T_sl_string.und T_string.info T_string.size T_string.bytes T_string.zero rfl (by decide) O S ?_ (by simp; omega) ?_
  · intro r hr u hu
    obtain ⟨y, hyy, rfl⟩ := List.mem_map.1 hr
    simp only [scell, List.mem_singleton] at hu
    subst hu
    rfl
  intro v' h' F' O' u' k' _
  rw [← List.map_append] at O'
  exact hk v' h' F' O' u' k'
/-- What was seen: maps and roots. -/
structure Seen (h : PH) (v12 v13 : Value) (wl : List (Value × List Pr)) (J : List Nat) : Prop where
  here : ∃ F12 F13 G, OwnR h T_sl_api_Pair 1 v12 (wl.map vcell) F12 ∧ OwnR h T_string 1 v13 ((wl.map fun x => rootP x.2).map scell) F13 ∧ (∀ x ∈ wl, SlR h 2 x.1 (x.2.map Pr.cells) ∧ inBlocks x.1 G) ∧ (∀ g ∈ G, h g ≠ none) ∧ (∀ g ∈ F12, g ∉ F13) ∧ (∀ g ∈ G, g ∉ F12 ∧ g ∉ F13) ∧ J = F12 ++ (F13 ++ G)
theorem Seen.upd {h h' : PH} {v12 v13 : Value} {wl : List (Value × List Pr)} {J K : List Nat} (H : Seen h v12 v13 wl J) (u : Upd K h h') (hd : ∀ x ∈ J, x ∉ K) : Seen h' v12 v13 wl J := by
  obtain ⟨F12, F13, G, h1, h2, h3, h4, h5, h6, rfl⟩ := H.here
  refine ⟨F12, F13, G, h1.upd u (fun b hb => hd b (by simp [hb])), h2.upd u (fun b hb => hd b (by simp [hb])), fun x hx => ⟨(h3 x hx).1.upd u fun a n c e => hd _ (by simp [(h3 x hx).2 a n c e]), (h3 x hx).2⟩, fun g hg => ?_, h5, h6, rfl⟩
  obtain ⟨o, ho⟩ := Option.ne_none_iff_exists'.1 (h4 g hg)
  rw [u.get ho (hd g (by simp [hg]))]; simp
theorem Seen.ext {h h' : PH} {v12 v13 : Value} {wl : List (Value × List Pr)} {J : List Nat} (H : Seen h v12 v13 wl J) (u : Ext h h') : Seen h' v12 v13 wl J := H.upd u (by simp)
theorem Seen.known {h : PH} {v12 v13 : Value} {wl : List (Value × List Pr)} {J : List Nat} (H : Seen h v12 v13 wl J) : ∀ x ∈ J, h x ≠ none := by
  obtain ⟨F12, F13, G, h1, h2, h3, h4, h5, h6, rfl⟩ := H.here
  intro x hx
  simp only [List.mem_append] at hx
  rcases hx with hx | hx | hx
  · exact h1.known x hx
  · exact h2.known x hx
  · exact h4 x hx
/-- The block that stands so far back. -/
def back (s : St) (k : Nat) : List Pr := s.blocks.getD (s.blocks.length - 1 - k) []
theorem sAt_back {s : St} (h : s.Ok) {k : Nat} (hk : k < s.blocks.length) : sAt s (s.height - k) = some (back s k) := by
  have h1 := h.h1
  have h3 := h.h3
  unfold sAt back
  rw [if_neg (by omega), show s.height - (s.height - k) = k by omega, List.getD_eq_getElem?_getD, List.getElem?_eq_getElem (by omega)]
  rfl
/-- More blocks behind. -/
def Grown (s s' : St) : Prop := ∃ m, s'.blocks = s.blocks ++ m ∧ s'.height = s.height + m.length
theorem Grown.refl (s : St) : Grown s s := ⟨[], by simp, by simp⟩
theorem Grown.step {s s' : St} (h : Grown s s') (c : Ac) : Grown s (step s' c) := by
  obtain ⟨m, h1, h2⟩ := h
  rcases step_cases s' c with ⟨q1, q2⟩ | ⟨q1, q2⟩
  · exact ⟨m, by rw [q2, h1], by rw [q1, h2]⟩
  · exact ⟨m ++ [s'.now], by rw [q2, h1, List.append_assoc], by rw [q1, h2]; simp; omega⟩
theorem Grown.at {s s' : St} (g : Grown s s') (h : s.Ok) {k : Nat} (hk : k < s.blocks.length) : sAt s' (s.height - k) = some (back s k) := by
  obtain ⟨m, h1, h2⟩ := g
  have a1 := h.h1
  have a3 := h.h3
  unfold sAt back
  rw [h1, h2, List.length_append, if_neg (by omega), show s.blocks.length + m.length - 1 - (s.height + m.length - (s.height - k)) = s.blocks.length - 1 - k by omega, List.getElem?_append_left (by omega), List.getD_eq_getElem?_getD, List.getElem?_eq_getElem (by omega)]
  rfl
set_option maxHeartbeats 1000000 in
/-- The end: all is as it was. -/
theorem keeps_end {h0 h : PH} (hK : KAt h0) {a b : Nat} {s s' : St} {K J : List Nat} {v12 v13 : Value} {wl : List (Value × List Pr)} (hs : s.Ok) (D : DuoAt h a b s' K) (g : Grown s s') (W : Seen h v12 v13 wl J) (hw : wl.map (·.2) = (List.range s.blocks.length).map (back s)) (hd : ∀ x ∈ J, x ∉ K) (u : Ext h0 h) {k : Value → PH → Prop} (hk : ∀ h', Ext h0 h' → k (.bool true) h') :
    LoopL [7, 10, 11, 12, 13, 20] (fun n122 ρ h => carracklaw11_StoreKeeps_b123 k n122 (ρ 7) (ρ 10) (ρ 11) (ρ 12) (ρ 13) (ρ 20) h) [.pointer (some ⟨a, 0, none⟩), .int .u64 (s.height : Int), .int .i64 (s.blocks.length : Int), v12, v13, .int .i64 0] h := by
  have a1 := hs.h1
  have a2 := hs.h2
  have a3 := hs.h3
  have a4 := hs.h4
  have hwn : wl.length = s.blocks.length := by have := congrArg List.length hw; simpa using this
  refine ⟨fun vs h' => ∃ j, j ≤ s.blocks.length ∧ vs = [.pointer (some ⟨a, 0, none⟩), .int .u64 (s.height : Int), .int .i64 (s.blocks.length : Int), v12, v13, .int .i64 (j : Int)] ∧ Ext h h', upTo s.blocks.length 5, ⟨0, by omega, rfl, Upd.refl⟩, ?_⟩
  rintro ρ h' ⟨j, hj, hvs, u1⟩
  simp only [List.map_cons, List.map_nil, List.cons.injEq, and_true] at hvs
  obtain ⟨v7, v10, v11, v12', v13', v20⟩ := hvs
  simp only [v7, v10, v11, v12', v13', v20, List.map_cons, List.map_nil]
  unfold carracklaw11_StoreKeeps_b123
  obtain ⟨F, A, hFK⟩ := (D.ext u1).st
  have W1 := W.ext u1
  by_cases hl : j < s.blocks.length
  · have g1 : ((j : Int) < (s.blocks.length : Int)) = True := eq_true (by omega)
    have gi : IntKind.i64.wrap ((j : Int) + 1) = ((j + 1 : Nat) : Int) := by rw [i64_wrap (by omega) (by omega)]; omega
    have gj : IntKind.u64.wrap (j : Int) = (j : Int) := u64_wrap (by omega) (by omega)
    have gh : IntKind.u64.wrap ((s.height : Int) - (j : Int)) = ((s.height - j : Nat) : Int) := by rw [u64_wrap (by omega) (by omega)]; omega
    have hat := g.at hs hl
    simp only [g1, cv_int_u64, gj, gh, popO_some, bindH_eq, condV_bool, condV_true, condV_false, yV_bool, gopV_tt, gopV_ff, gopV_tf, gopV_ft, pickV_t, pickV_f, pickV_bool, nilS_ptr, add_eq, sub_eq, mul_eq, lss_eq, leq_eq, gtr_eq, geq_eq, not_eq, minI_eq, maxI_eq, extract_0, extract_1, extract_2, eqlI, neqI, makeFunc_eq, decide_true, decide_false, if_true, if_false, Bool.false_eq_true, Bool.not_true, Bool.not_false, reduceIte, List.getElem?_toArray, List.getElem?_cons_zero, List.getElem?_cons_succ, Option.isSome_none, List.length_map]
    refine At_ok A (s.height - j) (by omega) (fun hx => by rw [hat] at hx; cases hx) (fun b4 v4 h4 F4 e4 O4 f4 u4 => ?_)
    rw [hat] at e4
    obtain rfl := Option.some.inj e4
    simp only [popO_some, bindH_eq, condV_bool, condV_true, condV_false, yV_bool, gopV_tt, gopV_ff, gopV_tf, gopV_ft, pickV_t, pickV_f, pickV_bool, nilS_ptr, add_eq, sub_eq, mul_eq, lss_eq, leq_eq, gtr_eq, geq_eq, not_eq, minI_eq, maxI_eq, extract_0, extract_1, extract_2, eqlI, neqI, makeFunc_eq, decide_true, decide_false, if_true, if_false, Bool.false_eq_true, Bool.not_true, Bool.not_false, reduceIte, List.getElem?_toArray, List.getElem?_cons_zero, List.getElem?_cons_succ, Option.isSome_none, List.length_map]
    refine StRoot_ok (A.ext u4) (s.height - j) (by omega) (fun hx => by rw [hat] at hx; cases hx) (fun b5 h5 e5 u5 => ?_)
    rw [hat] at e5
    obtain rfl := Option.some.inj e5
    have W5 := (W1.ext u4).ext u5
    obtain ⟨F12, F13, G, O12, O13, hS, -, -, -, rfl⟩ := W5.here
    have hjw : j < wl.length := by omega
    have hy : wl[j].2 = back s j := by
      have := congrArg (fun t => t[j]?) hw
      simp only [List.getElem?_map, List.getElem?_eq_getElem hjw, List.getElem?_range hl, Option.map_some, Option.some.injEq] at this
      exact this
    have r12 : (wl.map vcell)[((j : Nat) : Int).toNat]? = some [(wl[j]).1] := by rw [Int.toNat_natCast, List.getElem?_map, List.getElem?_eq_getElem hjw]; rfl
    have r13 : ((wl.map fun x => rootP x.2).map scell)[((j : Nat) : Int).toNat]? = some [.string (tx (rootP (back s j)))] := by rw [Int.toNat_natCast, List.getElem?_map, List.getElem?_map, List.getElem?_eq_getElem hjw, ← hy]; rfl
    obtain ⟨pa, e1, l1⟩ := O12.slR.loadCell (t := T_sl_sl_api_Pair) (k := .i64) (j := (j : Int)) T_sl_sl_api_Pair.und T_sl_api_Pair.info T_sl_api_Pair.size T_sl_api_Pair.und rfl (by omega) r12
    obtain ⟨pb, e2, l2⟩ := O13.slR.loadCell (t := T_sl_string) (k := .i64) (j := (j : Int)) T_sl_string.und T_string.info T_string.size T_string.und rfl (by omega) r13
    have hx := (hS wl[j] (List.getElem_mem hjw)).1
    rw [hy] at hx
    simp only [show ((0 : Int) != 0) = false from rfl, e1, e2, l1, l2, neqStr, decide_true, popO_some, bindH_eq, condV_bool, condV_true, condV_false, yV_bool, gopV_tt, gopV_ff, gopV_tf, gopV_ft, pickV_t, pickV_f, pickV_bool, nilS_ptr, add_eq, sub_eq, mul_eq, lss_eq, leq_eq, gtr_eq, geq_eq, not_eq, minI_eq, maxI_eq, extract_0, extract_1, extract_2, eqlI, neqI, makeFunc_eq, decide_true, decide_false, if_true, if_false, Bool.false_eq_true, Bool.not_true, Bool.not_false, reduceIte, List.getElem?_toArray, List.getElem?_cons_zero, List.getElem?_cons_succ, Option.isSome_none, List.length_map]
    refine Pairs_ok (O4.ext u5).slR hx ?_
    simp only [gi, popO_some, bindH_eq, condV_bool, condV_true, condV_false, yV_bool, gopV_tt, gopV_ff, gopV_tf, gopV_ft, pickV_t, pickV_f, pickV_bool, nilS_ptr, add_eq, sub_eq, mul_eq, lss_eq, leq_eq, gtr_eq, geq_eq, not_eq, minI_eq, maxI_eq, extract_0, extract_1, extract_2, eqlI, neqI, makeFunc_eq, decide_true, decide_false, if_true, if_false, Bool.false_eq_true, Bool.not_true, Bool.not_false, reduceIte, List.getElem?_toArray, List.getElem?_cons_zero, List.getElem?_cons_succ, Option.isSome_none, List.length_map]
    refine ⟨⟨j + 1, by omega, rfl, (u1.trans u4).trans u5⟩, ?_⟩
    simp only [upTo, List.getElem?_cons_succ, List.getElem?_cons_zero]
    omega
  · have g1 : ((j : Int) < (s.blocks.length : Int)) = False := eq_false (by omega)
    obtain ⟨m, q1, q2⟩ := g
    have b2 := A.ok.h2
    have b4 := A.ok.h4
    rw [q1, List.length_append] at b2
    rw [q2] at b4
    have w1 : IntKind.u64.wrap ((s'.height : Int) - (s.height : Int)) = (m.length : Int) := by rw [q2, u64_wrap (by omega) (by omega)]; omega
    have w2 : IntKind.i64.wrap ((s'.blocks.length : Int) - (s.blocks.length : Int)) = (m.length : Int) := by rw [q1, List.length_append, i64_wrap (by omega) (by omega)]; omega
    have w3 : IntKind.u64.wrap (m.length : Int) = (m.length : Int) := u64_wrap (by omega) (by omega)
    simp only [g1, popO_some, bindH_eq, condV_bool, condV_true, condV_false, yV_bool, gopV_tt, gopV_ff, gopV_tf, gopV_ft, pickV_t, pickV_f, pickV_bool, nilS_ptr, add_eq, sub_eq, mul_eq, lss_eq, leq_eq, gtr_eq, geq_eq, not_eq, minI_eq, maxI_eq, extract_0, extract_1, extract_2, eqlI, neqI, makeFunc_eq, decide_true, decide_false, if_true, if_false, Bool.false_eq_true, Bool.not_true, Bool.not_false, reduceIte, List.getElem?_toArray, List.getElem?_cons_zero, List.getElem?_cons_succ, Option.isSome_none, List.length_map]
    refine Height_ok A ?_
    simp only [w1, popO_some, bindH_eq, condV_bool, condV_true, condV_false, yV_bool, gopV_tt, gopV_ff, gopV_tf, gopV_ft, pickV_t, pickV_f, pickV_bool, nilS_ptr, add_eq, sub_eq, mul_eq, lss_eq, leq_eq, gtr_eq, geq_eq, not_eq, minI_eq, maxI_eq, extract_0, extract_1, extract_2, eqlI, neqI, makeFunc_eq, decide_true, decide_false, if_true, if_false, Bool.false_eq_true, Bool.not_true, Bool.not_false, reduceIte, List.getElem?_toArray, List.getElem?_cons_zero, List.getElem?_cons_succ, Option.isSome_none, List.length_map]
    refine Blocks_ok A ?_
    simp only [w2, cv_int_u64, w3, beq_self_eq_true, popO_some, bindH_eq, condV_bool, condV_true, condV_false, yV_bool, gopV_tt, gopV_ff, gopV_tf, gopV_ft, pickV_t, pickV_f, pickV_bool, nilS_ptr, add_eq, sub_eq, mul_eq, lss_eq, leq_eq, gtr_eq, geq_eq, not_eq, minI_eq, maxI_eq, extract_0, extract_1, extract_2, eqlI, neqI, makeFunc_eq, decide_true, decide_false, if_true, if_false, Bool.false_eq_true, Bool.not_true, Bool.not_false, reduceIte, List.getElem?_toArray, List.getElem?_cons_zero, List.getElem?_cons_succ, Option.isSome_none, List.length_map]
    exact hk _ (u.trans u1)
set_option maxHeartbeats 1000000 in
theorem StoreKeeps_ok {h : PH} (hK : KAt h) (first : Nat) (hf : first < 18446744073709551616) {v w : Value} {l l2 : List Ac} (S : SlR h 3 v (l.map Ac.cells)) (T : SlR h 3 w (l2.map Ac.cells)) {k : Value → PH → Prop} (hk : ∀ h', Ext h h' → k (.bool true) h') :
    CallsH PG id_carracklaw11_StoreKeeps #[.int .u64 (first : Int), v, w] h k := by
  apply carracklaw11_StoreKeeps.call
  unfold carracklaw11_StoreKeeps
  refine awake_ok hK fun h1 u1 => ?_
  simp only [popO_some, bindH_eq, condV_bool, condV_true, condV_false, yV_bool, gopV_tt, gopV_ff, gopV_tf, gopV_ft, pickV_t, pickV_f, pickV_bool, nilS_ptr, add_eq, sub_eq, mul_eq, lss_eq, leq_eq, gtr_eq, geq_eq, not_eq, minI_eq, maxI_eq, extract_0, extract_1, extract_2, eqlI, neqI, makeFunc_eq, decide_true, decide_false, if_true, if_false, Bool.false_eq_true, Bool.not_true, Bool.not_false, reduceIte, List.getElem?_toArray, List.getElem?_cons_zero, List.getElem?_cons_succ, Option.isSome_none, List.length_map]
  refine few_ok (S.ext u1) (fun hfew => ?_) (fun _ => by simp only [popO_some, bindH_eq, condV_bool, condV_true, condV_false, yV_bool, gopV_tt, gopV_ff, gopV_tf, gopV_ft, pickV_t, pickV_f, pickV_bool, nilS_ptr, add_eq, sub_eq, mul_eq, lss_eq, leq_eq, gtr_eq, geq_eq, not_eq, minI_eq, maxI_eq, extract_0, extract_1, extract_2, eqlI, neqI, makeFunc_eq, decide_true, decide_false, if_true, if_false, Bool.false_eq_true, Bool.not_true, Bool.not_false, reduceIte, List.getElem?_toArray, List.getElem?_cons_zero, List.getElem?_cons_succ, Option.isSome_none, List.length_map]; exact hk _ u1)
  simp only [popO_some, bindH_eq, condV_bool, condV_true, condV_false, yV_bool, gopV_tt, gopV_ff, gopV_tf, gopV_ft, pickV_t, pickV_f, pickV_bool, nilS_ptr, add_eq, sub_eq, mul_eq, lss_eq, leq_eq, gtr_eq, geq_eq, not_eq, minI_eq, maxI_eq, extract_0, extract_1, extract_2, eqlI, neqI, makeFunc_eq, decide_true, decide_false, if_true, if_false, Bool.false_eq_true, Bool.not_true, Bool.not_false, reduceIte, List.getElem?_toArray, List.getElem?_cons_zero, List.getElem?_cons_succ, Option.isSome_none, List.length_map]
  refine few_ok (T.ext u1) (fun hfew2 => ?_) (fun _ => by simp only [popO_some, bindH_eq, condV_bool, condV_true, condV_false, yV_bool, gopV_tt, gopV_ff, gopV_tf, gopV_ft, pickV_t, pickV_f, pickV_bool, nilS_ptr, add_eq, sub_eq, mul_eq, lss_eq, leq_eq, gtr_eq, geq_eq, not_eq, minI_eq, maxI_eq, extract_0, extract_1, extract_2, eqlI, neqI, makeFunc_eq, decide_true, decide_false, if_true, if_false, Bool.false_eq_true, Bool.not_true, Bool.not_false, reduceIte, List.getElem?_toArray, List.getElem?_cons_zero, List.getElem?_cons_succ, Option.isSome_none, List.length_map]; exact hk _ u1)
  simp only [popO_some, bindH_eq, condV_bool, condV_true, condV_false, yV_bool, gopV_tt, gopV_ff, gopV_tf, gopV_ft, pickV_t, pickV_f, pickV_bool, nilS_ptr, add_eq, sub_eq, mul_eq, lss_eq, leq_eq, gtr_eq, geq_eq, not_eq, minI_eq, maxI_eq, extract_0, extract_1, extract_2, eqlI, neqI, makeFunc_eq, decide_true, decide_false, if_true, if_false, Bool.false_eq_true, Bool.not_true, Bool.not_false, reduceIte, List.getElem?_toArray, List.getElem?_cons_zero, List.getElem?_cons_succ, Option.isSome_none, List.length_map]
  refine StNew_ok first hf (hK.ext u1) fun a h2 F2 H2 f2 u2 => ?_
  refine RNew_ok first hf fun b h3 G3 R3 f3 u3 => ?_
  have D := duo_new H2 R3 f3 u3
  have e3 := (u1.trans u2).trans u3
  have fK : Fresh h (F2 ++ b :: G3) := fun x hx => by
    rcases List.mem_append.1 hx with hx | hx
    · exact u1.none (f2 x hx)
    · exact (u1.trans u2).none (f3 x hx)
  simp only [ptrNil, popO_some, bindH_eq, condV_bool, condV_true, condV_false, yV_bool, gopV_tt, gopV_ff, gopV_tf, gopV_ft, pickV_t, pickV_f, pickV_bool, nilS_ptr, add_eq, sub_eq, mul_eq, lss_eq, leq_eq, gtr_eq, geq_eq, not_eq, minI_eq, maxI_eq, extract_0, extract_1, extract_2, eqlI, neqI, makeFunc_eq, decide_true, decide_false, if_true, if_false, Bool.false_eq_true, Bool.not_true, Bool.not_false, reduceIte, List.getElem?_toArray, List.getElem?_cons_zero, List.getElem?_cons_succ, Option.isSome_none, List.length_map]
  have lv := S.len (t' := T_int) T_sl_carrackref11_Act.und
  rw [List.length_map] at lv
  have lw := T.len (t' := T_int) T_sl_carrackref11_Act.und
  rw [List.length_map] at lw
  have h60 := hfew.few
  have h60' := hfew2.few
  refine ⟨fun vs h' => ∃ (i : Nat) (s : St) (K : List Nat), i ≤ l.length ∧ vs = [v, w, .pointer (some ⟨a, 0, none⟩), .pointer (some ⟨b, 0, none⟩), .int .i64 (i : Int)] ∧ DuoAt h' a b s K ∧ Fresh h K ∧ Ext h h' ∧ s.blocks.length ≤ i + 1, upTo l.length 4, ⟨0, _, _, by omega, rfl, D, fK, e3, by simp⟩, ?_⟩
  rintro ρ h' ⟨i, s, K, hi, hvs, D, fK, u, sb⟩
  simp only [List.map_cons, List.map_nil, List.cons.injEq, and_true] at hvs
  obtain ⟨v1, v2, v7, v8, v9⟩ := hvs
  simp only [v1, v2, v7, v8, v9, List.map_cons, List.map_nil]
  unfold carracklaw11_StoreKeeps_b26
  obtain ⟨F, H, hFK⟩ := D.st
  by_cases hl : i < l.length
  · have g1 : ((i : Int) < (l.length : Int)) = True := eq_true (by omega)
    have gi : IntKind.i64.wrap ((i : Int) + 1) = ((i + 1 : Nat) : Int) := by rw [i64_wrap (by omega) (by omega)]; omega
    obtain ⟨pb, po, p1, -, -, p4⟩ := (S.ext u).act (j := i) (p := l[i]) (List.getElem?_eq_getElem hl)
    generalize l[i] = c at *
    simp only [lv, g1, p1, p4, popO_some, bindH_eq, condV_bool, condV_true, condV_false, yV_bool, gopV_tt, gopV_ff, gopV_tf, gopV_ft, pickV_t, pickV_f, pickV_bool, nilS_ptr, add_eq, sub_eq, mul_eq, lss_eq, leq_eq, gtr_eq, geq_eq, not_eq, minI_eq, maxI_eq, extract_0, extract_1, extract_2, eqlI, neqI, makeFunc_eq, decide_true, decide_false, if_true, if_false, Bool.false_eq_true, Bool.not_true, Bool.not_false, reduceIte, List.getElem?_toArray, List.getElem?_cons_zero, List.getElem?_cons_succ, Option.isSome_none, List.length_map]
    refine duo_ok (hK.ext u) D c fun h5 K5 D5 u5 k5 => ?_
    have e5 := u.fresh u5 fK
    have f5 := fK.grow u k5
    simp only [gi, popO_some, bindH_eq, condV_bool, condV_true, condV_false, yV_bool, gopV_tt, gopV_ff, gopV_tf, gopV_ft, pickV_t, pickV_f, pickV_bool, nilS_ptr, add_eq, sub_eq, mul_eq, lss_eq, leq_eq, gtr_eq, geq_eq, not_eq, minI_eq, maxI_eq, extract_0, extract_1, extract_2, eqlI, neqI, makeFunc_eq, decide_true, decide_false, if_true, if_false, Bool.false_eq_true, Bool.not_true, Bool.not_false, reduceIte, List.getElem?_toArray, List.getElem?_cons_zero, List.getElem?_cons_succ, Option.isSome_none, List.length_map]
    refine ⟨⟨i + 1, _, _, by omega, rfl, D5, f5, e5, ?_⟩, ?_⟩
    · rcases step_cases s c with ⟨q1, q2⟩ | ⟨q1, q2⟩
      · rw [q2]; omega
      · rw [q2, List.length_append]; simp; omega
    · simp only [upTo, List.getElem?_cons_succ, List.getElem?_cons_zero]
      omega
  · have g1 : ((i : Int) < (l.length : Int)) = False := eq_false (by omega)
    have hok := H.ok
    have a1 := hok.h1
    have a3 := hok.h3
    have a4 := hok.h4
    have g2 : ((s.blocks.length : Int) < 1) = False := eq_false (by omega)
    have g3 : ((100 : Int) < (s.blocks.length : Int)) = False := eq_false (by omega)
    simp only [lv, g1, popO_some, bindH_eq, condV_bool, condV_true, condV_false, yV_bool, gopV_tt, gopV_ff, gopV_tf, gopV_ft, pickV_t, pickV_f, pickV_bool, nilS_ptr, add_eq, sub_eq, mul_eq, lss_eq, leq_eq, gtr_eq, geq_eq, not_eq, minI_eq, maxI_eq, extract_0, extract_1, extract_2, eqlI, neqI, makeFunc_eq, decide_true, decide_false, if_true, if_false, Bool.false_eq_true, Bool.not_true, Bool.not_false, reduceIte, List.getElem?_toArray, List.getElem?_cons_zero, List.getElem?_cons_succ, Option.isSome_none, List.length_map]
    refine Height_ok H ?_
    refine Blocks_ok H ?_
    simp only [g2, g3, popO_some, bindH_eq, condV_bool, condV_true, condV_false, yV_bool, gopV_tt, gopV_ff, gopV_tf, gopV_ft, pickV_t, pickV_f, pickV_bool, nilS_ptr, add_eq, sub_eq, mul_eq, lss_eq, leq_eq, gtr_eq, geq_eq, not_eq, minI_eq, maxI_eq, extract_0, extract_1, extract_2, eqlI, neqI, makeFunc_eq, decide_true, decide_false, if_true, if_false, Bool.false_eq_true, Bool.not_true, Bool.not_false, reduceIte, List.getElem?_toArray, List.getElem?_cons_zero, List.getElem?_cons_succ, Option.isSome_none, List.length_map]
    -- what is seen
    refine ⟨fun vs h' => ∃ (j : Nat) (v12 v13 : Value) (wl : List (Value × List Pr)) (J : List Nat), j ≤ s.blocks.length ∧ vs = [w, .pointer (some ⟨a, 0, none⟩), .pointer (some ⟨b, 0, none⟩), .int .u64 (s.height : Int), .int .i64 (s.blocks.length : Int), v12, v13, .int .i64 (j : Int)] ∧ DuoAt h' a b s K ∧ Ext h h' ∧ Seen h' v12 v13 wl J ∧ Fresh h J ∧ (∀ x ∈ J, x ∉ K) ∧ wl.map (·.2) = (List.range j).map (back s), upTo s.blocks.length 7, ⟨0, _, _, [], [], by omega, rfl, D, u, ⟨[], [], [], OwnR.nil, OwnR.nil, by simp, by simp, by simp, by simp, rfl⟩, (fun x hx => by cases hx), by simp, rfl⟩, ?_⟩
    clear D u H
    rintro ρ2 h2' ⟨j, v12, v13, wl, J, hj, hvs, D, u, W, fJ, hJK, hw⟩
    simp only [List.map_cons, List.map_nil, List.cons.injEq, and_true] at hvs
    obtain ⟨w2, w7, w8, w10, w11, w12, w13, w14⟩ := hvs
    simp only [w2, w7, w8, w10, w11, w12, w13, w14, List.map_cons, List.map_nil]
    unfold carracklaw11_StoreKeeps_b48
    obtain ⟨F, H, hFK⟩ := D.st
    by_cases hl : j < s.blocks.length
    · have g1 : ((j : Int) < (s.blocks.length : Int)) = True := eq_true (by omega)
      have gi : IntKind.i64.wrap ((j : Int) + 1) = ((j + 1 : Nat) : Int) := by rw [i64_wrap (by omega) (by omega)]; omega
      have gj : IntKind.u64.wrap (j : Int) = (j : Int) := u64_wrap (by omega) (by omega)
      have gh : IntKind.u64.wrap ((s.height : Int) - (j : Int)) = ((s.height - j : Nat) : Int) := by rw [u64_wrap (by omega) (by omega)]; omega
      have hat := sAt_back hok hl
      have hblk := hok.blk _ (List.mem_of_getElem? (sAt_lt hat).2)
      simp only [g1, cv_int_u64, gj, gh, popO_some, bindH_eq, condV_bool, condV_true, condV_false, yV_bool, gopV_tt, gopV_ff, gopV_tf, gopV_ft, pickV_t, pickV_f, pickV_bool, nilS_ptr, add_eq, sub_eq, mul_eq, lss_eq, leq_eq, gtr_eq, geq_eq, not_eq, minI_eq, maxI_eq, extract_0, extract_1, extract_2, eqlI, neqI, makeFunc_eq, decide_true, decide_false, if_true, if_false, Bool.false_eq_true, Bool.not_true, Bool.not_false, reduceIte, List.getElem?_toArray, List.getElem?_cons_zero, List.getElem?_cons_succ, Option.isSome_none, List.length_map]
      refine At_ok H (s.height - j) (by omega) (fun hx => by rw [hat] at hx; cases hx) (fun b4 v4 h4 F4 e4 O4 f4 u4 => ?_)
      rw [hat] at e4
      obtain rfl := Option.some.inj e4
      simp only [popO_some, bindH_eq, condV_bool, condV_true, condV_false, yV_bool, gopV_tt, gopV_ff, gopV_tf, gopV_ft, pickV_t, pickV_f, pickV_bool, nilS_ptr, add_eq, sub_eq, mul_eq, lss_eq, leq_eq, gtr_eq, geq_eq, not_eq, minI_eq, maxI_eq, extract_0, extract_1, extract_2, eqlI, neqI, makeFunc_eq, decide_true, decide_false, if_true, if_false, Bool.false_eq_true, Bool.not_true, Bool.not_false, reduceIte, List.getElem?_toArray, List.getElem?_cons_zero, List.getElem?_cons_succ, Option.isSome_none, List.length_map]
      refine StRoot_ok (H.ext u4) (s.height - j) (by omega) (fun hx => by rw [hat] at hx; cases hx) (fun b5 h5 e5 u5 => ?_)
      rw [hat] at e5
      obtain rfl := Option.some.inj e5
      simp only [show ((0 : Int) != 0) = false from rfl, popO_some, bindH_eq, condV_bool, condV_true, condV_false, yV_bool, gopV_tt, gopV_ff, gopV_tf, gopV_ft, pickV_t, pickV_f, pickV_bool, nilS_ptr, add_eq, sub_eq, mul_eq, lss_eq, leq_eq, gtr_eq, geq_eq, not_eq, minI_eq, maxI_eq, extract_0, extract_1, extract_2, eqlI, neqI, makeFunc_eq, decide_true, decide_false, if_true, if_false, Bool.false_eq_true, Bool.not_true, Bool.not_false, reduceIte, List.getElem?_toArray, List.getElem?_cons_zero, List.getElem?_cons_succ, Option.isSome_none, List.length_map]
      have O5 := O4.ext u5
      refine Check_ok O5.slR (fun _ h6 u6 => ?_) (fun hn => absurd (hblk.1.good hblk.2.1 hblk.2.2) hn)
      simp only [show ((0 : Int) != 0) = false from rfl, popO_some, bindH_eq, condV_bool, condV_true, condV_false, yV_bool, gopV_tt, gopV_ff, gopV_tf, gopV_ft, pickV_t, pickV_f, pickV_bool, nilS_ptr, add_eq, sub_eq, mul_eq, lss_eq, leq_eq, gtr_eq, geq_eq, not_eq, minI_eq, maxI_eq, extract_0, extract_1, extract_2, eqlI, neqI, makeFunc_eq, decide_true, decide_false, if_true, if_false, Bool.false_eq_true, Bool.not_true, Bool.not_false, reduceIte, List.getElem?_toArray, List.getElem?_cons_zero, List.getElem?_cons_succ, Option.isSome_none, List.length_map]
      have O6 := O5.ext u6
      have e6 := ((u.trans u4).trans u5).trans u6
      refine Root_ok (by have := hblk.2.2; omega) (hK.ext e6) O6.slR (fun p hp => by have := hblk.2.1 p hp; unfold Fit at this; omega) fun h7 u7 => ?_
      simp only [neqStr, decide_true, popO_some, bindH_eq, condV_bool, condV_true, condV_false, yV_bool, gopV_tt, gopV_ff, gopV_tf, gopV_ft, pickV_t, pickV_f, pickV_bool, nilS_ptr, add_eq, sub_eq, mul_eq, lss_eq, leq_eq, gtr_eq, geq_eq, not_eq, minI_eq, maxI_eq, extract_0, extract_1, extract_2, eqlI, neqI, makeFunc_eq, decide_true, decide_false, if_true, if_false, Bool.false_eq_true, Bool.not_true, Bool.not_false, reduceIte, List.getElem?_toArray, List.getElem?_cons_zero, List.getElem?_cons_succ, Option.isSome_none, List.length_map]
      have O7 := O6.ext u7
      have e7 := e6.trans u7
      have ue : Ext h2' h7 := ((u4.trans u5).trans u6).trans u7
      have W7 := W.ext ue
      have D7 := D.ext ue
      have hfF4 : ∀ g ∈ F4, h2' g = none := f4
      have hvs4 : ∃ x n c, v4 = .slice x n c := by obtain ⟨x, c, e, _⟩ := O4.slR.here; exact ⟨x, _, c, e⟩
      have l1 : SemA PG (Instr.buildSlice T_sl_sl_api_Pair 1 #[(0, v4)]) = some (.cells #[v4] T_sl_api_Pair, fun r => pure (.slice (some ⟨r, 0, none⟩) 1 1)) := by
        obtain ⟨x, n, c, rfl⟩ := hvs4
        kernel_rfl
      have l2 : SemA PG (Instr.buildSlice T_sl_string 1 #[(0, .string (tx (rootP (back s j))))]) = some (.cells #[.string (tx (rootP (back s j)))] T_string, fun r => pure (.slice (some ⟨r, 0, none⟩) 1 1)) := by kernel_rfl
      have hwn : wl.length = j := by have := congrArg List.length hw; simpa using this
      have fin4 : ∀ x ∈ J, x ∉ F4 := fun x hx hm => W.known x hx (hfF4 x hm)
      obtain ⟨F12, F13, G, O12, O13, hS, hGk, h1213, hG12, rfl⟩ := W7.here
      simp only [l1, popO_some, bindH_eq, condV_bool, condV_true, condV_false, yV_bool, gopV_tt, gopV_ff, gopV_tf, gopV_ft, pickV_t, pickV_f, pickV_bool, nilS_ptr, add_eq, sub_eq, mul_eq, lss_eq, leq_eq, gtr_eq, geq_eq, not_eq, minI_eq, maxI_eq, extract_0, extract_1, extract_2, eqlI, neqI, makeFunc_eq, decide_true, decide_false, if_true, if_false, Bool.false_eq_true, Bool.not_true, Bool.not_false, reduceIte, List.getElem?_toArray, List.getElem?_cons_zero, List.getElem?_cons_succ, Option.isSome_none, List.length_map]
      intro r1 hr1
      refine popO_pure ?_
      try rw [bindH_eq]
      have u8 : Ext h7 (h7.set r1 (.cells #[v4] T_sl_api_Pair)) := Upd.new hr1
      have s8 : SlR (h7.set r1 (.cells #[v4] T_sl_api_Pair)) 1 (.slice (some ⟨r1, 0, none⟩) 1 1) ([((v4 : Value), back s j)].map vcell) := (OwnR.lit (n := 1) (vcell.rows [(v4, back s j)]) set_same (by simp) (by decide) rfl).slR
      generalize h7.set r1 (.cells #[v4] T_sl_api_Pair) = h8 at *
      refine app_v (O12.ext u8) s8 (fun y hy => by simp only [List.mem_singleton] at hy; subst hy; exact O4.slR.isc) (by simp; omega) fun v12' h9 F12' O12' u9 k9 => ?_
      have e8 := e7.trans u8
      have fJ12 : Fresh h F12 := fun x hx => fJ x (by simp [hx])
      have e9 := e8.fresh u9 fJ12
      simp only [l2, popO_some, bindH_eq, condV_bool, condV_true, condV_false, yV_bool, gopV_tt, gopV_ff, gopV_tf, gopV_ft, pickV_t, pickV_f, pickV_bool, nilS_ptr, add_eq, sub_eq, mul_eq, lss_eq, leq_eq, gtr_eq, geq_eq, not_eq, minI_eq, maxI_eq, extract_0, extract_1, extract_2, eqlI, neqI, makeFunc_eq, decide_true, decide_false, if_true, if_false, Bool.false_eq_true, Bool.not_true, Bool.not_false, reduceIte, List.getElem?_toArray, List.getElem?_cons_zero, List.getElem?_cons_succ, Option.isSome_none, List.length_map]
      intro r2 hr2
      refine popO_pure ?_
      try rw [bindH_eq]
      have u10 : Ext h9 (h9.set r2 (.cells #[.string (tx (rootP (back s j)))] T_string)) := Upd.new hr2
      have s10 : SlR (h9.set r2 (.cells #[.string (tx (rootP (back s j)))] T_string)) 1 (.slice (some ⟨r2, 0, none⟩) 1 1) ([rootP (back s j)].map scell) := (OwnR.lit (n := 1) (scell.rows [rootP (back s j)]) set_same (by simp) (by decide) rfl).slR
      generalize h9.set r2 (.cells #[.string (tx (rootP (back s j)))] T_string) = h10 at *
      have e10 := e9.trans u10
      have d13 : ∀ g ∈ F13, g ∉ F12 := fun g hg hm => h1213 g hm hg
      refine app_s (((O13.ext u8).upd u9 d13).ext u10) s10 (by simp; omega) fun v13' h11 F13' O13' u11 k11 => ?_
      have fJ13 : Fresh h F13 := fun x hx => fJ x (by simp [hx])
      have e11 := e10.fresh u11 fJ13
      simp only [gi, popO_some, bindH_eq, condV_bool, condV_true, condV_false, yV_bool, gopV_tt, gopV_ff, gopV_tf, gopV_ft, pickV_t, pickV_f, pickV_bool, nilS_ptr, add_eq, sub_eq, mul_eq, lss_eq, leq_eq, gtr_eq, geq_eq, not_eq, minI_eq, maxI_eq, extract_0, extract_1, extract_2, eqlI, neqI, makeFunc_eq, decide_true, decide_false, if_true, if_false, Bool.false_eq_true, Bool.not_true, Bool.not_false, reduceIte, List.getElem?_toArray, List.getElem?_cons_zero, List.getElem?_cons_succ, Option.isSome_none, List.length_map]
      -- all that was seen stands
      have uJ : Upd (F12 ++ F13) h7 h11 := ((u8.upd.trans (u9.mono fun b hb => .inl (by simp [hb]))).trans u10.upd).trans (u11.mono fun b hb => .inl (by simp [hb]))
      have f12' : Fresh h F12' := fJ12.grow e8 k9
      have f13' : Fresh h F13' := fJ13.grow e10 k11
      have kn7 : ∀ g, h7 g ≠ none → h8 g ≠ none := fun g hg => by
        obtain ⟨o, ho⟩ := Option.ne_none_iff_exists'.1 hg
        rw [u8.get ho]; simp
      have kn10 : ∀ g, h7 g ≠ none → g ∉ F12 → h10 g ≠ none := fun g hg hn => by
        obtain ⟨o, ho⟩ := Option.ne_none_iff_exists'.1 hg
        rw [u10.get (u9.get (u8.get ho) hn)]; simp
      have no12 : ∀ g, h7 g ≠ none → g ∉ F12 → g ∉ F12' := fun g hg hn hm => by
        rcases k9 g hm with h1 | h1
        · exact hn h1
        · exact kn7 g hg h1
      have no13 : ∀ g, h7 g ≠ none → g ∉ F12 → g ∉ F13 → g ∉ F13' := fun g hg hn1 hn2 hm => by
        rcases k11 g hm with h1 | h1
        · exact hn2 h1
        · exact kn10 g hg hn1 h1
      have hF4k : ∀ g ∈ F4, h7 g ≠ none := O7.known
      have hF4n : ∀ g ∈ F4, g ∉ F12 ∧ g ∉ F13 := fun g hg => ⟨fun hm => fin4 g (by simp [hm]) hg, fun hm => fin4 g (by simp [hm]) hg⟩
      have hGn : ∀ g ∈ G ++ F4, h7 g ≠ none ∧ g ∉ F12 ∧ g ∉ F13 := fun g hg => by
        rcases List.mem_append.1 hg with hg | hg
        · exact ⟨hGk g hg, hG12 g hg⟩
        · exact ⟨hF4k g hg, hF4n g hg⟩
      have hK7 := D7.known
      have hKn : ∀ x ∈ K, x ∉ F12 ∧ x ∉ F13 := fun x hx => ⟨fun hm => hJK x (by simp [hm]) hx, fun hm => hJK x (by simp [hm]) hx⟩
      have D11 : DuoAt h11 a b s K := D7.upd uJ (fun x hx hm => by
        rcases List.mem_append.1 hm with hm | hm
        · exact (hKn x hx).1 hm
        · exact (hKn x hx).2 hm)
      have upS : ∀ {y : Value} {m : List Pr}, SlR h7 2 y (m.map Pr.cells) → inBlocks y (G ++ F4) → SlR h11 2 y (m.map Pr.cells) := fun hS hin => hS.upd uJ fun x n c e hm => by
        have := hGn _ (hin x n c e)
        rcases List.mem_append.1 hm with hm | hm
        · exact this.2.1 hm
        · exact this.2.2 hm
      have k12h : ∀ g ∈ F12', h10 g ≠ none := fun g hg => by
        have := (O12'.ext u10).known g hg
        exact this
      refine ⟨⟨j + 1, v12', v13', wl ++ [(v4, back s j)], F12' ++ (F13' ++ (G ++ F4)), by omega, rfl, D11, e11, ⟨F12', F13', G ++ F4, ?_, ?_, ?_, ?_, ?_, ?_, rfl⟩, ?_, ?_, ?_⟩, ?_⟩
      · exact (O12'.ext u10).upd u11 (fun g hg hm => by
          rcases k9 g hg with h1 | h1
          · exact h1213 g h1 hm
          · exact (O13.ext u8).known g hm h1)
      · rw [List.map_append]; exact O13'
      · intro y hy
        rw [List.mem_append] at hy
        rcases hy with hy | hy
        · have hin : inBlocks y.1 (G ++ F4) := fun x n c e => List.mem_append_left _ ((hS y hy).2 x n c e)
          exact ⟨upS (hS y hy).1 hin, hin⟩
        · simp only [List.mem_singleton] at hy
          subst hy
          have hin : inBlocks v4 (G ++ F4) := fun x n c e => List.mem_append_right _ (inB_own O4 x n c e)
          exact ⟨upS O7.slR hin, hin⟩
      · intro g hg
        have := hGn g hg
        obtain ⟨o, ho⟩ := Option.ne_none_iff_exists'.1 this.1
        rw [uJ.get ho (fun hm => by
          rcases List.mem_append.1 hm with hm | hm
          · exact this.2.1 hm
          · exact this.2.2 hm)]
        simp
      · intro g hg hm
        rcases k11 g hm with h1 | h1
        · rcases k9 g hg with h2 | h2
          · exact h1213 g h2 h1
          · exact (O13.ext u8).known g h1 h2
        · exact k12h g hg h1
      · intro g hg
        have := hGn g hg
        exact ⟨no12 g this.1 this.2.1, no13 g this.1 this.2.1 this.2.2⟩
      · intro x hx
        simp only [List.mem_append] at hx
        rcases hx with hx | hx | hx | hx
        · exact f12' x hx
        · exact f13' x hx
        · exact fJ x (by simp [hx])
        · exact u.none (hfF4 x hx)
      · intro x hx hm
        have hk7 := hK7 x hm
        have hkn := hKn x hm
        simp only [List.mem_append] at hx
        rcases hx with hx | hx | hx | hx
        · exact no12 x hk7 hkn.1 hx
        · exact no13 x hk7 hkn.1 hkn.2 hx
        · exact hJK x (by simp [hx]) hm
        · exact D.known x hm (hfF4 x hx)
      · rw [List.map_append, hw, List.range_succ, List.map_append]; rfl
      · simp only [upTo, List.getElem?_cons_succ, List.getElem?_cons_zero]
        omega
    · have g1 : ((j : Int) < (s.blocks.length : Int)) = False := eq_false (by omega)
      have hje : j = s.blocks.length := by omega
      subst hje
      simp only [g1, popO_some, bindH_eq, condV_bool, condV_true, condV_false, yV_bool, gopV_tt, gopV_ff, gopV_tf, gopV_ft, pickV_t, pickV_f, pickV_bool, nilS_ptr, add_eq, sub_eq, mul_eq, lss_eq, leq_eq, gtr_eq, geq_eq, not_eq, minI_eq, maxI_eq, extract_0, extract_1, extract_2, eqlI, neqI, makeFunc_eq, decide_true, decide_false, if_true, if_false, Bool.false_eq_true, Bool.not_true, Bool.not_false, reduceIte, List.getElem?_toArray, List.getElem?_cons_zero, List.getElem?_cons_succ, Option.isSome_none, List.length_map]
      -- more
      refine ⟨fun vs h' => ∃ (i : Nat) (s' : St) (K : List Nat), i ≤ l2.length ∧ vs = [w, .pointer (some ⟨a, 0, none⟩), .pointer (some ⟨b, 0, none⟩), .int .u64 (s.height : Int), .int .i64 (s.blocks.length : Int), v12, v13, .int .i64 (i : Int)] ∧ DuoAt h' a b s' K ∧ Fresh h K ∧ Ext h h' ∧ Grown s s' ∧ Seen h' v12 v13 wl J ∧ (∀ x ∈ J, x ∉ K), upTo l2.length 7, ⟨0, s, K, by omega, rfl, D, fK, u, Grown.refl s, W, hJK⟩, ?_⟩
      clear D u H W hJK fK
      rintro ρ3 h3' ⟨i, s', K', hi, hvs, D, fK, u, hgr, W, hJK⟩
      simp only [List.map_cons, List.map_nil, List.cons.injEq, and_true] at hvs
      obtain ⟨z2, z7, z8, z10, z11, z12, z13, z19⟩ := hvs
      simp only [z2, z7, z8, z10, z11, z12, z13, z19, List.map_cons, List.map_nil]
      unfold carracklaw11_StoreKeeps_b114
      by_cases hl : i < l2.length
      · have g1 : ((i : Int) < (l2.length : Int)) = True := eq_true (by omega)
        have gi : IntKind.i64.wrap ((i : Int) + 1) = ((i + 1 : Nat) : Int) := by rw [i64_wrap (by omega) (by omega)]; omega
        obtain ⟨pb, po, p1, -, -, p4⟩ := (T.ext u).act (j := i) (p := l2[i]) (List.getElem?_eq_getElem hl)
        generalize l2[i] = c at *
        simp only [lw, g1, p1, p4, popO_some, bindH_eq, condV_bool, condV_true, condV_false, yV_bool, gopV_tt, gopV_ff, gopV_tf, gopV_ft, pickV_t, pickV_f, pickV_bool, nilS_ptr, add_eq, sub_eq, mul_eq, lss_eq, leq_eq, gtr_eq, geq_eq, not_eq, minI_eq, maxI_eq, extract_0, extract_1, extract_2, eqlI, neqI, makeFunc_eq, decide_true, decide_false, if_true, if_false, Bool.false_eq_true, Bool.not_true, Bool.not_false, reduceIte, List.getElem?_toArray, List.getElem?_cons_zero, List.getElem?_cons_succ, Option.isSome_none, List.length_map]
        refine duo_ok (hK.ext u) D c fun h5 K5 D5 u5 k5 => ?_
        have e5 := u.fresh u5 fK
        have f5 := fK.grow u k5
        simp only [gi, popO_some, bindH_eq, condV_bool, condV_true, condV_false, yV_bool, gopV_tt, gopV_ff, gopV_tf, gopV_ft, pickV_t, pickV_f, pickV_bool, nilS_ptr, add_eq, sub_eq, mul_eq, lss_eq, leq_eq, gtr_eq, geq_eq, not_eq, minI_eq, maxI_eq, extract_0, extract_1, extract_2, eqlI, neqI, makeFunc_eq, decide_true, decide_false, if_true, if_false, Bool.false_eq_true, Bool.not_true, Bool.not_false, reduceIte, List.getElem?_toArray, List.getElem?_cons_zero, List.getElem?_cons_succ, Option.isSome_none, List.length_map]
        refine ⟨⟨i + 1, _, _, by omega, rfl, D5, f5, e5, hgr.step c, W.upd u5 hJK, fun x hx hm => not_two (fun y hy hz => hJK y hz hy) k5 W.known x hm hx⟩, ?_⟩
        simp only [upTo, List.getElem?_cons_succ, List.getElem?_cons_zero]
        omega
      · have g1 : ((i : Int) < (l2.length : Int)) = False := eq_false (by omega)
        simp only [lw, g1, popO_some, bindH_eq, condV_bool, condV_true, condV_false, yV_bool, gopV_tt, gopV_ff, gopV_tf, gopV_ft, pickV_t, pickV_f, pickV_bool, nilS_ptr, add_eq, sub_eq, mul_eq, lss_eq, leq_eq, gtr_eq, geq_eq, not_eq, minI_eq, maxI_eq, extract_0, extract_1, extract_2, eqlI, neqI, makeFunc_eq, decide_true, decide_false, if_true, if_false, Bool.false_eq_true, Bool.not_true, Bool.not_false, reduceIte, List.getElem?_toArray, List.getElem?_cons_zero, List.getElem?_cons_succ, Option.isSome_none, List.length_map]
        exact keeps_end hK hok D hgr W hw hJK u hk
end Go.Proofs.YtllopddcpkhfjaaDoor
