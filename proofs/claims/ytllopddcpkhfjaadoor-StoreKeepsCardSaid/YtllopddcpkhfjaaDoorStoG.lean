/- store: the document's store: Set, Delete, Commit; a call of both. -/
import Derived.Test.YtllopddcpkhfjaaDoorStoF
set_option linter.unusedSimpArgs false
set_option linter.unusedVariables false
namespace Go.Proofs.YtllopddcpkhfjaaDoor
open Go Bld
set_option maxRecDepth 20000
theorem b0_lit : SemA PG (Instr.buildSlice T_sl_api_Pair 0 #[]) = some (.cells #[] T_api_Pair, fun r => pure (.slice (some ⟨r, 0, none⟩) 0 0)) := by kernel_rfl
theorem app_pr {h : PH} {v x : Value} {l ys : List Pr} {F : List Nat} (O : OwnR h T_api_Pair 2 v (l.map Pr.cells) F) (S : SlR h 2 x (ys.map Pr.cells)) (hl : l.length + ys.length ≤ 1000000) {t : TypeId} {k : Value → PH → Prop}
    (hk : ∀ v' h' F', OwnR h' T_api_Pair 2 v' ((l ++ ys).map Pr.cells) F' → Upd F h h' → (∀ b ∈ F', b ∈ F ∨ h b = none) → k v' h') : SemH PG (Builtin.append_ #[T_sl_api_Pair, T_sl_api_Pair] t #[v, x]) h k := by
  refine append_own T_sl_api_Pair.und T_sl_api_Pair.und T_api_Pair.info T_api_Pair.size T_api_Pair.bytes T_api_Pair.zero rfl (by decide) O S (Pr.isCell ys) (by simp; omega) ?_
  intro v' h' F' O' u' k' _
  rw [← List.map_append] at O'
  exact hk v' h' F' O' u' k'
/-- The new pairs are laid. -/
theorem RfAt.now {h h1 h' : PH} {b : Nat} {s : St} {G F : List Nat} {n : List Pr} {nv bv v : Value} (H : RfAt h b s G) (hb : h b = some (.cells #[nv, .int .u64 ((s.height - (s.blocks.length - 1) : Nat) : Int), bv] T_carrackref11_Store (0, 0))) (u : Ext h h1) (O : OwnR h1 T_api_Pair 2 v (n.map Pr.cells) F) (fF : Fresh h F) (hok : St.Ok { s with now := n })
    (e : h' = h1.set b (.cells #[v, .int .u64 ((s.height - (s.blocks.length - 1) : Nat) : Int), bv] T_carrackref11_Store (0, 0))) : RfAt h' b { s with now := n } (G ++ F) ∧ Upd [b] h h' ∧ (∀ g ∈ G ++ F, g ∈ G ∨ h g = none) := by
  subst e
  obtain ⟨nv', bv', bl, h1', h2, h3, h4, h5, h6, h7, h8, h9⟩ := H.here
  rw [hb] at h1'
  simp only [Option.some.injEq, Obj.cells.injEq, Array.mk.injEq, List.cons.injEq, and_true, true_and] at h1'
  obtain ⟨rfl, rfl⟩ := h1'
  have uu : Upd [b] h (h1.set b (.cells #[v, .int .u64 ((s.height - (s.blocks.length - 1) : Nat) : Int), bv] T_carrackref11_Store (0, 0))) := u.upd.trans (Upd.set (by simp))
  have hG : ∀ g ∈ G, g ∉ [b] := fun g hg => by simp only [List.mem_singleton]; rintro rfl; exact h8 hg
  have hF : ∀ g ∈ F, g ∉ [b] := fun g hg => by
    simp only [List.mem_singleton]; rintro rfl
    have := fF _ hg
    rw [hb] at this; cases this
  have O' := O.upd (Upd.set (F := [b]) (r := b) (o := (.cells #[v, .int .u64 ((s.height - (s.blocks.length - 1) : Nat) : Int), bv] T_carrackref11_Store (0, 0))) (by simp)) hF
  refine ⟨⟨⟨v, bv, bl, set_same, O'.slR, h3.upd uu fun a n c e => hG _ (h7 a n c e), fun x hx => ⟨(h4 x hx).1.upd uu fun a n c e => hG _ ((h4 x hx).2 a n c e), fun a n c e => List.mem_append_left _ ((h4 x hx).2 a n c e)⟩, h5, fun a n c e => List.mem_append_right _ (inB_own O' a n c e), fun a n c e => List.mem_append_left _ (h7 a n c e), ?_, fun g hg => ?_⟩, hok⟩, uu, fun g hg => ?_⟩
  · intro hm
    rcases List.mem_append.1 hm with hm | hm
    · exact h8 hm
    · exact hF _ hm (by simp)
  · rcases List.mem_append.1 hg with hg | hg
    · obtain ⟨o, ho⟩ := Option.ne_none_iff_exists'.1 (h9 g hg)
      rw [uu.get ho (hG g hg)]; simp
    · exact O'.known g hg
  · rcases List.mem_append.1 hg with hg | hg
    · exact .inl hg
    · exact .inr (fF g hg)
theorem RSet_ok {h : PH} {b : Nat} {s : St} {G : List Nat} (H : RfAt h b s G) (k v : Tx) {kk : Value → PH → Prop} (hk : ∀ h' G', RfAt h' b (sSet s k v).1 G' → Upd [b] h h' → (∀ g ∈ G', g ∈ G ∨ h g = none) → kk (.int .i64 (sSet s k v).2) h') :
    CallsH PG id_carrackref11_Store_Set #[.pointer (some ⟨b, 0, none⟩), .string (tx k), .string (tx v)] h kk := by
  apply carrackref11_Store_Set.call
  unfold carrackref11_Store_Set
  have fin1 : (k.length < 1 ∨ 16 < k.length ∨ 64 < v.length) → kk (.int .i64 1) h := fun hb => by
    have := hk h G (by unfold sSet; rw [if_pos hb]; exact H) Upd.refl (fun g hg => .inl hg)
    unfold sSet at this
    rw [if_pos hb] at this
    exact this
  by_cases d1 : k.length < 1
  · have g1 : ((k.length : Int) == 0) = true := by simp; exact List.eq_nil_of_length_eq_zero (by omega)
    simp only [T_string.len, tx_size, g1, popO_some, bindH_eq, condV_bool, condV_true, condV_false, yV_bool, gopV_tt, gopV_ff, gopV_tf, gopV_ft, pickV_t, pickV_f, pickV_bool, nilS_ptr, add_eq, sub_eq, mul_eq, lss_eq, leq_eq, gtr_eq, geq_eq, not_eq, minI_eq, maxI_eq, extract_0, extract_1, extract_2, eqlI, neqI, makeFunc_eq, decide_true, decide_false, if_true, if_false, Bool.false_eq_true, Bool.not_true, Bool.not_false, reduceIte, List.getElem?_toArray, List.getElem?_cons_zero, List.getElem?_cons_succ, Option.isSome_none, List.length_map]
    exact fin1 (.inl d1)
  have g1 : ((k.length : Int) == 0) = false := by simp; rintro rfl; simp at d1
  by_cases d2 : 16 < k.length
  · have g2 : ((16 : Int) < (k.length : Int)) = True := eq_true (by omega)
    simp only [T_string.len, tx_size, g1, g2, popO_some, bindH_eq, condV_bool, condV_true, condV_false, yV_bool, gopV_tt, gopV_ff, gopV_tf, gopV_ft, pickV_t, pickV_f, pickV_bool, nilS_ptr, add_eq, sub_eq, mul_eq, lss_eq, leq_eq, gtr_eq, geq_eq, not_eq, minI_eq, maxI_eq, extract_0, extract_1, extract_2, eqlI, neqI, makeFunc_eq, decide_true, decide_false, if_true, if_false, Bool.false_eq_true, Bool.not_true, Bool.not_false, reduceIte, List.getElem?_toArray, List.getElem?_cons_zero, List.getElem?_cons_succ, Option.isSome_none, List.length_map]
    exact fin1 (.inr (.inl d2))
  have g2 : ((16 : Int) < (k.length : Int)) = False := eq_false (by omega)
  by_cases d3 : 64 < v.length
  · have g3 : ((64 : Int) < (v.length : Int)) = True := eq_true (by omega)
    simp only [T_string.len, tx_size, g1, g2, g3, popO_some, bindH_eq, condV_bool, condV_true, condV_false, yV_bool, gopV_tt, gopV_ff, gopV_tf, gopV_ft, pickV_t, pickV_f, pickV_bool, nilS_ptr, add_eq, sub_eq, mul_eq, lss_eq, leq_eq, gtr_eq, geq_eq, not_eq, minI_eq, maxI_eq, extract_0, extract_1, extract_2, eqlI, neqI, makeFunc_eq, decide_true, decide_false, if_true, if_false, Bool.false_eq_true, Bool.not_true, Bool.not_false, reduceIte, List.getElem?_toArray, List.getElem?_cons_zero, List.getElem?_cons_succ, Option.isSome_none, List.length_map]
    exact fin1 (.inr (.inr d3))
  have g3 : ((64 : Int) < (v.length : Int)) = False := eq_false (by omega)
  have hr : ¬ (k.length < 1 ∨ 16 < k.length ∨ 64 < v.length) := by omega
  have hok := H.ok
  have hH := H
  obtain ⟨A, M, B, c⟩ := hok.up.cut k
  obtain ⟨nv, bv, bl, h1, h2, h3, h4, h5, h6, h7, h8, h9⟩ := H.here
  have c0 : cellH h ⟨b, 0, none⟩ = some nv := by simp [cellH, h1]
  have hlen : s.now.length = A.length + (M.length + B.length) := by rw [c.eq]; simp
  have hfew := hok.few
  have hget := c.get hok.up
  simp only [T_string.len, tx_size, g1, g2, g3, popO_some, bindH_eq, condV_bool, condV_true, condV_false, yV_bool, gopV_tt, gopV_ff, gopV_tf, gopV_ft, pickV_t, pickV_f, pickV_bool, nilS_ptr, add_eq, sub_eq, mul_eq, lss_eq, leq_eq, gtr_eq, geq_eq, not_eq, minI_eq, maxI_eq, extract_0, extract_1, extract_2, eqlI, neqI, makeFunc_eq, decide_true, decide_false, if_true, if_false, Bool.false_eq_true, Bool.not_true, Bool.not_false, reduceIte, List.getElem?_toArray, List.getElem?_cons_zero, List.getElem?_cons_succ, Option.isSome_none, List.length_map]
  refine find_ok H c ?_
  obtain ⟨w1, x1, x2⟩ := h2.cutP (lo := some (.int .i64 (A.length : Int))) (hi := none) (a := A.length) (m := s.now.length) (.inr ⟨_, rfl⟩) (.inl ⟨rfl, rfl⟩) (by omega) (Nat.le_refl _)
  rw [List.take_length] at x2
  simp only [T_carrackref11_Store.f0, T_sl_api_Pair.load, c0, x1, popO_some, bindH_eq, condV_bool, condV_true, condV_false, yV_bool, gopV_tt, gopV_ff, gopV_tf, gopV_ft, pickV_t, pickV_f, pickV_bool, nilS_ptr, add_eq, sub_eq, mul_eq, lss_eq, leq_eq, gtr_eq, geq_eq, not_eq, minI_eq, maxI_eq, extract_0, extract_1, extract_2, eqlI, neqI, makeFunc_eq, decide_true, decide_false, if_true, if_false, Bool.false_eq_true, Bool.not_true, Bool.not_false, reduceIte, List.getElem?_toArray, List.getElem?_cons_zero, List.getElem?_cons_succ, Option.isSome_none, List.length_map]
  -- what is left, laid
  have fin : ∀ t9, SlR h 2 t9 (B.map Pr.cells) → ¬ (getL s.now k = none ∧ 4096 ≤ s.now.length) → carrackref11_Store_Set_k40 kk (.pointer (some ⟨b, 0, none⟩)) (.string (tx k)) (.string (tx v)) (.int .i64 (A.length : Int)) t9 h := by
    intro t9 S9 hc
    unfold carrackref11_Store_Set_k40
    simp only [b0_lit, popO_some, bindH_eq, condV_bool, condV_true, condV_false, yV_bool, gopV_tt, gopV_ff, gopV_tf, gopV_ft, pickV_t, pickV_f, pickV_bool, nilS_ptr, add_eq, sub_eq, mul_eq, lss_eq, leq_eq, gtr_eq, geq_eq, not_eq, minI_eq, maxI_eq, extract_0, extract_1, extract_2, eqlI, neqI, makeFunc_eq, decide_true, decide_false, if_true, if_false, Bool.false_eq_true, Bool.not_true, Bool.not_false, reduceIte, List.getElem?_toArray, List.getElem?_cons_zero, List.getElem?_cons_succ, Option.isSome_none, List.length_map]
    intro r hr'
    refine popO_pure ?_
    try rw [bindH_eq]
    have u1 : Ext h (h.set r (.cells #[] T_api_Pair)) := Upd.new hr'
    have O1 : OwnR (h.set r (.cells #[] T_api_Pair)) T_api_Pair 2 (.slice (some ⟨r, 0, none⟩) 0 0) (([] : List Pr).map Pr.cells) [r] := OwnR.lit (n := 0) (Pr.rows []) set_same (by simp) (by decide) rfl
    generalize h.set r (.cells #[] T_api_Pair) = h1' at *
    have f1 : Fresh h [r] := Fresh.one hr'
    have hb1 := u1.get h1
    have c0 : cellH h1' ⟨b, 0, none⟩ = some nv := by simp [cellH, hb1]
    obtain ⟨w2, y1, y2⟩ := (h2.ext u1).cutP (lo := none) (hi := some (.int .i64 (A.length : Int))) (a := 0) (m := A.length) (.inl ⟨rfl, rfl⟩) (.inr ⟨_, rfl⟩) (by omega) (by omega)
    have eA : (s.now.take A.length).drop 0 = A := by rw [List.drop_zero, c.eq, List.take_left]
    rw [eA] at y2
    simp only [T_carrackref11_Store.f0, T_sl_api_Pair.load, c0, y1, popO_some, bindH_eq, condV_bool, condV_true, condV_false, yV_bool, gopV_tt, gopV_ff, gopV_tf, gopV_ft, pickV_t, pickV_f, pickV_bool, nilS_ptr, add_eq, sub_eq, mul_eq, lss_eq, leq_eq, gtr_eq, geq_eq, not_eq, minI_eq, maxI_eq, extract_0, extract_1, extract_2, eqlI, neqI, makeFunc_eq, decide_true, decide_false, if_true, if_false, Bool.false_eq_true, Bool.not_true, Bool.not_false, reduceIte, List.getElem?_toArray, List.getElem?_cons_zero, List.getElem?_cons_succ, Option.isSome_none, List.length_map]
    refine app_pr O1 y2 (by simp; omega) fun v2 h2' F2 O2 u2 k2 => ?_
    rw [List.nil_append] at O2
    have e2 : Ext h h2' := u1.fresh u2 f1
    have f2 : Fresh h F2 := f1.grow u1 k2
    have hpb : SemP PG (Instr.build T_api_Pair #[(0, .string (tx k)), (1, .string (tx v))]) = some (Pr.val ⟨k, v⟩) := pr_build ⟨k, v⟩
    have hpl := pr_lit ⟨k, v⟩
    simp only [hpb, hpl, popO_some, bindH_eq, condV_bool, condV_true, condV_false, yV_bool, gopV_tt, gopV_ff, gopV_tf, gopV_ft, pickV_t, pickV_f, pickV_bool, nilS_ptr, add_eq, sub_eq, mul_eq, lss_eq, leq_eq, gtr_eq, geq_eq, not_eq, minI_eq, maxI_eq, extract_0, extract_1, extract_2, eqlI, neqI, makeFunc_eq, decide_true, decide_false, if_true, if_false, Bool.false_eq_true, Bool.not_true, Bool.not_false, reduceIte, List.getElem?_toArray, List.getElem?_cons_zero, List.getElem?_cons_succ, Option.isSome_none, List.length_map]
    intro r3 hr3
    refine popO_pure ?_
    try rw [bindH_eq]
    have u3 : Ext h2' (h2'.set r3 (.cells #[.string (tx k), .string (tx v)] T_api_Pair)) := Upd.new hr3
    have s3 : SlR (h2'.set r3 (.cells #[.string (tx k), .string (tx v)] T_api_Pair)) 2 (.slice (some ⟨r3, 0, none⟩) 1 1) ([(⟨k, v⟩ : Pr)].map Pr.cells) := (OwnR.lit (n := 1) (Pr.rows [⟨k, v⟩]) set_same (by simp) (by decide) rfl).slR
    generalize h2'.set r3 (.cells #[.string (tx k), .string (tx v)] T_api_Pair) = h3' at *
    have e3 : Ext h h3' := e2.trans u3
    refine app_pr (O2.ext u3) s3 (by simp; omega) fun v4 h4' F4 O4 u4 k4 => ?_
    have e4 : Ext h h4' := e3.fresh u4 f2
    have f4 : Fresh h F4 := f2.grow e3 k4
    refine app_pr O4 (S9.ext e4) (by simp; omega) fun v5 h5' F5 O5 u5 k5 => ?_
    have e5 : Ext h h5' := e4.fresh u5 f4
    have f5 : Fresh h F5 := f4.grow e4 k5
    have eL : (A ++ [(⟨k, v⟩ : Pr)]) ++ B = setL s.now ⟨k, v⟩ := by rw [c.set hok.up]; simp
    rw [eL] at O5
    have hb5 := e5.get h1
    have hvc : isCell v5 = true := by obtain ⟨_, _, e, _⟩ := O5.slR.here; rw [e]; rfl
    try simp only [T_carrackref11_Store.f0, popO_some, bindH_eq, condV_bool, condV_true, condV_false, yV_bool, gopV_tt, gopV_ff, gopV_tf, gopV_ft, pickV_t, pickV_f, pickV_bool, nilS_ptr, add_eq, sub_eq, mul_eq, lss_eq, leq_eq, gtr_eq, geq_eq, not_eq, minI_eq, maxI_eq, extract_0, extract_1, extract_2, eqlI, neqI, makeFunc_eq, decide_true, decide_false, if_true, if_false, Bool.false_eq_true, Bool.not_true, Bool.not_false, reduceIte, List.getElem?_toArray, List.getElem?_cons_zero, List.getElem?_cons_succ, Option.isSome_none, List.length_map]
    refine store_cell T_sl_api_Pair.und rfl hb5 (by simp) hvc T_sl_api_Pair.info T_sl_api_Pair.size ?_
    have hs : sSet s k v = ({ s with now := setL s.now ⟨k, v⟩ }, 0) := by unfold sSet; rw [if_neg hr, if_neg hc]
    rw [hs] at hk
    obtain ⟨q1, q2, q3⟩ := RfAt.now hH h1 e5 O5 f5 (hok.setOk hr hc) rfl
    exact hk _ _ q1 q2 q3
  rcases c.mid with e | ⟨q, e, e2⟩
  · have gM : decide (M ≠ []) = false := by simp [e]
    have hgn : getL s.now k = none := by rw [gM] at hget; simpa using hget
    have eB : s.now.drop A.length = B := by rw [c.eq, List.drop_left, e, List.nil_append]
    rw [eB] at x2
    have ln := h2.len (t' := T_int) T_sl_api_Pair.und
    rw [List.length_map] at ln
    by_cases d4 : 4096 ≤ s.now.length
    · have g4 : ((4096 : Int) ≤ (s.now.length : Int)) = True := eq_true (by omega)
      simp only [gM, T_carrackref11_Store.f0, T_sl_api_Pair.load, c0, ln, g4, popO_some, bindH_eq, condV_bool, condV_true, condV_false, yV_bool, gopV_tt, gopV_ff, gopV_tf, gopV_ft, pickV_t, pickV_f, pickV_bool, nilS_ptr, add_eq, sub_eq, mul_eq, lss_eq, leq_eq, gtr_eq, geq_eq, not_eq, minI_eq, maxI_eq, extract_0, extract_1, extract_2, eqlI, neqI, makeFunc_eq, decide_true, decide_false, if_true, if_false, Bool.false_eq_true, Bool.not_true, Bool.not_false, reduceIte, List.getElem?_toArray, List.getElem?_cons_zero, List.getElem?_cons_succ, Option.isSome_none, List.length_map]
      have hs : sSet s k v = (s, 2) := by unfold sSet; rw [if_neg hr, if_pos ⟨hgn, d4⟩]
      rw [hs] at hk
      exact hk h G hH Upd.refl (fun g hg => .inl hg)
    · have g4 : ((4096 : Int) ≤ (s.now.length : Int)) = False := eq_false (by omega)
      simp only [gM, T_carrackref11_Store.f0, T_sl_api_Pair.load, c0, ln, g4, popO_some, bindH_eq, condV_bool, condV_true, condV_false, yV_bool, gopV_tt, gopV_ff, gopV_tf, gopV_ft, pickV_t, pickV_f, pickV_bool, nilS_ptr, add_eq, sub_eq, mul_eq, lss_eq, leq_eq, gtr_eq, geq_eq, not_eq, minI_eq, maxI_eq, extract_0, extract_1, extract_2, eqlI, neqI, makeFunc_eq, decide_true, decide_false, if_true, if_false, Bool.false_eq_true, Bool.not_true, Bool.not_false, reduceIte, List.getElem?_toArray, List.getElem?_cons_zero, List.getElem?_cons_succ, Option.isSome_none, List.length_map]
      exact fin w1 x2 (fun h => d4 h.2)
  · have gM : decide (M ≠ []) = true := by simp [e]
    have hgn : ¬ getL s.now k = none := fun h => by rw [h, gM] at hget; simp at hget
    have gi : IntKind.i64.wrap ((A.length : Int) + 1) = ((A.length + 1 : Nat) : Int) := by rw [i64_wrap (by omega) (by omega)]; omega
    have hM1 : M.length = 1 := by rw [e]; rfl
    obtain ⟨w3, z1, z2⟩ := h2.cutP (lo := some (.int .i64 ((A.length + 1 : Nat) : Int))) (hi := none) (a := A.length + 1) (m := s.now.length) (.inr ⟨_, rfl⟩) (.inl ⟨rfl, rfl⟩) (by omega) (Nat.le_refl _)
    have eB : (s.now.take s.now.length).drop (A.length + 1) = B := by
      rw [List.take_length, c.eq, ← List.append_assoc]
      have : A.length + 1 = (A ++ M).length := by rw [List.length_append, hM1]
      rw [this, List.drop_left]
    rw [eB] at z2
    simp only [gM, T_carrackref11_Store.f0, T_sl_api_Pair.load, c0, gi, z1, popO_some, bindH_eq, condV_bool, condV_true, condV_false, yV_bool, gopV_tt, gopV_ff, gopV_tf, gopV_ft, pickV_t, pickV_f, pickV_bool, nilS_ptr, add_eq, sub_eq, mul_eq, lss_eq, leq_eq, gtr_eq, geq_eq, not_eq, minI_eq, maxI_eq, extract_0, extract_1, extract_2, eqlI, neqI, makeFunc_eq, decide_true, decide_false, if_true, if_false, Bool.false_eq_true, Bool.not_true, Bool.not_false, reduceIte, List.getElem?_toArray, List.getElem?_cons_zero, List.getElem?_cons_succ, Option.isSome_none, List.length_map]
    exact fin w3 z2 (fun h => hgn h.1)
theorem RDel_ok {h : PH} {b : Nat} {s : St} {G : List Nat} (H : RfAt h b s G) (k : Tx) {kk : Value → PH → Prop} (hk : ∀ h' G', RfAt h' b (sDel s k).1 G' → Upd [b] h h' → (∀ g ∈ G', g ∈ G ∨ h g = none) → kk (.int .i64 (sDel s k).2) h') :
    CallsH PG id_carrackref11_Store_Delete #[.pointer (some ⟨b, 0, none⟩), .string (tx k)] h kk := by
  apply carrackref11_Store_Delete.call
  unfold carrackref11_Store_Delete
  have hok := H.ok
  have hH := H
  obtain ⟨A, M, B, c⟩ := hok.up.cut k
  obtain ⟨nv, bv, bl, h1, h2, h3, h4, h5, h6, h7, h8, h9⟩ := H.here
  have c0 : cellH h ⟨b, 0, none⟩ = some nv := by simp [cellH, h1]
  have hlen : s.now.length = A.length + (M.length + B.length) := by rw [c.eq]; simp
  have hfew := hok.few
  have hget := c.get hok.up
  refine find_ok H c ?_
  rcases c.mid with e | ⟨q, e, e2⟩
  · have gM : decide (M ≠ []) = false := by simp [e]
    have hgn : getL s.now k = none := by rw [gM] at hget; simpa using hget
    simp only [gM, popO_some, bindH_eq, condV_bool, condV_true, condV_false, yV_bool, gopV_tt, gopV_ff, gopV_tf, gopV_ft, pickV_t, pickV_f, pickV_bool, nilS_ptr, add_eq, sub_eq, mul_eq, lss_eq, leq_eq, gtr_eq, geq_eq, not_eq, minI_eq, maxI_eq, extract_0, extract_1, extract_2, eqlI, neqI, makeFunc_eq, decide_true, decide_false, if_true, if_false, Bool.false_eq_true, Bool.not_true, Bool.not_false, reduceIte, List.getElem?_toArray, List.getElem?_cons_zero, List.getElem?_cons_succ, Option.isSome_none, List.length_map]
    have hs : sDel s k = (s, 3) := by unfold sDel; rw [if_pos hgn]
    rw [hs] at hk
    exact hk h G hH Upd.refl (fun g hg => .inl hg)
  · have gM : decide (M ≠ []) = true := by simp [e]
    have hgn : ¬ getL s.now k = none := fun h => by rw [h, gM] at hget; simp at hget
    have gi : IntKind.i64.wrap ((A.length : Int) + 1) = ((A.length + 1 : Nat) : Int) := by rw [i64_wrap (by omega) (by omega)]; omega
    have hM1 : M.length = 1 := by rw [e]; rfl
    obtain ⟨w3, z1, z2⟩ := h2.cutP (lo := some (.int .i64 ((A.length + 1 : Nat) : Int))) (hi := none) (a := A.length + 1) (m := s.now.length) (.inr ⟨_, rfl⟩) (.inl ⟨rfl, rfl⟩) (by omega) (Nat.le_refl _)
    have eB : (s.now.take s.now.length).drop (A.length + 1) = B := by
      rw [List.take_length, c.eq, ← List.append_assoc]
      have : A.length + 1 = (A ++ M).length := by rw [List.length_append, hM1]
      rw [this, List.drop_left]
    rw [eB] at z2
    obtain ⟨w2, y1, y2⟩ := h2.cutP (lo := none) (hi := some (.int .i64 (A.length : Int))) (a := 0) (m := A.length) (.inl ⟨rfl, rfl⟩) (.inr ⟨_, rfl⟩) (by omega) (by omega)
    have eA : (s.now.take A.length).drop 0 = A := by rw [List.drop_zero, c.eq, List.take_left]
    rw [eA] at y2
    simp only [gM, T_carrackref11_Store.f0, T_sl_api_Pair.load, c0, gi, y1, z1, b0_lit, popO_some, bindH_eq, condV_bool, condV_true, condV_false, yV_bool, gopV_tt, gopV_ff, gopV_tf, gopV_ft, pickV_t, pickV_f, pickV_bool, nilS_ptr, add_eq, sub_eq, mul_eq, lss_eq, leq_eq, gtr_eq, geq_eq, not_eq, minI_eq, maxI_eq, extract_0, extract_1, extract_2, eqlI, neqI, makeFunc_eq, decide_true, decide_false, if_true, if_false, Bool.false_eq_true, Bool.not_true, Bool.not_false, reduceIte, List.getElem?_toArray, List.getElem?_cons_zero, List.getElem?_cons_succ, Option.isSome_none, List.length_map]
    intro r hr'
    refine popO_pure ?_
    try rw [bindH_eq]
    have u1 : Ext h (h.set r (.cells #[] T_api_Pair)) := Upd.new hr'
    have O1 : OwnR (h.set r (.cells #[] T_api_Pair)) T_api_Pair 2 (.slice (some ⟨r, 0, none⟩) 0 0) (([] : List Pr).map Pr.cells) [r] := OwnR.lit (n := 0) (Pr.rows []) set_same (by simp) (by decide) rfl
    generalize h.set r (.cells #[] T_api_Pair) = h1' at *
    have f1 : Fresh h [r] := Fresh.one hr'
    refine app_pr O1 (y2.ext u1) (by simp; omega) fun v2 h2' F2 O2 u2 k2 => ?_
    rw [List.nil_append] at O2
    have e2 : Ext h h2' := u1.fresh u2 f1
    have f2 : Fresh h F2 := f1.grow u1 k2
    have hb2 := e2.get h1
    refine ⟨by simp [cellH, hb2], ?_⟩
    refine app_pr O2 (z2.ext e2) (by omega) fun v5 h5' F5 O5 u5 k5 => ?_
    have e5 : Ext h h5' := e2.fresh u5 f2
    have f5 : Fresh h F5 := f2.grow e2 k5
    rw [← c.del] at O5
    have hb5 := e5.get h1
    have hvc : isCell v5 = true := by obtain ⟨_, _, e, _⟩ := O5.slR.here; rw [e]; rfl
    try simp only [T_carrackref11_Store.f0, popO_some, bindH_eq, condV_bool, condV_true, condV_false, yV_bool, gopV_tt, gopV_ff, gopV_tf, gopV_ft, pickV_t, pickV_f, pickV_bool, nilS_ptr, add_eq, sub_eq, mul_eq, lss_eq, leq_eq, gtr_eq, geq_eq, not_eq, minI_eq, maxI_eq, extract_0, extract_1, extract_2, eqlI, neqI, makeFunc_eq, decide_true, decide_false, if_true, if_false, Bool.false_eq_true, Bool.not_true, Bool.not_false, reduceIte, List.getElem?_toArray, List.getElem?_cons_zero, List.getElem?_cons_succ, Option.isSome_none, List.length_map]
    refine store_cell T_sl_api_Pair.und rfl hb5 (by simp) hvc T_sl_api_Pair.info T_sl_api_Pair.size ?_
    have hs : sDel s k = ({ s with now := delL s.now k }, 0) := by unfold sDel; rw [if_neg hgn]
    rw [hs] at hk
    obtain ⟨q1, q2, q3⟩ := RfAt.now hH h1 e5 O5 f5 ⟨hok.up.del _, fun p hp => hok.fit p (mem_delL.1 hp).1, Nat.le_trans (List.length_filter_le _ _) hok.few, hok.blk, hok.h1, hok.h2, hok.h3, hok.h4⟩ rfl
    exact hk _ _ q1 q2 q3
theorem RHeight_ok {h : PH} {b : Nat} {s : St} {G : List Nat} (H : RfAt h b s G) {kk : Value → PH → Prop} (hk : kk (.int .u64 s.height) h) : CallsH PG id_carrackref11_Store_Height #[.pointer (some ⟨b, 0, none⟩)] h kk := by
  apply carrackref11_Store_Height.call
  unfold carrackref11_Store_Height
  have hok := H.ok
  obtain ⟨nv, bv, bl, h1, h2, h3, h4, h5, h6, h7, h8, h9⟩ := H.here
  have c1 : cellH h ⟨b, 0 + 1, none⟩ = some (.int .u64 ((s.height - (s.blocks.length - 1) : Nat) : Int)) := by simp [cellH, h1]
  have c2 : cellH h ⟨b, 0 + 2, none⟩ = some bv := by simp [cellH, h1]
  have ln := h3.len (t' := T_int) T_sl_sl_api_Pair.und
  rw [List.length_map, show bl.length = s.blocks.length by rw [← h5, List.length_map]] at ln
  have a1 := hok.h1
  have a2 := hok.h2
  have a3 := hok.h3
  have a4 := hok.h4
  have e1 : IntKind.i64.wrap ((s.blocks.length : Int) - 1) = ((s.blocks.length - 1 : Nat) : Int) := by rw [i64_wrap (by omega) (by omega)]; omega
  have e2 : IntKind.u64.wrap ((s.blocks.length - 1 : Nat) : Int) = ((s.blocks.length - 1 : Nat) : Int) := u64_wrap (by omega) (by omega)
  have e3 : IntKind.u64.wrap (((s.height - (s.blocks.length - 1) : Nat) : Int) + ((s.blocks.length - 1 : Nat) : Int)) = (s.height : Int) := by rw [u64_wrap (by omega) (by omega)]; omega
  simp only [T_carrackref11_Store.f1, T_carrackref11_Store.f2, T_uint64.load, T_sl_sl_api_Pair.load, c1, c2, ln, e1, cv_int_u64, e2, e3, popO_some, bindH_eq, condV_bool, condV_true, condV_false, yV_bool, gopV_tt, gopV_ff, gopV_tf, gopV_ft, pickV_t, pickV_f, pickV_bool, nilS_ptr, add_eq, sub_eq, mul_eq, lss_eq, leq_eq, gtr_eq, geq_eq, not_eq, minI_eq, maxI_eq, extract_0, extract_1, extract_2, eqlI, neqI, makeFunc_eq, decide_true, decide_false, if_true, if_false, Bool.false_eq_true, Bool.not_true, Bool.not_false, reduceIte, List.getElem?_toArray, List.getElem?_cons_zero, List.getElem?_cons_succ, Option.isSome_none, List.length_map]
  exact hk
end Go.Proofs.YtllopddcpkhfjaaDoor
