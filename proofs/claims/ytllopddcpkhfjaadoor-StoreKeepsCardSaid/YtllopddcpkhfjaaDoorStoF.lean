/- store: the document's store. -/
import Derived.Test.YtllopddcpkhfjaaDoorStoR
set_option linter.unusedSimpArgs false
set_option linter.unusedVariables false
namespace Go.Proofs.YtllopddcpkhfjaaDoor
open Go Bld
set_option maxRecDepth 20000
/-! ### a rising list, cut at a key -/
structure Cut (L : List Pr) (k : Tx) (A M B : List Pr) : Prop where
  eq : L = A ++ (M ++ B)
  lo : ∀ p ∈ A, p.k < k
  hi : ∀ p ∈ B, k < p.k
  mid : M = [] ∨ ∃ p, M = [p] ∧ p.k = k
theorem Up.cut (k : Tx) : ∀ {L : List Pr}, Up L → ∃ A M B, Cut L k A M B
  | [], _ => ⟨[], [], [], rfl, by simp, by simp, .inl rfl⟩
  | p :: L, h => by
    unfold Up at h
    rw [List.pairwise_cons] at h
    obtain ⟨h1, h2⟩ := h
    rcases tx_total p.k k with e | e | e
    · obtain ⟨A, M, B, c⟩ := Up.cut k h2
      refine ⟨p :: A, M, B, by rw [c.eq]; rfl, fun q hq => ?_, c.hi, c.mid⟩
      rcases List.mem_cons.1 hq with rfl | hq
      · exact e
      · exact c.lo q hq
    · exact ⟨[], [p], L, rfl, by simp, fun q hq => by rw [← e]; exact h1 q hq, .inr ⟨p, rfl, e⟩⟩
    · refine ⟨[], [], p :: L, rfl, by simp, fun q hq => ?_, .inl rfl⟩
      rcases List.mem_cons.1 hq with rfl | hq
      · exact e
      · exact List.lt_trans e (h1 q hq)
theorem Cut.set {L A M B : List Pr} {k v : Tx} (c : Cut L k A M B) (h : Up L) : setL L ⟨k, v⟩ = A ++ ⟨k, v⟩ :: B := by
  unfold setL
  have fA : A.filter (fun q => decide (q.k < k)) = A := List.filter_eq_self.2 fun p hp => by simpa using c.lo p hp
  have fA2 : A.filter (fun q => decide (k < q.k)) = [] := List.filter_eq_nil_iff.2 fun p hp => by simpa using List.lt_asymm (c.lo p hp)
  have fB : B.filter (fun q => decide (k < q.k)) = B := List.filter_eq_self.2 fun p hp => by simpa using c.hi p hp
  have fB2 : B.filter (fun q => decide (q.k < k)) = [] := List.filter_eq_nil_iff.2 fun p hp => by simpa using List.lt_asymm (c.hi p hp)
  have fM : M.filter (fun q => decide (q.k < k)) = [] := List.filter_eq_nil_iff.2 fun p hp => by
    rcases c.mid with e | ⟨q, e, e2⟩
    · rw [e] at hp; cases hp
    · rw [e] at hp; simp only [List.mem_singleton] at hp; subst hp; rw [e2]; simp [List.lt_irrefl]
  have fM2 : M.filter (fun q => decide (k < q.k)) = [] := List.filter_eq_nil_iff.2 fun p hp => by
    rcases c.mid with e | ⟨q, e, e2⟩
    · rw [e] at hp; cases hp
    · rw [e] at hp; simp only [List.mem_singleton] at hp; subst hp; rw [e2]; simp [List.lt_irrefl]
  rw [c.eq, List.filter_append, List.filter_append, List.filter_append, List.filter_append]
  simp only [fA, fA2, fB, fB2, fM, fM2, List.append_nil, List.nil_append]
theorem Cut.del {L A M B : List Pr} {k : Tx} (c : Cut L k A M B) : delL L k = A ++ B := by
  unfold delL
  have fA : A.filter (fun q => decide (q.k ≠ k)) = A := List.filter_eq_self.2 fun p hp => by
    have := c.lo p hp
    simp only [decide_eq_true_eq]; intro e; rw [e] at this; exact List.lt_irrefl _ this
  have fB : B.filter (fun q => decide (q.k ≠ k)) = B := List.filter_eq_self.2 fun p hp => by
    have := c.hi p hp
    simp only [decide_eq_true_eq]; intro e; rw [e] at this; exact List.lt_irrefl _ this
  have fM : M.filter (fun q => decide (q.k ≠ k)) = [] := List.filter_eq_nil_iff.2 fun p hp => by
    rcases c.mid with e | ⟨q, e, e2⟩
    · rw [e] at hp; cases hp
    · rw [e] at hp; simp only [List.mem_singleton] at hp; subst hp; simp [e2]
  rw [c.eq, List.filter_append, List.filter_append, fA, fB, fM, List.nil_append]
theorem Cut.get {L A M B : List Pr} {k : Tx} (c : Cut L k A M B) (h : Up L) : (getL L k).isSome = decide (M ≠ []) := by
  rcases c.mid with e | ⟨q, e, e2⟩
  · subst e
    have : getL L k = none := getL_none.2 fun p hp e => by
      rw [c.eq, List.nil_append, List.mem_append] at hp
      rcases hp with hp | hp
      · have := c.lo p hp; rw [e] at this; exact List.lt_irrefl _ this
      · have := c.hi p hp; rw [e] at this; exact List.lt_irrefl _ this
    rw [this]; rfl
  · subst e
    have : getL L k = some q := (getL_some h).2 ⟨by rw [c.eq]; simp, e2⟩
    rw [this]; rfl
/-! ### the document's store in memory -/
def vcell (x : Value × List Pr) : List Value := [x.1]
theorem vcell.rows (l : List (Value × List Pr)) : Rows 1 (l.map vcell) := fun r hr => by
  obtain ⟨p, -, rfl⟩ := List.mem_map.1 hr; rfl
structure RfAt (h : PH) (b : Nat) (s : St) (G : List Nat) : Prop where
  here : ∃ (nv bv : Value) (bl : List (Value × List Pr)), h b = some (.cells #[nv, .int .u64 ((s.height - (s.blocks.length - 1) : Nat) : Int), bv] T_carrackref11_Store (0, 0)) ∧ SlR h 2 nv (s.now.map Pr.cells) ∧ SlR h 1 bv (bl.map vcell) ∧
    (∀ x ∈ bl, SlR h 2 x.1 (x.2.map Pr.cells) ∧ inBlocks x.1 G) ∧ bl.map (·.2) = s.blocks ∧ inBlocks nv G ∧ inBlocks bv G ∧ b ∉ G ∧ ∀ g ∈ G, h g ≠ none
  ok : s.Ok
theorem RfAt.upd {h h' : PH} {b : Nat} {s : St} {G K : List Nat} (H : RfAt h b s G) (u : Upd K h h') (hb : b ∉ K) (hd : ∀ g ∈ G, g ∉ K) : RfAt h' b s G := by
  obtain ⟨nv, bv, bl, h1, h2, h3, h4, h5, h6, h7, h8, h9⟩ := H.here
  refine ⟨⟨nv, bv, bl, u.get h1 hb, h2.upd u fun a n c e => hd _ (h6 a n c e), h3.upd u fun a n c e => hd _ (h7 a n c e), fun x hx => ⟨(h4 x hx).1.upd u fun a n c e => hd _ ((h4 x hx).2 a n c e), (h4 x hx).2⟩, h5, h6, h7, h8, fun g hg => ?_⟩, H.ok⟩
  obtain ⟨o, ho⟩ := Option.ne_none_iff_exists'.1 (h9 g hg)
  rw [u.get ho (hd g hg)]; simp
theorem RfAt.ext {h h' : PH} {b : Nat} {s : St} {G : List Nat} (H : RfAt h b s G) (u : Ext h h') : RfAt h' b s G := H.upd u (by simp) (by simp)
theorem RfAt.known {h : PH} {b : Nat} {s : St} {G : List Nat} (H : RfAt h b s G) : ∀ g ∈ b :: G, h g ≠ none := by
  obtain ⟨nv, bv, bl, h1, h2, h3, h4, h5, h6, h7, h8, h9⟩ := H.here
  intro g hg
  rcases List.mem_cons.1 hg with rfl | hg
  · rw [h1]; simp
  · exact h9 g hg
theorem inB_own {h : PH} {e : TypeId} {n : Nat} {v : Value} {rows : List (List Value)} {F : List Nat} (O : OwnR h e n v rows F) : inBlocks v F := fun y m c e1 => by
  rcases O.here with ⟨e2, _, _⟩ | ⟨b, cap', cs, e2, e3, _⟩
  · rw [e2] at e1; cases e1
  · rw [e2] at e1
    simp only [Value.slice.injEq, Option.some.injEq] at e1
    rw [← e1.1, e3]; simp
theorem RNew_ok {h : PH} (n : Nat) (hn : n < 18446744073709551616) {k : Value → PH → Prop} (hk : ∀ b h' G, RfAt h' b ⟨[], [[]], n⟩ G → Fresh h (b :: G) → Ext h h' → k (.pointer (some ⟨b, 0, none⟩)) h') : CallsH PG id_carrackref11_New #[.int .u64 (n : Int)] h k := by
  apply carrackref11_New.call
  unfold carrackref11_New
  have b1 : SemA PG (Instr.buildSlice T_sl_sl_api_Pair 1 #[(0, (Value.slice none 0 0))]) = some (.cells #[.slice none 0 0] T_sl_api_Pair, fun r => pure (.slice (some ⟨r, 0, none⟩) 1 1)) := by kernel_rfl
  simp only [b1, popO_some, bindH_eq, condV_bool, condV_true, condV_false, yV_bool, gopV_tt, gopV_ff, gopV_tf, gopV_ft, pickV_t, pickV_f, pickV_bool, nilS_ptr, add_eq, sub_eq, mul_eq, lss_eq, leq_eq, gtr_eq, geq_eq, not_eq, minI_eq, maxI_eq, extract_0, extract_1, extract_2, eqlI, neqI, makeFunc_eq, decide_true, decide_false, if_true, if_false, Bool.false_eq_true, Bool.not_true, Bool.not_false, reduceIte, List.getElem?_toArray, List.getElem?_cons_zero, List.getElem?_cons_succ, Option.isSome_none, List.length_map]
  intro r hr
  refine popO_pure ?_
  try rw [bindH_eq]
  have u1 : Ext h (h.set r (.cells #[.slice none 0 0] T_sl_api_Pair)) := Upd.new hr
  have O1 : OwnR (h.set r (.cells #[.slice none 0 0] T_sl_api_Pair)) T_sl_api_Pair 1 (.slice (some ⟨r, 0, none⟩) 1 1) ([((.slice none 0 0 : Value), ([] : List Pr))].map vcell) [r] := OwnR.lit (n := 1) (vcell.rows [((.slice none 0 0 : Value), ([] : List Pr))]) set_same (by simp) (by decide) rfl
  generalize h.set r (.cells #[.slice none 0 0] T_sl_api_Pair) = h1 at *
  have b2 : SemP PG (Instr.build T_carrackref11_Store #[(1, .int .u64 (n : Int)), (2, .slice (some ⟨r, 0, none⟩) 1 1)]) = some (.agg #[.slice none 0 0, .int .u64 (n : Int), .slice (some ⟨r, 0, none⟩) 1 1]) := by kernel_rfl
  simp only [b2, popO_some, bindH_eq, condV_bool, condV_true, condV_false, yV_bool, gopV_tt, gopV_ff, gopV_tf, gopV_ft, pickV_t, pickV_f, pickV_bool, nilS_ptr, add_eq, sub_eq, mul_eq, lss_eq, leq_eq, gtr_eq, geq_eq, not_eq, minI_eq, maxI_eq, extract_0, extract_1, extract_2, eqlI, neqI, makeFunc_eq, decide_true, decide_false, if_true, if_false, Bool.false_eq_true, Bool.not_true, Bool.not_false, reduceIte, List.getElem?_toArray, List.getElem?_cons_zero, List.getElem?_cons_succ, Option.isSome_none, List.length_map]
  intro b hb
  try rw [bindH_eq]
  have u2 : Ext h1 (h1.set b (.cells (Value.cells (.agg #[.slice none 0 0, .int .u64 (n : Int), .slice (some ⟨r, 0, none⟩) 1 1])) T_carrackref11_Store)) := Upd.new hb
  have hrb : b ≠ r := by rintro rfl; exact O1.known _ (by simp) hb
  refine hk b _ [r] ⟨⟨.slice none 0 0, .slice (some ⟨r, 0, none⟩) 1 1, [(.slice none 0 0, [])], set_same, (OwnR.nil (e := T_api_Pair)).slR, (O1.ext u2).slR, ?_, rfl, (fun y m c e => by cases e), inB_own O1, by simpa using hrb, ?_⟩, St.Ok.new n hn⟩ (fun g hg => ?_) (u1.trans u2)
  · intro x hx
    simp only [List.mem_singleton] at hx
    subst hx
    exact ⟨(OwnR.nil (e := T_api_Pair)).slR, fun x n c e => by cases e⟩
  · intro g hg
    exact (O1.ext u2).known g hg
  · simp only [List.mem_cons, List.not_mem_nil, or_false] at hg
    rcases hg with rfl | rfl
    · exact u1.none hb
    · exact hr
theorem find_ok {h : PH} {b : Nat} {s : St} {G : List Nat} (H : RfAt h b s G) {key : Tx} {A M B : List Pr} (c : Cut s.now key A M B) {k : Value → PH → Prop} (hk : k (.tuple #[.int .i64 (A.length : Int), .bool (decide (M ≠ []))]) h) :
    CallsH PG id_carrackref11_Store_find #[.pointer (some ⟨b, 0, none⟩), .string (tx key)] h k := by
  apply carrackref11_Store_find.call
  unfold carrackref11_Store_find
  have hfew := H.ok.few
  obtain ⟨nv, bv, bl, h1, h2, h3, h4, h5, h6, h7, h8, h9⟩ := H.here
  have c0 : cellH h ⟨b, 0, none⟩ = some nv := by simp [cellH, h1]
  have ln := h2.len (t' := T_int) T_sl_api_Pair.und
  rw [List.length_map] at ln
  have hlen : s.now.length = A.length + (M.length + B.length) := by rw [c.eq]; simp
  refine ⟨fun vs h' => ∃ i, i ≤ A.length ∧ vs = [.pointer (some ⟨b, 0, none⟩), .string (tx key), .int .i64 (i : Int)] ∧ h' = h, upTo A.length 2, ⟨0, by omega, rfl, rfl⟩, ?_⟩
  rintro ρ h' ⟨i, hi, hvs, rfl⟩
  simp only [List.map_cons, List.map_nil, List.cons.injEq, and_true] at hvs
  obtain ⟨v0, v1, v6⟩ := hvs
  simp only [v0, v1, v6, List.map_cons, List.map_nil]
  unfold carrackref11_Store_find_b2
  by_cases hl : i < s.now.length
  · have g1 : ((i : Int) < (s.now.length : Int)) = True := eq_true (by omega)
    have gi : IntKind.i64.wrap ((i : Int) + 1) = ((i + 1 : Nat) : Int) := by rw [i64_wrap (by omega) (by omega)]; omega
    obtain ⟨p, hp⟩ : ∃ p, s.now[i]? = some p := ⟨s.now[i], List.getElem?_eq_getElem hl⟩
    obtain ⟨pb, po, e1, e2, -, -⟩ := h2.pair (j := i) (p := p) hp
    by_cases hiA : i < A.length
    · have hpA : p ∈ A := by
        rw [c.eq, List.getElem?_append_left hiA] at hp
        exact List.mem_of_getElem? hp
      have hlt := c.lo p hpA
      simp only [T_carrackref11_Store.f0, T_sl_api_Pair.load, c0, ln, g1, e1, T_api_Pair.f0, T_string.load, e2, lss_tx, hlt, gi, popO_some, bindH_eq, condV_bool, condV_true, condV_false, yV_bool, gopV_tt, gopV_ff, gopV_tf, gopV_ft, pickV_t, pickV_f, pickV_bool, nilS_ptr, add_eq, sub_eq, mul_eq, lss_eq, leq_eq, gtr_eq, geq_eq, not_eq, minI_eq, maxI_eq, extract_0, extract_1, extract_2, eqlI, neqI, makeFunc_eq, decide_true, decide_false, if_true, if_false, Bool.false_eq_true, Bool.not_true, Bool.not_false, reduceIte, List.getElem?_toArray, List.getElem?_cons_zero, List.getElem?_cons_succ, Option.isSome_none, List.length_map]
      refine ⟨⟨i + 1, by omega, rfl, (by trivial)⟩, ?_⟩
      simp only [upTo, List.getElem?_cons_succ, List.getElem?_cons_zero]
      omega
    · have hiE : i = A.length := by omega
      have hp2 : (M ++ B)[0]? = some p := by
        rw [c.eq, List.getElem?_append_right (by omega), hiE, Nat.sub_self] at hp
        exact hp
      have hnl : ¬ p.k < key := by
        rcases c.mid with e | ⟨q, e, e3⟩
        · rw [e, List.nil_append] at hp2
          exact List.lt_asymm (c.hi p (List.mem_of_getElem? hp2))
        · rw [e] at hp2
          simp only [List.cons_append, List.getElem?_cons_zero, Option.some.injEq] at hp2
          rw [← hp2, e3]; exact List.lt_irrefl _
      have heq : decide (p.k = key) = decide (M ≠ []) := by
        rcases c.mid with e | ⟨q, e, e3⟩
        · rw [e, List.nil_append] at hp2
          have := c.hi p (List.mem_of_getElem? hp2)
          have hne : p.k ≠ key := fun e => by rw [e] at this; exact List.lt_irrefl _ this
          simp [e, hne]
        · rw [e] at hp2
          simp only [List.cons_append, List.getElem?_cons_zero, Option.some.injEq] at hp2
          rw [← hp2]
          simp [e, e3]
      simp only [T_carrackref11_Store.f0, T_sl_api_Pair.load, c0, ln, g1, e1, T_api_Pair.f0, T_string.load, e2, lss_tx, hnl, eqlStr, heq, popO_some, bindH_eq, condV_bool, condV_true, condV_false, yV_bool, gopV_tt, gopV_ff, gopV_tf, gopV_ft, pickV_t, pickV_f, pickV_bool, nilS_ptr, add_eq, sub_eq, mul_eq, lss_eq, leq_eq, gtr_eq, geq_eq, not_eq, minI_eq, maxI_eq, extract_0, extract_1, extract_2, eqlI, neqI, makeFunc_eq, decide_true, decide_false, if_true, if_false, Bool.false_eq_true, Bool.not_true, Bool.not_false, reduceIte, List.getElem?_toArray, List.getElem?_cons_zero, List.getElem?_cons_succ, Option.isSome_none, List.length_map]
      rw [hiE]; exact hk
  · have g1 : ((i : Int) < (s.now.length : Int)) = False := eq_false (by omega)
    have hiE : i = A.length := by omega
    have hM : M = [] := List.eq_nil_of_length_eq_zero (by omega)
    simp only [T_carrackref11_Store.f0, T_sl_api_Pair.load, c0, ln, g1, popO_some, bindH_eq, condV_bool, condV_true, condV_false, yV_bool, gopV_tt, gopV_ff, gopV_tf, gopV_ft, pickV_t, pickV_f, pickV_bool, nilS_ptr, add_eq, sub_eq, mul_eq, lss_eq, leq_eq, gtr_eq, geq_eq, not_eq, minI_eq, maxI_eq, extract_0, extract_1, extract_2, eqlI, neqI, makeFunc_eq, decide_true, decide_false, if_true, if_false, Bool.false_eq_true, Bool.not_true, Bool.not_false, reduceIte, List.getElem?_toArray, List.getElem?_cons_zero, List.getElem?_cons_succ, Option.isSome_none, List.length_map]
    have : decide (M ≠ []) = false := by simp [hM]
    rw [this] at hk
    rw [hiE]; exact hk
end Go.Proofs.YtllopddcpkhfjaaDoor
