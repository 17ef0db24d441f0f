/- store: the example; both stores; StoreBlocks. -/
import Derived.Test.YtllopddcpkhfjaaDoorStoH
set_option linter.unusedSimpArgs false
set_option linter.unusedVariables false
namespace Go.Proofs.YtllopddcpkhfjaaDoor
open Go Bld
set_option maxRecDepth 20000
theorem ptrNil {h : PH} {x y : Operand} (a : Addr) : SemE PG h (binS .eql T_p_store_Store x y (.pointer (some a)) (.pointer none)) = some (.bool false) := by
  rw [eqlPtrNil T_p_store_Store.und]; rfl
theorem awake_ok {h : PH} (hK : KAt h) {k : Value → PH → Prop} (hk : ∀ h', Ext h h' → k (.bool true) h') : CallsH PG id_carracklaw11_awake #[] h k := by
  apply carracklaw11_awake.call
  unfold carracklaw11_awake
  refine StNew_ok 5 (by decide) hK fun a h1 F1 H1 f1 u1 => ?_
  simp only [ptrNil, popO_some, bindH_eq, condV_bool, condV_true, condV_false, yV_bool, gopV_tt, gopV_ff, gopV_tf, gopV_ft, pickV_t, pickV_f, pickV_bool, nilS_ptr, add_eq, sub_eq, mul_eq, lss_eq, leq_eq, gtr_eq, geq_eq, not_eq, minI_eq, maxI_eq, extract_0, extract_1, extract_2, eqlI, neqI, makeFunc_eq, decide_true, decide_false, if_true, if_false, Bool.false_eq_true, Bool.not_true, Bool.not_false, reduceIte, List.getElem?_toArray, List.getElem?_cons_zero, List.getElem?_cons_succ, Option.isSome_none, List.length_map]
  refine Set_ok H1 [97] [49] fun h2 H2 u2 => ?_
  have e2 := u1.fresh u2 f1
  have s2 : sSet ⟨[], [[]], 5⟩ [97] [49] = (⟨[⟨[97], [49]⟩], [[]], 5⟩, 0) := rfl
  rw [s2] at H2 ⊢
  refine Commit_ok (hK.ext e2) H2 fun h3 F3 H3 u3 k3 => ?_
  have e3 := e2.fresh u3 f1
  have s3 : sCom ⟨[⟨[97], [49]⟩], [[]], 5⟩ = (⟨[⟨[97], [49]⟩], [[], [⟨[97], [49]⟩]], 6⟩, (6, 0)) := rfl
  rw [s3] at H3 ⊢
  have at6 : sAt ⟨[⟨[97], [49]⟩], [[], [⟨[97], [49]⟩]], 6⟩ 6 = some [⟨[97], [49]⟩] := rfl
  have at5 : sAt ⟨[⟨[97], [49]⟩], [[], [⟨[97], [49]⟩]], 6⟩ 5 = some [] := rfl
  simp only [popO_some, bindH_eq, condV_bool, condV_true, condV_false, yV_bool, gopV_tt, gopV_ff, gopV_tf, gopV_ft, pickV_t, pickV_f, pickV_bool, nilS_ptr, add_eq, sub_eq, mul_eq, lss_eq, leq_eq, gtr_eq, geq_eq, not_eq, minI_eq, maxI_eq, extract_0, extract_1, extract_2, eqlI, neqI, makeFunc_eq, decide_true, decide_false, if_true, if_false, Bool.false_eq_true, Bool.not_true, Bool.not_false, reduceIte, List.getElem?_toArray, List.getElem?_cons_zero, List.getElem?_cons_succ, Option.isSome_none, List.length_map]
  refine At_ok H3 6 (by decide) (fun hn => by rw [at6] at hn; cases hn) (fun b4 v4 h4 F4 e4 O4 f4 u4 => ?_)
  rw [at6] at e4
  obtain rfl := Option.some.inj e4
  simp only [popO_some, bindH_eq, condV_bool, condV_true, condV_false, yV_bool, gopV_tt, gopV_ff, gopV_tf, gopV_ft, pickV_t, pickV_f, pickV_bool, nilS_ptr, add_eq, sub_eq, mul_eq, lss_eq, leq_eq, gtr_eq, geq_eq, not_eq, minI_eq, maxI_eq, extract_0, extract_1, extract_2, eqlI, neqI, makeFunc_eq, decide_true, decide_false, if_true, if_false, Bool.false_eq_true, Bool.not_true, Bool.not_false, reduceIte, List.getElem?_toArray, List.getElem?_cons_zero, List.getElem?_cons_succ, Option.isSome_none, List.length_map]
  refine At_ok (H3.ext u4) 5 (by decide) (fun hn => by rw [at5] at hn; cases hn) (fun b5 v5 h5 F5 e5 O5 f5 u5 => ?_)
  rw [at5] at e5
  obtain rfl := Option.some.inj e5
  have l4 := (O4.ext u5).slR.len (t' := T_int) T_sl_api_Pair.und
  have l5 := O5.slR.len (t' := T_int) T_sl_api_Pair.und
  simp only [List.map_cons, List.map_nil, List.length_cons, List.length_nil] at l4 l5
  simp only [l4, l5, show ((6 : Nat) : Int) = 6 from rfl, show (((0 + 1 : Nat) : Int) == 1) = true from rfl, show (((0 : Nat) : Int) == 0) = true from rfl, beq_self_eq_true, popO_some, bindH_eq, condV_bool, condV_true, condV_false, yV_bool, gopV_tt, gopV_ff, gopV_tf, gopV_ft, pickV_t, pickV_f, pickV_bool, nilS_ptr, add_eq, sub_eq, mul_eq, lss_eq, leq_eq, gtr_eq, geq_eq, not_eq, minI_eq, maxI_eq, extract_0, extract_1, extract_2, eqlI, neqI, makeFunc_eq, decide_true, decide_false, if_true, if_false, Bool.false_eq_true, Bool.not_true, Bool.not_false, reduceIte, List.getElem?_toArray, List.getElem?_cons_zero, List.getElem?_cons_succ, Option.isSome_none, List.length_map]
  refine Blocks_ok ((H3.ext u4).ext u5) ?_
  simp only [List.length_cons, List.length_nil, show (((0 + 1 + 1 : Nat) : Int) == 2) = true from rfl, popO_some, bindH_eq, condV_bool, condV_true, condV_false, yV_bool, gopV_tt, gopV_ff, gopV_tf, gopV_ft, pickV_t, pickV_f, pickV_bool, nilS_ptr, add_eq, sub_eq, mul_eq, lss_eq, leq_eq, gtr_eq, geq_eq, not_eq, minI_eq, maxI_eq, extract_0, extract_1, extract_2, eqlI, neqI, makeFunc_eq, decide_true, decide_false, if_true, if_false, Bool.false_eq_true, Bool.not_true, Bool.not_false, reduceIte, List.getElem?_toArray, List.getElem?_cons_zero, List.getElem?_cons_succ, Option.isSome_none, List.length_map]
  exact hk _ ((e3.trans u4).trans u5)
/-! ### both stores -/
structure DuoAt (h : PH) (a b : Nat) (s : St) (K : List Nat) : Prop where
  here : ∃ F G, StAt h a s F ∧ RfAt h b s G ∧ (∀ x ∈ F, x ∉ b :: G) ∧ K = F ++ b :: G
theorem DuoAt.upd {h h' : PH} {a b : Nat} {s : St} {K J : List Nat} (H : DuoAt h a b s K) (u : Upd J h h') (hd : ∀ x ∈ K, x ∉ J) : DuoAt h' a b s K := by
  obtain ⟨F, G, h1, h2, h3, rfl⟩ := H.here
  exact ⟨F, G, h1.upd u (fun x hx => hd x (by simp [hx])), h2.upd u (hd b (by simp)) (fun g hg => hd g (by simp [hg])), h3, rfl⟩
theorem DuoAt.ext {h h' : PH} {a b : Nat} {s : St} {K : List Nat} (H : DuoAt h a b s K) (u : Ext h h') : DuoAt h' a b s K := H.upd u (by simp)
theorem DuoAt.known {h : PH} {a b : Nat} {s : St} {K : List Nat} (H : DuoAt h a b s K) : ∀ x ∈ K, h x ≠ none := by
  obtain ⟨F, G, h1, h2, h3, rfl⟩ := H.here
  intro x hx
  rcases List.mem_append.1 hx with hx | hx
  · exact h1.known x hx
  · exact h2.known x hx
theorem DuoAt.st {h : PH} {a b : Nat} {s : St} {K : List Nat} (H : DuoAt h a b s K) : ∃ F, StAt h a s F ∧ ∀ x ∈ F, x ∈ K := by
  obtain ⟨F, G, h1, h2, h3, rfl⟩ := H.here
  exact ⟨F, h1, fun x hx => by simp [hx]⟩
theorem duo_ok {h : PH} {a b : Nat} {s : St} {K : List Nat} (hK : KAt h) (H : DuoAt h a b s K) (c : Ac) {kk : Value → PH → Prop} (hk : ∀ h' K', DuoAt h' a b (step s c) K' → Upd K h h' → (∀ x ∈ K', x ∈ K ∨ h x = none) → kk (.bool true) h') :
    CallsH PG id_carracklaw11_do #[.pointer (some ⟨a, 0, none⟩), .pointer (some ⟨b, 0, none⟩), c.v] h kk := by
  obtain ⟨F, G, h1, h2, h3, rfl⟩ := H.here
  refine do_ok hK h1 h2 h3 c fun h' F' G' q1 q2 q3 u q4 => ?_
  refine hk h' (F' ++ b :: G') ⟨F', G', q1, q2, q3, rfl⟩ (u.mono fun x hx => .inl ?_) (fun x hx => ?_)
  · simp only [List.mem_append, List.mem_cons, List.not_mem_nil, or_false] at hx ⊢
    rcases hx with hx | hx
    · exact .inl hx
    · exact .inr (.inl hx)
  · simp only [List.mem_append, List.mem_cons] at hx ⊢
    rcases hx with hx | hx | hx
    · rcases q4 x (.inl hx) with h0 | h0 | h0
      · exact .inl (.inl h0)
      · exact .inl (.inr (.inr h0))
      · exact .inr h0
    · exact .inl (.inr (.inl hx))
    · rcases q4 x (.inr hx) with h0 | h0 | h0
      · exact .inl (.inl h0)
      · exact .inl (.inr (.inr h0))
      · exact .inr h0
theorem duo_new {h : PH} {a b : Nat} {s : St} {F G : List Nat} {h' : PH} (H : StAt h a s F) (R : RfAt h' b s G) (fG : Fresh h (b :: G)) (u : Ext h h') : DuoAt h' a b s (F ++ b :: G) :=
  ⟨F, G, H.ext u, R, fun x hx hm => H.known x hx (fG x hm), rfl⟩
theorem step_cases (s : St) (c : Ac) : ((step s c).height = s.height ∧ (step s c).blocks = s.blocks) ∨ ((step s c).height = s.height + 1 ∧ (step s c).blocks = s.blocks ++ [s.now]) := by
  unfold step
  split
  · unfold sSet
    split
    · exact .inl ⟨rfl, rfl⟩
    · split <;> exact .inl ⟨rfl, rfl⟩
  · split
    · unfold sDel
      split <;> exact .inl ⟨rfl, rfl⟩
    · split
      · unfold sCom
        split
        · exact .inl ⟨rfl, rfl⟩
        · split
          · exact .inl ⟨rfl, rfl⟩
          · exact .inr ⟨rfl, rfl⟩
      · exact .inl ⟨rfl, rfl⟩
set_option maxHeartbeats 1000000 in
theorem StoreBlocks_ok {h : PH} (hK : KAt h) (first height : Nat) (hf : first < 18446744073709551616) (hh : height < 18446744073709551616) {v : Value} {l : List Ac} (S : SlR h 3 v (l.map Ac.cells)) {k : Value → PH → Prop} (hk : ∀ h', Ext h h' → k (.bool true) h') :
    CallsH PG id_carracklaw11_StoreBlocks #[.int .u64 (first : Int), v, .int .u64 (height : Int)] h k := by
  apply carracklaw11_StoreBlocks.call
  unfold carracklaw11_StoreBlocks
  refine awake_ok hK fun h1 u1 => ?_
  simp only [popO_some, bindH_eq, condV_bool, condV_true, condV_false, yV_bool, gopV_tt, gopV_ff, gopV_tf, gopV_ft, pickV_t, pickV_f, pickV_bool, nilS_ptr, add_eq, sub_eq, mul_eq, lss_eq, leq_eq, gtr_eq, geq_eq, not_eq, minI_eq, maxI_eq, extract_0, extract_1, extract_2, eqlI, neqI, makeFunc_eq, decide_true, decide_false, if_true, if_false, Bool.false_eq_true, Bool.not_true, Bool.not_false, reduceIte, List.getElem?_toArray, List.getElem?_cons_zero, List.getElem?_cons_succ, Option.isSome_none, List.length_map]
  refine few_ok (S.ext u1) (fun hfew => ?_) (fun _ => by simp only [popO_some, bindH_eq, condV_bool, condV_true, condV_false, yV_bool, gopV_tt, gopV_ff, gopV_tf, gopV_ft, pickV_t, pickV_f, pickV_bool, nilS_ptr, add_eq, sub_eq, mul_eq, lss_eq, leq_eq, gtr_eq, geq_eq, not_eq, minI_eq, maxI_eq, extract_0, extract_1, extract_2, eqlI, neqI, makeFunc_eq, decide_true, decide_false, if_true, if_false, Bool.false_eq_true, Bool.not_true, Bool.not_false, reduceIte, List.getElem?_toArray, List.getElem?_cons_zero, List.getElem?_cons_succ, Option.isSome_none, List.length_map]; exact hk _ u1)
  simp only [popO_some, bindH_eq, condV_bool, condV_true, condV_false, yV_bool, gopV_tt, gopV_ff, gopV_tf, gopV_ft, pickV_t, pickV_f, pickV_bool, nilS_ptr, add_eq, sub_eq, mul_eq, lss_eq, leq_eq, gtr_eq, geq_eq, not_eq, minI_eq, maxI_eq, extract_0, extract_1, extract_2, eqlI, neqI, makeFunc_eq, decide_true, decide_false, if_true, if_false, Bool.false_eq_true, Bool.not_true, Bool.not_false, reduceIte, List.getElem?_toArray, List.getElem?_cons_zero, List.getElem?_cons_succ, Option.isSome_none, List.length_map]
  refine StNew_ok first hf (hK.ext u1) fun a h2 F2 H2 f2 u2 => ?_
  refine RNew_ok first hf fun b h3 G3 R3 f3 u3 => ?_
  have D := duo_new H2 R3 f3 u3
  have e3 := (u1.trans u2).trans u3
  have fK : Fresh h (F2 ++ b :: G3) := fun x hx => by
    rcases List.mem_append.1 hx with hx | hx
    · exact u1.none (f2 x hx)
    · exact (u1.trans u2).none (f3 x hx)
  simp only [ptrNil, popO_some, bindH_eq, condV_bool, condV_true, condV_false, yV_bool, gopV_tt, gopV_ff, gopV_tf, gopV_ft, pickV_t, pickV_f, pickV_bool, nilS_ptr, add_eq, sub_eq, mul_eq, lss_eq, leq_eq, gtr_eq, geq_eq, not_eq, minI_eq, maxI_eq, extract_0, extract_1, extract_2, eqlI, neqI, makeFunc_eq, decide_true, decide_false, if_true, if_false, Bool.false_eq_true, Bool.not_true, Bool.not_false, reduceIte, List.getElem?_toArray, List.getElem?_cons_zero, List.getElem?_cons_succ, Option.isSome_none, List.length_map]
  have lv := S.len (t' := T_int) T_sl_carrackref11_Act.und
  rw [List.length_map] at lv
  have h60 := hfew.few
  refine ⟨fun vs h' => ∃ (i n : Nat) (s : St) (K : List Nat), i ≤ l.length ∧ n ≤ i ∧ vs = [.int .u64 (first : Int), v, .int .u64 (height : Int), .pointer (some ⟨a, 0, none⟩), .pointer (some ⟨b, 0, none⟩), .int .i64 (n : Int), .int .i64 (i : Int)] ∧ DuoAt h' a b s K ∧ Fresh h K ∧ Ext h h' ∧ s.height = first + n ∧ s.blocks.length = n + 1, upTo l.length 6, ⟨0, 0, _, _, by omega, by omega, rfl, D, fK, e3, rfl, rfl⟩, ?_⟩
  rintro ρ h' ⟨i, n, s, K, hi, hn, hvs, D, fK, u, sh, sb⟩
  simp only [List.map_cons, List.map_nil, List.cons.injEq, and_true] at hvs
  obtain ⟨v0, v1, v2, v7, v8, v9, v10⟩ := hvs
  simp only [v0, v1, v2, v7, v8, v9, v10, List.map_cons, List.map_nil]
  unfold carracklaw11_StoreBlocks_b13
  obtain ⟨F, H, hFK⟩ := D.st
  have h4 := H.ok.h4
  by_cases hl : i < l.length
  · have g1 : ((i : Int) < (l.length : Int)) = True := eq_true (by omega)
    have gi : IntKind.i64.wrap ((i : Int) + 1) = ((i + 1 : Nat) : Int) := by rw [i64_wrap (by omega) (by omega)]; omega
    have gn : IntKind.i64.wrap ((n : Int) + 1) = ((n + 1 : Nat) : Int) := by rw [i64_wrap (by omega) (by omega)]; omega
    simp only [lv, g1, popO_some, bindH_eq, condV_bool, condV_true, condV_false, yV_bool, gopV_tt, gopV_ff, gopV_tf, gopV_ft, pickV_t, pickV_f, pickV_bool, nilS_ptr, add_eq, sub_eq, mul_eq, lss_eq, leq_eq, gtr_eq, geq_eq, not_eq, minI_eq, maxI_eq, extract_0, extract_1, extract_2, eqlI, neqI, makeFunc_eq, decide_true, decide_false, if_true, if_false, Bool.false_eq_true, Bool.not_true, Bool.not_false, reduceIte, List.getElem?_toArray, List.getElem?_cons_zero, List.getElem?_cons_succ, Option.isSome_none, List.length_map]
    refine Height_ok H ?_
    obtain ⟨pb, po, p1, -, -, p4⟩ := (S.ext u).act (j := i) (p := l[i]) (List.getElem?_eq_getElem hl)
    generalize l[i] = c at *
    simp only [p1, p4, popO_some, bindH_eq, condV_bool, condV_true, condV_false, yV_bool, gopV_tt, gopV_ff, gopV_tf, gopV_ft, pickV_t, pickV_f, pickV_bool, nilS_ptr, add_eq, sub_eq, mul_eq, lss_eq, leq_eq, gtr_eq, geq_eq, not_eq, minI_eq, maxI_eq, extract_0, extract_1, extract_2, eqlI, neqI, makeFunc_eq, decide_true, decide_false, if_true, if_false, Bool.false_eq_true, Bool.not_true, Bool.not_false, reduceIte, List.getElem?_toArray, List.getElem?_cons_zero, List.getElem?_cons_succ, Option.isSome_none, List.length_map]
    refine duo_ok (hK.ext u) D c fun h5 K5 D5 u5 k5 => ?_
    have e5 := u.fresh u5 fK
    have f5 := fK.grow u k5
    obtain ⟨F5, H5, -⟩ := D5.st
    refine Height_ok H5 ?_
    rcases step_cases s c with ⟨q1, q2⟩ | ⟨q1, q2⟩
    · have g2 : (((step s c).height : Int) != (s.height : Int)) = false := by rw [q1]; simp
      simp only [g2, popO_some, bindH_eq, condV_bool, condV_true, condV_false, yV_bool, gopV_tt, gopV_ff, gopV_tf, gopV_ft, pickV_t, pickV_f, pickV_bool, nilS_ptr, add_eq, sub_eq, mul_eq, lss_eq, leq_eq, gtr_eq, geq_eq, not_eq, minI_eq, maxI_eq, extract_0, extract_1, extract_2, eqlI, neqI, makeFunc_eq, decide_true, decide_false, if_true, if_false, Bool.false_eq_true, Bool.not_true, Bool.not_false, reduceIte, List.getElem?_toArray, List.getElem?_cons_zero, List.getElem?_cons_succ, Option.isSome_none, List.length_map]
      unfold carracklaw11_StoreBlocks_k26 carracklaw11_StoreBlocks_k27
      simp only [gi, popO_some, bindH_eq, condV_bool, condV_true, condV_false, yV_bool, gopV_tt, gopV_ff, gopV_tf, gopV_ft, pickV_t, pickV_f, pickV_bool, nilS_ptr, add_eq, sub_eq, mul_eq, lss_eq, leq_eq, gtr_eq, geq_eq, not_eq, minI_eq, maxI_eq, extract_0, extract_1, extract_2, eqlI, neqI, makeFunc_eq, decide_true, decide_false, if_true, if_false, Bool.false_eq_true, Bool.not_true, Bool.not_false, reduceIte, List.getElem?_toArray, List.getElem?_cons_zero, List.getElem?_cons_succ, Option.isSome_none, List.length_map]
      refine ⟨⟨i + 1, n, _, _, by omega, by omega, rfl, D5, f5, e5, by rw [q1]; exact sh, by rw [q2]; exact sb⟩, ?_⟩
      simp only [upTo, List.getElem?_cons_succ, List.getElem?_cons_zero]
      omega
    · have g2 : (((step s c).height : Int) != (s.height : Int)) = true := by rw [q1]; simp; omega
      simp only [g2, gn, popO_some, bindH_eq, condV_bool, condV_true, condV_false, yV_bool, gopV_tt, gopV_ff, gopV_tf, gopV_ft, pickV_t, pickV_f, pickV_bool, nilS_ptr, add_eq, sub_eq, mul_eq, lss_eq, leq_eq, gtr_eq, geq_eq, not_eq, minI_eq, maxI_eq, extract_0, extract_1, extract_2, eqlI, neqI, makeFunc_eq, decide_true, decide_false, if_true, if_false, Bool.false_eq_true, Bool.not_true, Bool.not_false, reduceIte, List.getElem?_toArray, List.getElem?_cons_zero, List.getElem?_cons_succ, Option.isSome_none, List.length_map]
      unfold carracklaw11_StoreBlocks_k26 carracklaw11_StoreBlocks_k27
      simp only [gi, popO_some, bindH_eq, condV_bool, condV_true, condV_false, yV_bool, gopV_tt, gopV_ff, gopV_tf, gopV_ft, pickV_t, pickV_f, pickV_bool, nilS_ptr, add_eq, sub_eq, mul_eq, lss_eq, leq_eq, gtr_eq, geq_eq, not_eq, minI_eq, maxI_eq, extract_0, extract_1, extract_2, eqlI, neqI, makeFunc_eq, decide_true, decide_false, if_true, if_false, Bool.false_eq_true, Bool.not_true, Bool.not_false, reduceIte, List.getElem?_toArray, List.getElem?_cons_zero, List.getElem?_cons_succ, Option.isSome_none, List.length_map]
      refine ⟨⟨i + 1, n + 1, _, _, by omega, by omega, rfl, D5, f5, e5, by rw [q1]; omega, by rw [q2, List.length_append]; simp; omega⟩, ?_⟩
      simp only [upTo, List.getElem?_cons_succ, List.getElem?_cons_zero]
      omega
  · have g1 : ((i : Int) < (l.length : Int)) = False := eq_false (by omega)
    have gn : IntKind.i64.wrap ((n : Int) + 1) = ((n + 1 : Nat) : Int) := by rw [i64_wrap (by omega) (by omega)]; omega
    have wn : IntKind.u64.wrap (n : Int) = (n : Int) := u64_wrap (by omega) (by omega)
    have hnone := sAt_none H.ok.h1 (x := height)
    -- the end, in two ways
    have gb : (((s.blocks.length : Nat) : Int) != ((n + 1 : Nat) : Int)) = false := by rw [sb]; simp
    have wh : IntKind.u64.wrap ((s.height : Int) - (first : Int)) = (n : Int) := by rw [u64_wrap (by omega) (by omega)]; omega
    have gh : ((n : Int) != (n : Int)) = false := by simp
    by_cases hin : first ≤ height ∧ height - first ≤ n
    · have hsome : ¬ sAt s height = none := fun hx => by have := hnone.1 hx; omega
      have g2 : ((first : Int) ≤ (height : Int)) = True := eq_true (by omega)
      have wd : IntKind.u64.wrap ((height : Int) - (first : Int)) = ((height - first : Nat) : Int) := by rw [u64_wrap (by omega) (by omega)]; omega
      have g3 : (((height - first : Nat) : Int) ≤ (n : Int)) = True := eq_true (by omega)
      simp only [lv, g1, g2, wd, cv_int_u64, wn, g3, popO_some, bindH_eq, condV_bool, condV_true, condV_false, yV_bool, gopV_tt, gopV_ff, gopV_tf, gopV_ft, pickV_t, pickV_f, pickV_bool, nilS_ptr, add_eq, sub_eq, mul_eq, lss_eq, leq_eq, gtr_eq, geq_eq, not_eq, minI_eq, maxI_eq, extract_0, extract_1, extract_2, eqlI, neqI, makeFunc_eq, decide_true, decide_false, if_true, if_false, Bool.false_eq_true, Bool.not_true, Bool.not_false, reduceIte, List.getElem?_toArray, List.getElem?_cons_zero, List.getElem?_cons_succ, Option.isSome_none, List.length_map]
      refine At_ok H height hh (fun hx => absurd hx hsome) (fun b4 v4 h5 F4 e4 O4 f4 u4 => ?_)
      simp only [popO_some, bindH_eq, condV_bool, condV_true, condV_false, yV_bool, gopV_tt, gopV_ff, gopV_tf, gopV_ft, pickV_t, pickV_f, pickV_bool, nilS_ptr, add_eq, sub_eq, mul_eq, lss_eq, leq_eq, gtr_eq, geq_eq, not_eq, minI_eq, maxI_eq, extract_0, extract_1, extract_2, eqlI, neqI, makeFunc_eq, decide_true, decide_false, if_true, if_false, Bool.false_eq_true, Bool.not_true, Bool.not_false, reduceIte, List.getElem?_toArray, List.getElem?_cons_zero, List.getElem?_cons_succ, Option.isSome_none, List.length_map]
      have H5 := H.ext u4
      refine StRoot_ok H5 height hh (fun hx => absurd hx hsome) (fun b5 h6 e5 u6 => ?_)
      simp only [popO_some, bindH_eq, condV_bool, condV_true, condV_false, yV_bool, gopV_tt, gopV_ff, gopV_tf, gopV_ft, pickV_t, pickV_f, pickV_bool, nilS_ptr, add_eq, sub_eq, mul_eq, lss_eq, leq_eq, gtr_eq, geq_eq, not_eq, minI_eq, maxI_eq, extract_0, extract_1, extract_2, eqlI, neqI, makeFunc_eq, decide_true, decide_false, if_true, if_false, Bool.false_eq_true, Bool.not_true, Bool.not_false, reduceIte, List.getElem?_toArray, List.getElem?_cons_zero, List.getElem?_cons_succ, Option.isSome_none, List.length_map]
      have H6 := H5.ext u6
      refine Blocks_ok H6 ?_
      simp only [gn, gb, popO_some, bindH_eq, condV_bool, condV_true, condV_false, yV_bool, gopV_tt, gopV_ff, gopV_tf, gopV_ft, pickV_t, pickV_f, pickV_bool, nilS_ptr, add_eq, sub_eq, mul_eq, lss_eq, leq_eq, gtr_eq, geq_eq, not_eq, minI_eq, maxI_eq, extract_0, extract_1, extract_2, eqlI, neqI, makeFunc_eq, decide_true, decide_false, if_true, if_false, Bool.false_eq_true, Bool.not_true, Bool.not_false, reduceIte, List.getElem?_toArray, List.getElem?_cons_zero, List.getElem?_cons_succ, Option.isSome_none, List.length_map]
      refine Height_ok H6 ?_
      have l32 : (tx (rootP b5)).size = 32 := by rw [tx_size, rootP_len]
      simp only [wh, cv_int_u64, wn, gh, T_string.len, tx_size, rootP_len, show (((32 : Nat) : Int) == 32) = true from rfl, beq_self_eq_true, popO_some, bindH_eq, condV_bool, condV_true, condV_false, yV_bool, gopV_tt, gopV_ff, gopV_tf, gopV_ft, pickV_t, pickV_f, pickV_bool, nilS_ptr, add_eq, sub_eq, mul_eq, lss_eq, leq_eq, gtr_eq, geq_eq, not_eq, minI_eq, maxI_eq, extract_0, extract_1, extract_2, eqlI, neqI, makeFunc_eq, decide_true, decide_false, if_true, if_false, Bool.false_eq_true, Bool.not_true, Bool.not_false, reduceIte, List.getElem?_toArray, List.getElem?_cons_zero, List.getElem?_cons_succ, Option.isSome_none, List.length_map]
      exact hk _ ((u.trans u4).trans u6)
    · have hx : sAt s height = none := hnone.2 (by omega)
      by_cases d1 : first ≤ height
      · have g2 : ((first : Int) ≤ (height : Int)) = True := eq_true (by omega)
        have wd : IntKind.u64.wrap ((height : Int) - (first : Int)) = ((height - first : Nat) : Int) := by rw [u64_wrap (by omega) (by omega)]; omega
        have g3 : (((height - first : Nat) : Int) ≤ (n : Int)) = False := eq_false (by omega)
        simp only [lv, g1, g2, wd, cv_int_u64, wn, g3, popO_some, bindH_eq, condV_bool, condV_true, condV_false, yV_bool, gopV_tt, gopV_ff, gopV_tf, gopV_ft, pickV_t, pickV_f, pickV_bool, nilS_ptr, add_eq, sub_eq, mul_eq, lss_eq, leq_eq, gtr_eq, geq_eq, not_eq, minI_eq, maxI_eq, extract_0, extract_1, extract_2, eqlI, neqI, makeFunc_eq, decide_true, decide_false, if_true, if_false, Bool.false_eq_true, Bool.not_true, Bool.not_false, reduceIte, List.getElem?_toArray, List.getElem?_cons_zero, List.getElem?_cons_succ, Option.isSome_none, List.length_map]
        refine At_ok H height hh (fun _ v4 h5 F4 O4 f4 u4 => ?_) (fun b4 v4 h5 F4 e4 => by rw [hx] at e4; cases e4)
        simp only [popO_some, bindH_eq, condV_bool, condV_true, condV_false, yV_bool, gopV_tt, gopV_ff, gopV_tf, gopV_ft, pickV_t, pickV_f, pickV_bool, nilS_ptr, add_eq, sub_eq, mul_eq, lss_eq, leq_eq, gtr_eq, geq_eq, not_eq, minI_eq, maxI_eq, extract_0, extract_1, extract_2, eqlI, neqI, makeFunc_eq, decide_true, decide_false, if_true, if_false, Bool.false_eq_true, Bool.not_true, Bool.not_false, reduceIte, List.getElem?_toArray, List.getElem?_cons_zero, List.getElem?_cons_succ, Option.isSome_none, List.length_map]
        have H5 := H.ext u4
        refine StRoot_ok H5 height hh (fun _ h6 u6 => ?_) (fun b5 h6 e5 => by rw [hx] at e5; cases e5)
        simp only [popO_some, bindH_eq, condV_bool, condV_true, condV_false, yV_bool, gopV_tt, gopV_ff, gopV_tf, gopV_ft, pickV_t, pickV_f, pickV_bool, nilS_ptr, add_eq, sub_eq, mul_eq, lss_eq, leq_eq, gtr_eq, geq_eq, not_eq, minI_eq, maxI_eq, extract_0, extract_1, extract_2, eqlI, neqI, makeFunc_eq, decide_true, decide_false, if_true, if_false, Bool.false_eq_true, Bool.not_true, Bool.not_false, reduceIte, List.getElem?_toArray, List.getElem?_cons_zero, List.getElem?_cons_succ, Option.isSome_none, List.length_map]
        have H6 := H5.ext u6
        refine Blocks_ok H6 ?_
        simp only [gn, gb, popO_some, bindH_eq, condV_bool, condV_true, condV_false, yV_bool, gopV_tt, gopV_ff, gopV_tf, gopV_ft, pickV_t, pickV_f, pickV_bool, nilS_ptr, add_eq, sub_eq, mul_eq, lss_eq, leq_eq, gtr_eq, geq_eq, not_eq, minI_eq, maxI_eq, extract_0, extract_1, extract_2, eqlI, neqI, makeFunc_eq, decide_true, decide_false, if_true, if_false, Bool.false_eq_true, Bool.not_true, Bool.not_false, reduceIte, List.getElem?_toArray, List.getElem?_cons_zero, List.getElem?_cons_succ, Option.isSome_none, List.length_map]
        refine Height_ok H6 ?_
        have l0 := (O4.ext u6).slR.len (t' := T_int) T_sl_api_Pair.und
        simp only [List.map_nil, List.length_nil] at l0
        have es : ∀ (x y : Operand) (hq : PH), SemE PG hq (binS .eql T_string x y (.string (tx [])) (.string ⟨#[]⟩)) = some (.bool true) := fun x y hq => eqlStr [] []
        simp only [wh, cv_int_u64, wn, gh, l0, es, show (((0 : Nat) : Int) == 0) = true from rfl, beq_self_eq_true, popO_some, bindH_eq, condV_bool, condV_true, condV_false, yV_bool, gopV_tt, gopV_ff, gopV_tf, gopV_ft, pickV_t, pickV_f, pickV_bool, nilS_ptr, add_eq, sub_eq, mul_eq, lss_eq, leq_eq, gtr_eq, geq_eq, not_eq, minI_eq, maxI_eq, extract_0, extract_1, extract_2, eqlI, neqI, makeFunc_eq, decide_true, decide_false, if_true, if_false, Bool.false_eq_true, Bool.not_true, Bool.not_false, reduceIte, List.getElem?_toArray, List.getElem?_cons_zero, List.getElem?_cons_succ, Option.isSome_none, List.length_map]
        exact hk _ ((u.trans u4).trans u6)
      · have g2 : ((first : Int) ≤ (height : Int)) = False := eq_false (by omega)
        simp only [lv, g1, g2, cv_int_u64, popO_some, bindH_eq, condV_bool, condV_true, condV_false, yV_bool, gopV_tt, gopV_ff, gopV_tf, gopV_ft, pickV_t, pickV_f, pickV_bool, nilS_ptr, add_eq, sub_eq, mul_eq, lss_eq, leq_eq, gtr_eq, geq_eq, not_eq, minI_eq, maxI_eq, extract_0, extract_1, extract_2, eqlI, neqI, makeFunc_eq, decide_true, decide_false, if_true, if_false, Bool.false_eq_true, Bool.not_true, Bool.not_false, reduceIte, List.getElem?_toArray, List.getElem?_cons_zero, List.getElem?_cons_succ, Option.isSome_none, List.length_map]
        refine At_ok H height hh (fun _ v4 h5 F4 O4 f4 u4 => ?_) (fun b4 v4 h5 F4 e4 => by rw [hx] at e4; cases e4)
        simp only [popO_some, bindH_eq, condV_bool, condV_true, condV_false, yV_bool, gopV_tt, gopV_ff, gopV_tf, gopV_ft, pickV_t, pickV_f, pickV_bool, nilS_ptr, add_eq, sub_eq, mul_eq, lss_eq, leq_eq, gtr_eq, geq_eq, not_eq, minI_eq, maxI_eq, extract_0, extract_1, extract_2, eqlI, neqI, makeFunc_eq, decide_true, decide_false, if_true, if_false, Bool.false_eq_true, Bool.not_true, Bool.not_false, reduceIte, List.getElem?_toArray, List.getElem?_cons_zero, List.getElem?_cons_succ, Option.isSome_none, List.length_map]
        have H5 := H.ext u4
        refine StRoot_ok H5 height hh (fun _ h6 u6 => ?_) (fun b5 h6 e5 => by rw [hx] at e5; cases e5)
        simp only [popO_some, bindH_eq, condV_bool, condV_true, condV_false, yV_bool, gopV_tt, gopV_ff, gopV_tf, gopV_ft, pickV_t, pickV_f, pickV_bool, nilS_ptr, add_eq, sub_eq, mul_eq, lss_eq, leq_eq, gtr_eq, geq_eq, not_eq, minI_eq, maxI_eq, extract_0, extract_1, extract_2, eqlI, neqI, makeFunc_eq, decide_true, decide_false, if_true, if_false, Bool.false_eq_true, Bool.not_true, Bool.not_false, reduceIte, List.getElem?_toArray, List.getElem?_cons_zero, List.getElem?_cons_succ, Option.isSome_none, List.length_map]
        have H6 := H5.ext u6
        refine Blocks_ok H6 ?_
        simp only [gn, gb, popO_some, bindH_eq, condV_bool, condV_true, condV_false, yV_bool, gopV_tt, gopV_ff, gopV_tf, gopV_ft, pickV_t, pickV_f, pickV_bool, nilS_ptr, add_eq, sub_eq, mul_eq, lss_eq, leq_eq, gtr_eq, geq_eq, not_eq, minI_eq, maxI_eq, extract_0, extract_1, extract_2, eqlI, neqI, makeFunc_eq, decide_true, decide_false, if_true, if_false, Bool.false_eq_true, Bool.not_true, Bool.not_false, reduceIte, List.getElem?_toArray, List.getElem?_cons_zero, List.getElem?_cons_succ, Option.isSome_none, List.length_map]
        refine Height_ok H6 ?_
        have l0 := (O4.ext u6).slR.len (t' := T_int) T_sl_api_Pair.und
        simp only [List.map_nil, List.length_nil] at l0
        have es : ∀ (x y : Operand) (hq : PH), SemE PG hq (binS .eql T_string x y (.string (tx [])) (.string ⟨#[]⟩)) = some (.bool true) := fun x y hq => eqlStr [] []
        simp only [wh, cv_int_u64, wn, gh, l0, es, show (((0 : Nat) : Int) == 0) = true from rfl, beq_self_eq_true, popO_some, bindH_eq, condV_bool, condV_true, condV_false, yV_bool, gopV_tt, gopV_ff, gopV_tf, gopV_ft, pickV_t, pickV_f, pickV_bool, nilS_ptr, add_eq, sub_eq, mul_eq, lss_eq, leq_eq, gtr_eq, geq_eq, not_eq, minI_eq, maxI_eq, extract_0, extract_1, extract_2, eqlI, neqI, makeFunc_eq, decide_true, decide_false, if_true, if_false, Bool.false_eq_true, Bool.not_true, Bool.not_false, reduceIte, List.getElem?_toArray, List.getElem?_cons_zero, List.getElem?_cons_succ, Option.isSome_none, List.length_map]
        exact hk _ ((u.trans u4).trans u6)
end Go.Proofs.YtllopddcpkhfjaaDoor
