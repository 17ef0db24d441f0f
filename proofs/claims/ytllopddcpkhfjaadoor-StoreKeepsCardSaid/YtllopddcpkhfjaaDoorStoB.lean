/- store: StoreBack. -/
import Derived.Test.YtllopddcpkhfjaaDoorStoI
set_option linter.unusedSimpArgs false
set_option linter.unusedVariables false
namespace Go.Proofs.YtllopddcpkhfjaaDoor
open Go Bld
set_option maxRecDepth 20000
theorem sCom_lt (s : St) (h : s.Ok) : (sCom s).2.1 < 18446744073709551616 := by
  have := h.h4
  unfold sCom
  split
  · show 0 < 18446744073709551616
    decide
  · split
    · show 0 < 18446744073709551616
      decide
    · show s.height + 1 < _
      omega
theorem not_two {h : PH} {F G F' : List Nat} (hd : ∀ x ∈ F, x ∉ G) (hk : ∀ x ∈ F', x ∈ F ∨ h x = none) (hG : ∀ x ∈ G, h x ≠ none) : ∀ x ∈ F', x ∉ G := fun x hx hm => by
  rcases hk x hx with h0 | h0
  · exact hd x h0 hm
  · exact hG x hm h0
theorem k91_ok {h0 h : PH} {a b : Nat} {s : St} {Fa Fb : List Nat} (hK : KAt h0) (A : StAt h a s Fa) (B : StAt h b s Fb) (hd : ∀ x ∈ Fa, x ∉ Fb) (fa : Fresh h0 Fa) (fb : Fresh h0 Fb) (u : Ext h0 h) {k : Value → PH → Prop} (hk : ∀ h', Ext h0 h' → k (.bool true) h') :
    carracklaw11_StoreBack_k91 k (.pointer (some ⟨a, 0, none⟩)) (.pointer (some ⟨b, 0, none⟩)) h := by
  unfold carracklaw11_StoreBack_k91
  have hlt := sCom_lt s A.ok
  refine Commit_ok (hK.ext u) A fun h1 Fa1 A1 u1 k1 => ?_
  have hd1 := not_two hd k1 B.known
  have B1 := B.upd u1 (fun x hx hm => hd x hm hx)
  have e1 : Ext h0 h1 := u.fresh u1 fa
  have fa1 : Fresh h0 Fa1 := fa.grow u k1
  simp only [popO_some, bindH_eq, condV_bool, condV_true, condV_false, yV_bool, gopV_tt, gopV_ff, gopV_tf, gopV_ft, pickV_t, pickV_f, pickV_bool, nilS_ptr, add_eq, sub_eq, mul_eq, lss_eq, leq_eq, gtr_eq, geq_eq, not_eq, minI_eq, maxI_eq, extract_0, extract_1, extract_2, eqlI, neqI, makeFunc_eq, decide_true, decide_false, if_true, if_false, Bool.false_eq_true, Bool.not_true, Bool.not_false, reduceIte, List.getElem?_toArray, List.getElem?_cons_zero, List.getElem?_cons_succ, Option.isSome_none, List.length_map]
  refine Commit_ok (hK.ext e1) B1 fun h2 Fb2 B2 u2 k2 => ?_
  have A2 := A1.upd u2 (fun x hx hm => hd1 x hx hm)
  have e2 : Ext h0 h2 := e1.fresh u2 fb
  simp only [popO_some, bindH_eq, condV_bool, condV_true, condV_false, yV_bool, gopV_tt, gopV_ff, gopV_tf, gopV_ft, pickV_t, pickV_f, pickV_bool, nilS_ptr, add_eq, sub_eq, mul_eq, lss_eq, leq_eq, gtr_eq, geq_eq, not_eq, minI_eq, maxI_eq, extract_0, extract_1, extract_2, eqlI, neqI, makeFunc_eq, decide_true, decide_false, if_true, if_false, Bool.false_eq_true, Bool.not_true, Bool.not_false, reduceIte, List.getElem?_toArray, List.getElem?_cons_zero, List.getElem?_cons_succ, Option.isSome_none, List.length_map]
  -- both stand alike
  have fin : ∀ (d : Tx) (e : Int) (h3 h4 : PH), Ext h2 h3 → Ext h3 h4 → ∀ (X : PH → Prop), (∀ h', Ext h0 h' → X h') → X h4 := fun d e h3 h4 w1 w2 X hX => hX h4 ((e2.trans w1).trans w2)
  refine StRoot_ok A2 _ hlt (fun hs h3 u3 => ?_) (fun bb h3 hs u3 => ?_)
  · simp only [popO_some, bindH_eq, condV_bool, condV_true, condV_false, yV_bool, gopV_tt, gopV_ff, gopV_tf, gopV_ft, pickV_t, pickV_f, pickV_bool, nilS_ptr, add_eq, sub_eq, mul_eq, lss_eq, leq_eq, gtr_eq, geq_eq, not_eq, minI_eq, maxI_eq, extract_0, extract_1, extract_2, eqlI, neqI, makeFunc_eq, decide_true, decide_false, if_true, if_false, Bool.false_eq_true, Bool.not_true, Bool.not_false, reduceIte, List.getElem?_toArray, List.getElem?_cons_zero, List.getElem?_cons_succ, Option.isSome_none, List.length_map]
    have A3 := A2.ext u3
    have B3 := B2.ext u3
    refine StRoot_ok B3 _ hlt (fun _ h4 u4 => ?_) (fun bb h4 hs' u4 => by rw [hs] at hs'; cases hs')
    simp only [beq_self_eq_true, eqlStr, decide_true, popO_some, bindH_eq, condV_bool, condV_true, condV_false, yV_bool, gopV_tt, gopV_ff, gopV_tf, gopV_ft, pickV_t, pickV_f, pickV_bool, nilS_ptr, add_eq, sub_eq, mul_eq, lss_eq, leq_eq, gtr_eq, geq_eq, not_eq, minI_eq, maxI_eq, extract_0, extract_1, extract_2, eqlI, neqI, makeFunc_eq, decide_true, decide_false, if_true, if_false, Bool.false_eq_true, Bool.not_true, Bool.not_false, reduceIte, List.getElem?_toArray, List.getElem?_cons_zero, List.getElem?_cons_succ, Option.isSome_none, List.length_map]
    refine SLen_ok (A3.ext u4) ?_
    try simp only [popO_some, bindH_eq, condV_bool, condV_true, condV_false, yV_bool, gopV_tt, gopV_ff, gopV_tf, gopV_ft, pickV_t, pickV_f, pickV_bool, nilS_ptr, add_eq, sub_eq, mul_eq, lss_eq, leq_eq, gtr_eq, geq_eq, not_eq, minI_eq, maxI_eq, extract_0, extract_1, extract_2, eqlI, neqI, makeFunc_eq, decide_true, decide_false, if_true, if_false, Bool.false_eq_true, Bool.not_true, Bool.not_false, reduceIte, List.getElem?_toArray, List.getElem?_cons_zero, List.getElem?_cons_succ, Option.isSome_none, List.length_map]
    refine SLen_ok (B3.ext u4) ?_
    simp only [beq_self_eq_true, popO_some, bindH_eq, condV_bool, condV_true, condV_false, yV_bool, gopV_tt, gopV_ff, gopV_tf, gopV_ft, pickV_t, pickV_f, pickV_bool, nilS_ptr, add_eq, sub_eq, mul_eq, lss_eq, leq_eq, gtr_eq, geq_eq, not_eq, minI_eq, maxI_eq, extract_0, extract_1, extract_2, eqlI, neqI, makeFunc_eq, decide_true, decide_false, if_true, if_false, Bool.false_eq_true, Bool.not_true, Bool.not_false, reduceIte, List.getElem?_toArray, List.getElem?_cons_zero, List.getElem?_cons_succ, Option.isSome_none, List.length_map]
    exact hk _ ((e2.trans u3).trans u4)
  · simp only [popO_some, bindH_eq, condV_bool, condV_true, condV_false, yV_bool, gopV_tt, gopV_ff, gopV_tf, gopV_ft, pickV_t, pickV_f, pickV_bool, nilS_ptr, add_eq, sub_eq, mul_eq, lss_eq, leq_eq, gtr_eq, geq_eq, not_eq, minI_eq, maxI_eq, extract_0, extract_1, extract_2, eqlI, neqI, makeFunc_eq, decide_true, decide_false, if_true, if_false, Bool.false_eq_true, Bool.not_true, Bool.not_false, reduceIte, List.getElem?_toArray, List.getElem?_cons_zero, List.getElem?_cons_succ, Option.isSome_none, List.length_map]
    have A3 := A2.ext u3
    have B3 := B2.ext u3
    refine StRoot_ok B3 _ hlt (fun hs' h4 u4 => by rw [hs] at hs'; cases hs') (fun b2 h4 hs' u4 => ?_)
    rw [hs] at hs'
    obtain rfl := Option.some.inj hs'
    simp only [beq_self_eq_true, eqlStr, decide_true, popO_some, bindH_eq, condV_bool, condV_true, condV_false, yV_bool, gopV_tt, gopV_ff, gopV_tf, gopV_ft, pickV_t, pickV_f, pickV_bool, nilS_ptr, add_eq, sub_eq, mul_eq, lss_eq, leq_eq, gtr_eq, geq_eq, not_eq, minI_eq, maxI_eq, extract_0, extract_1, extract_2, eqlI, neqI, makeFunc_eq, decide_true, decide_false, if_true, if_false, Bool.false_eq_true, Bool.not_true, Bool.not_false, reduceIte, List.getElem?_toArray, List.getElem?_cons_zero, List.getElem?_cons_succ, Option.isSome_none, List.length_map]
    refine SLen_ok (A3.ext u4) ?_
    try simp only [popO_some, bindH_eq, condV_bool, condV_true, condV_false, yV_bool, gopV_tt, gopV_ff, gopV_tf, gopV_ft, pickV_t, pickV_f, pickV_bool, nilS_ptr, add_eq, sub_eq, mul_eq, lss_eq, leq_eq, gtr_eq, geq_eq, not_eq, minI_eq, maxI_eq, extract_0, extract_1, extract_2, eqlI, neqI, makeFunc_eq, decide_true, decide_false, if_true, if_false, Bool.false_eq_true, Bool.not_true, Bool.not_false, reduceIte, List.getElem?_toArray, List.getElem?_cons_zero, List.getElem?_cons_succ, Option.isSome_none, List.length_map]
    refine SLen_ok (B3.ext u4) ?_
    simp only [beq_self_eq_true, popO_some, bindH_eq, condV_bool, condV_true, condV_false, yV_bool, gopV_tt, gopV_ff, gopV_tf, gopV_ft, pickV_t, pickV_f, pickV_bool, nilS_ptr, add_eq, sub_eq, mul_eq, lss_eq, leq_eq, gtr_eq, geq_eq, not_eq, minI_eq, maxI_eq, extract_0, extract_1, extract_2, eqlI, neqI, makeFunc_eq, decide_true, decide_false, if_true, if_false, Bool.false_eq_true, Bool.not_true, Bool.not_false, reduceIte, List.getElem?_toArray, List.getElem?_cons_zero, List.getElem?_cons_succ, Option.isSome_none, List.length_map]
    exact hk _ ((e2.trans u3).trans u4)
set_option maxHeartbeats 1000000 in
theorem StoreBack_ok {h : PH} (hK : KAt h) (first : Nat) (hf : first < 18446744073709551616) {v : Value} {l : List Ac} (S : SlR h 3 v (l.map Ac.cells)) (key val : Tx) {k : Value → PH → Prop} (hk : ∀ h', Ext h h' → k (.bool true) h') :
    CallsH PG id_carracklaw11_StoreBack #[.int .u64 (first : Int), v, .string (tx key), .string (tx val)] h k := by
  apply carracklaw11_StoreBack.call
  unfold carracklaw11_StoreBack
  refine awake_ok hK fun h1 u1 => ?_
  simp only [popO_some, bindH_eq, condV_bool, condV_true, condV_false, yV_bool, gopV_tt, gopV_ff, gopV_tf, gopV_ft, pickV_t, pickV_f, pickV_bool, nilS_ptr, add_eq, sub_eq, mul_eq, lss_eq, leq_eq, gtr_eq, geq_eq, not_eq, minI_eq, maxI_eq, extract_0, extract_1, extract_2, eqlI, neqI, makeFunc_eq, decide_true, decide_false, if_true, if_false, Bool.false_eq_true, Bool.not_true, Bool.not_false, reduceIte, List.getElem?_toArray, List.getElem?_cons_zero, List.getElem?_cons_succ, Option.isSome_none, List.length_map]
  refine few_ok (S.ext u1) (fun hfew => ?_) (fun _ => by simp only [popO_some, bindH_eq, condV_bool, condV_true, condV_false, yV_bool, gopV_tt, gopV_ff, gopV_tf, gopV_ft, pickV_t, pickV_f, pickV_bool, nilS_ptr, add_eq, sub_eq, mul_eq, lss_eq, leq_eq, gtr_eq, geq_eq, not_eq, minI_eq, maxI_eq, extract_0, extract_1, extract_2, eqlI, neqI, makeFunc_eq, decide_true, decide_false, if_true, if_false, Bool.false_eq_true, Bool.not_true, Bool.not_false, reduceIte, List.getElem?_toArray, List.getElem?_cons_zero, List.getElem?_cons_succ, Option.isSome_none, List.length_map]; exact hk _ u1)
  by_cases d1 : 300 < key.length
  · have g1 : ((300 : Int) < (key.length : Int)) = True := eq_true (by omega)
    simp only [T_string.len, tx_size, g1, popO_some, bindH_eq, condV_bool, condV_true, condV_false, yV_bool, gopV_tt, gopV_ff, gopV_tf, gopV_ft, pickV_t, pickV_f, pickV_bool, nilS_ptr, add_eq, sub_eq, mul_eq, lss_eq, leq_eq, gtr_eq, geq_eq, not_eq, minI_eq, maxI_eq, extract_0, extract_1, extract_2, eqlI, neqI, makeFunc_eq, decide_true, decide_false, if_true, if_false, Bool.false_eq_true, Bool.not_true, Bool.not_false, reduceIte, List.getElem?_toArray, List.getElem?_cons_zero, List.getElem?_cons_succ, Option.isSome_none, List.length_map]
    exact hk _ u1
  have g1 : ((300 : Int) < (key.length : Int)) = False := eq_false (by omega)
  by_cases d2 : 300 < val.length
  · have g2 : ((300 : Int) < (val.length : Int)) = True := eq_true (by omega)
    simp only [T_string.len, tx_size, g1, g2, popO_some, bindH_eq, condV_bool, condV_true, condV_false, yV_bool, gopV_tt, gopV_ff, gopV_tf, gopV_ft, pickV_t, pickV_f, pickV_bool, nilS_ptr, add_eq, sub_eq, mul_eq, lss_eq, leq_eq, gtr_eq, geq_eq, not_eq, minI_eq, maxI_eq, extract_0, extract_1, extract_2, eqlI, neqI, makeFunc_eq, decide_true, decide_false, if_true, if_false, Bool.false_eq_true, Bool.not_true, Bool.not_false, reduceIte, List.getElem?_toArray, List.getElem?_cons_zero, List.getElem?_cons_succ, Option.isSome_none, List.length_map]
    exact hk _ u1
  have g2 : ((300 : Int) < (val.length : Int)) = False := eq_false (by omega)
  by_cases d3 : 4611686018427387904 < first
  · have g3 : ((4611686018427387904 : Int) < (first : Int)) = True := eq_true (by omega)
    simp only [T_string.len, tx_size, g1, g2, g3, popO_some, bindH_eq, condV_bool, condV_true, condV_false, yV_bool, gopV_tt, gopV_ff, gopV_tf, gopV_ft, pickV_t, pickV_f, pickV_bool, nilS_ptr, add_eq, sub_eq, mul_eq, lss_eq, leq_eq, gtr_eq, geq_eq, not_eq, minI_eq, maxI_eq, extract_0, extract_1, extract_2, eqlI, neqI, makeFunc_eq, decide_true, decide_false, if_true, if_false, Bool.false_eq_true, Bool.not_true, Bool.not_false, reduceIte, List.getElem?_toArray, List.getElem?_cons_zero, List.getElem?_cons_succ, Option.isSome_none, List.length_map]
    exact hk _ u1
  have g3 : ((4611686018427387904 : Int) < (first : Int)) = False := eq_false (by omega)
  simp only [T_string.len, tx_size, g1, g2, g3, popO_some, bindH_eq, condV_bool, condV_true, condV_false, yV_bool, gopV_tt, gopV_ff, gopV_tf, gopV_ft, pickV_t, pickV_f, pickV_bool, nilS_ptr, add_eq, sub_eq, mul_eq, lss_eq, leq_eq, gtr_eq, geq_eq, not_eq, minI_eq, maxI_eq, extract_0, extract_1, extract_2, eqlI, neqI, makeFunc_eq, decide_true, decide_false, if_true, if_false, Bool.false_eq_true, Bool.not_true, Bool.not_false, reduceIte, List.getElem?_toArray, List.getElem?_cons_zero, List.getElem?_cons_succ, Option.isSome_none, List.length_map]
  refine StNew_ok first hf (hK.ext u1) fun a h2 Fa A f2 u2 => ?_
  have e2 := u1.trans u2
  refine StNew_ok first hf (hK.ext e2) fun b h3 Fb B f3 u3 => ?_
  have e3 := e2.trans u3
  refine RNew_ok first hf fun ma h4 Ga RA f4 u4 => ?_
  have e4 := e3.trans u4
  refine RNew_ok first hf fun mb h5 Gb RB f5 u5 => ?_
  have e5 := e4.trans u5
  have DA := (duo_new (A.ext u3) RA f4 u4).ext u5
  have DB := duo_new (B.ext u4) RB f5 u5
  have hab : ∀ x ∈ Fa ++ ma :: Ga, x ∉ Fb ++ mb :: Gb := fun x hx hm => by
    rcases List.mem_append.1 hx with hx | hx
    · rcases List.mem_append.1 hm with hm | hm
      · exact A.known x hx (f3 x hm)
      · exact ((A.ext u3).ext u4).known x hx (f5 x hm)
    · rcases List.mem_append.1 hm with hm | hm
      · exact B.known x hm (f4 x hx)
      · exact RA.known x hx (f5 x hm)
  have fA : Fresh h (Fa ++ ma :: Ga) := fun x hx => by
    rcases List.mem_append.1 hx with hx | hx
    · exact u1.none (f2 x hx)
    · exact e3.none (f4 x hx)
  have fB : Fresh h (Fb ++ mb :: Gb) := fun x hx => by
    rcases List.mem_append.1 hx with hx | hx
    · exact e2.none (f3 x hx)
    · exact e4.none (f5 x hx)
  generalize Fa ++ ma :: Ga = KA at *
  generalize Fb ++ mb :: Gb = KB at *
  simp only [ptrNil, popO_some, bindH_eq, condV_bool, condV_true, condV_false, yV_bool, gopV_tt, gopV_ff, gopV_tf, gopV_ft, pickV_t, pickV_f, pickV_bool, nilS_ptr, add_eq, sub_eq, mul_eq, lss_eq, leq_eq, gtr_eq, geq_eq, not_eq, minI_eq, maxI_eq, extract_0, extract_1, extract_2, eqlI, neqI, makeFunc_eq, decide_true, decide_false, if_true, if_false, Bool.false_eq_true, Bool.not_true, Bool.not_false, reduceIte, List.getElem?_toArray, List.getElem?_cons_zero, List.getElem?_cons_succ, Option.isSome_none, List.length_map]
  have lv := S.len (t' := T_int) T_sl_carrackref11_Act.und
  rw [List.length_map] at lv
  have h60 := hfew.few
  refine ⟨fun vs h' => ∃ (i : Nat) (s : St) (K1 K2 : List Nat), i ≤ l.length ∧ vs = [v, .string (tx key), .string (tx val), .pointer (some ⟨a, 0, none⟩), .pointer (some ⟨b, 0, none⟩), .pointer (some ⟨ma, 0, none⟩), .pointer (some ⟨mb, 0, none⟩), .int .i64 (i : Int)] ∧ DuoAt h' a ma s K1 ∧ DuoAt h' b mb s K2 ∧ (∀ x ∈ K1, x ∉ K2) ∧ Fresh h K1 ∧ Fresh h K2 ∧ Ext h h', upTo l.length 7, ⟨0, _, _, _, by omega, rfl, DA, DB, hab, fA, fB, e5⟩, ?_⟩
  clear DA DB hab fA fB e5 u5 e4 u4 e3 u3 e2 u2 A B RA RB f2 f3 f4 f5
  rintro ρ h' ⟨i, s, K1, K2, hi, hvs, DA, DB, hab, fA, fB, u⟩
  simp only [List.map_cons, List.map_nil, List.cons.injEq, and_true] at hvs
  obtain ⟨v1, v2, v3, v9, v10, v11, v12, v13⟩ := hvs
  simp only [v1, v2, v3, v9, v10, v11, v12, v13, List.map_cons, List.map_nil]
  unfold carracklaw11_StoreBack_b57
  by_cases hl : i < l.length
  · have g1 : ((i : Int) < (l.length : Int)) = True := eq_true (by omega)
    have gi : IntKind.i64.wrap ((i : Int) + 1) = ((i + 1 : Nat) : Int) := by rw [i64_wrap (by omega) (by omega)]; omega
    obtain ⟨pb, po, p1, -, -, p4⟩ := (S.ext u).act (j := i) (p := l[i]) (List.getElem?_eq_getElem hl)
    have hli := List.getElem?_eq_getElem hl
    generalize l[i] = c at *
    simp only [lv, g1, p1, p4, popO_some, bindH_eq, condV_bool, condV_true, condV_false, yV_bool, gopV_tt, gopV_ff, gopV_tf, gopV_ft, pickV_t, pickV_f, pickV_bool, nilS_ptr, add_eq, sub_eq, mul_eq, lss_eq, leq_eq, gtr_eq, geq_eq, not_eq, minI_eq, maxI_eq, extract_0, extract_1, extract_2, eqlI, neqI, makeFunc_eq, decide_true, decide_false, if_true, if_false, Bool.false_eq_true, Bool.not_true, Bool.not_false, reduceIte, List.getElem?_toArray, List.getElem?_cons_zero, List.getElem?_cons_succ, Option.isSome_none, List.length_map]
    refine duo_ok (hK.ext u) DA c fun h5 K1' DA5 u5 k5 => ?_
    have e5 := u.fresh u5 fA
    have f5 := fA.grow u k5
    have DB5 := DB.upd u5 (fun x hx hm => hab x hm hx)
    have hab5 := not_two hab k5 DB.known
    obtain ⟨pb', po', p1', -, -, p4'⟩ := (S.ext e5).act (j := i) (p := c) hli
    rw [p1] at p1'
    obtain ⟨rfl, rfl⟩ : pb = pb' ∧ po = po' := by
      simp only [Option.some.injEq, Value.pointer.injEq, Addr.mk.injEq, and_true] at p1'
      exact p1'
    simp only [p1, p4', popO_some, bindH_eq, condV_bool, condV_true, condV_false, yV_bool, gopV_tt, gopV_ff, gopV_tf, gopV_ft, pickV_t, pickV_f, pickV_bool, nilS_ptr, add_eq, sub_eq, mul_eq, lss_eq, leq_eq, gtr_eq, geq_eq, not_eq, minI_eq, maxI_eq, extract_0, extract_1, extract_2, eqlI, neqI, makeFunc_eq, decide_true, decide_false, if_true, if_false, Bool.false_eq_true, Bool.not_true, Bool.not_false, reduceIte, List.getElem?_toArray, List.getElem?_cons_zero, List.getElem?_cons_succ, Option.isSome_none, List.length_map]
    refine duo_ok (hK.ext e5) DB5 c fun h6 K2' DB6 u6 k6 => ?_
    have e6 := e5.fresh u6 fB
    have f6 := fB.grow e5 k6
    have DA6 := DA5.upd u6 hab5
    have hab6 : ∀ x ∈ K1', x ∉ K2' := fun x hx hm => not_two (fun y hy hz => hab5 y hz hy) k6 DA5.known x hm hx
    simp only [gi, popO_some, bindH_eq, condV_bool, condV_true, condV_false, yV_bool, gopV_tt, gopV_ff, gopV_tf, gopV_ft, pickV_t, pickV_f, pickV_bool, nilS_ptr, add_eq, sub_eq, mul_eq, lss_eq, leq_eq, gtr_eq, geq_eq, not_eq, minI_eq, maxI_eq, extract_0, extract_1, extract_2, eqlI, neqI, makeFunc_eq, decide_true, decide_false, if_true, if_false, Bool.false_eq_true, Bool.not_true, Bool.not_false, reduceIte, List.getElem?_toArray, List.getElem?_cons_zero, List.getElem?_cons_succ, Option.isSome_none, List.length_map]
    refine ⟨⟨i + 1, _, _, _, by omega, rfl, DA6, DB6, hab6, f5, f6, e6⟩, ?_⟩
    simp only [upTo, List.getElem?_cons_succ, List.getElem?_cons_zero]
    omega
  · have g1 : ((i : Int) < (l.length : Int)) = False := eq_false (by omega)
    obtain ⟨F1, A, hA⟩ := DA.st
    obtain ⟨F2, B, hB⟩ := DB.st
    have hd : ∀ x ∈ F1, x ∉ F2 := fun x hx hm => hab x (hA x hx) (hB x hm)
    have f1 : Fresh h F1 := fun x hx => fA x (hA x hx)
    have f2 : Fresh h F2 := fun x hx => fB x (hB x hx)
    have hok := A.ok
    simp only [lv, g1, popO_some, bindH_eq, condV_bool, condV_true, condV_false, yV_bool, gopV_tt, gopV_ff, gopV_tf, gopV_ft, pickV_t, pickV_f, pickV_bool, nilS_ptr, add_eq, sub_eq, mul_eq, lss_eq, leq_eq, gtr_eq, geq_eq, not_eq, minI_eq, maxI_eq, extract_0, extract_1, extract_2, eqlI, neqI, makeFunc_eq, decide_true, decide_false, if_true, if_false, Bool.false_eq_true, Bool.not_true, Bool.not_false, reduceIte, List.getElem?_toArray, List.getElem?_cons_zero, List.getElem?_cons_succ, Option.isSome_none, List.length_map]
    refine Get_ok A key ?_
    simp only [popO_some, bindH_eq, condV_bool, condV_true, condV_false, yV_bool, gopV_tt, gopV_ff, gopV_tf, gopV_ft, pickV_t, pickV_f, pickV_bool, nilS_ptr, add_eq, sub_eq, mul_eq, lss_eq, leq_eq, gtr_eq, geq_eq, not_eq, minI_eq, maxI_eq, extract_0, extract_1, extract_2, eqlI, neqI, makeFunc_eq, decide_true, decide_false, if_true, if_false, Bool.false_eq_true, Bool.not_true, Bool.not_false, reduceIte, List.getElem?_toArray, List.getElem?_cons_zero, List.getElem?_cons_succ, Option.isSome_none, List.length_map]
    refine Set_ok A key val fun h5 A5 u5 => ?_
    have e5 := u.fresh u5 f1
    have B5 := B.upd u5 (fun x hx hm => hd x hm hx)
    by_cases hc : key.length < 1 ∨ 16 < key.length ∨ 64 < val.length
    · have hs : sSet s key val = (s, 1) := by unfold sSet; rw [if_pos hc]
      simp only [hs, show ((1 : Int) != 0) = true from rfl, popO_some, bindH_eq, condV_bool, condV_true, condV_false, yV_bool, gopV_tt, gopV_ff, gopV_tf, gopV_ft, pickV_t, pickV_f, pickV_bool, nilS_ptr, add_eq, sub_eq, mul_eq, lss_eq, leq_eq, gtr_eq, geq_eq, not_eq, minI_eq, maxI_eq, extract_0, extract_1, extract_2, eqlI, neqI, makeFunc_eq, decide_true, decide_false, if_true, if_false, Bool.false_eq_true, Bool.not_true, Bool.not_false, reduceIte, List.getElem?_toArray, List.getElem?_cons_zero, List.getElem?_cons_succ, Option.isSome_none, List.length_map]
      exact hk _ e5
    by_cases hc2 : getL s.now key = none ∧ 4096 ≤ s.now.length
    · have hs : sSet s key val = (s, 2) := by unfold sSet; rw [if_neg hc, if_pos hc2]
      simp only [hs, show ((2 : Int) != 0) = true from rfl, popO_some, bindH_eq, condV_bool, condV_true, condV_false, yV_bool, gopV_tt, gopV_ff, gopV_tf, gopV_ft, pickV_t, pickV_f, pickV_bool, nilS_ptr, add_eq, sub_eq, mul_eq, lss_eq, leq_eq, gtr_eq, geq_eq, not_eq, minI_eq, maxI_eq, extract_0, extract_1, extract_2, eqlI, neqI, makeFunc_eq, decide_true, decide_false, if_true, if_false, Bool.false_eq_true, Bool.not_true, Bool.not_false, reduceIte, List.getElem?_toArray, List.getElem?_cons_zero, List.getElem?_cons_succ, Option.isSome_none, List.length_map]
      exact hk _ e5
    have hs : sSet s key val = ({ s with now := setL s.now ⟨key, val⟩ }, 0) := by unfold sSet; rw [if_neg hc, if_neg hc2]
    rw [hs] at A5 ⊢
    have hg5 : getL (setL s.now ⟨key, val⟩) key = some ⟨key, val⟩ := get_set hok.up ⟨key, val⟩
    simp only [show ((0 : Int) != 0) = false from rfl, popO_some, bindH_eq, condV_bool, condV_true, condV_false, yV_bool, gopV_tt, gopV_ff, gopV_tf, gopV_ft, pickV_t, pickV_f, pickV_bool, nilS_ptr, add_eq, sub_eq, mul_eq, lss_eq, leq_eq, gtr_eq, geq_eq, not_eq, minI_eq, maxI_eq, extract_0, extract_1, extract_2, eqlI, neqI, makeFunc_eq, decide_true, decide_false, if_true, if_false, Bool.false_eq_true, Bool.not_true, Bool.not_false, reduceIte, List.getElem?_toArray, List.getElem?_cons_zero, List.getElem?_cons_succ, Option.isSome_none, List.length_map]
    refine Get_ok A5 key ?_
    simp only [hg5, Option.map_some, Option.getD_some, Option.isSome_some, neqStr, decide_true, popO_some, bindH_eq, condV_bool, condV_true, condV_false, yV_bool, gopV_tt, gopV_ff, gopV_tf, gopV_ft, pickV_t, pickV_f, pickV_bool, nilS_ptr, add_eq, sub_eq, mul_eq, lss_eq, leq_eq, gtr_eq, geq_eq, not_eq, minI_eq, maxI_eq, extract_0, extract_1, extract_2, eqlI, neqI, makeFunc_eq, decide_true, decide_false, if_true, if_false, Bool.false_eq_true, Bool.not_true, Bool.not_false, reduceIte, List.getElem?_toArray, List.getElem?_cons_zero, List.getElem?_cons_succ, Option.isSome_none, List.length_map]
    cases eg : getL s.now key with
    | some q =>
      obtain ⟨q1, q2⟩ := (getL_some hok.up).1 eg
      have hq := hok.fit q q1
      simp only [Option.map_some, Option.getD_some, Option.isSome_some, popO_some, bindH_eq, condV_bool, condV_true, condV_false, yV_bool, gopV_tt, gopV_ff, gopV_tf, gopV_ft, pickV_t, pickV_f, pickV_bool, nilS_ptr, add_eq, sub_eq, mul_eq, lss_eq, leq_eq, gtr_eq, geq_eq, not_eq, minI_eq, maxI_eq, extract_0, extract_1, extract_2, eqlI, neqI, makeFunc_eq, decide_true, decide_false, if_true, if_false, Bool.false_eq_true, Bool.not_true, Bool.not_false, reduceIte, List.getElem?_toArray, List.getElem?_cons_zero, List.getElem?_cons_succ, Option.isSome_none, List.length_map]
      refine Set_ok A5 key q.v fun h6 A6 u6 => ?_
      have hs6 : sSet { s with now := setL s.now ⟨key, val⟩ } key q.v = (s, 0) := by
        unfold sSet
        rw [if_neg (by have := hq.2.2; omega), if_neg (by rintro ⟨h1, _⟩; have h2 : getL (setL s.now ⟨key, val⟩) key = none := h1; rw [hg5] at h2; cases h2)]
        have : setL (setL s.now ⟨key, val⟩) ⟨key, q.v⟩ = s.now := set_set hok.up (by rw [eg, ← q2])
        show ({ s with now := setL (setL s.now ⟨key, val⟩) ⟨key, q.v⟩ }, (0 : Int)) = (s, 0)
        rw [this]
      rw [hs6] at A6
      have e6 := e5.fresh u6 f1
      have B6 := B5.upd u6 (fun x hx hm => hd x hm hx)
      exact k91_ok hK A6 B6 hd f1 f2 e6 hk
    | none =>
      simp only [Option.isSome_none, popO_some, bindH_eq, condV_bool, condV_true, condV_false, yV_bool, gopV_tt, gopV_ff, gopV_tf, gopV_ft, pickV_t, pickV_f, pickV_bool, nilS_ptr, add_eq, sub_eq, mul_eq, lss_eq, leq_eq, gtr_eq, geq_eq, not_eq, minI_eq, maxI_eq, extract_0, extract_1, extract_2, eqlI, neqI, makeFunc_eq, decide_true, decide_false, if_true, if_false, Bool.false_eq_true, Bool.not_true, Bool.not_false, reduceIte, List.getElem?_toArray, List.getElem?_cons_zero, List.getElem?_cons_succ, Option.isSome_none, List.length_map]
      refine Delete_ok A5 key fun h6 A6 u6 => ?_
      have hs6 : sDel { s with now := setL s.now ⟨key, val⟩ } key = (s, 0) := by
        unfold sDel
        rw [if_neg (by intro h1; have h2 : getL (setL s.now ⟨key, val⟩) key = none := h1; rw [hg5] at h2; cases h2)]
        have : delL (setL s.now ⟨key, val⟩) key = s.now := set_del hok.up eg
        show ({ s with now := delL (setL s.now ⟨key, val⟩) key }, (0 : Int)) = (s, 0)
        rw [this]
      rw [hs6] at A6 ⊢
      have e6 := e5.fresh u6 f1
      have B6 := B5.upd u6 (fun x hx hm => hd x hm hx)
      simp only [show ((0 : Int) != 0) = false from rfl, popO_some, bindH_eq, condV_bool, condV_true, condV_false, yV_bool, gopV_tt, gopV_ff, gopV_tf, gopV_ft, pickV_t, pickV_f, pickV_bool, nilS_ptr, add_eq, sub_eq, mul_eq, lss_eq, leq_eq, gtr_eq, geq_eq, not_eq, minI_eq, maxI_eq, extract_0, extract_1, extract_2, eqlI, neqI, makeFunc_eq, decide_true, decide_false, if_true, if_false, Bool.false_eq_true, Bool.not_true, Bool.not_false, reduceIte, List.getElem?_toArray, List.getElem?_cons_zero, List.getElem?_cons_succ, Option.isSome_none, List.length_map]
      exact k91_ok hK A6 B6 hd f1 f2 e6 hk
end Go.Proofs.YtllopddcpkhfjaaDoor
