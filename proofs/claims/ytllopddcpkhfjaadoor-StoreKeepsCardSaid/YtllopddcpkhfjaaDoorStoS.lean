/- store: StoreSame. -/
import Derived.Test.YtllopddcpkhfjaaDoorStoB
set_option linter.unusedSimpArgs false
set_option linter.unusedVariables false
namespace Go.Proofs.YtllopddcpkhfjaaDoor
open Go Bld
set_option maxRecDepth 20000
theorem Up.chain : ∀ {l : List Pr}, (∀ i (h : i + 1 < l.length), l[i].k < l[i + 1].k) → Up l
  | [], _ => List.Pairwise.nil
  | [p], _ => by simp [Up]
  | p :: q :: l, h => by
    have ih : Up (q :: l) := Up.chain fun i hi => h (i + 1) (by simpa using hi)
    have hpq : p.k < q.k := h 0 (by simp)
    unfold Up at ih ⊢
    rw [List.pairwise_cons]
    refine ⟨fun x hx => ?_, ih⟩
    rcases List.mem_cons.1 hx with rfl | hx
    · exact hpq
    · rw [List.pairwise_cons] at ih
      exact List.lt_trans hpq (ih.1 x hx)
theorem Good.upp {l : List Pr} (g : Good l) : Up l := Up.chain g.up
theorem Up.good {l : List Pr} (h : Up l) (hf : ∀ p ∈ l, Fit p) (hl : l.length ≤ 4096) : Good l :=
  ⟨hl, hf, fun i hi => by
    unfold Up at h
    rw [List.pairwise_iff_getElem] at h
    exact h i (i + 1) (by omega) hi (by omega)⟩
theorem St.eq3 {s : St} {n : List Pr} {b : List (List Pr)} {m : Nat} (h1 : s.now = n) (h2 : s.blocks = b) (h3 : s.height = m) : s = ⟨n, b, m⟩ := by
  rw [← h1, ← h2, ← h3]
theorem setFit {s : St} {p : Pr} (hf : Fit p) (hl : s.now.length < 4096) : sSet s p.k p.v = ({ s with now := setL s.now p }, 0) := by
  unfold sSet
  rw [if_neg (by unfold Fit at hf; omega), if_neg (by omega)]
theorem len_le {A B : List Pr} (ha : Up A) (h : ∀ q ∈ A, q ∈ B) : A.length ≤ B.length := nodup_len A B ha.irr h
theorem k127_ok {h0 h : PH} {a b : Nat} {l : List Pr} {v : Value} {Fa Fb : List Nat} (hK : KAt h0) (A : StAt h a ⟨l, [[]], 1⟩ Fa) (B : StAt h b ⟨l, [[]], 9⟩ Fb) (hd : ∀ x ∈ Fa, x ∉ Fb) (fa : Fresh h0 Fa) (fb : Fresh h0 Fb) (u : Ext h0 h) (S : SlR h0 2 v (l.map Pr.cells)) {k : Value → PH → Prop} (hk : ∀ h', Ext h0 h' → k (.bool true) h') :
    carracklaw11_StoreSame_k127 k v (.pointer (some ⟨a, 0, none⟩)) (.pointer (some ⟨b, 0, none⟩)) h := by
  unfold carracklaw11_StoreSame_k127
  have hok := A.ok
  refine Commit_ok (hK.ext u) A fun h1 Fa1 A1 u1 k1 => ?_
  have ca : sCom ⟨l, [[]], 1⟩ = (⟨l, [[], l], 2⟩, (2, 0)) := rfl
  have cb : sCom ⟨l, [[]], 9⟩ = (⟨l, [[], l], 10⟩, (10, 0)) := rfl
  rw [ca] at A1 ⊢
  have hd1 := not_two hd k1 B.known
  have B1 := B.upd u1 (fun x hx hm => hd x hm hx)
  have e1 : Ext h0 h1 := u.fresh u1 fa
  simp only [popO_some, bindH_eq, condV_bool, condV_true, condV_false, yV_bool, gopV_tt, gopV_ff, gopV_tf, gopV_ft, pickV_t, pickV_f, pickV_bool, nilS_ptr, add_eq, sub_eq, mul_eq, lss_eq, leq_eq, gtr_eq, geq_eq, not_eq, minI_eq, maxI_eq, extract_0, extract_1, extract_2, eqlI, neqI, makeFunc_eq, decide_true, decide_false, if_true, if_false, Bool.false_eq_true, Bool.not_true, Bool.not_false, reduceIte, List.getElem?_toArray, List.getElem?_cons_zero, List.getElem?_cons_succ, Option.isSome_none, List.length_map]
  refine Commit_ok (hK.ext e1) B1 fun h2 Fb2 B2 u2 k2 => ?_
  rw [cb] at B2 ⊢
  have A2 := A1.upd u2 (fun x hx hm => hd1 x hx hm)
  have e2 : Ext h0 h2 := e1.fresh u2 fb
  have ta : sAt ⟨l, [[], l], 2⟩ 2 = some l := rfl
  have tb : sAt ⟨l, [[], l], 10⟩ 10 = some l := rfl
  simp only [popO_some, bindH_eq, condV_bool, condV_true, condV_false, yV_bool, gopV_tt, gopV_ff, gopV_tf, gopV_ft, pickV_t, pickV_f, pickV_bool, nilS_ptr, add_eq, sub_eq, mul_eq, lss_eq, leq_eq, gtr_eq, geq_eq, not_eq, minI_eq, maxI_eq, extract_0, extract_1, extract_2, eqlI, neqI, makeFunc_eq, decide_true, decide_false, if_true, if_false, Bool.false_eq_true, Bool.not_true, Bool.not_false, reduceIte, List.getElem?_toArray, List.getElem?_cons_zero, List.getElem?_cons_succ, Option.isSome_none, List.length_map]
  refine StRoot_ok A2 2 (by decide) (fun hs => by rw [ta] at hs; cases hs) (fun b3 h3 hs u3 => ?_)
  rw [ta] at hs
  obtain rfl := Option.some.inj hs
  simp only [popO_some, bindH_eq, condV_bool, condV_true, condV_false, yV_bool, gopV_tt, gopV_ff, gopV_tf, gopV_ft, pickV_t, pickV_f, pickV_bool, nilS_ptr, add_eq, sub_eq, mul_eq, lss_eq, leq_eq, gtr_eq, geq_eq, not_eq, minI_eq, maxI_eq, extract_0, extract_1, extract_2, eqlI, neqI, makeFunc_eq, decide_true, decide_false, if_true, if_false, Bool.false_eq_true, Bool.not_true, Bool.not_false, reduceIte, List.getElem?_toArray, List.getElem?_cons_zero, List.getElem?_cons_succ, Option.isSome_none, List.length_map]
  have B3 := B2.ext u3
  refine StRoot_ok B3 10 (by decide) (fun hs => by rw [tb] at hs; cases hs) (fun b4 h4 hs u4 => ?_)
  rw [tb] at hs
  obtain rfl := Option.some.inj hs
  simp only [popO_some, bindH_eq, condV_bool, condV_true, condV_false, yV_bool, gopV_tt, gopV_ff, gopV_tf, gopV_ft, pickV_t, pickV_f, pickV_bool, nilS_ptr, add_eq, sub_eq, mul_eq, lss_eq, leq_eq, gtr_eq, geq_eq, not_eq, minI_eq, maxI_eq, extract_0, extract_1, extract_2, eqlI, neqI, makeFunc_eq, decide_true, decide_false, if_true, if_false, Bool.false_eq_true, Bool.not_true, Bool.not_false, reduceIte, List.getElem?_toArray, List.getElem?_cons_zero, List.getElem?_cons_succ, Option.isSome_none, List.length_map]
  refine At_ok (B3.ext u4) 10 (by decide) (fun hs => by rw [tb] at hs; cases hs) (fun b5 v5 h5 F5 hs O5 f5 u5 => ?_)
  rw [tb] at hs
  obtain rfl := Option.some.inj hs
  have e5 := ((e2.trans u3).trans u4).trans u5
  simp only [beq_self_eq_true, eqlStr, decide_true, popO_some, bindH_eq, condV_bool, condV_true, condV_false, yV_bool, gopV_tt, gopV_ff, gopV_tf, gopV_ft, pickV_t, pickV_f, pickV_bool, nilS_ptr, add_eq, sub_eq, mul_eq, lss_eq, leq_eq, gtr_eq, geq_eq, not_eq, minI_eq, maxI_eq, extract_0, extract_1, extract_2, eqlI, neqI, makeFunc_eq, decide_true, decide_false, if_true, if_false, Bool.false_eq_true, Bool.not_true, Bool.not_false, reduceIte, List.getElem?_toArray, List.getElem?_cons_zero, List.getElem?_cons_succ, Option.isSome_none, List.length_map]
  have hfew := hok.few
  refine Root_ok (by have : l.length ≤ 4096 := hfew; omega) (hK.ext e5) (S.ext e5) (fun p hp => by have : Fit p := hok.fit p hp; unfold Fit at this; omega) fun h6 u6 => ?_
  simp only [eqlStr, decide_true, popO_some, bindH_eq, condV_bool, condV_true, condV_false, yV_bool, gopV_tt, gopV_ff, gopV_tf, gopV_ft, pickV_t, pickV_f, pickV_bool, nilS_ptr, add_eq, sub_eq, mul_eq, lss_eq, leq_eq, gtr_eq, geq_eq, not_eq, minI_eq, maxI_eq, extract_0, extract_1, extract_2, eqlI, neqI, makeFunc_eq, decide_true, decide_false, if_true, if_false, Bool.false_eq_true, Bool.not_true, Bool.not_false, reduceIte, List.getElem?_toArray, List.getElem?_cons_zero, List.getElem?_cons_succ, Option.isSome_none, List.length_map]
  have e6 := e5.trans u6
  refine Pairs_ok (O5.ext u6).slR (S.ext e6) ?_
  try simp only [popO_some, bindH_eq, condV_bool, condV_true, condV_false, yV_bool, gopV_tt, gopV_ff, gopV_tf, gopV_ft, pickV_t, pickV_f, pickV_bool, nilS_ptr, add_eq, sub_eq, mul_eq, lss_eq, leq_eq, gtr_eq, geq_eq, not_eq, minI_eq, maxI_eq, extract_0, extract_1, extract_2, eqlI, neqI, makeFunc_eq, decide_true, decide_false, if_true, if_false, Bool.false_eq_true, Bool.not_true, Bool.not_false, reduceIte, List.getElem?_toArray, List.getElem?_cons_zero, List.getElem?_cons_succ, Option.isSome_none, List.length_map]
  exact hk _ e6
def goneT : Tx := [103, 111, 110, 101]
def oldT : Tx := [111, 108, 100]
set_option maxHeartbeats 1000000 in
theorem StoreSame_ok {h : PH} (hK : KAt h) {v : Value} {l : List Pr} (S : SlR h 2 v (l.map Pr.cells)) (turn : Int) (extra : Tx) {k : Value → PH → Prop} (hk : ∀ h', Ext h h' → k (.bool true) h') :
    CallsH PG id_carracklaw11_StoreSame #[v, .int .i64 turn, .string (tx extra)] h k := by
  apply carracklaw11_StoreSame.call
  unfold carracklaw11_StoreSame
  refine awake_ok hK fun h1 u1 => ?_
  have lv := S.len (t' := T_int) T_sl_api_Pair.und
  rw [List.length_map] at lv
  by_cases d1 : 40 < l.length
  · have g1 : ((40 : Int) < (l.length : Int)) = True := eq_true (by omega)
    simp only [lv, g1, popO_some, bindH_eq, condV_bool, condV_true, condV_false, yV_bool, gopV_tt, gopV_ff, gopV_tf, gopV_ft, pickV_t, pickV_f, pickV_bool, nilS_ptr, add_eq, sub_eq, mul_eq, lss_eq, leq_eq, gtr_eq, geq_eq, not_eq, minI_eq, maxI_eq, extract_0, extract_1, extract_2, eqlI, neqI, makeFunc_eq, decide_true, decide_false, if_true, if_false, Bool.false_eq_true, Bool.not_true, Bool.not_false, reduceIte, List.getElem?_toArray, List.getElem?_cons_zero, List.getElem?_cons_succ, Option.isSome_none, List.length_map]
    exact hk _ u1
  have g1 : ((40 : Int) < (l.length : Int)) = False := eq_false (by omega)
  simp only [lv, g1, popO_some, bindH_eq, condV_bool, condV_true, condV_false, yV_bool, gopV_tt, gopV_ff, gopV_tf, gopV_ft, pickV_t, pickV_f, pickV_bool, nilS_ptr, add_eq, sub_eq, mul_eq, lss_eq, leq_eq, gtr_eq, geq_eq, not_eq, minI_eq, maxI_eq, extract_0, extract_1, extract_2, eqlI, neqI, makeFunc_eq, decide_true, decide_false, if_true, if_false, Bool.false_eq_true, Bool.not_true, Bool.not_false, reduceIte, List.getElem?_toArray, List.getElem?_cons_zero, List.getElem?_cons_succ, Option.isSome_none, List.length_map]
  refine Check_ok (S.ext u1) (fun hg h2 u2 => ?_) (fun _ h2 e he u2 => ?_)
  rotate_left
  · have : (e != 0) = true := by simpa using he
    simp only [this, popO_some, bindH_eq, condV_bool, condV_true, condV_false, yV_bool, gopV_tt, gopV_ff, gopV_tf, gopV_ft, pickV_t, pickV_f, pickV_bool, nilS_ptr, add_eq, sub_eq, mul_eq, lss_eq, leq_eq, gtr_eq, geq_eq, not_eq, minI_eq, maxI_eq, extract_0, extract_1, extract_2, eqlI, neqI, makeFunc_eq, decide_true, decide_false, if_true, if_false, Bool.false_eq_true, Bool.not_true, Bool.not_false, reduceIte, List.getElem?_toArray, List.getElem?_cons_zero, List.getElem?_cons_succ, Option.isSome_none, List.length_map]
    exact hk _ (u1.trans u2)
  have e2 := u1.trans u2
  simp only [show ((0 : Int) != 0) = false from rfl, popO_some, bindH_eq, condV_bool, condV_true, condV_false, yV_bool, gopV_tt, gopV_ff, gopV_tf, gopV_ft, pickV_t, pickV_f, pickV_bool, nilS_ptr, add_eq, sub_eq, mul_eq, lss_eq, leq_eq, gtr_eq, geq_eq, not_eq, minI_eq, maxI_eq, extract_0, extract_1, extract_2, eqlI, neqI, makeFunc_eq, decide_true, decide_false, if_true, if_false, Bool.false_eq_true, Bool.not_true, Bool.not_false, reduceIte, List.getElem?_toArray, List.getElem?_cons_zero, List.getElem?_cons_succ, Option.isSome_none, List.length_map]
  by_cases d2 : turn < 0
  · simp only [d2, popO_some, bindH_eq, condV_bool, condV_true, condV_false, yV_bool, gopV_tt, gopV_ff, gopV_tf, gopV_ft, pickV_t, pickV_f, pickV_bool, nilS_ptr, add_eq, sub_eq, mul_eq, lss_eq, leq_eq, gtr_eq, geq_eq, not_eq, minI_eq, maxI_eq, extract_0, extract_1, extract_2, eqlI, neqI, makeFunc_eq, decide_true, decide_false, if_true, if_false, Bool.false_eq_true, Bool.not_true, Bool.not_false, reduceIte, List.getElem?_toArray, List.getElem?_cons_zero, List.getElem?_cons_succ, Option.isSome_none, List.length_map]
    exact hk _ e2
  by_cases d3 : (l.length : Int) < turn
  · simp only [d2, lv, d3, popO_some, bindH_eq, condV_bool, condV_true, condV_false, yV_bool, gopV_tt, gopV_ff, gopV_tf, gopV_ft, pickV_t, pickV_f, pickV_bool, nilS_ptr, add_eq, sub_eq, mul_eq, lss_eq, leq_eq, gtr_eq, geq_eq, not_eq, minI_eq, maxI_eq, extract_0, extract_1, extract_2, eqlI, neqI, makeFunc_eq, decide_true, decide_false, if_true, if_false, Bool.false_eq_true, Bool.not_true, Bool.not_false, reduceIte, List.getElem?_toArray, List.getElem?_cons_zero, List.getElem?_cons_succ, Option.isSome_none, List.length_map]
    exact hk _ e2
  obtain ⟨t, rfl⟩ := Int.eq_ofNat_of_zero_le (show 0 ≤ turn by omega)
  have ht : t ≤ l.length := by omega
  simp only [d2, lv, d3, popO_some, bindH_eq, condV_bool, condV_true, condV_false, yV_bool, gopV_tt, gopV_ff, gopV_tf, gopV_ft, pickV_t, pickV_f, pickV_bool, nilS_ptr, add_eq, sub_eq, mul_eq, lss_eq, leq_eq, gtr_eq, geq_eq, not_eq, minI_eq, maxI_eq, extract_0, extract_1, extract_2, eqlI, neqI, makeFunc_eq, decide_true, decide_false, if_true, if_false, Bool.false_eq_true, Bool.not_true, Bool.not_false, reduceIte, List.getElem?_toArray, List.getElem?_cons_zero, List.getElem?_cons_succ, Option.isSome_none, List.length_map]
  have hup := hg.upp
  refine StNew_ok 1 (by decide) (hK.ext e2) fun a h3 Fa A fa u3 => ?_
  have e3 := e2.trans u3
  refine StNew_ok 9 (by decide) (hK.ext e3) fun b h4 Fb B fb u4 => ?_
  have e4 := e3.trans u4
  have A4 := A.ext u4
  have hab : ∀ x ∈ Fa, x ∉ Fb := fun x hx hm => A.known x hx (fb x hm)
  have fa' : Fresh h Fa := fun x hx => e2.none (fa x hx)
  have fb' : Fresh h Fb := fun x hx => e3.none (fb x hx)
  simp only [ptrNil, popO_some, bindH_eq, condV_bool, condV_true, condV_false, yV_bool, gopV_tt, gopV_ff, gopV_tf, gopV_ft, pickV_t, pickV_f, pickV_bool, nilS_ptr, add_eq, sub_eq, mul_eq, lss_eq, leq_eq, gtr_eq, geq_eq, not_eq, minI_eq, maxI_eq, extract_0, extract_1, extract_2, eqlI, neqI, makeFunc_eq, decide_true, decide_false, if_true, if_false, Bool.false_eq_true, Bool.not_true, Bool.not_false, reduceIte, List.getElem?_toArray, List.getElem?_cons_zero, List.getElem?_cons_succ, Option.isSome_none, List.length_map]
  refine ⟨fun vs h' => ∃ (i : Nat) (s : St), i ≤ l.length ∧ vs = [v, .int .i64 (t : Int), .string (tx extra), .pointer (some ⟨a, 0, none⟩), .pointer (some ⟨b, 0, none⟩), .bool ((l.take i).any (fun q => decide (q.k = extra))), .int .i64 (i : Int)] ∧ StAt h' a s Fa ∧ StAt h' b ⟨[], [[]], 9⟩ Fb ∧ Ext h h' ∧ s.blocks = [[]] ∧ s.height = 1 ∧ ∀ q, q ∈ s.now ↔ q ∈ l.take i, upTo l.length 6, ⟨0, _, by omega, by simp, A4, B, e4, rfl, rfl, by simp⟩, ?_⟩
  clear A A4 B e4 u4 e3 u3 u2 u1 fa fb
  rintro ρ h' ⟨i, s, hi, hvs, A, B, u, sb, sh, hm⟩
  simp only [List.map_cons, List.map_nil, List.cons.injEq, and_true] at hvs
  obtain ⟨v0, v1, v2, v7, v8, v9, v10⟩ := hvs
  simp only [v0, v1, v2, v7, v8, v9, v10, List.map_cons, List.map_nil]
  unfold carracklaw11_StoreSame_b56
  have hok := A.ok
  by_cases hl : i < l.length
  · have g1 : ((i : Int) < (l.length : Int)) = True := eq_true (by omega)
    have gi : IntKind.i64.wrap ((i : Int) + 1) = ((i + 1 : Nat) : Int) := by rw [i64_wrap (by omega) (by omega)]; omega
    obtain ⟨pb, po, p1, p2, p3, -⟩ := (S.ext u).pair (j := i) (p := l[i]) (List.getElem?_eq_getElem hl)
    have htk : l.take (i + 1) = l.take i ++ [l[i]] := List.take_succ_eq_append_getElem hl
    have hmem : l[i] ∈ l := List.getElem_mem hl
    have hdif : ∀ q ∈ l.take i, q.k ≠ l[i].k := fun q hq e => by
      have hlt : q.k < l[i].k := by
        obtain ⟨j, hj, rfl⟩ := List.getElem_of_mem hq
        rw [List.length_take] at hj
        rw [List.getElem_take]
        unfold Up at hup
        rw [List.pairwise_iff_getElem] at hup
        exact hup j i (by omega) hl (by omega)
      rw [e] at hlt
      exact List.lt_irrefl _ hlt
    generalize l[i] = p at *
    have hfit := hg.fit p hmem
    have hnl : s.now.length ≤ i := by
      have := len_le hok.up (fun q hq => (hm q).1 hq)
      rw [List.length_take] at this
      omega
    have hex : (l.take (i + 1)).any (fun q => decide (q.k = extra)) = ((l.take i).any (fun q => decide (q.k = extra)) || decide (p.k = extra)) := by
      rw [htk, List.any_append]
      simp
    have fin : ∀ th : Bool, th = (l.take (i + 1)).any (fun q => decide (q.k = extra)) → CallsH PG id_store_Store_Set #[.pointer (some ⟨a, 0, none⟩), .string (tx p.k), .string (tx p.v)] h' fun v91 h92 => (fun (vs : List Value) (h2 : PH) => (∃ (i : Nat) (s : St), i ≤ l.length ∧ vs = [v, .int .i64 (t : Int), .string (tx extra), .pointer (some ⟨a, 0, none⟩), .pointer (some ⟨b, 0, none⟩), .bool ((l.take i).any (fun q => decide (q.k = extra))), .int .i64 (i : Int)] ∧ StAt h2 a s Fa ∧ StAt h2 b ⟨[], [[]], 9⟩ Fb ∧ Ext h h2 ∧ s.blocks = [[]] ∧ s.height = 1 ∧ ∀ q, q ∈ s.now ↔ q ∈ l.take i) ∧ upTo l.length 6 vs h2 < l.length - i) [v, .int .i64 (t : Int), .string (tx extra), .pointer (some ⟨a, 0, none⟩), .pointer (some ⟨b, 0, none⟩), .bool th, .int .i64 ((i + 1 : Nat) : Int)] h92 := by
      intro th hth
      refine Set_ok A p.k p.v fun h5 A5 u5 => ?_
      rw [setFit hfit (by omega)] at A5
      refine ⟨⟨i + 1, _, by omega, by rw [hth], A5, B.upd u5 (fun x hx hmm => hab x hmm hx), u.fresh u5 fa', sb, sh, fun q => ?_⟩, ?_⟩
      · show q ∈ setL s.now p ↔ _
        rw [mem_setL, hm q, htk, List.mem_append, List.mem_singleton]
        constructor
        · rintro (rfl | ⟨h1, _⟩)
          · exact .inr rfl
          · exact .inl h1
        · rintro (h1 | rfl)
          · exact .inr ⟨h1, hdif q h1⟩
          · exact .inl rfl
      · simp only [upTo, List.getElem?_cons_succ, List.getElem?_cons_zero]
        omega
    have hup0 : upTo l.length 6 [v, .int .i64 (t : Int), .string (tx extra), .pointer (some ⟨a, 0, none⟩), .pointer (some ⟨b, 0, none⟩), .bool ((l.take i).any (fun q => decide (q.k = extra))), .int .i64 (i : Int)] h' = l.length - i := by
      simp only [upTo, List.getElem?_cons_succ, List.getElem?_cons_zero]
      omega
    cases hth : (l.take i).any (fun q => decide (q.k = extra)) with
    | true =>
      rw [hth] at hup0 hex
      simp only [lv, g1, p1, T_api_Pair.f0, T_api_Pair.f1, T_string.load, p2, p3, gi, hup0, popO_some, bindH_eq, condV_bool, condV_true, condV_false, yV_bool, gopV_tt, gopV_ff, gopV_tf, gopV_ft, pickV_t, pickV_f, pickV_bool, nilS_ptr, add_eq, sub_eq, mul_eq, lss_eq, leq_eq, gtr_eq, geq_eq, not_eq, minI_eq, maxI_eq, extract_0, extract_1, extract_2, eqlI, neqI, makeFunc_eq, decide_true, decide_false, if_true, if_false, Bool.false_eq_true, Bool.not_true, Bool.not_false, reduceIte, List.getElem?_toArray, List.getElem?_cons_zero, List.getElem?_cons_succ, Option.isSome_none, List.length_map]
      exact fin true (by rw [hex]; rfl)
    | false =>
      rw [hth] at hup0 hex
      simp only [lv, g1, p1, T_api_Pair.f0, T_api_Pair.f1, T_string.load, p2, p3, gi, hup0, eqlStr, popO_some, bindH_eq, condV_bool, condV_true, condV_false, yV_bool, gopV_tt, gopV_ff, gopV_tf, gopV_ft, pickV_t, pickV_f, pickV_bool, nilS_ptr, add_eq, sub_eq, mul_eq, lss_eq, leq_eq, gtr_eq, geq_eq, not_eq, minI_eq, maxI_eq, extract_0, extract_1, extract_2, eqlI, neqI, makeFunc_eq, decide_true, decide_false, if_true, if_false, Bool.false_eq_true, Bool.not_true, Bool.not_false, reduceIte, List.getElem?_toArray, List.getElem?_cons_zero, List.getElem?_cons_succ, Option.isSome_none, List.length_map]
      exact fin _ (by rw [hex]; rfl)
  · have g1 : ((i : Int) < (l.length : Int)) = False := eq_false (by omega)
    rw [List.take_of_length_le (by omega)] at hm v9
    have hs : s = ⟨l, [[]], 1⟩ := by
      exact St.eq3 (hok.up.ext hup hm) sb sh
    subst hs
    rw [List.take_of_length_le (show l.length ≤ i by omega)]
    obtain ⟨w1, x1, x2⟩ := (S.ext u).cutP (lo := some (.int .i64 (t : Int))) (hi := none) (a := t) (m := l.length) (.inr ⟨_, rfl⟩) (.inl ⟨rfl, rfl⟩) ht (Nat.le_refl _)
    obtain ⟨w2, y1, y2⟩ := (S.ext u).cutP (lo := none) (hi := some (.int .i64 (t : Int))) (a := 0) (m := t) (.inl ⟨rfl, rfl⟩) (.inr ⟨_, rfl⟩) (by omega) ht
    rw [List.take_length] at x2
    rw [List.drop_zero] at y2
    simp only [lv, g1, x1, y1, b0_lit, popO_some, bindH_eq, condV_bool, condV_true, condV_false, yV_bool, gopV_tt, gopV_ff, gopV_tf, gopV_ft, pickV_t, pickV_f, pickV_bool, nilS_ptr, add_eq, sub_eq, mul_eq, lss_eq, leq_eq, gtr_eq, geq_eq, not_eq, minI_eq, maxI_eq, extract_0, extract_1, extract_2, eqlI, neqI, makeFunc_eq, decide_true, decide_false, if_true, if_false, Bool.false_eq_true, Bool.not_true, Bool.not_false, reduceIte, List.getElem?_toArray, List.getElem?_cons_zero, List.getElem?_cons_succ, Option.isSome_none, List.length_map]
    intro r hr
    refine popO_pure ?_
    try rw [bindH_eq]
    have u1 : Ext h' (h'.set r (.cells #[] T_api_Pair)) := Upd.new hr
    have O1 : OwnR (h'.set r (.cells #[] T_api_Pair)) T_api_Pair 2 (.slice (some ⟨r, 0, none⟩) 0 0) (([] : List Pr).map Pr.cells) [r] := OwnR.lit (n := 0) (Pr.rows []) set_same (by simp) (by decide) rfl
    generalize h'.set r (.cells #[] T_api_Pair) = h1 at *
    have f1 : Fresh h' [r] := Fresh.one hr
    refine app_pr O1 (x2.ext u1) (by simp; omega) fun vx h2 F2 O2 u2 k2 => ?_
    rw [List.nil_append] at O2
    have q2 : Ext h' h2 := u1.fresh u2 f1
    have f2 : Fresh h' F2 := f1.grow u1 k2
    refine app_pr O2 (y2.ext q2) (by simp; omega) fun xv h3 F3 O3 u3 k3 => ?_
    have q3 : Ext h' h3 := q2.fresh u3 f2
    have f3 : Fresh h' F3 := f2.grow q2 k3
    have hperm : (l.drop t ++ l.take t).Perm l := List.perm_append_comm.trans (by rw [List.take_append_drop])
    have hxl : (l.drop t ++ l.take t).length = l.length := hperm.length_eq
    have hxk : ((l.drop t ++ l.take t).map Pr.k).Nodup := (hperm.map Pr.k).nodup_iff.2 hup.keys
    have hxm : ∀ q, q ∈ l.drop t ++ l.take t ↔ q ∈ l := fun q => hperm.mem_iff
    generalize l.drop t ++ l.take t = x at *
    have e3 := u.trans q3
    have A3 := A.ext q3
    have B3 := B.ext q3
    refine Set_ok B3 extra goneT fun h4 B4 u4 => ?_
    have e4 : Ext h h4 := e3.fresh u4 fb'
    have A4 := A3.upd u4 hab
    have hF3 : ∀ y ∈ F3, y ∉ Fb := fun y hy hm2 => B.known y hm2 (f3 y hy)
    have S4 := (O3.upd u4 hF3).slR
    have hSx : inBlocks xv F3 := inB_own O3
    -- what the wrong one left
    obtain ⟨gL, hgl, hgk, hg4⟩ : ∃ gL : List Pr, gL.length ≤ 1 ∧ (∀ q ∈ gL, q.k = extra) ∧ ∀ q, q ∈ (sSet ⟨[], [[]], 9⟩ extra goneT).1.now ↔ q ∈ gL := by
      unfold sSet
      split
      · exact ⟨[], by simp, by simp, fun q => Iff.rfl⟩
      · split
        · exact ⟨[], by simp, by simp, fun q => Iff.rfl⟩
        · refine ⟨[⟨extra, goneT⟩], by simp, by simp, fun q => ?_⟩
          show q ∈ setL [] ⟨extra, goneT⟩ ↔ _
          rw [mem_setL]
          simp
    have hbl : (sSet ⟨[], [[]], 9⟩ extra goneT).1.blocks = [[]] ∧ (sSet ⟨[], [[]], 9⟩ extra goneT).1.height = 9 := by
      unfold sSet
      split
      · exact ⟨rfl, rfl⟩
      · split <;> exact ⟨rfl, rfl⟩
    refine ⟨fun vs h' => ∃ (i : Nat) (s : St), i ≤ x.length ∧ vs = [v, .string (tx extra), .pointer (some ⟨a, 0, none⟩), .pointer (some ⟨b, 0, none⟩), .bool (l.any (fun q => decide (q.k = extra))), xv, .int .i64 (i : Int)] ∧ StAt h' a ⟨l, [[]], 1⟩ Fa ∧ StAt h' b s Fb ∧ SlR h' 2 xv (x.map Pr.cells) ∧ Ext h h' ∧ s.blocks = [[]] ∧ s.height = 9 ∧ ∀ q, q ∈ s.now ↔ (q ∈ x.take i ∨ (q ∈ gL ∧ ∀ p ∈ x.take i, p.k ≠ q.k)), upTo x.length 6, ⟨0, _, by omega, rfl, A4, B4, S4, e4, hbl.1, hbl.2, fun q => by rw [hg4]; simp⟩, ?_⟩
    clear S4 B4 A4 B3 A3 e4 u4 e3 q3 u3 q2 u2 u1 A B u
    rintro ρ2 h5 ⟨i, s, hi, hvs, A, B, SX, u, sb, sh, hm⟩
    simp only [List.map_cons, List.map_nil, List.cons.injEq, and_true] at hvs
    obtain ⟨z0, z2, z7, z8, z9, z11, z12⟩ := hvs
    simp only [z0, z2, z7, z8, z9, z11, z12, List.map_cons, List.map_nil]
    unfold carracklaw11_StoreSame_b107
    have hok2 := B.ok
    have lx := SX.len (t' := T_int) T_sl_api_Pair.und
    rw [List.length_map] at lx
    by_cases hl : i < x.length
    · have g1 : ((i : Int) < (x.length : Int)) = True := eq_true (by omega)
      have gi : IntKind.i64.wrap ((i : Int) + 1) = ((i + 1 : Nat) : Int) := by rw [i64_wrap (by omega) (by omega)]; omega
      obtain ⟨pb, po, p1, p2, p3, -⟩ := SX.pair (j := i) (p := x[i]) (List.getElem?_eq_getElem hl)
      have htk : x.take (i + 1) = x.take i ++ [x[i]] := List.take_succ_eq_append_getElem hl
      have hxi := List.getElem?_eq_getElem hl
      have hmem : x[i] ∈ x := List.getElem_mem hl
      have hdif : ∀ q ∈ x.take i, q.k ≠ x[i].k := fun q hq e => by
        obtain ⟨j, hj, rfl⟩ := List.getElem_of_mem hq
        rw [List.length_take] at hj
        rw [List.getElem_take] at e
        have := (List.getElem_inj (h₀ := by simpa using (show j < x.length by omega)) (h₁ := by simpa using hl) hxk).1 (by simpa using e)
        omega
      generalize x[i] = p at *
      have hfit := hg.fit p ((hxm p).1 hmem)
      have hfitO : Fit ⟨p.k, oldT⟩ := ⟨hfit.1, hfit.2.1, by show oldT.length ≤ 64; decide⟩
      have hnl : s.now.length ≤ i + 1 := by
        have := len_le (B := x.take i ++ gL) hok2.up (fun q hq => by
          rcases (hm q).1 hq with h1 | ⟨h1, _⟩
          · exact List.mem_append_left _ h1
          · exact List.mem_append_right _ h1)
        rw [List.length_append, List.length_take] at this
        omega
      simp only [lx, g1, p1, T_api_Pair.f0, T_string.load, p2, popO_some, bindH_eq, condV_bool, condV_true, condV_false, yV_bool, gopV_tt, gopV_ff, gopV_tf, gopV_ft, pickV_t, pickV_f, pickV_bool, nilS_ptr, add_eq, sub_eq, mul_eq, lss_eq, leq_eq, gtr_eq, geq_eq, not_eq, minI_eq, maxI_eq, extract_0, extract_1, extract_2, eqlI, neqI, makeFunc_eq, decide_true, decide_false, if_true, if_false, Bool.false_eq_true, Bool.not_true, Bool.not_false, reduceIte, List.getElem?_toArray, List.getElem?_cons_zero, List.getElem?_cons_succ, Option.isSome_none, List.length_map]
      refine Set_ok B p.k oldT fun h6 B6 u6 => ?_
      have es6 : sSet s p.k oldT = ({ s with now := setL s.now ⟨p.k, oldT⟩ }, 0) := setFit hfitO (by omega)
      rw [es6] at B6
      have e6 : Ext h h6 := u.fresh u6 fb'
      have A6 := A.upd u6 hab
      have S6 := SX.upd u6 (fun y n c e => hF3 _ (hSx y n c e))
      obtain ⟨pb', po', p1', p2', p3', -⟩ := S6.pair (j := i) (p := p) hxi
      rw [p1] at p1'
      obtain ⟨rfl, rfl⟩ : pb = pb' ∧ po = po' := by
        simp only [Option.some.injEq, Value.pointer.injEq, Addr.mk.injEq, and_true] at p1'
        exact p1'
      simp only [p1, T_api_Pair.f0, T_api_Pair.f1, T_string.load, p2', p3', popO_some, bindH_eq, condV_bool, condV_true, condV_false, yV_bool, gopV_tt, gopV_ff, gopV_tf, gopV_ft, pickV_t, pickV_f, pickV_bool, nilS_ptr, add_eq, sub_eq, mul_eq, lss_eq, leq_eq, gtr_eq, geq_eq, not_eq, minI_eq, maxI_eq, extract_0, extract_1, extract_2, eqlI, neqI, makeFunc_eq, decide_true, decide_false, if_true, if_false, Bool.false_eq_true, Bool.not_true, Bool.not_false, reduceIte, List.getElem?_toArray, List.getElem?_cons_zero, List.getElem?_cons_succ, Option.isSome_none, List.length_map]
      refine Set_ok B6 p.k p.v fun h7 B7 u7 => ?_
      have hnl2 : (setL s.now ⟨p.k, oldT⟩).length ≤ i + 2 := by
        have := len_le (A := setL s.now ⟨p.k, oldT⟩) (B := ⟨p.k, oldT⟩ :: s.now) (hok2.up.set _) (fun q hq => by
          rcases mem_setL.1 hq with rfl | ⟨h1, _⟩
          · simp
          · simp [h1])
        rw [List.length_cons] at this
        omega
      have es7 : sSet { s with now := setL s.now ⟨p.k, oldT⟩ } p.k p.v = ({ s with now := setL (setL s.now ⟨p.k, oldT⟩) p }, 0) := setFit hfit (by show (setL s.now ⟨p.k, oldT⟩).length < 4096; omega)
      rw [es7] at B7
      have e7 : Ext h h7 := e6.fresh u7 fb'
      have A7 := A6.upd u7 hab
      have S7 := S6.upd u7 (fun y n c e => hF3 _ (hSx y n c e))
      simp only [gi, popO_some, bindH_eq, condV_bool, condV_true, condV_false, yV_bool, gopV_tt, gopV_ff, gopV_tf, gopV_ft, pickV_t, pickV_f, pickV_bool, nilS_ptr, add_eq, sub_eq, mul_eq, lss_eq, leq_eq, gtr_eq, geq_eq, not_eq, minI_eq, maxI_eq, extract_0, extract_1, extract_2, eqlI, neqI, makeFunc_eq, decide_true, decide_false, if_true, if_false, Bool.false_eq_true, Bool.not_true, Bool.not_false, reduceIte, List.getElem?_toArray, List.getElem?_cons_zero, List.getElem?_cons_succ, Option.isSome_none, List.length_map]
      refine ⟨⟨i + 1, _, by omega, rfl, A7, B7, S7, e7, sb, sh, fun q => ?_⟩, ?_⟩
      · show q ∈ setL (setL s.now ⟨p.k, oldT⟩) p ↔ _
        simp only [mem_setL, hm q, htk, List.mem_append, List.mem_singleton]
        constructor
        · rintro (rfl | ⟨rfl | ⟨h1, h2⟩, h3⟩)
          · exact .inl (.inr rfl)
          · exact absurd rfl h3
          · rcases h1 with h1 | ⟨h1, h4⟩
            · exact .inl (.inl h1)
            · refine .inr ⟨h1, fun p' hp' => ?_⟩
              rcases hp' with hp' | rfl
              · exact h4 p' hp'
              · exact fun e => h3 e.symm
        · rintro ((h1 | rfl) | ⟨h1, h2⟩)
          · exact .inr ⟨.inr ⟨.inl h1, hdif q h1⟩, hdif q h1⟩
          · exact .inl rfl
          · have h3 : q.k ≠ p.k := fun e => h2 p (.inr rfl) e.symm
            exact .inr ⟨.inr ⟨.inr ⟨h1, fun p' hp' => h2 p' (.inl hp')⟩, h3⟩, h3⟩
      · simp only [upTo, List.getElem?_cons_succ, List.getElem?_cons_zero]
        omega
    · have g1 : ((i : Int) < (x.length : Int)) = False := eq_false (by omega)
      rw [List.take_of_length_le (by omega)] at hm
      by_cases hth : ∃ q ∈ l, q.k = extra
      · obtain ⟨q0, hq0, eq0⟩ := hth
        have gth : l.any (fun q => decide (q.k = extra)) = true := by simp only [List.any_eq_true, decide_eq_true_eq]; exact ⟨q0, hq0, eq0⟩
        have hs : s = ⟨l, [[]], 9⟩ := by
          have : s.now = l := hok2.up.ext hup fun q => by
            rw [hm q, hxm q]
            constructor
            · rintro (h1 | ⟨h1, h2⟩)
              · exact h1
              · exact absurd (by rw [eq0, hgk q h1]) (h2 q0 ((hxm q0).2 hq0))
            · exact .inl
          exact St.eq3 this sb sh
        subst hs
        simp only [lx, g1, gth, popO_some, bindH_eq, condV_bool, condV_true, condV_false, yV_bool, gopV_tt, gopV_ff, gopV_tf, gopV_ft, pickV_t, pickV_f, pickV_bool, nilS_ptr, add_eq, sub_eq, mul_eq, lss_eq, leq_eq, gtr_eq, geq_eq, not_eq, minI_eq, maxI_eq, extract_0, extract_1, extract_2, eqlI, neqI, makeFunc_eq, decide_true, decide_false, if_true, if_false, Bool.false_eq_true, Bool.not_true, Bool.not_false, reduceIte, List.getElem?_toArray, List.getElem?_cons_zero, List.getElem?_cons_succ, Option.isSome_none, List.length_map]
        exact k127_ok hK A B hab fa' fb' u S hk
      · have gth : l.any (fun q => decide (q.k = extra)) = false := by
          rw [Bool.eq_false_iff]
          intro h1
          simp only [List.any_eq_true, decide_eq_true_eq] at h1
          exact hth h1
        simp only [lx, g1, gth, popO_some, bindH_eq, condV_bool, condV_true, condV_false, yV_bool, gopV_tt, gopV_ff, gopV_tf, gopV_ft, pickV_t, pickV_f, pickV_bool, nilS_ptr, add_eq, sub_eq, mul_eq, lss_eq, leq_eq, gtr_eq, geq_eq, not_eq, minI_eq, maxI_eq, extract_0, extract_1, extract_2, eqlI, neqI, makeFunc_eq, decide_true, decide_false, if_true, if_false, Bool.false_eq_true, Bool.not_true, Bool.not_false, reduceIte, List.getElem?_toArray, List.getElem?_cons_zero, List.getElem?_cons_succ, Option.isSome_none, List.length_map]
        refine Delete_ok B extra fun h6 B6 u6 => ?_
        have hs : (sDel s extra).1 = ⟨l, [[]], 9⟩ := by
          have hmd : ∀ q, q ∈ (sDel s extra).1.now ↔ q ∈ s.now ∧ q.k ≠ extra := fun q => by
            unfold sDel
            split
            · rename_i hn
              exact ⟨fun h1 => ⟨h1, getL_none.1 hn q h1⟩, fun h1 => h1.1⟩
            · exact mem_delL
          have hbl2 : (sDel s extra).1.blocks = [[]] ∧ (sDel s extra).1.height = 9 := by
            unfold sDel
            split <;> exact ⟨sb, sh⟩
          have : (sDel s extra).1.now = l := B6.ok.up.ext hup fun q => by
            rw [hmd q, hm q, hxm q]
            constructor
            · rintro ⟨h1 | ⟨h1, _⟩, h2⟩
              · exact h1
              · exact absurd (hgk q h1) h2
            · exact fun h1 => ⟨.inl h1, fun e => hth ⟨q, h1, e⟩⟩
          exact St.eq3 this hbl2.1 hbl2.2
        rw [hs] at B6
        have e6 : Ext h h6 := u.fresh u6 fb'
        exact k127_ok hK (A.upd u6 hab) B6 hab fa' fb' e6 S hk
end Go.Proofs.YtllopddcpkhfjaaDoor
