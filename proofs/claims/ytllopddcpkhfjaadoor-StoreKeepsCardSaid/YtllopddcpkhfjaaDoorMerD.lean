/- merkle: the digest of pairs, the top, the root, the check. -/
import Derived.Test.YtllopddcpkhfjaaDoorMerC
set_option linter.unusedSimpArgs false
set_option linter.unusedVariables false
namespace Go.Proofs.YtllopddcpkhfjaaDoor
open Go Bld
set_option maxRecDepth 20000
def digP (l : List Pr) : Tx := if h : 2 ≤ l.length then bothP (digP (l.take (leftP l.length))) (digP (l.drop (leftP l.length))) else leafP (l.headD ⟨[], []⟩)
termination_by l.length
decreasing_by
  · have := leftP_lt h; simp; omega
  · have := leftP_lt h; simp; omega
theorem digP_len (l : List Pr) : (digP l).length = 32 := by
  rw [digP]
  split <;> rfl
def Small (l : List Pr) : Prop := ∀ p ∈ l, p.k.length + p.v.length ≤ 1000000
theorem SlR.pair {h : PH} {v : Value} {l : List Pr} (S : SlR h 2 v (l.map Pr.cells)) {j : Nat} {p : Pr} (hp : l[j]? = some p) :
    ∃ b o, SemP PG (Instr.indexAt T_sl_api_Pair v (.int .i64 (j : Int))) = some (.pointer (some ⟨b, o, none⟩)) ∧ cellH h ⟨b, o, none⟩ = some (.string (tx p.k)) ∧ cellH h ⟨b, o + 1, none⟩ = some (.string (tx p.v)) ∧ SemE PG h (Instr.loadAt T_api_Pair (.pointer (some ⟨b, o, none⟩))) = some p.val := by
  obtain ⟨b, o, h1, h2, h3⟩ := S.fields T_sl_api_Pair.und T_api_Pair.info T_api_Pair.size (k := .i64) (j := j) (r := p.cells) (by rw [List.getElem?_map, hp]; rfl)
  exact ⟨b, o, h1, h2 0 _ rfl, h2 1 _ rfl, h3 _ T_api_Pair.und rfl⟩
theorem SlR.cutP {h : PH} {v : Value} {l : List Pr} (S : SlR h 2 v (l.map Pr.cells)) {lo hi : Option Value} {a m : Nat} (hlo : lo = none ∧ a = 0 ∨ ∃ k, lo = some (.int k a)) (hhi : hi = none ∧ m = l.length ∨ ∃ k, hi = some (.int k m)) (h1 : a ≤ m) (h2 : m ≤ l.length) :
    ∃ v', SemP PG (Instr.sliceAt T_sl_api_Pair v lo hi none) = some v' ∧ SlR h 2 v' (((l.take m).drop a).map Pr.cells) := by
  obtain ⟨v', e, s, -⟩ := S.cut T_sl_api_Pair.und T_api_Pair.info T_api_Pair.size hlo (by simpa using hhi) h1 (by simpa using h2)
  refine ⟨v', e, ?_⟩
  rw [List.map_drop, List.map_take]
  exact s
theorem digest'_ok : ∀ (n : Nat) {h : PH} {v : Value} {l : List Pr}, l.length ≤ n → l ≠ [] → l.length ≤ 65536 → KAt h → SlR h 2 v (l.map Pr.cells) → Small l → ∀ {k : Value → PH → Prop}, (∀ h', Ext h h' → k (.string (tx (digP l))) h') → CallsH PG id_merkle_digest #[v] h k
  | 0, _, _, l, h0, hne, _, _, _, _, _, _ => by
    have : l = [] := List.eq_nil_of_length_eq_zero (by omega)
    exact absurd this hne
  | n + 1, h, v, l, hn, hne, hl, hK, S, hs, k, hk => by
    apply merkle_digest.call
    unfold merkle_digest
    have lv := S.len (t' := T_int) T_sl_api_Pair.und
    rw [List.length_map] at lv
    have hpos : 0 < l.length := List.length_pos_iff.2 hne
    by_cases h1 : l.length = 1
    · have e1 : ((l.length : Int) == 1) = true := by simp [h1]
      obtain ⟨p, hp⟩ := List.length_eq_one_iff.1 h1
      obtain ⟨b, o, e2, -, -, e3⟩ := S.pair (j := 0) (p := p) (by rw [hp]; rfl)
      rw [show ((0 : Nat) : Int) = 0 from rfl] at e2
      simp only [lv, e1, e2, e3, popO_some, bindH_eq, condV_bool, condV_true, condV_false, yV_bool, gopV_tt, gopV_ff, gopV_tf, gopV_ft, pickV_t, pickV_f, pickV_bool, nilS_ptr, add_eq, sub_eq, mul_eq, lss_eq, leq_eq, gtr_eq, geq_eq, not_eq, minI_eq, maxI_eq, extract_0, extract_1, extract_2, eqlI, neqI, makeFunc_eq, decide_true, decide_false, if_true, if_false, Bool.false_eq_true, Bool.not_true, Bool.not_false, reduceIte, List.getElem?_toArray, List.getElem?_cons_zero, List.getElem?_cons_succ, Option.isSome_none, List.length_map]
      have hd : digP l = leafP p := by
        rw [digP, dif_neg (by omega), hp]; rfl
      rw [hd] at hk
      refine Leaf_ok hK (by have := hs p (by rw [hp]; simp); omega) fun h' u => hk h' u
    · have e1 : ((l.length : Int) == 1) = false := by simp; omega
      have h2 : 2 ≤ l.length := by omega
      simp only [lv, e1, popO_some, bindH_eq, condV_bool, condV_true, condV_false, yV_bool, gopV_tt, gopV_ff, gopV_tf, gopV_ft, pickV_t, pickV_f, pickV_bool, nilS_ptr, add_eq, sub_eq, mul_eq, lss_eq, leq_eq, gtr_eq, geq_eq, not_eq, minI_eq, maxI_eq, extract_0, extract_1, extract_2, eqlI, neqI, makeFunc_eq, decide_true, decide_false, if_true, if_false, Bool.false_eq_true, Bool.not_true, Bool.not_false, reduceIte, List.getElem?_toArray, List.getElem?_cons_zero, List.getElem?_cons_succ, Option.isSome_none, List.length_map]
      refine left_ok h2 hl ?_
      have hlt := leftP_lt h2
      obtain ⟨v1, s1, t1⟩ := S.cutP (lo := none) (hi := some (.int .i64 ((leftP l.length : Nat) : Int))) (a := 0) (m := leftP l.length) (.inl ⟨rfl, rfl⟩) (.inr ⟨_, rfl⟩) (by omega) (by omega)
      obtain ⟨v2, s2, t2⟩ := S.cutP (lo := some (.int .i64 ((leftP l.length : Nat) : Int))) (hi := none) (a := leftP l.length) (m := l.length) (.inr ⟨_, rfl⟩) (.inl ⟨rfl, rfl⟩) (by omega) (by omega)
      rw [List.drop_zero] at t1
      rw [List.take_length] at t2
      simp only [s1, s2, popO_some, bindH_eq, condV_bool, condV_true, condV_false, yV_bool, gopV_tt, gopV_ff, gopV_tf, gopV_ft, pickV_t, pickV_f, pickV_bool, nilS_ptr, add_eq, sub_eq, mul_eq, lss_eq, leq_eq, gtr_eq, geq_eq, not_eq, minI_eq, maxI_eq, extract_0, extract_1, extract_2, eqlI, neqI, makeFunc_eq, decide_true, decide_false, if_true, if_false, Bool.false_eq_true, Bool.not_true, Bool.not_false, reduceIte, List.getElem?_toArray, List.getElem?_cons_zero, List.getElem?_cons_succ, Option.isSome_none, List.length_map]
      have hd : digP l = bothP (digP (l.take (leftP l.length))) (digP (l.drop (leftP l.length))) := by
        rw [digP, dif_pos h2]
      rw [hd] at hk
      refine digest'_ok n (by simp; omega) (List.ne_nil_of_length_pos (by first | (rw [List.length_take]; omega) | (rw [List.length_drop]; omega))) (by simp; omega) hK t1 (fun p hp => hs p (List.mem_of_mem_take hp)) fun h1 u1 => ?_
      refine digest'_ok n (by simp; omega) (List.ne_nil_of_length_pos (by first | (rw [List.length_take]; omega) | (rw [List.length_drop]; omega))) (by simp; omega) (hK.ext u1) (t2.ext u1) (fun p hp => hs p (List.mem_of_mem_drop hp)) fun h2 u2 => ?_
      refine both_ok (hK.ext (u1.trans u2)) (by rw [digP_len, digP_len]; decide) fun h3 u3 => ?_
      exact hk _ ((u1.trans u2).trans u3)
theorem digest_ok' {h : PH} {v : Value} {l : List Pr} (hne : l ≠ []) (hl : l.length ≤ 65536) (hK : KAt h) (S : SlR h 2 v (l.map Pr.cells)) (hs : Small l) {k : Value → PH → Prop} (hk : ∀ h', Ext h h' → k (.string (tx (digP l))) h') : CallsH PG id_merkle_digest #[v] h k :=
  digest'_ok l.length (Nat.le_refl _) hne hl hK S hs hk
/-! ### the top -/
theorem cv_u64_int (x : Int) : SemP PG (convert T_uint64 T_int (.int .u64 x)) = some (.int .i64 (IntKind.i64.wrap x)) := by kernel_rfl
theorem and255 {t : TypeId} {m : Nat} (hm : m < 18446744073709551616) : SemP PG (binOp .and t (.int .u64 (m : Int)) (.int .u64 255)) = some (.int .u64 ((m % 256 : Nat) : Int)) := by
  have e : SemP PG (binOp .and t (.int .u64 (m : Int)) (.int .u64 255)) = some (.int .u64 (IntKind.u64.wrap ((BitVec.ofInt 64 (m : Int) &&& BitVec.ofInt 64 255).toNat : Int))) := rfl
  have e2 : (BitVec.ofInt 64 (m : Int) &&& BitVec.ofInt 64 255).toNat = m % 256 := by
    have h1 : BitVec.ofInt 64 (m : Int) = BitVec.ofNat 64 m := BitVec.ofInt_natCast ..
    have h2 : BitVec.ofInt 64 255 = BitVec.ofNat 64 255 := by decide
    rw [h1, h2, BitVec.toNat_and, BitVec.toNat_ofNat, BitVec.toNat_ofNat, Nat.mod_eq_of_lt (show m < 2 ^ 64 from hm)]
    exact Nat.and_two_pow_sub_one_eq_mod m 8
  rw [e, e2, u64_wrap (by omega) (by omega)]
def topP (n : Nat) (d : Tx) : Tx := sha (2 :: (be n 8 ++ d))
theorem Top_ok {h : PH} {n : Nat} {d : Tx} (hK : KAt h) (hn : n ≤ 1000000) (hd : d.length ≤ 1000000) {k : Value → PH → Prop} (hk : ∀ h', Ext h h' → k (.string (tx (topP n d))) h') : CallsH PG id_merkle_Top #[.int .i64 (n : Int), .string (tx d)] h k := by
  apply merkle_Top.call
  unfold merkle_Top
  have e1 : (if (0 : Int) < (n : Int) then (n : Int) else 0) = (n : Int) := by split <;> omega
  have e2 : IntKind.u64.wrap (n : Int) = n := u64_wrap (by omega) (by omega)
  simp only [maxI_eq, e1, cv_int_u64, e2, popO_some, bindH_eq, condV_bool, condV_true, condV_false, yV_bool, gopV_tt, gopV_ff, gopV_tf, gopV_ft, pickV_t, pickV_f, pickV_bool, nilS_ptr, add_eq, sub_eq, mul_eq, lss_eq, leq_eq, gtr_eq, geq_eq, not_eq, minI_eq, maxI_eq, extract_0, extract_1, extract_2, eqlI, neqI, makeFunc_eq, decide_true, decide_false, if_true, if_false, Bool.false_eq_true, Bool.not_true, Bool.not_false, reduceIte, List.getElem?_toArray, List.getElem?_cons_zero, List.getElem?_cons_succ, Option.isSome_none, List.length_map]
  refine ⟨fun vs h' => ∃ i, i ≤ 8 ∧ vs = [.string (tx d), .int .u64 (n : Int), .string (tx ((be n 8).take i)), .int .i64 (i : Int)] ∧ Ext h h', upTo 8 3, ⟨0, by omega, rfl, Upd.refl⟩, ?_⟩
  rintro ρ h' ⟨i, hi, hvs, u⟩
  simp only [List.map_cons, List.map_nil, List.cons.injEq, and_true] at hvs
  obtain ⟨v1, v5, v6, v11⟩ := hvs
  simp only [v1, v5, v6, v11, List.map_cons, List.map_nil]
  unfold merkle_Top_b4
  by_cases hl : i < 8
  · have f1 : ((i : Int) < 8) = True := eq_true (by omega)
    have f2 : IntKind.i64.wrap (8 * (i : Int)) = 8 * (i : Int) := i64_wrap (by omega) (by omega)
    have f3 : IntKind.i64.wrap (56 - 8 * (i : Int)) = 56 - 8 * (i : Int) := i64_wrap (by omega) (by omega)
    have hle : n / 256 ^ (8 - 1 - i) ≤ n := Nat.div_le_self _ _
    have f4 : IntKind.i64.wrap ((n / 256 ^ (8 - 1 - i) % 256 : Nat) : Int) = ((n / 256 ^ (8 - 1 - i) % 256 : Nat) : Int) := i64_wrap (by omega) (by omega)
    have f5 : IntKind.i64.wrap ((i : Int) + 1) = ((i + 1 : Nat) : Int) := by rw [i64_wrap (by omega) (by omega)]; omega
    simp only [f1, f2, f3, shr64 hl, and255 (show n / 256 ^ (8 - 1 - i) < 18446744073709551616 by omega), cv_u64_int, f4, popO_some, bindH_eq, condV_bool, condV_true, condV_false, yV_bool, gopV_tt, gopV_ff, gopV_tf, gopV_ft, pickV_t, pickV_f, pickV_bool, nilS_ptr, add_eq, sub_eq, mul_eq, lss_eq, leq_eq, gtr_eq, geq_eq, not_eq, minI_eq, maxI_eq, extract_0, extract_1, extract_2, eqlI, neqI, makeFunc_eq, decide_true, decide_false, if_true, if_false, Bool.false_eq_true, Bool.not_true, Bool.not_false, reduceIte, List.getElem?_toArray, List.getElem?_cons_zero, List.getElem?_cons_succ, Option.isSome_none, List.length_map]
    refine one_ok fun h2 u2 => ?_
    rw [Nat.mod_mod]
    have f6 : ∀ t, SemP PG (binOp .add t (.string (tx ((be n 8).take i))) (.string (tx [UInt8.ofNat (n / 256 ^ (8 - 1 - i) % 256)]))) = some (.string (tx ((be n 8).take (i + 1)))) := fun t => by
      rw [add_tx (by rw [List.length_take, be_len]; simp; omega), be_take_succ hl]
    simp only [f6, f5, popO_some, bindH_eq, condV_bool, condV_true, condV_false, yV_bool, gopV_tt, gopV_ff, gopV_tf, gopV_ft, pickV_t, pickV_f, pickV_bool, nilS_ptr, add_eq, sub_eq, mul_eq, lss_eq, leq_eq, gtr_eq, geq_eq, not_eq, minI_eq, maxI_eq, extract_0, extract_1, extract_2, eqlI, neqI, makeFunc_eq, decide_true, decide_false, if_true, if_false, Bool.false_eq_true, Bool.not_true, Bool.not_false, reduceIte, List.getElem?_toArray, List.getElem?_cons_zero, List.getElem?_cons_succ, Option.isSome_none, List.length_map]
    refine ⟨⟨i + 1, by omega, rfl, u.trans u2⟩, ?_⟩
    simp only [upTo, List.getElem?_cons_succ, List.getElem?_cons_zero]
    omega
  · have f1 : ((i : Int) < 8) = False := eq_false (by omega)
    have hi' : i = 8 := by omega
    subst hi'
    rw [List.take_of_length_le (Nat.le_of_eq (be_len _ _))]
    simp only [f1, lit3s, popO_some, bindH_eq, condV_bool, condV_true, condV_false, yV_bool, gopV_tt, gopV_ff, gopV_tf, gopV_ft, pickV_t, pickV_f, pickV_bool, nilS_ptr, add_eq, sub_eq, mul_eq, lss_eq, leq_eq, gtr_eq, geq_eq, not_eq, minI_eq, maxI_eq, extract_0, extract_1, extract_2, eqlI, neqI, makeFunc_eq, decide_true, decide_false, if_true, if_false, Bool.false_eq_true, Bool.not_true, Bool.not_false, reduceIte, List.getElem?_toArray, List.getElem?_cons_zero, List.getElem?_cons_succ, Option.isSome_none, List.length_map]
    intro b hb
    refine popO_pure ?_
    try rw [bindH_eq]
    have u1 : Ext h' (h'.set b (.cells #[.string ⟨#[2]⟩, .string (tx (be n 8)), .string (tx d)] T_string)) := Upd.new hb
    have s : SlR (h'.set b (.cells #[.string ⟨#[2]⟩, .string (tx (be n 8)), .string (tx d)] T_string)) 1 (.slice (some ⟨b, 0, none⟩) 3 3) ([[2], be n 8, d].map scell) := (OwnR.lit (n := 3) (scell.rows [[2], be n 8, d]) set_same (by simp) (by decide) rfl).slR
    refine Sum_ok (hK.ext (u.trans u1)) s (by simp [be_len]; omega) fun h3 u3 => ?_
    have e : topP n d = sha [[2], be n 8, d].flatten := by simp [topP]
    rw [e] at hk
    exact hk _ ((u.trans u1).trans u3)
def rootP (l : List Pr) : Tx := topP l.length (if l = [] then [] else digP l)
theorem rootP_len (l : List Pr) : (rootP l).length = 32 := rfl
theorem Root_ok {h : PH} {v : Value} {l : List Pr} (hl : l.length ≤ 65536) (hK : KAt h) (S : SlR h 2 v (l.map Pr.cells)) (hs : Small l) {k : Value → PH → Prop} (hk : ∀ h', Ext h h' → k (.string (tx (rootP l))) h') : CallsH PG id_merkle_Root #[v] h k := by
  apply merkle_Root.call
  unfold merkle_Root
  have lv := S.len (t' := T_int) T_sl_api_Pair.und
  rw [List.length_map] at lv
  by_cases h0 : l = []
  · subst h0
    simp only [lv, List.length_nil, show (((0 : Nat) : Int) == 0) = true from rfl, popO_some, bindH_eq, condV_bool, condV_true, condV_false, yV_bool, gopV_tt, gopV_ff, gopV_tf, gopV_ft, pickV_t, pickV_f, pickV_bool, nilS_ptr, add_eq, sub_eq, mul_eq, lss_eq, leq_eq, gtr_eq, geq_eq, not_eq, minI_eq, maxI_eq, extract_0, extract_1, extract_2, eqlI, neqI, makeFunc_eq, decide_true, decide_false, if_true, if_false, Bool.false_eq_true, Bool.not_true, Bool.not_false, reduceIte, List.getElem?_toArray, List.getElem?_cons_zero, List.getElem?_cons_succ, Option.isSome_none, List.length_map]
    refine Top_ok (n := 0) (d := []) hK (by decide) (by decide) fun h' u => ?_
    exact hk _ u
  · have e0 : ((l.length : Int) == 0) = false := by simpa using h0
    simp only [lv, e0, popO_some, bindH_eq, condV_bool, condV_true, condV_false, yV_bool, gopV_tt, gopV_ff, gopV_tf, gopV_ft, pickV_t, pickV_f, pickV_bool, nilS_ptr, add_eq, sub_eq, mul_eq, lss_eq, leq_eq, gtr_eq, geq_eq, not_eq, minI_eq, maxI_eq, extract_0, extract_1, extract_2, eqlI, neqI, makeFunc_eq, decide_true, decide_false, if_true, if_false, Bool.false_eq_true, Bool.not_true, Bool.not_false, reduceIte, List.getElem?_toArray, List.getElem?_cons_zero, List.getElem?_cons_succ, Option.isSome_none, List.length_map]
    refine digest_ok' h0 hl hK S hs fun h1 u1 => ?_
    refine Top_ok (hK.ext u1) (by omega) (by rw [digP_len]; decide) fun h2 u2 => ?_
    have := hk h2 (u1.trans u2)
    unfold rootP at this
    rw [if_neg h0] at this
    exact this
/-! ### the check -/
def Fit (p : Pr) : Prop := 1 ≤ p.k.length ∧ p.k.length ≤ 16 ∧ p.v.length ≤ 64
structure Good (l : List Pr) : Prop where
  few : l.length ≤ 4096
  fit : ∀ p ∈ l, Fit p
  up : ∀ i (h : i + 1 < l.length), l[i].k < l[i + 1].k
theorem Check_ok {h : PH} {v : Value} {l : List Pr} (S : SlR h 2 v (l.map Pr.cells)) {k : Value → PH → Prop} (hg : Good l → ∀ h', Ext h h' → k (.int .i64 0) h') (hb : ¬ Good l → ∀ h' e, e ≠ 0 → Ext h h' → k (.int .i64 e) h') : CallsH PG id_merkle_Check #[v] h k := by
  apply merkle_Check.call
  unfold merkle_Check
  have lv := S.len (t' := T_int) T_sl_api_Pair.und
  rw [List.length_map] at lv
  by_cases hf : l.length ≤ 4096
  · have e1 : ((4096 : Int) < (l.length : Int)) = False := eq_false (by omega)
    simp only [lv, e1, popO_some, bindH_eq, condV_bool, condV_true, condV_false, yV_bool, gopV_tt, gopV_ff, gopV_tf, gopV_ft, pickV_t, pickV_f, pickV_bool, nilS_ptr, add_eq, sub_eq, mul_eq, lss_eq, leq_eq, gtr_eq, geq_eq, not_eq, minI_eq, maxI_eq, extract_0, extract_1, extract_2, eqlI, neqI, makeFunc_eq, decide_true, decide_false, if_true, if_false, Bool.false_eq_true, Bool.not_true, Bool.not_false, reduceIte, List.getElem?_toArray, List.getElem?_cons_zero, List.getElem?_cons_succ, Option.isSome_none, List.length_map]
    refine ⟨fun vs h' => ∃ i, i ≤ l.length ∧ vs = [v, v, .int .i64 (l.length : Int), .int .i64 (i : Int)] ∧ Ext h h' ∧ ∀ p ∈ l.take i, Fit p, upTo l.length 3, ⟨0, by omega, rfl, Upd.refl, by simp⟩, ?_⟩
    rintro ρ h' ⟨i, hi, hvs, u, hfit⟩
    simp only [List.map_cons, List.map_nil, List.cons.injEq, and_true] at hvs
    obtain ⟨v0, v9, v10, v11⟩ := hvs
    simp only [v0, v9, v10, v11, List.map_cons, List.map_nil]
    unfold merkle_Check_b5
    by_cases hl : i < l.length
    · have f1 : ((i : Int) < (l.length : Int)) = True := eq_true (by omega)
      have f5 : IntKind.i64.wrap ((i : Int) + 1) = ((i + 1 : Nat) : Int) := by rw [i64_wrap (by omega) (by omega)]; omega
      obtain ⟨b, o, p1, -, -, p4⟩ := (S.ext u).pair (j := i) (p := l[i]) (List.getElem?_eq_getElem hl)
      have htk : l.take (i + 1) = l.take i ++ [l[i]] := List.take_succ_eq_append_getElem hl
      have hmem : l[i] ∈ l := List.getElem_mem hl
      generalize l[i] = p at *
      simp only [f1, p1, p4, popO_some, bindH_eq, condV_bool, condV_true, condV_false, yV_bool, gopV_tt, gopV_ff, gopV_tf, gopV_ft, pickV_t, pickV_f, pickV_bool, nilS_ptr, add_eq, sub_eq, mul_eq, lss_eq, leq_eq, gtr_eq, geq_eq, not_eq, minI_eq, maxI_eq, extract_0, extract_1, extract_2, eqlI, neqI, makeFunc_eq, decide_true, decide_false, if_true, if_false, Bool.false_eq_true, Bool.not_true, Bool.not_false, reduceIte, List.getElem?_toArray, List.getElem?_cons_zero, List.getElem?_cons_succ, Option.isSome_none, List.length_map]
      intro r hr
      try rw [bindH_eq]
      have u1 : Ext h' (h'.set r (.cells (zcells PG T_api_Pair) T_api_Pair)) := Upd.new hr
      have a1 : (h'.set r (.cells (zcells PG T_api_Pair) T_api_Pair)) r = some (.cells (zcells PG T_api_Pair) T_api_Pair (0, 0)) := set_same
      generalize h'.set r (.cells (zcells PG T_api_Pair) T_api_Pair) = h1 at *
      refine store_box a1 T_api_Pair.info rfl (by simp) (by rw [T_api_Pair.zc]; rfl) (by simp [isCell]) ?_
      have u2 : Ext h (h1.set r (.cells #[.string (tx p.k), .string (tx p.v)] T_api_Pair (0, 0))) := (u.trans u1).fresh (Upd.set (F := [r]) (by simp)) (Fresh.one (u.none hr))
      have a2 : (h1.set r (.cells #[.string (tx p.k), .string (tx p.v)] T_api_Pair (0, 0))) r = some (.cells #[.string (tx p.k), .string (tx p.v)] T_api_Pair (0, 0)) := set_same
      generalize h1.set r (.cells #[.string (tx p.k), .string (tx p.v)] T_api_Pair (0, 0)) = h2 at *
      have c0 : cellH h2 ⟨r, 0, none⟩ = some (.string (tx p.k)) := by simp [cellH, a2]
      have c1 : cellH h2 ⟨r, 0 + 1, none⟩ = some (.string (tx p.v)) := by simp [cellH, a2]
      have hbad : ¬ Fit p → ¬ Good l := fun hn hg => hn (hg.fit p hmem)
      by_cases hk1 : p.k.length < 1
      · have g1 : ((p.k.length : Int) < 1) = True := eq_true (by omega)
        simp only [T_api_Pair.f0, T_api_Pair.f1, T_string.load, c0, c1, T_string.len, tx_size, g1, popO_some, bindH_eq, condV_bool, condV_true, condV_false, yV_bool, gopV_tt, gopV_ff, gopV_tf, gopV_ft, pickV_t, pickV_f, pickV_bool, nilS_ptr, add_eq, sub_eq, mul_eq, lss_eq, leq_eq, gtr_eq, geq_eq, not_eq, minI_eq, maxI_eq, extract_0, extract_1, extract_2, eqlI, neqI, makeFunc_eq, decide_true, decide_false, if_true, if_false, Bool.false_eq_true, Bool.not_true, Bool.not_false, reduceIte, List.getElem?_toArray, List.getElem?_cons_zero, List.getElem?_cons_succ, Option.isSome_none, List.length_map]
        exact hb (hbad (fun hx => by have := hx.1; omega)) _ _ (by decide) u2
      · have g1 : ((p.k.length : Int) < 1) = False := eq_false (by omega)
        by_cases hk2 : 16 < p.k.length
        · have g2 : ((16 : Int) < (p.k.length : Int)) = True := eq_true (by omega)
          simp only [T_api_Pair.f0, T_api_Pair.f1, T_string.load, c0, c1, T_string.len, tx_size, g1, g2, popO_some, bindH_eq, condV_bool, condV_true, condV_false, yV_bool, gopV_tt, gopV_ff, gopV_tf, gopV_ft, pickV_t, pickV_f, pickV_bool, nilS_ptr, add_eq, sub_eq, mul_eq, lss_eq, leq_eq, gtr_eq, geq_eq, not_eq, minI_eq, maxI_eq, extract_0, extract_1, extract_2, eqlI, neqI, makeFunc_eq, decide_true, decide_false, if_true, if_false, Bool.false_eq_true, Bool.not_true, Bool.not_false, reduceIte, List.getElem?_toArray, List.getElem?_cons_zero, List.getElem?_cons_succ, Option.isSome_none, List.length_map]
          exact hb (hbad (fun hx => by have := hx.2.1; omega)) _ _ (by decide) u2
        · have g2 : ((16 : Int) < (p.k.length : Int)) = False := eq_false (by omega)
          by_cases hk3 : 64 < p.v.length
          · have g3 : ((64 : Int) < (p.v.length : Int)) = True := eq_true (by omega)
            simp only [T_api_Pair.f0, T_api_Pair.f1, T_string.load, c0, c1, T_string.len, tx_size, g1, g2, g3, popO_some, bindH_eq, condV_bool, condV_true, condV_false, yV_bool, gopV_tt, gopV_ff, gopV_tf, gopV_ft, pickV_t, pickV_f, pickV_bool, nilS_ptr, add_eq, sub_eq, mul_eq, lss_eq, leq_eq, gtr_eq, geq_eq, not_eq, minI_eq, maxI_eq, extract_0, extract_1, extract_2, eqlI, neqI, makeFunc_eq, decide_true, decide_false, if_true, if_false, Bool.false_eq_true, Bool.not_true, Bool.not_false, reduceIte, List.getElem?_toArray, List.getElem?_cons_zero, List.getElem?_cons_succ, Option.isSome_none, List.length_map]
            exact hb (hbad (fun hx => by have := hx.2.2; omega)) _ _ (by decide) u2
          · have g3 : ((64 : Int) < (p.v.length : Int)) = False := eq_false (by omega)
            simp only [T_api_Pair.f0, T_api_Pair.f1, T_string.load, c0, c1, T_string.len, tx_size, g1, g2, g3, f5, popO_some, bindH_eq, condV_bool, condV_true, condV_false, yV_bool, gopV_tt, gopV_ff, gopV_tf, gopV_ft, pickV_t, pickV_f, pickV_bool, nilS_ptr, add_eq, sub_eq, mul_eq, lss_eq, leq_eq, gtr_eq, geq_eq, not_eq, minI_eq, maxI_eq, extract_0, extract_1, extract_2, eqlI, neqI, makeFunc_eq, decide_true, decide_false, if_true, if_false, Bool.false_eq_true, Bool.not_true, Bool.not_false, reduceIte, List.getElem?_toArray, List.getElem?_cons_zero, List.getElem?_cons_succ, Option.isSome_none, List.length_map]
            refine ⟨⟨i + 1, by omega, rfl, u2, fun q hq => ?_⟩, ?_⟩
            · rw [htk, List.mem_append, List.mem_singleton] at hq
              rcases hq with hq | rfl
              · exact hfit q hq
              · exact ⟨by omega, by omega, by omega⟩
            · simp only [upTo, List.getElem?_cons_succ, List.getElem?_cons_zero]
              omega
    · have f1 : ((i : Int) < (l.length : Int)) = False := eq_false (by omega)
      rw [List.take_of_length_le (by omega)] at hfit
      have f2 : IntKind.i64.wrap ((l.length : Int) - 1) = (l.length : Int) - 1 := i64_wrap (by omega) (by omega)
      have f3 : (if (0 : Int) < (l.length : Int) - 1 then (l.length : Int) - 1 else 0) = ((l.length - 1 : Nat) : Int) := by split <;> omega
      simp only [f1, lv, f2, maxI_eq, f3, popO_some, bindH_eq, condV_bool, condV_true, condV_false, yV_bool, gopV_tt, gopV_ff, gopV_tf, gopV_ft, pickV_t, pickV_f, pickV_bool, nilS_ptr, add_eq, sub_eq, mul_eq, lss_eq, leq_eq, gtr_eq, geq_eq, not_eq, minI_eq, maxI_eq, extract_0, extract_1, extract_2, eqlI, neqI, makeFunc_eq, decide_true, decide_false, if_true, if_false, Bool.false_eq_true, Bool.not_true, Bool.not_false, reduceIte, List.getElem?_toArray, List.getElem?_cons_zero, List.getElem?_cons_succ, Option.isSome_none, List.length_map]
      refine ⟨fun vs h' => ∃ i, i ≤ l.length - 1 ∧ vs = [v, .int .i64 ((l.length - 1 : Nat) : Int), .int .i64 (i : Int)] ∧ Ext h h' ∧ ∀ j (h1 : j + 1 < l.length), j < i → l[j].k < l[j + 1].k, upTo (l.length - 1) 2, ⟨0, by omega, rfl, u, by omega⟩, ?_⟩
      rintro ρ2 h2 ⟨i, hi, hvs, u2, hup⟩
      simp only [List.map_cons, List.map_nil, List.cons.injEq, and_true] at hvs
      obtain ⟨w0, w35, w36⟩ := hvs
      simp only [w0, w35, w36, List.map_cons, List.map_nil]
      unfold merkle_Check_b56
      by_cases hl : i < l.length - 1
      · have g1 : ((i : Int) < ((l.length - 1 : Nat) : Int)) = True := eq_true (by omega)
        have g5 : IntKind.i64.wrap ((i : Int) + 1) = ((i + 1 : Nat) : Int) := by rw [i64_wrap (by omega) (by omega)]; omega
        obtain ⟨b1, o1, p1, p2, -⟩ := (S.ext u2).pair (j := i) (p := l[i]) (List.getElem?_eq_getElem (by omega))
        obtain ⟨b2, o2, q1, q2, -⟩ := (S.ext u2).pair (j := i + 1) (p := l[i + 1]) (List.getElem?_eq_getElem (by omega))
        simp only [g1, p1, T_api_Pair.f0, T_string.load, p2, g5, q1, q2, geq_tx, popO_some, bindH_eq, condV_bool, condV_true, condV_false, yV_bool, gopV_tt, gopV_ff, gopV_tf, gopV_ft, pickV_t, pickV_f, pickV_bool, nilS_ptr, add_eq, sub_eq, mul_eq, lss_eq, leq_eq, gtr_eq, geq_eq, not_eq, minI_eq, maxI_eq, extract_0, extract_1, extract_2, eqlI, neqI, makeFunc_eq, decide_true, decide_false, if_true, if_false, Bool.false_eq_true, Bool.not_true, Bool.not_false, reduceIte, List.getElem?_toArray, List.getElem?_cons_zero, List.getElem?_cons_succ, Option.isSome_none, List.length_map]
        by_cases hlt : l[i].k < l[i + 1].k
        · simp only [hlt, popO_some, bindH_eq, condV_bool, condV_true, condV_false, yV_bool, gopV_tt, gopV_ff, gopV_tf, gopV_ft, pickV_t, pickV_f, pickV_bool, nilS_ptr, add_eq, sub_eq, mul_eq, lss_eq, leq_eq, gtr_eq, geq_eq, not_eq, minI_eq, maxI_eq, extract_0, extract_1, extract_2, eqlI, neqI, makeFunc_eq, decide_true, decide_false, if_true, if_false, Bool.false_eq_true, Bool.not_true, Bool.not_false, reduceIte, List.getElem?_toArray, List.getElem?_cons_zero, List.getElem?_cons_succ, Option.isSome_none, List.length_map]
          refine ⟨⟨i + 1, by omega, rfl, u2, fun j hj1 hj2 => ?_⟩, ?_⟩
          · by_cases hji : j = i
            · subst hji; exact hlt
            · exact hup j hj1 (by omega)
          · simp only [upTo, List.getElem?_cons_succ, List.getElem?_cons_zero]
            omega
        · simp only [hlt, popO_some, bindH_eq, condV_bool, condV_true, condV_false, yV_bool, gopV_tt, gopV_ff, gopV_tf, gopV_ft, pickV_t, pickV_f, pickV_bool, nilS_ptr, add_eq, sub_eq, mul_eq, lss_eq, leq_eq, gtr_eq, geq_eq, not_eq, minI_eq, maxI_eq, extract_0, extract_1, extract_2, eqlI, neqI, makeFunc_eq, decide_true, decide_false, if_true, if_false, Bool.false_eq_true, Bool.not_true, Bool.not_false, reduceIte, List.getElem?_toArray, List.getElem?_cons_zero, List.getElem?_cons_succ, Option.isSome_none, List.length_map]
          exact hb (fun hg => hlt (hg.up i (by omega))) _ _ (by decide) u2
      · have g1 : ((i : Int) < ((l.length - 1 : Nat) : Int)) = False := eq_false (by omega)
        simp only [g1, popO_some, bindH_eq, condV_bool, condV_true, condV_false, yV_bool, gopV_tt, gopV_ff, gopV_tf, gopV_ft, pickV_t, pickV_f, pickV_bool, nilS_ptr, add_eq, sub_eq, mul_eq, lss_eq, leq_eq, gtr_eq, geq_eq, not_eq, minI_eq, maxI_eq, extract_0, extract_1, extract_2, eqlI, neqI, makeFunc_eq, decide_true, decide_false, if_true, if_false, Bool.false_eq_true, Bool.not_true, Bool.not_false, reduceIte, List.getElem?_toArray, List.getElem?_cons_zero, List.getElem?_cons_succ, Option.isSome_none, List.length_map]
        exact hg ⟨hf, hfit, fun j hj => hup j hj (by omega)⟩ _ u2
  · have e1 : ((4096 : Int) < (l.length : Int)) = True := eq_true (by omega)
    simp only [lv, e1, popO_some, bindH_eq, condV_bool, condV_true, condV_false, yV_bool, gopV_tt, gopV_ff, gopV_tf, gopV_ft, pickV_t, pickV_f, pickV_bool, nilS_ptr, add_eq, sub_eq, mul_eq, lss_eq, leq_eq, gtr_eq, geq_eq, not_eq, minI_eq, maxI_eq, extract_0, extract_1, extract_2, eqlI, neqI, makeFunc_eq, decide_true, decide_false, if_true, if_false, Bool.false_eq_true, Bool.not_true, Bool.not_false, reduceIte, List.getElem?_toArray, List.getElem?_cons_zero, List.getElem?_cons_succ, Option.isSome_none, List.length_map]
    exact hb (fun hg => hf hg.few) _ _ (by decide) Upd.refl
end Go.Proofs.YtllopddcpkhfjaaDoor
