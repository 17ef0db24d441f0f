/- script: the document's configuration is the same. -/
import Derived.Test.YtflgnfiebgcegaaScrC
set_option linter.unusedSimpArgs false
set_option linter.unusedVariables false
namespace Go.Proofs.Ytflgnfiebgcegaa
open Go
set_option maxRecDepth 20000
/-! ### plain: reading so many bytes -/
def eat (cs : List Nat) (st : Stt) : Stt := cs.foldl (fun st c => (rGet st c).2) st
theorem eat_stuck {st : Stt} (h : st.1 ≠ 0) : ∀ cs : List Nat, eat cs st = st
  | [] => rfl
  | c :: cs => by show eat cs (rGet st c).2 = st; rw [rGet_stuck h]; exact eat_stuck h cs
theorem rGet_ok {s : List UInt8} {c : Nat} (h : c ≤ s.length) : rGet (0, s) c = (val (s.take c), (0, s.drop c)) := by
  unfold rGet rRaw
  rw [if_pos ⟨rfl, by omega, by simp; omega⟩]
  simp
theorem rGet_no {s : List UInt8} {c : Nat} (h : ¬ c ≤ s.length) : rGet (0, s) c = (0, (6, s)) := by
  unfold rGet rRaw
  rw [if_neg (by rintro ⟨_, _, h2⟩; simp at h2; omega)]
  rfl
theorem eat_fit : ∀ (cs : List Nat) (s : List UInt8), cs.sum ≤ s.length → eat cs (0, s) = (0, s.drop cs.sum)
  | [], s, _ => by simp [eat]
  | c :: cs, s, h => by
    simp only [List.sum_cons] at h ⊢
    show eat cs (rGet (0, s) c).2 = _
    rw [rGet_ok (by omega), eat_fit cs (s.drop c) (by rw [List.length_drop]; omega), List.drop_drop]
theorem eat_not : ∀ (cs : List Nat) (s : List UInt8), s.length < cs.sum → (eat cs (0, s)).1 = 6
  | [], s, h => by simp at h
  | c :: cs, s, h => by
    simp only [List.sum_cons] at h
    show (eat cs (rGet (0, s) c).2).1 = 6
    by_cases h2 : c ≤ s.length
    · rw [rGet_ok h2]
      exact eat_not cs (s.drop c) (by rw [List.length_drop]; omega)
    · rw [rGet_no h2, eat_stuck (by simp)]
theorem gCfg_eat (st : Stt) : (gCfg st).2 = eat [1, 1, 1, 1, 1, 1, 1, 8, 8, 8, 8] st := by
  simp only [gCfg, cNs, cN_st, gCfg0, rTwo, eat, List.foldl_cons, List.foldl_nil]
/-- The bytes from one place to another, as a number. -/
def at_ (s : List UInt8) (i j : Nat) : Nat := val ((s.take j).drop i)
def cfgD (s : List UInt8) : Cfg × List UInt8 × Int := if s.length < 39 then (Cfg.zero, [], 6) else (⟨at_ s 3 5, at_ s 5 7, at_ s 0 1, at_ s 1 2, at_ s 2 3, at_ s 7 15, at_ s 15 23, at_ s 23 31, at_ s 31 39⟩, s.drop 39, 0)
theorem at_get {s : List UInt8} {i c : Nat} (h : i + c ≤ s.length) : rGet (0, s.drop i) c = (at_ s i (i + c), (0, s.drop (i + c))) := by
  rw [rGet_ok (by rw [List.length_drop]; omega)]
  unfold at_
  rw [List.drop_drop, List.drop_take, show i + c - i = c by omega]
theorem val_two {l : List UInt8} (h : l.length = 2) : val l = val (l.take 1) * 256 + val (l.drop 1) := by
  match l, h with
  | [a, b], _ => simp [val]
theorem at_two {s : List UInt8} {i : Nat} (h : i + 2 ≤ s.length) : at_ s i (i + 2) = at_ s i (i + 1) * 256 + at_ s (i + 1) (i + 2) := by
  unfold at_
  rw [val_two (by simp; omega)]
  congr 2
  · congr 1
    rw [List.drop_take, List.drop_take, List.take_take]; congr 1; omega
  · rw [List.drop_drop]
theorem cfg_same (s : List UInt8) : cfgL s = cfgD s := by
  have e := gCfg_eat (0, s)
  unfold cfgL cfgD
  by_cases h : s.length < 39
  · have e2 := eat_not [1, 1, 1, 1, 1, 1, 1, 8, 8, 8, 8] s h
    rw [← e] at e2
    rw [if_pos h, e2, if_neg (by decide)]
  · have e2 := eat_fit [1, 1, 1, 1, 1, 1, 1, 8, 8, 8, 8] s (Nat.le_of_not_lt h)
    rw [← e] at e2
    rw [if_neg h, e2, if_pos rfl]
    show ((gCfg (0, s)).1, s.drop 39, (0 : Int)) = _
    congr 1
    have s0 : (rGet (0, s) 1) = (at_ s 0 1, (0, s.drop 1)) := at_get (i := 0) (c := 1) (by omega)
    have s1 := at_get (s := s) (i := 1) (c := 1) (by omega)
    have s2 := at_get (s := s) (i := 2) (c := 1) (by omega)
    have s3 := at_get (s := s) (i := 3) (c := 1) (by omega)
    have s4 := at_get (s := s) (i := 4) (c := 1) (by omega)
    have s5 := at_get (s := s) (i := 5) (c := 1) (by omega)
    have s6 := at_get (s := s) (i := 6) (c := 1) (by omega)
    have s7 := at_get (s := s) (i := 7) (c := 8) (by omega)
    have s8 := at_get (s := s) (i := 15) (c := 8) (by omega)
    have s9 := at_get (s := s) (i := 23) (c := 8) (by omega)
    have s10 := at_get (s := s) (i := 31) (c := 8) (by omega)
    simp only [Nat.reduceAdd] at s1 s2 s3 s4 s5 s6 s7 s8 s9 s10
    have t1 := at_two (s := s) (i := 3) (by omega)
    have t2 := at_two (s := s) (i := 5) (by omega)
    simp only [Nat.reduceAdd] at t1 t2
    have d0 : gCfg0 (0, s) = (⟨at_ s 3 5, at_ s 5 7, at_ s 0 1, at_ s 1 2, at_ s 2 3, 0, 0, 0, 0⟩, (0, s.drop 7)) := by
      unfold gCfg0 rTwo
      simp only [s0, s1, s2, s3, s4, s5, s6, t1, t2]
    unfold gCfg
    simp only [cNs, d0, cN, s7, s8, s9, s10]
/-! ### the document's walk -/
theorem v_ok {h : PH} {s : List UInt8} {i j : Nat} (hij : i ≤ j) (hj : j ≤ s.length) (h8 : j - i ≤ 8) {k : Value → PH → Prop} (hk : k (.int .u64 (at_ s i j)) h) : CallsH PG id_carrackref23_v #[.string (tx s), .int .i64 i, .int .i64 j] h k := by
  apply carrackref23_v.call
  unfold carrackref23_v
  have := cut_tx (P := PG) (t := T_string) (l := s) (i := i) (j := j) (lo := some (.int .i64 i)) (hi := some (.int .i64 j)) T_string.und (.inr ⟨.i64, rfl⟩) (.inr ⟨.i64, rfl⟩) hij hj
  simp only [this, popO_some, bindH_eq, condV_bool, condV_true, condV_false, yV_bool, gopV_tt, gopV_ff, gopV_tf, gopV_ft, pickV_t, pickV_f, pickV_bool, nilS_ptr, add_eq, sub_eq, mul_eq, lss_eq, leq_eq, gtr_eq, geq_eq, not_eq, minI_eq, maxI_eq, extract_0, extract_1, extract_2, eqlI, neqI, makeFunc_eq, decide_true, decide_false, if_true, if_false, Bool.false_eq_true, Bool.not_true, Bool.not_false, reduceIte, List.getElem?_toArray, List.getElem?_cons_zero, List.getElem?_cons_succ, Option.isSome_none, List.length_map]
  exact Value_ok (by simp; omega) hk
theorem at_lt (s : List UInt8) (i j : Nat) (h : j - i ≤ 2) : at_ s i j < 65536 := by
  unfold at_
  have h1 := val_lt ((s.take j).drop i)
  have h2 : ((s.take j).drop i).length ≤ 2 := by simp; omega
  exact Nat.lt_of_lt_of_le h1 (Nat.pow_le_pow_right (n := 256) (by decide) h2)
theorem byte_at {s : List UInt8} {i : Nat} (h : i < s.length) : ∃ b, s[i]? = some b ∧ at_ s i (i + 1) = b.toNat := by
  refine ⟨s[i], List.getElem?_eq_getElem h, ?_⟩
  unfold at_
  rw [List.drop_take, show i + 1 - i = 1 by omega]
  have : (s.drop i).take 1 = [s[i]] := by
    rw [List.drop_eq_getElem_cons h]; rfl
  rw [this]; simp [val]
theorem arr_store {h : PH} {r o : Nat} {c c' : Cfg} {x y : Nat} (H : CBox h r c) (ho : o + 2 ≤ 9) (he : writeA c.cells.toArray o [.int .u64 x, .int .u64 y] = c'.cells.toArray) {k : Value → PH → Prop} (hk : ∀ h', CBox h' r c' → Upd [r] h h' → k undef h') :
    SemH PG (storeS T_2_uint64 (.pointer (some ⟨r, o, none⟩)) (.agg #[.int .u64 x, .int .u64 y])) h k := by
  refine store_agg H.here T_2_uint64.info (by show 2 = 2; rfl) (by show 0 < 2; decide) (by show o + 2 ≤ 9; exact ho) (by intro v hv; simp at hv; rcases hv with rfl | rfl <;> rfl) ?_
  rw [he]
  exact hk _ ⟨set_same⟩ (Upd.set (by simp))
theorem two_build (x y : Int) : SemP PG (Instr.build T_2_uint64 #[(0, .int .u64 x), (1, .int .u64 y)]) = some (.agg #[.int .u64 x, .int .u64 y]) := by kernel_rfl
set_option maxHeartbeats 1000000 in
theorem RConfig_ok {h : PH} (s : List UInt8) (hs : s.length ≤ 1000000000000) {k : Value → PH → Prop} (hk : ∀ h', Ext h h' → k (cfgV (cfgL s)) h') : CallsH PG id_carrackref23_Config #[.string (tx s)] h k := by
  rw [cfg_same] at hk
  unfold cfgD at hk
  apply carrackref23_Config.call
  unfold carrackref23_Config
  intro r1 hr1
  try rw [bindH_eq]
  have u1 : Ext h (h.set r1 (.cells (zcells PG T_api_Config) T_api_Config)) := Upd.new hr1
  have b1 : (h.set r1 (.cells (zcells PG T_api_Config) T_api_Config)) r1 = some (.cells (zcells PG T_api_Config) T_api_Config (0, 0)) := set_same
  generalize h.set r1 (.cells (zcells PG T_api_Config) T_api_Config) = h1 at *
  by_cases hl : s.length < 39
  · rw [if_pos hl] at hk
    have hd : ((s.length : Int) < 39) = True := by apply eq_true; omega
    simp only [T_string.len, tx_size, hd, cfg_build0, popO_some, bindH_eq, condV_bool, condV_true, condV_false, yV_bool, gopV_tt, gopV_ff, gopV_tf, gopV_ft, pickV_t, pickV_f, pickV_bool, nilS_ptr, add_eq, sub_eq, mul_eq, lss_eq, leq_eq, gtr_eq, geq_eq, not_eq, minI_eq, maxI_eq, extract_0, extract_1, extract_2, eqlI, neqI, makeFunc_eq, decide_true, decide_false, if_true, if_false, Bool.false_eq_true, Bool.not_true, Bool.not_false, reduceIte, List.getElem?_toArray, List.getElem?_cons_zero, List.getElem?_cons_succ, Option.isSome_none, List.length_map]
    refine put_cfg _ b1 (by rw [T_api_Config.zc]; rfl) fun h2 hC2 u2 => ?_
    simp only [hC2.load, popO_some, bindH_eq, condV_bool, condV_true, condV_false, yV_bool, gopV_tt, gopV_ff, gopV_tf, gopV_ft, pickV_t, pickV_f, pickV_bool, nilS_ptr, add_eq, sub_eq, mul_eq, lss_eq, leq_eq, gtr_eq, geq_eq, not_eq, minI_eq, maxI_eq, extract_0, extract_1, extract_2, eqlI, neqI, makeFunc_eq, decide_true, decide_false, if_true, if_false, Bool.false_eq_true, Bool.not_true, Bool.not_false, reduceIte, List.getElem?_toArray, List.getElem?_cons_zero, List.getElem?_cons_succ, Option.isSome_none, List.length_map]
    exact hk _ (u1.fresh u2 (Fresh.one hr1))
  · rw [if_neg hl] at hk
    have hd : ((s.length : Int) < 39) = False := by apply eq_false; omega
    obtain ⟨x0, a0, c0⟩ := byte_at (s := s) (i := 0) (by omega)
    obtain ⟨x1, a1, c1⟩ := byte_at (s := s) (i := 1) (by omega)
    obtain ⟨x2, a2, c2⟩ := byte_at (s := s) (i := 2) (by omega)
    have i0 : SemP PG (Instr.index T_string (.string (tx s)) (.int .i64 0)) = some (.int .u8 x0.toNat) := index_tx (P := PG) (t := T_string) (k := .i64) (j := 0) T_string.und a0
    have i1 : SemP PG (Instr.index T_string (.string (tx s)) (.int .i64 1)) = some (.int .u8 x1.toNat) := index_tx (P := PG) (t := T_string) (k := .i64) (j := 1) T_string.und a1
    have i2 : SemP PG (Instr.index T_string (.string (tx s)) (.int .i64 2)) = some (.int .u8 x2.toNat) := index_tx (P := PG) (t := T_string) (k := .i64) (j := 2) T_string.und a2
    have ec : ∀ b : UInt8, SemP PG (convert T_uint8 T_int (.int .u8 b.toNat)) = some (.int .i64 b.toNat) := fun b => by
      have hb := b.toNat_lt
      rw [conv_8i, i64_wrap (by omega) (by omega)]
    have l1 := at_lt s 3 5 (by omega)
    have l2 := at_lt s 5 7 (by omega)
    have w1 : IntKind.i64.wrap ((at_ s 3 5 : Nat) : Int) = ((at_ s 3 5 : Nat) : Int) := by rw [i64_wrap (by omega) (by omega)]
    have w2 : IntKind.i64.wrap ((at_ s 5 7 : Nat) : Int) = ((at_ s 5 7 : Nat) : Int) := by rw [i64_wrap (by omega) (by omega)]
    simp only [T_string.len, tx_size, hd, i0, i1, i2, ec, popO_some, bindH_eq, condV_bool, condV_true, condV_false, yV_bool, gopV_tt, gopV_ff, gopV_tf, gopV_ft, pickV_t, pickV_f, pickV_bool, nilS_ptr, add_eq, sub_eq, mul_eq, lss_eq, leq_eq, gtr_eq, geq_eq, not_eq, minI_eq, maxI_eq, extract_0, extract_1, extract_2, eqlI, neqI, makeFunc_eq, decide_true, decide_false, if_true, if_false, Bool.false_eq_true, Bool.not_true, Bool.not_false, reduceIte, List.getElem?_toArray, List.getElem?_cons_zero, List.getElem?_cons_succ, Option.isSome_none, List.length_map]
    refine v_ok (i := 3) (j := 5) (by omega) (by omega) (by omega) ?_
    simp only [conv_ui, w1, popO_some, bindH_eq, condV_bool, condV_true, condV_false, yV_bool, gopV_tt, gopV_ff, gopV_tf, gopV_ft, pickV_t, pickV_f, pickV_bool, nilS_ptr, add_eq, sub_eq, mul_eq, lss_eq, leq_eq, gtr_eq, geq_eq, not_eq, minI_eq, maxI_eq, extract_0, extract_1, extract_2, eqlI, neqI, makeFunc_eq, decide_true, decide_false, if_true, if_false, Bool.false_eq_true, Bool.not_true, Bool.not_false, reduceIte, List.getElem?_toArray, List.getElem?_cons_zero, List.getElem?_cons_succ, Option.isSome_none, List.length_map]
    refine v_ok (i := 5) (j := 7) (by omega) (by omega) (by omega) ?_
    simp only [conv_ui, w2, cfg_build, popO_some, bindH_eq, condV_bool, condV_true, condV_false, yV_bool, gopV_tt, gopV_ff, gopV_tf, gopV_ft, pickV_t, pickV_f, pickV_bool, nilS_ptr, add_eq, sub_eq, mul_eq, lss_eq, leq_eq, gtr_eq, geq_eq, not_eq, minI_eq, maxI_eq, extract_0, extract_1, extract_2, eqlI, neqI, makeFunc_eq, decide_true, decide_false, if_true, if_false, Bool.false_eq_true, Bool.not_true, Bool.not_false, reduceIte, List.getElem?_toArray, List.getElem?_cons_zero, List.getElem?_cons_succ, Option.isSome_none, List.length_map]
    intro r2 hr2
    try rw [bindH_eq]
    refine put_cfg _ set_same (by rw [T_api_Config.zc]; rfl) fun h3 hC3 v3 => ?_
    have u3 : Ext h1 h3 := fun b o hb _ => v3 b o (set_old hr2 hb) (by simp; exact ne_new hb hr2)
    have hne : r2 ≠ r1 := fun e => by subst e; rw [b1] at hr2; cases hr2
    refine v_ok (i := 7) (j := 15) (by omega) (by omega) (by omega) ?_
    refine v_ok (i := 15) (j := 23) (by omega) (by omega) (by omega) ?_
    simp only [two_build, T_api_Config.f5, Nat.zero_add, popO_some, bindH_eq, condV_bool, condV_true, condV_false, yV_bool, gopV_tt, gopV_ff, gopV_tf, gopV_ft, pickV_t, pickV_f, pickV_bool, nilS_ptr, add_eq, sub_eq, mul_eq, lss_eq, leq_eq, gtr_eq, geq_eq, not_eq, minI_eq, maxI_eq, extract_0, extract_1, extract_2, eqlI, neqI, makeFunc_eq, decide_true, decide_false, if_true, if_false, Bool.false_eq_true, Bool.not_true, Bool.not_false, reduceIte, List.getElem?_toArray, List.getElem?_cons_zero, List.getElem?_cons_succ, Option.isSome_none, List.length_map]
    refine arr_store (c' := Cfg.mk (at_ s 3 5) (at_ s 5 7) x0.toNat x1.toNat x2.toNat (at_ s 7 15) (at_ s 15 23) 0 0) hC3 (by decide) (by simp [writeA, Cfg.cells]) fun h4 hC4 u4 => ?_
    refine v_ok (i := 23) (j := 31) (by omega) (by omega) (by omega) ?_
    refine v_ok (i := 31) (j := 39) (by omega) (by omega) (by omega) ?_
    simp only [two_build, T_api_Config.f6, Nat.zero_add, popO_some, bindH_eq, condV_bool, condV_true, condV_false, yV_bool, gopV_tt, gopV_ff, gopV_tf, gopV_ft, pickV_t, pickV_f, pickV_bool, nilS_ptr, add_eq, sub_eq, mul_eq, lss_eq, leq_eq, gtr_eq, geq_eq, not_eq, minI_eq, maxI_eq, extract_0, extract_1, extract_2, eqlI, neqI, makeFunc_eq, decide_true, decide_false, if_true, if_false, Bool.false_eq_true, Bool.not_true, Bool.not_false, reduceIte, List.getElem?_toArray, List.getElem?_cons_zero, List.getElem?_cons_succ, Option.isSome_none, List.length_map]
    refine arr_store (c' := Cfg.mk (at_ s 3 5) (at_ s 5 7) x0.toNat x1.toNat x2.toNat (at_ s 7 15) (at_ s 15 23) (at_ s 23 31) (at_ s 31 39)) hC4 (by decide) (by simp [writeA, Cfg.cells]) fun h5 hC5 u5 => ?_
    have ecut : SemP PG (Instr.sliceAt T_string (.string (tx s)) (some (.int .i64 39)) none none) = some (.string (tx (s.drop 39))) := cut_drop (s := s) (n := 39) (by omega)
    simp only [hC5.load, ecut, popO_some, bindH_eq, condV_bool, condV_true, condV_false, yV_bool, gopV_tt, gopV_ff, gopV_tf, gopV_ft, pickV_t, pickV_f, pickV_bool, nilS_ptr, add_eq, sub_eq, mul_eq, lss_eq, leq_eq, gtr_eq, geq_eq, not_eq, minI_eq, maxI_eq, extract_0, extract_1, extract_2, eqlI, neqI, makeFunc_eq, decide_true, decide_false, if_true, if_false, Bool.false_eq_true, Bool.not_true, Bool.not_false, reduceIte, List.getElem?_toArray, List.getElem?_cons_zero, List.getElem?_cons_succ, Option.isSome_none, List.length_map]
    refine put_cfg _ (u5.get (u4.get (u3.get b1) (by simpa using hne.symm)) (by simpa using hne.symm)) (by rw [T_api_Config.zc]; rfl) fun h6 hC6 u6 => ?_
    simp only [hC6.load, popO_some, bindH_eq, condV_bool, condV_true, condV_false, yV_bool, gopV_tt, gopV_ff, gopV_tf, gopV_ft, pickV_t, pickV_f, pickV_bool, nilS_ptr, add_eq, sub_eq, mul_eq, lss_eq, leq_eq, gtr_eq, geq_eq, not_eq, minI_eq, maxI_eq, extract_0, extract_1, extract_2, eqlI, neqI, makeFunc_eq, decide_true, decide_false, if_true, if_false, Bool.false_eq_true, Bool.not_true, Bool.not_false, reduceIte, List.getElem?_toArray, List.getElem?_cons_zero, List.getElem?_cons_succ, Option.isSome_none, List.length_map]
    have k0 : at_ s 0 1 = x0.toNat := c0
    have k1 : at_ s 1 2 = x1.toNat := c1
    have k2 : at_ s 2 3 = x2.toNat := c2
    rw [k0, k1, k2] at hk
    have hh2 : h r2 = none := u1.none hr2
    exact hk h6 ((((u1.trans u3).fresh u4 (Fresh.one hh2)).fresh u5 (Fresh.one hh2)).fresh u6 (Fresh.one hr1))
end Go.Proofs.Ytflgnfiebgcegaa
