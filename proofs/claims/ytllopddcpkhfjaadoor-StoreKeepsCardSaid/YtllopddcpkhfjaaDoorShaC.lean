/- sha: turning words, the words of a block. -/
import Derived.Test.YtllopddcpkhfjaaDoorShaP
import Derived.Test.YtllopddcpkhfjaaDoorHArr
set_option linter.unusedSimpArgs false
set_option linter.unusedVariables false
namespace Go.Proofs.YtllopddcpkhfjaaDoor
open Go
set_option maxRecDepth 20000
theorem cv_int_uint (x : Int) : SemP PG (convert T_int T_uint (.int .i64 x)) = some (.int .u64 (IntKind.u64.wrap x)) := by kernel_rfl
theorem cv_8_32 (x : Int) : SemP PG (convert T_uint8 T_uint32 (.int .u8 x)) = some (.int .u32 (IntKind.u32.wrap x)) := by kernel_rfl
theorem cv_32_8 (x : Int) : SemP PG (convert T_uint32 T_uint8 (.int .u32 x)) = some (.int .u8 (IntKind.u8.wrap x)) := by kernel_rfl
theorem and31 : ∀ n : Fin 32, ((BitVec.ofInt 64 (18446744073709551616 - (n.val : Int)) &&& BitVec.ofInt 64 31).toNat : Int) = (32 - (n.val : Int)) % 32 := by decide
theorem and31' (n : Nat) (h1 : 1 ≤ n) (h2 : n ≤ 31) : SemP PG (binOp .and T_uint (.int .u64 (18446744073709551616 - (n : Int))) (.int .u64 31)) = some (.int .u64 ((32 - n : Nat) : Int)) := by
  have e : SemP PG (binOp .and T_uint (.int .u64 (18446744073709551616 - (n : Int))) (.int .u64 31)) = some (.int .u64 (IntKind.u64.wrap ((BitVec.ofInt 64 (18446744073709551616 - (n : Int)) &&& BitVec.ofInt 64 31).toNat : Int))) := rfl
  have := and31 ⟨n, by omega⟩
  simp only at this
  rw [e, this, u64_wrap (by omega) (by omega)]
  congr 2
  omega
theorem turn_ok {h : PH} {x : W} {n : Nat} (h1 : 1 ≤ n) (h2 : n ≤ 31) {k : Value → PH → Prop} (hk : k (wv (tn x n)) h) : CallsH PG id_sha_turn #[wv x, .int .i64 n] h k := by
  apply sha_turn.call
  unfold sha_turn
  have e1 : SemP PG (Op.unary .neg (.int .i64 (n : Int))) = some (.int .i64 (-(n : Int))) := by
    have : SemP PG (Op.unary .neg (.int .i64 (n : Int))) = some (.int .i64 (IntKind.i64.wrap (0 - (n : Int)))) := rfl
    rw [this, i64_wrap (by omega) (by omega)]; simp
  simp only [e1, popO_some, bindH_eq, condV_bool, condV_true, condV_false, yV_bool, gopV_tt, gopV_ff, gopV_tf, gopV_ft, pickV_t, pickV_f, pickV_bool, nilS_ptr, add_eq, sub_eq, mul_eq, lss_eq, leq_eq, gtr_eq, geq_eq, not_eq, minI_eq, maxI_eq, extract_0, extract_1, extract_2, eqlI, neqI, makeFunc_eq, decide_true, decide_false, if_true, if_false, Bool.false_eq_true, Bool.not_true, Bool.not_false, reduceIte, List.getElem?_toArray, List.getElem?_cons_zero, List.getElem?_cons_succ, Option.isSome_none, List.length_map]
  apply math_bits_RotateLeft32.call
  unfold math_bits_RotateLeft32
  have e2 : IntKind.u64.wrap (-(n : Int)) = 18446744073709551616 - (n : Int) := by
    unfold IntKind.wrap
    simp [IntKind.signed, IntKind.bits]
    omega
  have e3 : IntKind.u64.wrap (32 - ((32 - n : Nat) : Int)) = ((n : Nat) : Int) := by rw [u64_wrap (by omega) (by omega)]; omega
  simp only [cv_int_uint, e2, and31' n h1 h2, sub_eq, e3, w_shl (show 32 - n ≤ 32 by omega), w_shr (show n ≤ 32 by omega), w_or, popO_some, bindH_eq, condV_bool, condV_true, condV_false, yV_bool, gopV_tt, gopV_ff, gopV_tf, gopV_ft, pickV_t, pickV_f, pickV_bool, nilS_ptr, add_eq, sub_eq, mul_eq, lss_eq, leq_eq, gtr_eq, geq_eq, not_eq, minI_eq, maxI_eq, extract_0, extract_1, extract_2, eqlI, neqI, makeFunc_eq, decide_true, decide_false, if_true, if_false, Bool.false_eq_true, Bool.not_true, Bool.not_false, reduceIte, List.getElem?_toArray, List.getElem?_cons_zero, List.getElem?_cons_succ, Option.isSome_none, List.length_map]
  exact hk
/-! ### the words -/
theorem set_mid {l r : List Value} {x v : Value} {n : Nat} (hn : n = l.length) : (l ++ x :: r).toArray.setIfInBounds n v = (l ++ v :: r).toArray := by
  subst hn
  apply Array.ext'
  simp
def zs (n : Nat) : List Value := List.replicate n (wv 0)
theorem zs_succ (n : Nat) : zs (n + 1) = wv 0 :: zs n := rfl
theorem at64 {b : Nat} {j : Int} (h0 : 0 ≤ j) (h1 : j < 64) : SemP PG (Instr.indexAt T_64_uint32 (.pointer (some ⟨b, 0, none⟩)) (.int .i64 j)) = some (.pointer (some ⟨b, j.toNat, none⟩)) := by
  rw [indexAt_array T_64_uint32.und T_uint32.info T_uint32.size h0 (by exact_mod_cast h1)]
  simp
theorem at8 {b : Nat} {j : Int} (h0 : 0 ≤ j) (h1 : j < 8) : SemP PG (Instr.indexAt T_8_uint32 (.pointer (some ⟨b, 0, none⟩)) (.int .i64 j)) = some (.pointer (some ⟨b, j.toNat, none⟩)) := by
  rw [indexAt_array T_8_uint32.und T_uint32.info T_uint32.size h0 (by exact_mod_cast h1)]
  simp
theorem isw (x : W) : isCell (wv x) = true := rfl
theorem cell_w {h : PH} {b o : Nat} {l : List W} {r : List Value} {t : TypeId} {fr : Nat × Nat} (hb : h b = some (.cells (l.map wv ++ r).toArray t fr)) (ho : o < l.length) : cellH h ⟨b, o, none⟩ = some (wv (l.getD o 0)) := by
  unfold cellH
  simp only [hb]
  rw [List.getElem?_toArray, List.getElem?_append_left (by simpa using ho), List.getElem?_map, List.getElem?_eq_getElem ho]
  simp [List.getD_eq_getElem?_getD, List.getElem?_eq_getElem ho]
theorem w8 (x : UInt8) : Value.int .u32 (IntKind.u32.wrap (x.toNat : Int)) = wv (BitVec.ofNat 32 x.toNat) := by
  have hx := x.toNat_lt
  unfold wv
  rw [u32_wrap, BitVec.toNat_ofNat]
  congr 1
theorem sh24 {t : TypeId} {x : W} {k : IntKind} : SemP PG (binOp .shl t (wv x) (.int k 24)) = some (wv (x <<< 24)) := w_shl (n := 24) (by decide)
theorem sh16 {t : TypeId} {x : W} {k : IntKind} : SemP PG (binOp .shl t (wv x) (.int k 16)) = some (wv (x <<< 16)) := w_shl (n := 16) (by decide)
theorem sh8 {t : TypeId} {x : W} {k : IntKind} : SemP PG (binOp .shl t (wv x) (.int k 8)) = some (wv (x <<< 8)) := w_shl (n := 8) (by decide)
theorem sr3 {t : TypeId} {x : W} {k : IntKind} : SemP PG (binOp .shr t (wv x) (.int k 3)) = some (wv (x >>> 3)) := w_shr (n := 3) (by decide)
theorem sr10 {t : TypeId} {x : W} {k : IntKind} : SemP PG (binOp .shr t (wv x) (.int k 10)) = some (wv (x >>> 10)) := w_shr (n := 10) (by decide)
theorem z64 : zcells PG T_64_uint32 = (zs 64).toArray := by rw [T_64_uint32.zc]; rfl
theorem z8 : zcells PG T_8_uint32 = (zs 8).toArray := by rw [T_8_uint32.zc]; rfl
theorem words_b6 {b : List UInt8} (hb : b.length = 64) {i r1 r3 : Nat} (hi : i < 16) {h : PH} {R : Value → PH → Prop} {n5 : List Value → PH → Prop}
    (h3 : h r3 = some (.cells ((wfront b i).map wv ++ zs (64 - i)).toArray T_64_uint32 (0, 0)))
    (hn : n5 [.string (tx b), .pointer (some ⟨r1, 0, none⟩), .pointer (some ⟨r3, 0, none⟩), .int .i64 ((i + 1 : Nat) : Int)] (h.set r3 (.cells ((wfront b (i + 1)).map wv ++ zs (64 - (i + 1))).toArray T_64_uint32 (0, 0)))) :
    sha_words_b6 R n5 (.string (tx b)) (.pointer (some ⟨r1, 0, none⟩)) (.pointer (some ⟨r3, 0, none⟩)) (.int .i64 (i : Int)) h := by
  unfold sha_words_b6
  have e1 : ((i : Int) < 16) = True := eq_true (by omega)
  have e2 : IntKind.i64.wrap (4 * (i : Int)) = ((4 * i : Nat) : Int) := by rw [i64_wrap (by omega) (by omega)]; omega
  have e3 : IntKind.i64.wrap (((4 * i : Nat) : Int) + 4) = ((4 * i + 4 : Nat) : Int) := by rw [i64_wrap (by omega) (by omega)]; omega
  have e4 : IntKind.i64.wrap ((i : Int) + 1) = ((i + 1 : Nat) : Int) := by rw [i64_wrap (by omega) (by omega)]; omega
  have ec : SemP PG (Instr.sliceAt T_string (.string (tx b)) (some (.int .i64 ((4 * i : Nat) : Int))) (some (.int .i64 ((4 * i + 4 : Nat) : Int))) none) = some (.string (tx ((b.take (4 * i + 4)).drop (4 * i)))) :=
    cut_tx T_string.und (.inr ⟨_, rfl⟩) (.inr ⟨_, rfl⟩) (by omega) (by omega)
  have ix : ∀ j, j < 4 → ((b.take (4 * i + 4)).drop (4 * i))[j]? = some (b.getD (4 * i + j) 0) := fun j hj => by
    rw [List.getElem?_drop, List.getElem?_take, if_pos (by omega), List.getD_eq_getElem?_getD, List.getElem?_eq_getElem (by omega)]; rfl
  have i0 : SemP PG (Instr.index T_string (.string (tx ((b.take (4 * i + 4)).drop (4 * i)))) (.int .i64 0)) = _ := index_tx (j := 0) T_string.und (ix 0 (by omega))
  have i1 : SemP PG (Instr.index T_string (.string (tx ((b.take (4 * i + 4)).drop (4 * i)))) (.int .i64 1)) = _ := index_tx (j := 1) T_string.und (ix 1 (by omega))
  have i2 : SemP PG (Instr.index T_string (.string (tx ((b.take (4 * i + 4)).drop (4 * i)))) (.int .i64 2)) = _ := index_tx (j := 2) T_string.und (ix 2 (by omega))
  have i3 : SemP PG (Instr.index T_string (.string (tx ((b.take (4 * i + 4)).drop (4 * i)))) (.int .i64 3)) = _ := index_tx (j := 3) T_string.und (ix 3 (by omega))
  have ea := at64 (b := r3) (j := (i : Int)) (by omega) (by omega)
  rw [Int.toNat_natCast] at ea
  simp only [e1, e2, e3, e4, ec, i0, i1, i2, i3, cv_8_32, w8, sh24, sh16, sh8, w_or, ea, popO_some, bindH_eq, condV_bool, condV_true, condV_false, yV_bool, gopV_tt, gopV_ff, gopV_tf, gopV_ft, pickV_t, pickV_f, pickV_bool, nilS_ptr, add_eq, sub_eq, mul_eq, lss_eq, leq_eq, gtr_eq, geq_eq, not_eq, minI_eq, maxI_eq, extract_0, extract_1, extract_2, eqlI, neqI, makeFunc_eq, decide_true, decide_false, if_true, if_false, Bool.false_eq_true, Bool.not_true, Bool.not_false, reduceIte, List.getElem?_toArray, List.getElem?_cons_zero, List.getElem?_cons_succ, Option.isSome_none, List.length_map]
  refine store_cell T_uint32.und rfl h3 (by simp [wfront_len, zs]; omega) (isw _) T_uint32.info T_uint32.size ?_
  have es : ((wfront b i).map wv ++ zs (64 - i)).toArray.setIfInBounds i (wv (w4 (b.getD (4 * i + 0) 0) (b.getD (4 * i + 1) 0) (b.getD (4 * i + 2) 0) (b.getD (4 * i + 3) 0))) = ((wfront b (i + 1)).map wv ++ zs (64 - (i + 1))).toArray := by
    rw [show 64 - i = (64 - (i + 1)) + 1 by omega, zs_succ, set_mid (by simp [wfront_len]), wfront_succ]
    simp [wat]
  have es' := es
  unfold w4 at es'
  rw [es']
  exact hn
theorem words_b31 {b : List UInt8} {i r1 r3 : Nat} (hi : i < 48) {h : PH} {R : Value → PH → Prop} {n5 : List Value → PH → Prop}
    (h3 : h r3 = some (.cells ((wmore b i).map wv ++ zs (48 - i)).toArray T_64_uint32 (0, 0)))
    (hn : n5 [.pointer (some ⟨r1, 0, none⟩), .pointer (some ⟨r3, 0, none⟩), .int .i64 ((i + 1 + 16 : Nat) : Int)] (h.set r3 (.cells ((wmore b (i + 1)).map wv ++ zs (48 - (i + 1))).toArray T_64_uint32 (0, 0)))) :
    sha_words_b31 R n5 (.pointer (some ⟨r1, 0, none⟩)) (.pointer (some ⟨r3, 0, none⟩)) (.int .i64 ((i + 16 : Nat) : Int)) h := by
  unfold sha_words_b31
  have hl := wmore_len b i
  have e1 : (((i + 16 : Nat) : Int) < 64) = True := eq_true (by omega)
  have e2 : IntKind.i64.wrap (((i + 16 : Nat) : Int) - 15) = ((i + 1 : Nat) : Int) := by rw [i64_wrap (by omega) (by omega)]; omega
  have e3 : IntKind.i64.wrap (((i + 16 : Nat) : Int) - 2) = ((i + 14 : Nat) : Int) := by rw [i64_wrap (by omega) (by omega)]; omega
  have e4 : IntKind.i64.wrap (((i + 16 : Nat) : Int) - 16) = ((i : Nat) : Int) := by rw [i64_wrap (by omega) (by omega)]; omega
  have e5 : IntKind.i64.wrap (((i + 16 : Nat) : Int) - 7) = ((i + 9 : Nat) : Int) := by rw [i64_wrap (by omega) (by omega)]; omega
  have e6 : IntKind.i64.wrap (((i + 16 : Nat) : Int) + 1) = ((i + 1 + 16 : Nat) : Int) := by rw [i64_wrap (by omega) (by omega)]; omega
  have a1 := at64 (b := r3) (j := ((i + 1 : Nat) : Int)) (by omega) (by omega)
  have a2 := at64 (b := r3) (j := ((i + 14 : Nat) : Int)) (by omega) (by omega)
  have a3 := at64 (b := r3) (j := ((i : Nat) : Int)) (by omega) (by omega)
  have a4 := at64 (b := r3) (j := ((i + 9 : Nat) : Int)) (by omega) (by omega)
  have a5 := at64 (b := r3) (j := ((i + 16 : Nat) : Int)) (by omega) (by omega)
  rw [Int.toNat_natCast] at a1 a2 a3 a4 a5
  have c1 := cell_w (o := i + 1) h3 (by omega)
  have c2 := cell_w (o := i + 14) h3 (by omega)
  have c3 := cell_w (o := i) h3 (by omega)
  have c4 := cell_w (o := i + 9) h3 (by omega)
  simp only [e1, e2, e3, e4, e5, a1, a2, a3, a4, T_uint32.load, c1, c2, c3, c4, sr3, sr10, popO_some, bindH_eq, condV_bool, condV_true, condV_false, yV_bool, gopV_tt, gopV_ff, gopV_tf, gopV_ft, pickV_t, pickV_f, pickV_bool, nilS_ptr, add_eq, sub_eq, mul_eq, lss_eq, leq_eq, gtr_eq, geq_eq, not_eq, minI_eq, maxI_eq, extract_0, extract_1, extract_2, eqlI, neqI, makeFunc_eq, decide_true, decide_false, if_true, if_false, Bool.false_eq_true, Bool.not_true, Bool.not_false, reduceIte, List.getElem?_toArray, List.getElem?_cons_zero, List.getElem?_cons_succ, Option.isSome_none, List.length_map]
  refine turn_ok (n := 7) (by decide) (by decide) ?_
  refine ⟨by simp only [T_uint32.load, c4], by simp only [T_uint32.load, c3], ?_⟩
  refine turn_ok (n := 18) (by decide) (by decide) ?_
  refine ⟨by simp only [T_uint32.load, c4], by simp only [T_uint32.load, c3], ?_⟩
  simp only [w_xor, w_add, popO_some, bindH_eq, condV_bool, condV_true, condV_false, yV_bool, gopV_tt, gopV_ff, gopV_tf, gopV_ft, pickV_t, pickV_f, pickV_bool, nilS_ptr, add_eq, sub_eq, mul_eq, lss_eq, leq_eq, gtr_eq, geq_eq, not_eq, minI_eq, maxI_eq, extract_0, extract_1, extract_2, eqlI, neqI, makeFunc_eq, decide_true, decide_false, if_true, if_false, Bool.false_eq_true, Bool.not_true, Bool.not_false, reduceIte, List.getElem?_toArray, List.getElem?_cons_zero, List.getElem?_cons_succ, Option.isSome_none, List.length_map]
  refine turn_ok (n := 17) (by decide) (by decide) ?_
  refine ⟨by simp only [T_uint32.load, c4], by simp only [T_uint32.load, c3], ?_⟩
  refine turn_ok (n := 19) (by decide) (by decide) ?_
  refine ⟨by simp only [T_uint32.load, c4], by simp only [T_uint32.load, c3], ?_⟩
  simp only [w_xor, w_add, a5, e6, popO_some, bindH_eq, condV_bool, condV_true, condV_false, yV_bool, gopV_tt, gopV_ff, gopV_tf, gopV_ft, pickV_t, pickV_f, pickV_bool, nilS_ptr, add_eq, sub_eq, mul_eq, lss_eq, leq_eq, gtr_eq, geq_eq, not_eq, minI_eq, maxI_eq, extract_0, extract_1, extract_2, eqlI, neqI, makeFunc_eq, decide_true, decide_false, if_true, if_false, Bool.false_eq_true, Bool.not_true, Bool.not_false, reduceIte, List.getElem?_toArray, List.getElem?_cons_zero, List.getElem?_cons_succ, Option.isSome_none, List.length_map]
  refine store_cell T_uint32.und rfl h3 (by simp [hl, zs]; omega) (isw _) T_uint32.info T_uint32.size ?_
  have es : ((wmore b i).map wv ++ zs (48 - i)).toArray.setIfInBounds (i + 16) (wv (nextW (wmore b i) (i + 16))) = ((wmore b (i + 1)).map wv ++ zs (48 - (i + 1))).toArray := by
    rw [show 48 - i = (48 - (i + 1)) + 1 by omega, zs_succ, set_mid (by simp [hl]), wmore]
    simp
  have es' := es
  unfold nextW at es'
  rw [show i + 16 - 15 = i + 1 by omega, show i + 16 - 2 = i + 14 by omega, show i + 16 - 16 = i by omega, show i + 16 - 7 = i + 9 by omega] at es'
  simp only at es'
  rw [es']
  exact hn
theorem words_ok {h : PH} {b : List UInt8} (hb : b.length = 64) {k : Value → PH → Prop} (hk : ∀ h', Ext h h' → k (.agg ((wordsP b).map wv).toArray) h') : CallsH PG id_sha_words #[.string (tx b)] h k := by
  apply sha_words.call
  unfold sha_words
  rw [z64]
  intro r1 hr1
  try simp only [bindH_eq]
  have u1 : Ext h (h.set r1 (.cells (zs 64).toArray T_64_uint32)) := Upd.new hr1
  have a1 : (h.set r1 (.cells (zs 64).toArray T_64_uint32)) r1 = some (.cells (zs 64).toArray T_64_uint32 (0, 0)) := set_same
  generalize h.set r1 (.cells (zs 64).toArray T_64_uint32) = h1 at *
  intro r3 hr3
  try simp only [bindH_eq]
  have u3 : Ext h1 (h1.set r3 (.cells (zs 64).toArray T_64_uint32)) := Upd.new hr3
  have a3 : (h1.set r3 (.cells (zs 64).toArray T_64_uint32)) r3 = some (.cells (zs 64).toArray T_64_uint32 (0, 0)) := set_same
  have hne : r1 ≠ r3 := fun e => by subst e; rw [a1] at hr3; cases hr3
  have n3 : h r3 = none := u1.none hr3
  have b1 := u3.get a1
  generalize h1.set r3 (.cells (zs 64).toArray T_64_uint32) = h2 at *
  have u := u1.trans u3
  refine ⟨fun vs h' => ∃ i, i ≤ 16 ∧ vs = [.string (tx b), .pointer (some ⟨r1, 0, none⟩), .pointer (some ⟨r3, 0, none⟩), .int .i64 ((i : Nat) : Int)] ∧ Ext h h' ∧ h' r1 = some (.cells (zs 64).toArray T_64_uint32 (0, 0)) ∧ h' r3 = some (.cells ((wfront b i).map wv ++ zs (64 - i)).toArray T_64_uint32 (0, 0)), upTo 16 3, ⟨0, by omega, rfl, u, b1, by simpa [wfront] using a3⟩, ?_⟩
  rintro ρ h' ⟨i, hi, hvs, u', b1', b3'⟩
  simp only [List.map_cons, List.map_nil, List.cons.injEq, and_true] at hvs
  obtain ⟨v0, v2, v3, v9⟩ := hvs
  simp only [v0, v2, v3, v9, List.map_cons, List.map_nil]
  by_cases hl : i < 16
  · refine words_b6 hb hl b3' ⟨⟨i + 1, by omega, rfl, u'.fresh (Upd.set (F := [r3]) (by simp)) (Fresh.one n3), by rw [set_other hne]; exact b1', set_same⟩, ?_⟩
    simp only [upTo, List.getElem?_cons_succ, List.getElem?_cons_zero]
    omega
  · have hi' : i = 16 := by omega
    subst hi'
    unfold sha_words_b6
    simp only [show (((16 : Nat) : Int) < 16) = False from eq_false (by decide), popO_some, bindH_eq, condV_bool, condV_true, condV_false, yV_bool, gopV_tt, gopV_ff, gopV_tf, gopV_ft, pickV_t, pickV_f, pickV_bool, nilS_ptr, add_eq, sub_eq, mul_eq, lss_eq, leq_eq, gtr_eq, geq_eq, not_eq, minI_eq, maxI_eq, extract_0, extract_1, extract_2, eqlI, neqI, makeFunc_eq, decide_true, decide_false, if_true, if_false, Bool.false_eq_true, Bool.not_true, Bool.not_false, reduceIte, List.getElem?_toArray, List.getElem?_cons_zero, List.getElem?_cons_succ, Option.isSome_none, List.length_map]
    refine ⟨fun vs h' => ∃ i, i ≤ 48 ∧ vs = [.pointer (some ⟨r1, 0, none⟩), .pointer (some ⟨r3, 0, none⟩), .int .i64 ((i + 16 : Nat) : Int)] ∧ Ext h h' ∧ h' r1 = some (.cells (zs 64).toArray T_64_uint32 (0, 0)) ∧ h' r3 = some (.cells ((wmore b i).map wv ++ zs (48 - i)).toArray T_64_uint32 (0, 0)), upTo 64 2, ⟨0, by omega, rfl, u', b1', b3'⟩, ?_⟩
    rintro ρ2 h2' ⟨i, hi, hvs, u2, c1, c3⟩
    simp only [List.map_cons, List.map_nil, List.cons.injEq, and_true] at hvs
    obtain ⟨v2', v3', v6'⟩ := hvs
    simp only [v2', v3', v6', List.map_cons, List.map_nil]
    by_cases hl : i < 48
    · refine words_b31 hl c3 ⟨⟨i + 1, by omega, rfl, u2.fresh (Upd.set (F := [r3]) (by simp)) (Fresh.one n3), by rw [set_other hne]; exact c1, set_same⟩, ?_⟩
      simp only [upTo, List.getElem?_cons_succ, List.getElem?_cons_zero]
      omega
    · have hi' : i = 48 := by omega
      subst hi'
      have hw : ((wmore b 48).map wv ++ zs (48 - 48)).toArray = ((wordsP b).map wv).toArray := by simp [wordsP, zs]
      rw [hw] at c3
      have hsz : ((wordsP b).map wv).toArray.size = 64 := by rw [List.size_toArray, List.length_map, wordsP_len]
      have hic : ∀ v ∈ ((wordsP b).map wv).toArray.toList, isCell v = true := fun v hv => by
        rw [List.toList_toArray, List.mem_map] at hv
        obtain ⟨w, -, rfl⟩ := hv
        rfl
      generalize ((wordsP b).map wv).toArray = cs at *
      unfold sha_words_b31
      have l3 := T_64_uint32.loadAgg (o := 0) c3 (by omega)
      rw [Array.extract_eq_self_of_le (by omega)] at l3
      simp only [show (((48 + 16 : Nat) : Int) < 64) = False from eq_false (by decide), l3, popO_some, bindH_eq, condV_bool, condV_true, condV_false, yV_bool, gopV_tt, gopV_ff, gopV_tf, gopV_ft, pickV_t, pickV_f, pickV_bool, nilS_ptr, add_eq, sub_eq, mul_eq, lss_eq, leq_eq, gtr_eq, geq_eq, not_eq, minI_eq, maxI_eq, extract_0, extract_1, extract_2, eqlI, neqI, makeFunc_eq, decide_true, decide_false, if_true, if_false, Bool.false_eq_true, Bool.not_true, Bool.not_false, reduceIte, List.getElem?_toArray, List.getElem?_cons_zero, List.getElem?_cons_succ, Option.isSome_none, List.length_map]
      refine store_box c1 T_64_uint32.info (by rw [hsz]; rfl) (by omega) (by rw [hsz]; rfl) hic ?_
      have l1 := T_64_uint32.loadAgg (h := h2'.set r1 (.cells cs T_64_uint32 (0, 0))) (o := 0) set_same (by omega)
      rw [Array.extract_eq_self_of_le (by omega)] at l1
      simp only [l1, popO_some, bindH_eq, condV_bool, condV_true, condV_false, yV_bool, gopV_tt, gopV_ff, gopV_tf, gopV_ft, pickV_t, pickV_f, pickV_bool, nilS_ptr, add_eq, sub_eq, mul_eq, lss_eq, leq_eq, gtr_eq, geq_eq, not_eq, minI_eq, maxI_eq, extract_0, extract_1, extract_2, eqlI, neqI, makeFunc_eq, decide_true, decide_false, if_true, if_false, Bool.false_eq_true, Bool.not_true, Bool.not_false, reduceIte, List.getElem?_toArray, List.getElem?_cons_zero, List.getElem?_cons_succ, Option.isSome_none, List.length_map]
      exact hk _ (u2.fresh (Upd.set (F := [r1]) (by simp)) (Fresh.one hr1))
end Go.Proofs.YtllopddcpkhfjaaDoor
