/- sha: the digest. -/
import Derived.Test.YtllopddcpkhfjaaDoorShaR
set_option linter.unusedSimpArgs false
set_option linter.unusedVariables false
namespace Go.Proofs.YtllopddcpkhfjaaDoor
open Go Bld
set_option maxRecDepth 20000
theorem index8_0 {s : S8} : SemP PG (Instr.index T_8_uint32 (.agg #[wv s.a, wv s.b, wv s.c, wv s.d, wv s.e, wv s.f, wv s.g, wv s.h]) (.int .i64 0)) = some (wv s.a) := by kernel_rfl
theorem index8_1 {s : S8} : SemP PG (Instr.index T_8_uint32 (.agg #[wv s.a, wv s.b, wv s.c, wv s.d, wv s.e, wv s.f, wv s.g, wv s.h]) (.int .i64 1)) = some (wv s.b) := by kernel_rfl
theorem index8_2 {s : S8} : SemP PG (Instr.index T_8_uint32 (.agg #[wv s.a, wv s.b, wv s.c, wv s.d, wv s.e, wv s.f, wv s.g, wv s.h]) (.int .i64 2)) = some (wv s.c) := by kernel_rfl
theorem index8_3 {s : S8} : SemP PG (Instr.index T_8_uint32 (.agg #[wv s.a, wv s.b, wv s.c, wv s.d, wv s.e, wv s.f, wv s.g, wv s.h]) (.int .i64 3)) = some (wv s.d) := by kernel_rfl
theorem index8_4 {s : S8} : SemP PG (Instr.index T_8_uint32 (.agg #[wv s.a, wv s.b, wv s.c, wv s.d, wv s.e, wv s.f, wv s.g, wv s.h]) (.int .i64 4)) = some (wv s.e) := by kernel_rfl
theorem index8_5 {s : S8} : SemP PG (Instr.index T_8_uint32 (.agg #[wv s.a, wv s.b, wv s.c, wv s.d, wv s.e, wv s.f, wv s.g, wv s.h]) (.int .i64 5)) = some (wv s.f) := by kernel_rfl
theorem index8_6 {s : S8} : SemP PG (Instr.index T_8_uint32 (.agg #[wv s.a, wv s.b, wv s.c, wv s.d, wv s.e, wv s.f, wv s.g, wv s.h]) (.int .i64 6)) = some (wv s.g) := by kernel_rfl
theorem index8_7 {s : S8} : SemP PG (Instr.index T_8_uint32 (.agg #[wv s.a, wv s.b, wv s.c, wv s.d, wv s.e, wv s.f, wv s.g, wv s.h]) (.int .i64 7)) = some (wv s.h) := by kernel_rfl
theorem index8 {s : S8} {i : Nat} (hi : i < 8) : SemP PG (Instr.index T_8_uint32 (.agg #[wv s.a, wv s.b, wv s.c, wv s.d, wv s.e, wv s.f, wv s.g, wv s.h]) (.int .i64 (i : Int))) = some (wv (s.l.getD i 0)) := by
  have : i = 0 ∨ i = 1 ∨ i = 2 ∨ i = 3 ∨ i = 4 ∨ i = 5 ∨ i = 6 ∨ i = 7 := by omega
  rcases this with rfl | rfl | rfl | rfl | rfl | rfl | rfl | rfl
  · exact index8_0
  · exact index8_1
  · exact index8_2
  · exact index8_3
  · exact index8_4
  · exact index8_5
  · exact index8_6
  · exact index8_7
def dnTo (slot : Nat) : List Value → PH → Nat := fun vs _ => match vs[slot]? with
  | some (Value.int _ v) => (v + 8).toNat
  | _ => 0
theorem byte32 (x : W) : Value.int .u8 (IntKind.u8.wrap (x.toNat : Int)) = .int .u8 ((UInt8.ofNat x.toNat).toNat : Int) := by
  rw [u8_wrap, UInt8.toNat_ofNat']
  congr 1
theorem cv_w_8 (x : W) : SemP PG (convert T_uint32 T_uint8 (wv x)) = some (.int .u8 ((UInt8.ofNat x.toNat).toNat : Int)) := by
  unfold wv
  rw [cv_32_8, byte32]
theorem wb_len (x : W) : (wb x).length = 4 := rfl
theorem shrj (x : W) {j : Nat} (hj : j < 4) : SemP PG (binOp .shr T_uint32 (wv x) (.int .i64 (24 - 8 * (j : Int)))) = some (wv (x >>> (24 - 8 * j))) := by
  have := w_shr (P := PG) (t := T_uint32) (x := x) (k := .i64) (n := 24 - 8 * j) (by omega)
  rw [← this]
  congr 3
  omega
theorem wb_take (x : W) {j : Nat} (hj : j < 4) : (wb x).take (j + 1) = (wb x).take j ++ [UInt8.ofNat (x >>> (24 - 8 * j)).toNat] := by
  have : j = 0 ∨ j = 1 ∨ j = 2 ∨ j = 3 := by omega
  rcases this with rfl | rfl | rfl | rfl
  · rfl
  · rfl
  · rfl
  · show wb x = [_, _, _] ++ [UInt8.ofNat (x >>> 0).toNat]
    rw [BitVec.ushiftRight_zero]; rfl
theorem dig_take (s : S8) {i : Nat} (hi : i < 8) : (s.l.take (i + 1)).flatMap wb = (s.l.take i).flatMap wb ++ wb (s.l.getD i 0) := by
  have : i = 0 ∨ i = 1 ∨ i = 2 ∨ i = 3 ∨ i = 4 ∨ i = 5 ∨ i = 6 ∨ i = 7 := by omega
  rcases this with rfl | rfl | rfl | rfl | rfl | rfl | rfl | rfl <;> rfl
theorem dig_len (s : S8) {i : Nat} (hi : i ≤ 8) : ((s.l.take i).flatMap wb).length ≤ 32 := by
  have : i = 0 ∨ i = 1 ∨ i = 2 ∨ i = 3 ∨ i = 4 ∨ i = 5 ∨ i = 6 ∨ i = 7 ∨ i = 8 := by omega
  rcases this with rfl | rfl | rfl | rfl | rfl | rfl | rfl | rfl | rfl <;> (simp [S8.l, wb])
theorem digest_ok {h : PH} {a : Nat} {s : S8} {x y : Value} (ha : h a = some (.cells (hcells s x y) T_sha_Hash (0, 0))) {k : Value → PH → Prop} (hk : ∀ h', Ext h h' → k (.string (tx (digestP s))) h') :
    CallsH PG id_sha_state_digest #[.pointer (some ⟨a, 0, none⟩)] h k := by
  apply sha_state_digest.call
  unfold sha_state_digest
  rw [zB]
  intro r hr
  try rw [bindH_eq]
  have u1 : Ext h (h.set r (.cells #[.pointer none, .slice none 0 0] T_strings_Builder)) := Upd.new hr
  have b1 : BAt (h.set r (.cells #[.pointer none, .slice none 0 0] T_strings_Builder)) r [] [r] := BAt.zero set_same
  generalize h.set r (.cells #[.pointer none, .slice none 0 0] T_strings_Builder) = h1 at *
  have ha1 := u1.get ha
  have lA := T_8_uint32.loadAgg (o := 0) ha1 (by simp [hcells])
  have lE : (hcells s x y).extract 0 (0 + 8) = #[wv s.a, wv s.b, wv s.c, wv s.d, wv s.e, wv s.f, wv s.g, wv s.h] := rfl
  rw [lE] at lA
  simp only [T_sha_state.f0, lA, popO_some, bindH_eq, condV_bool, condV_true, condV_false, yV_bool, gopV_tt, gopV_ff, gopV_tf, gopV_ft, pickV_t, pickV_f, pickV_bool, nilS_ptr, add_eq, sub_eq, mul_eq, lss_eq, leq_eq, gtr_eq, geq_eq, not_eq, minI_eq, maxI_eq, extract_0, extract_1, extract_2, eqlI, neqI, makeFunc_eq, decide_true, decide_false, if_true, if_false, Bool.false_eq_true, Bool.not_true, Bool.not_false, reduceIte, List.getElem?_toArray, List.getElem?_cons_zero, List.getElem?_cons_succ, Option.isSome_none, List.length_map]
  refine ⟨fun vs h' => ∃ (i : Nat) (F : List Nat), i ≤ 8 ∧ vs = [.pointer (some ⟨r, 0, none⟩), .agg #[wv s.a, wv s.b, wv s.c, wv s.d, wv s.e, wv s.f, wv s.g, wv s.h], .int .i64 (i : Int)] ∧ BAt h' r ((s.l.take i).flatMap wb) F ∧ Fresh h F ∧ Ext h h', upTo 8 2, ⟨0, [r], by omega, rfl, b1, Fresh.one hr, u1⟩, ?_⟩
  rintro ρ h' ⟨i, F, hi, hvs, B, fF, u⟩
  simp only [List.map_cons, List.map_nil, List.cons.injEq, and_true] at hvs
  obtain ⟨v3, v10, v11⟩ := hvs
  simp only [v3, v10, v11, List.map_cons, List.map_nil]
  unfold sha_state_digest_b7
  by_cases hl : i < 8
  · have e1 : ((i : Int) < 8) = True := eq_true (by omega)
    simp only [e1, index8 hl, popO_some, bindH_eq, condV_bool, condV_true, condV_false, yV_bool, gopV_tt, gopV_ff, gopV_tf, gopV_ft, pickV_t, pickV_f, pickV_bool, nilS_ptr, add_eq, sub_eq, mul_eq, lss_eq, leq_eq, gtr_eq, geq_eq, not_eq, minI_eq, maxI_eq, extract_0, extract_1, extract_2, eqlI, neqI, makeFunc_eq, decide_true, decide_false, if_true, if_false, Bool.false_eq_true, Bool.not_true, Bool.not_false, reduceIte, List.getElem?_toArray, List.getElem?_cons_zero, List.getElem?_cons_succ, Option.isSome_none, List.length_map]
    refine ⟨fun vs h' => ∃ (j : Nat) (F : List Nat), j ≤ 4 ∧ vs = [.pointer (some ⟨r, 0, none⟩), wv (s.l.getD i 0), .int .i64 (24 - 8 * (j : Int)), .agg #[wv s.a, wv s.b, wv s.c, wv s.d, wv s.e, wv s.f, wv s.g, wv s.h], .int .i64 (i : Int)] ∧ BAt h' r ((s.l.take i).flatMap wb ++ (wb (s.l.getD i 0)).take j) F ∧ Fresh h F ∧ Ext h h', dnTo 2, ⟨0, F, by omega, rfl, by simpa using B, fF, u⟩, ?_⟩
    rintro ρ2 h2 ⟨j, F2, hj, hvs, B2, fF2, u2⟩
    simp only [List.map_cons, List.map_nil, List.cons.injEq, and_true] at hvs
    obtain ⟨w3, w5, w6, w10, w11⟩ := hvs
    simp only [w3, w5, w6, w10, w11, List.map_cons, List.map_nil]
    unfold sha_state_digest_b11
    by_cases hj4 : j < 4
    · have e2 : ((0 : Int) ≤ 24 - 8 * (j : Int)) = True := eq_true (by omega)
      have e3 : IntKind.i64.wrap (24 - 8 * (j : Int) - 8) = 24 - 8 * ((j + 1 : Nat) : Int) := by rw [i64_wrap (by omega) (by omega)]; omega
      have hsh := shrj (s.l.getD i 0) hj4
      simp only [e2, hsh, cv_w_8, popO_some, bindH_eq, condV_bool, condV_true, condV_false, yV_bool, gopV_tt, gopV_ff, gopV_tf, gopV_ft, pickV_t, pickV_f, pickV_bool, nilS_ptr, add_eq, sub_eq, mul_eq, lss_eq, leq_eq, gtr_eq, geq_eq, not_eq, minI_eq, maxI_eq, extract_0, extract_1, extract_2, eqlI, neqI, makeFunc_eq, decide_true, decide_false, if_true, if_false, Bool.false_eq_true, Bool.not_true, Bool.not_false, reduceIte, List.getElem?_toArray, List.getElem?_cons_zero, List.getElem?_cons_succ, Option.isSome_none, List.length_map]
      have hlen : ((s.l.take i).flatMap wb ++ (wb (s.l.getD i 0)).take j).length + 1 ≤ 140737488355328 := by
        have h1 := dig_len s hi
        have h2 : ((wb (s.l.getD i 0)).take j).length ≤ 4 := by rw [List.length_take, wb_len]; omega
        rw [List.length_append]
        omega
      refine WriteByte_ok B2 hlen _ ?_
      intro h3 F3 B3 u3 k3
      simp only [e3, popO_some, bindH_eq, condV_bool, condV_true, condV_false, yV_bool, gopV_tt, gopV_ff, gopV_tf, gopV_ft, pickV_t, pickV_f, pickV_bool, nilS_ptr, add_eq, sub_eq, mul_eq, lss_eq, leq_eq, gtr_eq, geq_eq, not_eq, minI_eq, maxI_eq, extract_0, extract_1, extract_2, eqlI, neqI, makeFunc_eq, decide_true, decide_false, if_true, if_false, Bool.false_eq_true, Bool.not_true, Bool.not_false, reduceIte, List.getElem?_toArray, List.getElem?_cons_zero, List.getElem?_cons_succ, Option.isSome_none, List.length_map]
      refine ⟨⟨j + 1, F3, by omega, (by trivial), ?_, fF2.grow u2 k3, u2.fresh u3 fF2⟩, ?_⟩
      · rw [wb_take _ hj4, ← List.append_assoc]; exact B3
      · simp only [dnTo, List.getElem?_cons_succ, List.getElem?_cons_zero]
        omega
    · have hj' : j = 4 := by omega
      subst hj'
      have e2 : ((0 : Int) ≤ 24 - 8 * ((4 : Nat) : Int)) = False := eq_false (by decide)
      have e3 : IntKind.i64.wrap ((i : Int) + 1) = ((i + 1 : Nat) : Int) := by rw [i64_wrap (by omega) (by omega)]; omega
      simp only [e2, e3, popO_some, bindH_eq, condV_bool, condV_true, condV_false, yV_bool, gopV_tt, gopV_ff, gopV_tf, gopV_ft, pickV_t, pickV_f, pickV_bool, nilS_ptr, add_eq, sub_eq, mul_eq, lss_eq, leq_eq, gtr_eq, geq_eq, not_eq, minI_eq, maxI_eq, extract_0, extract_1, extract_2, eqlI, neqI, makeFunc_eq, decide_true, decide_false, if_true, if_false, Bool.false_eq_true, Bool.not_true, Bool.not_false, reduceIte, List.getElem?_toArray, List.getElem?_cons_zero, List.getElem?_cons_succ, Option.isSome_none, List.length_map]
      refine ⟨⟨i + 1, F2, by omega, rfl, ?_, fF2, u2⟩, ?_⟩
      · rw [dig_take s hl]; exact B2
      · simp only [upTo, List.getElem?_cons_succ, List.getElem?_cons_zero]
        omega
  · have hi' : i = 8 := by omega
    subst hi'
    simp only [show (((8 : Nat) : Int) < 8) = False from eq_false (by decide), popO_some, bindH_eq, condV_bool, condV_true, condV_false, yV_bool, gopV_tt, gopV_ff, gopV_tf, gopV_ft, pickV_t, pickV_f, pickV_bool, nilS_ptr, add_eq, sub_eq, mul_eq, lss_eq, leq_eq, gtr_eq, geq_eq, not_eq, minI_eq, maxI_eq, extract_0, extract_1, extract_2, eqlI, neqI, makeFunc_eq, decide_true, decide_false, if_true, if_false, Bool.false_eq_true, Bool.not_true, Bool.not_false, reduceIte, List.getElem?_toArray, List.getElem?_cons_zero, List.getElem?_cons_succ, Option.isSome_none, List.length_map]
    refine String_ok B fun h3 u3 => ?_
    exact hk _ (u.fresh u3 fF)
theorem cv_int_u64 (x : Int) : SemP PG (convert T_int T_uint64 (.int .i64 x)) = some (.int .u64 (IntKind.u64.wrap x)) := by kernel_rfl
theorem cv_u64_8 (x : Int) : SemP PG (convert T_uint64 T_uint8 (.int .u64 x)) = some (.int .u8 (IntKind.u8.wrap x)) := by kernel_rfl
theorem shr64 {n : Nat} {j : Nat} (hj : j < 8) : SemP PG (binOp .shr T_uint64 (.int .u64 (n : Int)) (.int .i64 (56 - 8 * (j : Int)))) = some (.int .u64 ((n / 256 ^ (8 - 1 - j) : Nat) : Int)) := by
  rw [shr_eq (by omega)]
  congr 2
  have e : min ((56 - 8 * (j : Int)).toNat) (IntKind.u64.bits) = 56 - 8 * j := by
    show min ((56 - 8 * (j : Int)).toNat) 64 = _
    omega
  have e2 : (256 : Nat) ^ (8 - 1 - j) = 2 ^ (56 - 8 * j) := by
    have : j = 0 ∨ j = 1 ∨ j = 2 ∨ j = 3 ∨ j = 4 ∨ j = 5 ∨ j = 6 ∨ j = 7 := by omega
    rcases this with rfl | rfl | rfl | rfl | rfl | rfl | rfl | rfl <;> decide
  rw [e, e2, Int.fdiv_eq_ediv_of_nonneg _ (Int.pow_nonneg (by decide)), Int.natCast_ediv, Int.natCast_pow]
  rfl
theorem byte64 (m : Nat) : Value.int .u8 (IntKind.u8.wrap (m : Int)) = .int .u8 ((UInt8.ofNat (m % 256)).toNat : Int) := by
  rw [u8_wrap, UInt8.toNat_ofNat']
  congr 1
  omega
theorem hc_cells {s : S8} {x : ByteArray} {k : IntKind} {n : Int} : ∀ v ∈ (hcells s (.string x) (.int k n)).toList, isCell v = true := by
  intro v hv
  simp only [hcells, List.mem_cons, List.not_mem_nil, or_false] at hv
  rcases hv with rfl | rfl | rfl | rfl | rfl | rfl | rfl | rfl | rfl | rfl <;> rfl
theorem HashSum_ok {h : PH} {a : Nat} {s : S8} {r : List UInt8} {n : Nat} (hK : KAt h) (ha : HAt h a s r n) (hr : r.length < 64) (hn : n ≤ 100000000000) {k : Value → PH → Prop}
    (hk : ∀ h', Ext h h' → k (.string (tx (digestP (absorb s (r ++ padP n)).1))) h') : CallsH PG id_sha_Hash_Sum #[.pointer (some ⟨a, 0, none⟩)] h k := by
  apply sha_Hash_Sum.call
  unfold sha_Hash_Sum
  have lA := T_sha_Hash.loadAgg (o := 0) ha (by simp [hcells])
  have lE : (hcells s (.string (tx r)) (.int .i64 n)).extract 0 (0 + 10) = hcells s (.string (tx r)) (.int .i64 n) := rfl
  rw [lE] at lA
  simp only [lA, popO_some, bindH_eq, condV_bool, condV_true, condV_false, yV_bool, gopV_tt, gopV_ff, gopV_tf, gopV_ft, pickV_t, pickV_f, pickV_bool, nilS_ptr, add_eq, sub_eq, mul_eq, lss_eq, leq_eq, gtr_eq, geq_eq, not_eq, minI_eq, maxI_eq, extract_0, extract_1, extract_2, eqlI, neqI, makeFunc_eq, decide_true, decide_false, if_true, if_false, Bool.false_eq_true, Bool.not_true, Bool.not_false, reduceIte, List.getElem?_toArray, List.getElem?_cons_zero, List.getElem?_cons_succ, Option.isSome_none, List.length_map]
  intro r3 hr3
  try rw [bindH_eq]
  have u1 : Ext h (h.set r3 (.cells (zcells PG T_sha_Hash) T_sha_Hash)) := Upd.new hr3
  have a3 : (h.set r3 (.cells (zcells PG T_sha_Hash) T_sha_Hash)) r3 = some (.cells (zcells PG T_sha_Hash) T_sha_Hash (0, 0)) := set_same
  generalize h.set r3 (.cells (zcells PG T_sha_Hash) T_sha_Hash) = h1 at *
  refine store_box a3 T_sha_Hash.info rfl (by simp [hcells]) (by rw [T_sha_Hash.zc]; rfl) hc_cells ?_
  have u2 : Ext h (h1.set r3 (.cells (hcells s (.string (tx r)) (.int .i64 n)) T_sha_Hash (0, 0))) := u1.fresh (Upd.set (F := [r3]) (by simp)) (Fresh.one hr3)
  have a3' : HAt (h1.set r3 (.cells (hcells s (.string (tx r)) (.int .i64 n)) T_sha_Hash (0, 0))) r3 s r n := set_same
  generalize h1.set r3 (.cells (hcells s (.string (tx r)) (.int .i64 n)) T_sha_Hash (0, 0)) = h2 at *
  rw [zB]
  intro r7 hr7
  try rw [bindH_eq]
  have u3 : Ext h2 (h2.set r7 (.cells #[.pointer none, .slice none 0 0] T_strings_Builder)) := Upd.new hr7
  have b7 : BAt (h2.set r7 (.cells #[.pointer none, .slice none 0 0] T_strings_Builder)) r7 [] [r7] := BAt.zero set_same
  have n7 : h r7 = none := u2.none hr7
  generalize h2.set r7 (.cells #[.pointer none, .slice none 0 0] T_strings_Builder) = h3 at *
  have a3'' : HAt h3 r3 s r n := u3.get a3'
  have u4 := u2.trans u3
  have hF7 : ∀ b ∈ [r7], b ≠ r3 := by
    intro b hb
    simp at hb
    subst hb
    rintro rfl
    rw [a3'] at hr7; cases hr7
  refine ⟨fun vs h' => ∃ (j : Nat) (F : List Nat), j ≤ 8 ∧ vs = [.pointer (some ⟨a, 0, none⟩), .pointer (some ⟨r3, 0, none⟩), .pointer (some ⟨r7, 0, none⟩), .int .i64 (56 - 8 * (j : Int))] ∧ BAt h' r7 ((be (n * 8 % 18446744073709551616) 8).take j) F ∧ Fresh h F ∧ Ext h h' ∧ (∀ b ∈ F, b ≠ r3) ∧ HAt h' r3 s r n, dnTo 3, ⟨0, [r7], by omega, rfl, b7, Fresh.one n7, u4, hF7, a3''⟩, ?_⟩
  rintro ρ h' ⟨j, F, hj, hvs, B, fF, u, hF, ha'⟩
  simp only [List.map_cons, List.map_nil, List.cons.injEq, and_true] at hvs
  obtain ⟨v0, v3, v4, v5⟩ := hvs
  simp only [v0, v3, v4, v5, List.map_cons, List.map_nil]
  unfold sha_Hash_Sum_b10
  have hAt := u.get ha
  have c9 : cellH h' ⟨a, 0 + 9, none⟩ = some (.int .i64 n) := by simp [cellH, hAt, hcells]
  have en : n * 8 % 18446744073709551616 = n * 8 := Nat.mod_eq_of_lt (by omega)
  by_cases hl : j < 8
  · have e1 : ((0 : Int) ≤ 56 - 8 * (j : Int)) = True := eq_true (by omega)
    have e2 : IntKind.u64.wrap (n : Int) = (n : Int) := u64_wrap (by omega) (by omega)
    have e3 : IntKind.u64.wrap ((n : Int) * 8) = ((n * 8 : Nat) : Int) := by rw [u64_wrap (by omega) (by omega)]; omega
    have e4 : IntKind.i64.wrap (56 - 8 * (j : Int) - 8) = 56 - 8 * ((j + 1 : Nat) : Int) := by rw [i64_wrap (by omega) (by omega)]; omega
    simp only [e1, T_sha_Hash.f2, T_int.load, c9, cv_int_u64, e2, e3, shr64 hl, cv_u64_8, byte64, popO_some, bindH_eq, condV_bool, condV_true, condV_false, yV_bool, gopV_tt, gopV_ff, gopV_tf, gopV_ft, pickV_t, pickV_f, pickV_bool, nilS_ptr, add_eq, sub_eq, mul_eq, lss_eq, leq_eq, gtr_eq, geq_eq, not_eq, minI_eq, maxI_eq, extract_0, extract_1, extract_2, eqlI, neqI, makeFunc_eq, decide_true, decide_false, if_true, if_false, Bool.false_eq_true, Bool.not_true, Bool.not_false, reduceIte, List.getElem?_toArray, List.getElem?_cons_zero, List.getElem?_cons_succ, Option.isSome_none, List.length_map]
    refine WriteByte_ok B (by rw [List.length_take, be_len]; omega) _ ?_
    intro h5 F5 B5 u5 k5
    simp only [e4, popO_some, bindH_eq, condV_bool, condV_true, condV_false, yV_bool, gopV_tt, gopV_ff, gopV_tf, gopV_ft, pickV_t, pickV_f, pickV_bool, nilS_ptr, add_eq, sub_eq, mul_eq, lss_eq, leq_eq, gtr_eq, geq_eq, not_eq, minI_eq, maxI_eq, extract_0, extract_1, extract_2, eqlI, neqI, makeFunc_eq, decide_true, decide_false, if_true, if_false, Bool.false_eq_true, Bool.not_true, Bool.not_false, reduceIte, List.getElem?_toArray, List.getElem?_cons_zero, List.getElem?_cons_succ, Option.isSome_none, List.length_map]
    refine ⟨⟨j + 1, F5, by omega, (by trivial), ?_, fF.grow u k5, u.fresh u5 fF, fun b hb => ?_, u5.get ha' (fun hm => hF _ hm rfl)⟩, ?_⟩
    · rw [be_take_succ hl, en]
      rw [en] at B5
      exact B5
    · rcases k5 b hb with h1 | h1
      · exact hF b h1
      · rintro rfl
        unfold HAt at ha'
        rw [ha'] at h1; cases h1
    · simp only [dnTo, List.getElem?_cons_succ, List.getElem?_cons_zero]
      omega
  · have hj' : j = 8 := by omega
    subst hj'
    have e1 : ((0 : Int) ≤ 56 - 8 * ((8 : Nat) : Int)) = False := eq_false (by decide)
    have e2 : ((n : Int)).tmod 64 = ((n % 64 : Nat) : Int) := by rw [Int.tmod_eq_emod_of_nonneg (by omega)]; omega
    have e3 : IntKind.i64.wrap (119 - ((n % 64 : Nat) : Int)) = ((119 - n % 64 : Nat) : Int) := by rw [i64_wrap (by omega) (by omega)]; omega
    have e4 : (((119 - n % 64 : Nat) : Int)).tmod 64 = (((119 - n % 64) % 64 : Nat) : Int) := by rw [Int.tmod_eq_emod_of_nonneg (by omega)]; omega
    have d1 : ∀ (t : TypeId) (x : Int), SemP PG (binOp .rem t (.int .i64 x) (.int .i64 64)) = some (.int .i64 (x.tmod 64)) := fun t x => rem_eq (by decide)
    simp only [e1, T_sha_Hash.f2, T_int.load, c9, d1, e2, e3, e4, popO_some, bindH_eq, condV_bool, condV_true, condV_false, yV_bool, gopV_tt, gopV_ff, gopV_tf, gopV_ft, pickV_t, pickV_f, pickV_bool, nilS_ptr, add_eq, sub_eq, mul_eq, lss_eq, leq_eq, gtr_eq, geq_eq, not_eq, minI_eq, maxI_eq, extract_0, extract_1, extract_2, eqlI, neqI, makeFunc_eq, decide_true, decide_false, if_true, if_false, Bool.false_eq_true, Bool.not_true, Bool.not_false, reduceIte, List.getElem?_toArray, List.getElem?_cons_zero, List.getElem?_cons_succ, Option.isSome_none, List.length_map]
    refine Repeat_ok (Nat.mod_lt _ (by decide)) fun h5 u5 => ?_
    have ex : ∀ (t : TypeId), SemP PG (binOp .add t (.string { data := #[128] }) (.string (tx (List.replicate ((119 - n % 64) % 64) 0)))) = some (.string (tx ([128] ++ List.replicate ((119 - n % 64) % 64) 0))) := fun t => add_tx (a := [128]) (by simp; omega)
    simp only [ex, popO_some, bindH_eq, condV_bool, condV_true, condV_false, yV_bool, gopV_tt, gopV_ff, gopV_tf, gopV_ft, pickV_t, pickV_f, pickV_bool, nilS_ptr, add_eq, sub_eq, mul_eq, lss_eq, leq_eq, gtr_eq, geq_eq, not_eq, minI_eq, maxI_eq, extract_0, extract_1, extract_2, eqlI, neqI, makeFunc_eq, decide_true, decide_false, if_true, if_false, Bool.false_eq_true, Bool.not_true, Bool.not_false, reduceIte, List.getElem?_toArray, List.getElem?_cons_zero, List.getElem?_cons_succ, Option.isSome_none, List.length_map]
    have B5 := B.ext u5
    refine String_ok B5 fun h6 u6 => ?_
    have et : (be (n * 8 % 18446744073709551616) 8).take 8 = be (n * 8 % 18446744073709551616) 8 := List.take_of_length_le (Nat.le_of_eq (be_len _ _))
    rw [et]
    have ey : ∀ (t : TypeId), SemP PG (binOp .add t (.string (tx ([128] ++ List.replicate ((119 - n % 64) % 64) 0))) (.string (tx (be (n * 8 % 18446744073709551616) 8)))) = some (.string (tx (padP n))) := fun t => by
      rw [add_tx (by simp [be_len]; omega)]
      rfl
    simp only [ey, popO_some, bindH_eq, condV_bool, condV_true, condV_false, yV_bool, gopV_tt, gopV_ff, gopV_tf, gopV_ft, pickV_t, pickV_f, pickV_bool, nilS_ptr, add_eq, sub_eq, mul_eq, lss_eq, leq_eq, gtr_eq, geq_eq, not_eq, minI_eq, maxI_eq, extract_0, extract_1, extract_2, eqlI, neqI, makeFunc_eq, decide_true, decide_false, if_true, if_false, Bool.false_eq_true, Bool.not_true, Bool.not_false, reduceIte, List.getElem?_toArray, List.getElem?_cons_zero, List.getElem?_cons_succ, Option.isSome_none, List.length_map]
    have a6 : HAt h6 r3 s r n := u6.get (u5.get ha') (fun hm => hF _ hm rfl)
    have u7 : Ext h h6 := (u.trans u5).fresh u6 fF
    have hpl : (padP n).length ≤ 80 := by
      simp only [padP, List.length_cons, List.length_append, List.length_replicate, be_len]
      have := Nat.mod_lt (119 - n % 64) (show 64 > 0 by decide)
      omega
    refine Write_ok (hK.ext u7) a6 (by omega) (by omega) fun h8 u8 a8 => ?_
    simp only [T_sha_Hash.f0, popO_some, bindH_eq, condV_bool, condV_true, condV_false, yV_bool, gopV_tt, gopV_ff, gopV_tf, gopV_ft, pickV_t, pickV_f, pickV_bool, nilS_ptr, add_eq, sub_eq, mul_eq, lss_eq, leq_eq, gtr_eq, geq_eq, not_eq, minI_eq, maxI_eq, extract_0, extract_1, extract_2, eqlI, neqI, makeFunc_eq, decide_true, decide_false, if_true, if_false, Bool.false_eq_true, Bool.not_true, Bool.not_false, reduceIte, List.getElem?_toArray, List.getElem?_cons_zero, List.getElem?_cons_succ, Option.isSome_none, List.length_map]
    refine digest_ok a8 fun h9 u9 => ?_
    exact hk _ ((u7.fresh u8 (Fresh.one hr3)).trans u9)
end Go.Proofs.YtllopddcpkhfjaaDoor
