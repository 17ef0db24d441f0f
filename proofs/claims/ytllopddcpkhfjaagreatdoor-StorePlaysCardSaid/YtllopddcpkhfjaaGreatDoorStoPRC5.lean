/- store: the card of StorePlays: whatever is set, deleted and committed, each call is told as the document says, and what is known behind it too. -/
import Derived.Test.YtllopddcpkhfjaaGreatDoorStoPRC4
/- the document's sha: the constants, a block. -/
set_option linter.unusedSimpArgs false
set_option linter.unusedVariables false
namespace Go.Proofs.YtllopddcpkhfjaaGreatDoor
open Go
set_option maxRecDepth 20000
def wrow (w : W) : List Value := [wv w]
theorem wrow.rows (l : List W) : Rows 1 (l.map wrow) := fun r hr => by
  obtain ⟨p, -, rfl⟩ := List.mem_map.1 hr; rfl
theorem wrow.isCell (l : List W) : ∀ r ∈ l.map wrow, ∀ u ∈ r, isCell u = true := fun r hr u hu => by
  obtain ⟨y, hyy, rfl⟩ := List.mem_map.1 hr
  simp only [wrow, List.mem_singleton] at hu
  subst hu
  rfl
abbrev WOwn (h : PH) (v : Value) (l : List W) (F : List Nat) : Prop := OwnR h T_uint32 1 v (l.map wrow) F
abbrev WS (h : PH) (v : Value) (l : List W) : Prop := SlR h 1 v (l.map wrow)
theorem w_at {h : PH} {v : Value} {l : List W} (S : WS h v l) {i : Nat} {x : W} (hx : l[i]? = some x) : ∃ a, SemP PG (Instr.indexAt T_sl_uint32 v (.int .i64 (i : Int))) = some (.pointer (some a)) ∧ SemE PG h (Instr.loadAt T_uint32 (.pointer (some a))) = some (wv x) :=
  S.loadCell (t := T_sl_uint32) (k := .i64) (j := (i : Int)) T_sl_uint32.und T_uint32.info T_uint32.size T_uint32.und rfl (by omega) (by rw [Int.toNat_natCast, List.getElem?_map, hx]; rfl)
theorem w_len {h : PH} {v : Value} {l : List W} (S : WS h v l) : SemP PG (Builtin.len_ #[T_sl_uint32] T_int #[v]) = some (.int .i64 l.length) := by
  have := S.len (t' := T_int) T_sl_uint32.und
  rw [List.length_map] at this
  exact this
theorem app_w {h : PH} {v x : Value} {l ys : List W} {F : List Nat} (O : WOwn h v l F) (S : WS h x ys) (hl : l.length + ys.length ≤ 1000000) {t : TypeId} {k : Value → PH → Prop}
    (hk : ∀ v' h' F', WOwn h' v' (l ++ ys) F' → Upd F h h' → (∀ b ∈ F', b ∈ F ∨ h b = none) → k v' h') : SemH PG (Builtin.append_ #[T_sl_uint32, T_sl_uint32] t #[v, x]) h k := by
  refine append_own T_sl_uint32.und T_sl_uint32.und T_uint32.info T_uint32.size T_uint32.bytes T_uint32.zero rfl (by decide) O S (wrow.isCell ys) (by simp; omega) ?_
  intro v' h' F' O' u' k' _
  rw [← List.map_append] at O'
  exact hk v' h' F' O' u' k'
theorem lit1w (a : W) : SemA PG (Instr.buildSlice T_sl_uint32 1 #[(0, wv a)]) = some (.cells #[wv a] T_uint32, fun r => pure (.slice (some ⟨r, 0, none⟩) 1 1)) := by kernel_rfl
theorem Constants_ok {h : PH} {k : Value → PH → Prop} (hk : ∀ h' v w F G, WOwn h' v kT F → WOwn h' w H8 G → Fresh h F → Fresh h G → Ext h h' → k (.tuple #[v, w]) h') : CallsH PG id_carrackref01_Constants #[] h k := by
  apply carrackref01_Constants.call
  unfold carrackref01_Constants
  refine primes_ok fun h1 p Fp Op u1 => ?_
  refine ⟨fun vs h' => ∃ (i : Nat) (v w : Value) (F G : List Nat), i ≤ 64 ∧ vs = [v, w, p, .int .i64 (i : Int)] ∧ WOwn h' v (kT.take i) F ∧ WOwn h' w (H8.take i) G ∧ (∀ x ∈ F, x ∉ G) ∧ Fresh h1 F ∧ Fresh h1 G ∧ Ext h1 h', upTo 64 3, ⟨0, _, _, [], [], by omega, rfl, OwnR.nil, OwnR.nil, by simp, (fun b hb => by cases hb), (fun b hb => by cases hb), Upd.refl⟩, ?_⟩
  rintro ρ h' ⟨i, v, w, F, G, hi, hvs, OF, OG, hFG, fF, fG, u⟩
  simp only [List.map_cons, List.map_nil, List.cons.injEq, and_true] at hvs
  obtain ⟨v2, v3, v4, v5⟩ := hvs
  simp only [v2, v3, v4, v5, List.map_cons, List.map_nil]
  unfold carrackref01_Constants_b4
  by_cases hl : i < 64
  · have g1 : ((i : Int) < 64) = True := eq_true (by omega)
    have gi : IntKind.i64.wrap ((i : Int) + 1) = ((i + 1 : Nat) : Int) := by rw [i64_wrap (by omega) (by omega)]; omega
    have hpi : P64[i]? = some (P64.getD i 0) := by
      rw [List.getD_eq_getElem?_getD, List.getElem?_eq_getElem (show i < P64.length by show i < 64; omega)]; rfl
    have hki : kT.take (i + 1) = kT.take i ++ [kT.getD i 0] := by
      rw [List.take_succ_eq_append_getElem (show i < kT.length by rw [kT_len]; omega), List.getD_eq_getElem?_getD, List.getElem?_eq_getElem (show i < kT.length by rw [kT_len]; omega)]; rfl
    have hrt := List.all_eq_true.1 rt_all i (List.mem_range.2 hl)
    simp only [Bool.and_eq_true, decide_eq_true_eq] at hrt
    obtain ⟨⟨⟨⟨r1, r2⟩, r3⟩, r4⟩, r5⟩ := hrt
    obtain ⟨pa, p1, p2⟩ := u_at (Op.slR.ext u) hpi
    simp only [g1, p1, p2, popO_some, bindH_eq, condV_bool, condV_true, condV_false, yV_bool, gopV_tt, gopV_ff, gopV_tf, gopV_ft, pickV_t, pickV_f, pickV_bool, nilS_ptr, add_eq, sub_eq, mul_eq, lss_eq, leq_eq, gtr_eq, geq_eq, not_eq, minI_eq, maxI_eq, extract_0, extract_1, extract_2, eqlI, neqI, makeFunc_eq, decide_true, decide_false, if_true, if_false, Bool.false_eq_true, Bool.not_true, Bool.not_false, reduceIte, List.getElem?_toArray, List.getElem?_cons_zero, List.getElem?_cons_succ, Option.isSome_none, List.length_map]
    refine root_ok _ true r5 r4 _ r1 r2 (kT.getD i 0) r3 fun h2 u2 => ?_
    have e2 := u.trans u2
    simp only [lit1w, popO_some, bindH_eq, condV_bool, condV_true, condV_false, yV_bool, gopV_tt, gopV_ff, gopV_tf, gopV_ft, pickV_t, pickV_f, pickV_bool, nilS_ptr, add_eq, sub_eq, mul_eq, lss_eq, leq_eq, gtr_eq, geq_eq, not_eq, minI_eq, maxI_eq, extract_0, extract_1, extract_2, eqlI, neqI, makeFunc_eq, decide_true, decide_false, if_true, if_false, Bool.false_eq_true, Bool.not_true, Bool.not_false, reduceIte, List.getElem?_toArray, List.getElem?_cons_zero, List.getElem?_cons_succ, Option.isSome_none, List.length_map]
    intro r hr
    refine popO_pure ?_
    try rw [bindH_eq]
    have u3 : Ext h2 (h2.set r (.cells #[wv (kT.getD i 0)] T_uint32)) := Upd.new hr
    have S3 : WS (h2.set r (.cells #[wv (kT.getD i 0)] T_uint32)) (.slice (some ⟨r, 0, none⟩) 1 1) [kT.getD i 0] := (OwnR.lit (n := 1) (wrow.rows [kT.getD i 0]) set_same (by simp) (by decide) rfl).slR
    generalize h2.set r (.cells #[wv (kT.getD i 0)] T_uint32) = h3 at *
    have e3 := e2.trans u3
    refine app_w ((OF.ext u2).ext u3) S3 (by simp; omega) fun v' h4 F' O4 u4 k4 => ?_
    rw [← hki] at O4
    have e4 := e3.fresh u4 fF
    have f4 := fF.grow e3 k4
    have OG4 := ((OG.ext u2).ext u3).upd u4 (fun b hb hm => hFG b hm hb)
    have hFG4 : ∀ x ∈ F', x ∉ G := fun x hx hm => by
      rcases k4 x hx with h0 | h0
      · exact hFG x h0 hm
      · exact ((OG.ext u2).ext u3).known x hm h0
    by_cases h8 : i < 8
    · have g2 : ((i : Int) < 8) = True := eq_true (by omega)
      have hhi : H8.take (i + 1) = H8.take i ++ [H8.getD i 0] := by
        rw [List.take_succ_eq_append_getElem (show i < H8.length by show i < 8; omega), List.getD_eq_getElem?_getD, List.getElem?_eq_getElem (show i < H8.length by show i < 8; omega)]; rfl
      have hrs := List.all_eq_true.1 rs_all i (List.mem_range.2 h8)
      simp only [Bool.and_eq_true, decide_eq_true_eq] at hrs
      obtain ⟨⟨⟨s1, s2⟩, s3⟩, s4⟩ := hrs
      obtain ⟨pb, q1, q2⟩ := u_at (Op.slR.ext e4) hpi
      rw [p1] at q1
      obtain rfl : pa = pb := by simpa using q1
      simp only [g2, p1, q2, popO_some, bindH_eq, condV_bool, condV_true, condV_false, yV_bool, gopV_tt, gopV_ff, gopV_tf, gopV_ft, pickV_t, pickV_f, pickV_bool, nilS_ptr, add_eq, sub_eq, mul_eq, lss_eq, leq_eq, gtr_eq, geq_eq, not_eq, minI_eq, maxI_eq, extract_0, extract_1, extract_2, eqlI, neqI, makeFunc_eq, decide_true, decide_false, if_true, if_false, Bool.false_eq_true, Bool.not_true, Bool.not_false, reduceIte, List.getElem?_toArray, List.getElem?_cons_zero, List.getElem?_cons_succ, Option.isSome_none, List.length_map]
      refine root_ok _ false r5 s4 _ s1 s2 (H8.getD i 0) s3 fun h5 u5 => ?_
      have e5 := e4.trans u5
      simp only [lit1w, popO_some, bindH_eq, condV_bool, condV_true, condV_false, yV_bool, gopV_tt, gopV_ff, gopV_tf, gopV_ft, pickV_t, pickV_f, pickV_bool, nilS_ptr, add_eq, sub_eq, mul_eq, lss_eq, leq_eq, gtr_eq, geq_eq, not_eq, minI_eq, maxI_eq, extract_0, extract_1, extract_2, eqlI, neqI, makeFunc_eq, decide_true, decide_false, if_true, if_false, Bool.false_eq_true, Bool.not_true, Bool.not_false, reduceIte, List.getElem?_toArray, List.getElem?_cons_zero, List.getElem?_cons_succ, Option.isSome_none, List.length_map]
      intro r' hr'
      refine popO_pure ?_
      try rw [bindH_eq]
      have u6 : Ext h5 (h5.set r' (.cells #[wv (H8.getD i 0)] T_uint32)) := Upd.new hr'
      have S6 : WS (h5.set r' (.cells #[wv (H8.getD i 0)] T_uint32)) (.slice (some ⟨r', 0, none⟩) 1 1) [H8.getD i 0] := (OwnR.lit (n := 1) (wrow.rows [H8.getD i 0]) set_same (by simp) (by decide) rfl).slR
      generalize h5.set r' (.cells #[wv (H8.getD i 0)] T_uint32) = h6 at *
      have e6 := e5.trans u6
      refine app_w ((OG4.ext u5).ext u6) S6 (by simp; omega) fun w' h7 G' O7 u7 k7 => ?_
      rw [← hhi] at O7
      unfold carrackref01_Constants_k27 carrackref01_Constants_k28
      simp only [gi, popO_some, bindH_eq, condV_bool, condV_true, condV_false, yV_bool, gopV_tt, gopV_ff, gopV_tf, gopV_ft, pickV_t, pickV_f, pickV_bool, nilS_ptr, add_eq, sub_eq, mul_eq, lss_eq, leq_eq, gtr_eq, geq_eq, not_eq, minI_eq, maxI_eq, extract_0, extract_1, extract_2, eqlI, neqI, makeFunc_eq, decide_true, decide_false, if_true, if_false, Bool.false_eq_true, Bool.not_true, Bool.not_false, reduceIte, List.getElem?_toArray, List.getElem?_cons_zero, List.getElem?_cons_succ, Option.isSome_none, List.length_map]
      have O4' := ((O4.ext u5).ext u6).upd u7 hFG4
      have hFG7 : ∀ x ∈ F', x ∉ G' := fun x hx hm => by
        rcases k7 x hm with h0 | h0
        · exact hFG4 x hx h0
        · exact ((O4.ext u5).ext u6).known x hx h0
      refine ⟨⟨i + 1, v', w', F', G', by omega, rfl, O4', O7, hFG7, f4, fG.grow e6 k7, e6.fresh u7 fG⟩, ?_⟩
      simp only [upTo, List.getElem?_cons_succ, List.getElem?_cons_zero]
      omega
    · have g2 : ((i : Int) < 8) = False := eq_false (by omega)
      have hhi : H8.take (i + 1) = H8.take i := by
        rw [List.take_of_length_le (show H8.length ≤ i + 1 by show 8 ≤ i + 1; omega), List.take_of_length_le (show H8.length ≤ i by show 8 ≤ i; omega)]
      simp only [g2, popO_some, bindH_eq, condV_bool, condV_true, condV_false, yV_bool, gopV_tt, gopV_ff, gopV_tf, gopV_ft, pickV_t, pickV_f, pickV_bool, nilS_ptr, add_eq, sub_eq, mul_eq, lss_eq, leq_eq, gtr_eq, geq_eq, not_eq, minI_eq, maxI_eq, extract_0, extract_1, extract_2, eqlI, neqI, makeFunc_eq, decide_true, decide_false, if_true, if_false, Bool.false_eq_true, Bool.not_true, Bool.not_false, reduceIte, List.getElem?_toArray, List.getElem?_cons_zero, List.getElem?_cons_succ, Option.isSome_none, List.length_map]
      unfold carrackref01_Constants_k27 carrackref01_Constants_k28
      simp only [gi, popO_some, bindH_eq, condV_bool, condV_true, condV_false, yV_bool, gopV_tt, gopV_ff, gopV_tf, gopV_ft, pickV_t, pickV_f, pickV_bool, nilS_ptr, add_eq, sub_eq, mul_eq, lss_eq, leq_eq, gtr_eq, geq_eq, not_eq, minI_eq, maxI_eq, extract_0, extract_1, extract_2, eqlI, neqI, makeFunc_eq, decide_true, decide_false, if_true, if_false, Bool.false_eq_true, Bool.not_true, Bool.not_false, reduceIte, List.getElem?_toArray, List.getElem?_cons_zero, List.getElem?_cons_succ, Option.isSome_none, List.length_map]
      refine ⟨⟨i + 1, v', w, F', G, by omega, rfl, O4, by rw [hhi]; exact OG4, hFG4, f4, fG, e4⟩, ?_⟩
      simp only [upTo, List.getElem?_cons_succ, List.getElem?_cons_zero]
      omega
  · have g1 : ((i : Int) < 64) = False := eq_false (by omega)
    rw [List.take_of_length_le (by rw [kT_len]; omega)] at OF
    rw [List.take_of_length_le (show H8.length ≤ i by show 8 ≤ i; omega)] at OG
    simp only [g1, popO_some, bindH_eq, condV_bool, condV_true, condV_false, yV_bool, gopV_tt, gopV_ff, gopV_tf, gopV_ft, pickV_t, pickV_f, pickV_bool, nilS_ptr, add_eq, sub_eq, mul_eq, lss_eq, leq_eq, gtr_eq, geq_eq, not_eq, minI_eq, maxI_eq, extract_0, extract_1, extract_2, eqlI, neqI, makeFunc_eq, decide_true, decide_false, if_true, if_false, Bool.false_eq_true, Bool.not_true, Bool.not_false, reduceIte, List.getElem?_toArray, List.getElem?_cons_zero, List.getElem?_cons_succ, Option.isSome_none, List.length_map]
    exact hk h' v w F G OF OG (fF.of u1) (fG.of u1) (u1.trans u)
/-! ### a block -/
theorem right_ok {h : PH} {x : W} {n : Nat} (h1 : 1 ≤ n) (h2 : n ≤ 31) {k : Value → PH → Prop} (hk : k (wv (tn x n)) h) : CallsH PG id_carrackref01_right #[wv x, .int .i64 n] h k := by
  apply carrackref01_right.call
  unfold carrackref01_right
  have e1 : IntKind.i64.wrap (32 - (n : Int)) = ((32 - n : Nat) : Int) := by rw [i64_wrap (by omega) (by omega)]; omega
  simp only [w_shr (show n ≤ 32 by omega), e1, w_shl (show 32 - n ≤ 32 by omega), w_or, popO_some, bindH_eq, condV_bool, condV_true, condV_false, yV_bool, gopV_tt, gopV_ff, gopV_tf, gopV_ft, pickV_t, pickV_f, pickV_bool, nilS_ptr, add_eq, sub_eq, mul_eq, lss_eq, leq_eq, gtr_eq, geq_eq, not_eq, minI_eq, maxI_eq, extract_0, extract_1, extract_2, eqlI, neqI, makeFunc_eq, decide_true, decide_false, if_true, if_false, Bool.false_eq_true, Bool.not_true, Bool.not_false, reduceIte, List.getElem?_toArray, List.getElem?_cons_zero, List.getElem?_cons_succ, Option.isSome_none, List.length_map]
  rw [BitVec.or_comm]
  exact hk
theorem w_mul {t : TypeId} {x : W} {c : Nat} : SemP PG (binOp .mul t (wv x) (.int .u32 (c : Int))) = some (wv (x * BitVec.ofNat 32 c)) := by
  unfold wv
  rw [mul_eq, u32_wrap, BitVec.toNat_mul, BitVec.toNat_ofNat, ← Int.natCast_mul]
  congr 2
  have : x.toNat * (c % 2 ^ 32) % 2 ^ 32 = x.toNat * c % 4294967296 := by rw [Nat.mul_mod_mod]
  rw [this]
  rfl
theorem w_mulc {t : TypeId} {x : W} {c : Nat} {i : Int} {w : W} (hi : i = (c : Int)) (hw : w = BitVec.ofNat 32 c) : SemP PG (binOp .mul t (wv x) (.int .u32 i)) = some (wv (x * w)) := by
  subst hi hw
  exact w_mul
theorem w_mul24 {t : TypeId} {x : W} : SemP PG (binOp .mul t (wv x) (.int .u32 16777216)) = some (wv (x * 16777216)) := w_mulc (c := 16777216) (by decide) (by decide)
theorem w_mul16 {t : TypeId} {x : W} : SemP PG (binOp .mul t (wv x) (.int .u32 65536)) = some (wv (x * 65536)) := w_mulc (c := 65536) (by decide) (by decide)
theorem w_mul8 {t : TypeId} {x : W} : SemP PG (binOp .mul t (wv x) (.int .u32 256)) = some (wv (x * 256)) := w_mulc (c := 256) (by decide) (by decide)
theorem w_inv {t : TypeId} {x : W} : SemP PG (binOp .sub t (.int .u32 4294967295) (wv x)) = some (wv (~~~x)) := by
  unfold wv
  rw [sub_eq, u32_wrap, BitVec.toNat_not]
  have := x.isLt
  congr 2
  omega
theorem or_lo (i a b : Nat) (h : b < 2 ^ i) : a * 2 ^ i ||| b = a * 2 ^ i + b := by
  have := Nat.shiftLeft_add_eq_or_of_lt (i := i) (b := b) h a
  rw [Nat.shiftLeft_eq] at this
  exact this.symm
theorem or24 (a b : Nat) (h : b < 16777216) : a * 16777216 ||| b = a * 16777216 + b := or_lo 24 a b h
theorem or16 (a b : Nat) (h : b < 65536) : a * 65536 ||| b = a * 65536 + b := or_lo 16 a b h
theorem or8 (a b : Nat) (h : b < 256) : a * 256 ||| b = a * 256 + b := or_lo 8 a b h
theorem or_all {a b c d : Nat} (hb : b < 256) (hc : c < 256) (hd : d < 256) : ((a * 16777216 ||| b * 65536) ||| c * 256) ||| d = a * 16777216 + b * 65536 + c * 256 + d := by
  rw [or24 a (b * 65536) (by omega)]
  have e1 : a * 16777216 + b * 65536 = (a * 256 + b) * 65536 := by omega
  rw [e1, or16 _ (c * 256) (by omega)]
  have e2 : (a * 256 + b) * 65536 + c * 256 = (a * 65536 + b * 256 + c) * 256 := by simp only [Nat.add_mul, Nat.mul_assoc, Nat.reduceMul]
  rw [e2, or8 _ d hd]
theorem w4_nat {a b c d : Nat} (ha : a < 256) (hb : b < 256) (hc : c < 256) (hd : d < 256) :
    (((a % 4294967296 * 16777216 % 4294967296 + b % 4294967296 * 65536 % 4294967296) % 4294967296 + c % 4294967296 * 256 % 4294967296) % 4294967296 + d % 4294967296) % 4294967296
      = a % 4294967296 * 16777216 % 4294967296 ||| b % 4294967296 * 65536 % 4294967296 ||| c % 4294967296 * 256 % 4294967296 ||| d % 4294967296 := by
  have lt : ∀ {x : Nat}, x < 256 → x % 4294967296 = x := fun h => Nat.mod_eq_of_lt (by omega)
  rw [lt ha, lt hb, lt hc, lt hd, Nat.mod_eq_of_lt (a := a * 16777216) (by omega), Nat.mod_eq_of_lt (a := b * 65536) (by omega), Nat.mod_eq_of_lt (a := c * 256) (by omega), or_all hb hc hd]
  rw [Nat.mod_eq_of_lt (a := a * 16777216 + b * 65536) (by omega), Nat.mod_eq_of_lt (a := a * 16777216 + b * 65536 + c * 256) (by omega)]
  exact Nat.mod_eq_of_lt (by omega)
theorem w24 : (16777216 : W).toNat = 16777216 := by simp
theorem w16 : (65536 : W).toNat = 65536 := by simp
theorem w256 : (256 : W).toNat = 256 := by simp
theorem m24 (a : Nat) : (BitVec.ofNat 32 a * 16777216).toNat = a % 4294967296 * 16777216 % 4294967296 := by rw [BitVec.toNat_mul, BitVec.toNat_ofNat, w24]
theorem m16 (a : Nat) : (BitVec.ofNat 32 a * 65536).toNat = a % 4294967296 * 65536 % 4294967296 := by rw [BitVec.toNat_mul, BitVec.toNat_ofNat, w16]
theorem m8 (a : Nat) : (BitVec.ofNat 32 a * 256).toNat = a % 4294967296 * 256 % 4294967296 := by rw [BitVec.toNat_mul, BitVec.toNat_ofNat, w256]
theorem s24 (a : Nat) : (BitVec.ofNat 32 a <<< 24).toNat = a % 4294967296 * 16777216 % 4294967296 := by rw [BitVec.toNat_shiftLeft, BitVec.toNat_ofNat, Nat.shiftLeft_eq]
theorem s16 (a : Nat) : (BitVec.ofNat 32 a <<< 16).toNat = a % 4294967296 * 65536 % 4294967296 := by rw [BitVec.toNat_shiftLeft, BitVec.toNat_ofNat, Nat.shiftLeft_eq]
theorem s8 (a : Nat) : (BitVec.ofNat 32 a <<< 8).toNat = a % 4294967296 * 256 % 4294967296 := by rw [BitVec.toNat_shiftLeft, BitVec.toNat_ofNat, Nat.shiftLeft_eq]
theorem badd (x y : W) : (x + y).toNat = (x.toNat + y.toNat) % 4294967296 := BitVec.toNat_add x y
theorem w4_sum (a b c d : UInt8) : ((BitVec.ofNat 32 a.toNat * 16777216 + BitVec.ofNat 32 b.toNat * 65536) + BitVec.ofNat 32 c.toNat * 256) + BitVec.ofNat 32 d.toNat = w4 a b c d := by
  apply BitVec.eq_of_toNat_eq
  unfold w4
  rw [BitVec.toNat_or, BitVec.toNat_or, BitVec.toNat_or, badd, badd, badd, s24, s16, s8, m24, m16, m8, BitVec.toNat_ofNat]
  exact w4_nat a.toNat_lt b.toNat_lt c.toNat_lt d.toNat_lt
end Go.Proofs.YtllopddcpkhfjaaGreatDoor
/- the document's sha: a block is mixed in. -/
set_option linter.unusedSimpArgs false
set_option linter.unusedVariables false
namespace Go.Proofs.YtllopddcpkhfjaaGreatDoor
open Go
set_option maxRecDepth 20000
def pad64 (l : List W) : List W := l ++ List.replicate (64 - l.length) 0
theorem pad64_get {l : List W} {i : Nat} (hi : i < l.length) : (pad64 l)[i]? = some (l.getD i 0) := by
  unfold pad64
  rw [List.getElem?_append_left hi, List.getD_eq_getElem?_getD, List.getElem?_eq_getElem hi]; rfl
theorem pad64_len {l : List W} (hl : l.length ≤ 64) : (pad64 l).length = 64 := by simp [pad64]; omega
theorem pad64_full {l : List W} (hl : l.length = 64) : pad64 l = l := by simp [pad64, hl]
theorem pad64_put {l : List W} (hl : l.length < 64) (x : W) : ((pad64 l).map wrow).take l.length ++ [[wv x]] ++ ((pad64 l).map wrow).drop (l.length + 1) = (pad64 (l ++ [x])).map wrow := by
  unfold pad64
  rw [show 64 - l.length = (64 - (l.length + 1)) + 1 by omega, List.replicate_succ]
  simp only [List.map_append, List.map_cons, List.length_append, List.length_singleton]
  rw [List.take_append_of_le_length (by simp), List.take_of_length_le (by simp)]
  have e : l.length + 1 = (l.map wrow).length + 1 := by simp
  rw [e, ← List.drop_drop]
  simp [wrow]
theorem w_put {h : PH} {v : Value} {l : List W} {F : List Nat} (O : WOwn h v (pad64 l) F) (hl : l.length < 64) (x : W) : ∃ a, SemP PG (Instr.indexAt T_sl_uint32 v (.int .i64 (l.length : Int))) = some (.pointer (some a)) ∧
    ∀ K : Value → PH → Prop, (∀ h', WOwn h' v (pad64 (l ++ [x])) F → Upd F h h' → K undef h') → SemH PG (storeS T_uint32 (.pointer (some a)) (wv x)) h K := by
  obtain ⟨a, q1, q2⟩ := OwnR.storeCell O (t := T_sl_uint32) (k := .i64) (j := l.length) T_sl_uint32.und T_uint32.info T_uint32.size T_uint32.und rfl (by rw [List.length_map, pad64_len (by omega)]; exact hl) (x := wv x) rfl
  refine ⟨a, q1, fun K hK => q2 K fun h' O' u => hK h' ?_ u⟩
  rw [pad64_put hl] at O'
  exact O'
theorem rb6 {b : List UInt8} (hb : b.length = 64) {i : Nat} (hi : i < 16) {h : PH} {R : Value → PH → Prop} {n5 : List Value → PH → Prop} {kv v w : Value} {F : List Nat} (O : WOwn h w (pad64 (wfront b i)) F)
    (hn : ∀ h', WOwn h' w (pad64 (wfront b (i + 1))) F → Upd F h h' → n5 [.string (tx b), kv, v, w, .int .i64 ((i + 1 : Nat) : Int)] h') :
    carrackref01_block_b6 R n5 (.string (tx b)) kv v w (.int .i64 (i : Int)) h := by
  unfold carrackref01_block_b6
  have e1 : ((i : Int) < 16) = True := eq_true (by omega)
  have e2 : IntKind.i64.wrap (4 * (i : Int)) = ((4 * i : Nat) : Int) := by rw [i64_wrap (by omega) (by omega)]; omega
  have e31 : IntKind.i64.wrap (((4 * i : Nat) : Int) + 1) = ((4 * i + 1 : Nat) : Int) := by rw [i64_wrap (by omega) (by omega)]; omega
  have e32 : IntKind.i64.wrap (((4 * i : Nat) : Int) + 2) = ((4 * i + 2 : Nat) : Int) := by rw [i64_wrap (by omega) (by omega)]; omega
  have e33 : IntKind.i64.wrap (((4 * i : Nat) : Int) + 3) = ((4 * i + 3 : Nat) : Int) := by rw [i64_wrap (by omega) (by omega)]; omega
  have e4 : IntKind.i64.wrap ((i : Int) + 1) = ((i + 1 : Nat) : Int) := by rw [i64_wrap (by omega) (by omega)]; omega
  have ix : ∀ j, j < 64 → b[j]? = some (b.getD j 0) := fun j hj => by
    rw [List.getD_eq_getElem?_getD, List.getElem?_eq_getElem (by omega)]; rfl
  have i0 : SemP PG (Instr.index T_string (.string (tx b)) (.int .i64 ((4 * i : Nat) : Int))) = _ := index_tx (j := 4 * i) T_string.und (ix _ (by omega))
  have i1 : SemP PG (Instr.index T_string (.string (tx b)) (.int .i64 ((4 * i + 1 : Nat) : Int))) = _ := index_tx (j := 4 * i + 1) T_string.und (ix _ (by omega))
  have i2 : SemP PG (Instr.index T_string (.string (tx b)) (.int .i64 ((4 * i + 2 : Nat) : Int))) = _ := index_tx (j := 4 * i + 2) T_string.und (ix _ (by omega))
  have i3 : SemP PG (Instr.index T_string (.string (tx b)) (.int .i64 ((4 * i + 3 : Nat) : Int))) = _ := index_tx (j := 4 * i + 3) T_string.und (ix _ (by omega))
  have hl : (wfront b i).length = i := wfront_len b i
  obtain ⟨a, q1, q2⟩ := w_put O (by omega) (wat b i)
  rw [hl] at q1
  have hw : wat b i = w4 (b.getD (4 * i) 0) (b.getD (4 * i + 1) 0) (b.getD (4 * i + 2) 0) (b.getD (4 * i + 3) 0) := rfl
  rw [hw, ← w4_sum] at q2
  simp only [e1, e2, e31, e32, e33, e4, i0, i1, i2, i3, cv_8_32, w8, w_mul24, w_mul16, w_mul8, w_add, q1, popO_some, bindH_eq, condV_bool, condV_true, condV_false, yV_bool, gopV_tt, gopV_ff, gopV_tf, gopV_ft, pickV_t, pickV_f, pickV_bool, nilS_ptr, add_eq, sub_eq, mul_eq, lss_eq, leq_eq, gtr_eq, geq_eq, not_eq, minI_eq, maxI_eq, extract_0, extract_1, extract_2, eqlI, neqI, makeFunc_eq, decide_true, decide_false, if_true, if_false, Bool.false_eq_true, Bool.not_true, Bool.not_false, reduceIte, List.getElem?_toArray, List.getElem?_cons_zero, List.getElem?_cons_succ, Option.isSome_none, List.length_map]
  refine q2 _ fun h' O' u => hn h' ?_ u
  rw [w4_sum, ← hw, ← wfront_succ] at O'
  exact O'
theorem rb34 {b : List UInt8} {i : Nat} (hi : i < 48) {h : PH} {R : Value → PH → Prop} {n5 : List Value → PH → Prop} {kv v w : Value} {F : List Nat} (O : WOwn h w (pad64 (wmore b i)) F)
    (hn : ∀ h', WOwn h' w (pad64 (wmore b (i + 1))) F → Upd F h h' → n5 [kv, v, w, .int .i64 ((i + 1 + 16 : Nat) : Int)] h') :
    carrackref01_block_b34 R n5 kv v w (.int .i64 ((i + 16 : Nat) : Int)) h := by
  unfold carrackref01_block_b34
  have hl := wmore_len b i
  have S := O.slR
  have e1 : (((i + 16 : Nat) : Int) < 64) = True := eq_true (by omega)
  have e2 : IntKind.i64.wrap (((i + 16 : Nat) : Int) - 15) = ((i + 1 : Nat) : Int) := by rw [i64_wrap (by omega) (by omega)]; omega
  have e3 : IntKind.i64.wrap (((i + 16 : Nat) : Int) - 2) = ((i + 14 : Nat) : Int) := by rw [i64_wrap (by omega) (by omega)]; omega
  have e4 : IntKind.i64.wrap (((i + 16 : Nat) : Int) - 16) = ((i : Nat) : Int) := by rw [i64_wrap (by omega) (by omega)]; omega
  have e5 : IntKind.i64.wrap (((i + 16 : Nat) : Int) - 7) = ((i + 9 : Nat) : Int) := by rw [i64_wrap (by omega) (by omega)]; omega
  have e6 : IntKind.i64.wrap (((i + 16 : Nat) : Int) + 1) = ((i + 1 + 16 : Nat) : Int) := by rw [i64_wrap (by omega) (by omega)]; omega
  obtain ⟨a1, p1, c1⟩ := w_at S (pad64_get (l := wmore b i) (i := i + 1) (by omega))
  obtain ⟨a2, p2, c2⟩ := w_at S (pad64_get (l := wmore b i) (i := i + 14) (by omega))
  obtain ⟨a3, p3, c3⟩ := w_at S (pad64_get (l := wmore b i) (i := i) (by omega))
  obtain ⟨a4, p4, c4⟩ := w_at S (pad64_get (l := wmore b i) (i := i + 9) (by omega))
  simp only [e1, e2, p1, c1, sr3, popO_some, bindH_eq, condV_bool, condV_true, condV_false, yV_bool, gopV_tt, gopV_ff, gopV_tf, gopV_ft, pickV_t, pickV_f, pickV_bool, nilS_ptr, add_eq, sub_eq, mul_eq, lss_eq, leq_eq, gtr_eq, geq_eq, not_eq, minI_eq, maxI_eq, extract_0, extract_1, extract_2, eqlI, neqI, makeFunc_eq, decide_true, decide_false, if_true, if_false, Bool.false_eq_true, Bool.not_true, Bool.not_false, reduceIte, List.getElem?_toArray, List.getElem?_cons_zero, List.getElem?_cons_succ, Option.isSome_none, List.length_map]
  refine right_ok (n := 7) (by decide) (by decide) ?_
  refine ⟨c1, c1, ?_⟩
  refine right_ok (n := 18) (by decide) (by decide) ?_
  refine ⟨c1, ?_⟩
  simp only [w_xor, e3, p2, c2, sr10, popO_some, bindH_eq, condV_bool, condV_true, condV_false, yV_bool, gopV_tt, gopV_ff, gopV_tf, gopV_ft, pickV_t, pickV_f, pickV_bool, nilS_ptr, add_eq, sub_eq, mul_eq, lss_eq, leq_eq, gtr_eq, geq_eq, not_eq, minI_eq, maxI_eq, extract_0, extract_1, extract_2, eqlI, neqI, makeFunc_eq, decide_true, decide_false, if_true, if_false, Bool.false_eq_true, Bool.not_true, Bool.not_false, reduceIte, List.getElem?_toArray, List.getElem?_cons_zero, List.getElem?_cons_succ, Option.isSome_none, List.length_map]
  refine right_ok (n := 17) (by decide) (by decide) ?_
  refine ⟨c2, c2, ?_⟩
  refine right_ok (n := 19) (by decide) (by decide) ?_
  refine ⟨c2, ?_⟩
  obtain ⟨a, q1, q2⟩ := w_put O (by omega) (nextW (wmore b i) (i + 16))
  rw [hl] at q1
  simp only [w_xor, w_add, e4, e5, p3, c3, p4, c4, q1, e6, popO_some, bindH_eq, condV_bool, condV_true, condV_false, yV_bool, gopV_tt, gopV_ff, gopV_tf, gopV_ft, pickV_t, pickV_f, pickV_bool, nilS_ptr, add_eq, sub_eq, mul_eq, lss_eq, leq_eq, gtr_eq, geq_eq, not_eq, minI_eq, maxI_eq, extract_0, extract_1, extract_2, eqlI, neqI, makeFunc_eq, decide_true, decide_false, if_true, if_false, Bool.false_eq_true, Bool.not_true, Bool.not_false, reduceIte, List.getElem?_toArray, List.getElem?_cons_zero, List.getElem?_cons_succ, Option.isSome_none, List.length_map]
  have hx : ((tn ((wmore b i).getD (i + 14) 0) 17 ^^^ tn ((wmore b i).getD (i + 14) 0) 19) ^^^ ((wmore b i).getD (i + 14) 0 >>> 10)) + (wmore b i).getD (i + 9) 0 + ((tn ((wmore b i).getD (i + 1) 0) 7 ^^^ tn ((wmore b i).getD (i + 1) 0) 18) ^^^ ((wmore b i).getD (i + 1) 0 >>> 3)) + (wmore b i).getD i 0 = nextW (wmore b i) (i + 16) := by
    unfold nextW
    rw [show i + 16 - 15 = i + 1 by omega, show i + 16 - 2 = i + 14 by omega, show i + 16 - 16 = i by omega, show i + 16 - 7 = i + 9 by omega]
    simp only
    ac_rfl
  rw [hx]
  exact q2 _ fun h' O' u => hn h' O' u
theorem S8.l_get (s : S8) {i : Nat} (hi : i < 8) : s.l[i]? = Option.some (s.l.getD i 0) := by
  rw [List.getD_eq_getElem?_getD, List.getElem?_eq_getElem (show i < s.l.length from hi)]; rfl
theorem lit8w (a b c d e f g x : W) : SemA PG (Instr.buildSlice T_sl_uint32 8 #[(0, wv a), (1, wv b), (2, wv c), (3, wv d), (4, wv e), (5, wv f), (6, wv g), (7, wv x)]) = some (.cells #[wv a, wv b, wv c, wv d, wv e, wv f, wv g, wv x] T_uint32, fun r => pure (.slice (some ⟨r, 0, none⟩) 8 8)) := by kernel_rfl
theorem rb88 {ws : List W} (hws : ws.length = 64) {s : S8} {i : Nat} (hi : i < 64) {h : PH} {R : Value → PH → Prop} {n : List Value → PH → Prop} {kv v w x : Value} (SK : WS h kv kT) (SW : WS h w ws) (SX : WS h x s.l)
    (hn : ∀ x' h', WS h' x' (rnd s (kT.getD i 0) (ws.getD i 0)).l → Ext h h' → n [kv, v, w, x', .int .i64 ((i + 1 : Nat) : Int)] h') :
    carrackref01_block_b88 R n kv v w x (.int .i64 (i : Int)) h := by
  unfold carrackref01_block_b88
  have e1 : ((i : Int) < 64) = True := eq_true (by omega)
  have e4 : IntKind.i64.wrap ((i : Int) + 1) = ((i + 1 : Nat) : Int) := by rw [i64_wrap (by omega) (by omega)]; omega
  obtain ⟨a0, p0, c0⟩ := w_at SX (s.l_get (i := 0) (by decide))
  obtain ⟨a1, p1, c1⟩ := w_at SX (s.l_get (i := 1) (by decide))
  obtain ⟨a2, p2, c2⟩ := w_at SX (s.l_get (i := 2) (by decide))
  obtain ⟨a3, p3, c3⟩ := w_at SX (s.l_get (i := 3) (by decide))
  obtain ⟨a4, p4, c4⟩ := w_at SX (s.l_get (i := 4) (by decide))
  obtain ⟨a5, p5, c5⟩ := w_at SX (s.l_get (i := 5) (by decide))
  obtain ⟨a6, p6, c6⟩ := w_at SX (s.l_get (i := 6) (by decide))
  obtain ⟨a7, p7, c7⟩ := w_at SX (s.l_get (i := 7) (by decide))
  have z0 : s.l.getD 0 0 = s.a := rfl
  have z1 : s.l.getD 1 0 = s.b := rfl
  have z2 : s.l.getD 2 0 = s.c := rfl
  have z3 : s.l.getD 3 0 = s.d := rfl
  have z4 : s.l.getD 4 0 = s.e := rfl
  have z5 : s.l.getD 5 0 = s.f := rfl
  have z6 : s.l.getD 6 0 = s.g := rfl
  have z7 : s.l.getD 7 0 = s.h := rfl
  rw [z0] at c0
  rw [z1] at c1
  rw [z2] at c2
  rw [z3] at c3
  rw [z4] at c4
  rw [z5] at c5
  rw [z6] at c6
  rw [z7] at c7
  simp only [show ((0 : Nat) : Int) = 0 from rfl, show ((1 : Nat) : Int) = 1 from rfl, show ((2 : Nat) : Int) = 2 from rfl, show ((3 : Nat) : Int) = 3 from rfl, show ((4 : Nat) : Int) = 4 from rfl, show ((5 : Nat) : Int) = 5 from rfl, show ((6 : Nat) : Int) = 6 from rfl, show ((7 : Nat) : Int) = 7 from rfl] at p0 p1 p2 p3 p4 p5 p6 p7
  have hk : kT[i]? = some (kT.getD i 0) := by
    rw [List.getD_eq_getElem?_getD, List.getElem?_eq_getElem (by rw [kT_len]; exact hi)]; rfl
  have hw : ws[i]? = some (ws.getD i 0) := by
    rw [List.getD_eq_getElem?_getD, List.getElem?_eq_getElem (by rw [hws]; exact hi)]; rfl
  obtain ⟨ak, pk, ck⟩ := w_at SK hk
  obtain ⟨aw, pw, cw⟩ := w_at SW hw
  simp only [e1, p0, p1, p2, p4, p5, p6, p7, c0, c1, c2, c4, c5, c6, c7, pk, ck, pw, cw, w_and, w_inv, w_xor, popO_some, bindH_eq, condV_bool, condV_true, condV_false, yV_bool, gopV_tt, gopV_ff, gopV_tf, gopV_ft, pickV_t, pickV_f, pickV_bool, nilS_ptr, add_eq, sub_eq, mul_eq, lss_eq, leq_eq, gtr_eq, geq_eq, not_eq, minI_eq, maxI_eq, extract_0, extract_1, extract_2, eqlI, neqI, makeFunc_eq, decide_true, decide_false, if_true, if_false, Bool.false_eq_true, Bool.not_true, Bool.not_false, reduceIte, List.getElem?_toArray, List.getElem?_cons_zero, List.getElem?_cons_succ, Option.isSome_none, List.length_map]
  refine right_ok (n := 6) (by decide) (by decide) ?_
  refine ⟨cw, ck, c7, ?_⟩
  refine right_ok (n := 11) (by decide) (by decide) ?_
  refine ⟨cw, ck, c7, ?_⟩
  simp only [w_xor, popO_some, bindH_eq, condV_bool, condV_true, condV_false, yV_bool, gopV_tt, gopV_ff, gopV_tf, gopV_ft, pickV_t, pickV_f, pickV_bool, nilS_ptr, add_eq, sub_eq, mul_eq, lss_eq, leq_eq, gtr_eq, geq_eq, not_eq, minI_eq, maxI_eq, extract_0, extract_1, extract_2, eqlI, neqI, makeFunc_eq, decide_true, decide_false, if_true, if_false, Bool.false_eq_true, Bool.not_true, Bool.not_false, reduceIte, List.getElem?_toArray, List.getElem?_cons_zero, List.getElem?_cons_succ, Option.isSome_none, List.length_map]
  refine right_ok (n := 25) (by decide) (by decide) ?_
  refine ⟨cw, ck, c7, ?_⟩
  simp only [w_xor, w_add, popO_some, bindH_eq, condV_bool, condV_true, condV_false, yV_bool, gopV_tt, gopV_ff, gopV_tf, gopV_ft, pickV_t, pickV_f, pickV_bool, nilS_ptr, add_eq, sub_eq, mul_eq, lss_eq, leq_eq, gtr_eq, geq_eq, not_eq, minI_eq, maxI_eq, extract_0, extract_1, extract_2, eqlI, neqI, makeFunc_eq, decide_true, decide_false, if_true, if_false, Bool.false_eq_true, Bool.not_true, Bool.not_false, reduceIte, List.getElem?_toArray, List.getElem?_cons_zero, List.getElem?_cons_succ, Option.isSome_none, List.length_map]
  refine right_ok (n := 2) (by decide) (by decide) ?_
  refine right_ok (n := 13) (by decide) (by decide) ?_
  simp only [w_xor, popO_some, bindH_eq, condV_bool, condV_true, condV_false, yV_bool, gopV_tt, gopV_ff, gopV_tf, gopV_ft, pickV_t, pickV_f, pickV_bool, nilS_ptr, add_eq, sub_eq, mul_eq, lss_eq, leq_eq, gtr_eq, geq_eq, not_eq, minI_eq, maxI_eq, extract_0, extract_1, extract_2, eqlI, neqI, makeFunc_eq, decide_true, decide_false, if_true, if_false, Bool.false_eq_true, Bool.not_true, Bool.not_false, reduceIte, List.getElem?_toArray, List.getElem?_cons_zero, List.getElem?_cons_succ, Option.isSome_none, List.length_map]
  refine right_ok (n := 22) (by decide) (by decide) ?_
  simp only [w_xor, w_and, w_add, p3, c3, lit8w, e4, popO_some, bindH_eq, condV_bool, condV_true, condV_false, yV_bool, gopV_tt, gopV_ff, gopV_tf, gopV_ft, pickV_t, pickV_f, pickV_bool, nilS_ptr, add_eq, sub_eq, mul_eq, lss_eq, leq_eq, gtr_eq, geq_eq, not_eq, minI_eq, maxI_eq, extract_0, extract_1, extract_2, eqlI, neqI, makeFunc_eq, decide_true, decide_false, if_true, if_false, Bool.false_eq_true, Bool.not_true, Bool.not_false, reduceIte, List.getElem?_toArray, List.getElem?_cons_zero, List.getElem?_cons_succ, Option.isSome_none, List.length_map]
  intro r hr
  refine popO_pure ?_
  try rw [bindH_eq]
  refine hn _ _ ?_ (Upd.new hr)
  exact (OwnR.lit (n := 8) (wrow.rows (rnd s (kT.getD i 0) (ws.getD i 0)).l) set_same (by rfl) (by decide) rfl).slR
theorem add_get (s t : S8) {i : Nat} (hi : i < 8) : (s.add t).l.take (i + 1) = (s.add t).l.take i ++ [s.l.getD i 0 + t.l.getD i 0] := by
  have : i = 0 ∨ i = 1 ∨ i = 2 ∨ i = 3 ∨ i = 4 ∨ i = 5 ∨ i = 6 ∨ i = 7 := by omega
  rcases this with rfl | rfl | rfl | rfl | rfl | rfl | rfl | rfl <;> rfl
theorem block_ok {h : PH} {b : List UInt8} (hb : b.length = 64) {s : S8} {kv v : Value} (SK : WS h kv kT) (SV : WS h v s.l) {k : Value → PH → Prop} (hk : ∀ h' w, WS h' w (mixP s b).l → Ext h h' → k w h') :
    CallsH PG id_carrackref01_block #[.string (tx b), kv, v] h k := by
  apply carrackref01_block.call
  unfold carrackref01_block
  obtain ⟨zs', hm, hz⟩ := makeSlice_eq (P := PG) (n := 64) T_sl_uint32.und T_uint32.info T_uint32.size T_uint32.bytes T_uint32.zero rfl (by decide) (by omega) (by omega)
  simp only [show ((64 : Nat) : Int) = 64 from rfl] at hm
  simp only [hm, popO_some, bindH_eq, condV_bool, condV_true, condV_false, yV_bool, gopV_tt, gopV_ff, gopV_tf, gopV_ft, pickV_t, pickV_f, pickV_bool, nilS_ptr, add_eq, sub_eq, mul_eq, lss_eq, leq_eq, gtr_eq, geq_eq, not_eq, minI_eq, maxI_eq, extract_0, extract_1, extract_2, eqlI, neqI, makeFunc_eq, decide_true, decide_false, if_true, if_false, Bool.false_eq_true, Bool.not_true, Bool.not_false, reduceIte, List.getElem?_toArray, List.getElem?_cons_zero, List.getElem?_cons_succ, Option.isSome_none, List.length_map]
  intro r hr
  refine popO_pure ?_
  try rw [bindH_eq]
  have u1 : Ext h (h.set r (.cells zs' T_uint32 (0, 0))) := Upd.new hr
  have O1 : WOwn (h.set r (.cells zs' T_uint32 (0, 0))) (.slice (some ⟨r, 0, none⟩) 64 64) (pad64 (wfront b 0)) [r] := OwnR.lit (n := 64) (wrow.rows _) set_same (by rw [List.length_map, pad64_len (by simp [wfront_len])]) (by decide) (by
    rw [hz]; rfl)
  generalize h.set r (.cells zs' T_uint32 (0, 0)) = h1 at *
  have fr := Fresh.one hr
  refine ⟨fun vs h' => ∃ i : Nat, i ≤ 16 ∧ vs = [.string (tx b), kv, v, .slice (some ⟨r, 0, none⟩) 64 64, .int .i64 (i : Int)] ∧ WOwn h' (.slice (some ⟨r, 0, none⟩) 64 64) (pad64 (wfront b i)) [r] ∧ Ext h h', upTo 16 4, ⟨0, by omega, rfl, O1, u1⟩, ?_⟩
  rintro ρ h' ⟨i, hi, hvs, O, u⟩
  simp only [List.map_cons, List.map_nil, List.cons.injEq, and_true] at hvs
  obtain ⟨v0, v1, v2, v7, v8⟩ := hvs
  simp only [v0, v1, v2, v7, v8, List.map_cons, List.map_nil]
  by_cases hl : i < 16
  · refine rb6 hb hl O fun h2 O2 u2 => ⟨⟨i + 1, by omega, rfl, O2, u.fresh u2 fr⟩, ?_⟩
    simp only [upTo, List.getElem?_cons_succ, List.getElem?_cons_zero]
    omega
  obtain rfl : i = 16 := by omega
  unfold carrackref01_block_b6
  simp only [show (((16 : Nat) : Int) < 16) = False from eq_false (by decide), popO_some, bindH_eq, condV_bool, condV_true, condV_false, yV_bool, gopV_tt, gopV_ff, gopV_tf, gopV_ft, pickV_t, pickV_f, pickV_bool, nilS_ptr, add_eq, sub_eq, mul_eq, lss_eq, leq_eq, gtr_eq, geq_eq, not_eq, minI_eq, maxI_eq, extract_0, extract_1, extract_2, eqlI, neqI, makeFunc_eq, decide_true, decide_false, if_true, if_false, Bool.false_eq_true, Bool.not_true, Bool.not_false, reduceIte, List.getElem?_toArray, List.getElem?_cons_zero, List.getElem?_cons_succ, Option.isSome_none, List.length_map]
  refine ⟨fun vs h2 => ∃ i : Nat, i ≤ 48 ∧ vs = [kv, v, .slice (some ⟨r, 0, none⟩) 64 64, .int .i64 ((i + 16 : Nat) : Int)] ∧ WOwn h2 (.slice (some ⟨r, 0, none⟩) 64 64) (pad64 (wmore b i)) [r] ∧ Ext h h2, upTo 64 3, ⟨0, by omega, rfl, O, u⟩, ?_⟩
  rintro ρ2 h2 ⟨i, hi, hvs, O2, u2⟩
  simp only [List.map_cons, List.map_nil, List.cons.injEq, and_true] at hvs
  obtain ⟨w1, w2, w7, w9⟩ := hvs
  simp only [w1, w2, w7, w9, List.map_cons, List.map_nil]
  by_cases hl : i < 48
  · refine rb34 hl O2 fun h3 O3 u3 => ⟨⟨i + 1, by omega, rfl, O3, u2.fresh u3 fr⟩, ?_⟩
    simp only [upTo, List.getElem?_cons_succ, List.getElem?_cons_zero]
    omega
  obtain rfl : i = 48 := by omega
  have hws : (wmore b 48).length = 64 := wordsP_len b
  rw [pad64_full hws] at O2
  unfold carrackref01_block_b34
  have b0 : SemA PG (Instr.buildSlice T_sl_uint32 0 #[]) = some (.cells #[] T_uint32, fun r => pure (.slice (some ⟨r, 0, none⟩) 0 0)) := by kernel_rfl
  simp only [show (((48 + 16 : Nat) : Int) < 64) = False from eq_false (by decide), b0, popO_some, bindH_eq, condV_bool, condV_true, condV_false, yV_bool, gopV_tt, gopV_ff, gopV_tf, gopV_ft, pickV_t, pickV_f, pickV_bool, nilS_ptr, add_eq, sub_eq, mul_eq, lss_eq, leq_eq, gtr_eq, geq_eq, not_eq, minI_eq, maxI_eq, extract_0, extract_1, extract_2, eqlI, neqI, makeFunc_eq, decide_true, decide_false, if_true, if_false, Bool.false_eq_true, Bool.not_true, Bool.not_false, reduceIte, List.getElem?_toArray, List.getElem?_cons_zero, List.getElem?_cons_succ, Option.isSome_none, List.length_map]
  intro r3 hr3
  refine popO_pure ?_
  try rw [bindH_eq]
  have u3 : Ext h2 (h2.set r3 (.cells #[] T_uint32)) := Upd.new hr3
  have O3 : WOwn (h2.set r3 (.cells #[] T_uint32)) (.slice (some ⟨r3, 0, none⟩) 0 0) [] [r3] := OwnR.lit (n := 0) (wrow.rows []) set_same (by simp) (by decide) rfl
  generalize h2.set r3 (.cells #[] T_uint32) = h3 at *
  have e3 := u2.trans u3
  refine app_w O3 (SV.ext e3) (by simp [S8.l]) fun x h4 F4 O4 u4 k4 => ?_
  rw [List.nil_append] at O4
  have fr3 : Fresh h [r3] := Fresh.one (u2.none hr3)
  have e4 := e3.fresh u4 fr3
  have SW : WS h4 (.slice (some ⟨r, 0, none⟩) 64 64) (wmore b 48) := ((O2.ext u3).upd u4 (fun y hy hm => by
    simp only [List.mem_singleton] at hy hm
    subst hy
    exact (O2.known y (by simp)) (by rw [hm]; exact hr3))).slR
  refine ⟨fun vs h5 => ∃ (i : Nat) (x : Value), i ≤ 64 ∧ vs = [kv, v, .slice (some ⟨r, 0, none⟩) 64 64, x, .int .i64 (i : Int)] ∧ WS h5 x (rounds (wmore b 48) s i).l ∧ Ext h4 h5, upTo 64 4, ⟨0, _, by omega, rfl, O4.slR, Upd.refl⟩, ?_⟩
  rintro ρ3 h5 ⟨i, x5, hi, hvs, S5, u5⟩
  simp only [List.map_cons, List.map_nil, List.cons.injEq, and_true] at hvs
  obtain ⟨w1, w2, w7, w12, w13⟩ := hvs
  simp only [w1, w2, w7, w12, w13, List.map_cons, List.map_nil]
  have e5 := e4.trans u5
  by_cases hl : i < 64
  · refine rb88 hws hl (SK.ext e5) (SW.ext u5) S5 fun x' h6 S6 u6 => ⟨⟨i + 1, x', by omega, rfl, S6, u5.trans u6⟩, ?_⟩
    simp only [upTo, List.getElem?_cons_succ, List.getElem?_cons_zero]
    omega
  obtain rfl : i = 64 := by omega
  unfold carrackref01_block_b88
  simp only [show (((64 : Nat) : Int) < 64) = False from eq_false (by decide), popO_some, bindH_eq, condV_bool, condV_true, condV_false, yV_bool, gopV_tt, gopV_ff, gopV_tf, gopV_ft, pickV_t, pickV_f, pickV_bool, nilS_ptr, add_eq, sub_eq, mul_eq, lss_eq, leq_eq, gtr_eq, geq_eq, not_eq, minI_eq, maxI_eq, extract_0, extract_1, extract_2, eqlI, neqI, makeFunc_eq, decide_true, decide_false, if_true, if_false, Bool.false_eq_true, Bool.not_true, Bool.not_false, reduceIte, List.getElem?_toArray, List.getElem?_cons_zero, List.getElem?_cons_succ, Option.isSome_none, List.length_map]
  have hmix : (s.add (rounds (wmore b 48) s 64)) = mixP s b := rfl
  generalize rounds (wmore b 48) s 64 = q at *
  refine ⟨fun vs h6 => ∃ (i : Nat) (z : Value) (F : List Nat), i ≤ 8 ∧ vs = [v, x5, z, .int .i64 (i : Int)] ∧ WOwn h6 z ((s.add q).l.take i) F ∧ Fresh h5 F ∧ Ext h5 h6, upTo 8 3, ⟨0, _, [], by omega, rfl, OwnR.nil, (fun b hb => by cases hb), Upd.refl⟩, ?_⟩
  rintro ρ4 h6 ⟨i, z, F6, hi, hvs, O6, f6, u6⟩
  simp only [List.map_cons, List.map_nil, List.cons.injEq, and_true] at hvs
  obtain ⟨w2, w12, w22, w23⟩ := hvs
  simp only [w2, w12, w22, w23, List.map_cons, List.map_nil]
  unfold carrackref01_block_b148
  by_cases hl : i < 8
  · have g1 : ((i : Int) < 8) = True := eq_true (by omega)
    have gi : IntKind.i64.wrap ((i : Int) + 1) = ((i + 1 : Nat) : Int) := by rw [i64_wrap (by omega) (by omega)]; omega
    obtain ⟨a1, p1, c1⟩ := w_at ((SV.ext e5).ext u6) (s.l_get hl)
    obtain ⟨a2, p2, c2⟩ := w_at (S5.ext u6) (q.l_get hl)
    simp only [g1, gi, p1, c1, p2, c2, w_add, lit1w, popO_some, bindH_eq, condV_bool, condV_true, condV_false, yV_bool, gopV_tt, gopV_ff, gopV_tf, gopV_ft, pickV_t, pickV_f, pickV_bool, nilS_ptr, add_eq, sub_eq, mul_eq, lss_eq, leq_eq, gtr_eq, geq_eq, not_eq, minI_eq, maxI_eq, extract_0, extract_1, extract_2, eqlI, neqI, makeFunc_eq, decide_true, decide_false, if_true, if_false, Bool.false_eq_true, Bool.not_true, Bool.not_false, reduceIte, List.getElem?_toArray, List.getElem?_cons_zero, List.getElem?_cons_succ, Option.isSome_none, List.length_map]
    intro r7 hr7
    refine popO_pure ?_
    try rw [bindH_eq]
    have u7 : Ext h6 (h6.set r7 (.cells #[wv (s.l.getD i 0 + q.l.getD i 0)] T_uint32)) := Upd.new hr7
    have S7 : WS (h6.set r7 (.cells #[wv (s.l.getD i 0 + q.l.getD i 0)] T_uint32)) (.slice (some ⟨r7, 0, none⟩) 1 1) [s.l.getD i 0 + q.l.getD i 0] := (OwnR.lit (n := 1) (wrow.rows [_]) set_same (by simp) (by decide) rfl).slR
    generalize h6.set r7 (.cells #[wv (s.l.getD i 0 + q.l.getD i 0)] T_uint32) = h7 at *
    refine app_w (O6.ext u7) S7 (by simp [S8.l]; omega) fun z' h8 F8 O8 u8 k8 => ?_
    rw [← add_get s q hl] at O8
    have e7 := u6.trans u7
    refine ⟨⟨i + 1, z', F8, by omega, rfl, O8, f6.grow e7 k8, e7.fresh u8 f6⟩, ?_⟩
    simp only [upTo, List.getElem?_cons_succ, List.getElem?_cons_zero]
    omega
  · obtain rfl : i = 8 := by omega
    have hfull : (s.add q).l.take 8 = (mixP s b).l := by rw [hmix]; rfl
    rw [hfull] at O6
    simp only [show (((8 : Nat) : Int) < 8) = False from eq_false (by decide), popO_some, bindH_eq, condV_bool, condV_true, condV_false, yV_bool, gopV_tt, gopV_ff, gopV_tf, gopV_ft, pickV_t, pickV_f, pickV_bool, nilS_ptr, add_eq, sub_eq, mul_eq, lss_eq, leq_eq, gtr_eq, geq_eq, not_eq, minI_eq, maxI_eq, extract_0, extract_1, extract_2, eqlI, neqI, makeFunc_eq, decide_true, decide_false, if_true, if_false, Bool.false_eq_true, Bool.not_true, Bool.not_false, reduceIte, List.getElem?_toArray, List.getElem?_cons_zero, List.getElem?_cons_succ, Option.isSome_none, List.length_map]
    exact hk _ _ O6.slR (e5.trans u6)
end Go.Proofs.YtllopddcpkhfjaaGreatDoor
/- the document's numbers as bytes. -/
set_option linter.unusedSimpArgs false
set_option linter.unusedVariables false
namespace Go.Proofs.YtllopddcpkhfjaaGreatDoor
open Go
set_option maxRecDepth 20000
theorem cvb_u8 (x : Int) : SemP PG (convert T_uint64 T_uint8 (.int .u64 x)) = some (.int .u8 (IntKind.u8.wrap x)) := by kernel_rfl
theorem byte_litR (x : Int) : SemA PG (Instr.buildSlice T_sl_uint8 1 #[(0, .int .u8 x)]) = some (.cells #[.int .u8 x] T_uint8, fun r => pure (.slice (some ⟨r, 0, none⟩) 1 1)) := by kernel_rfl
theorem RBytes_ok {h : PH} {n c : Nat} (hn : n < 18446744073709551616) (hc : c ≤ 1000) {k : Value → PH → Prop} (hk : ∀ h', Ext h h' → k (.string (tx (be n c))) h') : CallsH PG id_carrackref03_Bytes #[.int .u64 n, .int .i64 c] h k := by
  apply carrackref03_Bytes.call
  unfold carrackref03_Bytes
  refine ⟨fun vs h' => ∃ i : Nat, i ≤ c ∧ vs = [.int .u64 ((n / 256 ^ i : Nat) : Int), .int .i64 c, .string (tx ((be n c).drop (c - i))), .int .i64 i] ∧ Ext h h', upTo c 3, ⟨0, by omega, by rw [List.drop_of_length_le (by rw [be_len]; omega)]; simp [tx_nil], Upd.refl⟩, ?_⟩
  rintro ρ h' ⟨i, hi, hvs, w⟩
  simp only [List.map_cons, List.map_nil, List.cons.injEq, and_true] at hvs
  obtain ⟨s0, s1, s2, s3⟩ := hvs
  rw [s0, s1, s2, s3]
  unfold carrackref03_Bytes_b2
  by_cases hlt : i < c
  · have hd : ((i : Int) < (c : Int)) = True := by apply eq_true; omega
    have hle : n / 256 ^ i ≤ n := Nat.div_le_self _ _
    have e1 : Int.tmod ((n / 256 ^ i : Nat) : Int) 256 = ((n / 256 ^ i % 256 : Nat) : Int) := (Int.ofNat_tmod _ 256).symm
    have e2 : IntKind.u8.wrap ((n / 256 ^ i % 256 : Nat) : Int) = ((UInt8.ofNat (n / 256 ^ i % 256)).toNat : Int) := by rw [u8_wrap]; simp
    have e3 : IntKind.u64.wrap (Int.tdiv ((n / 256 ^ i : Nat) : Int) 256) = ((n / 256 ^ (i + 1) : Nat) : Int) := by
      have : Int.tdiv ((n / 256 ^ i : Nat) : Int) 256 = ((n / 256 ^ i / 256 : Nat) : Int) := rfl
      have hd2 : n / 256 ^ i / 256 = n / 256 ^ (i + 1) := by rw [Nat.div_div_eq_div_mul, Nat.pow_succ]
      rw [this, hd2]
      exact u64_wrap (Int.natCast_nonneg _) (by have := Nat.div_le_self n (256 ^ (i + 1)); omega)
    have ei : IntKind.i64.wrap ((i : Int) + 1) = ((i + 1 : Nat) : Int) := by rw [i64_wrap (by omega) (by omega)]; omega
    simp only [hd, rem_eq (show (256 : Int) ≠ 0 by decide), quo_eq (show (256 : Int) ≠ 0 by decide), e1, cvb_u8, e2, byte_litR, popO_some, bindH_eq, condV_bool, condV_true, condV_false, yV_bool, gopV_tt, gopV_ff, gopV_tf, gopV_ft, pickV_t, pickV_f, pickV_bool, nilS_ptr, add_eq, sub_eq, mul_eq, lss_eq, leq_eq, gtr_eq, geq_eq, not_eq, minI_eq, maxI_eq, extract_0, extract_1, extract_2, eqlI, neqI, makeFunc_eq, decide_true, decide_false, if_true, if_false, Bool.false_eq_true, Bool.not_true, Bool.not_false, reduceIte, List.getElem?_toArray, List.getElem?_cons_zero, List.getElem?_cons_succ, Option.isSome_none, List.length_map]
    intro r hr
    refine popO_pure ?_
    have u1 : Ext h' (h'.set r (.cells #[.int .u8 (UInt8.ofNat (n / 256 ^ i % 256)).toNat] T_uint8)) := Upd.new hr
    have s1 : SlR (h'.set r (.cells #[.int .u8 (UInt8.ofNat (n / 256 ^ i % 256)).toNat] T_uint8)) 1 (.slice (some ⟨r, 0, none⟩) 1 1) ([UInt8.ofNat (n / 256 ^ i % 256)].map bcell) := (OwnR.lit (bcell.rows [_]) set_same (by simp) (by decide) (by simp [bcell])).slR
    generalize h'.set r (.cells #[.int .u8 (UInt8.ofNat (n / 256 ^ i % 256)).toNat] T_uint8) = h1 at *
    have hcv := conv_bytes T_sl_uint8.und T_uint8.und T_string.und s1
    have hcv' : SemE PG h1 (convert T_sl_uint8 T_string (.slice (some ⟨r, 0, none⟩) 1 1)) = some (.string (tx [UInt8.ofNat (n / 256 ^ i % 256)])) := hcv
    have hadd : SemP PG (binOp .add T_string (.string (tx [UInt8.ofNat (n / 256 ^ i % 256)])) (.string (tx ((be n c).drop (c - i))))) = some (.string (tx ((be n c).drop (c - (i + 1))))) := by
      rw [add_tx (by rw [List.length_drop, be_len]; simp; omega)]
      congr 3
      have hg := be_get n c (c - (i + 1)) (by omega)
      have : c - 1 - (c - (i + 1)) = i := by omega
      rw [this] at hg
      obtain ⟨hlt', hg'⟩ := List.getElem?_eq_some_iff.1 hg
      rw [List.drop_eq_getElem_cons hlt', hg']
      have : c - (i + 1) + 1 = c - i := by omega
      rw [this]; rfl
    simp only [hcv', hadd, e3, ei, popO_some, bindH_eq, condV_bool, condV_true, condV_false, yV_bool, gopV_tt, gopV_ff, gopV_tf, gopV_ft, pickV_t, pickV_f, pickV_bool, nilS_ptr, add_eq, sub_eq, mul_eq, lss_eq, leq_eq, gtr_eq, geq_eq, not_eq, minI_eq, maxI_eq, extract_0, extract_1, extract_2, eqlI, neqI, makeFunc_eq, decide_true, decide_false, if_true, if_false, Bool.false_eq_true, Bool.not_true, Bool.not_false, reduceIte, List.getElem?_toArray, List.getElem?_cons_zero, List.getElem?_cons_succ, Option.isSome_none, List.length_map]
    exact ⟨⟨i + 1, by omega, rfl, w.trans u1⟩, by simp [upTo, s3]; omega⟩
  · have hd : ((i : Int) < (c : Int)) = False := by apply eq_false; omega
    have hic : i = c := by omega
    subst hic
    rw [Nat.sub_self, List.drop_zero]
    simp only [hd, popO_some, bindH_eq, condV_bool, condV_true, condV_false, yV_bool, gopV_tt, gopV_ff, gopV_tf, gopV_ft, pickV_t, pickV_f, pickV_bool, nilS_ptr, add_eq, sub_eq, mul_eq, lss_eq, leq_eq, gtr_eq, geq_eq, not_eq, minI_eq, maxI_eq, extract_0, extract_1, extract_2, eqlI, neqI, makeFunc_eq, decide_true, decide_false, if_true, if_false, Bool.false_eq_true, Bool.not_true, Bool.not_false, reduceIte, List.getElem?_toArray, List.getElem?_cons_zero, List.getElem?_cons_succ, Option.isSome_none, List.length_map]
    exact hk _ w
end Go.Proofs.YtllopddcpkhfjaaGreatDoor
/- the document's sha: padding, digests. -/
set_option linter.unusedSimpArgs false
set_option linter.unusedVariables false
namespace Go.Proofs.YtllopddcpkhfjaaGreatDoor
open Go Bld
set_option maxRecDepth 20000
def strTo (m : Nat) (i : Nat) : List Value → PH → Nat := fun vs _ => match vs[i]? with
  | some (.string s) => m - s.size
  | _ => 0
def padN (n : Nat) : Nat := (119 - n % 64) % 64
theorem padP_eq (n : Nat) : padP n = 128 :: (List.replicate (padN n) 0 ++ be (n * 8 % 18446744073709551616) 8) := rfl
theorem be_put {m j : Nat} (hj : j < 8) (x : UInt8) (hx : x = UInt8.ofNat (m / 256 ^ j % 256)) :
    ((List.replicate (8 - j) 0 ++ (be m 8).drop (8 - j)).map bcell).take (7 - j) ++ [bcell x] ++ ((List.replicate (8 - j) 0 ++ (be m 8).drop (8 - j)).map bcell).drop (7 - j + 1) = (List.replicate (8 - (j + 1)) 0 ++ (be m 8).drop (8 - (j + 1))).map bcell := by
  have e1 : (List.replicate (8 - j) (0 : UInt8) ++ (be m 8).drop (8 - j)).take (7 - j) = List.replicate (8 - (j + 1)) 0 := by
    rw [List.take_append_of_le_length (by simp; omega), List.take_replicate]
    congr 1
    omega
  have e2 : (List.replicate (8 - j) (0 : UInt8) ++ (be m 8).drop (8 - j)).drop (7 - j + 1) = (be m 8).drop (8 - j) := by
    rw [List.drop_append_of_le_length (by simp; omega)]
    have : (List.replicate (8 - j) (0 : UInt8)).drop (7 - j + 1) = [] := List.drop_of_length_le (by simp; omega)
    rw [this]; rfl
  have e3 : (be m 8).drop (8 - (j + 1)) = x :: (be m 8).drop (8 - j) := by
    have hg := be_get m 8 (8 - (j + 1)) (by omega)
    have : 8 - 1 - (8 - (j + 1)) = j := by omega
    rw [this] at hg
    obtain ⟨hlt', hg'⟩ := List.getElem?_eq_some_iff.1 hg
    rw [List.drop_eq_getElem_cons hlt', hg', hx]
    have : 8 - (j + 1) + 1 = 8 - j := by omega
    rw [this]
  rw [← List.map_take, ← List.map_drop, e1, e2, e3]
  simp
theorem Pad_ok {h : PH} {l : List UInt8} (hl : l.length ≤ 1000000000) {k : Value → PH → Prop} (hk : ∀ h', Ext h h' → k (.string (tx (l ++ padP l.length))) h') : CallsH PG id_carrackref01_Pad #[.string (tx l)] h k := by
  apply carrackref01_Pad.call
  unfold carrackref01_Pad
  have w1 : IntKind.u64.wrap (l.length : Int) = (l.length : Int) := u64_wrap (by omega) (by omega)
  have w2 : IntKind.u64.wrap ((l.length : Int) * 8) = ((l.length * 8 : Nat) : Int) := by rw [u64_wrap (by omega) (by omega)]; omega
  simp only [T_string.len, tx_size, cv_int_u64, w1, w2, byte_litR, popO_some, bindH_eq, condV_bool, condV_true, condV_false, yV_bool, gopV_tt, gopV_ff, gopV_tf, gopV_ft, pickV_t, pickV_f, pickV_bool, nilS_ptr, add_eq, sub_eq, mul_eq, lss_eq, leq_eq, gtr_eq, geq_eq, not_eq, minI_eq, maxI_eq, extract_0, extract_1, extract_2, eqlI, neqI, makeFunc_eq, decide_true, decide_false, if_true, if_false, Bool.false_eq_true, Bool.not_true, Bool.not_false, reduceIte, List.getElem?_toArray, List.getElem?_cons_zero, List.getElem?_cons_succ, Option.isSome_none, List.length_map]
  intro r hr
  refine popO_pure ?_
  try rw [bindH_eq]
  have u1 : Ext h (h.set r (.cells #[.int .u8 128] T_uint8)) := Upd.new hr
  have S1 : SlR (h.set r (.cells #[.int .u8 128] T_uint8)) 1 (.slice (some ⟨r, 0, none⟩) 1 1) ([(128 : UInt8)].map bcell) := (OwnR.lit (bcell.rows [128]) set_same (by simp) (by decide) (by rfl)).slR
  generalize h.set r (.cells #[.int .u8 128] T_uint8) = h1 at *
  have hcv : SemE PG h1 (convert T_sl_uint8 T_string (.slice (some ⟨r, 0, none⟩) 1 1)) = some (.string (tx [128])) := conv_bytes T_sl_uint8.und T_uint8.und T_string.und S1
  have hadd : SemP PG (binOp .add T_string (.string (tx l)) (.string (tx [128]))) = some (.string (tx (l ++ [128]))) := add_tx (by simp; omega)
  simp only [hcv, hadd, popO_some, bindH_eq, condV_bool, condV_true, condV_false, yV_bool, gopV_tt, gopV_ff, gopV_tf, gopV_ft, pickV_t, pickV_f, pickV_bool, nilS_ptr, add_eq, sub_eq, mul_eq, lss_eq, leq_eq, gtr_eq, geq_eq, not_eq, minI_eq, maxI_eq, extract_0, extract_1, extract_2, eqlI, neqI, makeFunc_eq, decide_true, decide_false, if_true, if_false, Bool.false_eq_true, Bool.not_true, Bool.not_false, reduceIte, List.getElem?_toArray, List.getElem?_cons_zero, List.getElem?_cons_succ, Option.isSome_none, List.length_map]
  have hz64 : padN l.length < 64 := Nat.mod_lt _ (by decide)
  have hzd : padN l.length = (119 - l.length % 64) % 64 := rfl
  generalize hpn : padN l.length = z at *
  refine ⟨fun vs h' => ∃ j : Nat, j ≤ z ∧ vs = [.string (tx (l ++ 128 :: List.replicate j 0)), .int .u64 ((l.length * 8 : Nat) : Int)] ∧ Ext h h', strTo (l.length + 1 + z) 0, ⟨0, by omega, rfl, u1⟩, ?_⟩
  rintro ρ h' ⟨j, hj, hvs, u⟩
  simp only [List.map_cons, List.map_nil, List.cons.injEq, and_true] at hvs
  obtain ⟨v0, v3⟩ := hvs
  simp only [v0, v3, List.map_cons, List.map_nil]
  unfold carrackref01_Pad_b11
  have hlen : (l ++ 128 :: List.replicate j (0 : UInt8)).length = l.length + 1 + j := by simp; omega
  have rm : SemP PG (binOp .rem T_int (.int .i64 ((l.length + 1 + j : Nat) : Int)) (.int .i64 64)) = some (.int .i64 (((l.length + 1 + j) % 64 : Nat) : Int)) := by
    rw [rem_eq (by decide)]
    exact congrArg some (congrArg _ (Int.ofNat_tmod _ 64).symm)
  simp only [T_string.len, tx_size, hlen, rm, neqI, popO_some, bindH_eq, condV_bool, condV_true, condV_false, yV_bool, gopV_tt, gopV_ff, gopV_tf, gopV_ft, pickV_t, pickV_f, pickV_bool, nilS_ptr, add_eq, sub_eq, mul_eq, lss_eq, leq_eq, gtr_eq, geq_eq, not_eq, minI_eq, maxI_eq, extract_0, extract_1, extract_2, eqlI, neqI, makeFunc_eq, decide_true, decide_false, if_true, if_false, Bool.false_eq_true, Bool.not_true, Bool.not_false, reduceIte, List.getElem?_toArray, List.getElem?_cons_zero, List.getElem?_cons_succ, Option.isSome_none, List.length_map]
  by_cases hjz : j < z
  · have g : ((((l.length + 1 + j) % 64 : Nat) : Int) != 56) = true := by rw [bne_iff_ne]; omega
    simp only [g, byte_litR, popO_some, bindH_eq, condV_bool, condV_true, condV_false, yV_bool, gopV_tt, gopV_ff, gopV_tf, gopV_ft, pickV_t, pickV_f, pickV_bool, nilS_ptr, add_eq, sub_eq, mul_eq, lss_eq, leq_eq, gtr_eq, geq_eq, not_eq, minI_eq, maxI_eq, extract_0, extract_1, extract_2, eqlI, neqI, makeFunc_eq, decide_true, decide_false, if_true, if_false, Bool.false_eq_true, Bool.not_true, Bool.not_false, reduceIte, List.getElem?_toArray, List.getElem?_cons_zero, List.getElem?_cons_succ, Option.isSome_none, List.length_map]
    intro r2 hr2
    refine popO_pure ?_
    try rw [bindH_eq]
    have u2 : Ext h' (h'.set r2 (.cells #[.int .u8 0] T_uint8)) := Upd.new hr2
    have S2 : SlR (h'.set r2 (.cells #[.int .u8 0] T_uint8)) 1 (.slice (some ⟨r2, 0, none⟩) 1 1) ([(0 : UInt8)].map bcell) := (OwnR.lit (bcell.rows [0]) set_same (by simp) (by decide) (by rfl)).slR
    generalize h'.set r2 (.cells #[.int .u8 0] T_uint8) = h2 at *
    have hcv2 : SemE PG h2 (convert T_sl_uint8 T_string (.slice (some ⟨r2, 0, none⟩) 1 1)) = some (.string (tx [0])) := conv_bytes T_sl_uint8.und T_uint8.und T_string.und S2
    have hadd2 : SemP PG (binOp .add T_string (.string (tx (l ++ 128 :: List.replicate j 0))) (.string (tx [0]))) = some (.string (tx (l ++ 128 :: List.replicate (j + 1) 0))) := by
      rw [add_tx (by rw [hlen]; simp; omega)]
      congr 3
      rw [List.replicate_succ', List.append_assoc]; rfl
    simp only [hcv2, hadd2, popO_some, bindH_eq, condV_bool, condV_true, condV_false, yV_bool, gopV_tt, gopV_ff, gopV_tf, gopV_ft, pickV_t, pickV_f, pickV_bool, nilS_ptr, add_eq, sub_eq, mul_eq, lss_eq, leq_eq, gtr_eq, geq_eq, not_eq, minI_eq, maxI_eq, extract_0, extract_1, extract_2, eqlI, neqI, makeFunc_eq, decide_true, decide_false, if_true, if_false, Bool.false_eq_true, Bool.not_true, Bool.not_false, reduceIte, List.getElem?_toArray, List.getElem?_cons_zero, List.getElem?_cons_succ, Option.isSome_none, List.length_map]
    refine ⟨⟨j + 1, by omega, rfl, u.trans u2⟩, ?_⟩
    have hlen2 : (l ++ 128 :: List.replicate (j + 1) (0 : UInt8)).length = l.length + 1 + (j + 1) := by simp; omega
    simp only [strTo, List.getElem?_cons_zero, tx_size, hlen, hlen2]
    omega
  · obtain rfl : j = z := by omega
    have g : ((((l.length + 1 + j) % 64 : Nat) : Int) != 56) = false := by rw [bne_eq_false_iff_eq]; omega
    obtain ⟨zs', hm, hzz⟩ := makeSlice_eq (P := PG) (n := 8) T_sl_uint8.und T_uint8.info T_uint8.size T_uint8.bytes T_uint8.zero rfl (by decide) (by omega) (by omega)
    simp only [show ((8 : Nat) : Int) = 8 from rfl] at hm
    simp only [g, hm, popO_some, bindH_eq, condV_bool, condV_true, condV_false, yV_bool, gopV_tt, gopV_ff, gopV_tf, gopV_ft, pickV_t, pickV_f, pickV_bool, nilS_ptr, add_eq, sub_eq, mul_eq, lss_eq, leq_eq, gtr_eq, geq_eq, not_eq, minI_eq, maxI_eq, extract_0, extract_1, extract_2, eqlI, neqI, makeFunc_eq, decide_true, decide_false, if_true, if_false, Bool.false_eq_true, Bool.not_true, Bool.not_false, reduceIte, List.getElem?_toArray, List.getElem?_cons_zero, List.getElem?_cons_succ, Option.isSome_none, List.length_map]
    intro r2 hr2
    refine popO_pure ?_
    try rw [bindH_eq]
    have u2 : Ext h' (h'.set r2 (.cells zs' T_uint8 (0, 0))) := Upd.new hr2
    have O2 : OwnR (h'.set r2 (.cells zs' T_uint8 (0, 0))) T_uint8 1 (.slice (some ⟨r2, 0, none⟩) 8 8) ((List.replicate (8 - 0) 0 ++ (be (l.length * 8) 8).drop (8 - 0)).map bcell) [r2] :=
      OwnR.lit (n := 8) (bcell.rows _) set_same (by simp [be_len]) (by decide) (by
        rw [hzz, List.drop_of_length_le (by simp [be_len])]; rfl)
    generalize h'.set r2 (.cells zs' T_uint8 (0, 0)) = h2 at *
    have fr : Fresh h [r2] := Fresh.one (u.none hr2)
    have e2 := u.trans u2
    generalize hm8 : l.length * 8 = m at *
    refine ⟨fun vs h3 => ∃ i : Nat, i ≤ 8 ∧ vs = [.string (tx (l ++ 128 :: List.replicate j 0)), .int .u64 ((m / 256 ^ i : Nat) : Int), .slice (some ⟨r2, 0, none⟩) 8 8, .int .i64 (7 - (i : Int))] ∧ OwnR h3 T_uint8 1 (.slice (some ⟨r2, 0, none⟩) 8 8) ((List.replicate (8 - i) 0 ++ (be m 8).drop (8 - i)).map bcell) [r2] ∧ Ext h h3, dnTo 3, ⟨0, by omega, by simp, O2, e2⟩, ?_⟩
    rintro ρ2 h3 ⟨i, hi, hvs, O3, u3⟩
    simp only [List.map_cons, List.map_nil, List.cons.injEq, and_true] at hvs
    obtain ⟨w0, w3, w4, w5⟩ := hvs
    simp only [w0, w3, w4, w5, List.map_cons, List.map_nil]
    unfold carrackref01_Pad_b26
    by_cases hi8 : i < 8
    · have g1 : ((0 : Int) ≤ 7 - (i : Int)) = True := eq_true (by omega)
      have g2 : 7 - (i : Int) = ((7 - i : Nat) : Int) := by omega
      have g3 : IntKind.i64.wrap (7 - (i : Int) - 1) = 7 - ((i + 1 : Nat) : Int) := by rw [i64_wrap (by omega) (by omega)]; omega
      have hle : m / 256 ^ i ≤ m := Nat.div_le_self _ _
      have r1 : SemP PG (binOp .rem T_uint64 (.int .u64 ((m / 256 ^ i : Nat) : Int)) (.int .u64 256)) = some (.int .u64 ((m / 256 ^ i % 256 : Nat) : Int)) := by
        rw [rem_eq (by decide)]
        exact congrArg some (congrArg _ (Int.ofNat_tmod _ 256).symm)
      have r2' : IntKind.u8.wrap ((m / 256 ^ i % 256 : Nat) : Int) = ((UInt8.ofNat (m / 256 ^ i % 256)).toNat : Int) := by rw [u8_wrap]; simp
      have r3 : SemP PG (binOp .quo T_uint64 (.int .u64 ((m / 256 ^ i : Nat) : Int)) (.int .u64 256)) = some (.int .u64 ((m / 256 ^ (i + 1) : Nat) : Int)) := by
        rw [quo_eq (by decide)]
        have : Int.tdiv ((m / 256 ^ i : Nat) : Int) 256 = ((m / 256 ^ i / 256 : Nat) : Int) := rfl
        have hd2 : m / 256 ^ i / 256 = m / 256 ^ (i + 1) := by rw [Nat.div_div_eq_div_mul, Nat.pow_succ]
        rw [this, hd2, u64_wrap (Int.natCast_nonneg _) (by have := Nat.div_le_self m (256 ^ (i + 1)); omega)]
      obtain ⟨a, q1, q2⟩ := O3.storeCell (t := T_sl_uint8) (k := .i64) (j := 7 - i) T_sl_uint8.und T_uint8.info T_uint8.size T_uint8.und rfl (by simp [be_len]; omega) (x := .int .u8 ((UInt8.ofNat (m / 256 ^ i % 256)).toNat : Int)) rfl
      rw [← g2] at q1
      simp only [g1, r1, cvb_u8, r2', q1, popO_some, bindH_eq, condV_bool, condV_true, condV_false, yV_bool, gopV_tt, gopV_ff, gopV_tf, gopV_ft, pickV_t, pickV_f, pickV_bool, nilS_ptr, add_eq, sub_eq, mul_eq, lss_eq, leq_eq, gtr_eq, geq_eq, not_eq, minI_eq, maxI_eq, extract_0, extract_1, extract_2, eqlI, neqI, makeFunc_eq, decide_true, decide_false, if_true, if_false, Bool.false_eq_true, Bool.not_true, Bool.not_false, reduceIte, List.getElem?_toArray, List.getElem?_cons_zero, List.getElem?_cons_succ, Option.isSome_none, List.length_map]
      refine q2 _ fun h4 O4 u4 => ?_
      have hp := be_put (m := m) hi8 _ rfl
      simp only [bcell] at hp O4
      rw [hp] at O4
      simp only [r3, g3, popO_some, bindH_eq, condV_bool, condV_true, condV_false, yV_bool, gopV_tt, gopV_ff, gopV_tf, gopV_ft, pickV_t, pickV_f, pickV_bool, nilS_ptr, add_eq, sub_eq, mul_eq, lss_eq, leq_eq, gtr_eq, geq_eq, not_eq, minI_eq, maxI_eq, extract_0, extract_1, extract_2, eqlI, neqI, makeFunc_eq, decide_true, decide_false, if_true, if_false, Bool.false_eq_true, Bool.not_true, Bool.not_false, reduceIte, List.getElem?_toArray, List.getElem?_cons_zero, List.getElem?_cons_succ, Option.isSome_none, List.length_map]
      refine ⟨⟨i + 1, by omega, rfl, O4, u3.fresh u4 fr⟩, ?_⟩
      simp only [dnTo, List.getElem?_cons_succ, List.getElem?_cons_zero]
      omega
    · obtain rfl : i = 8 := by omega
      have g1 : ((0 : Int) ≤ 7 - ((8 : Nat) : Int)) = False := eq_false (by omega)
      have O3' : OwnR h3 T_uint8 1 (.slice (some ⟨r2, 0, none⟩) 8 8) ((be m 8).map bcell) [r2] := O3
      have hcv3 : SemE PG h3 (convert T_sl_uint8 T_string (.slice (some ⟨r2, 0, none⟩) 8 8)) = some (.string (tx (be m 8))) := conv_bytes T_sl_uint8.und T_uint8.und T_string.und O3'.slR
      have hadd3 : SemP PG (binOp .add T_string (.string (tx (l ++ 128 :: List.replicate j 0))) (.string (tx (be m 8)))) = some (.string (tx ((l ++ 128 :: List.replicate j 0) ++ be m 8))) := add_tx (by rw [hlen, be_len]; omega)
      simp only [g1, hcv3, hadd3, popO_some, bindH_eq, condV_bool, condV_true, condV_false, yV_bool, gopV_tt, gopV_ff, gopV_tf, gopV_ft, pickV_t, pickV_f, pickV_bool, nilS_ptr, add_eq, sub_eq, mul_eq, lss_eq, leq_eq, gtr_eq, geq_eq, not_eq, minI_eq, maxI_eq, extract_0, extract_1, extract_2, eqlI, neqI, makeFunc_eq, decide_true, decide_false, if_true, if_false, Bool.false_eq_true, Bool.not_true, Bool.not_false, reduceIte, List.getElem?_toArray, List.getElem?_cons_zero, List.getElem?_cons_succ, Option.isSome_none, List.length_map]
      have hfin := hk h3 u3
      rw [padP_eq, hpn, hm8, Nat.mod_eq_of_lt (by omega)] at hfin
      rw [List.append_assoc]
      exact hfin
end Go.Proofs.YtllopddcpkhfjaaGreatDoor
/- the document's sha: the book. -/
set_option linter.unusedSimpArgs false
set_option linter.unusedVariables false
namespace Go.Proofs.YtllopddcpkhfjaaGreatDoor
open Go Bld
set_option maxRecDepth 20000
/-- The book: the constants, and what was asked. -/
structure BkAt (h : PH) (b m : Nat) (A : List Tx) (c : Bool) (K : List Nat) : Prop where
  here : ∃ (kv hv : Value) (l : List (Tx × Tx)), h b = some (.cells #[kv, hv, .map (some m), .bool c] T_carrackref01_Book (0, 0)) ∧ WS h kv kT ∧ WS h hv S0.l ∧ inBlocks kv K ∧ inBlocks hv K ∧ MapAt skey h m (l.map fun p => (p.1, skey p.2)) ∧ (c = false → ∀ a ∈ A, (l.find? fun p => decide (sha a = p.1)).map (·.2) = some a)
  ne : b ≠ m
  out : ∀ x ∈ K, x ≠ b ∧ x ≠ m ∧ h x ≠ none
theorem BkAt.upd {h h' : PH} {b m : Nat} {A : List Tx} {c : Bool} {K G : List Nat} (H : BkAt h b m A c K) (u : Upd G h h') (hd : ∀ x ∈ b :: m :: K, x ∉ G) : BkAt h' b m A c K := by
  obtain ⟨kv, hv, l, h1, h2, h3, h4, h5, h6, h7⟩ := H.here
  refine ⟨⟨kv, hv, l, u.get h1 (hd _ (by simp)), SlR.upd h2 u fun a n c' e => hd _ (by simp [h4 a n c' e]), SlR.upd h3 u fun a n c' e => hd _ (by simp [h5 a n c' e]), h4, h5, MapAt.upd h6 u (hd _ (by simp)), h7⟩, H.ne, fun x hx => ⟨(H.out x hx).1, (H.out x hx).2.1, ?_⟩⟩
  obtain ⟨o, ho⟩ := Option.ne_none_iff_exists'.1 (H.out x hx).2.2
  rw [u.get ho (hd x (by simp [hx]))]; simp
theorem BkAt.ext {h h' : PH} {b m : Nat} {A : List Tx} {c : Bool} {K : List Nat} (H : BkAt h b m A c K) (u : Ext h h') : BkAt h' b m A c K := H.upd u (by simp)
theorem BkAt.known {h : PH} {b m : Nat} {A : List Tx} {c : Bool} {K : List Nat} (H : BkAt h b m A c K) : ∀ x ∈ b :: m :: K, h x ≠ none := by
  obtain ⟨kv, hv, l, h1, h2, h3, h4, h5, h6, h7⟩ := H.here
  intro x hx
  simp only [List.mem_cons] at hx
  rcases hx with rfl | rfl | hx
  · rw [h1]; simp
  · exact MapAt.known h6
  · exact (H.out x hx).2.2
/-- No two unlike texts of these have one digest. -/
def Uniq (A : List Tx) : Prop := ∀ a ∈ A, ∀ b ∈ A, sha a = sha b → a = b
theorem BkAt.uniq {h : PH} {b m : Nat} {A : List Tx} {K : List Nat} (H : BkAt h b m A false K) : Uniq A := by
  obtain ⟨kv, hv, l, h1, h2, h3, h4, h5, h6, h7⟩ := H.here
  intro x hx y hy e
  have a := h7 rfl x hx
  rw [e, h7 rfl y hy] at a
  exact (Option.some.inj a).symm
theorem BkAt.sub {h : PH} {b m : Nat} {A B : List Tx} {c : Bool} {K : List Nat} (H : BkAt h b m A c K) (hs : ∀ a ∈ B, a ∈ A) : BkAt h b m B c K := by
  obtain ⟨kv, hv, l, h1, h2, h3, h4, h5, h6, h7⟩ := H.here
  exact ⟨⟨kv, hv, l, h1, h2, h3, h4, h5, h6, fun hc a ha => h7 hc a (hs a ha)⟩, H.ne, H.out⟩
theorem absorb_nil (s : S8) : absorb s [] = (s, []) := absorb_lt (by decide)
theorem Digest_ok {h : PH} {b m : Nat} {A : List Tx} {c : Bool} {K : List Nat} (H : BkAt h b m A c K) {s : Tx} (hs : s.length ≤ 100000000) {k : Value → PH → Prop} (hk : ∀ h', Ext h h' → k (.string (tx (sha s))) h') :
    CallsH PG id_carrackref01_Book_Digest #[.pointer (some ⟨b, 0, none⟩), .string (tx s)] h k := by
  apply carrackref01_Book_Digest.call
  unfold carrackref01_Book_Digest
  obtain ⟨kv, hv, l, h1, h2, h3, -⟩ := H.here
  refine Pad_ok (by omega) fun h4 u4 => ?_
  have hb := u4.get h1
  have icv : isCell hv = true := by obtain ⟨_, _, e, _⟩ := h3.here; rw [e]; rfl
  have c1 : cellH h4 ⟨b, 0 + 1, none⟩ = some hv := by simp [cellH, hb]
  simp only [T_carrackref01_Book.f1, T_sl_uint32.load, c1, popO_some, bindH_eq, condV_bool, condV_true, condV_false, yV_bool, gopV_tt, gopV_ff, gopV_tf, gopV_ft, pickV_t, pickV_f, pickV_bool, nilS_ptr, add_eq, sub_eq, mul_eq, lss_eq, leq_eq, gtr_eq, geq_eq, not_eq, minI_eq, maxI_eq, extract_0, extract_1, extract_2, eqlI, neqI, makeFunc_eq, decide_true, decide_false, if_true, if_false, Bool.false_eq_true, Bool.not_true, Bool.not_false, reduceIte, List.getElem?_toArray, List.getElem?_cons_zero, List.getElem?_cons_succ, Option.isSome_none, List.length_map]
  have hP : ∃ n, (s ++ padP s.length).length = 64 * n := by
    have hz : padN s.length = (119 - s.length % 64) % 64 := rfl
    refine ⟨(s.length + 9 + padN s.length) / 64, ?_⟩
    rw [padP_eq]
    simp only [List.length_append, List.length_cons, List.length_replicate, be_len]
    omega
  have hshow : digestP (absorb S0 (s ++ padP s.length)).1 = sha s := rfl
  have hplen : (s ++ padP s.length).length ≤ 100000200 := by
    have hz : padN s.length < 64 := Nat.mod_lt _ (by decide)
    rw [padP_eq]
    simp only [List.length_append, List.length_cons, List.length_replicate, be_len]
    omega
  generalize s ++ padP s.length = p at *
  obtain ⟨n, hn⟩ := hP
  refine ⟨fun vs h' => ∃ (i : Nat) (v : Value) (t : S8), i ≤ n ∧ vs = [.pointer (some ⟨b, 0, none⟩), .string (tx p), v, .int .i64 ((64 * i : Nat) : Int)] ∧ WS h' v t.l ∧ absorb t (p.drop (64 * i)) = absorb S0 p ∧ Ext h h', upTo (64 * n) 3, ⟨0, hv, S0, by omega, rfl, h3.ext u4, by simp, u4⟩, ?_⟩
  rintro ρ h' ⟨i, v, t, hi, hvs, St, hab, u⟩
  simp only [List.map_cons, List.map_nil, List.cons.injEq, and_true] at hvs
  obtain ⟨v0, v5, v6, v7⟩ := hvs
  simp only [v0, v5, v6, v7, List.map_cons, List.map_nil]
  unfold carrackref01_Book_Digest_b7
  have hb' := u.get h1
  by_cases hin : i < n
  · have g1 : (((64 * i : Nat) : Int) < (p.length : Int)) = True := eq_true (by omega)
    have g2 : IntKind.i64.wrap (((64 * i : Nat) : Int) + 64) = ((64 * (i + 1) : Nat) : Int) := by rw [i64_wrap (by omega) (by omega)]; omega
    have c0 : cellH h' ⟨b, 0, none⟩ = some kv := by simp [cellH, hb']
    have ec : SemP PG (Instr.sliceAt T_string (.string (tx p)) (some (.int .i64 ((64 * i : Nat) : Int))) (some (.int .i64 ((64 * (i + 1) : Nat) : Int))) none) = some (.string (tx ((p.take (64 * (i + 1))).drop (64 * i)))) :=
      cut_tx T_string.und (.inr ⟨_, rfl⟩) (.inr ⟨_, rfl⟩) (by omega) (by omega)
    simp only [T_string.len, tx_size, g1, g2, ec, T_carrackref01_Book.f0, T_sl_uint32.load, c0, popO_some, bindH_eq, condV_bool, condV_true, condV_false, yV_bool, gopV_tt, gopV_ff, gopV_tf, gopV_ft, pickV_t, pickV_f, pickV_bool, nilS_ptr, add_eq, sub_eq, mul_eq, lss_eq, leq_eq, gtr_eq, geq_eq, not_eq, minI_eq, maxI_eq, extract_0, extract_1, extract_2, eqlI, neqI, makeFunc_eq, decide_true, decide_false, if_true, if_false, Bool.false_eq_true, Bool.not_true, Bool.not_false, reduceIte, List.getElem?_toArray, List.getElem?_cons_zero, List.getElem?_cons_succ, Option.isSome_none, List.length_map]
    refine block_ok (by rw [List.length_drop, List.length_take]; omega) (h2.ext u) St fun h5 w S5 u5 => ?_
    refine ⟨⟨i + 1, w, _, by omega, rfl, S5, ?_, u.trans u5⟩, ?_⟩
    · rw [← hab]
      conv => rhs; rw [absorb_ge (by rw [List.length_drop]; omega)]
      rw [List.drop_drop, List.drop_take]
      congr 2
      · congr 2
        omega
    · simp only [upTo, List.getElem?_cons_succ, List.getElem?_cons_zero]
      omega
  · obtain rfl : i = n := by omega
    have g1 : (((64 * i : Nat) : Int) < (p.length : Int)) = False := eq_false (by omega)
    simp only [T_string.len, tx_size, g1, popO_some, bindH_eq, condV_bool, condV_true, condV_false, yV_bool, gopV_tt, gopV_ff, gopV_tf, gopV_ft, pickV_t, pickV_f, pickV_bool, nilS_ptr, add_eq, sub_eq, mul_eq, lss_eq, leq_eq, gtr_eq, geq_eq, not_eq, minI_eq, maxI_eq, extract_0, extract_1, extract_2, eqlI, neqI, makeFunc_eq, decide_true, decide_false, if_true, if_false, Bool.false_eq_true, Bool.not_true, Bool.not_false, reduceIte, List.getElem?_toArray, List.getElem?_cons_zero, List.getElem?_cons_succ, Option.isSome_none, List.length_map]
    rw [List.drop_of_length_le (by omega), absorb_nil] at hab
    rw [← hshow, ← hab] at hk
    refine ⟨fun vs h2 => ∃ (j : Nat) (z : Value) (F : List Nat), j ≤ 8 ∧ vs = [v, z, .int .i64 (j : Int)] ∧ OwnR h2 T_uint8 1 z (((t.l.take j).flatMap wb).map bcell) F ∧ Fresh h' F ∧ Ext h' h2, upTo 8 2, ⟨0, _, [], by omega, rfl, OwnR.nil, (fun b hb => by cases hb), Upd.refl⟩, ?_⟩
    rintro ρ2 h2' ⟨j, z, F, hj, hvs, O, fF, u2⟩
    simp only [List.map_cons, List.map_nil, List.cons.injEq, and_true] at hvs
    obtain ⟨w6, w8', w9⟩ := hvs
    simp only [w6, w8', w9, List.map_cons, List.map_nil]
    unfold carrackref01_Book_Digest_b19
    by_cases hj8 : j < 8
    · have e1 : ((j : Int) < 8) = True := eq_true (by omega)
      have e2 : IntKind.i64.wrap ((j : Int) + 1) = ((j + 1 : Nat) : Int) := by rw [i64_wrap (by omega) (by omega)]; omega
      obtain ⟨a1, p1, c1⟩ := w_at (St.ext u2) (t.l_get hj8)
      have s24' : SemP PG (binOp .shr T_uint32 (wv (t.l.getD j 0)) (.int .u64 24)) = _ := w_shr (n := 24) (by decide)
      have s16' : SemP PG (binOp .shr T_uint32 (wv (t.l.getD j 0)) (.int .u64 16)) = _ := w_shr (n := 16) (by decide)
      have s8' : SemP PG (binOp .shr T_uint32 (wv (t.l.getD j 0)) (.int .u64 8)) = _ := w_shr (n := 8) (by decide)
      have b4 : ∀ (a b c d : UInt8), SemA PG (Instr.buildSlice T_sl_uint8 4 #[(0, .int .u8 (a.toNat : Int)), (1, .int .u8 (b.toNat : Int)), (2, .int .u8 (c.toNat : Int)), (3, .int .u8 (d.toNat : Int))]) = some (.cells #[.int .u8 (a.toNat : Int), .int .u8 (b.toNat : Int), .int .u8 (c.toNat : Int), .int .u8 (d.toNat : Int)] T_uint8, fun r => pure (.slice (some ⟨r, 0, none⟩) 4 4)) := fun a b c d => by kernel_rfl
      simp only [e1, p1, c1, s24', s16', s8', cv_w_8, b4, popO_some, bindH_eq, condV_bool, condV_true, condV_false, yV_bool, gopV_tt, gopV_ff, gopV_tf, gopV_ft, pickV_t, pickV_f, pickV_bool, nilS_ptr, add_eq, sub_eq, mul_eq, lss_eq, leq_eq, gtr_eq, geq_eq, not_eq, minI_eq, maxI_eq, extract_0, extract_1, extract_2, eqlI, neqI, makeFunc_eq, decide_true, decide_false, if_true, if_false, Bool.false_eq_true, Bool.not_true, Bool.not_false, reduceIte, List.getElem?_toArray, List.getElem?_cons_zero, List.getElem?_cons_succ, Option.isSome_none, List.length_map]
      intro r hr
      refine popO_pure ?_
      try rw [bindH_eq]
      have hdt := dig_take t hj8
      generalize hx : t.l.getD j 0 = x at *
      have u3 : Ext h2' (h2'.set r (.cells #[.int .u8 ((UInt8.ofNat (x >>> 24).toNat).toNat : Int), .int .u8 ((UInt8.ofNat (x >>> 16).toNat).toNat : Int), .int .u8 ((UInt8.ofNat (x >>> 8).toNat).toNat : Int), .int .u8 ((UInt8.ofNat x.toNat).toNat : Int)] T_uint8)) := Upd.new hr
      have S3 : SlR (h2'.set r (.cells #[.int .u8 ((UInt8.ofNat (x >>> 24).toNat).toNat : Int), .int .u8 ((UInt8.ofNat (x >>> 16).toNat).toNat : Int), .int .u8 ((UInt8.ofNat (x >>> 8).toNat).toNat : Int), .int .u8 ((UInt8.ofNat x.toNat).toNat : Int)] T_uint8)) 1 (.slice (some ⟨r, 0, none⟩) 4 4) ((wb x).map bcell) := (OwnR.lit (n := 4) (bcell.rows (wb x)) set_same (by rfl) (by decide) rfl).slR
      generalize h2'.set r (.cells #[.int .u8 ((UInt8.ofNat (x >>> 24).toNat).toNat : Int), .int .u8 ((UInt8.ofNat (x >>> 16).toNat).toNat : Int), .int .u8 ((UInt8.ofNat (x >>> 8).toNat).toNat : Int), .int .u8 ((UInt8.ofNat x.toNat).toNat : Int)] T_uint8) = h3' at *
      refine append_own T_sl_uint8.und T_sl_uint8.und T_uint8.info T_uint8.size T_uint8.bytes T_uint8.zero rfl (by decide) (O.ext u3) S3 (bcell.isCell _) (by
        have := dig_len t (show j ≤ 8 by omega)
        simp only [List.length_map, wb_len]
        omega) ?_
      intro z' h4' F' O4 u4' k4 _
      rw [← List.map_append, ← hdt] at O4
      have e3 := u2.trans u3
      simp only [e2, popO_some, bindH_eq, condV_bool, condV_true, condV_false, yV_bool, gopV_tt, gopV_ff, gopV_tf, gopV_ft, pickV_t, pickV_f, pickV_bool, nilS_ptr, add_eq, sub_eq, mul_eq, lss_eq, leq_eq, gtr_eq, geq_eq, not_eq, minI_eq, maxI_eq, extract_0, extract_1, extract_2, eqlI, neqI, makeFunc_eq, decide_true, decide_false, if_true, if_false, Bool.false_eq_true, Bool.not_true, Bool.not_false, reduceIte, List.getElem?_toArray, List.getElem?_cons_zero, List.getElem?_cons_succ, Option.isSome_none, List.length_map]
      refine ⟨⟨j + 1, z', F', by omega, rfl, O4, fF.grow e3 k4, e3.fresh u4' fF⟩, ?_⟩
      simp only [upTo, List.getElem?_cons_succ, List.getElem?_cons_zero]
      omega
    · obtain rfl : j = 8 := by omega
      have hfull : (t.l.take 8).flatMap wb = digestP t := rfl
      rw [hfull] at O
      have hcv : SemE PG h2' (convert T_sl_uint8 T_string z) = some (.string (tx (digestP t))) := conv_bytes T_sl_uint8.und T_uint8.und T_string.und O.slR
      simp only [show (((8 : Nat) : Int) < 8) = False from eq_false (by decide), hcv, popO_some, bindH_eq, condV_bool, condV_true, condV_false, yV_bool, gopV_tt, gopV_ff, gopV_tf, gopV_ft, pickV_t, pickV_f, pickV_bool, nilS_ptr, add_eq, sub_eq, mul_eq, lss_eq, leq_eq, gtr_eq, geq_eq, not_eq, minI_eq, maxI_eq, extract_0, extract_1, extract_2, eqlI, neqI, makeFunc_eq, decide_true, decide_false, if_true, if_false, Bool.false_eq_true, Bool.not_true, Bool.not_false, reduceIte, List.getElem?_toArray, List.getElem?_cons_zero, List.getElem?_cons_succ, Option.isSome_none, List.length_map]
      exact hk _ (u.trans u2)
end Go.Proofs.YtllopddcpkhfjaaGreatDoor
/- the document's sha: a new book, a sum. -/
set_option linter.unusedSimpArgs false
set_option linter.unusedVariables false
namespace Go.Proofs.YtllopddcpkhfjaaGreatDoor
open Go Bld
set_option maxRecDepth 20000
theorem bk_build (a b : Option Addr) (n c n' c' m : Nat) : SemP PG (Instr.build T_carrackref01_Book #[(0, .slice a n c), (1, .slice b n' c'), (2, .map (some m))]) = some (.agg #[.slice a n c, .slice b n' c', .map (some m), .bool false]) := by kernel_rfl
theorem BNew_ok {h : PH} {k : Value → PH → Prop} (hk : ∀ h' b m K, BkAt h' b m [] false K → Fresh h (b :: m :: K) → Ext h h' → k (.pointer (some ⟨b, 0, none⟩)) h') : CallsH PG id_carrackref01_New #[] h k := by
  apply carrackref01_New.call
  unfold carrackref01_New
  refine Constants_ok fun h1 v w F G OF OG fF fG u1 => ?_
  simp only [makeMap_eq, popO_some, bindH_eq, condV_bool, condV_true, condV_false, yV_bool, gopV_tt, gopV_ff, gopV_tf, gopV_ft, pickV_t, pickV_f, pickV_bool, nilS_ptr, add_eq, sub_eq, mul_eq, lss_eq, leq_eq, gtr_eq, geq_eq, not_eq, minI_eq, maxI_eq, extract_0, extract_1, extract_2, eqlI, neqI, makeFunc_eq, decide_true, decide_false, if_true, if_false, Bool.false_eq_true, Bool.not_true, Bool.not_false, reduceIte, List.getElem?_toArray, List.getElem?_cons_zero, List.getElem?_cons_succ, Option.isSome_none, List.length_map]
  intro m hm
  refine popO_pure ?_
  try rw [bindH_eq]
  have u2 : Ext h1 (h1.set m (.map #[] 0)) := Upd.new hm
  have M2 : MapAt skey (h1.set m (.map #[] 0)) m [] := MapAt.new
  generalize h1.set m (.map #[] 0) = h2 at *
  obtain ⟨av, cv, ev, -⟩ := OF.slR.here
  obtain ⟨aw, cw, ew, -⟩ := OG.slR.here
  have hb : SemP PG (Instr.build T_carrackref01_Book #[(0, v), (1, w), (2, .map (some m))]) = some (.agg #[v, w, .map (some m), .bool false]) := by rw [ev, ew]; exact bk_build ..
  simp only [hb, popO_some, bindH_eq, condV_bool, condV_true, condV_false, yV_bool, gopV_tt, gopV_ff, gopV_tf, gopV_ft, pickV_t, pickV_f, pickV_bool, nilS_ptr, add_eq, sub_eq, mul_eq, lss_eq, leq_eq, gtr_eq, geq_eq, not_eq, minI_eq, maxI_eq, extract_0, extract_1, extract_2, eqlI, neqI, makeFunc_eq, decide_true, decide_false, if_true, if_false, Bool.false_eq_true, Bool.not_true, Bool.not_false, reduceIte, List.getElem?_toArray, List.getElem?_cons_zero, List.getElem?_cons_succ, Option.isSome_none, List.length_map]
  intro b hbn
  try rw [bindH_eq]
  have ec : Value.cells (.agg #[v, w, .map (some m), .bool false]) = #[v, w, .map (some m), .bool false] := rfl
  rw [ec]
  have u3 : Ext h2 (h2.set b (.cells #[v, w, .map (some m), .bool false] T_carrackref01_Book)) := Upd.new hbn
  have a3 : (h2.set b (.cells #[v, w, .map (some m), .bool false] T_carrackref01_Book)) b = some (.cells #[v, w, .map (some m), .bool false] T_carrackref01_Book (0, 0)) := set_same
  generalize h2.set b (.cells #[v, w, .map (some m), .bool false] T_carrackref01_Book) = h3 at *
  have e12 := u1.trans u2
  have hmb : b ≠ m := fun e => by subst e; exact M2.known hbn
  have hb1 : h1 b = none := u2.none hbn
  refine hk h3 b m (F ++ G) ⟨⟨v, w, [], a3, ((OF.ext u2).ext u3).slR, ((OG.ext u2).ext u3).slR, fun a n c e => by simp [inB_own OF a n c e], fun a n c e => by simp [inB_own OG a n c e], M2.ext u3, fun _ a ha => by cases ha⟩, hmb, fun x hx => ?_⟩ (fun x hx => ?_) (e12.trans u3)
  · have hk1 : h1 x ≠ none := by
      rcases List.mem_append.1 hx with hx | hx
      · exact OF.known x hx
      · exact OG.known x hx
    refine ⟨fun e => hk1 (by rw [e]; exact hb1), fun e => hk1 (by rw [e]; exact hm), fun e => hk1 ((u2.trans u3).none e)⟩
  · simp only [List.mem_cons, List.mem_append] at hx
    rcases hx with rfl | rfl | hx | hx
    · exact e12.none hbn
    · exact u1.none hm
    · exact fF x hx
    · exact fG x hx
theorem Sum_b_ok {h : PH} {b m : Nat} {A : List Tx} {c : Bool} {K : List Nat} (H : BkAt h b m A c K) {s : Tx} (hs : s.length ≤ 100000000) {k : Value → PH → Prop}
    (hk : ∀ h' c', BkAt h' b m (s :: A) c' K → (c = true → c' = true) → Upd [b, m] h h' → k (.string (tx (sha s))) h') : CallsH PG id_carrackref01_Book_Sum #[.pointer (some ⟨b, 0, none⟩), .string (tx s)] h k := by
  apply carrackref01_Book_Sum.call
  unfold carrackref01_Book_Sum
  refine Digest_ok H hs fun h1 u1 => ?_
  have H1 := H.ext u1
  obtain ⟨kv, hv, l, h1b, h2, h3, h4, h5, h6, h7⟩ := H1.here
  have c2 : cellH h1 ⟨b, 0 + 2, none⟩ = some (.map (some m)) := by simp [cellH, h1b]
  have c3 : cellH h1 ⟨b, 0 + 3, none⟩ = some (.bool c) := by simp [cellH, h1b]
  have hlook : SemE PG h1 (Instr.lookup T_map_string_string (.map (some m)) (.string (tx (sha s))) true) = some (.tuple #[.string (tx (((l.find? fun p => decide (sha s = p.1)).map (·.2)).getD [])), .bool ((l.find? fun p => decide (sha s = p.1)).map (·.2)).isSome]) := by
    have := look_found skeyed T_map_string_string.und T_string.info T_string.zero h6 (sha s) true
    have e : getM (l.map fun p => (p.1, skey p.2)) (sha s) = ((l.find? fun p => decide (sha s = p.1)).map (·.2)).map skey := by
      unfold getM
      rw [List.find?_map, Option.map_map, Option.map_map]
      rfl
    rw [e] at this
    rw [show (.string (tx (sha s)) : Value) = skey (sha s) from rfl, this]
    cases (l.find? fun p => decide (sha s = p.1)).map (·.2) <;> rfl
  generalize hw : (l.find? fun p => decide (sha s = p.1)).map (·.2) = was at *
  have fin : ∀ c' : Bool, (c = true → c' = true) → (c' = false → c = false ∧ ∀ x, was = some x → x = s) → SemH PG (storeS T_bool (.pointer (some ⟨b, 0 + 3, none⟩)) (.bool c')) h1 fun v35 h36 =>
      popO (cellH h36 ⟨b, 0 + 2, none⟩) fun v39 =>
      SemH PG (mapUpdS T_map_string_string v39 (.string (tx (sha s))) (.string (tx s))) h36 fun v40 h41 => k (.string (tx (sha s))) h41 := by
    intro c' hc1 hc2
    refine store_cell T_bool.und rfl h1b (by simp) rfl T_bool.info T_bool.size ?_
    have es : (#[kv, hv, Value.map (some m), Value.bool c] : Array Value).setIfInBounds (0 + 3) (.bool c') = #[kv, hv, .map (some m), .bool c'] := rfl
    rw [es]
    have u2 : Upd [b] h1 (h1.set b (.cells #[kv, hv, .map (some m), .bool c'] T_carrackref01_Book (0, 0))) := Upd.set (by simp)
    have b2 : (h1.set b (.cells #[kv, hv, .map (some m), .bool c'] T_carrackref01_Book (0, 0))) b = some (.cells #[kv, hv, .map (some m), .bool c'] T_carrackref01_Book (0, 0)) := set_same
    generalize h1.set b (.cells #[kv, hv, .map (some m), .bool c'] T_carrackref01_Book (0, 0)) = h2' at *
    have c2' : cellH h2' ⟨b, 0 + 2, none⟩ = some (.map (some m)) := by simp [cellH, b2]
    simp only [c2', popO_some, bindH_eq, condV_bool, condV_true, condV_false, yV_bool, gopV_tt, gopV_ff, gopV_tf, gopV_ft, pickV_t, pickV_f, pickV_bool, nilS_ptr, add_eq, sub_eq, mul_eq, lss_eq, leq_eq, gtr_eq, geq_eq, not_eq, minI_eq, maxI_eq, extract_0, extract_1, extract_2, eqlI, neqI, makeFunc_eq, decide_true, decide_false, if_true, if_false, Bool.false_eq_true, Bool.not_true, Bool.not_false, reduceIte, List.getElem?_toArray, List.getElem?_cons_zero, List.getElem?_cons_succ, Option.isSome_none, List.length_map]
    have M2 := h6.upd u2 (by simpa using H.ne.symm)
    refine map_put skeyed T_map_string_string.und M2 (sha s) (.string (tx s)) fun h3' M3 u3 => ?_
    have hne := H.ne
    have hu1 : Upd [b, m] h1 h3' := by
      have t1 : Upd [b, m] h1 h2' := u2.mono fun x hx => .inl (by simp only [List.mem_singleton] at hx; simp [hx])
      have t2 : Upd [b, m] h2' h3' := u3.mono fun x hx => .inl (by simp only [List.mem_singleton] at hx; simp [hx])
      exact t1.trans t2
    have hu : Upd [b, m] h h3' := u1.upd.trans hu1
    have hK : ∀ x ∈ K, x ∉ [b, m] := fun x hx hm => by
      have := H1.out x hx
      simp only [List.mem_cons, List.not_mem_nil, or_false] at hm
      rcases hm with e | e
      · exact this.1 e
      · exact this.2.1 e
    obtain ⟨l', e1, e2⟩ : ∃ l' : List (Tx × Tx), putM (l.map fun p => (p.1, skey p.2)) (sha s) (.string (tx s)) = l'.map (fun p => (p.1, skey p.2)) ∧ ∀ d, (l'.find? fun p => decide (d = p.1)).map (·.2) = if d = sha s then some s else (l.find? fun p => decide (d = p.1)).map (·.2) := by
      have hgen : ∃ l' : List (Tx × Tx), putM (l.map fun p => (p.1, skey p.2)) (sha s) (.string (tx s)) = l'.map (fun p => (p.1, skey p.2)) := by
        unfold putM
        split
        · refine ⟨l.map fun p => if p.1 = sha s then (sha s, s) else p, ?_⟩
          rw [List.map_map, List.map_map]
          apply List.map_congr_left
          intro p _
          show (if p.1 = sha s then (sha s, Value.string (tx s)) else (p.1, skey p.2)) = (fun p : Tx × Tx => (p.1, skey p.2)) (if p.1 = sha s then (sha s, s) else p)
          split <;> rfl
        · exact ⟨l ++ [(sha s, s)], by rw [List.map_append]; rfl⟩
      obtain ⟨l', e⟩ := hgen
      refine ⟨l', e, fun d => ?_⟩
      have hg := getM_put (l.map fun p => (p.1, skey p.2)) (sha s) d (.string (tx s))
      rw [e] at hg
      have eg : ∀ L : List (Tx × Tx), getM (L.map fun p => (p.1, skey p.2)) d = ((L.find? fun p => decide (d = p.1)).map (·.2)).map skey := fun L => by
        unfold getM
        rw [List.find?_map, Option.map_map, Option.map_map]
        rfl
      rw [eg, eg] at hg
      have hinj : ∀ {x y : Option Tx}, x.map skey = y.map skey → x = y := fun {x y} hxy => by
        cases x <;> cases y <;> simp [skey] at hxy ⊢
        exact tx_inj hxy
      apply hinj
      rw [hg]
      split <;> rfl
    rw [e1] at M3
    refine hk h3' c' ⟨⟨kv, hv, l', u3.get b2 (by simpa using hne), h2.upd hu1 (fun a n c e => hK _ (h4 a n c e)), h3.upd hu1 (fun a n c e => hK _ (h5 a n c e)), h4, h5, M3, fun hcf a ha => ?_⟩, hne, fun x hx => ?_⟩ hc1 hu
    · obtain ⟨hcc, hws⟩ := hc2 hcf
      rw [e2]
      rcases List.mem_cons.1 ha with rfl | ha
      · rw [if_pos rfl]
      · have hold := h7 hcc a ha
        by_cases hd : sha a = sha s
        · rw [if_pos hd]
          rw [hd, hw] at hold
          rw [hws a hold]
        · rw [if_neg hd]; exact hold
    · have := H1.out x hx
      refine ⟨this.1, this.2.1, ?_⟩
      obtain ⟨o, ho⟩ := Option.ne_none_iff_exists'.1 this.2.2
      rw [hu1.get ho (hK x hx)]; simp
  have yU : yV undef = none := rfl
  have gN : ∀ {X : (Value → PH → Prop) → Prop} {h : PH} {kv : Value → PH → Prop} {w : Bool}, gopV none w X h kv = kv undef h := fun {X h kv w} => by simp [gopV]
  simp only [T_carrackref01_Book.f2, T_carrackref01_Book.f3, T_map_string_string.load, T_bool.load, c2, c3, hlook, popO_some, bindH_eq, condV_bool, condV_true, condV_false, yV_bool, gopV_tt, gopV_ff, gopV_tf, gopV_ft, pickV_t, pickV_f, pickV_bool, nilS_ptr, add_eq, sub_eq, mul_eq, lss_eq, leq_eq, gtr_eq, geq_eq, not_eq, minI_eq, maxI_eq, extract_0, extract_1, extract_2, eqlI, neqI, makeFunc_eq, decide_true, decide_false, if_true, if_false, Bool.false_eq_true, Bool.not_true, Bool.not_false, reduceIte, List.getElem?_toArray, List.getElem?_cons_zero, List.getElem?_cons_succ, Option.isSome_none, List.length_map]
  cases c with
  | true =>
    simp only [yU, gN, popO_some, bindH_eq, condV_bool, condV_true, condV_false, yV_bool, gopV_tt, gopV_ff, gopV_tf, gopV_ft, pickV_t, pickV_f, pickV_bool, nilS_ptr, add_eq, sub_eq, mul_eq, lss_eq, leq_eq, gtr_eq, geq_eq, not_eq, minI_eq, maxI_eq, extract_0, extract_1, extract_2, eqlI, neqI, makeFunc_eq, decide_true, decide_false, if_true, if_false, Bool.false_eq_true, Bool.not_true, Bool.not_false, reduceIte, List.getElem?_toArray, List.getElem?_cons_zero, List.getElem?_cons_succ, Option.isSome_none, List.length_map]
    exact fin true (fun _ => rfl) (fun h => by cases h)
  | false =>
    cases was with
    | none =>
      simp only [Option.isSome_none, yU, gN, popO_some, bindH_eq, condV_bool, condV_true, condV_false, yV_bool, gopV_tt, gopV_ff, gopV_tf, gopV_ft, pickV_t, pickV_f, pickV_bool, nilS_ptr, add_eq, sub_eq, mul_eq, lss_eq, leq_eq, gtr_eq, geq_eq, not_eq, minI_eq, maxI_eq, extract_0, extract_1, extract_2, eqlI, neqI, makeFunc_eq, decide_true, decide_false, if_true, if_false, Bool.false_eq_true, Bool.not_true, Bool.not_false, reduceIte, List.getElem?_toArray, List.getElem?_cons_zero, List.getElem?_cons_succ, Option.isSome_none, List.length_map]
      exact fin false (fun h => h) (fun _ => ⟨rfl, fun x hx => by cases hx⟩)
    | some x =>
      simp only [Option.isSome_some, Option.getD_some, yU, gN, neqStr, popO_some, bindH_eq, condV_bool, condV_true, condV_false, yV_bool, gopV_tt, gopV_ff, gopV_tf, gopV_ft, pickV_t, pickV_f, pickV_bool, nilS_ptr, add_eq, sub_eq, mul_eq, lss_eq, leq_eq, gtr_eq, geq_eq, not_eq, minI_eq, maxI_eq, extract_0, extract_1, extract_2, eqlI, neqI, makeFunc_eq, decide_true, decide_false, if_true, if_false, Bool.false_eq_true, Bool.not_true, Bool.not_false, reduceIte, List.getElem?_toArray, List.getElem?_cons_zero, List.getElem?_cons_succ, Option.isSome_none, List.length_map]
      refine fin (!decide (x = s)) (fun h => by cases h) fun hf => ⟨rfl, fun y hy => ?_⟩
      obtain rfl := Option.some.inj hy
      simpa using hf
end Go.Proofs.YtllopddcpkhfjaaGreatDoor
/- the document's merkle: roots, with a book. -/
set_option linter.unusedSimpArgs false
set_option linter.unusedVariables false
namespace Go.Proofs.YtllopddcpkhfjaaGreatDoor
open Go Bld
set_option maxRecDepth 20000
def leafT (p : Pr) : Tx := 0 :: UInt8.ofNat (p.k.length % 256) :: (p.k ++ UInt8.ofNat (p.v.length % 256) :: p.v)
def bothT (l r : Tx) : Tx := 1 :: (l ++ r)
def topT (n : Nat) (d : Tx) : Tx := 2 :: (be n 8 ++ d)
theorem leafP_eq (p : Pr) : leafP p = sha (leafT p) := rfl
theorem bothP_eq (l r : Tx) : bothP l r = sha (bothT l r) := rfl
theorem topP_eq (n : Nat) (d : Tx) : topP n d = sha (topT n d) := rfl
/-- The texts that are asked. -/
def digA (l : List Pr) : List Tx := if h : 2 ≤ l.length then bothT (digP (l.take (leftP l.length))) (digP (l.drop (leftP l.length))) :: (digA (l.drop (leftP l.length)) ++ digA (l.take (leftP l.length))) else [leafT (l.headD ⟨[], []⟩)]
termination_by l.length
decreasing_by
  · have := leftP_lt h; simp; omega
  · have := leftP_lt h; simp; omega
def rootA (l : List Pr) : List Tx := topT l.length (if l = [] then [] else digP l) :: (if l = [] then [] else digA l)
/-- A call that asks the book: what it says, and what was asked. -/
def Asks (P : Program) (h : PH) (b m : Nat) (A : List Tx) (c : Bool) (K : List Nat) (new : List Tx) (f : FuncId) (args : Array Value) (v : Value) : Prop :=
  ∀ {k : Value → PH → Prop}, (∀ h' c', BkAt h' b m (new ++ A) c' K → (c = true → c' = true) → Upd [b, m] h h' → k v h') → CallsH P f args h k
theorem tx0 : ({ data := #[0] } : ByteArray) = tx [0] := rfl
theorem tx1 : ({ data := #[1] } : ByteArray) = tx [1] := rfl
theorem tx2 : ({ data := #[2] } : ByteArray) = tx [2] := rfl
theorem be1 (n : Nat) : be n 1 = [UInt8.ofNat (n % 256)] := rfl
theorem RLeaf_ok {h : PH} {b m : Nat} {A : List Tx} {c : Bool} {K : List Nat} (H : BkAt h b m A c K) {p : Pr} (hl : p.k.length + p.v.length ≤ 10000000) {k : Value → PH → Prop}
    (hk : ∀ h' c', BkAt h' b m (leafT p :: A) c' K → (c = true → c' = true) → Upd [b, m] h h' → k (.string (tx (leafP p))) h') : CallsH PG id_carrackref08_Leaf #[.pointer (some ⟨b, 0, none⟩), p.val] h k := by
  apply carrackref08_Leaf.call
  unfold carrackref08_Leaf
  rw [pairBox]
  intro r hr
  try rw [bindH_eq]
  have u1 : Ext h (h.set r (.cells #[.string (tx p.k), .string (tx p.v)] T_api_Pair)) := Upd.new hr
  have a1 : (h.set r (.cells #[.string (tx p.k), .string (tx p.v)] T_api_Pair)) r = some (.cells #[.string (tx p.k), .string (tx p.v)] T_api_Pair (0, 0)) := set_same
  generalize h.set r (.cells #[.string (tx p.k), .string (tx p.v)] T_api_Pair) = h1 at *
  have c0 : cellH h1 ⟨r, 0, none⟩ = some (.string (tx p.k)) := by simp [cellH, a1]
  have c1 : cellH h1 ⟨r, 0 + 1, none⟩ = some (.string (tx p.v)) := by simp [cellH, a1]
  have w1 : IntKind.u64.wrap (p.k.length : Int) = (p.k.length : Int) := u64_wrap (by omega) (by omega)
  have w2 : IntKind.u64.wrap (p.v.length : Int) = (p.v.length : Int) := u64_wrap (by omega) (by omega)
  simp only [T_api_Pair.f0, T_api_Pair.f1, T_string.load, c0, c1, T_string.len, tx_size, cv_int_u64, w1, w2, popO_some, bindH_eq, condV_bool, condV_true, condV_false, yV_bool, gopV_tt, gopV_ff, gopV_tf, gopV_ft, pickV_t, pickV_f, pickV_bool, nilS_ptr, add_eq, sub_eq, mul_eq, lss_eq, leq_eq, gtr_eq, geq_eq, not_eq, minI_eq, maxI_eq, extract_0, extract_1, extract_2, eqlI, neqI, makeFunc_eq, decide_true, decide_false, if_true, if_false, Bool.false_eq_true, Bool.not_true, Bool.not_false, reduceIte, List.getElem?_toArray, List.getElem?_cons_zero, List.getElem?_cons_succ, Option.isSome_none, List.length_map]
  refine RBytes_ok (n := p.k.length) (c := 1) (by omega) (by decide) fun h2 u2 => ?_
  have a2 := u2.get a1
  have c0' : cellH h2 ⟨r, 0, none⟩ = some (.string (tx p.k)) := by simp [cellH, a2]
  have c1' : cellH h2 ⟨r, 0 + 1, none⟩ = some (.string (tx p.v)) := by simp [cellH, a2]
  have s1 : SemP PG (binOp .add T_string (.string (tx [0])) (.string (tx (be p.k.length 1)))) = some (.string (tx ([0] ++ be p.k.length 1))) := add_tx (by rw [be_len]; decide)
  have s2 : SemP PG (binOp .add T_string (.string (tx ([0] ++ be p.k.length 1))) (.string (tx p.k))) = some (.string (tx (([0] ++ be p.k.length 1) ++ p.k))) := add_tx (by simp [be_len]; omega)
  simp only [T_string.load, c0', c1', true_and, tx0, s1, s2, popO_some, bindH_eq, condV_bool, condV_true, condV_false, yV_bool, gopV_tt, gopV_ff, gopV_tf, gopV_ft, pickV_t, pickV_f, pickV_bool, nilS_ptr, add_eq, sub_eq, mul_eq, lss_eq, leq_eq, gtr_eq, geq_eq, not_eq, minI_eq, maxI_eq, extract_0, extract_1, extract_2, eqlI, neqI, makeFunc_eq, decide_true, decide_false, if_true, if_false, Bool.false_eq_true, Bool.not_true, Bool.not_false, reduceIte, List.getElem?_toArray, List.getElem?_cons_zero, List.getElem?_cons_succ, Option.isSome_none, List.length_map]
  refine RBytes_ok (n := p.v.length) (c := 1) (by omega) (by decide) fun h3 u3 => ?_
  have a3 := u3.get a2
  have c0'' : cellH h3 ⟨r, 0, none⟩ = some (.string (tx p.k)) := by simp [cellH, a3]
  have c1'' : cellH h3 ⟨r, 0 + 1, none⟩ = some (.string (tx p.v)) := by simp [cellH, a3]
  have s3 : SemP PG (binOp .add T_string (.string (tx (([0] ++ be p.k.length 1) ++ p.k))) (.string (tx (be p.v.length 1)))) = some (.string (tx ((([0] ++ be p.k.length 1) ++ p.k) ++ be p.v.length 1))) := add_tx (by simp [be_len]; omega)
  have s4 : SemP PG (binOp .add T_string (.string (tx ((([0] ++ be p.k.length 1) ++ p.k) ++ be p.v.length 1))) (.string (tx p.v))) = some (.string (tx (leafT p))) := by
    rw [add_tx (by simp [be_len]; omega)]
    congr 3
    simp [leafT, be1]
  have s1' := s1
  simp only [T_string.load, c0'', c1'', true_and, s3, s4, popO_some, bindH_eq, condV_bool, condV_true, condV_false, yV_bool, gopV_tt, gopV_ff, gopV_tf, gopV_ft, pickV_t, pickV_f, pickV_bool, nilS_ptr, add_eq, sub_eq, mul_eq, lss_eq, leq_eq, gtr_eq, geq_eq, not_eq, minI_eq, maxI_eq, extract_0, extract_1, extract_2, eqlI, neqI, makeFunc_eq, decide_true, decide_false, if_true, if_false, Bool.false_eq_true, Bool.not_true, Bool.not_false, reduceIte, List.getElem?_toArray, List.getElem?_cons_zero, List.getElem?_cons_succ, Option.isSome_none, List.length_map]
  have u := (u1.trans u2).trans u3
  refine Sum_b_ok (H.ext u) (by simp [leafT]; omega) fun h' c' H' hc u' => ?_
  exact hk h' c' H' hc (u.upd.trans u')
theorem leftP_of {n j : Nat} (h2 : 2 ≤ n) (h1 : 2 ^ j < n) (h3 : ¬ 2 ^ j * 2 < n) : leftP n = 2 ^ j := by
  unfold leftP
  congr 1
  refine (Nat.log2_eq_iff (by omega)).2 ⟨by omega, ?_⟩
  rw [Nat.pow_succ]
  omega
theorem RLeft_ok {h : PH} {n : Nat} (h2 : 2 ≤ n) (hn : n ≤ 65536) {k : Value → PH → Prop} (hk : k (.int .i64 ((leftP n : Nat) : Int)) h) : CallsH PG id_carrackref08_Left #[.int .i64 (n : Int)] h k := by
  apply carrackref08_Left.call
  unfold carrackref08_Left
  refine ⟨fun vs h' => ∃ j : Nat, 2 ^ j < n ∧ vs = [.int .i64 (n : Int), .int .i64 ((2 ^ j : Nat) : Int)] ∧ h' = h, upTo n 1, ⟨0, by omega, rfl, rfl⟩, ?_⟩
  rintro ρ h' ⟨j, hj, hvs, rfl⟩
  simp only [List.map_cons, List.map_nil, List.cons.injEq, and_true] at hvs
  obtain ⟨v0, v3⟩ := hvs
  simp only [v0, v3, List.map_cons, List.map_nil]
  unfold carrackref08_Left_b2
  have hp : 0 < 2 ^ j := Nat.pow_pos (by decide)
  have e1 : IntKind.i64.wrap (((2 ^ j : Nat) : Int) * 2) = ((2 ^ (j + 1) : Nat) : Int) := by rw [i64_wrap (by omega) (by omega), Nat.pow_succ]; omega
  by_cases hl : 2 ^ (j + 1) < n
  · have g1 : (((2 ^ (j + 1) : Nat) : Int) < (n : Int)) = True := eq_true (by omega)
    simp only [e1, g1, popO_some, bindH_eq, condV_bool, condV_true, condV_false, yV_bool, gopV_tt, gopV_ff, gopV_tf, gopV_ft, pickV_t, pickV_f, pickV_bool, nilS_ptr, add_eq, sub_eq, mul_eq, lss_eq, leq_eq, gtr_eq, geq_eq, not_eq, minI_eq, maxI_eq, extract_0, extract_1, extract_2, eqlI, neqI, makeFunc_eq, decide_true, decide_false, if_true, if_false, Bool.false_eq_true, Bool.not_true, Bool.not_false, reduceIte, List.getElem?_toArray, List.getElem?_cons_zero, List.getElem?_cons_succ, Option.isSome_none, List.length_map]
    refine ⟨⟨j + 1, hl, rfl, by trivial⟩, ?_⟩
    simp only [upTo, List.getElem?_cons_succ, List.getElem?_cons_zero]
    rw [Nat.pow_succ]
    rw [Nat.pow_succ] at hl
    omega
  · have g1 : (((2 ^ (j + 1) : Nat) : Int) < (n : Int)) = False := eq_false (by omega)
    simp only [e1, g1, popO_some, bindH_eq, condV_bool, condV_true, condV_false, yV_bool, gopV_tt, gopV_ff, gopV_tf, gopV_ft, pickV_t, pickV_f, pickV_bool, nilS_ptr, add_eq, sub_eq, mul_eq, lss_eq, leq_eq, gtr_eq, geq_eq, not_eq, minI_eq, maxI_eq, extract_0, extract_1, extract_2, eqlI, neqI, makeFunc_eq, decide_true, decide_false, if_true, if_false, Bool.false_eq_true, Bool.not_true, Bool.not_false, reduceIte, List.getElem?_toArray, List.getElem?_cons_zero, List.getElem?_cons_succ, Option.isSome_none, List.length_map]
    rw [leftP_of h2 hj (by rw [Nat.pow_succ] at hl; exact hl)] at hk
    exact hk
theorem RDigest_ok : ∀ (n : Nat) {h : PH} {v : Value} {l : List Pr} {b m : Nat} {A : List Tx} {c : Bool} {K : List Nat}, l.length ≤ n → l ≠ [] → l.length ≤ 65536 → BkAt h b m A c K → SlR h 2 v (l.map Pr.cells) → (∀ a n c, v = .slice (some a) n c → a.block ∉ [b, m]) → Small l → ∀ {k : Value → PH → Prop},
    (∀ h' c', BkAt h' b m (digA l ++ A) c' K → (c = true → c' = true) → Upd [b, m] h h' → k (.string (tx (digP l))) h') → CallsH PG id_carrackref08_Digest #[.pointer (some ⟨b, 0, none⟩), v] h k
  | 0, _, _, l, _, _, _, _, _, h0, hne, _, _, _, _, _, _, _ => by
    have : l = [] := List.eq_nil_of_length_eq_zero (by omega)
    exact absurd this hne
  | n + 1, h, v, l, b, m, A, c, K, hn, hne, hl, H, S, hv, hs, k, hk => by
    apply carrackref08_Digest.call
    unfold carrackref08_Digest
    have lv := S.len (t' := T_int) T_sl_api_Pair.und
    rw [List.length_map] at lv
    have hpos : 0 < l.length := List.length_pos_iff.2 hne
    by_cases h1 : l.length = 1
    · have e1 : ((l.length : Int) == 1) = true := by simp [h1]
      obtain ⟨p, hp⟩ := List.length_eq_one_iff.1 h1
      obtain ⟨x, o, e2, -, -, e3⟩ := S.pair (j := 0) (p := p) (by rw [hp]; rfl)
      rw [show ((0 : Nat) : Int) = 0 from rfl] at e2
      simp only [lv, e1, e2, e3, popO_some, bindH_eq, condV_bool, condV_true, condV_false, yV_bool, gopV_tt, gopV_ff, gopV_tf, gopV_ft, pickV_t, pickV_f, pickV_bool, nilS_ptr, add_eq, sub_eq, mul_eq, lss_eq, leq_eq, gtr_eq, geq_eq, not_eq, minI_eq, maxI_eq, extract_0, extract_1, extract_2, eqlI, neqI, makeFunc_eq, decide_true, decide_false, if_true, if_false, Bool.false_eq_true, Bool.not_true, Bool.not_false, reduceIte, List.getElem?_toArray, List.getElem?_cons_zero, List.getElem?_cons_succ, Option.isSome_none, List.length_map]
      have hd : digP l = leafP p := by rw [digP, dif_neg (by omega), hp]; rfl
      have ha : digA l = [leafT p] := by rw [digA, dif_neg (by omega), hp]; rfl
      rw [hd, ha] at hk
      refine RLeaf_ok H (by have := hs p (by rw [hp]; simp); omega) fun h' c' H' hc u => hk h' c' H' hc u
    · have e1 : ((l.length : Int) == 1) = false := by simp; omega
      have h2 : 2 ≤ l.length := by omega
      simp only [lv, e1, popO_some, bindH_eq, condV_bool, condV_true, condV_false, yV_bool, gopV_tt, gopV_ff, gopV_tf, gopV_ft, pickV_t, pickV_f, pickV_bool, nilS_ptr, add_eq, sub_eq, mul_eq, lss_eq, leq_eq, gtr_eq, geq_eq, not_eq, minI_eq, maxI_eq, extract_0, extract_1, extract_2, eqlI, neqI, makeFunc_eq, decide_true, decide_false, if_true, if_false, Bool.false_eq_true, Bool.not_true, Bool.not_false, reduceIte, List.getElem?_toArray, List.getElem?_cons_zero, List.getElem?_cons_succ, Option.isSome_none, List.length_map]
      refine RLeft_ok h2 hl ?_
      have hlt := leftP_lt h2
      obtain ⟨v1, s1, t1, x1⟩ := S.cut (lo := none) (hi := some (.int .i64 ((leftP l.length : Nat) : Int))) (l := 0) (m := leftP l.length) T_sl_api_Pair.und T_api_Pair.info T_api_Pair.size (.inl ⟨rfl, rfl⟩) (.inr ⟨_, rfl⟩) (by omega) (by simp; omega)
      obtain ⟨v2, s2, t2, x2⟩ := S.cut (lo := some (.int .i64 ((leftP l.length : Nat) : Int))) (hi := none) (l := leftP l.length) (m := l.length) T_sl_api_Pair.und T_api_Pair.info T_api_Pair.size (.inr ⟨_, rfl⟩) (.inl ⟨rfl, by simp⟩) (by omega) (by simp)
      rw [List.drop_zero, ← List.map_take] at t1
      rw [← List.map_take, ← List.map_drop, List.take_length] at t2
      have hv1 : ∀ a n c, v1 = .slice (some a) n c → a.block ∉ [b, m] := fun a n c e => by
        obtain ⟨x0, n0, c0, e0, e5⟩ := x1 a n c e
        rw [e5]; exact hv _ _ _ e0
      have hv2 : ∀ a n c, v2 = .slice (some a) n c → a.block ∉ [b, m] := fun a n c e => by
        obtain ⟨x0, n0, c0, e0, e5⟩ := x2 a n c e
        rw [e5]; exact hv _ _ _ e0
      simp only [s1, s2, popO_some, bindH_eq, condV_bool, condV_true, condV_false, yV_bool, gopV_tt, gopV_ff, gopV_tf, gopV_ft, pickV_t, pickV_f, pickV_bool, nilS_ptr, add_eq, sub_eq, mul_eq, lss_eq, leq_eq, gtr_eq, geq_eq, not_eq, minI_eq, maxI_eq, extract_0, extract_1, extract_2, eqlI, neqI, makeFunc_eq, decide_true, decide_false, if_true, if_false, Bool.false_eq_true, Bool.not_true, Bool.not_false, reduceIte, List.getElem?_toArray, List.getElem?_cons_zero, List.getElem?_cons_succ, Option.isSome_none, List.length_map]
      have hd : digP l = bothP (digP (l.take (leftP l.length))) (digP (l.drop (leftP l.length))) := by rw [digP, dif_pos h2]
      have ha : digA l = bothT (digP (l.take (leftP l.length))) (digP (l.drop (leftP l.length))) :: (digA (l.drop (leftP l.length)) ++ digA (l.take (leftP l.length))) := by rw [digA, dif_pos h2]
      rw [hd, ha] at hk
      refine RDigest_ok n (by simp; omega) (List.ne_nil_of_length_pos (by rw [List.length_take]; omega)) (by simp; omega) H t1 hv1 (fun p hp => hs p (List.mem_of_mem_take hp)) fun h1 c1 H1 hc1 u1 => ?_
      have a1 : SemP PG (binOp .add T_string (.string (tx [1])) (.string (tx (digP (l.take (leftP l.length)))))) = some (.string (tx ([1] ++ digP (l.take (leftP l.length))))) := add_tx (by rw [digP_len]; decide)
      simp only [tx1, a1, popO_some, bindH_eq, condV_bool, condV_true, condV_false, yV_bool, gopV_tt, gopV_ff, gopV_tf, gopV_ft, pickV_t, pickV_f, pickV_bool, nilS_ptr, add_eq, sub_eq, mul_eq, lss_eq, leq_eq, gtr_eq, geq_eq, not_eq, minI_eq, maxI_eq, extract_0, extract_1, extract_2, eqlI, neqI, makeFunc_eq, decide_true, decide_false, if_true, if_false, Bool.false_eq_true, Bool.not_true, Bool.not_false, reduceIte, List.getElem?_toArray, List.getElem?_cons_zero, List.getElem?_cons_succ, Option.isSome_none, List.length_map]
      refine RDigest_ok n (by simp; omega) (List.ne_nil_of_length_pos (by rw [List.length_drop]; omega)) (by simp; omega) H1 (t2.upd u1 hv2) hv2 (fun p hp => hs p (List.mem_of_mem_drop hp)) fun h2 c2 H2 hc2 u2 => ?_
      have a2 : SemP PG (binOp .add T_string (.string (tx ([1] ++ digP (l.take (leftP l.length))))) (.string (tx (digP (l.drop (leftP l.length)))))) = some (.string (tx (bothT (digP (l.take (leftP l.length))) (digP (l.drop (leftP l.length)))))) := by
        rw [add_tx (by rw [List.length_append, digP_len, digP_len]; decide)]; rfl
      simp only [a2, popO_some, bindH_eq, condV_bool, condV_true, condV_false, yV_bool, gopV_tt, gopV_ff, gopV_tf, gopV_ft, pickV_t, pickV_f, pickV_bool, nilS_ptr, add_eq, sub_eq, mul_eq, lss_eq, leq_eq, gtr_eq, geq_eq, not_eq, minI_eq, maxI_eq, extract_0, extract_1, extract_2, eqlI, neqI, makeFunc_eq, decide_true, decide_false, if_true, if_false, Bool.false_eq_true, Bool.not_true, Bool.not_false, reduceIte, List.getElem?_toArray, List.getElem?_cons_zero, List.getElem?_cons_succ, Option.isSome_none, List.length_map]
      refine Sum_b_ok H2 (by simp [bothT, digP_len]) fun h3 c3 H3 hc3 u3 => ?_
      rw [bothP_eq] at hk
      refine hk h3 c3 ?_ (fun h => hc3 (hc2 (hc1 h))) ((u1.trans u2).trans u3)
      rw [List.cons_append, List.append_assoc]
      exact H3
theorem RTop_ok {h : PH} {b m : Nat} {A : List Tx} {c : Bool} {K : List Nat} (H : BkAt h b m A c K) {n : Nat} {d : Tx} (hn : n ≤ 1000000) (hd : d.length ≤ 1000000) {k : Value → PH → Prop}
    (hk : ∀ h' c', BkAt h' b m (topT n d :: A) c' K → (c = true → c' = true) → Upd [b, m] h h' → k (.string (tx (topP n d))) h') : CallsH PG id_carrackref08_Top #[.pointer (some ⟨b, 0, none⟩), .int .i64 (n : Int), .string (tx d)] h k := by
  apply carrackref08_Top.call
  unfold carrackref08_Top
  have g1 : ((n : Int) < 0) = False := eq_false (by omega)
  have w1 : IntKind.u64.wrap (n : Int) = (n : Int) := u64_wrap (by omega) (by omega)
  simp only [g1, popO_some, bindH_eq, condV_bool, condV_true, condV_false, yV_bool, gopV_tt, gopV_ff, gopV_tf, gopV_ft, pickV_t, pickV_f, pickV_bool, nilS_ptr, add_eq, sub_eq, mul_eq, lss_eq, leq_eq, gtr_eq, geq_eq, not_eq, minI_eq, maxI_eq, extract_0, extract_1, extract_2, eqlI, neqI, makeFunc_eq, decide_true, decide_false, if_true, if_false, Bool.false_eq_true, Bool.not_true, Bool.not_false, reduceIte, List.getElem?_toArray, List.getElem?_cons_zero, List.getElem?_cons_succ, Option.isSome_none, List.length_map]
  unfold carrackref08_Top_k2
  simp only [cv_int_u64, w1, popO_some, bindH_eq, condV_bool, condV_true, condV_false, yV_bool, gopV_tt, gopV_ff, gopV_tf, gopV_ft, pickV_t, pickV_f, pickV_bool, nilS_ptr, add_eq, sub_eq, mul_eq, lss_eq, leq_eq, gtr_eq, geq_eq, not_eq, minI_eq, maxI_eq, extract_0, extract_1, extract_2, eqlI, neqI, makeFunc_eq, decide_true, decide_false, if_true, if_false, Bool.false_eq_true, Bool.not_true, Bool.not_false, reduceIte, List.getElem?_toArray, List.getElem?_cons_zero, List.getElem?_cons_succ, Option.isSome_none, List.length_map]
  refine RBytes_ok (n := n) (c := 8) (by omega) (by decide) fun h1 u1 => ?_
  have a1 : SemP PG (binOp .add T_string (.string (tx [2])) (.string (tx (be n 8)))) = some (.string (tx ([2] ++ be n 8))) := add_tx (by rw [be_len]; decide)
  have a2 : SemP PG (binOp .add T_string (.string (tx ([2] ++ be n 8))) (.string (tx d))) = some (.string (tx (topT n d))) := by
    rw [add_tx (by simp [be_len]; omega)]
    congr 3
  simp only [tx2, a1, a2, popO_some, bindH_eq, condV_bool, condV_true, condV_false, yV_bool, gopV_tt, gopV_ff, gopV_tf, gopV_ft, pickV_t, pickV_f, pickV_bool, nilS_ptr, add_eq, sub_eq, mul_eq, lss_eq, leq_eq, gtr_eq, geq_eq, not_eq, minI_eq, maxI_eq, extract_0, extract_1, extract_2, eqlI, neqI, makeFunc_eq, decide_true, decide_false, if_true, if_false, Bool.false_eq_true, Bool.not_true, Bool.not_false, reduceIte, List.getElem?_toArray, List.getElem?_cons_zero, List.getElem?_cons_succ, Option.isSome_none, List.length_map]
  refine Sum_b_ok (H.ext u1) (by simp [topT, be_len]; omega) fun h' c' H' hc u' => ?_
  exact hk h' c' H' hc (u1.upd.trans u')
theorem RRoot_ok {h : PH} {b m : Nat} {A : List Tx} {c : Bool} {K : List Nat} (H : BkAt h b m A c K) {v : Value} {l : List Pr} (hl : l.length ≤ 65536) (S : SlR h 2 v (l.map Pr.cells)) (hv : ∀ a n c, v = .slice (some a) n c → a.block ∉ [b, m]) (hs : Small l) {k : Value → PH → Prop}
    (hk : ∀ h' c', BkAt h' b m (rootA l ++ A) c' K → (c = true → c' = true) → Upd [b, m] h h' → k (.string (tx (rootP l))) h') : CallsH PG id_carrackref08_Root #[.pointer (some ⟨b, 0, none⟩), v] h k := by
  apply carrackref08_Root.call
  unfold carrackref08_Root
  have lv := S.len (t' := T_int) T_sl_api_Pair.und
  rw [List.length_map] at lv
  by_cases h0 : l = []
  · subst h0
    simp only [lv, List.length_nil, show (((0 : Nat) : Int) == 0) = true from rfl, popO_some, bindH_eq, condV_bool, condV_true, condV_false, yV_bool, gopV_tt, gopV_ff, gopV_tf, gopV_ft, pickV_t, pickV_f, pickV_bool, nilS_ptr, add_eq, sub_eq, mul_eq, lss_eq, leq_eq, gtr_eq, geq_eq, not_eq, minI_eq, maxI_eq, extract_0, extract_1, extract_2, eqlI, neqI, makeFunc_eq, decide_true, decide_false, if_true, if_false, Bool.false_eq_true, Bool.not_true, Bool.not_false, reduceIte, List.getElem?_toArray, List.getElem?_cons_zero, List.getElem?_cons_succ, Option.isSome_none, List.length_map]
    exact RTop_ok H (n := 0) (d := []) (by decide) (by decide) hk
  · have hpos : 0 < l.length := List.length_pos_iff.2 h0
    have e1 : ((l.length : Int) == 0) = false := by simp; omega
    simp only [lv, e1, popO_some, bindH_eq, condV_bool, condV_true, condV_false, yV_bool, gopV_tt, gopV_ff, gopV_tf, gopV_ft, pickV_t, pickV_f, pickV_bool, nilS_ptr, add_eq, sub_eq, mul_eq, lss_eq, leq_eq, gtr_eq, geq_eq, not_eq, minI_eq, maxI_eq, extract_0, extract_1, extract_2, eqlI, neqI, makeFunc_eq, decide_true, decide_false, if_true, if_false, Bool.false_eq_true, Bool.not_true, Bool.not_false, reduceIte, List.getElem?_toArray, List.getElem?_cons_zero, List.getElem?_cons_succ, Option.isSome_none, List.length_map]
    refine RDigest_ok l.length (Nat.le_refl _) h0 hl H S hv hs fun h1 c1 H1 hc1 u1 => ?_
    refine RTop_ok H1 (by omega) (by rw [digP_len]; decide) fun h2 c2 H2 hc2 u2 => ?_
    unfold rootP rootA at hk
    rw [if_neg h0] at hk
    exact hk h2 c2 (by rw [if_neg h0]; exact H2) (fun h => hc2 (hc1 h)) (u1.trans u2)
end Go.Proofs.YtllopddcpkhfjaaGreatDoor
/- the document's store: what it tells. -/
set_option linter.unusedSimpArgs false
set_option linter.unusedVariables false
namespace Go.Proofs.YtllopddcpkhfjaaGreatDoor
open Go Bld
set_option maxRecDepth 20000
theorem tx_e : ({ data := #[] } : ByteArray) = tx [] := rfl
theorem RGet_ok {h : PH} {b : Nat} {s : St} {G : List Nat} (H : RfAt h b s G) (key : Tx) {k : Value → PH → Prop} (hk : k (.tuple #[.string (tx (((getL s.now key).map Pr.v).getD [])), .bool (getL s.now key).isSome]) h) :
    CallsH PG id_carrackref11_Store_Get #[.pointer (some ⟨b, 0, none⟩), .string (tx key)] h k := by
  apply carrackref11_Store_Get.call
  unfold carrackref11_Store_Get
  obtain ⟨A, M, B, c⟩ := H.ok.up.cut key
  have hg := c.get H.ok.up
  refine find_ok H c ?_
  have hok := H.ok
  obtain ⟨nv, bv, bl, h1, h2, h3, h4, h5, h6, h7, h8, h9⟩ := H.here
  rcases c.mid with e | ⟨q, e, e2⟩
  · subst e
    have : getL s.now key = none := by
      cases hx : getL s.now key with
      | none => rfl
      | some y => rw [hx] at hg; simp at hg
    rw [this] at hk
    simp only [ne_eq, not_true_eq_false, popO_some, bindH_eq, condV_bool, condV_true, condV_false, yV_bool, gopV_tt, gopV_ff, gopV_tf, gopV_ft, pickV_t, pickV_f, pickV_bool, nilS_ptr, add_eq, sub_eq, mul_eq, lss_eq, leq_eq, gtr_eq, geq_eq, not_eq, minI_eq, maxI_eq, extract_0, extract_1, extract_2, eqlI, neqI, makeFunc_eq, decide_true, decide_false, if_true, if_false, Bool.false_eq_true, Bool.not_true, Bool.not_false, reduceIte, List.getElem?_toArray, List.getElem?_cons_zero, List.getElem?_cons_succ, Option.isSome_none, List.length_map]
    exact hk
  · subst e
    have hgs : getL s.now key = some q := (getL_some hok.up).2 ⟨by rw [c.eq]; simp, e2⟩
    rw [hgs] at hk
    have c0 : cellH h ⟨b, 0, none⟩ = some nv := by simp [cellH, h1]
    have hq : s.now[A.length]? = some q := by rw [c.eq]; simp
    obtain ⟨bb, o, p1, -, p3, -⟩ := h2.pair hq
    simp only [ne_eq, List.cons_ne_nil, not_false_eq_true, T_carrackref11_Store.f0, T_sl_api_Pair.load, c0, p1, T_api_Pair.f1, T_string.load, p3, popO_some, bindH_eq, condV_bool, condV_true, condV_false, yV_bool, gopV_tt, gopV_ff, gopV_tf, gopV_ft, pickV_t, pickV_f, pickV_bool, nilS_ptr, add_eq, sub_eq, mul_eq, lss_eq, leq_eq, gtr_eq, geq_eq, not_eq, minI_eq, maxI_eq, extract_0, extract_1, extract_2, eqlI, neqI, makeFunc_eq, decide_true, decide_false, if_true, if_false, Bool.false_eq_true, Bool.not_true, Bool.not_false, reduceIte, List.getElem?_toArray, List.getElem?_cons_zero, List.getElem?_cons_succ, Option.isSome_none, List.length_map]
    exact hk
theorem RAt_ok {h : PH} {b : Nat} {s : St} {G : List Nat} (H : RfAt h b s G) (x : Nat) (hx : x < 18446744073709551616) {k : Value → PH → Prop} (hn : sAt s x = none → k (.tuple #[.slice none 0 0, .int .i64 3]) h)
    (hk : ∀ l v, sAt s x = some l → SlR h 2 v (l.map Pr.cells) → inBlocks v G → k (.tuple #[v, .int .i64 0]) h) : CallsH PG id_carrackref11_Store_At #[.pointer (some ⟨b, 0, none⟩), .int .u64 (x : Int)] h k := by
  apply carrackref11_Store_At.call
  unfold carrackref11_Store_At
  have hok := H.ok
  have hok1 := hok.h1
  have hok2 := hok.h2
  have hok3 := hok.h3
  have hok4 := hok.h4
  have hnone := sAt_none hok1 (x := x)
  have H0 := H
  obtain ⟨nv, bv, bl, h1, h2, h3, h4, h5, h6, h7, h8, h9⟩ := H.here
  have c1 : cellH h ⟨b, 0 + 1, none⟩ = some (.int .u64 ((s.height - (s.blocks.length - 1) : Nat) : Int)) := by simp [cellH, h1]
  have c2 : cellH h ⟨b, 0 + 2, none⟩ = some bv := by simp [cellH, h1]
  by_cases d1 : x < s.height - (s.blocks.length - 1)
  · have g1 : ((x : Int) < ((s.height - (s.blocks.length - 1) : Nat) : Int)) = True := eq_true (by omega)
    simp only [T_carrackref11_Store.f1, T_uint64.load, c1, g1, yV_undef, gopV_none, popO_some, bindH_eq, condV_bool, condV_true, condV_false, yV_bool, gopV_tt, gopV_ff, gopV_tf, gopV_ft, pickV_t, pickV_f, pickV_bool, nilS_ptr, add_eq, sub_eq, mul_eq, lss_eq, leq_eq, gtr_eq, geq_eq, not_eq, minI_eq, maxI_eq, extract_0, extract_1, extract_2, eqlI, neqI, makeFunc_eq, decide_true, decide_false, if_true, if_false, Bool.false_eq_true, Bool.not_true, Bool.not_false, reduceIte, List.getElem?_toArray, List.getElem?_cons_zero, List.getElem?_cons_succ, Option.isSome_none, List.length_map]
    exact hn (hnone.2 (by omega))
  have g1 : ((x : Int) < ((s.height - (s.blocks.length - 1) : Nat) : Int)) = False := eq_false (by omega)
  simp only [T_carrackref11_Store.f1, T_uint64.load, c1, g1, popO_some, bindH_eq, condV_bool, condV_true, condV_false, yV_bool, gopV_tt, gopV_ff, gopV_tf, gopV_ft, pickV_t, pickV_f, pickV_bool, nilS_ptr, add_eq, sub_eq, mul_eq, lss_eq, leq_eq, gtr_eq, geq_eq, not_eq, minI_eq, maxI_eq, extract_0, extract_1, extract_2, eqlI, neqI, makeFunc_eq, decide_true, decide_false, if_true, if_false, Bool.false_eq_true, Bool.not_true, Bool.not_false, reduceIte, List.getElem?_toArray, List.getElem?_cons_zero, List.getElem?_cons_succ, Option.isSome_none, List.length_map]
  refine RHeight_ok H0 ?_
  by_cases d2 : s.height < x
  · have g2 : ((s.height : Int) < (x : Int)) = True := eq_true (by omega)
    simp only [g2, popO_some, bindH_eq, condV_bool, condV_true, condV_false, yV_bool, gopV_tt, gopV_ff, gopV_tf, gopV_ft, pickV_t, pickV_f, pickV_bool, nilS_ptr, add_eq, sub_eq, mul_eq, lss_eq, leq_eq, gtr_eq, geq_eq, not_eq, minI_eq, maxI_eq, extract_0, extract_1, extract_2, eqlI, neqI, makeFunc_eq, decide_true, decide_false, if_true, if_false, Bool.false_eq_true, Bool.not_true, Bool.not_false, reduceIte, List.getElem?_toArray, List.getElem?_cons_zero, List.getElem?_cons_succ, Option.isSome_none, List.length_map]
    exact hn (hnone.2 (by omega))
  have g2 : ((s.height : Int) < (x : Int)) = False := eq_false (by omega)
  have hs : ∃ l, sAt s x = some l := by
    cases e : sAt s x with
    | none => have := hnone.1 e; omega
    | some l => exact ⟨l, rfl⟩
  obtain ⟨l, hl⟩ := hs
  obtain ⟨-, hidx⟩ := sAt_lt hl
  have hi : s.blocks.length - 1 - (s.height - x) = x - (s.height - (s.blocks.length - 1)) := by omega
  have w1 : IntKind.u64.wrap ((x : Int) - ((s.height - (s.blocks.length - 1) : Nat) : Int)) = ((x - (s.height - (s.blocks.length - 1)) : Nat) : Int) := by rw [u64_wrap (by omega) (by omega)]; omega
  rw [hi] at hidx
  generalize x - (s.height - (s.blocks.length - 1)) = j at *
  rw [← h5, List.getElem?_map] at hidx
  obtain ⟨⟨v, l'⟩, hy, e⟩ := Option.map_eq_some_iff.1 hidx
  simp only at e
  subst e
  have hmem := List.mem_of_getElem? hy
  obtain ⟨pa, p1, p2⟩ := h3.loadCell (t := T_sl_sl_api_Pair) (k := .u64) (j := (j : Int)) (x := v) T_sl_sl_api_Pair.und T_sl_api_Pair.info T_sl_api_Pair.size T_sl_api_Pair.und rfl (by omega) (by rw [Int.toNat_natCast, List.getElem?_map, hy]; rfl)
  simp only [g2, T_carrackref11_Store.f1, T_carrackref11_Store.f2, T_uint64.load, T_sl_sl_api_Pair.load, c1, c2, w1, p1, p2, popO_some, bindH_eq, condV_bool, condV_true, condV_false, yV_bool, gopV_tt, gopV_ff, gopV_tf, gopV_ft, pickV_t, pickV_f, pickV_bool, nilS_ptr, add_eq, sub_eq, mul_eq, lss_eq, leq_eq, gtr_eq, geq_eq, not_eq, minI_eq, maxI_eq, extract_0, extract_1, extract_2, eqlI, neqI, makeFunc_eq, decide_true, decide_false, if_true, if_false, Bool.false_eq_true, Bool.not_true, Bool.not_false, reduceIte, List.getElem?_toArray, List.getElem?_cons_zero, List.getElem?_cons_succ, Option.isSome_none, List.length_map]
  exact hk _ v hl (h4 _ hmem).1 (h4 _ hmem).2
theorem RSRoot_ok {h : PH} {b : Nat} {s : St} {G : List Nat} (H : RfAt h b s G) {bk m : Nat} {A : List Tx} {c : Bool} {K : List Nat} (B : BkAt h bk m A c K) (hd : ∀ x ∈ G, x ≠ bk ∧ x ≠ m) (x : Nat) (hx : x < 18446744073709551616) {k : Value → PH → Prop} (hn : sAt s x = none → k (.tuple #[.string (tx []), .int .i64 3]) h)
    (hk : ∀ l h' c', sAt s x = some l → BkAt h' bk m (rootA l ++ A) c' K → (c = true → c' = true) → Upd [bk, m] h h' → k (.tuple #[.string (tx (rootP l)), .int .i64 0]) h') : CallsH PG id_carrackref11_Store_Root #[.pointer (some ⟨b, 0, none⟩), .pointer (some ⟨bk, 0, none⟩), .int .u64 (x : Int)] h k := by
  apply carrackref11_Store_Root.call
  unfold carrackref11_Store_Root
  refine RAt_ok H x hx (fun hs => ?_) (fun l v hs S hv => ?_)
  · simp only [show ((3 : Int) != 0) = true from rfl, popO_some, bindH_eq, condV_bool, condV_true, condV_false, yV_bool, gopV_tt, gopV_ff, gopV_tf, gopV_ft, pickV_t, pickV_f, pickV_bool, nilS_ptr, add_eq, sub_eq, mul_eq, lss_eq, leq_eq, gtr_eq, geq_eq, not_eq, minI_eq, maxI_eq, extract_0, extract_1, extract_2, eqlI, neqI, makeFunc_eq, decide_true, decide_false, if_true, if_false, Bool.false_eq_true, Bool.not_true, Bool.not_false, reduceIte, List.getElem?_toArray, List.getElem?_cons_zero, List.getElem?_cons_succ, Option.isSome_none, List.length_map]
    exact hn hs
  · simp only [show ((0 : Int) != 0) = false from rfl, bne_self_eq_false, popO_some, bindH_eq, condV_bool, condV_true, condV_false, yV_bool, gopV_tt, gopV_ff, gopV_tf, gopV_ft, pickV_t, pickV_f, pickV_bool, nilS_ptr, add_eq, sub_eq, mul_eq, lss_eq, leq_eq, gtr_eq, geq_eq, not_eq, minI_eq, maxI_eq, extract_0, extract_1, extract_2, eqlI, neqI, makeFunc_eq, decide_true, decide_false, if_true, if_false, Bool.false_eq_true, Bool.not_true, Bool.not_false, reduceIte, List.getElem?_toArray, List.getElem?_cons_zero, List.getElem?_cons_succ, Option.isSome_none, List.length_map]
    have hb := H.ok.blk l (by
      obtain ⟨-, h2⟩ := sAt_lt hs
      exact List.mem_of_getElem? h2)
    refine RRoot_ok B (by omega) S (fun a n c e => by
      have := hd _ (hv a n c e)
      simp [this]) (fun p hp => by have := hb.2.1 p hp; unfold Fit at this; omega) fun h' c' B' hc u => ?_
    exact hk l h' c' hs B' hc u
set_option maxHeartbeats 2000000 in
theorem StorePlays_ok {h : PH} (hK : KAt h) (first height : Nat) (hf : first < 18446744073709551616) (hh : height < 18446744073709551616) {key : Tx} {v : Value} {l : List Ac} (S : SlR h 3 v (l.map Ac.cells)) {k : Value → PH → Prop} (hk : ∀ h', Ext h h' → k (.bool true) h') :
    CallsH PG id_carracklaw11_StorePlays #[.int .u64 (first : Int), v, .string (tx key), .int .u64 (height : Int)] h k := by
  apply carracklaw11_StorePlays.call
  unfold carracklaw11_StorePlays
  refine awake_ok hK fun h1 u1 => ?_
  simp only [popO_some, bindH_eq, condV_bool, condV_true, condV_false, yV_bool, gopV_tt, gopV_ff, gopV_tf, gopV_ft, pickV_t, pickV_f, pickV_bool, nilS_ptr, add_eq, sub_eq, mul_eq, lss_eq, leq_eq, gtr_eq, geq_eq, not_eq, minI_eq, maxI_eq, extract_0, extract_1, extract_2, eqlI, neqI, makeFunc_eq, decide_true, decide_false, if_true, if_false, Bool.false_eq_true, Bool.not_true, Bool.not_false, reduceIte, List.getElem?_toArray, List.getElem?_cons_zero, List.getElem?_cons_succ, Option.isSome_none, List.length_map]
  refine few_ok (S.ext u1) (fun hfew => ?_) (fun _ => by simp only [yV_undef, gopV_none, popO_some, bindH_eq, condV_bool, condV_true, condV_false, yV_bool, gopV_tt, gopV_ff, gopV_tf, gopV_ft, pickV_t, pickV_f, pickV_bool, nilS_ptr, add_eq, sub_eq, mul_eq, lss_eq, leq_eq, gtr_eq, geq_eq, not_eq, minI_eq, maxI_eq, extract_0, extract_1, extract_2, eqlI, neqI, makeFunc_eq, decide_true, decide_false, if_true, if_false, Bool.false_eq_true, Bool.not_true, Bool.not_false, reduceIte, List.getElem?_toArray, List.getElem?_cons_zero, List.getElem?_cons_succ, Option.isSome_none, List.length_map]; exact hk _ u1)
  by_cases dk : 300 < key.length
  · have g : ((300 : Int) < (key.length : Int)) = True := eq_true (by omega)
    simp only [T_string.len, tx_size, g, popO_some, bindH_eq, condV_bool, condV_true, condV_false, yV_bool, gopV_tt, gopV_ff, gopV_tf, gopV_ft, pickV_t, pickV_f, pickV_bool, nilS_ptr, add_eq, sub_eq, mul_eq, lss_eq, leq_eq, gtr_eq, geq_eq, not_eq, minI_eq, maxI_eq, extract_0, extract_1, extract_2, eqlI, neqI, makeFunc_eq, decide_true, decide_false, if_true, if_false, Bool.false_eq_true, Bool.not_true, Bool.not_false, reduceIte, List.getElem?_toArray, List.getElem?_cons_zero, List.getElem?_cons_succ, Option.isSome_none, List.length_map]
    exact hk _ u1
  have g : ((300 : Int) < (key.length : Int)) = False := eq_false (by omega)
  simp only [T_string.len, tx_size, g, popO_some, bindH_eq, condV_bool, condV_true, condV_false, yV_bool, gopV_tt, gopV_ff, gopV_tf, gopV_ft, pickV_t, pickV_f, pickV_bool, nilS_ptr, add_eq, sub_eq, mul_eq, lss_eq, leq_eq, gtr_eq, geq_eq, not_eq, minI_eq, maxI_eq, extract_0, extract_1, extract_2, eqlI, neqI, makeFunc_eq, decide_true, decide_false, if_true, if_false, Bool.false_eq_true, Bool.not_true, Bool.not_false, reduceIte, List.getElem?_toArray, List.getElem?_cons_zero, List.getElem?_cons_succ, Option.isSome_none, List.length_map]
  refine StNew_ok first hf (hK.ext u1) fun a h2 F2 H2 f2 u2 => ?_
  refine RNew_ok first hf fun b h3 G3 R3 f3 u3 => ?_
  have D := duo_new H2 R3 f3 u3
  have e3 := (u1.trans u2).trans u3
  have fK : Fresh h (F2 ++ b :: G3) := fun x hx => by
    rcases List.mem_append.1 hx with hx | hx
    · exact u1.none (f2 x hx)
    · exact (u1.trans u2).none (f3 x hx)
  simp only [ptrNil, popO_some, bindH_eq, condV_bool, condV_true, condV_false, yV_bool, gopV_tt, gopV_ff, gopV_tf, gopV_ft, pickV_t, pickV_f, pickV_bool, nilS_ptr, add_eq, sub_eq, mul_eq, lss_eq, leq_eq, gtr_eq, geq_eq, not_eq, minI_eq, maxI_eq, extract_0, extract_1, extract_2, eqlI, neqI, makeFunc_eq, decide_true, decide_false, if_true, if_false, Bool.false_eq_true, Bool.not_true, Bool.not_false, reduceIte, List.getElem?_toArray, List.getElem?_cons_zero, List.getElem?_cons_succ, Option.isSome_none, List.length_map]
  have lv := S.len (t' := T_int) T_sl_carrackref11_Act.und
  rw [List.length_map] at lv
  have h60 := hfew.few
  refine ⟨fun vs h' => ∃ (i : Nat) (s : St) (K : List Nat), i ≤ l.length ∧ vs = [v, .string (tx key), .int .u64 (height : Int), .pointer (some ⟨a, 0, none⟩), .pointer (some ⟨b, 0, none⟩), .int .i64 (i : Int)] ∧ DuoAt h' a b s K ∧ Fresh h K ∧ Ext h h', upTo l.length 5, ⟨0, _, _, by omega, rfl, D, fK, e3⟩, ?_⟩
  rintro ρ h' ⟨i, s, K, hi, hvs, D, fK, u⟩
  simp only [List.map_cons, List.map_nil, List.cons.injEq, and_true] at hvs
  obtain ⟨v1, v2, v3, v9, v10, v11⟩ := hvs
  simp only [v1, v2, v3, v9, v10, v11, List.map_cons, List.map_nil]
  unfold carracklaw11_StorePlays_b25
  by_cases hl : i < l.length
  · have g1 : ((i : Int) < (l.length : Int)) = True := eq_true (by omega)
    have gi : IntKind.i64.wrap ((i : Int) + 1) = ((i + 1 : Nat) : Int) := by rw [i64_wrap (by omega) (by omega)]; omega
    obtain ⟨pb, po, p1, -, -, p4⟩ := (S.ext u).act (j := i) (p := l[i]) (List.getElem?_eq_getElem hl)
    generalize l[i] = c at *
    simp only [lv, g1, p1, p4, popO_some, bindH_eq, condV_bool, condV_true, condV_false, yV_bool, gopV_tt, gopV_ff, gopV_tf, gopV_ft, pickV_t, pickV_f, pickV_bool, nilS_ptr, add_eq, sub_eq, mul_eq, lss_eq, leq_eq, gtr_eq, geq_eq, not_eq, minI_eq, maxI_eq, extract_0, extract_1, extract_2, eqlI, neqI, makeFunc_eq, decide_true, decide_false, if_true, if_false, Bool.false_eq_true, Bool.not_true, Bool.not_false, reduceIte, List.getElem?_toArray, List.getElem?_cons_zero, List.getElem?_cons_succ, Option.isSome_none, List.length_map]
    refine duo_ok (hK.ext u) D c fun h5 K5 D5 u5 k5 => ?_
    have e5 := u.fresh u5 fK
    have f5 := fK.grow u k5
    generalize step s c = s' at *
    obtain ⟨F, G, H, R, hFG, rfl⟩ := D5.here
    obtain ⟨nv, bv, bl, r1, r2, r3, r4, r5, r6, r7, r8, r9⟩ := R.here
    simp only [popO_some, bindH_eq, condV_bool, condV_true, condV_false, yV_bool, gopV_tt, gopV_ff, gopV_tf, gopV_ft, pickV_t, pickV_f, pickV_bool, nilS_ptr, add_eq, sub_eq, mul_eq, lss_eq, leq_eq, gtr_eq, geq_eq, not_eq, minI_eq, maxI_eq, extract_0, extract_1, extract_2, eqlI, neqI, makeFunc_eq, decide_true, decide_false, if_true, if_false, Bool.false_eq_true, Bool.not_true, Bool.not_false, reduceIte, List.getElem?_toArray, List.getElem?_cons_zero, List.getElem?_cons_succ, Option.isSome_none, List.length_map]
    refine Height_ok H ?_
    refine RHeight_ok R ?_
    have c0 : cellH h5 ⟨b, 0, none⟩ = some nv := by simp [cellH, r1]
    have c2 : cellH h5 ⟨b, 0 + 2, none⟩ = some bv := by simp [cellH, r1]
    have ln := r2.len (t' := T_int) T_sl_api_Pair.und
    have lb := r3.len (t' := T_int) T_sl_sl_api_Pair.und
    rw [List.length_map] at ln lb
    rw [show bl.length = s'.blocks.length by rw [← r5, List.length_map]] at lb
    simp only [neqI, bne_self_eq_false, T_carrackref11_Store.f0, T_sl_api_Pair.load, c0, ln, popO_some, bindH_eq, condV_bool, condV_true, condV_false, yV_bool, gopV_tt, gopV_ff, gopV_tf, gopV_ft, pickV_t, pickV_f, pickV_bool, nilS_ptr, add_eq, sub_eq, mul_eq, lss_eq, leq_eq, gtr_eq, geq_eq, not_eq, minI_eq, maxI_eq, extract_0, extract_1, extract_2, eqlI, neqI, makeFunc_eq, decide_true, decide_false, if_true, if_false, Bool.false_eq_true, Bool.not_true, Bool.not_false, reduceIte, List.getElem?_toArray, List.getElem?_cons_zero, List.getElem?_cons_succ, Option.isSome_none, List.length_map]
    refine SLen_ok H ?_
    refine ⟨fun _ => by simp only [T_sl_api_Pair.load, c0], ?_⟩
    simp only [neqI, bne_self_eq_false, T_carrackref11_Store.f2, T_sl_sl_api_Pair.load, c2, lb, popO_some, bindH_eq, condV_bool, condV_true, condV_false, yV_bool, gopV_tt, gopV_ff, gopV_tf, gopV_ft, pickV_t, pickV_f, pickV_bool, nilS_ptr, add_eq, sub_eq, mul_eq, lss_eq, leq_eq, gtr_eq, geq_eq, not_eq, minI_eq, maxI_eq, extract_0, extract_1, extract_2, eqlI, neqI, makeFunc_eq, decide_true, decide_false, if_true, if_false, Bool.false_eq_true, Bool.not_true, Bool.not_false, reduceIte, List.getElem?_toArray, List.getElem?_cons_zero, List.getElem?_cons_succ, Option.isSome_none, List.length_map]
    refine Blocks_ok H ?_
    refine ⟨fun _ => by simp only [T_sl_sl_api_Pair.load, c2], ?_⟩
    simp only [neqI, bne_self_eq_false, popO_some, bindH_eq, condV_bool, condV_true, condV_false, yV_bool, gopV_tt, gopV_ff, gopV_tf, gopV_ft, pickV_t, pickV_f, pickV_bool, nilS_ptr, add_eq, sub_eq, mul_eq, lss_eq, leq_eq, gtr_eq, geq_eq, not_eq, minI_eq, maxI_eq, extract_0, extract_1, extract_2, eqlI, neqI, makeFunc_eq, decide_true, decide_false, if_true, if_false, Bool.false_eq_true, Bool.not_true, Bool.not_false, reduceIte, List.getElem?_toArray, List.getElem?_cons_zero, List.getElem?_cons_succ, Option.isSome_none, List.length_map]
    refine Get_ok H key ?_
    simp only [popO_some, bindH_eq, condV_bool, condV_true, condV_false, yV_bool, gopV_tt, gopV_ff, gopV_tf, gopV_ft, pickV_t, pickV_f, pickV_bool, nilS_ptr, add_eq, sub_eq, mul_eq, lss_eq, leq_eq, gtr_eq, geq_eq, not_eq, minI_eq, maxI_eq, extract_0, extract_1, extract_2, eqlI, neqI, makeFunc_eq, decide_true, decide_false, if_true, if_false, Bool.false_eq_true, Bool.not_true, Bool.not_false, reduceIte, List.getElem?_toArray, List.getElem?_cons_zero, List.getElem?_cons_succ, Option.isSome_none, List.length_map]
    refine RGet_ok R key ?_
    simp only [popO_some, bindH_eq, condV_bool, condV_true, condV_false, yV_bool, gopV_tt, gopV_ff, gopV_tf, gopV_ft, pickV_t, pickV_f, pickV_bool, nilS_ptr, add_eq, sub_eq, mul_eq, lss_eq, leq_eq, gtr_eq, geq_eq, not_eq, minI_eq, maxI_eq, extract_0, extract_1, extract_2, eqlI, neqI, makeFunc_eq, decide_true, decide_false, if_true, if_false, Bool.false_eq_true, Bool.not_true, Bool.not_false, reduceIte, List.getElem?_toArray, List.getElem?_cons_zero, List.getElem?_cons_succ, Option.isSome_none, List.length_map]
    have fin : ∀ (h6 : PH), Ext h5 h6 → ∃ (i' : Nat) (s2 : St) (K2 : List Nat), i' ≤ l.length ∧ [v, (.string (tx key) : Value), .int .u64 (height : Int), .pointer (some ⟨a, 0, none⟩), .pointer (some ⟨b, 0, none⟩), .int .i64 ((i + 1 : Nat) : Int)] = [v, .string (tx key), .int .u64 (height : Int), .pointer (some ⟨a, 0, none⟩), .pointer (some ⟨b, 0, none⟩), .int .i64 (i' : Int)] ∧ DuoAt h6 a b s2 K2 ∧ Fresh h K2 ∧ Ext h h6 := fun h6 u6 =>
      ⟨i + 1, s', _, by omega, rfl, D5.ext u6, f5, e5.trans u6⟩
    have mu : ∀ h6 : PH, upTo l.length 5 [v, (.string (tx key) : Value), .int .u64 (height : Int), .pointer (some ⟨a, 0, none⟩), .pointer (some ⟨b, 0, none⟩), .int .i64 ((i + 1 : Nat) : Int)] h6 < upTo l.length 5 [v, (.string (tx key) : Value), .int .u64 (height : Int), .pointer (some ⟨a, 0, none⟩), .pointer (some ⟨b, 0, none⟩), .int .i64 (i : Int)] h' := fun h6 => by
      simp only [upTo, List.getElem?_cons_succ, List.getElem?_cons_zero]
      omega
    have nb : ∀ (x y : Operand) (p : Bool) (hq : PH), SemE PG hq (binS .neq T_bool x y (.bool p) (.bool p)) = some (.bool false) := fun x y p hq => by cases p <;> rfl
    refine At_ok H height hh (fun hs v6 h6 F6 O6 f6 u6 => ?_) (fun lb6 v6 h6 F6 hs O6 f6 u6 => ?_)
    · simp only [popO_some, bindH_eq, condV_bool, condV_true, condV_false, yV_bool, gopV_tt, gopV_ff, gopV_tf, gopV_ft, pickV_t, pickV_f, pickV_bool, nilS_ptr, add_eq, sub_eq, mul_eq, lss_eq, leq_eq, gtr_eq, geq_eq, not_eq, minI_eq, maxI_eq, extract_0, extract_1, extract_2, eqlI, neqI, makeFunc_eq, decide_true, decide_false, if_true, if_false, Bool.false_eq_true, Bool.not_true, Bool.not_false, reduceIte, List.getElem?_toArray, List.getElem?_cons_zero, List.getElem?_cons_succ, Option.isSome_none, List.length_map]
      refine RAt_ok (R.ext u6) height hh (fun _ => ?_) (fun lx vx hs2 => by rw [hs] at hs2; cases hs2)
      simp only [neqStr, nb, decide_true, popO_some, bindH_eq, condV_bool, condV_true, condV_false, yV_bool, gopV_tt, gopV_ff, gopV_tf, gopV_ft, pickV_t, pickV_f, pickV_bool, nilS_ptr, add_eq, sub_eq, mul_eq, lss_eq, leq_eq, gtr_eq, geq_eq, not_eq, minI_eq, maxI_eq, extract_0, extract_1, extract_2, eqlI, neqI, makeFunc_eq, decide_true, decide_false, if_true, if_false, Bool.false_eq_true, Bool.not_true, Bool.not_false, reduceIte, List.getElem?_toArray, List.getElem?_cons_zero, List.getElem?_cons_succ, Option.isSome_none, List.length_map]
      refine Pairs_ok O6.slR (OwnR.nil (e := T_api_Pair)).slR ?_
      simp only [neqI, bne_self_eq_false, gi, popO_some, bindH_eq, condV_bool, condV_true, condV_false, yV_bool, gopV_tt, gopV_ff, gopV_tf, gopV_ft, pickV_t, pickV_f, pickV_bool, nilS_ptr, add_eq, sub_eq, mul_eq, lss_eq, leq_eq, gtr_eq, geq_eq, not_eq, minI_eq, maxI_eq, extract_0, extract_1, extract_2, eqlI, neqI, makeFunc_eq, decide_true, decide_false, if_true, if_false, Bool.false_eq_true, Bool.not_true, Bool.not_false, reduceIte, List.getElem?_toArray, List.getElem?_cons_zero, List.getElem?_cons_succ, Option.isSome_none, List.length_map]
      exact ⟨fin h6 u6, mu h6⟩
    · simp only [popO_some, bindH_eq, condV_bool, condV_true, condV_false, yV_bool, gopV_tt, gopV_ff, gopV_tf, gopV_ft, pickV_t, pickV_f, pickV_bool, nilS_ptr, add_eq, sub_eq, mul_eq, lss_eq, leq_eq, gtr_eq, geq_eq, not_eq, minI_eq, maxI_eq, extract_0, extract_1, extract_2, eqlI, neqI, makeFunc_eq, decide_true, decide_false, if_true, if_false, Bool.false_eq_true, Bool.not_true, Bool.not_false, reduceIte, List.getElem?_toArray, List.getElem?_cons_zero, List.getElem?_cons_succ, Option.isSome_none, List.length_map]
      refine RAt_ok (R.ext u6) height hh (fun hs2 => by rw [hs] at hs2; cases hs2) (fun lx vx hs2 Sx hvx => ?_)
      rw [hs] at hs2
      obtain rfl := Option.some.inj hs2
      simp only [neqStr, nb, decide_true, popO_some, bindH_eq, condV_bool, condV_true, condV_false, yV_bool, gopV_tt, gopV_ff, gopV_tf, gopV_ft, pickV_t, pickV_f, pickV_bool, nilS_ptr, add_eq, sub_eq, mul_eq, lss_eq, leq_eq, gtr_eq, geq_eq, not_eq, minI_eq, maxI_eq, extract_0, extract_1, extract_2, eqlI, neqI, makeFunc_eq, decide_true, decide_false, if_true, if_false, Bool.false_eq_true, Bool.not_true, Bool.not_false, reduceIte, List.getElem?_toArray, List.getElem?_cons_zero, List.getElem?_cons_succ, Option.isSome_none, List.length_map]
      refine Pairs_ok O6.slR Sx ?_
      simp only [neqI, bne_self_eq_false, gi, popO_some, bindH_eq, condV_bool, condV_true, condV_false, yV_bool, gopV_tt, gopV_ff, gopV_tf, gopV_ft, pickV_t, pickV_f, pickV_bool, nilS_ptr, add_eq, sub_eq, mul_eq, lss_eq, leq_eq, gtr_eq, geq_eq, not_eq, minI_eq, maxI_eq, extract_0, extract_1, extract_2, eqlI, neqI, makeFunc_eq, decide_true, decide_false, if_true, if_false, Bool.false_eq_true, Bool.not_true, Bool.not_false, reduceIte, List.getElem?_toArray, List.getElem?_cons_zero, List.getElem?_cons_succ, Option.isSome_none, List.length_map]
      exact ⟨fin h6 u6, mu h6⟩
  · have g1 : ((i : Int) < (l.length : Int)) = False := eq_false (by omega)
    simp only [lv, g1, popO_some, bindH_eq, condV_bool, condV_true, condV_false, yV_bool, gopV_tt, gopV_ff, gopV_tf, gopV_ft, pickV_t, pickV_f, pickV_bool, nilS_ptr, add_eq, sub_eq, mul_eq, lss_eq, leq_eq, gtr_eq, geq_eq, not_eq, minI_eq, maxI_eq, extract_0, extract_1, extract_2, eqlI, neqI, makeFunc_eq, decide_true, decide_false, if_true, if_false, Bool.false_eq_true, Bool.not_true, Bool.not_false, reduceIte, List.getElem?_toArray, List.getElem?_cons_zero, List.getElem?_cons_succ, Option.isSome_none, List.length_map]
    obtain ⟨F, G, H, R, hFG, rfl⟩ := D.here
    have endP : ∀ (d : Tx) (e : Int) (h6 : PH) (x y : Operand) (x' y' : Operand), Ext h h6 → popO (SemE PG h6 (binS BinOp.eql T_string x y (.string (tx d)) (.string (tx d)))) fun v184 =>
        gopV (yV v184) true (fun k187 => k187 (.int .i64 e) h6) h6 fun v185 h186 => gopV (yV v184) true (fun k190 => k190 (.int .i64 e) h186) h186 fun v188 h189 =>
        gopV (yV v184) true (fun k193 => popO (SemE PG h189 (binS BinOp.eql T_int x' y' v185 v188)) fun v194 => k193 v194 h189) h189 fun v191 h192 => popO (pickV v184 v191 (Value.bool false)) fun v195 => k v195 h192 := by
      intro d e h6 x y x' y' u6
      simp only [eqlStr, decide_true, beq_self_eq_true, popO_some, bindH_eq, condV_bool, condV_true, condV_false, yV_bool, gopV_tt, gopV_ff, gopV_tf, gopV_ft, pickV_t, pickV_f, pickV_bool, nilS_ptr, add_eq, sub_eq, mul_eq, lss_eq, leq_eq, gtr_eq, geq_eq, not_eq, minI_eq, maxI_eq, extract_0, extract_1, extract_2, eqlI, neqI, makeFunc_eq, decide_true, decide_false, if_true, if_false, Bool.false_eq_true, Bool.not_true, Bool.not_false, reduceIte, List.getElem?_toArray, List.getElem?_cons_zero, List.getElem?_cons_succ, Option.isSome_none, List.length_map]
      exact hk _ u6
    refine StRoot_ok H height hh (fun hs h6 u6 => ?_) (fun lb h6 hs u6 => ?_)
    · simp only [popO_some, bindH_eq, condV_bool, condV_true, condV_false, yV_bool, gopV_tt, gopV_ff, gopV_tf, gopV_ft, pickV_t, pickV_f, pickV_bool, nilS_ptr, add_eq, sub_eq, mul_eq, lss_eq, leq_eq, gtr_eq, geq_eq, not_eq, minI_eq, maxI_eq, extract_0, extract_1, extract_2, eqlI, neqI, makeFunc_eq, decide_true, decide_false, if_true, if_false, Bool.false_eq_true, Bool.not_true, Bool.not_false, reduceIte, List.getElem?_toArray, List.getElem?_cons_zero, List.getElem?_cons_succ, Option.isSome_none, List.length_map]
      refine BNew_ok fun h7 bk m K7 B7 f7 u7 => ?_
      have R7 := (R.ext u6).ext u7
      refine RSRoot_ok R7 B7 (fun x hx => ⟨fun e => ?_, fun e => ?_⟩) height hh (fun _ => ?_) (fun lx hx cx hs2 => by rw [hs] at hs2; cases hs2)
      · exact (R.ext u6).known x (by simp [hx]) (f7 x (by simp [e]))
      · exact (R.ext u6).known x (by simp [hx]) (f7 x (by simp [e]))
      · simp only [popO_some, bindH_eq, condV_bool, condV_true, condV_false, yV_bool, gopV_tt, gopV_ff, gopV_tf, gopV_ft, pickV_t, pickV_f, pickV_bool, nilS_ptr, add_eq, sub_eq, mul_eq, lss_eq, leq_eq, gtr_eq, geq_eq, not_eq, minI_eq, maxI_eq, extract_0, extract_1, extract_2, eqlI, neqI, makeFunc_eq, decide_true, decide_false, if_true, if_false, Bool.false_eq_true, Bool.not_true, Bool.not_false, reduceIte, List.getElem?_toArray, List.getElem?_cons_zero, List.getElem?_cons_succ, Option.isSome_none, List.length_map]
        have := endP [] 3 h7 (.tmp 137) (.tmp 138) (.tmp 141) (.tmp 142) ((u.trans u6).trans u7)
        exact this
    · simp only [popO_some, bindH_eq, condV_bool, condV_true, condV_false, yV_bool, gopV_tt, gopV_ff, gopV_tf, gopV_ft, pickV_t, pickV_f, pickV_bool, nilS_ptr, add_eq, sub_eq, mul_eq, lss_eq, leq_eq, gtr_eq, geq_eq, not_eq, minI_eq, maxI_eq, extract_0, extract_1, extract_2, eqlI, neqI, makeFunc_eq, decide_true, decide_false, if_true, if_false, Bool.false_eq_true, Bool.not_true, Bool.not_false, reduceIte, List.getElem?_toArray, List.getElem?_cons_zero, List.getElem?_cons_succ, Option.isSome_none, List.length_map]
      refine BNew_ok fun h7 bk m K7 B7 f7 u7 => ?_
      have R7 := (R.ext u6).ext u7
      refine RSRoot_ok R7 B7 (fun x hx => ⟨fun e => ?_, fun e => ?_⟩) height hh (fun hs2 => by rw [hs] at hs2; cases hs2) (fun lx hx cx hs2 Bx hcx ux => ?_)
      · exact (R.ext u6).known x (by simp [hx]) (f7 x (by simp [e]))
      · exact (R.ext u6).known x (by simp [hx]) (f7 x (by simp [e]))
      · rw [hs] at hs2
        obtain rfl := Option.some.inj hs2
        simp only [popO_some, bindH_eq, condV_bool, condV_true, condV_false, yV_bool, gopV_tt, gopV_ff, gopV_tf, gopV_ft, pickV_t, pickV_f, pickV_bool, nilS_ptr, add_eq, sub_eq, mul_eq, lss_eq, leq_eq, gtr_eq, geq_eq, not_eq, minI_eq, maxI_eq, extract_0, extract_1, extract_2, eqlI, neqI, makeFunc_eq, decide_true, decide_false, if_true, if_false, Bool.false_eq_true, Bool.not_true, Bool.not_false, reduceIte, List.getElem?_toArray, List.getElem?_cons_zero, List.getElem?_cons_succ, Option.isSome_none, List.length_map]
        have e7 := (u.trans u6).trans u7
        have := endP (rootP lb) 0 hx (.tmp 137) (.tmp 138) (.tmp 141) (.tmp 142) (e7.fresh ux fun x hx => (u.trans u6).none (f7 x (by simp only [List.mem_cons, List.not_mem_nil, or_false] at hx ⊢; rcases hx with h | h <;> simp [h])))
        exact this
end Go.Proofs.YtllopddcpkhfjaaGreatDoor
/- store: the card of StorePlays: whatever is set, deleted and committed, each call is told as the document says, and what is known behind it too. -/
set_option linter.unusedSimpArgs false
set_option linter.unusedVariables false
namespace Go.Proofs.YtllopddcpkhfjaaGreatDoor
open Go
theorem StorePlays_row {h : PH} (hK : KAt h) (a : Int) {v : Value} {rows : List (List Value)} (S : SlR h 3 v rows) (c : Tx) (d : Int) (wa : (Lit.int .u64 a).wf = true) {l : List Ac} (e : rows = l.map Ac.cells) (wd : (Lit.int .u64 d).wf = true) {k : Value → PH → Prop} (hk : ∀ h', Ext h h' → k (.bool true) h') :
    CallsH PG id_carracklaw11_StorePlays #[.int .u64 a, v, .string (tx c), .int .u64 d] h k := by
  obtain ⟨n, rfl, hn⟩ := wf_nat wa
  obtain ⟨m, rfl, hm⟩ := wf_nat wd
  subst e
  exact StorePlays_ok hK n m hn hm S hk
end Go.Proofs.YtllopddcpkhfjaaGreatDoor
namespace Go.Proofs.YtllopddcpkhfjaaGreatDoor.storePlays
open Go Go.ChangeShapes Go.WideShapes Go.ChangeAt Go.WideMaps Go.WideElems Go.RowKit
theorem own : ownKnob Tryz.prog.godebug = none := by kernel_rfl
set_option maxRecDepth 100000 in
theorem lifted (os : Os) (started : os.Started) (H : Type) (enc : TypeId × Value → H) :
    ReturnsInHanded {} Tryz.checked os 3 .any (fun w args => (Rows.storePlaysSpec.pre enc Tryz.prog Tryz.f3 [] false w args ∧ laidMetH Tryz.prog laidL w) ∧ sizedMet enc Tryz.prog Tryz.f3 (OpenSpec.ofChange Rows.storePlaysSpec) false w args)
      (Rows.storePlaysSpec.post enc Tryz.prog Tryz.f3 false true false false) := by
  refine returnsInHanded_of_change_and (C := Tryz.checked) (X := fun w _ => laidMetH Tryz.prog laidL w) (fun _ _ _ hh h => h.of_heap hh) own started (by kernel_rfl) Tryz.func3
    (ChangeSpec.witness_shaped (enc := enc) (C := Tryz.checked) (os := os) (X := fun w _ => laidMetH Tryz.prog laidL w) false (World.doorLaid Tryz.prog 400 os) #[.int .u64 0, .slice none 0 0, .string ⟨#[]⟩, .int .u64 0] 8 rfl (World.shaped_of_RefB (by kernel_rfl) (by kernel_rfl)) (by kernel_rfl) (by kernel_rfl) (by kernel_rfl) (door_met os _)) ?_
  intro W base args ds gs before hval0 hW _ _ hL _
  have hval : ∀ (j : Nat) t v, Tryz.f3.params[j]? = some t → args[j]? = some v → Value.okWide Tryz.prog W .any base t v := hval0
  have hW' := hW
  obtain ⟨p, q, hA0, hV, rfl, hfz, hnd⟩ := hW
  have hA : DataW.TrodAll enc Tryz.prog W 0 (fun _ => true) true Tryz.f3.params.toList args.toList ds p := hA0
  rw [Tryz.params3] at hA hval
  obtain ⟨v0, vs0, d0, ds0, p0, q0, hargs, rfl, rfl, h0, r0⟩ := trodAll_cons hA
  obtain ⟨v1, vs1, d1, ds1, p1, q1, rfl, rfl, rfl, h1, r1⟩ := trodAll_cons r0
  obtain ⟨v2, vs2, d2, ds2, p2, q2, rfl, rfl, rfl, h2, r2⟩ := trodAll_cons r1
  obtain ⟨v3, vs3, d3, ds3, p3, q3, rfl, rfl, rfl, h3, r3⟩ := trodAll_cons r2
  obtain ⟨rfl, rfl, rfl⟩ := trodAll_nil r3
  obtain rfl : args = #[v0, v1, v2, v3] := by cases args; simp_all
  obtain ⟨rfl, rfl⟩ := trodVars_none hV
  obtain ⟨a0, rfl, rfl, rfl, w0⟩ := open_int Tryz.underlying22 (hval 0 22 v0 rfl rfl) h0
  obtain ⟨rows1, s1, o1⟩ := open_rd T_sl_carrackref11_Act.und (by rw [T_carrackref11_Act.cells]; decide) (hval 1 _ v1 rfl rfl) h1
  rw [T_carrackref11_Act.cells] at s1
  obtain ⟨xs1, e1⟩ := Ac.of_rows o1
  obtain ⟨b2, rfl, -, -, z2⟩ := Go.ChangeMaps.open_string Tryz.underlying9 (hval 2 9 v2 rfl rfl) h2
  obtain ⟨a2, rfl⟩ : ∃ l, b2 = tx l := ⟨_, (tx_list b2).symm⟩
  obtain ⟨a3, rfl, rfl, rfl, w3⟩ := open_int Tryz.underlying22 (hval 3 22 v3 rfl rfl) h3
  refine (calls_kept (StorePlays_row (kOf hL) a0 s1 a2 a3 w0 e1 w3 fun h' hx => ⟨rfl, hx⟩)).mono fun e W' ⟨he, hk⟩ => ?_
  subst he
  exact ⟨_, rfl, post_of_kept kidsPG fullPG (by rw [Tryz.params3]; decide +kernel) Tryz.underlying4 (by kernel_rfl) rfl hW' hk rfl rfl rfl⟩
theorem over : Rows.storePlaysRow.holds Tryz.pinned (OpenSpec.ofChange Rows.storePlaysSpec) :=
  OpenClaim.holds_of_wide 3 Tryz.f3 rfl rfl rfl rfl rfl rfl rfl ⟨rfl, rfl, rfl, rfl, rfl⟩ rfl rfl rfl rfl rfl (by kernel_rfl) Tryz.func3 (by kernel_rfl)
    (of_decide_eq_true (by kernel_rfl)) (by unfold Func.isWrapper; first | (rw [if_pos (by decide +kernel)]; kernel_rfl) | (rw [if_neg (by decide +kernel)]; exact ⟨rfl, rfl⟩))
    (fun os started H enc _ => lifted os started H enc)
theorem proved : Rows.StorePlaysCardSaid :=
  Claim7.holds_tied_plain_at .later [] [.data] true (true, "18c358056a56f1bc5ee89c70e505dbddef0f4ec7ff663f0709eb6f4b702ac4ee") false
    over (fun _ h => by cases h) (by kernel_rfl) (fun _ h => by cases h) storePlays_row_tie rfl ⟨rfl, rfl⟩ (by kernel_rfl) rfl
    (fun f fn hf hfn => by
      obtain rfl : f = 3 := Option.some.inj ((show Tryz.prog.funcNamed Rows.storePlaysRow.func = some 3 by kernel_rfl).symm.trans hf) |>.symm
      obtain rfl : fn = Tryz.f3 := (Option.some.inj (Tryz.func3.symm.trans hfn)).symm
      exact ⟨by kernel_rfl, fun j t ht => by
        have hall : (Tryz.f3.params.toList.all fun u => !Tryz.prog.wantsStandIn u) = true := by kernel_rfl
        have hm : t ∈ Tryz.f3.params.toList := by simpa using Array.mem_of_getElem? ht
        exact (show Tryz.prog.wantsStandIn t = false by simpa using List.all_eq_true.1 hall t hm)⟩)
    (by kernel_rfl)
#print axioms proved
end Go.Proofs.YtllopddcpkhfjaaGreatDoor.storePlays
