/- merkle: leaves, both, left, top. -/
import Derived.Test.YtllopddcpkhfjaaDoorShaS
import Derived.Test.YtllopddcpkhfjaaDoorHEq
set_option linter.unusedSimpArgs false
set_option linter.unusedVariables false
namespace Go.Proofs.YtllopddcpkhfjaaDoor
open Go Bld
set_option maxRecDepth 20000
abbrev Tx := List UInt8
structure Pr where
  (k v : Tx)
deriving DecidableEq
def Pr.cells (p : Pr) : List Value := [.string (tx p.k), .string (tx p.v)]
def Pr.val (p : Pr) : Value := .agg #[.string (tx p.k), .string (tx p.v)]
theorem Pr.rows (l : List Pr) : Rows 2 (l.map Pr.cells) := fun r hr => by
  obtain ⟨p, -, rfl⟩ := List.mem_map.1 hr; rfl
theorem Pr.isCell (l : List Pr) : ∀ r ∈ l.map Pr.cells, ∀ u ∈ r, isCell u = true := fun r hr u hu => by
  obtain ⟨p, -, rfl⟩ := List.mem_map.1 hr
  simp only [Pr.cells, List.mem_cons, List.not_mem_nil, or_false] at hu
  rcases hu with rfl | rfl <;> rfl
/-! ### texts in order -/
theorem bytesLess_eq : ∀ (x y : List UInt8), Op.bytesLess x y = decide (x < y)
  | [], [] => by simp [Op.bytesLess]
  | _ :: _, [] => by simp [Op.bytesLess]
  | [], _ :: _ => by simp [Op.bytesLess]
  | a :: x, b :: y => by
    rw [Op.bytesLess, bytesLess_eq x y]
    simp only [List.cons_lt_cons_iff]
    by_cases h1 : a < b <;> by_cases h2 : a = b <;> by_cases h3 : x < y <;> simp [h1, h2, h3]
theorem tx_toList (l : Tx) : (tx l).toList = l := by rw [ByteArray.toList_eq]; simp [tx]
theorem tx_total (a b : Tx) : a < b ∨ a = b ∨ b < a := by
  by_cases h1 : a < b
  · exact .inl h1
  · by_cases h2 : b < a
    · exact .inr (.inr h2)
    · exact .inr (.inl (List.le_antisymm h2 h1))
section
variable {P : Program} {t : TypeId} {a b : Tx} {h : PH}
theorem lss_tx : SemP P (binOp .lss t (.string (tx a)) (.string (tx b))) = some (.bool (decide (a < b))) := by
  have e : SemP P (binOp .lss t (.string (tx a)) (.string (tx b))) = some (.bool (Op.bytesLess (tx a).toList (tx b).toList)) := rfl
  rw [e, tx_toList, tx_toList, bytesLess_eq]
theorem geq_tx : SemP P (binOp .geq t (.string (tx a)) (.string (tx b))) = some (.bool (!decide (a < b))) := by
  have e : SemP P (binOp .geq t (.string (tx a)) (.string (tx b))) = some (.bool (!Op.bytesLess (tx a).toList (tx b).toList)) := rfl
  rw [e, tx_toList, tx_toList, bytesLess_eq]
theorem gtr_tx : SemP P (binOp .gtr t (.string (tx a)) (.string (tx b))) = some (.bool (decide (b < a))) := by
  have e : SemP P (binOp .gtr t (.string (tx a)) (.string (tx b))) = some (.bool (!(Op.bytesLess (tx a).toList (tx b).toList || (tx a).toList == (tx b).toList))) := rfl
  rw [e, tx_toList, tx_toList, bytesLess_eq]
  congr 2
  rcases tx_total a b with h | h | h
  · have h2 : ¬ b < a := List.lt_asymm h
    simp [h, h2]
  · subst h
    simp [List.lt_irrefl]
  · have h2 : ¬ a < b := List.lt_asymm h
    have h3 : a ≠ b := by rintro rfl; exact List.lt_irrefl _ h
    simp [h, h2, h3]
end
/-! ### one, both -/
theorem cv_int_8 (x : Int) : SemP PG (convert T_int T_uint8 (.int .i64 x)) = some (.int .u8 (IntKind.u8.wrap x)) := by kernel_rfl
theorem one_ok {h : PH} {n : Nat} {k : Value → PH → Prop} (hk : ∀ h', Ext h h' → k (.string (tx [UInt8.ofNat (n % 256)])) h') : CallsH PG id_merkle_one #[.int .i64 n] h k := by
  apply merkle_one.call
  unfold merkle_one
  simp only [cv_int_8, byte64, byte_lit, popO_some, bindH_eq, condV_bool, condV_true, condV_false, yV_bool, gopV_tt, gopV_ff, gopV_tf, gopV_ft, pickV_t, pickV_f, pickV_bool, nilS_ptr, add_eq, sub_eq, mul_eq, lss_eq, leq_eq, gtr_eq, geq_eq, not_eq, minI_eq, maxI_eq, extract_0, extract_1, extract_2, eqlI, neqI, makeFunc_eq, decide_true, decide_false, if_true, if_false, Bool.false_eq_true, Bool.not_true, Bool.not_false, reduceIte, List.getElem?_toArray, List.getElem?_cons_zero, List.getElem?_cons_succ, Option.isSome_none, List.length_map]
  intro r hr
  refine popO_pure ?_
  try rw [bindH_eq]
  have u : Ext h (h.set r (.cells #[.int .u8 ((UInt8.ofNat (n % 256)).toNat : Int)] T_uint8)) := Upd.new hr
  have s : SlR (h.set r (.cells #[.int .u8 ((UInt8.ofNat (n % 256)).toNat : Int)] T_uint8)) 1 (.slice (some ⟨r, 0, none⟩) 1 1) ([UInt8.ofNat (n % 256)].map bcell) := (OwnR.lit (bcell.rows [UInt8.ofNat (n % 256)]) set_same (by simp) (by decide) (by simp [bcell])).slR
  have hcv : SemE PG _ (convert T_sl_uint8 T_string (.slice (some ⟨r, 0, none⟩) 1 1)) = some (.string (tx [UInt8.ofNat (n % 256)])) := conv_bytes T_sl_uint8.und T_uint8.und T_string.und s
  rw [hcv, popO_some]
  exact hk _ u
theorem lit3s (a b c : ByteArray) : SemA PG (Instr.buildSlice T_sl_string 3 #[(0, .string a), (1, .string b), (2, .string c)]) = some (.cells #[.string a, .string b, .string c] T_string, fun r => pure (.slice (some ⟨r, 0, none⟩) 3 3)) := by kernel_rfl
theorem lit5s (a b c d e : ByteArray) : SemA PG (Instr.buildSlice T_sl_string 5 #[(0, .string a), (1, .string b), (2, .string c), (3, .string d), (4, .string e)]) = some (.cells #[.string a, .string b, .string c, .string d, .string e] T_string, fun r => pure (.slice (some ⟨r, 0, none⟩) 5 5)) := by kernel_rfl
def bothP (l r : Tx) : Tx := sha (1 :: (l ++ r))
def leafP (p : Pr) : Tx := sha (0 :: UInt8.ofNat (p.k.length % 256) :: (p.k ++ UInt8.ofNat (p.v.length % 256) :: p.v))
theorem both_ok {h : PH} {l r : Tx} (hK : KAt h) (hl : l.length + r.length ≤ 10000000) {k : Value → PH → Prop} (hk : ∀ h', Ext h h' → k (.string (tx (bothP l r))) h') : CallsH PG id_merkle_both #[.string (tx l), .string (tx r)] h k := by
  apply merkle_both.call
  unfold merkle_both
  simp only [lit3s, popO_some, bindH_eq, condV_bool, condV_true, condV_false, yV_bool, gopV_tt, gopV_ff, gopV_tf, gopV_ft, pickV_t, pickV_f, pickV_bool, nilS_ptr, add_eq, sub_eq, mul_eq, lss_eq, leq_eq, gtr_eq, geq_eq, not_eq, minI_eq, maxI_eq, extract_0, extract_1, extract_2, eqlI, neqI, makeFunc_eq, decide_true, decide_false, if_true, if_false, Bool.false_eq_true, Bool.not_true, Bool.not_false, reduceIte, List.getElem?_toArray, List.getElem?_cons_zero, List.getElem?_cons_succ, Option.isSome_none, List.length_map]
  intro b hb
  refine popO_pure ?_
  try rw [bindH_eq]
  have u : Ext h (h.set b (.cells #[.string ⟨#[1]⟩, .string (tx l), .string (tx r)] T_string)) := Upd.new hb
  have s : SlR (h.set b (.cells #[.string ⟨#[1]⟩, .string (tx l), .string (tx r)] T_string)) 1 (.slice (some ⟨b, 0, none⟩) 3 3) ([[1], l, r].map scell) := (OwnR.lit (scell.rows [[1], l, r]) set_same (by simp) (by decide) rfl).slR
  refine Sum_ok (hK.ext u) s (by simp; omega) fun h' u' => ?_
  have e : bothP l r = sha [[1], l, r].flatten := by simp [bothP]
  rw [e] at hk
  exact hk _ (u.trans u')
theorem pairBox (p : Pr) : Value.cells p.val = #[.string (tx p.k), .string (tx p.v)] := rfl
theorem Leaf_ok {h : PH} {p : Pr} (hK : KAt h) (hl : p.k.length + p.v.length ≤ 10000000) {k : Value → PH → Prop} (hk : ∀ h', Ext h h' → k (.string (tx (leafP p))) h') : CallsH PG id_merkle_Leaf #[p.val] h k := by
  apply merkle_Leaf.call
  unfold merkle_Leaf
  rw [pairBox]
  intro r hr
  try rw [bindH_eq]
  have u1 : Ext h (h.set r (.cells #[.string (tx p.k), .string (tx p.v)] T_api_Pair)) := Upd.new hr
  have a1 : (h.set r (.cells #[.string (tx p.k), .string (tx p.v)] T_api_Pair)) r = some (.cells #[.string (tx p.k), .string (tx p.v)] T_api_Pair (0, 0)) := set_same
  generalize h.set r (.cells #[.string (tx p.k), .string (tx p.v)] T_api_Pair) = h1 at *
  have c0 : cellH h1 ⟨r, 0, none⟩ = some (.string (tx p.k)) := by simp [cellH, a1]
  have c1 : cellH h1 ⟨r, 0 + 1, none⟩ = some (.string (tx p.v)) := by simp [cellH, a1]
  simp only [T_api_Pair.f0, T_api_Pair.f1, T_string.load, c0, c1, T_string.len, tx_size, popO_some, bindH_eq, condV_bool, condV_true, condV_false, yV_bool, gopV_tt, gopV_ff, gopV_tf, gopV_ft, pickV_t, pickV_f, pickV_bool, nilS_ptr, add_eq, sub_eq, mul_eq, lss_eq, leq_eq, gtr_eq, geq_eq, not_eq, minI_eq, maxI_eq, extract_0, extract_1, extract_2, eqlI, neqI, makeFunc_eq, decide_true, decide_false, if_true, if_false, Bool.false_eq_true, Bool.not_true, Bool.not_false, reduceIte, List.getElem?_toArray, List.getElem?_cons_zero, List.getElem?_cons_succ, Option.isSome_none, List.length_map]
  refine one_ok fun h2 u2 => ?_
  have a2 := u2.get a1
  have c0' : cellH h2 ⟨r, 0, none⟩ = some (.string (tx p.k)) := by simp [cellH, a2]
  have c1' : cellH h2 ⟨r, 0 + 1, none⟩ = some (.string (tx p.v)) := by simp [cellH, a2]
  simp only [T_string.load, c0', c1', true_and]
  refine one_ok fun h3 u3 => ?_
  have a3 := u3.get a2
  have c0'' : cellH h3 ⟨r, 0, none⟩ = some (.string (tx p.k)) := by simp [cellH, a3]
  have c1'' : cellH h3 ⟨r, 0 + 1, none⟩ = some (.string (tx p.v)) := by simp [cellH, a3]
  simp only [T_string.load, c0'', c1'', true_and, lit5s, popO_some, bindH_eq, condV_bool, condV_true, condV_false, yV_bool, gopV_tt, gopV_ff, gopV_tf, gopV_ft, pickV_t, pickV_f, pickV_bool, nilS_ptr, add_eq, sub_eq, mul_eq, lss_eq, leq_eq, gtr_eq, geq_eq, not_eq, minI_eq, maxI_eq, extract_0, extract_1, extract_2, eqlI, neqI, makeFunc_eq, decide_true, decide_false, if_true, if_false, Bool.false_eq_true, Bool.not_true, Bool.not_false, reduceIte, List.getElem?_toArray, List.getElem?_cons_zero, List.getElem?_cons_succ, Option.isSome_none, List.length_map]
  intro b hb
  refine popO_pure ?_
  try rw [bindH_eq]
  have u4 : Ext h3 (h3.set b (.cells #[.string ⟨#[0]⟩, .string (tx [UInt8.ofNat (p.k.length % 256)]), .string (tx p.k), .string (tx [UInt8.ofNat (p.v.length % 256)]), .string (tx p.v)] T_string)) := Upd.new hb
  have s : SlR (h3.set b (.cells #[.string ⟨#[0]⟩, .string (tx [UInt8.ofNat (p.k.length % 256)]), .string (tx p.k), .string (tx [UInt8.ofNat (p.v.length % 256)]), .string (tx p.v)] T_string)) 1 (.slice (some ⟨b, 0, none⟩) 5 5) ([[0], [UInt8.ofNat (p.k.length % 256)], p.k, [UInt8.ofNat (p.v.length % 256)], p.v].map scell) := (OwnR.lit (n := 5) (scell.rows [[0], [UInt8.ofNat (p.k.length % 256)], p.k, [UInt8.ofNat (p.v.length % 256)], p.v]) set_same (by simp) (by decide) rfl).slR
  have u := ((u1.trans u2).trans u3).trans u4
  refine Sum_ok (hK.ext u) s (by simp; omega) fun h' u' => ?_
  have e : leafP p = sha [[0], [UInt8.ofNat (p.k.length % 256)], p.k, [UInt8.ofNat (p.v.length % 256)], p.v].flatten := by simp [leafP]
  rw [e] at hk
  exact hk _ (u.trans u')
/-! ### how many bits -/
def lenP (x : Nat) : Nat := if x = 0 then 0 else Nat.log2 x + 1
theorem lenTab : (List.range 256).all (fun x => lit3[x]? == some (UInt8.ofNat (lenP x))) = true := by kernel_rfl
theorem lenTab' {x : Nat} (hx : x < 256) : lit3[x]? = some (UInt8.ofNat (lenP x)) := by
  have := List.all_eq_true.1 lenTab x (List.mem_range.2 hx)
  simpa using this
theorem lenP_lt {x : Nat} (hx : x < 256) : lenP x < 256 := by
  unfold lenP
  split
  · decide
  · have := Nat.log2_lt (n := x) (k := 8) (by omega)
    have := this.2 (by simpa using hx)
    omega
theorem lenP_shift {x : Nat} (h1 : 256 ≤ x) : lenP x = lenP (x / 256) + 8 := by
  have h2 : x / 256 ≠ 0 := by omega
  unfold lenP
  rw [if_neg (by omega), if_neg h2]
  have : Nat.log2 x = Nat.log2 (x / 256) + 8 := by
    rw [Nat.log2_eq_iff (by omega)]
    have a := (Nat.log2_eq_iff (n := x / 256) (k := Nat.log2 (x / 256)) h2).1 rfl
    rw [Nat.pow_add, Nat.pow_add, Nat.pow_add]
    rw [Nat.pow_add] at a
    omega
  omega
theorem cv_8_int (x : Int) : SemP PG (convert T_uint8 T_int (.int .u8 x)) = some (.int .i64 (IntKind.i64.wrap x)) := by kernel_rfl
theorem k11_ok {h : PH} {x n : Nat} (hx : x < 256) (hn : n ≤ 64) {k : Value → PH → Prop} (hk : k (.int .i64 ((n + lenP x : Nat) : Int)) h) : math_bits_Len64_k11 k (.int .u64 (x : Int)) (.int .i64 (n : Int)) h := by
  unfold math_bits_Len64_k11
  have e0 : (⟨lit3⟩ : ByteArray) = tx lit3.toList := by simp [tx]
  have e1 : IntKind.u8.wrap (x : Int) = x := by rw [u8_wrap]; omega
  have hl := lenP_lt hx
  have e2 : SemP PG (Instr.index T_string (.string ⟨lit3⟩) (.int .u8 (x : Int))) = some (.int .u8 ((UInt8.ofNat (lenP x)).toNat : Int)) := by
    rw [e0]
    exact index_tx T_string.und (by rw [Array.getElem?_toList]; exact lenTab' hx)
  have e3 : ((UInt8.ofNat (lenP x)).toNat : Int) = ((lenP x : Nat) : Int) := by rw [UInt8.toNat_ofNat']; congr 1; exact Nat.mod_eq_of_lt hl
  have e4 : IntKind.i64.wrap ((lenP x : Nat) : Int) = ((lenP x : Nat) : Int) := i64_wrap (by omega) (by omega)
  have e5 : IntKind.i64.wrap ((n : Int) + ((lenP x : Nat) : Int)) = ((n + lenP x : Nat) : Int) := by rw [i64_wrap (by omega) (by omega)]; omega
  simp only [cv_u64_8, e1, e2, e3, cv_8_int, e4, e5, popO_some, bindH_eq, condV_bool, condV_true, condV_false, yV_bool, gopV_tt, gopV_ff, gopV_tf, gopV_ft, pickV_t, pickV_f, pickV_bool, nilS_ptr, add_eq, sub_eq, mul_eq, lss_eq, leq_eq, gtr_eq, geq_eq, not_eq, minI_eq, maxI_eq, extract_0, extract_1, extract_2, eqlI, neqI, makeFunc_eq, decide_true, decide_false, if_true, if_false, Bool.false_eq_true, Bool.not_true, Bool.not_false, reduceIte, List.getElem?_toArray, List.getElem?_cons_zero, List.getElem?_cons_succ, Option.isSome_none, List.length_map]
  exact hk
theorem shr8 {n : Nat} : SemP PG (binOp .shr T_uint64 (.int .u64 (n : Int)) (.int .u64 8)) = some (.int .u64 ((n / 256 : Nat) : Int)) := by
  rw [shr_eq (by decide)]
  congr 2
  show (n : Int).fdiv (2 ^ 8) = _
  rw [Int.fdiv_eq_ediv_of_nonneg _ (by decide)]
  have : (2 : Int) ^ 8 = 256 := by rfl
  omega
theorem Len_ok {h : PH} {x : Nat} (hx : x < 65536) {k : Value → PH → Prop} (hk : k (.int .i64 ((lenP x : Nat) : Int)) h) : CallsH PG id_math_bits_Len #[.int .u64 (x : Int)] h k := by
  apply math_bits_Len.call
  unfold math_bits_Len
  simp only [popO_some, bindH_eq, condV_bool, condV_true, condV_false, yV_bool, gopV_tt, gopV_ff, gopV_tf, gopV_ft, pickV_t, pickV_f, pickV_bool, nilS_ptr, add_eq, sub_eq, mul_eq, lss_eq, leq_eq, gtr_eq, geq_eq, not_eq, minI_eq, maxI_eq, extract_0, extract_1, extract_2, eqlI, neqI, makeFunc_eq, decide_true, decide_false, if_true, if_false, Bool.false_eq_true, Bool.not_true, Bool.not_false, reduceIte, List.getElem?_toArray, List.getElem?_cons_zero, List.getElem?_cons_succ, Option.isSome_none, List.length_map]
  apply math_bits_Len64.call
  unfold math_bits_Len64
  have e1 : ((4294967296 : Int) ≤ (x : Int)) = False := eq_false (by omega)
  have e2 : ((65536 : Int) ≤ (x : Int)) = False := eq_false (by omega)
  simp only [e1, popO_some, bindH_eq, condV_bool, condV_true, condV_false, yV_bool, gopV_tt, gopV_ff, gopV_tf, gopV_ft, pickV_t, pickV_f, pickV_bool, nilS_ptr, add_eq, sub_eq, mul_eq, lss_eq, leq_eq, gtr_eq, geq_eq, not_eq, minI_eq, maxI_eq, extract_0, extract_1, extract_2, eqlI, neqI, makeFunc_eq, decide_true, decide_false, if_true, if_false, Bool.false_eq_true, Bool.not_true, Bool.not_false, reduceIte, List.getElem?_toArray, List.getElem?_cons_zero, List.getElem?_cons_succ, Option.isSome_none, List.length_map]
  unfold math_bits_Len64_k3
  simp only [e2, popO_some, bindH_eq, condV_bool, condV_true, condV_false, yV_bool, gopV_tt, gopV_ff, gopV_tf, gopV_ft, pickV_t, pickV_f, pickV_bool, nilS_ptr, add_eq, sub_eq, mul_eq, lss_eq, leq_eq, gtr_eq, geq_eq, not_eq, minI_eq, maxI_eq, extract_0, extract_1, extract_2, eqlI, neqI, makeFunc_eq, decide_true, decide_false, if_true, if_false, Bool.false_eq_true, Bool.not_true, Bool.not_false, reduceIte, List.getElem?_toArray, List.getElem?_cons_zero, List.getElem?_cons_succ, Option.isSome_none, List.length_map]
  unfold math_bits_Len64_k7
  by_cases h8 : 256 ≤ x
  · have e3 : ((256 : Int) ≤ (x : Int)) = True := eq_true (by omega)
    have e4 : IntKind.i64.wrap ((0 : Int) + 8) = ((8 : Nat) : Int) := rfl
    simp only [e3, shr8, e4, popO_some, bindH_eq, condV_bool, condV_true, condV_false, yV_bool, gopV_tt, gopV_ff, gopV_tf, gopV_ft, pickV_t, pickV_f, pickV_bool, nilS_ptr, add_eq, sub_eq, mul_eq, lss_eq, leq_eq, gtr_eq, geq_eq, not_eq, minI_eq, maxI_eq, extract_0, extract_1, extract_2, eqlI, neqI, makeFunc_eq, decide_true, decide_false, if_true, if_false, Bool.false_eq_true, Bool.not_true, Bool.not_false, reduceIte, List.getElem?_toArray, List.getElem?_cons_zero, List.getElem?_cons_succ, Option.isSome_none, List.length_map]
    refine k11_ok (by omega) (by decide) ?_
    rw [lenP_shift h8, Nat.add_comm] at hk
    exact hk
  · have e3 : ((256 : Int) ≤ (x : Int)) = False := eq_false (by omega)
    simp only [e3, popO_some, bindH_eq, condV_bool, condV_true, condV_false, yV_bool, gopV_tt, gopV_ff, gopV_tf, gopV_ft, pickV_t, pickV_f, pickV_bool, nilS_ptr, add_eq, sub_eq, mul_eq, lss_eq, leq_eq, gtr_eq, geq_eq, not_eq, minI_eq, maxI_eq, extract_0, extract_1, extract_2, eqlI, neqI, makeFunc_eq, decide_true, decide_false, if_true, if_false, Bool.false_eq_true, Bool.not_true, Bool.not_false, reduceIte, List.getElem?_toArray, List.getElem?_cons_zero, List.getElem?_cons_succ, Option.isSome_none, List.length_map]
    refine k11_ok (n := 0) (by omega) (by decide) ?_
    rw [Nat.zero_add]; exact hk
def leftP (n : Nat) : Nat := 2 ^ Nat.log2 (n - 1)
theorem leftP_lt {n : Nat} (h : 2 ≤ n) : 1 ≤ leftP n ∧ leftP n < n := by
  unfold leftP
  have := (Nat.log2_eq_iff (n := n - 1) (k := Nat.log2 (n - 1)) (by omega)).1 rfl
  have h2 : 0 < 2 ^ Nat.log2 (n - 1) := Nat.pow_pos (by decide)
  omega
theorem left_ok {h : PH} {n : Nat} (h2 : 2 ≤ n) (hn : n ≤ 65536) {k : Value → PH → Prop} (hk : k (.int .i64 ((leftP n : Nat) : Int)) h) : CallsH PG id_merkle_left #[.int .i64 (n : Int)] h k := by
  apply merkle_left.call
  unfold merkle_left
  have e1 : IntKind.i64.wrap ((n : Int) - 1) = ((n - 1 : Nat) : Int) := by rw [i64_wrap (by omega) (by omega)]; omega
  have e2 : IntKind.u64.wrap ((n - 1 : Nat) : Int) = ((n - 1 : Nat) : Int) := u64_wrap (by omega) (by omega)
  simp only [e1, cv_int_uint, e2, popO_some, bindH_eq, condV_bool, condV_true, condV_false, yV_bool, gopV_tt, gopV_ff, gopV_tf, gopV_ft, pickV_t, pickV_f, pickV_bool, nilS_ptr, add_eq, sub_eq, mul_eq, lss_eq, leq_eq, gtr_eq, geq_eq, not_eq, minI_eq, maxI_eq, extract_0, extract_1, extract_2, eqlI, neqI, makeFunc_eq, decide_true, decide_false, if_true, if_false, Bool.false_eq_true, Bool.not_true, Bool.not_false, reduceIte, List.getElem?_toArray, List.getElem?_cons_zero, List.getElem?_cons_succ, Option.isSome_none, List.length_map]
  refine Len_ok (by omega) ?_
  have hlt := leftP_lt h2
  have hlen : lenP (n - 1) = Nat.log2 (n - 1) + 1 := by unfold lenP; rw [if_neg (by omega)]
  have hlog : Nat.log2 (n - 1) < 16 := (Nat.log2_lt (by omega)).2 (by omega)
  have e3 : IntKind.i64.wrap (((lenP (n - 1) : Nat) : Int) - 1) = ((Nat.log2 (n - 1) : Nat) : Int) := by rw [i64_wrap (by omega) (by omega)]; omega
  have e4 : ∀ t, SemP PG (binOp .shl t (.int .i64 1) (.int .i64 ((Nat.log2 (n - 1) : Nat) : Int))) = some (.int .i64 ((leftP n : Nat) : Int)) := fun t => by
    rw [shl_eq (by omega)]
    have em : min (((Nat.log2 (n - 1) : Nat) : Int).toNat) (IntKind.i64.bits) = Nat.log2 (n - 1) := by
      show min _ 64 = _
      omega
    have ep : (1 : Int) * 2 ^ Nat.log2 (n - 1) = ((leftP n : Nat) : Int) := by
      unfold leftP
      rw [Int.one_mul, Int.natCast_pow]; rfl
    rw [em, ep, i64_wrap (by omega) (by omega)]
  simp only [e3, e4, popO_some, bindH_eq, condV_bool, condV_true, condV_false, yV_bool, gopV_tt, gopV_ff, gopV_tf, gopV_ft, pickV_t, pickV_f, pickV_bool, nilS_ptr, add_eq, sub_eq, mul_eq, lss_eq, leq_eq, gtr_eq, geq_eq, not_eq, minI_eq, maxI_eq, extract_0, extract_1, extract_2, eqlI, neqI, makeFunc_eq, decide_true, decide_false, if_true, if_false, Bool.false_eq_true, Bool.not_true, Bool.not_false, reduceIte, List.getElem?_toArray, List.getElem?_cons_zero, List.getElem?_cons_succ, Option.isSome_none, List.length_map]
  exact hk
end Go.Proofs.YtllopddcpkhfjaaDoor
