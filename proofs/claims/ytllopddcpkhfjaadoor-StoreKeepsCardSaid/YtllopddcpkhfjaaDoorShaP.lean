/- sha: what is computed, in plain Lean. -/
import Derived.Test.YtllopddcpkhfjaaDoorHCom
import Derived.Test.YtllopddcpkhfjaaDoorHStr
set_option linter.unusedSimpArgs false
set_option linter.unusedVariables false
namespace Go.Proofs.YtllopddcpkhfjaaDoor
open Go
set_option maxRecDepth 20000
abbrev W := BitVec 32
def wv (x : W) : Value := .int .u32 (x.toNat : Int)
def tn (x : W) (n : Nat) : W := (x <<< (32 - n)) ||| (x >>> n)
def w4 (a b c d : UInt8) : W := ((((BitVec.ofNat 32 a.toNat) <<< 24) ||| ((BitVec.ofNat 32 b.toNat) <<< 16)) ||| ((BitVec.ofNat 32 c.toNat) <<< 8)) ||| (BitVec.ofNat 32 d.toNat)
def wat (b : List UInt8) (t : Nat) : W := w4 (b.getD (4 * t) 0) (b.getD (4 * t + 1) 0) (b.getD (4 * t + 2) 0) (b.getD (4 * t + 3) 0)
def nextW (l : List W) (t : Nat) : W :=
  let x := l.getD (t - 15) 0
  let y := l.getD (t - 2) 0
  ((l.getD (t - 16) 0 + ((tn x 7 ^^^ tn x 18) ^^^ (x >>> 3))) + l.getD (t - 7) 0) + ((tn y 17 ^^^ tn y 19) ^^^ (y >>> 10))
def wfront (b : List UInt8) (n : Nat) : List W := (List.range n).map (wat b)
def wmore (b : List UInt8) : Nat → List W
  | 0 => wfront b 16
  | n + 1 => wmore b n ++ [nextW (wmore b n) (n + 16)]
def wordsP (b : List UInt8) : List W := wmore b 48
theorem wfront_len (b : List UInt8) (n : Nat) : (wfront b n).length = n := by simp [wfront]
theorem wfront_succ (b : List UInt8) (n : Nat) : wfront b (n + 1) = wfront b n ++ [wat b n] := by simp [wfront, List.range_succ]
theorem wmore_len (b : List UInt8) : ∀ n, (wmore b n).length = n + 16
  | 0 => by simp [wmore, wfront_len]
  | n + 1 => by simp only [wmore, List.length_append, wmore_len b n, List.length_singleton]
theorem wordsP_len (b : List UInt8) : (wordsP b).length = 64 := wmore_len b 48
structure S8 where
  (a b c d e f g h : W)
def S8.l (s : S8) : List W := [s.a, s.b, s.c, s.d, s.e, s.f, s.g, s.h]
def S8.cells (s : S8) : List Value := s.l.map wv
def S8.add (s t : S8) : S8 := ⟨s.a + t.a, s.b + t.b, s.c + t.c, s.d + t.d, s.e + t.e, s.f + t.f, s.g + t.g, s.h + t.h⟩
def rnd (s : S8) (k w : W) : S8 :=
  let t1 := (((s.h + ((tn s.e 6 ^^^ tn s.e 11) ^^^ tn s.e 25)) + ((s.e &&& s.f) ^^^ (~~~s.e &&& s.g))) + k) + w
  let t2 := ((tn s.a 2 ^^^ tn s.a 13) ^^^ tn s.a 22) + (((s.a &&& s.b) ^^^ (s.a &&& s.c)) ^^^ (s.b &&& s.c))
  ⟨t1 + t2, s.a, s.b, s.c, s.d + t1, s.e, s.f, s.g⟩
def kT : List W := [
  0x428a2f98, 0x71374491, 0xb5c0fbcf, 0xe9b5dba5, 0x3956c25b, 0x59f111f1, 0x923f82a4, 0xab1c5ed5,
  0xd807aa98, 0x12835b01, 0x243185be, 0x550c7dc3, 0x72be5d74, 0x80deb1fe, 0x9bdc06a7, 0xc19bf174,
  0xe49b69c1, 0xefbe4786, 0x0fc19dc6, 0x240ca1cc, 0x2de92c6f, 0x4a7484aa, 0x5cb0a9dc, 0x76f988da,
  0x983e5152, 0xa831c66d, 0xb00327c8, 0xbf597fc7, 0xc6e00bf3, 0xd5a79147, 0x06ca6351, 0x14292967,
  0x27b70a85, 0x2e1b2138, 0x4d2c6dfc, 0x53380d13, 0x650a7354, 0x766a0abb, 0x81c2c92e, 0x92722c85,
  0xa2bfe8a1, 0xa81a664b, 0xc24b8b70, 0xc76c51a3, 0xd192e819, 0xd6990624, 0xf40e3585, 0x106aa070,
  0x19a4c116, 0x1e376c08, 0x2748774c, 0x34b0bcb5, 0x391c0cb3, 0x4ed8aa4a, 0x5b9cca4f, 0x682e6ff3,
  0x748f82ee, 0x78a5636f, 0x84c87814, 0x8cc70208, 0x90befffa, 0xa4506ceb, 0xbef9a3f7, 0xc67178f2]
theorem kT_len : kT.length = 64 := rfl
def rounds (ws : List W) (s : S8) : Nat → S8
  | 0 => s
  | n + 1 => rnd (rounds ws s n) (kT.getD n 0) (ws.getD n 0)
def mixP (s : S8) (b : List UInt8) : S8 := s.add (rounds (wordsP b) s 64)
def S0 : S8 := ⟨1779033703, 3144134277, 1013904242, 2773480762, 1359893119, 2600822924, 528734635, 1541459225⟩
/-- Whole blocks in; the rest. -/
def absorb (s : S8) (l : List UInt8) : S8 × List UInt8 := if h : 64 ≤ l.length then absorb (mixP s (l.take 64)) (l.drop 64) else (s, l)
termination_by l.length
decreasing_by simp; omega
theorem absorb_lt {s : S8} {l : List UInt8} (h : l.length < 64) : absorb s l = (s, l) := by rw [absorb, dif_neg (by omega)]
theorem absorb_ge {s : S8} {l : List UInt8} (h : 64 ≤ l.length) : absorb s l = absorb (mixP s (l.take 64)) (l.drop 64) := by rw [absorb, dif_pos h]
theorem absorb_app (s : S8) (a b : List UInt8) : absorb s (a ++ b) = absorb (absorb s a).1 ((absorb s a).2 ++ b) := by
  by_cases h : 64 ≤ a.length
  · have e1 : (a ++ b).take 64 = a.take 64 := by rw [List.take_append_of_le_length h]
    have e2 : (a ++ b).drop 64 = a.drop 64 ++ b := by rw [List.drop_append_of_le_length h]
    rw [absorb_ge (l := a ++ b) (by simp; omega), absorb_ge h, e1, e2]
    exact absorb_app (mixP s (a.take 64)) (a.drop 64) b
  · rw [absorb_lt (l := a) (by omega)]
termination_by a.length
decreasing_by simp; omega
theorem absorb_rest (s : S8) (a : List UInt8) : (absorb s a).2.length < 64 := by
  by_cases h : 64 ≤ a.length
  · rw [absorb_ge h]; exact absorb_rest _ _
  · rw [absorb_lt (by omega)]; show a.length < 64; omega
termination_by a.length
decreasing_by simp; omega
def wb (x : W) : List UInt8 := [UInt8.ofNat ((x >>> 24).toNat), UInt8.ofNat ((x >>> 16).toNat), UInt8.ofNat ((x >>> 8).toNat), UInt8.ofNat x.toNat]
def digestP (s : S8) : List UInt8 := s.l.flatMap wb
theorem digestP_len (s : S8) : (digestP s).length = 32 := rfl
def padP (n : Nat) : List UInt8 := 128 :: (List.replicate ((119 - n % 64) % 64) 0 ++ be (n * 8 % 18446744073709551616) 8)
def sha (l : List UInt8) : List UInt8 := digestP (absorb S0 (l ++ padP l.length)).1
theorem sha_len (l : List UInt8) : (sha l).length = 32 := rfl
/-! ### words of 32 bits -/
section
variable {P : Program} {t : TypeId} {x y : W} {h : PH}
theorem u32_wrap (x : Int) : IntKind.u32.wrap x = x % 4294967296 := by
  rfl
theorem ofInt_nat (x : W) : BitVec.ofInt 32 (x.toNat : Int) = x := by
  apply BitVec.eq_of_toInt_eq
  rw [BitVec.toInt_ofInt, BitVec.toInt_eq_toNat_bmod]
theorem w_add : SemP P (binOp .add t (wv x) (wv y)) = some (wv (x + y)) := by
  unfold wv
  rw [add_eq, u32_wrap, BitVec.toNat_add, ← Int.natCast_add]
  rfl
theorem w_wrap (x : W) : IntKind.u32.wrap (x.toNat : Int) = x.toNat := by
  rw [u32_wrap]
  have := x.isLt
  omega
theorem w_and : SemP P (binOp .and t (wv x) (wv y)) = some (wv (x &&& y)) := by
  have e : SemP P (binOp .and t (wv x) (wv y)) = some (.int .u32 (IntKind.u32.wrap ((BitVec.ofInt 32 (x.toNat : Int) &&& BitVec.ofInt 32 (y.toNat : Int)).toNat : Int))) := rfl
  rw [e, ofInt_nat, ofInt_nat, w_wrap]; rfl
theorem w_or : SemP P (binOp .or t (wv x) (wv y)) = some (wv (x ||| y)) := by
  have e : SemP P (binOp .or t (wv x) (wv y)) = some (.int .u32 (IntKind.u32.wrap ((BitVec.ofInt 32 (x.toNat : Int) ||| BitVec.ofInt 32 (y.toNat : Int)).toNat : Int))) := rfl
  rw [e, ofInt_nat, ofInt_nat, w_wrap]; rfl
theorem w_xor : SemP P (binOp .xor t (wv x) (wv y)) = some (wv (x ^^^ y)) := by
  have e : SemP P (binOp .xor t (wv x) (wv y)) = some (.int .u32 (IntKind.u32.wrap ((BitVec.ofInt 32 (x.toNat : Int) ^^^ BitVec.ofInt 32 (y.toNat : Int)).toNat : Int))) := rfl
  rw [e, ofInt_nat, ofInt_nat, w_wrap]; rfl
theorem w_not : SemP P (Op.unary .xor (wv x)) = some (wv (~~~x)) := by
  have e : SemP P (Op.unary .xor (wv x)) = some (.int .u32 (IntKind.u32.wrap ((BitVec.ofInt 32 4294967295 ^^^ BitVec.ofInt 32 (x.toNat : Int)).toNat : Int))) := rfl
  rw [e, ofInt_nat, w_wrap]
  have : BitVec.ofInt 32 4294967295 ^^^ x = ~~~x := by
    have : BitVec.ofInt 32 4294967295 = BitVec.allOnes 32 := by decide
    rw [this, BitVec.allOnes_xor]
  rw [this]; rfl
theorem w_shr {k : IntKind} {n : Nat} (hn : n ≤ 32) : SemP P (binOp .shr t (wv x) (.int k n)) = some (wv (x >>> n)) := by
  unfold wv
  rw [shr_eq (by omega)]
  congr 2
  rw [BitVec.toNat_ushiftRight, Nat.shiftRight_eq_div_pow]
  have e : min ((n : Int).toNat) (IntKind.u32.bits) = n := by
    show min n 32 = n
    omega
  rw [e, Int.fdiv_eq_ediv_of_nonneg _ (Int.pow_nonneg (by decide)), Int.natCast_ediv, Int.natCast_pow]
  rfl
theorem w_shl {k : IntKind} {n : Nat} (hn : n ≤ 32) : SemP P (binOp .shl t (wv x) (.int k n)) = some (wv (x <<< n)) := by
  unfold wv
  rw [shl_eq (by omega)]
  congr 2
  have e : min ((n : Int).toNat) (IntKind.u32.bits) = n := by
    show min n 32 = n
    omega
  rw [e, u32_wrap, BitVec.toNat_shiftLeft, Nat.shiftLeft_eq, Int.natCast_emod, Int.natCast_mul, Int.natCast_pow]
  rfl
end
end Go.Proofs.YtllopddcpkhfjaaDoor
