/- The texts of this claim, put together. -/
import Derived.Test.YtcoajnpchhmgjaaGreatDoorChFVC4
import Derived.Lib.UnsafeStr
set_option linter.unusedSimpArgs false
set_option linter.unusedVariables false
set_option linter.unusedSectionVars false
namespace Go.Proofs.YtcoajnpchhmgjaaGreatDoor
open Go
set_option maxRecDepth 20000
def P64 : List Nat := [2, 3, 5, 7, 11, 13, 17, 19, 23, 29, 31, 37, 41, 43, 47, 53, 59, 61, 67, 71, 73, 79, 83, 89, 97, 101, 103, 107, 109, 113, 127, 131, 137, 139, 149, 151, 157, 163, 167, 173, 179, 181, 191, 193, 197, 199, 211, 223, 227, 229, 233, 239, 241, 251, 257, 263, 269, 271, 277, 281, 283, 293, 307, 311]
def RT : List Nat := [5411319704, 6194414737, 7344290767, 8215976869, 9551921755, 10098905585, 11043570340, 11460697813, 12214315672, 13195500289, 13492127166, 14311783875, 14809980276, 15046980094, 15499789991, 16133124468, 16720292289, 16907126662, 17444216262, 17784676812, 17950125167, 18429019306, 18734950876, 19175934170, 19734090066, 20001703533, 20132865992, 20390182855, 20516441075, 20764397895, 21588763473, 21813078375, 22141143685, 22248366392, 22769593852, 22871018771, 23170020180, 23461497531, 23651862830, 23931792517, 24205322401, 24295138891, 24734567280, 24820601251, 24990902297, 25075189284, 25569408389, 26045227120, 26200031510, 26276752392, 26428864332, 26653801653, 26727943347, 27092625994, 27306805839, 27517677555, 27725365998, 27793908591, 27997534228, 28131656200, 28198240250, 28526537963, 28973835255, 29099129074]
def RS : List Nat := [6074000999, 7439101573, 9603838834, 11363415354, 14244795007, 15485724812, 17708603819, 18721328409]
def H8 : List W := [1779033703, 3144134277, 1013904242, 2773480762, 1359893119, 2600822924, 528734635, 1541459225]
theorem rt_all : (List.range 64).all (fun i => decide ((RT.getD i 0) ^ 3 ≤ P64.getD i 0 * 4294967296 ^ 3) && decide (P64.getD i 0 * 4294967296 ^ 3 < (RT.getD i 0 + 1) ^ 3) && decide (RT.getD i 0 % 4294967296 = (kT.getD i 0).toNat) && decide (P64.getD i 0 * 4294967296 ^ 3 < 68719476736 ^ 3) && decide (P64.getD i 0 < 4294967296)) = true := by kernel_rfl
theorem rs_all : (List.range 8).all (fun i => decide ((RS.getD i 0) ^ 2 ≤ P64.getD i 0 * 4294967296 ^ 2) && decide (P64.getD i 0 * 4294967296 ^ 2 < (RS.getD i 0 + 1) ^ 2) && decide (RS.getD i 0 % 4294967296 = (H8.getD i 0).toNat) && decide (P64.getD i 0 * 4294967296 ^ 2 < 68719476736 ^ 2)) = true := by kernel_rfl
def primesP : Nat → List Nat → Nat → Option (List Nat)
  | 0, _, _ => none
  | f + 1, out, x => if out.length < 64 then primesP f (if out.all (fun d => decide (x % d ≠ 0)) then out ++ [x] else out) (x + 1) else some out
theorem primes_val : primesP 400 [] 2 = some P64 := by kernel_rfl
theorem digit_ok {h : PH} {v : Value} {l : List Nat} (S : SlR h 1 v (l.map ncell)) (i : Nat) {k : Value → PH → Prop} (hk : k (.int .u64 ((l.getD i 0 : Nat) : Int)) h) : CallsH PG id_carrackref01_digit #[v, .int .i64 (i : Int)] h k := by
  apply carrackref01_digit.call
  unfold carrackref01_digit
  have lv := u_len S
  by_cases hl : i < l.length
  · have g1 : ((i : Int) < (l.length : Int)) = True := eq_true (by omega)
    obtain ⟨pa, p1, p2⟩ := u_at S (List.getElem?_eq_getElem hl)
    simp only [lv, g1, p1, p2, zSS, reduceIte]
    rw [List.getD_eq_getElem?_getD, List.getElem?_eq_getElem hl] at hk
    exact hk
  · have g1 : ((i : Int) < (l.length : Int)) = False := eq_false (by omega)
    simp only [lv, g1, zSS, reduceIte]
    rw [List.getD_eq_getElem?_getD, List.getElem?_eq_none (by omega)] at hk
    exact hk
def abTo : List Value → PH → Nat := fun vs _ => match vs[2]? with
  | some (Value.int _ x) => (x + 1).toNat
  | _ => 0
theorem above_ok {h : PH} {v w : Value} {a b : List Nat} (S : SlR h 1 v (a.map ncell)) (T : SlR h 1 w (b.map ncell)) (ha : Dig a) (hb : Dig b) (hla : a.length ≤ 1000) (hlb : b.length ≤ 1000) {k : Value → PH → Prop} (hk : k (.bool (decide (dval b < dval a))) h) : CallsH PG id_carrackref01_above #[v, w] h k := by
  apply carrackref01_above.call
  unfold carrackref01_above
  have lv := u_len S
  have lw := u_len T
  have e1 : IntKind.i64.wrap ((a.length : Int) + (b.length : Int)) = ((a.length + b.length + 1 : Nat) : Int) - 1 := by rw [i64_wrap (by omega) (by omega)]; omega
  simp only [lv, lw, e1, zSS, reduceIte]
  have hA : dval a / 4294967296 ^ (a.length + b.length + 1) = dval b / 4294967296 ^ (a.length + b.length + 1) := by
    have h1 : dval a < 4294967296 ^ (a.length + b.length + 1) := Nat.lt_of_lt_of_le (dval_lt ha) (Nat.pow_le_pow_right (by decide) (by omega))
    have h2 : dval b < 4294967296 ^ (a.length + b.length + 1) := Nat.lt_of_lt_of_le (dval_lt hb) (Nat.pow_le_pow_right (by decide) (by omega))
    rw [Nat.div_eq_of_lt h1, Nat.div_eq_of_lt h2]
  refine ⟨fun vs h' => ∃ m : Nat, m ≤ 2001 ∧ vs = [v, w, .int .i64 ((m : Int) - 1)] ∧ h' = h ∧ dval a / 4294967296 ^ m = dval b / 4294967296 ^ m, abTo, ⟨_, by omega, rfl, rfl, hA⟩, ?_⟩
  rintro ρ h' ⟨m, hm, hvs, rfl, hq⟩
  simp only [List.map_cons, List.map_nil, List.cons.injEq, and_true] at hvs
  obtain ⟨v0, v1, v5⟩ := hvs
  simp only [v0, v1, v5, List.map_cons, List.map_nil]
  unfold carrackref01_above_b5
  cases m with
  | zero =>
    have g1 : ((0 : Int) ≤ ((0 : Nat) : Int) - 1) = False := eq_false (by decide)
    simp only [g1, zSS, reduceIte]
    rw [Nat.pow_zero, Nat.div_one, Nat.div_one] at hq
    have : decide (dval b < dval a) = false := by simp [hq]
    rw [this] at hk
    exact hk
  | succ m =>
    have g0 : ((m + 1 : Nat) : Int) - 1 = (m : Int) := by omega
    have g1 : ((0 : Int) ≤ (m : Int)) = True := eq_true (by omega)
    have g2 : IntKind.i64.wrap ((m : Int) - 1) = (m : Int) - 1 := i64_wrap (by omega) (by omega)
    rw [g0]
    simp only [g1, zSS, reduceIte]
    refine digit_ok S m ?_
    refine digit_ok T m ?_
    have da := dval_digit ha m
    have db := dval_digit hb m
    have sa : dval a / 4294967296 ^ m / 4294967296 = dval a / 4294967296 ^ (m + 1) := by rw [Nat.div_div_eq_div_mul, Nat.pow_succ]
    have sb : dval b / 4294967296 ^ m / 4294967296 = dval b / 4294967296 ^ (m + 1) := by rw [Nat.div_div_eq_div_mul, Nat.pow_succ]
    have mono : ∀ {x y : Nat}, x / 4294967296 ^ m < y / 4294967296 ^ m → x < y := fun {x y} hxy => by
      refine Nat.lt_of_not_le fun hle => ?_
      have := Nat.div_le_div_right (c := 4294967296 ^ m) hle
      omega
    generalize a.getD m 0 = p at *
    generalize b.getD m 0 = q at *
    by_cases he : p = q
    · subst he
      simp only [bne_self_eq_false, g2, zSS, reduceIte]
      refine ⟨⟨m, by omega, rfl, (by trivial), ?_⟩, ?_⟩
      · omega
      · simp only [abTo, List.getElem?_cons_succ, List.getElem?_cons_zero]
        omega
    · have g3 : ((p : Int) != (q : Int)) = true := by rw [bne_iff_ne]; omega
      have g4 : decide ((q : Int) < (p : Int)) = decide (dval b < dval a) := by
        by_cases hlt : q < p
        · have : dval b < dval a := mono (by omega)
          have h2 : (q : Int) < (p : Int) := by omega
          simp only [this, h2]
        · have : dval a < dval b := mono (by omega)
          have hn : ¬ dval b < dval a := by omega
          have h2 : ¬ (q : Int) < (p : Int) := by omega
          simp only [hn, h2]
      simp only [g3, gtr_eq, g4, zSS, reduceIte]
      exact hk
theorem least_ok {h : PH} (x n : Nat) (third : Bool) (hx : x ≤ 68719476736) (hn : n < 4294967296) {k : Value → PH → Prop} (hk : ∀ h', Ext h h' → k (.bool (decide (x ^ (if third then 3 else 2) ≤ n * 4294967296 ^ (if third then 3 else 2)))) h') :
    CallsH PG id_carrackref01_least #[.int .u64 (x : Int), .int .u64 (n : Int), .bool third] h k := by
  apply carrackref01_least.call
  unfold carrackref01_least
  have b1 : SemA PG (Instr.buildSlice T_sl_uint64 1 #[(0, .int .u64 (x : Int))]) = some (.cells #[.int .u64 (x : Int)] T_uint64, fun r => pure (.slice (some ⟨r, 0, none⟩) 1 1)) := by kernel_rfl
  simp only [b1, zSS, reduceIte]
  intro r hr
  refine popO_pure ?_
  try rw [bindH_eq]
  have u1 : Ext h (h.set r (.cells #[.int .u64 (x : Int)] T_uint64)) := Upd.new hr
  have S1 : SlR (h.set r (.cells #[.int .u64 (x : Int)] T_uint64)) 1 (.slice (some ⟨r, 0, none⟩) 1 1) ([x].map ncell) := (OwnR.lit (n := 1) (ncell.rows [x]) set_same (by simp) (by decide) rfl).slR
  generalize h.set r (.cells #[.int .u64 (x : Int)] T_uint64) = h1 at *
  have key : ∀ t : Nat, 1 ≤ t → t ≤ 2 → (∀ h', Ext h h' → k (.bool (decide (x ^ (t + 1) ≤ n * 4294967296 ^ (t + 1)))) h') → carrackref01_least_k5 k (.int .u64 (x : Int)) (.int .u64 (n : Int)) (.slice (some ⟨r, 0, none⟩) 1 1) (.int .i64 (t : Int)) h1 := by
    intro t ht1 ht2 hkt
    unfold carrackref01_least_k5
    refine ⟨fun vs h' => ∃ (j : Nat) (w : Value) (l : List Nat), j ≤ t ∧ vs = [.int .u64 (x : Int), .int .u64 (n : Int), w, .int .i64 (t : Int), .int .i64 (j : Int)] ∧ SlR h' 1 w (l.map ncell) ∧ (∀ d ∈ l, d ≤ 18446744069414584320) ∧ dval l < 4294967296 ^ (l.length + 1) ∧ l.length ≤ 1 + 4 * j ∧ dval l = x ^ (j + 1) ∧ (1 ≤ j → Dig l) ∧ l ≠ [] ∧ Ext h h', upTo t 4, ⟨0, _, [x], by omega, rfl, S1, by simp; omega, by simp only [dval, List.length_cons, List.length_nil]; omega, by simp, by simp [dval], by omega, by simp, u1⟩, ?_⟩
    rintro ρ h' ⟨j, w, l, hj, hvs, S, hs, hd, hl, hv, hdg, hln, u⟩
    simp only [List.map_cons, List.map_nil, List.cons.injEq, and_true] at hvs
    obtain ⟨v0, v1, v7, v8, v9⟩ := hvs
    simp only [v0, v1, v7, v8, v9, List.map_cons, List.map_nil]
    unfold carrackref01_least_b7
    by_cases hlt : j < t
    · have g1 : ((j : Int) < (t : Int)) = True := eq_true (by omega)
      have gi : IntKind.i64.wrap ((j : Int) + 1) = ((j + 1 : Nat) : Int) := by rw [i64_wrap (by omega) (by omega)]; omega
      simp only [g1, zSS, reduceIte]
      refine multiply_ok S hs hd (by omega) x (by omega) fun h2 w2 l2 F2 O2 hd2 hl2 hv2 f2 u2 => ?_
      simp only [gi, zSS, reduceIte]
      refine ⟨⟨j + 1, w2, l2, by omega, rfl, O2.slR, fun d hd => by have := hd2 d hd; omega, Nat.lt_of_lt_of_le (dval_lt hd2) (Nat.pow_le_pow_right (by decide) (by omega)), by omega, by rw [hv2, hv, ← Nat.pow_succ], fun _ => hd2, List.ne_nil_of_length_pos (by omega), u.trans u2⟩, ?_⟩
      simp only [upTo, List.getElem?_cons_succ, List.getElem?_cons_zero]
      omega
    · have g1 : ((j : Int) < (t : Int)) = False := eq_false (by omega)
      have hjt : j = t := by omega
      subst hjt
      have g2 : IntKind.i64.wrap ((j : Int) + 2) = ((j + 2 : Nat) : Int) := by rw [i64_wrap (by omega) (by omega)]; omega
      have g3 : IntKind.i64.wrap ((j : Int) + 1) = ((j + 1 : Nat) : Int) := by rw [i64_wrap (by omega) (by omega)]; omega
      obtain ⟨zs, m1, m2⟩ := u_make (h := h) (n := j + 2) (by omega)
      simp only [g1, g2, g3, m1, zSS, reduceIte]
      intro r2 hr2
      refine popO_pure ?_
      try rw [bindH_eq]
      have u2 : Ext h' (h'.set r2 (.cells zs T_uint64 (0, 0))) := Upd.new hr2
      have O2 : UOwn (h'.set r2 (.cells zs T_uint64 (0, 0))) (.slice (some ⟨r2, 0, none⟩) (j + 2) (j + 2)) (List.replicate (j + 2) 0) [r2] := OwnR.lit (n := j + 2) (ncell.rows _) set_same (by simp) (by unfold maxL; omega) m2
      generalize h'.set r2 (.cells zs T_uint64 (0, 0)) = h2 at *
      obtain ⟨pb, q1, q2⟩ := O2.storeCell (t := T_sl_uint64) (k := .i64) (j := j + 1) T_sl_uint64.und T_uint64.info T_uint64.size T_uint64.und rfl (by simp) (x := .int .u64 (n : Int)) rfl
      simp only [q1, zSS, reduceIte]
      refine q2 _ fun h3 O3 u3 => ?_
      have hrows : ((List.replicate (j + 2) 0).map ncell).take (j + 1) ++ [[(.int .u64 (n : Int) : Value)]] ++ ((List.replicate (j + 2) 0).map ncell).drop (j + 1 + 1) = ((List.replicate (j + 2) 0).set (j + 1) n).map ncell := by
        rw [List.set_eq_take_append_cons_drop, if_pos (by simp), List.map_append, List.map_cons, List.map_take, List.map_drop]
        simp [ncell]
      rw [hrows] at O3
      have hdw : Dig ((List.replicate (j + 2) 0).set (j + 1) n) := fun z hz => by
        rcases List.mem_or_eq_of_mem_set hz with hz | rfl
        · exact dig_zeros _ z hz
        · exact hn
      have hvw : dval ((List.replicate (j + 2) 0).set (j + 1) n) = n * 4294967296 ^ (j + 1) := by
        have := dval_set (List.replicate (j + 2) 0) (j + 1) n 0 (by rw [List.getElem?_replicate]; simp)
        rw [dval_zeros] at this
        omega
      have hr0 : h r2 = none := u.none hr2
      have S3 := (S.ext u2).upd u3 (fun a n' c e => by
        simp only [List.mem_singleton]
        intro hh
        obtain ⟨a0, c0, e0, _, _, hx0, _⟩ := S.here
        rw [e0] at e
        have hne : (l.map ncell) ≠ [] := by simpa using hln
        obtain ⟨b, o, cs, e', fr, ha0, hb0, _⟩ := hx0 hne
        rw [ha0] at e
        simp only [Value.slice.injEq, Option.some.injEq] at e
        rw [← e.1] at hh
        simp only at hh
        rw [hh, hr2] at hb0
        cases hb0)
      refine above_ok S3 O3.slR (hdg ht1) hdw (by omega) (by simp; omega) ?_
      have hfin := hkt h3 ((u.trans u2).fresh u3 (Fresh.one hr0))
      have e9 : (!decide (dval ((List.replicate (j + 2) 0).set (j + 1) n) < dval l)) = decide (x ^ (j + 1) ≤ n * 4294967296 ^ (j + 1)) := by
        rw [hvw, hv, Bool.eq_iff_iff]
        simp
      simp only [e9, zSS, reduceIte]
      exact hfin
  cases third with
  | true =>
    simp only [zSS, reduceIte]
    exact key 2 (by omega) (by omega) hk
  | false =>
    simp only [zSS, reduceIte]
    exact key 1 (by omega) (by omega) hk
end Go.Proofs.YtcoajnpchhmgjaaGreatDoor
namespace Go.Proofs.YtcoajnpchhmgjaaGreatDoor
open Go
set_option maxRecDepth 20000
def gap : List Value → PH → Nat := fun vs _ => match vs[2]? with
  | some (Value.int _ x) => match vs[3]? with
    | some (Value.int _ y) => (y - x).toNat
    | _ => 0
  | _ => 0
theorem cv_u64_32 (x : Int) : SemP PG (convert T_uint64 T_uint32 (.int .u64 x)) = some (.int .u32 (IntKind.u32.wrap x)) := by kernel_rfl
theorem pow_uniq {k T r R : Nat} (h1 : r ^ k ≤ T) (h2 : T < (r + 1) ^ k) (h3 : R ^ k ≤ T) (h4 : T < (R + 1) ^ k) : r = R := by
  rcases Nat.lt_trichotomy r R with h | h | h
  · have := Nat.pow_le_pow_left (show r + 1 ≤ R by omega) k
    omega
  · exact h
  · have := Nat.pow_le_pow_left (show R + 1 ≤ r by omega) k
    omega
theorem root_ok {h : PH} (n : Nat) (third : Bool) (hn : n < 4294967296) (hT : n * 4294967296 ^ (if third then 3 else 2) < 68719476736 ^ (if third then 3 else 2)) (R : Nat) (hR1 : R ^ (if third then 3 else 2) ≤ n * 4294967296 ^ (if third then 3 else 2)) (hR2 : n * 4294967296 ^ (if third then 3 else 2) < (R + 1) ^ (if third then 3 else 2)) (w : W) (hw : R % 4294967296 = w.toNat) {k : Value → PH → Prop} (hk : ∀ h', Ext h h' → k (wv w) h') :
    CallsH PG id_carrackref01_root #[.int .u64 (n : Int), .bool third] h k := by
  apply carrackref01_root.call
  unfold carrackref01_root
  have hpos : 0 < (if third then 3 else 2) := by cases third <;> decide
  refine ⟨fun vs h' => ∃ lo hi : Nat, vs = [.int .u64 (n : Int), .bool third, .int .u64 (lo : Int), .int .u64 (hi : Int)] ∧ lo < hi ∧ hi ≤ 68719476736 ∧ lo ^ (if third then 3 else 2) ≤ n * 4294967296 ^ (if third then 3 else 2) ∧ n * 4294967296 ^ (if third then 3 else 2) < hi ^ (if third then 3 else 2) ∧ Ext h h', gap, ⟨0, 68719476736, rfl, by omega, by omega, by rw [Nat.zero_pow hpos]; omega, hT, Upd.refl⟩, ?_⟩
  rintro ρ h' ⟨lo, hi, hvs, hlh, hhi, h1, h2, u⟩
  simp only [List.map_cons, List.map_nil, List.cons.injEq, and_true] at hvs
  obtain ⟨v0, v1, v5, v6⟩ := hvs
  simp only [v0, v1, v5, v6, List.map_cons, List.map_nil]
  unfold carrackref01_root_b2
  have e1 : IntKind.u64.wrap ((hi : Int) - (lo : Int)) = ((hi - lo : Nat) : Int) := by rw [u64_wrap (by omega) (by omega)]; omega
  by_cases hg : 1 < hi - lo
  · have g1 : ((1 : Int) < ((hi - lo : Nat) : Int)) = True := eq_true (by omega)
    have e2 : IntKind.u64.wrap ((lo : Int) + (hi : Int)) = ((lo + hi : Nat) : Int) := by rw [u64_wrap (by omega) (by omega)]; omega
    have e3 : Int.tdiv ((lo + hi : Nat) : Int) 2 = (((lo + hi) / 2 : Nat) : Int) := rfl
    have e4 : IntKind.u64.wrap (((lo + hi) / 2 : Nat) : Int) = (((lo + hi) / 2 : Nat) : Int) := u64_wrap (by omega) (by omega)
    have qu : ∀ (t : TypeId) (a : Int), SemP PG (binOp .quo t (.int .u64 a) (.int .u64 2)) = some (.int .u64 (IntKind.u64.wrap (a.tdiv 2))) := fun t a => quo_eq (by decide)
    simp only [e1, g1, e2, qu, e3, e4, zSS, reduceIte]
    refine least_ok ((lo + hi) / 2) n third (by omega) hn fun h3 u3 => ?_
    by_cases hc : ((lo + hi) / 2) ^ (if third then 3 else 2) ≤ n * 4294967296 ^ (if third then 3 else 2)
    · simp only [hc, zSS, reduceIte]
      unfold carrackref01_root_k9
      refine ⟨⟨_, _, rfl, by omega, hhi, hc, h2, u.trans u3⟩, ?_⟩
      simp only [gap, List.getElem?_cons_succ, List.getElem?_cons_zero]
      omega
    · simp only [hc, zSS, reduceIte]
      unfold carrackref01_root_k9
      refine ⟨⟨_, _, rfl, by omega, by omega, h1, by omega, u.trans u3⟩, ?_⟩
      simp only [gap, List.getElem?_cons_succ, List.getElem?_cons_zero]
      omega
  · have g1 : ((1 : Int) < ((hi - lo : Nat) : Int)) = False := eq_false (by omega)
    simp only [e1, g1, cv_u64_32, zSS, reduceIte]
    have hhl : hi = lo + 1 := by omega
    subst hhl
    obtain rfl : lo = R := pow_uniq h1 h2 hR1 hR2
    have e : Value.int .u32 (IntKind.u32.wrap (lo : Int)) = wv w := by
      unfold wv
      rw [u32_wrap, ← hw]
      congr 1
    rw [e]
    exact hk _ u
theorem app_u {h : PH} {v x : Value} {l ys : List Nat} {F : List Nat} (O : UOwn h v l F) (S : SlR h 1 x (ys.map ncell)) (hl : l.length + ys.length ≤ 1000000) {t : TypeId} {k : Value → PH → Prop}
    (hk : ∀ v' h' F', UOwn h' v' (l ++ ys) F' → Upd F h h' → (∀ b ∈ F', b ∈ F ∨ h b = none) → k v' h') : SemH PG (Builtin.append_ #[T_sl_uint64, T_sl_uint64] t #[v, x]) h k := by
  refine append_own T_sl_uint64.und T_sl_uint64.und T_uint64.info T_uint64.size T_uint64.bytes T_uint64.zero rfl (by decide) O S ?_ (by simp; omega) ?_
  · intro r hr u hu
    obtain ⟨y, hyy, rfl⟩ := List.mem_map.1 hr
    simp only [ncell, List.mem_singleton] at hu
    subst hu
    rfl
  intro v' h' F' O' u' k' _
  rw [← List.map_append] at O'
  exact hk v' h' F' O' u' k'
theorem primesP_succ (f : Nat) (out : List Nat) (x : Nat) : primesP (f + 1) out x = if out.length < 64 then primesP f (if out.all (fun d => decide (x % d ≠ 0)) then out ++ [x] else out) (x + 1) else some out := rfl
theorem primes_ok {h : PH} {k : Value → PH → Prop} (hk : ∀ h' v F, UOwn h' v P64 F → Ext h h' → k v h') : CallsH PG id_carrackref01_primes #[.int .i64 64] h k := by
  apply carrackref01_primes.call
  unfold carrackref01_primes
  refine ⟨fun vs h' => ∃ (x : Nat) (v : Value) (out F : List Nat), vs = [.int .i64 64, v, .int .u64 (x : Int)] ∧ 2 ≤ x ∧ x ≤ 402 ∧ primesP (402 - x) out x = some P64 ∧ (∀ d ∈ out, 0 < d) ∧ UOwn h' v out F ∧ Fresh h F ∧ Ext h h', upTo 402 2, ⟨2, _, [], [], rfl, by omega, by omega, primes_val, by simp, OwnR.nil, (fun b hb => by cases hb), Upd.refl⟩, ?_⟩
  rintro ρ h' ⟨x, v, out, F, hvs, hx2, hx, hP, hd, O, fF, u⟩
  simp only [List.map_cons, List.map_nil, List.cons.injEq, and_true] at hvs
  obtain ⟨v0, v3, v4⟩ := hvs
  simp only [v0, v3, v4, List.map_cons, List.map_nil]
  unfold carrackref01_primes_b2
  have lv := u_len O.slR
  have hx' : x < 402 := by
    refine Nat.lt_of_le_of_ne hx fun e => ?_
    subst e
    cases hP
  obtain ⟨f, hf⟩ : ∃ f, 402 - x = f + 1 := ⟨401 - x, by omega⟩
  rw [hf, primesP_succ] at hP
  by_cases hl : out.length < 64
  · rw [if_pos hl] at hP
    have g1 : ((out.length : Int) < 64) = True := eq_true (by omega)
    simp only [lv, g1, zSS, reduceIte]
    refine ⟨fun vs h2 => ∃ (i : Nat), i ≤ out.length ∧ vs = [.int .i64 64, v, .int .u64 (x : Int), .bool ((out.take i).all (fun d => decide (x % d ≠ 0))), .int .i64 (i : Int)] ∧ h2 = h', upTo out.length 4, ⟨0, by omega, rfl, rfl⟩, ?_⟩
    rintro ρ2 h2 ⟨i, hi, hvs, rfl⟩
    simp only [List.map_cons, List.map_nil, List.cons.injEq, and_true] at hvs
    obtain ⟨w0, w3, w4, w5, w6⟩ := hvs
    simp only [w0, w3, w4, w5, w6, List.map_cons, List.map_nil]
    unfold carrackref01_primes_b6
    by_cases hil : i < out.length
    · have g2 : ((i : Int) < (out.length : Int)) = True := eq_true (by omega)
      have gi : IntKind.i64.wrap ((i : Int) + 1) = ((i + 1 : Nat) : Int) := by rw [i64_wrap (by omega) (by omega)]; omega
      have hxi : out[i]? = some out[i] := List.getElem?_eq_getElem hil
      have hdp := hd _ (List.getElem_mem hil)
      have htk : out.take (i + 1) = out.take i ++ [out[i]] := List.take_succ_eq_append_getElem hil
      generalize out[i] = d at *
      obtain ⟨pa, p1, p2⟩ := u_at O.slR hxi
      have rm : SemP PG (binOp .rem T_uint64 (.int .u64 (x : Int)) (.int .u64 (d : Int))) = some (.int .u64 ((x % d : Nat) : Int)) := by
        rw [rem_eq (by omega)]
        congr 2
      have hall : (out.take (i + 1)).all (fun d => decide (x % d ≠ 0)) = ((out.take i).all (fun d => decide (x % d ≠ 0)) && decide (x % d ≠ 0)) := by
        rw [htk, List.all_append]
        simp
      by_cases hz : x % d = 0
      · have g3 : (((x % d : Nat) : Int) == 0) = true := by simp [hz]
        simp only [lv, g2, p1, p2, rm, g3, zSS, reduceIte]
        unfold carrackref01_primes_k13 carrackref01_primes_k14
        simp only [gi, zSS, reduceIte]
        refine ⟨⟨i + 1, by omega, ?_, (by trivial)⟩, ?_⟩
        · rw [hall]; simp [hz]
        · simp only [upTo, List.getElem?_cons_succ, List.getElem?_cons_zero]
          omega
      · have g3 : (((x % d : Nat) : Int) == 0) = false := by simp; omega
        simp only [lv, g2, p1, p2, rm, g3, zSS, reduceIte]
        unfold carrackref01_primes_k13 carrackref01_primes_k14
        simp only [gi, zSS, reduceIte]
        refine ⟨⟨i + 1, by omega, ?_, (by trivial)⟩, ?_⟩
        · rw [hall]; simp [hz]
        · simp only [upTo, List.getElem?_cons_succ, List.getElem?_cons_zero]
          omega
    · have g2 : ((i : Int) < (out.length : Int)) = False := eq_false (by omega)
      have gx : IntKind.u64.wrap ((x : Int) + 1) = ((x + 1 : Nat) : Int) := by rw [u64_wrap (by omega) (by omega)]; omega
      rw [List.take_of_length_le (by omega)]
      have hfx : 402 - (x + 1) = f := by omega
      cases hok : out.all (fun d => decide (x % d ≠ 0)) with
      | false =>
        rw [hok] at hP
        simp only [lv, g2, zSS, reduceIte]
        unfold carrackref01_primes_k22 carrackref01_primes_k23
        simp only [gx, zSS, reduceIte]
        refine ⟨⟨x + 1, v, out, F, rfl, by omega, by omega, by rw [hfx]; simpa using hP, hd, O, fF, u⟩, ?_⟩
        simp only [upTo, List.getElem?_cons_succ, List.getElem?_cons_zero]
        omega
      | true =>
        rw [hok, if_pos rfl] at hP
        have b1 : SemA PG (Instr.buildSlice T_sl_uint64 1 #[(0, .int .u64 (x : Int))]) = some (.cells #[.int .u64 (x : Int)] T_uint64, fun r => pure (.slice (some ⟨r, 0, none⟩) 1 1)) := by kernel_rfl
        simp only [lv, g2, b1, zSS, reduceIte]
        intro r hr
        refine popO_pure ?_
        try rw [bindH_eq]
        have u1 : Ext h2 (h2.set r (.cells #[.int .u64 (x : Int)] T_uint64)) := Upd.new hr
        have S1 : SlR (h2.set r (.cells #[.int .u64 (x : Int)] T_uint64)) 1 (.slice (some ⟨r, 0, none⟩) 1 1) ([x].map ncell) := (OwnR.lit (n := 1) (ncell.rows [x]) set_same (by simp) (by decide) rfl).slR
        generalize h2.set r (.cells #[.int .u64 (x : Int)] T_uint64) = h3 at *
        refine app_u (O.ext u1) S1 (by simp; omega) fun v' h4 F' O' u' k' => ?_
        unfold carrackref01_primes_k22 carrackref01_primes_k23
        simp only [gx, zSS, reduceIte]
        have e1 := u.trans u1
        refine ⟨⟨x + 1, v', out ++ [x], F', rfl, by omega, by omega, by rw [hfx]; exact hP, fun d hdm => ?_, O', fF.grow e1 k', e1.fresh u' fF⟩, ?_⟩
        · rcases List.mem_append.1 hdm with hdm | hdm
          · exact hd d hdm
          · simp only [List.mem_singleton] at hdm
            omega
        · simp only [upTo, List.getElem?_cons_succ, List.getElem?_cons_zero]
          omega
  · rw [if_neg hl] at hP
    obtain rfl : out = P64 := Option.some.inj hP
    have g1 : ((P64.length : Int) < 64) = False := eq_false (by decide)
    simp only [lv, g1, zSS, reduceIte]
    exact hk _ v F O u
end Go.Proofs.YtcoajnpchhmgjaaGreatDoor
namespace Go.Proofs.YtcoajnpchhmgjaaGreatDoor
open Go
set_option maxRecDepth 20000
def wrow (w : W) : List Value := [wv w]
theorem wrow.rows (l : List W) : Rows 1 (l.map wrow) := fun r hr => by
  obtain ⟨p, -, rfl⟩ := List.mem_map.1 hr; rfl
theorem wrow.isCell (l : List W) : ∀ r ∈ l.map wrow, ∀ u ∈ r, isCell u = true := fun r hr u hu => by
  obtain ⟨y, hyy, rfl⟩ := List.mem_map.1 hr
  simp only [wrow, List.mem_singleton] at hu
  subst hu
  rfl
abbrev WOwn (h : PH) (v : Value) (l : List W) (F : List Nat) : Prop := OwnR h T_uint32 1 v (l.map wrow) F
abbrev WSl (h : PH) (v : Value) (l : List W) : Prop := SlR h 1 v (l.map wrow)
theorem app_w {h : PH} {v x : Value} {l ys : List W} {F : List Nat} (O : WOwn h v l F) (S : WSl h x ys) (hl : l.length + ys.length ≤ 1000000) {t : TypeId} {k : Value → PH → Prop}
    (hk : ∀ v' h' F', WOwn h' v' (l ++ ys) F' → Upd F h h' → (∀ b ∈ F', b ∈ F ∨ h b = none) → k v' h') : SemH PG (Builtin.append_ #[T_sl_uint32, T_sl_uint32] t #[v, x]) h k := by
  refine append_own T_sl_uint32.und T_sl_uint32.und T_uint32.info T_uint32.size T_uint32.bytes T_uint32.zero rfl (by decide) O S (wrow.isCell ys) (by simp; omega) ?_
  intro v' h' F' O' u' k' _
  rw [← List.map_append] at O'
  exact hk v' h' F' O' u' k'
theorem lit1w (a : W) : SemA PG (Instr.buildSlice T_sl_uint32 1 #[(0, wv a)]) = some (.cells #[wv a] T_uint32, fun r => pure (.slice (some ⟨r, 0, none⟩) 1 1)) := by kernel_rfl
theorem Constants_ok {h : PH} {k : Value → PH → Prop} (hk : ∀ h' v w F G, WOwn h' v kT F → WOwn h' w H8 G → Fresh h F → Fresh h G → Ext h h' → k (.tuple #[v, w]) h') : CallsH PG id_carrackref01_Constants #[] h k := by
  apply carrackref01_Constants.call
  unfold carrackref01_Constants
  refine primes_ok fun h1 p Fp Op u1 => ?_
  refine ⟨fun vs h' => ∃ (i : Nat) (v w : Value) (F G : List Nat), i ≤ 64 ∧ vs = [v, w, p, .int .i64 (i : Int)] ∧ WOwn h' v (kT.take i) F ∧ WOwn h' w (H8.take i) G ∧ (∀ x ∈ F, x ∉ G) ∧ Fresh h1 F ∧ Fresh h1 G ∧ Ext h1 h', upTo 64 3, ⟨0, _, _, [], [], by omega, rfl, OwnR.nil, OwnR.nil, by simp, (fun b hb => by cases hb), (fun b hb => by cases hb), Upd.refl⟩, ?_⟩
  rintro ρ h' ⟨i, v, w, F, G, hi, hvs, OF, OG, hFG, fF, fG, u⟩
  simp only [List.map_cons, List.map_nil, List.cons.injEq, and_true] at hvs
  obtain ⟨v2, v3, v4, v5⟩ := hvs
  simp only [v2, v3, v4, v5, List.map_cons, List.map_nil]
  unfold carrackref01_Constants_b4
  by_cases hl : i < 64
  · have g1 : ((i : Int) < 64) = True := eq_true (by omega)
    have gi : IntKind.i64.wrap ((i : Int) + 1) = ((i + 1 : Nat) : Int) := by rw [i64_wrap (by omega) (by omega)]; omega
    have hpi : P64[i]? = some (P64.getD i 0) := by
      rw [List.getD_eq_getElem?_getD, List.getElem?_eq_getElem (show i < P64.length by show i < 64; omega)]; rfl
    have hki : kT.take (i + 1) = kT.take i ++ [kT.getD i 0] := by
      rw [List.take_succ_eq_append_getElem (show i < kT.length by rw [kT_len]; omega), List.getD_eq_getElem?_getD, List.getElem?_eq_getElem (show i < kT.length by rw [kT_len]; omega)]; rfl
    have hrt := List.all_eq_true.1 rt_all i (List.mem_range.2 hl)
    simp only [Bool.and_eq_true, decide_eq_true_eq] at hrt
    obtain ⟨⟨⟨⟨r1, r2⟩, r3⟩, r4⟩, r5⟩ := hrt
    obtain ⟨pa, p1, p2⟩ := u_at (Op.slR.ext u) hpi
    simp only [g1, p1, p2, zSS, reduceIte]
    refine root_ok _ true r5 r4 _ r1 r2 (kT.getD i 0) r3 fun h2 u2 => ?_
    have e2 := u.trans u2
    simp only [lit1w, zSS, reduceIte]
    intro r hr
    refine popO_pure ?_
    try rw [bindH_eq]
    have u3 : Ext h2 (h2.set r (.cells #[wv (kT.getD i 0)] T_uint32)) := Upd.new hr
    have S3 : WSl (h2.set r (.cells #[wv (kT.getD i 0)] T_uint32)) (.slice (some ⟨r, 0, none⟩) 1 1) [kT.getD i 0] := (OwnR.lit (n := 1) (wrow.rows [kT.getD i 0]) set_same (by simp) (by decide) rfl).slR
    generalize h2.set r (.cells #[wv (kT.getD i 0)] T_uint32) = h3 at *
    have e3 := e2.trans u3
    refine app_w ((OF.ext u2).ext u3) S3 (by simp; omega) fun v' h4 F' O4 u4 k4 => ?_
    rw [← hki] at O4
    have e4 := e3.fresh u4 fF
    have f4 := fF.grow e3 k4
    have OG4 := ((OG.ext u2).ext u3).upd u4 (fun b hb hm => hFG b hm hb)
    have hFG4 : ∀ x ∈ F', x ∉ G := fun x hx hm => by
      rcases k4 x hx with h0 | h0
      · exact hFG x h0 hm
      · exact ((OG.ext u2).ext u3).known x hm h0
    by_cases h8 : i < 8
    · have g2 : ((i : Int) < 8) = True := eq_true (by omega)
      have hhi : H8.take (i + 1) = H8.take i ++ [H8.getD i 0] := by
        rw [List.take_succ_eq_append_getElem (show i < H8.length by show i < 8; omega), List.getD_eq_getElem?_getD, List.getElem?_eq_getElem (show i < H8.length by show i < 8; omega)]; rfl
      have hrs := List.all_eq_true.1 rs_all i (List.mem_range.2 h8)
      simp only [Bool.and_eq_true, decide_eq_true_eq] at hrs
      obtain ⟨⟨⟨s1, s2⟩, s3⟩, s4⟩ := hrs
      obtain ⟨pb, q1, q2⟩ := u_at (Op.slR.ext e4) hpi
      rw [p1] at q1
      obtain rfl : pa = pb := by simpa using q1
      simp only [g2, p1, q2, zSS, reduceIte]
      refine root_ok _ false r5 s4 _ s1 s2 (H8.getD i 0) s3 fun h5 u5 => ?_
      have e5 := e4.trans u5
      simp only [lit1w, zSS, reduceIte]
      intro r' hr'
      refine popO_pure ?_
      try rw [bindH_eq]
      have u6 : Ext h5 (h5.set r' (.cells #[wv (H8.getD i 0)] T_uint32)) := Upd.new hr'
      have S6 : WSl (h5.set r' (.cells #[wv (H8.getD i 0)] T_uint32)) (.slice (some ⟨r', 0, none⟩) 1 1) [H8.getD i 0] := (OwnR.lit (n := 1) (wrow.rows [H8.getD i 0]) set_same (by simp) (by decide) rfl).slR
      generalize h5.set r' (.cells #[wv (H8.getD i 0)] T_uint32) = h6 at *
      have e6 := e5.trans u6
      refine app_w ((OG4.ext u5).ext u6) S6 (by simp; omega) fun w' h7 G' O7 u7 k7 => ?_
      rw [← hhi] at O7
      unfold carrackref01_Constants_k27 carrackref01_Constants_k28
      simp only [gi, zSS, reduceIte]
      have O4' := ((O4.ext u5).ext u6).upd u7 hFG4
      have hFG7 : ∀ x ∈ F', x ∉ G' := fun x hx hm => by
        rcases k7 x hm with h0 | h0
        · exact hFG4 x hx h0
        · exact ((O4.ext u5).ext u6).known x hx h0
      refine ⟨⟨i + 1, v', w', F', G', by omega, rfl, O4', O7, hFG7, f4, fG.grow e6 k7, e6.fresh u7 fG⟩, ?_⟩
      simp only [upTo, List.getElem?_cons_succ, List.getElem?_cons_zero]
      omega
    · have g2 : ((i : Int) < 8) = False := eq_false (by omega)
      have hhi : H8.take (i + 1) = H8.take i := by
        rw [List.take_of_length_le (show H8.length ≤ i + 1 by show 8 ≤ i + 1; omega), List.take_of_length_le (show H8.length ≤ i by show 8 ≤ i; omega)]
      simp only [g2, zSS, reduceIte]
      unfold carrackref01_Constants_k27 carrackref01_Constants_k28
      simp only [gi, zSS, reduceIte]
      refine ⟨⟨i + 1, v', w, F', G, by omega, rfl, O4, by rw [hhi]; exact OG4, hFG4, f4, fG, e4⟩, ?_⟩
      simp only [upTo, List.getElem?_cons_succ, List.getElem?_cons_zero]
      omega
  · have g1 : ((i : Int) < 64) = False := eq_false (by omega)
    rw [List.take_of_length_le (by rw [kT_len]; omega)] at OF
    rw [List.take_of_length_le (show H8.length ≤ i by show 8 ≤ i; omega)] at OG
    simp only [g1, zSS, reduceIte]
    exact hk h' v w F G OF OG (fF.of u1) (fG.of u1) (u1.trans u)
theorem w16 : (65536 : W).toNat = 65536 := by simp
theorem m16 (a : Nat) : (BitVec.ofNat 32 a * 65536).toNat = a % 4294967296 * 65536 % 4294967296 := by rw [BitVec.toNat_mul, BitVec.toNat_ofNat, w16]
theorem s8 (a : Nat) : (BitVec.ofNat 32 a <<< 8).toNat = a % 4294967296 * 256 % 4294967296 := by rw [BitVec.toNat_shiftLeft, BitVec.toNat_ofNat, Nat.shiftLeft_eq]
end Go.Proofs.YtcoajnpchhmgjaaGreatDoor
namespace Go.Proofs.YtcoajnpchhmgjaaGreatDoor
open Go
set_option maxRecDepth 20000
end Go.Proofs.YtcoajnpchhmgjaaGreatDoor
namespace Go.Proofs.YtcoajnpchhmgjaaGreatDoor
open Go Bld
set_option maxRecDepth 20000
end Go.Proofs.YtcoajnpchhmgjaaGreatDoor
namespace Go.Proofs.YtcoajnpchhmgjaaGreatDoor
open Go Bld
set_option maxRecDepth 20000
structure BkAt (h : PH) (b m : Nat) (A : List Tx) (c : Bool) (K : List Nat) : Prop where
  here : ∃ (kv hv : Value) (l : List (Tx × Tx)), h b = some (.cells #[kv, hv, .map (some m), .bool c] T_carrackref01_Book (0, 0)) ∧ WSl h kv kT ∧ WSl h hv S0.l ∧ inBlocks kv K ∧ inBlocks hv K ∧ MapAt skey h m (l.map fun p => (p.1, skey p.2)) ∧ (c = false → ∀ a ∈ A, (l.find? fun p => decide (sha a = p.1)).map (·.2) = some a)
  ne : b ≠ m
  out : ∀ x ∈ K, x ≠ b ∧ x ≠ m ∧ h x ≠ none
theorem BkAt.upd {h h' : PH} {b m : Nat} {A : List Tx} {c : Bool} {K G : List Nat} (H : BkAt h b m A c K) (u : Upd G h h') (hd : ∀ x ∈ b :: m :: K, x ∉ G) : BkAt h' b m A c K := by
  obtain ⟨kv, hv, l, h1, h2, h3, h4, h5, h6, h7⟩ := H.here
  refine ⟨⟨kv, hv, l, u.get h1 (hd _ (by simp)), SlR.upd h2 u fun a n c' e => hd _ (by simp [h4 a n c' e]), SlR.upd h3 u fun a n c' e => hd _ (by simp [h5 a n c' e]), h4, h5, MapAt.upd h6 u (hd _ (by simp)), h7⟩, H.ne, fun x hx => ⟨(H.out x hx).1, (H.out x hx).2.1, ?_⟩⟩
  obtain ⟨o, ho⟩ := Option.ne_none_iff_exists'.1 (H.out x hx).2.2
  rw [u.get ho (hd x (by simp [hx]))]; simp
theorem BkAt.ext {h h' : PH} {b m : Nat} {A : List Tx} {c : Bool} {K : List Nat} (H : BkAt h b m A c K) (u : Ext h h') : BkAt h' b m A c K := H.upd u (by simp)
theorem BkAt.known {h : PH} {b m : Nat} {A : List Tx} {c : Bool} {K : List Nat} (H : BkAt h b m A c K) : ∀ x ∈ b :: m :: K, h x ≠ none := by
  obtain ⟨kv, hv, l, h1, h2, h3, h4, h5, h6, h7⟩ := H.here
  intro x hx
  simp only [List.mem_cons] at hx
  rcases hx with rfl | rfl | hx
  · rw [h1]; simp
  · exact MapAt.known h6
  · exact (H.out x hx).2.2
def Uniq (A : List Tx) : Prop := ∀ a ∈ A, ∀ b ∈ A, sha a = sha b → a = b
theorem BkAt.uniq {h : PH} {b m : Nat} {A : List Tx} {K : List Nat} (H : BkAt h b m A false K) : Uniq A := by
  obtain ⟨kv, hv, l, h1, h2, h3, h4, h5, h6, h7⟩ := H.here
  intro x hx y hy e
  have a := h7 rfl x hx
  rw [e, h7 rfl y hy] at a
  exact (Option.some.inj a).symm
theorem BkAt.sub {h : PH} {b m : Nat} {A B : List Tx} {c : Bool} {K : List Nat} (H : BkAt h b m A c K) (hs : ∀ a ∈ B, a ∈ A) : BkAt h b m B c K := by
  obtain ⟨kv, hv, l, h1, h2, h3, h4, h5, h6, h7⟩ := H.here
  exact ⟨⟨kv, hv, l, h1, h2, h3, h4, h5, h6, fun hc a ha => h7 hc a (hs a ha)⟩, H.ne, H.out⟩
end Go.Proofs.YtcoajnpchhmgjaaGreatDoor
namespace Go.Proofs.YtcoajnpchhmgjaaGreatDoor
open Go Bld
set_option maxRecDepth 20000
theorem bk_build (a b : Option Addr) (n c n' c' m : Nat) : SemP PG (Instr.build T_carrackref01_Book #[(0, .slice a n c), (1, .slice b n' c'), (2, .map (some m))]) = some (.agg #[.slice a n c, .slice b n' c', .map (some m), .bool false]) := by kernel_rfl
theorem BNew_ok {h : PH} {k : Value → PH → Prop} (hk : ∀ h' b m K, BkAt h' b m [] false K → Fresh h (b :: m :: K) → Ext h h' → k (.pointer (some ⟨b, 0, none⟩)) h') : CallsH PG id_carrackref01_New #[] h k := by
  apply carrackref01_New.call
  unfold carrackref01_New
  refine Constants_ok fun h1 v w F G OF OG fF fG u1 => ?_
  simp only [makeMap_eq, zSS, reduceIte]
  intro m hm
  refine popO_pure ?_
  try rw [bindH_eq]
  have u2 : Ext h1 (h1.set m (.map #[] 0)) := Upd.new hm
  have M2 : MapAt skey (h1.set m (.map #[] 0)) m [] := MapAt.new
  generalize h1.set m (.map #[] 0) = h2 at *
  obtain ⟨av, cv, ev, -⟩ := OF.slR.here
  obtain ⟨aw, cw, ew, -⟩ := OG.slR.here
  have hb : SemP PG (Instr.build T_carrackref01_Book #[(0, v), (1, w), (2, .map (some m))]) = some (.agg #[v, w, .map (some m), .bool false]) := by rw [ev, ew]; exact bk_build ..
  simp only [hb, zSS, reduceIte]
  intro b hbn
  try rw [bindH_eq]
  have ec : Value.cells (.agg #[v, w, .map (some m), .bool false]) = #[v, w, .map (some m), .bool false] := rfl
  rw [ec]
  have u3 : Ext h2 (h2.set b (.cells #[v, w, .map (some m), .bool false] T_carrackref01_Book)) := Upd.new hbn
  have a3 : (h2.set b (.cells #[v, w, .map (some m), .bool false] T_carrackref01_Book)) b = some (.cells #[v, w, .map (some m), .bool false] T_carrackref01_Book (0, 0)) := set_same
  generalize h2.set b (.cells #[v, w, .map (some m), .bool false] T_carrackref01_Book) = h3 at *
  have e12 := u1.trans u2
  have hmb : b ≠ m := fun e => by subst e; exact M2.known hbn
  have hb1 : h1 b = none := u2.none hbn
  refine hk h3 b m (F ++ G) ⟨⟨v, w, [], a3, ((OF.ext u2).ext u3).slR, ((OG.ext u2).ext u3).slR, fun a n c e => by simp [inB_own OF a n c e], fun a n c e => by simp [inB_own OG a n c e], M2.ext u3, fun _ a ha => by cases ha⟩, hmb, fun x hx => ?_⟩ (fun x hx => ?_) (e12.trans u3)
  · have hk1 : h1 x ≠ none := by
      rcases List.mem_append.1 hx with hx | hx
      · exact OF.known x hx
      · exact OG.known x hx
    refine ⟨fun e => hk1 (by rw [e]; exact hb1), fun e => hk1 (by rw [e]; exact hm), fun e => hk1 ((u2.trans u3).none e)⟩
  · simp only [List.mem_cons, List.mem_append] at hx
    rcases hx with rfl | rfl | hx | hx
    · exact e12.none hbn
    · exact u1.none hm
    · exact fF x hx
    · exact fG x hx
end Go.Proofs.YtcoajnpchhmgjaaGreatDoor
namespace Go.Proofs.YtcoajnpchhmgjaaGreatDoor
open Go
set_option maxRecDepth 20000
theorem neqPtrSelf {h : PH} {x y : Operand} (a : Addr) : SemE PG h (binS .neq T_p_strings_Builder x y (.pointer (some a)) (.pointer (some a))) = some (.bool false) := by
  show SemE PG h (Op.equalIn (9999 + 1) T_p_strings_Builder (.pointer (some a)) (.pointer (some a)) >>= fun b => (pure (Value.bool (!b)) : Sem Value)) = _
  rw [semE_bind]
  have : SemE PG h (Op.equalIn (9999 + 1) T_p_strings_Builder (.pointer (some a)) (.pointer (some a))) = some true := by
    rw [Op.equalIn, semE_und T_p_strings_Builder.und]
    simp only [sizeOf_bind]
    rw [semE_info T_strings_Builder.info]
    simp [T_strings_Builder.size, sameAddr, SemE, pure]
  rw [this]; rfl
theorem semE_viewAt {h : PH} {r : Nat} {x : TypeId × Nat} {α : Type} (hs : shapeH h r = some (some x)) (f : Option (Addr × TypeId) → Sem α) : SemE PG h (viewAt r >>= f) = SemE PG h (f none) := by
  rw [semE_bind]
  have : SemE PG h (viewAt r) = some none := by
    show (shapeH h r).bind _ = _
    rw [hs]; rfl
  rw [this]; rfl
theorem semE_seenAt {h : PH} {a : Addr} {x : TypeId × Nat} {α : Type} (hs : shapeH h a.block = some (some x)) (f : Addr → Sem α) : SemE PG h (Conv.seenAt a >>= f) = SemE PG h (f a) := by
  rw [semE_bind]
  have : SemE PG h (Conv.seenAt a) = some a := by
    unfold Conv.seenAt
    rw [semE_viewAt hs]; rfl
  rw [this]; rfl
theorem semE_cellsIn {h : PH} {r : Nat} {x : TypeId × Nat} {α : Type} (hs : shapeH h r = some (some x)) (f : Option Nat → Sem α) : SemE PG h (cellsIn r >>= f) = SemE PG h (f (some x.2)) := by
  rw [semE_bind]
  have : SemE PG h (cellsIn r) = some (some x.2) := by
    show (shapeH h r).bind _ = _
    rw [hs]; rfl
  rw [this]; rfl
theorem to_unsafe {h : PH} {a : Nat} {c : Array Value} (ha : h a = some (.cells c T_wire_Writer (0, 0))) (hc : 1 < c.size) : SemE PG h (convert T_p_strings_Builder T_unsafe_Pointer (.pointer (some ⟨a, 1, none⟩))) = some (.pointer (some ⟨a, 1, none⟩)) := by
  have hs : shapeH h a = some (some (T_wire_Writer, c.size)) := by unfold shapeH; rw [ha]
  show SemE PG h (underlying T_p_strings_Builder >>= _) = _
  rw [semE_und T_p_strings_Builder.und]
  show SemE PG h (underlying T_unsafe_Pointer >>= _) = _
  rw [semE_und T_unsafe_Pointer.und]
  show SemE PG h (underlying T_p_strings_Builder >>= _) = _
  rw [semE_und T_p_strings_Builder.und]
  show SemE PG h (underlying T_unsafe_Pointer >>= _) = _
  rw [semE_und T_unsafe_Pointer.und]
  show SemE PG h (Conv.seenAt ⟨a, 1, none⟩ >>= _) = _
  rw [semE_seenAt (a := ⟨a, 1, none⟩) hs]
  show SemE PG h (cellsIn a >>= _) = _
  rw [semE_cellsIn hs]
  have h1 : ¬ (1 ≥ c.size) := by omega
  simp only [sizeOf_bind]
  rw [semE_info T_strings_Builder.info]
  simp [T_strings_Builder.size, h1, SemE, pure]
theorem from_unsafe {h : PH} {a : Nat} {c : Array Value} (ha : h a = some (.cells c T_wire_Writer (0, 0))) (hc : c.size = 3) : SemE PG h (convert T_unsafe_Pointer T_p_strings_Builder (.pointer (some ⟨a, 1, none⟩))) = some (.pointer (some ⟨a, 1, none⟩)) := by
  have hs : shapeH h a = some (some (T_wire_Writer, c.size)) := by unfold shapeH; rw [ha]
  rw [hc] at hs
  show SemE PG h (underlying T_unsafe_Pointer >>= _) = _
  rw [semE_und T_unsafe_Pointer.und]
  show SemE PG h (underlying T_p_strings_Builder >>= _) = _
  rw [semE_und T_p_strings_Builder.und]
  show SemE PG h (underlying T_unsafe_Pointer >>= _) = _
  rw [semE_und T_unsafe_Pointer.und]
  show SemE PG h (underlying T_p_strings_Builder >>= _) = _
  rw [semE_und T_p_strings_Builder.und]
  show SemE PG h (Conv.seenAt ⟨a, 1, none⟩ >>= _) = _
  rw [semE_seenAt (a := ⟨a, 1, none⟩) hs]
  have hv : SemE PG h (variablesAt ⟨a, 1, none⟩ T_strings_Builder 1) = some true := by
    show (shapeH h a).bind _ = _
    rw [hs]
    kernel_rfl
  simp only [sizeOf_bind]
  rw [semE_info T_strings_Builder.info]
  simp only [T_strings_Builder.size]
  rw [semE_bind, hv]
  simp [SemE, pure]
theorem NoEscape_ok {h : PH} {v : Value} {k : Value → PH → Prop} (hk : k v h) : CallsH PG id_internal_abi_NoEscape #[v] h k :=
  CallsH.entry (v := v) (by kernel_rfl) hk
structure WAt (h : PH) (a : Nat) (e : Int) (bs : List UInt8) (F : List Nat) : Prop where
  here : ∃ p v G, h a = some (.cells #[.int .i64 e, p, v] T_wire_Writer (0, 0)) ∧ (p = .pointer none ∨ p = .pointer (some ⟨a, 1, none⟩)) ∧ OwnR h T_uint8 1 v (bs.map bcell) G ∧ F = a :: G ∧ a ∉ G
theorem WAt.known {h : PH} {a : Nat} {e : Int} {bs : List UInt8} {F : List Nat} (H : WAt h a e bs F) : ∀ b ∈ F, h b ≠ none := by
  obtain ⟨p, v, G, ha, hp, hO, rfl, hn⟩ := H
  intro b hb
  rcases List.mem_cons.1 hb with rfl | hb
  · rw [ha]; simp
  · exact hO.known b hb
theorem WAt.upd {h h' : PH} {a : Nat} {e : Int} {bs : List UInt8} {F G : List Nat} (H : WAt h a e bs F) (u : Upd G h h') (hd : ∀ b ∈ F, b ∉ G) : WAt h' a e bs F := by
  obtain ⟨p, v, G', ha, hp, hO, rfl, hn⟩ := H
  exact ⟨p, v, G', u.get ha (hd a (by simp)), hp, hO.upd u (fun b hb => hd b (by simp [hb])), rfl, hn⟩
theorem WAt.ext {h h' : PH} {a : Nat} {e : Int} {bs : List UInt8} {F : List Nat} (H : WAt h a e bs F) (u : Ext h h') : WAt h' a e bs F := H.upd u (by simp)
def WNext (h : PH) (a : Nat) (F : List Nat) (e : Int) (bs : List UInt8) (k : PH → Prop) : Prop := ∀ h' F', WAt h' a e bs F' → Upd F h h' → (∀ b ∈ F', b ∈ F ∨ h b = none) → k h'
theorem copyCheck_ok {h : PH} {a : Nat} {m p v : Value} (ha : h a = some (.cells #[m, p, v] T_wire_Writer (0, 0))) (hp : p = .pointer none ∨ p = .pointer (some ⟨a, 1, none⟩)) {k : Value → PH → Prop}
    (hk : ∀ h', h' a = some (.cells #[m, .pointer (some ⟨a, 1, none⟩), v] T_wire_Writer (0, 0)) → Upd [a] h h' → (∀ b, b ≠ a → h' b = h b) → k (.tuple #[]) h') : CallsH PG id_strings_Builder_copyCheck #[.pointer (some ⟨a, 1, none⟩)] h k := by
  apply strings_Builder_copyCheck.call
  unfold strings_Builder_copyCheck
  have hc : cellH h ⟨a, 1, none⟩ = some p := by simp [cellH, ha]
  simp only [T_strings_Builder.f0, T_p_strings_Builder.load, hc, zSS, reduceIte]
  rcases hp with rfl | rfl
  · simp only [eqlPtrNil T_p_strings_Builder.und, Option.isNone_none, zSS, reduceIte]
    refine SemE.semH (to_unsafe ha (by simp)) ?_
    refine NoEscape_ok ?_
    refine SemE.semH (from_unsafe ha (by simp)) ?_
    refine store_cell T_p_strings_Builder.und rfl ha (by simp) rfl T_p_strings_Builder.info T_p_strings_Builder.size ?_
    exact hk _ set_same (Upd.set (by simp)) (fun b hb => set_other hb)
  · simp only [eqlPtrNil T_p_strings_Builder.und, Option.isNone_some, neqPtrSelf, T_strings_Builder.f0, T_p_strings_Builder.load, hc, zSS, reduceIte]
    exact hk _ ha Upd.refl (fun _ _ => rfl)
theorem byte_lit (x : Int) : SemA PG (Instr.buildSlice T_sl_uint8 1 #[(0, .int .u8 x)]) = some (.cells #[.int .u8 x] T_uint8, fun r => pure (.slice (some ⟨r, 0, none⟩) 1 1)) := by kernel_rfl
theorem buf_app {h : PH} {a : Nat} {e : Int} {p v x : Value} {bs ys : List UInt8} {G : List Nat} {t2 e2 : TypeId} (hu2 : PG.underlying t2 = some (.slice e2)) (ha : h a = some (.cells #[.int .i64 e, p, v] T_wire_Writer (0, 0))) (hp : p = .pointer none ∨ p = .pointer (some ⟨a, 1, none⟩)) (hO : OwnR h T_uint8 1 v (bs.map bcell) G) (hn : a ∉ G)
    (hx : SlR h 1 x (ys.map bcell)) (hl : bs.length + ys.length ≤ 140737488355328) {k : PH → Prop} (hk : WNext h a (a :: G) e (bs ++ ys) k) :
    SemH PG (Builtin.append_ #[T_sl_uint8, t2] T_sl_uint8 #[v, x]) h fun v' h' => SemH PG (storeS T_sl_uint8 (.pointer (some ⟨a, 2, none⟩)) v') h' fun _ h'' => k h'' := by
  refine append_own T_sl_uint8.und hu2 T_uint8.info T_uint8.size T_uint8.bytes T_uint8.zero rfl (by decide) hO hx (bcell.isCell _) (by simp; omega) ?_
  intro v2 h2 F2 hO2 u2 k2 _
  rw [← List.map_append] at hO2
  have ha2 := u2.get ha hn
  have hn2 : a ∉ F2 := fun hm => by
    rcases k2 a hm with h1 | h1
    · exact hn h1
    · rw [ha] at h1; cases h1
  refine store_cell T_sl_uint8.und rfl ha2 (by simp) ?_ T_sl_uint8.info T_sl_uint8.size ?_
  · obtain ⟨_, _, rfl, -⟩ := hO2.slR.here; rfl
  · refine hk _ (a :: F2) ⟨p, v2, F2, set_same, hp, hO2.upd (Upd.set (F := [a]) (by simp)) (fun b hb => by simp; rintro rfl; exact hn2 hb), rfl, hn2⟩ ((u2.mono fun b hb => .inl (by simp [hb])).trans (Upd.set (by simp))) (fun b hb => ?_)
    rcases List.mem_cons.1 hb with rfl | hb
    · exact .inl (by simp)
    · rcases k2 b hb with h1 | h1
      · exact .inl (by simp [h1])
      · exact .inr h1
theorem WriteByte_ok {h : PH} {a : Nat} {e : Int} {bs : List UInt8} {F : List Nat} (hW : WAt h a e bs F) (hl : bs.length + 1 ≤ 140737488355328) (x : UInt8) {k : Value → PH → Prop} (hk : WNext h a F e (bs ++ [x]) (k .nilIface)) :
    CallsH PG id_strings_Builder_WriteByte #[.pointer (some ⟨a, 1, none⟩), .int .u8 x.toNat] h k := by
  obtain ⟨p, v, G, ha, hp, hO, rfl, hn⟩ := hW
  apply strings_Builder_WriteByte.call
  unfold strings_Builder_WriteByte
  refine copyCheck_ok ha hp fun h1 ha1 u1 o1 => ?_
  have hc : cellH h1 ⟨a, 2, none⟩ = some v := by simp [cellH, ha1]
  have hO1 := hO.upd u1 (fun b hb hf => by simp at hf; subst hf; exact hn hb)
  simp only [T_strings_Builder.f1, T_sl_uint8.load, hc, byte_lit, zSS, reduceIte]
  intro r hr
  refine popO_pure ?_
  have u2 : Ext h1 (h1.set r (.cells #[.int .u8 x.toNat] T_uint8)) := Upd.new hr
  have s2 : SlR (h1.set r (.cells #[.int .u8 x.toNat] T_uint8)) 1 (.slice (some ⟨r, 0, none⟩) 1 1) ([x].map bcell) := (OwnR.lit (bcell.rows [x]) set_same (by simp) (by decide) (by simp [bcell])).slR
  refine buf_app T_sl_uint8.und (u2.get ha1) (.inr rfl) (hO1.ext u2) hn s2 (by simpa using hl) ?_
  intro h3 F3 hW3 u3 k3
  refine hk _ F3 hW3 ((u1.mono fun b hb => .inl (by simp at hb; simp [hb])).trans (u2.upd.trans u3)) fun b hb => ?_
  rcases k3 b hb with h' | h'
  · exact .inl h'
  · by_cases hba : b = a
    · exact .inl (by simp [hba])
    · have := u2.none h'
      rw [o1 b hba] at this
      exact .inr this
theorem buf_str {h : PH} {a : Nat} {e : Int} {p v : Value} {bs ys : List UInt8} {G : List Nat} (ha : h a = some (.cells #[.int .i64 e, p, v] T_wire_Writer (0, 0))) (hp : p = .pointer none ∨ p = .pointer (some ⟨a, 1, none⟩)) (hO : OwnR h T_uint8 1 v (bs.map bcell) G) (hn : a ∉ G)
    (hl : bs.length + ys.length ≤ 140737488355328) {k : PH → Prop} (hk : WNext h a (a :: G) e (bs ++ ys) k) :
    SemH PG (Builtin.append_ #[T_sl_uint8, T_string] T_sl_uint8 #[v, .string (tx ys)]) h fun v' h' => SemH PG (storeS T_sl_uint8 (.pointer (some ⟨a, 2, none⟩)) v') h' fun _ h'' => k h'' := by
  refine append_str T_sl_uint8.und T_string.und T_uint8.info T_uint8.size T_uint8.bytes T_uint8.zero rfl (by decide) hO (by simp; omega) ?_
  intro v2 h2 F2 hO2 u2 k2 _
  rw [← List.map_append] at hO2
  have ha2 := u2.get ha hn
  have hn2 : a ∉ F2 := fun hm => by
    rcases k2 a hm with h1 | h1
    · exact hn h1
    · rw [ha] at h1; cases h1
  refine store_cell T_sl_uint8.und rfl ha2 (by simp) ?_ T_sl_uint8.info T_sl_uint8.size ?_
  · obtain ⟨_, _, rfl, -⟩ := hO2.slR.here; rfl
  · refine hk _ (a :: F2) ⟨p, v2, F2, set_same, hp, hO2.upd (Upd.set (F := [a]) (by simp)) (fun b hb => by simp; rintro rfl; exact hn2 hb), rfl, hn2⟩ ((u2.mono fun b hb => .inl (by simp [hb])).trans (Upd.set (by simp))) (fun b hb => ?_)
    rcases List.mem_cons.1 hb with rfl | hb
    · exact .inl (by simp)
    · rcases k2 b hb with h1 | h1
      · exact .inl (by simp [h1])
      · exact .inr h1
theorem WriteString_ok {h : PH} {a : Nat} {e : Int} {bs ys : List UInt8} {F : List Nat} (hW : WAt h a e bs F) (hl : bs.length + ys.length ≤ 140737488355328) {k : Value → PH → Prop} (hk : WNext h a F e (bs ++ ys) (k (.tuple #[.int .i64 ys.length, .nilIface]))) :
    CallsH PG id_strings_Builder_WriteString #[.pointer (some ⟨a, 1, none⟩), .string (tx ys)] h k := by
  obtain ⟨p, v, G, ha, hp, hO, rfl, hn⟩ := hW
  apply strings_Builder_WriteString.call
  unfold strings_Builder_WriteString
  refine copyCheck_ok ha hp fun h1 ha1 u1 o1 => ?_
  have hc : cellH h1 ⟨a, 2, none⟩ = some v := by simp [cellH, ha1]
  have hO1 := hO.upd u1 (fun b hb hf => by simp at hf; subst hf; exact hn hb)
  simp only [T_strings_Builder.f1, T_sl_uint8.load, hc, T_string.len, tx_size, zSS, reduceIte]
  refine buf_str ha1 (.inr rfl) hO1 hn hl ?_
  intro h3 F3 hW3 u3 k3
  refine hk _ F3 hW3 ((u1.mono fun b hb => .inl (by simp at hb; simp [hb])).trans u3) fun b hb => ?_
  rcases k3 b hb with h' | h'
  · exact .inl h'
  · by_cases hba : b = a
    · exact .inl (by simp [hba])
    · rw [o1 b hba] at h'
      exact .inr h'
theorem semE_loadBytes {h : PH} : ∀ (l : List UInt8) (a : Addr) (acc : ByteArray), a.spot = none → (∀ j x, l[j]? = some x → cellH h (a.add j) = some (.int .u8 x.toNat)) → SemE PG h (loadBytes a acc l.length) = some ⟨acc.data ++ l.toArray⟩
  | [], a, acc, _, _ => by show some acc = _; simp
  | x :: xs, a, acc, hsp, hc => by
    have h0 := hc 0 x rfl
    have ha0 : a.add 0 = a := by obtain ⟨b, o, w⟩ := a; cases w <;> simp [Addr.add]
    rw [ha0] at h0
    show (cellH h a).bind _ = _
    rw [h0, Option.bind_some]
    show SemE PG h (loadBytes (a.add 1) (acc.push ((x.toNat : Int).toNat.toUInt8)) xs.length) = _
    rw [semE_loadBytes xs (a.add 1) _ (by obtain ⟨b, o, w⟩ := a; simp at hsp; subst hsp; rw [plain_add]) fun j y hy => ?_]
    · congr 1
      apply ByteArray.ext
      show (acc.push _).data ++ xs.toArray = _
      rw [ByteArray.data_push]
      apply Array.ext'
      simp
    · have := hc (j + 1) y (by simpa using hy)
      have e : (a.add 1).add j = a.add (j + 1) := by
        obtain ⟨b, o, w⟩ := a
        simp at hsp
        subst hsp
        rw [plain_add, plain_add, plain_add]; congr 1; omega
      rw [e]; exact this
theorem unsafeStr {h : PH} {g : Nat} {cs : Array Value} {bs : List UInt8} (hb : h g = some (.cells cs T_uint8 (0, 0))) (hle : bs.length ≤ cs.size) (hcs : cs.toList.take bs.length = bs.map fun b => Value.int .u8 b.toNat) (hne : bs ≠ []) (hmax : bs.length ≤ maxL) {k : Value → PH → Prop}
    (hk : ∀ h', Upd [g] h h' → k (.string (tx bs)) h') : SemH PG (Builtin.unsafeString_ #[T_p_uint8, T_int] T_string #[.pointer (some ⟨g, 0, none⟩), .int .i64 bs.length]) h k := by
  have hl : bs.length ≠ 0 := by simpa using hne
  have h63 : ¬ ((bs.length : Int) > IntKind.i64.max) := by
    have : IntKind.i64.max = 9223372036854775807 := rfl
    unfold maxL at hmax
    omega
  have hneg : ¬ (bs.length : Int) < 0 := by omega
  have hz : ¬ (bs.length : Int) = 0 := by omega
  have hdef : Builtin.unsafeString_ #[T_p_uint8, T_int] T_string #[.pointer (some ⟨g, 0, none⟩), .int .i64 bs.length] =
      (do
        let n ← asInt (.int .i64 bs.length)
        if n < 0 then runtimePanic (.error "unsafe.String: len out of range")
        if n > IntKind.i64.max then unsupported (.unsafePointer "String: a length above the largest int")
        if n = 0 then pure (.string .empty)
        else if ← variablesAt ⟨g, 0, none⟩ (← elemOf T_p_uint8) n.toNat then do
          let s ← loadBytes ⟨g, 0, none⟩ .empty n.toNat
          freeze ⟨g, 0, none⟩ n.toNat
          pure (.string s)
        else unsupported (.unsafePointer "String: not so many bytes at ptr")) := rfl
  rw [hdef]
  have hs : shapeH h g = some (some (T_uint8, cs.size)) := by unfold shapeH; rw [hb]
  have hv : SemE PG h (variablesAt ⟨g, 0, none⟩ T_uint8 bs.length) = some true := by
    show (shapeH h g).bind _ = _
    rw [hs]
    have hc1 : PG.cellsOf T_uint8 = 1 := by kernel_rfl
    have := Go.Lib.liesAt_bytes (P := PG) hc1 (cs.size / PG.cellsOf T_uint8) bs.length (by rw [hc1]; simpa using hle)
    show some (liesAt PG PG.depth T_uint8 (cs.size / PG.cellsOf T_uint8) 0 T_uint8 bs.length) = some true
    rw [this]
  have hlb := semE_loadBytes (h := h) bs ⟨g, 0, none⟩ .empty rfl (fun j x hx => by
    rw [plain_add]
    unfold cellH
    simp only [hb, Nat.zero_add]
    have hj : j < bs.length := (List.getElem?_eq_some_iff.1 hx).1
    have : (cs.toList.take bs.length)[j]? = some (.int .u8 x.toNat) := by rw [hcs, List.getElem?_map, hx]; rfl
    rw [List.getElem?_take, if_pos hj] at this
    simpa using this)
  have helem : SemE PG h (elemOf T_p_uint8) = some T_uint8 := by kernel_rfl
  simp only [asInt, asIntOf, pure_bind, map_pure, hneg, h63, hz, if_false, Int.toNat_natCast]
  refine semH_of_semE helem ?_
  refine semH_of_semE hv ?_
  simp only [if_true]
  refine semH_of_semE hlb ?_
  show (∃ o, h g = some o) ∧ _
  refine ⟨⟨_, hb⟩, ?_⟩
  have hfin := hk (freezeH h ⟨g, 0, none⟩ bs.length) (fun b o hbo hn => by
    unfold freezeH
    rw [if_neg hl, if_neg (by simpa using hn)]
    exact hbo)
  show k (.string _) _
  have e : (⟨ByteArray.empty.data ++ bs.toArray⟩ : ByteArray) = tx bs := by apply ByteArray.ext; simp [tx]
  rw [e]
  exact hfin
theorem unsafeNone {h : PH} {q : Option Addr} : SemE PG h (Builtin.unsafeString_ #[T_p_uint8, T_int] T_string #[.pointer q, .int .i64 0]) = some (.string (tx [])) := by
  cases q <;> rfl
theorem String_ok {h : PH} {a : Nat} {e : Int} {bs : List UInt8} {F : List Nat} (hW : WAt h a e bs F) {k : Value → PH → Prop} (hk : ∀ h', Upd F h h' → k (.string (tx bs)) h') :
    CallsH PG id_strings_Builder_String #[.pointer (some ⟨a, 1, none⟩)] h k := by
  obtain ⟨p, v, G, ha, hp, hO, rfl, hn⟩ := hW
  have hc : cellH h ⟨a, 2, none⟩ = some v := by simp [cellH, ha]
  have lv := hO.slR.len (t' := T_int) T_sl_uint8.und
  rw [List.length_map] at lv
  apply strings_Builder_String.call
  unfold strings_Builder_String
  simp only [T_strings_Builder.f1, T_sl_uint8.load, hc, lv, zSS, reduceIte]
  have hload : ∀ h', cellH h' ⟨a, 2, none⟩ = some v → SemE PG h' (Instr.loadAt T_sl_uint8 (.pointer (some ⟨a, 2, none⟩))) = some v := fun h' h1 => by rw [T_sl_uint8.load]; exact h1
  rcases hO.here with ⟨rfl, hr, rfl⟩ | ⟨g, cap, cs, rfl, rfl, hb, hle, hmax, hsz, htk⟩
  · have hnil : bs = [] := by simpa using hr
    subst hnil
    refine SemE.semH (a := .pointer none) rfl ?_
    refine ⟨hc, ?_⟩
    refine SemE.semH unsafeNone ?_
    exact hk _ Upd.refl
  · simp only [List.length_map] at *
    by_cases hne : bs = []
    · subst hne
      by_cases hc0 : cap = 0
      · subst hc0
        have hs : shapeH h g = some (some (T_uint8, cs.size)) := by unfold shapeH; rw [hb]
        show SemH PG (viewAt g >>= _) h _
        refine semH_of_semE (a := none) (by rw [show viewAt g = (viewAt g >>= fun x => pure x) by simp, semE_viewAt hs]; rfl) ?_
        refine semH_of_semE (a := T_uint8) (by kernel_rfl) ?_
        intro r hr
        have u : Ext h (h.set r (.view ⟨g, 0, none⟩ T_uint8)) := Upd.new hr
        refine ⟨by rw [cellH]; simp [u.get ha], ?_⟩
        refine SemE.semH unsafeNone ?_
        exact hk _ u.upd
      · refine SemE.semH (a := .pointer (some ⟨g, 0, none⟩)) ?_ ?_
        · show SemE PG h (if cap ≠ 0 then _ else _) = _
          rw [if_pos hc0]; rfl
        · refine ⟨hc, ?_⟩
          refine SemE.semH unsafeNone ?_
          exact hk _ Upd.refl
    · have hpos : 0 < bs.length := List.length_pos_iff.2 hne
      refine SemE.semH (a := .pointer (some ⟨g, 0, none⟩)) ?_ ?_
      · show SemE PG h (if cap ≠ 0 then _ else _) = _
        rw [if_pos (by omega)]; rfl
      · refine ⟨hc, ?_⟩
        rw [Nat.mul_one, bcell.flat] at htk
        refine unsafeStr hb (by omega) htk hne (by omega) fun h' u => ?_
        exact hk _ (u.mono fun b hb => .inl (by simp at hb; simp [hb]))
end Go.Proofs.YtcoajnpchhmgjaaGreatDoor
namespace Go.Proofs.YtcoajnpchhmgjaaGreatDoor
open Go
set_option maxRecDepth 20000
structure WS (h0 : PH) (F0 : List Nat) (h : PH) (a : Nat) (e : Int) (bs : List UInt8) (F : List Nat) : Prop where
  at_ : WAt h a e bs F
  upd : Upd F0 h0 h
  grow : ∀ b ∈ F, b ∈ F0 ∨ h0 b = none
theorem WS.refl {h : PH} {a : Nat} {e : Int} {bs : List UInt8} {F : List Nat} (H : WAt h a e bs F) : WS h F h a e bs F := ⟨H, Upd.refl, fun b hb => .inl hb⟩
theorem WS.step {h0 h h' : PH} {F0 F F' : List Nat} {a : Nat} {e e' : Int} {bs bs' : List UInt8} (S : WS h0 F0 h a e bs F) (H : WAt h' a e' bs' F') (u : Upd F h h') (g : ∀ b ∈ F', b ∈ F ∨ h b = none) : WS h0 F0 h' a e' bs' F' :=
  ⟨H, S.upd.then u S.grow, fun b hb => by
    rcases g b hb with h1 | h1
    · exact S.grow b h1
    · by_cases hF : b ∈ F0
      · exact .inl hF
      · right
        cases hh : h0 b with
        | none => rfl
        | some o => rw [S.upd.get hh hF] at h1; cases h1⟩
theorem WS.ext {h0 h h' : PH} {F0 F : List Nat} {a : Nat} {e : Int} {bs : List UInt8} (S : WS h0 F0 h a e bs F) (u : Ext h h') : WS h0 F0 h' a e bs F := S.step (S.at_.ext u) u.upd (fun b hb => .inl hb)
theorem WS.next {h : PH} {a : Nat} {F : List Nat} {e : Int} {bs : List UInt8} {k : PH → Prop} (hk : WNext h a F e bs k) {h' : PH} {F' : List Nat} (S : WS h F h' a e bs F') : k h' := hk h' F' S.at_ S.upd S.grow
theorem conv_iu (x : Int) : SemP PG (convert T_int T_uint64 (.int .i64 x)) = some (.int .u64 (IntKind.u64.wrap x)) := by kernel_rfl
theorem conv_u8 (x : Int) : SemP PG (convert T_uint64 T_uint8 (.int .u64 x)) = some (.int .u8 (IntKind.u8.wrap x)) := by kernel_rfl
theorem conv_ui (x : Int) : SemP PG (convert T_uint64 T_int (.int .u64 x)) = some (.int .i64 (IntKind.i64.wrap x)) := by kernel_rfl
theorem conv_8u (x : Int) : SemP PG (convert T_uint8 T_uint64 (.int .u8 x)) = some (.int .u64 (IntKind.u64.wrap x)) := by kernel_rfl
theorem shr_byte {n k : Nat} (hk : k < 8) : ((n : Int).fdiv (2 ^ (min (((8 * k : Nat) : Int)).toNat IntKind.u64.bits))) = ((n / 256 ^ k : Nat) : Int) := by
  have e1 : min (((8 * k : Nat) : Int)).toNat IntKind.u64.bits = 8 * k := by
    have : IntKind.u64.bits = 64 := rfl
    rw [this]; omega
  have e2 : (2 : Nat) ^ (8 * k) = 256 ^ k := by rw [Nat.pow_mul]
  rw [e1]
  have e3 : ((2 : Int) ^ (8 * k)) = ((256 ^ k : Nat) : Int) := by
    rw [← e2]; exact (Int.natCast_pow 2 (8 * k)).symm
  rw [e3, Int.fdiv_eq_ediv_of_nonneg _ (Int.natCast_nonneg _)]
  exact (Int.natCast_ediv n (256 ^ k)).symm
theorem put_ok {h : PH} {a : Nat} {e : Int} {bs : List UInt8} {F : List Nat} (hW : WAt h a e bs F) {n c : Nat} (hc : c ≤ 8) (hn : n < 18446744073709551616) (hl : bs.length ≤ 140737488355000) {k : Value → PH → Prop} (hk : WNext h a F e (bs ++ be n c) (k (.tuple #[]))) :
    CallsH PG id_wire_Writer_put #[.pointer (some ⟨a, 0, none⟩), .int .u64 n, .int .i64 c] h k := by
  apply wire_Writer_put.call
  unfold wire_Writer_put
  have e0 : IntKind.i64.wrap ((c : Int) - 1) = (c : Int) - 1 := i64_wrap (by omega) (by omega)
  simp only [e0, zSS, reduceIte]
  refine ⟨fun vs h' => ∃ (i : Nat) (F' : List Nat), i ≤ c ∧ vs = [.pointer (some ⟨a, 0, none⟩), .int .u64 n, .int .i64 ((c : Int) - 1 - i)] ∧ WS h F h' a e (bs ++ (be n c).take i) F', fun vs _ => match vs with | [_, _, .int _ j] => (j + 1).toNat | _ => 0, ⟨0, F, by omega, by simp, by simpa using WS.refl hW⟩, ?_⟩
  rintro ρ h' ⟨i, F', hi, hvs, S⟩
  simp only [List.map_cons, List.map_nil, List.cons.injEq, and_true] at hvs
  obtain ⟨s0, s1, s2⟩ := hvs
  rw [s0, s1, s2]
  unfold wire_Writer_put_b3
  by_cases hlt : i < c
  · have hd : (0 ≤ (c : Int) - 1 - i) = True := by apply eq_true; omega
    obtain ⟨q, hq⟩ : ∃ q : Nat, c - 1 - i = q := ⟨_, rfl⟩
    have hqi : (c : Int) - 1 - i = (q : Int) := by omega
    have e1 : IntKind.i64.wrap (8 * (q : Int)) = ((8 * q : Nat) : Int) := by rw [i64_wrap (by omega) (by omega)]; omega
    have e2 : IntKind.i64.wrap ((q : Int) - 1) = (c : Int) - 1 - ((i + 1 : Nat) : Int) := by rw [i64_wrap (by omega) (by omega)]; omega
    have h8 : (0 : Int) ≤ ((8 * q : Nat) : Int) := by omega
    have e3 : IntKind.u8.wrap (((n / 256 ^ q : Nat) : Int)) = ((UInt8.ofNat (n / 256 ^ q % 256)).toNat : Int) := by
      rw [u8_wrap]
      simp
    rw [hqi] at hd ⊢
    simp only [hd, T_wire_Writer.f1, Nat.zero_add, e1, shr_eq h8, shr_byte (show q < 8 by omega), conv_u8, e3, e2, zSS, reduceIte]
    have hlen : (bs ++ (be n c).take i).length ≤ 140737488355100 := by
      rw [List.length_append, List.length_take, be_len]; omega
    refine WriteByte_ok S.at_ (by omega) _ fun h3 F3 hW3 u3 k3 => ?_
    have ht := be_take_succ (n := n) hlt
    rw [hq] at ht
    rw [List.append_assoc, ← ht] at hW3
    exact ⟨⟨i + 1, F3, by omega, rfl, S.step hW3 u3 k3⟩, by simp [s2]; omega⟩
  · have hd : (0 ≤ (c : Int) - 1 - i) = False := by apply eq_false; omega
    rw [List.take_of_length_le (by rw [be_len]; omega)] at S
    simp only [hd, zSS, reduceIte]
    exact S.next hk
theorem Fail_ok {h : PH} {a : Nat} {e : Int} {bs : List UInt8} {F : List Nat} (hW : WAt h a e bs F) (x : Int) {k : Value → PH → Prop} (hk : WNext h a F (if e = 0 then x else e) bs (k (.tuple #[]))) :
    CallsH PG id_wire_memory_Fail #[.pointer (some ⟨a, 0, none⟩), .int .i64 x] h k := by
  have hW' := hW
  obtain ⟨p, v, G, ha, hp, hO, rfl, hn⟩ := hW
  have hc : cellH h ⟨a, 0, none⟩ = some (.int .i64 e) := by simp [cellH, ha]
  apply wire_memory_Fail.call
  unfold wire_memory_Fail
  by_cases h0 : e = 0
  · have q : (e == 0) = true := by simp [h0]
    rw [if_pos h0] at hk
    simp only [T_wire_memory.f0, T_api_Errno.load, hc, q, zSS, reduceIte]
    refine store_cell T_api_Errno.und rfl ha (by simp) rfl T_api_Errno.info T_api_Errno.size ?_
    refine hk _ (a :: G) ⟨p, v, G, set_same, hp, hO.upd (Upd.set (F := [a]) (by simp)) (fun b hb => by simp; rintro rfl; exact hn hb), rfl, hn⟩ (Upd.set (by simp)) (fun b hb => .inl hb)
  · have q : (e == 0) = false := by simp [h0]
    rw [if_neg h0] at hk
    simp only [T_wire_memory.f0, T_api_Errno.load, hc, q, zSS, reduceIte]
    exact hk _ _ hW' Upd.refl (fun b hb => .inl hb)
def wByte (s : Int × List UInt8) (n : Int) : Int × List UInt8 := if 0 ≤ n ∧ n ≤ 255 then (s.1, s.2 ++ be n.toNat 1) else (if s.1 = 0 then 1 else s.1, s.2)
def wText (s : Int × List UInt8) (l : List UInt8) : Int × List UInt8 := if l.length ≤ 65535 then (s.1, s.2 ++ (be l.length 2 ++ l)) else (if s.1 = 0 then 1 else s.1, s.2)
theorem Byte_ok {h : PH} {a : Nat} {e : Int} {bs : List UInt8} {F : List Nat} (hW : WAt h a e bs F) (hl : bs.length ≤ 140737488355000) (n : Int) {k : Value → PH → Prop} (hk : WNext h a F (wByte (e, bs) n).1 (wByte (e, bs) n).2 (k (.tuple #[]))) :
    CallsH PG id_wire_Writer_Byte #[.pointer (some ⟨a, 0, none⟩), .int .i64 n] h k := by
  apply wire_Writer_Byte.call
  unfold wire_Writer_Byte
  unfold wByte at hk
  have bad : ¬ (0 ≤ n ∧ n ≤ 255) → CallsH PG id_wire_memory_Fail #[.pointer (some ⟨a, 0, none⟩), .int .i64 1] h fun v12 h13 => k (.tuple #[]) h13 := by
    intro hb
    rw [if_neg hb] at hk
    exact Fail_ok hW 1 hk
  by_cases h1 : n < 0
  · simp only [h1, T_wire_Writer.f0, zSS, reduceIte]
    exact bad (by omega)
  · by_cases h2 : 255 < n
    · simp only [h1, h2, T_wire_Writer.f0, zSS, reduceIte]
      exact bad (by omega)
    · rw [if_pos (by omega)] at hk
      obtain ⟨m, rfl⟩ := Int.eq_ofNat_of_zero_le (a := n) (by omega)
      have e1 : IntKind.u64.wrap (m : Int) = (m : Int) := u64_wrap (by omega) (by omega)
      simp only [h1, h2, conv_iu, e1, zSS, reduceIte]
      exact put_ok hW (c := 1) (by omega) (by omega) hl hk
theorem Number_ok {h : PH} {a : Nat} {e : Int} {bs : List UInt8} {F : List Nat} (hW : WAt h a e bs F) (hl : bs.length ≤ 140737488355000) {n : Nat} (hn : n < 18446744073709551616) {k : Value → PH → Prop} (hk : WNext h a F e (bs ++ be n 8) (k (.tuple #[]))) :
    CallsH PG id_wire_Writer_Number #[.pointer (some ⟨a, 0, none⟩), .int .u64 n] h k := by
  apply wire_Writer_Number.call
  unfold wire_Writer_Number
  exact put_ok hW (c := 8) (by omega) hn hl hk
theorem WRaw_ok {h : PH} {a : Nat} {e : Int} {bs ys : List UInt8} {F : List Nat} (hW : WAt h a e bs F) (hl : bs.length + ys.length ≤ 140737488355328) {k : Value → PH → Prop} (hk : WNext h a F e (bs ++ ys) (k (.tuple #[]))) :
    CallsH PG id_wire_Writer_Raw #[.pointer (some ⟨a, 0, none⟩), .string (tx ys)] h k := by
  apply wire_Writer_Raw.call
  unfold wire_Writer_Raw
  simp only [T_wire_Writer.f1, Nat.zero_add, zSS, reduceIte]
  exact WriteString_ok hW hl hk
theorem Text_ok {h : PH} {a : Nat} {e : Int} {bs ys : List UInt8} {F : List Nat} (hW : WAt h a e bs F) (hl : bs.length ≤ 140737488200000) {k : Value → PH → Prop} (hk : WNext h a F (wText (e, bs) ys).1 (wText (e, bs) ys).2 (k (.tuple #[]))) :
    CallsH PG id_wire_Writer_Text #[.pointer (some ⟨a, 0, none⟩), .string (tx ys)] h k := by
  apply wire_Writer_Text.call
  unfold wire_Writer_Text
  unfold wText at hk
  by_cases h1 : ys.length ≤ 65535
  · have q : ((65535 : Int) < (ys.length : Int)) = False := by apply eq_false; omega
    rw [if_pos h1] at hk
    have e1 : IntKind.u64.wrap (ys.length : Int) = (ys.length : Int) := u64_wrap (by omega) (by omega)
    simp only [T_string.len, tx_size, q, conv_iu, e1, zSS, reduceIte]
    refine put_ok hW (c := 2) (by omega) (by omega) (by omega) fun h2 F2 hW2 u2 k2 => ?_
    have hl2 := be_len ys.length 2
    refine WRaw_ok hW2 (by rw [List.length_append, hl2]; omega) fun h3 F3 hW3 u3 k3 => ?_
    rw [List.append_assoc] at hW3
    exact WS.next hk (((WS.refl hW).step hW2 u2 k2).step hW3 u3 k3)
  · have q : ((65535 : Int) < (ys.length : Int)) = True := by apply eq_true; omega
    rw [if_neg h1] at hk
    simp only [T_string.len, tx_size, q, T_wire_Writer.f0, zSS, reduceIte]
    exact Fail_ok hW 1 hk
theorem WErr_ok {h : PH} {a : Nat} {e : Int} {c : Array Value} {T : TypeId} {fr : Nat × Nat} (ha : h a = some (.cells c T fr)) (hc : c[0]? = some (.int .i64 e)) {k : Value → PH → Prop} (hk : k (.int .i64 e) h) : CallsH PG id_wire_memory_Err #[.pointer (some ⟨a, 0, none⟩)] h k := by
  apply wire_memory_Err.call
  unfold wire_memory_Err
  have hc' : cellH h ⟨a, 0, none⟩ = some (.int .i64 e) := by simp [cellH, ha, hc]
  simp only [T_wire_memory.f0, T_api_Errno.load, hc', zSS, reduceIte]
  exact hk
def wBytes (s : Int × List UInt8) : List UInt8 × Int := if s.1 = 0 then (s.2, 0) else ([], s.1)
theorem Bytes_ok {h : PH} {a : Nat} {e : Int} {bs : List UInt8} {F : List Nat} (hW : WAt h a e bs F) {k : Value → PH → Prop} (hk : ∀ h', Upd F h h' → k (.tuple #[.string (tx (wBytes (e, bs)).1), .int .i64 (wBytes (e, bs)).2]) h') :
    CallsH PG id_wire_Writer_Bytes #[.pointer (some ⟨a, 0, none⟩)] h k := by
  have hW' := hW
  obtain ⟨p, v, G, ha, hp, hO, rfl, hn⟩ := hW
  apply wire_Writer_Bytes.call
  unfold wire_Writer_Bytes
  unfold wBytes at hk
  simp only [T_wire_Writer.f0, T_wire_Writer.f1, Nat.zero_add, zSS, reduceIte]
  refine WErr_ok ha rfl ?_
  by_cases h0 : e = 0
  · have q : (e != 0) = false := by simp [h0]
    rw [if_pos h0] at hk
    simp only [q, zSS, reduceIte]
    exact String_ok hW' hk
  · have q : (e != 0) = true := by simp [h0]
    rw [if_neg h0] at hk
    simp only [q, zSS, reduceIte]
    exact hk _ Upd.refl
end Go.Proofs.YtcoajnpchhmgjaaGreatDoor
namespace Go.Proofs.YtcoajnpchhmgjaaGreatDoor
open Go
set_option maxRecDepth 20000
theorem or_eq {t : TypeId} {x b : Nat} (hx : x * 256 + 255 < 18446744073709551616) (hb : b < 256) : SemP PG (binOp .or t (.int .u64 ((x * 256 : Nat) : Int)) (.int .u64 (b : Int))) = some (.int .u64 ((x * 256 + b : Nat) : Int)) := by
  have e : SemP PG (binOp .or t (.int .u64 ((x * 256 : Nat) : Int)) (.int .u64 (b : Int))) = some (.int .u64 (IntKind.u64.wrap ((BitVec.ofInt IntKind.u64.bits ((x * 256 : Nat) : Int) ||| BitVec.ofInt IntKind.u64.bits (b : Int)).toNat))) := rfl
  rw [e]
  congr 2
  have h64 : IntKind.u64.bits = 64 := rfl
  rw [h64, BitVec.toNat_or, BitVec.ofInt_natCast, BitVec.ofInt_natCast, BitVec.toNat_ofNat, BitVec.toNat_ofNat, Nat.mod_eq_of_lt (by omega), Nat.mod_eq_of_lt (by omega)]
  have := Nat.shiftLeft_add_eq_or_of_lt (i := 8) (b := b) (by omega) x
  rw [Nat.shiftLeft_eq] at this
  have e2 : (x * 256 ||| b) = x * 256 + b := this.symm
  rw [e2, u64_wrap (by omega) (by omega)]
structure RdAt (h : PH) (a : Nat) (e : Int) (s : List UInt8) : Prop where
  here : h a = some (.cells #[.int .i64 e, .string (tx s)] T_wire_Reader (0, 0))
theorem RdAt.upd {h h' : PH} {a : Nat} {e : Int} {s : List UInt8} {G : List Nat} (H : RdAt h a e s) (u : Upd G h h') (hd : a ∉ G) : RdAt h' a e s := ⟨u.get H.here hd⟩
theorem RdAt.ext {h h' : PH} {a : Nat} {e : Int} {s : List UInt8} (H : RdAt h a e s) (u : Ext h h') : RdAt h' a e s := H.upd u (by simp)
theorem NewReader_ok {h : PH} (s : List UInt8) {k : Value → PH → Prop} (hk : ∀ a h', RdAt h' a 0 s → Ext h h' → h a = none → k (.pointer (some ⟨a, 0, none⟩)) h') : CallsH PG id_wire_NewReader #[.string (tx s)] h k := by
  apply wire_NewReader.call
  unfold wire_NewReader
  have e1 : SemP PG (Instr.build T_wire_Reader #[(1, .string (tx s))]) = some (.agg #[.int .i64 0, .string (tx s)]) := by kernel_rfl
  simp only [e1, zSS, reduceIte]
  intro r hr
  exact hk r _ ⟨set_same⟩ (Upd.new hr) hr
def rRaw (st : Int × List UInt8) (n : Int) : List UInt8 × (Int × List UInt8) :=
  if st.1 = 0 ∧ 0 ≤ n ∧ n ≤ st.2.length then (st.2.take n.toNat, (0, st.2.drop n.toNat)) else ([], (if st.1 = 0 then 6 else st.1, st.2))
theorem Raw_ok {h : PH} {a : Nat} {e : Int} {s : List UInt8} (hR : RdAt h a e s) (n : Int) {k : Value → PH → Prop} (hk : ∀ h', RdAt h' a (rRaw (e, s) n).2.1 (rRaw (e, s) n).2.2 → Upd [a] h h' → k (.string (tx (rRaw (e, s) n).1)) h') :
    CallsH PG id_wire_Reader_Raw #[.pointer (some ⟨a, 0, none⟩), .int .i64 n] h k := by
  have ha := hR.here
  have c1 : cellH h ⟨a, 1, none⟩ = some (.string (tx s)) := by simp [cellH, ha]
  have c0 : cellH h ⟨a, 0, none⟩ = some (.int .i64 e) := by simp [cellH, ha]
  apply wire_Reader_Raw.call
  unfold wire_Reader_Raw
  have tail : ∀ (e' : Int), (e' ≠ 0 → ∀ h', h' a = some (.cells #[.int .i64 e', .string (tx s)] T_wire_Reader (0, 0)) → Upd [a] h h' → k (.string (tx [])) h') → (e' = 0 → 0 ≤ n ∧ n ≤ s.length) → (e' = 0 → e = 0) → ∀ h', h' a = some (.cells #[.int .i64 e', .string (tx s)] T_wire_Reader (0, 0)) → Upd [a] h h' → wire_Reader_Raw_k33 k (.pointer (some ⟨a, 0, none⟩)) (.int .i64 n) h' := by
    intro e' hbad hgood he h' ha' u'
    unfold wire_Reader_Raw_k33
    simp only [T_wire_Reader.f0, T_wire_Reader.f1, Nat.zero_add, zSS, reduceIte]
    refine WErr_ok ha' rfl ?_
    by_cases h0 : e' = 0
    · have q : (e' != 0) = false := by simp [h0]
      obtain ⟨g1, g2⟩ := hgood h0
      have c1' : cellH h' ⟨a, 1, none⟩ = some (.string (tx s)) := by simp [cellH, ha']
      obtain ⟨m, rfl⟩ := Int.eq_ofNat_of_zero_le g1
      have hm : m ≤ s.length := by omega
      simp only [q, T_wire_Reader.f1, Nat.zero_add, T_string.load, c1', cut_tx (lo := none) T_string.und (.inl ⟨rfl, rfl⟩) (.inr ⟨.i64, rfl⟩) (Nat.zero_le m) hm, cut_tx (hi := none) T_string.und (.inr ⟨.i64, rfl⟩) (.inl ⟨rfl, rfl⟩) hm (Nat.le_refl _), zSS, reduceIte]
      refine store_cell T_string.und rfl ha' (by simp) rfl T_string.info T_string.size ?_
      have hr : rRaw (e, s) (m : Int) = (s.take m, (0, s.drop m)) := by
        unfold rRaw
        rw [if_pos ⟨he h0, by omega, by simpa using hm⟩]
        simp
      rw [hr] at hk
      rw [List.drop_zero, List.take_of_length_le (Nat.le_refl _)]
      refine hk _ ⟨?_⟩ (u'.trans (Upd.set (by simp)))
      rw [set_same, h0]
      rfl
    · have q : (e' != 0) = true := by simp [h0]
      simp only [q, zSS, reduceIte]
      exact hbad h0 h' ha' u'
  have hin : e = 0 → ¬ (0 ≤ n ∧ n ≤ s.length) → rRaw (e, s) n = ([], (6, s)) := fun h0 hb => by
    unfold rRaw
    rw [if_neg (by rintro ⟨_, h2⟩; exact hb h2), if_pos h0]
  have hne : e ≠ 0 → rRaw (e, s) n = ([], (e, s)) := fun h0 => by
    unfold rRaw
    rw [if_neg (by rintro ⟨h1, _⟩; exact h0 h1), if_neg h0]
  have fails : ¬ (0 ≤ n ∧ n ≤ s.length) → CallsH PG id_wire_memory_Fail #[.pointer (some ⟨a, 0, none⟩), .int .i64 6] h fun v h' => wire_Reader_Raw_k33 k (.pointer (some ⟨a, 0, none⟩)) (.int .i64 n) h' := by
    intro hb
    apply wire_memory_Fail.call
    unfold wire_memory_Fail
    by_cases h0 : e = 0
    · have q : (e == 0) = true := by simp [h0]
      simp only [T_wire_memory.f0, T_api_Errno.load, c0, q, zSS, reduceIte]
      refine store_cell T_api_Errno.und rfl ha (by simp) rfl T_api_Errno.info T_api_Errno.size ?_
      refine tail 6 (fun _ h' ha' u' => ?_) (fun h => absurd h (by decide)) (fun h => absurd h (by decide)) _ set_same (Upd.set (by simp))
      have := hk h'
      rw [hin h0 hb] at this
      exact this ⟨ha'⟩ u'
    · have q : (e == 0) = false := by simp [h0]
      simp only [T_wire_memory.f0, T_api_Errno.load, c0, q, zSS, reduceIte]
      refine tail e (fun _ h' ha' u' => ?_) (fun h1 => absurd h1 h0) (fun h1 => h1) _ ha Upd.refl
      have := hk h'
      rw [hne h0] at this
      exact this ⟨ha'⟩ u'
  by_cases h1 : n < 0
  · simp only [h1, T_wire_Reader.f0, zSS, reduceIte]
    exact fails (by omega)
  · by_cases h2 : (s.length : Int) < n
    · simp only [h1, T_wire_Reader.f0, T_wire_Reader.f1, Nat.zero_add, T_string.load, c1, T_string.len, tx_size, h2, zSS, reduceIte]
      exact fails (by omega)
    · simp only [h1, T_wire_Reader.f1, Nat.zero_add, T_string.load, c1, T_string.len, tx_size, h2, zSS, reduceIte]
      refine tail e (fun h0 h' ha' u' => ?_) (fun _ => by omega) (fun h1 => h1) _ ha Upd.refl
      have := hk h'
      rw [hne h0] at this
      exact this ⟨ha'⟩ u'
def rGet (st : Int × List UInt8) (c : Nat) : Nat × (Int × List UInt8) := (val (rRaw st c).1, (rRaw st c).2)
theorem rRaw_len (st : Int × List UInt8) (c : Nat) : (rRaw st c).1.length ≤ c := by
  unfold rRaw
  split
  · simp; omega
  · simp
theorem val_take {l : List UInt8} {i : Nat} {b : UInt8} (hb : l[i]? = some b) : val (l.take (i + 1)) = val (l.take i) * 256 + b.toNat := by
  rw [List.take_add_one, hb]
  exact val_snoc _ _
theorem val_small {l : List UInt8} {i : Nat} (hi : i < l.length) (hl : l.length ≤ 8) : val (l.take i) * 256 + 255 < 18446744073709551616 := by
  have h1 := val_lt (l.take i)
  rw [List.length_take, Nat.min_eq_left (by omega)] at h1
  have h2 : 256 ^ i ≤ 256 ^ 7 := Nat.pow_le_pow_right (by decide) (by omega)
  have h3 : (256 : Nat) ^ 7 = 72057594037927936 := by decide
  omega
theorem get_ok {h : PH} {a : Nat} {e : Int} {s : List UInt8} (hR : RdAt h a e s) {c : Nat} (hc : c ≤ 8) {k : Value → PH → Prop} (hk : ∀ h', RdAt h' a (rGet (e, s) c).2.1 (rGet (e, s) c).2.2 → Upd [a] h h' → k (.int .u64 (rGet (e, s) c).1) h') :
    CallsH PG id_wire_Reader_get #[.pointer (some ⟨a, 0, none⟩), .int .i64 c] h k := by
  apply wire_Reader_get.call
  unfold wire_Reader_get
  refine Raw_ok hR c fun h1 hR1 u1 => ?_
  have hlen := rRaw_len (e, s) c
  unfold rGet at hk
  generalize hrr : rRaw (e, s) (c : Int) = rr at *
  refine bytes_of T_string.und T_sl_uint8.und T_uint8.und (by omega) fun v h2 hS u2 => ?_
  have lv := hS.len (t' := T_int) T_sl_uint8.und
  rw [List.length_map] at lv
  simp only [lv, zSS, reduceIte]
  refine ⟨fun vs h' => ∃ i : Nat, i ≤ rr.1.length ∧ vs = [.int .u64 (val (rr.1.take i)), v, .int .i64 rr.1.length, .int .i64 i] ∧ h' = h2, upTo rr.1.length 3, ⟨0, by omega, rfl, rfl⟩, ?_⟩
  rintro ρ h' ⟨i, hi, hvs, rfl⟩
  simp only [List.map_cons, List.map_nil, List.cons.injEq, and_true] at hvs
  obtain ⟨s0, s1, s2, s3⟩ := hvs
  rw [s0, s1, s2, s3]
  unfold wire_Reader_get_b7
  by_cases hlt : i < rr.1.length
  · have hd : ((i : Int) < (rr.1.length : Int)) = True := by apply eq_true; omega
    obtain ⟨b, hb⟩ : ∃ b, rr.1[i]? = some b := ⟨_, List.getElem?_eq_getElem hlt⟩
    obtain ⟨p, p1, p2⟩ := hS.loadCell T_sl_uint8.und T_uint8.info T_uint8.size T_uint8.und rfl (k := .i64) (j := (i : Int)) (x := .int .u8 b.toNat) (by omega) (by simp [List.getElem?_map, hb, bcell])
    have hsm := val_small hlt (by omega)
    have ei : IntKind.i64.wrap ((i : Int) + 1) = ((i + 1 : Nat) : Int) := by rw [i64_wrap (by omega) (by omega)]; omega
    have e1 : min (8 : Int).toNat IntKind.u64.bits = 8 := by decide
    have e2 : IntKind.u64.wrap ((val (rr.1.take i) : Int) * 2 ^ 8) = ((val (rr.1.take i) * 256 : Nat) : Int) := by rw [u64_wrap (by omega) (by omega)]; omega
    have hb8 := b.toNat_lt
    have e3 : IntKind.u64.wrap (b.toNat : Int) = (b.toNat : Int) := u64_wrap (by omega) (by omega)
    simp only [hd, p1, p2, shl_eq (show (0 : Int) ≤ 8 by decide), e1, e2, conv_8u, e3, or_eq hsm hb8, ei, zSS, reduceIte]
    exact ⟨⟨i + 1, by omega, by rw [val_take hb], by trivial⟩, by simp [upTo, s3]; omega⟩
  · have hd : ((i : Int) < (rr.1.length : Int)) = False := by apply eq_false; omega
    rw [List.take_of_length_le (by omega)]
    simp only [hd, zSS, reduceIte]
    exact hk _ (hR1.ext u2) (u1.trans u2.upd)
theorem RByte_ok {h : PH} {a : Nat} {e : Int} {s : List UInt8} (hR : RdAt h a e s) {k : Value → PH → Prop} (hk : ∀ h', RdAt h' a (rGet (e, s) 1).2.1 (rGet (e, s) 1).2.2 → Upd [a] h h' → k (.int .i64 (rGet (e, s) 1).1) h') :
    CallsH PG id_wire_Reader_Byte #[.pointer (some ⟨a, 0, none⟩)] h k := by
  apply wire_Reader_Byte.call
  unfold wire_Reader_Byte
  refine get_ok hR (c := 1) (by omega) fun h1 hR1 u1 => ?_
  have hlt := val_lt (rRaw (e, s) ((1 : Nat) : Int)).1
  have hlen := rRaw_len (e, s) 1
  have h2 : 256 ^ (rRaw (e, s) ((1 : Nat) : Int)).1.length ≤ 256 ^ 1 := Nat.pow_le_pow_right (by decide) hlen
  have e1 : IntKind.i64.wrap ((rGet (e, s) 1).1 : Int) = ((rGet (e, s) 1).1 : Int) := by unfold rGet; rw [i64_wrap (by omega) (by omega)]
  simp only [conv_ui, e1, zSS, reduceIte]
  exact hk _ hR1 u1
theorem RNumber_ok {h : PH} {a : Nat} {e : Int} {s : List UInt8} (hR : RdAt h a e s) {k : Value → PH → Prop} (hk : ∀ h', RdAt h' a (rGet (e, s) 8).2.1 (rGet (e, s) 8).2.2 → Upd [a] h h' → k (.int .u64 (rGet (e, s) 8).1) h') :
    CallsH PG id_wire_Reader_Number #[.pointer (some ⟨a, 0, none⟩)] h k := by
  apply wire_Reader_Number.call
  unfold wire_Reader_Number
  exact get_ok hR (c := 8) (by omega) hk
def rText (st : Int × List UInt8) : List UInt8 × (Int × List UInt8) := rRaw (rGet st 2).2 (rGet st 2).1
theorem rGet_lt (st : Int × List UInt8) (c : Nat) : (rGet st c).1 < 256 ^ c := by
  unfold rGet
  have hlt := val_lt (rRaw st (c : Int)).1
  exact Nat.lt_of_lt_of_le hlt (Nat.pow_le_pow_right (by decide) (rRaw_len st c))
theorem RText_ok {h : PH} {a : Nat} {e : Int} {s : List UInt8} (hR : RdAt h a e s) {k : Value → PH → Prop} (hk : ∀ h', RdAt h' a (rText (e, s)).2.1 (rText (e, s)).2.2 → Upd [a] h h' → k (.string (tx (rText (e, s)).1)) h') :
    CallsH PG id_wire_Reader_Text #[.pointer (some ⟨a, 0, none⟩)] h k := by
  apply wire_Reader_Text.call
  unfold wire_Reader_Text
  refine get_ok hR (c := 2) (by omega) fun h1 hR1 u1 => ?_
  have hlt := rGet_lt (e, s) 2
  have e1 : IntKind.i64.wrap ((rGet (e, s) 2).1 : Int) = ((rGet (e, s) 2).1 : Int) := by rw [i64_wrap (by omega) (by omega)]
  simp only [conv_ui, e1, zSS, reduceIte]
  exact Raw_ok hR1 _ fun h2 hR2 u2 => hk _ hR2 (u1.trans u2)
theorem RLeft_ok {h : PH} {a : Nat} {e : Int} {s : List UInt8} (hR : RdAt h a e s) {k : Value → PH → Prop} (hk : k (.int .i64 (if e = 0 then (s.length : Int) else 0)) h) :
    CallsH PG id_wire_Reader_Left #[.pointer (some ⟨a, 0, none⟩)] h k := by
  have ha := hR.here
  have c1 : cellH h ⟨a, 1, none⟩ = some (.string (tx s)) := by simp [cellH, ha]
  apply wire_Reader_Left.call
  unfold wire_Reader_Left
  simp only [T_wire_Reader.f0, zSS, reduceIte]
  refine WErr_ok ha rfl ?_
  by_cases h0 : e = 0
  · have q : (e != 0) = false := by simp [h0]
    rw [if_pos h0] at hk
    simp only [q, T_wire_Reader.f1, Nat.zero_add, T_string.load, c1, T_string.len, tx_size, zSS, reduceIte]
    exact hk
  · have q : (e != 0) = true := by simp [h0]
    rw [if_neg h0] at hk
    simp only [q, zSS, reduceIte]
    exact hk
end Go.Proofs.YtcoajnpchhmgjaaGreatDoor
namespace Go.Proofs.YtcoajnpchhmgjaaGreatDoor
open Go
set_option maxRecDepth 20000
abbrev Stt := Int × List UInt8
def wNum (st : Stt) (n : Nat) : Stt := (st.1, st.2 ++ be n 8)
theorem wByte_len (st : Stt) (n : Int) : (wByte st n).2.length ≤ st.2.length + 1 := by
  unfold wByte; split <;> simp [be_len]
theorem wNum_len (st : Stt) (n : Nat) : (wNum st n).2.length ≤ st.2.length + 8 := by simp [wNum, be_len]
abbrev WN (h0 : PH) (h : PH) (a : Nat) (st : Stt) (F : List Nat) : Prop := WS h0 [] h a st.1 st.2 F
theorem WN.upd {h0 h : PH} {a : Nat} {st : Stt} {F : List Nat} (S : WN h0 h a st F) : Ext h0 h := WS.upd S
theorem WN.fresh {h0 h : PH} {a : Nat} {st : Stt} {F : List Nat} (S : WN h0 h a st F) : Fresh h0 F := fun b hb => by
  rcases S.grow b hb with h1 | h1
  · cases h1
  · exact h1
def Keep (h : PH) (F : List Nat) (h' : PH) (F' : List Nat) : Prop := ∀ r o, h r = some o → r ∉ F → h' r = some o ∧ r ∉ F'
theorem keepOf {h h' : PH} {F F' : List Nat} (u : Upd F h h') (g : ∀ b ∈ F', b ∈ F ∨ h b = none) : Keep h F h' F' := fun r o hr hn => ⟨u.get hr hn, fun hm => by
  rcases g r hm with h1 | h1
  · exact hn h1
  · rw [h1] at hr; cases hr⟩
theorem Byte_w {h0 h : PH} {a : Nat} {st : Stt} {F : List Nat} (S : WN h0 h a st F) (hl : st.2.length ≤ 1000000000) (n : Int) {k : Value → PH → Prop} (hk : ∀ h' F' x, x = wByte st n → WN h0 h' a x F' → Keep h F h' F' → k (.tuple #[]) h') : CallsH PG id_wire_Writer_Byte #[.pointer (some ⟨a, 0, none⟩), .int .i64 n] h k :=
  Byte_ok S.at_ (by omega) n fun h' F' hW u g => hk h' F' _ rfl (S.step hW u g) (keepOf u g)
theorem Number_w {h0 h : PH} {a : Nat} {st : Stt} {F : List Nat} (S : WN h0 h a st F) (hl : st.2.length ≤ 1000000000) {n : Nat} (hn : n < 18446744073709551616) {k : Value → PH → Prop} (hk : ∀ h' F' x, x = wNum st n → WN h0 h' a x F' → Keep h F h' F' → k (.tuple #[]) h') : CallsH PG id_wire_Writer_Number #[.pointer (some ⟨a, 0, none⟩), .int .u64 n] h k :=
  Number_ok S.at_ (by omega) hn fun h' F' hW u g => hk h' F' (wNum st n) rfl (S.step hW u g) (keepOf u g)
theorem Text_w {h0 h : PH} {a : Nat} {st : Stt} {F : List Nat} (S : WN h0 h a st F) (hl : st.2.length ≤ 1000000000) (ys : List UInt8) {k : Value → PH → Prop} (hk : ∀ h' F' x, x = wText st ys → WN h0 h' a x F' → Keep h F h' F' → k (.tuple #[]) h') : CallsH PG id_wire_Writer_Text #[.pointer (some ⟨a, 0, none⟩), .string (tx ys)] h k :=
  Text_ok S.at_ (by omega) fun h' F' hW u g => hk h' F' _ rfl (S.step hW u g) (keepOf u g)
theorem WN.box {h0 h : PH} {a : Nat} {st : Stt} {F : List Nat} (S : WN h0 h a st F) {r : Nat} (hr : h r = none) : r ∉ F := fun hm => S.at_.known r hm hr
theorem WN.new {h0 h : PH} {a : Nat} {st : Stt} {F : List Nat} (S : WN h0 h a st F) {r : Nat} (hr : h r = none) (o : Obj) : WN h0 (h.set r o) a st F := WS.ext S (Upd.new hr)
theorem zW : zcells PG T_wire_Writer = #[.int .i64 0, .pointer none, .slice none 0 0] := by rw [T_wire_Writer.zc]; rfl
theorem WN.start {h : PH} {r : Nat} (hr : h r = none) : WN h (h.set r (.cells (zcells PG T_wire_Writer) T_wire_Writer)) r (0, []) [r] := by
  have hW : WAt (h.set r (.cells (zcells PG T_wire_Writer) T_wire_Writer)) r 0 [] [r] := by
    rw [zW]
    exact ⟨_, _, [], set_same, .inl rfl, OwnR.nil, rfl, by simp⟩
  exact ⟨hW, Upd.new hr, fun b hb => .inr (by simp only [List.mem_singleton] at hb; subst hb; exact hr)⟩
theorem Raw_w {h0 h : PH} {a : Nat} {st : Stt} {F : List Nat} (S : WN h0 h a st F) (hl : st.2.length ≤ 1000000000) {ys : List UInt8} (hy : ys.length ≤ 1000000000) {k : Value → PH → Prop} (hk : ∀ h' F' x, x = (st.1, st.2 ++ ys) → WN h0 h' a x F' → Keep h F h' F' → k (.tuple #[]) h') : CallsH PG id_wire_Writer_Raw #[.pointer (some ⟨a, 0, none⟩), .string (tx ys)] h k :=
  WRaw_ok S.at_ (by omega) fun h' F' hW u g => hk h' F' (st.1, st.2 ++ ys) rfl (S.step hW u g) (keepOf u g)
end Go.Proofs.YtcoajnpchhmgjaaGreatDoor
namespace Go.Proofs.YtcoajnpchhmgjaaGreatDoor
open Go
set_option maxRecDepth 20000
def Pk.tx (p : Pk) : Tx := p.d.data.toList
def wPk (st : Stt) (p : Pk) : Stt := if p.right then wText (wNum (wNum (wByte st p.f) p.s.toNat) p.t.toNat) p.tx else wByte st (-1)
structure Pl where
  h : Int
  i : Int
  deriving DecidableEq
def Pl.cells (q : Pl) : List Value := [.int .u64 q.h, .int .i64 q.i]
def Pl.zero : Pl := ⟨0, 0⟩
def Pk.bs (p : Pk) : Tx := be p.f.toNat 1 ++ (be p.s.toNat 8 ++ (be p.t.toNat 8 ++ (be p.tx.length 2 ++ p.tx)))
theorem tx_len (p : Pk) : p.tx.length = p.d.size := rfl
theorem Pk.right_iff {p : Pk} : p.right = true ↔ 0 ≤ p.f ∧ p.f ≤ 1 ∧ p.s ≠ 0 ∧ p.t ≠ 0 ∧ p.d.size ≤ 64 := by
  unfold Pk.right
  simp only [Bool.and_eq_true, decide_eq_true_eq, and_assoc]
theorem wPk_good {p : Pk} (h : p.right = true) (b : Tx) : wPk (0, b) p = (0, b ++ p.bs) := by
  obtain ⟨h1, h2, -, -, h5⟩ := Pk.right_iff.1 h
  unfold wPk
  rw [if_pos h]
  unfold wByte wNum wText
  rw [if_pos (show p.tx.length ≤ 65535 by rw [tx_len]; omega), if_pos (show 0 ≤ p.f ∧ p.f ≤ 255 from ⟨h1, by omega⟩)]
  simp only [Pk.bs, List.append_assoc]
theorem wPk_wrong {p : Pk} (h : p.right = false) (b : Tx) : (wPk (0, b) p).1 = 1 := by
  unfold wPk
  rw [if_neg (by simp [h])]
  rfl
def okOne (x : Int × Pk) : Prop := 0 ≤ x.1 ∧ x.1 ≤ 255 ∧ x.2.right = true
instance (x : Int × Pk) : Decidable (okOne x) := by unfold okOne; infer_instance
def okPl (q : Pl) : Prop := 0 ≤ q.i ∧ q.i ≤ 65535
instance (q : Pl) : Decidable (okPl q) := by unfold okPl; infer_instance
def Pl.bs (q : Pl) : Tx := be q.h.toNat 8 ++ be q.i.toNat 8
def rFail (st : Stt) (e : Int) : Stt := (if st.1 = 0 then e else st.1, st.2)
structure Reads {α : Type} (R : Stt → α × Stt) (bs : Tx) (v : α) : Prop where
  all : ∀ rest, R (0, bs ++ rest) = (v, (0, rest))
  cut : ∀ n, n < bs.length → (R (0, bs.take n)).2.1 = 6
def Sticky {α : Type} (R : Stt → α × Stt) : Prop := ∀ e s, e ≠ 0 → (R (e, s)).2.1 = e
theorem Sticky.keep {α : Type} {R : Stt → α × Stt} (h : Sticky R) {st : Stt} {e : Int} (he : st.1 = e) (h0 : e ≠ 0) : (R st).2.1 = e := by
  obtain ⟨a, b⟩ := st
  simp only at he
  subst he
  exact h _ _ h0
theorem Reads.bind {α β γ : Type} {R : Stt → α × Stt} {S : α → Stt → β × Stt} {f : α → β → γ} {bs cs : Tx} {v : α} {w : β} (h1 : Reads R bs v) (h2 : Reads (S v) cs w) (hs : ∀ x, Sticky (S x)) :
    Reads (fun st => (f (R st).1 (S (R st).1 (R st).2).1, (S (R st).1 (R st).2).2)) (bs ++ cs) (f v w) := by
  refine ⟨fun rest => ?_, fun n hn => ?_⟩
  · simp only [List.append_assoc, h1.all, h2.all]
  · simp only
    by_cases hb : n < bs.length
    · have e : (bs ++ cs).take n = bs.take n := by rw [List.take_append_of_le_length (by omega)]
      rw [e]
      exact (hs _).keep (h1.cut n hb) (by decide)
    · have e : (bs ++ cs).take n = bs ++ cs.take (n - bs.length) := by
        rw [List.take_append, List.take_of_length_le (by omega)]
      rw [e, h1.all]
      exact h2.cut _ (by rw [List.length_append] at hn; omega)
theorem rRaw_reads (l : Tx) : Reads (fun st => rRaw st (l.length : Int)) l l := by
  refine ⟨fun rest => ?_, fun n hn => ?_⟩
  · unfold rRaw
    rw [if_pos ⟨rfl, by omega, by rw [List.length_append]; omega⟩]
    simp
  · unfold rRaw
    rw [if_neg (by simp; omega)]
    rfl
theorem rRaw_sticky (n : Int) : Sticky (fun st => rRaw st n) := fun e s h => by
  simp only [rRaw]
  rw [if_neg (by simp [h])]
  simp [h]
theorem rGet_reads {n c : Nat} (h : n < 256 ^ c) : Reads (fun st => rGet st c) (be n c) n := by
  have := rRaw_reads (be n c)
  rw [be_len] at this
  refine ⟨fun rest => ?_, fun m hm => ?_⟩
  · unfold rGet
    rw [this.all, val_be, Nat.mod_eq_of_lt h]
  · unfold rGet
    exact this.cut m hm
theorem rText_reads {l : Tx} (h : l.length ≤ 65535) : Reads rText (be l.length 2 ++ l) l :=
  Reads.bind (R := fun st => rGet st 2) (S := fun n st => rRaw st (n : Int)) (f := fun _ w => w) (rGet_reads (by omega)) (rRaw_reads l) fun x => rRaw_sticky _
def Pk.wf (p : Pk) : Prop := 0 ≤ p.s ∧ p.s < 18446744073709551616 ∧ 0 ≤ p.t ∧ p.t < 18446744073709551616
theorem tx_tx (p : Pk) : tx p.tx = p.d := tx_list p.d
end Go.Proofs.YtcoajnpchhmgjaaGreatDoor
namespace Go.Proofs.YtcoajnpchhmgjaaGreatDoor
open Go
set_option maxRecDepth 20000
theorem Keep.refl {h : PH} {F : List Nat} : Keep h F h F := fun r o hr hn => ⟨hr, hn⟩
theorem Keep.trans {h h1 h2 : PH} {F F1 F2 : List Nat} (a : Keep h F h1 F1) (b : Keep h1 F1 h2 F2) : Keep h F h2 F2 := fun r o hr hn => b r o (a r o hr hn).1 (a r o hr hn).2
theorem Keep.ext {h h1 : PH} {F : List Nat} (u : Ext h h1) : Keep h F h1 F := fun r o hr hn => ⟨u.get hr, hn⟩
structure BK (h : PH) (F : List Nat) (r : Nat) (cs : List Value) : Prop where
  bx : Bx h r cs
  out : r ∉ F
theorem BK.keep {h h' : PH} {F F' : List Nat} {r : Nat} {cs : List Value} (H : BK h F r cs) (K : Keep h F h' F') : BK h' F' r cs := by
  obtain ⟨e, h1⟩ := H.bx
  exact ⟨⟨e, (K r _ h1 H.out).1⟩, (K r _ h1 H.out).2⟩
theorem BK.ext {h h' : PH} {F : List Nat} {r : Nat} {cs : List Value} (H : BK h F r cs) (u : Ext h h') : BK h' F r cs := ⟨H.bx.ext u, H.out⟩
theorem Put_w {h0 h : PH} {a : Nat} {st : Stt} {F : List Nat} (S : WN h0 h a st F) (hl : st.2.length ≤ 900000000) (p : Pk) (w : p.wf) {k : Value → PH → Prop} (hk : ∀ h' F', WN h0 h' a (wPk st p) F' → Keep h F h' F' → k (.tuple #[]) h') :
    CallsH PG id_packet_Put #[.pointer (some ⟨a, 0, none⟩), .agg p.cells.toArray] h k := by
  apply packet_Put.call
  unfold packet_Put
  intro r hr
  try rw [bindH_eq]
  have S1 := S.new hr (.cells (Value.cells (.agg p.cells.toArray)) T_api_Packet)
  have u1 : Ext h (h.set r (.cells (Value.cells (.agg p.cells.toArray)) T_api_Packet)) := Upd.new hr
  have B1 : BK (h.set r (.cells (Value.cells (.agg p.cells.toArray)) T_api_Packet)) F r p.cells := ⟨Bx.new, S.box hr⟩
  generalize h.set r (.cells (Value.cells (.agg p.cells.toArray)) T_api_Packet) = h1 at *
  have l1 : SemE PG h1 (Instr.loadAt T_api_Packet (.pointer (some ⟨r, 0, none⟩))) = some (.agg p.cells.toArray) := T_api_Packet.agg B1.bx (by show 0 + 4 ≤ 4; decide)
  simp only [l1, zSS, reduceIte]
  refine Check_ok p fun h2 u2 => ?_
  have S2 := WS.ext S1 u2
  have B2 := B1.ext u2
  have K2 : Keep h F h2 F := Keep.ext (u1.trans u2)
  unfold wPk at hk
  obtain ⟨w1, w2, w3, w4⟩ := w
  cases hp : p.right with
  | false =>
    rw [hp] at hk
    simp only [Bool.false_eq_true, if_false, neqI, show ((1 : Int) != 0) = true from rfl, zSS, reduceIte] at hk ⊢
    exact Byte_w S2 (by omega) (-1) fun h3 F3 x e S3 K3 => by subst e; exact hk _ _ S3 (K2.trans K3)
  | true =>
    rw [hp] at hk
    have n1 : ((p.s.toNat : Nat) : Int) = p.s := Int.toNat_of_nonneg w1
    have n2 : ((p.t.toNat : Nat) : Int) = p.t := Int.toNat_of_nonneg w3
    have n3 : p.d = tx p.tx := (tx_tx p).symm
    simp only [if_true, neqI, show ((0 : Int) != 0) = false from rfl, T_api_Packet.f0, T_int.load, B2.bx.cell, Pk.cells, zSS, reduceIte] at hk ⊢
    refine Byte_w S2 (by omega) p.f fun h3 F3 x3 e3 S3 K3 => ?_
    have B3 := B2.keep K3
    have b3 := wByte_len st p.f
    rw [← e3] at b3 hk
    simp only [T_api_Packet.f1, T_uint64.load, B3.bx.cell, Pk.cells, Nat.zero_add, zSS, reduceIte]
    rw [← n1]
    refine Number_w S3 (by omega) (n := p.s.toNat) (by omega) fun h4 F4 x4 e4 S4 K4 => ?_
    have B4 := B3.keep K4
    have b4 := wNum_len x3 p.s.toNat
    rw [← e4] at b4 hk
    simp only [T_api_Packet.f2, T_uint64.load, B4.bx.cell, Pk.cells, Nat.zero_add, zSS, reduceIte]
    rw [← n2]
    refine Number_w S4 (by omega) (n := p.t.toNat) (by omega) fun h5 F5 x5 e5 S5 K5 => ?_
    have B5 := B4.keep K5
    have b5 := wNum_len x4 p.t.toNat
    rw [← e5] at b5 hk
    simp only [T_api_Packet.f3, T_string.load, B5.bx.cell, Pk.cells, Nat.zero_add, zSS, reduceIte]
    rw [n3]
    refine Text_w S5 (by omega) p.tx fun h6 F6 x6 e6 S6 K6 => ?_
    subst e6
    exact hk _ _ S6 ((((K2.trans K3).trans K4).trans K5).trans K6)
end Go.Proofs.YtcoajnpchhmgjaaGreatDoor
namespace Go.Proofs.YtcoajnpchhmgjaaGreatDoor
open Go
set_option maxRecDepth 20000
theorem cvi_u64 (x : Int) : SemP PG (convert T_int T_uint64 (.int .i64 x)) = some (.int .u64 (IntKind.u64.wrap x)) := by kernel_rfl
end Go.Proofs.YtcoajnpchhmgjaaGreatDoor
namespace Go.Proofs.YtcoajnpchhmgjaaGreatDoor
open Go
set_option maxRecDepth 20000
def Pk.v (p : Pk) : Value := .agg p.cells.toArray
def pkBytes (p : Pk) : Tx × Int := if p.right then (p.bs, 0) else ([], 1)
theorem pkBytes_eq (p : Pk) : wBytes (wPk (0, []) p) = pkBytes p := by
  unfold pkBytes
  cases hr : p.right with
  | true => rw [wPk_good hr]; rfl
  | false =>
    unfold wBytes
    rw [wPk_wrong hr, if_neg (by decide)]; rfl
theorem PkBytes_ok {h : PH} {p : Pk} (w : p.wf) {k : Value → PH → Prop} (hk : ∀ h', Ext h h' → k (.tuple #[.string (tx (pkBytes p).1), .int .i64 (pkBytes p).2]) h') : CallsH PG id_packet_Bytes #[p.v] h k := by
  apply packet_Bytes.call
  unfold packet_Bytes
  intro r1 hr1
  try rw [bindH_eq]
  have u1 : Ext h (h.set r1 (.cells (Value.cells p.v) T_api_Packet)) := Upd.new hr1
  have B1 : Bx (h.set r1 (.cells (Value.cells p.v) T_api_Packet)) r1 p.cells := Bx.new
  generalize h.set r1 (.cells (Value.cells p.v) T_api_Packet) = h1 at *
  intro r3 hr3
  try rw [bindH_eq]
  have S0 := WN.start hr3
  have u3 : Ext h1 (h1.set r3 (.cells (zcells PG T_wire_Writer) T_wire_Writer)) := Upd.new hr3
  generalize h1.set r3 (.cells (zcells PG T_wire_Writer) T_wire_Writer) = h3 at *
  have lp : SemE PG h3 (Instr.loadAt T_api_Packet (.pointer (some ⟨r1, 0, none⟩))) = some (.agg p.cells.toArray) := (B1.ext u3).pk rfl
  simp only [lp, zSS, reduceIte, zZZ, Nat.reduceAdd]
  refine Put_w S0 (by simp) p w fun h4 F4 S4 K4 => ?_
  refine Bytes_ok S4.at_ fun h5 u5 => ?_
  simp only [zSS, reduceIte, zZZ, Nat.reduceAdd]
  have := hk h5 (u1.trans (S4.upd.fresh u5 S4.fresh))
  rw [← pkBytes_eq] at this
  exact this
theorem Pk.eqD {h : PH} {d : Nat} (m m' : Pk) : SemE PG h (Op.equalIn (d + 1 + 1) T_api_Packet m.v m'.v) = some (decide (m = m')) := by
  have : SemE PG h (Op.equalIn (d + 1 + 1) T_api_Packet m.v m'.v) = some (m.f == m'.f && (m.s == m'.s && (m.t == m'.t && (m.d == m'.d && true)))) := by
    refine (eqIn_struct T_api_Packet.und (by kernel_rfl) (fun f => match f.offset with | 0 => m.f == m'.f | 1 => m.s == m'.s | 2 => m.t == m'.t | _ => m.d == m'.d) ?_)
    intro f hf
    simp only [List.mem_cons, List.not_mem_nil, or_false] at hf
    rcases hf with rfl | rfl | rfl | rfl
    · exact ⟨by decide, _, _, part_cell T_int.und rfl rfl, part_cell T_int.und rfl rfl, eqIn_int T_int.und⟩
    · exact ⟨by decide, _, _, part_cell T_uint64.und rfl rfl, part_cell T_uint64.und rfl rfl, eqIn_int T_uint64.und⟩
    · exact ⟨by decide, _, _, part_cell T_uint64.und rfl rfl, part_cell T_uint64.und rfl rfl, eqIn_int T_uint64.und⟩
    · exact ⟨by decide, _, _, part_cell T_string.und rfl rfl, part_cell T_string.und rfl rfl, eqIn_string T_string.und⟩
  rw [this, beq_bytes]
  congr 1
  rw [Bool.eq_iff_iff]
  obtain ⟨a, b, c, e⟩ := m
  obtain ⟨a', b', c', e'⟩ := m'
  simp
theorem Pk.eql {h : PH} {x y : Operand} (m m' : Pk) : SemE PG h (binS .eql T_api_Packet x y m.v m'.v) = some (.bool (decide (m = m'))) := eqlStruct (by kernel_rfl) (Pk.eqD (d := 9998) m m')
theorem Pk.zb : SemP PG (Instr.build T_api_Packet #[]) = some (Pk.v default) := by kernel_rfl
def digK (ahead : List Tx) (p : Pk) : Tx := if p.right then sha (ahead.flatten ++ p.bs) else []
theorem pkbs_len {p : Pk} (h : p.right = true) : p.bs.length ≤ 83 := by
  have := (Pk.right_iff.1 h).2.2.2.2
  simp only [Pk.bs, List.length_append, be_len, tx_len]
  omega
theorem Kdig_ok {h00 h : PH} {p : Pk} (w : p.wf) (hK : KAt h00) {ahead : List Tx} {v : Value} {F : List Nat} (O : OwnR h T_string 1 v (ahead.map scell) F) (e0 : Ext h00 h) (f0 : Fresh h00 F) (hl : ahead.flatten.length ≤ 1000) (hl2 : ahead.length ≤ 10) {k : Value → PH → Prop} (hk : ∀ h', Ext h00 h' → k (.string (tx (digK ahead p))) h') : CallsH PG id_packet_digest #[p.v, v] h k := by
  apply packet_digest.call
  unfold packet_digest
  intro r1 hr1
  try rw [bindH_eq]
  have u1 : Ext h (h.set r1 (.cells (Value.cells p.v) T_api_Packet)) := Upd.new hr1
  have B1 : Bx (h.set r1 (.cells (Value.cells p.v) T_api_Packet)) r1 p.cells := Bx.new
  generalize h.set r1 (.cells (Value.cells p.v) T_api_Packet) = h1 at *
  have lp : ∀ {h' : PH}, Ext h1 h' → SemE PG h' (Instr.loadAt T_api_Packet (.pointer (some ⟨r1, 0, none⟩))) = some p.v := fun u => (B1.ext u).pk rfl
  simp only [lp Upd.refl, zSS, reduceIte, zZZ, Nat.reduceAdd]
  refine PkBytes_ok w fun h2 u2 => ?_
  have e2 := u1.trans u2
  cases hr : p.right with
  | false =>
    have n1 : ((1 : Int) != 0) = true := by decide
    have eb : pkBytes p = ([], 1) := by unfold pkBytes; rw [hr]; rfl
    have ed : digK ahead p = [] := by unfold digK; rw [hr]; rfl
    rw [ed] at hk
    simp only [eb, neqI, n1, zSS, reduceIte, zZZ, Nat.reduceAdd]
    exact hk _ (e0.trans e2)
  | true =>
    have eb : pkBytes p = (p.bs, 0) := by unfold pkBytes; rw [hr]; rfl
    have ed : digK ahead p = sha (ahead.flatten ++ p.bs) := by unfold digK; rw [hr]; rfl
    have ne : ¬ p = default := fun e => by rw [e] at hr; exact absurd hr (by decide)
    have nd := decide_eq_false ne
    have hb := pkbs_len hr
    rw [ed] at hk
    simp only [eb, neqI, lp u2, Pk.zb, Pk.eql, nd, lit1m, zSS, reduceIte, zZZ, Nat.reduceAdd]
    intro r22 hr22
    refine popO_pure ?_
    try rw [bindH_eq]
    have u3 : Ext h2 (h2.set r22 (.cells #[.string (tx p.bs)] T_string)) := Upd.new hr22
    have s1 : SlR (h2.set r22 (.cells #[.string (tx p.bs)] T_string)) 1 (.slice (some ⟨r22, 0, none⟩) 1 1) ([p.bs].map scell) := (OwnR.lit (scell.rows [p.bs]) set_same (by simp) (by decide) (by simp [scell])).slR
    generalize h2.set r22 (.cells #[.string (tx p.bs)] T_string) = h3 at *
    have e3 := e2.trans u3
    refine append_own T_sl_string.und T_sl_string.und T_string.info T_string.size T_string.bytes T_string.zero rfl (by decide) (O.ext e3) s1 (fun r hr u hu => by
      obtain ⟨s, -, rfl⟩ := List.mem_map.1 hr
      exact scell.isC s u hu) (by simp; omega) ?_
    intro v4 h4 F4 O4 u4 g4 _
    rw [← List.map_append] at O4
    have e4 : Ext h00 h4 := (e0.trans e3).fresh u4 f0
    refine Sum_ok (hK.ext e4) O4.slR (by rw [List.flatten_append, List.length_append, show [p.bs].flatten = p.bs by simp]; omega) fun h5 u5 => ?_
    have := hk h5 (e4.trans u5)
    rw [List.flatten_append, show [p.bs].flatten = p.bs by simp]
    exact this
def commP (p : Pk) : Tx := digK [] p
def ansP (p : Pk) : Tx := digK [[97, 99, 107]] p
theorem Commitment_ok {h : PH} {p : Pk} (w : p.wf) (hK : KAt h) {k : Value → PH → Prop} (hk : ∀ h', Ext h h' → k (.string (tx (commP p))) h') : CallsH PG id_packet_Commitment #[p.v] h k := by
  apply packet_Commitment.call
  unfold packet_Commitment
  intro r1 hr1
  try rw [bindH_eq]
  have u1 : Ext h (h.set r1 (.cells (Value.cells p.v) T_api_Packet)) := Upd.new hr1
  have B1 : Bx (h.set r1 (.cells (Value.cells p.v) T_api_Packet)) r1 p.cells := Bx.new
  generalize h.set r1 (.cells (Value.cells p.v) T_api_Packet) = h1 at *
  have lp : SemE PG h1 (Instr.loadAt T_api_Packet (.pointer (some ⟨r1, 0, none⟩))) = some p.v := B1.pk rfl
  simp only [lp, zSS, reduceIte, zZZ, Nat.reduceAdd]
  exact Kdig_ok w hK (ahead := []) OwnR.nil u1 (fun b hb => by cases hb) (by simp) (by simp) hk
theorem Answer_ok {h : PH} {p : Pk} (w : p.wf) (hK : KAt h) {k : Value → PH → Prop} (hk : ∀ h', Ext h h' → k (.string (tx (ansP p))) h') : CallsH PG id_packet_Answer #[p.v] h k := by
  apply packet_Answer.call
  unfold packet_Answer
  intro r1 hr1
  try rw [bindH_eq]
  have u1 : Ext h (h.set r1 (.cells (Value.cells p.v) T_api_Packet)) := Upd.new hr1
  have B1 : Bx (h.set r1 (.cells (Value.cells p.v) T_api_Packet)) r1 p.cells := Bx.new
  generalize h.set r1 (.cells (Value.cells p.v) T_api_Packet) = h1 at *
  have lp : SemE PG h1 (Instr.loadAt T_api_Packet (.pointer (some ⟨r1, 0, none⟩))) = some p.v := B1.pk rfl
  have q : ({ data := #[97, 99, 107] } : ByteArray) = tx [97, 99, 107] := rfl
  simp only [lp, q, lit1m, zSS, reduceIte, zZZ, Nat.reduceAdd]
  intro r4 hr4
  refine popO_pure ?_
  try rw [bindH_eq]
  have u2 : Ext h1 (h1.set r4 (.cells #[.string (tx [97, 99, 107])] T_string)) := Upd.new hr4
  have O : OwnR (h1.set r4 (.cells #[.string (tx [97, 99, 107])] T_string)) T_string 1 (.slice (some ⟨r4, 0, none⟩) 1 1) ([[97, 99, 107]].map scell) [r4] := OwnR.lit (scell.rows [[97, 99, 107]]) set_same (by simp) (by decide) (by simp [scell])
  exact Kdig_ok w hK (ahead := [[97, 99, 107]]) O (u1.trans u2) (Fresh.one (u1.none hr4)) (by simp) (by simp) hk
def keyP (c : UInt8) (n : Nat) : Tx := c :: be n 8
theorem keyP_len (c : UInt8) (n : Nat) : (keyP c n).length = 9 := by simp [keyP, be_len]
theorem Key_ok {h : PH} {c : UInt8} {n : Nat} (hn : n < 18446744073709551616) {k : Value → PH → Prop} (hk : ∀ h', Ext h h' → k (.string (tx (keyP c n))) h') : CallsH PG id_packet_key #[.string (tx [c]), .int .u64 (n : Int)] h k := by
  apply packet_key.call
  unfold packet_key
  intro r1 hr1
  try rw [bindH_eq]
  have S0 := WN.start hr1
  generalize h.set r1 (.cells (zcells PG T_wire_Writer) T_wire_Writer) = h1 at *
  refine Raw_w S0 (by simp) (by simp) fun h2 F2 x2 e2 S2 K2 => ?_
  refine Number_w S2 (by rw [e2]; simp) hn fun h3 F3 x3 e3 S3 K3 => ?_
  refine Bytes_ok S3.at_ fun h4 u4 => ?_
  have eb : wBytes (x3.1, x3.2) = (keyP c n, 0) := by rw [e3, e2]; rfl
  simp only [eb, zSS, reduceIte, zZZ, Nat.reduceAdd]
  exact hk _ (S3.upd.fresh u4 S3.fresh)
theorem Sent_ok {h : PH} {n : Nat} (hn : n < 18446744073709551616) {k : Value → PH → Prop} (hk : ∀ h', Ext h h' → k (.string (tx (keyP 99 n))) h') : CallsH PG id_packet_Sent #[.int .u64 (n : Int)] h k := by
  apply packet_Sent.call
  unfold packet_Sent
  exact Key_ok (c := 99) hn hk
theorem Received_ok {h : PH} {n : Nat} (hn : n < 18446744073709551616) {k : Value → PH → Prop} (hk : ∀ h', Ext h h' → k (.string (tx (keyP 114 n))) h') : CallsH PG id_packet_Received #[.int .u64 (n : Int)] h k := by
  apply packet_Received.call
  unfold packet_Received
  exact Key_ok (c := 114) hn hk
theorem Answered_ok {h : PH} {n : Nat} (hn : n < 18446744073709551616) {k : Value → PH → Prop} (hk : ∀ h', Ext h h' → k (.string (tx (keyP 97 n))) h') : CallsH PG id_packet_Answered #[.int .u64 (n : Int)] h k := by
  apply packet_Answered.call
  unfold packet_Answered
  exact Key_ok (c := 97) hn hk
theorem RKey_ok {h : PH} {c : UInt8} {n : Nat} (hn : n < 18446744073709551616) {k : Value → PH → Prop} (hk : ∀ h', Ext h h' → k (.string (tx (keyP c n))) h') : CallsH PG id_carrackref10_Key #[.string (tx [c]), .int .u64 (n : Int)] h k := by
  apply carrackref10_Key.call
  unfold carrackref10_Key
  refine RBytes_ok hn (by decide) fun h2 u2 => ?_
  rw [add_tx (by simp [be_len])]
  simp only [zSS, reduceIte, zZZ, Nat.reduceAdd]
  exact hk _ u2
end Go.Proofs.YtcoajnpchhmgjaaGreatDoor
namespace Go.Proofs.YtcoajnpchhmgjaaGreatDoor
open Go
set_option maxRecDepth 20000
end Go.Proofs.YtcoajnpchhmgjaaGreatDoor
namespace Go.Proofs.YtcoajnpchhmgjaaGreatDoor
open Go
set_option maxRecDepth 20000
def slotN (i : Nat) : List Value → PH → Nat := fun vs _ => match vs[i]? with
  | some (Value.int _ j) => j.toNat
  | _ => 0
theorem RErr_ok {h : PH} {a : Nat} {st : Stt} (R : RdAt h a st.1 st.2) {k : Value → PH → Prop} (hk : k (.int .i64 st.1) h) : CallsH PG id_wire_memory_Err #[.pointer (some ⟨a, 0, none⟩)] h k :=
  WErr_ok R.here rfl hk
theorem RFail_ok {h : PH} {a : Nat} {st : Stt} (R : RdAt h a st.1 st.2) (x : Int) {k : Value → PH → Prop} (hk : ∀ h', RdAt h' a (rFail st x).1 (rFail st x).2 → Upd [a] h h' → k (.tuple #[]) h') : CallsH PG id_wire_memory_Fail #[.pointer (some ⟨a, 0, none⟩), .int .i64 x] h k := by
  apply wire_memory_Fail.call
  unfold wire_memory_Fail
  have ha := R.here
  have c0 : cellH h ⟨a, 0, none⟩ = some (.int .i64 st.1) := by simp [cellH, ha]
  unfold rFail at hk
  by_cases h0 : st.1 = 0
  · have q : (st.1 == 0) = true := by simp [h0]
    rw [if_pos h0] at hk
    simp only [T_wire_memory.f0, T_api_Errno.load, c0, eqlI, q, zSS, reduceIte]
    refine store_cell T_api_Errno.und rfl ha (by simp) rfl T_api_Errno.info T_api_Errno.size ?_
    exact hk _ ⟨set_same⟩ (Upd.set (by simp))
  · have q : (st.1 == 0) = false := by simp [h0]
    rw [if_neg h0] at hk
    simp only [T_wire_memory.f0, T_api_Errno.load, c0, eqlI, q, zSS, reduceIte]
    exact hk h ⟨ha⟩ Upd.refl
def rEnd (st : Stt) : Int := if st.1 = 0 ∧ st.2 ≠ [] then 7 else st.1
theorem REnd_ok {h : PH} {a : Nat} {st : Stt} (R : RdAt h a st.1 st.2) {k : Value → PH → Prop} (hk : k (.int .i64 (rEnd st)) h) : CallsH PG id_wire_Reader_End #[.pointer (some ⟨a, 0, none⟩)] h k := by
  apply wire_Reader_End.call
  unfold wire_Reader_End
  refine RLeft_ok R ?_
  unfold rEnd at hk
  by_cases h0 : st.1 = 0 ∧ st.2 ≠ []
  · rw [if_pos h0] at hk
    have hp := List.length_pos_iff.2 h0.2
    have g : ((0 : Int) < (st.2.length : Int)) = True := eq_true (by omega)
    simp only [h0.1, if_true, g, zSS, reduceIte]
    exact hk
  · rw [if_neg h0] at hk
    have g : ((0 : Int) < (if st.1 = 0 then (st.2.length : Int) else 0)) = False := by
      apply eq_false
      split
      · rename_i h1
        have : st.2 = [] := Classical.byContradiction fun h2 => h0 ⟨h1, h2⟩
        rw [this]; simp
      · decide
    simp only [g, T_wire_Reader.f0, zSS, reduceIte]
    exact RErr_ok R hk
theorem Upd.ext {F : List Nat} {h h1 h2 : PH} (a : Upd F h h1) (u : Ext h1 h2) : Upd F h h2 := a.trans u.upd
def Nt.of (x : Int × Pk) : Nt := ⟨x.1, x.2⟩
theorem Nt.isC (l : List Nt) : ∀ r ∈ l.map Nt.cells, ∀ u ∈ r, isCell u = true := fun r hr u hu => by
  obtain ⟨m, _, rfl⟩ := List.mem_map.1 hr
  simp only [Nt.cells, List.mem_cons, List.not_mem_nil, or_false] at hu
  rcases hu with rfl | rfl | rfl | rfl | rfl <;> rfl
def It.of (x : Int × Pk) : It := ⟨x.2, x.1⟩
theorem It.isC (l : List It) : ∀ r ∈ l.map It.cells, ∀ u ∈ r, isCell u = true := fun r hr u hu => by
  obtain ⟨m, _, rfl⟩ := List.mem_map.1 hr
  simp only [It.cells, List.mem_cons, List.not_mem_nil, or_false] at hu
  rcases hu with rfl | rfl | rfl | rfl | rfl <;> rfl
end Go.Proofs.YtcoajnpchhmgjaaGreatDoor
