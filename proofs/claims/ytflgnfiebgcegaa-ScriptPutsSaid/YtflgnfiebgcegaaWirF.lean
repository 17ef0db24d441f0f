/- wire: the document's numbers and reader, as rules. -/
import Derived.Test.YtflgnfiebgcegaaWirR
set_option linter.unusedSimpArgs false
set_option linter.unusedVariables false
namespace Go.Proofs.Ytflgnfiebgcegaa
open Go
set_option maxRecDepth 20000
theorem RBytes_ok {h : PH} {n c : Nat} (hn : n < 18446744073709551616) (hc : c ≤ 1000) {k : Value → PH → Prop} (hk : ∀ h', Ext h h' → k (.string (tx (be n c))) h') : CallsH PG id_carrackref03_Bytes #[.int .u64 n, .int .i64 c] h k := by
  apply carrackref03_Bytes.call
  unfold carrackref03_Bytes
  refine ⟨fun vs h' => ∃ i : Nat, i ≤ c ∧ vs = [.int .u64 ((n / 256 ^ i : Nat) : Int), .int .i64 c, .string (tx ((be n c).drop (c - i))), .int .i64 i] ∧ Ext h h', upTo c 3, ⟨0, by omega, by rw [List.drop_of_length_le (by rw [be_len]; omega)]; simp [tx_nil], Upd.refl⟩, ?_⟩
  rintro ρ h' ⟨i, hi, hvs, w⟩
  simp only [List.map_cons, List.map_nil, List.cons.injEq, and_true] at hvs
  obtain ⟨s0, s1, s2, s3⟩ := hvs
  rw [s0, s1, s2, s3]
  unfold carrackref03_Bytes_b2
  by_cases hlt : i < c
  · have hd : ((i : Int) < (c : Int)) = True := by apply eq_true; omega
    have hle : n / 256 ^ i ≤ n := Nat.div_le_self _ _
    have e1 : Int.tmod ((n / 256 ^ i : Nat) : Int) 256 = ((n / 256 ^ i % 256 : Nat) : Int) := (Int.ofNat_tmod _ 256).symm
    have e2 : IntKind.u8.wrap ((n / 256 ^ i % 256 : Nat) : Int) = ((UInt8.ofNat (n / 256 ^ i % 256)).toNat : Int) := by rw [u8_wrap]; simp
    have e3 : IntKind.u64.wrap (Int.tdiv ((n / 256 ^ i : Nat) : Int) 256) = ((n / 256 ^ (i + 1) : Nat) : Int) := by
      have : Int.tdiv ((n / 256 ^ i : Nat) : Int) 256 = ((n / 256 ^ i / 256 : Nat) : Int) := rfl
      have hd2 : n / 256 ^ i / 256 = n / 256 ^ (i + 1) := by rw [Nat.div_div_eq_div_mul, Nat.pow_succ]
      rw [this, hd2]
      exact u64_wrap (Int.natCast_nonneg _) (by have := Nat.div_le_self n (256 ^ (i + 1)); omega)
    have ei : IntKind.i64.wrap ((i : Int) + 1) = ((i + 1 : Nat) : Int) := by rw [i64_wrap (by omega) (by omega)]; omega
    simp only [hd, rem_eq (show (256 : Int) ≠ 0 by decide), quo_eq (show (256 : Int) ≠ 0 by decide), e1, conv_u8, e2, byte_lit, popO_some, bindH_eq, condV_bool, condV_true, condV_false, yV_bool, gopV_tt, gopV_ff, gopV_tf, gopV_ft, pickV_t, pickV_f, pickV_bool, nilS_ptr, add_eq, sub_eq, mul_eq, lss_eq, leq_eq, gtr_eq, geq_eq, not_eq, minI_eq, maxI_eq, extract_0, extract_1, extract_2, eqlI, neqI, makeFunc_eq, decide_true, decide_false, if_true, if_false, Bool.false_eq_true, Bool.not_true, Bool.not_false, reduceIte, List.getElem?_toArray, List.getElem?_cons_zero, List.getElem?_cons_succ, Option.isSome_none, List.length_map]
    intro r hr
    refine popO_pure ?_
    have u1 : Ext h' (h'.set r (.cells #[.int .u8 (UInt8.ofNat (n / 256 ^ i % 256)).toNat] T_uint8)) := Upd.new hr
    have s1 : SlR (h'.set r (.cells #[.int .u8 (UInt8.ofNat (n / 256 ^ i % 256)).toNat] T_uint8)) 1 (.slice (some ⟨r, 0, none⟩) 1 1) ([UInt8.ofNat (n / 256 ^ i % 256)].map bcell) := (OwnR.lit (bcell.rows [_]) set_same (by simp) (by decide) (by simp [bcell])).slR
    generalize h'.set r (.cells #[.int .u8 (UInt8.ofNat (n / 256 ^ i % 256)).toNat] T_uint8) = h1 at *
    have hcv := conv_bytes T_sl_uint8.und T_uint8.und T_string.und s1
    have hcv' : SemE PG h1 (convert T_sl_uint8 T_string (.slice (some ⟨r, 0, none⟩) 1 1)) = some (.string (tx [UInt8.ofNat (n / 256 ^ i % 256)])) := hcv
    have hadd : SemP PG (binOp .add T_string (.string (tx [UInt8.ofNat (n / 256 ^ i % 256)])) (.string (tx ((be n c).drop (c - i))))) = some (.string (tx ((be n c).drop (c - (i + 1))))) := by
      rw [add_tx (by rw [List.length_drop, be_len]; simp; omega)]
      congr 3
      have hg := be_get n c (c - (i + 1)) (by omega)
      have : c - 1 - (c - (i + 1)) = i := by omega
      rw [this] at hg
      obtain ⟨hlt', hg'⟩ := List.getElem?_eq_some_iff.1 hg
      rw [List.drop_eq_getElem_cons hlt', hg']
      have : c - (i + 1) + 1 = c - i := by omega
      rw [this]; rfl
    simp only [hcv', hadd, e3, ei, popO_some, bindH_eq, condV_bool, condV_true, condV_false, yV_bool, gopV_tt, gopV_ff, gopV_tf, gopV_ft, pickV_t, pickV_f, pickV_bool, nilS_ptr, add_eq, sub_eq, mul_eq, lss_eq, leq_eq, gtr_eq, geq_eq, not_eq, minI_eq, maxI_eq, extract_0, extract_1, extract_2, eqlI, neqI, makeFunc_eq, decide_true, decide_false, if_true, if_false, Bool.false_eq_true, Bool.not_true, Bool.not_false, reduceIte, List.getElem?_toArray, List.getElem?_cons_zero, List.getElem?_cons_succ, Option.isSome_none, List.length_map]
    exact ⟨⟨i + 1, by omega, rfl, w.trans u1⟩, by simp [upTo, s3]; omega⟩
  · have hd : ((i : Int) < (c : Int)) = False := by apply eq_false; omega
    have hic : i = c := by omega
    subst hic
    rw [Nat.sub_self, List.drop_zero]
    simp only [hd, popO_some, bindH_eq, condV_bool, condV_true, condV_false, yV_bool, gopV_tt, gopV_ff, gopV_tf, gopV_ft, pickV_t, pickV_f, pickV_bool, nilS_ptr, add_eq, sub_eq, mul_eq, lss_eq, leq_eq, gtr_eq, geq_eq, not_eq, minI_eq, maxI_eq, extract_0, extract_1, extract_2, eqlI, neqI, makeFunc_eq, decide_true, decide_false, if_true, if_false, Bool.false_eq_true, Bool.not_true, Bool.not_false, reduceIte, List.getElem?_toArray, List.getElem?_cons_zero, List.getElem?_cons_succ, Option.isSome_none, List.length_map]
    exact hk _ w
theorem num_ok {h : PH} {x : Int} {c : Nat} (hc : c ≤ 1000) {k : Value → PH → Prop} (hk : ∀ h', Ext h h' → k (.string (tx (be (IntKind.u64.wrap x).toNat c))) h') : CallsH PG id_carrackref23_num #[.int .i64 x, .int .i64 c] h k := by
  apply carrackref23_num.call
  unfold carrackref23_num
  have h1 : 0 ≤ IntKind.u64.wrap x ∧ IntKind.u64.wrap x < 18446744073709551616 := by
    unfold IntKind.wrap
    simp [IntKind.signed, IntKind.bits]
    omega
  obtain ⟨m, hm⟩ := Int.eq_ofNat_of_zero_le h1.1
  simp only [conv_iu, popO_some, bindH_eq, condV_bool, condV_true, condV_false, yV_bool, gopV_tt, gopV_ff, gopV_tf, gopV_ft, pickV_t, pickV_f, pickV_bool, nilS_ptr, add_eq, sub_eq, mul_eq, lss_eq, leq_eq, gtr_eq, geq_eq, not_eq, minI_eq, maxI_eq, extract_0, extract_1, extract_2, eqlI, neqI, makeFunc_eq, decide_true, decide_false, if_true, if_false, Bool.false_eq_true, Bool.not_true, Bool.not_false, reduceIte, List.getElem?_toArray, List.getElem?_cons_zero, List.getElem?_cons_succ, Option.isSome_none, List.length_map]
  rw [hm] at hk ⊢
  exact RBytes_ok (n := m) (by omega) hc hk
theorem num_nat {h : PH} {n c : Nat} (hn : n < 9223372036854775808) (hc : c ≤ 1000) {k : Value → PH → Prop} (hk : ∀ h', Ext h h' → k (.string (tx (be n c))) h') : CallsH PG id_carrackref23_num #[.int .i64 n, .int .i64 c] h k := by
  refine num_ok hc ?_
  rw [u64_wrap (by omega) (by omega)]
  exact hk
theorem Value_ok {h : PH} {l : List UInt8} (hl : l.length ≤ 8) {k : Value → PH → Prop} (hk : k (.int .u64 (val l)) h) : CallsH PG id_carrackref03_Value #[.string (tx l)] h k := by
  apply carrackref03_Value.call
  unfold carrackref03_Value
  refine ⟨fun vs h' => ∃ i : Nat, i ≤ l.length ∧ vs = [.string (tx l), .int .u64 (val (l.take i)), .int .i64 i] ∧ h' = h, upTo l.length 2, ⟨0, by omega, rfl, rfl⟩, ?_⟩
  rintro ρ h' ⟨i, hi, hvs, rfl⟩
  simp only [List.map_cons, List.map_nil, List.cons.injEq, and_true] at hvs
  obtain ⟨s0, s1, s3⟩ := hvs
  rw [s0, s1, s3]
  unfold carrackref03_Value_b2
  by_cases hlt : i < l.length
  · have hd : ((i : Int) < (l.length : Int)) = True := by apply eq_true; omega
    obtain ⟨b, hb⟩ : ∃ b, l[i]? = some b := ⟨_, List.getElem?_eq_getElem hlt⟩
    have hsm := val_small hlt hl
    have hb8 := b.toNat_lt
    have ei : IntKind.i64.wrap ((i : Int) + 1) = ((i + 1 : Nat) : Int) := by rw [i64_wrap (by omega) (by omega)]; omega
    have e2 : IntKind.u64.wrap ((val (l.take i) : Int) * 256) = ((val (l.take i) * 256 : Nat) : Int) := by rw [u64_wrap (by omega) (by omega)]; omega
    have e3 : IntKind.u64.wrap (b.toNat : Int) = (b.toNat : Int) := u64_wrap (by omega) (by omega)
    have e4 : IntKind.u64.wrap (((val (l.take i) * 256 : Nat) : Int) + (b.toNat : Int)) = ((val (l.take (i + 1)) : Nat) : Int) := by rw [val_take hb, u64_wrap (by omega) (by omega)]; omega
    simp only [T_string.len, tx_size, hd, e2, index_tx T_string.und hb, conv_8u, e3, e4, ei, popO_some, bindH_eq, condV_bool, condV_true, condV_false, yV_bool, gopV_tt, gopV_ff, gopV_tf, gopV_ft, pickV_t, pickV_f, pickV_bool, nilS_ptr, add_eq, sub_eq, mul_eq, lss_eq, leq_eq, gtr_eq, geq_eq, not_eq, minI_eq, maxI_eq, extract_0, extract_1, extract_2, eqlI, neqI, makeFunc_eq, decide_true, decide_false, if_true, if_false, Bool.false_eq_true, Bool.not_true, Bool.not_false, reduceIte, List.getElem?_toArray, List.getElem?_cons_zero, List.getElem?_cons_succ, Option.isSome_none, List.length_map]
    exact ⟨⟨i + 1, by omega, rfl, by trivial⟩, by simp [upTo, s3]; omega⟩
  · have hd : ((i : Int) < (l.length : Int)) = False := by apply eq_false; omega
    rw [List.take_of_length_le (by omega)]
    simp only [T_string.len, tx_size, hd, popO_some, bindH_eq, condV_bool, condV_true, condV_false, yV_bool, gopV_tt, gopV_ff, gopV_tf, gopV_ft, pickV_t, pickV_f, pickV_bool, nilS_ptr, add_eq, sub_eq, mul_eq, lss_eq, leq_eq, gtr_eq, geq_eq, not_eq, minI_eq, maxI_eq, extract_0, extract_1, extract_2, eqlI, neqI, makeFunc_eq, decide_true, decide_false, if_true, if_false, Bool.false_eq_true, Bool.not_true, Bool.not_false, reduceIte, List.getElem?_toArray, List.getElem?_cons_zero, List.getElem?_cons_succ, Option.isSome_none, List.length_map]
    exact hk

/-! ### the document's reader -/
structure RfAt (h : PH) (a : Nat) (S : List UInt8) (e : Int) (s : List UInt8) : Prop where
  here : h a = some (.cells #[.string (tx S), .int .i64 ((S.length - s.length : Nat) : Int), .int .i64 e] T_carrackref03_Reader (0, 0))
  suf : s = S.drop (S.length - s.length)
  le : s.length ≤ S.length
theorem RfAt.upd {h h' : PH} {a : Nat} {S : List UInt8} {e : Int} {s : List UInt8} {G : List Nat} (H : RfAt h a S e s) (u : Upd G h h') (hd : a ∉ G) : RfAt h' a S e s := ⟨u.get H.here hd, H.suf, H.le⟩
theorem RfAt.ext {h h' : PH} {a : Nat} {S : List UInt8} {e : Int} {s : List UInt8} (H : RfAt h a S e s) (u : Ext h h') : RfAt h' a S e s := H.upd u (by simp)
theorem take_ok {h : PH} {a : Nat} {S : List UInt8} {e : Int} {s : List UInt8} (hR : RfAt h a S e s) (hS : S.length ≤ 1000000000000) (n : Int) {k : Value → PH → Prop}
    (hk : ∀ h', RfAt h' a S (rRaw (e, s) n).2.1 (rRaw (e, s) n).2.2 → Upd [a] h h' → k (.tuple #[.string (tx (rRaw (e, s) n).1), .bool (decide (e = 0 ∧ 0 ≤ n ∧ n ≤ s.length))]) h') :
    CallsH PG id_carrackref03_Reader_take #[.pointer (some ⟨a, 0, none⟩), .int .i64 n] h k := by
  have ha := hR.here
  have hle := hR.le
  have c0 : cellH h ⟨a, 0, none⟩ = some (.string (tx S)) := by simp [cellH, ha]
  have c1 : cellH h ⟨a, 1, none⟩ = some (.int .i64 ((S.length - s.length : Nat) : Int)) := by simp [cellH, ha]
  have c2 : cellH h ⟨a, 2, none⟩ = some (.int .i64 e) := by simp [cellH, ha]
  apply carrackref03_Reader_take.call
  unfold carrackref03_Reader_take
  unfold rRaw at hk
  by_cases h0 : e = 0
  · have q : (e != 0) = false := by simp [h0]
    have bad : ¬ (0 ≤ n ∧ n ≤ (s.length : Int)) → SemH PG (storeS T_int (.pointer (some ⟨a, 2, none⟩)) (.int .i64 6)) h fun v54 h55 => k (.tuple #[.string { data := #[] }, .bool false]) h55 := by
      intro hb
      rw [if_neg (by rintro ⟨_, h2⟩; exact hb h2), if_pos h0] at hk
      have hdec : decide (e = 0 ∧ 0 ≤ n ∧ n ≤ (s.length : Int)) = false := by simp only [decide_eq_false_iff_not]; rintro ⟨_, h2⟩; exact hb h2
      rw [hdec] at hk
      refine store_cell T_int.und rfl ha (by simp) rfl T_int.info T_int.size ?_
      exact hk _ ⟨by rw [set_same]; rfl, hR.suf, hR.le⟩ (Upd.set (by simp))
    have esub : IntKind.i64.wrap ((S.length : Int) - ((S.length - s.length : Nat) : Int)) = (s.length : Int) := by rw [i64_wrap (by omega) (by omega)]; omega
    by_cases h1 : n < 0
    · simp only [T_carrackref03_Reader.f2, Nat.zero_add, T_int.load, c2, q, h1, popO_some, bindH_eq, condV_bool, condV_true, condV_false, yV_bool, gopV_tt, gopV_ff, gopV_tf, gopV_ft, pickV_t, pickV_f, pickV_bool, nilS_ptr, add_eq, sub_eq, mul_eq, lss_eq, leq_eq, gtr_eq, geq_eq, not_eq, minI_eq, maxI_eq, extract_0, extract_1, extract_2, eqlI, neqI, makeFunc_eq, decide_true, decide_false, if_true, if_false, Bool.false_eq_true, Bool.not_true, Bool.not_false, reduceIte, List.getElem?_toArray, List.getElem?_cons_zero, List.getElem?_cons_succ, Option.isSome_none, List.length_map]
      exact bad (by omega)
    · by_cases h2 : (s.length : Int) < n
      · simp only [T_carrackref03_Reader.f0, T_carrackref03_Reader.f1, T_carrackref03_Reader.f2, Nat.zero_add, T_int.load, T_string.load, c0, c1, c2, q, h1, T_string.len, tx_size, esub, h2, popO_some, bindH_eq, condV_bool, condV_true, condV_false, yV_bool, gopV_tt, gopV_ff, gopV_tf, gopV_ft, pickV_t, pickV_f, pickV_bool, nilS_ptr, add_eq, sub_eq, mul_eq, lss_eq, leq_eq, gtr_eq, geq_eq, not_eq, minI_eq, maxI_eq, extract_0, extract_1, extract_2, eqlI, neqI, makeFunc_eq, decide_true, decide_false, if_true, if_false, Bool.false_eq_true, Bool.not_true, Bool.not_false, reduceIte, List.getElem?_toArray, List.getElem?_cons_zero, List.getElem?_cons_succ, Option.isSome_none, List.length_map]
        exact bad (by omega)
      · obtain ⟨m, rfl⟩ := Int.eq_ofNat_of_zero_le (a := n) (by omega)
        have hm : m ≤ s.length := by omega
        have eadd : IntKind.i64.wrap (((S.length - s.length : Nat) : Int) + (m : Int)) = ((S.length - (s.length - m) : Nat) : Int) := by rw [i64_wrap (by omega) (by omega)]; omega
        have esub2 : IntKind.i64.wrap (((S.length - (s.length - m) : Nat) : Int) - (m : Int)) = ((S.length - s.length : Nat) : Int) := by rw [i64_wrap (by omega) (by omega)]; omega
        rw [if_pos ⟨h0, by omega, by simpa using hm⟩] at hk
        have hdec : decide (e = 0 ∧ 0 ≤ (m : Int) ∧ (m : Int) ≤ (s.length : Int)) = true := by simp only [decide_eq_true_eq]; exact ⟨h0, by omega, by omega⟩
        rw [hdec] at hk
        simp only [T_carrackref03_Reader.f0, T_carrackref03_Reader.f1, T_carrackref03_Reader.f2, Nat.zero_add, T_int.load, T_string.load, c0, c1, c2, q, h1, T_string.len, tx_size, esub, h2, eadd, popO_some, bindH_eq, condV_bool, condV_true, condV_false, yV_bool, gopV_tt, gopV_ff, gopV_tf, gopV_ft, pickV_t, pickV_f, pickV_bool, nilS_ptr, add_eq, sub_eq, mul_eq, lss_eq, leq_eq, gtr_eq, geq_eq, not_eq, minI_eq, maxI_eq, extract_0, extract_1, extract_2, eqlI, neqI, makeFunc_eq, decide_true, decide_false, if_true, if_false, Bool.false_eq_true, Bool.not_true, Bool.not_false, reduceIte, List.getElem?_toArray, List.getElem?_cons_zero, List.getElem?_cons_succ, Option.isSome_none, List.length_map]
        refine store_cell T_int.und rfl ha (by simp) rfl T_int.info T_int.size ?_
        have hb : (h.set a (.cells (#[Value.string (tx S), .int .i64 ((S.length - s.length : Nat) : Int), .int .i64 e].setIfInBounds 1 (.int .i64 ((S.length - (s.length - m) : Nat) : Int))) T_carrackref03_Reader (0, 0))) a = some (.cells #[.string (tx S), .int .i64 ((S.length - (s.length - m) : Nat) : Int), .int .i64 e] T_carrackref03_Reader (0, 0)) := set_same
        have ub : Upd [a] h (h.set a (.cells (#[Value.string (tx S), .int .i64 ((S.length - s.length : Nat) : Int), .int .i64 e].setIfInBounds 1 (.int .i64 ((S.length - (s.length - m) : Nat) : Int))) T_carrackref03_Reader (0, 0))) := Upd.set (by simp)
        generalize h.set a (.cells (#[Value.string (tx S), .int .i64 ((S.length - s.length : Nat) : Int), .int .i64 e].setIfInBounds 1 (.int .i64 ((S.length - (s.length - m) : Nat) : Int))) T_carrackref03_Reader (0, 0)) = h2 at *
        have d0 : cellH h2 ⟨a, 0, none⟩ = some (.string (tx S)) := by simp [cellH, hb]
        have d1 : cellH h2 ⟨a, 1, none⟩ = some (.int .i64 ((S.length - (s.length - m) : Nat) : Int)) := by simp [cellH, hb]
        have hcut := cut_tx (P := PG) (l := S) (i := S.length - s.length) (j := S.length - (s.length - m)) (lo := some (.int .i64 ((S.length - s.length : Nat) : Int))) (hi := some (.int .i64 ((S.length - (s.length - m) : Nat) : Int))) T_string.und (.inr ⟨.i64, rfl⟩) (.inr ⟨.i64, rfl⟩) (by omega) (by omega)
        have hlist : (S.take (S.length - (s.length - m))).drop (S.length - s.length) = s.take m := by
          conv => rhs; rw [hR.suf]
          rw [List.drop_take]
          congr 1
          omega
        rw [hlist] at hcut
        simp only [d0, d1, esub2, hcut, popO_some, bindH_eq, condV_bool, condV_true, condV_false, yV_bool, gopV_tt, gopV_ff, gopV_tf, gopV_ft, pickV_t, pickV_f, pickV_bool, nilS_ptr, add_eq, sub_eq, mul_eq, lss_eq, leq_eq, gtr_eq, geq_eq, not_eq, minI_eq, maxI_eq, extract_0, extract_1, extract_2, eqlI, neqI, makeFunc_eq, decide_true, decide_false, if_true, if_false, Bool.false_eq_true, Bool.not_true, Bool.not_false, reduceIte, List.getElem?_toArray, List.getElem?_cons_zero, List.getElem?_cons_succ, Option.isSome_none, List.length_map]
        rw [Int.toNat_natCast, h0] at hk
        have hlen : (s.drop m).length = s.length - m := List.length_drop
        refine hk _ ⟨?_, ?_, by rw [hlen]; omega⟩ ub
        · rw [hlen, hb, h0]
        · rw [hlen]
          have h1 : S.drop (S.length - (s.length - m)) = (S.drop (S.length - s.length)).drop m := by
            rw [List.drop_drop]
            congr 1
            omega
          rw [h1, ← hR.suf]
  · have q : (e != 0) = true := by simp [h0]
    rw [if_neg (by rintro ⟨h1, _⟩; exact h0 h1), if_neg h0] at hk
    have hdec : decide (e = 0 ∧ 0 ≤ n ∧ n ≤ (s.length : Int)) = false := by simp only [decide_eq_false_iff_not]; rintro ⟨h1, _⟩; exact h0 h1
    rw [hdec] at hk
    simp only [T_carrackref03_Reader.f2, Nat.zero_add, T_int.load, c2, q, popO_some, bindH_eq, condV_bool, condV_true, condV_false, yV_bool, gopV_tt, gopV_ff, gopV_tf, gopV_ft, pickV_t, pickV_f, pickV_bool, nilS_ptr, add_eq, sub_eq, mul_eq, lss_eq, leq_eq, gtr_eq, geq_eq, not_eq, minI_eq, maxI_eq, extract_0, extract_1, extract_2, eqlI, neqI, makeFunc_eq, decide_true, decide_false, if_true, if_false, Bool.false_eq_true, Bool.not_true, Bool.not_false, reduceIte, List.getElem?_toArray, List.getElem?_cons_zero, List.getElem?_cons_succ, Option.isSome_none, List.length_map]
    exact hk _ hR Upd.refl
end Go.Proofs.Ytflgnfiebgcegaa
