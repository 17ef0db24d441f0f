/- wire: the reader; the document's numbers and reader. -/
import Derived.Test.YtflgnfiebgcegaaWirW
set_option linter.unusedSimpArgs false
set_option linter.unusedVariables false
namespace Go.Proofs.Ytflgnfiebgcegaa
open Go
set_option maxRecDepth 20000
theorem or_eq {t : TypeId} {x b : Nat} (hx : x * 256 + 255 < 18446744073709551616) (hb : b < 256) : SemP PG (binOp .or t (.int .u64 ((x * 256 : Nat) : Int)) (.int .u64 (b : Int))) = some (.int .u64 ((x * 256 + b : Nat) : Int)) := by
  have e : SemP PG (binOp .or t (.int .u64 ((x * 256 : Nat) : Int)) (.int .u64 (b : Int))) = some (.int .u64 (IntKind.u64.wrap ((BitVec.ofInt IntKind.u64.bits ((x * 256 : Nat) : Int) ||| BitVec.ofInt IntKind.u64.bits (b : Int)).toNat))) := rfl
  rw [e]
  congr 2
  have h64 : IntKind.u64.bits = 64 := rfl
  rw [h64, BitVec.toNat_or, BitVec.ofInt_natCast, BitVec.ofInt_natCast, BitVec.toNat_ofNat, BitVec.toNat_ofNat, Nat.mod_eq_of_lt (by omega), Nat.mod_eq_of_lt (by omega)]
  have := Nat.shiftLeft_add_eq_or_of_lt (i := 8) (b := b) (by omega) x
  rw [Nat.shiftLeft_eq] at this
  have e2 : (x * 256 ||| b) = x * 256 + b := this.symm
  rw [e2, u64_wrap (by omega) (by omega)]
structure RdAt (h : PH) (a : Nat) (e : Int) (s : List UInt8) : Prop where
  here : h a = some (.cells #[.int .i64 e, .string (tx s)] T_wire_Reader (0, 0))
theorem RdAt.upd {h h' : PH} {a : Nat} {e : Int} {s : List UInt8} {G : List Nat} (H : RdAt h a e s) (u : Upd G h h') (hd : a ∉ G) : RdAt h' a e s := ⟨u.get H.here hd⟩
theorem RdAt.ext {h h' : PH} {a : Nat} {e : Int} {s : List UInt8} (H : RdAt h a e s) (u : Ext h h') : RdAt h' a e s := H.upd u (by simp)
theorem NewReader_ok {h : PH} (s : List UInt8) {k : Value → PH → Prop} (hk : ∀ a h', RdAt h' a 0 s → Ext h h' → h a = none → k (.pointer (some ⟨a, 0, none⟩)) h') : CallsH PG id_wire_NewReader #[.string (tx s)] h k := by
  apply wire_NewReader.call
  unfold wire_NewReader
  have e1 : SemP PG (Instr.build T_wire_Reader #[(1, .string (tx s))]) = some (.agg #[.int .i64 0, .string (tx s)]) := by kernel_rfl
  simp only [e1, popO_some, bindH_eq, condV_bool, condV_true, condV_false, yV_bool, gopV_tt, gopV_ff, gopV_tf, gopV_ft, pickV_t, pickV_f, pickV_bool, nilS_ptr, add_eq, sub_eq, mul_eq, lss_eq, leq_eq, gtr_eq, geq_eq, not_eq, minI_eq, maxI_eq, extract_0, extract_1, extract_2, eqlI, neqI, makeFunc_eq, decide_true, decide_false, if_true, if_false, Bool.false_eq_true, Bool.not_true, Bool.not_false, reduceIte, List.getElem?_toArray, List.getElem?_cons_zero, List.getElem?_cons_succ, Option.isSome_none, List.length_map]
  intro r hr
  exact hk r _ ⟨set_same⟩ (Upd.new hr) hr
def rRaw (st : Int × List UInt8) (n : Int) : List UInt8 × (Int × List UInt8) :=
  if st.1 = 0 ∧ 0 ≤ n ∧ n ≤ st.2.length then (st.2.take n.toNat, (0, st.2.drop n.toNat)) else ([], (if st.1 = 0 then 6 else st.1, st.2))
theorem Raw_ok {h : PH} {a : Nat} {e : Int} {s : List UInt8} (hR : RdAt h a e s) (n : Int) {k : Value → PH → Prop} (hk : ∀ h', RdAt h' a (rRaw (e, s) n).2.1 (rRaw (e, s) n).2.2 → Upd [a] h h' → k (.string (tx (rRaw (e, s) n).1)) h') :
    CallsH PG id_wire_Reader_Raw #[.pointer (some ⟨a, 0, none⟩), .int .i64 n] h k := by
  have ha := hR.here
  have c1 : cellH h ⟨a, 1, none⟩ = some (.string (tx s)) := by simp [cellH, ha]
  have c0 : cellH h ⟨a, 0, none⟩ = some (.int .i64 e) := by simp [cellH, ha]
  apply wire_Reader_Raw.call
  unfold wire_Reader_Raw
  have tail : ∀ (e' : Int), (e' ≠ 0 → ∀ h', h' a = some (.cells #[.int .i64 e', .string (tx s)] T_wire_Reader (0, 0)) → Upd [a] h h' → k (.string (tx [])) h') → (e' = 0 → 0 ≤ n ∧ n ≤ s.length) → (e' = 0 → e = 0) → ∀ h', h' a = some (.cells #[.int .i64 e', .string (tx s)] T_wire_Reader (0, 0)) → Upd [a] h h' → wire_Reader_Raw_k33 k (.pointer (some ⟨a, 0, none⟩)) (.int .i64 n) h' := by
    intro e' hbad hgood he h' ha' u'
    unfold wire_Reader_Raw_k33
    simp only [T_wire_Reader.f0, T_wire_Reader.f1, Nat.zero_add, popO_some, bindH_eq, condV_bool, condV_true, condV_false, yV_bool, gopV_tt, gopV_ff, gopV_tf, gopV_ft, pickV_t, pickV_f, pickV_bool, nilS_ptr, add_eq, sub_eq, mul_eq, lss_eq, leq_eq, gtr_eq, geq_eq, not_eq, minI_eq, maxI_eq, extract_0, extract_1, extract_2, eqlI, neqI, makeFunc_eq, decide_true, decide_false, if_true, if_false, Bool.false_eq_true, Bool.not_true, Bool.not_false, reduceIte, List.getElem?_toArray, List.getElem?_cons_zero, List.getElem?_cons_succ, Option.isSome_none, List.length_map]
    refine WErr_ok ha' rfl ?_
    by_cases h0 : e' = 0
    · have q : (e' != 0) = false := by simp [h0]
      obtain ⟨g1, g2⟩ := hgood h0
      have c1' : cellH h' ⟨a, 1, none⟩ = some (.string (tx s)) := by simp [cellH, ha']
      obtain ⟨m, rfl⟩ := Int.eq_ofNat_of_zero_le g1
      have hm : m ≤ s.length := by omega
      simp only [q, T_wire_Reader.f1, Nat.zero_add, T_string.load, c1', cut_tx (lo := none) T_string.und (.inl ⟨rfl, rfl⟩) (.inr ⟨.i64, rfl⟩) (Nat.zero_le m) hm, cut_tx (hi := none) T_string.und (.inr ⟨.i64, rfl⟩) (.inl ⟨rfl, rfl⟩) hm (Nat.le_refl _), popO_some, bindH_eq, condV_bool, condV_true, condV_false, yV_bool, gopV_tt, gopV_ff, gopV_tf, gopV_ft, pickV_t, pickV_f, pickV_bool, nilS_ptr, add_eq, sub_eq, mul_eq, lss_eq, leq_eq, gtr_eq, geq_eq, not_eq, minI_eq, maxI_eq, extract_0, extract_1, extract_2, eqlI, neqI, makeFunc_eq, decide_true, decide_false, if_true, if_false, Bool.false_eq_true, Bool.not_true, Bool.not_false, reduceIte, List.getElem?_toArray, List.getElem?_cons_zero, List.getElem?_cons_succ, Option.isSome_none, List.length_map]
      refine store_cell T_string.und rfl ha' (by simp) rfl T_string.info T_string.size ?_
      have hr : rRaw (e, s) (m : Int) = (s.take m, (0, s.drop m)) := by
        unfold rRaw
        rw [if_pos ⟨he h0, by omega, by simpa using hm⟩]
        simp
      rw [hr] at hk
      rw [List.drop_zero, List.take_of_length_le (Nat.le_refl _)]
      refine hk _ ⟨?_⟩ (u'.trans (Upd.set (by simp)))
      rw [set_same, h0]
      rfl
    · have q : (e' != 0) = true := by simp [h0]
      simp only [q, popO_some, bindH_eq, condV_bool, condV_true, condV_false, yV_bool, gopV_tt, gopV_ff, gopV_tf, gopV_ft, pickV_t, pickV_f, pickV_bool, nilS_ptr, add_eq, sub_eq, mul_eq, lss_eq, leq_eq, gtr_eq, geq_eq, not_eq, minI_eq, maxI_eq, extract_0, extract_1, extract_2, eqlI, neqI, makeFunc_eq, decide_true, decide_false, if_true, if_false, Bool.false_eq_true, Bool.not_true, Bool.not_false, reduceIte, List.getElem?_toArray, List.getElem?_cons_zero, List.getElem?_cons_succ, Option.isSome_none, List.length_map]
      exact hbad h0 h' ha' u'
  have hin : e = 0 → ¬ (0 ≤ n ∧ n ≤ s.length) → rRaw (e, s) n = ([], (6, s)) := fun h0 hb => by
    unfold rRaw
    rw [if_neg (by rintro ⟨_, h2⟩; exact hb h2), if_pos h0]
  have hne : e ≠ 0 → rRaw (e, s) n = ([], (e, s)) := fun h0 => by
    unfold rRaw
    rw [if_neg (by rintro ⟨h1, _⟩; exact h0 h1), if_neg h0]
  have fails : ¬ (0 ≤ n ∧ n ≤ s.length) → CallsH PG id_wire_memory_Fail #[.pointer (some ⟨a, 0, none⟩), .int .i64 6] h fun v h' => wire_Reader_Raw_k33 k (.pointer (some ⟨a, 0, none⟩)) (.int .i64 n) h' := by
    intro hb
    apply wire_memory_Fail.call
    unfold wire_memory_Fail
    by_cases h0 : e = 0
    · have q : (e == 0) = true := by simp [h0]
      simp only [T_wire_memory.f0, T_api_Errno.load, c0, q, popO_some, bindH_eq, condV_bool, condV_true, condV_false, yV_bool, gopV_tt, gopV_ff, gopV_tf, gopV_ft, pickV_t, pickV_f, pickV_bool, nilS_ptr, add_eq, sub_eq, mul_eq, lss_eq, leq_eq, gtr_eq, geq_eq, not_eq, minI_eq, maxI_eq, extract_0, extract_1, extract_2, eqlI, neqI, makeFunc_eq, decide_true, decide_false, if_true, if_false, Bool.false_eq_true, Bool.not_true, Bool.not_false, reduceIte, List.getElem?_toArray, List.getElem?_cons_zero, List.getElem?_cons_succ, Option.isSome_none, List.length_map]
      refine store_cell T_api_Errno.und rfl ha (by simp) rfl T_api_Errno.info T_api_Errno.size ?_
      refine tail 6 (fun _ h' ha' u' => ?_) (fun h => absurd h (by decide)) (fun h => absurd h (by decide)) _ set_same (Upd.set (by simp))
      have := hk h'
      rw [hin h0 hb] at this
      exact this ⟨ha'⟩ u'
    · have q : (e == 0) = false := by simp [h0]
      simp only [T_wire_memory.f0, T_api_Errno.load, c0, q, popO_some, bindH_eq, condV_bool, condV_true, condV_false, yV_bool, gopV_tt, gopV_ff, gopV_tf, gopV_ft, pickV_t, pickV_f, pickV_bool, nilS_ptr, add_eq, sub_eq, mul_eq, lss_eq, leq_eq, gtr_eq, geq_eq, not_eq, minI_eq, maxI_eq, extract_0, extract_1, extract_2, eqlI, neqI, makeFunc_eq, decide_true, decide_false, if_true, if_false, Bool.false_eq_true, Bool.not_true, Bool.not_false, reduceIte, List.getElem?_toArray, List.getElem?_cons_zero, List.getElem?_cons_succ, Option.isSome_none, List.length_map]
      refine tail e (fun _ h' ha' u' => ?_) (fun h1 => absurd h1 h0) (fun h1 => h1) _ ha Upd.refl
      have := hk h'
      rw [hne h0] at this
      exact this ⟨ha'⟩ u'
  by_cases h1 : n < 0
  · simp only [h1, T_wire_Reader.f0, popO_some, bindH_eq, condV_bool, condV_true, condV_false, yV_bool, gopV_tt, gopV_ff, gopV_tf, gopV_ft, pickV_t, pickV_f, pickV_bool, nilS_ptr, add_eq, sub_eq, mul_eq, lss_eq, leq_eq, gtr_eq, geq_eq, not_eq, minI_eq, maxI_eq, extract_0, extract_1, extract_2, eqlI, neqI, makeFunc_eq, decide_true, decide_false, if_true, if_false, Bool.false_eq_true, Bool.not_true, Bool.not_false, reduceIte, List.getElem?_toArray, List.getElem?_cons_zero, List.getElem?_cons_succ, Option.isSome_none, List.length_map]
    exact fails (by omega)
  · by_cases h2 : (s.length : Int) < n
    · simp only [h1, T_wire_Reader.f0, T_wire_Reader.f1, Nat.zero_add, T_string.load, c1, T_string.len, tx_size, h2, popO_some, bindH_eq, condV_bool, condV_true, condV_false, yV_bool, gopV_tt, gopV_ff, gopV_tf, gopV_ft, pickV_t, pickV_f, pickV_bool, nilS_ptr, add_eq, sub_eq, mul_eq, lss_eq, leq_eq, gtr_eq, geq_eq, not_eq, minI_eq, maxI_eq, extract_0, extract_1, extract_2, eqlI, neqI, makeFunc_eq, decide_true, decide_false, if_true, if_false, Bool.false_eq_true, Bool.not_true, Bool.not_false, reduceIte, List.getElem?_toArray, List.getElem?_cons_zero, List.getElem?_cons_succ, Option.isSome_none, List.length_map]
      exact fails (by omega)
    · simp only [h1, T_wire_Reader.f1, Nat.zero_add, T_string.load, c1, T_string.len, tx_size, h2, popO_some, bindH_eq, condV_bool, condV_true, condV_false, yV_bool, gopV_tt, gopV_ff, gopV_tf, gopV_ft, pickV_t, pickV_f, pickV_bool, nilS_ptr, add_eq, sub_eq, mul_eq, lss_eq, leq_eq, gtr_eq, geq_eq, not_eq, minI_eq, maxI_eq, extract_0, extract_1, extract_2, eqlI, neqI, makeFunc_eq, decide_true, decide_false, if_true, if_false, Bool.false_eq_true, Bool.not_true, Bool.not_false, reduceIte, List.getElem?_toArray, List.getElem?_cons_zero, List.getElem?_cons_succ, Option.isSome_none, List.length_map]
      refine tail e (fun h0 h' ha' u' => ?_) (fun _ => by omega) (fun h1 => h1) _ ha Upd.refl
      have := hk h'
      rw [hne h0] at this
      exact this ⟨ha'⟩ u'
def rGet (st : Int × List UInt8) (c : Nat) : Nat × (Int × List UInt8) := (val (rRaw st c).1, (rRaw st c).2)
theorem rRaw_len (st : Int × List UInt8) (c : Nat) : (rRaw st c).1.length ≤ c := by
  unfold rRaw
  split
  · simp; omega
  · simp
theorem val_take {l : List UInt8} {i : Nat} {b : UInt8} (hb : l[i]? = some b) : val (l.take (i + 1)) = val (l.take i) * 256 + b.toNat := by
  rw [List.take_add_one, hb]
  exact val_snoc _ _
theorem val_small {l : List UInt8} {i : Nat} (hi : i < l.length) (hl : l.length ≤ 8) : val (l.take i) * 256 + 255 < 18446744073709551616 := by
  have h1 := val_lt (l.take i)
  rw [List.length_take, Nat.min_eq_left (by omega)] at h1
  have h2 : 256 ^ i ≤ 256 ^ 7 := Nat.pow_le_pow_right (by decide) (by omega)
  have h3 : (256 : Nat) ^ 7 = 72057594037927936 := by decide
  omega
theorem get_ok {h : PH} {a : Nat} {e : Int} {s : List UInt8} (hR : RdAt h a e s) {c : Nat} (hc : c ≤ 8) {k : Value → PH → Prop} (hk : ∀ h', RdAt h' a (rGet (e, s) c).2.1 (rGet (e, s) c).2.2 → Upd [a] h h' → k (.int .u64 (rGet (e, s) c).1) h') :
    CallsH PG id_wire_Reader_get #[.pointer (some ⟨a, 0, none⟩), .int .i64 c] h k := by
  apply wire_Reader_get.call
  unfold wire_Reader_get
  refine Raw_ok hR c fun h1 hR1 u1 => ?_
  have hlen := rRaw_len (e, s) c
  unfold rGet at hk
  generalize hrr : rRaw (e, s) (c : Int) = rr at *
  refine bytes_of T_string.und T_sl_uint8.und T_uint8.und (by omega) fun v h2 hS u2 => ?_
  have lv := hS.len (t' := T_int) T_sl_uint8.und
  rw [List.length_map] at lv
  simp only [lv, popO_some, bindH_eq, condV_bool, condV_true, condV_false, yV_bool, gopV_tt, gopV_ff, gopV_tf, gopV_ft, pickV_t, pickV_f, pickV_bool, nilS_ptr, add_eq, sub_eq, mul_eq, lss_eq, leq_eq, gtr_eq, geq_eq, not_eq, minI_eq, maxI_eq, extract_0, extract_1, extract_2, eqlI, neqI, makeFunc_eq, decide_true, decide_false, if_true, if_false, Bool.false_eq_true, Bool.not_true, Bool.not_false, reduceIte, List.getElem?_toArray, List.getElem?_cons_zero, List.getElem?_cons_succ, Option.isSome_none, List.length_map]
  refine ⟨fun vs h' => ∃ i : Nat, i ≤ rr.1.length ∧ vs = [.int .u64 (val (rr.1.take i)), v, .int .i64 rr.1.length, .int .i64 i] ∧ h' = h2, upTo rr.1.length 3, ⟨0, by omega, rfl, rfl⟩, ?_⟩
  rintro ρ h' ⟨i, hi, hvs, rfl⟩
  simp only [List.map_cons, List.map_nil, List.cons.injEq, and_true] at hvs
  obtain ⟨s0, s1, s2, s3⟩ := hvs
  rw [s0, s1, s2, s3]
  unfold wire_Reader_get_b7
  by_cases hlt : i < rr.1.length
  · have hd : ((i : Int) < (rr.1.length : Int)) = True := by apply eq_true; omega
    obtain ⟨b, hb⟩ : ∃ b, rr.1[i]? = some b := ⟨_, List.getElem?_eq_getElem hlt⟩
    obtain ⟨p, p1, p2⟩ := hS.loadCell T_sl_uint8.und T_uint8.info T_uint8.size T_uint8.und rfl (k := .i64) (j := (i : Int)) (x := .int .u8 b.toNat) (by omega) (by simp [List.getElem?_map, hb, bcell])
    have hsm := val_small hlt (by omega)
    have ei : IntKind.i64.wrap ((i : Int) + 1) = ((i + 1 : Nat) : Int) := by rw [i64_wrap (by omega) (by omega)]; omega
    have e1 : min (8 : Int).toNat IntKind.u64.bits = 8 := by decide
    have e2 : IntKind.u64.wrap ((val (rr.1.take i) : Int) * 2 ^ 8) = ((val (rr.1.take i) * 256 : Nat) : Int) := by rw [u64_wrap (by omega) (by omega)]; omega
    have hb8 := b.toNat_lt
    have e3 : IntKind.u64.wrap (b.toNat : Int) = (b.toNat : Int) := u64_wrap (by omega) (by omega)
    simp only [hd, p1, p2, shl_eq (show (0 : Int) ≤ 8 by decide), e1, e2, conv_8u, e3, or_eq hsm hb8, ei, popO_some, bindH_eq, condV_bool, condV_true, condV_false, yV_bool, gopV_tt, gopV_ff, gopV_tf, gopV_ft, pickV_t, pickV_f, pickV_bool, nilS_ptr, add_eq, sub_eq, mul_eq, lss_eq, leq_eq, gtr_eq, geq_eq, not_eq, minI_eq, maxI_eq, extract_0, extract_1, extract_2, eqlI, neqI, makeFunc_eq, decide_true, decide_false, if_true, if_false, Bool.false_eq_true, Bool.not_true, Bool.not_false, reduceIte, List.getElem?_toArray, List.getElem?_cons_zero, List.getElem?_cons_succ, Option.isSome_none, List.length_map]
    exact ⟨⟨i + 1, by omega, by rw [val_take hb], by trivial⟩, by simp [upTo, s3]; omega⟩
  · have hd : ((i : Int) < (rr.1.length : Int)) = False := by apply eq_false; omega
    rw [List.take_of_length_le (by omega)]
    simp only [hd, popO_some, bindH_eq, condV_bool, condV_true, condV_false, yV_bool, gopV_tt, gopV_ff, gopV_tf, gopV_ft, pickV_t, pickV_f, pickV_bool, nilS_ptr, add_eq, sub_eq, mul_eq, lss_eq, leq_eq, gtr_eq, geq_eq, not_eq, minI_eq, maxI_eq, extract_0, extract_1, extract_2, eqlI, neqI, makeFunc_eq, decide_true, decide_false, if_true, if_false, Bool.false_eq_true, Bool.not_true, Bool.not_false, reduceIte, List.getElem?_toArray, List.getElem?_cons_zero, List.getElem?_cons_succ, Option.isSome_none, List.length_map]
    exact hk _ (hR1.ext u2) (u1.trans u2.upd)
theorem RByte_ok {h : PH} {a : Nat} {e : Int} {s : List UInt8} (hR : RdAt h a e s) {k : Value → PH → Prop} (hk : ∀ h', RdAt h' a (rGet (e, s) 1).2.1 (rGet (e, s) 1).2.2 → Upd [a] h h' → k (.int .i64 (rGet (e, s) 1).1) h') :
    CallsH PG id_wire_Reader_Byte #[.pointer (some ⟨a, 0, none⟩)] h k := by
  apply wire_Reader_Byte.call
  unfold wire_Reader_Byte
  refine get_ok hR (c := 1) (by omega) fun h1 hR1 u1 => ?_
  have hlt := val_lt (rRaw (e, s) ((1 : Nat) : Int)).1
  have hlen := rRaw_len (e, s) 1
  have h2 : 256 ^ (rRaw (e, s) ((1 : Nat) : Int)).1.length ≤ 256 ^ 1 := Nat.pow_le_pow_right (by decide) hlen
  have e1 : IntKind.i64.wrap ((rGet (e, s) 1).1 : Int) = ((rGet (e, s) 1).1 : Int) := by unfold rGet; rw [i64_wrap (by omega) (by omega)]
  simp only [conv_ui, e1, popO_some, bindH_eq, condV_bool, condV_true, condV_false, yV_bool, gopV_tt, gopV_ff, gopV_tf, gopV_ft, pickV_t, pickV_f, pickV_bool, nilS_ptr, add_eq, sub_eq, mul_eq, lss_eq, leq_eq, gtr_eq, geq_eq, not_eq, minI_eq, maxI_eq, extract_0, extract_1, extract_2, eqlI, neqI, makeFunc_eq, decide_true, decide_false, if_true, if_false, Bool.false_eq_true, Bool.not_true, Bool.not_false, reduceIte, List.getElem?_toArray, List.getElem?_cons_zero, List.getElem?_cons_succ, Option.isSome_none, List.length_map]
  exact hk _ hR1 u1
theorem RNumber_ok {h : PH} {a : Nat} {e : Int} {s : List UInt8} (hR : RdAt h a e s) {k : Value → PH → Prop} (hk : ∀ h', RdAt h' a (rGet (e, s) 8).2.1 (rGet (e, s) 8).2.2 → Upd [a] h h' → k (.int .u64 (rGet (e, s) 8).1) h') :
    CallsH PG id_wire_Reader_Number #[.pointer (some ⟨a, 0, none⟩)] h k := by
  apply wire_Reader_Number.call
  unfold wire_Reader_Number
  exact get_ok hR (c := 8) (by omega) hk
def rText (st : Int × List UInt8) : List UInt8 × (Int × List UInt8) := rRaw (rGet st 2).2 (rGet st 2).1
theorem rGet_lt (st : Int × List UInt8) (c : Nat) : (rGet st c).1 < 256 ^ c := by
  unfold rGet
  have hlt := val_lt (rRaw st (c : Int)).1
  exact Nat.lt_of_lt_of_le hlt (Nat.pow_le_pow_right (by decide) (rRaw_len st c))
theorem RText_ok {h : PH} {a : Nat} {e : Int} {s : List UInt8} (hR : RdAt h a e s) {k : Value → PH → Prop} (hk : ∀ h', RdAt h' a (rText (e, s)).2.1 (rText (e, s)).2.2 → Upd [a] h h' → k (.string (tx (rText (e, s)).1)) h') :
    CallsH PG id_wire_Reader_Text #[.pointer (some ⟨a, 0, none⟩)] h k := by
  apply wire_Reader_Text.call
  unfold wire_Reader_Text
  refine get_ok hR (c := 2) (by omega) fun h1 hR1 u1 => ?_
  have hlt := rGet_lt (e, s) 2
  have e1 : IntKind.i64.wrap ((rGet (e, s) 2).1 : Int) = ((rGet (e, s) 2).1 : Int) := by rw [i64_wrap (by omega) (by omega)]
  simp only [conv_ui, e1, popO_some, bindH_eq, condV_bool, condV_true, condV_false, yV_bool, gopV_tt, gopV_ff, gopV_tf, gopV_ft, pickV_t, pickV_f, pickV_bool, nilS_ptr, add_eq, sub_eq, mul_eq, lss_eq, leq_eq, gtr_eq, geq_eq, not_eq, minI_eq, maxI_eq, extract_0, extract_1, extract_2, eqlI, neqI, makeFunc_eq, decide_true, decide_false, if_true, if_false, Bool.false_eq_true, Bool.not_true, Bool.not_false, reduceIte, List.getElem?_toArray, List.getElem?_cons_zero, List.getElem?_cons_succ, Option.isSome_none, List.length_map]
  exact Raw_ok hR1 _ fun h2 hR2 u2 => hk _ hR2 (u1.trans u2)
theorem RLeft_ok {h : PH} {a : Nat} {e : Int} {s : List UInt8} (hR : RdAt h a e s) {k : Value → PH → Prop} (hk : k (.int .i64 (if e = 0 then (s.length : Int) else 0)) h) :
    CallsH PG id_wire_Reader_Left #[.pointer (some ⟨a, 0, none⟩)] h k := by
  have ha := hR.here
  have c1 : cellH h ⟨a, 1, none⟩ = some (.string (tx s)) := by simp [cellH, ha]
  apply wire_Reader_Left.call
  unfold wire_Reader_Left
  simp only [T_wire_Reader.f0, popO_some, bindH_eq, condV_bool, condV_true, condV_false, yV_bool, gopV_tt, gopV_ff, gopV_tf, gopV_ft, pickV_t, pickV_f, pickV_bool, nilS_ptr, add_eq, sub_eq, mul_eq, lss_eq, leq_eq, gtr_eq, geq_eq, not_eq, minI_eq, maxI_eq, extract_0, extract_1, extract_2, eqlI, neqI, makeFunc_eq, decide_true, decide_false, if_true, if_false, Bool.false_eq_true, Bool.not_true, Bool.not_false, reduceIte, List.getElem?_toArray, List.getElem?_cons_zero, List.getElem?_cons_succ, Option.isSome_none, List.length_map]
  refine WErr_ok ha rfl ?_
  by_cases h0 : e = 0
  · have q : (e != 0) = false := by simp [h0]
    rw [if_pos h0] at hk
    simp only [q, T_wire_Reader.f1, Nat.zero_add, T_string.load, c1, T_string.len, tx_size, popO_some, bindH_eq, condV_bool, condV_true, condV_false, yV_bool, gopV_tt, gopV_ff, gopV_tf, gopV_ft, pickV_t, pickV_f, pickV_bool, nilS_ptr, add_eq, sub_eq, mul_eq, lss_eq, leq_eq, gtr_eq, geq_eq, not_eq, minI_eq, maxI_eq, extract_0, extract_1, extract_2, eqlI, neqI, makeFunc_eq, decide_true, decide_false, if_true, if_false, Bool.false_eq_true, Bool.not_true, Bool.not_false, reduceIte, List.getElem?_toArray, List.getElem?_cons_zero, List.getElem?_cons_succ, Option.isSome_none, List.length_map]
    exact hk
  · have q : (e != 0) = true := by simp [h0]
    rw [if_neg h0] at hk
    simp only [q, popO_some, bindH_eq, condV_bool, condV_true, condV_false, yV_bool, gopV_tt, gopV_ff, gopV_tf, gopV_ft, pickV_t, pickV_f, pickV_bool, nilS_ptr, add_eq, sub_eq, mul_eq, lss_eq, leq_eq, gtr_eq, geq_eq, not_eq, minI_eq, maxI_eq, extract_0, extract_1, extract_2, eqlI, neqI, makeFunc_eq, decide_true, decide_false, if_true, if_false, Bool.false_eq_true, Bool.not_true, Bool.not_false, reduceIte, List.getElem?_toArray, List.getElem?_cons_zero, List.getElem?_cons_succ, Option.isSome_none, List.length_map]
    exact hk
end Go.Proofs.Ytflgnfiebgcegaa
