/- wire: the writer's methods. -/
import Derived.Test.YtflgnfiebgcegaaWirC
set_option linter.unusedSimpArgs false
set_option linter.unusedVariables false
namespace Go.Proofs.Ytflgnfiebgcegaa
open Go
set_option maxRecDepth 20000
structure WS (h0 : PH) (F0 : List Nat) (h : PH) (a : Nat) (e : Int) (bs : List UInt8) (F : List Nat) : Prop where
  at_ : WAt h a e bs F
  upd : Upd F0 h0 h
  grow : ∀ b ∈ F, b ∈ F0 ∨ h0 b = none
theorem WS.refl {h : PH} {a : Nat} {e : Int} {bs : List UInt8} {F : List Nat} (H : WAt h a e bs F) : WS h F h a e bs F := ⟨H, Upd.refl, fun b hb => .inl hb⟩
theorem WS.step {h0 h h' : PH} {F0 F F' : List Nat} {a : Nat} {e e' : Int} {bs bs' : List UInt8} (S : WS h0 F0 h a e bs F) (H : WAt h' a e' bs' F') (u : Upd F h h') (g : ∀ b ∈ F', b ∈ F ∨ h b = none) : WS h0 F0 h' a e' bs' F' :=
  ⟨H, S.upd.then u S.grow, fun b hb => by
    rcases g b hb with h1 | h1
    · exact S.grow b h1
    · by_cases hF : b ∈ F0
      · exact .inl hF
      · right
        cases hh : h0 b with
        | none => rfl
        | some o => rw [S.upd.get hh hF] at h1; cases h1⟩
theorem WS.ext {h0 h h' : PH} {F0 F : List Nat} {a : Nat} {e : Int} {bs : List UInt8} (S : WS h0 F0 h a e bs F) (u : Ext h h') : WS h0 F0 h' a e bs F := S.step (S.at_.ext u) u.upd (fun b hb => .inl hb)
theorem WS.next {h : PH} {a : Nat} {F : List Nat} {e : Int} {bs : List UInt8} {k : PH → Prop} (hk : WNext h a F e bs k) {h' : PH} {F' : List Nat} (S : WS h F h' a e bs F') : k h' := hk h' F' S.at_ S.upd S.grow

theorem conv_iu (x : Int) : SemP PG (convert T_int T_uint64 (.int .i64 x)) = some (.int .u64 (IntKind.u64.wrap x)) := by kernel_rfl
theorem conv_u8 (x : Int) : SemP PG (convert T_uint64 T_uint8 (.int .u64 x)) = some (.int .u8 (IntKind.u8.wrap x)) := by kernel_rfl
theorem conv_ui (x : Int) : SemP PG (convert T_uint64 T_int (.int .u64 x)) = some (.int .i64 (IntKind.i64.wrap x)) := by kernel_rfl
theorem conv_8u (x : Int) : SemP PG (convert T_uint8 T_uint64 (.int .u8 x)) = some (.int .u64 (IntKind.u64.wrap x)) := by kernel_rfl
theorem conv_8i (x : Int) : SemP PG (convert T_uint8 T_int (.int .u8 x)) = some (.int .i64 (IntKind.i64.wrap x)) := by kernel_rfl

theorem shr_byte {n k : Nat} (hk : k < 8) : ((n : Int).fdiv (2 ^ (min (((8 * k : Nat) : Int)).toNat IntKind.u64.bits))) = ((n / 256 ^ k : Nat) : Int) := by
  have e1 : min (((8 * k : Nat) : Int)).toNat IntKind.u64.bits = 8 * k := by
    have : IntKind.u64.bits = 64 := rfl
    rw [this]; omega
  have e2 : (2 : Nat) ^ (8 * k) = 256 ^ k := by rw [Nat.pow_mul]
  rw [e1]
  have e3 : ((2 : Int) ^ (8 * k)) = ((256 ^ k : Nat) : Int) := by
    rw [← e2]; exact (Int.natCast_pow 2 (8 * k)).symm
  rw [e3, Int.fdiv_eq_ediv_of_nonneg _ (Int.natCast_nonneg _)]
  exact (Int.natCast_ediv n (256 ^ k)).symm
theorem put_ok {h : PH} {a : Nat} {e : Int} {bs : List UInt8} {F : List Nat} (hW : WAt h a e bs F) {n c : Nat} (hc : c ≤ 8) (hn : n < 18446744073709551616) (hl : bs.length ≤ 140737488355000) {k : Value → PH → Prop} (hk : WNext h a F e (bs ++ be n c) (k (.tuple #[]))) :
    CallsH PG id_wire_Writer_put #[.pointer (some ⟨a, 0, none⟩), .int .u64 n, .int .i64 c] h k := by
  apply wire_Writer_put.call
  unfold wire_Writer_put
  have e0 : IntKind.i64.wrap ((c : Int) - 1) = (c : Int) - 1 := i64_wrap (by omega) (by omega)
  simp only [e0, popO_some, bindH_eq, condV_bool, condV_true, condV_false, yV_bool, gopV_tt, gopV_ff, gopV_tf, gopV_ft, pickV_t, pickV_f, pickV_bool, nilS_ptr, add_eq, sub_eq, mul_eq, lss_eq, leq_eq, gtr_eq, geq_eq, not_eq, minI_eq, maxI_eq, extract_0, extract_1, extract_2, eqlI, neqI, makeFunc_eq, decide_true, decide_false, if_true, if_false, Bool.false_eq_true, Bool.not_true, Bool.not_false, reduceIte, List.getElem?_toArray, List.getElem?_cons_zero, List.getElem?_cons_succ, Option.isSome_none, List.length_map]
  refine ⟨fun vs h' => ∃ (i : Nat) (F' : List Nat), i ≤ c ∧ vs = [.pointer (some ⟨a, 0, none⟩), .int .u64 n, .int .i64 ((c : Int) - 1 - i)] ∧ WS h F h' a e (bs ++ (be n c).take i) F', fun vs _ => match vs with | [_, _, .int _ j] => (j + 1).toNat | _ => 0, ⟨0, F, by omega, by simp, by simpa using WS.refl hW⟩, ?_⟩
  rintro ρ h' ⟨i, F', hi, hvs, S⟩
  simp only [List.map_cons, List.map_nil, List.cons.injEq, and_true] at hvs
  obtain ⟨s0, s1, s2⟩ := hvs
  rw [s0, s1, s2]
  unfold wire_Writer_put_b3
  by_cases hlt : i < c
  · have hd : (0 ≤ (c : Int) - 1 - i) = True := by apply eq_true; omega
    obtain ⟨q, hq⟩ : ∃ q : Nat, c - 1 - i = q := ⟨_, rfl⟩
    have hqi : (c : Int) - 1 - i = (q : Int) := by omega
    have e1 : IntKind.i64.wrap (8 * (q : Int)) = ((8 * q : Nat) : Int) := by rw [i64_wrap (by omega) (by omega)]; omega
    have e2 : IntKind.i64.wrap ((q : Int) - 1) = (c : Int) - 1 - ((i + 1 : Nat) : Int) := by rw [i64_wrap (by omega) (by omega)]; omega
    have h8 : (0 : Int) ≤ ((8 * q : Nat) : Int) := by omega
    have e3 : IntKind.u8.wrap (((n / 256 ^ q : Nat) : Int)) = ((UInt8.ofNat (n / 256 ^ q % 256)).toNat : Int) := by
      rw [u8_wrap]
      simp
    rw [hqi] at hd ⊢
    simp only [hd, T_wire_Writer.f1, Nat.zero_add, e1, shr_eq h8, shr_byte (show q < 8 by omega), conv_u8, e3, e2, popO_some, bindH_eq, condV_bool, condV_true, condV_false, yV_bool, gopV_tt, gopV_ff, gopV_tf, gopV_ft, pickV_t, pickV_f, pickV_bool, nilS_ptr, add_eq, sub_eq, mul_eq, lss_eq, leq_eq, gtr_eq, geq_eq, not_eq, minI_eq, maxI_eq, extract_0, extract_1, extract_2, eqlI, neqI, makeFunc_eq, decide_true, decide_false, if_true, if_false, Bool.false_eq_true, Bool.not_true, Bool.not_false, reduceIte, List.getElem?_toArray, List.getElem?_cons_zero, List.getElem?_cons_succ, Option.isSome_none, List.length_map]
    have hlen : (bs ++ (be n c).take i).length ≤ 140737488355100 := by
      rw [List.length_append, List.length_take, be_len]; omega
    refine WriteByte_ok S.at_ (by omega) _ fun h3 F3 hW3 u3 k3 => ?_
    have ht := be_take_succ (n := n) hlt
    rw [hq] at ht
    rw [List.append_assoc, ← ht] at hW3
    exact ⟨⟨i + 1, F3, by omega, rfl, S.step hW3 u3 k3⟩, by simp [s2]; omega⟩
  · have hd : (0 ≤ (c : Int) - 1 - i) = False := by apply eq_false; omega
    rw [List.take_of_length_le (by rw [be_len]; omega)] at S
    simp only [hd, popO_some, bindH_eq, condV_bool, condV_true, condV_false, yV_bool, gopV_tt, gopV_ff, gopV_tf, gopV_ft, pickV_t, pickV_f, pickV_bool, nilS_ptr, add_eq, sub_eq, mul_eq, lss_eq, leq_eq, gtr_eq, geq_eq, not_eq, minI_eq, maxI_eq, extract_0, extract_1, extract_2, eqlI, neqI, makeFunc_eq, decide_true, decide_false, if_true, if_false, Bool.false_eq_true, Bool.not_true, Bool.not_false, reduceIte, List.getElem?_toArray, List.getElem?_cons_zero, List.getElem?_cons_succ, Option.isSome_none, List.length_map]
    exact S.next hk
theorem Fail_ok {h : PH} {a : Nat} {e : Int} {bs : List UInt8} {F : List Nat} (hW : WAt h a e bs F) (x : Int) {k : Value → PH → Prop} (hk : WNext h a F (if e = 0 then x else e) bs (k (.tuple #[]))) :
    CallsH PG id_wire_memory_Fail #[.pointer (some ⟨a, 0, none⟩), .int .i64 x] h k := by
  have hW' := hW
  obtain ⟨p, v, G, ha, hp, hO, rfl, hn⟩ := hW
  have hc : cellH h ⟨a, 0, none⟩ = some (.int .i64 e) := by simp [cellH, ha]
  apply wire_memory_Fail.call
  unfold wire_memory_Fail
  by_cases h0 : e = 0
  · have q : (e == 0) = true := by simp [h0]
    rw [if_pos h0] at hk
    simp only [T_wire_memory.f0, T_api_Errno.load, hc, q, popO_some, bindH_eq, condV_bool, condV_true, condV_false, yV_bool, gopV_tt, gopV_ff, gopV_tf, gopV_ft, pickV_t, pickV_f, pickV_bool, nilS_ptr, add_eq, sub_eq, mul_eq, lss_eq, leq_eq, gtr_eq, geq_eq, not_eq, minI_eq, maxI_eq, extract_0, extract_1, extract_2, eqlI, neqI, makeFunc_eq, decide_true, decide_false, if_true, if_false, Bool.false_eq_true, Bool.not_true, Bool.not_false, reduceIte, List.getElem?_toArray, List.getElem?_cons_zero, List.getElem?_cons_succ, Option.isSome_none, List.length_map]
    refine store_cell T_api_Errno.und rfl ha (by simp) rfl T_api_Errno.info T_api_Errno.size ?_
    refine hk _ (a :: G) ⟨p, v, G, set_same, hp, hO.upd (Upd.set (F := [a]) (by simp)) (fun b hb => by simp; rintro rfl; exact hn hb), rfl, hn⟩ (Upd.set (by simp)) (fun b hb => .inl hb)
  · have q : (e == 0) = false := by simp [h0]
    rw [if_neg h0] at hk
    simp only [T_wire_memory.f0, T_api_Errno.load, hc, q, popO_some, bindH_eq, condV_bool, condV_true, condV_false, yV_bool, gopV_tt, gopV_ff, gopV_tf, gopV_ft, pickV_t, pickV_f, pickV_bool, nilS_ptr, add_eq, sub_eq, mul_eq, lss_eq, leq_eq, gtr_eq, geq_eq, not_eq, minI_eq, maxI_eq, extract_0, extract_1, extract_2, eqlI, neqI, makeFunc_eq, decide_true, decide_false, if_true, if_false, Bool.false_eq_true, Bool.not_true, Bool.not_false, reduceIte, List.getElem?_toArray, List.getElem?_cons_zero, List.getElem?_cons_succ, Option.isSome_none, List.length_map]
    exact hk _ _ hW' Upd.refl (fun b hb => .inl hb)
/-- What a writer's Byte does. -/
def wByte (s : Int × List UInt8) (n : Int) : Int × List UInt8 := if 0 ≤ n ∧ n ≤ 255 then (s.1, s.2 ++ be n.toNat 1) else (if s.1 = 0 then 1 else s.1, s.2)
def wText (s : Int × List UInt8) (l : List UInt8) : Int × List UInt8 := if l.length ≤ 65535 then (s.1, s.2 ++ (be l.length 2 ++ l)) else (if s.1 = 0 then 1 else s.1, s.2)
theorem Byte_ok {h : PH} {a : Nat} {e : Int} {bs : List UInt8} {F : List Nat} (hW : WAt h a e bs F) (hl : bs.length ≤ 140737488355000) (n : Int) {k : Value → PH → Prop} (hk : WNext h a F (wByte (e, bs) n).1 (wByte (e, bs) n).2 (k (.tuple #[]))) :
    CallsH PG id_wire_Writer_Byte #[.pointer (some ⟨a, 0, none⟩), .int .i64 n] h k := by
  apply wire_Writer_Byte.call
  unfold wire_Writer_Byte
  unfold wByte at hk
  have bad : ¬ (0 ≤ n ∧ n ≤ 255) → CallsH PG id_wire_memory_Fail #[.pointer (some ⟨a, 0, none⟩), .int .i64 1] h fun v12 h13 => k (.tuple #[]) h13 := by
    intro hb
    rw [if_neg hb] at hk
    exact Fail_ok hW 1 hk
  by_cases h1 : n < 0
  · simp only [h1, T_wire_Writer.f0, popO_some, bindH_eq, condV_bool, condV_true, condV_false, yV_bool, gopV_tt, gopV_ff, gopV_tf, gopV_ft, pickV_t, pickV_f, pickV_bool, nilS_ptr, add_eq, sub_eq, mul_eq, lss_eq, leq_eq, gtr_eq, geq_eq, not_eq, minI_eq, maxI_eq, extract_0, extract_1, extract_2, eqlI, neqI, makeFunc_eq, decide_true, decide_false, if_true, if_false, Bool.false_eq_true, Bool.not_true, Bool.not_false, reduceIte, List.getElem?_toArray, List.getElem?_cons_zero, List.getElem?_cons_succ, Option.isSome_none, List.length_map]
    exact bad (by omega)
  · by_cases h2 : 255 < n
    · simp only [h1, h2, T_wire_Writer.f0, popO_some, bindH_eq, condV_bool, condV_true, condV_false, yV_bool, gopV_tt, gopV_ff, gopV_tf, gopV_ft, pickV_t, pickV_f, pickV_bool, nilS_ptr, add_eq, sub_eq, mul_eq, lss_eq, leq_eq, gtr_eq, geq_eq, not_eq, minI_eq, maxI_eq, extract_0, extract_1, extract_2, eqlI, neqI, makeFunc_eq, decide_true, decide_false, if_true, if_false, Bool.false_eq_true, Bool.not_true, Bool.not_false, reduceIte, List.getElem?_toArray, List.getElem?_cons_zero, List.getElem?_cons_succ, Option.isSome_none, List.length_map]
      exact bad (by omega)
    · rw [if_pos (by omega)] at hk
      obtain ⟨m, rfl⟩ := Int.eq_ofNat_of_zero_le (a := n) (by omega)
      have e1 : IntKind.u64.wrap (m : Int) = (m : Int) := u64_wrap (by omega) (by omega)
      simp only [h1, h2, conv_iu, e1, popO_some, bindH_eq, condV_bool, condV_true, condV_false, yV_bool, gopV_tt, gopV_ff, gopV_tf, gopV_ft, pickV_t, pickV_f, pickV_bool, nilS_ptr, add_eq, sub_eq, mul_eq, lss_eq, leq_eq, gtr_eq, geq_eq, not_eq, minI_eq, maxI_eq, extract_0, extract_1, extract_2, eqlI, neqI, makeFunc_eq, decide_true, decide_false, if_true, if_false, Bool.false_eq_true, Bool.not_true, Bool.not_false, reduceIte, List.getElem?_toArray, List.getElem?_cons_zero, List.getElem?_cons_succ, Option.isSome_none, List.length_map]
      exact put_ok hW (c := 1) (by omega) (by omega) hl hk
theorem Number_ok {h : PH} {a : Nat} {e : Int} {bs : List UInt8} {F : List Nat} (hW : WAt h a e bs F) (hl : bs.length ≤ 140737488355000) {n : Nat} (hn : n < 18446744073709551616) {k : Value → PH → Prop} (hk : WNext h a F e (bs ++ be n 8) (k (.tuple #[]))) :
    CallsH PG id_wire_Writer_Number #[.pointer (some ⟨a, 0, none⟩), .int .u64 n] h k := by
  apply wire_Writer_Number.call
  unfold wire_Writer_Number
  exact put_ok hW (c := 8) (by omega) hn hl hk
theorem WRaw_ok {h : PH} {a : Nat} {e : Int} {bs ys : List UInt8} {F : List Nat} (hW : WAt h a e bs F) (hl : bs.length + ys.length ≤ 140737488355328) {k : Value → PH → Prop} (hk : WNext h a F e (bs ++ ys) (k (.tuple #[]))) :
    CallsH PG id_wire_Writer_Raw #[.pointer (some ⟨a, 0, none⟩), .string (tx ys)] h k := by
  apply wire_Writer_Raw.call
  unfold wire_Writer_Raw
  simp only [T_wire_Writer.f1, Nat.zero_add, popO_some, bindH_eq, condV_bool, condV_true, condV_false, yV_bool, gopV_tt, gopV_ff, gopV_tf, gopV_ft, pickV_t, pickV_f, pickV_bool, nilS_ptr, add_eq, sub_eq, mul_eq, lss_eq, leq_eq, gtr_eq, geq_eq, not_eq, minI_eq, maxI_eq, extract_0, extract_1, extract_2, eqlI, neqI, makeFunc_eq, decide_true, decide_false, if_true, if_false, Bool.false_eq_true, Bool.not_true, Bool.not_false, reduceIte, List.getElem?_toArray, List.getElem?_cons_zero, List.getElem?_cons_succ, Option.isSome_none, List.length_map]
  exact WriteString_ok hW hl hk
theorem Text_ok {h : PH} {a : Nat} {e : Int} {bs ys : List UInt8} {F : List Nat} (hW : WAt h a e bs F) (hl : bs.length ≤ 140737488200000) {k : Value → PH → Prop} (hk : WNext h a F (wText (e, bs) ys).1 (wText (e, bs) ys).2 (k (.tuple #[]))) :
    CallsH PG id_wire_Writer_Text #[.pointer (some ⟨a, 0, none⟩), .string (tx ys)] h k := by
  apply wire_Writer_Text.call
  unfold wire_Writer_Text
  unfold wText at hk
  by_cases h1 : ys.length ≤ 65535
  · have q : ((65535 : Int) < (ys.length : Int)) = False := by apply eq_false; omega
    rw [if_pos h1] at hk
    have e1 : IntKind.u64.wrap (ys.length : Int) = (ys.length : Int) := u64_wrap (by omega) (by omega)
    simp only [T_string.len, tx_size, q, conv_iu, e1, popO_some, bindH_eq, condV_bool, condV_true, condV_false, yV_bool, gopV_tt, gopV_ff, gopV_tf, gopV_ft, pickV_t, pickV_f, pickV_bool, nilS_ptr, add_eq, sub_eq, mul_eq, lss_eq, leq_eq, gtr_eq, geq_eq, not_eq, minI_eq, maxI_eq, extract_0, extract_1, extract_2, eqlI, neqI, makeFunc_eq, decide_true, decide_false, if_true, if_false, Bool.false_eq_true, Bool.not_true, Bool.not_false, reduceIte, List.getElem?_toArray, List.getElem?_cons_zero, List.getElem?_cons_succ, Option.isSome_none, List.length_map]
    refine put_ok hW (c := 2) (by omega) (by omega) (by omega) fun h2 F2 hW2 u2 k2 => ?_
    have hl2 := be_len ys.length 2
    refine WRaw_ok hW2 (by rw [List.length_append, hl2]; omega) fun h3 F3 hW3 u3 k3 => ?_
    rw [List.append_assoc] at hW3
    exact WS.next hk (((WS.refl hW).step hW2 u2 k2).step hW3 u3 k3)
  · have q : ((65535 : Int) < (ys.length : Int)) = True := by apply eq_true; omega
    rw [if_neg h1] at hk
    simp only [T_string.len, tx_size, q, T_wire_Writer.f0, popO_some, bindH_eq, condV_bool, condV_true, condV_false, yV_bool, gopV_tt, gopV_ff, gopV_tf, gopV_ft, pickV_t, pickV_f, pickV_bool, nilS_ptr, add_eq, sub_eq, mul_eq, lss_eq, leq_eq, gtr_eq, geq_eq, not_eq, minI_eq, maxI_eq, extract_0, extract_1, extract_2, eqlI, neqI, makeFunc_eq, decide_true, decide_false, if_true, if_false, Bool.false_eq_true, Bool.not_true, Bool.not_false, reduceIte, List.getElem?_toArray, List.getElem?_cons_zero, List.getElem?_cons_succ, Option.isSome_none, List.length_map]
    exact Fail_ok hW 1 hk
theorem WErr_ok {h : PH} {a : Nat} {e : Int} {c : Array Value} {T : TypeId} {fr : Nat × Nat} (ha : h a = some (.cells c T fr)) (hc : c[0]? = some (.int .i64 e)) {k : Value → PH → Prop} (hk : k (.int .i64 e) h) : CallsH PG id_wire_memory_Err #[.pointer (some ⟨a, 0, none⟩)] h k := by
  apply wire_memory_Err.call
  unfold wire_memory_Err
  have hc' : cellH h ⟨a, 0, none⟩ = some (.int .i64 e) := by simp [cellH, ha, hc]
  simp only [T_wire_memory.f0, T_api_Errno.load, hc', popO_some, bindH_eq, condV_bool, condV_true, condV_false, yV_bool, gopV_tt, gopV_ff, gopV_tf, gopV_ft, pickV_t, pickV_f, pickV_bool, nilS_ptr, add_eq, sub_eq, mul_eq, lss_eq, leq_eq, gtr_eq, geq_eq, not_eq, minI_eq, maxI_eq, extract_0, extract_1, extract_2, eqlI, neqI, makeFunc_eq, decide_true, decide_false, if_true, if_false, Bool.false_eq_true, Bool.not_true, Bool.not_false, reduceIte, List.getElem?_toArray, List.getElem?_cons_zero, List.getElem?_cons_succ, Option.isSome_none, List.length_map]
  exact hk
def wBytes (s : Int × List UInt8) : List UInt8 × Int := if s.1 = 0 then (s.2, 0) else ([], s.1)
theorem Bytes_ok {h : PH} {a : Nat} {e : Int} {bs : List UInt8} {F : List Nat} (hW : WAt h a e bs F) {k : Value → PH → Prop} (hk : ∀ h', Upd F h h' → k (.tuple #[.string (tx (wBytes (e, bs)).1), .int .i64 (wBytes (e, bs)).2]) h') :
    CallsH PG id_wire_Writer_Bytes #[.pointer (some ⟨a, 0, none⟩)] h k := by
  have hW' := hW
  obtain ⟨p, v, G, ha, hp, hO, rfl, hn⟩ := hW
  apply wire_Writer_Bytes.call
  unfold wire_Writer_Bytes
  unfold wBytes at hk
  simp only [T_wire_Writer.f0, T_wire_Writer.f1, Nat.zero_add, popO_some, bindH_eq, condV_bool, condV_true, condV_false, yV_bool, gopV_tt, gopV_ff, gopV_tf, gopV_ft, pickV_t, pickV_f, pickV_bool, nilS_ptr, add_eq, sub_eq, mul_eq, lss_eq, leq_eq, gtr_eq, geq_eq, not_eq, minI_eq, maxI_eq, extract_0, extract_1, extract_2, eqlI, neqI, makeFunc_eq, decide_true, decide_false, if_true, if_false, Bool.false_eq_true, Bool.not_true, Bool.not_false, reduceIte, List.getElem?_toArray, List.getElem?_cons_zero, List.getElem?_cons_succ, Option.isSome_none, List.length_map]
  refine WErr_ok ha rfl ?_
  by_cases h0 : e = 0
  · have q : (e != 0) = false := by simp [h0]
    rw [if_pos h0] at hk
    simp only [q, popO_some, bindH_eq, condV_bool, condV_true, condV_false, yV_bool, gopV_tt, gopV_ff, gopV_tf, gopV_ft, pickV_t, pickV_f, pickV_bool, nilS_ptr, add_eq, sub_eq, mul_eq, lss_eq, leq_eq, gtr_eq, geq_eq, not_eq, minI_eq, maxI_eq, extract_0, extract_1, extract_2, eqlI, neqI, makeFunc_eq, decide_true, decide_false, if_true, if_false, Bool.false_eq_true, Bool.not_true, Bool.not_false, reduceIte, List.getElem?_toArray, List.getElem?_cons_zero, List.getElem?_cons_succ, Option.isSome_none, List.length_map]
    exact String_ok hW' hk
  · have q : (e != 0) = true := by simp [h0]
    rw [if_neg h0] at hk
    simp only [q, popO_some, bindH_eq, condV_bool, condV_true, condV_false, yV_bool, gopV_tt, gopV_ff, gopV_tf, gopV_ft, pickV_t, pickV_f, pickV_bool, nilS_ptr, add_eq, sub_eq, mul_eq, lss_eq, leq_eq, gtr_eq, geq_eq, not_eq, minI_eq, maxI_eq, extract_0, extract_1, extract_2, eqlI, neqI, makeFunc_eq, decide_true, decide_false, if_true, if_false, Bool.false_eq_true, Bool.not_true, Bool.not_false, reduceIte, List.getElem?_toArray, List.getElem?_cons_zero, List.getElem?_cons_succ, Option.isSome_none, List.length_map]
    exact hk _ Upd.refl
end Go.Proofs.Ytflgnfiebgcegaa
