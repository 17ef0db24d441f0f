/- script: PutConfig. -/
import Derived.Test.YtflgnfiebgcegaaScrL
set_option linter.unusedSimpArgs false
set_option linter.unusedVariables false
namespace Go.Proofs.Ytflgnfiebgcegaa
open Go
set_option maxRecDepth 20000
structure CfgOk (c : Cfg) : Prop where
  o0 : c.h0 < 18446744073709551616
  o1 : c.h1 < 18446744073709551616
  o2 : c.s0 < 18446744073709551616
  o3 : c.s1 < 18446744073709551616
def nums4 (c : Cfg) : List Nat := [c.h0, c.h1, c.s0, c.s1]
def wNums : List Nat → Stt → Stt
  | [], st => st
  | n :: ns, st => wNums ns (wNum st n)
def pCfg (c : Cfg) (st : Stt) : Stt := wNums (nums4 c) (wTwo (wTwo (wByte (wByte (wByte st c.table) c.batch) c.scan) c.sector) c.sectors)
def putC (c : Cfg) : List UInt8 × Int := wBytes (pCfg c (0, []))
structure CB (h : PH) (F : List Nat) (r : Nat) (c : Cfg) : Prop where
  box : CBox h r c
  out : r ∉ F
theorem CB.keep {h h' : PH} {F F' : List Nat} {r : Nat} {c : Cfg} (H : CB h F r c) (K : Keep h F h' F') : CB h' F' r c :=
  ⟨⟨(K r _ H.box.here H.out).1⟩, (K r _ H.box.here H.out).2⟩
section
variable {h : PH} {r : Nat} {c : Cfg} (H : CBox h r c)
include H
theorem CBox.c0 : cellH h ⟨r, 0, none⟩ = some (.int .i64 c.sector) := by simp [cellH, H.here, Cfg.cells]
theorem CBox.c1 : cellH h ⟨r, 1, none⟩ = some (.int .i64 c.sectors) := by simp [cellH, H.here, Cfg.cells]
theorem CBox.c2 : cellH h ⟨r, 2, none⟩ = some (.int .i64 c.table) := by simp [cellH, H.here, Cfg.cells]
theorem CBox.c3 : cellH h ⟨r, 3, none⟩ = some (.int .i64 c.batch) := by simp [cellH, H.here, Cfg.cells]
theorem CBox.c4 : cellH h ⟨r, 4, none⟩ = some (.int .i64 c.scan) := by simp [cellH, H.here, Cfg.cells]
theorem CBox.c5 : cellH h ⟨r, 5, none⟩ = some (.int .u64 c.h0) := by simp [cellH, H.here, Cfg.cells]
theorem CBox.c6 : cellH h ⟨r, 6, none⟩ = some (.int .u64 c.h1) := by simp [cellH, H.here, Cfg.cells]
theorem CBox.c7 : cellH h ⟨r, 7, none⟩ = some (.int .u64 c.s0) := by simp [cellH, H.here, Cfg.cells]
theorem CBox.c8 : cellH h ⟨r, 8, none⟩ = some (.int .u64 c.s1) := by simp [cellH, H.here, Cfg.cells]
end
theorem num4_build (a b c d : Int) : SemP PG (Instr.build T_4_uint64 #[(0, .int .u64 a), (1, .int .u64 b), (2, .int .u64 c), (3, .int .u64 d)]) = some (.agg #[.int .u64 a, .int .u64 b, .int .u64 c, .int .u64 d]) := by kernel_rfl
abbrev num4 (c : Cfg) : Value := .agg #[.int .u64 c.h0, .int .u64 c.h1, .int .u64 c.s0, .int .u64 c.s1]
theorem num4_0 (a b c d : Int) : SemP PG (Instr.index T_4_uint64 (.agg #[.int .u64 a, .int .u64 b, .int .u64 c, .int .u64 d]) (.int .i64 ((0 : Nat) : Int))) = some (.int .u64 a) := by kernel_rfl
theorem num4_1 (a b c d : Int) : SemP PG (Instr.index T_4_uint64 (.agg #[.int .u64 a, .int .u64 b, .int .u64 c, .int .u64 d]) (.int .i64 ((1 : Nat) : Int))) = some (.int .u64 b) := by kernel_rfl
theorem num4_2 (a b c d : Int) : SemP PG (Instr.index T_4_uint64 (.agg #[.int .u64 a, .int .u64 b, .int .u64 c, .int .u64 d]) (.int .i64 ((2 : Nat) : Int))) = some (.int .u64 c) := by kernel_rfl
theorem num4_3 (a b c d : Int) : SemP PG (Instr.index T_4_uint64 (.agg #[.int .u64 a, .int .u64 b, .int .u64 c, .int .u64 d]) (.int .i64 ((3 : Nat) : Int))) = some (.int .u64 d) := by kernel_rfl
theorem num4_at {c : Cfg} {i : Nat} (hi : i < 4) (hc : CfgOk c) : ∃ n : Nat, SemP PG (Instr.index T_4_uint64 (num4 c) (.int .i64 i)) = some (.int .u64 n) ∧ n < 18446744073709551616 ∧ (nums4 c).drop i = n :: (nums4 c).drop (i + 1) := by
  have : i = 0 ∨ i = 1 ∨ i = 2 ∨ i = 3 := by omega
  rcases this with rfl | rfl | rfl | rfl
  · exact ⟨c.h0, num4_0 _ _ _ _, hc.o0, rfl⟩
  · exact ⟨c.h1, num4_1 _ _ _ _, hc.o1, rfl⟩
  · exact ⟨c.s0, num4_2 _ _ _ _, hc.o2, rfl⟩
  · exact ⟨c.s1, num4_3 _ _ _ _, hc.o3, rfl⟩
set_option maxHeartbeats 1000000 in
theorem PutConfig_ok {h : PH} {c : Cfg} (hc : CfgOk c) {k : Value → PH → Prop} (hk : ∀ h', Ext h h' → k (pairV (putC c)) h') : CallsH PG id_script_PutConfig #[.agg c.cells.toArray] h k := by
  apply script_PutConfig.call
  unfold script_PutConfig
  intro r1 hr1
  try rw [bindH_eq]
  have u1 : Ext h (h.set r1 (.cells (Value.agg c.cells.toArray).cells T_api_Config)) := Upd.new hr1
  have B1 : CBox (h.set r1 (.cells (Value.agg c.cells.toArray).cells T_api_Config)) r1 c := ⟨set_same⟩
  generalize h.set r1 (.cells (Value.agg c.cells.toArray).cells T_api_Config) = h1 at *
  intro r3 hr3
  try rw [bindH_eq]
  have S2 : WN h1 (h1.set r3 (.cells (zcells PG T_wire_Writer) T_wire_Writer)) r3 (0, []) [r3] := w_start hr3
  have B2 : CB (h1.set r3 (.cells (zcells PG T_wire_Writer) T_wire_Writer)) [r3] r1 c := ⟨B1.ext (Upd.new hr3), by simp; rintro rfl; rw [B1.here] at hr3; cases hr3⟩
  generalize h1.set r3 (.cells (zcells PG T_wire_Writer) T_wire_Writer) = h2 at *
  simp only [T_api_Config.f2, Nat.zero_add, T_int.load, B2.box.c2, popO_some, bindH_eq, condV_bool, condV_true, condV_false, yV_bool, gopV_tt, gopV_ff, gopV_tf, gopV_ft, pickV_t, pickV_f, pickV_bool, nilS_ptr, add_eq, sub_eq, mul_eq, lss_eq, leq_eq, gtr_eq, geq_eq, not_eq, minI_eq, maxI_eq, extract_0, extract_1, extract_2, eqlI, neqI, makeFunc_eq, decide_true, decide_false, if_true, if_false, Bool.false_eq_true, Bool.not_true, Bool.not_false, reduceIte, List.getElem?_toArray, List.getElem?_cons_zero, List.getElem?_cons_succ, Option.isSome_none, List.length_map]
  refine Byte_w S2 (by simp) _ fun h3 F3 x3 e3 S3 K3 => ?_
  have B3 := B2.keep K3
  have l3 := wByte_len (0, []) c.table
  rw [← e3] at l3
  simp only [List.length_nil] at l3
  simp only [T_api_Config.f3, Nat.zero_add, T_int.load, B3.box.c3, popO_some, bindH_eq, condV_bool, condV_true, condV_false, yV_bool, gopV_tt, gopV_ff, gopV_tf, gopV_ft, pickV_t, pickV_f, pickV_bool, nilS_ptr, add_eq, sub_eq, mul_eq, lss_eq, leq_eq, gtr_eq, geq_eq, not_eq, minI_eq, maxI_eq, extract_0, extract_1, extract_2, eqlI, neqI, makeFunc_eq, decide_true, decide_false, if_true, if_false, Bool.false_eq_true, Bool.not_true, Bool.not_false, reduceIte, List.getElem?_toArray, List.getElem?_cons_zero, List.getElem?_cons_succ, Option.isSome_none, List.length_map]
  refine Byte_w S3 (by omega) _ fun h4 F4 x4 e4 S4 K4 => ?_
  have B4 := B3.keep K4
  have l4 := wByte_len x3 c.batch
  rw [← e4] at l4
  simp only [T_api_Config.f4, Nat.zero_add, T_int.load, B4.box.c4, popO_some, bindH_eq, condV_bool, condV_true, condV_false, yV_bool, gopV_tt, gopV_ff, gopV_tf, gopV_ft, pickV_t, pickV_f, pickV_bool, nilS_ptr, add_eq, sub_eq, mul_eq, lss_eq, leq_eq, gtr_eq, geq_eq, not_eq, minI_eq, maxI_eq, extract_0, extract_1, extract_2, eqlI, neqI, makeFunc_eq, decide_true, decide_false, if_true, if_false, Bool.false_eq_true, Bool.not_true, Bool.not_false, reduceIte, List.getElem?_toArray, List.getElem?_cons_zero, List.getElem?_cons_succ, Option.isSome_none, List.length_map]
  refine Byte_w S4 (by omega) _ fun h5 F5 x5 e5 S5 K5 => ?_
  have B5 := B4.keep K5
  have l5 := wByte_len x4 c.scan
  rw [← e5] at l5
  simp only [T_api_Config.f0, Nat.zero_add, T_int.load, B5.box.c0, popO_some, bindH_eq, condV_bool, condV_true, condV_false, yV_bool, gopV_tt, gopV_ff, gopV_tf, gopV_ft, pickV_t, pickV_f, pickV_bool, nilS_ptr, add_eq, sub_eq, mul_eq, lss_eq, leq_eq, gtr_eq, geq_eq, not_eq, minI_eq, maxI_eq, extract_0, extract_1, extract_2, eqlI, neqI, makeFunc_eq, decide_true, decide_false, if_true, if_false, Bool.false_eq_true, Bool.not_true, Bool.not_false, reduceIte, List.getElem?_toArray, List.getElem?_cons_zero, List.getElem?_cons_succ, Option.isSome_none, List.length_map]
  refine two_w S5 (by omega) _ fun h6 F6 x6 e6 S6 K6 => ?_
  have B6 := B5.keep K6
  have l6 := wTwo_len x5 c.sector
  rw [← e6] at l6
  simp only [T_api_Config.f1, Nat.zero_add, T_int.load, B6.box.c1, popO_some, bindH_eq, condV_bool, condV_true, condV_false, yV_bool, gopV_tt, gopV_ff, gopV_tf, gopV_ft, pickV_t, pickV_f, pickV_bool, nilS_ptr, add_eq, sub_eq, mul_eq, lss_eq, leq_eq, gtr_eq, geq_eq, not_eq, minI_eq, maxI_eq, extract_0, extract_1, extract_2, eqlI, neqI, makeFunc_eq, decide_true, decide_false, if_true, if_false, Bool.false_eq_true, Bool.not_true, Bool.not_false, reduceIte, List.getElem?_toArray, List.getElem?_cons_zero, List.getElem?_cons_succ, Option.isSome_none, List.length_map]
  refine two_w S6 (by omega) _ fun h7 F7 x7 e7 S7 K7 => ?_
  have B7 := B6.keep K7
  have l7 := wTwo_len x6 c.sectors
  rw [← e7] at l7
  simp only [T_api_Config.f5, T_api_Config.f6, Nat.zero_add, Nat.reduceAdd, arr_at0, arr_at1, T_uint64.load, B7.box.c5, B7.box.c6, B7.box.c7, B7.box.c8, num4_build, popO_some, bindH_eq, condV_bool, condV_true, condV_false, yV_bool, gopV_tt, gopV_ff, gopV_tf, gopV_ft, pickV_t, pickV_f, pickV_bool, nilS_ptr, add_eq, sub_eq, mul_eq, lss_eq, leq_eq, gtr_eq, geq_eq, not_eq, minI_eq, maxI_eq, extract_0, extract_1, extract_2, eqlI, neqI, makeFunc_eq, decide_true, decide_false, if_true, if_false, Bool.false_eq_true, Bool.not_true, Bool.not_false, reduceIte, List.getElem?_toArray, List.getElem?_cons_zero, List.getElem?_cons_succ, Option.isSome_none, List.length_map]
  refine ⟨fun vs h' => ∃ (i : Nat) (x : Stt) (F' : List Nat), i ≤ 4 ∧ vs = [.pointer (some ⟨r3, 0, none⟩), num4 c, .int .i64 i] ∧ WN h1 h' r3 x F' ∧ wNums ((nums4 c).drop i) x = pCfg c (0, []) ∧ x.2.length ≤ 100 + 8 * i, upTo 4 2, ⟨0, x7, F7, by omega, rfl, S7, by rw [e7, e6, e5, e4, e3]; rfl, by omega⟩, ?_⟩
  rintro ρ h' ⟨i, x, F', hi, hvs, S', hx, hlx⟩
  simp only [List.map_cons, List.map_nil, List.cons.injEq, and_true] at hvs
  obtain ⟨e0, e1, e2⟩ := hvs
  simp only [e0, e1, e2]
  unfold script_PutConfig_b39
  by_cases hlt : i < 4
  · have hd : ((i : Int) < 4) = True := by apply eq_true; omega
    obtain ⟨n, a1, a2, a3⟩ := num4_at hlt hc
    simp only [hd, a1, popO_some, bindH_eq, condV_bool, condV_true, condV_false, yV_bool, gopV_tt, gopV_ff, gopV_tf, gopV_ft, pickV_t, pickV_f, pickV_bool, nilS_ptr, add_eq, sub_eq, mul_eq, lss_eq, leq_eq, gtr_eq, geq_eq, not_eq, minI_eq, maxI_eq, extract_0, extract_1, extract_2, eqlI, neqI, makeFunc_eq, decide_true, decide_false, if_true, if_false, Bool.false_eq_true, Bool.not_true, Bool.not_false, reduceIte, List.getElem?_toArray, List.getElem?_cons_zero, List.getElem?_cons_succ, Option.isSome_none, List.length_map]
    refine Number_w S' (by omega) a2 fun h8 F8 x8 e8 S8 K8 => ?_
    have l8 := wNum_len x n
    rw [← e8] at l8
    have ei : IntKind.i64.wrap ((i : Int) + 1) = ((i + 1 : Nat) : Int) := by rw [i64_wrap (by omega) (by omega)]; omega
    simp only [ei, popO_some, bindH_eq, condV_bool, condV_true, condV_false, yV_bool, gopV_tt, gopV_ff, gopV_tf, gopV_ft, pickV_t, pickV_f, pickV_bool, nilS_ptr, add_eq, sub_eq, mul_eq, lss_eq, leq_eq, gtr_eq, geq_eq, not_eq, minI_eq, maxI_eq, extract_0, extract_1, extract_2, eqlI, neqI, makeFunc_eq, decide_true, decide_false, if_true, if_false, Bool.false_eq_true, Bool.not_true, Bool.not_false, reduceIte, List.getElem?_toArray, List.getElem?_cons_zero, List.getElem?_cons_succ, Option.isSome_none, List.length_map]
    refine ⟨⟨i + 1, x8, F8, by omega, rfl, S8, ?_, by omega⟩, by simp [upTo, e2]; omega⟩
    rw [← hx, a3, e8]; rfl
  · have hd : ((i : Int) < 4) = False := by apply eq_false; omega
    have hi4 : i = 4 := by omega
    subst hi4
    have hx : x = pCfg c (0, []) := hx
    simp only [hd, popO_some, bindH_eq, condV_bool, condV_true, condV_false, yV_bool, gopV_tt, gopV_ff, gopV_tf, gopV_ft, pickV_t, pickV_f, pickV_bool, nilS_ptr, add_eq, sub_eq, mul_eq, lss_eq, leq_eq, gtr_eq, geq_eq, not_eq, minI_eq, maxI_eq, extract_0, extract_1, extract_2, eqlI, neqI, makeFunc_eq, decide_true, decide_false, if_true, if_false, Bool.false_eq_true, Bool.not_true, Bool.not_false, reduceIte, List.getElem?_toArray, List.getElem?_cons_zero, List.getElem?_cons_succ, Option.isSome_none, List.length_map]
    refine Bytes_ok S'.at_ fun h8 u8 => ?_
    simp only [popO_some, bindH_eq, condV_bool, condV_true, condV_false, yV_bool, gopV_tt, gopV_ff, gopV_tf, gopV_ft, pickV_t, pickV_f, pickV_bool, nilS_ptr, add_eq, sub_eq, mul_eq, lss_eq, leq_eq, gtr_eq, geq_eq, not_eq, minI_eq, maxI_eq, extract_0, extract_1, extract_2, eqlI, neqI, makeFunc_eq, decide_true, decide_false, if_true, if_false, Bool.false_eq_true, Bool.not_true, Bool.not_false, reduceIte, List.getElem?_toArray, List.getElem?_cons_zero, List.getElem?_cons_succ, Option.isSome_none, List.length_map]
    unfold putC at hk
    rw [← hx] at hk
    exact hk h8 ((u1.trans S'.upd).fresh u8 (fun b hb => u1.none (S'.fresh b hb)))
end Go.Proofs.Ytflgnfiebgcegaa
