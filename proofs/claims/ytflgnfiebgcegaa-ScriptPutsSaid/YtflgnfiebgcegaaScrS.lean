/- script: acts, entries and configurations held against each other. -/
import Derived.Test.YtflgnfiebgcegaaScrFE
set_option linter.unusedSimpArgs false
set_option linter.unusedVariables false
namespace Go.Proofs.Ytflgnfiebgcegaa
open Go
set_option maxRecDepth 20000
theorem bdec {α : Type} [DecidableEq α] (a b : α) : (a == b) = decide (a = b) := by rw [Bool.eq_iff_iff]; simp
theorem tx_eq (a b : List UInt8) : (tx a = tx b) = (a = b) := propext ⟨tx_inj, fun e => by rw [e]⟩
theorem nat_eq (a b : Nat) : ((a : Int) = (b : Int)) = (a = b) := propext Int.ofNat_inj
theorem Msg.eqIn {h : PH} (m m' : Msg) : SemE PG h (Op.equalIn (9999 + 1) T_api_Message (.agg m.cells.toArray) (.agg m'.cells.toArray)) = some (decide (m = m')) := by
  have hp : SemE PG h (Op.equalIn (9998 + 1) T_api_Packet (.agg #[.int .i64 m.pfrom, .int .u64 m.pseq, .int .u64 m.ptimeout, .string (tx m.pdata)]) (.agg #[.int .i64 m'.pfrom, .int .u64 m'.pseq, .int .u64 m'.ptimeout, .string (tx m'.pdata)])) =
      some (m.pfrom == m'.pfrom && ((m.pseq : Int) == m'.pseq && ((m.ptimeout : Int) == m'.ptimeout && (tx m.pdata == tx m'.pdata && true)))) := by
    refine (eqIn_struct T_api_Packet.und (by kernel_rfl) (fun f => match f.offset with | 0 => m.pfrom == m'.pfrom | 1 => (m.pseq : Int) == m'.pseq | 2 => (m.ptimeout : Int) == m'.ptimeout | _ => tx m.pdata == tx m'.pdata) ?_)
    intro f hf
    simp only [List.mem_cons, List.not_mem_nil, or_false] at hf
    rcases hf with rfl | rfl | rfl | rfl
    · exact ⟨by decide, _, _, part_cell T_int.und rfl rfl, part_cell T_int.und rfl rfl, eqIn_int T_int.und⟩
    · exact ⟨by decide, _, _, part_cell T_uint64.und rfl rfl, part_cell T_uint64.und rfl rfl, eqIn_int T_uint64.und⟩
    · exact ⟨by decide, _, _, part_cell T_uint64.und rfl rfl, part_cell T_uint64.und rfl rfl, eqIn_int T_uint64.und⟩
    · exact ⟨by decide, _, _, part_cell T_string.und rfl rfl, part_cell T_string.und rfl rfl, eqIn_string T_string.und⟩
  have hm : SemE PG h (Op.equalIn (9999 + 1) T_api_Message (.agg m.cells.toArray) (.agg m'.cells.toArray)) = some (m.kind == m'.kind && (m.dest == m'.dest && ((m.height : Int) == m'.height && ((m.pfrom == m'.pfrom && ((m.pseq : Int) == m'.pseq && ((m.ptimeout : Int) == m'.ptimeout && (tx m.pdata == tx m'.pdata && true)))) && (tx m.proof == tx m'.proof && true))))) := by
    refine (eqIn_struct T_api_Message.und (by kernel_rfl) (fun f => match f.offset with | 0 => m.kind == m'.kind | 1 => m.dest == m'.dest | 2 => (m.height : Int) == m'.height | 3 => (m.pfrom == m'.pfrom && ((m.pseq : Int) == m'.pseq && ((m.ptimeout : Int) == m'.ptimeout && (tx m.pdata == tx m'.pdata && true)))) | _ => tx m.proof == tx m'.proof) ?_)
    intro f hf
    simp only [List.mem_cons, List.not_mem_nil, or_false] at hf
    rcases hf with rfl | rfl | rfl | rfl | rfl
    · exact ⟨by decide, _, _, part_cell T_int.und rfl rfl, part_cell T_int.und rfl rfl, eqIn_int T_int.und⟩
    · exact ⟨by decide, _, _, part_cell T_int.und rfl rfl, part_cell T_int.und rfl rfl, eqIn_int T_int.und⟩
    · exact ⟨by decide, _, _, part_cell T_uint64.und rfl rfl, part_cell T_uint64.und rfl rfl, eqIn_int T_uint64.und⟩
    · exact ⟨by decide, _, _, part_agg T_api_Packet.und rfl T_api_Packet.info T_api_Packet.size, part_agg T_api_Packet.und rfl T_api_Packet.info T_api_Packet.size, hp⟩
    · exact ⟨by decide, _, _, part_cell T_string.und rfl rfl, part_cell T_string.und rfl rfl, eqIn_string T_string.und⟩
  rw [hm]
  congr 1
  simp only [beq_bytes, bdec, tx_eq, nat_eq]
  rw [Bool.eq_iff_iff]
  cases m; cases m'
  simp [Msg.mk.injEq, and_assoc]
theorem Msg.eql {h : PH} {x y : Operand} (m m' : Msg) : SemE PG h (binS .eql T_api_Message x y (.agg m.cells.toArray) (.agg m'.cells.toArray)) = some (.bool (decide (m = m'))) := eqlStruct (by kernel_rfl) (Msg.eqIn m m')
theorem Wr.eqIn {h : PH} {d : Nat} (m m' : Wr) : SemE PG h (Op.equalIn (d + 1 + 1) T_api_Write (.agg m.cells.toArray) (.agg m'.cells.toArray)) = some (decide (m = m')) := by
  have hm : SemE PG h (Op.equalIn (d + 1 + 1) T_api_Write (.agg m.cells.toArray) (.agg m'.cells.toArray)) = some (m.lasts == m'.lasts && (m.torn == m'.torn && true)) := by
    refine (eqIn_struct T_api_Write.und (by kernel_rfl) (fun f => match f.offset with | 0 => m.lasts == m'.lasts | _ => m.torn == m'.torn) ?_)
    intro f hf
    simp only [List.mem_cons, List.not_mem_nil, or_false] at hf
    rcases hf with rfl | rfl
    · exact ⟨by decide, _, _, part_cell T_bool.und rfl rfl, part_cell T_bool.und rfl rfl, eqIn_bool T_bool.und⟩
    · exact ⟨by decide, _, _, part_cell T_int.und rfl rfl, part_cell T_int.und rfl rfl, eqIn_int T_int.und⟩
  rw [hm]
  congr 1
  rw [Bool.eq_iff_iff]
  cases m; cases m'
  simp [Wr.mk.injEq]
theorem Wr.neq {h : PH} {x y : Operand} (m m' : Wr) : SemE PG h (binS .neq T_api_Write x y (.agg m.cells.toArray) (.agg m'.cells.toArray)) = some (.bool (!decide (m = m'))) := neqStruct (by kernel_rfl) (Wr.eqIn (d := 9998) m m')
theorem eqlS {h : PH} {t : TypeId} {x y : Operand} {a b : List UInt8} : SemE PG h (binS .eql t x y (.string (tx a)) (.string (tx b))) = some (.bool (decide (a = b))) := by
  have : SemE PG h (binS .eql t x y (.string (tx a)) (.string (tx b))) = some (.bool ((tx a).toList == (tx b).toList)) := rfl
  rw [this]
  congr 2
  rw [Bool.eq_iff_iff]
  simp [ByteArray.toList_eq, tx]
/-! ### the cells of an act in a box -/
theorem ABox.c1 {h : PH} {r : Nat} {A : Act} {v : Value} (H : ABox h r A v) : cellH h ⟨r, 1, none⟩ = some (.int .i64 A.chain) := by simp [cellH, H.here, Act.cells]
theorem ABox.c2 {h : PH} {r : Nat} {A : Act} {v : Value} (H : ABox h r A v) : cellH h ⟨r, 2, none⟩ = some (.int .u64 A.timeout) := by simp [cellH, H.here, Act.cells]
theorem ABox.c3 {h : PH} {r : Nat} {A : Act} {v : Value} (H : ABox h r A v) : cellH h ⟨r, 3, none⟩ = some (.string (tx A.data)) := by simp [cellH, H.here, Act.cells]
theorem ABox.c4 {h : PH} {r : Nat} {A : Act} {v : Value} (H : ABox h r A v) : cellH h ⟨r, 4, none⟩ = some (.int .i64 A.n) := by simp [cellH, H.here, Act.cells]
theorem ABox.msg {h : PH} {r : Nat} {A : Act} {v : Value} (H : ABox h r A v) : SemE PG h (Instr.loadAt T_api_Message (.pointer (some ⟨r, 5, none⟩))) = some (.agg A.msg.cells.toArray) := by
  rw [T_api_Message.loadAgg H.here (by show 5 + 8 ≤ 14; decide)]; rfl
theorem SlR.wr {h : PH} {x : Value} {xs : List Wr} (H : SlR h 2 x (xs.map Wr.cells)) {k : IntKind} {j : Nat} {m : Wr} (hm : xs[j]? = some m) :
    ∃ a, SemP PG (Instr.indexAt T_sl_api_Write x (.int k j)) = some (.pointer (some a)) ∧ SemE PG h (Instr.loadAt T_api_Write (.pointer (some a))) = some (.agg m.cells.toArray) :=
  H.loadAgg T_sl_api_Write.und T_api_Write.info T_api_Write.size T_api_Write.und rfl (by omega) (by rw [List.getElem?_map, Int.toNat_natCast, hm]; rfl)
set_option maxHeartbeats 1000000 in
theorem Same_ok {h : PH} {A B : Act} {v w : Value} (hv : SlR h 2 v (A.writes.map Wr.cells)) (hw : SlR h 2 w (B.writes.map Wr.cells)) {k : Value → PH → Prop} (hk : ∀ h', Ext h h' → k (.bool (decide (A = B))) h') :
    CallsH PG id_carrackref23_Same #[.agg (A.cells v).toArray, .agg (B.cells w).toArray] h k := by
  apply carrackref23_Same.call
  unfold carrackref23_Same
  intro r1 hr1
  try rw [bindH_eq]
  have u1 : Ext h (h.set r1 (.cells (Value.agg (A.cells v).toArray).cells T_api_Act)) := Upd.new hr1
  have B1 : ABox (h.set r1 (.cells (Value.agg (A.cells v).toArray).cells T_api_Act)) r1 A v := ⟨set_same⟩
  generalize h.set r1 (.cells (Value.agg (A.cells v).toArray).cells T_api_Act) = h1 at *
  intro r3 hr3
  try rw [bindH_eq]
  have u2 : Ext h1 (h1.set r3 (.cells (Value.agg (B.cells w).toArray).cells T_api_Act)) := Upd.new hr3
  have B3 : ABox (h1.set r3 (.cells (Value.agg (B.cells w).toArray).cells T_api_Act)) r3 B w := ⟨set_same⟩
  generalize h1.set r3 (.cells (Value.agg (B.cells w).toArray).cells T_api_Act) = h2 at *
  have B1 := B1.ext u2
  have u := u1.trans u2
  have hv := hv.ext u
  have hw := hw.ext u
  have lv := hv.len (t' := T_int) T_sl_api_Write.und
  have lw := hw.len (t' := T_int) T_sl_api_Write.und
  have small := hv.small
  rw [List.length_map] at lv lw small
  have hk := hk _ u
  simp only [T_api_Act.f6, Nat.zero_add, T_sl_api_Write.load, B1.field6, B3.field6, lv, lw, popO_some, bindH_eq, condV_bool, condV_true, condV_false, yV_bool, gopV_tt, gopV_ff, gopV_tf, gopV_ft, pickV_t, pickV_f, pickV_bool, nilS_ptr, add_eq, sub_eq, mul_eq, lss_eq, leq_eq, gtr_eq, geq_eq, not_eq, minI_eq, maxI_eq, extract_0, extract_1, extract_2, eqlI, neqI, makeFunc_eq, decide_true, decide_false, if_true, if_false, Bool.false_eq_true, Bool.not_true, Bool.not_false, reduceIte, List.getElem?_toArray, List.getElem?_cons_zero, List.getElem?_cons_succ, Option.isSome_none, List.length_map]
  by_cases hl : A.writes.length = B.writes.length
  · have q : (((A.writes.length : Nat) : Int) != ((B.writes.length : Nat) : Int)) = false := by simp [hl]
    simp only [q, popO_some, bindH_eq, condV_bool, condV_true, condV_false, yV_bool, gopV_tt, gopV_ff, gopV_tf, gopV_ft, pickV_t, pickV_f, pickV_bool, nilS_ptr, add_eq, sub_eq, mul_eq, lss_eq, leq_eq, gtr_eq, geq_eq, not_eq, minI_eq, maxI_eq, extract_0, extract_1, extract_2, eqlI, neqI, makeFunc_eq, decide_true, decide_false, if_true, if_false, Bool.false_eq_true, Bool.not_true, Bool.not_false, reduceIte, List.getElem?_toArray, List.getElem?_cons_zero, List.getElem?_cons_succ, Option.isSome_none, List.length_map]
    refine ⟨fun vs h' => h' = h2 ∧ ∃ i : Nat, i ≤ A.writes.length ∧ vs = [.pointer (some ⟨r1, 0, none⟩), .pointer (some ⟨r3, 0, none⟩), .int .i64 i] ∧ A.writes.take i = B.writes.take i, upTo A.writes.length 2, ⟨rfl, 0, by omega, rfl, rfl⟩, ?_⟩
    rintro ρ h' ⟨rfl, i, hi, hvs, ht⟩
    simp only [List.map_cons, List.map_nil, List.cons.injEq, and_true] at hvs
    obtain ⟨e2, e3, e5⟩ := hvs
    simp only [e2, e3, e5]
    unfold carrackref23_Same_b13
    by_cases hlt : i < A.writes.length
    · have hd : ((i : Int) < (A.writes.length : Int)) = True := by apply eq_true; omega
      obtain ⟨m, hm⟩ : ∃ m, A.writes[i]? = some m := ⟨_, List.getElem?_eq_getElem hlt⟩
      obtain ⟨m', hm'⟩ : ∃ m, B.writes[i]? = some m := ⟨_, List.getElem?_eq_getElem (by omega)⟩
      obtain ⟨a, a1, a2⟩ := hv.wr (k := .i64) hm
      obtain ⟨b, b1, b2⟩ := hw.wr (k := .i64) hm'
      simp only [T_api_Act.f6, Nat.zero_add, T_sl_api_Write.load, B1.field6, B3.field6, lv, hd, a1, a2, b1, b2, Wr.neq, popO_some, bindH_eq, condV_bool, condV_true, condV_false, yV_bool, gopV_tt, gopV_ff, gopV_tf, gopV_ft, pickV_t, pickV_f, pickV_bool, nilS_ptr, add_eq, sub_eq, mul_eq, lss_eq, leq_eq, gtr_eq, geq_eq, not_eq, minI_eq, maxI_eq, extract_0, extract_1, extract_2, eqlI, neqI, makeFunc_eq, decide_true, decide_false, if_true, if_false, Bool.false_eq_true, Bool.not_true, Bool.not_false, reduceIte, List.getElem?_toArray, List.getElem?_cons_zero, List.getElem?_cons_succ, Option.isSome_none, List.length_map]
      by_cases e : m = m'
      · have q : decide (m = m') = true := by simp [e]
        unfold maxL at small
        have ei : IntKind.i64.wrap ((i : Int) + 1) = ((i + 1 : Nat) : Int) := by rw [i64_wrap (by omega) (by omega)]; omega
        simp only [q, ei, popO_some, bindH_eq, condV_bool, condV_true, condV_false, yV_bool, gopV_tt, gopV_ff, gopV_tf, gopV_ft, pickV_t, pickV_f, pickV_bool, nilS_ptr, add_eq, sub_eq, mul_eq, lss_eq, leq_eq, gtr_eq, geq_eq, not_eq, minI_eq, maxI_eq, extract_0, extract_1, extract_2, eqlI, neqI, makeFunc_eq, decide_true, decide_false, if_true, if_false, Bool.false_eq_true, Bool.not_true, Bool.not_false, reduceIte, List.getElem?_toArray, List.getElem?_cons_zero, List.getElem?_cons_succ, Option.isSome_none, List.length_map]
        refine ⟨⟨by trivial, i + 1, by omega, rfl, ?_⟩, by simp [upTo, e5]; omega⟩
        rw [List.take_add_one, List.take_add_one, ht, hm, hm', e]
      · have q : decide (m = m') = false := by simp [e]
        have : decide (A = B) = false := by
          apply decide_eq_false; rintro rfl
          rw [hm] at hm'; exact e (Option.some.inj hm')
        rw [this] at hk
        simp only [q, popO_some, bindH_eq, condV_bool, condV_true, condV_false, yV_bool, gopV_tt, gopV_ff, gopV_tf, gopV_ft, pickV_t, pickV_f, pickV_bool, nilS_ptr, add_eq, sub_eq, mul_eq, lss_eq, leq_eq, gtr_eq, geq_eq, not_eq, minI_eq, maxI_eq, extract_0, extract_1, extract_2, eqlI, neqI, makeFunc_eq, decide_true, decide_false, if_true, if_false, Bool.false_eq_true, Bool.not_true, Bool.not_false, reduceIte, List.getElem?_toArray, List.getElem?_cons_zero, List.getElem?_cons_succ, Option.isSome_none, List.length_map]
        exact hk
    · have hd : ((i : Int) < (A.writes.length : Int)) = False := by apply eq_false; omega
      rw [List.take_of_length_le (by omega), List.take_of_length_le (by omega)] at ht
      simp only [T_api_Act.f0, T_api_Act.f1, T_api_Act.f2, T_api_Act.f3, T_api_Act.f4, T_api_Act.f5, T_api_Act.f6, Nat.zero_add, T_sl_api_Write.load, B1.field6, B3.field6, lv, hd, T_int.load, T_uint64.load, T_string.load, B1.kind, B3.kind, B1.c1, B3.c1, B1.c2, B3.c2, B1.c3, B3.c3, B1.c4, B3.c4, B1.msg, B3.msg, Msg.eql, eqlS, bdec, nat_eq, popO_some, bindH_eq, condV_bool, condV_true, condV_false, yV_bool, gopV_tt, gopV_ff, gopV_tf, gopV_ft, pickV_t, pickV_f, pickV_bool, nilS_ptr, add_eq, sub_eq, mul_eq, lss_eq, leq_eq, gtr_eq, geq_eq, not_eq, minI_eq, maxI_eq, extract_0, extract_1, extract_2, eqlI, neqI, makeFunc_eq, decide_true, decide_false, if_true, if_false, Bool.false_eq_true, Bool.not_true, Bool.not_false, reduceIte, List.getElem?_toArray, List.getElem?_cons_zero, List.getElem?_cons_succ, Option.isSome_none, List.length_map]
      have hkF : A ≠ B → k (.bool false) h' := fun e => by rw [decide_eq_false e] at hk; exact hk
      by_cases e0 : A.kind = B.kind
      rotate_left
      · simp only [T_api_Act.f0, T_api_Act.f1, T_api_Act.f2, T_api_Act.f3, T_api_Act.f4, T_api_Act.f5, Nat.zero_add, T_int.load, T_uint64.load, T_string.load, B1.kind, B3.kind, B1.c1, B3.c1, B1.c2, B3.c2, B1.c3, B3.c3, B1.c4, B3.c4, B1.msg, B3.msg, Msg.eql, eqlS, bdec, nat_eq, decide_eq_false e0, popO_some, bindH_eq, condV_bool, condV_true, condV_false, yV_bool, gopV_tt, gopV_ff, gopV_tf, gopV_ft, pickV_t, pickV_f, pickV_bool, nilS_ptr, add_eq, sub_eq, mul_eq, lss_eq, leq_eq, gtr_eq, geq_eq, not_eq, minI_eq, maxI_eq, extract_0, extract_1, extract_2, eqlI, neqI, makeFunc_eq, decide_true, decide_false, if_true, if_false, Bool.false_eq_true, Bool.not_true, Bool.not_false, reduceIte, List.getElem?_toArray, List.getElem?_cons_zero, List.getElem?_cons_succ, Option.isSome_none, List.length_map]; exact hkF (fun e => e0 (by rw [e]))
      by_cases e1 : A.chain = B.chain
      rotate_left
      · simp only [T_api_Act.f0, T_api_Act.f1, T_api_Act.f2, T_api_Act.f3, T_api_Act.f4, T_api_Act.f5, Nat.zero_add, T_int.load, T_uint64.load, T_string.load, B1.kind, B3.kind, B1.c1, B3.c1, B1.c2, B3.c2, B1.c3, B3.c3, B1.c4, B3.c4, B1.msg, B3.msg, Msg.eql, eqlS, bdec, nat_eq, decide_eq_true e0, decide_eq_false e1, popO_some, bindH_eq, condV_bool, condV_true, condV_false, yV_bool, gopV_tt, gopV_ff, gopV_tf, gopV_ft, pickV_t, pickV_f, pickV_bool, nilS_ptr, add_eq, sub_eq, mul_eq, lss_eq, leq_eq, gtr_eq, geq_eq, not_eq, minI_eq, maxI_eq, extract_0, extract_1, extract_2, eqlI, neqI, makeFunc_eq, decide_true, decide_false, if_true, if_false, Bool.false_eq_true, Bool.not_true, Bool.not_false, reduceIte, List.getElem?_toArray, List.getElem?_cons_zero, List.getElem?_cons_succ, Option.isSome_none, List.length_map]; exact hkF (fun e => e1 (by rw [e]))
      by_cases e2 : A.timeout = B.timeout
      rotate_left
      · simp only [T_api_Act.f0, T_api_Act.f1, T_api_Act.f2, T_api_Act.f3, T_api_Act.f4, T_api_Act.f5, Nat.zero_add, T_int.load, T_uint64.load, T_string.load, B1.kind, B3.kind, B1.c1, B3.c1, B1.c2, B3.c2, B1.c3, B3.c3, B1.c4, B3.c4, B1.msg, B3.msg, Msg.eql, eqlS, bdec, nat_eq, decide_eq_true e0, decide_eq_true e1, decide_eq_false e2, popO_some, bindH_eq, condV_bool, condV_true, condV_false, yV_bool, gopV_tt, gopV_ff, gopV_tf, gopV_ft, pickV_t, pickV_f, pickV_bool, nilS_ptr, add_eq, sub_eq, mul_eq, lss_eq, leq_eq, gtr_eq, geq_eq, not_eq, minI_eq, maxI_eq, extract_0, extract_1, extract_2, eqlI, neqI, makeFunc_eq, decide_true, decide_false, if_true, if_false, Bool.false_eq_true, Bool.not_true, Bool.not_false, reduceIte, List.getElem?_toArray, List.getElem?_cons_zero, List.getElem?_cons_succ, Option.isSome_none, List.length_map]; exact hkF (fun e => e2 (by rw [e]))
      by_cases e3 : A.data = B.data
      rotate_left
      · simp only [T_api_Act.f0, T_api_Act.f1, T_api_Act.f2, T_api_Act.f3, T_api_Act.f4, T_api_Act.f5, Nat.zero_add, T_int.load, T_uint64.load, T_string.load, B1.kind, B3.kind, B1.c1, B3.c1, B1.c2, B3.c2, B1.c3, B3.c3, B1.c4, B3.c4, B1.msg, B3.msg, Msg.eql, eqlS, bdec, nat_eq, decide_eq_true e0, decide_eq_true e1, decide_eq_true e2, decide_eq_false e3, popO_some, bindH_eq, condV_bool, condV_true, condV_false, yV_bool, gopV_tt, gopV_ff, gopV_tf, gopV_ft, pickV_t, pickV_f, pickV_bool, nilS_ptr, add_eq, sub_eq, mul_eq, lss_eq, leq_eq, gtr_eq, geq_eq, not_eq, minI_eq, maxI_eq, extract_0, extract_1, extract_2, eqlI, neqI, makeFunc_eq, decide_true, decide_false, if_true, if_false, Bool.false_eq_true, Bool.not_true, Bool.not_false, reduceIte, List.getElem?_toArray, List.getElem?_cons_zero, List.getElem?_cons_succ, Option.isSome_none, List.length_map]; exact hkF (fun e => e3 (by rw [e]))
      by_cases e4 : A.n = B.n
      rotate_left
      · simp only [T_api_Act.f0, T_api_Act.f1, T_api_Act.f2, T_api_Act.f3, T_api_Act.f4, T_api_Act.f5, Nat.zero_add, T_int.load, T_uint64.load, T_string.load, B1.kind, B3.kind, B1.c1, B3.c1, B1.c2, B3.c2, B1.c3, B3.c3, B1.c4, B3.c4, B1.msg, B3.msg, Msg.eql, eqlS, bdec, nat_eq, decide_eq_true e0, decide_eq_true e1, decide_eq_true e2, decide_eq_true e3, decide_eq_false e4, popO_some, bindH_eq, condV_bool, condV_true, condV_false, yV_bool, gopV_tt, gopV_ff, gopV_tf, gopV_ft, pickV_t, pickV_f, pickV_bool, nilS_ptr, add_eq, sub_eq, mul_eq, lss_eq, leq_eq, gtr_eq, geq_eq, not_eq, minI_eq, maxI_eq, extract_0, extract_1, extract_2, eqlI, neqI, makeFunc_eq, decide_true, decide_false, if_true, if_false, Bool.false_eq_true, Bool.not_true, Bool.not_false, reduceIte, List.getElem?_toArray, List.getElem?_cons_zero, List.getElem?_cons_succ, Option.isSome_none, List.length_map]; exact hkF (fun e => e4 (by rw [e]))
      by_cases e6 : A.msg = B.msg
      rotate_left
      · simp only [T_api_Act.f0, T_api_Act.f1, T_api_Act.f2, T_api_Act.f3, T_api_Act.f4, T_api_Act.f5, Nat.zero_add, T_int.load, T_uint64.load, T_string.load, B1.kind, B3.kind, B1.c1, B3.c1, B1.c2, B3.c2, B1.c3, B3.c3, B1.c4, B3.c4, B1.msg, B3.msg, Msg.eql, eqlS, bdec, nat_eq, decide_eq_true e0, decide_eq_true e1, decide_eq_true e2, decide_eq_true e3, decide_eq_true e4, decide_eq_false e6, popO_some, bindH_eq, condV_bool, condV_true, condV_false, yV_bool, gopV_tt, gopV_ff, gopV_tf, gopV_ft, pickV_t, pickV_f, pickV_bool, nilS_ptr, add_eq, sub_eq, mul_eq, lss_eq, leq_eq, gtr_eq, geq_eq, not_eq, minI_eq, maxI_eq, extract_0, extract_1, extract_2, eqlI, neqI, makeFunc_eq, decide_true, decide_false, if_true, if_false, Bool.false_eq_true, Bool.not_true, Bool.not_false, reduceIte, List.getElem?_toArray, List.getElem?_cons_zero, List.getElem?_cons_succ, Option.isSome_none, List.length_map]; exact hkF (fun e => e6 (by rw [e]))
      simp only [T_api_Act.f0, T_api_Act.f1, T_api_Act.f2, T_api_Act.f3, T_api_Act.f4, T_api_Act.f5, Nat.zero_add, T_int.load, T_uint64.load, T_string.load, B1.kind, B3.kind, B1.c1, B3.c1, B1.c2, B3.c2, B1.c3, B3.c3, B1.c4, B3.c4, B1.msg, B3.msg, Msg.eql, eqlS, bdec, nat_eq, decide_eq_true e0, decide_eq_true e1, decide_eq_true e2, decide_eq_true e3, decide_eq_true e4, decide_eq_true e6, popO_some, bindH_eq, condV_bool, condV_true, condV_false, yV_bool, gopV_tt, gopV_ff, gopV_tf, gopV_ft, pickV_t, pickV_f, pickV_bool, nilS_ptr, add_eq, sub_eq, mul_eq, lss_eq, leq_eq, gtr_eq, geq_eq, not_eq, minI_eq, maxI_eq, extract_0, extract_1, extract_2, eqlI, neqI, makeFunc_eq, decide_true, decide_false, if_true, if_false, Bool.false_eq_true, Bool.not_true, Bool.not_false, reduceIte, List.getElem?_toArray, List.getElem?_cons_zero, List.getElem?_cons_succ, Option.isSome_none, List.length_map]
      have : A = B := by cases A; cases B; simp_all
      rw [decide_eq_true this] at hk
      exact hk
  · have q : (((A.writes.length : Nat) : Int) != ((B.writes.length : Nat) : Int)) = true := by simp; omega
    have : decide (A = B) = false := by
      apply decide_eq_false; rintro rfl; exact hl rfl
    rw [this] at hk
    simp only [q, popO_some, bindH_eq, condV_bool, condV_true, condV_false, yV_bool, gopV_tt, gopV_ff, gopV_tf, gopV_ft, pickV_t, pickV_f, pickV_bool, nilS_ptr, add_eq, sub_eq, mul_eq, lss_eq, leq_eq, gtr_eq, geq_eq, not_eq, minI_eq, maxI_eq, extract_0, extract_1, extract_2, eqlI, neqI, makeFunc_eq, decide_true, decide_false, if_true, if_false, Bool.false_eq_true, Bool.not_true, Bool.not_false, reduceIte, List.getElem?_toArray, List.getElem?_cons_zero, List.getElem?_cons_succ, Option.isSome_none, List.length_map]
    exact hk
end Go.Proofs.Ytflgnfiebgcegaa
