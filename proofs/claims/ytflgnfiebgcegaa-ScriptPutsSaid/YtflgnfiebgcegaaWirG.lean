/- script: the document's reader by entries; two bytes. -/
import Derived.Test.YtflgnfiebgcegaaWirF
set_option linter.unusedSimpArgs false
set_option linter.unusedVariables false
namespace Go.Proofs.Ytflgnfiebgcegaa
open Go
set_option maxRecDepth 20000
abbrev rdV (a : Nat) : Value := .agg #[.pointer (some ⟨a, 0, none⟩)]
theorem call_build (n : Int) : SemP PG (Instr.build T_carrackref03_Call #[(0, .int .i64 n)]) = some (.agg #[.int .i64 n, .int .i64 0, .int .u64 0, .string ⟨#[]⟩]) := by kernel_rfl
theorem Do_ok {h : PH} {a : Nat} {S : List UInt8} {e : Int} {s : List UInt8} (hR : RfAt h a S e s) (hS : S.length ≤ 1000000000000) {kind : Int} {out : Nat × List UInt8 × (Int × List UInt8)}
    (ho : (kind = 0 ∧ out = ((rGet (e, s) 1).1, [], (rGet (e, s) 1).2)) ∨ (kind = 1 ∧ out = ((rGet (e, s) 8).1, [], (rGet (e, s) 8).2)) ∨ (kind = 2 ∧ out = (0, (rText (e, s)).1, (rText (e, s)).2))) {k : Value → PH → Prop}
    (hk : ∀ h', RfAt h' a S out.2.2.1 out.2.2.2 → Upd [a] h h' → k (.tuple #[.int .u64 out.1, .string (tx out.2.1)]) h') :
    CallsH PG id_carrackref03_Reader_Do #[.pointer (some ⟨a, 0, none⟩), .agg #[.int .i64 kind, .int .i64 0, .int .u64 0, .string ⟨#[]⟩]] h k := by
  apply carrackref03_Reader_Do.call
  unfold carrackref03_Reader_Do
  intro r hr
  rw [bindH_eq]
  have u1 : Ext h (h.set r (.cells (Value.agg #[.int .i64 kind, .int .i64 0, .int .u64 0, .string ⟨#[]⟩]).cells T_carrackref03_Call)) := Upd.new hr
  have c0 : cellH (h.set r (.cells (Value.agg #[.int .i64 kind, .int .i64 0, .int .u64 0, .string ⟨#[]⟩]).cells T_carrackref03_Call)) ⟨r, 0, none⟩ = some (.int .i64 kind) := by simp [cellH, PH.set, Value.cells]
  generalize h.set r (.cells (Value.agg #[.int .i64 kind, .int .i64 0, .int .u64 0, .string ⟨#[]⟩]).cells T_carrackref03_Call) = h1 at *
  have hR1 := hR.ext u1
  have small : ∀ c : Nat, c ≤ 8 → (rRaw (e, s) (c : Int)).1.length ≤ 8 := fun c hc => Nat.le_trans (rRaw_len _ c) hc
  rcases ho with ⟨rfl, rfl⟩ | ⟨rfl, rfl⟩ | ⟨rfl, rfl⟩
  · have q : ((0 : Int) == 0) = true := rfl
    simp only [T_carrackref03_Call.f0, T_int.load, c0, q, popO_some, bindH_eq, condV_bool, condV_true, condV_false, yV_bool, gopV_tt, gopV_ff, gopV_tf, gopV_ft, pickV_t, pickV_f, pickV_bool, nilS_ptr, add_eq, sub_eq, mul_eq, lss_eq, leq_eq, gtr_eq, geq_eq, not_eq, minI_eq, maxI_eq, extract_0, extract_1, extract_2, eqlI, neqI, makeFunc_eq, decide_true, decide_false, if_true, if_false, Bool.false_eq_true, Bool.not_true, Bool.not_false, reduceIte, List.getElem?_toArray, List.getElem?_cons_zero, List.getElem?_cons_succ, Option.isSome_none, List.length_map]
    refine take_ok hR1 hS 1 fun h2 hR2 u2 => ?_
    simp only [popO_some, bindH_eq, condV_bool, condV_true, condV_false, yV_bool, gopV_tt, gopV_ff, gopV_tf, gopV_ft, pickV_t, pickV_f, pickV_bool, nilS_ptr, add_eq, sub_eq, mul_eq, lss_eq, leq_eq, gtr_eq, geq_eq, not_eq, minI_eq, maxI_eq, extract_0, extract_1, extract_2, eqlI, neqI, makeFunc_eq, decide_true, decide_false, if_true, if_false, Bool.false_eq_true, Bool.not_true, Bool.not_false, reduceIte, List.getElem?_toArray, List.getElem?_cons_zero, List.getElem?_cons_succ, Option.isSome_none, List.length_map]
    refine Value_ok (small 1 (by omega)) ?_
    exact hk _ hR2 (u1.upd.trans u2)
  · have q : ((1 : Int) == 0) = false := rfl
    have q1 : ((1 : Int) == 1) = true := rfl
    simp only [T_carrackref03_Call.f0, T_int.load, c0, q, q1, popO_some, bindH_eq, condV_bool, condV_true, condV_false, yV_bool, gopV_tt, gopV_ff, gopV_tf, gopV_ft, pickV_t, pickV_f, pickV_bool, nilS_ptr, add_eq, sub_eq, mul_eq, lss_eq, leq_eq, gtr_eq, geq_eq, not_eq, minI_eq, maxI_eq, extract_0, extract_1, extract_2, eqlI, neqI, makeFunc_eq, decide_true, decide_false, if_true, if_false, Bool.false_eq_true, Bool.not_true, Bool.not_false, reduceIte, List.getElem?_toArray, List.getElem?_cons_zero, List.getElem?_cons_succ, Option.isSome_none, List.length_map]
    refine take_ok hR1 hS 8 fun h2 hR2 u2 => ?_
    simp only [popO_some, bindH_eq, condV_bool, condV_true, condV_false, yV_bool, gopV_tt, gopV_ff, gopV_tf, gopV_ft, pickV_t, pickV_f, pickV_bool, nilS_ptr, add_eq, sub_eq, mul_eq, lss_eq, leq_eq, gtr_eq, geq_eq, not_eq, minI_eq, maxI_eq, extract_0, extract_1, extract_2, eqlI, neqI, makeFunc_eq, decide_true, decide_false, if_true, if_false, Bool.false_eq_true, Bool.not_true, Bool.not_false, reduceIte, List.getElem?_toArray, List.getElem?_cons_zero, List.getElem?_cons_succ, Option.isSome_none, List.length_map]
    refine Value_ok (small 8 (by omega)) ?_
    exact hk _ hR2 (u1.upd.trans u2)
  · have q : ((2 : Int) == 0) = false := rfl
    have q1 : ((2 : Int) == 1) = false := rfl
    have q2 : ((2 : Int) == 2) = true := rfl
    simp only [T_carrackref03_Call.f0, T_int.load, c0, q, q1, q2, popO_some, bindH_eq, condV_bool, condV_true, condV_false, yV_bool, gopV_tt, gopV_ff, gopV_tf, gopV_ft, pickV_t, pickV_f, pickV_bool, nilS_ptr, add_eq, sub_eq, mul_eq, lss_eq, leq_eq, gtr_eq, geq_eq, not_eq, minI_eq, maxI_eq, extract_0, extract_1, extract_2, eqlI, neqI, makeFunc_eq, decide_true, decide_false, if_true, if_false, Bool.false_eq_true, Bool.not_true, Bool.not_false, reduceIte, List.getElem?_toArray, List.getElem?_cons_zero, List.getElem?_cons_succ, Option.isSome_none, List.length_map]
    refine take_ok hR1 hS 2 fun h2 hR2 u2 => ?_
    by_cases hc : e = 0 ∧ 0 ≤ (2 : Int) ∧ (2 : Int) ≤ (s.length : Int)
    · have hd : decide (e = 0 ∧ 0 ≤ (2 : Int) ∧ (2 : Int) ≤ (s.length : Int)) = true := by simpa using hc
      simp only [hd, popO_some, bindH_eq, condV_bool, condV_true, condV_false, yV_bool, gopV_tt, gopV_ff, gopV_tf, gopV_ft, pickV_t, pickV_f, pickV_bool, nilS_ptr, add_eq, sub_eq, mul_eq, lss_eq, leq_eq, gtr_eq, geq_eq, not_eq, minI_eq, maxI_eq, extract_0, extract_1, extract_2, eqlI, neqI, makeFunc_eq, decide_true, decide_false, if_true, if_false, Bool.false_eq_true, Bool.not_true, Bool.not_false, reduceIte, List.getElem?_toArray, List.getElem?_cons_zero, List.getElem?_cons_succ, Option.isSome_none, List.length_map]
      refine Value_ok (l := (rRaw (e, s) 2).1) (small 2 (by omega)) ?_
      have hlt := rGet_lt (e, s) 2
      have e1 : IntKind.i64.wrap ((val (rRaw (e, s) 2).1 : Nat) : Int) = ((rGet (e, s) 2).1 : Int) := by
        show IntKind.i64.wrap (((rGet (e, s) 2).1 : Nat) : Int) = _
        rw [i64_wrap (by omega) (by omega)]
      simp only [conv_ui, e1, popO_some, bindH_eq, condV_bool, condV_true, condV_false, yV_bool, gopV_tt, gopV_ff, gopV_tf, gopV_ft, pickV_t, pickV_f, pickV_bool, nilS_ptr, add_eq, sub_eq, mul_eq, lss_eq, leq_eq, gtr_eq, geq_eq, not_eq, minI_eq, maxI_eq, extract_0, extract_1, extract_2, eqlI, neqI, makeFunc_eq, decide_true, decide_false, if_true, if_false, Bool.false_eq_true, Bool.not_true, Bool.not_false, reduceIte, List.getElem?_toArray, List.getElem?_cons_zero, List.getElem?_cons_succ, Option.isSome_none, List.length_map]
      refine take_ok hR2 hS _ fun h3 hR3 u3 => ?_
      simp only [popO_some, bindH_eq, condV_bool, condV_true, condV_false, yV_bool, gopV_tt, gopV_ff, gopV_tf, gopV_ft, pickV_t, pickV_f, pickV_bool, nilS_ptr, add_eq, sub_eq, mul_eq, lss_eq, leq_eq, gtr_eq, geq_eq, not_eq, minI_eq, maxI_eq, extract_0, extract_1, extract_2, eqlI, neqI, makeFunc_eq, decide_true, decide_false, if_true, if_false, Bool.false_eq_true, Bool.not_true, Bool.not_false, reduceIte, List.getElem?_toArray, List.getElem?_cons_zero, List.getElem?_cons_succ, Option.isSome_none, List.length_map]
      exact hk _ hR3 ((u1.upd.trans u2).trans u3)
    · have hd : decide (e = 0 ∧ 0 ≤ (2 : Int) ∧ (2 : Int) ≤ (s.length : Int)) = false := by simpa using hc
      simp only [hd, popO_some, bindH_eq, condV_bool, condV_true, condV_false, yV_bool, gopV_tt, gopV_ff, gopV_tf, gopV_ft, pickV_t, pickV_f, pickV_bool, nilS_ptr, add_eq, sub_eq, mul_eq, lss_eq, leq_eq, gtr_eq, geq_eq, not_eq, minI_eq, maxI_eq, extract_0, extract_1, extract_2, eqlI, neqI, makeFunc_eq, decide_true, decide_false, if_true, if_false, Bool.false_eq_true, Bool.not_true, Bool.not_false, reduceIte, List.getElem?_toArray, List.getElem?_cons_zero, List.getElem?_cons_succ, Option.isSome_none, List.length_map]
      have hraw : rRaw (e, s) 2 = ([], (if e = 0 then 6 else e, s)) := by unfold rRaw; rw [if_neg hc]
      have hne : (if e = 0 then 6 else e) ≠ 0 := by split <;> simp_all
      have ht : rText (e, s) = ([], (if e = 0 then 6 else e, s)) := by
        unfold rText rGet
        show rRaw (rRaw (e, s) 2).2 _ = _
        rw [hraw]
        show rRaw (if e = 0 then 6 else e, s) _ = _
        generalize (if e = 0 then (6 : Int) else e) = e' at *
        unfold rRaw
        rw [if_neg (by rintro ⟨h1, _⟩; exact hne h1), if_neg hne]
      have := hk h2
      rw [ht] at this
      rw [hraw] at hR2
      exact this hR2 (u1.upd.trans u2)
theorem box_rd {h : PH} {a r : Nat} (hr : h r = none) : Ext h (h.set r (.cells (rdV a).cells T_carrackref23_reader)) ∧ cellH (h.set r (.cells (rdV a).cells T_carrackref23_reader)) ⟨r, 0, none⟩ = some (.pointer (some ⟨a, 0, none⟩)) ∧ SemE PG (h.set r (.cells (rdV a).cells T_carrackref23_reader)) (Instr.loadAt T_carrackref23_reader (.pointer (some ⟨r, 0, none⟩))) = some (rdV a) :=
  ⟨Upd.new hr, by simp [cellH, PH.set, Value.cells], load_box T_carrackref23_reader.und rfl T_carrackref23_reader.info T_carrackref23_reader.size (c := #[.pointer (some ⟨a, 0, none⟩)]) set_same rfl⟩
theorem one_ok {h : PH} {a : Nat} {S : List UInt8} {e : Int} {s : List UInt8} (hR : RfAt h a S e s) (hS : S.length ≤ 1000000000000) {k : Value → PH → Prop} (hk : ∀ h', RfAt h' a S (rGet (e, s) 1).2.1 (rGet (e, s) 1).2.2 → Upd [a] h h' → k (.int .i64 (rGet (e, s) 1).1) h') :
    CallsH PG id_carrackref23_reader_one #[rdV a] h k := by
  apply carrackref23_reader_one.call
  unfold carrackref23_reader_one
  intro r hr
  rw [bindH_eq]
  obtain ⟨u1, c0, -⟩ := box_rd (a := a) hr
  generalize h.set r (.cells (rdV a).cells T_carrackref23_reader) = h1 at *
  simp only [T_carrackref23_reader.f0, T_p_carrackref03_Reader.load, c0, call_build, popO_some, bindH_eq, condV_bool, condV_true, condV_false, yV_bool, gopV_tt, gopV_ff, gopV_tf, gopV_ft, pickV_t, pickV_f, pickV_bool, nilS_ptr, add_eq, sub_eq, mul_eq, lss_eq, leq_eq, gtr_eq, geq_eq, not_eq, minI_eq, maxI_eq, extract_0, extract_1, extract_2, eqlI, neqI, makeFunc_eq, decide_true, decide_false, if_true, if_false, Bool.false_eq_true, Bool.not_true, Bool.not_false, reduceIte, List.getElem?_toArray, List.getElem?_cons_zero, List.getElem?_cons_succ, Option.isSome_none, List.length_map]
  refine Do_ok (hR.ext u1) hS (.inl ⟨rfl, rfl⟩) fun h2 hR2 u2 => ?_
  have hlt := rGet_lt (e, s) 1
  have e1 : IntKind.i64.wrap ((rGet (e, s) 1).1 : Int) = ((rGet (e, s) 1).1 : Int) := by rw [i64_wrap (by omega) (by omega)]
  simp only [conv_ui, e1, popO_some, bindH_eq, condV_bool, condV_true, condV_false, yV_bool, gopV_tt, gopV_ff, gopV_tf, gopV_ft, pickV_t, pickV_f, pickV_bool, nilS_ptr, add_eq, sub_eq, mul_eq, lss_eq, leq_eq, gtr_eq, geq_eq, not_eq, minI_eq, maxI_eq, extract_0, extract_1, extract_2, eqlI, neqI, makeFunc_eq, decide_true, decide_false, if_true, if_false, Bool.false_eq_true, Bool.not_true, Bool.not_false, reduceIte, List.getElem?_toArray, List.getElem?_cons_zero, List.getElem?_cons_succ, Option.isSome_none, List.length_map]
  exact hk _ hR2 (u1.upd.trans u2)
theorem number_ok {h : PH} {a : Nat} {S : List UInt8} {e : Int} {s : List UInt8} (hR : RfAt h a S e s) (hS : S.length ≤ 1000000000000) {k : Value → PH → Prop} (hk : ∀ h', RfAt h' a S (rGet (e, s) 8).2.1 (rGet (e, s) 8).2.2 → Upd [a] h h' → k (.int .u64 (rGet (e, s) 8).1) h') :
    CallsH PG id_carrackref23_reader_number #[rdV a] h k := by
  apply carrackref23_reader_number.call
  unfold carrackref23_reader_number
  intro r hr
  rw [bindH_eq]
  obtain ⟨u1, c0, -⟩ := box_rd (a := a) hr
  generalize h.set r (.cells (rdV a).cells T_carrackref23_reader) = h1 at *
  simp only [T_carrackref23_reader.f0, T_p_carrackref03_Reader.load, c0, call_build, popO_some, bindH_eq, condV_bool, condV_true, condV_false, yV_bool, gopV_tt, gopV_ff, gopV_tf, gopV_ft, pickV_t, pickV_f, pickV_bool, nilS_ptr, add_eq, sub_eq, mul_eq, lss_eq, leq_eq, gtr_eq, geq_eq, not_eq, minI_eq, maxI_eq, extract_0, extract_1, extract_2, eqlI, neqI, makeFunc_eq, decide_true, decide_false, if_true, if_false, Bool.false_eq_true, Bool.not_true, Bool.not_false, reduceIte, List.getElem?_toArray, List.getElem?_cons_zero, List.getElem?_cons_succ, Option.isSome_none, List.length_map]
  refine Do_ok (hR.ext u1) hS (.inr (.inl ⟨rfl, rfl⟩)) fun h2 hR2 u2 => ?_
  simp only [popO_some, bindH_eq, condV_bool, condV_true, condV_false, yV_bool, gopV_tt, gopV_ff, gopV_tf, gopV_ft, pickV_t, pickV_f, pickV_bool, nilS_ptr, add_eq, sub_eq, mul_eq, lss_eq, leq_eq, gtr_eq, geq_eq, not_eq, minI_eq, maxI_eq, extract_0, extract_1, extract_2, eqlI, neqI, makeFunc_eq, decide_true, decide_false, if_true, if_false, Bool.false_eq_true, Bool.not_true, Bool.not_false, reduceIte, List.getElem?_toArray, List.getElem?_cons_zero, List.getElem?_cons_succ, Option.isSome_none, List.length_map]
  exact hk _ hR2 (u1.upd.trans u2)
theorem text_ok {h : PH} {a : Nat} {S : List UInt8} {e : Int} {s : List UInt8} (hR : RfAt h a S e s) (hS : S.length ≤ 1000000000000) {k : Value → PH → Prop} (hk : ∀ h', RfAt h' a S (rText (e, s)).2.1 (rText (e, s)).2.2 → Upd [a] h h' → k (.string (tx (rText (e, s)).1)) h') :
    CallsH PG id_carrackref23_reader_text #[rdV a] h k := by
  apply carrackref23_reader_text.call
  unfold carrackref23_reader_text
  intro r hr
  rw [bindH_eq]
  obtain ⟨u1, c0, -⟩ := box_rd (a := a) hr
  generalize h.set r (.cells (rdV a).cells T_carrackref23_reader) = h1 at *
  simp only [T_carrackref23_reader.f0, T_p_carrackref03_Reader.load, c0, call_build, popO_some, bindH_eq, condV_bool, condV_true, condV_false, yV_bool, gopV_tt, gopV_ff, gopV_tf, gopV_ft, pickV_t, pickV_f, pickV_bool, nilS_ptr, add_eq, sub_eq, mul_eq, lss_eq, leq_eq, gtr_eq, geq_eq, not_eq, minI_eq, maxI_eq, extract_0, extract_1, extract_2, eqlI, neqI, makeFunc_eq, decide_true, decide_false, if_true, if_false, Bool.false_eq_true, Bool.not_true, Bool.not_false, reduceIte, List.getElem?_toArray, List.getElem?_cons_zero, List.getElem?_cons_succ, Option.isSome_none, List.length_map]
  refine Do_ok (hR.ext u1) hS (.inr (.inr ⟨rfl, rfl⟩)) fun h2 hR2 u2 => ?_
  simp only [popO_some, bindH_eq, condV_bool, condV_true, condV_false, yV_bool, gopV_tt, gopV_ff, gopV_tf, gopV_ft, pickV_t, pickV_f, pickV_bool, nilS_ptr, add_eq, sub_eq, mul_eq, lss_eq, leq_eq, gtr_eq, geq_eq, not_eq, minI_eq, maxI_eq, extract_0, extract_1, extract_2, eqlI, neqI, makeFunc_eq, decide_true, decide_false, if_true, if_false, Bool.false_eq_true, Bool.not_true, Bool.not_false, reduceIte, List.getElem?_toArray, List.getElem?_cons_zero, List.getElem?_cons_succ, Option.isSome_none, List.length_map]
  exact hk _ hR2 (u1.upd.trans u2)
/-- A number by two bytes. -/
def rTwo (st : Int × List UInt8) : Nat × (Int × List UInt8) := ((rGet st 1).1 * 256 + (rGet (rGet st 1).2 1).1, (rGet (rGet st 1).2 1).2)
theorem two_ok {h : PH} {a : Nat} {S : List UInt8} {e : Int} {s : List UInt8} (hR : RfAt h a S e s) (hS : S.length ≤ 1000000000000) {k : Value → PH → Prop} (hk : ∀ h', RfAt h' a S (rTwo (e, s)).2.1 (rTwo (e, s)).2.2 → Upd [a] h h' → k (.int .i64 (rTwo (e, s)).1) h') :
    CallsH PG id_carrackref23_reader_two #[rdV a] h k := by
  apply carrackref23_reader_two.call
  unfold carrackref23_reader_two
  intro r hr
  rw [bindH_eq]
  have hne : r ≠ a := fun e => by subst e; rw [hR.here] at hr; cases hr
  obtain ⟨u1, c0, l0⟩ := box_rd (a := a) hr
  have hb : (h.set r (.cells (rdV a).cells T_carrackref23_reader)) r = some (.cells #[.pointer (some ⟨a, 0, none⟩)] T_carrackref23_reader) := set_same
  generalize h.set r (.cells (rdV a).cells T_carrackref23_reader) = h1 at *
  simp only [l0, popO_some, bindH_eq, condV_bool, condV_true, condV_false, yV_bool, gopV_tt, gopV_ff, gopV_tf, gopV_ft, pickV_t, pickV_f, pickV_bool, nilS_ptr, add_eq, sub_eq, mul_eq, lss_eq, leq_eq, gtr_eq, geq_eq, not_eq, minI_eq, maxI_eq, extract_0, extract_1, extract_2, eqlI, neqI, makeFunc_eq, decide_true, decide_false, if_true, if_false, Bool.false_eq_true, Bool.not_true, Bool.not_false, reduceIte, List.getElem?_toArray, List.getElem?_cons_zero, List.getElem?_cons_succ, Option.isSome_none, List.length_map]
  refine one_ok (hR.ext u1) hS fun h2 hR2 u2 => ?_
  have hb2 := u2.get hb (by simpa using hne)
  have l2 : SemE PG h2 (Instr.loadAt T_carrackref23_reader (.pointer (some ⟨r, 0, none⟩))) = some (rdV a) := load_box T_carrackref23_reader.und rfl T_carrackref23_reader.info T_carrackref23_reader.size hb2 rfl
  have h1lt := rGet_lt (e, s) 1
  have e1 : IntKind.i64.wrap (((rGet (e, s) 1).1 : Int) * 256) = (((rGet (e, s) 1).1 * 256 : Nat) : Int) := by rw [i64_wrap (by omega) (by omega)]; omega
  simp only [e1, l2, popO_some, bindH_eq, condV_bool, condV_true, condV_false, yV_bool, gopV_tt, gopV_ff, gopV_tf, gopV_ft, pickV_t, pickV_f, pickV_bool, nilS_ptr, add_eq, sub_eq, mul_eq, lss_eq, leq_eq, gtr_eq, geq_eq, not_eq, minI_eq, maxI_eq, extract_0, extract_1, extract_2, eqlI, neqI, makeFunc_eq, decide_true, decide_false, if_true, if_false, Bool.false_eq_true, Bool.not_true, Bool.not_false, reduceIte, List.getElem?_toArray, List.getElem?_cons_zero, List.getElem?_cons_succ, Option.isSome_none, List.length_map]
  refine one_ok hR2 hS fun h3 hR3 u3 => ?_
  have h2lt := rGet_lt ((rGet (e, s) 1).2.1, (rGet (e, s) 1).2.2) 1
  have e2 : IntKind.i64.wrap ((((rGet (e, s) 1).1 * 256 : Nat) : Int) + ((rGet ((rGet (e, s) 1).2.1, (rGet (e, s) 1).2.2) 1).1 : Int)) = ((rTwo (e, s)).1 : Int) := by
    show _ = (((rGet (e, s) 1).1 * 256 + (rGet ((rGet (e, s) 1).2.1, (rGet (e, s) 1).2.2) 1).1 : Nat) : Int)
    rw [i64_wrap (by omega) (by omega)]; omega
  simp only [e2, popO_some, bindH_eq, condV_bool, condV_true, condV_false, yV_bool, gopV_tt, gopV_ff, gopV_tf, gopV_ft, pickV_t, pickV_f, pickV_bool, nilS_ptr, add_eq, sub_eq, mul_eq, lss_eq, leq_eq, gtr_eq, geq_eq, not_eq, minI_eq, maxI_eq, extract_0, extract_1, extract_2, eqlI, neqI, makeFunc_eq, decide_true, decide_false, if_true, if_false, Bool.false_eq_true, Bool.not_true, Bool.not_false, reduceIte, List.getElem?_toArray, List.getElem?_cons_zero, List.getElem?_cons_succ, Option.isSome_none, List.length_map]
  exact hk _ hR3 ((u1.upd.trans u2).trans u3)
theorem or_eqI {t : TypeId} {x b : Nat} (hx : x * 256 + 255 < 9223372036854775808) (hb : b < 256) : SemP PG (binOp .or t (.int .i64 ((x * 256 : Nat) : Int)) (.int .i64 (b : Int))) = some (.int .i64 ((x * 256 + b : Nat) : Int)) := by
  have e : SemP PG (binOp .or t (.int .i64 ((x * 256 : Nat) : Int)) (.int .i64 (b : Int))) = some (.int .i64 (IntKind.i64.wrap ((BitVec.ofInt IntKind.i64.bits ((x * 256 : Nat) : Int) ||| BitVec.ofInt IntKind.i64.bits (b : Int)).toNat))) := rfl
  rw [e]
  congr 2
  have h64 : IntKind.i64.bits = 64 := rfl
  rw [h64, BitVec.toNat_or, BitVec.ofInt_natCast, BitVec.ofInt_natCast, BitVec.toNat_ofNat, BitVec.toNat_ofNat, Nat.mod_eq_of_lt (by omega), Nat.mod_eq_of_lt (by omega)]
  have := Nat.shiftLeft_add_eq_or_of_lt (i := 8) (b := b) (by omega) x
  rw [Nat.shiftLeft_eq] at this
  have e2 : (x * 256 ||| b) = x * 256 + b := this.symm
  rw [e2, i64_wrap (by omega) (by omega)]
theorem getTwo_ok {h : PH} {a : Nat} {e : Int} {s : List UInt8} (hR : RdAt h a e s) {k : Value → PH → Prop} (hk : ∀ h', RdAt h' a (rTwo (e, s)).2.1 (rTwo (e, s)).2.2 → Upd [a] h h' → k (.int .i64 (rTwo (e, s)).1) h') :
    CallsH PG id_script_getTwo #[.pointer (some ⟨a, 0, none⟩)] h k := by
  apply script_getTwo.call
  unfold script_getTwo
  refine RByte_ok hR fun h1 hR1 u1 => ?_
  have h1lt := rGet_lt (e, s) 1
  have e0 : min (8 : Int).toNat IntKind.i64.bits = 8 := by decide
  have e1 : IntKind.i64.wrap (((rGet (e, s) 1).1 : Int) * 2 ^ 8) = (((rGet (e, s) 1).1 * 256 : Nat) : Int) := by rw [i64_wrap (by omega) (by omega)]; omega
  simp only [shl_eq (show (0 : Int) ≤ 8 by decide), e0, e1, popO_some, bindH_eq, condV_bool, condV_true, condV_false, yV_bool, gopV_tt, gopV_ff, gopV_tf, gopV_ft, pickV_t, pickV_f, pickV_bool, nilS_ptr, add_eq, sub_eq, mul_eq, lss_eq, leq_eq, gtr_eq, geq_eq, not_eq, minI_eq, maxI_eq, extract_0, extract_1, extract_2, eqlI, neqI, makeFunc_eq, decide_true, decide_false, if_true, if_false, Bool.false_eq_true, Bool.not_true, Bool.not_false, reduceIte, List.getElem?_toArray, List.getElem?_cons_zero, List.getElem?_cons_succ, Option.isSome_none, List.length_map]
  refine RByte_ok hR1 fun h2 hR2 u2 => ?_
  have h2lt := rGet_lt ((rGet (e, s) 1).2.1, (rGet (e, s) 1).2.2) 1
  simp only [or_eqI (t := T_int) (show (rGet (e, s) 1).1 * 256 + 255 < 9223372036854775808 by omega) h2lt, popO_some, bindH_eq, condV_bool, condV_true, condV_false, yV_bool, gopV_tt, gopV_ff, gopV_tf, gopV_ft, pickV_t, pickV_f, pickV_bool, nilS_ptr, add_eq, sub_eq, mul_eq, lss_eq, leq_eq, gtr_eq, geq_eq, not_eq, minI_eq, maxI_eq, extract_0, extract_1, extract_2, eqlI, neqI, makeFunc_eq, decide_true, decide_false, if_true, if_false, Bool.false_eq_true, Bool.not_true, Bool.not_false, reduceIte, List.getElem?_toArray, List.getElem?_cons_zero, List.getElem?_cons_succ, Option.isSome_none, List.length_map]
  exact hk _ hR2 (u1.trans u2)
theorem and_mask (t : TypeId) (x : Int) (j : Nat) (hj : j ≤ 62) : SemP PG (binOp .and t (.int .i64 x) (.int .i64 ((2 ^ j - 1 : Nat) : Int))) = some (.int .i64 (x % ((2 ^ j : Nat) : Int))) := by
  have e : SemP PG (binOp .and t (.int .i64 x) (.int .i64 ((2 ^ j - 1 : Nat) : Int))) = some (.int .i64 (IntKind.i64.wrap ((BitVec.ofInt IntKind.i64.bits x &&& BitVec.ofInt IntKind.i64.bits ((2 ^ j - 1 : Nat) : Int)).toNat))) := rfl
  rw [e]
  congr 2
  have h64 : IntKind.i64.bits = 64 := rfl
  have hp : 2 ^ j ≤ 2 ^ 62 := Nat.pow_le_pow_right (by decide) hj
  have hp1 : 0 < 2 ^ j := Nat.pos_of_ne_zero (by simp)
  rw [h64, BitVec.toNat_and, BitVec.ofInt_natCast, BitVec.toNat_ofNat, Nat.mod_eq_of_lt (a := 2 ^ j - 1) (by omega), Nat.and_two_pow_sub_one_eq_mod, BitVec.toNat_ofInt]
  have hd : (2 ^ j : Nat) ∣ 2 ^ 64 := Nat.pow_dvd_pow 2 (by omega)
  have h1 : (((x % ((2 ^ 64 : Nat) : Int)).toNat % 2 ^ j : Nat) : Int) = x % ((2 ^ j : Nat) : Int) := by
    rw [Int.natCast_emod, Int.toNat_of_nonneg (Int.emod_nonneg _ (by decide))]
    exact Int.emod_emod_of_dvd x (Int.natCast_dvd_natCast.2 hd)
  rw [h1]
  have h2 := Int.emod_nonneg x (show ((2 ^ j : Nat) : Int) ≠ 0 by omega)
  have h3 := Int.emod_lt_of_pos x (show (0 : Int) < ((2 ^ j : Nat) : Int) by omega)
  exact i64_wrap (by omega) (by omega)
def wTwo (st : Int × List UInt8) (n : Int) : Int × List UInt8 := if 0 ≤ n ∧ n ≤ 65535 then wByte (wByte st (n / 256)) (n % 256) else wByte (wByte st (-1)) 0
theorem wtwo_ok {h : PH} {a : Nat} {e : Int} {bs : List UInt8} {F : List Nat} (hW : WAt h a e bs F) (hl : bs.length ≤ 140737488354000) (n : Int) {k : Value → PH → Prop} (hk : WNext h a F (wTwo (e, bs) n).1 (wTwo (e, bs) n).2 (k (.tuple #[]))) :
    CallsH PG id_script_two #[.pointer (some ⟨a, 0, none⟩), .int .i64 n] h k := by
  apply script_two.call
  unfold script_two
  have e0 : min (8 : Int).toNat IntKind.i64.bits = 8 := by decide
  have blen : ∀ (st : Int × List UInt8) (m : Int), (wByte st m).2.length ≤ st.2.length + 1 := fun st m => by
    unfold wByte
    split
    · simp [be_len]
    · simp
  have go : ∀ m : Int, WNext h a F (wByte (wByte (e, bs) (m / 256)) (m % 256)).1 (wByte (wByte (e, bs) (m / 256)) (m % 256)).2 (k (.tuple #[])) → script_two_k10 k (.pointer (some ⟨a, 0, none⟩)) (.int .i64 m) h := by
    intro m hm
    unfold script_two_k10
    have ef : m.fdiv (2 ^ 8) = m / 256 := Int.fdiv_eq_ediv_of_nonneg _ (by decide)
    have ea := and_mask T_int m 8 (by decide)
    have ea' : SemP PG (binOp .and T_int (.int .i64 m) (.int .i64 255)) = some (.int .i64 (m % 256)) := ea
    simp only [shr_eq (show (0 : Int) ≤ 8 by decide), e0, ef, ea', popO_some, bindH_eq, condV_bool, condV_true, condV_false, yV_bool, gopV_tt, gopV_ff, gopV_tf, gopV_ft, pickV_t, pickV_f, pickV_bool, nilS_ptr, add_eq, sub_eq, mul_eq, lss_eq, leq_eq, gtr_eq, geq_eq, not_eq, minI_eq, maxI_eq, extract_0, extract_1, extract_2, eqlI, neqI, makeFunc_eq, decide_true, decide_false, if_true, if_false, Bool.false_eq_true, Bool.not_true, Bool.not_false, reduceIte, List.getElem?_toArray, List.getElem?_cons_zero, List.getElem?_cons_succ, Option.isSome_none, List.length_map]
    refine Byte_ok hW (by omega) _ fun h2 F2 hW2 u2 k2 => ?_
    have hb := blen (e, bs) (m / 256)
    refine Byte_ok hW2 (by simp only at hb; omega) _ fun h3 F3 hW3 u3 k3 => ?_
    exact WS.next hm (((WS.refl hW).step hW2 u2 k2).step hW3 u3 k3)
  unfold wTwo at hk
  by_cases h1 : n < 0
  · rw [if_neg (by omega)] at hk
    simp only [h1, popO_some, bindH_eq, condV_bool, condV_true, condV_false, yV_bool, gopV_tt, gopV_ff, gopV_tf, gopV_ft, pickV_t, pickV_f, pickV_bool, nilS_ptr, add_eq, sub_eq, mul_eq, lss_eq, leq_eq, gtr_eq, geq_eq, not_eq, minI_eq, maxI_eq, extract_0, extract_1, extract_2, eqlI, neqI, makeFunc_eq, decide_true, decide_false, if_true, if_false, Bool.false_eq_true, Bool.not_true, Bool.not_false, reduceIte, List.getElem?_toArray, List.getElem?_cons_zero, List.getElem?_cons_succ, Option.isSome_none, List.length_map]
    exact go (-256) hk
  · by_cases h2 : 65535 < n
    · rw [if_neg (by omega)] at hk
      simp only [h1, h2, popO_some, bindH_eq, condV_bool, condV_true, condV_false, yV_bool, gopV_tt, gopV_ff, gopV_tf, gopV_ft, pickV_t, pickV_f, pickV_bool, nilS_ptr, add_eq, sub_eq, mul_eq, lss_eq, leq_eq, gtr_eq, geq_eq, not_eq, minI_eq, maxI_eq, extract_0, extract_1, extract_2, eqlI, neqI, makeFunc_eq, decide_true, decide_false, if_true, if_false, Bool.false_eq_true, Bool.not_true, Bool.not_false, reduceIte, List.getElem?_toArray, List.getElem?_cons_zero, List.getElem?_cons_succ, Option.isSome_none, List.length_map]
      exact go (-256) hk
    · rw [if_pos (by omega)] at hk
      simp only [h1, h2, popO_some, bindH_eq, condV_bool, condV_true, condV_false, yV_bool, gopV_tt, gopV_ff, gopV_tf, gopV_ft, pickV_t, pickV_f, pickV_bool, nilS_ptr, add_eq, sub_eq, mul_eq, lss_eq, leq_eq, gtr_eq, geq_eq, not_eq, minI_eq, maxI_eq, extract_0, extract_1, extract_2, eqlI, neqI, makeFunc_eq, decide_true, decide_false, if_true, if_false, Bool.false_eq_true, Bool.not_true, Bool.not_false, reduceIte, List.getElem?_toArray, List.getElem?_cons_zero, List.getElem?_cons_succ, Option.isSome_none, List.length_map]
      exact go n hk
end Go.Proofs.Ytflgnfiebgcegaa
