/- The texts of this claim, put together. -/
import Derived.Test.YtlkjippiaghbmaaGreatR19RC3
import Derived.Shelf.SlSortCmp.NoneTotal
/- packets, lists and places: how they are read. -/
set_option linter.unusedSimpArgs false
set_option linter.unusedVariables false
namespace Go.Proofs.YtlkjippiaghbmaaGreat
open Go
set_option maxRecDepth 20000
def slotN (i : Nat) : List Value → PH → Nat := fun vs _ => match vs[i]? with
  | some (Value.int _ j) => j.toNat
  | _ => 0
theorem RErr_ok {h : PH} {a : Nat} {st : Stt} (R : RdAt h a st.1 st.2) {k : Value → PH → Prop} (hk : k (.int .i64 st.1) h) : CallsH PG id_wire_memory_Err #[.pointer (some ⟨a, 0, none⟩)] h k :=
  WErr_ok R.here rfl hk
theorem RFail_ok {h : PH} {a : Nat} {st : Stt} (R : RdAt h a st.1 st.2) (x : Int) {k : Value → PH → Prop} (hk : ∀ h', RdAt h' a (rFail st x).1 (rFail st x).2 → Upd [a] h h' → k (.tuple #[]) h') : CallsH PG id_wire_memory_Fail #[.pointer (some ⟨a, 0, none⟩), .int .i64 x] h k := by
  apply wire_memory_Fail.call
  unfold wire_memory_Fail
  have ha := R.here
  have c0 : cellH h ⟨a, 0, none⟩ = some (.int .i64 st.1) := by simp [cellH, ha]
  unfold rFail at hk
  by_cases h0 : st.1 = 0
  · have q : (st.1 == 0) = true := by simp [h0]
    rw [if_pos h0] at hk
    simp only [T_wire_memory.f0, T_api_Errno.load, c0, eqlI, q, popO_some, bindH_eq, condV_bool, condV_true, condV_false, yV_bool, gopV_tt, gopV_ff, gopV_tf, gopV_ft, pickV_t, pickV_f, pickV_bool, nilS_ptr, add_eq, sub_eq, mul_eq, lss_eq, leq_eq, gtr_eq, geq_eq, not_eq, minI_eq, maxI_eq, extract_0, extract_1, extract_2, eqlI, neqI, makeFunc_eq, decide_true, decide_false, if_true, if_false, Bool.false_eq_true, Bool.not_true, Bool.not_false, reduceIte, List.getElem?_toArray, List.getElem?_cons_zero, List.getElem?_cons_succ, Option.isSome_none, List.length_map]
    refine store_cell T_api_Errno.und rfl ha (by simp) rfl T_api_Errno.info T_api_Errno.size ?_
    exact hk _ ⟨set_same⟩ (Upd.set (by simp))
  · have q : (st.1 == 0) = false := by simp [h0]
    rw [if_neg h0] at hk
    simp only [T_wire_memory.f0, T_api_Errno.load, c0, eqlI, q, popO_some, bindH_eq, condV_bool, condV_true, condV_false, yV_bool, gopV_tt, gopV_ff, gopV_tf, gopV_ft, pickV_t, pickV_f, pickV_bool, nilS_ptr, add_eq, sub_eq, mul_eq, lss_eq, leq_eq, gtr_eq, geq_eq, not_eq, minI_eq, maxI_eq, extract_0, extract_1, extract_2, eqlI, neqI, makeFunc_eq, decide_true, decide_false, if_true, if_false, Bool.false_eq_true, Bool.not_true, Bool.not_false, reduceIte, List.getElem?_toArray, List.getElem?_cons_zero, List.getElem?_cons_succ, Option.isSome_none, List.length_map]
    exact hk h ⟨ha⟩ Upd.refl
def rEnd (st : Stt) : Int := if st.1 = 0 ∧ st.2 ≠ [] then 7 else st.1
theorem REnd_ok {h : PH} {a : Nat} {st : Stt} (R : RdAt h a st.1 st.2) {k : Value → PH → Prop} (hk : k (.int .i64 (rEnd st)) h) : CallsH PG id_wire_Reader_End #[.pointer (some ⟨a, 0, none⟩)] h k := by
  apply wire_Reader_End.call
  unfold wire_Reader_End
  refine RLeft_ok R ?_
  unfold rEnd at hk
  by_cases h0 : st.1 = 0 ∧ st.2 ≠ []
  · rw [if_pos h0] at hk
    have hp := List.length_pos_iff.2 h0.2
    have g : ((0 : Int) < (st.2.length : Int)) = True := eq_true (by omega)
    simp only [h0.1, if_true, g, popO_some, bindH_eq, condV_bool, condV_true, condV_false, yV_bool, gopV_tt, gopV_ff, gopV_tf, gopV_ft, pickV_t, pickV_f, pickV_bool, nilS_ptr, add_eq, sub_eq, mul_eq, lss_eq, leq_eq, gtr_eq, geq_eq, not_eq, minI_eq, maxI_eq, extract_0, extract_1, extract_2, eqlI, neqI, makeFunc_eq, decide_true, decide_false, if_true, if_false, Bool.false_eq_true, Bool.not_true, Bool.not_false, reduceIte, List.getElem?_toArray, List.getElem?_cons_zero, List.getElem?_cons_succ, Option.isSome_none, List.length_map]
    exact hk
  · rw [if_neg h0] at hk
    have g : ((0 : Int) < (if st.1 = 0 then (st.2.length : Int) else 0)) = False := by
      apply eq_false
      split
      · rename_i h1
        have : st.2 = [] := Classical.byContradiction fun h2 => h0 ⟨h1, h2⟩
        rw [this]; simp
      · decide
    simp only [g, T_wire_Reader.f0, popO_some, bindH_eq, condV_bool, condV_true, condV_false, yV_bool, gopV_tt, gopV_ff, gopV_tf, gopV_ft, pickV_t, pickV_f, pickV_bool, nilS_ptr, add_eq, sub_eq, mul_eq, lss_eq, leq_eq, gtr_eq, geq_eq, not_eq, minI_eq, maxI_eq, extract_0, extract_1, extract_2, eqlI, neqI, makeFunc_eq, decide_true, decide_false, if_true, if_false, Bool.false_eq_true, Bool.not_true, Bool.not_false, reduceIte, List.getElem?_toArray, List.getElem?_cons_zero, List.getElem?_cons_succ, Option.isSome_none, List.length_map]
    exact RErr_ok R hk
theorem pk_build (f : Nat) (s t : Nat) (d : ByteArray) : SemP PG (Instr.build T_api_Packet #[(0, .int .i64 (f : Int)), (1, .int .u64 (s : Int)), (2, .int .u64 (t : Int)), (3, .string d)]) = some (.agg (Pk.cells ⟨f, s, t, d⟩).toArray) := by kernel_rfl
theorem pk_zero : SemP PG (Instr.build T_api_Packet #[]) = some (.agg (Pk.cells default).toArray) := by kernel_rfl
theorem Upd.ext {F : List Nat} {h h1 h2 : PH} (a : Upd F h h1) (u : Ext h1 h2) : Upd F h h2 := a.trans u.upd
theorem Get_r {h : PH} {a : Nat} {st : Stt} (R : RdAt h a st.1 st.2) {k : Value → PH → Prop} (hk : ∀ h', RdAt h' a (rPk st).2.1 (rPk st).2.2 → Upd [a] h h' → k (.agg (rPk st).1.cells.toArray) h') : CallsH PG id_packet_Get #[.pointer (some ⟨a, 0, none⟩)] h k := by
  apply packet_Get.call
  unfold packet_Get
  intro r hr
  try rw [bindH_eq]
  have u1 : Ext h (h.set r (.cells (zcells PG T_api_Packet) T_api_Packet)) := Upd.new hr
  have Z := T_api_Packet.zbox (h := h) (r := r)
  generalize h.set r (.cells (zcells PG T_api_Packet) T_api_Packet) = h1 at *
  have hra : r ≠ a := fun e => by have := R.here; rw [← e, hr] at this; cases this
  have na : r ∉ [a] := by simpa using hra
  refine RByte_ok (R.ext u1) fun h2 R2 u2 => ?_
  refine RNumber_ok R2 fun h3 R3 u3 => ?_
  refine RNumber_ok R3 fun h4 R4 u4 => ?_
  refine RText_ok R4 fun h5 R5 u5 => ?_
  have Z5 := (((Z.upd u2 na).upd u3 na).upd u4 na).upd u5 na
  have v5 := ((u2.trans u3).trans u4).trans u5
  have hc : rC st = (⟨((rGet st 1).1 : Int), ((rGet (rGet st 1).2 8).1 : Int), ((rGet (rGet (rGet st 1).2 8).2 8).1 : Int), tx (rText (rGet (rGet (rGet st 1).2 8).2 8).2).1⟩, (rText (rGet (rGet (rGet st 1).2 8).2 8).2).2) := rfl
  simp only [Prod.eta] at R2 R3 R4 R5
  simp only [Prod.eta, pk_build, popO_some, bindH_eq, condV_bool, condV_true, condV_false, yV_bool, gopV_tt, gopV_ff, gopV_tf, gopV_ft, pickV_t, pickV_f, pickV_bool, nilS_ptr, add_eq, sub_eq, mul_eq, lss_eq, leq_eq, gtr_eq, geq_eq, not_eq, minI_eq, maxI_eq, extract_0, extract_1, extract_2, eqlI, neqI, makeFunc_eq, decide_true, decide_false, if_true, if_false, Bool.false_eq_true, Bool.not_true, Bool.not_false, reduceIte, List.getElem?_toArray, List.getElem?_cons_zero, List.getElem?_cons_succ, Option.isSome_none, List.length_map]
  unfold rPk at hk
  rw [hc] at hk
  simp only at hk
  generalize (⟨((rGet st 1).1 : Int), ((rGet (rGet st 1).2 8).1 : Int), ((rGet (rGet (rGet st 1).2 8).2 8).1 : Int), tx (rText (rGet (rGet (rGet st 1).2 8).2 8).2).1⟩ : Pk) = p at *
  generalize (rText (rGet (rGet (rGet st 1).2 8).2 8).2).2 = st5 at *
  intro r6 hr6
  try rw [bindH_eq]
  refine T_api_Packet.fill hr6 rfl (by simp [Pk.cells, isCell]) fun h6 B6 u6 => ?_
  have l6 : SemE PG h6 (Instr.loadAt T_api_Packet (.pointer (some ⟨r6, 0, none⟩))) = some (.agg p.cells.toArray) := T_api_Packet.agg B6 (by show 0 + 4 ≤ 4; decide)
  simp only [l6, popO_some, bindH_eq, condV_bool, condV_true, condV_false, yV_bool, gopV_tt, gopV_ff, gopV_tf, gopV_ft, pickV_t, pickV_f, pickV_bool, nilS_ptr, add_eq, sub_eq, mul_eq, lss_eq, leq_eq, gtr_eq, geq_eq, not_eq, minI_eq, maxI_eq, extract_0, extract_1, extract_2, eqlI, neqI, makeFunc_eq, decide_true, decide_false, if_true, if_false, Bool.false_eq_true, Bool.not_true, Bool.not_false, reduceIte, List.getElem?_toArray, List.getElem?_cons_zero, List.getElem?_cons_succ, Option.isSome_none, List.length_map]
  refine Check_ok p fun h7 u7 => ?_
  have R7 := (R5.ext u6).ext u7
  have Z7 := (Z5.ext u6).ext u7
  have B7 := B6.ext u7
  have n6 : r6 ≠ a := fun e => by have := R5.here; rw [← e, hr6] at this; cases this
  have n6r : r6 ≠ r := fun e => by subst e; exact Z5.known hr6
  have ra5 : Upd [a] h h7 := ((Ext.upd u1).trans v5).trans ((u6.trans u7).upd)
  have hr6' : h r6 = none := by
    cases e : h r6 with
    | none => rfl
    | some o =>
      have := (u1.upd.trans v5).get e (by simpa using n6)
      rw [hr6] at this; cases this
  have fin : ∀ {h8 : PH} {st8 : Stt}, RdAt h8 a st8.1 st8.2 → Upd [a] h7 h8 → Bx h8 r [.int .i64 0, .int .u64 0, .int .u64 0, .string ⟨#[]⟩] → Bx h8 r6 p.cells → (∀ h', RdAt h' a st8.1 st8.2 → Upd [a] h h' → k (.agg ((if st8.1 = 0 then p else default) : Pk).cells.toArray) h') → packet_Get_k24 k (.pointer (some ⟨a, 0, none⟩)) (.pointer (some ⟨r, 0, none⟩)) (.pointer (some ⟨r6, 0, none⟩)) h8 := by
    intro h8 st8 R8 u8 Z8 B8 hk8
    unfold packet_Get_k24
    simp only [T_wire_Reader.f0, popO_some, bindH_eq, condV_bool, condV_true, condV_false, yV_bool, gopV_tt, gopV_ff, gopV_tf, gopV_ft, pickV_t, pickV_f, pickV_bool, nilS_ptr, add_eq, sub_eq, mul_eq, lss_eq, leq_eq, gtr_eq, geq_eq, not_eq, minI_eq, maxI_eq, extract_0, extract_1, extract_2, eqlI, neqI, makeFunc_eq, decide_true, decide_false, if_true, if_false, Bool.false_eq_true, Bool.not_true, Bool.not_false, reduceIte, List.getElem?_toArray, List.getElem?_cons_zero, List.getElem?_cons_succ, Option.isSome_none, List.length_map]
    refine RErr_ok R8 ?_
    have ra8 : Upd [a] h h8 := ra5.trans u8
    have last : ∀ (q : Pk) (h9 : PH), Bx h9 r q.cells → Upd [r] h8 h9 → RdAt h9 a st8.1 st8.2 → (∀ h', RdAt h' a st8.1 st8.2 → Upd [a] h h' → k (.agg q.cells.toArray) h') → popO (SemE PG h9 (Instr.loadAt T_api_Packet (.pointer (some ⟨r, 0, none⟩)))) fun v => k v h9 := by
      intro q h9 B9 u9 R9 hkq
      have l9 : SemE PG h9 (Instr.loadAt T_api_Packet (.pointer (some ⟨r, 0, none⟩))) = some (.agg q.cells.toArray) := T_api_Packet.agg B9 (by show 0 + 4 ≤ 4; decide)
      simp only [l9, popO_some, bindH_eq, condV_bool, condV_true, condV_false, yV_bool, gopV_tt, gopV_ff, gopV_tf, gopV_ft, pickV_t, pickV_f, pickV_bool, nilS_ptr, add_eq, sub_eq, mul_eq, lss_eq, leq_eq, gtr_eq, geq_eq, not_eq, minI_eq, maxI_eq, extract_0, extract_1, extract_2, eqlI, neqI, makeFunc_eq, decide_true, decide_false, if_true, if_false, Bool.false_eq_true, Bool.not_true, Bool.not_false, reduceIte, List.getElem?_toArray, List.getElem?_cons_zero, List.getElem?_cons_succ, Option.isSome_none, List.length_map]
      exact hkq h9 R9 (ra8.then u9 fun b hb => .inr (by simp only [List.mem_singleton] at hb; subst hb; exact hr))
    have nra : a ∉ [r] := by simpa using fun e => hra e.symm
    by_cases h0 : st8.1 = 0
    · rw [if_pos h0] at hk8
      have l8 : SemE PG h8 (Instr.loadAt T_api_Packet (.pointer (some ⟨r6, 0, none⟩))) = some (.agg p.cells.toArray) := T_api_Packet.agg B8 (by show 0 + 4 ≤ 4; decide)
      have q : (st8.1 != 0) = false := by simp [h0]
      simp only [neqI, q, l8, popO_some, bindH_eq, condV_bool, condV_true, condV_false, yV_bool, gopV_tt, gopV_ff, gopV_tf, gopV_ft, pickV_t, pickV_f, pickV_bool, nilS_ptr, add_eq, sub_eq, mul_eq, lss_eq, leq_eq, gtr_eq, geq_eq, not_eq, minI_eq, maxI_eq, extract_0, extract_1, extract_2, eqlI, neqI, makeFunc_eq, decide_true, decide_false, if_true, if_false, Bool.false_eq_true, Bool.not_true, Bool.not_false, reduceIte, List.getElem?_toArray, List.getElem?_cons_zero, List.getElem?_cons_succ, Option.isSome_none, List.length_map]
      refine T_api_Packet.put Z8 rfl (by show 0 + 4 ≤ 4; decide) (by simp [Pk.cells, isCell]) fun h9 B9 u9 => ?_
      exact last p h9 B9 u9 (R8.upd u9 nra) hk8
    · rw [if_neg h0] at hk8
      have q : (st8.1 != 0) = true := by simp [h0]
      simp only [neqI, q, pk_zero, popO_some, bindH_eq, condV_bool, condV_true, condV_false, yV_bool, gopV_tt, gopV_ff, gopV_tf, gopV_ft, pickV_t, pickV_f, pickV_bool, nilS_ptr, add_eq, sub_eq, mul_eq, lss_eq, leq_eq, gtr_eq, geq_eq, not_eq, minI_eq, maxI_eq, extract_0, extract_1, extract_2, eqlI, neqI, makeFunc_eq, decide_true, decide_false, if_true, if_false, Bool.false_eq_true, Bool.not_true, Bool.not_false, reduceIte, List.getElem?_toArray, List.getElem?_cons_zero, List.getElem?_cons_succ, Option.isSome_none, List.length_map]
      refine T_api_Packet.put Z8 rfl (by show 0 + 4 ≤ 4; decide) (by simp [Pk.cells, isCell]) fun h9 B9 u9 => ?_
      exact last default h9 B9 u9 (R8.upd u9 nra) hk8
  cases hp : p.right with
  | true =>
    rw [hp] at hk
    simp only [if_true, neqI, show ((0 : Int) != 0) = false from rfl, popO_some, bindH_eq, condV_bool, condV_true, condV_false, yV_bool, gopV_tt, gopV_ff, gopV_tf, gopV_ft, pickV_t, pickV_f, pickV_bool, nilS_ptr, add_eq, sub_eq, mul_eq, lss_eq, leq_eq, gtr_eq, geq_eq, not_eq, minI_eq, maxI_eq, extract_0, extract_1, extract_2, eqlI, neqI, makeFunc_eq, decide_true, decide_false, if_true, if_false, Bool.false_eq_true, Bool.not_true, Bool.not_false, reduceIte, List.getElem?_toArray, List.getElem?_cons_zero, List.getElem?_cons_succ, Option.isSome_none, List.length_map] at hk ⊢
    exact fin R7 Upd.refl Z7 B7 hk
  | false =>
    rw [hp] at hk
    simp only [Bool.false_eq_true, if_false, neqI, show ((1 : Int) != 0) = true from rfl, T_wire_Reader.f0, popO_some, bindH_eq, condV_bool, condV_true, condV_false, yV_bool, gopV_tt, gopV_ff, gopV_tf, gopV_ft, pickV_t, pickV_f, pickV_bool, nilS_ptr, add_eq, sub_eq, mul_eq, lss_eq, leq_eq, gtr_eq, geq_eq, not_eq, minI_eq, maxI_eq, extract_0, extract_1, extract_2, eqlI, neqI, makeFunc_eq, decide_true, decide_false, if_true, if_false, Bool.false_eq_true, Bool.not_true, Bool.not_false, reduceIte, List.getElem?_toArray, List.getElem?_cons_zero, List.getElem?_cons_succ, Option.isSome_none, List.length_map] at hk ⊢
    refine RFail_ok R7 5 fun h8 R8 u8 => ?_
    exact fin R8 u8 (Z7.upd u8 na) (B7.upd u8 (by simpa using n6)) hk
theorem pl_build (x y : Nat) : SemP PG (Instr.build T_api_Place #[(0, .int .u64 (x : Int)), (1, .int .i64 (y : Int))]) = some (.agg (Pl.cells ⟨x, y⟩).toArray) := by kernel_rfl
theorem pl_zero : SemP PG (Instr.build T_api_Place #[]) = some (.agg Pl.zero.cells.toArray) := by kernel_rfl
theorem Place_r {h : PH} {a : Nat} {st : Stt} (R : RdAt h a st.1 st.2) {k : Value → PH → Prop} (hk : ∀ h', RdAt h' a (rPl st).2.1 (rPl st).2.2 → Upd [a] h h' → k (.agg (rPl st).1.cells.toArray) h') : CallsH PG id_note_Place #[.pointer (some ⟨a, 0, none⟩)] h k := by
  apply note_Place.call
  unfold note_Place
  intro r hr
  try rw [bindH_eq]
  have u1 : Ext h (h.set r (.cells (zcells PG T_api_Place) T_api_Place)) := Upd.new hr
  have Z := T_api_Place.zbox (h := h) (r := r)
  generalize h.set r (.cells (zcells PG T_api_Place) T_api_Place) = h1 at *
  have hra : r ≠ a := fun e => by have := R.here; rw [← e, hr] at this; cases this
  have na : r ∉ [a] := by simpa using hra
  have nra : a ∉ [r] := by simpa using fun e => hra e.symm
  refine RNumber_ok (R.ext u1) fun h2 R2 u2 => ?_
  refine RNumber_ok R2 fun h3 R3 u3 => ?_
  have Z3 := (Z.upd u2 na).upd u3 na
  have ra3 : Upd [a] h h3 := (u1.upd.trans u2).trans u3
  simp only [Prod.eta] at R2 R3
  unfold rPl at hk
  simp only at hk
  have hlt := rGet_lt (rGet st 8).2 8
  generalize (rGet st 8).1 = x at *
  generalize (rGet (rGet st 8).2 8).1 = y at *
  generalize (rGet (rGet st 8).2 8).2 = st3 at *
  have fin : ∀ {h8 : PH} {st8 : Stt}, (st8.1 = 0 → y ≤ 65535) → RdAt h8 a st8.1 st8.2 → Upd [a] h3 h8 → Bx h8 r [.int .u64 0, .int .i64 0] → (∀ h', RdAt h' a st8.1 st8.2 → Upd [a] h h' → k (.agg ((if st8.1 = 0 then ⟨x, y⟩ else Pl.zero) : Pl).cells.toArray) h') → note_Place_k12 k (.pointer (some ⟨a, 0, none⟩)) (.pointer (some ⟨r, 0, none⟩)) (.int .u64 (x : Int)) (.int .u64 (y : Int)) h8 := by
    intro h8 st8 hy R8 u8 Z8 hk8
    unfold note_Place_k12
    simp only [T_wire_Reader.f0, popO_some, bindH_eq, condV_bool, condV_true, condV_false, yV_bool, gopV_tt, gopV_ff, gopV_tf, gopV_ft, pickV_t, pickV_f, pickV_bool, nilS_ptr, add_eq, sub_eq, mul_eq, lss_eq, leq_eq, gtr_eq, geq_eq, not_eq, minI_eq, maxI_eq, extract_0, extract_1, extract_2, eqlI, neqI, makeFunc_eq, decide_true, decide_false, if_true, if_false, Bool.false_eq_true, Bool.not_true, Bool.not_false, reduceIte, List.getElem?_toArray, List.getElem?_cons_zero, List.getElem?_cons_succ, Option.isSome_none, List.length_map]
    refine RErr_ok R8 ?_
    have ra8 : Upd [a] h h8 := ra3.trans u8
    have last : ∀ (q : Pl) (h9 : PH), Bx h9 r q.cells → Upd [r] h8 h9 → RdAt h9 a st8.1 st8.2 → (∀ h', RdAt h' a st8.1 st8.2 → Upd [a] h h' → k (.agg q.cells.toArray) h') → popO (SemE PG h9 (Instr.loadAt T_api_Place (.pointer (some ⟨r, 0, none⟩)))) fun v => k v h9 := by
      intro q h9 B9 u9 R9 hkq
      have l9 : SemE PG h9 (Instr.loadAt T_api_Place (.pointer (some ⟨r, 0, none⟩))) = some (.agg q.cells.toArray) := T_api_Place.agg B9 (by show 0 + 2 ≤ 2; decide)
      simp only [l9, popO_some, bindH_eq, condV_bool, condV_true, condV_false, yV_bool, gopV_tt, gopV_ff, gopV_tf, gopV_ft, pickV_t, pickV_f, pickV_bool, nilS_ptr, add_eq, sub_eq, mul_eq, lss_eq, leq_eq, gtr_eq, geq_eq, not_eq, minI_eq, maxI_eq, extract_0, extract_1, extract_2, eqlI, neqI, makeFunc_eq, decide_true, decide_false, if_true, if_false, Bool.false_eq_true, Bool.not_true, Bool.not_false, reduceIte, List.getElem?_toArray, List.getElem?_cons_zero, List.getElem?_cons_succ, Option.isSome_none, List.length_map]
      exact hkq h9 R9 (ra8.then u9 fun b hb => .inr (by simp only [List.mem_singleton] at hb; subst hb; exact hr))
    by_cases h0 : st8.1 = 0
    · rw [if_pos h0] at hk8
      have q : (st8.1 != 0) = false := by simp [h0]
      have hy' := hy h0
      have e1 : IntKind.i64.wrap (y : Int) = (y : Int) := i64_wrap (by omega) (by omega)
      simp only [neqI, q, conv_ui, e1, pl_build, popO_some, bindH_eq, condV_bool, condV_true, condV_false, yV_bool, gopV_tt, gopV_ff, gopV_tf, gopV_ft, pickV_t, pickV_f, pickV_bool, nilS_ptr, add_eq, sub_eq, mul_eq, lss_eq, leq_eq, gtr_eq, geq_eq, not_eq, minI_eq, maxI_eq, extract_0, extract_1, extract_2, eqlI, neqI, makeFunc_eq, decide_true, decide_false, if_true, if_false, Bool.false_eq_true, Bool.not_true, Bool.not_false, reduceIte, List.getElem?_toArray, List.getElem?_cons_zero, List.getElem?_cons_succ, Option.isSome_none, List.length_map]
      refine T_api_Place.put Z8 rfl (by show 0 + 2 ≤ 2; decide) (by simp [Pl.cells, isCell]) fun h9 B9 u9 => ?_
      exact last _ h9 B9 u9 (R8.upd u9 nra) hk8
    · rw [if_neg h0] at hk8
      have q : (st8.1 != 0) = true := by simp [h0]
      simp only [neqI, q, pl_zero, popO_some, bindH_eq, condV_bool, condV_true, condV_false, yV_bool, gopV_tt, gopV_ff, gopV_tf, gopV_ft, pickV_t, pickV_f, pickV_bool, nilS_ptr, add_eq, sub_eq, mul_eq, lss_eq, leq_eq, gtr_eq, geq_eq, not_eq, minI_eq, maxI_eq, extract_0, extract_1, extract_2, eqlI, neqI, makeFunc_eq, decide_true, decide_false, if_true, if_false, Bool.false_eq_true, Bool.not_true, Bool.not_false, reduceIte, List.getElem?_toArray, List.getElem?_cons_zero, List.getElem?_cons_succ, Option.isSome_none, List.length_map]
      refine T_api_Place.put Z8 rfl (by show 0 + 2 ≤ 2; decide) (by simp [Pl.cells, Pl.zero, isCell]) fun h9 B9 u9 => ?_
      exact last _ h9 B9 u9 (R8.upd u9 nra) hk8
  by_cases hy : 65535 < y
  · have g : ((65535 : Int) < (y : Int)) = True := eq_true (by omega)
    rw [if_pos hy] at hk
    simp only [g, T_wire_Reader.f0, popO_some, bindH_eq, condV_bool, condV_true, condV_false, yV_bool, gopV_tt, gopV_ff, gopV_tf, gopV_ft, pickV_t, pickV_f, pickV_bool, nilS_ptr, add_eq, sub_eq, mul_eq, lss_eq, leq_eq, gtr_eq, geq_eq, not_eq, minI_eq, maxI_eq, extract_0, extract_1, extract_2, eqlI, neqI, makeFunc_eq, decide_true, decide_false, if_true, if_false, Bool.false_eq_true, Bool.not_true, Bool.not_false, reduceIte, List.getElem?_toArray, List.getElem?_cons_zero, List.getElem?_cons_succ, Option.isSome_none, List.length_map]
    refine RFail_ok R3 5 fun h8 R8 u8 => ?_
    refine fin (fun h0 => ?_) R8 u8 (Z3.upd u8 na) hk
    unfold rFail at h0
    simp only at h0
    split at h0
    · cases h0
    · contradiction
  · have g : ((65535 : Int) < (y : Int)) = False := eq_false (by omega)
    rw [if_neg hy] at hk
    simp only [g, popO_some, bindH_eq, condV_bool, condV_true, condV_false, yV_bool, gopV_tt, gopV_ff, gopV_tf, gopV_ft, pickV_t, pickV_f, pickV_bool, nilS_ptr, add_eq, sub_eq, mul_eq, lss_eq, leq_eq, gtr_eq, geq_eq, not_eq, minI_eq, maxI_eq, extract_0, extract_1, extract_2, eqlI, neqI, makeFunc_eq, decide_true, decide_false, if_true, if_false, Bool.false_eq_true, Bool.not_true, Bool.not_false, reduceIte, List.getElem?_toArray, List.getElem?_cons_zero, List.getElem?_cons_succ, Option.isSome_none, List.length_map]
    exact fin (fun _ => by omega) R3 Upd.refl Z3 hk

def Nt.of (x : Int × Pk) : Nt := ⟨x.1, x.2⟩
theorem rnt_build (x : Int × Pk) : SemP PG (Instr.build T_api_Note #[(0, .int .i64 x.1), (1, .agg x.2.cells.toArray)]) = some (.agg (Nt.of x).cells.toArray) := by kernel_rfl
theorem Notes_1_ok {h : PH} (x : Int × Pk) {k : Value → PH → Prop} (hk : ∀ h', Ext h h' → k (.agg (Nt.of x).cells.toArray) h') : CallsH PG id_note_Notes_1 #[.int .i64 x.1, .agg x.2.cells.toArray] h k := by
  apply note_Notes_1.call
  unfold note_Notes_1
  intro r hr
  try rw [bindH_eq]
  have u1 : Ext h (h.set r (.cells (Value.cells (.agg x.2.cells.toArray)) T_api_Packet)) := Upd.new hr
  have B1 : Bx (h.set r (.cells (Value.cells (.agg x.2.cells.toArray)) T_api_Packet)) r x.2.cells := Bx.new
  generalize h.set r (.cells (Value.cells (.agg x.2.cells.toArray)) T_api_Packet) = h1 at *
  intro r2 hr2
  try rw [bindH_eq]
  have u2 : Ext h1 (h1.set r2 (.cells (zcells PG T_api_Note) T_api_Note)) := Upd.new hr2
  have Z := T_api_Note.zbox (h := h1) (r := r2)
  have B2 := B1.ext u2
  generalize h1.set r2 (.cells (zcells PG T_api_Note) T_api_Note) = h2 at *
  have l2 : SemE PG h2 (Instr.loadAt T_api_Packet (.pointer (some ⟨r, 0, none⟩))) = some (.agg x.2.cells.toArray) := T_api_Packet.agg B2 (by show 0 + 4 ≤ 4; decide)
  simp only [l2, rnt_build, popO_some, bindH_eq, condV_bool, condV_true, condV_false, yV_bool, gopV_tt, gopV_ff, gopV_tf, gopV_ft, pickV_t, pickV_f, pickV_bool, nilS_ptr, add_eq, sub_eq, mul_eq, lss_eq, leq_eq, gtr_eq, geq_eq, not_eq, minI_eq, maxI_eq, extract_0, extract_1, extract_2, eqlI, neqI, makeFunc_eq, decide_true, decide_false, if_true, if_false, Bool.false_eq_true, Bool.not_true, Bool.not_false, reduceIte, List.getElem?_toArray, List.getElem?_cons_zero, List.getElem?_cons_succ, Option.isSome_none, List.length_map]
  refine T_api_Note.put Z rfl (by show 0 + 5 ≤ 5; decide) (by simp [Nt.cells, isCell]) fun h3 B3 u3 => ?_
  have l3 : SemE PG h3 (Instr.loadAt T_api_Note (.pointer (some ⟨r2, 0, none⟩))) = some (.agg (Nt.of x).cells.toArray) := T_api_Note.agg B3 (by show 0 + 5 ≤ 5; decide)
  simp only [l3, popO_some, bindH_eq, condV_bool, condV_true, condV_false, yV_bool, gopV_tt, gopV_ff, gopV_tf, gopV_ft, pickV_t, pickV_f, pickV_bool, nilS_ptr, add_eq, sub_eq, mul_eq, lss_eq, leq_eq, gtr_eq, geq_eq, not_eq, minI_eq, maxI_eq, extract_0, extract_1, extract_2, eqlI, neqI, makeFunc_eq, decide_true, decide_false, if_true, if_false, Bool.false_eq_true, Bool.not_true, Bool.not_false, reduceIte, List.getElem?_toArray, List.getElem?_cons_zero, List.getElem?_cons_succ, Option.isSome_none, List.length_map]
  exact hk _ ((u1.trans u2).fresh u3 (Fresh.one (u1.none hr2)))
theorem rnt_lit1 (x : Nt) : SemA PG (Instr.buildSlice T_sl_api_Note 1 #[(0, .agg x.cells.toArray)]) = some (.cells x.cells.toArray T_api_Note (0, 0), fun r => pure (.slice (some ⟨r, 0, none⟩) 1 1)) := by kernel_rfl
theorem Nt.isC (l : List Nt) : ∀ r ∈ l.map Nt.cells, ∀ u ∈ r, isCell u = true := fun r hr u hu => by
  obtain ⟨m, _, rfl⟩ := List.mem_map.1 hr
  simp only [Nt.cells, List.mem_cons, List.not_mem_nil, or_false] at hu
  rcases hu with rfl | rfl | rfl | rfl | rfl <;> rfl
theorem Notes_r {h : PH} {a : Nat} {st : Stt} (R : RdAt h a st.1 st.2) {k : Value → PH → Prop}
    (hk : ∀ h' v F, RdAt h' a (rList 4 st).2.1 (rList 4 st).2.2 → OwnR h' T_api_Note 5 v (((rList 4 st).1.map Nt.of).map Nt.cells) F → Fresh h F → Upd [a] h h' → k v h') : CallsH PG id_note_Notes #[.pointer (some ⟨a, 0, none⟩)] h k := by
  apply note_Notes.call
  unfold note_Notes
  apply note_get_api_Note.call
  unfold note_get_api_Note
  refine RByte_ok R fun h1 R1 u1 => ?_
  simp only [Prod.eta] at R1
  have hb := rGet_lt st 1
  unfold rList at hk
  simp only [Prod.eta] at hk hb ⊢
  generalize (rGet st 1).1 = n at *
  generalize (rGet st 1).2 = st1 at *
  refine ⟨fun vs h' => ∃ (i : Nat) (st' : Stt) (l : List (Int × Pk)) (v : Value) (F : List Nat), i ≤ n ∧ l.length + i ≤ n ∧ vs = [.pointer (some ⟨a, 0, none⟩), .int .i64 4, .func (.func id_note_Notes_1) #[] #[], v, .int .i64 (i : Int)] ∧ RdAt h' a st'.1 st'.2 ∧ OwnR h' T_api_Note 5 v ((l.map Nt.of).map Nt.cells) F ∧ Fresh h F ∧ Upd [a] h h' ∧ a ∉ F ∧ rMany 4 i st' l = rMany 4 n st1 [], slotN 4, ⟨n, st1, [], _, [], by omega, by simp, rfl, R1, OwnR.nil, (fun b hb => by cases hb), u1, by simp, rfl⟩, ?_⟩
  rintro ρ h' ⟨i, st', l, v, F, hi, hln, hvs, R', O, fF, u, naF, hrm⟩
  simp only [List.map_cons, List.map_nil, List.cons.injEq, and_true] at hvs
  obtain ⟨v0, v1, v2, v7, v8⟩ := hvs
  simp only [v0, v1, v2, v7, v8, List.map_cons, List.map_nil]
  unfold note_get_api_Note_b4
  have fin : rMany 4 n st1 [] = (l, st') → CallsH PG id_wire_memory_Err #[.pointer (some ⟨a, 0, none⟩)] h' fun v64 h65 => popO (SemE PG h65 (binS BinOp.neq T_api_Errno (.tmp 49) (.const (Value.int IntKind.i64 0)) v64 (Value.int IntKind.i64 0))) fun v66 => condV v66 (k (Value.slice none 0 0) h65) (k v h65) := by
    intro e
    rw [e] at hk
    refine RErr_ok R' ?_
    by_cases h0 : st'.1 = 0
    · have q : (st'.1 != 0) = false := by simp [h0]
      rw [if_pos h0] at hk
      simp only [neqI, q, popO_some, bindH_eq, condV_bool, condV_true, condV_false, yV_bool, gopV_tt, gopV_ff, gopV_tf, gopV_ft, pickV_t, pickV_f, pickV_bool, nilS_ptr, add_eq, sub_eq, mul_eq, lss_eq, leq_eq, gtr_eq, geq_eq, not_eq, minI_eq, maxI_eq, extract_0, extract_1, extract_2, eqlI, neqI, makeFunc_eq, decide_true, decide_false, if_true, if_false, Bool.false_eq_true, Bool.not_true, Bool.not_false, reduceIte, List.getElem?_toArray, List.getElem?_cons_zero, List.getElem?_cons_succ, Option.isSome_none, List.length_map]
      exact hk h' v F R' O fF u
    · have q : (st'.1 != 0) = true := by simp [h0]
      rw [if_neg h0] at hk
      simp only [neqI, q, popO_some, bindH_eq, condV_bool, condV_true, condV_false, yV_bool, gopV_tt, gopV_ff, gopV_tf, gopV_ft, pickV_t, pickV_f, pickV_bool, nilS_ptr, add_eq, sub_eq, mul_eq, lss_eq, leq_eq, gtr_eq, geq_eq, not_eq, minI_eq, maxI_eq, extract_0, extract_1, extract_2, eqlI, neqI, makeFunc_eq, decide_true, decide_false, if_true, if_false, Bool.false_eq_true, Bool.not_true, Bool.not_false, reduceIte, List.getElem?_toArray, List.getElem?_cons_zero, List.getElem?_cons_succ, Option.isSome_none, List.length_map]
      exact hk h' _ [] R' OwnR.nil (fun b hb => by cases hb) u
  cases i with
  | zero =>
    have g : ((0 : Int) < ((0 : Nat) : Int)) = False := eq_false (by decide)
    simp only [g, yV_undef, gopV_none, T_wire_Reader.f0, popO_some, bindH_eq, condV_bool, condV_true, condV_false, yV_bool, gopV_tt, gopV_ff, gopV_tf, gopV_ft, pickV_t, pickV_f, pickV_bool, nilS_ptr, add_eq, sub_eq, mul_eq, lss_eq, leq_eq, gtr_eq, geq_eq, not_eq, minI_eq, maxI_eq, extract_0, extract_1, extract_2, eqlI, neqI, makeFunc_eq, decide_true, decide_false, if_true, if_false, Bool.false_eq_true, Bool.not_true, Bool.not_false, reduceIte, List.getElem?_toArray, List.getElem?_cons_zero, List.getElem?_cons_succ, Option.isSome_none, List.length_map]
    exact fin (by rw [← hrm]; rfl)
  | succ i =>
    have g : ((0 : Int) < ((i + 1 : Nat) : Int)) = True := eq_true (by omega)
    simp only [g, T_wire_Reader.f0, popO_some, bindH_eq, condV_bool, condV_true, condV_false, yV_bool, gopV_tt, gopV_ff, gopV_tf, gopV_ft, pickV_t, pickV_f, pickV_bool, nilS_ptr, add_eq, sub_eq, mul_eq, lss_eq, leq_eq, gtr_eq, geq_eq, not_eq, minI_eq, maxI_eq, extract_0, extract_1, extract_2, eqlI, neqI, makeFunc_eq, decide_true, decide_false, if_true, if_false, Bool.false_eq_true, Bool.not_true, Bool.not_false, reduceIte, List.getElem?_toArray, List.getElem?_cons_zero, List.getElem?_cons_succ, Option.isSome_none, List.length_map]
    refine RErr_ok R' ?_
    by_cases h0 : st'.1 = 0
    · have q : (st'.1 == 0) = true := by simp [h0]
      have hstep : rMany 4 (i + 1) st' l = rMany 4 i (rOne 4 st').2 (l ++ [(rOne 4 st').1]) := by
        rw [rMany, if_pos h0]
      rw [hstep] at hrm
      simp only [eqlI, q, popO_some, bindH_eq, condV_bool, condV_true, condV_false, yV_bool, gopV_tt, gopV_ff, gopV_tf, gopV_ft, pickV_t, pickV_f, pickV_bool, nilS_ptr, add_eq, sub_eq, mul_eq, lss_eq, leq_eq, gtr_eq, geq_eq, not_eq, minI_eq, maxI_eq, extract_0, extract_1, extract_2, eqlI, neqI, makeFunc_eq, decide_true, decide_false, if_true, if_false, Bool.false_eq_true, Bool.not_true, Bool.not_false, reduceIte, List.getElem?_toArray, List.getElem?_cons_zero, List.getElem?_cons_succ, Option.isSome_none, List.length_map]
      refine RByte_ok R' fun h2 R2 u2 => ?_
      simp only [Prod.eta] at R2
      refine Get_r R2 fun h3 R3 u3 => ?_
      unfold rOne at hrm
      simp only [Prod.eta] at hrm R3 ⊢
      have hkd := rGet_lt st' 1
      generalize (rGet st' 1).1 = kd at *
      generalize (rGet st' 1).2 = st2 at *
      generalize (rPk st2).1 = p at *
      generalize (rPk st2).2 = st3 at *
      have u' := (u.trans u2).trans u3
      have O3 := (O.upd u2 (fun b hb hm => naF (by simp only [List.mem_singleton] at hm; exact hm ▸ hb))).upd u3 (fun b hb hm => naF (by simp only [List.mem_singleton] at hm; exact hm ▸ hb))
      intro r hr
      try rw [bindH_eq]
      refine T_api_Packet.fill hr rfl (by simp [Pk.cells, isCell]) fun h4 B4 u4 => ?_
      have R4 := R3.ext u4
      have O4 := O3.ext u4
      have nra : r ≠ a := fun e => by have := R3.here; rw [← e, hr] at this; cases this
      have nr : r ∉ [a] := by simpa using nra
      have gi : IntKind.i64.wrap (((i + 1 : Nat) : Int) - 1) = ((i : Nat) : Int) := by rw [i64_wrap (by omega) (by omega)]; omega
      have rest : ∀ {n3 : List Value → PH → Prop} {h5 : PH} {st5 : Stt}, RdAt h5 a st5.1 st5.2 → Upd [a] h4 h5 → (∀ h8 v8 F8, RdAt h8 a st5.1 st5.2 → OwnR h8 T_api_Note 5 v8 (((l ++ [((kd : Int), p)]).map Nt.of).map Nt.cells) F8 → Fresh h F8 → Upd [a] h h8 → a ∉ F8 → n3 [.pointer (some ⟨a, 0, none⟩), .int .i64 4, .func (.func id_note_Notes_1) #[] #[], v8, .int .i64 (i : Int)] h8) → note_get_api_Note_k51 k n3 (.pointer (some ⟨a, 0, none⟩)) (.int .i64 4) (.func (.func id_note_Notes_1) #[] #[]) v (.int .i64 ((i + 1 : Nat) : Int)) (.int .i64 (kd : Int)) (.pointer (some ⟨r, 0, none⟩)) h5 := by
        intro n3 h5 st5 R5 u5 hn3
        unfold note_get_api_Note_k51
        have B5 := B4.upd u5 nr
        have O5 := O4.upd u5 (fun b hb hm => naF (by simp only [List.mem_singleton] at hm; exact hm ▸ hb))
        have l5 : SemE PG h5 (Instr.loadAt T_api_Packet (.pointer (some ⟨r, 0, none⟩))) = some (.agg p.cells.toArray) := T_api_Packet.agg B5 (by show 0 + 4 ≤ 4; decide)
        simp only [l5, popO_some, bindH_eq, condV_bool, condV_true, condV_false, yV_bool, gopV_tt, gopV_ff, gopV_tf, gopV_ft, pickV_t, pickV_f, pickV_bool, nilS_ptr, add_eq, sub_eq, mul_eq, lss_eq, leq_eq, gtr_eq, geq_eq, not_eq, minI_eq, maxI_eq, extract_0, extract_1, extract_2, eqlI, neqI, makeFunc_eq, decide_true, decide_false, if_true, if_false, Bool.false_eq_true, Bool.not_true, Bool.not_false, reduceIte, List.getElem?_toArray, List.getElem?_cons_zero, List.getElem?_cons_succ, Option.isSome_none, List.length_map]
        show CallsH PG id_note_Notes_1 #[.int .i64 (kd : Int), .agg p.cells.toArray] h5 _
        refine Notes_1_ok ((kd : Int), p) fun h6 u6 => ?_
        simp only [rnt_lit1, popO_some, bindH_eq, condV_bool, condV_true, condV_false, yV_bool, gopV_tt, gopV_ff, gopV_tf, gopV_ft, pickV_t, pickV_f, pickV_bool, nilS_ptr, add_eq, sub_eq, mul_eq, lss_eq, leq_eq, gtr_eq, geq_eq, not_eq, minI_eq, maxI_eq, extract_0, extract_1, extract_2, eqlI, neqI, makeFunc_eq, decide_true, decide_false, if_true, if_false, Bool.false_eq_true, Bool.not_true, Bool.not_false, reduceIte, List.getElem?_toArray, List.getElem?_cons_zero, List.getElem?_cons_succ, Option.isSome_none, List.length_map]
        intro r7 hr7
        refine popO_pure ?_
        try rw [bindH_eq]
        have u7 : Ext h6 (h6.set r7 (.cells (Nt.of ((kd : Int), p)).cells.toArray T_api_Note (0, 0))) := Upd.new hr7
        have S7 : SlR (h6.set r7 (.cells (Nt.of ((kd : Int), p)).cells.toArray T_api_Note (0, 0))) 5 (.slice (some ⟨r7, 0, none⟩) 1 1) ([Nt.of ((kd : Int), p)].map Nt.cells) := (OwnR.lit (n := 1) (Nt.rows [_]) set_same (by simp) (by decide) (by simp)).slR
        generalize h6.set r7 (.cells (Nt.of ((kd : Int), p)).cells.toArray T_api_Note (0, 0)) = h7 at *
        refine append_own T_sl_api_Note.und T_sl_api_Note.und T_api_Note.info T_api_Note.size T_api_Note.bytes T_api_Note.zero rfl (by decide) ((O5.ext u6).ext u7) S7 (Nt.isC _) (by simp only [List.length_map, List.length_cons, List.length_nil]; omega) ?_
        intro v8 h8 F8 O8 u8 k8 _
        have e8 : (l.map Nt.of).map Nt.cells ++ [Nt.of ((kd : Int), p)].map Nt.cells = ((l ++ [((kd : Int), p)]).map Nt.of).map Nt.cells := by simp
        rw [e8] at O8
        simp only [gi, popO_some, bindH_eq, condV_bool, condV_true, condV_false, yV_bool, gopV_tt, gopV_ff, gopV_tf, gopV_ft, pickV_t, pickV_f, pickV_bool, nilS_ptr, add_eq, sub_eq, mul_eq, lss_eq, leq_eq, gtr_eq, geq_eq, not_eq, minI_eq, maxI_eq, extract_0, extract_1, extract_2, eqlI, neqI, makeFunc_eq, decide_true, decide_false, if_true, if_false, Bool.false_eq_true, Bool.not_true, Bool.not_false, reduceIte, List.getElem?_toArray, List.getElem?_cons_zero, List.getElem?_cons_succ, Option.isSome_none, List.length_map]
        have R7 := (R5.ext u6).ext u7
        have u57 := u6.trans u7
        have aF : a ∉ F := naF
        have hh7 : Upd [a] h h7 := ((u'.trans (u4.upd)).trans u5).ext u57
        refine hn3 h8 v8 F8 (R7.upd u8 aF) O8 (fun b hb => ?_) (hh7.then u8 fun b hb => .inr (fF b hb)) (fun hm => ?_)
        · rcases k8 b hb with h1 | h1
          · exact fF b h1
          · cases e : h b with
            | none => rfl
            | some o =>
              by_cases hba : b = a
              · subst hba
                have := R7.here
                rw [h1] at this; cases this
              · have := hh7.get e (by simpa using hba)
                rw [h1] at this; cases this
        · rcases k8 a hm with h1 | h1
          · exact aF h1
          · have := R7.here
            rw [h1] at this; cases this
      have put : ∀ {st5 : Stt} {h8 : PH} {v8 : Value} {F8 : List Nat}, rMany 4 i st5 (l ++ [((kd : Int), p)]) = rMany 4 n st1 [] → RdAt h8 a st5.1 st5.2 → OwnR h8 T_api_Note 5 v8 (((l ++ [((kd : Int), p)]).map Nt.of).map Nt.cells) F8 → Fresh h F8 → Upd [a] h h8 → a ∉ F8 → ∃ (i' : Nat) (st' : Stt) (l' : List (Int × Pk)) (v' : Value) (F' : List Nat), i' ≤ n ∧ l'.length + i' ≤ n ∧ [(.pointer (some ⟨a, 0, none⟩) : Value), .int .i64 4, .func (.func id_note_Notes_1) #[] #[], v8, .int .i64 (i : Int)] = [.pointer (some ⟨a, 0, none⟩), .int .i64 4, .func (.func id_note_Notes_1) #[] #[], v', .int .i64 (i' : Int)] ∧ RdAt h8 a st'.1 st'.2 ∧ OwnR h8 T_api_Note 5 v' ((l'.map Nt.of).map Nt.cells) F' ∧ Fresh h F' ∧ Upd [a] h h8 ∧ a ∉ F' ∧ rMany 4 i' st' l' = rMany 4 n st1 [] := fun e r1 r2 r3 r4 r5 =>
        ⟨i, _, _, _, _, by omega, by simp only [List.length_append, List.length_cons, List.length_nil]; omega, rfl, r1, r2, r3, r4, r5, e⟩
      have mu : ∀ {v8 : Value} {h8 : PH}, slotN 4 [(.pointer (some ⟨a, 0, none⟩) : Value), .int .i64 4, .func (.func id_note_Notes_1) #[] #[], v8, .int .i64 (i : Int)] h8 < slotN 4 [(.pointer (some ⟨a, 0, none⟩) : Value), .int .i64 4, .func (.func id_note_Notes_1) #[] #[], v, .int .i64 ((i + 1 : Nat) : Int)] h' := fun {v8 h8} => by
        simp only [slotN, List.getElem?_cons_succ, List.getElem?_cons_zero, Int.toNat_natCast]
        omega
      by_cases hk1 : (kd : Int) < 1
      · rw [if_pos (.inl hk1)] at hrm
        simp only [hk1, yV_undef, gopV_none, T_wire_Reader.f0, popO_some, bindH_eq, condV_bool, condV_true, condV_false, yV_bool, gopV_tt, gopV_ff, gopV_tf, gopV_ft, pickV_t, pickV_f, pickV_bool, nilS_ptr, add_eq, sub_eq, mul_eq, lss_eq, leq_eq, gtr_eq, geq_eq, not_eq, minI_eq, maxI_eq, extract_0, extract_1, extract_2, eqlI, neqI, makeFunc_eq, decide_true, decide_false, if_true, if_false, Bool.false_eq_true, Bool.not_true, Bool.not_false, reduceIte, List.getElem?_toArray, List.getElem?_cons_zero, List.getElem?_cons_succ, Option.isSome_none, List.length_map]
        refine RFail_ok R4 5 fun h5 R5 u5 => ?_
        exact rest R5 u5 fun h8 v8 F8 r1 r2 r3 r4 r5 => ⟨put hrm r1 r2 r3 r4 r5, mu⟩
      · by_cases hk2 : (4 : Int) < (kd : Int)
        · rw [if_pos (.inr hk2)] at hrm
          simp only [hk1, hk2, T_wire_Reader.f0, popO_some, bindH_eq, condV_bool, condV_true, condV_false, yV_bool, gopV_tt, gopV_ff, gopV_tf, gopV_ft, pickV_t, pickV_f, pickV_bool, nilS_ptr, add_eq, sub_eq, mul_eq, lss_eq, leq_eq, gtr_eq, geq_eq, not_eq, minI_eq, maxI_eq, extract_0, extract_1, extract_2, eqlI, neqI, makeFunc_eq, decide_true, decide_false, if_true, if_false, Bool.false_eq_true, Bool.not_true, Bool.not_false, reduceIte, List.getElem?_toArray, List.getElem?_cons_zero, List.getElem?_cons_succ, Option.isSome_none, List.length_map]
          refine RFail_ok R4 5 fun h5 R5 u5 => ?_
          exact rest R5 u5 fun h8 v8 F8 r1 r2 r3 r4 r5 => ⟨put hrm r1 r2 r3 r4 r5, mu⟩
        · rw [if_neg (by omega)] at hrm
          simp only [hk1, hk2, popO_some, bindH_eq, condV_bool, condV_true, condV_false, yV_bool, gopV_tt, gopV_ff, gopV_tf, gopV_ft, pickV_t, pickV_f, pickV_bool, nilS_ptr, add_eq, sub_eq, mul_eq, lss_eq, leq_eq, gtr_eq, geq_eq, not_eq, minI_eq, maxI_eq, extract_0, extract_1, extract_2, eqlI, neqI, makeFunc_eq, decide_true, decide_false, if_true, if_false, Bool.false_eq_true, Bool.not_true, Bool.not_false, reduceIte, List.getElem?_toArray, List.getElem?_cons_zero, List.getElem?_cons_succ, Option.isSome_none, List.length_map]
          exact rest R4 Upd.refl fun h8 v8 F8 r1 r2 r3 r4 r5 => ⟨put hrm r1 r2 r3 r4 r5, mu⟩
    · have q : (st'.1 == 0) = false := by simp [h0]
      simp only [eqlI, q, popO_some, bindH_eq, condV_bool, condV_true, condV_false, yV_bool, gopV_tt, gopV_ff, gopV_tf, gopV_ft, pickV_t, pickV_f, pickV_bool, nilS_ptr, add_eq, sub_eq, mul_eq, lss_eq, leq_eq, gtr_eq, geq_eq, not_eq, minI_eq, maxI_eq, extract_0, extract_1, extract_2, eqlI, neqI, makeFunc_eq, decide_true, decide_false, if_true, if_false, Bool.false_eq_true, Bool.not_true, Bool.not_false, reduceIte, List.getElem?_toArray, List.getElem?_cons_zero, List.getElem?_cons_succ, Option.isSome_none, List.length_map]
      exact fin (by rw [← hrm, rMany, if_neg h0])

def It.of (x : Int × Pk) : It := ⟨x.2, x.1⟩
theorem rit_build (x : Int × Pk) : SemP PG (Instr.build T_api_Item #[(0, .agg x.2.cells.toArray), (1, .int .i64 x.1)]) = some (.agg (It.of x).cells.toArray) := by kernel_rfl
theorem Items_1_ok {h : PH} (x : Int × Pk) {k : Value → PH → Prop} (hk : ∀ h', Ext h h' → k (.agg (It.of x).cells.toArray) h') : CallsH PG id_note_Items_1 #[.int .i64 x.1, .agg x.2.cells.toArray] h k := by
  apply note_Items_1.call
  unfold note_Items_1
  intro r hr
  try rw [bindH_eq]
  have u1 : Ext h (h.set r (.cells (Value.cells (.agg x.2.cells.toArray)) T_api_Packet)) := Upd.new hr
  have B1 : Bx (h.set r (.cells (Value.cells (.agg x.2.cells.toArray)) T_api_Packet)) r x.2.cells := Bx.new
  generalize h.set r (.cells (Value.cells (.agg x.2.cells.toArray)) T_api_Packet) = h1 at *
  intro r2 hr2
  try rw [bindH_eq]
  have u2 : Ext h1 (h1.set r2 (.cells (zcells PG T_api_Item) T_api_Item)) := Upd.new hr2
  have Z := T_api_Item.zbox (h := h1) (r := r2)
  have B2 := B1.ext u2
  generalize h1.set r2 (.cells (zcells PG T_api_Item) T_api_Item) = h2 at *
  have l2 : SemE PG h2 (Instr.loadAt T_api_Packet (.pointer (some ⟨r, 0, none⟩))) = some (.agg x.2.cells.toArray) := T_api_Packet.agg B2 (by show 0 + 4 ≤ 4; decide)
  simp only [l2, rit_build, popO_some, bindH_eq, condV_bool, condV_true, condV_false, yV_bool, gopV_tt, gopV_ff, gopV_tf, gopV_ft, pickV_t, pickV_f, pickV_bool, nilS_ptr, add_eq, sub_eq, mul_eq, lss_eq, leq_eq, gtr_eq, geq_eq, not_eq, minI_eq, maxI_eq, extract_0, extract_1, extract_2, eqlI, neqI, makeFunc_eq, decide_true, decide_false, if_true, if_false, Bool.false_eq_true, Bool.not_true, Bool.not_false, reduceIte, List.getElem?_toArray, List.getElem?_cons_zero, List.getElem?_cons_succ, Option.isSome_none, List.length_map]
  refine T_api_Item.put Z rfl (by show 0 + 5 ≤ 5; decide) (by simp [It.cells, isCell]) fun h3 B3 u3 => ?_
  have l3 : SemE PG h3 (Instr.loadAt T_api_Item (.pointer (some ⟨r2, 0, none⟩))) = some (.agg (It.of x).cells.toArray) := T_api_Item.agg B3 (by show 0 + 5 ≤ 5; decide)
  simp only [l3, popO_some, bindH_eq, condV_bool, condV_true, condV_false, yV_bool, gopV_tt, gopV_ff, gopV_tf, gopV_ft, pickV_t, pickV_f, pickV_bool, nilS_ptr, add_eq, sub_eq, mul_eq, lss_eq, leq_eq, gtr_eq, geq_eq, not_eq, minI_eq, maxI_eq, extract_0, extract_1, extract_2, eqlI, neqI, makeFunc_eq, decide_true, decide_false, if_true, if_false, Bool.false_eq_true, Bool.not_true, Bool.not_false, reduceIte, List.getElem?_toArray, List.getElem?_cons_zero, List.getElem?_cons_succ, Option.isSome_none, List.length_map]
  exact hk _ ((u1.trans u2).fresh u3 (Fresh.one (u1.none hr2)))
theorem rit_lit1 (x : It) : SemA PG (Instr.buildSlice T_sl_api_Item 1 #[(0, .agg x.cells.toArray)]) = some (.cells x.cells.toArray T_api_Item (0, 0), fun r => pure (.slice (some ⟨r, 0, none⟩) 1 1)) := by kernel_rfl
theorem It.isC (l : List It) : ∀ r ∈ l.map It.cells, ∀ u ∈ r, isCell u = true := fun r hr u hu => by
  obtain ⟨m, _, rfl⟩ := List.mem_map.1 hr
  simp only [It.cells, List.mem_cons, List.not_mem_nil, or_false] at hu
  rcases hu with rfl | rfl | rfl | rfl | rfl <;> rfl
theorem Items_r {h : PH} {a : Nat} {st : Stt} (R : RdAt h a st.1 st.2) {k : Value → PH → Prop}
    (hk : ∀ h' v F, RdAt h' a (rList 2 st).2.1 (rList 2 st).2.2 → OwnR h' T_api_Item 5 v (((rList 2 st).1.map It.of).map It.cells) F → Fresh h F → Upd [a] h h' → k v h') : CallsH PG id_note_Items #[.pointer (some ⟨a, 0, none⟩)] h k := by
  apply note_Items.call
  unfold note_Items
  apply note_get_api_Item.call
  unfold note_get_api_Item
  refine RByte_ok R fun h1 R1 u1 => ?_
  simp only [Prod.eta] at R1
  have hb := rGet_lt st 1
  unfold rList at hk
  simp only [Prod.eta] at hk hb ⊢
  generalize (rGet st 1).1 = n at *
  generalize (rGet st 1).2 = st1 at *
  refine ⟨fun vs h' => ∃ (i : Nat) (st' : Stt) (l : List (Int × Pk)) (v : Value) (F : List Nat), i ≤ n ∧ l.length + i ≤ n ∧ vs = [.pointer (some ⟨a, 0, none⟩), .int .i64 2, .func (.func id_note_Items_1) #[] #[], v, .int .i64 (i : Int)] ∧ RdAt h' a st'.1 st'.2 ∧ OwnR h' T_api_Item 5 v ((l.map It.of).map It.cells) F ∧ Fresh h F ∧ Upd [a] h h' ∧ a ∉ F ∧ rMany 2 i st' l = rMany 2 n st1 [], slotN 4, ⟨n, st1, [], _, [], by omega, by simp, rfl, R1, OwnR.nil, (fun b hb => by cases hb), u1, by simp, rfl⟩, ?_⟩
  rintro ρ h' ⟨i, st', l, v, F, hi, hln, hvs, R', O, fF, u, naF, hrm⟩
  simp only [List.map_cons, List.map_nil, List.cons.injEq, and_true] at hvs
  obtain ⟨v0, v1, v2, v7, v8⟩ := hvs
  simp only [v0, v1, v2, v7, v8, List.map_cons, List.map_nil]
  unfold note_get_api_Item_b4
  have fin : rMany 2 n st1 [] = (l, st') → CallsH PG id_wire_memory_Err #[.pointer (some ⟨a, 0, none⟩)] h' fun v64 h65 => popO (SemE PG h65 (binS BinOp.neq T_api_Errno (.tmp 49) (.const (Value.int IntKind.i64 0)) v64 (Value.int IntKind.i64 0))) fun v66 => condV v66 (k (Value.slice none 0 0) h65) (k v h65) := by
    intro e
    rw [e] at hk
    refine RErr_ok R' ?_
    by_cases h0 : st'.1 = 0
    · have q : (st'.1 != 0) = false := by simp [h0]
      rw [if_pos h0] at hk
      simp only [neqI, q, popO_some, bindH_eq, condV_bool, condV_true, condV_false, yV_bool, gopV_tt, gopV_ff, gopV_tf, gopV_ft, pickV_t, pickV_f, pickV_bool, nilS_ptr, add_eq, sub_eq, mul_eq, lss_eq, leq_eq, gtr_eq, geq_eq, not_eq, minI_eq, maxI_eq, extract_0, extract_1, extract_2, eqlI, neqI, makeFunc_eq, decide_true, decide_false, if_true, if_false, Bool.false_eq_true, Bool.not_true, Bool.not_false, reduceIte, List.getElem?_toArray, List.getElem?_cons_zero, List.getElem?_cons_succ, Option.isSome_none, List.length_map]
      exact hk h' v F R' O fF u
    · have q : (st'.1 != 0) = true := by simp [h0]
      rw [if_neg h0] at hk
      simp only [neqI, q, popO_some, bindH_eq, condV_bool, condV_true, condV_false, yV_bool, gopV_tt, gopV_ff, gopV_tf, gopV_ft, pickV_t, pickV_f, pickV_bool, nilS_ptr, add_eq, sub_eq, mul_eq, lss_eq, leq_eq, gtr_eq, geq_eq, not_eq, minI_eq, maxI_eq, extract_0, extract_1, extract_2, eqlI, neqI, makeFunc_eq, decide_true, decide_false, if_true, if_false, Bool.false_eq_true, Bool.not_true, Bool.not_false, reduceIte, List.getElem?_toArray, List.getElem?_cons_zero, List.getElem?_cons_succ, Option.isSome_none, List.length_map]
      exact hk h' _ [] R' OwnR.nil (fun b hb => by cases hb) u
  cases i with
  | zero =>
    have g : ((0 : Int) < ((0 : Nat) : Int)) = False := eq_false (by decide)
    simp only [g, yV_undef, gopV_none, T_wire_Reader.f0, popO_some, bindH_eq, condV_bool, condV_true, condV_false, yV_bool, gopV_tt, gopV_ff, gopV_tf, gopV_ft, pickV_t, pickV_f, pickV_bool, nilS_ptr, add_eq, sub_eq, mul_eq, lss_eq, leq_eq, gtr_eq, geq_eq, not_eq, minI_eq, maxI_eq, extract_0, extract_1, extract_2, eqlI, neqI, makeFunc_eq, decide_true, decide_false, if_true, if_false, Bool.false_eq_true, Bool.not_true, Bool.not_false, reduceIte, List.getElem?_toArray, List.getElem?_cons_zero, List.getElem?_cons_succ, Option.isSome_none, List.length_map]
    exact fin (by rw [← hrm]; rfl)
  | succ i =>
    have g : ((0 : Int) < ((i + 1 : Nat) : Int)) = True := eq_true (by omega)
    simp only [g, T_wire_Reader.f0, popO_some, bindH_eq, condV_bool, condV_true, condV_false, yV_bool, gopV_tt, gopV_ff, gopV_tf, gopV_ft, pickV_t, pickV_f, pickV_bool, nilS_ptr, add_eq, sub_eq, mul_eq, lss_eq, leq_eq, gtr_eq, geq_eq, not_eq, minI_eq, maxI_eq, extract_0, extract_1, extract_2, eqlI, neqI, makeFunc_eq, decide_true, decide_false, if_true, if_false, Bool.false_eq_true, Bool.not_true, Bool.not_false, reduceIte, List.getElem?_toArray, List.getElem?_cons_zero, List.getElem?_cons_succ, Option.isSome_none, List.length_map]
    refine RErr_ok R' ?_
    by_cases h0 : st'.1 = 0
    · have q : (st'.1 == 0) = true := by simp [h0]
      have hstep : rMany 2 (i + 1) st' l = rMany 2 i (rOne 2 st').2 (l ++ [(rOne 2 st').1]) := by
        rw [rMany, if_pos h0]
      rw [hstep] at hrm
      simp only [eqlI, q, popO_some, bindH_eq, condV_bool, condV_true, condV_false, yV_bool, gopV_tt, gopV_ff, gopV_tf, gopV_ft, pickV_t, pickV_f, pickV_bool, nilS_ptr, add_eq, sub_eq, mul_eq, lss_eq, leq_eq, gtr_eq, geq_eq, not_eq, minI_eq, maxI_eq, extract_0, extract_1, extract_2, eqlI, neqI, makeFunc_eq, decide_true, decide_false, if_true, if_false, Bool.false_eq_true, Bool.not_true, Bool.not_false, reduceIte, List.getElem?_toArray, List.getElem?_cons_zero, List.getElem?_cons_succ, Option.isSome_none, List.length_map]
      refine RByte_ok R' fun h2 R2 u2 => ?_
      simp only [Prod.eta] at R2
      refine Get_r R2 fun h3 R3 u3 => ?_
      unfold rOne at hrm
      simp only [Prod.eta] at hrm R3 ⊢
      have hkd := rGet_lt st' 1
      generalize (rGet st' 1).1 = kd at *
      generalize (rGet st' 1).2 = st2 at *
      generalize (rPk st2).1 = p at *
      generalize (rPk st2).2 = st3 at *
      have u' := (u.trans u2).trans u3
      have O3 := (O.upd u2 (fun b hb hm => naF (by simp only [List.mem_singleton] at hm; exact hm ▸ hb))).upd u3 (fun b hb hm => naF (by simp only [List.mem_singleton] at hm; exact hm ▸ hb))
      intro r hr
      try rw [bindH_eq]
      refine T_api_Packet.fill hr rfl (by simp [Pk.cells, isCell]) fun h4 B4 u4 => ?_
      have R4 := R3.ext u4
      have O4 := O3.ext u4
      have nra : r ≠ a := fun e => by have := R3.here; rw [← e, hr] at this; cases this
      have nr : r ∉ [a] := by simpa using nra
      have gi : IntKind.i64.wrap (((i + 1 : Nat) : Int) - 1) = ((i : Nat) : Int) := by rw [i64_wrap (by omega) (by omega)]; omega
      have rest : ∀ {n3 : List Value → PH → Prop} {h5 : PH} {st5 : Stt}, RdAt h5 a st5.1 st5.2 → Upd [a] h4 h5 → (∀ h8 v8 F8, RdAt h8 a st5.1 st5.2 → OwnR h8 T_api_Item 5 v8 (((l ++ [((kd : Int), p)]).map It.of).map It.cells) F8 → Fresh h F8 → Upd [a] h h8 → a ∉ F8 → n3 [.pointer (some ⟨a, 0, none⟩), .int .i64 2, .func (.func id_note_Items_1) #[] #[], v8, .int .i64 (i : Int)] h8) → note_get_api_Item_k51 k n3 (.pointer (some ⟨a, 0, none⟩)) (.int .i64 2) (.func (.func id_note_Items_1) #[] #[]) v (.int .i64 ((i + 1 : Nat) : Int)) (.int .i64 (kd : Int)) (.pointer (some ⟨r, 0, none⟩)) h5 := by
        intro n3 h5 st5 R5 u5 hn3
        unfold note_get_api_Item_k51
        have B5 := B4.upd u5 nr
        have O5 := O4.upd u5 (fun b hb hm => naF (by simp only [List.mem_singleton] at hm; exact hm ▸ hb))
        have l5 : SemE PG h5 (Instr.loadAt T_api_Packet (.pointer (some ⟨r, 0, none⟩))) = some (.agg p.cells.toArray) := T_api_Packet.agg B5 (by show 0 + 4 ≤ 4; decide)
        simp only [l5, popO_some, bindH_eq, condV_bool, condV_true, condV_false, yV_bool, gopV_tt, gopV_ff, gopV_tf, gopV_ft, pickV_t, pickV_f, pickV_bool, nilS_ptr, add_eq, sub_eq, mul_eq, lss_eq, leq_eq, gtr_eq, geq_eq, not_eq, minI_eq, maxI_eq, extract_0, extract_1, extract_2, eqlI, neqI, makeFunc_eq, decide_true, decide_false, if_true, if_false, Bool.false_eq_true, Bool.not_true, Bool.not_false, reduceIte, List.getElem?_toArray, List.getElem?_cons_zero, List.getElem?_cons_succ, Option.isSome_none, List.length_map]
        show CallsH PG id_note_Items_1 #[.int .i64 (kd : Int), .agg p.cells.toArray] h5 _
        refine Items_1_ok ((kd : Int), p) fun h6 u6 => ?_
        simp only [rit_lit1, popO_some, bindH_eq, condV_bool, condV_true, condV_false, yV_bool, gopV_tt, gopV_ff, gopV_tf, gopV_ft, pickV_t, pickV_f, pickV_bool, nilS_ptr, add_eq, sub_eq, mul_eq, lss_eq, leq_eq, gtr_eq, geq_eq, not_eq, minI_eq, maxI_eq, extract_0, extract_1, extract_2, eqlI, neqI, makeFunc_eq, decide_true, decide_false, if_true, if_false, Bool.false_eq_true, Bool.not_true, Bool.not_false, reduceIte, List.getElem?_toArray, List.getElem?_cons_zero, List.getElem?_cons_succ, Option.isSome_none, List.length_map]
        intro r7 hr7
        refine popO_pure ?_
        try rw [bindH_eq]
        have u7 : Ext h6 (h6.set r7 (.cells (It.of ((kd : Int), p)).cells.toArray T_api_Item (0, 0))) := Upd.new hr7
        have S7 : SlR (h6.set r7 (.cells (It.of ((kd : Int), p)).cells.toArray T_api_Item (0, 0))) 5 (.slice (some ⟨r7, 0, none⟩) 1 1) ([It.of ((kd : Int), p)].map It.cells) := (OwnR.lit (n := 1) (It.rows [_]) set_same (by simp) (by decide) (by simp)).slR
        generalize h6.set r7 (.cells (It.of ((kd : Int), p)).cells.toArray T_api_Item (0, 0)) = h7 at *
        refine append_own T_sl_api_Item.und T_sl_api_Item.und T_api_Item.info T_api_Item.size T_api_Item.bytes T_api_Item.zero rfl (by decide) ((O5.ext u6).ext u7) S7 (It.isC _) (by simp only [List.length_map, List.length_cons, List.length_nil]; omega) ?_
        intro v8 h8 F8 O8 u8 k8 _
        have e8 : (l.map It.of).map It.cells ++ [It.of ((kd : Int), p)].map It.cells = ((l ++ [((kd : Int), p)]).map It.of).map It.cells := by simp
        rw [e8] at O8
        simp only [gi, popO_some, bindH_eq, condV_bool, condV_true, condV_false, yV_bool, gopV_tt, gopV_ff, gopV_tf, gopV_ft, pickV_t, pickV_f, pickV_bool, nilS_ptr, add_eq, sub_eq, mul_eq, lss_eq, leq_eq, gtr_eq, geq_eq, not_eq, minI_eq, maxI_eq, extract_0, extract_1, extract_2, eqlI, neqI, makeFunc_eq, decide_true, decide_false, if_true, if_false, Bool.false_eq_true, Bool.not_true, Bool.not_false, reduceIte, List.getElem?_toArray, List.getElem?_cons_zero, List.getElem?_cons_succ, Option.isSome_none, List.length_map]
        have R7 := (R5.ext u6).ext u7
        have u57 := u6.trans u7
        have aF : a ∉ F := naF
        have hh7 : Upd [a] h h7 := ((u'.trans (u4.upd)).trans u5).ext u57
        refine hn3 h8 v8 F8 (R7.upd u8 aF) O8 (fun b hb => ?_) (hh7.then u8 fun b hb => .inr (fF b hb)) (fun hm => ?_)
        · rcases k8 b hb with h1 | h1
          · exact fF b h1
          · cases e : h b with
            | none => rfl
            | some o =>
              by_cases hba : b = a
              · subst hba
                have := R7.here
                rw [h1] at this; cases this
              · have := hh7.get e (by simpa using hba)
                rw [h1] at this; cases this
        · rcases k8 a hm with h1 | h1
          · exact aF h1
          · have := R7.here
            rw [h1] at this; cases this
      have put : ∀ {st5 : Stt} {h8 : PH} {v8 : Value} {F8 : List Nat}, rMany 2 i st5 (l ++ [((kd : Int), p)]) = rMany 2 n st1 [] → RdAt h8 a st5.1 st5.2 → OwnR h8 T_api_Item 5 v8 (((l ++ [((kd : Int), p)]).map It.of).map It.cells) F8 → Fresh h F8 → Upd [a] h h8 → a ∉ F8 → ∃ (i' : Nat) (st' : Stt) (l' : List (Int × Pk)) (v' : Value) (F' : List Nat), i' ≤ n ∧ l'.length + i' ≤ n ∧ [(.pointer (some ⟨a, 0, none⟩) : Value), .int .i64 2, .func (.func id_note_Items_1) #[] #[], v8, .int .i64 (i : Int)] = [.pointer (some ⟨a, 0, none⟩), .int .i64 2, .func (.func id_note_Items_1) #[] #[], v', .int .i64 (i' : Int)] ∧ RdAt h8 a st'.1 st'.2 ∧ OwnR h8 T_api_Item 5 v' ((l'.map It.of).map It.cells) F' ∧ Fresh h F' ∧ Upd [a] h h8 ∧ a ∉ F' ∧ rMany 2 i' st' l' = rMany 2 n st1 [] := fun e r1 r2 r3 r4 r5 =>
        ⟨i, _, _, _, _, by omega, by simp only [List.length_append, List.length_cons, List.length_nil]; omega, rfl, r1, r2, r3, r4, r5, e⟩
      have mu : ∀ {v8 : Value} {h8 : PH}, slotN 4 [(.pointer (some ⟨a, 0, none⟩) : Value), .int .i64 2, .func (.func id_note_Items_1) #[] #[], v8, .int .i64 (i : Int)] h8 < slotN 4 [(.pointer (some ⟨a, 0, none⟩) : Value), .int .i64 2, .func (.func id_note_Items_1) #[] #[], v, .int .i64 ((i + 1 : Nat) : Int)] h' := fun {v8 h8} => by
        simp only [slotN, List.getElem?_cons_succ, List.getElem?_cons_zero, Int.toNat_natCast]
        omega
      by_cases hk1 : (kd : Int) < 1
      · rw [if_pos (.inl hk1)] at hrm
        simp only [hk1, yV_undef, gopV_none, T_wire_Reader.f0, popO_some, bindH_eq, condV_bool, condV_true, condV_false, yV_bool, gopV_tt, gopV_ff, gopV_tf, gopV_ft, pickV_t, pickV_f, pickV_bool, nilS_ptr, add_eq, sub_eq, mul_eq, lss_eq, leq_eq, gtr_eq, geq_eq, not_eq, minI_eq, maxI_eq, extract_0, extract_1, extract_2, eqlI, neqI, makeFunc_eq, decide_true, decide_false, if_true, if_false, Bool.false_eq_true, Bool.not_true, Bool.not_false, reduceIte, List.getElem?_toArray, List.getElem?_cons_zero, List.getElem?_cons_succ, Option.isSome_none, List.length_map]
        refine RFail_ok R4 5 fun h5 R5 u5 => ?_
        exact rest R5 u5 fun h8 v8 F8 r1 r2 r3 r4 r5 => ⟨put hrm r1 r2 r3 r4 r5, mu⟩
      · by_cases hk2 : (2 : Int) < (kd : Int)
        · rw [if_pos (.inr hk2)] at hrm
          simp only [hk1, hk2, T_wire_Reader.f0, popO_some, bindH_eq, condV_bool, condV_true, condV_false, yV_bool, gopV_tt, gopV_ff, gopV_tf, gopV_ft, pickV_t, pickV_f, pickV_bool, nilS_ptr, add_eq, sub_eq, mul_eq, lss_eq, leq_eq, gtr_eq, geq_eq, not_eq, minI_eq, maxI_eq, extract_0, extract_1, extract_2, eqlI, neqI, makeFunc_eq, decide_true, decide_false, if_true, if_false, Bool.false_eq_true, Bool.not_true, Bool.not_false, reduceIte, List.getElem?_toArray, List.getElem?_cons_zero, List.getElem?_cons_succ, Option.isSome_none, List.length_map]
          refine RFail_ok R4 5 fun h5 R5 u5 => ?_
          exact rest R5 u5 fun h8 v8 F8 r1 r2 r3 r4 r5 => ⟨put hrm r1 r2 r3 r4 r5, mu⟩
        · rw [if_neg (by omega)] at hrm
          simp only [hk1, hk2, popO_some, bindH_eq, condV_bool, condV_true, condV_false, yV_bool, gopV_tt, gopV_ff, gopV_tf, gopV_ft, pickV_t, pickV_f, pickV_bool, nilS_ptr, add_eq, sub_eq, mul_eq, lss_eq, leq_eq, gtr_eq, geq_eq, not_eq, minI_eq, maxI_eq, extract_0, extract_1, extract_2, eqlI, neqI, makeFunc_eq, decide_true, decide_false, if_true, if_false, Bool.false_eq_true, Bool.not_true, Bool.not_false, reduceIte, List.getElem?_toArray, List.getElem?_cons_zero, List.getElem?_cons_succ, Option.isSome_none, List.length_map]
          exact rest R4 Upd.refl fun h8 v8 F8 r1 r2 r3 r4 r5 => ⟨put hrm r1 r2 r3 r4 r5, mu⟩
    · have q : (st'.1 == 0) = false := by simp [h0]
      simp only [eqlI, q, popO_some, bindH_eq, condV_bool, condV_true, condV_false, yV_bool, gopV_tt, gopV_ff, gopV_tf, gopV_ft, pickV_t, pickV_f, pickV_bool, nilS_ptr, add_eq, sub_eq, mul_eq, lss_eq, leq_eq, gtr_eq, geq_eq, not_eq, minI_eq, maxI_eq, extract_0, extract_1, extract_2, eqlI, neqI, makeFunc_eq, decide_true, decide_false, if_true, if_false, Bool.false_eq_true, Bool.not_true, Bool.not_false, reduceIte, List.getElem?_toArray, List.getElem?_cons_zero, List.getElem?_cons_succ, Option.isSome_none, List.length_map]
      exact fin (by rw [← hrm, rMany, if_neg h0])
end Go.Proofs.YtlkjippiaghbmaaGreat
/- record: states and records as values; what a record may have; its bytes. -/
set_option linter.unusedSimpArgs false
set_option linter.unusedVariables false
namespace Go.Proofs.YtlkjippiaghbmaaGreat
open Go
set_option maxRecDepth 20000
structure Dm where
  p0 : Pl
  p1 : Pl
  its : List It
  deriving DecidableEq
structure Rc where
  k : Int
  s : Dm
  ch : Int
  pl : Pl
  ns : List Nt
  deriving DecidableEq
def Dm.zero : Dm := ⟨Pl.zero, Pl.zero, []⟩
def Rc.zero : Rc := ⟨0, Dm.zero, 0, Pl.zero, []⟩
def Dm.cells (d : Dm) (v : Value) : List Value := [.int .u64 d.p0.h, .int .i64 d.p0.i, .int .u64 d.p1.h, .int .i64 d.p1.i, v]
def Rc.cells (r : Rc) (v w : Value) : List Value := [.int .i64 r.k, .int .u64 r.s.p0.h, .int .i64 r.s.p0.i, .int .u64 r.s.p1.h, .int .i64 r.s.p1.i, v, .int .i64 r.ch, .int .u64 r.pl.h, .int .i64 r.pl.i, w]
def Dm.v (d : Dm) (v : Value) : Value := .agg (d.cells v).toArray
def Rc.v (r : Rc) (v w : Value) : Value := .agg (r.cells v w).toArray
abbrev ISl (h : PH) (v : Value) (l : List It) : Prop := SlR h 5 v (l.map It.cells)
abbrev NSl (h : PH) (v : Value) (l : List Nt) : Prop := SlR h 5 v (l.map Nt.cells)
def Pl.wf (q : Pl) : Prop := 0 ≤ q.h ∧ q.h < 18446744073709551616
structure Dm.wf (d : Dm) : Prop where
  a : d.p0.wf
  b : d.p1.wf
  i : ∀ x ∈ d.its, x.p.wf
structure Rc.wf (r : Rc) : Prop where
  s : r.s.wf
  pl : r.pl.wf
  n : ∀ x ∈ r.ns, x.p.wf
/-- A slice that lies in blocks that h hadn't. -/
def NewV (h : PH) (v : Value) : Prop := ∀ a n c, v = .slice (some a) n c → h a.block = none
theorem NewV.nil {h : PH} : NewV h (.slice none 0 0) := fun a n c e => by cases e
theorem NewV.of {h h1 : PH} {v : Value} (H : NewV h1 v) (u : Ext h h1) : NewV h v := fun a n c e => u.none (H a n c e)
theorem OwnR.newV {h0 h : PH} {e : TypeId} {n : Nat} {v : Value} {rows : List (List Value)} {F : List Nat} (O : OwnR h e n v rows F) (f : Fresh h0 F) : NewV h0 v := fun a m c ev => by
  rcases O.here with ⟨e2, _, _⟩ | ⟨b, cap', cs, e2, e3, _⟩
  · rw [e2] at ev; cases ev
  · rw [e2] at ev
    simp only [Value.slice.injEq, Option.some.injEq] at ev
    rw [← ev.1]
    exact f b (by rw [e3]; simp)
/-! ### equal places -/
theorem Pl.eqIn {h : PH} {d : Nat} (q q' : Pl) : SemE PG h (Op.equalIn (d + 1 + 1) T_api_Place (.agg q.cells.toArray) (.agg q'.cells.toArray)) = some (decide (q = q')) := by
  rw [eqIn_struct T_api_Place.und (by kernel_rfl) (fun f => match f.offset with | 0 => q.h == q'.h | _ => q.i == q'.i)]
  · congr 1
    rw [Bool.eq_iff_iff]
    obtain ⟨a, b⟩ := q
    obtain ⟨a', b'⟩ := q'
    simp
  · intro f hf
    simp only [List.mem_cons, List.not_mem_nil, or_false] at hf
    rcases hf with rfl | rfl
    · exact ⟨by decide, _, _, part_cell T_uint64.und rfl rfl, part_cell T_uint64.und rfl rfl, eqIn_int T_uint64.und⟩
    · exact ⟨by decide, _, _, part_cell T_int.und rfl rfl, part_cell T_int.und rfl rfl, eqIn_int T_int.und⟩
theorem Pl.eql {h : PH} {x y : Operand} (q q' : Pl) : SemE PG h (binS .eql T_api_Place x y (.agg q.cells.toArray) (.agg q'.cells.toArray)) = some (.bool (decide (q = q'))) := eqlStruct (by kernel_rfl) (Pl.eqIn (d := 9998) q q')
theorem Pl.neq {h : PH} {x y : Operand} (q q' : Pl) : SemE PG h (binS .neq T_api_Place x y (.agg q.cells.toArray) (.agg q'.cells.toArray)) = some (.bool (!decide (q = q'))) := neqStruct (by kernel_rfl) (Pl.eqIn (d := 9998) q q')
def two (p q : Pl) : Value := .agg (p.cells ++ q.cells).toArray
theorem two.eql {h : PH} {x y : Operand} (p q p' q' : Pl) : SemE PG h (binS .eql T_2_api_Place x y (two p q) (two p' q')) = some (.bool (decide (p = p' ∧ q = q'))) := by
  refine eqlStruct (by kernel_rfl) ?_
  rw [eqIn_array T_2_api_Place.und T_api_Place.info T_api_Place.size (fun j => if j = 0 then decide (p = p') else decide (q = q'))]
  · congr 1
    simp [List.range, List.range.loop]
  · intro j hj
    have : j = 0 ∨ j = 1 := by omega
    rcases this with rfl | rfl
    · exact ⟨_, _, part_agg T_api_Place.und rfl T_api_Place.info T_api_Place.size, part_agg T_api_Place.und rfl T_api_Place.info T_api_Place.size, Pl.eqIn (d := 9997) p p'⟩
    · exact ⟨_, _, part_agg T_api_Place.und rfl T_api_Place.info T_api_Place.size, part_agg T_api_Place.und rfl T_api_Place.info T_api_Place.size, Pl.eqIn (d := 9997) q q'⟩
theorem two_zero : SemP PG (Instr.build T_2_api_Place #[]) = some (two Pl.zero Pl.zero) := by kernel_rfl
/-! ### what a record may have -/
def Rc.plain (r : Rc) : Bool :=
  if r.k = 1 then decide (r.ch = 0) && decide (r.pl = Pl.zero) && decide (r.ns.length = 0) && decide (r.s.its.length ≤ 40)
  else if r.k = 2 then decide (r.s.p0 = Pl.zero ∧ r.s.p1 = Pl.zero) && decide (r.s.its.length = 0) && (decide (r.ch = 0) || decide (r.ch = 1)) && decide (r.ns.length ≤ 16)
  else false
theorem It.len {h : PH} {v : Value} {l : List It} (S : ISl h v l) : SemP PG (Builtin.len_ #[T_sl_api_Item] T_int #[v]) = some (.int .i64 l.length) := by
  have := S.len (t' := T_int) T_sl_api_Item.und
  rw [List.length_map] at this
  exact this
theorem Nt.len {h : PH} {v : Value} {l : List Nt} (S : NSl h v l) : SemP PG (Builtin.len_ #[T_sl_api_Note] T_int #[v]) = some (.int .i64 l.length) := by
  have := S.len (t' := T_int) T_sl_api_Note.und
  rw [List.length_map] at this
  exact this
theorem beqz {n : Nat} : (((n : Nat) : Int) == 0) = decide (n = 0) := by rw [Bool.eq_iff_iff]; simp
theorem leN {n m : Nat} : ((n : Int) ≤ (m : Int)) = (n ≤ m) := by rw [Int.ofNat_le]
theorem plain_ok {h : PH} {r : Rc} {v w : Value} (V : ISl h v r.s.its) (W : NSl h w r.ns) {k : Value → PH → Prop} (hk : ∀ h', Ext h h' → k (.bool r.plain) h') : CallsH PG id_record_plain #[r.v v w] h k := by
  apply record_plain.call
  unfold record_plain
  intro r1 hr
  try rw [bindH_eq]
  have u1 : Ext h (h.set r1 (.cells (Value.cells (r.v v w)) T_api_Record)) := Upd.new hr
  have B : Bx (h.set r1 (.cells (Value.cells (r.v v w)) T_api_Record)) r1 (r.cells v w) := Bx.new
  generalize h.set r1 (.cells (Value.cells (r.v v w)) T_api_Record) = h1 at *
  have hk := hk h1 u1
  have lp : SemE PG h1 (Instr.loadAt T_api_Place (.pointer (some ⟨r1, 7, none⟩))) = some (.agg r.pl.cells.toArray) := T_api_Place.agg B (by show 7 + 2 ≤ 10; decide)
  have l2 : SemE PG h1 (Instr.loadAt T_2_api_Place (.pointer (some ⟨r1, 1, none⟩))) = some (two r.s.p0 r.s.p1) := T_2_api_Place.agg B (by show 1 + 4 ≤ 10; decide)
  have lv := It.len V
  have lw := Nt.len W
  have g40 : ((r.s.its.length : Int) ≤ 40) = (r.s.its.length ≤ 40) := leN (m := 40)
  have g16 : ((r.ns.length : Int) ≤ 16) = (r.ns.length ≤ 16) := leN (m := 16)
  unfold Rc.plain at hk
  simp only [T_api_Record.f0, T_api_Record.f1, T_api_Record.f2, T_api_Record.f3, T_api_Record.f4, T_api_Daemon.f0, T_api_Daemon.f1, T_int.load, B.cell, Rc.cells, Nat.zero_add, Nat.reduceAdd, eqlI, popO_some, bindH_eq, condV_bool, condV_true, condV_false, yV_bool, gopV_tt, gopV_ff, gopV_tf, gopV_ft, pickV_t, pickV_f, pickV_bool, nilS_ptr, add_eq, sub_eq, mul_eq, lss_eq, leq_eq, gtr_eq, geq_eq, not_eq, minI_eq, maxI_eq, extract_0, extract_1, extract_2, eqlI, neqI, makeFunc_eq, decide_true, decide_false, if_true, if_false, Bool.false_eq_true, Bool.not_true, Bool.not_false, reduceIte, List.getElem?_toArray, List.getElem?_cons_zero, List.getElem?_cons_succ, Option.isSome_none, List.length_map]
  by_cases k1 : r.k = 1
  · have q : (r.k == 1) = true := by simp [k1]
    rw [if_pos k1] at hk
    by_cases c0 : r.ch = 0
    · have q0 : (r.ch == 0) = true := by simp [c0]
      by_cases c1 : r.pl = Pl.zero
      · by_cases c2 : r.ns.length = 0
        · simp only [q, q0, lp, pl_zero, Pl.eql, c0, c1, c2, g40, T_sl_api_Note.load, T_sl_api_Item.load, B.cell, Rc.cells, Nat.zero_add, Nat.reduceAdd, lv, lw, eqlI, beqz, T_api_Record.f4, T_api_Record.f1, T_api_Daemon.f1, decide_true, popO_some, bindH_eq, condV_bool, condV_true, condV_false, yV_bool, gopV_tt, gopV_ff, gopV_tf, gopV_ft, pickV_t, pickV_f, pickV_bool, nilS_ptr, add_eq, sub_eq, mul_eq, lss_eq, leq_eq, gtr_eq, geq_eq, not_eq, minI_eq, maxI_eq, extract_0, extract_1, extract_2, eqlI, neqI, makeFunc_eq, decide_true, decide_false, if_true, if_false, Bool.false_eq_true, Bool.not_true, Bool.not_false, reduceIte, List.getElem?_toArray, List.getElem?_cons_zero, List.getElem?_cons_succ, Option.isSome_none, List.length_map, yV_undef, gopV_none, Nat.zero_add, Nat.reduceAdd, beq_self_eq_true, bne_self_eq_false, and_self, Bool.true_and, Bool.false_and, Bool.and_true, Bool.and_false, Bool.true_or, Bool.false_or, Bool.or_true, Bool.or_false] at hk ⊢
          exact hk
        · simp only [q, q0, lp, pl_zero, Pl.eql, c0, c1, c2, g40, T_sl_api_Note.load, T_sl_api_Item.load, B.cell, Rc.cells, Nat.zero_add, Nat.reduceAdd, lv, lw, eqlI, beqz, T_api_Record.f4, T_api_Record.f1, T_api_Daemon.f1, decide_true, decide_false, Bool.true_and, Bool.false_and, popO_some, bindH_eq, condV_bool, condV_true, condV_false, yV_bool, gopV_tt, gopV_ff, gopV_tf, gopV_ft, pickV_t, pickV_f, pickV_bool, nilS_ptr, add_eq, sub_eq, mul_eq, lss_eq, leq_eq, gtr_eq, geq_eq, not_eq, minI_eq, maxI_eq, extract_0, extract_1, extract_2, eqlI, neqI, makeFunc_eq, decide_true, decide_false, if_true, if_false, Bool.false_eq_true, Bool.not_true, Bool.not_false, reduceIte, List.getElem?_toArray, List.getElem?_cons_zero, List.getElem?_cons_succ, Option.isSome_none, List.length_map, yV_undef, gopV_none, Nat.zero_add, Nat.reduceAdd, beq_self_eq_true, bne_self_eq_false, and_self, Bool.true_and, Bool.false_and, Bool.and_true, Bool.and_false, Bool.true_or, Bool.false_or, Bool.or_true, Bool.or_false] at hk ⊢
          exact hk
      · simp only [q, q0, lp, pl_zero, Pl.eql, c0, c1, decide_true, decide_false, Bool.true_and, Bool.false_and, popO_some, bindH_eq, condV_bool, condV_true, condV_false, yV_bool, gopV_tt, gopV_ff, gopV_tf, gopV_ft, pickV_t, pickV_f, pickV_bool, nilS_ptr, add_eq, sub_eq, mul_eq, lss_eq, leq_eq, gtr_eq, geq_eq, not_eq, minI_eq, maxI_eq, extract_0, extract_1, extract_2, eqlI, neqI, makeFunc_eq, decide_true, decide_false, if_true, if_false, Bool.false_eq_true, Bool.not_true, Bool.not_false, reduceIte, List.getElem?_toArray, List.getElem?_cons_zero, List.getElem?_cons_succ, Option.isSome_none, List.length_map, yV_undef, gopV_none, Nat.zero_add, Nat.reduceAdd, beq_self_eq_true, bne_self_eq_false, and_self, Bool.true_and, Bool.false_and, Bool.and_true, Bool.and_false, Bool.true_or, Bool.false_or, Bool.or_true, Bool.or_false] at hk ⊢
        exact hk
    · have q0 : (r.ch == 0) = false := by simp [c0]
      simp only [q, q0, c0, decide_false, Bool.false_and, popO_some, bindH_eq, condV_bool, condV_true, condV_false, yV_bool, gopV_tt, gopV_ff, gopV_tf, gopV_ft, pickV_t, pickV_f, pickV_bool, nilS_ptr, add_eq, sub_eq, mul_eq, lss_eq, leq_eq, gtr_eq, geq_eq, not_eq, minI_eq, maxI_eq, extract_0, extract_1, extract_2, eqlI, neqI, makeFunc_eq, decide_true, decide_false, if_true, if_false, Bool.false_eq_true, Bool.not_true, Bool.not_false, reduceIte, List.getElem?_toArray, List.getElem?_cons_zero, List.getElem?_cons_succ, Option.isSome_none, List.length_map, yV_undef, gopV_none, Nat.zero_add, Nat.reduceAdd, beq_self_eq_true, bne_self_eq_false, and_self, Bool.true_and, Bool.false_and, Bool.and_true, Bool.and_false, Bool.true_or, Bool.false_or, Bool.or_true, Bool.or_false] at hk ⊢
      exact hk
  · have q : (r.k == 1) = false := by simp [k1]
    rw [if_neg k1] at hk
    by_cases k2 : r.k = 2
    · have q2 : (r.k == 2) = true := by simp [k2]
      rw [if_pos k2] at hk
      simp only [q, q2, l2, two_zero, two.eql, popO_some, bindH_eq, condV_bool, condV_true, condV_false, yV_bool, gopV_tt, gopV_ff, gopV_tf, gopV_ft, pickV_t, pickV_f, pickV_bool, nilS_ptr, add_eq, sub_eq, mul_eq, lss_eq, leq_eq, gtr_eq, geq_eq, not_eq, minI_eq, maxI_eq, extract_0, extract_1, extract_2, eqlI, neqI, makeFunc_eq, decide_true, decide_false, if_true, if_false, Bool.false_eq_true, Bool.not_true, Bool.not_false, reduceIte, List.getElem?_toArray, List.getElem?_cons_zero, List.getElem?_cons_succ, Option.isSome_none, List.length_map]
      by_cases c0 : r.s.p0 = Pl.zero ∧ r.s.p1 = Pl.zero
      · by_cases c1 : r.s.its.length = 0
        · by_cases c2 : r.ch = 0
          · have q3 : (r.ch == 0) = true := by simp [c2]
            simp only [q3, c0, c1, c2, g16, T_sl_api_Note.load, T_sl_api_Item.load, T_int.load, B.cell, Rc.cells, Nat.zero_add, Nat.reduceAdd, lv, lw, eqlI, beqz, T_api_Record.f4, T_api_Record.f2, T_api_Record.f1, T_api_Daemon.f1, and_self, decide_true, decide_false, Bool.true_and, Bool.true_or, popO_some, bindH_eq, condV_bool, condV_true, condV_false, yV_bool, gopV_tt, gopV_ff, gopV_tf, gopV_ft, pickV_t, pickV_f, pickV_bool, nilS_ptr, add_eq, sub_eq, mul_eq, lss_eq, leq_eq, gtr_eq, geq_eq, not_eq, minI_eq, maxI_eq, extract_0, extract_1, extract_2, eqlI, neqI, makeFunc_eq, decide_true, decide_false, if_true, if_false, Bool.false_eq_true, Bool.not_true, Bool.not_false, reduceIte, List.getElem?_toArray, List.getElem?_cons_zero, List.getElem?_cons_succ, Option.isSome_none, List.length_map, yV_undef, gopV_none, Nat.zero_add, Nat.reduceAdd, beq_self_eq_true, bne_self_eq_false, and_self, Bool.true_and, Bool.false_and, Bool.and_true, Bool.and_false, Bool.true_or, Bool.false_or, Bool.or_true, Bool.or_false] at hk ⊢
            exact hk
          · have q3 : (r.ch == 0) = false := by simp [c2]
            by_cases c3 : r.ch = 1
            · have q4 : (r.ch == 1) = true := by simp [c3]
              simp only [q3, q4, c0, c1, c2, c3, g16, T_sl_api_Note.load, T_sl_api_Item.load, T_int.load, B.cell, Rc.cells, Nat.zero_add, Nat.reduceAdd, lv, lw, eqlI, beqz, T_api_Record.f4, T_api_Record.f2, T_api_Record.f1, T_api_Daemon.f1, and_self, decide_true, decide_false, Bool.true_and, Bool.false_or, popO_some, bindH_eq, condV_bool, condV_true, condV_false, yV_bool, gopV_tt, gopV_ff, gopV_tf, gopV_ft, pickV_t, pickV_f, pickV_bool, nilS_ptr, add_eq, sub_eq, mul_eq, lss_eq, leq_eq, gtr_eq, geq_eq, not_eq, minI_eq, maxI_eq, extract_0, extract_1, extract_2, eqlI, neqI, makeFunc_eq, decide_true, decide_false, if_true, if_false, Bool.false_eq_true, Bool.not_true, Bool.not_false, reduceIte, List.getElem?_toArray, List.getElem?_cons_zero, List.getElem?_cons_succ, Option.isSome_none, List.length_map, yV_undef, gopV_none, Nat.zero_add, Nat.reduceAdd, beq_self_eq_true, bne_self_eq_false, and_self, Bool.true_and, Bool.false_and, Bool.and_true, Bool.and_false, Bool.true_or, Bool.false_or, Bool.or_true, Bool.or_false, show ((1 : Int) == 0) = false from rfl, show ((1 : Int) = 0) = False from eq_false (by decide)] at hk ⊢
              exact hk
            · have q4 : (r.ch == 1) = false := by simp [c3]
              simp only [q3, q4, c0, c1, c2, c3, g16, T_sl_api_Note.load, T_sl_api_Item.load, T_int.load, B.cell, Rc.cells, Nat.zero_add, Nat.reduceAdd, lv, lw, eqlI, beqz, T_api_Record.f4, T_api_Record.f2, T_api_Record.f1, T_api_Daemon.f1, and_self, popO_some, bindH_eq, condV_bool, condV_true, condV_false, yV_bool, gopV_tt, gopV_ff, gopV_tf, gopV_ft, pickV_t, pickV_f, pickV_bool, nilS_ptr, add_eq, sub_eq, mul_eq, lss_eq, leq_eq, gtr_eq, geq_eq, not_eq, minI_eq, maxI_eq, extract_0, extract_1, extract_2, eqlI, neqI, makeFunc_eq, decide_true, decide_false, if_true, if_false, Bool.false_eq_true, Bool.not_true, Bool.not_false, reduceIte, List.getElem?_toArray, List.getElem?_cons_zero, List.getElem?_cons_succ, Option.isSome_none, List.length_map, yV_undef, gopV_none, Nat.zero_add, Nat.reduceAdd, beq_self_eq_true, bne_self_eq_false, and_self, Bool.true_and, Bool.false_and, Bool.and_true, Bool.and_false, Bool.true_or, Bool.false_or, Bool.or_true, Bool.or_false] at hk ⊢
              exact hk
        · simp only [c0, c1, T_sl_api_Note.load, T_sl_api_Item.load, B.cell, Rc.cells, Nat.zero_add, Nat.reduceAdd, lv, lw, eqlI, beqz, T_api_Record.f1, T_api_Daemon.f1, and_self, decide_true, decide_false, Bool.true_and, Bool.false_and, popO_some, bindH_eq, condV_bool, condV_true, condV_false, yV_bool, gopV_tt, gopV_ff, gopV_tf, gopV_ft, pickV_t, pickV_f, pickV_bool, nilS_ptr, add_eq, sub_eq, mul_eq, lss_eq, leq_eq, gtr_eq, geq_eq, not_eq, minI_eq, maxI_eq, extract_0, extract_1, extract_2, eqlI, neqI, makeFunc_eq, decide_true, decide_false, if_true, if_false, Bool.false_eq_true, Bool.not_true, Bool.not_false, reduceIte, List.getElem?_toArray, List.getElem?_cons_zero, List.getElem?_cons_succ, Option.isSome_none, List.length_map, yV_undef, gopV_none, Nat.zero_add, Nat.reduceAdd, beq_self_eq_true, bne_self_eq_false, and_self, Bool.true_and, Bool.false_and, Bool.and_true, Bool.and_false, Bool.true_or, Bool.false_or, Bool.or_true, Bool.or_false] at hk ⊢
          exact hk
      · simp only [c0, decide_false, Bool.false_and, popO_some, bindH_eq, condV_bool, condV_true, condV_false, yV_bool, gopV_tt, gopV_ff, gopV_tf, gopV_ft, pickV_t, pickV_f, pickV_bool, nilS_ptr, add_eq, sub_eq, mul_eq, lss_eq, leq_eq, gtr_eq, geq_eq, not_eq, minI_eq, maxI_eq, extract_0, extract_1, extract_2, eqlI, neqI, makeFunc_eq, decide_true, decide_false, if_true, if_false, Bool.false_eq_true, Bool.not_true, Bool.not_false, reduceIte, List.getElem?_toArray, List.getElem?_cons_zero, List.getElem?_cons_succ, Option.isSome_none, List.length_map, yV_undef, gopV_none, Nat.zero_add, Nat.reduceAdd, beq_self_eq_true, bne_self_eq_false, and_self, Bool.true_and, Bool.false_and, Bool.and_true, Bool.and_false, Bool.true_or, Bool.false_or, Bool.or_true, Bool.or_false] at hk ⊢
        exact hk
    · have q2 : (r.k == 2) = false := by simp [k2]
      rw [if_neg k2] at hk
      simp only [q, q2, popO_some, bindH_eq, condV_bool, condV_true, condV_false, yV_bool, gopV_tt, gopV_ff, gopV_tf, gopV_ft, pickV_t, pickV_f, pickV_bool, nilS_ptr, add_eq, sub_eq, mul_eq, lss_eq, leq_eq, gtr_eq, geq_eq, not_eq, minI_eq, maxI_eq, extract_0, extract_1, extract_2, eqlI, neqI, makeFunc_eq, decide_true, decide_false, if_true, if_false, Bool.false_eq_true, Bool.not_true, Bool.not_false, reduceIte, List.getElem?_toArray, List.getElem?_cons_zero, List.getElem?_cons_succ, Option.isSome_none, List.length_map]
      exact hk
end Go.Proofs.YtlkjippiaghbmaaGreat
/- record: its bytes. -/
set_option linter.unusedSimpArgs false
set_option linter.unusedVariables false
namespace Go.Proofs.YtlkjippiaghbmaaGreat
open Go
set_option maxRecDepth 20000
def Rc.wr (r : Rc) : Stt :=
  if r.k = 1 then wList (wPl (wPl (wByte (0, []) r.k) r.s.p0) r.s.p1) (r.s.its.map It.x)
  else wList (wPl (wByte (wByte (0, []) r.k) r.ch) r.pl) (r.ns.map Nt.x)
def Rc.bytes (r : Rc) : Tx × Int := if r.plain then wBytes r.wr else ([], 1)
theorem index2_0 {p q : Pl} : SemP PG (Instr.index T_2_api_Place (two p q) (.int .i64 0)) = some (.agg p.cells.toArray) := by kernel_rfl
theorem index2_1 {p q : Pl} : SemP PG (Instr.index T_2_api_Place (two p q) (.int .i64 1)) = some (.agg q.cells.toArray) := by kernel_rfl
theorem index2 {p q : Pl} {i : Nat} (hi : i < 2) : SemP PG (Instr.index T_2_api_Place (two p q) (.int .i64 (i : Int))) = some (.agg (if i = 0 then p else q).cells.toArray) := by
  have : i = 0 ∨ i = 1 := by omega
  rcases this with rfl | rfl
  · exact index2_0
  · exact index2_1
theorem zW : zcells PG T_wire_Writer = #[.int .i64 0, .pointer none, .slice none 0 0] := by rw [T_wire_Writer.zc]; rfl
theorem WN.start {h : PH} {r : Nat} (hr : h r = none) : WN h (h.set r (.cells (zcells PG T_wire_Writer) T_wire_Writer)) r (0, []) [r] := by
  have hW : WAt (h.set r (.cells (zcells PG T_wire_Writer) T_wire_Writer)) r 0 [] [r] := by
    rw [zW]
    exact ⟨_, _, [], set_same, .inl rfl, OwnR.nil, rfl, by simp⟩
  exact ⟨hW, Upd.new hr, fun b hb => .inr (by simp only [List.mem_singleton] at hb; subst hb; exact hr)⟩
theorem bytes_ok {h : PH} {r : Rc} {v w : Value} (V : ISl h v r.s.its) (W : NSl h w r.ns) (wf : r.wf) {k : Value → PH → Prop} (hk : ∀ h', Ext h h' → k (.tuple #[.string (tx r.bytes.1), .int .i64 r.bytes.2]) h') : CallsH PG id_record_Bytes #[r.v v w] h k := by
  apply record_Bytes.call
  unfold record_Bytes
  intro r1 hr
  try rw [bindH_eq]
  have u1 : Ext h (h.set r1 (.cells (Value.cells (r.v v w)) T_api_Record)) := Upd.new hr
  have B : Bx (h.set r1 (.cells (Value.cells (r.v v w)) T_api_Record)) r1 (r.cells v w) := Bx.new
  generalize h.set r1 (.cells (Value.cells (r.v v w)) T_api_Record) = h1 at *
  have lr : SemE PG h1 (Instr.loadAt T_api_Record (.pointer (some ⟨r1, 0, none⟩))) = some (r.v v w) := T_api_Record.agg B (by show 0 + 10 ≤ 10; decide)
  simp only [lr, popO_some, bindH_eq, condV_bool, condV_true, condV_false, yV_bool, gopV_tt, gopV_ff, gopV_tf, gopV_ft, pickV_t, pickV_f, pickV_bool, nilS_ptr, add_eq, sub_eq, mul_eq, lss_eq, leq_eq, gtr_eq, geq_eq, not_eq, minI_eq, maxI_eq, extract_0, extract_1, extract_2, eqlI, neqI, makeFunc_eq, decide_true, decide_false, if_true, if_false, Bool.false_eq_true, Bool.not_true, Bool.not_false, reduceIte, List.getElem?_toArray, List.getElem?_cons_zero, List.getElem?_cons_succ, Option.isSome_none, List.length_map]
  refine plain_ok (V.ext u1) (W.ext u1) fun h2 u2 => ?_
  have e2 := u1.trans u2
  have B2 := B.ext u2
  unfold Rc.bytes at hk
  cases hp : r.plain with
  | false =>
    rw [hp] at hk
    simp only [popO_some, bindH_eq, condV_bool, condV_true, condV_false, yV_bool, gopV_tt, gopV_ff, gopV_tf, gopV_ft, pickV_t, pickV_f, pickV_bool, nilS_ptr, add_eq, sub_eq, mul_eq, lss_eq, leq_eq, gtr_eq, geq_eq, not_eq, minI_eq, maxI_eq, extract_0, extract_1, extract_2, eqlI, neqI, makeFunc_eq, decide_true, decide_false, if_true, if_false, Bool.false_eq_true, Bool.not_true, Bool.not_false, reduceIte, List.getElem?_toArray, List.getElem?_cons_zero, List.getElem?_cons_succ, Option.isSome_none, List.length_map, yV_undef, gopV_none, Nat.zero_add, Nat.reduceAdd, beq_self_eq_true, bne_self_eq_false, and_self, Bool.true_and, Bool.false_and, Bool.and_true, Bool.and_false, Bool.true_or, Bool.false_or, Bool.or_true, Bool.or_false] at hk ⊢
    exact hk _ e2
  | true =>
    rw [hp] at hk
    simp only [if_true] at hk
    simp only [popO_some, bindH_eq, condV_bool, condV_true, condV_false, yV_bool, gopV_tt, gopV_ff, gopV_tf, gopV_ft, pickV_t, pickV_f, pickV_bool, nilS_ptr, add_eq, sub_eq, mul_eq, lss_eq, leq_eq, gtr_eq, geq_eq, not_eq, minI_eq, maxI_eq, extract_0, extract_1, extract_2, eqlI, neqI, makeFunc_eq, decide_true, decide_false, if_true, if_false, Bool.false_eq_true, Bool.not_true, Bool.not_false, reduceIte, List.getElem?_toArray, List.getElem?_cons_zero, List.getElem?_cons_succ, Option.isSome_none, List.length_map, yV_undef, gopV_none, Nat.zero_add, Nat.reduceAdd, beq_self_eq_true, bne_self_eq_false, and_self, Bool.true_and, Bool.false_and, Bool.and_true, Bool.and_false, Bool.true_or, Bool.false_or, Bool.or_true, Bool.or_false]
    intro rw_ hrw
    try rw [bindH_eq]
    have S0 := WN.start hrw
    have u3 : Ext h2 (h2.set rw_ (.cells (zcells PG T_wire_Writer) T_wire_Writer)) := Upd.new hrw
    generalize h2.set rw_ (.cells (zcells PG T_wire_Writer) T_wire_Writer) = h3 at *
    -- what was there when the writer was made stays
    have bx : ∀ {h' : PH}, Ext h2 h' → Bx h' r1 (r.cells v w) := fun u => B2.ext u
    have vv : ∀ {h' : PH}, Ext h2 h' → ISl h' v r.s.its := fun u => V.ext (e2.trans u)
    have ww : ∀ {h' : PH}, Ext h2 h' → NSl h' w r.ns := fun u => W.ext (e2.trans u)
    have few : r.s.its.length ≤ 40 ∧ r.ns.length ≤ 16 ∧ (r.k = 1 ∨ r.k = 2) := by
      unfold Rc.plain at hp
      split at hp
      · rename_i hk1
        simp only [Bool.and_eq_true, decide_eq_true_eq] at hp
        exact ⟨hp.2, by omega, .inl hk1⟩
      · split at hp
        · rename_i hk2
          simp only [Bool.and_eq_true, decide_eq_true_eq] at hp
          exact ⟨by omega, hp.2, .inr hk2⟩
        · cases hp
    obtain ⟨f1, f2, fk⟩ := few
    simp only [T_api_Record.f0, T_int.load, (bx S0.upd).cell, Rc.cells, popO_some, bindH_eq, condV_bool, condV_true, condV_false, yV_bool, gopV_tt, gopV_ff, gopV_tf, gopV_ft, pickV_t, pickV_f, pickV_bool, nilS_ptr, add_eq, sub_eq, mul_eq, lss_eq, leq_eq, gtr_eq, geq_eq, not_eq, minI_eq, maxI_eq, extract_0, extract_1, extract_2, eqlI, neqI, makeFunc_eq, decide_true, decide_false, if_true, if_false, Bool.false_eq_true, Bool.not_true, Bool.not_false, reduceIte, List.getElem?_toArray, List.getElem?_cons_zero, List.getElem?_cons_succ, Option.isSome_none, List.length_map, yV_undef, gopV_none, Nat.zero_add, Nat.reduceAdd, beq_self_eq_true, bne_self_eq_false, and_self, Bool.true_and, Bool.false_and, Bool.and_true, Bool.and_false, Bool.true_or, Bool.false_or, Bool.or_true, Bool.or_false]
    refine Byte_w S0 (by simp) r.k fun h4 F4 x4 e4 S4 K4 => ?_
    have b4 := wByte_len (0, []) r.k
    rw [← e4] at b4
    simp only [List.length_nil] at b4
    have fin : ∀ {st : Stt} {h' : PH} {F' : List Nat}, WN h2 h' rw_ st F' → st = r.wr → CallsH PG id_wire_Writer_Bytes #[.pointer (some ⟨rw_, 0, none⟩)] h' fun v36 h37 => popO (SemP PG (Instr.extract v36 0)) fun v38 => popO (SemP PG (Instr.extract v36 1)) fun v39 => k (.tuple #[v38, v39]) h37 := by
      intro st h' F' S' est
      refine Bytes_ok S'.at_ fun h9 u9 => ?_
      simp only [popO_some, bindH_eq, condV_bool, condV_true, condV_false, yV_bool, gopV_tt, gopV_ff, gopV_tf, gopV_ft, pickV_t, pickV_f, pickV_bool, nilS_ptr, add_eq, sub_eq, mul_eq, lss_eq, leq_eq, gtr_eq, geq_eq, not_eq, minI_eq, maxI_eq, extract_0, extract_1, extract_2, eqlI, neqI, makeFunc_eq, decide_true, decide_false, if_true, if_false, Bool.false_eq_true, Bool.not_true, Bool.not_false, reduceIte, List.getElem?_toArray, List.getElem?_cons_zero, List.getElem?_cons_succ, Option.isSome_none, List.length_map]
      rw [← est] at hk
      exact hk h9 (e2.trans (S'.upd.fresh u9 S'.fresh))
    simp only [T_api_Record.f0, T_api_Record.f1, T_api_Record.f2, T_api_Daemon.f0, T_int.load, (bx S4.upd).cell, Rc.cells, eqlI, popO_some, bindH_eq, condV_bool, condV_true, condV_false, yV_bool, gopV_tt, gopV_ff, gopV_tf, gopV_ft, pickV_t, pickV_f, pickV_bool, nilS_ptr, add_eq, sub_eq, mul_eq, lss_eq, leq_eq, gtr_eq, geq_eq, not_eq, minI_eq, maxI_eq, extract_0, extract_1, extract_2, eqlI, neqI, makeFunc_eq, decide_true, decide_false, if_true, if_false, Bool.false_eq_true, Bool.not_true, Bool.not_false, reduceIte, List.getElem?_toArray, List.getElem?_cons_zero, List.getElem?_cons_succ, Option.isSome_none, List.length_map, yV_undef, gopV_none, Nat.zero_add, Nat.reduceAdd, beq_self_eq_true, bne_self_eq_false, and_self, Bool.true_and, Bool.false_and, Bool.and_true, Bool.and_false, Bool.true_or, Bool.false_or, Bool.or_true, Bool.or_false]
    by_cases k1 : r.k = 1
    · have q : (r.k == 1) = true := by simp [k1]
      have l2 : SemE PG h4 (Instr.loadAt T_2_api_Place (.pointer (some ⟨r1, 1, none⟩))) = some (two r.s.p0 r.s.p1) := T_2_api_Place.agg (bx S4.upd) (by show 1 + 4 ≤ 10; decide)
      simp only [q, l2, popO_some, bindH_eq, condV_bool, condV_true, condV_false, yV_bool, gopV_tt, gopV_ff, gopV_tf, gopV_ft, pickV_t, pickV_f, pickV_bool, nilS_ptr, add_eq, sub_eq, mul_eq, lss_eq, leq_eq, gtr_eq, geq_eq, not_eq, minI_eq, maxI_eq, extract_0, extract_1, extract_2, eqlI, neqI, makeFunc_eq, decide_true, decide_false, if_true, if_false, Bool.false_eq_true, Bool.not_true, Bool.not_false, reduceIte, List.getElem?_toArray, List.getElem?_cons_zero, List.getElem?_cons_succ, Option.isSome_none, List.length_map, yV_undef, gopV_none, Nat.zero_add, Nat.reduceAdd, beq_self_eq_true, bne_self_eq_false, and_self, Bool.true_and, Bool.false_and, Bool.and_true, Bool.and_false, Bool.true_or, Bool.false_or, Bool.or_true, Bool.or_false]
      refine ⟨fun vs h' => ∃ (i : Nat) (st : Stt) (F : List Nat), i ≤ 2 ∧ vs = [.pointer (some ⟨r1, 0, none⟩), .pointer (some ⟨rw_, 0, none⟩), two r.s.p0 r.s.p1, .int .i64 (i : Int)] ∧ WN h2 h' rw_ st F ∧ st = (if i = 0 then x4 else if i = 1 then wPl x4 r.s.p0 else wPl (wPl x4 r.s.p0) r.s.p1), upTo 2 3, ⟨0, _, _, by omega, rfl, S4, rfl⟩, ?_⟩
      rintro ρ h' ⟨i, st, F, hi, hvs, S', est⟩
      simp only [List.map_cons, List.map_nil, List.cons.injEq, and_true] at hvs
      obtain ⟨v1, v4, v18, v19⟩ := hvs
      simp only [v1, v4, v18, v19, List.map_cons, List.map_nil]
      unfold record_Bytes_b20
      have hst : st.2.length ≤ 100 := by
        have h1 := wPl_len x4 r.s.p0
        have h2 := wPl_len (wPl x4 r.s.p0) r.s.p1
        rw [est]
        split
        · omega
        · split <;> omega
      by_cases hl : i < 2
      · have g1 : ((i : Int) < 2) = True := eq_true (by omega)
        have gi : IntKind.i64.wrap ((i : Int) + 1) = ((i + 1 : Nat) : Int) := by rw [i64_wrap (by omega) (by omega)]; omega
        simp only [g1, index2 hl, popO_some, bindH_eq, condV_bool, condV_true, condV_false, yV_bool, gopV_tt, gopV_ff, gopV_tf, gopV_ft, pickV_t, pickV_f, pickV_bool, nilS_ptr, add_eq, sub_eq, mul_eq, lss_eq, leq_eq, gtr_eq, geq_eq, not_eq, minI_eq, maxI_eq, extract_0, extract_1, extract_2, eqlI, neqI, makeFunc_eq, decide_true, decide_false, if_true, if_false, Bool.false_eq_true, Bool.not_true, Bool.not_false, reduceIte, List.getElem?_toArray, List.getElem?_cons_zero, List.getElem?_cons_succ, Option.isSome_none, List.length_map]
        intro r5 hr5
        try rw [bindH_eq]
        refine T_api_Place.fill hr5 rfl (by simp [Pl.cells, isCell]) fun h5 B5 u5 => ?_
        have l5 : SemE PG h5 (Instr.loadAt T_api_Place (.pointer (some ⟨r5, 0, none⟩))) = some (.agg (if i = 0 then r.s.p0 else r.s.p1).cells.toArray) := T_api_Place.agg B5 (by show 0 + 2 ≤ 2; decide)
        simp only [l5, popO_some, bindH_eq, condV_bool, condV_true, condV_false, yV_bool, gopV_tt, gopV_ff, gopV_tf, gopV_ft, pickV_t, pickV_f, pickV_bool, nilS_ptr, add_eq, sub_eq, mul_eq, lss_eq, leq_eq, gtr_eq, geq_eq, not_eq, minI_eq, maxI_eq, extract_0, extract_1, extract_2, eqlI, neqI, makeFunc_eq, decide_true, decide_false, if_true, if_false, Bool.false_eq_true, Bool.not_true, Bool.not_false, reduceIte, List.getElem?_toArray, List.getElem?_cons_zero, List.getElem?_cons_succ, Option.isSome_none, List.length_map]
        have wq : (if i = 0 then r.s.p0 else r.s.p1).wf := by split; exact wf.s.a; exact wf.s.b
        refine PutPlace_w (WS.ext S' u5) (by omega) _ wq.1 wq.2 fun h6 F6 S6 K6 => ?_
        simp only [gi, popO_some, bindH_eq, condV_bool, condV_true, condV_false, yV_bool, gopV_tt, gopV_ff, gopV_tf, gopV_ft, pickV_t, pickV_f, pickV_bool, nilS_ptr, add_eq, sub_eq, mul_eq, lss_eq, leq_eq, gtr_eq, geq_eq, not_eq, minI_eq, maxI_eq, extract_0, extract_1, extract_2, eqlI, neqI, makeFunc_eq, decide_true, decide_false, if_true, if_false, Bool.false_eq_true, Bool.not_true, Bool.not_false, reduceIte, List.getElem?_toArray, List.getElem?_cons_zero, List.getElem?_cons_succ, Option.isSome_none, List.length_map]
        refine ⟨⟨i + 1, _, F6, by omega, rfl, S6, ?_⟩, ?_⟩
        · have : i = 0 ∨ i = 1 := by omega
          rcases this with rfl | rfl
          · rw [est]; rfl
          · rw [est]; rfl
        · simp only [upTo, List.getElem?_cons_succ, List.getElem?_cons_zero]
          omega
      · obtain rfl : i = 2 := by omega
        have g1 : (((2 : Nat) : Int) < 2) = False := eq_false (by omega)
        simp only [g1, T_api_Record.f1, T_api_Daemon.f1, T_sl_api_Item.load, (bx S'.upd).cell, Rc.cells, popO_some, bindH_eq, condV_bool, condV_true, condV_false, yV_bool, gopV_tt, gopV_ff, gopV_tf, gopV_ft, pickV_t, pickV_f, pickV_bool, nilS_ptr, add_eq, sub_eq, mul_eq, lss_eq, leq_eq, gtr_eq, geq_eq, not_eq, minI_eq, maxI_eq, extract_0, extract_1, extract_2, eqlI, neqI, makeFunc_eq, decide_true, decide_false, if_true, if_false, Bool.false_eq_true, Bool.not_true, Bool.not_false, reduceIte, List.getElem?_toArray, List.getElem?_cons_zero, List.getElem?_cons_succ, Option.isSome_none, List.length_map, yV_undef, gopV_none, Nat.zero_add, Nat.reduceAdd, beq_self_eq_true, bne_self_eq_false, and_self, Bool.true_and, Bool.false_and, Bool.and_true, Bool.and_false, Bool.true_or, Bool.false_or, Bool.or_true, Bool.or_false]
        refine PutItems_w S' (by omega) (vv Upd.refl) (by omega) wf.s.i fun h6 F6 S6 K6 => ?_
        refine fin S6 ?_
        unfold Rc.wr
        rw [if_pos k1, est, e4]; rfl
    · have q : (r.k == 1) = false := by simp [k1]
      simp only [q, popO_some, bindH_eq, condV_bool, condV_true, condV_false, yV_bool, gopV_tt, gopV_ff, gopV_tf, gopV_ft, pickV_t, pickV_f, pickV_bool, nilS_ptr, add_eq, sub_eq, mul_eq, lss_eq, leq_eq, gtr_eq, geq_eq, not_eq, minI_eq, maxI_eq, extract_0, extract_1, extract_2, eqlI, neqI, makeFunc_eq, decide_true, decide_false, if_true, if_false, Bool.false_eq_true, Bool.not_true, Bool.not_false, reduceIte, List.getElem?_toArray, List.getElem?_cons_zero, List.getElem?_cons_succ, Option.isSome_none, List.length_map, yV_undef, gopV_none, Nat.zero_add, Nat.reduceAdd, beq_self_eq_true, bne_self_eq_false, and_self, Bool.true_and, Bool.false_and, Bool.and_true, Bool.and_false, Bool.true_or, Bool.false_or, Bool.or_true, Bool.or_false]
      refine Byte_w S4 (by omega) r.ch fun h5 F5 x5 e5 S5 K5 => ?_
      have b5 := wByte_len x4 r.ch
      rw [← e5] at b5
      have l5 : SemE PG h5 (Instr.loadAt T_api_Place (.pointer (some ⟨r1, 7, none⟩))) = some (.agg r.pl.cells.toArray) := T_api_Place.agg (bx S5.upd) (by show 7 + 2 ≤ 10; decide)
      simp only [T_api_Record.f3, l5, popO_some, bindH_eq, condV_bool, condV_true, condV_false, yV_bool, gopV_tt, gopV_ff, gopV_tf, gopV_ft, pickV_t, pickV_f, pickV_bool, nilS_ptr, add_eq, sub_eq, mul_eq, lss_eq, leq_eq, gtr_eq, geq_eq, not_eq, minI_eq, maxI_eq, extract_0, extract_1, extract_2, eqlI, neqI, makeFunc_eq, decide_true, decide_false, if_true, if_false, Bool.false_eq_true, Bool.not_true, Bool.not_false, reduceIte, List.getElem?_toArray, List.getElem?_cons_zero, List.getElem?_cons_succ, Option.isSome_none, List.length_map, yV_undef, gopV_none, Nat.zero_add, Nat.reduceAdd, beq_self_eq_true, bne_self_eq_false, and_self, Bool.true_and, Bool.false_and, Bool.and_true, Bool.and_false, Bool.true_or, Bool.false_or, Bool.or_true, Bool.or_false]
      refine PutPlace_w S5 (by omega) r.pl wf.pl.1 wf.pl.2 fun h6 F6 S6 K6 => ?_
      have b6 := wPl_len x5 r.pl
      simp only [T_api_Record.f4, T_sl_api_Note.load, (bx S6.upd).cell, Rc.cells, popO_some, bindH_eq, condV_bool, condV_true, condV_false, yV_bool, gopV_tt, gopV_ff, gopV_tf, gopV_ft, pickV_t, pickV_f, pickV_bool, nilS_ptr, add_eq, sub_eq, mul_eq, lss_eq, leq_eq, gtr_eq, geq_eq, not_eq, minI_eq, maxI_eq, extract_0, extract_1, extract_2, eqlI, neqI, makeFunc_eq, decide_true, decide_false, if_true, if_false, Bool.false_eq_true, Bool.not_true, Bool.not_false, reduceIte, List.getElem?_toArray, List.getElem?_cons_zero, List.getElem?_cons_succ, Option.isSome_none, List.length_map, yV_undef, gopV_none, Nat.zero_add, Nat.reduceAdd, beq_self_eq_true, bne_self_eq_false, and_self, Bool.true_and, Bool.false_and, Bool.and_true, Bool.and_false, Bool.true_or, Bool.false_or, Bool.or_true, Bool.or_false]
      refine PutNotes_w S6 (by omega) (ww Upd.refl) (by omega) wf.n fun h7 F7 S7 K7 => ?_
      refine fin S7 ?_
      unfold Rc.wr
      rw [if_neg k1, e5, e4]
end Go.Proofs.YtlkjippiaghbmaaGreat
/- record: what a text tells. -/
set_option linter.unusedSimpArgs false
set_option linter.unusedVariables false
namespace Go.Proofs.YtlkjippiaghbmaaGreat
open Go
set_option maxRecDepth 20000
def Rc.rd (s : Tx) : Rc × Stt :=
  if (rGet (0, s) 1).1 = 1 then
    (⟨1, ⟨(rPl (rGet (0, s) 1).2).1, (rPl (rPl (rGet (0, s) 1).2).2).1, (rList 2 (rPl (rPl (rGet (0, s) 1).2).2).2).1.map It.of⟩, 0, Pl.zero, []⟩, (rList 2 (rPl (rPl (rGet (0, s) 1).2).2).2).2)
  else if (rGet (0, s) 1).1 = 2 then
    (⟨2, Dm.zero, (rGet (rGet (0, s) 1).2 1).1, (rPl (rGet (rGet (0, s) 1).2 1).2).1, (rList 4 (rPl (rGet (rGet (0, s) 1).2 1).2).2).1.map Nt.of⟩, (rList 4 (rPl (rGet (rGet (0, s) 1).2 1).2).2).2)
  else (⟨(rGet (0, s) 1).1, Dm.zero, 0, Pl.zero, []⟩, (rGet (0, s) 1).2)
def parseSt (s : Tx) : Stt := if (Rc.rd s).1.plain then (Rc.rd s).2 else rFail (Rc.rd s).2 5
def parseP (s : Tx) : Rc × Int := if rEnd (parseSt s) ≠ 0 then (Rc.zero, rEnd (parseSt s)) else ((Rc.rd s).1, 0)
theorem rc_build (k : Nat) : SemP PG (Instr.build T_api_Record #[(0, .int .i64 (k : Int))]) = some (Rc.v ⟨k, Dm.zero, 0, Pl.zero, []⟩ (.slice none 0 0) (.slice none 0 0)) := by kernel_rfl
theorem rc_zero : SemP PG (Instr.build T_api_Record #[]) = some (Rc.v Rc.zero (.slice none 0 0) (.slice none 0 0)) := by kernel_rfl
theorem dm_zero : SemP PG (Instr.build T_api_Daemon #[]) = some (Dm.v Dm.zero (.slice none 0 0)) := by kernel_rfl
theorem Rc.isC (r : Rc) {v w : Value} (hv : Go.Proofs.YtlkjippiaghbmaaGreat.isCell v = true) (hw : Go.Proofs.YtlkjippiaghbmaaGreat.isCell w = true) : ∀ u ∈ r.cells v w, Go.Proofs.YtlkjippiaghbmaaGreat.isCell u = true := fun u hu => by
  simp only [Rc.cells, List.mem_cons, List.not_mem_nil, or_false] at hu
  rcases hu with rfl | rfl | rfl | rfl | rfl | rfl | rfl | rfl | rfl | rfl <;> first | rfl | exact hv | exact hw
theorem Dm.isC (d : Dm) {v : Value} (hv : Go.Proofs.YtlkjippiaghbmaaGreat.isCell v = true) : ∀ u ∈ d.cells v, Go.Proofs.YtlkjippiaghbmaaGreat.isCell u = true := fun u hu => by
  simp only [Dm.cells, List.mem_cons, List.not_mem_nil, or_false] at hu
  rcases hu with rfl | rfl | rfl | rfl | rfl <;> first | rfl | exact hv
theorem nilI {h : PH} : ISl h (.slice none 0 0) [] := (OwnR.nil (e := T_api_Item)).slR
theorem nilN {h : PH} : NSl h (.slice none 0 0) [] := (OwnR.nil (e := T_api_Note)).slR
theorem parse_ok {h : PH} {s : Tx} {k : Value → PH → Prop} (hk : ∀ h' v w, ISl h' v (parseP s).1.s.its → NSl h' w (parseP s).1.ns → NewV h v → NewV h w → Ext h h' → k (.tuple #[(parseP s).1.v v w, .int .i64 (parseP s).2]) h') : CallsH PG id_record_Parse #[.string (tx s)] h k := by
  apply record_Parse.call
  unfold record_Parse
  intro r1 hr1
  try rw [bindH_eq]
  have u1 : Ext h (h.set r1 (.cells (zcells PG T_api_Record) T_api_Record)) := Upd.new hr1
  have Z := T_api_Record.zbox (h := h) (r := r1)
  generalize h.set r1 (.cells (zcells PG T_api_Record) T_api_Record) = h1 at *
  refine NewReader_ok s fun a h2 R2 u2 na => ?_
  have e2 := u1.trans u2
  have Z2 := Z.ext u2
  have hra : r1 ≠ a := Z.apart na
  refine RByte_ok R2 fun h3 R3 u3 => ?_
  have fa : Fresh h [a] := Fresh.one (u1.none na)
  have e3 := e2.fresh u3 fa
  have Z3 := Z2.upd u3 (by simpa using hra)
  try simp only [popO_some, bindH_eq, condV_bool, condV_true, condV_false, yV_bool, gopV_tt, gopV_ff, gopV_tf, gopV_ft, pickV_t, pickV_f, pickV_bool, nilS_ptr, add_eq, sub_eq, mul_eq, lss_eq, leq_eq, gtr_eq, geq_eq, not_eq, minI_eq, maxI_eq, extract_0, extract_1, extract_2, eqlI, neqI, makeFunc_eq, decide_true, decide_false, if_true, if_false, Bool.false_eq_true, Bool.not_true, Bool.not_false, reduceIte, List.getElem?_toArray, List.getElem?_cons_zero, List.getElem?_cons_succ, Option.isSome_none, List.length_map]
  simp only [rc_build, popO_some, bindH_eq, condV_bool, condV_true, condV_false, yV_bool, gopV_tt, gopV_ff, gopV_tf, gopV_ft, pickV_t, pickV_f, pickV_bool, nilS_ptr, add_eq, sub_eq, mul_eq, lss_eq, leq_eq, gtr_eq, geq_eq, not_eq, minI_eq, maxI_eq, extract_0, extract_1, extract_2, eqlI, neqI, makeFunc_eq, decide_true, decide_false, if_true, if_false, Bool.false_eq_true, Bool.not_true, Bool.not_false, reduceIte, List.getElem?_toArray, List.getElem?_cons_zero, List.getElem?_cons_succ, Option.isSome_none, List.length_map]
  intro r8 hr8
  try rw [bindH_eq]
  refine T_api_Record.fill hr8 rfl (Rc.isC _ rfl rfl) fun h4 B4 u4 => ?_
  have e4 := e3.trans u4
  have R4 := R3.ext u4
  have Z4 := Z3.ext u4
  have n8a : r8 ≠ a := fun e => by have := R3.here; rw [← e, hr8] at this; cases this
  have n81 : r8 ≠ r1 := fun e => by subst e; exact Z3.known hr8
  have f8 : Fresh h [r8] := Fresh.one (e3.none hr8)
  have f1 : Fresh h [r1] := Fresh.one hr1
  -- the end: plain? at the end?
  have fin : ∀ {h5 : PH} {v w : Value}, RdAt h5 a (Rc.rd s).2.1 (Rc.rd s).2.2 → Bx h5 r8 ((Rc.rd s).1.cells v w) → Bx h5 r1 (Rc.zero.cells (.slice none 0 0) (.slice none 0 0)) → ISl h5 v (Rc.rd s).1.s.its → NSl h5 w (Rc.rd s).1.ns → NewV h v → NewV h w → (∀ x n c, v = .slice (some x) n c → x.block ≠ a ∧ x.block ≠ r1) → (∀ x n c, w = .slice (some x) n c → x.block ≠ a ∧ x.block ≠ r1) → Ext h h5 → record_Parse_k33 k (.pointer (some ⟨r1, 0, none⟩)) (.pointer (some ⟨a, 0, none⟩)) (.pointer (some ⟨r8, 0, none⟩)) h5 := by
    intro h5 v w R5 B5 Z5 V5 W5 nv nw hv hw e5
    unfold record_Parse_k33
    have l5 : SemE PG h5 (Instr.loadAt T_api_Record (.pointer (some ⟨r8, 0, none⟩))) = some ((Rc.rd s).1.v v w) := T_api_Record.agg B5 (by show 0 + 10 ≤ 10; decide)
    simp only [l5, popO_some, bindH_eq, condV_bool, condV_true, condV_false, yV_bool, gopV_tt, gopV_ff, gopV_tf, gopV_ft, pickV_t, pickV_f, pickV_bool, nilS_ptr, add_eq, sub_eq, mul_eq, lss_eq, leq_eq, gtr_eq, geq_eq, not_eq, minI_eq, maxI_eq, extract_0, extract_1, extract_2, eqlI, neqI, makeFunc_eq, decide_true, decide_false, if_true, if_false, Bool.false_eq_true, Bool.not_true, Bool.not_false, reduceIte, List.getElem?_toArray, List.getElem?_cons_zero, List.getElem?_cons_succ, Option.isSome_none, List.length_map]
    refine plain_ok V5 W5 fun h6 u6 => ?_
    have last : ∀ {h7 : PH}, RdAt h7 a (parseSt s).1 (parseSt s).2 → Upd [a] h6 h7 → record_Parse_k42 k (.pointer (some ⟨r1, 0, none⟩)) (.pointer (some ⟨a, 0, none⟩)) (.pointer (some ⟨r8, 0, none⟩)) h7 := by
      intro h7 R7 u7
      unfold record_Parse_k42
      have u57 : Upd [a] h5 h7 := u6.upd.trans u7
      have B7 := B5.upd u57 (by simpa using n8a)
      have Z7 := Z5.upd u57 (by simpa using hra)
      have V7 : ISl h7 v (Rc.rd s).1.s.its := V5.upd u57 fun x n c e => by simpa using (hv x n c e).1
      have W7 : NSl h7 w (Rc.rd s).1.ns := W5.upd u57 fun x n c e => by simpa using (hw x n c e).1
      have e7 := e5.fresh u57 fa
      refine REnd_ok R7 ?_
      unfold parseP at hk
      by_cases h0 : rEnd (parseSt s) = 0
      · rw [if_neg (by simp [h0])] at hk
        have l7 : SemE PG h7 (Instr.loadAt T_api_Record (.pointer (some ⟨r8, 0, none⟩))) = some ((Rc.rd s).1.v v w) := T_api_Record.agg B7 (by show 0 + 10 ≤ 10; decide)
        simp only [h0, neqI, bne_self_eq_false, l7, popO_some, bindH_eq, condV_bool, condV_true, condV_false, yV_bool, gopV_tt, gopV_ff, gopV_tf, gopV_ft, pickV_t, pickV_f, pickV_bool, nilS_ptr, add_eq, sub_eq, mul_eq, lss_eq, leq_eq, gtr_eq, geq_eq, not_eq, minI_eq, maxI_eq, extract_0, extract_1, extract_2, eqlI, neqI, makeFunc_eq, decide_true, decide_false, if_true, if_false, Bool.false_eq_true, Bool.not_true, Bool.not_false, reduceIte, List.getElem?_toArray, List.getElem?_cons_zero, List.getElem?_cons_succ, Option.isSome_none, List.length_map]
        refine T_api_Record.put Z7 rfl (by show 0 + 10 ≤ 10; decide) (Rc.isC _ V7.isc W7.isc) fun h8 B8 u8 => ?_
        have l8 : SemE PG h8 (Instr.loadAt T_api_Record (.pointer (some ⟨r1, 0, none⟩))) = some ((Rc.rd s).1.v v w) := T_api_Record.agg B8 (by show 0 + 10 ≤ 10; decide)
        simp only [l8, popO_some, bindH_eq, condV_bool, condV_true, condV_false, yV_bool, gopV_tt, gopV_ff, gopV_tf, gopV_ft, pickV_t, pickV_f, pickV_bool, nilS_ptr, add_eq, sub_eq, mul_eq, lss_eq, leq_eq, gtr_eq, geq_eq, not_eq, minI_eq, maxI_eq, extract_0, extract_1, extract_2, eqlI, neqI, makeFunc_eq, decide_true, decide_false, if_true, if_false, Bool.false_eq_true, Bool.not_true, Bool.not_false, reduceIte, List.getElem?_toArray, List.getElem?_cons_zero, List.getElem?_cons_succ, Option.isSome_none, List.length_map]
        exact hk h8 v w (V7.upd u8 fun x n c e => by simpa using (hv x n c e).2) (W7.upd u8 fun x n c e => by simpa using (hw x n c e).2) nv nw (e7.fresh u8 f1)
      · rw [if_pos h0] at hk
        have q : (rEnd (parseSt s) != 0) = true := by simp [h0]
        simp only [neqI, q, rc_zero, popO_some, bindH_eq, condV_bool, condV_true, condV_false, yV_bool, gopV_tt, gopV_ff, gopV_tf, gopV_ft, pickV_t, pickV_f, pickV_bool, nilS_ptr, add_eq, sub_eq, mul_eq, lss_eq, leq_eq, gtr_eq, geq_eq, not_eq, minI_eq, maxI_eq, extract_0, extract_1, extract_2, eqlI, neqI, makeFunc_eq, decide_true, decide_false, if_true, if_false, Bool.false_eq_true, Bool.not_true, Bool.not_false, reduceIte, List.getElem?_toArray, List.getElem?_cons_zero, List.getElem?_cons_succ, Option.isSome_none, List.length_map]
        refine T_api_Record.put Z7 rfl (by show 0 + 10 ≤ 10; decide) (Rc.isC _ rfl rfl) fun h8 B8 u8 => ?_
        have l8 : SemE PG h8 (Instr.loadAt T_api_Record (.pointer (some ⟨r1, 0, none⟩))) = some (Rc.zero.v (.slice none 0 0) (.slice none 0 0)) := T_api_Record.agg B8 (by show 0 + 10 ≤ 10; decide)
        simp only [l8, popO_some, bindH_eq, condV_bool, condV_true, condV_false, yV_bool, gopV_tt, gopV_ff, gopV_tf, gopV_ft, pickV_t, pickV_f, pickV_bool, nilS_ptr, add_eq, sub_eq, mul_eq, lss_eq, leq_eq, gtr_eq, geq_eq, not_eq, minI_eq, maxI_eq, extract_0, extract_1, extract_2, eqlI, neqI, makeFunc_eq, decide_true, decide_false, if_true, if_false, Bool.false_eq_true, Bool.not_true, Bool.not_false, reduceIte, List.getElem?_toArray, List.getElem?_cons_zero, List.getElem?_cons_succ, Option.isSome_none, List.length_map]
        exact hk h8 _ _ nilI nilN NewV.nil NewV.nil (e7.fresh u8 f1)
    have hst : parseSt s = if (Rc.rd s).1.plain then (Rc.rd s).2 else rFail (Rc.rd s).2 5 := rfl
    cases hp : (Rc.rd s).1.plain with
    | true =>
      rw [hp] at hst
      simp only [if_true] at hst
      simp only [popO_some, bindH_eq, condV_bool, condV_true, condV_false, yV_bool, gopV_tt, gopV_ff, gopV_tf, gopV_ft, pickV_t, pickV_f, pickV_bool, nilS_ptr, add_eq, sub_eq, mul_eq, lss_eq, leq_eq, gtr_eq, geq_eq, not_eq, minI_eq, maxI_eq, extract_0, extract_1, extract_2, eqlI, neqI, makeFunc_eq, decide_true, decide_false, if_true, if_false, Bool.false_eq_true, Bool.not_true, Bool.not_false, reduceIte, List.getElem?_toArray, List.getElem?_cons_zero, List.getElem?_cons_succ, Option.isSome_none, List.length_map]
      exact last (by rw [hst]; exact R5.ext u6) Upd.refl
    | false =>
      rw [hp] at hst
      simp only [Bool.false_eq_true, if_false] at hst
      simp only [T_wire_Reader.f0, popO_some, bindH_eq, condV_bool, condV_true, condV_false, yV_bool, gopV_tt, gopV_ff, gopV_tf, gopV_ft, pickV_t, pickV_f, pickV_bool, nilS_ptr, add_eq, sub_eq, mul_eq, lss_eq, leq_eq, gtr_eq, geq_eq, not_eq, minI_eq, maxI_eq, extract_0, extract_1, extract_2, eqlI, neqI, makeFunc_eq, decide_true, decide_false, if_true, if_false, Bool.false_eq_true, Bool.not_true, Bool.not_false, reduceIte, List.getElem?_toArray, List.getElem?_cons_zero, List.getElem?_cons_succ, Option.isSome_none, List.length_map]
      refine RFail_ok (R5.ext u6) 5 fun h7 R7 u7 => ?_
      exact last (by rw [hst]; exact R7) u7
  have newOf : ∀ {h5 h6 : PH} {e : TypeId} {rows : List (List Value)} {v : Value} {F : List Nat}, Ext h h5 → Bx h5 r1 (Rc.zero.cells (.slice none 0 0) (.slice none 0 0)) → Bx h5 r8 ((Rc.cells ⟨(rGet (0, s) 1).1, Dm.zero, 0, Pl.zero, []⟩ (.slice none 0 0) (.slice none 0 0))) ∨ (h5 r8 ≠ none) → h5 a ≠ none → OwnR h6 e 5 v rows F → Fresh h5 F → NewV h v ∧ (∀ x n c, v = .slice (some x) n c → x.block ≠ a ∧ x.block ≠ r1) ∧ (∀ x n c, v = .slice (some x) n c → x.block ≠ r8) := by
    intro h5 h6 e rows v F e5 Z5 B5 A5 O f
    have nv := O.newV f
    refine ⟨nv.of e5, fun x n c ev => ⟨fun e => A5 (by rw [← e]; exact nv x n c ev), fun e => Z5.known (by rw [← e]; exact nv x n c ev)⟩, fun x n c ev e => ?_⟩
    have hn := nv x n c ev
    rw [e] at hn
    rcases B5 with B5 | B5
    · exact B5.known hn
    · exact B5 hn
  simp only [T_api_Record.f0, T_int.load, B4.cell, Rc.cells, eqlI, popO_some, bindH_eq, condV_bool, condV_true, condV_false, yV_bool, gopV_tt, gopV_ff, gopV_tf, gopV_ft, pickV_t, pickV_f, pickV_bool, nilS_ptr, add_eq, sub_eq, mul_eq, lss_eq, leq_eq, gtr_eq, geq_eq, not_eq, minI_eq, maxI_eq, extract_0, extract_1, extract_2, eqlI, neqI, makeFunc_eq, decide_true, decide_false, if_true, if_false, Bool.false_eq_true, Bool.not_true, Bool.not_false, reduceIte, List.getElem?_toArray, List.getElem?_cons_zero, List.getElem?_cons_succ, Option.isSome_none, List.length_map, yV_undef, gopV_none, Nat.zero_add, Nat.reduceAdd, beq_self_eq_true, bne_self_eq_false, and_self, Bool.true_and, Bool.false_and, Bool.and_true, Bool.and_false, Bool.true_or, Bool.false_or, Bool.or_true, Bool.or_false]
  have hrd : Rc.rd s = if (rGet (0, s) 1).1 = 1 then _ else _ := rfl
  by_cases k1 : (rGet (0, s) 1).1 = 1
  · have q : (((rGet (0, s) 1).1 : Int) == 1) = true := by simp [k1]
    rw [if_pos k1] at hrd
    rw [k1] at B4
    generalize (rGet (0, s) 1).2 = st1 at *
    simp only [q, popO_some, bindH_eq, condV_bool, condV_true, condV_false, yV_bool, gopV_tt, gopV_ff, gopV_tf, gopV_ft, pickV_t, pickV_f, pickV_bool, nilS_ptr, add_eq, sub_eq, mul_eq, lss_eq, leq_eq, gtr_eq, geq_eq, not_eq, minI_eq, maxI_eq, extract_0, extract_1, extract_2, eqlI, neqI, makeFunc_eq, decide_true, decide_false, if_true, if_false, Bool.false_eq_true, Bool.not_true, Bool.not_false, reduceIte, List.getElem?_toArray, List.getElem?_cons_zero, List.getElem?_cons_succ, Option.isSome_none, List.length_map, yV_undef, gopV_none, Nat.zero_add, Nat.reduceAdd, beq_self_eq_true, bne_self_eq_false, and_self, Bool.true_and, Bool.false_and, Bool.and_true, Bool.and_false, Bool.true_or, Bool.false_or, Bool.or_true, Bool.or_false]
    refine ⟨fun vs h' => ∃ (i : Nat) (st : Stt) (p0 p1 : Pl), i ≤ 2 ∧ vs = [.pointer (some ⟨r1, 0, none⟩), .pointer (some ⟨a, 0, none⟩), .pointer (some ⟨r8, 0, none⟩), .int .i64 (i : Int)] ∧ RdAt h' a st.1 st.2 ∧ Bx h' r8 (Rc.cells ⟨1, ⟨p0, p1, []⟩, 0, Pl.zero, []⟩ (.slice none 0 0) (.slice none 0 0)) ∧ Bx h' r1 (Rc.zero.cells (.slice none 0 0) (.slice none 0 0)) ∧ Ext h h' ∧ (i = 0 → st = st1 ∧ p0 = Pl.zero ∧ p1 = Pl.zero) ∧ (i = 1 → st = (rPl st1).2 ∧ p0 = (rPl st1).1 ∧ p1 = Pl.zero) ∧ (i = 2 → st = (rPl (rPl st1).2).2 ∧ p0 = (rPl st1).1 ∧ p1 = (rPl (rPl st1).2).1), upTo 2 3, ⟨0, st1, _, _, by omega, rfl, R4, B4, Z4, e4, fun _ => ⟨rfl, rfl, rfl⟩, fun h => by omega, fun h => by omega⟩, ?_⟩
    rintro ρ h' ⟨i, st, p0, p1, hi, hvs, R', B', Z', e', c0, c1, c2⟩
    simp only [List.map_cons, List.map_nil, List.cons.injEq, and_true] at hvs
    obtain ⟨v2, v4, v5, v17⟩ := hvs
    simp only [v2, v4, v5, v17, List.map_cons, List.map_nil]
    unfold record_Parse_b16
    by_cases hl : i < 2
    · have g1 : ((i : Int) < 2) = True := eq_true (by omega)
      have gi : IntKind.i64.wrap ((i : Int) + 1) = ((i + 1 : Nat) : Int) := by rw [i64_wrap (by omega) (by omega)]; omega
      simp only [g1, popO_some, bindH_eq, condV_bool, condV_true, condV_false, yV_bool, gopV_tt, gopV_ff, gopV_tf, gopV_ft, pickV_t, pickV_f, pickV_bool, nilS_ptr, add_eq, sub_eq, mul_eq, lss_eq, leq_eq, gtr_eq, geq_eq, not_eq, minI_eq, maxI_eq, extract_0, extract_1, extract_2, eqlI, neqI, makeFunc_eq, decide_true, decide_false, if_true, if_false, Bool.false_eq_true, Bool.not_true, Bool.not_false, reduceIte, List.getElem?_toArray, List.getElem?_cons_zero, List.getElem?_cons_succ, Option.isSome_none, List.length_map]
      refine Place_r R' fun h5 R5 u5 => ?_
      have B5 := B'.upd u5 (by simpa using n8a)
      have Z5 := Z'.upd u5 (by simpa using hra)
      have e5 := e'.fresh u5 fa
      have ix := indexAt_array (P := PG) (t := T_2_api_Place) (b := r8) (o := 1) (k := .i64) (j := (i : Int)) T_2_api_Place.und T_api_Place.info T_api_Place.size (by omega) (by omega)
      rw [Int.toNat_natCast] at ix
      simp only [T_api_Record.f1, T_api_Daemon.f0, Nat.zero_add, ix, popO_some, bindH_eq, condV_bool, condV_true, condV_false, yV_bool, gopV_tt, gopV_ff, gopV_tf, gopV_ft, pickV_t, pickV_f, pickV_bool, nilS_ptr, add_eq, sub_eq, mul_eq, lss_eq, leq_eq, gtr_eq, geq_eq, not_eq, minI_eq, maxI_eq, extract_0, extract_1, extract_2, eqlI, neqI, makeFunc_eq, decide_true, decide_false, if_true, if_false, Bool.false_eq_true, Bool.not_true, Bool.not_false, reduceIte, List.getElem?_toArray, List.getElem?_cons_zero, List.getElem?_cons_succ, Option.isSome_none, List.length_map]
      have : i = 0 ∨ i = 1 := by omega
      rcases this with rfl | rfl
      · obtain ⟨rfl, rfl, rfl⟩ := c0 rfl
        refine T_api_Place.put B5 (o := 1) rfl (by show 1 + 2 ≤ 10; decide) (by simp [Pl.cells, isCell]) fun h6 B6 u6 => ?_
        simp only [gi, popO_some, bindH_eq, condV_bool, condV_true, condV_false, yV_bool, gopV_tt, gopV_ff, gopV_tf, gopV_ft, pickV_t, pickV_f, pickV_bool, nilS_ptr, add_eq, sub_eq, mul_eq, lss_eq, leq_eq, gtr_eq, geq_eq, not_eq, minI_eq, maxI_eq, extract_0, extract_1, extract_2, eqlI, neqI, makeFunc_eq, decide_true, decide_false, if_true, if_false, Bool.false_eq_true, Bool.not_true, Bool.not_false, reduceIte, List.getElem?_toArray, List.getElem?_cons_zero, List.getElem?_cons_succ, Option.isSome_none, List.length_map]
        refine ⟨⟨1, _, (rPl st).1, _, by omega, rfl, R5.upd u6 (by simpa using n8a.symm), B6, Z5.upd u6 (by simpa using n81.symm), e5.fresh u6 f8, fun h => by omega, fun _ => ⟨rfl, rfl, rfl⟩, fun h => by omega⟩, ?_⟩
        simp only [upTo, List.getElem?_cons_succ, List.getElem?_cons_zero]
        omega
      · obtain ⟨rfl, rfl, rfl⟩ := c1 rfl
        refine T_api_Place.put B5 (o := 3) rfl (by show 3 + 2 ≤ 10; decide) (by simp [Pl.cells, isCell]) fun h6 B6 u6 => ?_
        simp only [gi, popO_some, bindH_eq, condV_bool, condV_true, condV_false, yV_bool, gopV_tt, gopV_ff, gopV_tf, gopV_ft, pickV_t, pickV_f, pickV_bool, nilS_ptr, add_eq, sub_eq, mul_eq, lss_eq, leq_eq, gtr_eq, geq_eq, not_eq, minI_eq, maxI_eq, extract_0, extract_1, extract_2, eqlI, neqI, makeFunc_eq, decide_true, decide_false, if_true, if_false, Bool.false_eq_true, Bool.not_true, Bool.not_false, reduceIte, List.getElem?_toArray, List.getElem?_cons_zero, List.getElem?_cons_succ, Option.isSome_none, List.length_map]
        refine ⟨⟨2, _, (rPl st1).1, (rPl (rPl st1).2).1, by omega, rfl, R5.upd u6 (by simpa using n8a.symm), B6, Z5.upd u6 (by simpa using n81.symm), e5.fresh u6 f8, fun h => by omega, fun h => by omega, fun _ => ⟨rfl, rfl, rfl⟩⟩, ?_⟩
        simp only [upTo, List.getElem?_cons_succ, List.getElem?_cons_zero]
        omega
    · obtain rfl : i = 2 := by omega
      obtain ⟨rfl, rfl, rfl⟩ := c2 rfl
      have g1 : (((2 : Nat) : Int) < 2) = False := eq_false (by omega)
      simp only [g1, popO_some, bindH_eq, condV_bool, condV_true, condV_false, yV_bool, gopV_tt, gopV_ff, gopV_tf, gopV_ft, pickV_t, pickV_f, pickV_bool, nilS_ptr, add_eq, sub_eq, mul_eq, lss_eq, leq_eq, gtr_eq, geq_eq, not_eq, minI_eq, maxI_eq, extract_0, extract_1, extract_2, eqlI, neqI, makeFunc_eq, decide_true, decide_false, if_true, if_false, Bool.false_eq_true, Bool.not_true, Bool.not_false, reduceIte, List.getElem?_toArray, List.getElem?_cons_zero, List.getElem?_cons_succ, Option.isSome_none, List.length_map]
      refine Items_r R' fun h5 v F R5 O5 f5 u5 => ?_
      have B5 := B'.upd u5 (by simpa using n8a)
      have Z5 := Z'.upd u5 (by simpa using hra)
      have e5 := e'.fresh u5 fa
      obtain ⟨nv, hv, hv8⟩ := newOf e' Z' (.inr B'.known) (by rw [R'.here]; simp) O5 f5
      simp only [T_api_Record.f1, T_api_Daemon.f1, Nat.zero_add, Nat.reduceAdd, popO_some, bindH_eq, condV_bool, condV_true, condV_false, yV_bool, gopV_tt, gopV_ff, gopV_tf, gopV_ft, pickV_t, pickV_f, pickV_bool, nilS_ptr, add_eq, sub_eq, mul_eq, lss_eq, leq_eq, gtr_eq, geq_eq, not_eq, minI_eq, maxI_eq, extract_0, extract_1, extract_2, eqlI, neqI, makeFunc_eq, decide_true, decide_false, if_true, if_false, Bool.false_eq_true, Bool.not_true, Bool.not_false, reduceIte, List.getElem?_toArray, List.getElem?_cons_zero, List.getElem?_cons_succ, Option.isSome_none, List.length_map]
      refine T_sl_api_Item.put B5 (o := 5) (by show 5 < 10; decide) O5.slR.isc fun h6 B6 u6 => ?_
      unfold record_Parse_k32
      rw [hrd] at fin
      refine fin (v := v) (w := .slice none 0 0) (R5.upd u6 (by simpa using n8a.symm)) B6 (Z5.upd u6 (by simpa using n81.symm)) (O5.slR.upd u6 fun x n c e => by simpa using hv8 x n c e) nilN nv NewV.nil hv (fun x n c e => by cases e) (e5.fresh u6 f8)
  · have q : (((rGet (0, s) 1).1 : Int) == 1) = false := by simp; omega
    rw [if_neg k1] at hrd
    simp only [q, popO_some, bindH_eq, condV_bool, condV_true, condV_false, yV_bool, gopV_tt, gopV_ff, gopV_tf, gopV_ft, pickV_t, pickV_f, pickV_bool, nilS_ptr, add_eq, sub_eq, mul_eq, lss_eq, leq_eq, gtr_eq, geq_eq, not_eq, minI_eq, maxI_eq, extract_0, extract_1, extract_2, eqlI, neqI, makeFunc_eq, decide_true, decide_false, if_true, if_false, Bool.false_eq_true, Bool.not_true, Bool.not_false, reduceIte, List.getElem?_toArray, List.getElem?_cons_zero, List.getElem?_cons_succ, Option.isSome_none, List.length_map, yV_undef, gopV_none, Nat.zero_add, Nat.reduceAdd, beq_self_eq_true, bne_self_eq_false, and_self, Bool.true_and, Bool.false_and, Bool.and_true, Bool.and_false, Bool.true_or, Bool.false_or, Bool.or_true, Bool.or_false]
    by_cases k2 : (rGet (0, s) 1).1 = 2
    · have q2 : (((rGet (0, s) 1).1 : Int) == 2) = true := by simp [k2]
      rw [if_pos k2] at hrd
      rw [k2] at B4
      generalize (rGet (0, s) 1).2 = st1 at *
      simp only [q2, popO_some, bindH_eq, condV_bool, condV_true, condV_false, yV_bool, gopV_tt, gopV_ff, gopV_tf, gopV_ft, pickV_t, pickV_f, pickV_bool, nilS_ptr, add_eq, sub_eq, mul_eq, lss_eq, leq_eq, gtr_eq, geq_eq, not_eq, minI_eq, maxI_eq, extract_0, extract_1, extract_2, eqlI, neqI, makeFunc_eq, decide_true, decide_false, if_true, if_false, Bool.false_eq_true, Bool.not_true, Bool.not_false, reduceIte, List.getElem?_toArray, List.getElem?_cons_zero, List.getElem?_cons_succ, Option.isSome_none, List.length_map, yV_undef, gopV_none, Nat.zero_add, Nat.reduceAdd, beq_self_eq_true, bne_self_eq_false, and_self, Bool.true_and, Bool.false_and, Bool.and_true, Bool.and_false, Bool.true_or, Bool.false_or, Bool.or_true, Bool.or_false]
      refine RByte_ok R4 fun h5 R5 u5 => ?_
      simp only [Prod.eta] at R5
      have B5 := B4.upd u5 (by simpa using n8a)
      have Z5 := Z4.upd u5 (by simpa using hra)
      have e5 := e4.fresh u5 fa
      simp only [T_api_Record.f2, Nat.zero_add, Nat.reduceAdd, popO_some, bindH_eq, condV_bool, condV_true, condV_false, yV_bool, gopV_tt, gopV_ff, gopV_tf, gopV_ft, pickV_t, pickV_f, pickV_bool, nilS_ptr, add_eq, sub_eq, mul_eq, lss_eq, leq_eq, gtr_eq, geq_eq, not_eq, minI_eq, maxI_eq, extract_0, extract_1, extract_2, eqlI, neqI, makeFunc_eq, decide_true, decide_false, if_true, if_false, Bool.false_eq_true, Bool.not_true, Bool.not_false, reduceIte, List.getElem?_toArray, List.getElem?_cons_zero, List.getElem?_cons_succ, Option.isSome_none, List.length_map]
      refine T_int.put B5 (o := 6) (by show 6 < 10; decide) rfl fun h6 B6 u6 => ?_
      have R6 := R5.upd u6 (by simpa using n8a.symm)
      have Z6 := Z5.upd u6 (by simpa using n81.symm)
      have e6 := e5.fresh u6 f8
      refine Place_r R6 fun h7 R7 u7 => ?_
      have B7 := B6.upd u7 (by simpa using n8a)
      have Z7 := Z6.upd u7 (by simpa using hra)
      have e7 := e6.fresh u7 fa
      simp only [T_api_Record.f3, Nat.zero_add, Nat.reduceAdd, popO_some, bindH_eq, condV_bool, condV_true, condV_false, yV_bool, gopV_tt, gopV_ff, gopV_tf, gopV_ft, pickV_t, pickV_f, pickV_bool, nilS_ptr, add_eq, sub_eq, mul_eq, lss_eq, leq_eq, gtr_eq, geq_eq, not_eq, minI_eq, maxI_eq, extract_0, extract_1, extract_2, eqlI, neqI, makeFunc_eq, decide_true, decide_false, if_true, if_false, Bool.false_eq_true, Bool.not_true, Bool.not_false, reduceIte, List.getElem?_toArray, List.getElem?_cons_zero, List.getElem?_cons_succ, Option.isSome_none, List.length_map]
      refine T_api_Place.put B7 (o := 7) rfl (by show 7 + 2 ≤ 10; decide) (by simp [Pl.cells, isCell]) fun h8 B8 u8 => ?_
      have R8 := R7.upd u8 (by simpa using n8a.symm)
      have Z8 := Z7.upd u8 (by simpa using n81.symm)
      have e8 := e7.fresh u8 f8
      refine Notes_r R8 fun h9 v F R9 O9 f9 u9 => ?_
      have B9 := B8.upd u9 (by simpa using n8a)
      have Z9 := Z8.upd u9 (by simpa using hra)
      have e9 := e8.fresh u9 fa
      obtain ⟨nv, hv, hv8⟩ := newOf e8 Z8 (.inr B8.known) (by rw [R8.here]; simp) O9 f9
      simp only [T_api_Record.f4, Nat.zero_add, Nat.reduceAdd, popO_some, bindH_eq, condV_bool, condV_true, condV_false, yV_bool, gopV_tt, gopV_ff, gopV_tf, gopV_ft, pickV_t, pickV_f, pickV_bool, nilS_ptr, add_eq, sub_eq, mul_eq, lss_eq, leq_eq, gtr_eq, geq_eq, not_eq, minI_eq, maxI_eq, extract_0, extract_1, extract_2, eqlI, neqI, makeFunc_eq, decide_true, decide_false, if_true, if_false, Bool.false_eq_true, Bool.not_true, Bool.not_false, reduceIte, List.getElem?_toArray, List.getElem?_cons_zero, List.getElem?_cons_succ, Option.isSome_none, List.length_map]
      refine T_sl_api_Note.put B9 (o := 9) (by show 9 < 10; decide) O9.slR.isc fun h10 B10 u10 => ?_
      unfold record_Parse_k32
      rw [hrd] at fin
      refine fin (v := .slice none 0 0) (w := v) (R9.upd u10 (by simpa using n8a.symm)) B10 (Z9.upd u10 (by simpa using n81.symm)) nilI (O9.slR.upd u10 fun x n c e => by simpa using hv8 x n c e) NewV.nil nv (fun x n c e => by cases e) hv (e9.fresh u10 f8)
    · have q2 : (((rGet (0, s) 1).1 : Int) == 2) = false := by simp; omega
      rw [if_neg k2] at hrd
      simp only [q2, popO_some, bindH_eq, condV_bool, condV_true, condV_false, yV_bool, gopV_tt, gopV_ff, gopV_tf, gopV_ft, pickV_t, pickV_f, pickV_bool, nilS_ptr, add_eq, sub_eq, mul_eq, lss_eq, leq_eq, gtr_eq, geq_eq, not_eq, minI_eq, maxI_eq, extract_0, extract_1, extract_2, eqlI, neqI, makeFunc_eq, decide_true, decide_false, if_true, if_false, Bool.false_eq_true, Bool.not_true, Bool.not_false, reduceIte, List.getElem?_toArray, List.getElem?_cons_zero, List.getElem?_cons_succ, Option.isSome_none, List.length_map, yV_undef, gopV_none, Nat.zero_add, Nat.reduceAdd, beq_self_eq_true, bne_self_eq_false, and_self, Bool.true_and, Bool.false_and, Bool.and_true, Bool.and_false, Bool.true_or, Bool.false_or, Bool.or_true, Bool.or_false]
      unfold record_Parse_k32
      rw [hrd] at fin
      exact fin (v := .slice none 0 0) (w := .slice none 0 0) R4 B4 Z4 nilI nilN NewV.nil NewV.nil (fun x n c e => by cases e) (fun x n c e => by cases e) e4
end Go.Proofs.YtlkjippiaghbmaaGreat
/- slices.SortFunc: the library's own contract, turned to parts of memory. -/
set_option linter.unusedSimpArgs false
set_option linter.unusedVariables false
namespace Go.Proofs.YtlkjippiaghbmaaGreat
open Go Go.Sort Go.Shelf

theorem flat_rows {α : Type} [Inhabited α] (enc : α → List Value) (k : Nat) (hk0 : 0 < k) (hlen : ∀ x, (enc x).length = k) (l : List α) : (l.map enc).flatten = (flatK enc k l.toArray).toList := by
  have hr : Rows k (l.map enc) := fun r hr => by obtain ⟨x, _, rfl⟩ := List.mem_map.1 hr; exact hlen x
  apply List.ext_getElem?
  intro j
  have hfl : (l.map enc).flatten.length = l.length * k := by rw [hr.flat, List.length_map]
  by_cases hj : j < l.length * k
  · have hi : j / k < l.length := (Nat.div_lt_iff_lt_mul hk0).2 hj
    have hat := hr.at (i := j / k) (r := enc l[j / k]) (by simp [hi])
    have hc : j % k < k := Nat.mod_lt _ hk0
    have e1 : (l.map enc).flatten[j]? = (enc l[j / k])[j % k]? := by
      rw [← hat, List.getElem?_take, if_pos hc, List.getElem?_drop]
      congr 1
      rw [Nat.mul_comm]; exact (Nat.div_add_mod j k).symm
    have hs : j < (flatK enc k l.toArray).size := by rw [size_flatK]; exact hj
    have hg := get_flatK enc k l.toArray j (by simpa using hj)
    rw [getElem!_pos _ j hs] at hg
    have hle : j % k < (enc l[j / k]).length := by rw [hlen]; exact hc
    have hx : l.toArray[j / k]! = l[j / k] := by rw [getElem!_pos l.toArray (j / k) (by simpa using hi)]; rfl
    have e2 : (flatK enc k l.toArray).toList[j]? = (flatK enc k l.toArray)[j]? := by simp
    rw [e1, e2, Array.getElem?_eq_getElem hs, hg, hx, List.getElem?_eq_getElem hle, getElem!_pos (enc l[j / k]) (j % k) hle]
  · rw [List.getElem?_eq_none (by omega), Array.getElem?_toList, Array.getElem?_eq_none (by simp; omega)]

theorem take_putCells (F c : Array Value) (hle : F.size ≤ c.size) : (putCells id 0 F c).toList.take F.size = F.toList := by
  apply List.ext_getElem?
  intro j
  rw [List.getElem?_take, Array.getElem?_toList, Array.getElem?_toList]
  by_cases hj : j < F.size
  · rw [if_pos hj]
    simp only [putCells, Array.getElem?_mapIdx, Nat.zero_add, Nat.zero_le, true_and, Nat.sub_zero, hj, if_true, id]
    rw [Array.getElem?_eq_getElem (by omega), Array.getElem?_eq_getElem hj, getElem!_pos F j hj]; rfl
  · rw [if_neg hj, Array.getElem?_eq_none (by omega)]

theorem world_eq {w w' : World} (os : w'.os = w.os) (tape : w'.tape = w.tape) (output : w'.output = w.output) (drawn : w.drawn ≤ w'.drawn) (size : w.heap.size ≤ w'.heap.size) (far : ∀ b, b < w.heap.size → w'.heap[b]? = w.heap[b]?) :
    ∃ q os', w' = grow (w.drewN q) os' := by
  refine ⟨w'.drawn - w.drawn, w'.heap.extract w.heap.size w'.heap.size, ?_⟩
  cases w with | mk heap tp dr o ou => cases w' with | mk heap' tp' dr' o' ou' =>
  simp only at *
  subst os tape output
  unfold grow World.drewN
  simp only [World.mk.injEq, and_true, true_and]
  refine ⟨?_, by omega⟩
  apply Array.ext_getElem?
  intro i
  rw [Array.getElem?_append]
  split
  · rename_i hi; exact far i hi
  · rename_i hi
    rw [Array.getElem?_extract]
    split
    · congr 1; omega
    · rw [Array.getElem?_eq_none (by omega)]

theorem sortFunc_ok {P : Program} {ρ : Ren} {α : Type} [Inhabited α] (L : SlLaysF0.n6 P ρ) {f : FuncId} (hf : ρ.f 6 = f) {k : Nat} (hk0 : 0 < k) (aE : ∀ w, (isAgg (ρ.t 24)).run P w = .ok true w) (zE : ∀ w, (Go.sizeOf (ρ.t 24)).run P w = .ok k w)
    (enc : α → List Value) (hlen : ∀ x, (enc x).length = k) (h1 : ∀ x, ∀ v ∈ enc x, v.oneCell' = true) (cf : α → α → Int) (hO : SWO (ltOf cf)) {g : FuncId} (eg : enters P g = true)
    (hcmp : ∀ x y, CallsH P g #[.agg (enc x).toArray, .agg (enc y).toArray] (fun _ => none) fun v _ => v = .int .i64 (cf x y)) (hen : enters P f = true)
    {e : TypeId} {v : Value} {F : List Nat} {l : List α} {h : PH} (H : OwnR h e k v (l.map enc) F) (hsz : l.length < 4611686018427387904) {R : Value → PH → Prop}
    (hk : ∀ (l' : List α) h', l'.Perm l → l'.Pairwise (fun a b => ltOf cf b a = false) → OwnR h' e k v (l'.map enc) F → Upd F h h' → R (.tuple #[]) h') : CallsH P f #[v, .func (.func g) #[] #[]] h R := by
  subst hf
  refine .inl ⟨hen, fun w hs => ?_⟩
  have heg : ∀ (args : Array Value) (w : World), (callFunc g args).run P w = .ok (.enter g args) w := fun args w =>
    SemE.run (h := fun _ => none) (semE_enter eg) (fun _ _ hb => by cases hb)
  rcases H.here with ⟨hv, hr, hF⟩ | ⟨b, cap, cs, hv, hF, hb, hle, hcm, hcs, htk⟩
  · have hl : l = [] := List.map_eq_nil_iff.1 hr
    subst hl hv hF
    refine (AnyF.slices_SortFunc_none L none 0 _ w).mono fun e1 w' ⟨he, hw⟩ => ?_
    subst hw
    exact ⟨_, h, he, hk [] h (List.Perm.refl _) List.Pairwise.nil H Upd.refl, hs, Fr.refl _ _⟩
  · subst hF
    have hfl := flat_rows enc k hk0 hlen l
    have hrl : (l.map enc).length = l.length := List.length_map _
    rw [hrl] at hv hle htk
    have hwb := hs b _ hb
    have hblk : b < w.heap.size := hs.lt hb
    have hH : HoldsK enc k w b 0 l.toArray := by
      intro j hj
      have hj' : j < l.length * k := by simpa using hj
      have hc : cs[j]? = some ((flatK enc k l.toArray)[j]!) := by
        have e1 : cs.toList[j]? = (l.map enc).flatten[j]? := by rw [← htk, List.getElem?_take, if_pos hj']
        rw [Array.getElem?_toList] at e1
        rw [e1, hfl, Array.getElem?_toList, Array.getElem?_eq_getElem hj, getElem!_pos _ j hj]
      constructor
      · unfold World.cell?; simp only [Nat.zero_add, hwb, Option.isSome_none]; simpa using hc
      · unfold World.frozen?; simp only [hwb]; simp
    have hcm' : CmpLays P g #[] enc k cf b 0 l.toArray.size w := by
      intro m os dk _ x y
      have hc := (hcmp x y).calls eg (sortWorldK enc k w b 0 m dk os) (fun _ _ hb => by cases hb)
      refine hc.mono fun e1 w' ⟨v1, h1, he, hv1, _, fr⟩ => ⟨by rw [he, hv1], world_eq fr.os fr.tape fr.output fr.drawn fr.size fun i hi => fr.far i hi rfl⟩
    have hS := AnyQ.slices_SortFunc L k aE zE enc hlen h1 cf hO g #[] b 0 cap l.toArray w heg hcm' hH hblk (by simpa using hsz)
    subst hv
    have hz : l.toArray.size = l.length := by simp
    rw [hz] at hS
    refine hS.mono fun e1 w' ⟨he, d', n, os, hp, hso, hw⟩ => ?_
    obtain ⟨hps, _, hpp⟩ := hp
    have hds : d'.toList.length = l.length := by simpa using hps
    let c' := putCells id 0 (flatK enc k d') cs
    have hmod : ∀ i, w'.heap[i]? = if i < w.heap.size then (if i = b then some (.cells c' e (0, 0)) else w.heap[i]?) else os[i - w.heap.size]? := by
      intro i
      subst hw
      show ((w.heap.modify b (onCells (putCells id 0 (flatK enc k d')))) ++ os)[i]? = _
      rw [Array.getElem?_append, Array.size_modify, Array.getElem?_modify]
      by_cases hi : i < w.heap.size
      · rw [if_pos hi, if_pos hi]
        by_cases hib : i = b
        · subst hib; rw [if_pos rfl, if_pos rfl, hwb]; rfl
        · rw [if_neg (Ne.symm hib), if_neg hib]
      · rw [if_neg hi, if_neg hi]
    have hsub : Sub (h.set b (.cells c' e (0, 0))) w' := by
      intro i o hi
      rw [hmod]
      unfold PH.set at hi
      split at hi
      · rename_i e1; subst e1; rw [if_pos hblk, if_pos rfl]; exact hi
      · rename_i e1; rw [if_pos (hs.lt hi), if_neg e1]; exact hs _ _ hi
    have hfr : Fr h w (h.set b (.cells c' e (0, 0))) w' := by
      subst hw
      refine ⟨rfl, rfl, rfl, ?_, ?_, fun i hi hn => ?_, fun i hi hn => ?_⟩
      · show w.drawn ≤ w.drawn + n; omega
      · show w.heap.size ≤ ((w.heap.modify b _) ++ os).size; simp
      · rw [hmod, if_pos hi, if_neg (fun e1 => by subst e1; rw [hb] at hn; cases hn)]
      · rw [set_other (fun e1 => by subst e1; rw [hb] at hn; cases hn)]; exact hn
    refine ⟨_, _, he, hk d'.toList _ ?_ ?_ ⟨fun r hr => ?_, .inr ⟨b, cap, c', ?_, rfl, set_same, ?_, hcm, ?_, ?_⟩⟩ (Upd.set (by simp)), hsub, hfr⟩
    · have e1 : d'.extract 0 l.length = d' := by rw [← hz, ← hps]; simp
      have e2 : l.toArray.extract 0 l.length = l.toArray := by rw [← hz]; simp
      rw [e1, e2] at hpp
      simpa using hpp
    · rw [List.pairwise_iff_getElem]
      intro i j hi hj hij
      have := hso i j (Nat.zero_le _) hij (by rw [← hz, ← hps]; simpa using hj)
      rw [getElem!_pos d' i (by simpa using hi), getElem!_pos d' j (by simpa using hj)] at this
      simpa using this
    · obtain ⟨x, _, rfl⟩ := List.mem_map.1 hr; exact hlen x
    · rw [List.length_map, hds]
    · rw [List.length_map, hds]; exact hle
    · show (putCells id 0 (flatK enc k d') cs).size = _
      unfold putCells
      rw [Array.size_mapIdx]; exact hcs
    · rw [List.length_map, hds]
      have hfd := flat_rows enc k hk0 hlen d'.toList
      rw [hfd]
      have hsz2 : (flatK enc k d').size = l.length * k := by rw [size_flatK, hps, hz]
      have := take_putCells (flatK enc k d') cs (by rw [hsz2, hcs]; exact Nat.mul_le_mul_right _ hle)
      rw [hsz2] at this
      simpa using this
end Go.Proofs.YtlkjippiaghbmaaGreat
/- table: the items of a map: maps.Values, slices.Collect, slices.SortFunc. -/
set_option linter.unusedSimpArgs false
set_option linter.unusedVariables false
namespace Go.Proofs.YtlkjippiaghbmaaGreat
open Go

theorem kkeyed : Keyed PG T_table_id kenc where
  chk := fun h b a => by unfold kenc; cases b <;> kernel_rfl
  eq := fun h a b => by
    show SemE PG h (Op.equalIn (9999 + 1) T_table_id (.agg #[.int .i64 a.1, .int .u64 a.2]) (.agg #[.int .i64 b.1, .int .u64 b.2])) = _
    rw [eqIn_struct T_table_id.und (by kernel_rfl) (fun f => match f.offset with | 0 => a.1 == b.1 | _ => a.2 == b.2)]
    · congr 1
      rw [Bool.eq_iff_iff]
      obtain ⟨x, y⟩ := a
      obtain ⟨x', y'⟩ := b
      simp
    · intro f hf
      simp only [List.mem_cons, List.not_mem_nil, or_false] at hf
      rcases hf with rfl | rfl
      · exact ⟨by decide, _, _, part_cell T_int.und rfl rfl, part_cell T_int.und rfl rfl, eqIn_int T_int.und⟩
      · exact ⟨by decide, _, _, part_cell T_uint64.und rfl rfl, part_cell T_uint64.und rfl rfl, eqIn_int T_uint64.und⟩
  bits := fun a => by
    show Instr.sameBits (9999 + 1) (.agg #[.int .i64 a.1, .int .u64 a.2]) (.agg #[.int .i64 a.1, .int .u64 a.2]) = true
    simp [Instr.sameBits]
  now := ⟨_, T_table_id.und, .inl fun a b => rfl⟩

def It.pr (i : It) : Ky × Value := (i.key, i.val)
def It.un : Value → It
  | .agg ⟨[.int _ f, .int _ s, .int _ t, .string d, .int _ g]⟩ => ⟨⟨f, s, t, d⟩, g⟩
  | _ => default
theorem It.un_val (i : It) : It.un i.val = i := rfl
theorem un_pr (l : List It) : (l.map It.pr).map (fun p => It.un p.2) = l := by
  rw [List.map_map]
  have : ((fun p : Ky × Value => It.un p.2) ∘ It.pr) = id := by funext i; exact It.un_val i
  rw [this, List.map_id]
abbrev MAt (h : PH) (m : Nat) (l : List It) : Prop := MapAt kenc h m (l.map It.pr)

set_option maxRecDepth 20000 in
theorem put_it {h : PH} {r : Nat} (hr : h r = none) (x : It) {k : Value → PH → Prop} (hk : ∀ h', Bx h' r x.cells → Ext h h' → k undef h') :
    SemH PG (storeS T_api_Item (.pointer (some ⟨r, 0, none⟩)) x.val) (h.set r (.cells (zcells PG T_api_Item) T_api_Item)) k := by
  refine store_box set_same T_api_Item.info (by show 5 = 5; rfl) (by show 0 < 5; decide) (by rw [T_api_Item.zc]; rfl) x.allCell ?_
  rw [set_set_same]
  exact hk _ ⟨_, set_same⟩ (Upd.new hr)

abbrev yieldV (l : Nat) : Value := .func (.yield l) #[] #[]
set_option maxRecDepth 20000 in
/-- maps.Values' iterator: whatever J the caller keeps between rounds. -/
theorem values_ok {h : PH} {bx m l : Nat} {L : List It} (hb : Bx h bx [.map (some m)]) (hm : MAt h m L) (J : Nat → List It → PH → Prop)
    (J0 : ∀ it h', h it = none → Ext h h' → h' it ≠ none → J it [] h') (Js : ∀ it pre h1 h2, J it pre h1 → Upd [it] h1 h2 → J it pre h2)
    (Jy : ∀ it pre x h1, h it = none → pre.length < L.length → J it pre h1 → h1 it ≠ none → ∀ k' : Value → PH → Prop, (∀ h2 G, J it (pre ++ [x]) h2 → Upd G h1 h2 → m ∉ G → it ∉ G → k' (.bool true) h2) → callC PG (yieldV l) #[x.val] h1 k')
    {k : Value → PH → Prop} (hk : ∀ it l' h', l'.Perm L → J it l' h' → k (.tuple #[]) h') :
    CallsH PG id_maps_Values_map_table_id_api_Item_table_id_api_Item_1 #[yieldV l, .pointer (some ⟨bx, 0, none⟩)] h k := by
  apply maps_Values_map_table_id_api_Item_table_id_api_Item_1.call
  unfold maps_Values_map_table_id_api_Item_table_id_api_Item_1
  have c0 : cellH h ⟨bx, 0, none⟩ = some (.map (some m)) := hb.cell 0
  simp only [T_map_table_id_api_Item.load, c0, popO_some, bindH_eq, condV_bool, condV_true, condV_false, yV_bool, gopV_tt, gopV_ff, gopV_tf, gopV_ft, pickV_t, pickV_f, pickV_bool, nilS_ptr, add_eq, sub_eq, mul_eq, lss_eq, leq_eq, gtr_eq, geq_eq, not_eq, minI_eq, maxI_eq, extract_0, extract_1, extract_2, eqlI, neqI, makeFunc_eq, decide_true, decide_false, if_true, if_false, Bool.false_eq_true, Bool.not_true, Bool.not_false, reduceIte, List.getElem?_toArray, List.getElem?_cons_zero, List.getElem?_cons_succ, Option.isSome_none, List.length_map]
  refine range_it T_map_table_id_api_Item.und hm fun it h1 hit HI u1 => ?_
  refine ⟨fun vs h' => ∃ pre : List It, vs = [yieldV l, .pointer (some ⟨it, 0, none⟩)] ∧ MapIt kenc h' m it (L.map It.pr) (pre.map It.pr) ∧ J it pre h', fun _ h' => itLeft L.length it h', ⟨[], rfl, HI, J0 it h1 hit u1 HI.known⟩, ?_⟩
  rintro ρ h' ⟨pre, hvs, HI, hJ⟩
  simp only [List.map_cons, List.map_nil, List.cons.injEq, and_true] at hvs
  obtain ⟨e0, e1⟩ := hvs
  rw [e0, e1]
  unfold maps_Values_map_table_id_api_Item_table_id_api_Item_1_b5
  refine next_it HI (fun hp => ?_) (fun a v h2 hav hnk HI2 u2 => ?_)
  · simp only [popO_some, bindH_eq, condV_bool, condV_true, condV_false, yV_bool, gopV_tt, gopV_ff, gopV_tf, gopV_ft, pickV_t, pickV_f, pickV_bool, nilS_ptr, add_eq, sub_eq, mul_eq, lss_eq, leq_eq, gtr_eq, geq_eq, not_eq, minI_eq, maxI_eq, extract_0, extract_1, extract_2, eqlI, neqI, makeFunc_eq, decide_true, decide_false, if_true, if_false, Bool.false_eq_true, Bool.not_true, Bool.not_false, reduceIte, List.getElem?_toArray, List.getElem?_cons_zero, List.getElem?_cons_succ, Option.isSome_none, List.length_map]
    refine hk it pre h' ?_ hJ
    have := hp.map (fun p => It.un p.2)
    rwa [un_pr, un_pr] at this
  · simp only [popO_some, bindH_eq, condV_bool, condV_true, condV_false, yV_bool, gopV_tt, gopV_ff, gopV_tf, gopV_ft, pickV_t, pickV_f, pickV_bool, nilS_ptr, add_eq, sub_eq, mul_eq, lss_eq, leq_eq, gtr_eq, geq_eq, not_eq, minI_eq, maxI_eq, extract_0, extract_1, extract_2, eqlI, neqI, makeFunc_eq, decide_true, decide_false, if_true, if_false, Bool.false_eq_true, Bool.not_true, Bool.not_false, reduceIte, List.getElem?_toArray, List.getElem?_cons_zero, List.getElem?_cons_succ, Option.isSome_none, List.length_map]
    obtain ⟨x, hx, hxe⟩ := List.mem_map.1 hav
    obtain ⟨rfl, rfl⟩ : x.key = a ∧ x.val = v := by simpa [It.pr] using hxe
    refine entry_it HI2 ?_
    simp only [popO_some, bindH_eq, condV_bool, condV_true, condV_false, yV_bool, gopV_tt, gopV_ff, gopV_tf, gopV_ft, pickV_t, pickV_f, pickV_bool, nilS_ptr, add_eq, sub_eq, mul_eq, lss_eq, leq_eq, gtr_eq, geq_eq, not_eq, minI_eq, maxI_eq, extract_0, extract_1, extract_2, eqlI, neqI, makeFunc_eq, decide_true, decide_false, if_true, if_false, Bool.false_eq_true, Bool.not_true, Bool.not_false, reduceIte, List.getElem?_toArray, List.getElem?_cons_zero, List.getElem?_cons_succ, Option.isSome_none, List.length_map]
    intro r hr
    try rw [bindH_eq]
    refine put_it hr x fun h3 b3 u3 => ?_
    simp only [b3.it, popO_some, bindH_eq, condV_bool, condV_true, condV_false, yV_bool, gopV_tt, gopV_ff, gopV_tf, gopV_ft, pickV_t, pickV_f, pickV_bool, nilS_ptr, add_eq, sub_eq, mul_eq, lss_eq, leq_eq, gtr_eq, geq_eq, not_eq, minI_eq, maxI_eq, extract_0, extract_1, extract_2, eqlI, neqI, makeFunc_eq, decide_true, decide_false, if_true, if_false, Bool.false_eq_true, Bool.not_true, Bool.not_false, reduceIte, List.getElem?_toArray, List.getElem?_cons_zero, List.getElem?_cons_succ, Option.isSome_none, List.length_map]
    have HI3 := HI2.upd u3 (by simp) (by simp)
    have hJ3 := Js it pre h' h3 hJ (Upd.trans u2 (Ext.upd u3))
    have hlt : pre.length < L.length := by
      have := HI2.le
      simp only [List.length_append, List.length_map, List.length_cons, List.length_nil] at this
      omega
    refine Jy it pre x h3 hit hlt hJ3 HI3.known _ fun h4 G hJ4 u4 g1 g2 => ?_
    have HI4 := HI3.upd u4 g1 g2
    simp only [popO_some, bindH_eq, condV_bool, condV_true, condV_false, yV_bool, gopV_tt, gopV_ff, gopV_tf, gopV_ft, pickV_t, pickV_f, pickV_bool, nilS_ptr, add_eq, sub_eq, mul_eq, lss_eq, leq_eq, gtr_eq, geq_eq, not_eq, minI_eq, maxI_eq, extract_0, extract_1, extract_2, eqlI, neqI, makeFunc_eq, decide_true, decide_false, if_true, if_false, Bool.false_eq_true, Bool.not_true, Bool.not_false, reduceIte, List.getElem?_toArray, List.getElem?_cons_zero, List.getElem?_cons_succ, Option.isSome_none, List.length_map]
    refine ⟨⟨pre ++ [x], by trivial, ?_, hJ4⟩, ?_⟩
    · rw [List.map_append]; exact HI4
    · rw [HI4.left, HI.left]
      simp only [List.length_append, List.length_map, List.length_cons, List.length_nil]
      omega

/-! ### a round -/
theorem getLoop_eq {h : PH} {l : Nat} {r : Loop} (hl : h l = some (.loop r)) : SemE PG h (Instr.getLoop l) = some r := by
  unfold Instr.getLoop getObj
  show SemE PG h (Sem.getObj l _) = _
  simp only [SemE, hl]
  rfl
theorem begin_ok {h : PH} {l : Nat} {r : Loop} {k : Unit → PH → Prop} (hl : h l = some (.loop r)) (hs : r.state = .ready) (hk : k () (h.set l (.loop { r with state := .busy }))) : SemH PG (Instr.beginRound l) h k := by
  unfold Instr.beginRound
  refine semH_of_semE (getLoop_eq hl) ?_
  show (∃ u, h l = some u ∧ (∀ c e f, u ≠ .cells c e f)) ∧ _
  refine ⟨⟨_, hl, by intros; simp⟩, ?_⟩
  rw [hs]
  exact hk
theorem end_ok {h : PH} {l : Nat} {r : Loop} {j : Option Code} {k : Value → PH → Prop} (hl : h l = some (.loop r)) (hk : k (.bool j.isNone) (h.set l (.loop { r with state := if j.isNone then .ready else .done, pending := j }))) : SemH PG (Instr.endRound l j) h k := by
  unfold Instr.endRound
  refine semH_of_semE (getLoop_eq hl) ?_
  show (∃ u, h l = some u ∧ (∀ c e f, u ≠ .cells c e f)) ∧ _
  exact ⟨⟨_, hl, by intros; simp⟩, hk⟩
theorem endLoop_ok {h : PH} {l : Nat} {r : Loop} {k : Option Code → PH → Prop} (hl : h l = some (.loop r)) (hs : r.state = .ready ∨ r.state = .done) (hk : k r.pending (h.set l (.loop { r with state := .exhausted }))) : SemH PG (Instr.endLoop l) h k := by
  unfold Instr.endLoop
  refine semH_of_semE (getLoop_eq hl) ?_
  have : (r.state == LoopState.busy) = false := by rcases hs with e | e <;> rw [e] <;> rfl
  rw [this]
  show (∃ u, h l = some u ∧ (∀ c e f, u ≠ .cells c e f)) ∧ _
  exact ⟨⟨_, hl, by intros; simp⟩, hk⟩
theorem yield_ok {h : PH} {l : Nat} {r : Loop} {args : Array Value} {k : Value → PH → Prop} (hl : h l = some (.loop r)) (hn : args.size = r.params.size)
    (hk : NextH PG (.round l r.fn ((r.params.zip args).foldl (fun tmps (t, a) => tmps.setIfInBounds t a) r.tmps) r.assign r.body) h k) : callC PG (yieldV l) args h k := by
  unfold callC
  unfold invoke
  have e0 : (#[] : Array Value) ++ args = args := by simp
  show SemH PG (Instr.yield l (#[] ++ args)) h _
  rw [e0]
  unfold Instr.yield
  refine semH_of_semE (getLoop_eq hl) ?_
  simp only [hn, ne_eq, not_true, if_false]
  exact hk

theorem It.isCell (l : List It) : ∀ r ∈ l.map It.cells, ∀ u ∈ r, isCell u = true := fun r hr u hu => by
  obtain ⟨m, _, rfl⟩ := List.mem_map.1 hr
  exact m.allCell u (by simpa using hu)
theorem it_lit (x : It) : SemA PG (Instr.buildSlice T_sl_api_Item 1 #[(0, x.val)]) = some (.cells x.cells.toArray T_api_Item (0, 0), fun r => pure (.slice (some ⟨r, 0, none⟩) 1 1)) := by
  kernel_rfl

set_option maxRecDepth 20000 in
/-- slices.AppendSeq(nil, maps.Values' iterator). -/
theorem AppendSeq_ok {h : PH} {bx m : Nat} {L : List It} (hb : Bx h bx [.map (some m)]) (hm : MAt h m L) (hL : L.length ≤ 1000000) {k : Value → PH → Prop}
    (hk : ∀ v (l' : List It) h' F, l'.Perm L → OwnR h' T_api_Item 5 v (l'.map It.cells) F → Fresh h F → Ext h h' → k v h') :
    CallsH PG id_slices_AppendSeq_sl_api_Item_api_Item #[.slice none 0 0, .func (.func id_maps_Values_map_table_id_api_Item_table_id_api_Item_1) #[] #[.pointer (some ⟨bx, 0, none⟩)]] h k := by
  apply slices_AppendSeq_sl_api_Item_api_Item.call
  unfold slices_AppendSeq_sl_api_Item_api_Item
  intro B hB
  rw [bindH_eq]
  have uB : Ext h (h.set B (.cells (Value.cells (.slice none 0 0)) T_sl_api_Item)) := Upd.new hB
  have bB : (h.set B (.cells (Value.cells (.slice none 0 0)) T_sl_api_Item)) B = some (.cells #[.slice none 0 0] T_sl_api_Item (0, 0)) := set_same
  generalize h.set B (.cells (Value.cells (.slice none 0 0)) T_sl_api_Item) = h1 at *
  unfold rangeH
  refine ⟨by kernel_rfl, ?_⟩
  intro fn tmps l D hv hsz hl
  have hv2 : tmps.getD 2 undef = .pointer (some ⟨B, 0, none⟩) := hv (2, _) (by simp)
  have hlB : l ≠ B := by rintro rfl; rw [bB] at hl; cases hl
  have ul : Ext h1 (h1.set l (.loop { state := .ready, pending := none, fn, tmps, params := #[7], assign := slices_AppendSeq_sl_api_Item_api_Item_asg0, body := slices_AppendSeq_sl_api_Item_api_Item_body0, defers := D })) := Upd.new hl
  have bl : (h1.set l (.loop { state := .ready, pending := none, fn, tmps, params := #[7], assign := slices_AppendSeq_sl_api_Item_api_Item_asg0, body := slices_AppendSeq_sl_api_Item_api_Item_body0, defers := D })) l = some (.loop { state := .ready, pending := none, fn, tmps, params := #[7], assign := slices_AppendSeq_sl_api_Item_api_Item_asg0, body := slices_AppendSeq_sl_api_Item_api_Item_body0, defers := D }) := set_same
  obtain ⟨rec, hrec⟩ : ∃ rec : Loop, rec = { state := .ready, pending := none, fn, tmps, params := #[7], assign := slices_AppendSeq_sl_api_Item_api_Item_asg0, body := slices_AppendSeq_sl_api_Item_api_Item_body0, defers := D } := ⟨_, rfl⟩
  rw [← hrec] at ul bl ⊢
  have bB2 := ul.get bB
  generalize h1.set l (.loop rec) = h2 at *
  have u12 := Ext.trans uB ul
  have hlh : h l = none := uB.none hl
  refine values_ok (hb.ext u12) (MapAt.ext hm u12)
    (fun it pre h' => ∃ v F, h' l = some (.loop rec) ∧ h' B = some (.cells #[v] T_sl_api_Item (0, 0)) ∧ OwnR h' T_api_Item 5 v (pre.map It.cells) F ∧ Fresh h F ∧ l ∉ F ∧ B ∉ F ∧ it ∉ F ∧ it ≠ l ∧ it ≠ B ∧ h it = none ∧ Ext h h')
    (fun it h3 hit u3 hkn => ?_) (fun it pre h3 h4 hJ u4 => ?_) (fun it pre x h3 hit hlt hJ hkn k' hk' => ?_) (fun it l' h3 hp hJ => ?_)
  · refine ⟨.slice none 0 0, [], u3.get bl, u3.get bB2, OwnR.nil, (fun b hb => by cases hb), by simp, by simp, by simp, ?_, ?_, u12.none hit, u12.trans u3⟩
    · rintro rfl; rw [bl] at hit; cases hit
    · rintro rfl; rw [bB2] at hit; cases hit
  · obtain ⟨v, F, j1, j2, j3, j4, j5, j6, j7, j8, j9, j10, j11⟩ := hJ
    exact ⟨v, F, u4.get j1 (by simpa using Ne.symm j8), u4.get j2 (by simpa using Ne.symm j9), j3.upd u4 (fun b hb => by simp; rintro rfl; exact j7 hb), j4, j5, j6, j7, j8, j9, j10,
      j11.fresh u4 (Fresh.one j10)⟩
  · obtain ⟨v, F, j1, j2, j3, j4, j5, j6, j7, j8, j9, j10, j11⟩ := hJ
    refine yield_ok j1 (by rw [hrec]; rfl) ?_
    have e1 : rec.assign = slices_AppendSeq_sl_api_Item_api_Item_asg0 := by rw [hrec]
    have e2 : rec.body = slices_AppendSeq_sl_api_Item_api_Item_body0 := by rw [hrec]
    have e3 : (rec.params.zip #[x.val]).foldl (fun tmps (t, a) => tmps.setIfInBounds t a) rec.tmps = tmps.setIfInBounds 7 x.val := by rw [hrec]; simp
    rw [e1, e2, e3]
    refine slices_AppendSeq_sl_api_Item_api_Item_r0.next (by simpa using hsz) ?_
    have t2 : (tmps.setIfInBounds 7 x.val).getD 2 undef = .pointer (some ⟨B, 0, none⟩) := by
      rw [← hv2]; simp [Array.getD_eq_getD_getElem?, Array.getElem?_setIfInBounds]
    have t7 : (tmps.setIfInBounds 7 x.val).getD 7 undef = x.val := by
      simp [Array.getD_eq_getD_getElem?, hsz]
    rw [t2, t7]
    unfold slices_AppendSeq_sl_api_Item_api_Item_r0
    intro r hr
    rw [bindH_eq]
    refine put_it hr x fun h4 b4 u4 => ?_
    have hrl : r ≠ l := by rintro rfl; rw [j1] at hr; cases hr
    have hrB : r ≠ B := by rintro rfl; rw [j2] at hr; cases hr
    have hri : r ≠ it := by rintro rfl; exact hkn hr
    refine begin_ok (u4.get j1) (by rw [hrec]) ?_
    have u5 : Upd [l] h4 (h4.set l (.loop { rec with state := .busy })) := Upd.set (by simp)
    have bl5 : (h4.set l (.loop { rec with state := .busy })) l = some (.loop { rec with state := .busy }) := set_same
    generalize h4.set l (.loop { rec with state := .busy }) = h5 at *
    have bB5 : h5 B = _ := u5.get (u4.get j2) (by simpa using Ne.symm hlB)
    have c0 : cellH h5 ⟨B, 0, none⟩ = some v := by simp [cellH, bB5]
    have hO5 := (j3.ext u4).upd u5 (fun b hb => by simp; rintro rfl; exact j5 hb)
    have b5 := b4.upd u5 (by simpa using hrl)
    simp only [T_sl_api_Item.load, c0, b5.it, it_lit, popO_some, bindH_eq, condV_bool, condV_true, condV_false, yV_bool, gopV_tt, gopV_ff, gopV_tf, gopV_ft, pickV_t, pickV_f, pickV_bool, nilS_ptr, add_eq, sub_eq, mul_eq, lss_eq, leq_eq, gtr_eq, geq_eq, not_eq, minI_eq, maxI_eq, extract_0, extract_1, extract_2, eqlI, neqI, makeFunc_eq, decide_true, decide_false, if_true, if_false, Bool.false_eq_true, Bool.not_true, Bool.not_false, reduceIte, List.getElem?_toArray, List.getElem?_cons_zero, List.getElem?_cons_succ, Option.isSome_none, List.length_map]
    intro r6 hr6
    refine popO_pure ?_
    try rw [bindH_eq]
    have u6 : Ext h5 (h5.set r6 (.cells x.cells.toArray T_api_Item)) := Upd.new hr6
    have s1 : SlR (h5.set r6 (.cells x.cells.toArray T_api_Item)) 5 (.slice (some ⟨r6, 0, none⟩) 1 1) ([x].map It.cells) := (OwnR.lit (It.rows [x]) set_same (by simp) (by decide) (by simp)).slR
    generalize h5.set r6 (.cells x.cells.toArray T_api_Item) = h6 at *
    refine append_own T_sl_api_Item.und T_sl_api_Item.und T_api_Item.info T_api_Item.size T_api_Item.bytes T_api_Item.zero rfl (by decide) (hO5.ext u6) s1 (It.isCell _) (by simp; omega) ?_
    intro v7 h7 F7 hO7 u7 hF7 _
    rw [← List.map_append] at hO7
    have bB7 : h7 B = _ := u7.get (u6.get bB5) j6
    have bl7 : h7 l = _ := u7.get (u6.get bl5) j5
    refine store_cell T_sl_api_Item.und rfl bB7 (by simp) (by obtain ⟨_, _, rfl, -⟩ := hO7.slR.here; rfl) T_sl_api_Item.info T_sl_api_Item.size ?_
    have notIn : ∀ b, h6 b ≠ none → b ∉ F → b ∉ F7 := fun b h1 h2 hm => by rcases hF7 b hm with h3 | h3; exact h2 h3; exact h1 h3
    have kn6 : ∀ b, h3 b ≠ none → b ≠ l → h6 b ≠ none := fun b hb hbl => by
      cases e : h3 b with
      | none => exact absurd e hb
      | some o => rw [u6.get (u5.get (u4.get e) (by simpa using hbl))]; simp
    have nB : B ∉ F7 := notIn B (by rw [u6.get bB5]; simp) j6
    have nl : l ∉ F7 := notIn l (by rw [u6.get bl5]; simp) j5
    have ni : it ∉ F7 := notIn it (kn6 it hkn j8) j7
    have u8 : Upd [B] h7 (h7.set B (.cells (#[v].setIfInBounds 0 v7) T_sl_api_Item (0, 0))) := Upd.set (by simp)
    have bB8 : (h7.set B (.cells (#[v].setIfInBounds 0 v7) T_sl_api_Item (0, 0))) B = some (.cells #[v7] T_sl_api_Item (0, 0)) := set_same
    generalize h7.set B (.cells (#[v].setIfInBounds 0 v7) T_sl_api_Item (0, 0)) = h8 at *
    have hO8 := hO7.upd u8 (fun b hb => by simp; rintro rfl; exact nB hb)
    have bl8 := u8.get bl7 (by simpa using hlB)
    refine end_ok bl8 ?_
    have u9 : Upd [l] h8 (h8.set l (.loop { { rec with state := .busy } with state := if (none : Option Code).isNone then .ready else .done, pending := none })) := Upd.set (by simp)
    have bl9 : (h8.set l (.loop { { rec with state := .busy } with state := if (none : Option Code).isNone then .ready else .done, pending := none })) l = some (.loop rec) := by rw [set_same, hrec]; rfl
    generalize h8.set l (.loop { { rec with state := .busy } with state := if (none : Option Code).isNone then .ready else .done, pending := none }) = h9 at *
    have hfr7 : Fresh h F7 := fun b hb => by
      rcases hF7 b hb with h1 | h1
      · exact j4 b h1
      · cases e : h b with
        | none => rfl
        | some o =>
          have := kn6 b (by rw [j11.get e]; simp) (by rintro rfl; rw [hlh] at e; cases e)
          exact absurd h1 this
    have hall : Upd (l :: B :: F) h3 h9 := by
      intro b o hb hn
      simp only [List.mem_cons, not_or] at hn
      exact u9.get (u8.get (u7.get (u6.get (u5.get (u4.get hb) (by simpa using hn.1))) hn.2.2) (by simpa using hn.2.1)) (by simpa using hn.1)
    have hext : Ext h h9 := j11.fresh hall (fun b hb => by
      rcases List.mem_cons.1 hb with rfl | hb
      · exact hlh
      · rcases List.mem_cons.1 hb with rfl | hb
        · exact hB
        · exact j4 b hb)
    refine hk' h9 (l :: B :: F) ⟨v7, F7, bl9, u9.get bB8 (by simpa using Ne.symm hlB), hO8.upd u9 (fun b hb => by simp; rintro rfl; exact nl hb), hfr7, nl, nB, ni, j8, j9, j10, hext⟩ hall ?_ ?_
    · intro hmm
      have hkm := MapAt.known hm
      rcases List.mem_cons.1 hmm with rfl | hmm
      · exact hkm hlh
      · rcases List.mem_cons.1 hmm with rfl | hmm
        · exact hkm hB
        · exact hkm (j4 m hmm)
    · simp only [List.mem_cons, not_or]
      exact ⟨j8, j9, j7⟩
  · obtain ⟨v, F, j1, j2, j3, j4, j5, j6, j7, j8, j9, j10, j11⟩ := hJ
    refine endLoop_ok j1 (by rw [hrec]; exact .inl rfl) ?_
    have ep : rec.pending = none := by rw [hrec]
    have u5 : Upd [l] h3 (h3.set l (.loop { rec with state := .exhausted })) := Upd.set (by simp)
    generalize h3.set l (.loop { rec with state := .exhausted }) = h5 at *
    rw [ep]
    show popO _ _
    have bB5 : h5 B = _ := u5.get j2 (by simpa using Ne.symm hlB)
    have c0 : cellH h5 ⟨B, 0, none⟩ = some v := by simp [cellH, bB5]
    simp only [T_sl_api_Item.load, c0, popO_some, bindH_eq, condV_bool, condV_true, condV_false, yV_bool, gopV_tt, gopV_ff, gopV_tf, gopV_ft, pickV_t, pickV_f, pickV_bool, nilS_ptr, add_eq, sub_eq, mul_eq, lss_eq, leq_eq, gtr_eq, geq_eq, not_eq, minI_eq, maxI_eq, extract_0, extract_1, extract_2, eqlI, neqI, makeFunc_eq, decide_true, decide_false, if_true, if_false, Bool.false_eq_true, Bool.not_true, Bool.not_false, reduceIte, List.getElem?_toArray, List.getElem?_cons_zero, List.getElem?_cons_succ, Option.isSome_none, List.length_map]
    exact hk v l' h5 F hp (j3.upd u5 (fun b hb => by simp; rintro rfl; exact j5 hb)) j4 (j11.fresh u5 (Fresh.one hlh))
end Go.Proofs.YtlkjippiaghbmaaGreat
/- slices.SortFunc at its: its contract, laid at this program. -/
set_option linter.unusedSimpArgs false
set_option linter.unusedVariables false
namespace Go.Proofs.YtlkjippiaghbmaaGreat
open Go Go.Shelf
def tsortLay_ren : Go.Shelf.Ren := ⟨fun | 6 => 38 | 15 => 75 | 14 => 74 | 28 => 99 | 29 => 100 | 20 => 91 | 21 => 92 | 22 => 93 | 23 => 94 | 24 => 95 | 25 => 96 | 26 => 97 | 27 => 98 | 46 => 105 | 47 => 106 | 48 => 107 | 49 => 108 | 50 => 109 | 57 => 113 | n => n, fun | 22 => 26 | 24 => 51 | 25 => 108 | 3 => 3 | 39 => 142 | 0 => 0 | 53 => 171 | 55 => 22 | 4 => 4 | 46 => 165 | 45 => 164 | 50 => 114 | 5 => 5 | 9 => 9 | 66 => 175 | 70 => 178 | 76 => 182 | 77 => 64 | n => n, fun | n => n⟩
theorem tsortLay : Go.Proofs.SlLaysF0.n6 Tryz.prog tsortLay_ren := {
  mixed := by kernel_rfl
  f6 := ⟨Tryz.f38.name, by decide, Tryz.func38.trans (congrArg some (by kernel_rfl))⟩
  f14 := ⟨Tryz.f74.name, by decide, Tryz.func74.trans (congrArg some (by kernel_rfl))⟩
  f15 := Tryz.func75.trans (congrArg some (by kernel_rfl))
  f20 := ⟨Tryz.f91.name, by decide, Tryz.func91.trans (congrArg some (by kernel_rfl))⟩
  f21 := ⟨Tryz.f92.name, by decide, Tryz.func92.trans (congrArg some (by kernel_rfl))⟩
  f22 := ⟨Tryz.f93.name, by decide, Tryz.func93.trans (congrArg some (by kernel_rfl))⟩
  f23 := ⟨Tryz.f94.name, by decide, Tryz.func94.trans (congrArg some (by kernel_rfl))⟩
  f24 := ⟨Tryz.f95.name, by decide, Tryz.func95.trans (congrArg some (by kernel_rfl))⟩
  f25 := ⟨Tryz.f96.name, by decide, Tryz.func96.trans (congrArg some (by kernel_rfl))⟩
  f26 := ⟨Tryz.f97.name, by decide, Tryz.func97.trans (congrArg some (by kernel_rfl))⟩
  f27 := ⟨Tryz.f98.name, by decide, Tryz.func98.trans (congrArg some (by kernel_rfl))⟩
  f28 := Tryz.func99.trans (congrArg some (by kernel_rfl))
  f29 := Tryz.func100.trans (congrArg some (by kernel_rfl))
  f46 := ⟨Tryz.f105.name, by decide, Tryz.func105.trans (congrArg some (by kernel_rfl))⟩
  f47 := Tryz.func106.trans (congrArg some (by kernel_rfl))
  f48 := Tryz.func107.trans (congrArg some (by kernel_rfl))
  f49 := ⟨Tryz.f108.name, by decide, Tryz.func108.trans (congrArg some (by kernel_rfl))⟩
  f50 := ⟨Tryz.f109.name, by decide, Tryz.func109.trans (congrArg some (by kernel_rfl))⟩
  f57 := ⟨Tryz.f113.name, by decide, Tryz.func113.trans (congrArg some (by kernel_rfl))⟩
  t0 := Tryz.underlying0
  a0 := Tryz.isAgg0
  z0 := Tryz.sizeOf0
  v0 := Tryz.zeroValue0
  t3 := Tryz.underlying3
  a3 := Tryz.isAgg3
  z3 := Tryz.sizeOf3
  v3 := Tryz.zeroValue3
  t4 := Tryz.underlying4
  a4 := Tryz.isAgg4
  z4 := Tryz.sizeOf4
  v4 := Tryz.zeroValue4
  t5 := Tryz.underlying5
  a5 := Tryz.isAgg5
  z5 := Tryz.sizeOf5
  v5 := Tryz.zeroValue5
  t9 := Tryz.underlying9
  a9 := Tryz.isAgg9
  z9 := Tryz.sizeOf9
  v9 := Tryz.zeroValue9
  t22 := Tryz.underlying26
  a22 := Tryz.isAgg26
  z22 := Tryz.sizeOf26
  v22 := Tryz.zeroValue26
  t25 := Tryz.underlying108
  a25 := Tryz.isAgg108
  z25 := Tryz.sizeOf108
  v25 := Tryz.zeroValue108
  t39 := Tryz.underlying142
  a39 := Tryz.isAgg142
  z39 := Tryz.sizeOf142
  v39 := Tryz.zeroValue142
  t45 := Tryz.underlying164
  a45 := Tryz.isAgg164
  z45 := Tryz.sizeOf164
  v45 := Tryz.zeroValue164
  t46 := Tryz.underlying165
  a46 := Tryz.isAgg165
  z46 := Tryz.sizeOf165
  v46 := Tryz.zeroValue165
  t50 := Tryz.underlying114
  a50 := Tryz.isAgg114
  z50 := Tryz.sizeOf114
  v50 := Tryz.zeroValue114
  t53 := Tryz.underlying171
  a53 := Tryz.isAgg171
  z53 := Tryz.sizeOf171
  v53 := Tryz.zeroValue171
  t55 := Tryz.underlying22
  a55 := Tryz.isAgg22
  z55 := Tryz.sizeOf22
  v55 := Tryz.zeroValue22
  t66 := Tryz.underlying175
  a66 := Tryz.isAgg175
  z66 := Tryz.sizeOf175
  v66 := Tryz.zeroValue175
  t70 := Tryz.underlying178
  a70 := Tryz.isAgg178
  z70 := Tryz.sizeOf178
  v70 := Tryz.zeroValue178
  t76 := Tryz.underlying182
  a76 := Tryz.isAgg182
  z76 := Tryz.sizeOf182
  v76 := Tryz.zeroValue182
  t77 := Tryz.underlying64
  a77 := Tryz.isAgg64
  z77 := Tryz.sizeOf64
  v77 := Tryz.zeroValue64 }
theorem itAgg (w : World) : (isAgg (tsortLay_ren.t 24)).run PG w = .ok true w := Tryz.isAgg51 w
theorem itSize (w : World) : (Go.sizeOf (tsortLay_ren.t 24)).run PG w = .ok 5 w := Tryz.sizeOf51 w
end Go.Proofs.YtlkjippiaghbmaaGreat
/- table: all items, in order. -/
set_option linter.unusedSimpArgs false
set_option linter.unusedVariables false
namespace Go.Proofs.YtlkjippiaghbmaaGreat
open Go Go.Sort Go.Shelf

/-- By From, then Seq. -/
def ltI (a b : It) : Bool := decide (a.p.f < b.p.f) || (decide (a.p.f = b.p.f) && decide (a.p.s < b.p.s))
theorem ltOf_eq (a b : It) : ltOf cfI a b = ltI a b := by
  unfold ltOf cfI cmpI ltI
  by_cases h1 : a.p.f < b.p.f
  · simp [h1]
  · by_cases h2 : b.p.f < a.p.f
    · have h3 : ¬ a.p.f = b.p.f := by omega
      simp [h1, h2, h3]
    · have h3 : a.p.f = b.p.f := by omega
      simp only [h1, h2, if_false, ne_eq, not_true, h3]
      by_cases h4 : a.p.s < b.p.s
      · simp [h4]
      · by_cases h5 : b.p.s < a.p.s
        · simp [h4, h5]
        · simp [h4, h5]
theorem swoI : SWO (ltOf cfI) where
  irrefl x := by rw [ltOf_eq]; simp [ltI]
  trans x y z h1 h2 := by
    rw [ltOf_eq] at *
    simp only [ltI, Bool.or_eq_true, Bool.and_eq_true, decide_eq_true_eq] at *
    omega
  ntrans x y z h1 h2 := by
    rw [ltOf_eq] at *
    simp only [ltI, Bool.or_eq_false_iff, Bool.and_eq_false_iff, decide_eq_false_iff_not] at *
    omega

theorem Sort_ok {h : PH} {v : Value} {F : List Nat} {l : List It} (H : OwnR h T_api_Item 5 v (l.map It.cells) F) (hl : l.length ≤ 1000000) {k : Value → PH → Prop}
    (hk : ∀ (l' : List It) h', l'.Perm l → l'.Pairwise (fun a b => ltI b a = false) → OwnR h' T_api_Item 5 v (l'.map It.cells) F → Upd F h h' → k (.tuple #[]) h') :
    CallsH PG id_slices_SortFunc_sl_api_Item_api_Item #[v, .func (.func id_table_Table_Items_1) #[] #[]] h k := by
  refine sortFunc_ok (P := PG) tsortLay (f := id_slices_SortFunc_sl_api_Item_api_Item) rfl (k := 5) (by decide) itAgg itSize It.cells (fun _ => rfl) (fun x v hv => ?_) cfI swoI (g := id_table_Table_Items_1) (by kernel_rfl)
    (fun x y => less_ok x y fun h' _ => rfl) (by kernel_rfl) H (by omega) (fun l' h' hp hs hO u => hk l' h' hp ?_ hO u)
  · have := x.allCell v (by simpa using hv)
    cases v <;> first | rfl | cases this
  · refine hs.imp fun {a b} hab => ?_
    rw [← ltOf_eq]; exact hab

theorem Values_ok {h : PH} {m : Nat} {k : Value → PH → Prop} (hk : ∀ bx h', h bx = none → Bx h' bx [.map (some m)] → Ext h h' → k (.func (.func id_maps_Values_map_table_id_api_Item_table_id_api_Item_1) #[] #[.pointer (some ⟨bx, 0, none⟩)]) h') :
    CallsH PG id_maps_Values_map_table_id_api_Item_table_id_api_Item #[.map (some m)] h k := by
  apply maps_Values_map_table_id_api_Item_table_id_api_Item.call
  unfold maps_Values_map_table_id_api_Item_table_id_api_Item
  intro r hr
  rw [bindH_eq]
  simp only [popO_some, bindH_eq, condV_bool, condV_true, condV_false, yV_bool, gopV_tt, gopV_ff, gopV_tf, gopV_ft, pickV_t, pickV_f, pickV_bool, nilS_ptr, add_eq, sub_eq, mul_eq, lss_eq, leq_eq, gtr_eq, geq_eq, not_eq, minI_eq, maxI_eq, extract_0, extract_1, extract_2, eqlI, neqI, makeFunc_eq, decide_true, decide_false, if_true, if_false, Bool.false_eq_true, Bool.not_true, Bool.not_false, reduceIte, List.getElem?_toArray, List.getElem?_cons_zero, List.getElem?_cons_succ, Option.isSome_none, List.length_map]
  exact hk r _ hr ⟨_, set_same⟩ (Upd.new hr)
theorem Collect_ok {h : PH} {bx m : Nat} {L : List It} (hb : Bx h bx [.map (some m)]) (hm : MAt h m L) (hL : L.length ≤ 1000000) {k : Value → PH → Prop}
    (hk : ∀ v (l' : List It) h' F, l'.Perm L → OwnR h' T_api_Item 5 v (l'.map It.cells) F → Fresh h F → Ext h h' → k v h') :
    CallsH PG id_slices_Collect_api_Item #[.func (.func id_maps_Values_map_table_id_api_Item_table_id_api_Item_1) #[] #[.pointer (some ⟨bx, 0, none⟩)]] h k := by
  apply slices_Collect_api_Item.call
  unfold slices_Collect_api_Item
  exact AppendSeq_ok hb hm hL hk
end Go.Proofs.YtlkjippiaghbmaaGreat
/- table, plainly: a row of items, by rising From, then Seq. -/
set_option linter.unusedSimpArgs false
set_option linter.unusedVariables false
namespace Go.Proofs.YtlkjippiaghbmaaGreat
open Go

def kl (a b : Ky) : Prop := a.1 < b.1 ∨ a.1 = b.1 ∧ a.2 < b.2
instance (a b : Ky) : Decidable (kl a b) := by unfold kl; exact inferInstance
theorem kl_irrefl (a : Ky) : ¬ kl a a := by unfold kl; omega
theorem kl_trans {a b c : Ky} (h1 : kl a b) (h2 : kl b c) : kl a c := by unfold kl at *; omega
theorem kl_ne {a b : Ky} (h : kl a b) : a ≠ b := by rintro rfl; exact kl_irrefl _ h
theorem kl_asymm {a b : Ky} (h : kl a b) : ¬ kl b a := fun h2 => kl_irrefl _ (kl_trans h h2)
theorem kl_total {a b : Ky} (h : a ≠ b) : kl a b ∨ kl b a := by
  have : ¬ (a.1 = b.1 ∧ a.2 = b.2) := fun e => h (Prod.ext e.1 e.2)
  unfold kl; omega
def Srt (L : List It) : Prop := L.Pairwise fun a b => kl a.key b.key
def getL (L : List It) (k : Ky) : Option It := L.find? fun i => decide (k = i.key)
def delL (L : List It) (k : Ky) : List It := L.filter fun i => decide (i.key ≠ k)
def insL (L : List It) (i : It) : List It := (L.filter fun j => decide (kl j.key i.key)) ++ i :: (L.filter fun j => decide (kl i.key j.key))

theorem Srt.unique : ∀ {A B : List It}, Srt A → Srt B → A.Perm B → A = B
  | [], B, _, _, h => by rw [List.nil_perm.1 h]
  | a :: A, [], _, _, h => by have := h.length_eq; simp at this
  | a :: A, b :: B, hA, hB, h => by
    unfold Srt at hA hB
    rw [List.pairwise_cons] at hA hB
    have e : a = b := by
      have h1 : a ∈ b :: B := h.mem_iff.1 (by simp)
      have h2 : b ∈ a :: A := h.mem_iff.2 (by simp)
      rcases List.mem_cons.1 h1 with h1 | h1
      · exact h1
      · rcases List.mem_cons.1 h2 with h2 | h2
        · exact h2.symm
        · exact absurd (hA.1 b h2) (kl_asymm (hB.1 a h1))
    subst e
    rw [Srt.unique hA.2 hB.2 (h.cons_inv)]
theorem Srt.filter {L : List It} (h : Srt L) (p : It → Bool) : Srt (L.filter p) := List.Pairwise.filter p h
theorem Srt.del {L : List It} (h : Srt L) (k : Ky) : Srt (delL L k) := h.filter _
theorem Srt.ins {L : List It} (h : Srt L) (i : It) : Srt (insL L i) := by
  unfold insL Srt
  rw [List.pairwise_append]
  refine ⟨h.filter _, ?_, ?_⟩
  · rw [List.pairwise_cons]
    exact ⟨fun x hx => by simpa using (List.mem_filter.1 hx).2, h.filter _⟩
  · intro x hx y hy
    have h1 : kl x.key i.key := by simpa using (List.mem_filter.1 hx).2
    rcases List.mem_cons.1 hy with rfl | hy
    · exact h1
    · exact kl_trans h1 (by simpa using (List.mem_filter.1 hy).2)
theorem Srt.nodup {L : List It} (h : Srt L) : (L.map It.key).Nodup := by
  unfold List.Nodup
  rw [List.pairwise_map]
  exact h.imp fun h => kl_ne h
theorem part_perm {α : Type} (p q : α → Bool) (hd : ∀ a, p a = true → q a = false) : ∀ l : List α, (l.filter p ++ l.filter q).Perm (l.filter fun a => p a || q a)
  | [] => List.Perm.refl _
  | a :: l => by
    have ih := part_perm p q hd l
    cases hp : p a with
    | true =>
      have hq := hd a hp
      simp only [List.filter_cons, hp, hq, Bool.true_or, if_true, Bool.false_eq_true, if_false, List.cons_append]
      exact ih.cons a
    | false =>
      cases hq : q a with
      | true =>
        simp only [List.filter_cons, hp, hq, Bool.false_or, if_true, Bool.false_eq_true, if_false]
        exact List.perm_middle.trans (ih.cons a)
      | false => simp only [List.filter_cons, hp, hq, Bool.or_self, Bool.false_eq_true, if_false]; exact ih
theorem ins_perm (L : List It) (i : It) : (insL L i).Perm (i :: delL L i.key) := by
  unfold insL delL
  refine List.perm_middle.trans (List.Perm.cons i ?_)
  refine (part_perm _ _ (fun a ha => ?_) L).trans ?_
  · simp only [decide_eq_true_eq] at ha
    simp only [decide_eq_false_iff_not]
    exact kl_asymm ha
  · have : (L.filter fun a => decide (kl a.key i.key) || decide (kl i.key a.key)) = L.filter fun j => decide (j.key ≠ i.key) := by
      apply List.filter_congr
      intro x _
      rw [Bool.eq_iff_iff]
      simp only [Bool.or_eq_true, decide_eq_true_eq]
      constructor
      · rintro (h | h)
        · exact kl_ne h
        · exact (kl_ne h).symm
      · exact kl_total
    rw [this]
theorem getL_mem {L : List It} {k : Ky} {x : It} (h : getL L k = some x) : x ∈ L ∧ x.key = k := by
  unfold getL at h
  exact ⟨List.mem_of_find?_eq_some h, by simpa using (by simpa using List.find?_some h : k = x.key).symm⟩
theorem getL_none {L : List It} {k : Ky} : getL L k = none ↔ ∀ x ∈ L, x.key ≠ k := by
  unfold getL
  rw [List.find?_eq_none]
  simp only [decide_eq_true_eq]
  exact ⟨fun h x hx e => h x hx e.symm, fun h x hx e => h x hx e.symm⟩
theorem getL_of {L : List It} (hn : (L.map It.key).Nodup) {x : It} (hx : x ∈ L) : getL L x.key = some x := by
  cases h : getL L x.key with
  | none => exact absurd rfl (getL_none.1 h x hx)
  | some y => obtain ⟨h1, h2⟩ := getL_mem h; rw [nodup_inj (f := It.key) hn h1 hx h2]
theorem getL_perm {l L : List It} (hp : l.Perm L) (hn : (L.map It.key).Nodup) (k : Ky) : getL l k = getL L k := by
  cases h : getL L k with
  | none => exact getL_none.2 fun x hx => getL_none.1 h x (hp.mem_iff.1 hx)
  | some y =>
    obtain ⟨h1, rfl⟩ := getL_mem h
    exact getL_of ((hp.map It.key).nodup_iff.2 hn) (hp.mem_iff.2 h1)
theorem del_none {L : List It} {k : Ky} (h : getL L k = none) : delL L k = L := by
  unfold delL
  rw [List.filter_eq_self]
  intro x hx
  simpa using getL_none.1 h x hx
/-- A replaced one. -/
theorem repl_perm {i : It} : ∀ {l : List It}, (l.map It.key).Nodup → (∃ x ∈ l, x.key = i.key) → (l.map fun j => if j.key = i.key then i else j).Perm (i :: delL l i.key)
  | [], _, ⟨x, hx, _⟩ => by cases hx
  | y :: l, hn, ⟨x, hx, e⟩ => by
    simp only [List.map_cons, List.nodup_cons] at hn
    by_cases hy : y.key = i.key
    · have hno : ∀ z ∈ l, z.key ≠ i.key := fun z hz e => hn.1 (by rw [hy, ← e]; exact List.mem_map_of_mem hz)
      have h1 : (l.map fun j => if j.key = i.key then i else j) = l := by
        rw [List.map_congr_left (g := id) fun z hz => by simp [hno z hz], List.map_id]
      have h2 : delL (y :: l) i.key = l := by
        unfold delL
        simp only [List.filter_cons, hy, ne_eq, not_true, decide_false, Bool.false_eq_true, if_false]
        rw [List.filter_eq_self]
        intro z hz; simpa using hno z hz
      rw [List.map_cons, if_pos hy, h1, h2]
    · have hx' : ∃ x ∈ l, x.key = i.key := by
        rcases List.mem_cons.1 hx with rfl | hx
        · exact absurd e hy
        · exact ⟨x, hx, e⟩
      have ih := repl_perm hn.2 hx'
      have h2 : delL (y :: l) i.key = y :: delL l i.key := by
        unfold delL
        simp [List.filter_cons, hy]
      rw [List.map_cons, if_neg hy, h2]
      exact (ih.cons y).trans (List.Perm.swap i y _)

/-! ### what calls leave, and say -/
def putE (L : List It) (room : Int) (i : It) : Int := if getL L i.key = none ∧ room ≤ L.length then 2 else 0
def putL (L : List It) (room : Int) (i : It) : List It := if getL L i.key = none ∧ room ≤ L.length then L else insL L i
def appE (L : List It) (room : Int) (n : Nt) : Int :=
  if n.right = false then 1
  else if n.k = 1 then (if (getL L n.p.key).isSome then 0 else putE L room ⟨n.p, 1⟩)
  else if n.k = 2 then (if (getL L n.p.key).isSome then 0 else putE L room ⟨n.p, 2⟩)
  else 0
def appL (L : List It) (room : Int) (n : Nt) : List It :=
  if n.right = false then L
  else if n.k = 1 then (if (getL L n.p.key).isSome then L else putL L room ⟨n.p, 1⟩)
  else if n.k = 2 then (match getL L n.p.key with
    | some x => insL L ⟨x.p, 2⟩
    | none => putL L room ⟨n.p, 2⟩)
  else delL L n.p.key
def dropE (L : List It) (k : Ky) : Int := if (getL L k).isSome then 0 else 3
def actE (L : List It) (room : Int) (a : Ac) : Int := if a.dr then dropE L a.n.p.key else appE L room a.n
def actL (L : List It) (room : Int) (a : Ac) : List It := if a.dr then delL L a.n.p.key else appL L room a.n
def fitL (room : Int) : List It → List Nt → Nat
  | _, [] => 0
  | L, n :: ns => if appE L room n = 0 then fitL room (appL L room n) ns + 1 else 0
theorem Srt.put {L : List It} (h : Srt L) (room : Int) (i : It) : Srt (putL L room i) := by
  unfold putL; split
  · exact h
  · exact h.ins i
theorem Srt.app {L : List It} (h : Srt L) (room : Int) (n : Nt) : Srt (appL L room n) := by
  unfold appL
  split
  · exact h
  · split
    · split
      · exact h
      · exact h.put room _
    · split
      · split
        · exact h.ins _
        · exact h.put room _
      · exact h.del _
theorem Srt.act {L : List It} (h : Srt L) (room : Int) (a : Ac) : Srt (actL L room a) := by
  unfold actL; split
  · exact h.del _
  · exact h.app room _
theorem ins_length_of {L : List It} (hs : Srt L) (i : It) : (insL L i).length = if (getL L i.key).isSome then L.length else L.length + 1 := by
  rw [(ins_perm L i).length_eq, List.length_cons]
  cases h : getL L i.key with
  | none => rw [del_none h]; rfl
  | some x =>
    obtain ⟨h1, h2⟩ := getL_mem h
    have := (repl_perm (i := i) hs.nodup ⟨x, h1, h2⟩).length_eq
    rw [List.length_map, List.length_cons] at this
    simp only [Option.isSome_some, if_true]; omega
theorem put_len {L : List It} (hs : Srt L) {room : Int} (h0 : L.length ≤ room) (i : It) : (putL L room i).length ≤ room := by
  unfold putL
  split
  · exact h0
  · rename_i hn
    rw [ins_length_of hs]
    split
    · exact h0
    · rename_i hx
      have : getL L i.key = none := by cases h : getL L i.key with
        | none => rfl
        | some x => rw [h] at hx; simp at hx
      have : ¬ room ≤ L.length := fun h => hn ⟨this, h⟩
      omega
theorem del_len (L : List It) (k : Ky) : (delL L k).length ≤ L.length := List.length_filter_le _ _
theorem app_len {L : List It} (hs : Srt L) {room : Int} (h0 : L.length ≤ room) (n : Nt) : (appL L room n).length ≤ room := by
  unfold appL
  split
  · exact h0
  · split
    · split
      · exact h0
      · exact put_len hs h0 _
    · split
      · split
        · rename_i x hx
          rw [ins_length_of hs]
          obtain ⟨h1, h2⟩ := getL_mem hx
          have : getL L (⟨x.p, 2⟩ : It).key = some x := by show getL L x.key = some x; rw [h2]; exact hx
          rw [this]; simpa using h0
        · exact put_len hs h0 _
      · have := del_len L n.p.key; omega
theorem act_len {L : List It} (hs : Srt L) {room : Int} (h0 : L.length ≤ room) (a : Ac) : (actL L room a).length ≤ room := by
  unfold actL
  split
  · have := del_len L a.n.p.key; omega
  · exact app_len hs h0 _
end Go.Proofs.YtlkjippiaghbmaaGreat
/- table: its functions, as rules for their calls. -/
set_option maxRecDepth 20000
set_option linter.unusedSimpArgs false
set_option linter.unusedVariables false
namespace Go.Proofs.YtlkjippiaghbmaaGreat
open Go

structure TAt (h : PH) (a : Nat) (L : List It) (room : Int) (F : List Nat) : Prop where
  here : ∃ m l, h a = some (.cells #[.map (some m), .int .i64 room] T_table_Table (0, 0)) ∧ MAt h m l ∧ l.Perm L ∧ F = [a, m] ∧ a ≠ m
  srt : Srt L
theorem TAt.upd {h h' : PH} {a : Nat} {L : List It} {room : Int} {F G : List Nat} (H : TAt h a L room F) (u : Upd G h h') (hd : ∀ b ∈ F, b ∉ G) : TAt h' a L room F := by
  obtain ⟨m, l, ha, hm, hp, rfl, hn⟩ := H.here
  exact ⟨⟨m, l, u.get ha (hd a (by simp)), MapAt.upd hm u (hd m (by simp)), hp, rfl, hn⟩, H.srt⟩
theorem TAt.ext {h h' : PH} {a : Nat} {L : List It} {room : Int} {F : List Nat} (H : TAt h a L room F) (u : Ext h h') : TAt h' a L room F := H.upd u (by simp)
theorem TAt.known {h : PH} {a : Nat} {L : List It} {room : Int} {F : List Nat} (H : TAt h a L room F) : ∀ b ∈ F, h b ≠ none := by
  obtain ⟨m, l, ha, hm, hp, rfl, hn⟩ := H.here
  intro b hb
  simp only [List.mem_cons, List.not_mem_nil, or_false] at hb
  rcases hb with rfl | rfl
  · rw [ha]; simp
  · exact MapAt.known hm
theorem getM_pr (l : List It) (k : Ky) : getM (l.map It.pr) k = (getL l k).map It.val := by
  unfold getM getL
  rw [List.find?_map, Option.map_map]
  rfl
theorem look_eq {h : PH} {m : Nat} {l : List It} (hm : MAt h m l) (k : Ky) : SemE PG h (Instr.lookup T_map_table_id_api_Item (.map (some m)) (kenc k) true) = some (.tuple #[((getL l k).getD default).val, .bool (getL l k).isSome]) := by
  rw [look_found kkeyed T_map_table_id_api_Item.und T_api_Item.info T_api_Item.zero hm k true, getM_pr]
  cases getL l k <;> rfl
theorem del_pr (l : List It) (k : Ky) : delM (l.map It.pr) k = (delL l k).map It.pr := by
  unfold delM delL
  rw [List.filter_map]; rfl
theorem put_perm {l L : List It} (hp : l.Perm L) (hs : Srt L) (i : It) : ∃ l' : List It, putM (l.map It.pr) i.key i.val = l'.map It.pr ∧ l'.Perm (insL L i) := by
  have hnl : (l.map It.key).Nodup := (hp.map It.key).nodup_iff.2 hs.nodup
  have hk : keysM (l.map It.pr) = l.map It.key := by unfold keysM; rw [List.map_map]; rfl
  have hdel : (delL l i.key).Perm (delL L i.key) := hp.filter _
  unfold putM
  rw [hk]
  split
  · rename_i hm
    refine ⟨l.map fun j => if j.key = i.key then i else j, ?_, ?_⟩
    · rw [List.map_map, List.map_map]
      apply List.map_congr_left
      intro x _
      show (if x.key = i.key then (i.key, i.val) else (x.key, x.val)) = It.pr (if x.key = i.key then i else x)
      by_cases hc : x.key = i.key
      · rw [if_pos hc, if_pos hc]; rfl
      · rw [if_neg hc, if_neg hc]; rfl
    · obtain ⟨x, hx, e⟩ := List.mem_map.1 hm
      exact ((repl_perm hnl ⟨x, hx, e⟩).trans (hdel.cons i)).trans (ins_perm L i).symm
  · rename_i hm
    refine ⟨l ++ [i], by rw [List.map_append]; rfl, ?_⟩
    have hno : getL l i.key = none := getL_none.2 fun x hx e => hm (by rw [← e]; exact List.mem_map_of_mem hx)
    rw [del_none hno] at hdel
    exact (List.perm_append_singleton i l).trans ((hdel.cons i).trans (ins_perm L i).symm)
theorem id_build (k : Ky) : SemP PG (Instr.build T_table_id #[(0, .int .i64 k.1), (1, .int .u64 k.2)]) = some (kenc k) := by kernel_rfl
theorem it_build (p : Pk) (g : Int) : SemP PG (Instr.build T_api_Item #[(0, .agg p.cells.toArray), (1, .int .i64 g)]) = some (It.val ⟨p, g⟩) := by kernel_rfl

theorem New_ok {h : PH} (room : Int) {k : Value → PH → Prop} (hbad : (room < 1 ∨ 40 < room) → k (.tuple #[.pointer none, .int .i64 1]) h)
    (hk : 1 ≤ room → room ≤ 40 → ∀ a h' F, TAt h' a [] room F → Fresh h F → Ext h h' → k (.tuple #[.pointer (some ⟨a, 0, none⟩), .int .i64 0]) h') : CallsH PG id_table_New #[.int .i64 room] h k := by
  apply table_New.call
  unfold table_New
  by_cases d1 : room < 1
  · simp only [d1, popO_some, bindH_eq, condV_bool, condV_true, condV_false, yV_bool, gopV_tt, gopV_ff, gopV_tf, gopV_ft, pickV_t, pickV_f, pickV_bool, nilS_ptr, add_eq, sub_eq, mul_eq, lss_eq, leq_eq, gtr_eq, geq_eq, not_eq, minI_eq, maxI_eq, extract_0, extract_1, extract_2, eqlI, neqI, makeFunc_eq, decide_true, decide_false, if_true, if_false, Bool.false_eq_true, Bool.not_true, Bool.not_false, reduceIte, List.getElem?_toArray, List.getElem?_cons_zero, List.getElem?_cons_succ, Option.isSome_none, List.length_map]; exact hbad (.inl d1)
  · by_cases d2 : 40 < room
    · simp only [d1, d2, popO_some, bindH_eq, condV_bool, condV_true, condV_false, yV_bool, gopV_tt, gopV_ff, gopV_tf, gopV_ft, pickV_t, pickV_f, pickV_bool, nilS_ptr, add_eq, sub_eq, mul_eq, lss_eq, leq_eq, gtr_eq, geq_eq, not_eq, minI_eq, maxI_eq, extract_0, extract_1, extract_2, eqlI, neqI, makeFunc_eq, decide_true, decide_false, if_true, if_false, Bool.false_eq_true, Bool.not_true, Bool.not_false, reduceIte, List.getElem?_toArray, List.getElem?_cons_zero, List.getElem?_cons_succ, Option.isSome_none, List.length_map]; exact hbad (.inr d2)
    · simp only [d1, d2, makeMap_eq, popO_some, bindH_eq, condV_bool, condV_true, condV_false, yV_bool, gopV_tt, gopV_ff, gopV_tf, gopV_ft, pickV_t, pickV_f, pickV_bool, nilS_ptr, add_eq, sub_eq, mul_eq, lss_eq, leq_eq, gtr_eq, geq_eq, not_eq, minI_eq, maxI_eq, extract_0, extract_1, extract_2, eqlI, neqI, makeFunc_eq, decide_true, decide_false, if_true, if_false, Bool.false_eq_true, Bool.not_true, Bool.not_false, reduceIte, List.getElem?_toArray, List.getElem?_cons_zero, List.getElem?_cons_succ, Option.isSome_none, List.length_map]
      intro m hm
      refine popO_pure ?_
      try rw [bindH_eq]
      have hb : SemP PG (Instr.build T_table_Table #[(0, .map (some m)), (1, .int .i64 room)]) = some (.agg #[.map (some m), .int .i64 room]) := by kernel_rfl
      rw [hb, popO_some]
      intro a ha
      try rw [bindH_eq]
      have ham : a ≠ m := by rintro rfl; rw [set_same] at ha; cases ha
      have u1 : Ext h (h.set m (.map #[] 0)) := Upd.new hm
      have hma : (h.set m (.map #[] 0)) a = none := ha
      refine hk (by omega) (by omega) a _ [a, m] ⟨⟨m, [], set_same, ?_, List.Perm.refl _, rfl, ham⟩, List.Pairwise.nil⟩ (fun b hb => ?_) (u1.trans (Upd.new ha))
      · exact MapAt.ext MapAt.new (Upd.new ha)
      · simp only [List.mem_cons, List.not_mem_nil, or_false] at hb
        rcases hb with rfl | rfl
        · exact u1.none hma
        · exact hm

theorem tput_ok {h : PH} {a : Nat} {L : List It} {room : Int} {F : List Nat} (H : TAt h a L room F) (i : It) {k : Value → PH → Prop}
    (hk : ∀ h', TAt h' a (putL L room i) room F → Upd F h h' → k (.int .i64 (putE L room i)) h') : CallsH PG id_table_Table_put #[.pointer (some ⟨a, 0, none⟩), kenc i.key, i.val] h k := by
  apply table_Table_put.call
  unfold table_Table_put
  intro r1 hr1
  rw [bindH_eq]
  intro r3 hr3
  rw [bindH_eq]
  have u1 : Ext h (h.set r1 (.cells (Value.cells (kenc i.key)) T_table_id)) := Upd.new hr1
  have b1 : Bx (h.set r1 (.cells (Value.cells (kenc i.key)) T_table_id)) r1 [.int .i64 i.key.1, .int .u64 i.key.2] := Bx.new
  generalize h.set r1 (.cells (Value.cells (kenc i.key)) T_table_id) = h1 at *
  have u2 : Ext h1 (h1.set r3 (.cells (Value.cells i.val) T_api_Item)) := Upd.new hr3
  have b3 : Bx (h1.set r3 (.cells (Value.cells i.val) T_api_Item)) r3 i.cells := Bx.new
  generalize h1.set r3 (.cells (Value.cells i.val) T_api_Item) = h2 at *
  have b1 := b1.ext u2
  have u := u1.trans u2
  have H2 := H.ext u
  have hs := H.srt
  obtain ⟨m, l, ha, hm, hp, rfl, ham⟩ := H2.here
  have hgl := fun k => getL_perm hp hs.nodup k
  have c0 : cellH h2 ⟨a, 0, none⟩ = some (.map (some m)) := by simp [cellH, ha]
  simp only [T_table_Table.f0, T_map_table_id_api_Item.load, c0, b1.id, look_eq hm, hgl, popO_some, bindH_eq, condV_bool, condV_true, condV_false, yV_bool, gopV_tt, gopV_ff, gopV_tf, gopV_ft, pickV_t, pickV_f, pickV_bool, nilS_ptr, add_eq, sub_eq, mul_eq, lss_eq, leq_eq, gtr_eq, geq_eq, not_eq, minI_eq, maxI_eq, extract_0, extract_1, extract_2, eqlI, neqI, makeFunc_eq, decide_true, decide_false, if_true, if_false, Bool.false_eq_true, Bool.not_true, Bool.not_false, reduceIte, List.getElem?_toArray, List.getElem?_cons_zero, List.getElem?_cons_succ, Option.isSome_none, List.length_map]
  intro r12 hr12
  try rw [bindH_eq]
  refine put_it hr12 _ fun h5 b5 u5 => ?_
  have ha5 := u5.get ha
  have hm5 := MapAt.ext hm u5
  have b1 := b1.ext u5
  have b3 := b3.ext u5
  have c0 : cellH h5 ⟨a, 0, none⟩ = some (.map (some m)) := by simp [cellH, ha5]
  have c1 : cellH h5 ⟨a, 0 + 1, none⟩ = some (.int .i64 room) := by simp [cellH, ha5]
  have lm := MapAt.len hm5 (t' := T_int) T_map_table_id_api_Item.und
  rw [List.length_map, hp.length_eq] at lm
  have uu := u.trans u5
  have fin : ¬ (getL L i.key = none ∧ room ≤ L.length) → SemH PG (mapUpdS T_map_table_id_api_Item (.map (some m)) (kenc i.key) i.val) h5 fun v61 h62 => k (.int .i64 0) h62 := fun hc => by
    refine map_put kkeyed T_map_table_id_api_Item.und hm5 i.key i.val fun h6 hm6 u6 => ?_
    obtain ⟨l', e1, e2⟩ := put_perm hp hs i
    rw [e1] at hm6
    have : putE L room i = 0 := by unfold putE; rw [if_neg hc]
    rw [← this]
    have : putL L room i = insL L i := by unfold putL; rw [if_neg hc]
    refine hk h6 ⟨⟨m, l', u6.get ha5 (by simpa using ham), hm6, by rw [this]; exact e2, rfl, ham⟩, by rw [this]; exact hs.ins i⟩ ?_
    exact Upd.then (Ext.upd uu) u6 (fun b hb => by left; simp at hb; simp [hb])
  by_cases hx : (getL L i.key).isSome = true
  · have hc : ¬ (getL L i.key = none ∧ room ≤ L.length) := fun hc => by rw [hc.1] at hx; cases hx
    have hf := fin hc
    simp only [hx, T_table_Table.f0, T_table_Table.f1, T_map_table_id_api_Item.load, c0, b1.id, b3.it, popO_some, bindH_eq, condV_bool, condV_true, condV_false, yV_bool, gopV_tt, gopV_ff, gopV_tf, gopV_ft, pickV_t, pickV_f, pickV_bool, nilS_ptr, add_eq, sub_eq, mul_eq, lss_eq, leq_eq, gtr_eq, geq_eq, not_eq, minI_eq, maxI_eq, extract_0, extract_1, extract_2, eqlI, neqI, makeFunc_eq, decide_true, decide_false, if_true, if_false, Bool.false_eq_true, Bool.not_true, Bool.not_false, reduceIte, List.getElem?_toArray, List.getElem?_cons_zero, List.getElem?_cons_succ, Option.isSome_none, List.length_map]
    exact hf
  · have hx' : (getL L i.key).isSome = false := by simpa using hx
    have hnone : getL L i.key = none := by simpa using hx'
    by_cases hr : room ≤ L.length
    · have e1 : (room ≤ (L.length : Int)) = True := by apply eq_true; exact hr
      simp only [hx', T_table_Table.f0, T_table_Table.f1, T_map_table_id_api_Item.load, T_int.load, c0, c1, lm, e1, b1.id, b3.it, popO_some, bindH_eq, condV_bool, condV_true, condV_false, yV_bool, gopV_tt, gopV_ff, gopV_tf, gopV_ft, pickV_t, pickV_f, pickV_bool, nilS_ptr, add_eq, sub_eq, mul_eq, lss_eq, leq_eq, gtr_eq, geq_eq, not_eq, minI_eq, maxI_eq, extract_0, extract_1, extract_2, eqlI, neqI, makeFunc_eq, decide_true, decide_false, if_true, if_false, Bool.false_eq_true, Bool.not_true, Bool.not_false, reduceIte, List.getElem?_toArray, List.getElem?_cons_zero, List.getElem?_cons_succ, Option.isSome_none, List.length_map]
      have h1 : putE L room i = 2 := by unfold putE; rw [if_pos ⟨hnone, hr⟩]
      have h2 : putL L room i = L := by unfold putL; rw [if_pos ⟨hnone, hr⟩]
      rw [← h1]
      refine hk h5 ?_ (Ext.upd uu)
      rw [h2]; exact H.ext uu
    · have e1 : (room ≤ (L.length : Int)) = False := by apply eq_false; exact hr
      have hf := fin (fun hc => hr hc.2)
      simp only [hx', T_table_Table.f0, T_table_Table.f1, T_map_table_id_api_Item.load, T_int.load, c0, c1, lm, e1, b1.id, b3.it, popO_some, bindH_eq, condV_bool, condV_true, condV_false, yV_bool, gopV_tt, gopV_ff, gopV_tf, gopV_ft, pickV_t, pickV_f, pickV_bool, nilS_ptr, add_eq, sub_eq, mul_eq, lss_eq, leq_eq, gtr_eq, geq_eq, not_eq, minI_eq, maxI_eq, extract_0, extract_1, extract_2, eqlI, neqI, makeFunc_eq, decide_true, decide_false, if_true, if_false, Bool.false_eq_true, Bool.not_true, Bool.not_false, reduceIte, List.getElem?_toArray, List.getElem?_cons_zero, List.getElem?_cons_succ, Option.isSome_none, List.length_map]
      exact hf

theorem sent_ok {h : PH} {a : Nat} {L : List It} {room : Int} {F : List Nat} (H : TAt h a L room F) (p : Pk) {k : Value → PH → Prop}
    (hk : ∀ h', TAt h' a (if (getL L p.key).isSome then L else putL L room ⟨p, 1⟩) room F → Upd F h h' → k (.int .i64 (if (getL L p.key).isSome then 0 else putE L room ⟨p, 1⟩)) h') :
    CallsH PG id_table_Table_sent #[.pointer (some ⟨a, 0, none⟩), kenc p.key, .agg p.cells.toArray] h k := by
  apply table_Table_sent.call
  unfold table_Table_sent
  intro r1 hr1
  rw [bindH_eq]
  intro r3 hr3
  rw [bindH_eq]
  have u1 : Ext h (h.set r1 (.cells (Value.cells (kenc p.key)) T_table_id)) := Upd.new hr1
  have b1 : Bx (h.set r1 (.cells (Value.cells (kenc p.key)) T_table_id)) r1 [.int .i64 p.key.1, .int .u64 p.key.2] := Bx.new
  generalize h.set r1 (.cells (Value.cells (kenc p.key)) T_table_id) = h1 at *
  have u2 : Ext h1 (h1.set r3 (.cells (Value.cells (.agg p.cells.toArray)) T_api_Packet)) := Upd.new hr3
  have b3 : Bx (h1.set r3 (.cells (Value.cells (.agg p.cells.toArray)) T_api_Packet)) r3 p.cells := Bx.new
  generalize h1.set r3 (.cells (Value.cells (.agg p.cells.toArray)) T_api_Packet) = h2 at *
  have b1 := b1.ext u2
  have u := u1.trans u2
  have H2 := H.ext u
  have hs := H.srt
  obtain ⟨m, l, ha, hm, hp, hF, ham⟩ := H2.here
  have hgl := fun k => getL_perm hp hs.nodup k
  have c0 : cellH h2 ⟨a, 0, none⟩ = some (.map (some m)) := by simp [cellH, ha]
  simp only [T_table_Table.f0, T_map_table_id_api_Item.load, c0, b1.id, look_eq hm, hgl, popO_some, bindH_eq, condV_bool, condV_true, condV_false, yV_bool, gopV_tt, gopV_ff, gopV_tf, gopV_ft, pickV_t, pickV_f, pickV_bool, nilS_ptr, add_eq, sub_eq, mul_eq, lss_eq, leq_eq, gtr_eq, geq_eq, not_eq, minI_eq, maxI_eq, extract_0, extract_1, extract_2, eqlI, neqI, makeFunc_eq, decide_true, decide_false, if_true, if_false, Bool.false_eq_true, Bool.not_true, Bool.not_false, reduceIte, List.getElem?_toArray, List.getElem?_cons_zero, List.getElem?_cons_succ, Option.isSome_none, List.length_map]
  intro r12 hr12
  try rw [bindH_eq]
  refine put_it hr12 _ fun h5 b5 u5 => ?_
  have b1 := b1.ext u5
  have p3 := (b3.ext u5).pk (o := 0) (p := p) rfl
  have uu := u.trans u5
  by_cases hx : (getL L p.key).isSome = true
  · simp only [hx, popO_some, bindH_eq, condV_bool, condV_true, condV_false, yV_bool, gopV_tt, gopV_ff, gopV_tf, gopV_ft, pickV_t, pickV_f, pickV_bool, nilS_ptr, add_eq, sub_eq, mul_eq, lss_eq, leq_eq, gtr_eq, geq_eq, not_eq, minI_eq, maxI_eq, extract_0, extract_1, extract_2, eqlI, neqI, makeFunc_eq, decide_true, decide_false, if_true, if_false, Bool.false_eq_true, Bool.not_true, Bool.not_false, reduceIte, List.getElem?_toArray, List.getElem?_cons_zero, List.getElem?_cons_succ, Option.isSome_none, List.length_map] at hk ⊢
    exact hk h5 (H.ext uu) (Ext.upd uu)
  · have hx' : (getL L p.key).isSome = false := by simpa using hx
    simp only [hx', b1.id, p3, it_build, popO_some, bindH_eq, condV_bool, condV_true, condV_false, yV_bool, gopV_tt, gopV_ff, gopV_tf, gopV_ft, pickV_t, pickV_f, pickV_bool, nilS_ptr, add_eq, sub_eq, mul_eq, lss_eq, leq_eq, gtr_eq, geq_eq, not_eq, minI_eq, maxI_eq, extract_0, extract_1, extract_2, eqlI, neqI, makeFunc_eq, decide_true, decide_false, if_true, if_false, Bool.false_eq_true, Bool.not_true, Bool.not_false, reduceIte, List.getElem?_toArray, List.getElem?_cons_zero, List.getElem?_cons_succ, Option.isSome_none, List.length_map] at hk ⊢
    refine tput_ok (H.ext uu) ⟨p, 1⟩ fun h6 H6 u6 => hk h6 H6 (Upd.then (Ext.upd uu) u6 fun b hb => .inl hb)

theorem received_ok {h : PH} {a : Nat} {L : List It} {room : Int} {F : List Nat} (H : TAt h a L room F) (p : Pk) {k : Value → PH → Prop}
    (hk : ∀ h', TAt h' a (match getL L p.key with
      | some x => insL L ⟨x.p, 2⟩
      | none => putL L room ⟨p, 2⟩) room F → Upd F h h' → k (.int .i64 (if (getL L p.key).isSome then 0 else putE L room ⟨p, 2⟩)) h') :
    CallsH PG id_table_Table_received #[.pointer (some ⟨a, 0, none⟩), kenc p.key, .agg p.cells.toArray] h k := by
  apply table_Table_received.call
  unfold table_Table_received
  intro r1 hr1
  rw [bindH_eq]
  intro r3 hr3
  rw [bindH_eq]
  have u1 : Ext h (h.set r1 (.cells (Value.cells (kenc p.key)) T_table_id)) := Upd.new hr1
  have b1 : Bx (h.set r1 (.cells (Value.cells (kenc p.key)) T_table_id)) r1 [.int .i64 p.key.1, .int .u64 p.key.2] := Bx.new
  generalize h.set r1 (.cells (Value.cells (kenc p.key)) T_table_id) = h1 at *
  have u2 : Ext h1 (h1.set r3 (.cells (Value.cells (.agg p.cells.toArray)) T_api_Packet)) := Upd.new hr3
  have b3 : (h1.set r3 (.cells (Value.cells (.agg p.cells.toArray)) T_api_Packet)) r3 = some (.cells p.cells.toArray T_api_Packet (0, 0)) := set_same
  have n3 : h r3 = none := u1.none hr3
  have n13 : r1 ≠ r3 := by rintro rfl; exact b1.known hr3
  generalize h1.set r3 (.cells (Value.cells (.agg p.cells.toArray)) T_api_Packet) = h2 at *
  have b1 := b1.ext u2
  have u := u1.trans u2
  have H2 := H.ext u
  have hs := H.srt
  obtain ⟨m, l, ha, hm, hp, hF, ham⟩ := H2.here
  have hgl := fun k => getL_perm hp hs.nodup k
  have c0 : cellH h2 ⟨a, 0, none⟩ = some (.map (some m)) := by simp [cellH, ha]
  simp only [T_table_Table.f0, T_map_table_id_api_Item.load, c0, b1.id, look_eq hm, hgl, popO_some, bindH_eq, condV_bool, condV_true, condV_false, yV_bool, gopV_tt, gopV_ff, gopV_tf, gopV_ft, pickV_t, pickV_f, pickV_bool, nilS_ptr, add_eq, sub_eq, mul_eq, lss_eq, leq_eq, gtr_eq, geq_eq, not_eq, minI_eq, maxI_eq, extract_0, extract_1, extract_2, eqlI, neqI, makeFunc_eq, decide_true, decide_false, if_true, if_false, Bool.false_eq_true, Bool.not_true, Bool.not_false, reduceIte, List.getElem?_toArray, List.getElem?_cons_zero, List.getElem?_cons_succ, Option.isSome_none, List.length_map]
  intro r12 hr12
  try rw [bindH_eq]
  refine put_it hr12 _ fun h5 b5 u5 => ?_
  have b1 := b1.ext u5
  have b3 := u5.get b3
  have uu := u.trans u5
  cases hx : getL L p.key with
  | none =>
    have p3 := (Bx.mk ⟨_, b3⟩ : Bx h5 r3 p.cells).pk (o := 0) (p := p) rfl
    simp only [hx, Option.isSome_none, popO_some, bindH_eq, condV_bool, condV_true, condV_false, yV_bool, gopV_tt, gopV_ff, gopV_tf, gopV_ft, pickV_t, pickV_f, pickV_bool, nilS_ptr, add_eq, sub_eq, mul_eq, lss_eq, leq_eq, gtr_eq, geq_eq, not_eq, minI_eq, maxI_eq, extract_0, extract_1, extract_2, eqlI, neqI, makeFunc_eq, decide_true, decide_false, if_true, if_false, Bool.false_eq_true, Bool.not_true, Bool.not_false, reduceIte, List.getElem?_toArray, List.getElem?_cons_zero, List.getElem?_cons_succ, Option.isSome_none, List.length_map] at hk ⊢
    unfold table_Table_received_k20
    simp only [b1.id, p3, it_build, popO_some, bindH_eq, condV_bool, condV_true, condV_false, yV_bool, gopV_tt, gopV_ff, gopV_tf, gopV_ft, pickV_t, pickV_f, pickV_bool, nilS_ptr, add_eq, sub_eq, mul_eq, lss_eq, leq_eq, gtr_eq, geq_eq, not_eq, minI_eq, maxI_eq, extract_0, extract_1, extract_2, eqlI, neqI, makeFunc_eq, decide_true, decide_false, if_true, if_false, Bool.false_eq_true, Bool.not_true, Bool.not_false, reduceIte, List.getElem?_toArray, List.getElem?_cons_zero, List.getElem?_cons_succ, Option.isSome_none, List.length_map]
    refine tput_ok (H.ext uu) ⟨p, 2⟩ fun h6 H6 u6 => hk h6 H6 (Upd.then (Ext.upd uu) u6 fun b hb => .inl hb)
  | some x =>
    obtain ⟨hx1, hx2⟩ := getL_mem hx
    have p5 := b5.pk (o := 0) (p := x.p) (by rw [hx]; rfl)
    simp only [hx, Option.isSome_some, T_api_Item.f0, p5, popO_some, bindH_eq, condV_bool, condV_true, condV_false, yV_bool, gopV_tt, gopV_ff, gopV_tf, gopV_ft, pickV_t, pickV_f, pickV_bool, nilS_ptr, add_eq, sub_eq, mul_eq, lss_eq, leq_eq, gtr_eq, geq_eq, not_eq, minI_eq, maxI_eq, extract_0, extract_1, extract_2, eqlI, neqI, makeFunc_eq, decide_true, decide_false, if_true, if_false, Bool.false_eq_true, Bool.not_true, Bool.not_false, reduceIte, List.getElem?_toArray, List.getElem?_cons_zero, List.getElem?_cons_succ, Option.isSome_none, List.length_map] at hk ⊢
    refine store_box b3 T_api_Packet.info (by show 4 = 4; rfl) (by show 0 < 4; decide) (by rfl) x.p.allCell ?_
    have u6 : Upd [r3] h5 (h5.set r3 (.cells x.p.cells.toArray T_api_Packet (0, 0))) := Upd.set (by simp)
    have b6 : Bx (h5.set r3 (.cells x.p.cells.toArray T_api_Packet (0, 0))) r3 x.p.cells := ⟨_, set_same⟩
    generalize h5.set r3 (.cells x.p.cells.toArray T_api_Packet (0, 0)) = h6 at *
    have uu6 := uu.fresh u6 (Fresh.one n3)
    have b1 := b1.upd u6 (by simpa using n13)
    have p6 := b6.pk (o := 0) (p := x.p) rfl
    unfold table_Table_received_k20
    simp only [b1.id, p6, it_build, popO_some, bindH_eq, condV_bool, condV_true, condV_false, yV_bool, gopV_tt, gopV_ff, gopV_tf, gopV_ft, pickV_t, pickV_f, pickV_bool, nilS_ptr, add_eq, sub_eq, mul_eq, lss_eq, leq_eq, gtr_eq, geq_eq, not_eq, minI_eq, maxI_eq, extract_0, extract_1, extract_2, eqlI, neqI, makeFunc_eq, decide_true, decide_false, if_true, if_false, Bool.false_eq_true, Bool.not_true, Bool.not_false, reduceIte, List.getElem?_toArray, List.getElem?_cons_zero, List.getElem?_cons_succ, Option.isSome_none, List.length_map]
    have hkey : kenc p.key = kenc (⟨x.p, 2⟩ : It).key := by rw [← hx2]; rfl
    rw [hkey]
    have hsome : getL L (⟨x.p, 2⟩ : It).key = some x := by show getL L x.key = some x; rw [hx2]; exact hx
    have e1 : putE L room ⟨x.p, 2⟩ = 0 := by unfold putE; rw [hsome]; simp
    have e2 : putL L room ⟨x.p, 2⟩ = insL L ⟨x.p, 2⟩ := by unfold putL; rw [hsome]; simp
    refine tput_ok (H.ext uu6) ⟨x.p, 2⟩ fun h7 H7 u7 => ?_
    rw [e2] at H7
    rw [e1]
    exact hk h7 H7 (Upd.then (Ext.upd uu6) u7 fun b hb => .inl hb)

theorem over_ok {h : PH} {a : Nat} {L : List It} {room : Int} {F : List Nat} (H : TAt h a L room F) (p : Pk) {k : Value → PH → Prop}
    (hk : ∀ h', TAt h' a (delL L p.key) room F → Upd F h h' → k (.int .i64 0) h') :
    CallsH PG id_table_Table_over #[.pointer (some ⟨a, 0, none⟩), kenc p.key, .agg p.cells.toArray] h k := by
  apply table_Table_over.call
  unfold table_Table_over
  intro r1 hr1
  rw [bindH_eq]
  intro r3 hr3
  rw [bindH_eq]
  have u1 : Ext h (h.set r1 (.cells (Value.cells (kenc p.key)) T_table_id)) := Upd.new hr1
  have b1 : Bx (h.set r1 (.cells (Value.cells (kenc p.key)) T_table_id)) r1 [.int .i64 p.key.1, .int .u64 p.key.2] := Bx.new
  generalize h.set r1 (.cells (Value.cells (kenc p.key)) T_table_id) = h1 at *
  have u2 : Ext h1 (h1.set r3 (.cells (Value.cells (.agg p.cells.toArray)) T_api_Packet)) := Upd.new hr3
  generalize h1.set r3 (.cells (Value.cells (.agg p.cells.toArray)) T_api_Packet) = h2 at *
  have b1 := b1.ext u2
  have u := u1.trans u2
  have H2 := H.ext u
  have hs := H.srt
  obtain ⟨m, l, ha, hm, hp, rfl, ham⟩ := H2.here
  have c0 : cellH h2 ⟨a, 0, none⟩ = some (.map (some m)) := by simp [cellH, ha]
  simp only [T_table_Table.f0, T_map_table_id_api_Item.load, c0, b1.id, popO_some, bindH_eq, condV_bool, condV_true, condV_false, yV_bool, gopV_tt, gopV_ff, gopV_tf, gopV_ft, pickV_t, pickV_f, pickV_bool, nilS_ptr, add_eq, sub_eq, mul_eq, lss_eq, leq_eq, gtr_eq, geq_eq, not_eq, minI_eq, maxI_eq, extract_0, extract_1, extract_2, eqlI, neqI, makeFunc_eq, decide_true, decide_false, if_true, if_false, Bool.false_eq_true, Bool.not_true, Bool.not_false, reduceIte, List.getElem?_toArray, List.getElem?_cons_zero, List.getElem?_cons_succ, Option.isSome_none, List.length_map]
  refine map_del kkeyed T_map_table_id_api_Item.und hm p.key rfl fun h3 hm3 u3 => ?_
  rw [del_pr] at hm3
  refine hk h3 ⟨⟨m, delL l p.key, u3.get ha (by simpa using ham), hm3, hp.filter _, rfl, ham⟩, hs.del _⟩ ?_
  exact Upd.then (Ext.upd u) u3 (fun b hb => by left; simp at hb; simp [hb])

end Go.Proofs.YtlkjippiaghbmaaGreat
/- making a slice of so many zero values. -/
set_option linter.unusedSimpArgs false
set_option linter.unusedVariables false
namespace Go.Proofs.YtlkjippiaghbmaaGreat
open Go
section
variable {P : Program} {t e : TypeId}
theorem semA_info {α : Type} {d : TypeInfo} (hi : P.info? t = some d) (f : TypeInfo → Sem α) : SemA P (typeInfo t >>= f) = SemA P (f d) := by
  show SemA P ((match P.info? t with | some d => pure d | none => stuck _ : Sem TypeInfo).bind f) = _
  rw [hi]; rfl
theorem semA_askRoom {α : Type} {n : Nat} (f : Unit → Sem α) : SemA P (askRoom n >>= f) = SemA P (f ()) := by
  unfold askRoom
  split <;> rfl
theorem range_flat (z : Array Value) (hz : 0 < z.size) : ∀ n : Nat, ((Array.range (n * z.size)).map (z[· % z.size]!)).toList = (List.replicate n z.toList).flatten := by
  intro n
  have hr : Rows z.size (List.replicate n z.toList) := fun r hr => by rw [List.eq_of_mem_replicate hr]; simp
  apply List.ext_getElem?
  intro j
  have hfl : (List.replicate n z.toList).flatten.length = n * z.size := by rw [hr.flat, List.length_replicate]
  by_cases hj : j < n * z.size
  · have hi : j / z.size < n := (Nat.div_lt_iff_lt_mul hz).2 hj
    have hat := hr.at (i := j / z.size) (r := z.toList) (by rw [List.getElem?_replicate, if_pos hi])
    have hc : j % z.size < z.size := Nat.mod_lt _ hz
    have e1 : (List.replicate n z.toList).flatten[j]? = z.toList[j % z.size]? := by
      conv => rhs; rw [← hat]
      rw [List.getElem?_take, if_pos hc, List.getElem?_drop]
      congr 1
      rw [Nat.mul_comm]; exact (Nat.div_add_mod j z.size).symm
    rw [e1]
    simp [hj, hc]
  · rw [List.getElem?_eq_none (by simp; omega), List.getElem?_eq_none (by omega)]
set_option maxRecDepth 100000 in
theorem makeSlice_eq {i : TypeInfo} {z : Value} {size bytes n : Nat} (hu : P.underlying t = some (.slice e)) (hi : P.info? e = some i) (hn : i.size = size) (hb : i.bytes = bytes) (hz : i.zero = some z) (hzs : z.cells.size = size) (h0 : 0 < size)
    (hle : bytes * n ≤ 281474976710656) (hnn : n ≤ 1000000000) :
    ∃ zs, SemA P (Instr.makeSlice t (.int .i64 n) (.int .i64 n)) = some (.cells zs e (0, 0), fun r => pure (.slice (some ⟨r, 0, none⟩) n n)) ∧ zs.toList = (List.replicate n z.cells.toList).flatten := by
  refine ⟨(Array.range (n * z.cells.size)).map (z.cells[· % z.cells.size]!), ?_, range_flat _ (by omega) n⟩
  have hw : IntKind.i64.wrap (n : Int) = n := IntWalk.i64_in _ ⟨by omega, by omega⟩
  unfold Instr.makeSlice
  rw [semA_und hu]
  dsimp only
  show SemA P (typeInfo e >>= _) = _
  rw [semA_info hi, hb]
  have hc1 : ((bytes : Int) * (n : Int) > 2 ^ 48) = False := by
    apply eq_false
    have : ((bytes * n : Nat) : Int) ≤ ((281474976710656 : Nat) : Int) := Int.ofNat_le.2 hle
    rw [Int.natCast_mul] at this
    have h2 : (2 : Int) ^ 48 = ((281474976710656 : Nat) : Int) := by rfl
    omega
  have hc2 : ((n : Int) < 0) = False := by apply eq_false; omega
  have hc3 : ((n : Int) > (n : Int)) = False := by apply eq_false; omega
  simp only [hw, hc1, hc2, hc3, decide_false, Bool.or_self, Bool.false_eq_true, if_false, or_self]
  rw [semA_askRoom, sizeOf_bind, semA_info hi, hn]
  simp only [Int.toNat_natCast]
  by_cases hn0 : n = 0
  · subst hn0
    have hr : ∀ f : Nat → Value, (Array.range 0).map f = #[] := fun f => by simp
    simp only [Nat.zero_mul, if_true, hr]
    rfl
  · have hne : (n * size = 0) = False := by apply eq_false; intro h; rcases Nat.mul_eq_zero.1 h with h | h <;> omega
    simp only [hne, if_false]
    have hzv : ∀ (f : Value → Sem Value), SemA P (zeroValue e >>= f) = SemA P (f z) := fun f => by
      unfold zeroValue
      show SemA P ((typeInfo e >>= _) >>= f) = _
      simp only [bind_assoc]
      rw [semA_info hi, hz]; rfl
    rw [hzv, ← hzs]
    rfl
end
end Go.Proofs.YtlkjippiaghbmaaGreat
/- table: Apply, Copy, Fit, Items. -/
set_option maxRecDepth 20000
set_option linter.unusedSimpArgs false
set_option linter.unusedVariables false
namespace Go.Proofs.YtlkjippiaghbmaaGreat
open Go

theorem fn_build : SemP PG (Instr.build T_5_functable_Table_table_id_api_Packet_api_Errno #[(1, (Value.func (Fn.func id_table_Table_sent) #[] #[])), (2, (Value.func (Fn.func id_table_Table_received) #[] #[])), (3, (Value.func (Fn.func id_table_Table_over) #[] #[])), (4, (Value.func (Fn.func id_table_Table_over) #[] #[]))]) =
    some (.agg #[.nilFunc, .func (.func id_table_Table_sent) #[] #[], .func (.func id_table_Table_received) #[] #[], .func (.func id_table_Table_over) #[] #[], .func (.func id_table_Table_over) #[] #[]]) := by kernel_rfl
theorem callC_func {f : FuncId} {args : Array Value} {h : PH} {k : Value → PH → Prop} (hc : CallsH PG f args h k) : callC PG (.func (.func f) #[] #[]) args h k := by
  unfold callC
  simpa using hc
theorem pk_key_build (p : Pk) : SemP PG (Instr.build T_table_id #[(0, .int .i64 p.f), (1, .int .u64 p.s)]) = some (kenc p.key) := id_build p.key

theorem Apply_ok {h : PH} {a : Nat} {L : List It} {room : Int} {F : List Nat} (H : TAt h a L room F) (n : Nt) {k : Value → PH → Prop}
    (hk : ∀ h', TAt h' a (appL L room n) room F → Upd F h h' → k (.int .i64 (appE L room n)) h') : CallsH PG id_table_Table_Apply #[.pointer (some ⟨a, 0, none⟩), .agg n.cells.toArray] h k := by
  apply table_Table_Apply.call
  unfold table_Table_Apply
  intro r1 hr1
  rw [bindH_eq]
  have u1 : Ext h (h.set r1 (.cells (Value.cells (.agg n.cells.toArray)) T_api_Note)) := Upd.new hr1
  have b1 : Bx (h.set r1 (.cells (Value.cells (.agg n.cells.toArray)) T_api_Note)) r1 n.cells := Bx.new
  generalize h.set r1 (.cells (Value.cells (.agg n.cells.toArray)) T_api_Note) = h1 at *
  simp only [b1.nt, popO_some, bindH_eq, condV_bool, condV_true, condV_false, yV_bool, gopV_tt, gopV_ff, gopV_tf, gopV_ft, pickV_t, pickV_f, pickV_bool, nilS_ptr, add_eq, sub_eq, mul_eq, lss_eq, leq_eq, gtr_eq, geq_eq, not_eq, minI_eq, maxI_eq, extract_0, extract_1, extract_2, eqlI, neqI, makeFunc_eq, decide_true, decide_false, if_true, if_false, Bool.false_eq_true, Bool.not_true, Bool.not_false, reduceIte, List.getElem?_toArray, List.getElem?_cons_zero, List.getElem?_cons_succ, Option.isSome_none, List.length_map]
  refine NCheck_ok n fun h2 u2 => ?_
  have uu := u1.trans u2
  have b2 := b1.ext u2
  cases hr : n.right with
  | false =>
    have e1 : appE L room n = 1 := by unfold appE; rw [if_pos hr]
    have e2 : appL L room n = L := by unfold appL; rw [if_pos hr]
    rw [e1, e2] at hk
    simp only [Bool.false_eq_true, if_false, popO_some, bindH_eq, condV_bool, condV_true, condV_false, yV_bool, gopV_tt, gopV_ff, gopV_tf, gopV_ft, pickV_t, pickV_f, pickV_bool, nilS_ptr, add_eq, sub_eq, mul_eq, lss_eq, leq_eq, gtr_eq, geq_eq, not_eq, minI_eq, maxI_eq, extract_0, extract_1, extract_2, eqlI, neqI, makeFunc_eq, decide_true, decide_false, if_true, if_false, Bool.false_eq_true, Bool.not_true, Bool.not_false, reduceIte, List.getElem?_toArray, List.getElem?_cons_zero, List.getElem?_cons_succ, Option.isSome_none, List.length_map]
    exact hk h2 (H.ext uu) (Ext.upd uu)
  | true =>
    simp only [if_true, fn_build, popO_some, bindH_eq, condV_bool, condV_true, condV_false, yV_bool, gopV_tt, gopV_ff, gopV_tf, gopV_ft, pickV_t, pickV_f, pickV_bool, nilS_ptr, add_eq, sub_eq, mul_eq, lss_eq, leq_eq, gtr_eq, geq_eq, not_eq, minI_eq, maxI_eq, extract_0, extract_1, extract_2, eqlI, neqI, makeFunc_eq, decide_true, decide_false, if_true, if_false, Bool.false_eq_true, Bool.not_true, Bool.not_false, reduceIte, List.getElem?_toArray, List.getElem?_cons_zero, List.getElem?_cons_succ, Option.isSome_none, List.length_map]
    intro r8 hr8
    try rw [bindH_eq]
    refine store_box set_same T_5_functable_Table_table_id_api_Packet_api_Errno.info (by show 5 = 5; rfl) (by show 0 < 5; decide) (by rw [T_5_functable_Table_table_id_api_Packet_api_Errno.zc]; rfl) (by simp [isCell]) ?_
    rw [set_set_same]
    have u3 : Ext h2 (h2.set r8 (.cells #[.nilFunc, .func (.func id_table_Table_sent) #[] #[], .func (.func id_table_Table_received) #[] #[], .func (.func id_table_Table_over) #[] #[], .func (.func id_table_Table_over) #[] #[]] T_5_functable_Table_table_id_api_Packet_api_Errno (0, 0))) := Upd.new hr8
    have b8 : Bx (h2.set r8 (.cells #[.nilFunc, .func (.func id_table_Table_sent) #[] #[], .func (.func id_table_Table_received) #[] #[], .func (.func id_table_Table_over) #[] #[], .func (.func id_table_Table_over) #[] #[]] T_5_functable_Table_table_id_api_Packet_api_Errno (0, 0))) r8
      [.nilFunc, .func (.func id_table_Table_sent) #[] #[], .func (.func id_table_Table_received) #[] #[], .func (.func id_table_Table_over) #[] #[], .func (.func id_table_Table_over) #[] #[]] := ⟨_, set_same⟩
    generalize h2.set r8 (.cells #[.nilFunc, .func (.func id_table_Table_sent) #[] #[], .func (.func id_table_Table_received) #[] #[], .func (.func id_table_Table_over) #[] #[], .func (.func id_table_Table_over) #[] #[]] T_5_functable_Table_table_id_api_Packet_api_Errno (0, 0)) = h3 at *
    have b3 := b2.ext u3
    have uu3 := uu.trans u3
    have H3 := H.ext uu3
    have c0 : cellH h3 ⟨r1, 0, none⟩ = some (.int .i64 n.k) := b3.cell 0
    have c1 : cellH h3 ⟨r1, 0 + 1, none⟩ = some (.int .i64 n.p.f) := b3.cell 1
    have c2 : cellH h3 ⟨r1, 0 + 1 + 1, none⟩ = some (.int .u64 n.p.s) := b3.cell 2
    have p1 := b3.pk (o := 0 + 1) (p := n.p) rfl
    have hkr : 1 ≤ n.k ∧ n.k ≤ 4 := by
      unfold Nt.right at hr
      simp only [Bool.and_eq_true, decide_eq_true_eq] at hr
      exact hr.1
    have ix : SemP PG (Instr.indexAt T_5_functable_Table_table_id_api_Packet_api_Errno (.pointer (some ⟨r8, 0, none⟩)) (.int .i64 n.k)) = some (.pointer (some ⟨r8, 0 + n.k.toNat * 1, none⟩)) :=
      indexAt_array T_5_functable_Table_table_id_api_Packet_api_Errno.und T_functable_Table_table_id_api_Packet_api_Errno.info T_functable_Table_table_id_api_Packet_api_Errno.size (by omega) (by omega)
    have hf : ∀ (id : FuncId), [.nilFunc, .func (.func id_table_Table_sent) #[] #[], .func (.func id_table_Table_received) #[] #[], .func (.func id_table_Table_over) #[] #[], .func (.func id_table_Table_over) #[] #[]][0 + n.k.toNat * 1]? = some (Value.func (.func id) #[] #[]) →
        CallsH PG id #[.pointer (some ⟨a, 0, none⟩), kenc n.p.key, .agg n.p.cells.toArray] h3 k →
        popO (SemP PG (Instr.fieldAt T_api_Note (Value.pointer (some ⟨r1, 0, none⟩)) 0)) fun v12 =>
 popO (SemE PG h3 (Instr.loadAt T_int v12)) fun v13 =>
 popO (SemP PG (Instr.indexAt T_5_functable_Table_table_id_api_Packet_api_Errno (Value.pointer (some ⟨r8, 0, none⟩)) v13)) fun v14 =>
 popO (SemE PG h3 (Instr.loadAt T_functable_Table_table_id_api_Packet_api_Errno v14)) fun v15 =>
 popO (SemP PG (Instr.fieldAt T_api_Note (Value.pointer (some ⟨r1, 0, none⟩)) 1)) fun v16 =>
 popO (SemP PG (Instr.fieldAt T_api_Packet v16 0)) fun v17 =>
 popO (SemE PG h3 (Instr.loadAt T_int v17)) fun v18 =>
 popO (SemP PG (Instr.fieldAt T_api_Note (Value.pointer (some ⟨r1, 0, none⟩)) 1)) fun v19 =>
 popO (SemP PG (Instr.fieldAt T_api_Packet v19 1)) fun v20 =>
 popO (SemE PG h3 (Instr.loadAt T_uint64 v20)) fun v21 =>
 popO (SemP PG (Instr.build T_table_id #[(0, v18), (1, v21)])) fun v22 =>
 popO (SemP PG (Instr.fieldAt T_api_Note (Value.pointer (some ⟨r1, 0, none⟩)) 1)) fun v23 =>
 popO (SemE PG h3 (Instr.loadAt T_api_Packet v23)) fun v24 =>
 callC PG v15 #[.pointer (some ⟨a, 0, none⟩), v22, v24] h3 fun v25 h26 => (k v25 h26) := fun id hid hc => by
      have c3 : cellH h3 ⟨r8, 0 + n.k.toNat * 1, none⟩ = some (.func (.func id) #[] #[]) := (b8.cell _).trans hid
      simp only [T_api_Note.f0, T_api_Note.f1, T_api_Packet.f0, T_api_Packet.f1, T_int.load, T_uint64.load, T_functable_Table_table_id_api_Packet_api_Errno.load, c0, c1, c2, c3, ix, pk_key_build, p1, popO_some, bindH_eq, condV_bool, condV_true, condV_false, yV_bool, gopV_tt, gopV_ff, gopV_tf, gopV_ft, pickV_t, pickV_f, pickV_bool, nilS_ptr, add_eq, sub_eq, mul_eq, lss_eq, leq_eq, gtr_eq, geq_eq, not_eq, minI_eq, maxI_eq, extract_0, extract_1, extract_2, eqlI, neqI, makeFunc_eq, decide_true, decide_false, if_true, if_false, Bool.false_eq_true, Bool.not_true, Bool.not_false, reduceIte, List.getElem?_toArray, List.getElem?_cons_zero, List.getElem?_cons_succ, Option.isSome_none, List.length_map]
      exact callC_func hc
    have hx : n.k = 1 ∨ n.k = 2 ∨ n.k = 3 ∨ n.k = 4 := by omega
    have hrt : ¬ n.right = false := by rw [hr]; simp
    rcases hx with hA | hA | hA | hA
    · refine hf id_table_Table_sent (by rw [hA]; rfl) (sent_ok H3 n.p fun h4 H4 u4 => ?_)
      have e1 : appE L room n = (if (getL L n.p.key).isSome then 0 else putE L room ⟨n.p, 1⟩) := by unfold appE; rw [if_neg hrt, if_pos hA]
      have e2 : appL L room n = (if (getL L n.p.key).isSome then L else putL L room ⟨n.p, 1⟩) := by unfold appL; rw [if_neg hrt, if_pos hA]
      rw [← e1]
      exact hk h4 (by rw [e2]; exact H4) (Upd.then (Ext.upd uu3) u4 fun b hb => .inl hb)
    · have n1 : ¬ n.k = 1 := by omega
      refine hf id_table_Table_received (by rw [hA]; rfl) (received_ok H3 n.p fun h4 H4 u4 => ?_)
      have e1 : appE L room n = (if (getL L n.p.key).isSome then 0 else putE L room ⟨n.p, 2⟩) := by unfold appE; rw [if_neg hrt, if_neg n1, if_pos hA]
      have e2 : appL L room n = (match getL L n.p.key with
        | some x => insL L ⟨x.p, 2⟩
        | none => putL L room ⟨n.p, 2⟩) := by unfold appL; rw [if_neg hrt, if_neg n1, if_pos hA]; try rfl
      rw [← e1]
      exact hk h4 (by rw [e2]; exact H4) (Upd.then (Ext.upd uu3) u4 fun b hb => .inl hb)
    all_goals
      have n1 : ¬ n.k = 1 := by omega
      have n2 : ¬ n.k = 2 := by omega
      refine hf id_table_Table_over (by rw [hA]; rfl) (over_ok H3 n.p fun h4 H4 u4 => ?_)
      have e1 : appE L room n = 0 := by unfold appE; rw [if_neg hrt, if_neg n1, if_neg n2]
      have e2 : appL L room n = delL L n.p.key := by unfold appL; rw [if_neg hrt, if_neg n1, if_neg n2]
      rw [← e1]
      exact hk h4 (by rw [e2]; exact H4) (Upd.then (Ext.upd uu3) u4 fun b hb => .inl hb)

/-! ### a copy -/
theorem mapNil {h : PH} {m : Nat} {x y : Operand} : SemE PG h (binS .eql T_map_table_id_api_Item x y (.map (some m)) (.map none)) = some (.bool false) := by kernel_rfl
end Go.Proofs.YtlkjippiaghbmaaGreat
/- table: Items, Fit; lists held against each other; the document's example. -/
set_option maxRecDepth 20000
set_option linter.unusedSimpArgs false
set_option linter.unusedVariables false
namespace Go.Proofs.YtlkjippiaghbmaaGreat
open Go

theorem ltI_kl (a b : It) : ltI a b = decide (kl a.key b.key) := by
  unfold ltI
  rw [Bool.eq_iff_iff]
  simp only [Bool.or_eq_true, Bool.and_eq_true, decide_eq_true_eq]
  rfl
theorem srt_of {l L : List It} (hp : l.Perm L) (hs : Srt L) (ho : l.Pairwise fun a b => ltI b a = false) : l = L := by
  have hn : (l.map It.key).Nodup := (hp.map It.key).nodup_iff.2 hs.nodup
  refine Srt.unique ?_ hs hp
  unfold List.Nodup at hn
  rw [List.pairwise_map] at hn
  refine ho.imp₂ (fun a b h1 h2 => ?_) hn
  rw [ltI_kl] at h1
  have h1 := of_decide_eq_false h1
  rcases kl_total h2 with h3 | h3
  · exact h3
  · exact absurd h3 h1

theorem Items_ok {h : PH} {a : Nat} {L : List It} {room : Int} {F : List Nat} (H : TAt h a L room F) (hL : L.length ≤ 1000000) {k : Value → PH → Prop}
    (hk : ∀ v h' G, OwnR h' T_api_Item 5 v (L.map It.cells) G → Fresh h G → Ext h h' → k v h') : CallsH PG id_table_Table_Items #[.pointer (some ⟨a, 0, none⟩)] h k := by
  apply table_Table_Items.call
  unfold table_Table_Items
  have hs := H.srt
  obtain ⟨m, l, ha, hm, hp, rfl, ham⟩ := H.here
  have hll : l.length ≤ 1000000 := by rw [hp.length_eq]; exact hL
  have c0 : cellH h ⟨a, 0, none⟩ = some (.map (some m)) := by simp [cellH, ha]
  simp only [T_table_Table.f0, T_map_table_id_api_Item.load, c0, popO_some, bindH_eq, condV_bool, condV_true, condV_false, yV_bool, gopV_tt, gopV_ff, gopV_tf, gopV_ft, pickV_t, pickV_f, pickV_bool, nilS_ptr, add_eq, sub_eq, mul_eq, lss_eq, leq_eq, gtr_eq, geq_eq, not_eq, minI_eq, maxI_eq, extract_0, extract_1, extract_2, eqlI, neqI, makeFunc_eq, decide_true, decide_false, if_true, if_false, Bool.false_eq_true, Bool.not_true, Bool.not_false, reduceIte, List.getElem?_toArray, List.getElem?_cons_zero, List.getElem?_cons_succ, Option.isSome_none, List.length_map]
  refine Values_ok fun bx h1 hbx hb u1 => ?_
  refine Collect_ok hb (MapAt.ext hm u1) hll fun v l1 h2 F2 hp2 hO f2 u2 => ?_
  refine Sort_ok hO (by rw [hp2.length_eq]; exact hll) fun l2 h3 hp3 ho hO3 u3 => ?_
  have hl2 : l2 = L := srt_of ((hp3.trans hp2).trans hp) hs ho
  subst hl2
  have uu := (u1.trans u2).fresh u3 (f2.of u1)
  have lv := hO3.slR.len (t' := T_int) T_sl_api_Item.und
  rw [List.length_map] at lv
  obtain ⟨zs, hz1, hz2⟩ := makeSlice_eq (P := PG) (n := l2.length) T_sl_api_Item.und T_api_Item.info T_api_Item.size T_api_Item.bytes T_api_Item.zero rfl (by decide) (by omega) (by omega)
  simp only [lv, hz1, popO_some, bindH_eq, condV_bool, condV_true, condV_false, yV_bool, gopV_tt, gopV_ff, gopV_tf, gopV_ft, pickV_t, pickV_f, pickV_bool, nilS_ptr, add_eq, sub_eq, mul_eq, lss_eq, leq_eq, gtr_eq, geq_eq, not_eq, minI_eq, maxI_eq, extract_0, extract_1, extract_2, eqlI, neqI, makeFunc_eq, decide_true, decide_false, if_true, if_false, Bool.false_eq_true, Bool.not_true, Bool.not_false, reduceIte, List.getElem?_toArray, List.getElem?_cons_zero, List.getElem?_cons_succ, Option.isSome_none, List.length_map]
  intro r hr
  refine popO_pure ?_
  try rw [bindH_eq]
  have u4 : Ext h3 (h3.set r (.cells zs T_api_Item)) := Upd.new hr
  have hR : OwnR (h3.set r (.cells zs T_api_Item)) T_api_Item 5 (.slice (some ⟨r, 0, none⟩) l2.length l2.length) (List.replicate l2.length [.int .i64 0, .int .u64 0, .int .u64 0, .string ⟨#[]⟩, .int .i64 0]) [r] :=
    OwnR.lit (fun x hx => by rw [List.eq_of_mem_replicate hx]; rfl) set_same (by simp) (by simp [maxL]; omega) (by rw [hz2]; rfl)
  have hO4 := hO3.ext u4
  have fr : h r = none := uu.none hr
  generalize h3.set r (.cells zs T_api_Item) = h4 at *
  have hsl := sliceAt_eq (P := PG) (t := T_sl_api_Item) (a := some ⟨r, 0, none⟩) (len := l2.length) (cap := l2.length) (l := 0) (hh := l2.length) (lo := some (.int .i64 (0 : Nat))) (hi := some (.int .i64 l2.length)) T_sl_api_Item.und T_api_Item.info (.inr ⟨.i64, rfl⟩) (.inr ⟨.i64, rfl⟩) (Nat.zero_le _) (Nat.le_refl _)
  have e1 : (if l2.length = 0 then some (⟨r, 0, none⟩ : Addr) else (some (⟨r, 0, none⟩ : Addr)).map (·.add (0 * Tryz.t51.size))) = some ⟨r, 0, none⟩ := by
    split
    · rfl
    · simp [plain_add]
  rw [e1] at hsl
  refine copy_own (n := l2.length) (l := 0) (m := l2.length) T_sl_api_Item.und T_api_Item.info T_api_Item.size hR ⟨.i64, .i64, by simpa using hsl⟩ (Nat.zero_le _) (by simp) hO4.slR (It.isCell _) (by simp) ?_
  intro h5 hR5 u5
  have e2 : List.take 0 (List.replicate l2.length ([.int .i64 0, .int .u64 0, .int .u64 0, .string ⟨#[]⟩, .int .i64 0] : List Value)) ++ List.take l2.length (l2.map It.cells) ++ List.drop (0 + l2.length) (List.replicate l2.length [.int .i64 0, .int .u64 0, .int .u64 0, .string ⟨#[]⟩, .int .i64 0]) = l2.map It.cells := by
    simp [List.take_of_length_le]
  rw [e2] at hR5
  exact hk _ h5 [r] hR5 (Fresh.one fr) ((uu.trans u4).fresh u5 (Fresh.one fr))

/-! ### items held against each other -/
theorem Pk.eqIn {h : PH} {d : Nat} (m m' : Pk) : SemE PG h (Op.equalIn (d + 1 + 1) T_api_Packet (.agg m.cells.toArray) (.agg m'.cells.toArray)) = some (m.f == m'.f && (m.s == m'.s && (m.t == m'.t && (m.d == m'.d && true)))) := by
  refine (eqIn_struct T_api_Packet.und (by kernel_rfl) (fun f => match f.offset with | 0 => m.f == m'.f | 1 => m.s == m'.s | 2 => m.t == m'.t | _ => m.d == m'.d) ?_)
  intro f hf
  simp only [List.mem_cons, List.not_mem_nil, or_false] at hf
  rcases hf with rfl | rfl | rfl | rfl
  · exact ⟨by decide, _, _, part_cell T_int.und rfl rfl, part_cell T_int.und rfl rfl, eqIn_int T_int.und⟩
  · exact ⟨by decide, _, _, part_cell T_uint64.und rfl rfl, part_cell T_uint64.und rfl rfl, eqIn_int T_uint64.und⟩
  · exact ⟨by decide, _, _, part_cell T_uint64.und rfl rfl, part_cell T_uint64.und rfl rfl, eqIn_int T_uint64.und⟩
  · exact ⟨by decide, _, _, part_cell T_string.und rfl rfl, part_cell T_string.und rfl rfl, eqIn_string T_string.und⟩
theorem It.eqIn {h : PH} (m m' : It) : SemE PG h (Op.equalIn (9999 + 1) T_api_Item m.val m'.val) = some (decide (m = m')) := by
  have hm : SemE PG h (Op.equalIn (9999 + 1) T_api_Item (.agg m.cells.toArray) (.agg m'.cells.toArray)) = some ((m.p.f == m'.p.f && (m.p.s == m'.p.s && (m.p.t == m'.p.t && (m.p.d == m'.p.d && true)))) && (m.g == m'.g && true)) := by
    refine (eqIn_struct T_api_Item.und (by kernel_rfl) (fun f => match f.offset with | 0 => (m.p.f == m'.p.f && (m.p.s == m'.p.s && (m.p.t == m'.p.t && (m.p.d == m'.p.d && true)))) | _ => m.g == m'.g) ?_)
    intro f hf
    simp only [List.mem_cons, List.not_mem_nil, or_false] at hf
    rcases hf with rfl | rfl
    · exact ⟨by decide, _, _, part_agg T_api_Packet.und rfl T_api_Packet.info T_api_Packet.size, part_agg T_api_Packet.und rfl T_api_Packet.info T_api_Packet.size, Pk.eqIn (d := 9997) m.p m'.p⟩
    · exact ⟨by decide, _, _, part_cell T_int.und rfl rfl, part_cell T_int.und rfl rfl, eqIn_int T_int.und⟩
  show SemE PG h (Op.equalIn (9999 + 1) T_api_Item (.agg m.cells.toArray) (.agg m'.cells.toArray)) = _
  rw [hm]
  congr 1
  simp only [beq_bytes]
  rw [Bool.eq_iff_iff]
  obtain ⟨⟨a, b, c, d⟩, g⟩ := m
  obtain ⟨⟨a', b', c', d'⟩, g'⟩ := m'
  simp [and_assoc]
theorem It.neq {h : PH} {x y : Operand} (m m' : It) : SemE PG h (binS .neq T_api_Item x y m.val m'.val) = some (.bool (!decide (m = m'))) := neqStruct (by kernel_rfl) (It.eqIn m m')
theorem SlR.it {h : PH} {x : Value} {xs : List It} (H : SlR h 5 x (xs.map It.cells)) {k : IntKind} {j : Nat} {m : It} (hm : xs[j]? = some m) :
    ∃ a, SemP PG (Instr.indexAt T_sl_api_Item x (.int k j)) = some (.pointer (some a)) ∧ SemE PG h (Instr.loadAt T_api_Item (.pointer (some a))) = some m.val :=
  H.loadAgg T_sl_api_Item.und T_api_Item.info T_api_Item.size T_api_Item.und rfl (by omega) (by rw [List.getElem?_map, Int.toNat_natCast, hm]; rfl)
theorem SlR.nt {h : PH} {x : Value} {xs : List Nt} (H : SlR h 5 x (xs.map Nt.cells)) {k : IntKind} {j : Nat} {m : Nt} (hm : xs[j]? = some m) :
    ∃ a, SemP PG (Instr.indexAt T_sl_api_Note x (.int k j)) = some (.pointer (some a)) ∧ SemE PG h (Instr.loadAt T_api_Note (.pointer (some a))) = some (.agg m.cells.toArray) :=
  H.loadAgg T_sl_api_Note.und T_api_Note.info T_api_Note.size T_api_Note.und rfl (by omega) (by rw [List.getElem?_map, Int.toNat_natCast, hm]; rfl)
theorem Same_ok {h : PH} {x y : Value} {xs ys : List It} (hx : SlR h 5 x (xs.map It.cells)) (hy : SlR h 5 y (ys.map It.cells)) (hl : xs.length ≤ 1000000) {k : Value → PH → Prop}
    (hk : k (.bool (decide (xs = ys))) h) : CallsH PG id_carrackref14_SameItems #[x, y] h k := by
  have lx := hx.len (t' := T_int) T_sl_api_Item.und
  have ly := hy.len (t' := T_int) T_sl_api_Item.und
  rw [List.length_map] at lx ly
  apply carrackref14_SameItems.call
  unfold carrackref14_SameItems
  by_cases hlen : xs.length = ys.length
  · have e1 : ((xs.length : Int) != (ys.length : Int)) = false := by simp [hlen]
    simp only [lx, ly, e1, popO_some, bindH_eq, condV_bool, condV_true, condV_false, yV_bool, gopV_tt, gopV_ff, gopV_tf, gopV_ft, pickV_t, pickV_f, pickV_bool, nilS_ptr, add_eq, sub_eq, mul_eq, lss_eq, leq_eq, gtr_eq, geq_eq, not_eq, minI_eq, maxI_eq, extract_0, extract_1, extract_2, eqlI, neqI, makeFunc_eq, decide_true, decide_false, if_true, if_false, Bool.false_eq_true, Bool.not_true, Bool.not_false, reduceIte, List.getElem?_toArray, List.getElem?_cons_zero, List.getElem?_cons_succ, Option.isSome_none, List.length_map]
    refine ⟨fun vs h' => ∃ i : Nat, i ≤ xs.length ∧ vs = [x, y, .int .i64 i] ∧ h' = h ∧ xs.take i = ys.take i, upTo xs.length 2, ⟨0, by omega, rfl, rfl, by simp⟩, ?_⟩
    rintro ρ h' ⟨i, hi, hvs, rfl, he⟩
    simp only [List.map_cons, List.map_nil, List.cons.injEq, and_true] at hvs
    obtain ⟨e0, e1, e5⟩ := hvs
    rw [e0, e1, e5]
    unfold carrackref14_SameItems_b5
    by_cases hlt : i < xs.length
    · have hd : ((i : Int) < (xs.length : Int)) = True := by apply eq_true; omega
      obtain ⟨m, hm⟩ : ∃ m, xs[i]? = some m := ⟨_, List.getElem?_eq_getElem hlt⟩
      obtain ⟨m', hm'⟩ : ∃ m, ys[i]? = some m := ⟨_, List.getElem?_eq_getElem (by omega)⟩
      obtain ⟨a, a1, a2⟩ := hx.it (k := .i64) hm
      obtain ⟨b, b1, b2⟩ := hy.it (k := .i64) hm'
      have e2 : IntKind.i64.wrap ((i : Int) + 1) = ((i + 1 : Nat) : Int) := by rw [i64_wrap (by omega) (by omega)]; omega
      by_cases hc : m = m'
      · have e3 : (!decide (m = m')) = false := by simp [hc]
        simp only [lx, hd, a1, a2, b1, b2, e2, It.neq, e3, popO_some, bindH_eq, condV_bool, condV_true, condV_false, yV_bool, gopV_tt, gopV_ff, gopV_tf, gopV_ft, pickV_t, pickV_f, pickV_bool, nilS_ptr, add_eq, sub_eq, mul_eq, lss_eq, leq_eq, gtr_eq, geq_eq, not_eq, minI_eq, maxI_eq, extract_0, extract_1, extract_2, eqlI, neqI, makeFunc_eq, decide_true, decide_false, if_true, if_false, Bool.false_eq_true, Bool.not_true, Bool.not_false, reduceIte, List.getElem?_toArray, List.getElem?_cons_zero, List.getElem?_cons_succ, Option.isSome_none, List.length_map]
        exact ⟨⟨i + 1, by omega, rfl, by trivial, by rw [List.take_add_one, List.take_add_one, he, hm, hm', hc]⟩, by simp [upTo, e5]; omega⟩
      · have e3 : (!decide (m = m')) = true := by simp [hc]
        simp only [lx, hd, a1, a2, b1, b2, It.neq, e3, popO_some, bindH_eq, condV_bool, condV_true, condV_false, yV_bool, gopV_tt, gopV_ff, gopV_tf, gopV_ft, pickV_t, pickV_f, pickV_bool, nilS_ptr, add_eq, sub_eq, mul_eq, lss_eq, leq_eq, gtr_eq, geq_eq, not_eq, minI_eq, maxI_eq, extract_0, extract_1, extract_2, eqlI, neqI, makeFunc_eq, decide_true, decide_false, if_true, if_false, Bool.false_eq_true, Bool.not_true, Bool.not_false, reduceIte, List.getElem?_toArray, List.getElem?_cons_zero, List.getElem?_cons_succ, Option.isSome_none, List.length_map]
        have : decide (xs = ys) = false := by
          simp only [decide_eq_false_iff_not]
          rintro rfl
          rw [hm] at hm'; cases hm'; exact hc rfl
        rw [this] at hk; exact hk
    · have hd : ((i : Int) < (xs.length : Int)) = False := by apply eq_false; omega
      simp only [lx, hd, popO_some, bindH_eq, condV_bool, condV_true, condV_false, yV_bool, gopV_tt, gopV_ff, gopV_tf, gopV_ft, pickV_t, pickV_f, pickV_bool, nilS_ptr, add_eq, sub_eq, mul_eq, lss_eq, leq_eq, gtr_eq, geq_eq, not_eq, minI_eq, maxI_eq, extract_0, extract_1, extract_2, eqlI, neqI, makeFunc_eq, decide_true, decide_false, if_true, if_false, Bool.false_eq_true, Bool.not_true, Bool.not_false, reduceIte, List.getElem?_toArray, List.getElem?_cons_zero, List.getElem?_cons_succ, Option.isSome_none, List.length_map]
      rw [List.take_of_length_le (by omega), List.take_of_length_le (by omega)] at he
      rw [he] at hk
      simpa using hk
  · have e1 : ((xs.length : Int) != (ys.length : Int)) = true := by simp; omega
    simp only [lx, ly, e1, popO_some, bindH_eq, condV_bool, condV_true, condV_false, yV_bool, gopV_tt, gopV_ff, gopV_tf, gopV_ft, pickV_t, pickV_f, pickV_bool, nilS_ptr, add_eq, sub_eq, mul_eq, lss_eq, leq_eq, gtr_eq, geq_eq, not_eq, minI_eq, maxI_eq, extract_0, extract_1, extract_2, eqlI, neqI, makeFunc_eq, decide_true, decide_false, if_true, if_false, Bool.false_eq_true, Bool.not_true, Bool.not_false, reduceIte, List.getElem?_toArray, List.getElem?_cons_zero, List.getElem?_cons_succ, Option.isSome_none, List.length_map]
    have : decide (xs = ys) = false := by
      simp only [decide_eq_false_iff_not]
      rintro rfl; exact hlen rfl
    rw [this] at hk; exact hk

/-! ### how many fit -/
theorem put_nt {h : PH} {r : Nat} (hr : h r = none) (n : Nt) {k : Value → PH → Prop} (hk : ∀ h', Bx h' r n.cells → h' r = some (.cells n.cells.toArray T_api_Note (0, 0)) → Ext h h' → k undef h') :
    SemH PG (storeS T_api_Note (.pointer (some ⟨r, 0, none⟩)) (.agg n.cells.toArray)) (h.set r (.cells (zcells PG T_api_Note) T_api_Note)) k := by
  refine store_box set_same T_api_Note.info (by show 5 = 5; rfl) (by show 0 < 5; decide) (by rw [T_api_Note.zc]; rfl) (by simp [Nt.cells, isCell]) ?_
  rw [set_set_same]
  exact hk _ ⟨_, set_same⟩ set_same (Upd.new hr)
end Go.Proofs.YtlkjippiaghbmaaGreat
/- the document's table: a row of items. -/
set_option maxRecDepth 20000
set_option linter.unusedSimpArgs false
set_option linter.unusedVariables false
namespace Go.Proofs.YtlkjippiaghbmaaGreat
open Go

def pA (L : List It) (k : Ky) : List It := L.filter fun j => decide (kl j.key k)
def pC (L : List It) (k : Ky) : List It := L.filter fun j => decide (kl k j.key)
theorem split3 : ∀ {L : List It}, Srt L → ∀ k, L = pA L k ++ ((getL L k).toList ++ pC L k)
  | [], _, k => rfl
  | x :: L, hs, k => by
    unfold Srt at hs
    rw [List.pairwise_cons] at hs
    have ih := split3 (L := L) hs.2 k
    by_cases h1 : kl x.key k
    · have e1 : pA (x :: L) k = x :: pA L k := by unfold pA; simp [List.filter_cons, h1]
      have e2 : pC (x :: L) k = pC L k := by unfold pC; simp [List.filter_cons, kl_asymm h1]
      have e3 : getL (x :: L) k = getL L k := by unfold getL; simp [List.find?_cons, (kl_ne h1).symm]
      rw [e1, e2, e3, List.cons_append, ← ih]
    · have hnA : pA L k = [] := by
        unfold pA
        rw [List.filter_eq_nil_iff]
        intro y hy hk
        exact h1 (kl_trans (hs.1 y hy) (by simpa using hk))
      by_cases h2 : x.key = k
      · have e1 : pA (x :: L) k = [] := by unfold pA at *; simp [List.filter_cons, h1]; simpa using hnA
        have e2 : pC (x :: L) k = L := by
          unfold pC
          have : ¬ kl k x.key := by rw [h2]; exact kl_irrefl _
          simp only [List.filter_cons, this, decide_false, Bool.false_eq_true, if_false]
          rw [List.filter_eq_self]
          intro y hy
          have := hs.1 y hy
          rw [h2] at this
          simpa using this
        have e3 : getL (x :: L) k = some x := by unfold getL; simp [List.find?_cons, h2]
        rw [e1, e2, e3]; rfl
      · have h3 : kl k x.key := (kl_total h2).resolve_left h1
        have hno : getL L k = none := getL_none.2 fun y hy e => by
          have := hs.1 y hy
          rw [e] at this
          exact kl_asymm this h3
        have e1 : pA (x :: L) k = [] := by unfold pA at *; simp [List.filter_cons, h1]; simpa using hnA
        have e2 : pC (x :: L) k = x :: L := by
          unfold pC
          rw [List.filter_eq_self]
          intro y hy
          rcases List.mem_cons.1 hy with rfl | hy
          · simpa using h3
          · simpa using kl_trans h3 (hs.1 y hy)
        have e3 : getL (x :: L) k = none := by
          unfold getL at *
          simp only [List.find?_cons, show (k = x.key) = False from eq_false (fun e => h2 e.symm), decide_false]
          exact hno
        rw [e1, e2, e3]; rfl
theorem pA_le (L : List It) (k : Ky) : (pA L k).length ≤ L.length := List.length_filter_le _ _
theorem at_lt {L : List It} (hs : Srt L) {k : Ky} {i : Nat} {m : It} (hi : i < (pA L k).length) (hm : L[i]? = some m) : kl m.key k := by
  rw [split3 hs k, List.getElem?_append_left hi] at hm
  have := List.mem_of_getElem? hm
  unfold pA at this
  simpa using (List.mem_filter.1 this).2
theorem at_ge {L : List It} (hs : Srt L) {k : Ky} {m : It} (hm : L[(pA L k).length]? = some m) : ¬ kl m.key k ∧ (getL L k).isSome = decide (m.key = k) ∧ (m.key = k → getL L k = some m) := by
  have h := hm
  have h : (pA L k ++ ((getL L k).toList ++ pC L k))[(pA L k).length]? = some m := by rw [← split3 hs k]; exact hm
  rw [List.getElem?_append_right (Nat.le_refl _), Nat.sub_self] at h
  cases hg : getL L k with
  | some x =>
    rw [hg] at h
    simp only [Option.toList_some, List.cons_append, List.nil_append, List.getElem?_cons_zero, Option.some.injEq] at h
    subst h
    obtain ⟨_, h2⟩ := getL_mem hg
    subst h2
    exact ⟨kl_irrefl _, by simp, fun _ => rfl⟩
  | none =>
    rw [hg] at h
    simp only [Option.toList_none, List.nil_append] at h
    have := List.mem_of_getElem? h
    unfold pC at this
    have h3 : kl k m.key := by simpa using (List.mem_filter.1 this).2
    refine ⟨kl_asymm h3, by simp [(kl_ne h3).symm], fun e => ?_⟩
    rw [e] at h3
    exact absurd h3 (kl_irrefl _)
theorem at_end {L : List It} (hs : Srt L) {k : Ky} (hm : (pA L k).length = L.length) : getL L k = none := by
  have h := congrArg List.length (split3 hs k)
  simp only [List.length_append] at h
  cases hg : getL L k with
  | none => rfl
  | some x => rw [hg] at h; simp at h; omega
theorem take_pA {L : List It} (hs : Srt L) (k : Ky) : L.take (pA L k).length = pA L k := by
  conv => lhs; arg 2; rw [split3 hs k]
  rw [List.take_left']
  rfl
theorem drop_pA {L : List It} (hs : Srt L) (k : Ky) : L.drop (pA L k).length = (getL L k).toList ++ pC L k := by
  conv => lhs; arg 2; rw [split3 hs k]
  rw [List.drop_left']
  rfl
theorem ins_cut {L : List It} (hs : Srt L) {i : It} (hg : getL L i.key = none) : L.take (pA L i.key).length ++ [i] ++ L.drop (pA L i.key).length = insL L i := by
  rw [take_pA hs, drop_pA hs, hg]
  unfold insL pA pC
  simp
theorem del_cut {L : List It} (hs : Srt L) {k : Ky} {x : It} (hg : getL L k = some x) : L.take (pA L k).length ++ L.drop ((pA L k).length + 1) = delL L k := by
  have h1 : L.drop ((pA L k).length + 1) = pC L k := by
    rw [← List.drop_drop, drop_pA hs, hg]; rfl
  rw [take_pA hs, h1]
  unfold delL
  have hp := (part_perm (fun j : It => decide (kl j.key k)) (fun j => decide (kl k j.key)) (fun a ha => by
    simp only [decide_eq_true_eq] at ha
    simp only [decide_eq_false_iff_not]
    exact kl_asymm ha) L)
  have he : (L.filter fun a => decide (kl a.key k) || decide (kl k a.key)) = L.filter fun i => decide (i.key ≠ k) := by
    apply List.filter_congr
    intro y _
    rw [Bool.eq_iff_iff]
    simp only [Bool.or_eq_true, decide_eq_true_eq]
    exact ⟨fun h => by rcases h with h | h; exact kl_ne h; exact (kl_ne h).symm, kl_total⟩
  rw [he] at hp
  refine Srt.unique ?_ (hs.filter _) hp
  unfold Srt
  rw [List.pairwise_append]
  refine ⟨hs.filter _, hs.filter _, fun a ha b hb => ?_⟩
  exact kl_trans (by simpa using (List.mem_filter.1 ha).2) (by simpa using (List.mem_filter.1 hb).2)
theorem set_cut {L : List It} (hs : Srt L) {i : It} {x : It} (hg : getL L i.key = some x) : L.take (pA L i.key).length ++ i :: L.drop ((pA L i.key).length + 1) = insL L i := by
  have h1 : L.drop ((pA L i.key).length + 1) = pC L i.key := by
    rw [← List.drop_drop, drop_pA hs, hg]; rfl
  rw [take_pA hs, h1]; rfl

/-! ### where it lies -/
structure RAt (h : PH) (a : Nat) (L : List It) (room : Int) (F : List Nat) : Prop where
  here : ∃ v G, h a = some (.cells #[v, .int .i64 room] T_carrackref15_Table (0, 0)) ∧ OwnR h T_api_Item 5 v (L.map It.cells) G ∧ F = a :: G ∧ a ∉ G
  srt : Srt L
theorem RAt.upd {h h' : PH} {a : Nat} {L : List It} {room : Int} {F G : List Nat} (H : RAt h a L room F) (u : Upd G h h') (hd : ∀ b ∈ F, b ∉ G) : RAt h' a L room F := by
  obtain ⟨v, G', ha, hO, rfl, hn⟩ := H.here
  exact ⟨⟨v, G', u.get ha (hd a (by simp)), hO.upd u (fun b hb => hd b (by simp [hb])), rfl, hn⟩, H.srt⟩
theorem RAt.ext {h h' : PH} {a : Nat} {L : List It} {room : Int} {F : List Nat} (H : RAt h a L room F) (u : Ext h h') : RAt h' a L room F := H.upd u (by simp)
theorem RAt.known {h : PH} {a : Nat} {L : List It} {room : Int} {F : List Nat} (H : RAt h a L room F) : ∀ b ∈ F, h b ≠ none := by
  obtain ⟨v, G', ha, hO, rfl, hn⟩ := H.here
  intro b hb
  rcases List.mem_cons.1 hb with rfl | hb
  · rw [ha]; simp
  · exact hO.known b hb
theorem SlR.itf {h : PH} {x : Value} {xs : List It} (H : SlR h 5 x (xs.map It.cells)) {k : IntKind} {j : Nat} {m : It} (hm : xs[j]? = some m) :
    ∃ b o, SemP PG (Instr.indexAt T_sl_api_Item x (.int k j)) = some (.pointer (some ⟨b, o, none⟩)) ∧ cellH h ⟨b, o, none⟩ = some (.int .i64 m.p.f) ∧ cellH h ⟨b, o + 1, none⟩ = some (.int .u64 m.p.s) ∧ cellH h ⟨b, o + 3, none⟩ = some (.string m.p.d) ∧
      SemE PG h (Instr.loadAt T_api_Item (.pointer (some ⟨b, o, none⟩))) = some m.val := by
  obtain ⟨b, o, h1, h2, h3⟩ := H.fields T_sl_api_Item.und T_api_Item.info T_api_Item.size (k := k) (j := j) (r := m.cells) (by rw [List.getElem?_map, hm]; rfl)
  exact ⟨b, o, h1, h2 0 _ rfl, h2 1 _ rfl, h2 3 _ rfl, h3 _ T_api_Item.und rfl⟩

theorem Place_ok {h : PH} {a : Nat} {L : List It} {room : Int} {F : List Nat} (H : RAt h a L room F) (hL : L.length ≤ 1000000) (key : Ky) {k : Value → PH → Prop}
    (hk : k (.tuple #[.int .i64 (pA L key).length, .bool (getL L key).isSome]) h) : CallsH PG id_carrackref15_Table_place #[.pointer (some ⟨a, 0, none⟩), .int .i64 key.1, .int .u64 key.2] h k := by
  have hs := H.srt
  obtain ⟨v, G, ha, hO, rfl, hn⟩ := H.here
  have lv := hO.slR.len (t' := T_int) T_sl_api_Item.und
  rw [List.length_map] at lv
  have c0 : cellH h ⟨a, 0, none⟩ = some v := by simp [cellH, ha]
  apply carrackref15_Table_place.call
  unfold carrackref15_Table_place
  refine ⟨fun vs h' => ∃ i : Nat, i ≤ (pA L key).length ∧ vs = [.pointer (some ⟨a, 0, none⟩), .int .i64 key.1, .int .u64 key.2, .int .i64 i] ∧ h' = h, upTo (pA L key).length 3, ⟨0, by omega, rfl, rfl⟩, ?_⟩
  rintro ρ h' ⟨i, hi, hvs, rfl⟩
  simp only [List.map_cons, List.map_nil, List.cons.injEq, and_true] at hvs
  obtain ⟨e0, e1, e2, e3⟩ := hvs
  rw [e0, e1, e2, e3]
  unfold carrackref15_Table_place_b2
  have hpl := pA_le L key
  by_cases hlt : i < (pA L key).length
  · have hd : ((i : Int) < (L.length : Int)) = True := by apply eq_true; omega
    obtain ⟨m, hm⟩ : ∃ m, L[i]? = some m := ⟨_, List.getElem?_eq_getElem (by omega)⟩
    obtain ⟨b, o, a1, a2, a3, _, _⟩ := hO.slR.itf (k := .i64) hm
    have hkl := at_lt hs hlt hm
    have e5 : IntKind.i64.wrap ((i : Int) + 1) = ((i + 1 : Nat) : Int) := by rw [i64_wrap (by omega) (by omega)]; omega
    rcases hkl with h1 | ⟨h1, h2⟩
    · have d1 : (m.p.f < key.1) = True := eq_true h1
      simp only [T_carrackref15_Table.f0, T_sl_api_Item.load, c0, lv, hd, a1, T_api_Item.f0, T_api_Packet.f0, T_api_Packet.f1, T_int.load, T_uint64.load, a2, a3, d1, e5, popO_some, bindH_eq, condV_bool, condV_true, condV_false, yV_bool, gopV_tt, gopV_ff, gopV_tf, gopV_ft, pickV_t, pickV_f, pickV_bool, nilS_ptr, add_eq, sub_eq, mul_eq, lss_eq, leq_eq, gtr_eq, geq_eq, not_eq, minI_eq, maxI_eq, extract_0, extract_1, extract_2, eqlI, neqI, makeFunc_eq, decide_true, decide_false, if_true, if_false, Bool.false_eq_true, Bool.not_true, Bool.not_false, reduceIte, List.getElem?_toArray, List.getElem?_cons_zero, List.getElem?_cons_succ, Option.isSome_none, List.length_map]
      exact ⟨⟨i + 1, by omega, rfl, by trivial⟩, by simp [upTo, e3]; omega⟩
    · have h1' : m.p.f = key.1 := h1
      have h2' : m.p.s < key.2 := h2
      have d1 : (m.p.f < key.1) = False := by apply eq_false; omega
      have d2 : (m.p.f == key.1) = true := by simp [h1']
      have d3 : (m.p.s < key.2) = True := eq_true h2'
      simp only [T_carrackref15_Table.f0, T_sl_api_Item.load, c0, lv, hd, a1, T_api_Item.f0, T_api_Packet.f0, T_api_Packet.f1, T_int.load, T_uint64.load, a2, a3, d1, d2, d3, e5, popO_some, bindH_eq, condV_bool, condV_true, condV_false, yV_bool, gopV_tt, gopV_ff, gopV_tf, gopV_ft, pickV_t, pickV_f, pickV_bool, nilS_ptr, add_eq, sub_eq, mul_eq, lss_eq, leq_eq, gtr_eq, geq_eq, not_eq, minI_eq, maxI_eq, extract_0, extract_1, extract_2, eqlI, neqI, makeFunc_eq, decide_true, decide_false, if_true, if_false, Bool.false_eq_true, Bool.not_true, Bool.not_false, reduceIte, List.getElem?_toArray, List.getElem?_cons_zero, List.getElem?_cons_succ, Option.isSome_none, List.length_map]
      exact ⟨⟨i + 1, by omega, rfl, by trivial⟩, by simp [upTo, e3]; omega⟩
  · have hil : i = (pA L key).length := by omega
    subst hil
    by_cases hend : (pA L key).length < L.length
    · have hd : (((pA L key).length : Int) < (L.length : Int)) = True := by apply eq_true; omega
      obtain ⟨m, hm⟩ : ∃ m, L[(pA L key).length]? = some m := ⟨_, List.getElem?_eq_getElem hend⟩
      obtain ⟨b, o, a1, a2, a3, _, _⟩ := hO.slR.itf (k := .i64) hm
      obtain ⟨hnk, hsm, _⟩ := at_ge hs hm
      rw [hsm] at hk
      have hnf : ¬ (m.p.f < key.1 ∨ m.p.f = key.1 ∧ m.p.s < key.2) := hnk
      have d1 : (m.p.f < key.1) = False := by apply eq_false; omega
      by_cases hf : m.p.f = key.1
      · have d2 : (m.p.f == key.1) = true := by simp [hf]
        have d3 : (m.p.s < key.2) = False := by apply eq_false; omega
        by_cases hq : m.p.s = key.2
        · have d4 : (m.p.s == key.2) = true := by simp [hq]
          have : decide (m.key = key) = true := by simp only [decide_eq_true_eq]; exact Prod.ext hf hq
          rw [this] at hk
          simp only [T_carrackref15_Table.f0, T_sl_api_Item.load, c0, lv, hd, a1, T_api_Item.f0, T_api_Packet.f0, T_api_Packet.f1, T_int.load, T_uint64.load, a2, a3, d1, d2, d3, d4, popO_some, bindH_eq, condV_bool, condV_true, condV_false, yV_bool, gopV_tt, gopV_ff, gopV_tf, gopV_ft, pickV_t, pickV_f, pickV_bool, nilS_ptr, add_eq, sub_eq, mul_eq, lss_eq, leq_eq, gtr_eq, geq_eq, not_eq, minI_eq, maxI_eq, extract_0, extract_1, extract_2, eqlI, neqI, makeFunc_eq, decide_true, decide_false, if_true, if_false, Bool.false_eq_true, Bool.not_true, Bool.not_false, reduceIte, List.getElem?_toArray, List.getElem?_cons_zero, List.getElem?_cons_succ, Option.isSome_none, List.length_map]
          exact hk
        · have d4 : (m.p.s == key.2) = false := by simp [hq]
          have : decide (m.key = key) = false := by simp only [decide_eq_false_iff_not]; rintro rfl; exact hq rfl
          rw [this] at hk
          simp only [T_carrackref15_Table.f0, T_sl_api_Item.load, c0, lv, hd, a1, T_api_Item.f0, T_api_Packet.f0, T_api_Packet.f1, T_int.load, T_uint64.load, a2, a3, d1, d2, d3, d4, popO_some, bindH_eq, condV_bool, condV_true, condV_false, yV_bool, gopV_tt, gopV_ff, gopV_tf, gopV_ft, pickV_t, pickV_f, pickV_bool, nilS_ptr, add_eq, sub_eq, mul_eq, lss_eq, leq_eq, gtr_eq, geq_eq, not_eq, minI_eq, maxI_eq, extract_0, extract_1, extract_2, eqlI, neqI, makeFunc_eq, decide_true, decide_false, if_true, if_false, Bool.false_eq_true, Bool.not_true, Bool.not_false, reduceIte, List.getElem?_toArray, List.getElem?_cons_zero, List.getElem?_cons_succ, Option.isSome_none, List.length_map]
          exact hk
      · have d2 : (m.p.f == key.1) = false := by simp [hf]
        have : decide (m.key = key) = false := by simp only [decide_eq_false_iff_not]; rintro rfl; exact hf rfl
        rw [this] at hk
        simp only [T_carrackref15_Table.f0, T_sl_api_Item.load, c0, lv, hd, a1, T_api_Item.f0, T_api_Packet.f0, T_api_Packet.f1, T_int.load, T_uint64.load, a2, a3, d1, d2, popO_some, bindH_eq, condV_bool, condV_true, condV_false, yV_bool, gopV_tt, gopV_ff, gopV_tf, gopV_ft, pickV_t, pickV_f, pickV_bool, nilS_ptr, add_eq, sub_eq, mul_eq, lss_eq, leq_eq, gtr_eq, geq_eq, not_eq, minI_eq, maxI_eq, extract_0, extract_1, extract_2, eqlI, neqI, makeFunc_eq, decide_true, decide_false, if_true, if_false, Bool.false_eq_true, Bool.not_true, Bool.not_false, reduceIte, List.getElem?_toArray, List.getElem?_cons_zero, List.getElem?_cons_succ, Option.isSome_none, List.length_map]
        exact hk
    · have hd : (((pA L key).length : Int) < (L.length : Int)) = False := by apply eq_false; omega
      have hno := at_end hs (k := key) (by omega)
      rw [hno] at hk
      simp only [T_carrackref15_Table.f0, T_sl_api_Item.load, c0, lv, hd, yV_undef, gopV_none, popO_some, bindH_eq, condV_bool, condV_true, condV_false, yV_bool, gopV_tt, gopV_ff, gopV_tf, gopV_ft, pickV_t, pickV_f, pickV_bool, nilS_ptr, add_eq, sub_eq, mul_eq, lss_eq, leq_eq, gtr_eq, geq_eq, not_eq, minI_eq, maxI_eq, extract_0, extract_1, extract_2, eqlI, neqI, makeFunc_eq, decide_true, decide_false, if_true, if_false, Bool.false_eq_true, Bool.not_true, Bool.not_false, reduceIte, List.getElem?_toArray, List.getElem?_cons_zero, List.getElem?_cons_succ, Option.isSome_none, List.length_map]
      exact hk
end Go.Proofs.YtlkjippiaghbmaaGreat
