/- The texts of this claim, put together. -/
import Derived.Test.YtlkjippiaghbmaaRecGRC3
import Derived.Shelf.SlSortCmp.NoneTotal
/- record: states and records as values; what a record may have; its bytes. -/
set_option linter.unusedSimpArgs false
set_option linter.unusedVariables false
namespace Go.Proofs.Ytlkjippiaghbmaa
open Go
set_option maxRecDepth 20000
structure Dm where
  p0 : Pl
  p1 : Pl
  its : List It
  deriving DecidableEq
structure Rc where
  k : Int
  s : Dm
  ch : Int
  pl : Pl
  ns : List Nt
  deriving DecidableEq
def Dm.zero : Dm := ⟨Pl.zero, Pl.zero, []⟩
def Rc.zero : Rc := ⟨0, Dm.zero, 0, Pl.zero, []⟩
def Dm.cells (d : Dm) (v : Value) : List Value := [.int .u64 d.p0.h, .int .i64 d.p0.i, .int .u64 d.p1.h, .int .i64 d.p1.i, v]
def Rc.cells (r : Rc) (v w : Value) : List Value := [.int .i64 r.k, .int .u64 r.s.p0.h, .int .i64 r.s.p0.i, .int .u64 r.s.p1.h, .int .i64 r.s.p1.i, v, .int .i64 r.ch, .int .u64 r.pl.h, .int .i64 r.pl.i, w]
def Dm.v (d : Dm) (v : Value) : Value := .agg (d.cells v).toArray
def Rc.v (r : Rc) (v w : Value) : Value := .agg (r.cells v w).toArray
abbrev ISl (h : PH) (v : Value) (l : List It) : Prop := SlR h 5 v (l.map It.cells)
abbrev NSl (h : PH) (v : Value) (l : List Nt) : Prop := SlR h 5 v (l.map Nt.cells)
def Pl.wf (q : Pl) : Prop := 0 ≤ q.h ∧ q.h < 18446744073709551616
structure Dm.wf (d : Dm) : Prop where
  a : d.p0.wf
  b : d.p1.wf
  i : ∀ x ∈ d.its, x.p.wf
structure Rc.wf (r : Rc) : Prop where
  s : r.s.wf
  pl : r.pl.wf
  n : ∀ x ∈ r.ns, x.p.wf
/-- A slice that lies in blocks that h hadn't. -/
def NewV (h : PH) (v : Value) : Prop := ∀ a n c, v = .slice (some a) n c → h a.block = none
theorem NewV.nil {h : PH} : NewV h (.slice none 0 0) := fun a n c e => by cases e
theorem NewV.of {h h1 : PH} {v : Value} (H : NewV h1 v) (u : Ext h h1) : NewV h v := fun a n c e => u.none (H a n c e)
theorem OwnR.newV {h0 h : PH} {e : TypeId} {n : Nat} {v : Value} {rows : List (List Value)} {F : List Nat} (O : OwnR h e n v rows F) (f : Fresh h0 F) : NewV h0 v := fun a m c ev => by
  rcases O.here with ⟨e2, _, _⟩ | ⟨b, cap', cs, e2, e3, _⟩
  · rw [e2] at ev; cases ev
  · rw [e2] at ev
    simp only [Value.slice.injEq, Option.some.injEq] at ev
    rw [← ev.1]
    exact f b (by rw [e3]; simp)
/-! ### equal places -/
theorem Pl.eqIn {h : PH} {d : Nat} (q q' : Pl) : SemE PG h (Op.equalIn (d + 1 + 1) T_api_Place (.agg q.cells.toArray) (.agg q'.cells.toArray)) = some (decide (q = q')) := by
  rw [eqIn_struct T_api_Place.und (by kernel_rfl) (fun f => match f.offset with | 0 => q.h == q'.h | _ => q.i == q'.i)]
  · congr 1
    rw [Bool.eq_iff_iff]
    obtain ⟨a, b⟩ := q
    obtain ⟨a', b'⟩ := q'
    simp
  · intro f hf
    simp only [List.mem_cons, List.not_mem_nil, or_false] at hf
    rcases hf with rfl | rfl
    · exact ⟨by decide, _, _, part_cell T_uint64.und rfl rfl, part_cell T_uint64.und rfl rfl, eqIn_int T_uint64.und⟩
    · exact ⟨by decide, _, _, part_cell T_int.und rfl rfl, part_cell T_int.und rfl rfl, eqIn_int T_int.und⟩
theorem Pl.eql {h : PH} {x y : Operand} (q q' : Pl) : SemE PG h (binS .eql T_api_Place x y (.agg q.cells.toArray) (.agg q'.cells.toArray)) = some (.bool (decide (q = q'))) := eqlStruct (by kernel_rfl) (Pl.eqIn (d := 9998) q q')
theorem Pl.neq {h : PH} {x y : Operand} (q q' : Pl) : SemE PG h (binS .neq T_api_Place x y (.agg q.cells.toArray) (.agg q'.cells.toArray)) = some (.bool (!decide (q = q'))) := neqStruct (by kernel_rfl) (Pl.eqIn (d := 9998) q q')
def two (p q : Pl) : Value := .agg (p.cells ++ q.cells).toArray
theorem two.eql {h : PH} {x y : Operand} (p q p' q' : Pl) : SemE PG h (binS .eql T_2_api_Place x y (two p q) (two p' q')) = some (.bool (decide (p = p' ∧ q = q'))) := by
  refine eqlStruct (by kernel_rfl) ?_
  rw [eqIn_array T_2_api_Place.und T_api_Place.info T_api_Place.size (fun j => if j = 0 then decide (p = p') else decide (q = q'))]
  · congr 1
    simp [List.range, List.range.loop]
  · intro j hj
    have : j = 0 ∨ j = 1 := by omega
    rcases this with rfl | rfl
    · exact ⟨_, _, part_agg T_api_Place.und rfl T_api_Place.info T_api_Place.size, part_agg T_api_Place.und rfl T_api_Place.info T_api_Place.size, Pl.eqIn (d := 9997) p p'⟩
    · exact ⟨_, _, part_agg T_api_Place.und rfl T_api_Place.info T_api_Place.size, part_agg T_api_Place.und rfl T_api_Place.info T_api_Place.size, Pl.eqIn (d := 9997) q q'⟩
theorem two_zero : SemP PG (Instr.build T_2_api_Place #[]) = some (two Pl.zero Pl.zero) := by kernel_rfl
/-! ### what a record may have -/
def Rc.plain (r : Rc) : Bool :=
  if r.k = 1 then decide (r.ch = 0) && decide (r.pl = Pl.zero) && decide (r.ns.length = 0) && decide (r.s.its.length ≤ 40)
  else if r.k = 2 then decide (r.s.p0 = Pl.zero ∧ r.s.p1 = Pl.zero) && decide (r.s.its.length = 0) && (decide (r.ch = 0) || decide (r.ch = 1)) && decide (r.ns.length ≤ 16)
  else false
theorem It.len {h : PH} {v : Value} {l : List It} (S : ISl h v l) : SemP PG (Builtin.len_ #[T_sl_api_Item] T_int #[v]) = some (.int .i64 l.length) := by
  have := S.len (t' := T_int) T_sl_api_Item.und
  rw [List.length_map] at this
  exact this
theorem Nt.len {h : PH} {v : Value} {l : List Nt} (S : NSl h v l) : SemP PG (Builtin.len_ #[T_sl_api_Note] T_int #[v]) = some (.int .i64 l.length) := by
  have := S.len (t' := T_int) T_sl_api_Note.und
  rw [List.length_map] at this
  exact this
theorem beqz {n : Nat} : (((n : Nat) : Int) == 0) = decide (n = 0) := by rw [Bool.eq_iff_iff]; simp
theorem leN {n m : Nat} : ((n : Int) ≤ (m : Int)) = (n ≤ m) := by rw [Int.ofNat_le]
theorem plain_ok {h : PH} {r : Rc} {v w : Value} (V : ISl h v r.s.its) (W : NSl h w r.ns) {k : Value → PH → Prop} (hk : ∀ h', Ext h h' → k (.bool r.plain) h') : CallsH PG id_record_plain #[r.v v w] h k := by
  apply record_plain.call
  unfold record_plain
  intro r1 hr
  try rw [bindH_eq]
  have u1 : Ext h (h.set r1 (.cells (Value.cells (r.v v w)) T_api_Record)) := Upd.new hr
  have B : Bx (h.set r1 (.cells (Value.cells (r.v v w)) T_api_Record)) r1 (r.cells v w) := Bx.new
  generalize h.set r1 (.cells (Value.cells (r.v v w)) T_api_Record) = h1 at *
  have hk := hk h1 u1
  have lp : SemE PG h1 (Instr.loadAt T_api_Place (.pointer (some ⟨r1, 7, none⟩))) = some (.agg r.pl.cells.toArray) := T_api_Place.agg B (by show 7 + 2 ≤ 10; decide)
  have l2 : SemE PG h1 (Instr.loadAt T_2_api_Place (.pointer (some ⟨r1, 1, none⟩))) = some (two r.s.p0 r.s.p1) := T_2_api_Place.agg B (by show 1 + 4 ≤ 10; decide)
  have lv := It.len V
  have lw := Nt.len W
  have g40 : ((r.s.its.length : Int) ≤ 40) = (r.s.its.length ≤ 40) := leN (m := 40)
  have g16 : ((r.ns.length : Int) ≤ 16) = (r.ns.length ≤ 16) := leN (m := 16)
  unfold Rc.plain at hk
  simp only [T_api_Record.f0, T_api_Record.f1, T_api_Record.f2, T_api_Record.f3, T_api_Record.f4, T_api_Daemon.f0, T_api_Daemon.f1, T_int.load, B.cell, Rc.cells, Nat.zero_add, Nat.reduceAdd, eqlI, popO_some, bindH_eq, condV_bool, condV_true, condV_false, yV_bool, gopV_tt, gopV_ff, gopV_tf, gopV_ft, pickV_t, pickV_f, pickV_bool, nilS_ptr, add_eq, sub_eq, mul_eq, lss_eq, leq_eq, gtr_eq, geq_eq, not_eq, minI_eq, maxI_eq, extract_0, extract_1, extract_2, eqlI, neqI, makeFunc_eq, decide_true, decide_false, if_true, if_false, Bool.false_eq_true, Bool.not_true, Bool.not_false, reduceIte, List.getElem?_toArray, List.getElem?_cons_zero, List.getElem?_cons_succ, Option.isSome_none, List.length_map]
  by_cases k1 : r.k = 1
  · have q : (r.k == 1) = true := by simp [k1]
    rw [if_pos k1] at hk
    by_cases c0 : r.ch = 0
    · have q0 : (r.ch == 0) = true := by simp [c0]
      by_cases c1 : r.pl = Pl.zero
      · by_cases c2 : r.ns.length = 0
        · simp only [q, q0, lp, pl_zero, Pl.eql, c0, c1, c2, g40, T_sl_api_Note.load, T_sl_api_Item.load, B.cell, Rc.cells, Nat.zero_add, Nat.reduceAdd, lv, lw, eqlI, beqz, T_api_Record.f4, T_api_Record.f1, T_api_Daemon.f1, decide_true, popO_some, bindH_eq, condV_bool, condV_true, condV_false, yV_bool, gopV_tt, gopV_ff, gopV_tf, gopV_ft, pickV_t, pickV_f, pickV_bool, nilS_ptr, add_eq, sub_eq, mul_eq, lss_eq, leq_eq, gtr_eq, geq_eq, not_eq, minI_eq, maxI_eq, extract_0, extract_1, extract_2, eqlI, neqI, makeFunc_eq, decide_true, decide_false, if_true, if_false, Bool.false_eq_true, Bool.not_true, Bool.not_false, reduceIte, List.getElem?_toArray, List.getElem?_cons_zero, List.getElem?_cons_succ, Option.isSome_none, List.length_map, yV_undef, gopV_none, Nat.zero_add, Nat.reduceAdd, beq_self_eq_true, bne_self_eq_false, and_self, Bool.true_and, Bool.false_and, Bool.and_true, Bool.and_false, Bool.true_or, Bool.false_or, Bool.or_true, Bool.or_false] at hk ⊢
          exact hk
        · simp only [q, q0, lp, pl_zero, Pl.eql, c0, c1, c2, g40, T_sl_api_Note.load, T_sl_api_Item.load, B.cell, Rc.cells, Nat.zero_add, Nat.reduceAdd, lv, lw, eqlI, beqz, T_api_Record.f4, T_api_Record.f1, T_api_Daemon.f1, decide_true, decide_false, Bool.true_and, Bool.false_and, popO_some, bindH_eq, condV_bool, condV_true, condV_false, yV_bool, gopV_tt, gopV_ff, gopV_tf, gopV_ft, pickV_t, pickV_f, pickV_bool, nilS_ptr, add_eq, sub_eq, mul_eq, lss_eq, leq_eq, gtr_eq, geq_eq, not_eq, minI_eq, maxI_eq, extract_0, extract_1, extract_2, eqlI, neqI, makeFunc_eq, decide_true, decide_false, if_true, if_false, Bool.false_eq_true, Bool.not_true, Bool.not_false, reduceIte, List.getElem?_toArray, List.getElem?_cons_zero, List.getElem?_cons_succ, Option.isSome_none, List.length_map, yV_undef, gopV_none, Nat.zero_add, Nat.reduceAdd, beq_self_eq_true, bne_self_eq_false, and_self, Bool.true_and, Bool.false_and, Bool.and_true, Bool.and_false, Bool.true_or, Bool.false_or, Bool.or_true, Bool.or_false] at hk ⊢
          exact hk
      · simp only [q, q0, lp, pl_zero, Pl.eql, c0, c1, decide_true, decide_false, Bool.true_and, Bool.false_and, popO_some, bindH_eq, condV_bool, condV_true, condV_false, yV_bool, gopV_tt, gopV_ff, gopV_tf, gopV_ft, pickV_t, pickV_f, pickV_bool, nilS_ptr, add_eq, sub_eq, mul_eq, lss_eq, leq_eq, gtr_eq, geq_eq, not_eq, minI_eq, maxI_eq, extract_0, extract_1, extract_2, eqlI, neqI, makeFunc_eq, decide_true, decide_false, if_true, if_false, Bool.false_eq_true, Bool.not_true, Bool.not_false, reduceIte, List.getElem?_toArray, List.getElem?_cons_zero, List.getElem?_cons_succ, Option.isSome_none, List.length_map, yV_undef, gopV_none, Nat.zero_add, Nat.reduceAdd, beq_self_eq_true, bne_self_eq_false, and_self, Bool.true_and, Bool.false_and, Bool.and_true, Bool.and_false, Bool.true_or, Bool.false_or, Bool.or_true, Bool.or_false] at hk ⊢
        exact hk
    · have q0 : (r.ch == 0) = false := by simp [c0]
      simp only [q, q0, c0, decide_false, Bool.false_and, popO_some, bindH_eq, condV_bool, condV_true, condV_false, yV_bool, gopV_tt, gopV_ff, gopV_tf, gopV_ft, pickV_t, pickV_f, pickV_bool, nilS_ptr, add_eq, sub_eq, mul_eq, lss_eq, leq_eq, gtr_eq, geq_eq, not_eq, minI_eq, maxI_eq, extract_0, extract_1, extract_2, eqlI, neqI, makeFunc_eq, decide_true, decide_false, if_true, if_false, Bool.false_eq_true, Bool.not_true, Bool.not_false, reduceIte, List.getElem?_toArray, List.getElem?_cons_zero, List.getElem?_cons_succ, Option.isSome_none, List.length_map, yV_undef, gopV_none, Nat.zero_add, Nat.reduceAdd, beq_self_eq_true, bne_self_eq_false, and_self, Bool.true_and, Bool.false_and, Bool.and_true, Bool.and_false, Bool.true_or, Bool.false_or, Bool.or_true, Bool.or_false] at hk ⊢
      exact hk
  · have q : (r.k == 1) = false := by simp [k1]
    rw [if_neg k1] at hk
    by_cases k2 : r.k = 2
    · have q2 : (r.k == 2) = true := by simp [k2]
      rw [if_pos k2] at hk
      simp only [q, q2, l2, two_zero, two.eql, popO_some, bindH_eq, condV_bool, condV_true, condV_false, yV_bool, gopV_tt, gopV_ff, gopV_tf, gopV_ft, pickV_t, pickV_f, pickV_bool, nilS_ptr, add_eq, sub_eq, mul_eq, lss_eq, leq_eq, gtr_eq, geq_eq, not_eq, minI_eq, maxI_eq, extract_0, extract_1, extract_2, eqlI, neqI, makeFunc_eq, decide_true, decide_false, if_true, if_false, Bool.false_eq_true, Bool.not_true, Bool.not_false, reduceIte, List.getElem?_toArray, List.getElem?_cons_zero, List.getElem?_cons_succ, Option.isSome_none, List.length_map]
      by_cases c0 : r.s.p0 = Pl.zero ∧ r.s.p1 = Pl.zero
      · by_cases c1 : r.s.its.length = 0
        · by_cases c2 : r.ch = 0
          · have q3 : (r.ch == 0) = true := by simp [c2]
            simp only [q3, c0, c1, c2, g16, T_sl_api_Note.load, T_sl_api_Item.load, T_int.load, B.cell, Rc.cells, Nat.zero_add, Nat.reduceAdd, lv, lw, eqlI, beqz, T_api_Record.f4, T_api_Record.f2, T_api_Record.f1, T_api_Daemon.f1, and_self, decide_true, decide_false, Bool.true_and, Bool.true_or, popO_some, bindH_eq, condV_bool, condV_true, condV_false, yV_bool, gopV_tt, gopV_ff, gopV_tf, gopV_ft, pickV_t, pickV_f, pickV_bool, nilS_ptr, add_eq, sub_eq, mul_eq, lss_eq, leq_eq, gtr_eq, geq_eq, not_eq, minI_eq, maxI_eq, extract_0, extract_1, extract_2, eqlI, neqI, makeFunc_eq, decide_true, decide_false, if_true, if_false, Bool.false_eq_true, Bool.not_true, Bool.not_false, reduceIte, List.getElem?_toArray, List.getElem?_cons_zero, List.getElem?_cons_succ, Option.isSome_none, List.length_map, yV_undef, gopV_none, Nat.zero_add, Nat.reduceAdd, beq_self_eq_true, bne_self_eq_false, and_self, Bool.true_and, Bool.false_and, Bool.and_true, Bool.and_false, Bool.true_or, Bool.false_or, Bool.or_true, Bool.or_false] at hk ⊢
            exact hk
          · have q3 : (r.ch == 0) = false := by simp [c2]
            by_cases c3 : r.ch = 1
            · have q4 : (r.ch == 1) = true := by simp [c3]
              simp only [q3, q4, c0, c1, c2, c3, g16, T_sl_api_Note.load, T_sl_api_Item.load, T_int.load, B.cell, Rc.cells, Nat.zero_add, Nat.reduceAdd, lv, lw, eqlI, beqz, T_api_Record.f4, T_api_Record.f2, T_api_Record.f1, T_api_Daemon.f1, and_self, decide_true, decide_false, Bool.true_and, Bool.false_or, popO_some, bindH_eq, condV_bool, condV_true, condV_false, yV_bool, gopV_tt, gopV_ff, gopV_tf, gopV_ft, pickV_t, pickV_f, pickV_bool, nilS_ptr, add_eq, sub_eq, mul_eq, lss_eq, leq_eq, gtr_eq, geq_eq, not_eq, minI_eq, maxI_eq, extract_0, extract_1, extract_2, eqlI, neqI, makeFunc_eq, decide_true, decide_false, if_true, if_false, Bool.false_eq_true, Bool.not_true, Bool.not_false, reduceIte, List.getElem?_toArray, List.getElem?_cons_zero, List.getElem?_cons_succ, Option.isSome_none, List.length_map, yV_undef, gopV_none, Nat.zero_add, Nat.reduceAdd, beq_self_eq_true, bne_self_eq_false, and_self, Bool.true_and, Bool.false_and, Bool.and_true, Bool.and_false, Bool.true_or, Bool.false_or, Bool.or_true, Bool.or_false, show ((1 : Int) == 0) = false from rfl, show ((1 : Int) = 0) = False from eq_false (by decide)] at hk ⊢
              exact hk
            · have q4 : (r.ch == 1) = false := by simp [c3]
              simp only [q3, q4, c0, c1, c2, c3, g16, T_sl_api_Note.load, T_sl_api_Item.load, T_int.load, B.cell, Rc.cells, Nat.zero_add, Nat.reduceAdd, lv, lw, eqlI, beqz, T_api_Record.f4, T_api_Record.f2, T_api_Record.f1, T_api_Daemon.f1, and_self, popO_some, bindH_eq, condV_bool, condV_true, condV_false, yV_bool, gopV_tt, gopV_ff, gopV_tf, gopV_ft, pickV_t, pickV_f, pickV_bool, nilS_ptr, add_eq, sub_eq, mul_eq, lss_eq, leq_eq, gtr_eq, geq_eq, not_eq, minI_eq, maxI_eq, extract_0, extract_1, extract_2, eqlI, neqI, makeFunc_eq, decide_true, decide_false, if_true, if_false, Bool.false_eq_true, Bool.not_true, Bool.not_false, reduceIte, List.getElem?_toArray, List.getElem?_cons_zero, List.getElem?_cons_succ, Option.isSome_none, List.length_map, yV_undef, gopV_none, Nat.zero_add, Nat.reduceAdd, beq_self_eq_true, bne_self_eq_false, and_self, Bool.true_and, Bool.false_and, Bool.and_true, Bool.and_false, Bool.true_or, Bool.false_or, Bool.or_true, Bool.or_false] at hk ⊢
              exact hk
        · simp only [c0, c1, T_sl_api_Note.load, T_sl_api_Item.load, B.cell, Rc.cells, Nat.zero_add, Nat.reduceAdd, lv, lw, eqlI, beqz, T_api_Record.f1, T_api_Daemon.f1, and_self, decide_true, decide_false, Bool.true_and, Bool.false_and, popO_some, bindH_eq, condV_bool, condV_true, condV_false, yV_bool, gopV_tt, gopV_ff, gopV_tf, gopV_ft, pickV_t, pickV_f, pickV_bool, nilS_ptr, add_eq, sub_eq, mul_eq, lss_eq, leq_eq, gtr_eq, geq_eq, not_eq, minI_eq, maxI_eq, extract_0, extract_1, extract_2, eqlI, neqI, makeFunc_eq, decide_true, decide_false, if_true, if_false, Bool.false_eq_true, Bool.not_true, Bool.not_false, reduceIte, List.getElem?_toArray, List.getElem?_cons_zero, List.getElem?_cons_succ, Option.isSome_none, List.length_map, yV_undef, gopV_none, Nat.zero_add, Nat.reduceAdd, beq_self_eq_true, bne_self_eq_false, and_self, Bool.true_and, Bool.false_and, Bool.and_true, Bool.and_false, Bool.true_or, Bool.false_or, Bool.or_true, Bool.or_false] at hk ⊢
          exact hk
      · simp only [c0, decide_false, Bool.false_and, popO_some, bindH_eq, condV_bool, condV_true, condV_false, yV_bool, gopV_tt, gopV_ff, gopV_tf, gopV_ft, pickV_t, pickV_f, pickV_bool, nilS_ptr, add_eq, sub_eq, mul_eq, lss_eq, leq_eq, gtr_eq, geq_eq, not_eq, minI_eq, maxI_eq, extract_0, extract_1, extract_2, eqlI, neqI, makeFunc_eq, decide_true, decide_false, if_true, if_false, Bool.false_eq_true, Bool.not_true, Bool.not_false, reduceIte, List.getElem?_toArray, List.getElem?_cons_zero, List.getElem?_cons_succ, Option.isSome_none, List.length_map, yV_undef, gopV_none, Nat.zero_add, Nat.reduceAdd, beq_self_eq_true, bne_self_eq_false, and_self, Bool.true_and, Bool.false_and, Bool.and_true, Bool.and_false, Bool.true_or, Bool.false_or, Bool.or_true, Bool.or_false] at hk ⊢
        exact hk
    · have q2 : (r.k == 2) = false := by simp [k2]
      rw [if_neg k2] at hk
      simp only [q, q2, popO_some, bindH_eq, condV_bool, condV_true, condV_false, yV_bool, gopV_tt, gopV_ff, gopV_tf, gopV_ft, pickV_t, pickV_f, pickV_bool, nilS_ptr, add_eq, sub_eq, mul_eq, lss_eq, leq_eq, gtr_eq, geq_eq, not_eq, minI_eq, maxI_eq, extract_0, extract_1, extract_2, eqlI, neqI, makeFunc_eq, decide_true, decide_false, if_true, if_false, Bool.false_eq_true, Bool.not_true, Bool.not_false, reduceIte, List.getElem?_toArray, List.getElem?_cons_zero, List.getElem?_cons_succ, Option.isSome_none, List.length_map]
      exact hk
end Go.Proofs.Ytlkjippiaghbmaa
/- record: its bytes. -/
set_option linter.unusedSimpArgs false
set_option linter.unusedVariables false
namespace Go.Proofs.Ytlkjippiaghbmaa
open Go
set_option maxRecDepth 20000
def Rc.wr (r : Rc) : Stt :=
  if r.k = 1 then wList (wPl (wPl (wByte (0, []) r.k) r.s.p0) r.s.p1) (r.s.its.map It.x)
  else wList (wPl (wByte (wByte (0, []) r.k) r.ch) r.pl) (r.ns.map Nt.x)
def Rc.bytes (r : Rc) : Tx × Int := if r.plain then wBytes r.wr else ([], 1)
theorem index2_0 {p q : Pl} : SemP PG (Instr.index T_2_api_Place (two p q) (.int .i64 0)) = some (.agg p.cells.toArray) := by kernel_rfl
theorem index2_1 {p q : Pl} : SemP PG (Instr.index T_2_api_Place (two p q) (.int .i64 1)) = some (.agg q.cells.toArray) := by kernel_rfl
theorem index2 {p q : Pl} {i : Nat} (hi : i < 2) : SemP PG (Instr.index T_2_api_Place (two p q) (.int .i64 (i : Int))) = some (.agg (if i = 0 then p else q).cells.toArray) := by
  have : i = 0 ∨ i = 1 := by omega
  rcases this with rfl | rfl
  · exact index2_0
  · exact index2_1
theorem zW : zcells PG T_wire_Writer = #[.int .i64 0, .pointer none, .slice none 0 0] := by rw [T_wire_Writer.zc]; rfl
theorem WN.start {h : PH} {r : Nat} (hr : h r = none) : WN h (h.set r (.cells (zcells PG T_wire_Writer) T_wire_Writer)) r (0, []) [r] := by
  have hW : WAt (h.set r (.cells (zcells PG T_wire_Writer) T_wire_Writer)) r 0 [] [r] := by
    rw [zW]
    exact ⟨_, _, [], set_same, .inl rfl, OwnR.nil, rfl, by simp⟩
  exact ⟨hW, Upd.new hr, fun b hb => .inr (by simp only [List.mem_singleton] at hb; subst hb; exact hr)⟩
theorem bytes_ok {h : PH} {r : Rc} {v w : Value} (V : ISl h v r.s.its) (W : NSl h w r.ns) (wf : r.wf) {k : Value → PH → Prop} (hk : ∀ h', Ext h h' → k (.tuple #[.string (tx r.bytes.1), .int .i64 r.bytes.2]) h') : CallsH PG id_record_Bytes #[r.v v w] h k := by
  apply record_Bytes.call
  unfold record_Bytes
  intro r1 hr
  try rw [bindH_eq]
  have u1 : Ext h (h.set r1 (.cells (Value.cells (r.v v w)) T_api_Record)) := Upd.new hr
  have B : Bx (h.set r1 (.cells (Value.cells (r.v v w)) T_api_Record)) r1 (r.cells v w) := Bx.new
  generalize h.set r1 (.cells (Value.cells (r.v v w)) T_api_Record) = h1 at *
  have lr : SemE PG h1 (Instr.loadAt T_api_Record (.pointer (some ⟨r1, 0, none⟩))) = some (r.v v w) := T_api_Record.agg B (by show 0 + 10 ≤ 10; decide)
  simp only [lr, popO_some, bindH_eq, condV_bool, condV_true, condV_false, yV_bool, gopV_tt, gopV_ff, gopV_tf, gopV_ft, pickV_t, pickV_f, pickV_bool, nilS_ptr, add_eq, sub_eq, mul_eq, lss_eq, leq_eq, gtr_eq, geq_eq, not_eq, minI_eq, maxI_eq, extract_0, extract_1, extract_2, eqlI, neqI, makeFunc_eq, decide_true, decide_false, if_true, if_false, Bool.false_eq_true, Bool.not_true, Bool.not_false, reduceIte, List.getElem?_toArray, List.getElem?_cons_zero, List.getElem?_cons_succ, Option.isSome_none, List.length_map]
  refine plain_ok (V.ext u1) (W.ext u1) fun h2 u2 => ?_
  have e2 := u1.trans u2
  have B2 := B.ext u2
  unfold Rc.bytes at hk
  cases hp : r.plain with
  | false =>
    rw [hp] at hk
    simp only [popO_some, bindH_eq, condV_bool, condV_true, condV_false, yV_bool, gopV_tt, gopV_ff, gopV_tf, gopV_ft, pickV_t, pickV_f, pickV_bool, nilS_ptr, add_eq, sub_eq, mul_eq, lss_eq, leq_eq, gtr_eq, geq_eq, not_eq, minI_eq, maxI_eq, extract_0, extract_1, extract_2, eqlI, neqI, makeFunc_eq, decide_true, decide_false, if_true, if_false, Bool.false_eq_true, Bool.not_true, Bool.not_false, reduceIte, List.getElem?_toArray, List.getElem?_cons_zero, List.getElem?_cons_succ, Option.isSome_none, List.length_map, yV_undef, gopV_none, Nat.zero_add, Nat.reduceAdd, beq_self_eq_true, bne_self_eq_false, and_self, Bool.true_and, Bool.false_and, Bool.and_true, Bool.and_false, Bool.true_or, Bool.false_or, Bool.or_true, Bool.or_false] at hk ⊢
    exact hk _ e2
  | true =>
    rw [hp] at hk
    simp only [if_true] at hk
    simp only [popO_some, bindH_eq, condV_bool, condV_true, condV_false, yV_bool, gopV_tt, gopV_ff, gopV_tf, gopV_ft, pickV_t, pickV_f, pickV_bool, nilS_ptr, add_eq, sub_eq, mul_eq, lss_eq, leq_eq, gtr_eq, geq_eq, not_eq, minI_eq, maxI_eq, extract_0, extract_1, extract_2, eqlI, neqI, makeFunc_eq, decide_true, decide_false, if_true, if_false, Bool.false_eq_true, Bool.not_true, Bool.not_false, reduceIte, List.getElem?_toArray, List.getElem?_cons_zero, List.getElem?_cons_succ, Option.isSome_none, List.length_map, yV_undef, gopV_none, Nat.zero_add, Nat.reduceAdd, beq_self_eq_true, bne_self_eq_false, and_self, Bool.true_and, Bool.false_and, Bool.and_true, Bool.and_false, Bool.true_or, Bool.false_or, Bool.or_true, Bool.or_false]
    intro rw_ hrw
    try rw [bindH_eq]
    have S0 := WN.start hrw
    have u3 : Ext h2 (h2.set rw_ (.cells (zcells PG T_wire_Writer) T_wire_Writer)) := Upd.new hrw
    generalize h2.set rw_ (.cells (zcells PG T_wire_Writer) T_wire_Writer) = h3 at *
    -- what was there when the writer was made stays
    have bx : ∀ {h' : PH}, Ext h2 h' → Bx h' r1 (r.cells v w) := fun u => B2.ext u
    have vv : ∀ {h' : PH}, Ext h2 h' → ISl h' v r.s.its := fun u => V.ext (e2.trans u)
    have ww : ∀ {h' : PH}, Ext h2 h' → NSl h' w r.ns := fun u => W.ext (e2.trans u)
    have few : r.s.its.length ≤ 40 ∧ r.ns.length ≤ 16 ∧ (r.k = 1 ∨ r.k = 2) := by
      unfold Rc.plain at hp
      split at hp
      · rename_i hk1
        simp only [Bool.and_eq_true, decide_eq_true_eq] at hp
        exact ⟨hp.2, by omega, .inl hk1⟩
      · split at hp
        · rename_i hk2
          simp only [Bool.and_eq_true, decide_eq_true_eq] at hp
          exact ⟨by omega, hp.2, .inr hk2⟩
        · cases hp
    obtain ⟨f1, f2, fk⟩ := few
    simp only [T_api_Record.f0, T_int.load, (bx S0.upd).cell, Rc.cells, popO_some, bindH_eq, condV_bool, condV_true, condV_false, yV_bool, gopV_tt, gopV_ff, gopV_tf, gopV_ft, pickV_t, pickV_f, pickV_bool, nilS_ptr, add_eq, sub_eq, mul_eq, lss_eq, leq_eq, gtr_eq, geq_eq, not_eq, minI_eq, maxI_eq, extract_0, extract_1, extract_2, eqlI, neqI, makeFunc_eq, decide_true, decide_false, if_true, if_false, Bool.false_eq_true, Bool.not_true, Bool.not_false, reduceIte, List.getElem?_toArray, List.getElem?_cons_zero, List.getElem?_cons_succ, Option.isSome_none, List.length_map, yV_undef, gopV_none, Nat.zero_add, Nat.reduceAdd, beq_self_eq_true, bne_self_eq_false, and_self, Bool.true_and, Bool.false_and, Bool.and_true, Bool.and_false, Bool.true_or, Bool.false_or, Bool.or_true, Bool.or_false]
    refine Byte_w S0 (by simp) r.k fun h4 F4 x4 e4 S4 K4 => ?_
    have b4 := wByte_len (0, []) r.k
    rw [← e4] at b4
    simp only [List.length_nil] at b4
    have fin : ∀ {st : Stt} {h' : PH} {F' : List Nat}, WN h2 h' rw_ st F' → st = r.wr → CallsH PG id_wire_Writer_Bytes #[.pointer (some ⟨rw_, 0, none⟩)] h' fun v36 h37 => popO (SemP PG (Instr.extract v36 0)) fun v38 => popO (SemP PG (Instr.extract v36 1)) fun v39 => k (.tuple #[v38, v39]) h37 := by
      intro st h' F' S' est
      refine Bytes_ok S'.at_ fun h9 u9 => ?_
      simp only [popO_some, bindH_eq, condV_bool, condV_true, condV_false, yV_bool, gopV_tt, gopV_ff, gopV_tf, gopV_ft, pickV_t, pickV_f, pickV_bool, nilS_ptr, add_eq, sub_eq, mul_eq, lss_eq, leq_eq, gtr_eq, geq_eq, not_eq, minI_eq, maxI_eq, extract_0, extract_1, extract_2, eqlI, neqI, makeFunc_eq, decide_true, decide_false, if_true, if_false, Bool.false_eq_true, Bool.not_true, Bool.not_false, reduceIte, List.getElem?_toArray, List.getElem?_cons_zero, List.getElem?_cons_succ, Option.isSome_none, List.length_map]
      rw [← est] at hk
      exact hk h9 (e2.trans (S'.upd.fresh u9 S'.fresh))
    simp only [T_api_Record.f0, T_api_Record.f1, T_api_Record.f2, T_api_Daemon.f0, T_int.load, (bx S4.upd).cell, Rc.cells, eqlI, popO_some, bindH_eq, condV_bool, condV_true, condV_false, yV_bool, gopV_tt, gopV_ff, gopV_tf, gopV_ft, pickV_t, pickV_f, pickV_bool, nilS_ptr, add_eq, sub_eq, mul_eq, lss_eq, leq_eq, gtr_eq, geq_eq, not_eq, minI_eq, maxI_eq, extract_0, extract_1, extract_2, eqlI, neqI, makeFunc_eq, decide_true, decide_false, if_true, if_false, Bool.false_eq_true, Bool.not_true, Bool.not_false, reduceIte, List.getElem?_toArray, List.getElem?_cons_zero, List.getElem?_cons_succ, Option.isSome_none, List.length_map, yV_undef, gopV_none, Nat.zero_add, Nat.reduceAdd, beq_self_eq_true, bne_self_eq_false, and_self, Bool.true_and, Bool.false_and, Bool.and_true, Bool.and_false, Bool.true_or, Bool.false_or, Bool.or_true, Bool.or_false]
    by_cases k1 : r.k = 1
    · have q : (r.k == 1) = true := by simp [k1]
      have l2 : SemE PG h4 (Instr.loadAt T_2_api_Place (.pointer (some ⟨r1, 1, none⟩))) = some (two r.s.p0 r.s.p1) := T_2_api_Place.agg (bx S4.upd) (by show 1 + 4 ≤ 10; decide)
      simp only [q, l2, popO_some, bindH_eq, condV_bool, condV_true, condV_false, yV_bool, gopV_tt, gopV_ff, gopV_tf, gopV_ft, pickV_t, pickV_f, pickV_bool, nilS_ptr, add_eq, sub_eq, mul_eq, lss_eq, leq_eq, gtr_eq, geq_eq, not_eq, minI_eq, maxI_eq, extract_0, extract_1, extract_2, eqlI, neqI, makeFunc_eq, decide_true, decide_false, if_true, if_false, Bool.false_eq_true, Bool.not_true, Bool.not_false, reduceIte, List.getElem?_toArray, List.getElem?_cons_zero, List.getElem?_cons_succ, Option.isSome_none, List.length_map, yV_undef, gopV_none, Nat.zero_add, Nat.reduceAdd, beq_self_eq_true, bne_self_eq_false, and_self, Bool.true_and, Bool.false_and, Bool.and_true, Bool.and_false, Bool.true_or, Bool.false_or, Bool.or_true, Bool.or_false]
      refine ⟨fun vs h' => ∃ (i : Nat) (st : Stt) (F : List Nat), i ≤ 2 ∧ vs = [.pointer (some ⟨r1, 0, none⟩), .pointer (some ⟨rw_, 0, none⟩), two r.s.p0 r.s.p1, .int .i64 (i : Int)] ∧ WN h2 h' rw_ st F ∧ st = (if i = 0 then x4 else if i = 1 then wPl x4 r.s.p0 else wPl (wPl x4 r.s.p0) r.s.p1), upTo 2 3, ⟨0, _, _, by omega, rfl, S4, rfl⟩, ?_⟩
      rintro ρ h' ⟨i, st, F, hi, hvs, S', est⟩
      simp only [List.map_cons, List.map_nil, List.cons.injEq, and_true] at hvs
      obtain ⟨v1, v4, v18, v19⟩ := hvs
      simp only [v1, v4, v18, v19, List.map_cons, List.map_nil]
      unfold record_Bytes_b20
      have hst : st.2.length ≤ 100 := by
        have h1 := wPl_len x4 r.s.p0
        have h2 := wPl_len (wPl x4 r.s.p0) r.s.p1
        rw [est]
        split
        · omega
        · split <;> omega
      by_cases hl : i < 2
      · have g1 : ((i : Int) < 2) = True := eq_true (by omega)
        have gi : IntKind.i64.wrap ((i : Int) + 1) = ((i + 1 : Nat) : Int) := by rw [i64_wrap (by omega) (by omega)]; omega
        simp only [g1, index2 hl, popO_some, bindH_eq, condV_bool, condV_true, condV_false, yV_bool, gopV_tt, gopV_ff, gopV_tf, gopV_ft, pickV_t, pickV_f, pickV_bool, nilS_ptr, add_eq, sub_eq, mul_eq, lss_eq, leq_eq, gtr_eq, geq_eq, not_eq, minI_eq, maxI_eq, extract_0, extract_1, extract_2, eqlI, neqI, makeFunc_eq, decide_true, decide_false, if_true, if_false, Bool.false_eq_true, Bool.not_true, Bool.not_false, reduceIte, List.getElem?_toArray, List.getElem?_cons_zero, List.getElem?_cons_succ, Option.isSome_none, List.length_map]
        intro r5 hr5
        try rw [bindH_eq]
        refine T_api_Place.fill hr5 rfl (by simp [Pl.cells, isCell]) fun h5 B5 u5 => ?_
        have l5 : SemE PG h5 (Instr.loadAt T_api_Place (.pointer (some ⟨r5, 0, none⟩))) = some (.agg (if i = 0 then r.s.p0 else r.s.p1).cells.toArray) := T_api_Place.agg B5 (by show 0 + 2 ≤ 2; decide)
        simp only [l5, popO_some, bindH_eq, condV_bool, condV_true, condV_false, yV_bool, gopV_tt, gopV_ff, gopV_tf, gopV_ft, pickV_t, pickV_f, pickV_bool, nilS_ptr, add_eq, sub_eq, mul_eq, lss_eq, leq_eq, gtr_eq, geq_eq, not_eq, minI_eq, maxI_eq, extract_0, extract_1, extract_2, eqlI, neqI, makeFunc_eq, decide_true, decide_false, if_true, if_false, Bool.false_eq_true, Bool.not_true, Bool.not_false, reduceIte, List.getElem?_toArray, List.getElem?_cons_zero, List.getElem?_cons_succ, Option.isSome_none, List.length_map]
        have wq : (if i = 0 then r.s.p0 else r.s.p1).wf := by split; exact wf.s.a; exact wf.s.b
        refine PutPlace_w (WS.ext S' u5) (by omega) _ wq.1 wq.2 fun h6 F6 S6 K6 => ?_
        simp only [gi, popO_some, bindH_eq, condV_bool, condV_true, condV_false, yV_bool, gopV_tt, gopV_ff, gopV_tf, gopV_ft, pickV_t, pickV_f, pickV_bool, nilS_ptr, add_eq, sub_eq, mul_eq, lss_eq, leq_eq, gtr_eq, geq_eq, not_eq, minI_eq, maxI_eq, extract_0, extract_1, extract_2, eqlI, neqI, makeFunc_eq, decide_true, decide_false, if_true, if_false, Bool.false_eq_true, Bool.not_true, Bool.not_false, reduceIte, List.getElem?_toArray, List.getElem?_cons_zero, List.getElem?_cons_succ, Option.isSome_none, List.length_map]
        refine ⟨⟨i + 1, _, F6, by omega, rfl, S6, ?_⟩, ?_⟩
        · have : i = 0 ∨ i = 1 := by omega
          rcases this with rfl | rfl
          · rw [est]; rfl
          · rw [est]; rfl
        · simp only [upTo, List.getElem?_cons_succ, List.getElem?_cons_zero]
          omega
      · obtain rfl : i = 2 := by omega
        have g1 : (((2 : Nat) : Int) < 2) = False := eq_false (by omega)
        simp only [g1, T_api_Record.f1, T_api_Daemon.f1, T_sl_api_Item.load, (bx S'.upd).cell, Rc.cells, popO_some, bindH_eq, condV_bool, condV_true, condV_false, yV_bool, gopV_tt, gopV_ff, gopV_tf, gopV_ft, pickV_t, pickV_f, pickV_bool, nilS_ptr, add_eq, sub_eq, mul_eq, lss_eq, leq_eq, gtr_eq, geq_eq, not_eq, minI_eq, maxI_eq, extract_0, extract_1, extract_2, eqlI, neqI, makeFunc_eq, decide_true, decide_false, if_true, if_false, Bool.false_eq_true, Bool.not_true, Bool.not_false, reduceIte, List.getElem?_toArray, List.getElem?_cons_zero, List.getElem?_cons_succ, Option.isSome_none, List.length_map, yV_undef, gopV_none, Nat.zero_add, Nat.reduceAdd, beq_self_eq_true, bne_self_eq_false, and_self, Bool.true_and, Bool.false_and, Bool.and_true, Bool.and_false, Bool.true_or, Bool.false_or, Bool.or_true, Bool.or_false]
        refine PutItems_w S' (by omega) (vv Upd.refl) (by omega) wf.s.i fun h6 F6 S6 K6 => ?_
        refine fin S6 ?_
        unfold Rc.wr
        rw [if_pos k1, est, e4]; rfl
    · have q : (r.k == 1) = false := by simp [k1]
      simp only [q, popO_some, bindH_eq, condV_bool, condV_true, condV_false, yV_bool, gopV_tt, gopV_ff, gopV_tf, gopV_ft, pickV_t, pickV_f, pickV_bool, nilS_ptr, add_eq, sub_eq, mul_eq, lss_eq, leq_eq, gtr_eq, geq_eq, not_eq, minI_eq, maxI_eq, extract_0, extract_1, extract_2, eqlI, neqI, makeFunc_eq, decide_true, decide_false, if_true, if_false, Bool.false_eq_true, Bool.not_true, Bool.not_false, reduceIte, List.getElem?_toArray, List.getElem?_cons_zero, List.getElem?_cons_succ, Option.isSome_none, List.length_map, yV_undef, gopV_none, Nat.zero_add, Nat.reduceAdd, beq_self_eq_true, bne_self_eq_false, and_self, Bool.true_and, Bool.false_and, Bool.and_true, Bool.and_false, Bool.true_or, Bool.false_or, Bool.or_true, Bool.or_false]
      refine Byte_w S4 (by omega) r.ch fun h5 F5 x5 e5 S5 K5 => ?_
      have b5 := wByte_len x4 r.ch
      rw [← e5] at b5
      have l5 : SemE PG h5 (Instr.loadAt T_api_Place (.pointer (some ⟨r1, 7, none⟩))) = some (.agg r.pl.cells.toArray) := T_api_Place.agg (bx S5.upd) (by show 7 + 2 ≤ 10; decide)
      simp only [T_api_Record.f3, l5, popO_some, bindH_eq, condV_bool, condV_true, condV_false, yV_bool, gopV_tt, gopV_ff, gopV_tf, gopV_ft, pickV_t, pickV_f, pickV_bool, nilS_ptr, add_eq, sub_eq, mul_eq, lss_eq, leq_eq, gtr_eq, geq_eq, not_eq, minI_eq, maxI_eq, extract_0, extract_1, extract_2, eqlI, neqI, makeFunc_eq, decide_true, decide_false, if_true, if_false, Bool.false_eq_true, Bool.not_true, Bool.not_false, reduceIte, List.getElem?_toArray, List.getElem?_cons_zero, List.getElem?_cons_succ, Option.isSome_none, List.length_map, yV_undef, gopV_none, Nat.zero_add, Nat.reduceAdd, beq_self_eq_true, bne_self_eq_false, and_self, Bool.true_and, Bool.false_and, Bool.and_true, Bool.and_false, Bool.true_or, Bool.false_or, Bool.or_true, Bool.or_false]
      refine PutPlace_w S5 (by omega) r.pl wf.pl.1 wf.pl.2 fun h6 F6 S6 K6 => ?_
      have b6 := wPl_len x5 r.pl
      simp only [T_api_Record.f4, T_sl_api_Note.load, (bx S6.upd).cell, Rc.cells, popO_some, bindH_eq, condV_bool, condV_true, condV_false, yV_bool, gopV_tt, gopV_ff, gopV_tf, gopV_ft, pickV_t, pickV_f, pickV_bool, nilS_ptr, add_eq, sub_eq, mul_eq, lss_eq, leq_eq, gtr_eq, geq_eq, not_eq, minI_eq, maxI_eq, extract_0, extract_1, extract_2, eqlI, neqI, makeFunc_eq, decide_true, decide_false, if_true, if_false, Bool.false_eq_true, Bool.not_true, Bool.not_false, reduceIte, List.getElem?_toArray, List.getElem?_cons_zero, List.getElem?_cons_succ, Option.isSome_none, List.length_map, yV_undef, gopV_none, Nat.zero_add, Nat.reduceAdd, beq_self_eq_true, bne_self_eq_false, and_self, Bool.true_and, Bool.false_and, Bool.and_true, Bool.and_false, Bool.true_or, Bool.false_or, Bool.or_true, Bool.or_false]
      refine PutNotes_w S6 (by omega) (ww Upd.refl) (by omega) wf.n fun h7 F7 S7 K7 => ?_
      refine fin S7 ?_
      unfold Rc.wr
      rw [if_neg k1, e5, e4]
end Go.Proofs.Ytlkjippiaghbmaa
/- record: what a text tells. -/
set_option linter.unusedSimpArgs false
set_option linter.unusedVariables false
namespace Go.Proofs.Ytlkjippiaghbmaa
open Go
set_option maxRecDepth 20000
def Rc.rd (s : Tx) : Rc × Stt :=
  if (rGet (0, s) 1).1 = 1 then
    (⟨1, ⟨(rPl (rGet (0, s) 1).2).1, (rPl (rPl (rGet (0, s) 1).2).2).1, (rList 2 (rPl (rPl (rGet (0, s) 1).2).2).2).1.map It.of⟩, 0, Pl.zero, []⟩, (rList 2 (rPl (rPl (rGet (0, s) 1).2).2).2).2)
  else if (rGet (0, s) 1).1 = 2 then
    (⟨2, Dm.zero, (rGet (rGet (0, s) 1).2 1).1, (rPl (rGet (rGet (0, s) 1).2 1).2).1, (rList 4 (rPl (rGet (rGet (0, s) 1).2 1).2).2).1.map Nt.of⟩, (rList 4 (rPl (rGet (rGet (0, s) 1).2 1).2).2).2)
  else (⟨(rGet (0, s) 1).1, Dm.zero, 0, Pl.zero, []⟩, (rGet (0, s) 1).2)
def parseSt (s : Tx) : Stt := if (Rc.rd s).1.plain then (Rc.rd s).2 else rFail (Rc.rd s).2 5
def parseP (s : Tx) : Rc × Int := if rEnd (parseSt s) ≠ 0 then (Rc.zero, rEnd (parseSt s)) else ((Rc.rd s).1, 0)
theorem rc_build (k : Nat) : SemP PG (Instr.build T_api_Record #[(0, .int .i64 (k : Int))]) = some (Rc.v ⟨k, Dm.zero, 0, Pl.zero, []⟩ (.slice none 0 0) (.slice none 0 0)) := by kernel_rfl
theorem rc_zero : SemP PG (Instr.build T_api_Record #[]) = some (Rc.v Rc.zero (.slice none 0 0) (.slice none 0 0)) := by kernel_rfl
theorem dm_zero : SemP PG (Instr.build T_api_Daemon #[]) = some (Dm.v Dm.zero (.slice none 0 0)) := by kernel_rfl
theorem Rc.isC (r : Rc) {v w : Value} (hv : Go.Proofs.Ytlkjippiaghbmaa.isCell v = true) (hw : Go.Proofs.Ytlkjippiaghbmaa.isCell w = true) : ∀ u ∈ r.cells v w, Go.Proofs.Ytlkjippiaghbmaa.isCell u = true := fun u hu => by
  simp only [Rc.cells, List.mem_cons, List.not_mem_nil, or_false] at hu
  rcases hu with rfl | rfl | rfl | rfl | rfl | rfl | rfl | rfl | rfl | rfl <;> first | rfl | exact hv | exact hw
theorem Dm.isC (d : Dm) {v : Value} (hv : Go.Proofs.Ytlkjippiaghbmaa.isCell v = true) : ∀ u ∈ d.cells v, Go.Proofs.Ytlkjippiaghbmaa.isCell u = true := fun u hu => by
  simp only [Dm.cells, List.mem_cons, List.not_mem_nil, or_false] at hu
  rcases hu with rfl | rfl | rfl | rfl | rfl <;> first | rfl | exact hv
theorem nilI {h : PH} : ISl h (.slice none 0 0) [] := (OwnR.nil (e := T_api_Item)).slR
theorem nilN {h : PH} : NSl h (.slice none 0 0) [] := (OwnR.nil (e := T_api_Note)).slR
theorem parse_ok {h : PH} {s : Tx} {k : Value → PH → Prop} (hk : ∀ h' v w, ISl h' v (parseP s).1.s.its → NSl h' w (parseP s).1.ns → NewV h v → NewV h w → Ext h h' → k (.tuple #[(parseP s).1.v v w, .int .i64 (parseP s).2]) h') : CallsH PG id_record_Parse #[.string (tx s)] h k := by
  apply record_Parse.call
  unfold record_Parse
  intro r1 hr1
  try rw [bindH_eq]
  have u1 : Ext h (h.set r1 (.cells (zcells PG T_api_Record) T_api_Record)) := Upd.new hr1
  have Z := T_api_Record.zbox (h := h) (r := r1)
  generalize h.set r1 (.cells (zcells PG T_api_Record) T_api_Record) = h1 at *
  refine NewReader_ok s fun a h2 R2 u2 na => ?_
  have e2 := u1.trans u2
  have Z2 := Z.ext u2
  have hra : r1 ≠ a := Z.apart na
  refine RByte_ok R2 fun h3 R3 u3 => ?_
  have fa : Fresh h [a] := Fresh.one (u1.none na)
  have e3 := e2.fresh u3 fa
  have Z3 := Z2.upd u3 (by simpa using hra)
  try simp only [popO_some, bindH_eq, condV_bool, condV_true, condV_false, yV_bool, gopV_tt, gopV_ff, gopV_tf, gopV_ft, pickV_t, pickV_f, pickV_bool, nilS_ptr, add_eq, sub_eq, mul_eq, lss_eq, leq_eq, gtr_eq, geq_eq, not_eq, minI_eq, maxI_eq, extract_0, extract_1, extract_2, eqlI, neqI, makeFunc_eq, decide_true, decide_false, if_true, if_false, Bool.false_eq_true, Bool.not_true, Bool.not_false, reduceIte, List.getElem?_toArray, List.getElem?_cons_zero, List.getElem?_cons_succ, Option.isSome_none, List.length_map]
  simp only [rc_build, popO_some, bindH_eq, condV_bool, condV_true, condV_false, yV_bool, gopV_tt, gopV_ff, gopV_tf, gopV_ft, pickV_t, pickV_f, pickV_bool, nilS_ptr, add_eq, sub_eq, mul_eq, lss_eq, leq_eq, gtr_eq, geq_eq, not_eq, minI_eq, maxI_eq, extract_0, extract_1, extract_2, eqlI, neqI, makeFunc_eq, decide_true, decide_false, if_true, if_false, Bool.false_eq_true, Bool.not_true, Bool.not_false, reduceIte, List.getElem?_toArray, List.getElem?_cons_zero, List.getElem?_cons_succ, Option.isSome_none, List.length_map]
  intro r8 hr8
  try rw [bindH_eq]
  refine T_api_Record.fill hr8 rfl (Rc.isC _ rfl rfl) fun h4 B4 u4 => ?_
  have e4 := e3.trans u4
  have R4 := R3.ext u4
  have Z4 := Z3.ext u4
  have n8a : r8 ≠ a := fun e => by have := R3.here; rw [← e, hr8] at this; cases this
  have n81 : r8 ≠ r1 := fun e => by subst e; exact Z3.known hr8
  have f8 : Fresh h [r8] := Fresh.one (e3.none hr8)
  have f1 : Fresh h [r1] := Fresh.one hr1
  -- the end: plain? at the end?
  have fin : ∀ {h5 : PH} {v w : Value}, RdAt h5 a (Rc.rd s).2.1 (Rc.rd s).2.2 → Bx h5 r8 ((Rc.rd s).1.cells v w) → Bx h5 r1 (Rc.zero.cells (.slice none 0 0) (.slice none 0 0)) → ISl h5 v (Rc.rd s).1.s.its → NSl h5 w (Rc.rd s).1.ns → NewV h v → NewV h w → (∀ x n c, v = .slice (some x) n c → x.block ≠ a ∧ x.block ≠ r1) → (∀ x n c, w = .slice (some x) n c → x.block ≠ a ∧ x.block ≠ r1) → Ext h h5 → record_Parse_k33 k (.pointer (some ⟨r1, 0, none⟩)) (.pointer (some ⟨a, 0, none⟩)) (.pointer (some ⟨r8, 0, none⟩)) h5 := by
    intro h5 v w R5 B5 Z5 V5 W5 nv nw hv hw e5
    unfold record_Parse_k33
    have l5 : SemE PG h5 (Instr.loadAt T_api_Record (.pointer (some ⟨r8, 0, none⟩))) = some ((Rc.rd s).1.v v w) := T_api_Record.agg B5 (by show 0 + 10 ≤ 10; decide)
    simp only [l5, popO_some, bindH_eq, condV_bool, condV_true, condV_false, yV_bool, gopV_tt, gopV_ff, gopV_tf, gopV_ft, pickV_t, pickV_f, pickV_bool, nilS_ptr, add_eq, sub_eq, mul_eq, lss_eq, leq_eq, gtr_eq, geq_eq, not_eq, minI_eq, maxI_eq, extract_0, extract_1, extract_2, eqlI, neqI, makeFunc_eq, decide_true, decide_false, if_true, if_false, Bool.false_eq_true, Bool.not_true, Bool.not_false, reduceIte, List.getElem?_toArray, List.getElem?_cons_zero, List.getElem?_cons_succ, Option.isSome_none, List.length_map]
    refine plain_ok V5 W5 fun h6 u6 => ?_
    have last : ∀ {h7 : PH}, RdAt h7 a (parseSt s).1 (parseSt s).2 → Upd [a] h6 h7 → record_Parse_k42 k (.pointer (some ⟨r1, 0, none⟩)) (.pointer (some ⟨a, 0, none⟩)) (.pointer (some ⟨r8, 0, none⟩)) h7 := by
      intro h7 R7 u7
      unfold record_Parse_k42
      have u57 : Upd [a] h5 h7 := u6.upd.trans u7
      have B7 := B5.upd u57 (by simpa using n8a)
      have Z7 := Z5.upd u57 (by simpa using hra)
      have V7 : ISl h7 v (Rc.rd s).1.s.its := V5.upd u57 fun x n c e => by simpa using (hv x n c e).1
      have W7 : NSl h7 w (Rc.rd s).1.ns := W5.upd u57 fun x n c e => by simpa using (hw x n c e).1
      have e7 := e5.fresh u57 fa
      refine REnd_ok R7 ?_
      unfold parseP at hk
      by_cases h0 : rEnd (parseSt s) = 0
      · rw [if_neg (by simp [h0])] at hk
        have l7 : SemE PG h7 (Instr.loadAt T_api_Record (.pointer (some ⟨r8, 0, none⟩))) = some ((Rc.rd s).1.v v w) := T_api_Record.agg B7 (by show 0 + 10 ≤ 10; decide)
        simp only [h0, neqI, bne_self_eq_false, l7, popO_some, bindH_eq, condV_bool, condV_true, condV_false, yV_bool, gopV_tt, gopV_ff, gopV_tf, gopV_ft, pickV_t, pickV_f, pickV_bool, nilS_ptr, add_eq, sub_eq, mul_eq, lss_eq, leq_eq, gtr_eq, geq_eq, not_eq, minI_eq, maxI_eq, extract_0, extract_1, extract_2, eqlI, neqI, makeFunc_eq, decide_true, decide_false, if_true, if_false, Bool.false_eq_true, Bool.not_true, Bool.not_false, reduceIte, List.getElem?_toArray, List.getElem?_cons_zero, List.getElem?_cons_succ, Option.isSome_none, List.length_map]
        refine T_api_Record.put Z7 rfl (by show 0 + 10 ≤ 10; decide) (Rc.isC _ V7.isc W7.isc) fun h8 B8 u8 => ?_
        have l8 : SemE PG h8 (Instr.loadAt T_api_Record (.pointer (some ⟨r1, 0, none⟩))) = some ((Rc.rd s).1.v v w) := T_api_Record.agg B8 (by show 0 + 10 ≤ 10; decide)
        simp only [l8, popO_some, bindH_eq, condV_bool, condV_true, condV_false, yV_bool, gopV_tt, gopV_ff, gopV_tf, gopV_ft, pickV_t, pickV_f, pickV_bool, nilS_ptr, add_eq, sub_eq, mul_eq, lss_eq, leq_eq, gtr_eq, geq_eq, not_eq, minI_eq, maxI_eq, extract_0, extract_1, extract_2, eqlI, neqI, makeFunc_eq, decide_true, decide_false, if_true, if_false, Bool.false_eq_true, Bool.not_true, Bool.not_false, reduceIte, List.getElem?_toArray, List.getElem?_cons_zero, List.getElem?_cons_succ, Option.isSome_none, List.length_map]
        exact hk h8 v w (V7.upd u8 fun x n c e => by simpa using (hv x n c e).2) (W7.upd u8 fun x n c e => by simpa using (hw x n c e).2) nv nw (e7.fresh u8 f1)
      · rw [if_pos h0] at hk
        have q : (rEnd (parseSt s) != 0) = true := by simp [h0]
        simp only [neqI, q, rc_zero, popO_some, bindH_eq, condV_bool, condV_true, condV_false, yV_bool, gopV_tt, gopV_ff, gopV_tf, gopV_ft, pickV_t, pickV_f, pickV_bool, nilS_ptr, add_eq, sub_eq, mul_eq, lss_eq, leq_eq, gtr_eq, geq_eq, not_eq, minI_eq, maxI_eq, extract_0, extract_1, extract_2, eqlI, neqI, makeFunc_eq, decide_true, decide_false, if_true, if_false, Bool.false_eq_true, Bool.not_true, Bool.not_false, reduceIte, List.getElem?_toArray, List.getElem?_cons_zero, List.getElem?_cons_succ, Option.isSome_none, List.length_map]
        refine T_api_Record.put Z7 rfl (by show 0 + 10 ≤ 10; decide) (Rc.isC _ rfl rfl) fun h8 B8 u8 => ?_
        have l8 : SemE PG h8 (Instr.loadAt T_api_Record (.pointer (some ⟨r1, 0, none⟩))) = some (Rc.zero.v (.slice none 0 0) (.slice none 0 0)) := T_api_Record.agg B8 (by show 0 + 10 ≤ 10; decide)
        simp only [l8, popO_some, bindH_eq, condV_bool, condV_true, condV_false, yV_bool, gopV_tt, gopV_ff, gopV_tf, gopV_ft, pickV_t, pickV_f, pickV_bool, nilS_ptr, add_eq, sub_eq, mul_eq, lss_eq, leq_eq, gtr_eq, geq_eq, not_eq, minI_eq, maxI_eq, extract_0, extract_1, extract_2, eqlI, neqI, makeFunc_eq, decide_true, decide_false, if_true, if_false, Bool.false_eq_true, Bool.not_true, Bool.not_false, reduceIte, List.getElem?_toArray, List.getElem?_cons_zero, List.getElem?_cons_succ, Option.isSome_none, List.length_map]
        exact hk h8 _ _ nilI nilN NewV.nil NewV.nil (e7.fresh u8 f1)
    have hst : parseSt s = if (Rc.rd s).1.plain then (Rc.rd s).2 else rFail (Rc.rd s).2 5 := rfl
    cases hp : (Rc.rd s).1.plain with
    | true =>
      rw [hp] at hst
      simp only [if_true] at hst
      simp only [popO_some, bindH_eq, condV_bool, condV_true, condV_false, yV_bool, gopV_tt, gopV_ff, gopV_tf, gopV_ft, pickV_t, pickV_f, pickV_bool, nilS_ptr, add_eq, sub_eq, mul_eq, lss_eq, leq_eq, gtr_eq, geq_eq, not_eq, minI_eq, maxI_eq, extract_0, extract_1, extract_2, eqlI, neqI, makeFunc_eq, decide_true, decide_false, if_true, if_false, Bool.false_eq_true, Bool.not_true, Bool.not_false, reduceIte, List.getElem?_toArray, List.getElem?_cons_zero, List.getElem?_cons_succ, Option.isSome_none, List.length_map]
      exact last (by rw [hst]; exact R5.ext u6) Upd.refl
    | false =>
      rw [hp] at hst
      simp only [Bool.false_eq_true, if_false] at hst
      simp only [T_wire_Reader.f0, popO_some, bindH_eq, condV_bool, condV_true, condV_false, yV_bool, gopV_tt, gopV_ff, gopV_tf, gopV_ft, pickV_t, pickV_f, pickV_bool, nilS_ptr, add_eq, sub_eq, mul_eq, lss_eq, leq_eq, gtr_eq, geq_eq, not_eq, minI_eq, maxI_eq, extract_0, extract_1, extract_2, eqlI, neqI, makeFunc_eq, decide_true, decide_false, if_true, if_false, Bool.false_eq_true, Bool.not_true, Bool.not_false, reduceIte, List.getElem?_toArray, List.getElem?_cons_zero, List.getElem?_cons_succ, Option.isSome_none, List.length_map]
      refine RFail_ok (R5.ext u6) 5 fun h7 R7 u7 => ?_
      exact last (by rw [hst]; exact R7) u7
  have newOf : ∀ {h5 h6 : PH} {e : TypeId} {rows : List (List Value)} {v : Value} {F : List Nat}, Ext h h5 → Bx h5 r1 (Rc.zero.cells (.slice none 0 0) (.slice none 0 0)) → Bx h5 r8 ((Rc.cells ⟨(rGet (0, s) 1).1, Dm.zero, 0, Pl.zero, []⟩ (.slice none 0 0) (.slice none 0 0))) ∨ (h5 r8 ≠ none) → h5 a ≠ none → OwnR h6 e 5 v rows F → Fresh h5 F → NewV h v ∧ (∀ x n c, v = .slice (some x) n c → x.block ≠ a ∧ x.block ≠ r1) ∧ (∀ x n c, v = .slice (some x) n c → x.block ≠ r8) := by
    intro h5 h6 e rows v F e5 Z5 B5 A5 O f
    have nv := O.newV f
    refine ⟨nv.of e5, fun x n c ev => ⟨fun e => A5 (by rw [← e]; exact nv x n c ev), fun e => Z5.known (by rw [← e]; exact nv x n c ev)⟩, fun x n c ev e => ?_⟩
    have hn := nv x n c ev
    rw [e] at hn
    rcases B5 with B5 | B5
    · exact B5.known hn
    · exact B5 hn
  simp only [T_api_Record.f0, T_int.load, B4.cell, Rc.cells, eqlI, popO_some, bindH_eq, condV_bool, condV_true, condV_false, yV_bool, gopV_tt, gopV_ff, gopV_tf, gopV_ft, pickV_t, pickV_f, pickV_bool, nilS_ptr, add_eq, sub_eq, mul_eq, lss_eq, leq_eq, gtr_eq, geq_eq, not_eq, minI_eq, maxI_eq, extract_0, extract_1, extract_2, eqlI, neqI, makeFunc_eq, decide_true, decide_false, if_true, if_false, Bool.false_eq_true, Bool.not_true, Bool.not_false, reduceIte, List.getElem?_toArray, List.getElem?_cons_zero, List.getElem?_cons_succ, Option.isSome_none, List.length_map, yV_undef, gopV_none, Nat.zero_add, Nat.reduceAdd, beq_self_eq_true, bne_self_eq_false, and_self, Bool.true_and, Bool.false_and, Bool.and_true, Bool.and_false, Bool.true_or, Bool.false_or, Bool.or_true, Bool.or_false]
  have hrd : Rc.rd s = if (rGet (0, s) 1).1 = 1 then _ else _ := rfl
  by_cases k1 : (rGet (0, s) 1).1 = 1
  · have q : (((rGet (0, s) 1).1 : Int) == 1) = true := by simp [k1]
    rw [if_pos k1] at hrd
    rw [k1] at B4
    generalize (rGet (0, s) 1).2 = st1 at *
    simp only [q, popO_some, bindH_eq, condV_bool, condV_true, condV_false, yV_bool, gopV_tt, gopV_ff, gopV_tf, gopV_ft, pickV_t, pickV_f, pickV_bool, nilS_ptr, add_eq, sub_eq, mul_eq, lss_eq, leq_eq, gtr_eq, geq_eq, not_eq, minI_eq, maxI_eq, extract_0, extract_1, extract_2, eqlI, neqI, makeFunc_eq, decide_true, decide_false, if_true, if_false, Bool.false_eq_true, Bool.not_true, Bool.not_false, reduceIte, List.getElem?_toArray, List.getElem?_cons_zero, List.getElem?_cons_succ, Option.isSome_none, List.length_map, yV_undef, gopV_none, Nat.zero_add, Nat.reduceAdd, beq_self_eq_true, bne_self_eq_false, and_self, Bool.true_and, Bool.false_and, Bool.and_true, Bool.and_false, Bool.true_or, Bool.false_or, Bool.or_true, Bool.or_false]
    refine ⟨fun vs h' => ∃ (i : Nat) (st : Stt) (p0 p1 : Pl), i ≤ 2 ∧ vs = [.pointer (some ⟨r1, 0, none⟩), .pointer (some ⟨a, 0, none⟩), .pointer (some ⟨r8, 0, none⟩), .int .i64 (i : Int)] ∧ RdAt h' a st.1 st.2 ∧ Bx h' r8 (Rc.cells ⟨1, ⟨p0, p1, []⟩, 0, Pl.zero, []⟩ (.slice none 0 0) (.slice none 0 0)) ∧ Bx h' r1 (Rc.zero.cells (.slice none 0 0) (.slice none 0 0)) ∧ Ext h h' ∧ (i = 0 → st = st1 ∧ p0 = Pl.zero ∧ p1 = Pl.zero) ∧ (i = 1 → st = (rPl st1).2 ∧ p0 = (rPl st1).1 ∧ p1 = Pl.zero) ∧ (i = 2 → st = (rPl (rPl st1).2).2 ∧ p0 = (rPl st1).1 ∧ p1 = (rPl (rPl st1).2).1), upTo 2 3, ⟨0, st1, _, _, by omega, rfl, R4, B4, Z4, e4, fun _ => ⟨rfl, rfl, rfl⟩, fun h => by omega, fun h => by omega⟩, ?_⟩
    rintro ρ h' ⟨i, st, p0, p1, hi, hvs, R', B', Z', e', c0, c1, c2⟩
    simp only [List.map_cons, List.map_nil, List.cons.injEq, and_true] at hvs
    obtain ⟨v2, v4, v5, v17⟩ := hvs
    simp only [v2, v4, v5, v17, List.map_cons, List.map_nil]
    unfold record_Parse_b16
    by_cases hl : i < 2
    · have g1 : ((i : Int) < 2) = True := eq_true (by omega)
      have gi : IntKind.i64.wrap ((i : Int) + 1) = ((i + 1 : Nat) : Int) := by rw [i64_wrap (by omega) (by omega)]; omega
      simp only [g1, popO_some, bindH_eq, condV_bool, condV_true, condV_false, yV_bool, gopV_tt, gopV_ff, gopV_tf, gopV_ft, pickV_t, pickV_f, pickV_bool, nilS_ptr, add_eq, sub_eq, mul_eq, lss_eq, leq_eq, gtr_eq, geq_eq, not_eq, minI_eq, maxI_eq, extract_0, extract_1, extract_2, eqlI, neqI, makeFunc_eq, decide_true, decide_false, if_true, if_false, Bool.false_eq_true, Bool.not_true, Bool.not_false, reduceIte, List.getElem?_toArray, List.getElem?_cons_zero, List.getElem?_cons_succ, Option.isSome_none, List.length_map]
      refine Place_r R' fun h5 R5 u5 => ?_
      have B5 := B'.upd u5 (by simpa using n8a)
      have Z5 := Z'.upd u5 (by simpa using hra)
      have e5 := e'.fresh u5 fa
      have ix := indexAt_array (P := PG) (t := T_2_api_Place) (b := r8) (o := 1) (k := .i64) (j := (i : Int)) T_2_api_Place.und T_api_Place.info T_api_Place.size (by omega) (by omega)
      rw [Int.toNat_natCast] at ix
      simp only [T_api_Record.f1, T_api_Daemon.f0, Nat.zero_add, ix, popO_some, bindH_eq, condV_bool, condV_true, condV_false, yV_bool, gopV_tt, gopV_ff, gopV_tf, gopV_ft, pickV_t, pickV_f, pickV_bool, nilS_ptr, add_eq, sub_eq, mul_eq, lss_eq, leq_eq, gtr_eq, geq_eq, not_eq, minI_eq, maxI_eq, extract_0, extract_1, extract_2, eqlI, neqI, makeFunc_eq, decide_true, decide_false, if_true, if_false, Bool.false_eq_true, Bool.not_true, Bool.not_false, reduceIte, List.getElem?_toArray, List.getElem?_cons_zero, List.getElem?_cons_succ, Option.isSome_none, List.length_map]
      have : i = 0 ∨ i = 1 := by omega
      rcases this with rfl | rfl
      · obtain ⟨rfl, rfl, rfl⟩ := c0 rfl
        refine T_api_Place.put B5 (o := 1) rfl (by show 1 + 2 ≤ 10; decide) (by simp [Pl.cells, isCell]) fun h6 B6 u6 => ?_
        simp only [gi, popO_some, bindH_eq, condV_bool, condV_true, condV_false, yV_bool, gopV_tt, gopV_ff, gopV_tf, gopV_ft, pickV_t, pickV_f, pickV_bool, nilS_ptr, add_eq, sub_eq, mul_eq, lss_eq, leq_eq, gtr_eq, geq_eq, not_eq, minI_eq, maxI_eq, extract_0, extract_1, extract_2, eqlI, neqI, makeFunc_eq, decide_true, decide_false, if_true, if_false, Bool.false_eq_true, Bool.not_true, Bool.not_false, reduceIte, List.getElem?_toArray, List.getElem?_cons_zero, List.getElem?_cons_succ, Option.isSome_none, List.length_map]
        refine ⟨⟨1, _, (rPl st).1, _, by omega, rfl, R5.upd u6 (by simpa using n8a.symm), B6, Z5.upd u6 (by simpa using n81.symm), e5.fresh u6 f8, fun h => by omega, fun _ => ⟨rfl, rfl, rfl⟩, fun h => by omega⟩, ?_⟩
        simp only [upTo, List.getElem?_cons_succ, List.getElem?_cons_zero]
        omega
      · obtain ⟨rfl, rfl, rfl⟩ := c1 rfl
        refine T_api_Place.put B5 (o := 3) rfl (by show 3 + 2 ≤ 10; decide) (by simp [Pl.cells, isCell]) fun h6 B6 u6 => ?_
        simp only [gi, popO_some, bindH_eq, condV_bool, condV_true, condV_false, yV_bool, gopV_tt, gopV_ff, gopV_tf, gopV_ft, pickV_t, pickV_f, pickV_bool, nilS_ptr, add_eq, sub_eq, mul_eq, lss_eq, leq_eq, gtr_eq, geq_eq, not_eq, minI_eq, maxI_eq, extract_0, extract_1, extract_2, eqlI, neqI, makeFunc_eq, decide_true, decide_false, if_true, if_false, Bool.false_eq_true, Bool.not_true, Bool.not_false, reduceIte, List.getElem?_toArray, List.getElem?_cons_zero, List.getElem?_cons_succ, Option.isSome_none, List.length_map]
        refine ⟨⟨2, _, (rPl st1).1, (rPl (rPl st1).2).1, by omega, rfl, R5.upd u6 (by simpa using n8a.symm), B6, Z5.upd u6 (by simpa using n81.symm), e5.fresh u6 f8, fun h => by omega, fun h => by omega, fun _ => ⟨rfl, rfl, rfl⟩⟩, ?_⟩
        simp only [upTo, List.getElem?_cons_succ, List.getElem?_cons_zero]
        omega
    · obtain rfl : i = 2 := by omega
      obtain ⟨rfl, rfl, rfl⟩ := c2 rfl
      have g1 : (((2 : Nat) : Int) < 2) = False := eq_false (by omega)
      simp only [g1, popO_some, bindH_eq, condV_bool, condV_true, condV_false, yV_bool, gopV_tt, gopV_ff, gopV_tf, gopV_ft, pickV_t, pickV_f, pickV_bool, nilS_ptr, add_eq, sub_eq, mul_eq, lss_eq, leq_eq, gtr_eq, geq_eq, not_eq, minI_eq, maxI_eq, extract_0, extract_1, extract_2, eqlI, neqI, makeFunc_eq, decide_true, decide_false, if_true, if_false, Bool.false_eq_true, Bool.not_true, Bool.not_false, reduceIte, List.getElem?_toArray, List.getElem?_cons_zero, List.getElem?_cons_succ, Option.isSome_none, List.length_map]
      refine Items_r R' fun h5 v F R5 O5 f5 u5 => ?_
      have B5 := B'.upd u5 (by simpa using n8a)
      have Z5 := Z'.upd u5 (by simpa using hra)
      have e5 := e'.fresh u5 fa
      obtain ⟨nv, hv, hv8⟩ := newOf e' Z' (.inr B'.known) (by rw [R'.here]; simp) O5 f5
      simp only [T_api_Record.f1, T_api_Daemon.f1, Nat.zero_add, Nat.reduceAdd, popO_some, bindH_eq, condV_bool, condV_true, condV_false, yV_bool, gopV_tt, gopV_ff, gopV_tf, gopV_ft, pickV_t, pickV_f, pickV_bool, nilS_ptr, add_eq, sub_eq, mul_eq, lss_eq, leq_eq, gtr_eq, geq_eq, not_eq, minI_eq, maxI_eq, extract_0, extract_1, extract_2, eqlI, neqI, makeFunc_eq, decide_true, decide_false, if_true, if_false, Bool.false_eq_true, Bool.not_true, Bool.not_false, reduceIte, List.getElem?_toArray, List.getElem?_cons_zero, List.getElem?_cons_succ, Option.isSome_none, List.length_map]
      refine T_sl_api_Item.put B5 (o := 5) (by show 5 < 10; decide) O5.slR.isc fun h6 B6 u6 => ?_
      unfold record_Parse_k32
      rw [hrd] at fin
      refine fin (v := v) (w := .slice none 0 0) (R5.upd u6 (by simpa using n8a.symm)) B6 (Z5.upd u6 (by simpa using n81.symm)) (O5.slR.upd u6 fun x n c e => by simpa using hv8 x n c e) nilN nv NewV.nil hv (fun x n c e => by cases e) (e5.fresh u6 f8)
  · have q : (((rGet (0, s) 1).1 : Int) == 1) = false := by simp; omega
    rw [if_neg k1] at hrd
    simp only [q, popO_some, bindH_eq, condV_bool, condV_true, condV_false, yV_bool, gopV_tt, gopV_ff, gopV_tf, gopV_ft, pickV_t, pickV_f, pickV_bool, nilS_ptr, add_eq, sub_eq, mul_eq, lss_eq, leq_eq, gtr_eq, geq_eq, not_eq, minI_eq, maxI_eq, extract_0, extract_1, extract_2, eqlI, neqI, makeFunc_eq, decide_true, decide_false, if_true, if_false, Bool.false_eq_true, Bool.not_true, Bool.not_false, reduceIte, List.getElem?_toArray, List.getElem?_cons_zero, List.getElem?_cons_succ, Option.isSome_none, List.length_map, yV_undef, gopV_none, Nat.zero_add, Nat.reduceAdd, beq_self_eq_true, bne_self_eq_false, and_self, Bool.true_and, Bool.false_and, Bool.and_true, Bool.and_false, Bool.true_or, Bool.false_or, Bool.or_true, Bool.or_false]
    by_cases k2 : (rGet (0, s) 1).1 = 2
    · have q2 : (((rGet (0, s) 1).1 : Int) == 2) = true := by simp [k2]
      rw [if_pos k2] at hrd
      rw [k2] at B4
      generalize (rGet (0, s) 1).2 = st1 at *
      simp only [q2, popO_some, bindH_eq, condV_bool, condV_true, condV_false, yV_bool, gopV_tt, gopV_ff, gopV_tf, gopV_ft, pickV_t, pickV_f, pickV_bool, nilS_ptr, add_eq, sub_eq, mul_eq, lss_eq, leq_eq, gtr_eq, geq_eq, not_eq, minI_eq, maxI_eq, extract_0, extract_1, extract_2, eqlI, neqI, makeFunc_eq, decide_true, decide_false, if_true, if_false, Bool.false_eq_true, Bool.not_true, Bool.not_false, reduceIte, List.getElem?_toArray, List.getElem?_cons_zero, List.getElem?_cons_succ, Option.isSome_none, List.length_map, yV_undef, gopV_none, Nat.zero_add, Nat.reduceAdd, beq_self_eq_true, bne_self_eq_false, and_self, Bool.true_and, Bool.false_and, Bool.and_true, Bool.and_false, Bool.true_or, Bool.false_or, Bool.or_true, Bool.or_false]
      refine RByte_ok R4 fun h5 R5 u5 => ?_
      simp only [Prod.eta] at R5
      have B5 := B4.upd u5 (by simpa using n8a)
      have Z5 := Z4.upd u5 (by simpa using hra)
      have e5 := e4.fresh u5 fa
      simp only [T_api_Record.f2, Nat.zero_add, Nat.reduceAdd, popO_some, bindH_eq, condV_bool, condV_true, condV_false, yV_bool, gopV_tt, gopV_ff, gopV_tf, gopV_ft, pickV_t, pickV_f, pickV_bool, nilS_ptr, add_eq, sub_eq, mul_eq, lss_eq, leq_eq, gtr_eq, geq_eq, not_eq, minI_eq, maxI_eq, extract_0, extract_1, extract_2, eqlI, neqI, makeFunc_eq, decide_true, decide_false, if_true, if_false, Bool.false_eq_true, Bool.not_true, Bool.not_false, reduceIte, List.getElem?_toArray, List.getElem?_cons_zero, List.getElem?_cons_succ, Option.isSome_none, List.length_map]
      refine T_int.put B5 (o := 6) (by show 6 < 10; decide) rfl fun h6 B6 u6 => ?_
      have R6 := R5.upd u6 (by simpa using n8a.symm)
      have Z6 := Z5.upd u6 (by simpa using n81.symm)
      have e6 := e5.fresh u6 f8
      refine Place_r R6 fun h7 R7 u7 => ?_
      have B7 := B6.upd u7 (by simpa using n8a)
      have Z7 := Z6.upd u7 (by simpa using hra)
      have e7 := e6.fresh u7 fa
      simp only [T_api_Record.f3, Nat.zero_add, Nat.reduceAdd, popO_some, bindH_eq, condV_bool, condV_true, condV_false, yV_bool, gopV_tt, gopV_ff, gopV_tf, gopV_ft, pickV_t, pickV_f, pickV_bool, nilS_ptr, add_eq, sub_eq, mul_eq, lss_eq, leq_eq, gtr_eq, geq_eq, not_eq, minI_eq, maxI_eq, extract_0, extract_1, extract_2, eqlI, neqI, makeFunc_eq, decide_true, decide_false, if_true, if_false, Bool.false_eq_true, Bool.not_true, Bool.not_false, reduceIte, List.getElem?_toArray, List.getElem?_cons_zero, List.getElem?_cons_succ, Option.isSome_none, List.length_map]
      refine T_api_Place.put B7 (o := 7) rfl (by show 7 + 2 ≤ 10; decide) (by simp [Pl.cells, isCell]) fun h8 B8 u8 => ?_
      have R8 := R7.upd u8 (by simpa using n8a.symm)
      have Z8 := Z7.upd u8 (by simpa using n81.symm)
      have e8 := e7.fresh u8 f8
      refine Notes_r R8 fun h9 v F R9 O9 f9 u9 => ?_
      have B9 := B8.upd u9 (by simpa using n8a)
      have Z9 := Z8.upd u9 (by simpa using hra)
      have e9 := e8.fresh u9 fa
      obtain ⟨nv, hv, hv8⟩ := newOf e8 Z8 (.inr B8.known) (by rw [R8.here]; simp) O9 f9
      simp only [T_api_Record.f4, Nat.zero_add, Nat.reduceAdd, popO_some, bindH_eq, condV_bool, condV_true, condV_false, yV_bool, gopV_tt, gopV_ff, gopV_tf, gopV_ft, pickV_t, pickV_f, pickV_bool, nilS_ptr, add_eq, sub_eq, mul_eq, lss_eq, leq_eq, gtr_eq, geq_eq, not_eq, minI_eq, maxI_eq, extract_0, extract_1, extract_2, eqlI, neqI, makeFunc_eq, decide_true, decide_false, if_true, if_false, Bool.false_eq_true, Bool.not_true, Bool.not_false, reduceIte, List.getElem?_toArray, List.getElem?_cons_zero, List.getElem?_cons_succ, Option.isSome_none, List.length_map]
      refine T_sl_api_Note.put B9 (o := 9) (by show 9 < 10; decide) O9.slR.isc fun h10 B10 u10 => ?_
      unfold record_Parse_k32
      rw [hrd] at fin
      refine fin (v := .slice none 0 0) (w := v) (R9.upd u10 (by simpa using n8a.symm)) B10 (Z9.upd u10 (by simpa using n81.symm)) nilI (O9.slR.upd u10 fun x n c e => by simpa using hv8 x n c e) NewV.nil nv (fun x n c e => by cases e) hv (e9.fresh u10 f8)
    · have q2 : (((rGet (0, s) 1).1 : Int) == 2) = false := by simp; omega
      rw [if_neg k2] at hrd
      simp only [q2, popO_some, bindH_eq, condV_bool, condV_true, condV_false, yV_bool, gopV_tt, gopV_ff, gopV_tf, gopV_ft, pickV_t, pickV_f, pickV_bool, nilS_ptr, add_eq, sub_eq, mul_eq, lss_eq, leq_eq, gtr_eq, geq_eq, not_eq, minI_eq, maxI_eq, extract_0, extract_1, extract_2, eqlI, neqI, makeFunc_eq, decide_true, decide_false, if_true, if_false, Bool.false_eq_true, Bool.not_true, Bool.not_false, reduceIte, List.getElem?_toArray, List.getElem?_cons_zero, List.getElem?_cons_succ, Option.isSome_none, List.length_map, yV_undef, gopV_none, Nat.zero_add, Nat.reduceAdd, beq_self_eq_true, bne_self_eq_false, and_self, Bool.true_and, Bool.false_and, Bool.and_true, Bool.and_false, Bool.true_or, Bool.false_or, Bool.or_true, Bool.or_false]
      unfold record_Parse_k32
      rw [hrd] at fin
      exact fin (v := .slice none 0 0) (w := .slice none 0 0) R4 B4 Z4 nilI nilN NewV.nil NewV.nil (fun x n c e => by cases e) (fun x n c e => by cases e) e4
end Go.Proofs.Ytlkjippiaghbmaa
/- slices.SortFunc: the library's own contract, turned to parts of memory. -/
set_option linter.unusedSimpArgs false
set_option linter.unusedVariables false
namespace Go.Proofs.Ytlkjippiaghbmaa
open Go Go.Sort Go.Shelf

theorem flat_rows {α : Type} [Inhabited α] (enc : α → List Value) (k : Nat) (hk0 : 0 < k) (hlen : ∀ x, (enc x).length = k) (l : List α) : (l.map enc).flatten = (flatK enc k l.toArray).toList := by
  have hr : Rows k (l.map enc) := fun r hr => by obtain ⟨x, _, rfl⟩ := List.mem_map.1 hr; exact hlen x
  apply List.ext_getElem?
  intro j
  have hfl : (l.map enc).flatten.length = l.length * k := by rw [hr.flat, List.length_map]
  by_cases hj : j < l.length * k
  · have hi : j / k < l.length := (Nat.div_lt_iff_lt_mul hk0).2 hj
    have hat := hr.at (i := j / k) (r := enc l[j / k]) (by simp [hi])
    have hc : j % k < k := Nat.mod_lt _ hk0
    have e1 : (l.map enc).flatten[j]? = (enc l[j / k])[j % k]? := by
      rw [← hat, List.getElem?_take, if_pos hc, List.getElem?_drop]
      congr 1
      rw [Nat.mul_comm]; exact (Nat.div_add_mod j k).symm
    have hs : j < (flatK enc k l.toArray).size := by rw [size_flatK]; exact hj
    have hg := get_flatK enc k l.toArray j (by simpa using hj)
    rw [getElem!_pos _ j hs] at hg
    have hle : j % k < (enc l[j / k]).length := by rw [hlen]; exact hc
    have hx : l.toArray[j / k]! = l[j / k] := by rw [getElem!_pos l.toArray (j / k) (by simpa using hi)]; rfl
    have e2 : (flatK enc k l.toArray).toList[j]? = (flatK enc k l.toArray)[j]? := by simp
    rw [e1, e2, Array.getElem?_eq_getElem hs, hg, hx, List.getElem?_eq_getElem hle, getElem!_pos (enc l[j / k]) (j % k) hle]
  · rw [List.getElem?_eq_none (by omega), Array.getElem?_toList, Array.getElem?_eq_none (by simp; omega)]

theorem take_putCells (F c : Array Value) (hle : F.size ≤ c.size) : (putCells id 0 F c).toList.take F.size = F.toList := by
  apply List.ext_getElem?
  intro j
  rw [List.getElem?_take, Array.getElem?_toList, Array.getElem?_toList]
  by_cases hj : j < F.size
  · rw [if_pos hj]
    simp only [putCells, Array.getElem?_mapIdx, Nat.zero_add, Nat.zero_le, true_and, Nat.sub_zero, hj, if_true, id]
    rw [Array.getElem?_eq_getElem (by omega), Array.getElem?_eq_getElem hj, getElem!_pos F j hj]; rfl
  · rw [if_neg hj, Array.getElem?_eq_none (by omega)]

theorem world_eq {w w' : World} (os : w'.os = w.os) (tape : w'.tape = w.tape) (output : w'.output = w.output) (drawn : w.drawn ≤ w'.drawn) (size : w.heap.size ≤ w'.heap.size) (far : ∀ b, b < w.heap.size → w'.heap[b]? = w.heap[b]?) :
    ∃ q os', w' = grow (w.drewN q) os' := by
  refine ⟨w'.drawn - w.drawn, w'.heap.extract w.heap.size w'.heap.size, ?_⟩
  cases w with | mk heap tp dr o ou => cases w' with | mk heap' tp' dr' o' ou' =>
  simp only at *
  subst os tape output
  unfold grow World.drewN
  simp only [World.mk.injEq, and_true, true_and]
  refine ⟨?_, by omega⟩
  apply Array.ext_getElem?
  intro i
  rw [Array.getElem?_append]
  split
  · rename_i hi; exact far i hi
  · rename_i hi
    rw [Array.getElem?_extract]
    split
    · congr 1; omega
    · rw [Array.getElem?_eq_none (by omega)]

theorem sortFunc_ok {P : Program} {ρ : Ren} {α : Type} [Inhabited α] (L : SlLaysF0.n6 P ρ) {f : FuncId} (hf : ρ.f 6 = f) {k : Nat} (hk0 : 0 < k) (aE : ∀ w, (isAgg (ρ.t 24)).run P w = .ok true w) (zE : ∀ w, (Go.sizeOf (ρ.t 24)).run P w = .ok k w)
    (enc : α → List Value) (hlen : ∀ x, (enc x).length = k) (h1 : ∀ x, ∀ v ∈ enc x, v.oneCell' = true) (cf : α → α → Int) (hO : SWO (ltOf cf)) {g : FuncId} (eg : enters P g = true)
    (hcmp : ∀ x y, CallsH P g #[.agg (enc x).toArray, .agg (enc y).toArray] (fun _ => none) fun v _ => v = .int .i64 (cf x y)) (hen : enters P f = true)
    {e : TypeId} {v : Value} {F : List Nat} {l : List α} {h : PH} (H : OwnR h e k v (l.map enc) F) (hsz : l.length < 4611686018427387904) {R : Value → PH → Prop}
    (hk : ∀ (l' : List α) h', l'.Perm l → l'.Pairwise (fun a b => ltOf cf b a = false) → OwnR h' e k v (l'.map enc) F → Upd F h h' → R (.tuple #[]) h') : CallsH P f #[v, .func (.func g) #[] #[]] h R := by
  subst hf
  refine .inl ⟨hen, fun w hs => ?_⟩
  have heg : ∀ (args : Array Value) (w : World), (callFunc g args).run P w = .ok (.enter g args) w := fun args w =>
    SemE.run (h := fun _ => none) (semE_enter eg) (fun _ _ hb => by cases hb)
  rcases H.here with ⟨hv, hr, hF⟩ | ⟨b, cap, cs, hv, hF, hb, hle, hcm, hcs, htk⟩
  · have hl : l = [] := List.map_eq_nil_iff.1 hr
    subst hl hv hF
    refine (AnyF.slices_SortFunc_none L none 0 _ w).mono fun e1 w' ⟨he, hw⟩ => ?_
    subst hw
    exact ⟨_, h, he, hk [] h (List.Perm.refl _) List.Pairwise.nil H Upd.refl, hs, Fr.refl _ _⟩
  · subst hF
    have hfl := flat_rows enc k hk0 hlen l
    have hrl : (l.map enc).length = l.length := List.length_map _
    rw [hrl] at hv hle htk
    have hwb := hs b _ hb
    have hblk : b < w.heap.size := hs.lt hb
    have hH : HoldsK enc k w b 0 l.toArray := by
      intro j hj
      have hj' : j < l.length * k := by simpa using hj
      have hc : cs[j]? = some ((flatK enc k l.toArray)[j]!) := by
        have e1 : cs.toList[j]? = (l.map enc).flatten[j]? := by rw [← htk, List.getElem?_take, if_pos hj']
        rw [Array.getElem?_toList] at e1
        rw [e1, hfl, Array.getElem?_toList, Array.getElem?_eq_getElem hj, getElem!_pos _ j hj]
      constructor
      · unfold World.cell?; simp only [Nat.zero_add, hwb, Option.isSome_none]; simpa using hc
      · unfold World.frozen?; simp only [hwb]; simp
    have hcm' : CmpLays P g #[] enc k cf b 0 l.toArray.size w := by
      intro m os dk _ x y
      have hc := (hcmp x y).calls eg (sortWorldK enc k w b 0 m dk os) (fun _ _ hb => by cases hb)
      refine hc.mono fun e1 w' ⟨v1, h1, he, hv1, _, fr⟩ => ⟨by rw [he, hv1], world_eq fr.os fr.tape fr.output fr.drawn fr.size fun i hi => fr.far i hi rfl⟩
    have hS := AnyQ.slices_SortFunc L k aE zE enc hlen h1 cf hO g #[] b 0 cap l.toArray w heg hcm' hH hblk (by simpa using hsz)
    subst hv
    have hz : l.toArray.size = l.length := by simp
    rw [hz] at hS
    refine hS.mono fun e1 w' ⟨he, d', n, os, hp, hso, hw⟩ => ?_
    obtain ⟨hps, _, hpp⟩ := hp
    have hds : d'.toList.length = l.length := by simpa using hps
    let c' := putCells id 0 (flatK enc k d') cs
    have hmod : ∀ i, w'.heap[i]? = if i < w.heap.size then (if i = b then some (.cells c' e (0, 0)) else w.heap[i]?) else os[i - w.heap.size]? := by
      intro i
      subst hw
      show ((w.heap.modify b (onCells (putCells id 0 (flatK enc k d')))) ++ os)[i]? = _
      rw [Array.getElem?_append, Array.size_modify, Array.getElem?_modify]
      by_cases hi : i < w.heap.size
      · rw [if_pos hi, if_pos hi]
        by_cases hib : i = b
        · subst hib; rw [if_pos rfl, if_pos rfl, hwb]; rfl
        · rw [if_neg (Ne.symm hib), if_neg hib]
      · rw [if_neg hi, if_neg hi]
    have hsub : Sub (h.set b (.cells c' e (0, 0))) w' := by
      intro i o hi
      rw [hmod]
      unfold PH.set at hi
      split at hi
      · rename_i e1; subst e1; rw [if_pos hblk, if_pos rfl]; exact hi
      · rename_i e1; rw [if_pos (hs.lt hi), if_neg e1]; exact hs _ _ hi
    have hfr : Fr h w (h.set b (.cells c' e (0, 0))) w' := by
      subst hw
      refine ⟨rfl, rfl, rfl, ?_, ?_, fun i hi hn => ?_, fun i hi hn => ?_⟩
      · show w.drawn ≤ w.drawn + n; omega
      · show w.heap.size ≤ ((w.heap.modify b _) ++ os).size; simp
      · rw [hmod, if_pos hi, if_neg (fun e1 => by subst e1; rw [hb] at hn; cases hn)]
      · rw [set_other (fun e1 => by subst e1; rw [hb] at hn; cases hn)]; exact hn
    refine ⟨_, _, he, hk d'.toList _ ?_ ?_ ⟨fun r hr => ?_, .inr ⟨b, cap, c', ?_, rfl, set_same, ?_, hcm, ?_, ?_⟩⟩ (Upd.set (by simp)), hsub, hfr⟩
    · have e1 : d'.extract 0 l.length = d' := by rw [← hz, ← hps]; simp
      have e2 : l.toArray.extract 0 l.length = l.toArray := by rw [← hz]; simp
      rw [e1, e2] at hpp
      simpa using hpp
    · rw [List.pairwise_iff_getElem]
      intro i j hi hj hij
      have := hso i j (Nat.zero_le _) hij (by rw [← hz, ← hps]; simpa using hj)
      rw [getElem!_pos d' i (by simpa using hi), getElem!_pos d' j (by simpa using hj)] at this
      simpa using this
    · obtain ⟨x, _, rfl⟩ := List.mem_map.1 hr; exact hlen x
    · rw [List.length_map, hds]
    · rw [List.length_map, hds]; exact hle
    · show (putCells id 0 (flatK enc k d') cs).size = _
      unfold putCells
      rw [Array.size_mapIdx]; exact hcs
    · rw [List.length_map, hds]
      have hfd := flat_rows enc k hk0 hlen d'.toList
      rw [hfd]
      have hsz2 : (flatK enc k d').size = l.length * k := by rw [size_flatK, hps, hz]
      have := take_putCells (flatK enc k d') cs (by rw [hsz2, hcs]; exact Nat.mul_le_mul_right _ hle)
      rw [hsz2] at this
      simpa using this
end Go.Proofs.Ytlkjippiaghbmaa
/- table: the items of a map: maps.Values, slices.Collect, slices.SortFunc. -/
set_option linter.unusedSimpArgs false
set_option linter.unusedVariables false
namespace Go.Proofs.Ytlkjippiaghbmaa
open Go

theorem kkeyed : Keyed PG T_table_id kenc where
  chk := fun h b a => by unfold kenc; cases b <;> kernel_rfl
  eq := fun h a b => by
    show SemE PG h (Op.equalIn (9999 + 1) T_table_id (.agg #[.int .i64 a.1, .int .u64 a.2]) (.agg #[.int .i64 b.1, .int .u64 b.2])) = _
    rw [eqIn_struct T_table_id.und (by kernel_rfl) (fun f => match f.offset with | 0 => a.1 == b.1 | _ => a.2 == b.2)]
    · congr 1
      rw [Bool.eq_iff_iff]
      obtain ⟨x, y⟩ := a
      obtain ⟨x', y'⟩ := b
      simp
    · intro f hf
      simp only [List.mem_cons, List.not_mem_nil, or_false] at hf
      rcases hf with rfl | rfl
      · exact ⟨by decide, _, _, part_cell T_int.und rfl rfl, part_cell T_int.und rfl rfl, eqIn_int T_int.und⟩
      · exact ⟨by decide, _, _, part_cell T_uint64.und rfl rfl, part_cell T_uint64.und rfl rfl, eqIn_int T_uint64.und⟩
  bits := fun a => by
    show Instr.sameBits (9999 + 1) (.agg #[.int .i64 a.1, .int .u64 a.2]) (.agg #[.int .i64 a.1, .int .u64 a.2]) = true
    simp [Instr.sameBits]
  now := ⟨_, T_table_id.und, .inl fun a b => rfl⟩

def It.pr (i : It) : Ky × Value := (i.key, i.val)
def It.un : Value → It
  | .agg ⟨[.int _ f, .int _ s, .int _ t, .string d, .int _ g]⟩ => ⟨⟨f, s, t, d⟩, g⟩
  | _ => default
theorem It.un_val (i : It) : It.un i.val = i := rfl
theorem un_pr (l : List It) : (l.map It.pr).map (fun p => It.un p.2) = l := by
  rw [List.map_map]
  have : ((fun p : Ky × Value => It.un p.2) ∘ It.pr) = id := by funext i; exact It.un_val i
  rw [this, List.map_id]
abbrev MAt (h : PH) (m : Nat) (l : List It) : Prop := MapAt kenc h m (l.map It.pr)

set_option maxRecDepth 20000 in
theorem put_it {h : PH} {r : Nat} (hr : h r = none) (x : It) {k : Value → PH → Prop} (hk : ∀ h', Bx h' r x.cells → Ext h h' → k undef h') :
    SemH PG (storeS T_api_Item (.pointer (some ⟨r, 0, none⟩)) x.val) (h.set r (.cells (zcells PG T_api_Item) T_api_Item)) k := by
  refine store_box set_same T_api_Item.info (by show 5 = 5; rfl) (by show 0 < 5; decide) (by rw [T_api_Item.zc]; rfl) x.allCell ?_
  rw [set_set_same]
  exact hk _ ⟨_, set_same⟩ (Upd.new hr)

abbrev yieldV (l : Nat) : Value := .func (.yield l) #[] #[]
set_option maxRecDepth 20000 in
/-- maps.Values' iterator: whatever J the caller keeps between rounds. -/
theorem values_ok {h : PH} {bx m l : Nat} {L : List It} (hb : Bx h bx [.map (some m)]) (hm : MAt h m L) (J : Nat → List It → PH → Prop)
    (J0 : ∀ it h', h it = none → Ext h h' → h' it ≠ none → J it [] h') (Js : ∀ it pre h1 h2, J it pre h1 → Upd [it] h1 h2 → J it pre h2)
    (Jy : ∀ it pre x h1, h it = none → pre.length < L.length → J it pre h1 → h1 it ≠ none → ∀ k' : Value → PH → Prop, (∀ h2 G, J it (pre ++ [x]) h2 → Upd G h1 h2 → m ∉ G → it ∉ G → k' (.bool true) h2) → callC PG (yieldV l) #[x.val] h1 k')
    {k : Value → PH → Prop} (hk : ∀ it l' h', l'.Perm L → J it l' h' → k (.tuple #[]) h') :
    CallsH PG id_maps_Values_map_table_id_api_Item_table_id_api_Item_1 #[yieldV l, .pointer (some ⟨bx, 0, none⟩)] h k := by
  apply maps_Values_map_table_id_api_Item_table_id_api_Item_1.call
  unfold maps_Values_map_table_id_api_Item_table_id_api_Item_1
  have c0 : cellH h ⟨bx, 0, none⟩ = some (.map (some m)) := hb.cell 0
  simp only [T_map_table_id_api_Item.load, c0, popO_some, bindH_eq, condV_bool, condV_true, condV_false, yV_bool, gopV_tt, gopV_ff, gopV_tf, gopV_ft, pickV_t, pickV_f, pickV_bool, nilS_ptr, add_eq, sub_eq, mul_eq, lss_eq, leq_eq, gtr_eq, geq_eq, not_eq, minI_eq, maxI_eq, extract_0, extract_1, extract_2, eqlI, neqI, makeFunc_eq, decide_true, decide_false, if_true, if_false, Bool.false_eq_true, Bool.not_true, Bool.not_false, reduceIte, List.getElem?_toArray, List.getElem?_cons_zero, List.getElem?_cons_succ, Option.isSome_none, List.length_map]
  refine range_it T_map_table_id_api_Item.und hm fun it h1 hit HI u1 => ?_
  refine ⟨fun vs h' => ∃ pre : List It, vs = [yieldV l, .pointer (some ⟨it, 0, none⟩)] ∧ MapIt kenc h' m it (L.map It.pr) (pre.map It.pr) ∧ J it pre h', fun _ h' => itLeft L.length it h', ⟨[], rfl, HI, J0 it h1 hit u1 HI.known⟩, ?_⟩
  rintro ρ h' ⟨pre, hvs, HI, hJ⟩
  simp only [List.map_cons, List.map_nil, List.cons.injEq, and_true] at hvs
  obtain ⟨e0, e1⟩ := hvs
  rw [e0, e1]
  unfold maps_Values_map_table_id_api_Item_table_id_api_Item_1_b5
  refine next_it HI (fun hp => ?_) (fun a v h2 hav hnk HI2 u2 => ?_)
  · simp only [popO_some, bindH_eq, condV_bool, condV_true, condV_false, yV_bool, gopV_tt, gopV_ff, gopV_tf, gopV_ft, pickV_t, pickV_f, pickV_bool, nilS_ptr, add_eq, sub_eq, mul_eq, lss_eq, leq_eq, gtr_eq, geq_eq, not_eq, minI_eq, maxI_eq, extract_0, extract_1, extract_2, eqlI, neqI, makeFunc_eq, decide_true, decide_false, if_true, if_false, Bool.false_eq_true, Bool.not_true, Bool.not_false, reduceIte, List.getElem?_toArray, List.getElem?_cons_zero, List.getElem?_cons_succ, Option.isSome_none, List.length_map]
    refine hk it pre h' ?_ hJ
    have := hp.map (fun p => It.un p.2)
    rwa [un_pr, un_pr] at this
  · simp only [popO_some, bindH_eq, condV_bool, condV_true, condV_false, yV_bool, gopV_tt, gopV_ff, gopV_tf, gopV_ft, pickV_t, pickV_f, pickV_bool, nilS_ptr, add_eq, sub_eq, mul_eq, lss_eq, leq_eq, gtr_eq, geq_eq, not_eq, minI_eq, maxI_eq, extract_0, extract_1, extract_2, eqlI, neqI, makeFunc_eq, decide_true, decide_false, if_true, if_false, Bool.false_eq_true, Bool.not_true, Bool.not_false, reduceIte, List.getElem?_toArray, List.getElem?_cons_zero, List.getElem?_cons_succ, Option.isSome_none, List.length_map]
    obtain ⟨x, hx, hxe⟩ := List.mem_map.1 hav
    obtain ⟨rfl, rfl⟩ : x.key = a ∧ x.val = v := by simpa [It.pr] using hxe
    refine entry_it HI2 ?_
    simp only [popO_some, bindH_eq, condV_bool, condV_true, condV_false, yV_bool, gopV_tt, gopV_ff, gopV_tf, gopV_ft, pickV_t, pickV_f, pickV_bool, nilS_ptr, add_eq, sub_eq, mul_eq, lss_eq, leq_eq, gtr_eq, geq_eq, not_eq, minI_eq, maxI_eq, extract_0, extract_1, extract_2, eqlI, neqI, makeFunc_eq, decide_true, decide_false, if_true, if_false, Bool.false_eq_true, Bool.not_true, Bool.not_false, reduceIte, List.getElem?_toArray, List.getElem?_cons_zero, List.getElem?_cons_succ, Option.isSome_none, List.length_map]
    intro r hr
    try rw [bindH_eq]
    refine put_it hr x fun h3 b3 u3 => ?_
    simp only [b3.it, popO_some, bindH_eq, condV_bool, condV_true, condV_false, yV_bool, gopV_tt, gopV_ff, gopV_tf, gopV_ft, pickV_t, pickV_f, pickV_bool, nilS_ptr, add_eq, sub_eq, mul_eq, lss_eq, leq_eq, gtr_eq, geq_eq, not_eq, minI_eq, maxI_eq, extract_0, extract_1, extract_2, eqlI, neqI, makeFunc_eq, decide_true, decide_false, if_true, if_false, Bool.false_eq_true, Bool.not_true, Bool.not_false, reduceIte, List.getElem?_toArray, List.getElem?_cons_zero, List.getElem?_cons_succ, Option.isSome_none, List.length_map]
    have HI3 := HI2.upd u3 (by simp) (by simp)
    have hJ3 := Js it pre h' h3 hJ (Upd.trans u2 (Ext.upd u3))
    have hlt : pre.length < L.length := by
      have := HI2.le
      simp only [List.length_append, List.length_map, List.length_cons, List.length_nil] at this
      omega
    refine Jy it pre x h3 hit hlt hJ3 HI3.known _ fun h4 G hJ4 u4 g1 g2 => ?_
    have HI4 := HI3.upd u4 g1 g2
    simp only [popO_some, bindH_eq, condV_bool, condV_true, condV_false, yV_bool, gopV_tt, gopV_ff, gopV_tf, gopV_ft, pickV_t, pickV_f, pickV_bool, nilS_ptr, add_eq, sub_eq, mul_eq, lss_eq, leq_eq, gtr_eq, geq_eq, not_eq, minI_eq, maxI_eq, extract_0, extract_1, extract_2, eqlI, neqI, makeFunc_eq, decide_true, decide_false, if_true, if_false, Bool.false_eq_true, Bool.not_true, Bool.not_false, reduceIte, List.getElem?_toArray, List.getElem?_cons_zero, List.getElem?_cons_succ, Option.isSome_none, List.length_map]
    refine ⟨⟨pre ++ [x], by trivial, ?_, hJ4⟩, ?_⟩
    · rw [List.map_append]; exact HI4
    · rw [HI4.left, HI.left]
      simp only [List.length_append, List.length_map, List.length_cons, List.length_nil]
      omega

/-! ### a round -/
theorem getLoop_eq {h : PH} {l : Nat} {r : Loop} (hl : h l = some (.loop r)) : SemE PG h (Instr.getLoop l) = some r := by
  unfold Instr.getLoop getObj
  show SemE PG h (Sem.getObj l _) = _
  simp only [SemE, hl]
  rfl
theorem begin_ok {h : PH} {l : Nat} {r : Loop} {k : Unit → PH → Prop} (hl : h l = some (.loop r)) (hs : r.state = .ready) (hk : k () (h.set l (.loop { r with state := .busy }))) : SemH PG (Instr.beginRound l) h k := by
  unfold Instr.beginRound
  refine semH_of_semE (getLoop_eq hl) ?_
  show (∃ u, h l = some u ∧ (∀ c e f, u ≠ .cells c e f)) ∧ _
  refine ⟨⟨_, hl, by intros; simp⟩, ?_⟩
  rw [hs]
  exact hk
theorem end_ok {h : PH} {l : Nat} {r : Loop} {j : Option Code} {k : Value → PH → Prop} (hl : h l = some (.loop r)) (hk : k (.bool j.isNone) (h.set l (.loop { r with state := if j.isNone then .ready else .done, pending := j }))) : SemH PG (Instr.endRound l j) h k := by
  unfold Instr.endRound
  refine semH_of_semE (getLoop_eq hl) ?_
  show (∃ u, h l = some u ∧ (∀ c e f, u ≠ .cells c e f)) ∧ _
  exact ⟨⟨_, hl, by intros; simp⟩, hk⟩
theorem endLoop_ok {h : PH} {l : Nat} {r : Loop} {k : Option Code → PH → Prop} (hl : h l = some (.loop r)) (hs : r.state = .ready ∨ r.state = .done) (hk : k r.pending (h.set l (.loop { r with state := .exhausted }))) : SemH PG (Instr.endLoop l) h k := by
  unfold Instr.endLoop
  refine semH_of_semE (getLoop_eq hl) ?_
  have : (r.state == LoopState.busy) = false := by rcases hs with e | e <;> rw [e] <;> rfl
  rw [this]
  show (∃ u, h l = some u ∧ (∀ c e f, u ≠ .cells c e f)) ∧ _
  exact ⟨⟨_, hl, by intros; simp⟩, hk⟩
theorem yield_ok {h : PH} {l : Nat} {r : Loop} {args : Array Value} {k : Value → PH → Prop} (hl : h l = some (.loop r)) (hn : args.size = r.params.size)
    (hk : NextH PG (.round l r.fn ((r.params.zip args).foldl (fun tmps (t, a) => tmps.setIfInBounds t a) r.tmps) r.assign r.body) h k) : callC PG (yieldV l) args h k := by
  unfold callC
  unfold invoke
  have e0 : (#[] : Array Value) ++ args = args := by simp
  show SemH PG (Instr.yield l (#[] ++ args)) h _
  rw [e0]
  unfold Instr.yield
  refine semH_of_semE (getLoop_eq hl) ?_
  simp only [hn, ne_eq, not_true, if_false]
  exact hk

theorem It.isCell (l : List It) : ∀ r ∈ l.map It.cells, ∀ u ∈ r, isCell u = true := fun r hr u hu => by
  obtain ⟨m, _, rfl⟩ := List.mem_map.1 hr
  exact m.allCell u (by simpa using hu)
theorem it_lit (x : It) : SemA PG (Instr.buildSlice T_sl_api_Item 1 #[(0, x.val)]) = some (.cells x.cells.toArray T_api_Item (0, 0), fun r => pure (.slice (some ⟨r, 0, none⟩) 1 1)) := by
  kernel_rfl

set_option maxRecDepth 20000 in
/-- slices.AppendSeq(nil, maps.Values' iterator). -/
theorem AppendSeq_ok {h : PH} {bx m : Nat} {L : List It} (hb : Bx h bx [.map (some m)]) (hm : MAt h m L) (hL : L.length ≤ 1000000) {k : Value → PH → Prop}
    (hk : ∀ v (l' : List It) h' F, l'.Perm L → OwnR h' T_api_Item 5 v (l'.map It.cells) F → Fresh h F → Ext h h' → k v h') :
    CallsH PG id_slices_AppendSeq_sl_api_Item_api_Item #[.slice none 0 0, .func (.func id_maps_Values_map_table_id_api_Item_table_id_api_Item_1) #[] #[.pointer (some ⟨bx, 0, none⟩)]] h k := by
  apply slices_AppendSeq_sl_api_Item_api_Item.call
  unfold slices_AppendSeq_sl_api_Item_api_Item
  intro B hB
  rw [bindH_eq]
  have uB : Ext h (h.set B (.cells (Value.cells (.slice none 0 0)) T_sl_api_Item)) := Upd.new hB
  have bB : (h.set B (.cells (Value.cells (.slice none 0 0)) T_sl_api_Item)) B = some (.cells #[.slice none 0 0] T_sl_api_Item (0, 0)) := set_same
  generalize h.set B (.cells (Value.cells (.slice none 0 0)) T_sl_api_Item) = h1 at *
  unfold rangeH
  refine ⟨by kernel_rfl, ?_⟩
  intro fn tmps l D hv hsz hl
  have hv2 : tmps.getD 2 undef = .pointer (some ⟨B, 0, none⟩) := hv (2, _) (by simp)
  have hlB : l ≠ B := by rintro rfl; rw [bB] at hl; cases hl
  have ul : Ext h1 (h1.set l (.loop { state := .ready, pending := none, fn, tmps, params := #[7], assign := slices_AppendSeq_sl_api_Item_api_Item_asg0, body := slices_AppendSeq_sl_api_Item_api_Item_body0, defers := D })) := Upd.new hl
  have bl : (h1.set l (.loop { state := .ready, pending := none, fn, tmps, params := #[7], assign := slices_AppendSeq_sl_api_Item_api_Item_asg0, body := slices_AppendSeq_sl_api_Item_api_Item_body0, defers := D })) l = some (.loop { state := .ready, pending := none, fn, tmps, params := #[7], assign := slices_AppendSeq_sl_api_Item_api_Item_asg0, body := slices_AppendSeq_sl_api_Item_api_Item_body0, defers := D }) := set_same
  obtain ⟨rec, hrec⟩ : ∃ rec : Loop, rec = { state := .ready, pending := none, fn, tmps, params := #[7], assign := slices_AppendSeq_sl_api_Item_api_Item_asg0, body := slices_AppendSeq_sl_api_Item_api_Item_body0, defers := D } := ⟨_, rfl⟩
  rw [← hrec] at ul bl ⊢
  have bB2 := ul.get bB
  generalize h1.set l (.loop rec) = h2 at *
  have u12 := Ext.trans uB ul
  have hlh : h l = none := uB.none hl
  refine values_ok (hb.ext u12) (MapAt.ext hm u12)
    (fun it pre h' => ∃ v F, h' l = some (.loop rec) ∧ h' B = some (.cells #[v] T_sl_api_Item (0, 0)) ∧ OwnR h' T_api_Item 5 v (pre.map It.cells) F ∧ Fresh h F ∧ l ∉ F ∧ B ∉ F ∧ it ∉ F ∧ it ≠ l ∧ it ≠ B ∧ h it = none ∧ Ext h h')
    (fun it h3 hit u3 hkn => ?_) (fun it pre h3 h4 hJ u4 => ?_) (fun it pre x h3 hit hlt hJ hkn k' hk' => ?_) (fun it l' h3 hp hJ => ?_)
  · refine ⟨.slice none 0 0, [], u3.get bl, u3.get bB2, OwnR.nil, (fun b hb => by cases hb), by simp, by simp, by simp, ?_, ?_, u12.none hit, u12.trans u3⟩
    · rintro rfl; rw [bl] at hit; cases hit
    · rintro rfl; rw [bB2] at hit; cases hit
  · obtain ⟨v, F, j1, j2, j3, j4, j5, j6, j7, j8, j9, j10, j11⟩ := hJ
    exact ⟨v, F, u4.get j1 (by simpa using Ne.symm j8), u4.get j2 (by simpa using Ne.symm j9), j3.upd u4 (fun b hb => by simp; rintro rfl; exact j7 hb), j4, j5, j6, j7, j8, j9, j10,
      j11.fresh u4 (Fresh.one j10)⟩
  · obtain ⟨v, F, j1, j2, j3, j4, j5, j6, j7, j8, j9, j10, j11⟩ := hJ
    refine yield_ok j1 (by rw [hrec]; rfl) ?_
    have e1 : rec.assign = slices_AppendSeq_sl_api_Item_api_Item_asg0 := by rw [hrec]
    have e2 : rec.body = slices_AppendSeq_sl_api_Item_api_Item_body0 := by rw [hrec]
    have e3 : (rec.params.zip #[x.val]).foldl (fun tmps (t, a) => tmps.setIfInBounds t a) rec.tmps = tmps.setIfInBounds 7 x.val := by rw [hrec]; simp
    rw [e1, e2, e3]
    refine slices_AppendSeq_sl_api_Item_api_Item_r0.next (by simpa using hsz) ?_
    have t2 : (tmps.setIfInBounds 7 x.val).getD 2 undef = .pointer (some ⟨B, 0, none⟩) := by
      rw [← hv2]; simp [Array.getD_eq_getD_getElem?, Array.getElem?_setIfInBounds]
    have t7 : (tmps.setIfInBounds 7 x.val).getD 7 undef = x.val := by
      simp [Array.getD_eq_getD_getElem?, hsz]
    rw [t2, t7]
    unfold slices_AppendSeq_sl_api_Item_api_Item_r0
    intro r hr
    rw [bindH_eq]
    refine put_it hr x fun h4 b4 u4 => ?_
    have hrl : r ≠ l := by rintro rfl; rw [j1] at hr; cases hr
    have hrB : r ≠ B := by rintro rfl; rw [j2] at hr; cases hr
    have hri : r ≠ it := by rintro rfl; exact hkn hr
    refine begin_ok (u4.get j1) (by rw [hrec]) ?_
    have u5 : Upd [l] h4 (h4.set l (.loop { rec with state := .busy })) := Upd.set (by simp)
    have bl5 : (h4.set l (.loop { rec with state := .busy })) l = some (.loop { rec with state := .busy }) := set_same
    generalize h4.set l (.loop { rec with state := .busy }) = h5 at *
    have bB5 : h5 B = _ := u5.get (u4.get j2) (by simpa using Ne.symm hlB)
    have c0 : cellH h5 ⟨B, 0, none⟩ = some v := by simp [cellH, bB5]
    have hO5 := (j3.ext u4).upd u5 (fun b hb => by simp; rintro rfl; exact j5 hb)
    have b5 := b4.upd u5 (by simpa using hrl)
    simp only [T_sl_api_Item.load, c0, b5.it, it_lit, popO_some, bindH_eq, condV_bool, condV_true, condV_false, yV_bool, gopV_tt, gopV_ff, gopV_tf, gopV_ft, pickV_t, pickV_f, pickV_bool, nilS_ptr, add_eq, sub_eq, mul_eq, lss_eq, leq_eq, gtr_eq, geq_eq, not_eq, minI_eq, maxI_eq, extract_0, extract_1, extract_2, eqlI, neqI, makeFunc_eq, decide_true, decide_false, if_true, if_false, Bool.false_eq_true, Bool.not_true, Bool.not_false, reduceIte, List.getElem?_toArray, List.getElem?_cons_zero, List.getElem?_cons_succ, Option.isSome_none, List.length_map]
    intro r6 hr6
    refine popO_pure ?_
    try rw [bindH_eq]
    have u6 : Ext h5 (h5.set r6 (.cells x.cells.toArray T_api_Item)) := Upd.new hr6
    have s1 : SlR (h5.set r6 (.cells x.cells.toArray T_api_Item)) 5 (.slice (some ⟨r6, 0, none⟩) 1 1) ([x].map It.cells) := (OwnR.lit (It.rows [x]) set_same (by simp) (by decide) (by simp)).slR
    generalize h5.set r6 (.cells x.cells.toArray T_api_Item) = h6 at *
    refine append_own T_sl_api_Item.und T_sl_api_Item.und T_api_Item.info T_api_Item.size T_api_Item.bytes T_api_Item.zero rfl (by decide) (hO5.ext u6) s1 (It.isCell _) (by simp; omega) ?_
    intro v7 h7 F7 hO7 u7 hF7 _
    rw [← List.map_append] at hO7
    have bB7 : h7 B = _ := u7.get (u6.get bB5) j6
    have bl7 : h7 l = _ := u7.get (u6.get bl5) j5
    refine store_cell T_sl_api_Item.und rfl bB7 (by simp) (by obtain ⟨_, _, rfl, -⟩ := hO7.slR.here; rfl) T_sl_api_Item.info T_sl_api_Item.size ?_
    have notIn : ∀ b, h6 b ≠ none → b ∉ F → b ∉ F7 := fun b h1 h2 hm => by rcases hF7 b hm with h3 | h3; exact h2 h3; exact h1 h3
    have kn6 : ∀ b, h3 b ≠ none → b ≠ l → h6 b ≠ none := fun b hb hbl => by
      cases e : h3 b with
      | none => exact absurd e hb
      | some o => rw [u6.get (u5.get (u4.get e) (by simpa using hbl))]; simp
    have nB : B ∉ F7 := notIn B (by rw [u6.get bB5]; simp) j6
    have nl : l ∉ F7 := notIn l (by rw [u6.get bl5]; simp) j5
    have ni : it ∉ F7 := notIn it (kn6 it hkn j8) j7
    have u8 : Upd [B] h7 (h7.set B (.cells (#[v].setIfInBounds 0 v7) T_sl_api_Item (0, 0))) := Upd.set (by simp)
    have bB8 : (h7.set B (.cells (#[v].setIfInBounds 0 v7) T_sl_api_Item (0, 0))) B = some (.cells #[v7] T_sl_api_Item (0, 0)) := set_same
    generalize h7.set B (.cells (#[v].setIfInBounds 0 v7) T_sl_api_Item (0, 0)) = h8 at *
    have hO8 := hO7.upd u8 (fun b hb => by simp; rintro rfl; exact nB hb)
    have bl8 := u8.get bl7 (by simpa using hlB)
    refine end_ok bl8 ?_
    have u9 : Upd [l] h8 (h8.set l (.loop { { rec with state := .busy } with state := if (none : Option Code).isNone then .ready else .done, pending := none })) := Upd.set (by simp)
    have bl9 : (h8.set l (.loop { { rec with state := .busy } with state := if (none : Option Code).isNone then .ready else .done, pending := none })) l = some (.loop rec) := by rw [set_same, hrec]; rfl
    generalize h8.set l (.loop { { rec with state := .busy } with state := if (none : Option Code).isNone then .ready else .done, pending := none }) = h9 at *
    have hfr7 : Fresh h F7 := fun b hb => by
      rcases hF7 b hb with h1 | h1
      · exact j4 b h1
      · cases e : h b with
        | none => rfl
        | some o =>
          have := kn6 b (by rw [j11.get e]; simp) (by rintro rfl; rw [hlh] at e; cases e)
          exact absurd h1 this
    have hall : Upd (l :: B :: F) h3 h9 := by
      intro b o hb hn
      simp only [List.mem_cons, not_or] at hn
      exact u9.get (u8.get (u7.get (u6.get (u5.get (u4.get hb) (by simpa using hn.1))) hn.2.2) (by simpa using hn.2.1)) (by simpa using hn.1)
    have hext : Ext h h9 := j11.fresh hall (fun b hb => by
      rcases List.mem_cons.1 hb with rfl | hb
      · exact hlh
      · rcases List.mem_cons.1 hb with rfl | hb
        · exact hB
        · exact j4 b hb)
    refine hk' h9 (l :: B :: F) ⟨v7, F7, bl9, u9.get bB8 (by simpa using Ne.symm hlB), hO8.upd u9 (fun b hb => by simp; rintro rfl; exact nl hb), hfr7, nl, nB, ni, j8, j9, j10, hext⟩ hall ?_ ?_
    · intro hmm
      have hkm := MapAt.known hm
      rcases List.mem_cons.1 hmm with rfl | hmm
      · exact hkm hlh
      · rcases List.mem_cons.1 hmm with rfl | hmm
        · exact hkm hB
        · exact hkm (j4 m hmm)
    · simp only [List.mem_cons, not_or]
      exact ⟨j8, j9, j7⟩
  · obtain ⟨v, F, j1, j2, j3, j4, j5, j6, j7, j8, j9, j10, j11⟩ := hJ
    refine endLoop_ok j1 (by rw [hrec]; exact .inl rfl) ?_
    have ep : rec.pending = none := by rw [hrec]
    have u5 : Upd [l] h3 (h3.set l (.loop { rec with state := .exhausted })) := Upd.set (by simp)
    generalize h3.set l (.loop { rec with state := .exhausted }) = h5 at *
    rw [ep]
    show popO _ _
    have bB5 : h5 B = _ := u5.get j2 (by simpa using Ne.symm hlB)
    have c0 : cellH h5 ⟨B, 0, none⟩ = some v := by simp [cellH, bB5]
    simp only [T_sl_api_Item.load, c0, popO_some, bindH_eq, condV_bool, condV_true, condV_false, yV_bool, gopV_tt, gopV_ff, gopV_tf, gopV_ft, pickV_t, pickV_f, pickV_bool, nilS_ptr, add_eq, sub_eq, mul_eq, lss_eq, leq_eq, gtr_eq, geq_eq, not_eq, minI_eq, maxI_eq, extract_0, extract_1, extract_2, eqlI, neqI, makeFunc_eq, decide_true, decide_false, if_true, if_false, Bool.false_eq_true, Bool.not_true, Bool.not_false, reduceIte, List.getElem?_toArray, List.getElem?_cons_zero, List.getElem?_cons_succ, Option.isSome_none, List.length_map]
    exact hk v l' h5 F hp (j3.upd u5 (fun b hb => by simp; rintro rfl; exact j5 hb)) j4 (j11.fresh u5 (Fresh.one hlh))
end Go.Proofs.Ytlkjippiaghbmaa
/- slices.SortFunc at its: its contract, laid at this program. -/
set_option linter.unusedSimpArgs false
set_option linter.unusedVariables false
namespace Go.Proofs.Ytlkjippiaghbmaa
open Go Go.Shelf
def tsortLay_ren : Go.Shelf.Ren := ⟨fun | 6 => 53 | 15 => 71 | 14 => 70 | 28 => 90 | 29 => 91 | 20 => 82 | 21 => 83 | 22 => 84 | 23 => 85 | 24 => 86 | 25 => 87 | 26 => 88 | 27 => 89 | 46 => 96 | 47 => 97 | 48 => 98 | 49 => 99 | 50 => 100 | 57 => 102 | n => n, fun | 22 => 30 | 24 => 55 | 25 => 118 | 3 => 3 | 39 => 137 | 0 => 0 | 53 => 155 | 55 => 26 | 4 => 4 | 46 => 148 | 45 => 147 | 50 => 152 | 5 => 5 | 9 => 9 | 66 => 160 | 70 => 163 | 76 => 167 | 77 => 168 | n => n, fun | n => n⟩
theorem tsortLay : Go.Proofs.SlLaysF0.n6 Try.prog tsortLay_ren := {
  mixed := by kernel_rfl
  f6 := ⟨Try.f53.name, by decide, Try.func53.trans (congrArg some (by kernel_rfl))⟩
  f14 := ⟨Try.f70.name, by decide, Try.func70.trans (congrArg some (by kernel_rfl))⟩
  f15 := Try.func71.trans (congrArg some (by kernel_rfl))
  f20 := ⟨Try.f82.name, by decide, Try.func82.trans (congrArg some (by kernel_rfl))⟩
  f21 := ⟨Try.f83.name, by decide, Try.func83.trans (congrArg some (by kernel_rfl))⟩
  f22 := ⟨Try.f84.name, by decide, Try.func84.trans (congrArg some (by kernel_rfl))⟩
  f23 := ⟨Try.f85.name, by decide, Try.func85.trans (congrArg some (by kernel_rfl))⟩
  f24 := ⟨Try.f86.name, by decide, Try.func86.trans (congrArg some (by kernel_rfl))⟩
  f25 := ⟨Try.f87.name, by decide, Try.func87.trans (congrArg some (by kernel_rfl))⟩
  f26 := ⟨Try.f88.name, by decide, Try.func88.trans (congrArg some (by kernel_rfl))⟩
  f27 := ⟨Try.f89.name, by decide, Try.func89.trans (congrArg some (by kernel_rfl))⟩
  f28 := Try.func90.trans (congrArg some (by kernel_rfl))
  f29 := Try.func91.trans (congrArg some (by kernel_rfl))
  f46 := ⟨Try.f96.name, by decide, Try.func96.trans (congrArg some (by kernel_rfl))⟩
  f47 := Try.func97.trans (congrArg some (by kernel_rfl))
  f48 := Try.func98.trans (congrArg some (by kernel_rfl))
  f49 := ⟨Try.f99.name, by decide, Try.func99.trans (congrArg some (by kernel_rfl))⟩
  f50 := ⟨Try.f100.name, by decide, Try.func100.trans (congrArg some (by kernel_rfl))⟩
  f57 := ⟨Try.f102.name, by decide, Try.func102.trans (congrArg some (by kernel_rfl))⟩
  t0 := Try.underlying0
  a0 := Try.isAgg0
  z0 := Try.sizeOf0
  v0 := Try.zeroValue0
  t3 := Try.underlying3
  a3 := Try.isAgg3
  z3 := Try.sizeOf3
  v3 := Try.zeroValue3
  t4 := Try.underlying4
  a4 := Try.isAgg4
  z4 := Try.sizeOf4
  v4 := Try.zeroValue4
  t5 := Try.underlying5
  a5 := Try.isAgg5
  z5 := Try.sizeOf5
  v5 := Try.zeroValue5
  t9 := Try.underlying9
  a9 := Try.isAgg9
  z9 := Try.sizeOf9
  v9 := Try.zeroValue9
  t22 := Try.underlying30
  a22 := Try.isAgg30
  z22 := Try.sizeOf30
  v22 := Try.zeroValue30
  t25 := Try.underlying118
  a25 := Try.isAgg118
  z25 := Try.sizeOf118
  v25 := Try.zeroValue118
  t39 := Try.underlying137
  a39 := Try.isAgg137
  z39 := Try.sizeOf137
  v39 := Try.zeroValue137
  t45 := Try.underlying147
  a45 := Try.isAgg147
  z45 := Try.sizeOf147
  v45 := Try.zeroValue147
  t46 := Try.underlying148
  a46 := Try.isAgg148
  z46 := Try.sizeOf148
  v46 := Try.zeroValue148
  t50 := Try.underlying152
  a50 := Try.isAgg152
  z50 := Try.sizeOf152
  v50 := Try.zeroValue152
  t53 := Try.underlying155
  a53 := Try.isAgg155
  z53 := Try.sizeOf155
  v53 := Try.zeroValue155
  t55 := Try.underlying26
  a55 := Try.isAgg26
  z55 := Try.sizeOf26
  v55 := Try.zeroValue26
  t66 := Try.underlying160
  a66 := Try.isAgg160
  z66 := Try.sizeOf160
  v66 := Try.zeroValue160
  t70 := Try.underlying163
  a70 := Try.isAgg163
  z70 := Try.sizeOf163
  v70 := Try.zeroValue163
  t76 := Try.underlying167
  a76 := Try.isAgg167
  z76 := Try.sizeOf167
  v76 := Try.zeroValue167
  t77 := Try.underlying168
  a77 := Try.isAgg168
  z77 := Try.sizeOf168
  v77 := Try.zeroValue168 }
theorem itAgg (w : World) : (isAgg (tsortLay_ren.t 24)).run PG w = .ok true w := Try.isAgg55 w
theorem itSize (w : World) : (Go.sizeOf (tsortLay_ren.t 24)).run PG w = .ok 5 w := Try.sizeOf55 w
end Go.Proofs.Ytlkjippiaghbmaa
/- table: all items, in order. -/
set_option linter.unusedSimpArgs false
set_option linter.unusedVariables false
namespace Go.Proofs.Ytlkjippiaghbmaa
open Go Go.Sort Go.Shelf

/-- By From, then Seq. -/
def ltI (a b : It) : Bool := decide (a.p.f < b.p.f) || (decide (a.p.f = b.p.f) && decide (a.p.s < b.p.s))
theorem ltOf_eq (a b : It) : ltOf cfI a b = ltI a b := by
  unfold ltOf cfI cmpI ltI
  by_cases h1 : a.p.f < b.p.f
  · simp [h1]
  · by_cases h2 : b.p.f < a.p.f
    · have h3 : ¬ a.p.f = b.p.f := by omega
      simp [h1, h2, h3]
    · have h3 : a.p.f = b.p.f := by omega
      simp only [h1, h2, if_false, ne_eq, not_true, h3]
      by_cases h4 : a.p.s < b.p.s
      · simp [h4]
      · by_cases h5 : b.p.s < a.p.s
        · simp [h4, h5]
        · simp [h4, h5]
theorem swoI : SWO (ltOf cfI) where
  irrefl x := by rw [ltOf_eq]; simp [ltI]
  trans x y z h1 h2 := by
    rw [ltOf_eq] at *
    simp only [ltI, Bool.or_eq_true, Bool.and_eq_true, decide_eq_true_eq] at *
    omega
  ntrans x y z h1 h2 := by
    rw [ltOf_eq] at *
    simp only [ltI, Bool.or_eq_false_iff, Bool.and_eq_false_iff, decide_eq_false_iff_not] at *
    omega

theorem Sort_ok {h : PH} {v : Value} {F : List Nat} {l : List It} (H : OwnR h T_api_Item 5 v (l.map It.cells) F) (hl : l.length ≤ 1000000) {k : Value → PH → Prop}
    (hk : ∀ (l' : List It) h', l'.Perm l → l'.Pairwise (fun a b => ltI b a = false) → OwnR h' T_api_Item 5 v (l'.map It.cells) F → Upd F h h' → k (.tuple #[]) h') :
    CallsH PG id_slices_SortFunc_sl_api_Item_api_Item #[v, .func (.func id_table_Table_Items_1) #[] #[]] h k := by
  refine sortFunc_ok (P := PG) tsortLay (f := id_slices_SortFunc_sl_api_Item_api_Item) rfl (k := 5) (by decide) itAgg itSize It.cells (fun _ => rfl) (fun x v hv => ?_) cfI swoI (g := id_table_Table_Items_1) (by kernel_rfl)
    (fun x y => less_ok x y fun h' _ => rfl) (by kernel_rfl) H (by omega) (fun l' h' hp hs hO u => hk l' h' hp ?_ hO u)
  · have := x.allCell v (by simpa using hv)
    cases v <;> first | rfl | cases this
  · refine hs.imp fun {a b} hab => ?_
    rw [← ltOf_eq]; exact hab

theorem Values_ok {h : PH} {m : Nat} {k : Value → PH → Prop} (hk : ∀ bx h', h bx = none → Bx h' bx [.map (some m)] → Ext h h' → k (.func (.func id_maps_Values_map_table_id_api_Item_table_id_api_Item_1) #[] #[.pointer (some ⟨bx, 0, none⟩)]) h') :
    CallsH PG id_maps_Values_map_table_id_api_Item_table_id_api_Item #[.map (some m)] h k := by
  apply maps_Values_map_table_id_api_Item_table_id_api_Item.call
  unfold maps_Values_map_table_id_api_Item_table_id_api_Item
  intro r hr
  rw [bindH_eq]
  simp only [popO_some, bindH_eq, condV_bool, condV_true, condV_false, yV_bool, gopV_tt, gopV_ff, gopV_tf, gopV_ft, pickV_t, pickV_f, pickV_bool, nilS_ptr, add_eq, sub_eq, mul_eq, lss_eq, leq_eq, gtr_eq, geq_eq, not_eq, minI_eq, maxI_eq, extract_0, extract_1, extract_2, eqlI, neqI, makeFunc_eq, decide_true, decide_false, if_true, if_false, Bool.false_eq_true, Bool.not_true, Bool.not_false, reduceIte, List.getElem?_toArray, List.getElem?_cons_zero, List.getElem?_cons_succ, Option.isSome_none, List.length_map]
  exact hk r _ hr ⟨_, set_same⟩ (Upd.new hr)
theorem Collect_ok {h : PH} {bx m : Nat} {L : List It} (hb : Bx h bx [.map (some m)]) (hm : MAt h m L) (hL : L.length ≤ 1000000) {k : Value → PH → Prop}
    (hk : ∀ v (l' : List It) h' F, l'.Perm L → OwnR h' T_api_Item 5 v (l'.map It.cells) F → Fresh h F → Ext h h' → k v h') :
    CallsH PG id_slices_Collect_api_Item #[.func (.func id_maps_Values_map_table_id_api_Item_table_id_api_Item_1) #[] #[.pointer (some ⟨bx, 0, none⟩)]] h k := by
  apply slices_Collect_api_Item.call
  unfold slices_Collect_api_Item
  exact AppendSeq_ok hb hm hL hk
end Go.Proofs.Ytlkjippiaghbmaa
/- table, plainly: a row of items, by rising From, then Seq. -/
set_option linter.unusedSimpArgs false
set_option linter.unusedVariables false
namespace Go.Proofs.Ytlkjippiaghbmaa
open Go

def kl (a b : Ky) : Prop := a.1 < b.1 ∨ a.1 = b.1 ∧ a.2 < b.2
instance (a b : Ky) : Decidable (kl a b) := by unfold kl; exact inferInstance
theorem kl_irrefl (a : Ky) : ¬ kl a a := by unfold kl; omega
theorem kl_trans {a b c : Ky} (h1 : kl a b) (h2 : kl b c) : kl a c := by unfold kl at *; omega
theorem kl_ne {a b : Ky} (h : kl a b) : a ≠ b := by rintro rfl; exact kl_irrefl _ h
theorem kl_asymm {a b : Ky} (h : kl a b) : ¬ kl b a := fun h2 => kl_irrefl _ (kl_trans h h2)
theorem kl_total {a b : Ky} (h : a ≠ b) : kl a b ∨ kl b a := by
  have : ¬ (a.1 = b.1 ∧ a.2 = b.2) := fun e => h (Prod.ext e.1 e.2)
  unfold kl; omega
def Srt (L : List It) : Prop := L.Pairwise fun a b => kl a.key b.key
def getL (L : List It) (k : Ky) : Option It := L.find? fun i => decide (k = i.key)
def delL (L : List It) (k : Ky) : List It := L.filter fun i => decide (i.key ≠ k)
def insL (L : List It) (i : It) : List It := (L.filter fun j => decide (kl j.key i.key)) ++ i :: (L.filter fun j => decide (kl i.key j.key))

theorem Srt.unique : ∀ {A B : List It}, Srt A → Srt B → A.Perm B → A = B
  | [], B, _, _, h => by rw [List.nil_perm.1 h]
  | a :: A, [], _, _, h => by have := h.length_eq; simp at this
  | a :: A, b :: B, hA, hB, h => by
    unfold Srt at hA hB
    rw [List.pairwise_cons] at hA hB
    have e : a = b := by
      have h1 : a ∈ b :: B := h.mem_iff.1 (by simp)
      have h2 : b ∈ a :: A := h.mem_iff.2 (by simp)
      rcases List.mem_cons.1 h1 with h1 | h1
      · exact h1
      · rcases List.mem_cons.1 h2 with h2 | h2
        · exact h2.symm
        · exact absurd (hA.1 b h2) (kl_asymm (hB.1 a h1))
    subst e
    rw [Srt.unique hA.2 hB.2 (h.cons_inv)]
theorem Srt.filter {L : List It} (h : Srt L) (p : It → Bool) : Srt (L.filter p) := List.Pairwise.filter p h
theorem Srt.del {L : List It} (h : Srt L) (k : Ky) : Srt (delL L k) := h.filter _
theorem Srt.ins {L : List It} (h : Srt L) (i : It) : Srt (insL L i) := by
  unfold insL Srt
  rw [List.pairwise_append]
  refine ⟨h.filter _, ?_, ?_⟩
  · rw [List.pairwise_cons]
    exact ⟨fun x hx => by simpa using (List.mem_filter.1 hx).2, h.filter _⟩
  · intro x hx y hy
    have h1 : kl x.key i.key := by simpa using (List.mem_filter.1 hx).2
    rcases List.mem_cons.1 hy with rfl | hy
    · exact h1
    · exact kl_trans h1 (by simpa using (List.mem_filter.1 hy).2)
theorem Srt.nodup {L : List It} (h : Srt L) : (L.map It.key).Nodup := by
  unfold List.Nodup
  rw [List.pairwise_map]
  exact h.imp fun h => kl_ne h
theorem part_perm {α : Type} (p q : α → Bool) (hd : ∀ a, p a = true → q a = false) : ∀ l : List α, (l.filter p ++ l.filter q).Perm (l.filter fun a => p a || q a)
  | [] => List.Perm.refl _
  | a :: l => by
    have ih := part_perm p q hd l
    cases hp : p a with
    | true =>
      have hq := hd a hp
      simp only [List.filter_cons, hp, hq, Bool.true_or, if_true, Bool.false_eq_true, if_false, List.cons_append]
      exact ih.cons a
    | false =>
      cases hq : q a with
      | true =>
        simp only [List.filter_cons, hp, hq, Bool.false_or, if_true, Bool.false_eq_true, if_false]
        exact List.perm_middle.trans (ih.cons a)
      | false => simp only [List.filter_cons, hp, hq, Bool.or_self, Bool.false_eq_true, if_false]; exact ih
theorem ins_perm (L : List It) (i : It) : (insL L i).Perm (i :: delL L i.key) := by
  unfold insL delL
  refine List.perm_middle.trans (List.Perm.cons i ?_)
  refine (part_perm _ _ (fun a ha => ?_) L).trans ?_
  · simp only [decide_eq_true_eq] at ha
    simp only [decide_eq_false_iff_not]
    exact kl_asymm ha
  · have : (L.filter fun a => decide (kl a.key i.key) || decide (kl i.key a.key)) = L.filter fun j => decide (j.key ≠ i.key) := by
      apply List.filter_congr
      intro x _
      rw [Bool.eq_iff_iff]
      simp only [Bool.or_eq_true, decide_eq_true_eq]
      constructor
      · rintro (h | h)
        · exact kl_ne h
        · exact (kl_ne h).symm
      · exact kl_total
    rw [this]
theorem getL_mem {L : List It} {k : Ky} {x : It} (h : getL L k = some x) : x ∈ L ∧ x.key = k := by
  unfold getL at h
  exact ⟨List.mem_of_find?_eq_some h, by simpa using (by simpa using List.find?_some h : k = x.key).symm⟩
theorem getL_none {L : List It} {k : Ky} : getL L k = none ↔ ∀ x ∈ L, x.key ≠ k := by
  unfold getL
  rw [List.find?_eq_none]
  simp only [decide_eq_true_eq]
  exact ⟨fun h x hx e => h x hx e.symm, fun h x hx e => h x hx e.symm⟩
theorem getL_of {L : List It} (hn : (L.map It.key).Nodup) {x : It} (hx : x ∈ L) : getL L x.key = some x := by
  cases h : getL L x.key with
  | none => exact absurd rfl (getL_none.1 h x hx)
  | some y => obtain ⟨h1, h2⟩ := getL_mem h; rw [nodup_inj (f := It.key) hn h1 hx h2]
theorem getL_perm {l L : List It} (hp : l.Perm L) (hn : (L.map It.key).Nodup) (k : Ky) : getL l k = getL L k := by
  cases h : getL L k with
  | none => exact getL_none.2 fun x hx => getL_none.1 h x (hp.mem_iff.1 hx)
  | some y =>
    obtain ⟨h1, rfl⟩ := getL_mem h
    exact getL_of ((hp.map It.key).nodup_iff.2 hn) (hp.mem_iff.2 h1)
theorem del_none {L : List It} {k : Ky} (h : getL L k = none) : delL L k = L := by
  unfold delL
  rw [List.filter_eq_self]
  intro x hx
  simpa using getL_none.1 h x hx
/-- A replaced one. -/
theorem repl_perm {i : It} : ∀ {l : List It}, (l.map It.key).Nodup → (∃ x ∈ l, x.key = i.key) → (l.map fun j => if j.key = i.key then i else j).Perm (i :: delL l i.key)
  | [], _, ⟨x, hx, _⟩ => by cases hx
  | y :: l, hn, ⟨x, hx, e⟩ => by
    simp only [List.map_cons, List.nodup_cons] at hn
    by_cases hy : y.key = i.key
    · have hno : ∀ z ∈ l, z.key ≠ i.key := fun z hz e => hn.1 (by rw [hy, ← e]; exact List.mem_map_of_mem hz)
      have h1 : (l.map fun j => if j.key = i.key then i else j) = l := by
        rw [List.map_congr_left (g := id) fun z hz => by simp [hno z hz], List.map_id]
      have h2 : delL (y :: l) i.key = l := by
        unfold delL
        simp only [List.filter_cons, hy, ne_eq, not_true, decide_false, Bool.false_eq_true, if_false]
        rw [List.filter_eq_self]
        intro z hz; simpa using hno z hz
      rw [List.map_cons, if_pos hy, h1, h2]
    · have hx' : ∃ x ∈ l, x.key = i.key := by
        rcases List.mem_cons.1 hx with rfl | hx
        · exact absurd e hy
        · exact ⟨x, hx, e⟩
      have ih := repl_perm hn.2 hx'
      have h2 : delL (y :: l) i.key = y :: delL l i.key := by
        unfold delL
        simp [List.filter_cons, hy]
      rw [List.map_cons, if_neg hy, h2]
      exact (ih.cons y).trans (List.Perm.swap i y _)

/-! ### what calls leave, and say -/
def putE (L : List It) (room : Int) (i : It) : Int := if getL L i.key = none ∧ room ≤ L.length then 2 else 0
def putL (L : List It) (room : Int) (i : It) : List It := if getL L i.key = none ∧ room ≤ L.length then L else insL L i
def appE (L : List It) (room : Int) (n : Nt) : Int :=
  if n.right = false then 1
  else if n.k = 1 then (if (getL L n.p.key).isSome then 0 else putE L room ⟨n.p, 1⟩)
  else if n.k = 2 then (if (getL L n.p.key).isSome then 0 else putE L room ⟨n.p, 2⟩)
  else 0
def appL (L : List It) (room : Int) (n : Nt) : List It :=
  if n.right = false then L
  else if n.k = 1 then (if (getL L n.p.key).isSome then L else putL L room ⟨n.p, 1⟩)
  else if n.k = 2 then (match getL L n.p.key with
    | some x => insL L ⟨x.p, 2⟩
    | none => putL L room ⟨n.p, 2⟩)
  else delL L n.p.key
def dropE (L : List It) (k : Ky) : Int := if (getL L k).isSome then 0 else 3
def actE (L : List It) (room : Int) (a : Ac) : Int := if a.dr then dropE L a.n.p.key else appE L room a.n
def actL (L : List It) (room : Int) (a : Ac) : List It := if a.dr then delL L a.n.p.key else appL L room a.n
def fitL (room : Int) : List It → List Nt → Nat
  | _, [] => 0
  | L, n :: ns => if appE L room n = 0 then fitL room (appL L room n) ns + 1 else 0
theorem Srt.put {L : List It} (h : Srt L) (room : Int) (i : It) : Srt (putL L room i) := by
  unfold putL; split
  · exact h
  · exact h.ins i
theorem Srt.app {L : List It} (h : Srt L) (room : Int) (n : Nt) : Srt (appL L room n) := by
  unfold appL
  split
  · exact h
  · split
    · split
      · exact h
      · exact h.put room _
    · split
      · split
        · exact h.ins _
        · exact h.put room _
      · exact h.del _
theorem Srt.act {L : List It} (h : Srt L) (room : Int) (a : Ac) : Srt (actL L room a) := by
  unfold actL; split
  · exact h.del _
  · exact h.app room _
theorem ins_length_of {L : List It} (hs : Srt L) (i : It) : (insL L i).length = if (getL L i.key).isSome then L.length else L.length + 1 := by
  rw [(ins_perm L i).length_eq, List.length_cons]
  cases h : getL L i.key with
  | none => rw [del_none h]; rfl
  | some x =>
    obtain ⟨h1, h2⟩ := getL_mem h
    have := (repl_perm (i := i) hs.nodup ⟨x, h1, h2⟩).length_eq
    rw [List.length_map, List.length_cons] at this
    simp only [Option.isSome_some, if_true]; omega
theorem put_len {L : List It} (hs : Srt L) {room : Int} (h0 : L.length ≤ room) (i : It) : (putL L room i).length ≤ room := by
  unfold putL
  split
  · exact h0
  · rename_i hn
    rw [ins_length_of hs]
    split
    · exact h0
    · rename_i hx
      have : getL L i.key = none := by cases h : getL L i.key with
        | none => rfl
        | some x => rw [h] at hx; simp at hx
      have : ¬ room ≤ L.length := fun h => hn ⟨this, h⟩
      omega
theorem del_len (L : List It) (k : Ky) : (delL L k).length ≤ L.length := List.length_filter_le _ _
theorem app_len {L : List It} (hs : Srt L) {room : Int} (h0 : L.length ≤ room) (n : Nt) : (appL L room n).length ≤ room := by
  unfold appL
  split
  · exact h0
  · split
    · split
      · exact h0
      · exact put_len hs h0 _
    · split
      · split
        · rename_i x hx
          rw [ins_length_of hs]
          obtain ⟨h1, h2⟩ := getL_mem hx
          have : getL L (⟨x.p, 2⟩ : It).key = some x := by show getL L x.key = some x; rw [h2]; exact hx
          rw [this]; simpa using h0
        · exact put_len hs h0 _
      · have := del_len L n.p.key; omega
theorem act_len {L : List It} (hs : Srt L) {room : Int} (h0 : L.length ≤ room) (a : Ac) : (actL L room a).length ≤ room := by
  unfold actL
  split
  · have := del_len L a.n.p.key; omega
  · exact app_len hs h0 _
end Go.Proofs.Ytlkjippiaghbmaa
/- table: its functions, as rules for their calls. -/
set_option maxRecDepth 20000
set_option linter.unusedSimpArgs false
set_option linter.unusedVariables false
namespace Go.Proofs.Ytlkjippiaghbmaa
open Go

structure TAt (h : PH) (a : Nat) (L : List It) (room : Int) (F : List Nat) : Prop where
  here : ∃ m l, h a = some (.cells #[.map (some m), .int .i64 room] T_table_Table (0, 0)) ∧ MAt h m l ∧ l.Perm L ∧ F = [a, m] ∧ a ≠ m
  srt : Srt L
theorem TAt.upd {h h' : PH} {a : Nat} {L : List It} {room : Int} {F G : List Nat} (H : TAt h a L room F) (u : Upd G h h') (hd : ∀ b ∈ F, b ∉ G) : TAt h' a L room F := by
  obtain ⟨m, l, ha, hm, hp, rfl, hn⟩ := H.here
  exact ⟨⟨m, l, u.get ha (hd a (by simp)), MapAt.upd hm u (hd m (by simp)), hp, rfl, hn⟩, H.srt⟩
theorem TAt.ext {h h' : PH} {a : Nat} {L : List It} {room : Int} {F : List Nat} (H : TAt h a L room F) (u : Ext h h') : TAt h' a L room F := H.upd u (by simp)
theorem TAt.known {h : PH} {a : Nat} {L : List It} {room : Int} {F : List Nat} (H : TAt h a L room F) : ∀ b ∈ F, h b ≠ none := by
  obtain ⟨m, l, ha, hm, hp, rfl, hn⟩ := H.here
  intro b hb
  simp only [List.mem_cons, List.not_mem_nil, or_false] at hb
  rcases hb with rfl | rfl
  · rw [ha]; simp
  · exact MapAt.known hm
theorem getM_pr (l : List It) (k : Ky) : getM (l.map It.pr) k = (getL l k).map It.val := by
  unfold getM getL
  rw [List.find?_map, Option.map_map]
  rfl
theorem look_eq {h : PH} {m : Nat} {l : List It} (hm : MAt h m l) (k : Ky) : SemE PG h (Instr.lookup T_map_table_id_api_Item (.map (some m)) (kenc k) true) = some (.tuple #[((getL l k).getD default).val, .bool (getL l k).isSome]) := by
  rw [look_found kkeyed T_map_table_id_api_Item.und T_api_Item.info T_api_Item.zero hm k true, getM_pr]
  cases getL l k <;> rfl
theorem del_pr (l : List It) (k : Ky) : delM (l.map It.pr) k = (delL l k).map It.pr := by
  unfold delM delL
  rw [List.filter_map]; rfl
theorem put_perm {l L : List It} (hp : l.Perm L) (hs : Srt L) (i : It) : ∃ l' : List It, putM (l.map It.pr) i.key i.val = l'.map It.pr ∧ l'.Perm (insL L i) := by
  have hnl : (l.map It.key).Nodup := (hp.map It.key).nodup_iff.2 hs.nodup
  have hk : keysM (l.map It.pr) = l.map It.key := by unfold keysM; rw [List.map_map]; rfl
  have hdel : (delL l i.key).Perm (delL L i.key) := hp.filter _
  unfold putM
  rw [hk]
  split
  · rename_i hm
    refine ⟨l.map fun j => if j.key = i.key then i else j, ?_, ?_⟩
    · rw [List.map_map, List.map_map]
      apply List.map_congr_left
      intro x _
      show (if x.key = i.key then (i.key, i.val) else (x.key, x.val)) = It.pr (if x.key = i.key then i else x)
      by_cases hc : x.key = i.key
      · rw [if_pos hc, if_pos hc]; rfl
      · rw [if_neg hc, if_neg hc]; rfl
    · obtain ⟨x, hx, e⟩ := List.mem_map.1 hm
      exact ((repl_perm hnl ⟨x, hx, e⟩).trans (hdel.cons i)).trans (ins_perm L i).symm
  · rename_i hm
    refine ⟨l ++ [i], by rw [List.map_append]; rfl, ?_⟩
    have hno : getL l i.key = none := getL_none.2 fun x hx e => hm (by rw [← e]; exact List.mem_map_of_mem hx)
    rw [del_none hno] at hdel
    exact (List.perm_append_singleton i l).trans ((hdel.cons i).trans (ins_perm L i).symm)
theorem id_build (k : Ky) : SemP PG (Instr.build T_table_id #[(0, .int .i64 k.1), (1, .int .u64 k.2)]) = some (kenc k) := by kernel_rfl
theorem it_build (p : Pk) (g : Int) : SemP PG (Instr.build T_api_Item #[(0, .agg p.cells.toArray), (1, .int .i64 g)]) = some (It.val ⟨p, g⟩) := by kernel_rfl

theorem New_ok {h : PH} (room : Int) {k : Value → PH → Prop} (hbad : (room < 1 ∨ 40 < room) → k (.tuple #[.pointer none, .int .i64 1]) h)
    (hk : 1 ≤ room → room ≤ 40 → ∀ a h' F, TAt h' a [] room F → Fresh h F → Ext h h' → k (.tuple #[.pointer (some ⟨a, 0, none⟩), .int .i64 0]) h') : CallsH PG id_table_New #[.int .i64 room] h k := by
  apply table_New.call
  unfold table_New
  by_cases d1 : room < 1
  · simp only [d1, popO_some, bindH_eq, condV_bool, condV_true, condV_false, yV_bool, gopV_tt, gopV_ff, gopV_tf, gopV_ft, pickV_t, pickV_f, pickV_bool, nilS_ptr, add_eq, sub_eq, mul_eq, lss_eq, leq_eq, gtr_eq, geq_eq, not_eq, minI_eq, maxI_eq, extract_0, extract_1, extract_2, eqlI, neqI, makeFunc_eq, decide_true, decide_false, if_true, if_false, Bool.false_eq_true, Bool.not_true, Bool.not_false, reduceIte, List.getElem?_toArray, List.getElem?_cons_zero, List.getElem?_cons_succ, Option.isSome_none, List.length_map]; exact hbad (.inl d1)
  · by_cases d2 : 40 < room
    · simp only [d1, d2, popO_some, bindH_eq, condV_bool, condV_true, condV_false, yV_bool, gopV_tt, gopV_ff, gopV_tf, gopV_ft, pickV_t, pickV_f, pickV_bool, nilS_ptr, add_eq, sub_eq, mul_eq, lss_eq, leq_eq, gtr_eq, geq_eq, not_eq, minI_eq, maxI_eq, extract_0, extract_1, extract_2, eqlI, neqI, makeFunc_eq, decide_true, decide_false, if_true, if_false, Bool.false_eq_true, Bool.not_true, Bool.not_false, reduceIte, List.getElem?_toArray, List.getElem?_cons_zero, List.getElem?_cons_succ, Option.isSome_none, List.length_map]; exact hbad (.inr d2)
    · simp only [d1, d2, makeMap_eq, popO_some, bindH_eq, condV_bool, condV_true, condV_false, yV_bool, gopV_tt, gopV_ff, gopV_tf, gopV_ft, pickV_t, pickV_f, pickV_bool, nilS_ptr, add_eq, sub_eq, mul_eq, lss_eq, leq_eq, gtr_eq, geq_eq, not_eq, minI_eq, maxI_eq, extract_0, extract_1, extract_2, eqlI, neqI, makeFunc_eq, decide_true, decide_false, if_true, if_false, Bool.false_eq_true, Bool.not_true, Bool.not_false, reduceIte, List.getElem?_toArray, List.getElem?_cons_zero, List.getElem?_cons_succ, Option.isSome_none, List.length_map]
      intro m hm
      refine popO_pure ?_
      try rw [bindH_eq]
      have hb : SemP PG (Instr.build T_table_Table #[(0, .map (some m)), (1, .int .i64 room)]) = some (.agg #[.map (some m), .int .i64 room]) := by kernel_rfl
      rw [hb, popO_some]
      intro a ha
      try rw [bindH_eq]
      have ham : a ≠ m := by rintro rfl; rw [set_same] at ha; cases ha
      have u1 : Ext h (h.set m (.map #[] 0)) := Upd.new hm
      have hma : (h.set m (.map #[] 0)) a = none := ha
      refine hk (by omega) (by omega) a _ [a, m] ⟨⟨m, [], set_same, ?_, List.Perm.refl _, rfl, ham⟩, List.Pairwise.nil⟩ (fun b hb => ?_) (u1.trans (Upd.new ha))
      · exact MapAt.ext MapAt.new (Upd.new ha)
      · simp only [List.mem_cons, List.not_mem_nil, or_false] at hb
        rcases hb with rfl | rfl
        · exact u1.none hma
        · exact hm

theorem tput_ok {h : PH} {a : Nat} {L : List It} {room : Int} {F : List Nat} (H : TAt h a L room F) (i : It) {k : Value → PH → Prop}
    (hk : ∀ h', TAt h' a (putL L room i) room F → Upd F h h' → k (.int .i64 (putE L room i)) h') : CallsH PG id_table_Table_put #[.pointer (some ⟨a, 0, none⟩), kenc i.key, i.val] h k := by
  apply table_Table_put.call
  unfold table_Table_put
  intro r1 hr1
  rw [bindH_eq]
  intro r3 hr3
  rw [bindH_eq]
  have u1 : Ext h (h.set r1 (.cells (Value.cells (kenc i.key)) T_table_id)) := Upd.new hr1
  have b1 : Bx (h.set r1 (.cells (Value.cells (kenc i.key)) T_table_id)) r1 [.int .i64 i.key.1, .int .u64 i.key.2] := Bx.new
  generalize h.set r1 (.cells (Value.cells (kenc i.key)) T_table_id) = h1 at *
  have u2 : Ext h1 (h1.set r3 (.cells (Value.cells i.val) T_api_Item)) := Upd.new hr3
  have b3 : Bx (h1.set r3 (.cells (Value.cells i.val) T_api_Item)) r3 i.cells := Bx.new
  generalize h1.set r3 (.cells (Value.cells i.val) T_api_Item) = h2 at *
  have b1 := b1.ext u2
  have u := u1.trans u2
  have H2 := H.ext u
  have hs := H.srt
  obtain ⟨m, l, ha, hm, hp, rfl, ham⟩ := H2.here
  have hgl := fun k => getL_perm hp hs.nodup k
  have c0 : cellH h2 ⟨a, 0, none⟩ = some (.map (some m)) := by simp [cellH, ha]
  simp only [T_table_Table.f0, T_map_table_id_api_Item.load, c0, b1.id, look_eq hm, hgl, popO_some, bindH_eq, condV_bool, condV_true, condV_false, yV_bool, gopV_tt, gopV_ff, gopV_tf, gopV_ft, pickV_t, pickV_f, pickV_bool, nilS_ptr, add_eq, sub_eq, mul_eq, lss_eq, leq_eq, gtr_eq, geq_eq, not_eq, minI_eq, maxI_eq, extract_0, extract_1, extract_2, eqlI, neqI, makeFunc_eq, decide_true, decide_false, if_true, if_false, Bool.false_eq_true, Bool.not_true, Bool.not_false, reduceIte, List.getElem?_toArray, List.getElem?_cons_zero, List.getElem?_cons_succ, Option.isSome_none, List.length_map]
  intro r12 hr12
  try rw [bindH_eq]
  refine put_it hr12 _ fun h5 b5 u5 => ?_
  have ha5 := u5.get ha
  have hm5 := MapAt.ext hm u5
  have b1 := b1.ext u5
  have b3 := b3.ext u5
  have c0 : cellH h5 ⟨a, 0, none⟩ = some (.map (some m)) := by simp [cellH, ha5]
  have c1 : cellH h5 ⟨a, 0 + 1, none⟩ = some (.int .i64 room) := by simp [cellH, ha5]
  have lm := MapAt.len hm5 (t' := T_int) T_map_table_id_api_Item.und
  rw [List.length_map, hp.length_eq] at lm
  have uu := u.trans u5
  have fin : ¬ (getL L i.key = none ∧ room ≤ L.length) → SemH PG (mapUpdS T_map_table_id_api_Item (.map (some m)) (kenc i.key) i.val) h5 fun v61 h62 => k (.int .i64 0) h62 := fun hc => by
    refine map_put kkeyed T_map_table_id_api_Item.und hm5 i.key i.val fun h6 hm6 u6 => ?_
    obtain ⟨l', e1, e2⟩ := put_perm hp hs i
    rw [e1] at hm6
    have : putE L room i = 0 := by unfold putE; rw [if_neg hc]
    rw [← this]
    have : putL L room i = insL L i := by unfold putL; rw [if_neg hc]
    refine hk h6 ⟨⟨m, l', u6.get ha5 (by simpa using ham), hm6, by rw [this]; exact e2, rfl, ham⟩, by rw [this]; exact hs.ins i⟩ ?_
    exact Upd.then (Ext.upd uu) u6 (fun b hb => by left; simp at hb; simp [hb])
  by_cases hx : (getL L i.key).isSome = true
  · have hc : ¬ (getL L i.key = none ∧ room ≤ L.length) := fun hc => by rw [hc.1] at hx; cases hx
    have hf := fin hc
    simp only [hx, T_table_Table.f0, T_table_Table.f1, T_map_table_id_api_Item.load, c0, b1.id, b3.it, popO_some, bindH_eq, condV_bool, condV_true, condV_false, yV_bool, gopV_tt, gopV_ff, gopV_tf, gopV_ft, pickV_t, pickV_f, pickV_bool, nilS_ptr, add_eq, sub_eq, mul_eq, lss_eq, leq_eq, gtr_eq, geq_eq, not_eq, minI_eq, maxI_eq, extract_0, extract_1, extract_2, eqlI, neqI, makeFunc_eq, decide_true, decide_false, if_true, if_false, Bool.false_eq_true, Bool.not_true, Bool.not_false, reduceIte, List.getElem?_toArray, List.getElem?_cons_zero, List.getElem?_cons_succ, Option.isSome_none, List.length_map]
    exact hf
  · have hx' : (getL L i.key).isSome = false := by simpa using hx
    have hnone : getL L i.key = none := by simpa using hx'
    by_cases hr : room ≤ L.length
    · have e1 : (room ≤ (L.length : Int)) = True := by apply eq_true; exact hr
      simp only [hx', T_table_Table.f0, T_table_Table.f1, T_map_table_id_api_Item.load, T_int.load, c0, c1, lm, e1, b1.id, b3.it, popO_some, bindH_eq, condV_bool, condV_true, condV_false, yV_bool, gopV_tt, gopV_ff, gopV_tf, gopV_ft, pickV_t, pickV_f, pickV_bool, nilS_ptr, add_eq, sub_eq, mul_eq, lss_eq, leq_eq, gtr_eq, geq_eq, not_eq, minI_eq, maxI_eq, extract_0, extract_1, extract_2, eqlI, neqI, makeFunc_eq, decide_true, decide_false, if_true, if_false, Bool.false_eq_true, Bool.not_true, Bool.not_false, reduceIte, List.getElem?_toArray, List.getElem?_cons_zero, List.getElem?_cons_succ, Option.isSome_none, List.length_map]
      have h1 : putE L room i = 2 := by unfold putE; rw [if_pos ⟨hnone, hr⟩]
      have h2 : putL L room i = L := by unfold putL; rw [if_pos ⟨hnone, hr⟩]
      rw [← h1]
      refine hk h5 ?_ (Ext.upd uu)
      rw [h2]; exact H.ext uu
    · have e1 : (room ≤ (L.length : Int)) = False := by apply eq_false; exact hr
      have hf := fin (fun hc => hr hc.2)
      simp only [hx', T_table_Table.f0, T_table_Table.f1, T_map_table_id_api_Item.load, T_int.load, c0, c1, lm, e1, b1.id, b3.it, popO_some, bindH_eq, condV_bool, condV_true, condV_false, yV_bool, gopV_tt, gopV_ff, gopV_tf, gopV_ft, pickV_t, pickV_f, pickV_bool, nilS_ptr, add_eq, sub_eq, mul_eq, lss_eq, leq_eq, gtr_eq, geq_eq, not_eq, minI_eq, maxI_eq, extract_0, extract_1, extract_2, eqlI, neqI, makeFunc_eq, decide_true, decide_false, if_true, if_false, Bool.false_eq_true, Bool.not_true, Bool.not_false, reduceIte, List.getElem?_toArray, List.getElem?_cons_zero, List.getElem?_cons_succ, Option.isSome_none, List.length_map]
      exact hf

theorem sent_ok {h : PH} {a : Nat} {L : List It} {room : Int} {F : List Nat} (H : TAt h a L room F) (p : Pk) {k : Value → PH → Prop}
    (hk : ∀ h', TAt h' a (if (getL L p.key).isSome then L else putL L room ⟨p, 1⟩) room F → Upd F h h' → k (.int .i64 (if (getL L p.key).isSome then 0 else putE L room ⟨p, 1⟩)) h') :
    CallsH PG id_table_Table_sent #[.pointer (some ⟨a, 0, none⟩), kenc p.key, .agg p.cells.toArray] h k := by
  apply table_Table_sent.call
  unfold table_Table_sent
  intro r1 hr1
  rw [bindH_eq]
  intro r3 hr3
  rw [bindH_eq]
  have u1 : Ext h (h.set r1 (.cells (Value.cells (kenc p.key)) T_table_id)) := Upd.new hr1
  have b1 : Bx (h.set r1 (.cells (Value.cells (kenc p.key)) T_table_id)) r1 [.int .i64 p.key.1, .int .u64 p.key.2] := Bx.new
  generalize h.set r1 (.cells (Value.cells (kenc p.key)) T_table_id) = h1 at *
  have u2 : Ext h1 (h1.set r3 (.cells (Value.cells (.agg p.cells.toArray)) T_api_Packet)) := Upd.new hr3
  have b3 : Bx (h1.set r3 (.cells (Value.cells (.agg p.cells.toArray)) T_api_Packet)) r3 p.cells := Bx.new
  generalize h1.set r3 (.cells (Value.cells (.agg p.cells.toArray)) T_api_Packet) = h2 at *
  have b1 := b1.ext u2
  have u := u1.trans u2
  have H2 := H.ext u
  have hs := H.srt
  obtain ⟨m, l, ha, hm, hp, hF, ham⟩ := H2.here
  have hgl := fun k => getL_perm hp hs.nodup k
  have c0 : cellH h2 ⟨a, 0, none⟩ = some (.map (some m)) := by simp [cellH, ha]
  simp only [T_table_Table.f0, T_map_table_id_api_Item.load, c0, b1.id, look_eq hm, hgl, popO_some, bindH_eq, condV_bool, condV_true, condV_false, yV_bool, gopV_tt, gopV_ff, gopV_tf, gopV_ft, pickV_t, pickV_f, pickV_bool, nilS_ptr, add_eq, sub_eq, mul_eq, lss_eq, leq_eq, gtr_eq, geq_eq, not_eq, minI_eq, maxI_eq, extract_0, extract_1, extract_2, eqlI, neqI, makeFunc_eq, decide_true, decide_false, if_true, if_false, Bool.false_eq_true, Bool.not_true, Bool.not_false, reduceIte, List.getElem?_toArray, List.getElem?_cons_zero, List.getElem?_cons_succ, Option.isSome_none, List.length_map]
  intro r12 hr12
  try rw [bindH_eq]
  refine put_it hr12 _ fun h5 b5 u5 => ?_
  have b1 := b1.ext u5
  have p3 := (b3.ext u5).pk (o := 0) (p := p) rfl
  have uu := u.trans u5
  by_cases hx : (getL L p.key).isSome = true
  · simp only [hx, popO_some, bindH_eq, condV_bool, condV_true, condV_false, yV_bool, gopV_tt, gopV_ff, gopV_tf, gopV_ft, pickV_t, pickV_f, pickV_bool, nilS_ptr, add_eq, sub_eq, mul_eq, lss_eq, leq_eq, gtr_eq, geq_eq, not_eq, minI_eq, maxI_eq, extract_0, extract_1, extract_2, eqlI, neqI, makeFunc_eq, decide_true, decide_false, if_true, if_false, Bool.false_eq_true, Bool.not_true, Bool.not_false, reduceIte, List.getElem?_toArray, List.getElem?_cons_zero, List.getElem?_cons_succ, Option.isSome_none, List.length_map] at hk ⊢
    exact hk h5 (H.ext uu) (Ext.upd uu)
  · have hx' : (getL L p.key).isSome = false := by simpa using hx
    simp only [hx', b1.id, p3, it_build, popO_some, bindH_eq, condV_bool, condV_true, condV_false, yV_bool, gopV_tt, gopV_ff, gopV_tf, gopV_ft, pickV_t, pickV_f, pickV_bool, nilS_ptr, add_eq, sub_eq, mul_eq, lss_eq, leq_eq, gtr_eq, geq_eq, not_eq, minI_eq, maxI_eq, extract_0, extract_1, extract_2, eqlI, neqI, makeFunc_eq, decide_true, decide_false, if_true, if_false, Bool.false_eq_true, Bool.not_true, Bool.not_false, reduceIte, List.getElem?_toArray, List.getElem?_cons_zero, List.getElem?_cons_succ, Option.isSome_none, List.length_map] at hk ⊢
    refine tput_ok (H.ext uu) ⟨p, 1⟩ fun h6 H6 u6 => hk h6 H6 (Upd.then (Ext.upd uu) u6 fun b hb => .inl hb)

theorem received_ok {h : PH} {a : Nat} {L : List It} {room : Int} {F : List Nat} (H : TAt h a L room F) (p : Pk) {k : Value → PH → Prop}
    (hk : ∀ h', TAt h' a (match getL L p.key with
      | some x => insL L ⟨x.p, 2⟩
      | none => putL L room ⟨p, 2⟩) room F → Upd F h h' → k (.int .i64 (if (getL L p.key).isSome then 0 else putE L room ⟨p, 2⟩)) h') :
    CallsH PG id_table_Table_received #[.pointer (some ⟨a, 0, none⟩), kenc p.key, .agg p.cells.toArray] h k := by
  apply table_Table_received.call
  unfold table_Table_received
  intro r1 hr1
  rw [bindH_eq]
  intro r3 hr3
  rw [bindH_eq]
  have u1 : Ext h (h.set r1 (.cells (Value.cells (kenc p.key)) T_table_id)) := Upd.new hr1
  have b1 : Bx (h.set r1 (.cells (Value.cells (kenc p.key)) T_table_id)) r1 [.int .i64 p.key.1, .int .u64 p.key.2] := Bx.new
  generalize h.set r1 (.cells (Value.cells (kenc p.key)) T_table_id) = h1 at *
  have u2 : Ext h1 (h1.set r3 (.cells (Value.cells (.agg p.cells.toArray)) T_api_Packet)) := Upd.new hr3
  have b3 : (h1.set r3 (.cells (Value.cells (.agg p.cells.toArray)) T_api_Packet)) r3 = some (.cells p.cells.toArray T_api_Packet (0, 0)) := set_same
  have n3 : h r3 = none := u1.none hr3
  have n13 : r1 ≠ r3 := by rintro rfl; exact b1.known hr3
  generalize h1.set r3 (.cells (Value.cells (.agg p.cells.toArray)) T_api_Packet) = h2 at *
  have b1 := b1.ext u2
  have u := u1.trans u2
  have H2 := H.ext u
  have hs := H.srt
  obtain ⟨m, l, ha, hm, hp, hF, ham⟩ := H2.here
  have hgl := fun k => getL_perm hp hs.nodup k
  have c0 : cellH h2 ⟨a, 0, none⟩ = some (.map (some m)) := by simp [cellH, ha]
  simp only [T_table_Table.f0, T_map_table_id_api_Item.load, c0, b1.id, look_eq hm, hgl, popO_some, bindH_eq, condV_bool, condV_true, condV_false, yV_bool, gopV_tt, gopV_ff, gopV_tf, gopV_ft, pickV_t, pickV_f, pickV_bool, nilS_ptr, add_eq, sub_eq, mul_eq, lss_eq, leq_eq, gtr_eq, geq_eq, not_eq, minI_eq, maxI_eq, extract_0, extract_1, extract_2, eqlI, neqI, makeFunc_eq, decide_true, decide_false, if_true, if_false, Bool.false_eq_true, Bool.not_true, Bool.not_false, reduceIte, List.getElem?_toArray, List.getElem?_cons_zero, List.getElem?_cons_succ, Option.isSome_none, List.length_map]
  intro r12 hr12
  try rw [bindH_eq]
  refine put_it hr12 _ fun h5 b5 u5 => ?_
  have b1 := b1.ext u5
  have b3 := u5.get b3
  have uu := u.trans u5
  cases hx : getL L p.key with
  | none =>
    have p3 := (Bx.mk ⟨_, b3⟩ : Bx h5 r3 p.cells).pk (o := 0) (p := p) rfl
    simp only [hx, Option.isSome_none, popO_some, bindH_eq, condV_bool, condV_true, condV_false, yV_bool, gopV_tt, gopV_ff, gopV_tf, gopV_ft, pickV_t, pickV_f, pickV_bool, nilS_ptr, add_eq, sub_eq, mul_eq, lss_eq, leq_eq, gtr_eq, geq_eq, not_eq, minI_eq, maxI_eq, extract_0, extract_1, extract_2, eqlI, neqI, makeFunc_eq, decide_true, decide_false, if_true, if_false, Bool.false_eq_true, Bool.not_true, Bool.not_false, reduceIte, List.getElem?_toArray, List.getElem?_cons_zero, List.getElem?_cons_succ, Option.isSome_none, List.length_map] at hk ⊢
    unfold table_Table_received_k20
    simp only [b1.id, p3, it_build, popO_some, bindH_eq, condV_bool, condV_true, condV_false, yV_bool, gopV_tt, gopV_ff, gopV_tf, gopV_ft, pickV_t, pickV_f, pickV_bool, nilS_ptr, add_eq, sub_eq, mul_eq, lss_eq, leq_eq, gtr_eq, geq_eq, not_eq, minI_eq, maxI_eq, extract_0, extract_1, extract_2, eqlI, neqI, makeFunc_eq, decide_true, decide_false, if_true, if_false, Bool.false_eq_true, Bool.not_true, Bool.not_false, reduceIte, List.getElem?_toArray, List.getElem?_cons_zero, List.getElem?_cons_succ, Option.isSome_none, List.length_map]
    refine tput_ok (H.ext uu) ⟨p, 2⟩ fun h6 H6 u6 => hk h6 H6 (Upd.then (Ext.upd uu) u6 fun b hb => .inl hb)
  | some x =>
    obtain ⟨hx1, hx2⟩ := getL_mem hx
    have p5 := b5.pk (o := 0) (p := x.p) (by rw [hx]; rfl)
    simp only [hx, Option.isSome_some, T_api_Item.f0, p5, popO_some, bindH_eq, condV_bool, condV_true, condV_false, yV_bool, gopV_tt, gopV_ff, gopV_tf, gopV_ft, pickV_t, pickV_f, pickV_bool, nilS_ptr, add_eq, sub_eq, mul_eq, lss_eq, leq_eq, gtr_eq, geq_eq, not_eq, minI_eq, maxI_eq, extract_0, extract_1, extract_2, eqlI, neqI, makeFunc_eq, decide_true, decide_false, if_true, if_false, Bool.false_eq_true, Bool.not_true, Bool.not_false, reduceIte, List.getElem?_toArray, List.getElem?_cons_zero, List.getElem?_cons_succ, Option.isSome_none, List.length_map] at hk ⊢
    refine store_box b3 T_api_Packet.info (by show 4 = 4; rfl) (by show 0 < 4; decide) (by rfl) x.p.allCell ?_
    have u6 : Upd [r3] h5 (h5.set r3 (.cells x.p.cells.toArray T_api_Packet (0, 0))) := Upd.set (by simp)
    have b6 : Bx (h5.set r3 (.cells x.p.cells.toArray T_api_Packet (0, 0))) r3 x.p.cells := ⟨_, set_same⟩
    generalize h5.set r3 (.cells x.p.cells.toArray T_api_Packet (0, 0)) = h6 at *
    have uu6 := uu.fresh u6 (Fresh.one n3)
    have b1 := b1.upd u6 (by simpa using n13)
    have p6 := b6.pk (o := 0) (p := x.p) rfl
    unfold table_Table_received_k20
    simp only [b1.id, p6, it_build, popO_some, bindH_eq, condV_bool, condV_true, condV_false, yV_bool, gopV_tt, gopV_ff, gopV_tf, gopV_ft, pickV_t, pickV_f, pickV_bool, nilS_ptr, add_eq, sub_eq, mul_eq, lss_eq, leq_eq, gtr_eq, geq_eq, not_eq, minI_eq, maxI_eq, extract_0, extract_1, extract_2, eqlI, neqI, makeFunc_eq, decide_true, decide_false, if_true, if_false, Bool.false_eq_true, Bool.not_true, Bool.not_false, reduceIte, List.getElem?_toArray, List.getElem?_cons_zero, List.getElem?_cons_succ, Option.isSome_none, List.length_map]
    have hkey : kenc p.key = kenc (⟨x.p, 2⟩ : It).key := by rw [← hx2]; rfl
    rw [hkey]
    have hsome : getL L (⟨x.p, 2⟩ : It).key = some x := by show getL L x.key = some x; rw [hx2]; exact hx
    have e1 : putE L room ⟨x.p, 2⟩ = 0 := by unfold putE; rw [hsome]; simp
    have e2 : putL L room ⟨x.p, 2⟩ = insL L ⟨x.p, 2⟩ := by unfold putL; rw [hsome]; simp
    refine tput_ok (H.ext uu6) ⟨x.p, 2⟩ fun h7 H7 u7 => ?_
    rw [e2] at H7
    rw [e1]
    exact hk h7 H7 (Upd.then (Ext.upd uu6) u7 fun b hb => .inl hb)

theorem over_ok {h : PH} {a : Nat} {L : List It} {room : Int} {F : List Nat} (H : TAt h a L room F) (p : Pk) {k : Value → PH → Prop}
    (hk : ∀ h', TAt h' a (delL L p.key) room F → Upd F h h' → k (.int .i64 0) h') :
    CallsH PG id_table_Table_over #[.pointer (some ⟨a, 0, none⟩), kenc p.key, .agg p.cells.toArray] h k := by
  apply table_Table_over.call
  unfold table_Table_over
  intro r1 hr1
  rw [bindH_eq]
  intro r3 hr3
  rw [bindH_eq]
  have u1 : Ext h (h.set r1 (.cells (Value.cells (kenc p.key)) T_table_id)) := Upd.new hr1
  have b1 : Bx (h.set r1 (.cells (Value.cells (kenc p.key)) T_table_id)) r1 [.int .i64 p.key.1, .int .u64 p.key.2] := Bx.new
  generalize h.set r1 (.cells (Value.cells (kenc p.key)) T_table_id) = h1 at *
  have u2 : Ext h1 (h1.set r3 (.cells (Value.cells (.agg p.cells.toArray)) T_api_Packet)) := Upd.new hr3
  generalize h1.set r3 (.cells (Value.cells (.agg p.cells.toArray)) T_api_Packet) = h2 at *
  have b1 := b1.ext u2
  have u := u1.trans u2
  have H2 := H.ext u
  have hs := H.srt
  obtain ⟨m, l, ha, hm, hp, rfl, ham⟩ := H2.here
  have c0 : cellH h2 ⟨a, 0, none⟩ = some (.map (some m)) := by simp [cellH, ha]
  simp only [T_table_Table.f0, T_map_table_id_api_Item.load, c0, b1.id, popO_some, bindH_eq, condV_bool, condV_true, condV_false, yV_bool, gopV_tt, gopV_ff, gopV_tf, gopV_ft, pickV_t, pickV_f, pickV_bool, nilS_ptr, add_eq, sub_eq, mul_eq, lss_eq, leq_eq, gtr_eq, geq_eq, not_eq, minI_eq, maxI_eq, extract_0, extract_1, extract_2, eqlI, neqI, makeFunc_eq, decide_true, decide_false, if_true, if_false, Bool.false_eq_true, Bool.not_true, Bool.not_false, reduceIte, List.getElem?_toArray, List.getElem?_cons_zero, List.getElem?_cons_succ, Option.isSome_none, List.length_map]
  refine map_del kkeyed T_map_table_id_api_Item.und hm p.key rfl fun h3 hm3 u3 => ?_
  rw [del_pr] at hm3
  refine hk h3 ⟨⟨m, delL l p.key, u3.get ha (by simpa using ham), hm3, hp.filter _, rfl, ham⟩, hs.del _⟩ ?_
  exact Upd.then (Ext.upd u) u3 (fun b hb => by left; simp at hb; simp [hb])

end Go.Proofs.Ytlkjippiaghbmaa
/- making a slice of so many zero values. -/
set_option linter.unusedSimpArgs false
set_option linter.unusedVariables false
namespace Go.Proofs.Ytlkjippiaghbmaa
open Go
section
variable {P : Program} {t e : TypeId}
theorem semA_info {α : Type} {d : TypeInfo} (hi : P.info? t = some d) (f : TypeInfo → Sem α) : SemA P (typeInfo t >>= f) = SemA P (f d) := by
  show SemA P ((match P.info? t with | some d => pure d | none => stuck _ : Sem TypeInfo).bind f) = _
  rw [hi]; rfl
theorem semA_askRoom {α : Type} {n : Nat} (f : Unit → Sem α) : SemA P (askRoom n >>= f) = SemA P (f ()) := by
  unfold askRoom
  split <;> rfl
theorem range_flat (z : Array Value) (hz : 0 < z.size) : ∀ n : Nat, ((Array.range (n * z.size)).map (z[· % z.size]!)).toList = (List.replicate n z.toList).flatten := by
  intro n
  have hr : Rows z.size (List.replicate n z.toList) := fun r hr => by rw [List.eq_of_mem_replicate hr]; simp
  apply List.ext_getElem?
  intro j
  have hfl : (List.replicate n z.toList).flatten.length = n * z.size := by rw [hr.flat, List.length_replicate]
  by_cases hj : j < n * z.size
  · have hi : j / z.size < n := (Nat.div_lt_iff_lt_mul hz).2 hj
    have hat := hr.at (i := j / z.size) (r := z.toList) (by rw [List.getElem?_replicate, if_pos hi])
    have hc : j % z.size < z.size := Nat.mod_lt _ hz
    have e1 : (List.replicate n z.toList).flatten[j]? = z.toList[j % z.size]? := by
      conv => rhs; rw [← hat]
      rw [List.getElem?_take, if_pos hc, List.getElem?_drop]
      congr 1
      rw [Nat.mul_comm]; exact (Nat.div_add_mod j z.size).symm
    rw [e1]
    simp [hj, hc]
  · rw [List.getElem?_eq_none (by simp; omega), List.getElem?_eq_none (by omega)]
set_option maxRecDepth 100000 in
theorem makeSlice_eq {i : TypeInfo} {z : Value} {size bytes n : Nat} (hu : P.underlying t = some (.slice e)) (hi : P.info? e = some i) (hn : i.size = size) (hb : i.bytes = bytes) (hz : i.zero = some z) (hzs : z.cells.size = size) (h0 : 0 < size)
    (hle : bytes * n ≤ 281474976710656) (hnn : n ≤ 1000000000) :
    ∃ zs, SemA P (Instr.makeSlice t (.int .i64 n) (.int .i64 n)) = some (.cells zs e (0, 0), fun r => pure (.slice (some ⟨r, 0, none⟩) n n)) ∧ zs.toList = (List.replicate n z.cells.toList).flatten := by
  refine ⟨(Array.range (n * z.cells.size)).map (z.cells[· % z.cells.size]!), ?_, range_flat _ (by omega) n⟩
  have hw : IntKind.i64.wrap (n : Int) = n := IntWalk.i64_in _ ⟨by omega, by omega⟩
  unfold Instr.makeSlice
  rw [semA_und hu]
  dsimp only
  show SemA P (typeInfo e >>= _) = _
  rw [semA_info hi, hb]
  have hc1 : ((bytes : Int) * (n : Int) > 2 ^ 48) = False := by
    apply eq_false
    have : ((bytes * n : Nat) : Int) ≤ ((281474976710656 : Nat) : Int) := Int.ofNat_le.2 hle
    rw [Int.natCast_mul] at this
    have h2 : (2 : Int) ^ 48 = ((281474976710656 : Nat) : Int) := by rfl
    omega
  have hc2 : ((n : Int) < 0) = False := by apply eq_false; omega
  have hc3 : ((n : Int) > (n : Int)) = False := by apply eq_false; omega
  simp only [hw, hc1, hc2, hc3, decide_false, Bool.or_self, Bool.false_eq_true, if_false, or_self]
  rw [semA_askRoom, sizeOf_bind, semA_info hi, hn]
  simp only [Int.toNat_natCast]
  by_cases hn0 : n = 0
  · subst hn0
    have hr : ∀ f : Nat → Value, (Array.range 0).map f = #[] := fun f => by simp
    simp only [Nat.zero_mul, if_true, hr]
    rfl
  · have hne : (n * size = 0) = False := by apply eq_false; intro h; rcases Nat.mul_eq_zero.1 h with h | h <;> omega
    simp only [hne, if_false]
    have hzv : ∀ (f : Value → Sem Value), SemA P (zeroValue e >>= f) = SemA P (f z) := fun f => by
      unfold zeroValue
      show SemA P ((typeInfo e >>= _) >>= f) = _
      simp only [bind_assoc]
      rw [semA_info hi, hz]; rfl
    rw [hzv, ← hzs]
    rfl
end
end Go.Proofs.Ytlkjippiaghbmaa
/- table: Apply, Copy, Fit, Items. -/
set_option maxRecDepth 20000
set_option linter.unusedSimpArgs false
set_option linter.unusedVariables false
namespace Go.Proofs.Ytlkjippiaghbmaa
open Go

theorem fn_build : SemP PG (Instr.build T_5_functable_Table_table_id_api_Packet_api_Errno #[(1, (Value.func (Fn.func id_table_Table_sent) #[] #[])), (2, (Value.func (Fn.func id_table_Table_received) #[] #[])), (3, (Value.func (Fn.func id_table_Table_over) #[] #[])), (4, (Value.func (Fn.func id_table_Table_over) #[] #[]))]) =
    some (.agg #[.nilFunc, .func (.func id_table_Table_sent) #[] #[], .func (.func id_table_Table_received) #[] #[], .func (.func id_table_Table_over) #[] #[], .func (.func id_table_Table_over) #[] #[]]) := by kernel_rfl
theorem callC_func {f : FuncId} {args : Array Value} {h : PH} {k : Value → PH → Prop} (hc : CallsH PG f args h k) : callC PG (.func (.func f) #[] #[]) args h k := by
  unfold callC
  simpa using hc
theorem pk_key_build (p : Pk) : SemP PG (Instr.build T_table_id #[(0, .int .i64 p.f), (1, .int .u64 p.s)]) = some (kenc p.key) := id_build p.key

theorem Apply_ok {h : PH} {a : Nat} {L : List It} {room : Int} {F : List Nat} (H : TAt h a L room F) (n : Nt) {k : Value → PH → Prop}
    (hk : ∀ h', TAt h' a (appL L room n) room F → Upd F h h' → k (.int .i64 (appE L room n)) h') : CallsH PG id_table_Table_Apply #[.pointer (some ⟨a, 0, none⟩), .agg n.cells.toArray] h k := by
  apply table_Table_Apply.call
  unfold table_Table_Apply
  intro r1 hr1
  rw [bindH_eq]
  have u1 : Ext h (h.set r1 (.cells (Value.cells (.agg n.cells.toArray)) T_api_Note)) := Upd.new hr1
  have b1 : Bx (h.set r1 (.cells (Value.cells (.agg n.cells.toArray)) T_api_Note)) r1 n.cells := Bx.new
  generalize h.set r1 (.cells (Value.cells (.agg n.cells.toArray)) T_api_Note) = h1 at *
  simp only [b1.nt, popO_some, bindH_eq, condV_bool, condV_true, condV_false, yV_bool, gopV_tt, gopV_ff, gopV_tf, gopV_ft, pickV_t, pickV_f, pickV_bool, nilS_ptr, add_eq, sub_eq, mul_eq, lss_eq, leq_eq, gtr_eq, geq_eq, not_eq, minI_eq, maxI_eq, extract_0, extract_1, extract_2, eqlI, neqI, makeFunc_eq, decide_true, decide_false, if_true, if_false, Bool.false_eq_true, Bool.not_true, Bool.not_false, reduceIte, List.getElem?_toArray, List.getElem?_cons_zero, List.getElem?_cons_succ, Option.isSome_none, List.length_map]
  refine NCheck_ok n fun h2 u2 => ?_
  have uu := u1.trans u2
  have b2 := b1.ext u2
  cases hr : n.right with
  | false =>
    have e1 : appE L room n = 1 := by unfold appE; rw [if_pos hr]
    have e2 : appL L room n = L := by unfold appL; rw [if_pos hr]
    rw [e1, e2] at hk
    simp only [Bool.false_eq_true, if_false, popO_some, bindH_eq, condV_bool, condV_true, condV_false, yV_bool, gopV_tt, gopV_ff, gopV_tf, gopV_ft, pickV_t, pickV_f, pickV_bool, nilS_ptr, add_eq, sub_eq, mul_eq, lss_eq, leq_eq, gtr_eq, geq_eq, not_eq, minI_eq, maxI_eq, extract_0, extract_1, extract_2, eqlI, neqI, makeFunc_eq, decide_true, decide_false, if_true, if_false, Bool.false_eq_true, Bool.not_true, Bool.not_false, reduceIte, List.getElem?_toArray, List.getElem?_cons_zero, List.getElem?_cons_succ, Option.isSome_none, List.length_map]
    exact hk h2 (H.ext uu) (Ext.upd uu)
  | true =>
    simp only [if_true, fn_build, popO_some, bindH_eq, condV_bool, condV_true, condV_false, yV_bool, gopV_tt, gopV_ff, gopV_tf, gopV_ft, pickV_t, pickV_f, pickV_bool, nilS_ptr, add_eq, sub_eq, mul_eq, lss_eq, leq_eq, gtr_eq, geq_eq, not_eq, minI_eq, maxI_eq, extract_0, extract_1, extract_2, eqlI, neqI, makeFunc_eq, decide_true, decide_false, if_true, if_false, Bool.false_eq_true, Bool.not_true, Bool.not_false, reduceIte, List.getElem?_toArray, List.getElem?_cons_zero, List.getElem?_cons_succ, Option.isSome_none, List.length_map]
    intro r8 hr8
    try rw [bindH_eq]
    refine store_box set_same T_5_functable_Table_table_id_api_Packet_api_Errno.info (by show 5 = 5; rfl) (by show 0 < 5; decide) (by rw [T_5_functable_Table_table_id_api_Packet_api_Errno.zc]; rfl) (by simp [isCell]) ?_
    rw [set_set_same]
    have u3 : Ext h2 (h2.set r8 (.cells #[.nilFunc, .func (.func id_table_Table_sent) #[] #[], .func (.func id_table_Table_received) #[] #[], .func (.func id_table_Table_over) #[] #[], .func (.func id_table_Table_over) #[] #[]] T_5_functable_Table_table_id_api_Packet_api_Errno (0, 0))) := Upd.new hr8
    have b8 : Bx (h2.set r8 (.cells #[.nilFunc, .func (.func id_table_Table_sent) #[] #[], .func (.func id_table_Table_received) #[] #[], .func (.func id_table_Table_over) #[] #[], .func (.func id_table_Table_over) #[] #[]] T_5_functable_Table_table_id_api_Packet_api_Errno (0, 0))) r8
      [.nilFunc, .func (.func id_table_Table_sent) #[] #[], .func (.func id_table_Table_received) #[] #[], .func (.func id_table_Table_over) #[] #[], .func (.func id_table_Table_over) #[] #[]] := ⟨_, set_same⟩
    generalize h2.set r8 (.cells #[.nilFunc, .func (.func id_table_Table_sent) #[] #[], .func (.func id_table_Table_received) #[] #[], .func (.func id_table_Table_over) #[] #[], .func (.func id_table_Table_over) #[] #[]] T_5_functable_Table_table_id_api_Packet_api_Errno (0, 0)) = h3 at *
    have b3 := b2.ext u3
    have uu3 := uu.trans u3
    have H3 := H.ext uu3
    have c0 : cellH h3 ⟨r1, 0, none⟩ = some (.int .i64 n.k) := b3.cell 0
    have c1 : cellH h3 ⟨r1, 0 + 1, none⟩ = some (.int .i64 n.p.f) := b3.cell 1
    have c2 : cellH h3 ⟨r1, 0 + 1 + 1, none⟩ = some (.int .u64 n.p.s) := b3.cell 2
    have p1 := b3.pk (o := 0 + 1) (p := n.p) rfl
    have hkr : 1 ≤ n.k ∧ n.k ≤ 4 := by
      unfold Nt.right at hr
      simp only [Bool.and_eq_true, decide_eq_true_eq] at hr
      exact hr.1
    have ix : SemP PG (Instr.indexAt T_5_functable_Table_table_id_api_Packet_api_Errno (.pointer (some ⟨r8, 0, none⟩)) (.int .i64 n.k)) = some (.pointer (some ⟨r8, 0 + n.k.toNat * 1, none⟩)) :=
      indexAt_array T_5_functable_Table_table_id_api_Packet_api_Errno.und T_functable_Table_table_id_api_Packet_api_Errno.info T_functable_Table_table_id_api_Packet_api_Errno.size (by omega) (by omega)
    have hf : ∀ (id : FuncId), [.nilFunc, .func (.func id_table_Table_sent) #[] #[], .func (.func id_table_Table_received) #[] #[], .func (.func id_table_Table_over) #[] #[], .func (.func id_table_Table_over) #[] #[]][0 + n.k.toNat * 1]? = some (Value.func (.func id) #[] #[]) →
        CallsH PG id #[.pointer (some ⟨a, 0, none⟩), kenc n.p.key, .agg n.p.cells.toArray] h3 k →
        popO (SemP PG (Instr.fieldAt T_api_Note (Value.pointer (some ⟨r1, 0, none⟩)) 0)) fun v12 =>
 popO (SemE PG h3 (Instr.loadAt T_int v12)) fun v13 =>
 popO (SemP PG (Instr.indexAt T_5_functable_Table_table_id_api_Packet_api_Errno (Value.pointer (some ⟨r8, 0, none⟩)) v13)) fun v14 =>
 popO (SemE PG h3 (Instr.loadAt T_functable_Table_table_id_api_Packet_api_Errno v14)) fun v15 =>
 popO (SemP PG (Instr.fieldAt T_api_Note (Value.pointer (some ⟨r1, 0, none⟩)) 1)) fun v16 =>
 popO (SemP PG (Instr.fieldAt T_api_Packet v16 0)) fun v17 =>
 popO (SemE PG h3 (Instr.loadAt T_int v17)) fun v18 =>
 popO (SemP PG (Instr.fieldAt T_api_Note (Value.pointer (some ⟨r1, 0, none⟩)) 1)) fun v19 =>
 popO (SemP PG (Instr.fieldAt T_api_Packet v19 1)) fun v20 =>
 popO (SemE PG h3 (Instr.loadAt T_uint64 v20)) fun v21 =>
 popO (SemP PG (Instr.build T_table_id #[(0, v18), (1, v21)])) fun v22 =>
 popO (SemP PG (Instr.fieldAt T_api_Note (Value.pointer (some ⟨r1, 0, none⟩)) 1)) fun v23 =>
 popO (SemE PG h3 (Instr.loadAt T_api_Packet v23)) fun v24 =>
 callC PG v15 #[.pointer (some ⟨a, 0, none⟩), v22, v24] h3 fun v25 h26 => (k v25 h26) := fun id hid hc => by
      have c3 : cellH h3 ⟨r8, 0 + n.k.toNat * 1, none⟩ = some (.func (.func id) #[] #[]) := (b8.cell _).trans hid
      simp only [T_api_Note.f0, T_api_Note.f1, T_api_Packet.f0, T_api_Packet.f1, T_int.load, T_uint64.load, T_functable_Table_table_id_api_Packet_api_Errno.load, c0, c1, c2, c3, ix, pk_key_build, p1, popO_some, bindH_eq, condV_bool, condV_true, condV_false, yV_bool, gopV_tt, gopV_ff, gopV_tf, gopV_ft, pickV_t, pickV_f, pickV_bool, nilS_ptr, add_eq, sub_eq, mul_eq, lss_eq, leq_eq, gtr_eq, geq_eq, not_eq, minI_eq, maxI_eq, extract_0, extract_1, extract_2, eqlI, neqI, makeFunc_eq, decide_true, decide_false, if_true, if_false, Bool.false_eq_true, Bool.not_true, Bool.not_false, reduceIte, List.getElem?_toArray, List.getElem?_cons_zero, List.getElem?_cons_succ, Option.isSome_none, List.length_map]
      exact callC_func hc
    have hx : n.k = 1 ∨ n.k = 2 ∨ n.k = 3 ∨ n.k = 4 := by omega
    have hrt : ¬ n.right = false := by rw [hr]; simp
    rcases hx with hA | hA | hA | hA
    · refine hf id_table_Table_sent (by rw [hA]; rfl) (sent_ok H3 n.p fun h4 H4 u4 => ?_)
      have e1 : appE L room n = (if (getL L n.p.key).isSome then 0 else putE L room ⟨n.p, 1⟩) := by unfold appE; rw [if_neg hrt, if_pos hA]
      have e2 : appL L room n = (if (getL L n.p.key).isSome then L else putL L room ⟨n.p, 1⟩) := by unfold appL; rw [if_neg hrt, if_pos hA]
      rw [← e1]
      exact hk h4 (by rw [e2]; exact H4) (Upd.then (Ext.upd uu3) u4 fun b hb => .inl hb)
    · have n1 : ¬ n.k = 1 := by omega
      refine hf id_table_Table_received (by rw [hA]; rfl) (received_ok H3 n.p fun h4 H4 u4 => ?_)
      have e1 : appE L room n = (if (getL L n.p.key).isSome then 0 else putE L room ⟨n.p, 2⟩) := by unfold appE; rw [if_neg hrt, if_neg n1, if_pos hA]
      have e2 : appL L room n = (match getL L n.p.key with
        | some x => insL L ⟨x.p, 2⟩
        | none => putL L room ⟨n.p, 2⟩) := by unfold appL; rw [if_neg hrt, if_neg n1, if_pos hA]; try rfl
      rw [← e1]
      exact hk h4 (by rw [e2]; exact H4) (Upd.then (Ext.upd uu3) u4 fun b hb => .inl hb)
    all_goals
      have n1 : ¬ n.k = 1 := by omega
      have n2 : ¬ n.k = 2 := by omega
      refine hf id_table_Table_over (by rw [hA]; rfl) (over_ok H3 n.p fun h4 H4 u4 => ?_)
      have e1 : appE L room n = 0 := by unfold appE; rw [if_neg hrt, if_neg n1, if_neg n2]
      have e2 : appL L room n = delL L n.p.key := by unfold appL; rw [if_neg hrt, if_neg n1, if_neg n2]
      rw [← e1]
      exact hk h4 (by rw [e2]; exact H4) (Upd.then (Ext.upd uu3) u4 fun b hb => .inl hb)

/-! ### a copy -/
theorem mapNil {h : PH} {m : Nat} {x y : Operand} : SemE PG h (binS .eql T_map_table_id_api_Item x y (.map (some m)) (.map none)) = some (.bool false) := by kernel_rfl
end Go.Proofs.Ytlkjippiaghbmaa
/- table: Items, Fit; lists held against each other; the document's example. -/
set_option maxRecDepth 20000
set_option linter.unusedSimpArgs false
set_option linter.unusedVariables false
namespace Go.Proofs.Ytlkjippiaghbmaa
open Go

theorem ltI_kl (a b : It) : ltI a b = decide (kl a.key b.key) := by
  unfold ltI
  rw [Bool.eq_iff_iff]
  simp only [Bool.or_eq_true, Bool.and_eq_true, decide_eq_true_eq]
  rfl
theorem srt_of {l L : List It} (hp : l.Perm L) (hs : Srt L) (ho : l.Pairwise fun a b => ltI b a = false) : l = L := by
  have hn : (l.map It.key).Nodup := (hp.map It.key).nodup_iff.2 hs.nodup
  refine Srt.unique ?_ hs hp
  unfold List.Nodup at hn
  rw [List.pairwise_map] at hn
  refine ho.imp₂ (fun a b h1 h2 => ?_) hn
  rw [ltI_kl] at h1
  have h1 := of_decide_eq_false h1
  rcases kl_total h2 with h3 | h3
  · exact h3
  · exact absurd h3 h1

theorem Items_ok {h : PH} {a : Nat} {L : List It} {room : Int} {F : List Nat} (H : TAt h a L room F) (hL : L.length ≤ 1000000) {k : Value → PH → Prop}
    (hk : ∀ v h' G, OwnR h' T_api_Item 5 v (L.map It.cells) G → Fresh h G → Ext h h' → k v h') : CallsH PG id_table_Table_Items #[.pointer (some ⟨a, 0, none⟩)] h k := by
  apply table_Table_Items.call
  unfold table_Table_Items
  have hs := H.srt
  obtain ⟨m, l, ha, hm, hp, rfl, ham⟩ := H.here
  have hll : l.length ≤ 1000000 := by rw [hp.length_eq]; exact hL
  have c0 : cellH h ⟨a, 0, none⟩ = some (.map (some m)) := by simp [cellH, ha]
  simp only [T_table_Table.f0, T_map_table_id_api_Item.load, c0, popO_some, bindH_eq, condV_bool, condV_true, condV_false, yV_bool, gopV_tt, gopV_ff, gopV_tf, gopV_ft, pickV_t, pickV_f, pickV_bool, nilS_ptr, add_eq, sub_eq, mul_eq, lss_eq, leq_eq, gtr_eq, geq_eq, not_eq, minI_eq, maxI_eq, extract_0, extract_1, extract_2, eqlI, neqI, makeFunc_eq, decide_true, decide_false, if_true, if_false, Bool.false_eq_true, Bool.not_true, Bool.not_false, reduceIte, List.getElem?_toArray, List.getElem?_cons_zero, List.getElem?_cons_succ, Option.isSome_none, List.length_map]
  refine Values_ok fun bx h1 hbx hb u1 => ?_
  refine Collect_ok hb (MapAt.ext hm u1) hll fun v l1 h2 F2 hp2 hO f2 u2 => ?_
  refine Sort_ok hO (by rw [hp2.length_eq]; exact hll) fun l2 h3 hp3 ho hO3 u3 => ?_
  have hl2 : l2 = L := srt_of ((hp3.trans hp2).trans hp) hs ho
  subst hl2
  have uu := (u1.trans u2).fresh u3 (f2.of u1)
  have lv := hO3.slR.len (t' := T_int) T_sl_api_Item.und
  rw [List.length_map] at lv
  obtain ⟨zs, hz1, hz2⟩ := makeSlice_eq (P := PG) (n := l2.length) T_sl_api_Item.und T_api_Item.info T_api_Item.size T_api_Item.bytes T_api_Item.zero rfl (by decide) (by omega) (by omega)
  simp only [lv, hz1, popO_some, bindH_eq, condV_bool, condV_true, condV_false, yV_bool, gopV_tt, gopV_ff, gopV_tf, gopV_ft, pickV_t, pickV_f, pickV_bool, nilS_ptr, add_eq, sub_eq, mul_eq, lss_eq, leq_eq, gtr_eq, geq_eq, not_eq, minI_eq, maxI_eq, extract_0, extract_1, extract_2, eqlI, neqI, makeFunc_eq, decide_true, decide_false, if_true, if_false, Bool.false_eq_true, Bool.not_true, Bool.not_false, reduceIte, List.getElem?_toArray, List.getElem?_cons_zero, List.getElem?_cons_succ, Option.isSome_none, List.length_map]
  intro r hr
  refine popO_pure ?_
  try rw [bindH_eq]
  have u4 : Ext h3 (h3.set r (.cells zs T_api_Item)) := Upd.new hr
  have hR : OwnR (h3.set r (.cells zs T_api_Item)) T_api_Item 5 (.slice (some ⟨r, 0, none⟩) l2.length l2.length) (List.replicate l2.length [.int .i64 0, .int .u64 0, .int .u64 0, .string ⟨#[]⟩, .int .i64 0]) [r] :=
    OwnR.lit (fun x hx => by rw [List.eq_of_mem_replicate hx]; rfl) set_same (by simp) (by simp [maxL]; omega) (by rw [hz2]; rfl)
  have hO4 := hO3.ext u4
  have fr : h r = none := uu.none hr
  generalize h3.set r (.cells zs T_api_Item) = h4 at *
  have hsl := sliceAt_eq (P := PG) (t := T_sl_api_Item) (a := some ⟨r, 0, none⟩) (len := l2.length) (cap := l2.length) (l := 0) (hh := l2.length) (lo := some (.int .i64 (0 : Nat))) (hi := some (.int .i64 l2.length)) T_sl_api_Item.und T_api_Item.info (.inr ⟨.i64, rfl⟩) (.inr ⟨.i64, rfl⟩) (Nat.zero_le _) (Nat.le_refl _)
  have e1 : (if l2.length = 0 then some (⟨r, 0, none⟩ : Addr) else (some (⟨r, 0, none⟩ : Addr)).map (·.add (0 * Try.t55.size))) = some ⟨r, 0, none⟩ := by
    split
    · rfl
    · simp [plain_add]
  rw [e1] at hsl
  refine copy_own (n := l2.length) (l := 0) (m := l2.length) T_sl_api_Item.und T_api_Item.info T_api_Item.size hR ⟨.i64, .i64, by simpa using hsl⟩ (Nat.zero_le _) (by simp) hO4.slR (It.isCell _) (by simp) ?_
  intro h5 hR5 u5
  have e2 : List.take 0 (List.replicate l2.length ([.int .i64 0, .int .u64 0, .int .u64 0, .string ⟨#[]⟩, .int .i64 0] : List Value)) ++ List.take l2.length (l2.map It.cells) ++ List.drop (0 + l2.length) (List.replicate l2.length [.int .i64 0, .int .u64 0, .int .u64 0, .string ⟨#[]⟩, .int .i64 0]) = l2.map It.cells := by
    simp [List.take_of_length_le]
  rw [e2] at hR5
  exact hk _ h5 [r] hR5 (Fresh.one fr) ((uu.trans u4).fresh u5 (Fresh.one fr))

/-! ### items held against each other -/
theorem Pk.eqIn {h : PH} {d : Nat} (m m' : Pk) : SemE PG h (Op.equalIn (d + 1 + 1) T_api_Packet (.agg m.cells.toArray) (.agg m'.cells.toArray)) = some (m.f == m'.f && (m.s == m'.s && (m.t == m'.t && (m.d == m'.d && true)))) := by
  refine (eqIn_struct T_api_Packet.und (by kernel_rfl) (fun f => match f.offset with | 0 => m.f == m'.f | 1 => m.s == m'.s | 2 => m.t == m'.t | _ => m.d == m'.d) ?_)
  intro f hf
  simp only [List.mem_cons, List.not_mem_nil, or_false] at hf
  rcases hf with rfl | rfl | rfl | rfl
  · exact ⟨by decide, _, _, part_cell T_int.und rfl rfl, part_cell T_int.und rfl rfl, eqIn_int T_int.und⟩
  · exact ⟨by decide, _, _, part_cell T_uint64.und rfl rfl, part_cell T_uint64.und rfl rfl, eqIn_int T_uint64.und⟩
  · exact ⟨by decide, _, _, part_cell T_uint64.und rfl rfl, part_cell T_uint64.und rfl rfl, eqIn_int T_uint64.und⟩
  · exact ⟨by decide, _, _, part_cell T_string.und rfl rfl, part_cell T_string.und rfl rfl, eqIn_string T_string.und⟩
theorem It.eqIn {h : PH} (m m' : It) : SemE PG h (Op.equalIn (9999 + 1) T_api_Item m.val m'.val) = some (decide (m = m')) := by
  have hm : SemE PG h (Op.equalIn (9999 + 1) T_api_Item (.agg m.cells.toArray) (.agg m'.cells.toArray)) = some ((m.p.f == m'.p.f && (m.p.s == m'.p.s && (m.p.t == m'.p.t && (m.p.d == m'.p.d && true)))) && (m.g == m'.g && true)) := by
    refine (eqIn_struct T_api_Item.und (by kernel_rfl) (fun f => match f.offset with | 0 => (m.p.f == m'.p.f && (m.p.s == m'.p.s && (m.p.t == m'.p.t && (m.p.d == m'.p.d && true)))) | _ => m.g == m'.g) ?_)
    intro f hf
    simp only [List.mem_cons, List.not_mem_nil, or_false] at hf
    rcases hf with rfl | rfl
    · exact ⟨by decide, _, _, part_agg T_api_Packet.und rfl T_api_Packet.info T_api_Packet.size, part_agg T_api_Packet.und rfl T_api_Packet.info T_api_Packet.size, Pk.eqIn (d := 9997) m.p m'.p⟩
    · exact ⟨by decide, _, _, part_cell T_int.und rfl rfl, part_cell T_int.und rfl rfl, eqIn_int T_int.und⟩
  show SemE PG h (Op.equalIn (9999 + 1) T_api_Item (.agg m.cells.toArray) (.agg m'.cells.toArray)) = _
  rw [hm]
  congr 1
  simp only [beq_bytes]
  rw [Bool.eq_iff_iff]
  obtain ⟨⟨a, b, c, d⟩, g⟩ := m
  obtain ⟨⟨a', b', c', d'⟩, g'⟩ := m'
  simp [and_assoc]
theorem It.neq {h : PH} {x y : Operand} (m m' : It) : SemE PG h (binS .neq T_api_Item x y m.val m'.val) = some (.bool (!decide (m = m'))) := neqStruct (by kernel_rfl) (It.eqIn m m')
theorem SlR.it {h : PH} {x : Value} {xs : List It} (H : SlR h 5 x (xs.map It.cells)) {k : IntKind} {j : Nat} {m : It} (hm : xs[j]? = some m) :
    ∃ a, SemP PG (Instr.indexAt T_sl_api_Item x (.int k j)) = some (.pointer (some a)) ∧ SemE PG h (Instr.loadAt T_api_Item (.pointer (some a))) = some m.val :=
  H.loadAgg T_sl_api_Item.und T_api_Item.info T_api_Item.size T_api_Item.und rfl (by omega) (by rw [List.getElem?_map, Int.toNat_natCast, hm]; rfl)
theorem SlR.nt {h : PH} {x : Value} {xs : List Nt} (H : SlR h 5 x (xs.map Nt.cells)) {k : IntKind} {j : Nat} {m : Nt} (hm : xs[j]? = some m) :
    ∃ a, SemP PG (Instr.indexAt T_sl_api_Note x (.int k j)) = some (.pointer (some a)) ∧ SemE PG h (Instr.loadAt T_api_Note (.pointer (some a))) = some (.agg m.cells.toArray) :=
  H.loadAgg T_sl_api_Note.und T_api_Note.info T_api_Note.size T_api_Note.und rfl (by omega) (by rw [List.getElem?_map, Int.toNat_natCast, hm]; rfl)
theorem Same_ok {h : PH} {x y : Value} {xs ys : List It} (hx : SlR h 5 x (xs.map It.cells)) (hy : SlR h 5 y (ys.map It.cells)) (hl : xs.length ≤ 1000000) {k : Value → PH → Prop}
    (hk : k (.bool (decide (xs = ys))) h) : CallsH PG id_carrackref14_SameItems #[x, y] h k := by
  have lx := hx.len (t' := T_int) T_sl_api_Item.und
  have ly := hy.len (t' := T_int) T_sl_api_Item.und
  rw [List.length_map] at lx ly
  apply carrackref14_SameItems.call
  unfold carrackref14_SameItems
  by_cases hlen : xs.length = ys.length
  · have e1 : ((xs.length : Int) != (ys.length : Int)) = false := by simp [hlen]
    simp only [lx, ly, e1, popO_some, bindH_eq, condV_bool, condV_true, condV_false, yV_bool, gopV_tt, gopV_ff, gopV_tf, gopV_ft, pickV_t, pickV_f, pickV_bool, nilS_ptr, add_eq, sub_eq, mul_eq, lss_eq, leq_eq, gtr_eq, geq_eq, not_eq, minI_eq, maxI_eq, extract_0, extract_1, extract_2, eqlI, neqI, makeFunc_eq, decide_true, decide_false, if_true, if_false, Bool.false_eq_true, Bool.not_true, Bool.not_false, reduceIte, List.getElem?_toArray, List.getElem?_cons_zero, List.getElem?_cons_succ, Option.isSome_none, List.length_map]
    refine ⟨fun vs h' => ∃ i : Nat, i ≤ xs.length ∧ vs = [x, y, .int .i64 i] ∧ h' = h ∧ xs.take i = ys.take i, upTo xs.length 2, ⟨0, by omega, rfl, rfl, by simp⟩, ?_⟩
    rintro ρ h' ⟨i, hi, hvs, rfl, he⟩
    simp only [List.map_cons, List.map_nil, List.cons.injEq, and_true] at hvs
    obtain ⟨e0, e1, e5⟩ := hvs
    rw [e0, e1, e5]
    unfold carrackref14_SameItems_b5
    by_cases hlt : i < xs.length
    · have hd : ((i : Int) < (xs.length : Int)) = True := by apply eq_true; omega
      obtain ⟨m, hm⟩ : ∃ m, xs[i]? = some m := ⟨_, List.getElem?_eq_getElem hlt⟩
      obtain ⟨m', hm'⟩ : ∃ m, ys[i]? = some m := ⟨_, List.getElem?_eq_getElem (by omega)⟩
      obtain ⟨a, a1, a2⟩ := hx.it (k := .i64) hm
      obtain ⟨b, b1, b2⟩ := hy.it (k := .i64) hm'
      have e2 : IntKind.i64.wrap ((i : Int) + 1) = ((i + 1 : Nat) : Int) := by rw [i64_wrap (by omega) (by omega)]; omega
      by_cases hc : m = m'
      · have e3 : (!decide (m = m')) = false := by simp [hc]
        simp only [lx, hd, a1, a2, b1, b2, e2, It.neq, e3, popO_some, bindH_eq, condV_bool, condV_true, condV_false, yV_bool, gopV_tt, gopV_ff, gopV_tf, gopV_ft, pickV_t, pickV_f, pickV_bool, nilS_ptr, add_eq, sub_eq, mul_eq, lss_eq, leq_eq, gtr_eq, geq_eq, not_eq, minI_eq, maxI_eq, extract_0, extract_1, extract_2, eqlI, neqI, makeFunc_eq, decide_true, decide_false, if_true, if_false, Bool.false_eq_true, Bool.not_true, Bool.not_false, reduceIte, List.getElem?_toArray, List.getElem?_cons_zero, List.getElem?_cons_succ, Option.isSome_none, List.length_map]
        exact ⟨⟨i + 1, by omega, rfl, by trivial, by rw [List.take_add_one, List.take_add_one, he, hm, hm', hc]⟩, by simp [upTo, e5]; omega⟩
      · have e3 : (!decide (m = m')) = true := by simp [hc]
        simp only [lx, hd, a1, a2, b1, b2, It.neq, e3, popO_some, bindH_eq, condV_bool, condV_true, condV_false, yV_bool, gopV_tt, gopV_ff, gopV_tf, gopV_ft, pickV_t, pickV_f, pickV_bool, nilS_ptr, add_eq, sub_eq, mul_eq, lss_eq, leq_eq, gtr_eq, geq_eq, not_eq, minI_eq, maxI_eq, extract_0, extract_1, extract_2, eqlI, neqI, makeFunc_eq, decide_true, decide_false, if_true, if_false, Bool.false_eq_true, Bool.not_true, Bool.not_false, reduceIte, List.getElem?_toArray, List.getElem?_cons_zero, List.getElem?_cons_succ, Option.isSome_none, List.length_map]
        have : decide (xs = ys) = false := by
          simp only [decide_eq_false_iff_not]
          rintro rfl
          rw [hm] at hm'; cases hm'; exact hc rfl
        rw [this] at hk; exact hk
    · have hd : ((i : Int) < (xs.length : Int)) = False := by apply eq_false; omega
      simp only [lx, hd, popO_some, bindH_eq, condV_bool, condV_true, condV_false, yV_bool, gopV_tt, gopV_ff, gopV_tf, gopV_ft, pickV_t, pickV_f, pickV_bool, nilS_ptr, add_eq, sub_eq, mul_eq, lss_eq, leq_eq, gtr_eq, geq_eq, not_eq, minI_eq, maxI_eq, extract_0, extract_1, extract_2, eqlI, neqI, makeFunc_eq, decide_true, decide_false, if_true, if_false, Bool.false_eq_true, Bool.not_true, Bool.not_false, reduceIte, List.getElem?_toArray, List.getElem?_cons_zero, List.getElem?_cons_succ, Option.isSome_none, List.length_map]
      rw [List.take_of_length_le (by omega), List.take_of_length_le (by omega)] at he
      rw [he] at hk
      simpa using hk
  · have e1 : ((xs.length : Int) != (ys.length : Int)) = true := by simp; omega
    simp only [lx, ly, e1, popO_some, bindH_eq, condV_bool, condV_true, condV_false, yV_bool, gopV_tt, gopV_ff, gopV_tf, gopV_ft, pickV_t, pickV_f, pickV_bool, nilS_ptr, add_eq, sub_eq, mul_eq, lss_eq, leq_eq, gtr_eq, geq_eq, not_eq, minI_eq, maxI_eq, extract_0, extract_1, extract_2, eqlI, neqI, makeFunc_eq, decide_true, decide_false, if_true, if_false, Bool.false_eq_true, Bool.not_true, Bool.not_false, reduceIte, List.getElem?_toArray, List.getElem?_cons_zero, List.getElem?_cons_succ, Option.isSome_none, List.length_map]
    have : decide (xs = ys) = false := by
      simp only [decide_eq_false_iff_not]
      rintro rfl; exact hlen rfl
    rw [this] at hk; exact hk

/-! ### how many fit -/
theorem put_nt {h : PH} {r : Nat} (hr : h r = none) (n : Nt) {k : Value → PH → Prop} (hk : ∀ h', Bx h' r n.cells → h' r = some (.cells n.cells.toArray T_api_Note (0, 0)) → Ext h h' → k undef h') :
    SemH PG (storeS T_api_Note (.pointer (some ⟨r, 0, none⟩)) (.agg n.cells.toArray)) (h.set r (.cells (zcells PG T_api_Note) T_api_Note)) k := by
  refine store_box set_same T_api_Note.info (by show 5 = 5; rfl) (by show 0 < 5; decide) (by rw [T_api_Note.zc]; rfl) (by simp [Nt.cells, isCell]) ?_
  rw [set_set_same]
  exact hk _ ⟨_, set_same⟩ set_same (Upd.new hr)
end Go.Proofs.Ytlkjippiaghbmaa
/- the document's table: a row of items. -/
set_option maxRecDepth 20000
set_option linter.unusedSimpArgs false
set_option linter.unusedVariables false
namespace Go.Proofs.Ytlkjippiaghbmaa
open Go

def pA (L : List It) (k : Ky) : List It := L.filter fun j => decide (kl j.key k)
def pC (L : List It) (k : Ky) : List It := L.filter fun j => decide (kl k j.key)
theorem split3 : ∀ {L : List It}, Srt L → ∀ k, L = pA L k ++ ((getL L k).toList ++ pC L k)
  | [], _, k => rfl
  | x :: L, hs, k => by
    unfold Srt at hs
    rw [List.pairwise_cons] at hs
    have ih := split3 (L := L) hs.2 k
    by_cases h1 : kl x.key k
    · have e1 : pA (x :: L) k = x :: pA L k := by unfold pA; simp [List.filter_cons, h1]
      have e2 : pC (x :: L) k = pC L k := by unfold pC; simp [List.filter_cons, kl_asymm h1]
      have e3 : getL (x :: L) k = getL L k := by unfold getL; simp [List.find?_cons, (kl_ne h1).symm]
      rw [e1, e2, e3, List.cons_append, ← ih]
    · have hnA : pA L k = [] := by
        unfold pA
        rw [List.filter_eq_nil_iff]
        intro y hy hk
        exact h1 (kl_trans (hs.1 y hy) (by simpa using hk))
      by_cases h2 : x.key = k
      · have e1 : pA (x :: L) k = [] := by unfold pA at *; simp [List.filter_cons, h1]; simpa using hnA
        have e2 : pC (x :: L) k = L := by
          unfold pC
          have : ¬ kl k x.key := by rw [h2]; exact kl_irrefl _
          simp only [List.filter_cons, this, decide_false, Bool.false_eq_true, if_false]
          rw [List.filter_eq_self]
          intro y hy
          have := hs.1 y hy
          rw [h2] at this
          simpa using this
        have e3 : getL (x :: L) k = some x := by unfold getL; simp [List.find?_cons, h2]
        rw [e1, e2, e3]; rfl
      · have h3 : kl k x.key := (kl_total h2).resolve_left h1
        have hno : getL L k = none := getL_none.2 fun y hy e => by
          have := hs.1 y hy
          rw [e] at this
          exact kl_asymm this h3
        have e1 : pA (x :: L) k = [] := by unfold pA at *; simp [List.filter_cons, h1]; simpa using hnA
        have e2 : pC (x :: L) k = x :: L := by
          unfold pC
          rw [List.filter_eq_self]
          intro y hy
          rcases List.mem_cons.1 hy with rfl | hy
          · simpa using h3
          · simpa using kl_trans h3 (hs.1 y hy)
        have e3 : getL (x :: L) k = none := by
          unfold getL at *
          simp only [List.find?_cons, show (k = x.key) = False from eq_false (fun e => h2 e.symm), decide_false]
          exact hno
        rw [e1, e2, e3]; rfl
theorem pA_le (L : List It) (k : Ky) : (pA L k).length ≤ L.length := List.length_filter_le _ _
theorem at_lt {L : List It} (hs : Srt L) {k : Ky} {i : Nat} {m : It} (hi : i < (pA L k).length) (hm : L[i]? = some m) : kl m.key k := by
  rw [split3 hs k, List.getElem?_append_left hi] at hm
  have := List.mem_of_getElem? hm
  unfold pA at this
  simpa using (List.mem_filter.1 this).2
theorem at_ge {L : List It} (hs : Srt L) {k : Ky} {m : It} (hm : L[(pA L k).length]? = some m) : ¬ kl m.key k ∧ (getL L k).isSome = decide (m.key = k) ∧ (m.key = k → getL L k = some m) := by
  have h := hm
  have h : (pA L k ++ ((getL L k).toList ++ pC L k))[(pA L k).length]? = some m := by rw [← split3 hs k]; exact hm
  rw [List.getElem?_append_right (Nat.le_refl _), Nat.sub_self] at h
  cases hg : getL L k with
  | some x =>
    rw [hg] at h
    simp only [Option.toList_some, List.cons_append, List.nil_append, List.getElem?_cons_zero, Option.some.injEq] at h
    subst h
    obtain ⟨_, h2⟩ := getL_mem hg
    subst h2
    exact ⟨kl_irrefl _, by simp, fun _ => rfl⟩
  | none =>
    rw [hg] at h
    simp only [Option.toList_none, List.nil_append] at h
    have := List.mem_of_getElem? h
    unfold pC at this
    have h3 : kl k m.key := by simpa using (List.mem_filter.1 this).2
    refine ⟨kl_asymm h3, by simp [(kl_ne h3).symm], fun e => ?_⟩
    rw [e] at h3
    exact absurd h3 (kl_irrefl _)
theorem at_end {L : List It} (hs : Srt L) {k : Ky} (hm : (pA L k).length = L.length) : getL L k = none := by
  have h := congrArg List.length (split3 hs k)
  simp only [List.length_append] at h
  cases hg : getL L k with
  | none => rfl
  | some x => rw [hg] at h; simp at h; omega
theorem take_pA {L : List It} (hs : Srt L) (k : Ky) : L.take (pA L k).length = pA L k := by
  conv => lhs; arg 2; rw [split3 hs k]
  rw [List.take_left']
  rfl
theorem drop_pA {L : List It} (hs : Srt L) (k : Ky) : L.drop (pA L k).length = (getL L k).toList ++ pC L k := by
  conv => lhs; arg 2; rw [split3 hs k]
  rw [List.drop_left']
  rfl
theorem ins_cut {L : List It} (hs : Srt L) {i : It} (hg : getL L i.key = none) : L.take (pA L i.key).length ++ [i] ++ L.drop (pA L i.key).length = insL L i := by
  rw [take_pA hs, drop_pA hs, hg]
  unfold insL pA pC
  simp
theorem del_cut {L : List It} (hs : Srt L) {k : Ky} {x : It} (hg : getL L k = some x) : L.take (pA L k).length ++ L.drop ((pA L k).length + 1) = delL L k := by
  have h1 : L.drop ((pA L k).length + 1) = pC L k := by
    rw [← List.drop_drop, drop_pA hs, hg]; rfl
  rw [take_pA hs, h1]
  unfold delL
  have hp := (part_perm (fun j : It => decide (kl j.key k)) (fun j => decide (kl k j.key)) (fun a ha => by
    simp only [decide_eq_true_eq] at ha
    simp only [decide_eq_false_iff_not]
    exact kl_asymm ha) L)
  have he : (L.filter fun a => decide (kl a.key k) || decide (kl k a.key)) = L.filter fun i => decide (i.key ≠ k) := by
    apply List.filter_congr
    intro y _
    rw [Bool.eq_iff_iff]
    simp only [Bool.or_eq_true, decide_eq_true_eq]
    exact ⟨fun h => by rcases h with h | h; exact kl_ne h; exact (kl_ne h).symm, kl_total⟩
  rw [he] at hp
  refine Srt.unique ?_ (hs.filter _) hp
  unfold Srt
  rw [List.pairwise_append]
  refine ⟨hs.filter _, hs.filter _, fun a ha b hb => ?_⟩
  exact kl_trans (by simpa using (List.mem_filter.1 ha).2) (by simpa using (List.mem_filter.1 hb).2)
theorem set_cut {L : List It} (hs : Srt L) {i : It} {x : It} (hg : getL L i.key = some x) : L.take (pA L i.key).length ++ i :: L.drop ((pA L i.key).length + 1) = insL L i := by
  have h1 : L.drop ((pA L i.key).length + 1) = pC L i.key := by
    rw [← List.drop_drop, drop_pA hs, hg]; rfl
  rw [take_pA hs, h1]; rfl

/-! ### where it lies -/
theorem SlR.itf {h : PH} {x : Value} {xs : List It} (H : SlR h 5 x (xs.map It.cells)) {k : IntKind} {j : Nat} {m : It} (hm : xs[j]? = some m) :
    ∃ b o, SemP PG (Instr.indexAt T_sl_api_Item x (.int k j)) = some (.pointer (some ⟨b, o, none⟩)) ∧ cellH h ⟨b, o, none⟩ = some (.int .i64 m.p.f) ∧ cellH h ⟨b, o + 1, none⟩ = some (.int .u64 m.p.s) ∧ cellH h ⟨b, o + 3, none⟩ = some (.string m.p.d) ∧
      SemE PG h (Instr.loadAt T_api_Item (.pointer (some ⟨b, o, none⟩))) = some m.val := by
  obtain ⟨b, o, h1, h2, h3⟩ := H.fields T_sl_api_Item.und T_api_Item.info T_api_Item.size (k := k) (j := j) (r := m.cells) (by rw [List.getElem?_map, hm]; rfl)
  exact ⟨b, o, h1, h2 0 _ rfl, h2 1 _ rfl, h2 3 _ rfl, h3 _ T_api_Item.und rfl⟩

end Go.Proofs.Ytlkjippiaghbmaa
/- the document's table: what its functions do. -/
set_option maxRecDepth 20000
set_option linter.unusedSimpArgs false
set_option linter.unusedVariables false
namespace Go.Proofs.Ytlkjippiaghbmaa
open Go

def It.right (i : It) : Bool := (decide (i.g = 1) || decide (i.g = 2)) && i.p.right
/-! ### rows put together -/
theorem empty_lit : SemA PG (Instr.buildSlice T_sl_api_Item 0 #[]) = some (.cells #[] T_api_Item (0, 0), fun r => pure (.slice (some ⟨r, 0, none⟩) 0 0)) := by kernel_rfl
theorem app_it {h : PH} {v x : Value} {F : List Nat} {xs ys : List It} (H : OwnR h T_api_Item 5 v (xs.map It.cells) F) (S : SlR h 5 x (ys.map It.cells)) (hl : xs.length + ys.length ≤ 1000000) {k : Value → PH → Prop}
    (hk : ∀ v' h' F', OwnR h' T_api_Item 5 v' ((xs ++ ys).map It.cells) F' → Upd F h h' → (∀ b ∈ F', b ∈ F ∨ h b = none) → k v' h') : SemH PG (Builtin.append_ #[T_sl_api_Item, T_sl_api_Item] T_sl_api_Item #[v, x]) h k := by
  refine append_own T_sl_api_Item.und T_sl_api_Item.und T_api_Item.info T_api_Item.size T_api_Item.bytes T_api_Item.zero rfl (by decide) H S (It.isCell _) (by simp; omega) ?_
  intro v' h' F' hO u f _
  rw [← List.map_append] at hO
  exact hk v' h' F' hO u f
theorem OwnR.cutIt {h : PH} {v : Value} {F : List Nat} {L : List It} (H : OwnR h T_api_Item 5 v (L.map It.cells) F) {lo hi : Option Value} {l m : Nat}
    (hlo : lo = none ∧ l = 0 ∨ ∃ k, lo = some (.int k l)) (hhi : hi = none ∧ m = L.length ∨ ∃ k, hi = some (.int k m)) (h1 : l ≤ m) (h2 : m ≤ L.length) :
    ∃ v', SemP PG (Instr.sliceAt T_sl_api_Item v lo hi none) = some v' ∧ SlR h 5 v' (((L.take m).drop l).map It.cells) ∧ ∀ x n c, v' = .slice (some x) n c → x.block ∈ F := by
  obtain ⟨v', e1, e2, e3⟩ := H.slR.cut T_sl_api_Item.und T_api_Item.info T_api_Item.size (l := l) (m := m) hlo (by rcases hhi with ⟨a, b⟩ | h; exact .inl ⟨a, by rw [List.length_map]; exact b⟩; exact .inr h) h1 (by rw [List.length_map]; exact h2)
  refine ⟨v', e1, ?_, ?_⟩
  · rw [← List.map_take, ← List.map_drop] at e2; exact e2
  · intro x n c hx
    obtain ⟨x0, n0, c0, hx0, hb⟩ := e3 x n c hx
    rcases H.here with ⟨h3, _⟩ | ⟨b, cap, cs, h3, h4, _⟩
    · rw [h3] at hx0; cases hx0
    · rw [h3] at hx0
      simp only [Value.slice.injEq, Option.some.injEq] at hx0
      rw [hb, ← hx0.1, h4]; simp

end Go.Proofs.Ytlkjippiaghbmaa
/- the document's table: Drop, Apply, Get, Copy, Fit. -/
set_option maxRecDepth 20000
set_option linter.unusedSimpArgs false
set_option linter.unusedVariables false
namespace Go.Proofs.Ytlkjippiaghbmaa
open Go

theorem set_stage {L : List It} {p : Nat} {x : It} (hlt : p < L.length) (hat : L[p]? = some x) (g : Int) : (L.map It.cells).flatten.set (p * 5 + 4) (.int .i64 g) = ((L.take p ++ ⟨x.p, g⟩ :: L.drop (p + 1)).map It.cells).flatten := by
  have h2 : ((L.take p).map It.cells).flatten.length = p * 5 := by
    rw [(It.rows _).flat, List.length_map, List.length_take]; congr 1; omega
  have h1 : (L.map It.cells).flatten = ((L.take p).map It.cells).flatten ++ (x.cells ++ ((L.drop (p + 1)).map It.cells).flatten) := by
    have h3 : L = L.take p ++ x :: L.drop (p + 1) := by
      have : L.drop p = x :: L.drop (p + 1) := by
        rw [List.drop_eq_getElem_cons hlt]
        have : L[p] = x := by rw [List.getElem?_eq_getElem hlt] at hat; simpa using hat
        rw [this]
      rw [← this, List.take_append_drop]
    conv => lhs; rw [h3]
    simp only [List.map_append, List.flatten_append, List.map_cons, List.flatten_cons]
  rw [h1, List.set_append_right _ _ (by rw [h2]; omega), h2]
  simp only [List.map_append, List.flatten_append, List.map_cons, List.flatten_cons]
  congr 1
  rw [show p * 5 + 4 - p * 5 = 4 by omega]
  rfl
end Go.Proofs.Ytlkjippiaghbmaa
/- the document's table: the rest; the statements' helpers. -/
set_option maxRecDepth 20000
set_option linter.unusedSimpArgs false
set_option linter.unusedVariables false
namespace Go.Proofs.Ytlkjippiaghbmaa
open Go

theorem zero_it : SemP PG (Instr.build T_api_Item #[]) = some (It.val default) := by kernel_rfl
/-! ### the statements' helpers -/
theorem Nt.isCell (l : List Nt) : ∀ r ∈ l.map Nt.cells, ∀ u ∈ r, isCell u = true := fun r hr u hu => by
  obtain ⟨m, _, rfl⟩ := List.mem_map.1 hr
  simp only [Nt.cells, List.mem_cons, List.not_mem_nil, or_false] at hu
  rcases hu with rfl | rfl | rfl | rfl | rfl <;> rfl
theorem nt_lit (x : Nt) : SemA PG (Instr.buildSlice T_sl_api_Note 1 #[(0, .agg x.cells.toArray)]) = some (.cells x.cells.toArray T_api_Note (0, 0), fun r => pure (.slice (some ⟨r, 0, none⟩) 1 1)) := by
  kernel_rfl
end Go.Proofs.Ytlkjippiaghbmaa
/- table: acts, notes, items and packets that are read of a row. -/
set_option linter.unusedSimpArgs false
set_option linter.unusedVariables false
namespace Go.Proofs.Ytlkjippiaghbmaa
open Go Go.RowKit Go.ChangeShapes
set_option maxRecDepth 20000
theorem T_api_Packet.cells : PG.cellsOf T_api_Packet = 4 := by kernel_rfl
theorem T_api_Note.cells : PG.cellsOf T_api_Note = 5 := by kernel_rfl
theorem T_api_Item.cells : PG.cellsOf T_api_Item = 5 := by kernel_rfl
theorem T_int.cells : PG.cellsOf T_int = 1 := by kernel_rfl
theorem T_uint64.cells : PG.cellsOf T_uint64 = 1 := by kernel_rfl
theorem T_string.cells : PG.cellsOf T_string = 1 := by kernel_rfl
section
variable {H : Type} {enc : TypeId × Value → H} {w : World} {spare : Nat → Bool} {held : Bool}
def Pk.ok (p : Pk) : Prop := 0 ≤ p.s ∧ 0 ≤ p.t
theorem Pk.of_rd {cs : List Value} (h : Rd enc PG w spare held T_api_Packet cs) : ∃ p : Pk, cs = p.cells ∧ p.ok := by
  obtain ⟨hl, hf⟩ := rd_struct T_api_Packet.und h
  rw [T_api_Packet.cells] at hl
  match cs, hl with
  | [c0, c1, c2, c3], _ =>
    have f0 : Rd enc PG w spare held T_int (([c0, c1, c2, c3].drop 0).take (PG.cellsOf T_int)) := hf 0 _ rfl
    rw [T_int.cells] at f0
    have f1 : Rd enc PG w spare held T_uint64 (([c0, c1, c2, c3].drop 1).take (PG.cellsOf T_uint64)) := hf 1 _ rfl
    rw [T_uint64.cells] at f1
    have f2 : Rd enc PG w spare held T_uint64 (([c0, c1, c2, c3].drop 2).take (PG.cellsOf T_uint64)) := hf 2 _ rfl
    rw [T_uint64.cells] at f2
    have f3 : Rd enc PG w spare held T_string (([c0, c1, c2, c3].drop 3).take (PG.cellsOf T_string)) := hf 3 _ rfl
    rw [T_string.cells] at f3
    obtain ⟨n0, e0, -⟩ := rd_int T_int.und f0
    obtain ⟨n1, e1, w1⟩ := rd_int T_uint64.und f1
    obtain ⟨n2, e2, w2⟩ := rd_int T_uint64.und f2
    obtain ⟨s3, e3, -⟩ := rd_string T_string.und f3
    simp only [List.drop_succ_cons, List.drop_zero, List.take_succ_cons, List.take_zero, List.cons.injEq, and_true] at e0 e1 e2 e3
    subst e0 e1 e2 e3
    exact ⟨⟨n0, n1, n2, s3⟩, rfl, (wf_u64 w1).1, (wf_u64 w2).1⟩
theorem It.of_rd {cs : List Value} (h : Rd enc PG w spare held T_api_Item cs) : ∃ i : It, cs = i.cells ∧ i.p.ok := by
  obtain ⟨hl, hf⟩ := rd_struct T_api_Item.und h
  rw [T_api_Item.cells] at hl
  match cs, hl with
  | [c0, c1, c2, c3, c4], _ =>
    have f0 : Rd enc PG w spare held T_api_Packet (([c0, c1, c2, c3, c4].drop 0).take (PG.cellsOf T_api_Packet)) := hf 0 _ rfl
    rw [T_api_Packet.cells] at f0
    have f1 : Rd enc PG w spare held T_int (([c0, c1, c2, c3, c4].drop 4).take (PG.cellsOf T_int)) := hf 1 _ rfl
    rw [T_int.cells] at f1
    obtain ⟨p, e0, hp⟩ := Pk.of_rd f0
    obtain ⟨n1, e1, -⟩ := rd_int T_int.und f1
    simp only [List.drop_succ_cons, List.drop_zero, List.take_succ_cons, List.take_zero, List.cons.injEq, and_true, Pk.cells] at e0 e1
    obtain ⟨rfl, rfl, rfl, rfl⟩ := e0
    subst e1
    exact ⟨⟨p, n1⟩, rfl, hp⟩
theorem Nt.of_rd {cs : List Value} (h : Rd enc PG w spare held T_api_Note cs) : ∃ n : Nt, cs = n.cells ∧ n.p.ok := by
  obtain ⟨hl, hf⟩ := rd_struct T_api_Note.und h
  rw [T_api_Note.cells] at hl
  match cs, hl with
  | [c0, c1, c2, c3, c4], _ =>
    have f0 : Rd enc PG w spare held T_int (([c0, c1, c2, c3, c4].drop 0).take (PG.cellsOf T_int)) := hf 0 _ rfl
    rw [T_int.cells] at f0
    have f1 : Rd enc PG w spare held T_api_Packet (([c0, c1, c2, c3, c4].drop 1).take (PG.cellsOf T_api_Packet)) := hf 1 _ rfl
    rw [T_api_Packet.cells] at f1
    obtain ⟨n0, e0, -⟩ := rd_int T_int.und f0
    obtain ⟨p, e1, hp⟩ := Pk.of_rd f1
    simp only [List.drop_succ_cons, List.drop_zero, List.take_succ_cons, List.take_zero, List.cons.injEq, and_true, Pk.cells] at e0 e1
    obtain ⟨rfl, rfl, rfl, rfl⟩ := e1
    subst e0
    exact ⟨⟨n0, p⟩, rfl, hp⟩
theorem rows_of {α : Type} {cells : α → List Value} {P : α → Prop} {t : TypeId} (hof : ∀ cs, Rd enc PG w spare held t cs → ∃ a, cs = cells a ∧ P a) : ∀ {rows : List (List Value)}, (∀ r ∈ rows, Rd enc PG w spare held t r) → ∃ xs : List α, rows = xs.map cells ∧ ∀ x ∈ xs, P x
  | [], _ => ⟨[], rfl, by simp⟩
  | r :: rs, h => by
    obtain ⟨m, rfl, hm⟩ := hof r (h r (by simp))
    obtain ⟨xs, rfl, hx⟩ := rows_of hof (rows := rs) (fun x hx => h x (by simp [hx]))
    exact ⟨m :: xs, rfl, fun x hx' => by rcases List.mem_cons.1 hx' with rfl | h; exact hm; exact hx x h⟩
theorem It.of_rows {rows : List (List Value)} (h : ∀ r ∈ rows, Rd enc PG w spare held T_api_Item r) : ∃ xs : List It, rows = xs.map It.cells ∧ ∀ x ∈ xs, x.p.ok := rows_of (fun _ => It.of_rd) h
theorem Nt.of_rows {rows : List (List Value)} (h : ∀ r ∈ rows, Rd enc PG w spare held T_api_Note r) : ∃ xs : List Nt, rows = xs.map Nt.cells ∧ ∀ x ∈ xs, x.p.ok := rows_of (fun _ => Nt.of_rd) h
end
end Go.Proofs.Ytlkjippiaghbmaa
/- TablePlays. -/
set_option maxRecDepth 40000
set_option linter.unusedSimpArgs false
set_option linter.unusedVariables false
namespace Go.Proofs.Ytlkjippiaghbmaa
open Go

theorem TAt.len_le {h : PH} {a : Nat} {L : List It} {room : Int} {F : List Nat} (H : TAt h a L room F) : True := trivial

end Go.Proofs.Ytlkjippiaghbmaa
/- TableBounds. -/
set_option maxRecDepth 40000
set_option linter.unusedSimpArgs false
set_option linter.unusedVariables false
namespace Go.Proofs.Ytlkjippiaghbmaa
open Go

theorem act_err {L : List It} {room : Int} {c : Ac} (h : actE L room c ≠ 0) : actL L room c = L := by
  unfold actE at h
  unfold actL
  by_cases hd : c.dr = true
  · rw [if_pos hd] at h ⊢
    unfold dropE at h
    cases hg : getL L c.n.p.key with
    | none => exact del_none hg
    | some x => rw [hg] at h; simp at h
  · rw [if_neg hd] at h ⊢
    unfold appE at h
    unfold appL
    by_cases h1 : c.n.right = false
    · rw [if_pos h1]
    · rw [if_neg h1] at h ⊢
      by_cases h2 : c.n.k = 1
      · rw [if_pos h2] at h ⊢
        by_cases h3 : (getL L c.n.p.key).isSome = true
        · rw [if_pos h3]
        · rw [if_neg h3] at h ⊢
          unfold putE at h
          unfold putL
          split at h
          · rename_i hc; rw [if_pos hc]
          · exact absurd rfl h
      · rw [if_neg h2] at h ⊢
        by_cases h3 : c.n.k = 2
        · rw [if_pos h3] at h ⊢
          cases hg : getL L c.n.p.key with
          | some x => rw [hg] at h; simp at h
          | none =>
            rw [hg] at h
            simp only [Option.isSome_none, Bool.false_eq_true, if_false] at h
            unfold putE at h
            show putL L room ⟨c.n.p, 2⟩ = L
            unfold putL
            split at h
            · rename_i hc; rw [if_pos hc]
            · exact absurd rfl h
        · rw [if_neg h3] at h
          exact absurd rfl h
theorem SlR.itk {h : PH} {x : Value} {xs : List It} (H : SlR h 5 x (xs.map It.cells)) {k : IntKind} {j : Nat} {m : It} (hm : xs[j]? = some m) :
    ∃ b o, SemP PG (Instr.indexAt T_sl_api_Item x (.int k j)) = some (.pointer (some ⟨b, o, none⟩)) ∧ SemE PG h (Instr.loadAt T_api_Packet (.pointer (some ⟨b, o, none⟩))) = some (.agg m.p.cells.toArray) := by
  obtain ⟨b, o, cs, e', fr, h1, hb, hle, hex⟩ := H.at T_sl_api_Item.und T_api_Item.info T_api_Item.size (k := k) (j := (j : Int)) (r := m.cells) (by omega) (by rw [List.getElem?_map, Int.toNat_natCast, hm]; rfl)
  refine ⟨b, o, h1, ?_⟩
  rw [T_api_Packet.loadAgg hb (by omega)]
  congr 2
  have : m.p.cells = (m.cells).take 4 := rfl
  rw [this, ← hex]
  apply Array.ext'
  simp [List.extract_eq_take_drop, List.take_take]
theorem put_pk {h : PH} {r : Nat} (hb : h r = some (.cells (zcells PG T_api_Packet) T_api_Packet (0, 0))) (p : Pk) {k : Value → PH → Prop} (hk : ∀ h', Bx h' r p.cells → Upd [r] h h' → k undef h') :
    SemH PG (storeS T_api_Packet (.pointer (some ⟨r, 0, none⟩)) (.agg p.cells.toArray)) h k := by
  refine store_box hb T_api_Packet.info (by show 4 = 4; rfl) (by show 0 < 4; decide) (by rw [T_api_Packet.zc]; rfl) p.allCell ?_
  exact hk _ ⟨_, set_same⟩ (Upd.set (by simp))

theorem fit_cons (room : Int) (L : List It) (n : Nt) (ns : List Nt) : fitL room L (n :: ns) = if appE L room n = 0 then fitL room (appL L room n) ns + 1 else 0 := rfl
theorem fit_le (room : Int) : ∀ (ns : List Nt) (L : List It), fitL room L ns ≤ ns.length
  | [], _ => Nat.le_refl _
  | n :: ns, L => by
    unfold fitL
    split
    · have := fit_le room ns (appL L room n)
      simp only [List.length_cons]; omega
    · omega
end Go.Proofs.Ytlkjippiaghbmaa
/- TableLives. -/
set_option maxRecDepth 40000
set_option linter.unusedSimpArgs false
set_option linter.unusedVariables false
namespace Go.Proofs.Ytlkjippiaghbmaa
open Go

theorem ins_mem (L : List It) (i : It) : i ∈ insL L i := by unfold insL; simp
theorem ins_get {L : List It} (hs : Srt L) (i : It) : getL (insL L i) i.key = some i := getL_of (hs.ins i).nodup (ins_mem L i)
theorem del_del (L : List It) (k : Ky) : delL (delL L k) k = delL L k := by unfold delL; simp [List.filter_filter]
theorem del_ins {L : List It} (hs : Srt L) (i : It) : delL (insL L i) i.key = delL L i.key := by
  refine Srt.unique ((hs.ins i).del _) (hs.del _) ?_
  have h := (ins_perm L i).filter fun j => decide (j.key ≠ i.key)
  have e : (i :: delL L i.key).filter (fun j => decide (j.key ≠ i.key)) = delL L i.key := by
    simp only [List.filter_cons, ne_eq, not_true, decide_false, Bool.false_eq_true, if_false]
    exact del_del L i.key
  rw [e] at h
  exact h
theorem ins_ins {L : List It} (hs : Srt L) {i j : It} (hk : i.key = j.key) : insL (insL L i) j = insL L j := by
  refine Srt.unique ((hs.ins i).ins j) (hs.ins j) ?_
  refine (ins_perm _ j).trans (List.Perm.trans ?_ (ins_perm L j).symm)
  rw [← hk, del_ins hs i]
theorem get_del {L : List It} {k : Ky} : getL (delL L k) k = none := getL_none.2 fun x hx => by
  unfold delL at hx
  simpa using (List.mem_filter.1 hx).2
/-- Sent, then Received; or the other way round. -/
theorem two_app {L : List It} (hs : Srt L) {p : Pk} (hr : p.right = true) (hg : getL L p.key = none) (hl : L.length < 40) (tu : Bool) :
    appE L 40 ⟨if tu then 2 else 1, p⟩ = 0 ∧ appE (appL L 40 ⟨if tu then 2 else 1, p⟩) 40 ⟨if tu then 1 else 2, p⟩ = 0 ∧ appL (appL L 40 ⟨if tu then 2 else 1, p⟩) 40 ⟨if tu then 1 else 2, p⟩ = insL L ⟨p, 2⟩ := by
  have r1 : ¬ (⟨1, p⟩ : Nt).right = false := by unfold Nt.right; rw [hr]; simp
  have r2 : ¬ (⟨2, p⟩ : Nt).right = false := by unfold Nt.right; rw [hr]; simp
  have e1 : ∀ g, putE L 40 ⟨p, g⟩ = 0 := fun g => by unfold putE; rw [if_neg (fun hc => by have := hc.2; omega)]
  have e2 : ∀ g, putL L 40 ⟨p, g⟩ = insL L ⟨p, g⟩ := fun g => by unfold putL; rw [if_neg (fun hc => by have := hc.2; omega)]
  have n21 : ¬ (2 : Int) = 1 := by decide
  cases tu with
  | false =>
    have a1 : appL L 40 ⟨1, p⟩ = insL L ⟨p, 1⟩ := by unfold appL; rw [if_neg r1, if_pos rfl, hg]; exact e2 1
    have a2 : appE L 40 ⟨1, p⟩ = 0 := by unfold appE; rw [if_neg r1, if_pos rfl, hg]; exact e1 1
    have g1 : getL (insL L ⟨p, 1⟩) p.key = some ⟨p, 1⟩ := ins_get hs ⟨p, 1⟩
    have a3 : appE (insL L ⟨p, 1⟩) 40 ⟨2, p⟩ = 0 := by unfold appE; rw [if_neg r2, if_neg n21, if_pos rfl, g1]; rfl
    have a4 : appL (insL L ⟨p, 1⟩) 40 ⟨2, p⟩ = insL L ⟨p, 2⟩ := by
      unfold appL; rw [if_neg r2, if_neg n21, if_pos rfl, g1]; exact ins_ins hs rfl
    simp only [Bool.false_eq_true, if_false]
    rw [a1]; exact ⟨a2, a3, a4⟩
  | true =>
    have a1 : appL L 40 ⟨2, p⟩ = insL L ⟨p, 2⟩ := by unfold appL; rw [if_neg r2, if_neg n21, if_pos rfl, hg]; exact e2 2
    have a2 : appE L 40 ⟨2, p⟩ = 0 := by unfold appE; rw [if_neg r2, if_neg n21, if_pos rfl, hg]; exact e1 2
    have g1 : getL (insL L ⟨p, 2⟩) p.key = some ⟨p, 2⟩ := ins_get hs ⟨p, 2⟩
    have a3 : appE (insL L ⟨p, 2⟩) 40 ⟨1, p⟩ = 0 := by unfold appE; rw [if_neg r1, if_pos rfl, g1]; rfl
    have a4 : appL (insL L ⟨p, 2⟩) 40 ⟨1, p⟩ = insL L ⟨p, 2⟩ := by unfold appL; rw [if_neg r1, if_pos rfl, g1]; rfl
    simp only [if_true]
    rw [a1]; exact ⟨a2, a3, a4⟩
theorem end_app (L : List It) {p : Pk} (hr : p.right = true) (kd : Int) (hk : kd = 3 ∨ kd = 4) : appE L 40 ⟨kd, p⟩ = 0 ∧ appL L 40 ⟨kd, p⟩ = delL L p.key := by
  have r3 : ¬ (⟨kd, p⟩ : Nt).right = false := by unfold Nt.right; rw [hr]; rcases hk with rfl | rfl <;> simp
  have n1 : ¬ kd = 1 := by omega
  have n2 : ¬ kd = 2 := by omega
  exact ⟨by unfold appE; rw [if_neg r3, if_neg n1, if_neg n2], by unfold appL; rw [if_neg r3, if_neg n1, if_neg n2]⟩

def NB (h : PH) (r : Nat) (n : Nt) : Prop := h r = some (.cells n.cells.toArray T_api_Note (0, 0))
theorem NB.bx {h : PH} {r : Nat} {n : Nt} (H : NB h r n) : Bx h r n.cells := ⟨_, H⟩
theorem nt_build (kd : Int) (p : Pk) : SemP PG (Instr.build T_api_Note #[(0, .int .i64 kd), (1, .agg p.cells.toArray)]) = some (.agg (Nt.cells ⟨kd, p⟩).toArray) := by kernel_rfl

theorem it_build2 (p : Pk) : SemP PG (Instr.build T_api_Item #[(0, .agg p.cells.toArray), (1, (Value.int IntKind.i64 2))]) = some (It.val ⟨p, 2⟩) := it_build p 2
end Go.Proofs.Ytlkjippiaghbmaa
/- tables made of items. -/
set_option maxRecDepth 40000
set_option linter.unusedSimpArgs false
set_option linter.unusedVariables false
namespace Go.Proofs.Ytlkjippiaghbmaa
open Go

def ofL (l : List It) : List It := l.foldl insL []
theorem ofL_snoc (l : List It) (x : It) : ofL (l ++ [x]) = insL (ofL l) x := by unfold ofL; rw [List.foldl_append]; rfl
theorem srt_ofL (l : List It) : Srt (ofL l) := by
  unfold ofL
  have : ∀ (l : List It) (L : List It), Srt L → Srt (l.foldl insL L) := by
    intro l
    induction l with
    | nil => intro L h; exact h
    | cons x l ih => intro L h; exact ih _ (h.ins x)
  exact this l [] List.Pairwise.nil
theorem key_ins (L : List It) (i : It) (k : Ky) : k ∈ (insL L i).map It.key ↔ k = i.key ∨ k ∈ L.map It.key := by
  rw [((ins_perm L i).map It.key).mem_iff, List.map_cons, List.mem_cons]
  constructor
  · rintro (h | h)
    · exact .inl h
    · obtain ⟨x, hx, rfl⟩ := List.mem_map.1 h
      unfold delL at hx
      exact .inr (List.mem_map_of_mem (List.mem_filter.1 hx).1)
  · rintro (h | h)
    · exact .inl h
    · obtain ⟨x, hx, rfl⟩ := List.mem_map.1 h
      by_cases e : x.key = i.key
      · exact .inl e
      · right
        unfold delL
        exact List.mem_map_of_mem (List.mem_filter.2 ⟨hx, by simpa using e⟩)
theorem key_ofL (l : List It) (k : Ky) : k ∈ (ofL l).map It.key ↔ k ∈ l.map It.key := by
  unfold ofL
  have : ∀ (l L : List It), k ∈ (l.foldl insL L).map It.key ↔ (k ∈ l.map It.key ∨ k ∈ L.map It.key) := by
    intro l
    induction l with
    | nil => intro L; simp
    | cons x l ih =>
      intro L
      rw [List.foldl_cons, ih, key_ins, List.map_cons, List.mem_cons]
      constructor
      · rintro (h | h | h)
        · exact .inl (.inr h)
        · exact .inl (.inl h)
        · exact .inr h
      · rintro ((h | h) | h)
        · exact .inr (.inl h)
        · exact .inl h
        · exact .inr (.inr h)
  rw [this]; simp
theorem get_ofL (l : List It) (k : Ky) : (getL (ofL l) k).isSome = decide (k ∈ l.map It.key) := by
  cases h : getL (ofL l) k with
  | some x =>
    obtain ⟨h1, h2⟩ := getL_mem h
    have : k ∈ l.map It.key := (key_ofL l k).1 (by rw [← h2]; exact List.mem_map_of_mem h1)
    simp only [Option.isSome_some]; exact (decide_eq_true this).symm
  | none =>
    have : k ∉ l.map It.key := fun hm => by
      obtain ⟨x, hx, e⟩ := List.mem_map.1 ((key_ofL l k).2 hm)
      exact getL_none.1 h x hx e
    simp only [Option.isSome_none]; exact (decide_eq_false this).symm
theorem nodup_snoc {l : List It} {x : It} : ((l ++ [x]).map It.key).Nodup ↔ (l.map It.key).Nodup ∧ x.key ∉ l.map It.key := by
  rw [List.map_append, List.nodup_append]
  simp only [List.map_cons, List.map_nil, List.nodup_cons, List.not_mem_nil, not_false_eq_true, List.nodup_nil, and_self, true_and, List.mem_singleton]
  constructor
  · rintro ⟨h1, h2⟩
    exact ⟨h1, fun hm => h2 _ hm _ rfl rfl⟩
  · rintro ⟨h1, h2⟩
    refine ⟨h1, ?_⟩
    rintro a ha b rfl rfl
    exact h2 ha
theorem ofL_srt {L : List It} (hs : Srt L) : ofL L = L := by
  have hp : ∀ (l L : List It), (L.map It.key ++ l.map It.key).Nodup → (l.foldl insL L).Perm (L ++ l) := by
    intro l
    induction l with
    | nil => intro L _; simp
    | cons x l ih =>
      intro L hn
      rw [List.map_cons] at hn
      have hx : x.key ∉ L.map It.key := fun hm => by
        rw [List.nodup_append] at hn
        exact hn.2.2 _ hm _ (by simp) rfl
      have hg : getL L x.key = none := getL_none.2 fun y hy e => hx (by rw [← e]; exact List.mem_map_of_mem hy)
      have h3 := ins_perm L x
      rw [del_none hg] at h3
      rw [List.foldl_cons]
      refine (ih (insL L x) ?_).trans ((h3.append_right l).trans List.perm_middle.symm)
      refine (((h3.map It.key).append_right (l.map It.key)).nodup_iff).2 ?_
      rw [List.map_cons, List.cons_append]
      exact (List.perm_middle.nodup_iff).1 hn
  exact Srt.unique (srt_ofL L) hs (hp L [] (by simpa using hs.nodup))

theorem ins_le {L : List It} (hs : Srt L) (i : It) : (insL L i).length ≤ L.length + 1 := by
  rw [ins_length_of hs]; split <;> omega
theorem ofL_len (l : List It) : (ofL l).length ≤ l.length := by
  unfold ofL
  have : ∀ (l L : List It), Srt L → (l.foldl insL L).length ≤ L.length + l.length := by
    intro l
    induction l with
    | nil => intro L _; simp
    | cons x l ih =>
      intro L hs
      rw [List.foldl_cons]
      have h1 := ih _ (hs.ins x)
      have h2 := ins_le hs x
      simp only [List.length_cons]; omega
  simpa using this l [] List.Pairwise.nil
def ofE (room : Int) (l : List It) : Int :=
  if room < 1 ∨ 40 < room then 1 else if l.all It.right = false then 1 else if ¬ (l.map It.key).Nodup then 4 else if room < l.length then 2 else 0

/-- What a call of Of hands back, with whatever it leaves. -/
theorem Of_ok {h : PH} {room : Int} {x : Value} {l : List It} (hx : SlR h 5 x (l.map It.cells)) (hl : l.length ≤ 1000) {k : Value → PH → Prop}
    (hbad : ∀ h', Ext h h' → ofE room l ≠ 0 → k (.tuple #[.pointer none, .int .i64 (ofE room l)]) h')
    (hk : ∀ a h' F, ofE room l = 0 → TAt h' a (ofL l) room F → Fresh h F → Ext h h' → k (.tuple #[.pointer (some ⟨a, 0, none⟩), .int .i64 0]) h') : CallsH PG id_table_Of #[.int .i64 room, x] h k := by
  have lx := hx.len (t' := T_int) T_sl_api_Item.und
  rw [List.length_map] at lx
  apply table_Of.call
  unfold table_Of
  have z1 : ((1 : Int) != 0) = true := by decide
  have z0 : ((0 : Int) != 0) = false := by decide
  refine New_ok room (fun hb => ?_) fun g1 g2 a h1 F H1 f1 u1 => ?_
  · have e : ofE room l = 1 := by unfold ofE; rw [if_pos hb]
    simp only [z1, popO_some, bindH_eq, condV_bool, condV_true, condV_false, yV_bool, gopV_tt, gopV_ff, gopV_tf, gopV_ft, pickV_t, pickV_f, pickV_bool, nilS_ptr, add_eq, sub_eq, mul_eq, lss_eq, leq_eq, gtr_eq, geq_eq, not_eq, minI_eq, maxI_eq, extract_0, extract_1, extract_2, eqlI, neqI, makeFunc_eq, decide_true, decide_false, if_true, if_false, Bool.false_eq_true, Bool.not_true, Bool.not_false, reduceIte, List.getElem?_toArray, List.getElem?_cons_zero, List.getElem?_cons_succ, Option.isSome_none, List.length_map]
    have := hbad h Upd.refl (by rw [e]; decide)
    rw [e] at this; exact this
  have hroom : ¬ (room < 1 ∨ 40 < room) := by omega
  simp only [z0, lx, popO_some, bindH_eq, condV_bool, condV_true, condV_false, yV_bool, gopV_tt, gopV_ff, gopV_tf, gopV_ft, pickV_t, pickV_f, pickV_bool, nilS_ptr, add_eq, sub_eq, mul_eq, lss_eq, leq_eq, gtr_eq, geq_eq, not_eq, minI_eq, maxI_eq, extract_0, extract_1, extract_2, eqlI, neqI, makeFunc_eq, decide_true, decide_false, if_true, if_false, Bool.false_eq_true, Bool.not_true, Bool.not_false, reduceIte, List.getElem?_toArray, List.getElem?_cons_zero, List.getElem?_cons_succ, Option.isSome_none, List.length_map]
  refine ⟨fun vs h' => ∃ (i : Nat) (tw : Bool), i ≤ l.length ∧ vs = [.int .i64 room, x, .pointer (some ⟨a, 0, none⟩), .bool tw, x, .int .i64 l.length, .int .i64 i] ∧ TAt h' a (ofL (l.take i)) room F ∧ Ext h h' ∧ (l.take i).all It.right = true ∧ tw = !decide (((l.take i).map It.key).Nodup), upTo l.length 6,
    ⟨0, false, by omega, rfl, H1, u1, by simp, by simp⟩, ?_⟩
  rintro ρ h' ⟨i, tw, hi, hvs, HT, w, har, htw⟩
  simp only [List.map_cons, List.map_nil, List.cons.injEq, and_true] at hvs
  obtain ⟨e0, e1, e2, e3, e4, e5, e6⟩ := hvs
  rw [e0, e1, e2, e3, e4, e5, e6]
  unfold table_Of_b8
  by_cases hlt : i < l.length
  · have hd : ((i : Int) < (l.length : Int)) = True := by apply eq_true; omega
    obtain ⟨m, hm⟩ : ∃ m, l[i]? = some m := ⟨_, List.getElem?_eq_getElem hlt⟩
    obtain ⟨y, y1, y2⟩ := (hx.ext w).it (k := .i64) hm
    have htake : l.take (i + 1) = l.take i ++ [m] := by rw [List.take_add_one, hm]; rfl
    have ei : IntKind.i64.wrap ((i : Int) + 1) = ((i + 1 : Nat) : Int) := by rw [i64_wrap (by omega) (by omega)]; omega
    simp only [hd, y1, y2, popO_some, bindH_eq, condV_bool, condV_true, condV_false, yV_bool, gopV_tt, gopV_ff, gopV_tf, gopV_ft, pickV_t, pickV_f, pickV_bool, nilS_ptr, add_eq, sub_eq, mul_eq, lss_eq, leq_eq, gtr_eq, geq_eq, not_eq, minI_eq, maxI_eq, extract_0, extract_1, extract_2, eqlI, neqI, makeFunc_eq, decide_true, decide_false, if_true, if_false, Bool.false_eq_true, Bool.not_true, Bool.not_false, reduceIte, List.getElem?_toArray, List.getElem?_cons_zero, List.getElem?_cons_succ, Option.isSome_none, List.length_map]
    intro r hr
    try rw [bindH_eq]
    refine put_it hr m fun h2 b2 u2 => ?_
    have w2 := w.trans u2
    have c4 : cellH h2 ⟨r, 0 + 4, none⟩ = some (.int .i64 m.g) := b2.cell 4
    have p2 := b2.pk (o := 0) (p := m.p) rfl
    have bad : m.right = false → ofE room l = 1 := fun hmr => by
      unfold ofE
      rw [if_neg hroom, if_pos]
      rw [List.all_eq_false]
      exact ⟨m, List.mem_of_getElem? hm, by simp [hmr]⟩
    have fail : ∀ h3, Ext h h3 → m.right = false → k (.tuple #[.pointer none, .int .i64 1]) h3 := fun h3 w3 hmr => by
      have e := bad hmr
      have := hbad h3 w3 (by rw [e]; decide)
      rw [e] at this; exact this
    have hcase : (m.g ≠ 1 ∧ m.g ≠ 2) ∨ (m.g = 1 ∨ m.g = 2) := by omega
    rcases hcase with ⟨n1, n2⟩ | hgg
    · have e1 : (m.g != 1) = true := by simp [n1]
      have e2 : (m.g != 2) = true := by simp [n2]
      have hmr : m.right = false := by unfold It.right; simp [n1, n2]
      simp only [T_api_Item.f1, T_int.load, c4, e1, e2, popO_some, bindH_eq, condV_bool, condV_true, condV_false, yV_bool, gopV_tt, gopV_ff, gopV_tf, gopV_ft, pickV_t, pickV_f, pickV_bool, nilS_ptr, add_eq, sub_eq, mul_eq, lss_eq, leq_eq, gtr_eq, geq_eq, not_eq, minI_eq, maxI_eq, extract_0, extract_1, extract_2, eqlI, neqI, makeFunc_eq, decide_true, decide_false, if_true, if_false, Bool.false_eq_true, Bool.not_true, Bool.not_false, reduceIte, List.getElem?_toArray, List.getElem?_cons_zero, List.getElem?_cons_succ, Option.isSome_none, List.length_map]
      exact fail h2 w2 hmr
    have z11 : ((1 : Int) != 1) = false := by decide
    have z21 : ((2 : Int) != 1) = true := by decide
    have z22 : ((2 : Int) != 2) = false := by decide
    have hmr : m.right = m.p.right := by unfold It.right; rcases hgg with h | h <;> simp [h]
    rcases hgg with hg | hg <;> rw [hg] at c4 <;> simp only [T_api_Item.f0, T_api_Item.f1, T_int.load, c4, z11, z21, z22, p2, popO_some, bindH_eq, condV_bool, condV_true, condV_false, yV_bool, gopV_tt, gopV_ff, gopV_tf, gopV_ft, pickV_t, pickV_f, pickV_bool, nilS_ptr, add_eq, sub_eq, mul_eq, lss_eq, leq_eq, gtr_eq, geq_eq, not_eq, minI_eq, maxI_eq, extract_0, extract_1, extract_2, eqlI, neqI, makeFunc_eq, decide_true, decide_false, if_true, if_false, Bool.false_eq_true, Bool.not_true, Bool.not_false, reduceIte, List.getElem?_toArray, List.getElem?_cons_zero, List.getElem?_cons_succ, Option.isSome_none, List.length_map] <;> refine Check_ok m.p fun h3 u3 => ?_
    all_goals
      cases hpr : m.p.right with
      | false =>
        simp only [Bool.false_eq_true, if_false, z1, popO_some, bindH_eq, condV_bool, condV_true, condV_false, yV_bool, gopV_tt, gopV_ff, gopV_tf, gopV_ft, pickV_t, pickV_f, pickV_bool, nilS_ptr, add_eq, sub_eq, mul_eq, lss_eq, leq_eq, gtr_eq, geq_eq, not_eq, minI_eq, maxI_eq, extract_0, extract_1, extract_2, eqlI, neqI, makeFunc_eq, decide_true, decide_false, if_true, if_false, Bool.false_eq_true, Bool.not_true, Bool.not_false, reduceIte, List.getElem?_toArray, List.getElem?_cons_zero, List.getElem?_cons_succ, Option.isSome_none, List.length_map]
        exact fail h3 (w2.trans u3) (by rw [hmr]; exact hpr)
      | true =>
        have b3 := b2.ext u3
        have c0 : cellH h3 ⟨r, 0, none⟩ = some (.int .i64 m.p.f) := b3.cell 0
        have c1 : cellH h3 ⟨r, 0 + 1, none⟩ = some (.int .u64 m.p.s) := b3.cell 1
        simp only [if_true, z0, T_api_Item.f0, T_api_Packet.f0, T_api_Packet.f1, T_int.load, T_uint64.load, c0, c1, pk_key_build, popO_some, bindH_eq, condV_bool, condV_true, condV_false, yV_bool, gopV_tt, gopV_ff, gopV_tf, gopV_ft, pickV_t, pickV_f, pickV_bool, nilS_ptr, add_eq, sub_eq, mul_eq, lss_eq, leq_eq, gtr_eq, geq_eq, not_eq, minI_eq, maxI_eq, extract_0, extract_1, extract_2, eqlI, neqI, makeFunc_eq, decide_true, decide_false, if_true, if_false, Bool.false_eq_true, Bool.not_true, Bool.not_false, reduceIte, List.getElem?_toArray, List.getElem?_cons_zero, List.getElem?_cons_succ, Option.isSome_none, List.length_map]
        intro r5 hr5
        try rw [bindH_eq]
        refine store_box set_same T_table_id.info (by show 2 = 2; rfl) (by show 0 < 2; decide) (by rw [T_table_id.zc]; rfl) (by simp [isCell, Pk.key]) ?_
        rw [set_set_same]
        have u5 : Ext h3 (h3.set r5 (.cells #[.int .i64 m.p.key.1, .int .u64 m.p.key.2] T_table_id (0, 0))) := Upd.new hr5
        have b5 : Bx (h3.set r5 (.cells #[.int .i64 m.p.key.1, .int .u64 m.p.key.2] T_table_id (0, 0))) r5 [.int .i64 m.p.key.1, .int .u64 m.p.key.2] := ⟨_, set_same⟩
        generalize h3.set r5 (.cells #[.int .i64 m.p.key.1, .int .u64 m.p.key.2] T_table_id (0, 0)) = h5 at *
        have U5 := (u2.trans u3).trans u5
        have H5 := HT.ext U5
        have hs := HT.srt
        obtain ⟨mm, ll, ha, hmm, hp, hF, ham⟩ := H5.here
        have hgl := fun k => getL_perm hp hs.nodup k
        have cm : cellH h5 ⟨a, 0, none⟩ = some (.map (some mm)) := by simp [cellH, ha]
        simp only [T_table_Table.f0, T_map_table_id_api_Item.load, cm, b5.id, look_eq hmm, hgl, popO_some, bindH_eq, condV_bool, condV_true, condV_false, yV_bool, gopV_tt, gopV_ff, gopV_tf, gopV_ft, pickV_t, pickV_f, pickV_bool, nilS_ptr, add_eq, sub_eq, mul_eq, lss_eq, leq_eq, gtr_eq, geq_eq, not_eq, minI_eq, maxI_eq, extract_0, extract_1, extract_2, eqlI, neqI, makeFunc_eq, decide_true, decide_false, if_true, if_false, Bool.false_eq_true, Bool.not_true, Bool.not_false, reduceIte, List.getElem?_toArray, List.getElem?_cons_zero, List.getElem?_cons_succ, Option.isSome_none, List.length_map]
        intro r7 hr7
        try rw [bindH_eq]
        refine put_it hr7 _ fun h7 b7 u7 => ?_
        have ha7 := u7.get ha
        have hm7 := MapAt.ext hmm u7
        have b57 := b5.ext u7
        have b37 := (b3.ext u5).ext u7
        have cm7 : cellH h7 ⟨a, 0, none⟩ = some (.map (some mm)) := by simp [cellH, ha7]
        have hgt : (getL (ofL (l.take i)) m.p.key).isSome = decide (m.key ∈ (l.take i).map It.key) := get_ofL (l.take i) m.p.key
        have hn := @nodup_snoc (l.take i) m
        have hFf : Fresh h F := f1
        have rest : ∀ (K : Value → PH → Prop), (∀ h9, TAt h9 a (ofL (l.take (i + 1))) room F → Ext h h9 → K undef h9) → SemH PG (mapUpdS T_map_table_id_api_Item (.map (some mm)) (kenc m.p.key) m.val) h7 K := fun K hK => by
          refine map_put kkeyed T_map_table_id_api_Item.und hm7 m.key m.val fun h9 hm9 u9 => ?_
          obtain ⟨l', q1, q2⟩ := put_perm hp hs m
          rw [q1] at hm9
          refine hK h9 ⟨⟨mm, l', u9.get ha7 (by simpa using ham), hm9, by rw [htake, ofL_snoc]; exact q2, hF, ham⟩, srt_ofL _⟩ ?_
          exact ((w.trans U5).trans u7).fresh u9 (Fresh.one (hFf mm (by rw [hF]; simp)))
        have hall : (l.take (i + 1)).all It.right = true := by rw [htake, List.all_append, har]; simp [hmr, hpr]
        cases tw with
        | true =>
          simp only [T_table_Table.f0, T_map_table_id_api_Item.load, cm7, b57.id, b37.it, popO_some, bindH_eq, condV_bool, condV_true, condV_false, yV_bool, gopV_tt, gopV_ff, gopV_tf, gopV_ft, pickV_t, pickV_f, pickV_bool, nilS_ptr, add_eq, sub_eq, mul_eq, lss_eq, leq_eq, gtr_eq, geq_eq, not_eq, minI_eq, maxI_eq, extract_0, extract_1, extract_2, eqlI, neqI, makeFunc_eq, decide_true, decide_false, if_true, if_false, Bool.false_eq_true, Bool.not_true, Bool.not_false, reduceIte, List.getElem?_toArray, List.getElem?_cons_zero, List.getElem?_cons_succ, Option.isSome_none, List.length_map]
          refine rest _ fun h9 H9 w9 => ?_
          simp only [ei, popO_some, bindH_eq, condV_bool, condV_true, condV_false, yV_bool, gopV_tt, gopV_ff, gopV_tf, gopV_ft, pickV_t, pickV_f, pickV_bool, nilS_ptr, add_eq, sub_eq, mul_eq, lss_eq, leq_eq, gtr_eq, geq_eq, not_eq, minI_eq, maxI_eq, extract_0, extract_1, extract_2, eqlI, neqI, makeFunc_eq, decide_true, decide_false, if_true, if_false, Bool.false_eq_true, Bool.not_true, Bool.not_false, reduceIte, List.getElem?_toArray, List.getElem?_cons_zero, List.getElem?_cons_succ, Option.isSome_none, List.length_map]
          have hnd : ¬ ((l.take i).map It.key).Nodup := by intro h; rw [decide_eq_true h] at htw; cases htw
          exact ⟨⟨i + 1, true, by omega, rfl, H9, w9, hall, by rw [htake, decide_eq_false (fun h => hnd (hn.1 h).1)]; rfl⟩, by simp [upTo, e6]; omega⟩
        | false =>
          have hnd : ((l.take i).map It.key).Nodup := by
            have : decide (((l.take i).map It.key).Nodup) = true := by simpa using htw.symm
            exact of_decide_eq_true this
          simp only [T_table_Table.f0, T_map_table_id_api_Item.load, cm7, b57.id, b37.it, popO_some, bindH_eq, condV_bool, condV_true, condV_false, yV_bool, gopV_tt, gopV_ff, gopV_tf, gopV_ft, pickV_t, pickV_f, pickV_bool, nilS_ptr, add_eq, sub_eq, mul_eq, lss_eq, leq_eq, gtr_eq, geq_eq, not_eq, minI_eq, maxI_eq, extract_0, extract_1, extract_2, eqlI, neqI, makeFunc_eq, decide_true, decide_false, if_true, if_false, Bool.false_eq_true, Bool.not_true, Bool.not_false, reduceIte, List.getElem?_toArray, List.getElem?_cons_zero, List.getElem?_cons_succ, Option.isSome_none, List.length_map]
          refine rest _ fun h9 H9 w9 => ?_
          simp only [ei, popO_some, bindH_eq, condV_bool, condV_true, condV_false, yV_bool, gopV_tt, gopV_ff, gopV_tf, gopV_ft, pickV_t, pickV_f, pickV_bool, nilS_ptr, add_eq, sub_eq, mul_eq, lss_eq, leq_eq, gtr_eq, geq_eq, not_eq, minI_eq, maxI_eq, extract_0, extract_1, extract_2, eqlI, neqI, makeFunc_eq, decide_true, decide_false, if_true, if_false, Bool.false_eq_true, Bool.not_true, Bool.not_false, reduceIte, List.getElem?_toArray, List.getElem?_cons_zero, List.getElem?_cons_succ, Option.isSome_none, List.length_map]
          refine ⟨⟨i + 1, (getL (ofL (l.take i)) m.p.key).isSome, by omega, rfl, H9, w9, hall, ?_⟩, by simp [upTo, e6]; omega⟩
          rw [hgt, htake]
          by_cases h2 : m.key ∈ (l.take i).map It.key
          · rw [decide_eq_true h2, decide_eq_false (fun h => (hn.1 h).2 h2)]; rfl
          · rw [decide_eq_false h2, decide_eq_true (hn.2 ⟨hnd, h2⟩)]; rfl
  · have hil : i = l.length := by omega
    have hd : ((i : Int) < (l.length : Int)) = False := by apply eq_false; omega
    rw [hil, List.take_length] at HT har htw
    have har' : ¬ l.all It.right = false := by rw [har]; simp
    simp only [hd, lx, popO_some, bindH_eq, condV_bool, condV_true, condV_false, yV_bool, gopV_tt, gopV_ff, gopV_tf, gopV_ft, pickV_t, pickV_f, pickV_bool, nilS_ptr, add_eq, sub_eq, mul_eq, lss_eq, leq_eq, gtr_eq, geq_eq, not_eq, minI_eq, maxI_eq, extract_0, extract_1, extract_2, eqlI, neqI, makeFunc_eq, decide_true, decide_false, if_true, if_false, Bool.false_eq_true, Bool.not_true, Bool.not_false, reduceIte, List.getElem?_toArray, List.getElem?_cons_zero, List.getElem?_cons_succ, Option.isSome_none, List.length_map]
    cases tw with
    | true =>
      have hnd : ¬ (l.map It.key).Nodup := by intro h; rw [decide_eq_true h] at htw; cases htw
      have e : ofE room l = 4 := by unfold ofE; rw [if_neg hroom, if_neg har', if_pos hnd]
      simp only [popO_some, bindH_eq, condV_bool, condV_true, condV_false, yV_bool, gopV_tt, gopV_ff, gopV_tf, gopV_ft, pickV_t, pickV_f, pickV_bool, nilS_ptr, add_eq, sub_eq, mul_eq, lss_eq, leq_eq, gtr_eq, geq_eq, not_eq, minI_eq, maxI_eq, extract_0, extract_1, extract_2, eqlI, neqI, makeFunc_eq, decide_true, decide_false, if_true, if_false, Bool.false_eq_true, Bool.not_true, Bool.not_false, reduceIte, List.getElem?_toArray, List.getElem?_cons_zero, List.getElem?_cons_succ, Option.isSome_none, List.length_map]
      have := hbad h' w (by rw [e]; decide)
      rw [e] at this; exact this
    | false =>
      have hnd : (l.map It.key).Nodup := by
        have : decide ((l.map It.key).Nodup) = true := by simpa using htw.symm
        exact of_decide_eq_true this
      by_cases hfull : room < (l.length : Int)
      · have e : ofE room l = 2 := by unfold ofE; rw [if_neg hroom, if_neg har', if_neg (fun h => h hnd), if_pos hfull]
        simp only [hfull, popO_some, bindH_eq, condV_bool, condV_true, condV_false, yV_bool, gopV_tt, gopV_ff, gopV_tf, gopV_ft, pickV_t, pickV_f, pickV_bool, nilS_ptr, add_eq, sub_eq, mul_eq, lss_eq, leq_eq, gtr_eq, geq_eq, not_eq, minI_eq, maxI_eq, extract_0, extract_1, extract_2, eqlI, neqI, makeFunc_eq, decide_true, decide_false, if_true, if_false, Bool.false_eq_true, Bool.not_true, Bool.not_false, reduceIte, List.getElem?_toArray, List.getElem?_cons_zero, List.getElem?_cons_succ, Option.isSome_none, List.length_map]
        have := hbad h' w (by rw [e]; decide)
        rw [e] at this; exact this
      · have e : ofE room l = 0 := by unfold ofE; rw [if_neg hroom, if_neg har', if_neg (fun h => h hnd), if_neg hfull]
        simp only [hfull, popO_some, bindH_eq, condV_bool, condV_true, condV_false, yV_bool, gopV_tt, gopV_ff, gopV_tf, gopV_ft, pickV_t, pickV_f, pickV_bool, nilS_ptr, add_eq, sub_eq, mul_eq, lss_eq, leq_eq, gtr_eq, geq_eq, not_eq, minI_eq, maxI_eq, extract_0, extract_1, extract_2, eqlI, neqI, makeFunc_eq, decide_true, decide_false, if_true, if_false, Bool.false_eq_true, Bool.not_true, Bool.not_false, reduceIte, List.getElem?_toArray, List.getElem?_cons_zero, List.getElem?_cons_succ, Option.isSome_none, List.length_map]
        exact hk a h' F e HT f1 w
end Go.Proofs.Ytlkjippiaghbmaa
