/- table: packets, notes, items; what may be; comparing. -/
import Derived.Test.YtdgcpeinkjnncaaHCom
import Derived.Test.YtdgcpeinkjnncaaHMapR
import Derived.Test.YtdgcpeinkjnncaaHCut
set_option linter.unusedSimpArgs false
set_option linter.unusedVariables false
namespace Go.Proofs.Ytdgcpeinkjnncaa
open Go

structure Pk where
  f : Int
  s : Int
  t : Int
  d : ByteArray
  deriving DecidableEq
instance : Inhabited Pk := ⟨⟨0, 0, 0, ⟨#[]⟩⟩⟩
def Pk.cells (p : Pk) : List Value := [.int .i64 p.f, .int .u64 p.s, .int .u64 p.t, .string p.d]
structure It where
  p : Pk
  g : Int
  deriving DecidableEq
instance : Inhabited It := ⟨⟨default, 0⟩⟩
def It.cells (i : It) : List Value := [.int .i64 i.p.f, .int .u64 i.p.s, .int .u64 i.p.t, .string i.p.d, .int .i64 i.g]
structure Nt where
  k : Int
  p : Pk
  deriving DecidableEq
def Nt.cells (n : Nt) : List Value := [.int .i64 n.k, .int .i64 n.p.f, .int .u64 n.p.s, .int .u64 n.p.t, .string n.p.d]
structure Ac where
  dr : Bool
  n : Nt
  deriving DecidableEq
def Ac.cells (a : Ac) : List Value := [.bool a.dr, .int .i64 a.n.k, .int .i64 a.n.p.f, .int .u64 a.n.p.s, .int .u64 a.n.p.t, .string a.n.p.d]
abbrev Ky := Int × Int
def Pk.key (p : Pk) : Ky := (p.f, p.s)
def It.key (i : It) : Ky := i.p.key
def kenc (k : Ky) : Value := .agg #[.int .i64 k.1, .int .u64 k.2]
def It.val (i : It) : Value := .agg i.cells.toArray
theorem Pk.allCell (p : Pk) : ∀ v ∈ p.cells.toArray.toList, isCell v = true := by simp [Pk.cells, isCell]
theorem It.allCell (p : It) : ∀ v ∈ p.cells.toArray.toList, isCell v = true := by simp [It.cells, isCell]
theorem It.rows (l : List It) : Rows 5 (l.map It.cells) := fun r hr => by obtain ⟨m, _, rfl⟩ := List.mem_map.1 hr; rfl
theorem Nt.rows (l : List Nt) : Rows 5 (l.map Nt.cells) := fun r hr => by obtain ⟨m, _, rfl⟩ := List.mem_map.1 hr; rfl
theorem Ac.rows (l : List Ac) : Rows 6 (l.map Ac.cells) := fun r hr => by obtain ⟨m, _, rfl⟩ := List.mem_map.1 hr; rfl

/-! ### boxes -/
structure Bx (h : PH) (r : Nat) (cs : List Value) : Prop where
  here : ∃ e, h r = some (.cells cs.toArray e (0, 0))
theorem Bx.upd {h h' : PH} {r : Nat} {cs : List Value} {G : List Nat} (H : Bx h r cs) (u : Upd G h h') (hr : r ∉ G) : Bx h' r cs := by
  obtain ⟨e, h1⟩ := H; exact ⟨e, u.get h1 hr⟩
theorem Bx.ext {h h' : PH} {r : Nat} {cs : List Value} (H : Bx h r cs) (u : Ext h h') : Bx h' r cs := H.upd u (by simp)
theorem Bx.new {h : PH} {r : Nat} {cs : List Value} {e : TypeId} : Bx (h.set r (.cells cs.toArray e (0, 0))) r cs := ⟨e, set_same⟩
theorem Bx.cell {h : PH} {r : Nat} {cs : List Value} (H : Bx h r cs) (o : Nat) : cellH h ⟨r, o, none⟩ = cs[o]? := by
  obtain ⟨e, h1⟩ := H; simp [cellH, h1]
theorem Bx.known {h : PH} {r : Nat} {cs : List Value} (H : Bx h r cs) : h r ≠ none := by
  obtain ⟨e, h1⟩ := H; rw [h1]; simp
theorem Bx.pk {h : PH} {r : Nat} {cs : List Value} (H : Bx h r cs) {o : Nat} {p : Pk} (ho : (cs.drop o).take 4 = p.cells) : SemE PG h (Instr.loadAt T_api_Packet (.pointer (some ⟨r, o, none⟩))) = some (.agg p.cells.toArray) := by
  obtain ⟨e, h1⟩ := H
  have hl : o + 4 ≤ cs.length := by
    have : ((cs.drop o).take 4).length = 4 := by rw [ho]; rfl
    rw [List.length_take, List.length_drop] at this; omega
  rw [T_api_Packet.loadAgg h1 (by simpa using hl)]
  congr 2
  rw [← ho]; simp [List.drop_take]
theorem Bx.nt {h : PH} {r : Nat} {n : Nt} (H : Bx h r n.cells) : SemE PG h (Instr.loadAt T_api_Note (.pointer (some ⟨r, 0, none⟩))) = some (.agg n.cells.toArray) := by
  obtain ⟨e, h1⟩ := H
  rw [T_api_Note.loadAgg h1 (by show 0 + 5 ≤ 5; decide)]; rfl
theorem Bx.it {h : PH} {r : Nat} {n : It} (H : Bx h r n.cells) : SemE PG h (Instr.loadAt T_api_Item (.pointer (some ⟨r, 0, none⟩))) = some n.val := by
  obtain ⟨e, h1⟩ := H
  rw [T_api_Item.loadAgg h1 (by show 0 + 5 ≤ 5; decide)]; rfl
theorem Bx.id {h : PH} {r : Nat} {k : Ky} (H : Bx h r [.int .i64 k.1, .int .u64 k.2]) : SemE PG h (Instr.loadAt T_table_id (.pointer (some ⟨r, 0, none⟩))) = some (kenc k) := by
  obtain ⟨e, h1⟩ := H
  rw [T_table_id.loadAgg h1 (by show 0 + 2 ≤ 2; decide)]; rfl

/-! ### comparing -/
def cmpI (a b : Int) : Int := if a < b then -1 else if b < a then 1 else 0
theorem Compare_int_ok {h : PH} (a b : Int) {k : Value → PH → Prop} (hk : k (.int .i64 (cmpI a b)) h) : CallsH PG id_cmp_Compare_int #[.int .i64 a, .int .i64 b] h k := by
  have hn : ∀ (x : Int) {k' : Value → PH → Prop}, k' (.bool false) h → CallsH PG id_cmp_isNaN_int #[.int .i64 x] h k' := fun x k' hk' => by
    apply cmp_isNaN_int.call
    unfold cmp_isNaN_int
    have e : (x != x) = false := by simp
    simp only [e, popO_some, bindH_eq, condV_bool, condV_true, condV_false, yV_bool, gopV_tt, gopV_ff, gopV_tf, gopV_ft, pickV_t, pickV_f, pickV_bool, nilS_ptr, add_eq, sub_eq, mul_eq, lss_eq, leq_eq, gtr_eq, geq_eq, not_eq, minI_eq, maxI_eq, extract_0, extract_1, extract_2, eqlI, neqI, makeFunc_eq, decide_true, decide_false, if_true, if_false, Bool.false_eq_true, Bool.not_true, Bool.not_false, reduceIte, List.getElem?_toArray, List.getElem?_cons_zero, List.getElem?_cons_succ, Option.isSome_none, List.length_map]
    exact hk'
  apply cmp_Compare_int.call
  unfold cmp_Compare_int
  refine hn a (hn b ?_)
  unfold cmpI at hk
  by_cases h1 : a < b
  · simp only [h1, popO_some, bindH_eq, condV_bool, condV_true, condV_false, yV_bool, gopV_tt, gopV_ff, gopV_tf, gopV_ft, pickV_t, pickV_f, pickV_bool, nilS_ptr, add_eq, sub_eq, mul_eq, lss_eq, leq_eq, gtr_eq, geq_eq, not_eq, minI_eq, maxI_eq, extract_0, extract_1, extract_2, eqlI, neqI, makeFunc_eq, decide_true, decide_false, if_true, if_false, Bool.false_eq_true, Bool.not_true, Bool.not_false, reduceIte, List.getElem?_toArray, List.getElem?_cons_zero, List.getElem?_cons_succ, Option.isSome_none, List.length_map] at hk ⊢; exact hk
  · by_cases h2 : b < a
    · simp only [h1, h2, popO_some, bindH_eq, condV_bool, condV_true, condV_false, yV_bool, gopV_tt, gopV_ff, gopV_tf, gopV_ft, pickV_t, pickV_f, pickV_bool, nilS_ptr, add_eq, sub_eq, mul_eq, lss_eq, leq_eq, gtr_eq, geq_eq, not_eq, minI_eq, maxI_eq, extract_0, extract_1, extract_2, eqlI, neqI, makeFunc_eq, decide_true, decide_false, if_true, if_false, Bool.false_eq_true, Bool.not_true, Bool.not_false, reduceIte, List.getElem?_toArray, List.getElem?_cons_zero, List.getElem?_cons_succ, Option.isSome_none, List.length_map] at hk ⊢; exact hk
    · simp only [h1, h2, popO_some, bindH_eq, condV_bool, condV_true, condV_false, yV_bool, gopV_tt, gopV_ff, gopV_tf, gopV_ft, pickV_t, pickV_f, pickV_bool, nilS_ptr, add_eq, sub_eq, mul_eq, lss_eq, leq_eq, gtr_eq, geq_eq, not_eq, minI_eq, maxI_eq, extract_0, extract_1, extract_2, eqlI, neqI, makeFunc_eq, decide_true, decide_false, if_true, if_false, Bool.false_eq_true, Bool.not_true, Bool.not_false, reduceIte, List.getElem?_toArray, List.getElem?_cons_zero, List.getElem?_cons_succ, Option.isSome_none, List.length_map] at hk ⊢; exact hk
theorem Compare_uint64_ok {h : PH} (a b : Int) {k : Value → PH → Prop} (hk : k (.int .i64 (cmpI a b)) h) : CallsH PG id_cmp_Compare_uint64 #[.int .u64 a, .int .u64 b] h k := by
  have hn : ∀ (x : Int) {k' : Value → PH → Prop}, k' (.bool false) h → CallsH PG id_cmp_isNaN_uint64 #[.int .u64 x] h k' := fun x k' hk' => by
    apply cmp_isNaN_uint64.call
    unfold cmp_isNaN_uint64
    have e : (x != x) = false := by simp
    simp only [e, popO_some, bindH_eq, condV_bool, condV_true, condV_false, yV_bool, gopV_tt, gopV_ff, gopV_tf, gopV_ft, pickV_t, pickV_f, pickV_bool, nilS_ptr, add_eq, sub_eq, mul_eq, lss_eq, leq_eq, gtr_eq, geq_eq, not_eq, minI_eq, maxI_eq, extract_0, extract_1, extract_2, eqlI, neqI, makeFunc_eq, decide_true, decide_false, if_true, if_false, Bool.false_eq_true, Bool.not_true, Bool.not_false, reduceIte, List.getElem?_toArray, List.getElem?_cons_zero, List.getElem?_cons_succ, Option.isSome_none, List.length_map]
    exact hk'
  apply cmp_Compare_uint64.call
  unfold cmp_Compare_uint64
  refine hn a (hn b ?_)
  unfold cmpI at hk
  by_cases h1 : a < b
  · simp only [h1, popO_some, bindH_eq, condV_bool, condV_true, condV_false, yV_bool, gopV_tt, gopV_ff, gopV_tf, gopV_ft, pickV_t, pickV_f, pickV_bool, nilS_ptr, add_eq, sub_eq, mul_eq, lss_eq, leq_eq, gtr_eq, geq_eq, not_eq, minI_eq, maxI_eq, extract_0, extract_1, extract_2, eqlI, neqI, makeFunc_eq, decide_true, decide_false, if_true, if_false, Bool.false_eq_true, Bool.not_true, Bool.not_false, reduceIte, List.getElem?_toArray, List.getElem?_cons_zero, List.getElem?_cons_succ, Option.isSome_none, List.length_map] at hk ⊢; exact hk
  · by_cases h2 : b < a
    · simp only [h1, h2, popO_some, bindH_eq, condV_bool, condV_true, condV_false, yV_bool, gopV_tt, gopV_ff, gopV_tf, gopV_ft, pickV_t, pickV_f, pickV_bool, nilS_ptr, add_eq, sub_eq, mul_eq, lss_eq, leq_eq, gtr_eq, geq_eq, not_eq, minI_eq, maxI_eq, extract_0, extract_1, extract_2, eqlI, neqI, makeFunc_eq, decide_true, decide_false, if_true, if_false, Bool.false_eq_true, Bool.not_true, Bool.not_false, reduceIte, List.getElem?_toArray, List.getElem?_cons_zero, List.getElem?_cons_succ, Option.isSome_none, List.length_map] at hk ⊢; exact hk
    · simp only [h1, h2, popO_some, bindH_eq, condV_bool, condV_true, condV_false, yV_bool, gopV_tt, gopV_ff, gopV_tf, gopV_ft, pickV_t, pickV_f, pickV_bool, nilS_ptr, add_eq, sub_eq, mul_eq, lss_eq, leq_eq, gtr_eq, geq_eq, not_eq, minI_eq, maxI_eq, extract_0, extract_1, extract_2, eqlI, neqI, makeFunc_eq, decide_true, decide_false, if_true, if_false, Bool.false_eq_true, Bool.not_true, Bool.not_false, reduceIte, List.getElem?_toArray, List.getElem?_cons_zero, List.getElem?_cons_succ, Option.isSome_none, List.length_map] at hk ⊢; exact hk
def icell (x : Int) : List Value := [.int .i64 x]
theorem icell.rows (l : List Int) : Rows 1 (l.map icell) := fun r hr => by obtain ⟨m, _, rfl⟩ := List.mem_map.1 hr; rfl
theorem Or_ok {h : PH} {v : Value} {a b : Int} (H : SlR h 1 v ([a, b].map icell)) {k : Value → PH → Prop} (hk : k (.int .i64 (if a ≠ 0 then a else b)) h) : CallsH PG id_cmp_Or_int #[v] h k := by
  have lv := H.len (t' := T_int) T_sl_int.und
  obtain ⟨x, x1, x2⟩ := H.loadCell (k := .i64) (j := 0) (x := .int .i64 a) T_sl_int.und T_int.info T_int.size T_int.und rfl (by decide) rfl
  obtain ⟨y, y1, y2⟩ := H.loadCell (k := .i64) (j := 1) (x := .int .i64 b) T_sl_int.und T_int.info T_int.size T_int.und rfl (by decide) rfl
  apply cmp_Or_int.call
  unfold cmp_Or_int
  have e0 : (([a, b].map icell).length : Int) = 2 := rfl
  rw [e0] at lv
  simp only [lv, popO_some, bindH_eq, condV_bool, condV_true, condV_false, yV_bool, gopV_tt, gopV_ff, gopV_tf, gopV_ft, pickV_t, pickV_f, pickV_bool, nilS_ptr, add_eq, sub_eq, mul_eq, lss_eq, leq_eq, gtr_eq, geq_eq, not_eq, minI_eq, maxI_eq, extract_0, extract_1, extract_2, eqlI, neqI, makeFunc_eq, decide_true, decide_false, if_true, if_false, Bool.false_eq_true, Bool.not_true, Bool.not_false, reduceIte, List.getElem?_toArray, List.getElem?_cons_zero, List.getElem?_cons_succ, Option.isSome_none, List.length_map]
  refine ⟨fun vs h' => ∃ i : Nat, i ≤ 2 ∧ vs = [.int .i64 0, v, .int .i64 2, .int .i64 i] ∧ h' = h ∧ (1 ≤ i → a = 0) ∧ (2 ≤ i → b = 0), upTo 2 3, ⟨0, by omega, rfl, rfl, by omega, by omega⟩, ?_⟩
  rintro ρ h' ⟨i, hi, hvs, rfl, ha, hb⟩
  simp only [List.map_cons, List.map_nil, List.cons.injEq, and_true] at hvs
  obtain ⟨e0, e1, e2, e3⟩ := hvs
  rw [e0, e1, e2, e3]
  unfold cmp_Or_int_b3
  have hc : i = 0 ∨ i = 1 ∨ i = 2 := by omega
  rcases hc with rfl | rfl | rfl
  · have d0 : (((0 : Nat) : Int) < 2) = True := by simp
    have w0 : IntKind.i64.wrap (((0 : Nat) : Int) + 1) = ((1 : Nat) : Int) := by rw [i64_wrap (by omega) (by omega)]; rfl
    simp only [d0, Int.natCast_zero, x1, x2, popO_some, bindH_eq, condV_bool, condV_true, condV_false, yV_bool, gopV_tt, gopV_ff, gopV_tf, gopV_ft, pickV_t, pickV_f, pickV_bool, nilS_ptr, add_eq, sub_eq, mul_eq, lss_eq, leq_eq, gtr_eq, geq_eq, not_eq, minI_eq, maxI_eq, extract_0, extract_1, extract_2, eqlI, neqI, makeFunc_eq, decide_true, decide_false, if_true, if_false, Bool.false_eq_true, Bool.not_true, Bool.not_false, reduceIte, List.getElem?_toArray, List.getElem?_cons_zero, List.getElem?_cons_succ, Option.isSome_none, List.length_map]
    by_cases hz : a = 0
    · have e : (a != 0) = false := by simp [hz]
      have w0' : IntKind.i64.wrap ((0 : Int) + 1) = ((1 : Nat) : Int) := w0
      simp only [e, w0', popO_some, bindH_eq, condV_bool, condV_true, condV_false, yV_bool, gopV_tt, gopV_ff, gopV_tf, gopV_ft, pickV_t, pickV_f, pickV_bool, nilS_ptr, add_eq, sub_eq, mul_eq, lss_eq, leq_eq, gtr_eq, geq_eq, not_eq, minI_eq, maxI_eq, extract_0, extract_1, extract_2, eqlI, neqI, makeFunc_eq, decide_true, decide_false, if_true, if_false, Bool.false_eq_true, Bool.not_true, Bool.not_false, reduceIte, List.getElem?_toArray, List.getElem?_cons_zero, List.getElem?_cons_succ, Option.isSome_none, List.length_map]
      exact ⟨⟨1, by omega, rfl, by trivial, fun _ => hz, by omega⟩, by simp [upTo, e3]⟩
    · have e : (a != 0) = true := by simp [hz]
      simp only [e, popO_some, bindH_eq, condV_bool, condV_true, condV_false, yV_bool, gopV_tt, gopV_ff, gopV_tf, gopV_ft, pickV_t, pickV_f, pickV_bool, nilS_ptr, add_eq, sub_eq, mul_eq, lss_eq, leq_eq, gtr_eq, geq_eq, not_eq, minI_eq, maxI_eq, extract_0, extract_1, extract_2, eqlI, neqI, makeFunc_eq, decide_true, decide_false, if_true, if_false, Bool.false_eq_true, Bool.not_true, Bool.not_false, reduceIte, List.getElem?_toArray, List.getElem?_cons_zero, List.getElem?_cons_succ, Option.isSome_none, List.length_map]
      rw [if_pos hz] at hk; exact hk
  · have d0 : (((1 : Nat) : Int) < 2) = True := by simp
    have w0 : IntKind.i64.wrap ((1 : Int) + 1) = ((2 : Nat) : Int) := by rw [i64_wrap (by omega) (by omega)]; rfl
    have c1 : ((1 : Nat) : Int) = 1 := rfl
    have hz := ha (by omega)
    simp only [d0, c1, y1, y2, popO_some, bindH_eq, condV_bool, condV_true, condV_false, yV_bool, gopV_tt, gopV_ff, gopV_tf, gopV_ft, pickV_t, pickV_f, pickV_bool, nilS_ptr, add_eq, sub_eq, mul_eq, lss_eq, leq_eq, gtr_eq, geq_eq, not_eq, minI_eq, maxI_eq, extract_0, extract_1, extract_2, eqlI, neqI, makeFunc_eq, decide_true, decide_false, if_true, if_false, Bool.false_eq_true, Bool.not_true, Bool.not_false, reduceIte, List.getElem?_toArray, List.getElem?_cons_zero, List.getElem?_cons_succ, Option.isSome_none, List.length_map]
    by_cases hy : b = 0
    · have e : (b != 0) = false := by simp [hy]
      simp only [e, w0, popO_some, bindH_eq, condV_bool, condV_true, condV_false, yV_bool, gopV_tt, gopV_ff, gopV_tf, gopV_ft, pickV_t, pickV_f, pickV_bool, nilS_ptr, add_eq, sub_eq, mul_eq, lss_eq, leq_eq, gtr_eq, geq_eq, not_eq, minI_eq, maxI_eq, extract_0, extract_1, extract_2, eqlI, neqI, makeFunc_eq, decide_true, decide_false, if_true, if_false, Bool.false_eq_true, Bool.not_true, Bool.not_false, reduceIte, List.getElem?_toArray, List.getElem?_cons_zero, List.getElem?_cons_succ, Option.isSome_none, List.length_map]
      exact ⟨⟨2, by omega, rfl, by trivial, fun _ => hz, fun _ => hy⟩, by simp [upTo, e3]⟩
    · have e : (b != 0) = true := by simp [hy]
      simp only [e, popO_some, bindH_eq, condV_bool, condV_true, condV_false, yV_bool, gopV_tt, gopV_ff, gopV_tf, gopV_ft, pickV_t, pickV_f, pickV_bool, nilS_ptr, add_eq, sub_eq, mul_eq, lss_eq, leq_eq, gtr_eq, geq_eq, not_eq, minI_eq, maxI_eq, extract_0, extract_1, extract_2, eqlI, neqI, makeFunc_eq, decide_true, decide_false, if_true, if_false, Bool.false_eq_true, Bool.not_true, Bool.not_false, reduceIte, List.getElem?_toArray, List.getElem?_cons_zero, List.getElem?_cons_succ, Option.isSome_none, List.length_map]
      rw [if_neg (by simp [hz])] at hk; exact hk
  · have d0 : (((2 : Nat) : Int) < 2) = False := by simp
    simp only [d0, popO_some, bindH_eq, condV_bool, condV_true, condV_false, yV_bool, gopV_tt, gopV_ff, gopV_tf, gopV_ft, pickV_t, pickV_f, pickV_bool, nilS_ptr, add_eq, sub_eq, mul_eq, lss_eq, leq_eq, gtr_eq, geq_eq, not_eq, minI_eq, maxI_eq, extract_0, extract_1, extract_2, eqlI, neqI, makeFunc_eq, decide_true, decide_false, if_true, if_false, Bool.false_eq_true, Bool.not_true, Bool.not_false, reduceIte, List.getElem?_toArray, List.getElem?_cons_zero, List.getElem?_cons_succ, Option.isSome_none, List.length_map]
    rw [if_neg (by simp [ha (by omega)]), hb (by omega)] at hk; exact hk

/-- The order of items, as the program holds two against each other. -/
def cfI (a b : It) : Int := if cmpI a.p.f b.p.f ≠ 0 then cmpI a.p.f b.p.f else cmpI a.p.s b.p.s
theorem less_ok {h : PH} (a b : It) {k : Value → PH → Prop} (hk : ∀ h', Ext h h' → k (.int .i64 (cfI a b)) h') : CallsH PG id_table_Table_Items_1 #[.agg a.cells.toArray, .agg b.cells.toArray] h k := by
  apply table_Table_Items_1.call
  unfold table_Table_Items_1
  intro r1 hr1
  rw [bindH_eq]
  intro r3 hr3
  rw [bindH_eq]
  have u1 : Ext h (h.set r1 (.cells a.cells.toArray T_api_Item)) := Upd.new hr1
  have b1 : Bx (h.set r1 (.cells a.cells.toArray T_api_Item)) r1 a.cells := Bx.new
  show popO _ _
  have u3 : Ext (h.set r1 (.cells a.cells.toArray T_api_Item)) ((h.set r1 (.cells a.cells.toArray T_api_Item)).set r3 (.cells b.cells.toArray T_api_Item)) := Upd.new hr3
  have b3 : Bx ((h.set r1 (.cells a.cells.toArray T_api_Item)).set r3 (.cells b.cells.toArray T_api_Item)) r3 b.cells := Bx.new
  have b1' := b1.ext u3
  have u := u1.trans u3
  change Ext h ((h.set r1 (.cells (Value.cells (.agg a.cells.toArray)) T_api_Item)).set r3 (.cells (Value.cells (.agg b.cells.toArray)) T_api_Item)) at u
  change Bx ((h.set r1 (.cells (Value.cells (.agg a.cells.toArray)) T_api_Item)).set r3 (.cells (Value.cells (.agg b.cells.toArray)) T_api_Item)) r3 _ at b3
  change Bx ((h.set r1 (.cells (Value.cells (.agg a.cells.toArray)) T_api_Item)).set r3 (.cells (Value.cells (.agg b.cells.toArray)) T_api_Item)) r1 _ at b1'
  generalize (h.set r1 (.cells (Value.cells (.agg a.cells.toArray)) T_api_Item)).set r3 (.cells (Value.cells (.agg b.cells.toArray)) T_api_Item) = h4 at *
  have c1 : cellH h4 ⟨r1, 0, none⟩ = some (.int .i64 a.p.f) := b1'.cell 0
  have c2 : cellH h4 ⟨r1, 1, none⟩ = some (.int .u64 a.p.s) := b1'.cell 1
  have c3 : cellH h4 ⟨r3, 0, none⟩ = some (.int .i64 b.p.f) := b3.cell 0
  have c4 : cellH h4 ⟨r3, 1, none⟩ = some (.int .u64 b.p.s) := b3.cell 1
  simp only [T_api_Item.f0, T_api_Packet.f0, T_api_Packet.f1, Nat.zero_add, T_int.load, T_uint64.load, c1, c2, c3, c4, popO_some, bindH_eq, condV_bool, condV_true, condV_false, yV_bool, gopV_tt, gopV_ff, gopV_tf, gopV_ft, pickV_t, pickV_f, pickV_bool, nilS_ptr, add_eq, sub_eq, mul_eq, lss_eq, leq_eq, gtr_eq, geq_eq, not_eq, minI_eq, maxI_eq, extract_0, extract_1, extract_2, eqlI, neqI, makeFunc_eq, decide_true, decide_false, if_true, if_false, Bool.false_eq_true, Bool.not_true, Bool.not_false, reduceIte, List.getElem?_toArray, List.getElem?_cons_zero, List.getElem?_cons_succ, Option.isSome_none, List.length_map]
  refine Compare_int_ok _ _ ⟨c4, c2, ?_⟩
  refine Compare_uint64_ok _ _ ?_
  have hb : SemA PG (Instr.buildSlice T_sl_int 2 #[(0, .int .i64 (cmpI a.p.f b.p.f)), (1, .int .i64 (cmpI a.p.s b.p.s))]) = some (.cells #[.int .i64 (cmpI a.p.f b.p.f), .int .i64 (cmpI a.p.s b.p.s)] T_int (0, 0), fun r => pure (.slice (some ⟨r, 0, none⟩) 2 2)) := by kernel_rfl
  rw [hb, popO_some]
  intro r hr
  refine popO_pure ?_
  try rw [bindH_eq]
  have hO : OwnR (h4.set r (.cells #[.int .i64 (cmpI a.p.f b.p.f), .int .i64 (cmpI a.p.s b.p.s)] T_int (0, 0))) T_int 1 (.slice (some ⟨r, 0, none⟩) 2 2) ([cmpI a.p.f b.p.f, cmpI a.p.s b.p.s].map icell) [r] :=
    OwnR.lit (icell.rows _) set_same rfl (by decide) rfl
  refine Or_ok hO.slR (hk _ ?_)
  exact u.trans (Upd.new hr)

/-! ### what may be -/
def Pk.right (p : Pk) : Bool := decide (0 ≤ p.f) && decide (p.f ≤ 1) && decide (p.s ≠ 0) && decide (p.t ≠ 0) && decide (p.d.size ≤ 64)
set_option maxRecDepth 20000 in
theorem Check_ok {h : PH} (p : Pk) {k : Value → PH → Prop} (hk : ∀ h', Ext h h' → k (.int .i64 (if p.right then 0 else 1)) h') : CallsH PG id_packet_Check #[.agg p.cells.toArray] h k := by
  apply packet_Check.call
  unfold packet_Check
  intro r hr
  rw [bindH_eq]
  have u : Ext h (h.set r (.cells (Value.cells (.agg p.cells.toArray)) T_api_Packet)) := Upd.new hr
  have b : Bx (h.set r (.cells (Value.cells (.agg p.cells.toArray)) T_api_Packet)) r p.cells := Bx.new
  generalize h.set r (.cells (Value.cells (.agg p.cells.toArray)) T_api_Packet) = h1 at *
  have c0 : cellH h1 ⟨r, 0, none⟩ = some (.int .i64 p.f) := b.cell 0
  have c1 : cellH h1 ⟨r, 0 + 1, none⟩ = some (.int .u64 p.s) := b.cell 1
  have c2 : cellH h1 ⟨r, 0 + 2, none⟩ = some (.int .u64 p.t) := b.cell 2
  have c3 : cellH h1 ⟨r, 0 + 3, none⟩ = some (.string p.d) := b.cell 3
  have hk := hk h1 u
  unfold Pk.right at hk
  simp only [T_api_Packet.f0, T_api_Packet.f1, T_api_Packet.f2, T_api_Packet.f3, T_int.load, T_uint64.load, T_string.load, c0, popO_some, bindH_eq, condV_bool, condV_true, condV_false, yV_bool, gopV_tt, gopV_ff, gopV_tf, gopV_ft, pickV_t, pickV_f, pickV_bool, nilS_ptr, add_eq, sub_eq, mul_eq, lss_eq, leq_eq, gtr_eq, geq_eq, not_eq, minI_eq, maxI_eq, extract_0, extract_1, extract_2, eqlI, neqI, makeFunc_eq, decide_true, decide_false, if_true, if_false, Bool.false_eq_true, Bool.not_true, Bool.not_false, reduceIte, List.getElem?_toArray, List.getElem?_cons_zero, List.getElem?_cons_succ, Option.isSome_none, List.length_map]
  by_cases d1 : p.f < 0
  · have e1 : (0 ≤ p.f) = False := by apply eq_false; omega
    simp only [T_api_Packet.f0, T_api_Packet.f1, T_api_Packet.f2, T_api_Packet.f3, T_int.load, T_uint64.load, T_string.load, c0, d1, e1, Bool.false_and, decide_false, popO_some, bindH_eq, condV_bool, condV_true, condV_false, yV_bool, gopV_tt, gopV_ff, gopV_tf, gopV_ft, pickV_t, pickV_f, pickV_bool, nilS_ptr, add_eq, sub_eq, mul_eq, lss_eq, leq_eq, gtr_eq, geq_eq, not_eq, minI_eq, maxI_eq, extract_0, extract_1, extract_2, eqlI, neqI, makeFunc_eq, decide_true, decide_false, if_true, if_false, Bool.false_eq_true, Bool.not_true, Bool.not_false, reduceIte, List.getElem?_toArray, List.getElem?_cons_zero, List.getElem?_cons_succ, Option.isSome_none, List.length_map] at hk ⊢
    exact hk
  · have e1 : (0 ≤ p.f) = True := by apply eq_true; omega
    by_cases d2 : 1 < p.f
    · have e2 : (p.f ≤ 1) = False := by apply eq_false; omega
      simp only [T_api_Packet.f0, T_api_Packet.f1, T_api_Packet.f2, T_api_Packet.f3, T_int.load, T_uint64.load, T_string.load, c0, d1, e1, d2, e2, Bool.false_and, Bool.and_false, decide_false, popO_some, bindH_eq, condV_bool, condV_true, condV_false, yV_bool, gopV_tt, gopV_ff, gopV_tf, gopV_ft, pickV_t, pickV_f, pickV_bool, nilS_ptr, add_eq, sub_eq, mul_eq, lss_eq, leq_eq, gtr_eq, geq_eq, not_eq, minI_eq, maxI_eq, extract_0, extract_1, extract_2, eqlI, neqI, makeFunc_eq, decide_true, decide_false, if_true, if_false, Bool.false_eq_true, Bool.not_true, Bool.not_false, reduceIte, List.getElem?_toArray, List.getElem?_cons_zero, List.getElem?_cons_succ, Option.isSome_none, List.length_map] at hk ⊢
      exact hk
    · have e2 : (p.f ≤ 1) = True := by apply eq_true; omega
      by_cases d3 : p.s = 0
      · have e3 : (p.s == 0) = true := by simp [d3]
        have e3' : (p.s ≠ 0) = False := by simp [d3]
        simp only [T_api_Packet.f0, T_api_Packet.f1, T_api_Packet.f2, T_api_Packet.f3, T_int.load, T_uint64.load, T_string.load, c0, d1, e1, d2, e2, c1, e3, e3', Bool.false_and, Bool.and_false, decide_false, popO_some, bindH_eq, condV_bool, condV_true, condV_false, yV_bool, gopV_tt, gopV_ff, gopV_tf, gopV_ft, pickV_t, pickV_f, pickV_bool, nilS_ptr, add_eq, sub_eq, mul_eq, lss_eq, leq_eq, gtr_eq, geq_eq, not_eq, minI_eq, maxI_eq, extract_0, extract_1, extract_2, eqlI, neqI, makeFunc_eq, decide_true, decide_false, if_true, if_false, Bool.false_eq_true, Bool.not_true, Bool.not_false, reduceIte, List.getElem?_toArray, List.getElem?_cons_zero, List.getElem?_cons_succ, Option.isSome_none, List.length_map] at hk ⊢
        exact hk
      · have e3 : (p.s == 0) = false := by simp [d3]
        have e3' : (p.s ≠ 0) = True := by simp [d3]
        by_cases d4 : p.t = 0
        · have e4 : (p.t == 0) = true := by simp [d4]
          have e4' : (p.t ≠ 0) = False := by simp [d4]
          simp only [T_api_Packet.f0, T_api_Packet.f1, T_api_Packet.f2, T_api_Packet.f3, T_int.load, T_uint64.load, T_string.load, c0, d1, e1, d2, e2, c1, e3, e3', c2, e4, e4', Bool.false_and, Bool.and_false, decide_false, popO_some, bindH_eq, condV_bool, condV_true, condV_false, yV_bool, gopV_tt, gopV_ff, gopV_tf, gopV_ft, pickV_t, pickV_f, pickV_bool, nilS_ptr, add_eq, sub_eq, mul_eq, lss_eq, leq_eq, gtr_eq, geq_eq, not_eq, minI_eq, maxI_eq, extract_0, extract_1, extract_2, eqlI, neqI, makeFunc_eq, decide_true, decide_false, if_true, if_false, Bool.false_eq_true, Bool.not_true, Bool.not_false, reduceIte, List.getElem?_toArray, List.getElem?_cons_zero, List.getElem?_cons_succ, Option.isSome_none, List.length_map] at hk ⊢
          exact hk
        · have e4 : (p.t == 0) = false := by simp [d4]
          have e4' : (p.t ≠ 0) = True := by simp [d4]
          by_cases d5 : p.d.size ≤ 64
          · have e5 : ((64 : Int) < (p.d.size : Int)) = False := by apply eq_false; omega
            simp only [T_api_Packet.f0, T_api_Packet.f1, T_api_Packet.f2, T_api_Packet.f3, T_int.load, T_uint64.load, T_string.load, c0, d1, e1, d2, e2, c1, e3, e3', c2, e4, e4', c3, len_string T_string.und, e5, d5, Bool.and_self, Bool.true_and, popO_some, bindH_eq, condV_bool, condV_true, condV_false, yV_bool, gopV_tt, gopV_ff, gopV_tf, gopV_ft, pickV_t, pickV_f, pickV_bool, nilS_ptr, add_eq, sub_eq, mul_eq, lss_eq, leq_eq, gtr_eq, geq_eq, not_eq, minI_eq, maxI_eq, extract_0, extract_1, extract_2, eqlI, neqI, makeFunc_eq, decide_true, decide_false, if_true, if_false, Bool.false_eq_true, Bool.not_true, Bool.not_false, reduceIte, List.getElem?_toArray, List.getElem?_cons_zero, List.getElem?_cons_succ, Option.isSome_none, List.length_map] at hk ⊢
            exact hk
          · have e5 : ((64 : Int) < (p.d.size : Int)) = True := by apply eq_true; omega
            simp only [T_api_Packet.f0, T_api_Packet.f1, T_api_Packet.f2, T_api_Packet.f3, T_int.load, T_uint64.load, T_string.load, c0, d1, e1, d2, e2, c1, e3, e3', c2, e4, e4', c3, len_string T_string.und, e5, d5, Bool.and_false, decide_false, popO_some, bindH_eq, condV_bool, condV_true, condV_false, yV_bool, gopV_tt, gopV_ff, gopV_tf, gopV_ft, pickV_t, pickV_f, pickV_bool, nilS_ptr, add_eq, sub_eq, mul_eq, lss_eq, leq_eq, gtr_eq, geq_eq, not_eq, minI_eq, maxI_eq, extract_0, extract_1, extract_2, eqlI, neqI, makeFunc_eq, decide_true, decide_false, if_true, if_false, Bool.false_eq_true, Bool.not_true, Bool.not_false, reduceIte, List.getElem?_toArray, List.getElem?_cons_zero, List.getElem?_cons_succ, Option.isSome_none, List.length_map] at hk ⊢
            exact hk
def Nt.right (n : Nt) : Bool := decide (1 ≤ n.k) && decide (n.k ≤ 4) && n.p.right
set_option maxRecDepth 20000 in
theorem NCheck_ok {h : PH} (n : Nt) {k : Value → PH → Prop} (hk : ∀ h', Ext h h' → k (.int .i64 (if n.right then 0 else 1)) h') : CallsH PG id_note_Check #[.agg n.cells.toArray] h k := by
  apply note_Check.call
  unfold note_Check
  intro r hr
  rw [bindH_eq]
  have u : Ext h (h.set r (.cells (Value.cells (.agg n.cells.toArray)) T_api_Note)) := Upd.new hr
  have b : Bx (h.set r (.cells (Value.cells (.agg n.cells.toArray)) T_api_Note)) r n.cells := Bx.new
  generalize h.set r (.cells (Value.cells (.agg n.cells.toArray)) T_api_Note) = h1 at *
  have c0 : cellH h1 ⟨r, 0, none⟩ = some (.int .i64 n.k) := b.cell 0
  have p1 := b.pk (o := 0 + 1) (p := n.p) rfl
  unfold Nt.right at hk
  simp only [T_api_Note.f0, T_api_Note.f1, T_int.load, c0, popO_some, bindH_eq, condV_bool, condV_true, condV_false, yV_bool, gopV_tt, gopV_ff, gopV_tf, gopV_ft, pickV_t, pickV_f, pickV_bool, nilS_ptr, add_eq, sub_eq, mul_eq, lss_eq, leq_eq, gtr_eq, geq_eq, not_eq, minI_eq, maxI_eq, extract_0, extract_1, extract_2, eqlI, neqI, makeFunc_eq, decide_true, decide_false, if_true, if_false, Bool.false_eq_true, Bool.not_true, Bool.not_false, reduceIte, List.getElem?_toArray, List.getElem?_cons_zero, List.getElem?_cons_succ, Option.isSome_none, List.length_map]
  by_cases d1 : n.k < 1
  · have e1 : (1 ≤ n.k) = False := by apply eq_false; omega
    simp only [T_api_Note.f0, T_api_Note.f1, T_int.load, c0, d1, e1, Bool.false_and, decide_false, popO_some, bindH_eq, condV_bool, condV_true, condV_false, yV_bool, gopV_tt, gopV_ff, gopV_tf, gopV_ft, pickV_t, pickV_f, pickV_bool, nilS_ptr, add_eq, sub_eq, mul_eq, lss_eq, leq_eq, gtr_eq, geq_eq, not_eq, minI_eq, maxI_eq, extract_0, extract_1, extract_2, eqlI, neqI, makeFunc_eq, decide_true, decide_false, if_true, if_false, Bool.false_eq_true, Bool.not_true, Bool.not_false, reduceIte, List.getElem?_toArray, List.getElem?_cons_zero, List.getElem?_cons_succ, Option.isSome_none, List.length_map] at hk ⊢
    exact hk _ u
  · have e1 : (1 ≤ n.k) = True := by apply eq_true; omega
    by_cases d2 : 4 < n.k
    · have e2 : (n.k ≤ 4) = False := by apply eq_false; omega
      simp only [T_api_Note.f0, T_api_Note.f1, T_int.load, c0, d1, e1, d2, e2, Bool.false_and, Bool.and_false, decide_false, popO_some, bindH_eq, condV_bool, condV_true, condV_false, yV_bool, gopV_tt, gopV_ff, gopV_tf, gopV_ft, pickV_t, pickV_f, pickV_bool, nilS_ptr, add_eq, sub_eq, mul_eq, lss_eq, leq_eq, gtr_eq, geq_eq, not_eq, minI_eq, maxI_eq, extract_0, extract_1, extract_2, eqlI, neqI, makeFunc_eq, decide_true, decide_false, if_true, if_false, Bool.false_eq_true, Bool.not_true, Bool.not_false, reduceIte, List.getElem?_toArray, List.getElem?_cons_zero, List.getElem?_cons_succ, Option.isSome_none, List.length_map] at hk ⊢
      exact hk _ u
    · have e2 : (n.k ≤ 4) = True := by apply eq_true; omega
      simp only [T_api_Note.f0, T_api_Note.f1, T_int.load, c0, d1, e1, d2, e2, p1, Bool.true_and, popO_some, bindH_eq, condV_bool, condV_true, condV_false, yV_bool, gopV_tt, gopV_ff, gopV_tf, gopV_ft, pickV_t, pickV_f, pickV_bool, nilS_ptr, add_eq, sub_eq, mul_eq, lss_eq, leq_eq, gtr_eq, geq_eq, not_eq, minI_eq, maxI_eq, extract_0, extract_1, extract_2, eqlI, neqI, makeFunc_eq, decide_true, decide_false, if_true, if_false, Bool.false_eq_true, Bool.not_true, Bool.not_false, reduceIte, List.getElem?_toArray, List.getElem?_cons_zero, List.getElem?_cons_succ, Option.isSome_none, List.length_map] at hk ⊢
      refine Check_ok n.p fun h2 u2 => hk _ (u.trans u2)
end Go.Proofs.Ytdgcpeinkjnncaa
