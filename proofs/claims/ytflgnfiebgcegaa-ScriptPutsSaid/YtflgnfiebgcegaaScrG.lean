/- script: what each form reads. -/
import Derived.Test.YtflgnfiebgcegaaScrA
set_option linter.unusedSimpArgs false
set_option linter.unusedVariables false
namespace Go.Proofs.Ytflgnfiebgcegaa
open Go
set_option maxRecDepth 20000
abbrev Stt := Int × List UInt8
def gWr : Nat → Stt → List Wr × Stt
  | 0, st => ([], st)
  | n + 1, st => if st.1 ≠ 0 then ([], st) else
    let b := rGet st 1
    let t := rTwo b.2
    let r := gWr n t.2
    (⟨decide (0 < b.1), t.1⟩ :: r.1, r.2)
def gForge (st : Stt) : Msg × Stt :=
  let a := rGet st 1
  let b := rGet a.2 1
  let c := rGet b.2 8
  let d := rGet c.2 1
  let e := rGet d.2 8
  let f := rGet e.2 8
  let g := rText f.2
  let p := rText g.2
  (⟨a.1, b.1, c.1, d.1, e.1, f.1, g.1, p.1⟩, p.2)
def gAct (k : Nat) (st : Stt) : Act × Stt := match k with
  | 0 =>
    let a := rGet st 1
    let b := rGet a.2 8
    let c := rText b.2
    ({ Act.zero 0 with chain := a.1, timeout := b.1, data := c.1 }, c.2)
  | 1 => ({ Act.zero 1 with chain := (rGet st 1).1 }, (rGet st 1).2)
  | 2 => (Act.zero 2, st)
  | 6 => ({ Act.zero 6 with msg := (gForge st).1 }, (gForge st).2)
  | 8 => ({ Act.zero 8 with writes := (gWr (rGet st 1).1 (rGet st 1).2).1 }, (gWr (rGet st 1).1 (rGet st 1).2).2)
  | k => ({ Act.zero k with n := (rGet st 1).1 }, (rGet st 1).2)
/-- What is left by reading an act into a box. -/
def GNext (h : PH) (a r : Nat) (A : Act) (st : Stt) (k : PH → Prop) : Prop := ∀ h' v Fv, RdAt h' a st.1 st.2 → ABox h' r A v → OwnR h' T_api_Write 2 v (A.writes.map Wr.cells) Fv → Fresh h Fv → Upd [a, r] h h' → k h'
theorem nilW {h : PH} : OwnR h T_api_Write 2 (.slice none 0 0) (([] : List Wr).map Wr.cells) [] := OwnR.nil
theorem nilF {h : PH} : Fresh h [] := fun b hb => by cases hb
theorem get1_ok {h : PH} {a r : Nat} {s : List UInt8} (hR : RdAt h a 0 s) (hB : ABox h r (Act.zero 1) (.slice none 0 0)) (hne : r ≠ a) {k : Value → PH → Prop} (hk : GNext h a r (gAct 1 (0, s)).1 (gAct 1 (0, s)).2 (k (.tuple #[]))) : callC PG (fn (getF 1)) #[.pointer (some ⟨a, 0, none⟩), .pointer (some ⟨r, 0, none⟩)] h k := by
  show CallsH PG id_script_forms_2 #[.pointer (some ⟨a, 0, none⟩), .pointer (some ⟨r, 0, none⟩)] h k
  apply script_forms_2.call
  unfold script_forms_2
  refine RByte_ok hR fun h1 hR1 u1 => ?_
  have hB1 := hB.upd u1 (by simpa using hne)
  simp only [T_api_Act.f1, Nat.zero_add, popO_some, bindH_eq, condV_bool, condV_true, condV_false, yV_bool, gopV_tt, gopV_ff, gopV_tf, gopV_ft, pickV_t, pickV_f, pickV_bool, nilS_ptr, add_eq, sub_eq, mul_eq, lss_eq, leq_eq, gtr_eq, geq_eq, not_eq, minI_eq, maxI_eq, extract_0, extract_1, extract_2, eqlI, neqI, makeFunc_eq, decide_true, decide_false, if_true, if_false, Bool.false_eq_true, Bool.not_true, Bool.not_false, reduceIte, List.getElem?_toArray, List.getElem?_cons_zero, List.getElem?_cons_succ, Option.isSome_none, List.length_map]
  refine hB1.set (A' := (gAct 1 (0, s)).1) (v' := .slice none 0 0) T_int.und rfl T_int.info T_int.size (by decide) rfl rfl fun h2 hB2 u2 o2 => ?_
  exact hk h2 _ _ (hR1.upd u2 (by simpa using hne.symm)) hB2 nilW nilF ((u1.mono fun b hb => .inl (by simp at hb; simp [hb])).trans (u2.mono fun b hb => .inl (by simp at hb; simp [hb])))
theorem getN_ok {h : PH} {a r K : Nat} {s : List UInt8} (hK : K = 3 ∨ K = 4 ∨ K = 5 ∨ K = 7) (hR : RdAt h a 0 s) (hB : ABox h r (Act.zero K) (.slice none 0 0)) (hne : r ≠ a) {k : Value → PH → Prop} (hk : GNext h a r (gAct K (0, s)).1 (gAct K (0, s)).2 (k (.tuple #[]))) : callC PG (fn (getF K)) #[.pointer (some ⟨a, 0, none⟩), .pointer (some ⟨r, 0, none⟩)] h k := by
  have hF : getF K = id_script_number_2 := by rcases hK with rfl | rfl | rfl | rfl <;> rfl
  have hg : gAct K (0, s) = ({ Act.zero K with n := (rGet (0, s) 1).1 }, (rGet (0, s) 1).2) := by rcases hK with rfl | rfl | rfl | rfl <;> rfl
  rw [hg] at hk
  rw [hF]
  show CallsH PG id_script_number_2 #[.pointer (some ⟨a, 0, none⟩), .pointer (some ⟨r, 0, none⟩)] h k
  apply script_number_2.call
  unfold script_number_2
  refine RByte_ok hR fun h1 hR1 u1 => ?_
  have hB1 := hB.upd u1 (by simpa using hne)
  simp only [T_api_Act.f4, Nat.zero_add, popO_some, bindH_eq, condV_bool, condV_true, condV_false, yV_bool, gopV_tt, gopV_ff, gopV_tf, gopV_ft, pickV_t, pickV_f, pickV_bool, nilS_ptr, add_eq, sub_eq, mul_eq, lss_eq, leq_eq, gtr_eq, geq_eq, not_eq, minI_eq, maxI_eq, extract_0, extract_1, extract_2, eqlI, neqI, makeFunc_eq, decide_true, decide_false, if_true, if_false, Bool.false_eq_true, Bool.not_true, Bool.not_false, reduceIte, List.getElem?_toArray, List.getElem?_cons_zero, List.getElem?_cons_succ, Option.isSome_none, List.length_map]
  refine hB1.set (A' := { Act.zero K with n := (rGet (0, s) 1).1 }) (v' := .slice none 0 0) T_int.und rfl T_int.info T_int.size (by decide) rfl rfl fun h2 hB2 u2 o2 => ?_
  exact hk h2 _ _ (hR1.upd u2 (by simpa using hne.symm)) hB2 nilW nilF ((u1.mono fun b hb => .inl (by simp at hb; simp [hb])).trans (u2.mono fun b hb => .inl (by simp at hb; simp [hb])))
theorem get2_ok {h : PH} {a r : Nat} {s : List UInt8} (hR : RdAt h a 0 s) (hB : ABox h r (Act.zero 2) (.slice none 0 0)) {k : Value → PH → Prop} (hk : GNext h a r (gAct 2 (0, s)).1 (gAct 2 (0, s)).2 (k (.tuple #[]))) : callC PG (fn (getF 2)) #[.pointer (some ⟨a, 0, none⟩), .pointer (some ⟨r, 0, none⟩)] h k := by
  show CallsH PG id_script_forms_4 #[.pointer (some ⟨a, 0, none⟩), .pointer (some ⟨r, 0, none⟩)] h k
  apply script_forms_4.call
  unfold script_forms_4
  exact hk h _ _ hR hB nilW nilF Upd.refl
theorem get0_ok {h : PH} {a r : Nat} {s : List UInt8} (hR : RdAt h a 0 s) (hB : ABox h r (Act.zero 0) (.slice none 0 0)) (hne : r ≠ a) {k : Value → PH → Prop} (hk : GNext h a r (gAct 0 (0, s)).1 (gAct 0 (0, s)).2 (k (.tuple #[]))) : callC PG (fn (getF 0)) #[.pointer (some ⟨a, 0, none⟩), .pointer (some ⟨r, 0, none⟩)] h k := by
  show CallsH PG id_script_send_2 #[.pointer (some ⟨a, 0, none⟩), .pointer (some ⟨r, 0, none⟩)] h k
  apply script_send_2.call
  unfold script_send_2
  refine RByte_ok hR fun h1 hR1 u1 => ?_
  refine RNumber_ok hR1 fun h2 hR2 u2 => ?_
  refine RText_ok hR2 fun h3 hR3 u3 => ?_
  have w3 := (u1.trans u2).trans u3
  have hB3 := hB.upd w3 (by simpa using hne)
  simp only [T_api_Act.f1, T_api_Act.f2, T_api_Act.f3, Nat.zero_add, popO_some, bindH_eq, condV_bool, condV_true, condV_false, yV_bool, gopV_tt, gopV_ff, gopV_tf, gopV_ft, pickV_t, pickV_f, pickV_bool, nilS_ptr, add_eq, sub_eq, mul_eq, lss_eq, leq_eq, gtr_eq, geq_eq, not_eq, minI_eq, maxI_eq, extract_0, extract_1, extract_2, eqlI, neqI, makeFunc_eq, decide_true, decide_false, if_true, if_false, Bool.false_eq_true, Bool.not_true, Bool.not_false, reduceIte, List.getElem?_toArray, List.getElem?_cons_zero, List.getElem?_cons_succ, Option.isSome_none, List.length_map]
  refine hB3.set (A' := { Act.zero 0 with chain := (rGet (0, s) 1).1 }) (v' := .slice none 0 0) T_int.und rfl T_int.info T_int.size (by decide) rfl rfl fun h4 hB4 u4 o4 => ?_
  refine hB4.set (A' := { Act.zero 0 with chain := (rGet (0, s) 1).1, timeout := (rGet (rGet (0, s) 1).2 8).1 }) (v' := .slice none 0 0) T_uint64.und rfl T_uint64.info T_uint64.size (by decide) rfl rfl fun h5 hB5 u5 o5 => ?_
  refine hB5.set (A' := (gAct 0 (0, s)).1) (v' := .slice none 0 0) T_string.und rfl T_string.info T_string.size (by decide) rfl rfl fun h6 hB6 u6 o6 => ?_
  have w6 := (u4.trans u5).trans u6
  exact hk h6 _ _ (hR3.upd w6 (by simpa using hne.symm)) hB6 nilW nilF ((w3.mono fun b hb => .inl (by simp at hb; simp [hb])).trans (w6.mono fun b hb => .inl (by simp at hb; simp [hb])))
theorem msg_build (x y z : Int) : SemP PG (Instr.build T_api_Message #[(0, .int .i64 x), (1, .int .i64 y), (2, .int .u64 z)]) = some (.agg #[.int .i64 x, .int .i64 y, .int .u64 z, .int .i64 0, .int .u64 0, .int .u64 0, .string ⟨#[]⟩, .string ⟨#[]⟩]) := by kernel_rfl
theorem pkt_build (x y z : Int) (s : ByteArray) : SemP PG (Instr.build T_api_Packet #[(0, .int .i64 x), (1, .int .u64 y), (2, .int .u64 z), (3, .string s)]) = some (.agg #[.int .i64 x, .int .u64 y, .int .u64 z, .string s]) := by kernel_rfl
theorem RByte_s {h : PH} {a : Nat} {st : Stt} (hR : RdAt h a st.1 st.2) {k : Value → PH → Prop} (hk : ∀ h' x, x = rGet st 1 → RdAt h' a x.2.1 x.2.2 → Upd [a] h h' → k (.int .i64 x.1) h') : CallsH PG id_wire_Reader_Byte #[.pointer (some ⟨a, 0, none⟩)] h k :=
  RByte_ok hR fun h' r u => hk h' _ rfl r u
theorem RNumber_s {h : PH} {a : Nat} {st : Stt} (hR : RdAt h a st.1 st.2) {k : Value → PH → Prop} (hk : ∀ h' x, x = rGet st 8 → RdAt h' a x.2.1 x.2.2 → Upd [a] h h' → k (.int .u64 x.1) h') : CallsH PG id_wire_Reader_Number #[.pointer (some ⟨a, 0, none⟩)] h k :=
  RNumber_ok hR fun h' r u => hk h' _ rfl r u
theorem RText_s {h : PH} {a : Nat} {st : Stt} (hR : RdAt h a st.1 st.2) {k : Value → PH → Prop} (hk : ∀ h' x, x = rText st → RdAt h' a x.2.1 x.2.2 → Upd [a] h h' → k (.string (tx x.1)) h') : CallsH PG id_wire_Reader_Text #[.pointer (some ⟨a, 0, none⟩)] h k :=
  RText_ok hR fun h' r u => hk h' _ rfl r u
theorem getTwo_s {h : PH} {a : Nat} {st : Stt} (hR : RdAt h a st.1 st.2) {k : Value → PH → Prop} (hk : ∀ h' x, x = rTwo st → RdAt h' a x.2.1 x.2.2 → Upd [a] h h' → k (.int .i64 x.1) h') : CallsH PG id_script_getTwo #[.pointer (some ⟨a, 0, none⟩)] h k :=
  getTwo_ok hR fun h' r u => hk h' _ rfl r u
theorem Msg.allCell (m : Msg) : ∀ v ∈ m.cells.toArray.toList, Go.Proofs.Ytflgnfiebgcegaa.isCell v = true := fun v hv => by
  simp only [Msg.cells, List.mem_cons, List.not_mem_nil, or_false] at hv
  rcases hv with rfl | rfl | rfl | rfl | rfl | rfl | rfl | rfl <;> rfl
theorem writeA_msg (A : Act) (m : Msg) (v : Value) : writeA (A.cells v).toArray 5 m.cells.toArray.toList = (Act.cells { A with msg := m } v).toArray := by
  obtain ⟨a1, a2, a3, a4, a5, ⟨b1, b2, b3, b4, b5, b6, b7, b8⟩, w⟩ := A
  obtain ⟨c1, c2, c3, c4, c5, c6, c7, c8⟩ := m
  simp [writeA, Act.cells, Msg.cells]
theorem ABox.setMsg {h : PH} {r : Nat} {A : Act} {v : Value} {m : Msg} (H : ABox h r A v) {k : Value → PH → Prop} (hk : ∀ h', ABox h' r { A with msg := m } v → Upd [r] h h' → k undef h') : SemH PG (storeS T_api_Message (.pointer (some ⟨r, 5, none⟩)) (.agg m.cells.toArray)) h k := by
  refine store_agg H.here T_api_Message.info (by show 8 = 8; rfl) (by show 0 < 8; decide) (by show 5 + 8 ≤ 14; decide) m.allCell ?_
  rw [writeA_msg]
  exact hk _ ⟨set_same⟩ (Upd.set (by simp))
set_option maxHeartbeats 2000000 in
theorem get6_ok {h : PH} {a r : Nat} {s : List UInt8} (hR : RdAt h a 0 s) (hB : ABox h r (Act.zero 6) (.slice none 0 0)) (hne : r ≠ a) {k : Value → PH → Prop} (hk : GNext h a r (gAct 6 (0, s)).1 (gAct 6 (0, s)).2 (k (.tuple #[]))) : callC PG (fn (getF 6)) #[.pointer (some ⟨a, 0, none⟩), .pointer (some ⟨r, 0, none⟩)] h k := by
  show CallsH PG id_script_forge_2 #[.pointer (some ⟨a, 0, none⟩), .pointer (some ⟨r, 0, none⟩)] h k
  apply script_forge_2.call
  unfold script_forge_2
  refine RByte_s (st := (0, s)) hR fun h1 x1 e1 hR1 u1 => ?_
  refine RByte_s hR1 fun h2 x2 e2 hR2 u2 => ?_
  refine RNumber_s hR2 fun h3 x3 e3 hR3 u3 => ?_
  have w3 := (u1.trans u2).trans u3
  have hB3 := hB.upd w3 (by simpa using hne)
  simp only [msg_build, popO_some, bindH_eq, condV_bool, condV_true, condV_false, yV_bool, gopV_tt, gopV_ff, gopV_tf, gopV_ft, pickV_t, pickV_f, pickV_bool, nilS_ptr, add_eq, sub_eq, mul_eq, lss_eq, leq_eq, gtr_eq, geq_eq, not_eq, minI_eq, maxI_eq, extract_0, extract_1, extract_2, eqlI, neqI, makeFunc_eq, decide_true, decide_false, if_true, if_false, Bool.false_eq_true, Bool.not_true, Bool.not_false, reduceIte, List.getElem?_toArray, List.getElem?_cons_zero, List.getElem?_cons_succ, Option.isSome_none, List.length_map]
  intro q hq
  have hqa : q ≠ a := fun e => by subst e; rw [hR3.here] at hq; cases hq
  have hqr : q ≠ r := fun e => by subst e; rw [hB3.here] at hq; cases hq
  refine store_box set_same T_api_Message.info (by show 8 = 8; rfl) (by show 0 < 8; decide) (by rw [T_api_Message.zc]; rfl) (by intro v hv; simp at hv; rcases hv with rfl | rfl | rfl | rfl | rfl | rfl | rfl | rfl <;> rfl) ?_
  rw [set_set_same]
  have u4 : Ext h3 (h3.set q (.cells #[.int .i64 (x1.1 : Int), .int .i64 (x2.1 : Int), .int .u64 (x3.1 : Int), .int .i64 0, .int .u64 0, .int .u64 0, .string ⟨#[]⟩, .string ⟨#[]⟩] T_api_Message)) := Upd.new hq
  have b4 : (h3.set q (.cells #[.int .i64 (x1.1 : Int), .int .i64 (x2.1 : Int), .int .u64 (x3.1 : Int), .int .i64 0, .int .u64 0, .int .u64 0, .string ⟨#[]⟩, .string ⟨#[]⟩] T_api_Message)) q = some (.cells #[.int .i64 (x1.1 : Int), .int .i64 (x2.1 : Int), .int .u64 (x3.1 : Int), .int .i64 0, .int .u64 0, .int .u64 0, .string ⟨#[]⟩, .string ⟨#[]⟩] T_api_Message) := set_same
  generalize h3.set q (.cells #[.int .i64 (x1.1 : Int), .int .i64 (x2.1 : Int), .int .u64 (x3.1 : Int), .int .i64 0, .int .u64 0, .int .u64 0, .string ⟨#[]⟩, .string ⟨#[]⟩] T_api_Message) = h4 at *
  refine RByte_s (hR3.ext u4) fun h5 x5 e5 hR5 u5 => ?_
  refine RNumber_s hR5 fun h6 x6 e6 hR6 u6 => ?_
  refine RNumber_s hR6 fun h7 x7 e7 hR7 u7 => ?_
  refine RText_s hR7 fun h8 x8 e8 hR8 u8 => ?_
  have w8 := ((u5.trans u6).trans u7).trans u8
  have b8 := w8.get b4 (by simpa using hqa)
  simp only [pkt_build, T_api_Message.f3, Nat.zero_add, popO_some, bindH_eq, condV_bool, condV_true, condV_false, yV_bool, gopV_tt, gopV_ff, gopV_tf, gopV_ft, pickV_t, pickV_f, pickV_bool, nilS_ptr, add_eq, sub_eq, mul_eq, lss_eq, leq_eq, gtr_eq, geq_eq, not_eq, minI_eq, maxI_eq, extract_0, extract_1, extract_2, eqlI, neqI, makeFunc_eq, decide_true, decide_false, if_true, if_false, Bool.false_eq_true, Bool.not_true, Bool.not_false, reduceIte, List.getElem?_toArray, List.getElem?_cons_zero, List.getElem?_cons_succ, Option.isSome_none, List.length_map]
  refine store_agg b8 T_api_Packet.info (by show 4 = 4; rfl) (by show 0 < 4; decide) (by show 3 + 4 ≤ 8; decide) (by intro v hv; simp at hv; rcases hv with rfl | rfl | rfl | rfl <;> rfl) ?_
  have hw : writeA #[.int .i64 (x1.1 : Int), .int .i64 (x2.1 : Int), .int .u64 (x3.1 : Int), .int .i64 0, .int .u64 0, .int .u64 0, .string ⟨#[]⟩, .string ⟨#[]⟩] 3 (#[.int .i64 (x5.1 : Int), .int .u64 (x6.1 : Int), .int .u64 (x7.1 : Int), .string (tx x8.1)] : Array Value).toList = (Msg.mk x1.1 x2.1 x3.1 x5.1 x6.1 x7.1 x8.1 []).cells.toArray := rfl
  rw [hw]
  have u9 : Upd [q] h8 (h8.set q (.cells (Msg.mk x1.1 x2.1 x3.1 x5.1 x6.1 x7.1 x8.1 []).cells.toArray T_api_Message (0, 0))) := Upd.set (by simp)
  have b9 : (h8.set q (.cells (Msg.mk x1.1 x2.1 x3.1 x5.1 x6.1 x7.1 x8.1 []).cells.toArray T_api_Message (0, 0))) q = some (.cells (Msg.mk x1.1 x2.1 x3.1 x5.1 x6.1 x7.1 x8.1 []).cells.toArray T_api_Message (0, 0)) := set_same
  generalize h8.set q (.cells (Msg.mk x1.1 x2.1 x3.1 x5.1 x6.1 x7.1 x8.1 []).cells.toArray T_api_Message (0, 0)) = h9 at *
  refine RText_s (hR8.upd u9 (by simpa using hqa.symm)) fun h10 x10 e10 hR10 u10 => ?_
  have b10 := u10.get b9 (by simpa using hqa)
  simp only [T_api_Message.f4, Nat.zero_add, popO_some, bindH_eq, condV_bool, condV_true, condV_false, yV_bool, gopV_tt, gopV_ff, gopV_tf, gopV_ft, pickV_t, pickV_f, pickV_bool, nilS_ptr, add_eq, sub_eq, mul_eq, lss_eq, leq_eq, gtr_eq, geq_eq, not_eq, minI_eq, maxI_eq, extract_0, extract_1, extract_2, eqlI, neqI, makeFunc_eq, decide_true, decide_false, if_true, if_false, Bool.false_eq_true, Bool.not_true, Bool.not_false, reduceIte, List.getElem?_toArray, List.getElem?_cons_zero, List.getElem?_cons_succ, Option.isSome_none, List.length_map]
  refine store_cell T_string.und rfl b10 (by show 7 < 8; decide) rfl T_string.info T_string.size ?_
  have hw2 : (Msg.mk x1.1 x2.1 x3.1 x5.1 x6.1 x7.1 x8.1 []).cells.toArray.setIfInBounds 7 (.string (tx x10.1)) = (Msg.mk x1.1 x2.1 x3.1 x5.1 x6.1 x7.1 x8.1 x10.1).cells.toArray := rfl
  rw [hw2]
  have u11 : Upd [q] h10 (h10.set q (.cells (Msg.mk x1.1 x2.1 x3.1 x5.1 x6.1 x7.1 x8.1 x10.1).cells.toArray T_api_Message (0, 0))) := Upd.set (by simp)
  rw [load_box T_api_Message.und rfl T_api_Message.info T_api_Message.size set_same rfl]
  generalize h10.set q (.cells (Msg.mk x1.1 x2.1 x3.1 x5.1 x6.1 x7.1 x8.1 x10.1).cells.toArray T_api_Message (0, 0)) = h11 at *
  have hB11 := (((((hB3.ext u4).upd w8 (by simpa using hne)).upd u9 (by simpa using hqr.symm)).upd u10 (by simpa using hne)).upd u11 (by simpa using hqr.symm))
  simp only [T_api_Act.f5, Nat.zero_add, popO_some, bindH_eq, condV_bool, condV_true, condV_false, yV_bool, gopV_tt, gopV_ff, gopV_tf, gopV_ft, pickV_t, pickV_f, pickV_bool, nilS_ptr, add_eq, sub_eq, mul_eq, lss_eq, leq_eq, gtr_eq, geq_eq, not_eq, minI_eq, maxI_eq, extract_0, extract_1, extract_2, eqlI, neqI, makeFunc_eq, decide_true, decide_false, if_true, if_false, Bool.false_eq_true, Bool.not_true, Bool.not_false, reduceIte, List.getElem?_toArray, List.getElem?_cons_zero, List.getElem?_cons_succ, Option.isSome_none, List.length_map]
  refine hB11.setMsg fun h12 hB12 u12 => ?_
  have hg : gAct 6 (0, s) = ({ Act.zero 6 with msg := Msg.mk x1.1 x2.1 x3.1 x5.1 x6.1 x7.1 x8.1 x10.1 }, x10.2) := by
    subst e10 e8 e7 e6 e5 e3 e2 e1; rfl
  rw [hg] at hk
  have hqn : h q = none := by
    cases hh : h q with
    | none => rfl
    | some o => rw [w3.get hh (by simpa using hqa)] at hq; cases hq
  have wall : Upd [a, r] h h12 := by
    have v1 : Upd [a, r] h h8 := (w3.mono fun b hb => .inl (by simp at hb; simp [hb])).trans (u4.upd.trans (w8.mono fun b hb => .inl (by simp at hb; simp [hb])))
    have v2 : Upd [a, r] h h9 := v1.then u9 (fun b hb => by simp at hb; subst hb; exact .inr hqn)
    have v3 : Upd [a, r] h h10 := v2.trans (u10.mono fun b hb => .inl (by simp at hb; simp [hb]))
    have v4 : Upd [a, r] h h11 := v3.then u11 (fun b hb => by simp at hb; subst hb; exact .inr hqn)
    exact v4.trans (u12.mono fun b hb => .inl (by simp at hb; simp [hb]))
  exact hk h12 _ _ (((hR10.upd u11 (by simpa using hqa.symm))).upd u12 (by simpa using hne.symm)) hB12 nilW nilF wall
def downTo (i : Nat) : List Value → PH → Nat := fun vs _ => match vs[i]? with
  | some (Value.int _ x) => x.toNat
  | _ => 0
theorem wr_lit (m : Wr) : SemA PG (Instr.buildSlice T_sl_api_Write 1 #[(0, .agg m.cells.toArray)]) = some (.cells m.cells.toArray T_api_Write, fun r => pure (.slice (some ⟨r, 0, none⟩) 1 1)) := by kernel_rfl
theorem wr_build (b : Bool) (x : Int) : SemP PG (Instr.build T_api_Write #[(0, .bool b), (1, .int .i64 x)]) = some (.agg (Wr.mk b x).cells.toArray) := by kernel_rfl
theorem wr_app {h : PH} {v : Value} {xs : List Wr} {F : List Nat} (hO : OwnR h T_api_Write 2 v (xs.map Wr.cells) F) (hl : xs.length ≤ 1000000) (p : Wr) {k : Value → PH → Prop}
    (hk : ∀ v' h' F', OwnR h' T_api_Write 2 v' ((xs ++ [p]).map Wr.cells) F' → Upd F h h' → (∀ b ∈ F', b ∈ F ∨ h b = none) → k v' h') {r : Nat} (hr : h r = none) :
    SemH PG (Builtin.append_ #[T_sl_api_Write, T_sl_api_Write] T_sl_api_Write #[v, .slice (some ⟨r, 0, none⟩) 1 1]) (h.set r (.cells p.cells.toArray T_api_Write)) k := by
  have u1 : Ext h (h.set r (.cells p.cells.toArray T_api_Write)) := Upd.new hr
  have s1 : SlR (h.set r (.cells p.cells.toArray T_api_Write)) 2 (.slice (some ⟨r, 0, none⟩) 1 1) ([p].map Wr.cells) := (OwnR.lit (Wr.rows [p]) set_same (by simp) (by decide) (by simp)).slR
  refine append_own T_sl_api_Write.und T_sl_api_Write.und T_api_Write.info T_api_Write.size T_api_Write.bytes T_api_Write.zero rfl (by decide) (hO.ext u1) s1 (Wr.isCell _) (by simp; omega) ?_
  intro v2 h2 F2 hO2 u2 k2 _
  rw [← List.map_append] at hO2
  refine hk v2 h2 F2 hO2 (u1.upd.trans u2) fun b hb => ?_
  rcases k2 b hb with h' | h'
  · exact .inl h'
  · exact .inr (u1.none h')
theorem OwnR.cell {h : PH} {e : TypeId} {size : Nat} {v : Value} {rows : List (List Value)} {F : List Nat} (H : OwnR h e size v rows F) : isCell v = true := by
  rcases H.here with ⟨rfl, _⟩ | ⟨b, cap, cs, rfl, _⟩ <;> rfl
theorem ABox.field6 {h : PH} {r : Nat} {A : Act} {v : Value} (H : ABox h r A v) : cellH h ⟨r, 13, none⟩ = some v := by
  simp [cellH, H.here, Act.cells, Msg.cells]
theorem ABox.setW {h : PH} {r : Nat} {A : Act} {v v' : Value} (l : List Wr) (hv : isCell v' = true) (H : ABox h r A v) {k : Value → PH → Prop} (hk : ∀ h', ABox h' r { A with writes := l } v' → Upd [r] h h' → k undef h') : SemH PG (storeS T_sl_api_Write (.pointer (some ⟨r, 13, none⟩)) v') h k :=
  H.set T_sl_api_Write.und rfl T_sl_api_Write.info T_sl_api_Write.size (by decide) hv (by simp [Act.cells, Msg.cells]) fun h' hB u _ => hk h' hB u
theorem get8_ok {h : PH} {a r : Nat} {s : List UInt8} (hR : RdAt h a 0 s) (hB : ABox h r (Act.zero 8) (.slice none 0 0)) (hne : r ≠ a) {k : Value → PH → Prop} (hk : GNext h a r (gAct 8 (0, s)).1 (gAct 8 (0, s)).2 (k (.tuple #[]))) : callC PG (fn (getF 8)) #[.pointer (some ⟨a, 0, none⟩), .pointer (some ⟨r, 0, none⟩)] h k := by
  show CallsH PG id_script_crash_2 #[.pointer (some ⟨a, 0, none⟩), .pointer (some ⟨r, 0, none⟩)] h k
  apply script_crash_2.call
  unfold script_crash_2
  refine RByte_s (st := (0, s)) hR fun h1 x1 e1 hR1 u1 => ?_
  have hB1 := hB.upd u1 (by simpa using hne)
  have hx1 : x1.1 < 256 := by rw [e1]; exact rGet_lt _ 1
  have hg : gAct 8 (0, s) = ({ Act.zero 8 with writes := (gWr x1.1 x1.2).1 }, (gWr x1.1 x1.2).2) := by rw [e1]; rfl
  rw [hg] at hk
  refine ⟨fun vs h' => ∃ (n : Nat) (st : Stt) (l : List Wr) (v : Value) (F : List Nat), vs = [.pointer (some ⟨a, 0, none⟩), .pointer (some ⟨r, 0, none⟩), .int .i64 n] ∧ n + l.length = x1.1 ∧ RdAt h' a st.1 st.2 ∧ ABox h' r { Act.zero 8 with writes := l } v ∧ OwnR h' T_api_Write 2 v (l.map Wr.cells) F ∧ Fresh h F ∧ Upd [a, r] h h' ∧ gWr x1.1 x1.2 = (l ++ (gWr n st).1, (gWr n st).2), downTo 2, ⟨x1.1, x1.2, [], _, [], rfl, by simp, hR1, hB1, nilW, nilF, u1.mono fun b hb => .inl (by simp at hb; simp [hb]), by simp⟩, ?_⟩
  rintro ρ h' ⟨n, st, l, v, F, hvs, hn, hR', hB', hO, hf, w, hgw⟩
  simp only [List.map_cons, List.map_nil, List.cons.injEq, and_true] at hvs
  obtain ⟨e0, e1', e4⟩ := hvs
  simp only [e0, e1', e4]
  unfold script_crash_2_b4
  cases n with
  | zero =>
    have hd : ((0 : Int) < ((0 : Nat) : Int)) = False := by apply eq_false; omega
    simp only [hd, popO_some, bindH_eq, condV_bool, condV_true, condV_false, yV_bool, gopV_tt, gopV_ff, gopV_tf, gopV_ft, pickV_t, pickV_f, pickV_bool, nilS_ptr, add_eq, sub_eq, mul_eq, lss_eq, leq_eq, gtr_eq, geq_eq, not_eq, minI_eq, maxI_eq, extract_0, extract_1, extract_2, eqlI, neqI, makeFunc_eq, decide_true, decide_false, if_true, if_false, Bool.false_eq_true, Bool.not_true, Bool.not_false, reduceIte, List.getElem?_toArray, List.getElem?_cons_zero, List.getElem?_cons_succ, Option.isSome_none, List.length_map]
    simp only [gWr, List.append_nil] at hgw
    rw [hgw] at hk
    exact hk h' v F hR' hB' hO hf w
  | succ n =>
    have hd : ((0 : Int) < ((n + 1 : Nat) : Int)) = True := by apply eq_true; omega
    simp only [hd, T_wire_Reader.f0, popO_some, bindH_eq, condV_bool, condV_true, condV_false, yV_bool, gopV_tt, gopV_ff, gopV_tf, gopV_ft, pickV_t, pickV_f, pickV_bool, nilS_ptr, add_eq, sub_eq, mul_eq, lss_eq, leq_eq, gtr_eq, geq_eq, not_eq, minI_eq, maxI_eq, extract_0, extract_1, extract_2, eqlI, neqI, makeFunc_eq, decide_true, decide_false, if_true, if_false, Bool.false_eq_true, Bool.not_true, Bool.not_false, reduceIte, List.getElem?_toArray, List.getElem?_cons_zero, List.getElem?_cons_succ, Option.isSome_none, List.length_map]
    refine WErr_ok hR'.here rfl ?_
    simp only [popO_some, bindH_eq, condV_bool, condV_true, condV_false, yV_bool, gopV_tt, gopV_ff, gopV_tf, gopV_ft, pickV_t, pickV_f, pickV_bool, nilS_ptr, add_eq, sub_eq, mul_eq, lss_eq, leq_eq, gtr_eq, geq_eq, not_eq, minI_eq, maxI_eq, extract_0, extract_1, extract_2, eqlI, neqI, makeFunc_eq, decide_true, decide_false, if_true, if_false, Bool.false_eq_true, Bool.not_true, Bool.not_false, reduceIte, List.getElem?_toArray, List.getElem?_cons_zero, List.getElem?_cons_succ, Option.isSome_none, List.length_map]
    by_cases hz : st.1 = 0
    · have q : (st.1 == 0) = true := by simp [hz]
      simp only [q, T_api_Act.f6, Nat.zero_add, T_sl_api_Write.load, hB'.field6, popO_some, bindH_eq, condV_bool, condV_true, condV_false, yV_bool, gopV_tt, gopV_ff, gopV_tf, gopV_ft, pickV_t, pickV_f, pickV_bool, nilS_ptr, add_eq, sub_eq, mul_eq, lss_eq, leq_eq, gtr_eq, geq_eq, not_eq, minI_eq, maxI_eq, extract_0, extract_1, extract_2, eqlI, neqI, makeFunc_eq, decide_true, decide_false, if_true, if_false, Bool.false_eq_true, Bool.not_true, Bool.not_false, reduceIte, List.getElem?_toArray, List.getElem?_cons_zero, List.getElem?_cons_succ, Option.isSome_none, List.length_map]
      refine RByte_s hR' fun h2 x2 e2 hR2 u2 => ?_
      have hB2 := hB'.upd u2 (by simpa using hne)
      refine ⟨by simp only [T_sl_api_Write.load, hB2.field6], ?_⟩
      simp only [popO_some, bindH_eq, condV_bool, condV_true, condV_false, yV_bool, gopV_tt, gopV_ff, gopV_tf, gopV_ft, pickV_t, pickV_f, pickV_bool, nilS_ptr, add_eq, sub_eq, mul_eq, lss_eq, leq_eq, gtr_eq, geq_eq, not_eq, minI_eq, maxI_eq, extract_0, extract_1, extract_2, eqlI, neqI, makeFunc_eq, decide_true, decide_false, if_true, if_false, Bool.false_eq_true, Bool.not_true, Bool.not_false, reduceIte, List.getElem?_toArray, List.getElem?_cons_zero, List.getElem?_cons_succ, Option.isSome_none, List.length_map]
      refine getTwo_s hR2 fun h3 x3 e3 hR3 u3 => ?_
      have hB3 := hB2.upd u3 (by simpa using hne)
      refine ⟨by simp only [T_sl_api_Write.load, hB3.field6], ?_⟩
      simp only [wr_build, wr_lit, popO_some, bindH_eq, condV_bool, condV_true, condV_false, yV_bool, gopV_tt, gopV_ff, gopV_tf, gopV_ft, pickV_t, pickV_f, pickV_bool, nilS_ptr, add_eq, sub_eq, mul_eq, lss_eq, leq_eq, gtr_eq, geq_eq, not_eq, minI_eq, maxI_eq, extract_0, extract_1, extract_2, eqlI, neqI, makeFunc_eq, decide_true, decide_false, if_true, if_false, Bool.false_eq_true, Bool.not_true, Bool.not_false, reduceIte, List.getElem?_toArray, List.getElem?_cons_zero, List.getElem?_cons_succ, Option.isSome_none, List.length_map]
      have hO3 := (hO.upd u2 (fun b hb => by simp; intro e; subst e; exact absurd (hf b hb) (by rw [hR.here]; simp))).upd u3 (fun b hb => by simp; intro e; subst e; exact absurd (hf b hb) (by rw [hR.here]; simp))
      intro q hq
      refine popO_pure ?_
      refine wr_app hO3 (by omega) ⟨decide ((0 : Int) < (x2.1 : Int)), x3.1⟩ (fun v4 h4 F4 hO4 u4 k4 => ?_) hq
      have hra : a ∉ F := fun hm => absurd (hf a hm) (by rw [hR.here]; simp)
      have hrr : r ∉ F := fun hm => absurd (hf r hm) (by rw [hB.here]; simp)
      have hB4 := hB3.upd u4 hrr
      have hR4 := hR3.upd u4 hra
      refine hB4.setW (l ++ [⟨decide ((0 : Int) < (x2.1 : Int)), x3.1⟩]) hO4.cell fun h5 hB5 u5 => ?_
      have w3 : Upd [a, r] h h3 := (w.trans (u2.mono fun b hb => .inl (by simp at hb; simp [hb]))).trans (u3.mono fun b hb => .inl (by simp at hb; simp [hb]))
      have w4 : Upd [a, r] h h4 := w3.then u4 (fun b hb => .inr (hf b hb))
      have hf4 : Fresh h F4 := fun b hb => by
        rcases k4 b hb with hm | hm
        · exact hf b hm
        · cases hh : h b with
          | none => rfl
          | some o =>
            by_cases hba : b ∈ [a, r]
            · simp only [List.mem_cons, List.not_mem_nil, or_false] at hba
              rcases hba with rfl | rfl
              · rw [hR3.here] at hm; cases hm
              · rw [hB3.here] at hm; cases hm
            · rw [w3 b o hh hba] at hm; cases hm
      have hO5 := hO4.upd u5 (fun b hb => by simp; intro e; subst e; exact absurd (hf4 b hb) (by rw [hB.here]; simp))
      have ei : IntKind.i64.wrap (((n + 1 : Nat) : Int) - 1) = (n : Int) := by rw [i64_wrap (by omega) (by omega)]; omega
      simp only [ei, popO_some, bindH_eq, condV_bool, condV_true, condV_false, yV_bool, gopV_tt, gopV_ff, gopV_tf, gopV_ft, pickV_t, pickV_f, pickV_bool, nilS_ptr, add_eq, sub_eq, mul_eq, lss_eq, leq_eq, gtr_eq, geq_eq, not_eq, minI_eq, maxI_eq, extract_0, extract_1, extract_2, eqlI, neqI, makeFunc_eq, decide_true, decide_false, if_true, if_false, Bool.false_eq_true, Bool.not_true, Bool.not_false, reduceIte, List.getElem?_toArray, List.getElem?_cons_zero, List.getElem?_cons_succ, Option.isSome_none, List.length_map]
      have hd2 : decide ((0 : Int) < (x2.1 : Int)) = decide (0 < x2.1) := by congr 1; apply propext; omega
      refine ⟨⟨n, x3.2, l ++ [⟨decide ((0 : Int) < (x2.1 : Int)), x3.1⟩], v4, F4, rfl, by simp; omega, hR4.upd u5 (by simpa using hne.symm), hB5, hO5, hf4, w4.trans (u5.mono fun b hb => .inl (by simp at hb; simp [hb])), ?_⟩, by simp [downTo, e4]⟩
      rw [hgw, hd2, e3, e2]
      simp [gWr, hz]
    · have q : (st.1 == 0) = false := by simpa using hz
      simp only [q, popO_some, bindH_eq, condV_bool, condV_true, condV_false, yV_bool, gopV_tt, gopV_ff, gopV_tf, gopV_ft, pickV_t, pickV_f, pickV_bool, nilS_ptr, add_eq, sub_eq, mul_eq, lss_eq, leq_eq, gtr_eq, geq_eq, not_eq, minI_eq, maxI_eq, extract_0, extract_1, extract_2, eqlI, neqI, makeFunc_eq, decide_true, decide_false, if_true, if_false, Bool.false_eq_true, Bool.not_true, Bool.not_false, reduceIte, List.getElem?_toArray, List.getElem?_cons_zero, List.getElem?_cons_succ, Option.isSome_none, List.length_map]
      have : gWr (n + 1) st = ([], st) := by simp [gWr, hz]
      rw [this] at hgw
      simp only [List.append_nil] at hgw
      rw [hgw] at hk
      exact hk h' v F hR' hB' hO hf w
end Go.Proofs.Ytflgnfiebgcegaa
