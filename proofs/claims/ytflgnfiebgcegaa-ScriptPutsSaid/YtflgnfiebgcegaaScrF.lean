/- script: how the document reads an act. -/
import Derived.Test.YtflgnfiebgcegaaScrEE
set_option linter.unusedSimpArgs false
set_option linter.unusedVariables false
namespace Go.Proofs.Ytflgnfiebgcegaa
open Go
set_option maxRecDepth 20000
def rWr : Nat → Stt → List Wr × Stt
  | 0, st => ([], st)
  | n + 1, st => (⟨(rGet st 1).1 != 0, (rTwo (rGet st 1).2).1⟩ :: (rWr n (rTwo (rGet st 1).2).2).1, (rWr n (rTwo (rGet st 1).2).2).2)
def rAct (k : Nat) (st : Stt) : Act × Stt := match k with
  | 8 => ({ Act.zero 8 with writes := (rWr (rGet st 1).1 (rGet st 1).2).1 }, (rWr (rGet st 1).1 (rGet st 1).2).2)
  | k => gAct k st
def RNextA (h : PH) (a : Nat) (S : List UInt8) (out : Act × Stt) (k : Value → PH → Prop) : Prop := ∀ h' v Fv, RfAt h' a S out.2.1 out.2.2 → OwnR h' T_api_Write 2 v (out.1.writes.map Wr.cells) Fv → Fresh h Fv → Upd [a] h h' → k (.agg (out.1.cells v).toArray) h'
theorem one_s {h : PH} {a : Nat} {S : List UInt8} {st : Stt} (hR : RfAt h a S st.1 st.2) (hS : S.length ≤ 1000000000000) {k : Value → PH → Prop} (hk : ∀ h' x, x = rGet st 1 → RfAt h' a S x.2.1 x.2.2 → Upd [a] h h' → k (.int .i64 x.1) h') : CallsH PG id_carrackref23_reader_one #[rdV a] h k :=
  one_ok hR hS fun h' r u => hk h' _ rfl r u
theorem number_s {h : PH} {a : Nat} {S : List UInt8} {st : Stt} (hR : RfAt h a S st.1 st.2) (hS : S.length ≤ 1000000000000) {k : Value → PH → Prop} (hk : ∀ h' x, x = rGet st 8 → RfAt h' a S x.2.1 x.2.2 → Upd [a] h h' → k (.int .u64 x.1) h') : CallsH PG id_carrackref23_reader_number #[rdV a] h k :=
  number_ok hR hS fun h' r u => hk h' _ rfl r u
theorem text_s {h : PH} {a : Nat} {S : List UInt8} {st : Stt} (hR : RfAt h a S st.1 st.2) (hS : S.length ≤ 1000000000000) {k : Value → PH → Prop} (hk : ∀ h' x, x = rText st → RfAt h' a S x.2.1 x.2.2 → Upd [a] h h' → k (.string (tx x.1)) h') : CallsH PG id_carrackref23_reader_text #[rdV a] h k :=
  text_ok hR hS fun h' r u => hk h' _ rfl r u
theorem two_s {h : PH} {a : Nat} {S : List UInt8} {st : Stt} (hR : RfAt h a S st.1 st.2) (hS : S.length ≤ 1000000000000) {k : Value → PH → Prop} (hk : ∀ h' x, x = rTwo st → RfAt h' a S x.2.1 x.2.2 → Upd [a] h h' → k (.int .i64 x.1) h') : CallsH PG id_carrackref23_reader_two #[rdV a] h k :=
  two_ok hR hS fun h' r u => hk h' _ rfl r u
/-- The three boxes of reader.act. -/
structure RB (h : PH) (a r1 r3 r6 : Nat) (A : Act) (v : Value) : Prop where
  rd : h r1 = some (.cells #[.pointer (some ⟨a, 0, none⟩)] T_carrackref23_reader (0, 0))
  out : ∃ c, h r3 = some (.cells c T_api_Act (0, 0)) ∧ c.size = 14
  act : ABox h r6 A v
theorem RB.load {h : PH} {a r1 r3 r6 : Nat} {A : Act} {v : Value} (H : RB h a r1 r3 r6 A v) : SemE PG h (Instr.loadAt T_carrackref23_reader (.pointer (some ⟨r1, 0, none⟩))) = some (rdV a) :=
  load_box T_carrackref23_reader.und rfl T_carrackref23_reader.info T_carrackref23_reader.size H.rd rfl
theorem RB.upd {h h' : PH} {a r1 r3 r6 : Nat} {A : Act} {v : Value} {G : List Nat} (H : RB h a r1 r3 r6 A v) (u : Upd G h h') (d1 : r1 ∉ G) (d3 : r3 ∉ G) (d6 : r6 ∉ G) : RB h' a r1 r3 r6 A v :=
  ⟨u.get H.rd d1, by obtain ⟨c, h1, h2⟩ := H.out; exact ⟨c, u.get h1 d3, h2⟩, H.act.upd u d6⟩
structure RD (a r1 r3 r6 : Nat) : Prop where
  d1 : r1 ≠ a
  d3 : r3 ≠ a
  d6 : r6 ≠ a
  d13 : r1 ≠ r3
  d16 : r1 ≠ r6
  d36 : r3 ≠ r6
theorem RB.rdUpd {h h' : PH} {a r1 r3 r6 : Nat} {A : Act} {v : Value} (H : RB h a r1 r3 r6 A v) (D : RD a r1 r3 r6) (u : Upd [a] h h') : RB h' a r1 r3 r6 A v :=
  H.upd u (by simpa using D.d1) (by simpa using D.d3) (by simpa using D.d6)
theorem RB.set {h : PH} {a r1 r3 r6 i : Nat} {A A' : Act} {v x : Value} {t : TypeId} {d : TypeDesc} {inf : TypeInfo} (H : RB h a r1 r3 r6 A v) (D : RD a r1 r3 r6) (hu : PG.underlying t = some d) (hd : flatD d = true) (hi : PG.info? t = some inf) (hn : inf.size = 1) (hlt : i < 14) (hx : isCell x = true)
    (he : (A.cells v).toArray.setIfInBounds i x = (A'.cells v).toArray) {k : Value → PH → Prop} (hk : ∀ h', RB h' a r1 r3 r6 A' v → Upd [r6] h h' → k undef h') : SemH PG (storeS t (.pointer (some ⟨r6, i, none⟩)) x) h k :=
  H.act.set hu hd hi hn hlt hx he fun h' hB u _ => hk h' ⟨u.get H.rd (by simpa using D.d16), by obtain ⟨c, h1, h2⟩ := H.out; exact ⟨c, u.get h1 (by simpa using D.d36), h2⟩, hB⟩ u
theorem k29_ok {h : PH} {a r1 r3 r6 : Nat} {A : Act} {v : Value} (H : RB h a r1 r3 r6 A v) (hv : isCell v = true) {k : Value → PH → Prop} (hk : ∀ h', Upd [r3] h h' → k (.agg (A.cells v).toArray) h') : carrackref23_reader_act_k29 k (.pointer (some ⟨r3, 0, none⟩)) (.pointer (some ⟨r6, 0, none⟩)) h := by
  unfold carrackref23_reader_act_k29 carrackref23_reader_act_k30
  obtain ⟨c, h1, h2⟩ := H.out
  rw [H.act.load]
  simp only [popO_some, bindH_eq, condV_bool, condV_true, condV_false, yV_bool, gopV_tt, gopV_ff, gopV_tf, gopV_ft, pickV_t, pickV_f, pickV_bool, nilS_ptr, add_eq, sub_eq, mul_eq, lss_eq, leq_eq, gtr_eq, geq_eq, not_eq, minI_eq, maxI_eq, extract_0, extract_1, extract_2, eqlI, neqI, makeFunc_eq, decide_true, decide_false, if_true, if_false, Bool.false_eq_true, Bool.not_true, Bool.not_false, reduceIte, List.getElem?_toArray, List.getElem?_cons_zero, List.getElem?_cons_succ, Option.isSome_none, List.length_map]
  refine store_box h1 T_api_Act.info (by show 14 = 14; rfl) (by show 0 < 14; decide) (by rw [h2]; rfl) (A.cellOk hv) ?_
  rw [load_box T_api_Act.und rfl T_api_Act.info T_api_Act.size set_same rfl]
  exact hk _ (Upd.set (by simp))
theorem up1 {h h' : PH} {r : Nat} {F : List Nat} (u : Upd [r] h h') (hr : r ∈ F) : Upd F h h' := u.mono fun b hb => .inl (by simp at hb; subst hb; exact hr)
theorem k29_end {h0 h : PH} {a r1 r3 r6 : Nat} {S : List UInt8} {out : Act × Stt} {v : Value} {Fv : List Nat} (w : Upd [a, r1, r3, r6] h0 h) (hR : RfAt h a S out.2.1 out.2.2) (H : RB h a r1 r3 r6 out.1 v) (D : RD a r1 r3 r6) (hf : Fresh h0 [r1, r3, r6]) (hO : OwnR h T_api_Write 2 v (out.1.writes.map Wr.cells) Fv) (hfv : Fresh h0 Fv) (hd : r3 ∉ Fv) {k : Value → PH → Prop} (hk : RNextA h0 a S out k) :
    carrackref23_reader_act_k29 k (.pointer (some ⟨r3, 0, none⟩)) (.pointer (some ⟨r6, 0, none⟩)) h := by
  refine k29_ok H hO.cell fun h' u => ?_
  refine hk h' v Fv (hR.upd u (by simpa using D.d3.symm)) (hO.upd u fun b hb => by simp; intro e; subst e; exact hd hb) hfv ?_
  exact (w.trans (up1 u (by simp))).mono fun b hb => by
    simp only [List.mem_cons, List.not_mem_nil, or_false] at hb
    rcases hb with rfl | rfl | rfl | rfl
    · exact .inl (by simp)
    · exact .inr (hf _ (by simp))
    · exact .inr (hf _ (by simp))
    · exact .inr (hf _ (by simp))
set_option maxHeartbeats 4000000 in
theorem ract_ok {h : PH} {a K : Nat} {S s : List UInt8} (hK : K < 9) (h8 : K ≠ 8) (hR : RfAt h a S 0 s) (hS : S.length ≤ 1000000000000) {k : Value → PH → Prop} (hk : RNextA h a S (rAct K (0, s)) k) :
    CallsH PG id_carrackref23_reader_act #[rdV a, .int .i64 K] h k := by
  apply carrackref23_reader_act.call
  unfold carrackref23_reader_act
  intro r1 hr1
  rw [bindH_eq]
  have u1 : Ext h (h.set r1 (.cells (rdV a).cells T_carrackref23_reader)) := Upd.new hr1
  have b1 : (h.set r1 (.cells (rdV a).cells T_carrackref23_reader)) r1 = some (.cells #[.pointer (some ⟨a, 0, none⟩)] T_carrackref23_reader (0, 0)) := by rw [set_same]; rfl
  generalize h.set r1 (.cells (rdV a).cells T_carrackref23_reader) = h1 at *
  intro r3 hr3
  rw [bindH_eq]
  have u3 : Ext h1 (h1.set r3 (.cells (zcells PG T_api_Act) T_api_Act)) := Upd.new hr3
  have b3 : (h1.set r3 (.cells (zcells PG T_api_Act) T_api_Act)) r3 = some (.cells (zcells PG T_api_Act) T_api_Act (0, 0)) := set_same
  generalize h1.set r3 (.cells (zcells PG T_api_Act) T_api_Act) = h3 at *
  simp only [act_build, popO_some, bindH_eq, condV_bool, condV_true, condV_false, yV_bool, gopV_tt, gopV_ff, gopV_tf, gopV_ft, pickV_t, pickV_f, pickV_bool, nilS_ptr, add_eq, sub_eq, mul_eq, lss_eq, leq_eq, gtr_eq, geq_eq, not_eq, minI_eq, maxI_eq, extract_0, extract_1, extract_2, eqlI, neqI, makeFunc_eq, decide_true, decide_false, if_true, if_false, Bool.false_eq_true, Bool.not_true, Bool.not_false, reduceIte, List.getElem?_toArray, List.getElem?_cons_zero, List.getElem?_cons_succ, Option.isSome_none, List.length_map]
  intro r6 hr6
  refine put_act hr6 (Act.zero K) (v := .slice none 0 0) rfl fun h4 hB4 u4 => ?_
  have D : RD a r1 r3 r6 := by
    refine ⟨?_, ?_, ?_, ?_, ?_, ?_⟩ <;> intro e <;> subst e
    · rw [hR.here] at hr1; cases hr1
    · rw [(hR.ext u1).here] at hr3; cases hr3
    · rw [((hR.ext u1).ext u3).here] at hr6; cases hr6
    · rw [b1] at hr3; cases hr3
    · rw [u3.get b1] at hr6; cases hr6
    · rw [b3] at hr6; cases hr6
  have hR4 := ((hR.ext u1).ext u3).ext u4
  have H4 : RB h4 a r1 r3 r6 (Act.zero K) (.slice none 0 0) := ⟨(u3.trans u4).get b1, ⟨_, u4.get b3, by rw [T_api_Act.zc]; rfl⟩, hB4⟩
  have hf : Fresh h [r1, r3, r6] := fun b hb => by
    simp only [List.mem_cons, List.not_mem_nil, or_false] at hb
    rcases hb with rfl | rfl | rfl
    · exact hr1
    · exact u1.none hr3
    · exact (u1.trans u3).none hr6
  have w4 : Upd [a, r1, r3, r6] h h4 := ((u1.trans u3).trans u4).upd
  have cases9 : K = 0 ∨ K = 1 ∨ K = 2 ∨ K = 3 ∨ K = 4 ∨ K = 5 ∨ K = 6 ∨ K = 7 := by omega
  have hN : ∀ K : Nat, rAct K (0, s) = ({ Act.zero K with n := (rGet (0, s) 1).1 }, (rGet (0, s) 1).2) → RB h4 a r1 r3 r6 (Act.zero K) (.slice none 0 0) → RNextA h a S (rAct K (0, s)) k → ∀ t11, carrackref23_reader_act_k43 k (.pointer (some ⟨r1, 0, none⟩)) (.pointer (some ⟨r3, 0, none⟩)) (.pointer (some ⟨r6, 0, none⟩)) t11 (.bool true) h4 := by
    intro K hg H4 hk t11
    rw [hg] at hk
    unfold carrackref23_reader_act_k43
    simp only [H4.load, popO_some, bindH_eq, condV_bool, condV_true, condV_false, yV_bool, gopV_tt, gopV_ff, gopV_tf, gopV_ft, pickV_t, pickV_f, pickV_bool, nilS_ptr, add_eq, sub_eq, mul_eq, lss_eq, leq_eq, gtr_eq, geq_eq, not_eq, minI_eq, maxI_eq, extract_0, extract_1, extract_2, eqlI, neqI, makeFunc_eq, decide_true, decide_false, if_true, if_false, Bool.false_eq_true, Bool.not_true, Bool.not_false, reduceIte, List.getElem?_toArray, List.getElem?_cons_zero, List.getElem?_cons_succ, Option.isSome_none, List.length_map]
    refine one_s (st := (0, s)) hR4 hS fun h5 x1 e1 hR5 u5 => ?_
    have H5 := H4.rdUpd D u5
    simp only [T_api_Act.f4, Nat.zero_add, popO_some, bindH_eq, condV_bool, condV_true, condV_false, yV_bool, gopV_tt, gopV_ff, gopV_tf, gopV_ft, pickV_t, pickV_f, pickV_bool, nilS_ptr, add_eq, sub_eq, mul_eq, lss_eq, leq_eq, gtr_eq, geq_eq, not_eq, minI_eq, maxI_eq, extract_0, extract_1, extract_2, eqlI, neqI, makeFunc_eq, decide_true, decide_false, if_true, if_false, Bool.false_eq_true, Bool.not_true, Bool.not_false, reduceIte, List.getElem?_toArray, List.getElem?_cons_zero, List.getElem?_cons_succ, Option.isSome_none, List.length_map]
    refine H5.set (A' := { Act.zero K with n := x1.1 }) D T_int.und rfl T_int.info T_int.size (by decide) rfl rfl fun h6 H6 u6 => ?_
    subst e1
    exact k29_end ((w4.trans (up1 u5 (by simp))).trans (up1 u6 (by simp))) (hR5.upd u6 (by simpa using D.d6.symm)) H6 D hf nilW nilF (by simp) hk
  rcases cases9 with rfl | rfl | rfl | rfl | rfl | rfl | rfl | rfl
  · simp only [show ((0 : Nat) : Int) = 0 from rfl, H4.load, Int.reduceBEq, beq_self_eq_true, popO_some, bindH_eq, condV_bool, condV_true, condV_false, yV_bool, gopV_tt, gopV_ff, gopV_tf, gopV_ft, pickV_t, pickV_f, pickV_bool, nilS_ptr, add_eq, sub_eq, mul_eq, lss_eq, leq_eq, gtr_eq, geq_eq, not_eq, minI_eq, maxI_eq, extract_0, extract_1, extract_2, eqlI, neqI, makeFunc_eq, decide_true, decide_false, if_true, if_false, Bool.false_eq_true, Bool.not_true, Bool.not_false, reduceIte, List.getElem?_toArray, List.getElem?_cons_zero, List.getElem?_cons_succ, Option.isSome_none, List.length_map]
    refine one_s (st := (0, s)) hR4 hS fun h5 x1 e1 hR5 u5 => ?_
    have H5 := H4.rdUpd D u5
    simp only [T_api_Act.f1, Nat.zero_add, popO_some, bindH_eq, condV_bool, condV_true, condV_false, yV_bool, gopV_tt, gopV_ff, gopV_tf, gopV_ft, pickV_t, pickV_f, pickV_bool, nilS_ptr, add_eq, sub_eq, mul_eq, lss_eq, leq_eq, gtr_eq, geq_eq, not_eq, minI_eq, maxI_eq, extract_0, extract_1, extract_2, eqlI, neqI, makeFunc_eq, decide_true, decide_false, if_true, if_false, Bool.false_eq_true, Bool.not_true, Bool.not_false, reduceIte, List.getElem?_toArray, List.getElem?_cons_zero, List.getElem?_cons_succ, Option.isSome_none, List.length_map]
    refine H5.set (A' := { Act.zero 0 with chain := x1.1 }) D T_int.und rfl T_int.info T_int.size (by decide) rfl rfl fun h6 H6 u6 => ?_
    have hR6 := hR5.upd u6 (by simpa using D.d6.symm)
    simp only [H6.load, popO_some, bindH_eq, condV_bool, condV_true, condV_false, yV_bool, gopV_tt, gopV_ff, gopV_tf, gopV_ft, pickV_t, pickV_f, pickV_bool, nilS_ptr, add_eq, sub_eq, mul_eq, lss_eq, leq_eq, gtr_eq, geq_eq, not_eq, minI_eq, maxI_eq, extract_0, extract_1, extract_2, eqlI, neqI, makeFunc_eq, decide_true, decide_false, if_true, if_false, Bool.false_eq_true, Bool.not_true, Bool.not_false, reduceIte, List.getElem?_toArray, List.getElem?_cons_zero, List.getElem?_cons_succ, Option.isSome_none, List.length_map]
    refine number_s hR6 hS fun h7 x2 e2 hR7 u7 => ?_
    have H7 := H6.rdUpd D u7
    simp only [T_api_Act.f2, Nat.zero_add, popO_some, bindH_eq, condV_bool, condV_true, condV_false, yV_bool, gopV_tt, gopV_ff, gopV_tf, gopV_ft, pickV_t, pickV_f, pickV_bool, nilS_ptr, add_eq, sub_eq, mul_eq, lss_eq, leq_eq, gtr_eq, geq_eq, not_eq, minI_eq, maxI_eq, extract_0, extract_1, extract_2, eqlI, neqI, makeFunc_eq, decide_true, decide_false, if_true, if_false, Bool.false_eq_true, Bool.not_true, Bool.not_false, reduceIte, List.getElem?_toArray, List.getElem?_cons_zero, List.getElem?_cons_succ, Option.isSome_none, List.length_map]
    refine H7.set (A' := { Act.zero 0 with chain := x1.1, timeout := x2.1 }) D T_uint64.und rfl T_uint64.info T_uint64.size (by decide) rfl rfl fun h8 H8 u8 => ?_
    have hR8 := hR7.upd u8 (by simpa using D.d6.symm)
    simp only [H8.load, popO_some, bindH_eq, condV_bool, condV_true, condV_false, yV_bool, gopV_tt, gopV_ff, gopV_tf, gopV_ft, pickV_t, pickV_f, pickV_bool, nilS_ptr, add_eq, sub_eq, mul_eq, lss_eq, leq_eq, gtr_eq, geq_eq, not_eq, minI_eq, maxI_eq, extract_0, extract_1, extract_2, eqlI, neqI, makeFunc_eq, decide_true, decide_false, if_true, if_false, Bool.false_eq_true, Bool.not_true, Bool.not_false, reduceIte, List.getElem?_toArray, List.getElem?_cons_zero, List.getElem?_cons_succ, Option.isSome_none, List.length_map]
    refine text_s hR8 hS fun h9 x3 e3 hR9 u9 => ?_
    have H9 := H8.rdUpd D u9
    simp only [T_api_Act.f3, Nat.zero_add, popO_some, bindH_eq, condV_bool, condV_true, condV_false, yV_bool, gopV_tt, gopV_ff, gopV_tf, gopV_ft, pickV_t, pickV_f, pickV_bool, nilS_ptr, add_eq, sub_eq, mul_eq, lss_eq, leq_eq, gtr_eq, geq_eq, not_eq, minI_eq, maxI_eq, extract_0, extract_1, extract_2, eqlI, neqI, makeFunc_eq, decide_true, decide_false, if_true, if_false, Bool.false_eq_true, Bool.not_true, Bool.not_false, reduceIte, List.getElem?_toArray, List.getElem?_cons_zero, List.getElem?_cons_succ, Option.isSome_none, List.length_map]
    refine H9.set (A' := { Act.zero 0 with chain := x1.1, timeout := x2.1, data := x3.1 }) D T_string.und rfl T_string.info T_string.size (by decide) rfl rfl fun h10 H10 u10 => ?_
    have hg : rAct 0 (0, s) = ({ Act.zero 0 with chain := x1.1, timeout := x2.1, data := x3.1 }, x3.2) := by subst e3 e2 e1; rfl
    rw [hg] at hk
    exact k29_end ((((((w4.trans (up1 u5 (by simp))).trans (up1 u6 (by simp))).trans (up1 u7 (by simp))).trans (up1 u8 (by simp))).trans (up1 u9 (by simp))).trans (up1 u10 (by simp))) (hR9.upd u10 (by simpa using D.d6.symm)) H10 D hf nilW nilF (by simp) hk
  · simp only [show ((1 : Nat) : Int) = 1 from rfl, H4.load, Int.reduceBEq, beq_self_eq_true, popO_some, bindH_eq, condV_bool, condV_true, condV_false, yV_bool, gopV_tt, gopV_ff, gopV_tf, gopV_ft, pickV_t, pickV_f, pickV_bool, nilS_ptr, add_eq, sub_eq, mul_eq, lss_eq, leq_eq, gtr_eq, geq_eq, not_eq, minI_eq, maxI_eq, extract_0, extract_1, extract_2, eqlI, neqI, makeFunc_eq, decide_true, decide_false, if_true, if_false, Bool.false_eq_true, Bool.not_true, Bool.not_false, reduceIte, List.getElem?_toArray, List.getElem?_cons_zero, List.getElem?_cons_succ, Option.isSome_none, List.length_map]
    refine one_s (st := (0, s)) hR4 hS fun h5 x1 e1 hR5 u5 => ?_
    have H5 := H4.rdUpd D u5
    simp only [T_api_Act.f1, Nat.zero_add, popO_some, bindH_eq, condV_bool, condV_true, condV_false, yV_bool, gopV_tt, gopV_ff, gopV_tf, gopV_ft, pickV_t, pickV_f, pickV_bool, nilS_ptr, add_eq, sub_eq, mul_eq, lss_eq, leq_eq, gtr_eq, geq_eq, not_eq, minI_eq, maxI_eq, extract_0, extract_1, extract_2, eqlI, neqI, makeFunc_eq, decide_true, decide_false, if_true, if_false, Bool.false_eq_true, Bool.not_true, Bool.not_false, reduceIte, List.getElem?_toArray, List.getElem?_cons_zero, List.getElem?_cons_succ, Option.isSome_none, List.length_map]
    refine H5.set (A' := { Act.zero 1 with chain := x1.1 }) D T_int.und rfl T_int.info T_int.size (by decide) rfl rfl fun h6 H6 u6 => ?_
    have hg : rAct 1 (0, s) = ({ Act.zero 1 with chain := x1.1 }, x1.2) := by subst e1; rfl
    rw [hg] at hk
    exact k29_end ((w4.trans (up1 u5 (by simp))).trans (up1 u6 (by simp))) (hR5.upd u6 (by simpa using D.d6.symm)) H6 D hf nilW nilF (by simp) hk
  · simp only [show ((2 : Nat) : Int) = 2 from rfl, H4.load, Int.reduceBEq, beq_self_eq_true, popO_some, bindH_eq, condV_bool, condV_true, condV_false, yV_bool, gopV_tt, gopV_ff, gopV_tf, gopV_ft, pickV_t, pickV_f, pickV_bool, nilS_ptr, add_eq, sub_eq, mul_eq, lss_eq, leq_eq, gtr_eq, geq_eq, not_eq, minI_eq, maxI_eq, extract_0, extract_1, extract_2, eqlI, neqI, makeFunc_eq, decide_true, decide_false, if_true, if_false, Bool.false_eq_true, Bool.not_true, Bool.not_false, reduceIte, List.getElem?_toArray, List.getElem?_cons_zero, List.getElem?_cons_succ, Option.isSome_none, List.length_map]
    unfold carrackref23_reader_act_k43
    simp only [Int.reduceBEq, beq_self_eq_true, popO_some, bindH_eq, condV_bool, condV_true, condV_false, yV_bool, gopV_tt, gopV_ff, gopV_tf, gopV_ft, pickV_t, pickV_f, pickV_bool, nilS_ptr, add_eq, sub_eq, mul_eq, lss_eq, leq_eq, gtr_eq, geq_eq, not_eq, minI_eq, maxI_eq, extract_0, extract_1, extract_2, eqlI, neqI, makeFunc_eq, decide_true, decide_false, if_true, if_false, Bool.false_eq_true, Bool.not_true, Bool.not_false, reduceIte, List.getElem?_toArray, List.getElem?_cons_zero, List.getElem?_cons_succ, Option.isSome_none, List.length_map]
    exact k29_end w4 hR4 H4 D hf nilW nilF (by simp) hk
  · simp only [show ((3 : Nat) : Int) = 3 from rfl, H4.load, Int.reduceBEq, beq_self_eq_true, popO_some, bindH_eq, condV_bool, condV_true, condV_false, yV_bool, gopV_tt, gopV_ff, gopV_tf, gopV_ft, pickV_t, pickV_f, pickV_bool, nilS_ptr, add_eq, sub_eq, mul_eq, lss_eq, leq_eq, gtr_eq, geq_eq, not_eq, minI_eq, maxI_eq, extract_0, extract_1, extract_2, eqlI, neqI, makeFunc_eq, decide_true, decide_false, if_true, if_false, Bool.false_eq_true, Bool.not_true, Bool.not_false, reduceIte, List.getElem?_toArray, List.getElem?_cons_zero, List.getElem?_cons_succ, Option.isSome_none, List.length_map]
    exact hN 3 rfl H4 hk _
  · simp only [show ((4 : Nat) : Int) = 4 from rfl, H4.load, Int.reduceBEq, beq_self_eq_true, popO_some, bindH_eq, condV_bool, condV_true, condV_false, yV_bool, gopV_tt, gopV_ff, gopV_tf, gopV_ft, pickV_t, pickV_f, pickV_bool, nilS_ptr, add_eq, sub_eq, mul_eq, lss_eq, leq_eq, gtr_eq, geq_eq, not_eq, minI_eq, maxI_eq, extract_0, extract_1, extract_2, eqlI, neqI, makeFunc_eq, decide_true, decide_false, if_true, if_false, Bool.false_eq_true, Bool.not_true, Bool.not_false, reduceIte, List.getElem?_toArray, List.getElem?_cons_zero, List.getElem?_cons_succ, Option.isSome_none, List.length_map]
    exact hN 4 rfl H4 hk _
  · simp only [show ((5 : Nat) : Int) = 5 from rfl, H4.load, Int.reduceBEq, beq_self_eq_true, popO_some, bindH_eq, condV_bool, condV_true, condV_false, yV_bool, gopV_tt, gopV_ff, gopV_tf, gopV_ft, pickV_t, pickV_f, pickV_bool, nilS_ptr, add_eq, sub_eq, mul_eq, lss_eq, leq_eq, gtr_eq, geq_eq, not_eq, minI_eq, maxI_eq, extract_0, extract_1, extract_2, eqlI, neqI, makeFunc_eq, decide_true, decide_false, if_true, if_false, Bool.false_eq_true, Bool.not_true, Bool.not_false, reduceIte, List.getElem?_toArray, List.getElem?_cons_zero, List.getElem?_cons_succ, Option.isSome_none, List.length_map]
    exact hN 5 rfl H4 hk _
  · simp only [show ((6 : Nat) : Int) = 6 from rfl, H4.load, Int.reduceBEq, beq_self_eq_true, popO_some, bindH_eq, condV_bool, condV_true, condV_false, yV_bool, gopV_tt, gopV_ff, gopV_tf, gopV_ft, pickV_t, pickV_f, pickV_bool, nilS_ptr, add_eq, sub_eq, mul_eq, lss_eq, leq_eq, gtr_eq, geq_eq, not_eq, minI_eq, maxI_eq, extract_0, extract_1, extract_2, eqlI, neqI, makeFunc_eq, decide_true, decide_false, if_true, if_false, Bool.false_eq_true, Bool.not_true, Bool.not_false, reduceIte, List.getElem?_toArray, List.getElem?_cons_zero, List.getElem?_cons_succ, Option.isSome_none, List.length_map]
    unfold carrackref23_reader_act_k43
    simp only [H4.load, Int.reduceBEq, beq_self_eq_true, popO_some, bindH_eq, condV_bool, condV_true, condV_false, yV_bool, gopV_tt, gopV_ff, gopV_tf, gopV_ft, pickV_t, pickV_f, pickV_bool, nilS_ptr, add_eq, sub_eq, mul_eq, lss_eq, leq_eq, gtr_eq, geq_eq, not_eq, minI_eq, maxI_eq, extract_0, extract_1, extract_2, eqlI, neqI, makeFunc_eq, decide_true, decide_false, if_true, if_false, Bool.false_eq_true, Bool.not_true, Bool.not_false, reduceIte, List.getElem?_toArray, List.getElem?_cons_zero, List.getElem?_cons_succ, Option.isSome_none, List.length_map]
    refine one_s (st := (0, s)) hR4 hS fun h5 x1 e1 hR5 u5 => ?_
    have H5 := H4.rdUpd D u5
    simp only [T_api_Act.f5, T_api_Message.f0, Nat.zero_add, Nat.reduceAdd, popO_some, bindH_eq, condV_bool, condV_true, condV_false, yV_bool, gopV_tt, gopV_ff, gopV_tf, gopV_ft, pickV_t, pickV_f, pickV_bool, nilS_ptr, add_eq, sub_eq, mul_eq, lss_eq, leq_eq, gtr_eq, geq_eq, not_eq, minI_eq, maxI_eq, extract_0, extract_1, extract_2, eqlI, neqI, makeFunc_eq, decide_true, decide_false, if_true, if_false, Bool.false_eq_true, Bool.not_true, Bool.not_false, reduceIte, List.getElem?_toArray, List.getElem?_cons_zero, List.getElem?_cons_succ, Option.isSome_none, List.length_map]
    refine H5.set (i := 5) (A' := { Act.zero 6 with msg := { Msg.zero with kind := x1.1 } }) D T_int.und rfl T_int.info T_int.size (by decide) rfl rfl fun h6 H6 u6 => ?_
    have hR6 := hR5.upd u6 (by simpa using D.d6.symm)
    simp only [H6.load, popO_some, bindH_eq, condV_bool, condV_true, condV_false, yV_bool, gopV_tt, gopV_ff, gopV_tf, gopV_ft, pickV_t, pickV_f, pickV_bool, nilS_ptr, add_eq, sub_eq, mul_eq, lss_eq, leq_eq, gtr_eq, geq_eq, not_eq, minI_eq, maxI_eq, extract_0, extract_1, extract_2, eqlI, neqI, makeFunc_eq, decide_true, decide_false, if_true, if_false, Bool.false_eq_true, Bool.not_true, Bool.not_false, reduceIte, List.getElem?_toArray, List.getElem?_cons_zero, List.getElem?_cons_succ, Option.isSome_none, List.length_map]
    refine one_s hR6 hS fun h7 x2 e2 hR7 u7 => ?_
    have H7 := H6.rdUpd D u7
    simp only [T_api_Act.f5, T_api_Message.f1, Nat.zero_add, Nat.reduceAdd, popO_some, bindH_eq, condV_bool, condV_true, condV_false, yV_bool, gopV_tt, gopV_ff, gopV_tf, gopV_ft, pickV_t, pickV_f, pickV_bool, nilS_ptr, add_eq, sub_eq, mul_eq, lss_eq, leq_eq, gtr_eq, geq_eq, not_eq, minI_eq, maxI_eq, extract_0, extract_1, extract_2, eqlI, neqI, makeFunc_eq, decide_true, decide_false, if_true, if_false, Bool.false_eq_true, Bool.not_true, Bool.not_false, reduceIte, List.getElem?_toArray, List.getElem?_cons_zero, List.getElem?_cons_succ, Option.isSome_none, List.length_map]
    refine H7.set (i := 6) (A' := { Act.zero 6 with msg := { Msg.zero with kind := x1.1, dest := x2.1 } }) D T_int.und rfl T_int.info T_int.size (by decide) rfl rfl fun h8 H8 u8 => ?_
    have hR8 := hR7.upd u8 (by simpa using D.d6.symm)
    simp only [H8.load, popO_some, bindH_eq, condV_bool, condV_true, condV_false, yV_bool, gopV_tt, gopV_ff, gopV_tf, gopV_ft, pickV_t, pickV_f, pickV_bool, nilS_ptr, add_eq, sub_eq, mul_eq, lss_eq, leq_eq, gtr_eq, geq_eq, not_eq, minI_eq, maxI_eq, extract_0, extract_1, extract_2, eqlI, neqI, makeFunc_eq, decide_true, decide_false, if_true, if_false, Bool.false_eq_true, Bool.not_true, Bool.not_false, reduceIte, List.getElem?_toArray, List.getElem?_cons_zero, List.getElem?_cons_succ, Option.isSome_none, List.length_map]
    refine number_s hR8 hS fun h9 x3 e3 hR9 u9 => ?_
    have H9 := H8.rdUpd D u9
    simp only [T_api_Act.f5, T_api_Message.f2, Nat.zero_add, Nat.reduceAdd, popO_some, bindH_eq, condV_bool, condV_true, condV_false, yV_bool, gopV_tt, gopV_ff, gopV_tf, gopV_ft, pickV_t, pickV_f, pickV_bool, nilS_ptr, add_eq, sub_eq, mul_eq, lss_eq, leq_eq, gtr_eq, geq_eq, not_eq, minI_eq, maxI_eq, extract_0, extract_1, extract_2, eqlI, neqI, makeFunc_eq, decide_true, decide_false, if_true, if_false, Bool.false_eq_true, Bool.not_true, Bool.not_false, reduceIte, List.getElem?_toArray, List.getElem?_cons_zero, List.getElem?_cons_succ, Option.isSome_none, List.length_map]
    refine H9.set (i := 7) (A' := { Act.zero 6 with msg := { Msg.zero with kind := x1.1, dest := x2.1, height := x3.1 } }) D T_uint64.und rfl T_uint64.info T_uint64.size (by decide) rfl rfl fun h10 H10 u10 => ?_
    have hR10 := hR9.upd u10 (by simpa using D.d6.symm)
    simp only [H10.load, popO_some, bindH_eq, condV_bool, condV_true, condV_false, yV_bool, gopV_tt, gopV_ff, gopV_tf, gopV_ft, pickV_t, pickV_f, pickV_bool, nilS_ptr, add_eq, sub_eq, mul_eq, lss_eq, leq_eq, gtr_eq, geq_eq, not_eq, minI_eq, maxI_eq, extract_0, extract_1, extract_2, eqlI, neqI, makeFunc_eq, decide_true, decide_false, if_true, if_false, Bool.false_eq_true, Bool.not_true, Bool.not_false, reduceIte, List.getElem?_toArray, List.getElem?_cons_zero, List.getElem?_cons_succ, Option.isSome_none, List.length_map]
    refine one_s hR10 hS fun h11 x4 e4 hR11 u11 => ?_
    have H11 := H10.rdUpd D u11
    simp only [T_api_Act.f5, T_api_Message.f3, T_api_Packet.f0, Nat.zero_add, Nat.reduceAdd, popO_some, bindH_eq, condV_bool, condV_true, condV_false, yV_bool, gopV_tt, gopV_ff, gopV_tf, gopV_ft, pickV_t, pickV_f, pickV_bool, nilS_ptr, add_eq, sub_eq, mul_eq, lss_eq, leq_eq, gtr_eq, geq_eq, not_eq, minI_eq, maxI_eq, extract_0, extract_1, extract_2, eqlI, neqI, makeFunc_eq, decide_true, decide_false, if_true, if_false, Bool.false_eq_true, Bool.not_true, Bool.not_false, reduceIte, List.getElem?_toArray, List.getElem?_cons_zero, List.getElem?_cons_succ, Option.isSome_none, List.length_map]
    refine H11.set (i := 8) (A' := { Act.zero 6 with msg := { Msg.zero with kind := x1.1, dest := x2.1, height := x3.1, pfrom := x4.1 } }) D T_int.und rfl T_int.info T_int.size (by decide) rfl rfl fun h12 H12 u12 => ?_
    have hR12 := hR11.upd u12 (by simpa using D.d6.symm)
    simp only [H12.load, popO_some, bindH_eq, condV_bool, condV_true, condV_false, yV_bool, gopV_tt, gopV_ff, gopV_tf, gopV_ft, pickV_t, pickV_f, pickV_bool, nilS_ptr, add_eq, sub_eq, mul_eq, lss_eq, leq_eq, gtr_eq, geq_eq, not_eq, minI_eq, maxI_eq, extract_0, extract_1, extract_2, eqlI, neqI, makeFunc_eq, decide_true, decide_false, if_true, if_false, Bool.false_eq_true, Bool.not_true, Bool.not_false, reduceIte, List.getElem?_toArray, List.getElem?_cons_zero, List.getElem?_cons_succ, Option.isSome_none, List.length_map]
    refine number_s hR12 hS fun h13 x5 e5 hR13 u13 => ?_
    have H13 := H12.rdUpd D u13
    simp only [T_api_Act.f5, T_api_Message.f3, T_api_Packet.f1, Nat.zero_add, Nat.reduceAdd, popO_some, bindH_eq, condV_bool, condV_true, condV_false, yV_bool, gopV_tt, gopV_ff, gopV_tf, gopV_ft, pickV_t, pickV_f, pickV_bool, nilS_ptr, add_eq, sub_eq, mul_eq, lss_eq, leq_eq, gtr_eq, geq_eq, not_eq, minI_eq, maxI_eq, extract_0, extract_1, extract_2, eqlI, neqI, makeFunc_eq, decide_true, decide_false, if_true, if_false, Bool.false_eq_true, Bool.not_true, Bool.not_false, reduceIte, List.getElem?_toArray, List.getElem?_cons_zero, List.getElem?_cons_succ, Option.isSome_none, List.length_map]
    refine H13.set (i := 9) (A' := { Act.zero 6 with msg := { Msg.zero with kind := x1.1, dest := x2.1, height := x3.1, pfrom := x4.1, pseq := x5.1 } }) D T_uint64.und rfl T_uint64.info T_uint64.size (by decide) rfl rfl fun h14 H14 u14 => ?_
    have hR14 := hR13.upd u14 (by simpa using D.d6.symm)
    simp only [H14.load, popO_some, bindH_eq, condV_bool, condV_true, condV_false, yV_bool, gopV_tt, gopV_ff, gopV_tf, gopV_ft, pickV_t, pickV_f, pickV_bool, nilS_ptr, add_eq, sub_eq, mul_eq, lss_eq, leq_eq, gtr_eq, geq_eq, not_eq, minI_eq, maxI_eq, extract_0, extract_1, extract_2, eqlI, neqI, makeFunc_eq, decide_true, decide_false, if_true, if_false, Bool.false_eq_true, Bool.not_true, Bool.not_false, reduceIte, List.getElem?_toArray, List.getElem?_cons_zero, List.getElem?_cons_succ, Option.isSome_none, List.length_map]
    refine number_s hR14 hS fun h15 x6 e6 hR15 u15 => ?_
    have H15 := H14.rdUpd D u15
    simp only [T_api_Act.f5, T_api_Message.f3, T_api_Packet.f2, Nat.zero_add, Nat.reduceAdd, popO_some, bindH_eq, condV_bool, condV_true, condV_false, yV_bool, gopV_tt, gopV_ff, gopV_tf, gopV_ft, pickV_t, pickV_f, pickV_bool, nilS_ptr, add_eq, sub_eq, mul_eq, lss_eq, leq_eq, gtr_eq, geq_eq, not_eq, minI_eq, maxI_eq, extract_0, extract_1, extract_2, eqlI, neqI, makeFunc_eq, decide_true, decide_false, if_true, if_false, Bool.false_eq_true, Bool.not_true, Bool.not_false, reduceIte, List.getElem?_toArray, List.getElem?_cons_zero, List.getElem?_cons_succ, Option.isSome_none, List.length_map]
    refine H15.set (i := 10) (A' := { Act.zero 6 with msg := { Msg.zero with kind := x1.1, dest := x2.1, height := x3.1, pfrom := x4.1, pseq := x5.1, ptimeout := x6.1 } }) D T_uint64.und rfl T_uint64.info T_uint64.size (by decide) rfl rfl fun h16 H16 u16 => ?_
    have hR16 := hR15.upd u16 (by simpa using D.d6.symm)
    simp only [H16.load, popO_some, bindH_eq, condV_bool, condV_true, condV_false, yV_bool, gopV_tt, gopV_ff, gopV_tf, gopV_ft, pickV_t, pickV_f, pickV_bool, nilS_ptr, add_eq, sub_eq, mul_eq, lss_eq, leq_eq, gtr_eq, geq_eq, not_eq, minI_eq, maxI_eq, extract_0, extract_1, extract_2, eqlI, neqI, makeFunc_eq, decide_true, decide_false, if_true, if_false, Bool.false_eq_true, Bool.not_true, Bool.not_false, reduceIte, List.getElem?_toArray, List.getElem?_cons_zero, List.getElem?_cons_succ, Option.isSome_none, List.length_map]
    refine text_s hR16 hS fun h17 x7 e7 hR17 u17 => ?_
    have H17 := H16.rdUpd D u17
    simp only [T_api_Act.f5, T_api_Message.f3, T_api_Packet.f3, Nat.zero_add, Nat.reduceAdd, popO_some, bindH_eq, condV_bool, condV_true, condV_false, yV_bool, gopV_tt, gopV_ff, gopV_tf, gopV_ft, pickV_t, pickV_f, pickV_bool, nilS_ptr, add_eq, sub_eq, mul_eq, lss_eq, leq_eq, gtr_eq, geq_eq, not_eq, minI_eq, maxI_eq, extract_0, extract_1, extract_2, eqlI, neqI, makeFunc_eq, decide_true, decide_false, if_true, if_false, Bool.false_eq_true, Bool.not_true, Bool.not_false, reduceIte, List.getElem?_toArray, List.getElem?_cons_zero, List.getElem?_cons_succ, Option.isSome_none, List.length_map]
    refine H17.set (i := 11) (A' := { Act.zero 6 with msg := { Msg.zero with kind := x1.1, dest := x2.1, height := x3.1, pfrom := x4.1, pseq := x5.1, ptimeout := x6.1, pdata := x7.1 } }) D T_string.und rfl T_string.info T_string.size (by decide) rfl rfl fun h18 H18 u18 => ?_
    have hR18 := hR17.upd u18 (by simpa using D.d6.symm)
    simp only [H18.load, popO_some, bindH_eq, condV_bool, condV_true, condV_false, yV_bool, gopV_tt, gopV_ff, gopV_tf, gopV_ft, pickV_t, pickV_f, pickV_bool, nilS_ptr, add_eq, sub_eq, mul_eq, lss_eq, leq_eq, gtr_eq, geq_eq, not_eq, minI_eq, maxI_eq, extract_0, extract_1, extract_2, eqlI, neqI, makeFunc_eq, decide_true, decide_false, if_true, if_false, Bool.false_eq_true, Bool.not_true, Bool.not_false, reduceIte, List.getElem?_toArray, List.getElem?_cons_zero, List.getElem?_cons_succ, Option.isSome_none, List.length_map]
    refine text_s hR18 hS fun h19 x8 e8 hR19 u19 => ?_
    have H19 := H18.rdUpd D u19
    simp only [T_api_Act.f5, T_api_Message.f4, Nat.zero_add, Nat.reduceAdd, popO_some, bindH_eq, condV_bool, condV_true, condV_false, yV_bool, gopV_tt, gopV_ff, gopV_tf, gopV_ft, pickV_t, pickV_f, pickV_bool, nilS_ptr, add_eq, sub_eq, mul_eq, lss_eq, leq_eq, gtr_eq, geq_eq, not_eq, minI_eq, maxI_eq, extract_0, extract_1, extract_2, eqlI, neqI, makeFunc_eq, decide_true, decide_false, if_true, if_false, Bool.false_eq_true, Bool.not_true, Bool.not_false, reduceIte, List.getElem?_toArray, List.getElem?_cons_zero, List.getElem?_cons_succ, Option.isSome_none, List.length_map]
    refine H19.set (i := 12) (A' := { Act.zero 6 with msg := { Msg.zero with kind := x1.1, dest := x2.1, height := x3.1, pfrom := x4.1, pseq := x5.1, ptimeout := x6.1, pdata := x7.1, proof := x8.1 } }) D T_string.und rfl T_string.info T_string.size (by decide) rfl rfl fun h20 H20 u20 => ?_
    have hR20 := hR19.upd u20 (by simpa using D.d6.symm)
    have hg : rAct 6 (0, s) = ({ Act.zero 6 with msg := { Msg.zero with kind := x1.1, dest := x2.1, height := x3.1, pfrom := x4.1, pseq := x5.1, ptimeout := x6.1, pdata := x7.1, proof := x8.1 } }, x8.2) := by subst e8 e7 e6 e5 e4 e3 e2 e1; rfl
    rw [hg] at hk
    exact k29_end ((((((((((((((((w4.trans (up1 u5 (by simp))).trans (up1 u6 (by simp))).trans (up1 u7 (by simp))).trans (up1 u8 (by simp))).trans (up1 u9 (by simp))).trans (up1 u10 (by simp))).trans (up1 u11 (by simp))).trans (up1 u12 (by simp))).trans (up1 u13 (by simp))).trans (up1 u14 (by simp))).trans (up1 u15 (by simp))).trans (up1 u16 (by simp))).trans (up1 u17 (by simp))).trans (up1 u18 (by simp))).trans (up1 u19 (by simp))).trans (up1 u20 (by simp))) hR20 H20 D hf nilW nilF (by simp) hk
  · simp only [show ((7 : Nat) : Int) = 7 from rfl, H4.load, Int.reduceBEq, beq_self_eq_true, popO_some, bindH_eq, condV_bool, condV_true, condV_false, yV_bool, gopV_tt, gopV_ff, gopV_tf, gopV_ft, pickV_t, pickV_f, pickV_bool, nilS_ptr, add_eq, sub_eq, mul_eq, lss_eq, leq_eq, gtr_eq, geq_eq, not_eq, minI_eq, maxI_eq, extract_0, extract_1, extract_2, eqlI, neqI, makeFunc_eq, decide_true, decide_false, if_true, if_false, Bool.false_eq_true, Bool.not_true, Bool.not_false, reduceIte, List.getElem?_toArray, List.getElem?_cons_zero, List.getElem?_cons_succ, Option.isSome_none, List.length_map]
    exact hN 7 rfl H4 hk _
end Go.Proofs.Ytflgnfiebgcegaa
