/- script: how the document reads writes, and the document's entries. -/
import Derived.Test.YtflgnfiebgcegaaScrF
set_option linter.unusedSimpArgs false
set_option linter.unusedVariables false
namespace Go.Proofs.Ytflgnfiebgcegaa
open Go
set_option maxRecDepth 20000
theorem bne_nat (n : Nat) : (((n : Nat) : Int) != 0) = (n != 0) := by
  cases n with
  | zero => rfl
  | succ n => rfl
theorem wr_build1 (b : Bool) : SemP PG (Instr.build T_api_Write #[(0, .bool b)]) = some (.agg (Wr.mk b 0).cells.toArray) := by kernel_rfl
theorem RB.setW {h : PH} {a r1 r3 r6 : Nat} {A : Act} {v v' : Value} (H : RB h a r1 r3 r6 A v) (D : RD a r1 r3 r6) (l : List Wr) (hv : isCell v' = true) {k : Value → PH → Prop} (hk : ∀ h', RB h' a r1 r3 r6 { A with writes := l } v' → Upd [r6] h h' → k undef h') : SemH PG (storeS T_sl_api_Write (.pointer (some ⟨r6, 13, none⟩)) v') h k :=
  ABox.setW l hv H.act fun h' hB u => hk h' ⟨u.get H.rd (by simpa using D.d16), by obtain ⟨c, h1, h2⟩ := H.out; exact ⟨c, u.get h1 (by simpa using D.d36), h2⟩, hB⟩ u
set_option maxHeartbeats 4000000 in
theorem ract8_ok {h : PH} {a : Nat} {S s : List UInt8} (hR : RfAt h a S 0 s) (hS : S.length ≤ 1000000000000) {k : Value → PH → Prop} (hk : RNextA h a S (rAct 8 (0, s)) k) :
    CallsH PG id_carrackref23_reader_act #[rdV a, .int .i64 8] h k := by
  apply carrackref23_reader_act.call
  unfold carrackref23_reader_act
  intro r1 hr1
  rw [bindH_eq]
  have u1 : Ext h (h.set r1 (.cells (rdV a).cells T_carrackref23_reader)) := Upd.new hr1
  have b1 : (h.set r1 (.cells (rdV a).cells T_carrackref23_reader)) r1 = some (.cells #[.pointer (some ⟨a, 0, none⟩)] T_carrackref23_reader (0, 0)) := by rw [set_same]; rfl
  generalize h.set r1 (.cells (rdV a).cells T_carrackref23_reader) = h1 at *
  intro r3 hr3
  rw [bindH_eq]
  have u3 : Ext h1 (h1.set r3 (.cells (zcells PG T_api_Act) T_api_Act)) := Upd.new hr3
  have b3 : (h1.set r3 (.cells (zcells PG T_api_Act) T_api_Act)) r3 = some (.cells (zcells PG T_api_Act) T_api_Act (0, 0)) := set_same
  generalize h1.set r3 (.cells (zcells PG T_api_Act) T_api_Act) = h3 at *
  simp only [act_build, popO_some, bindH_eq, condV_bool, condV_true, condV_false, yV_bool, gopV_tt, gopV_ff, gopV_tf, gopV_ft, pickV_t, pickV_f, pickV_bool, nilS_ptr, add_eq, sub_eq, mul_eq, lss_eq, leq_eq, gtr_eq, geq_eq, not_eq, minI_eq, maxI_eq, extract_0, extract_1, extract_2, eqlI, neqI, makeFunc_eq, decide_true, decide_false, if_true, if_false, Bool.false_eq_true, Bool.not_true, Bool.not_false, reduceIte, List.getElem?_toArray, List.getElem?_cons_zero, List.getElem?_cons_succ, Option.isSome_none, List.length_map]
  intro r6 hr6
  refine put_act hr6 (Act.zero 8) (v := .slice none 0 0) rfl fun h4 hB4 u4 => ?_
  have D : RD a r1 r3 r6 := by
    refine ⟨?_, ?_, ?_, ?_, ?_, ?_⟩ <;> intro e <;> subst e
    · rw [hR.here] at hr1; cases hr1
    · rw [(hR.ext u1).here] at hr3; cases hr3
    · rw [((hR.ext u1).ext u3).here] at hr6; cases hr6
    · rw [b1] at hr3; cases hr3
    · rw [u3.get b1] at hr6; cases hr6
    · rw [b3] at hr6; cases hr6
  have hR4 := ((hR.ext u1).ext u3).ext u4
  have H4 : RB h4 a r1 r3 r6 (Act.zero 8) (.slice none 0 0) := ⟨(u3.trans u4).get b1, ⟨_, u4.get b3, by rw [T_api_Act.zc]; rfl⟩, hB4⟩
  have hf : Fresh h [r1, r3, r6] := fun b hb => by
    simp only [List.mem_cons, List.not_mem_nil, or_false] at hb
    rcases hb with rfl | rfl | rfl
    · exact hr1
    · exact u1.none hr3
    · exact (u1.trans u3).none hr6
  have w4 : Ext h h4 := ((u1.trans u3).trans u4)
  have wx : ∀ {h'}, Upd [a, r1, r3, r6] h4 h' → Upd [a, r1, r3, r6] h h' := fun u => w4.upd.trans u
  simp only [H4.load, Int.reduceBEq, beq_self_eq_true, popO_some, bindH_eq, condV_bool, condV_true, condV_false, yV_bool, gopV_tt, gopV_ff, gopV_tf, gopV_ft, pickV_t, pickV_f, pickV_bool, nilS_ptr, add_eq, sub_eq, mul_eq, lss_eq, leq_eq, gtr_eq, geq_eq, not_eq, minI_eq, maxI_eq, extract_0, extract_1, extract_2, eqlI, neqI, makeFunc_eq, decide_true, decide_false, if_true, if_false, Bool.false_eq_true, Bool.not_true, Bool.not_false, reduceIte, List.getElem?_toArray, List.getElem?_cons_zero, List.getElem?_cons_succ, Option.isSome_none, List.length_map]
  unfold carrackref23_reader_act_k43
  simp only [H4.load, Int.reduceBEq, beq_self_eq_true, popO_some, bindH_eq, condV_bool, condV_true, condV_false, yV_bool, gopV_tt, gopV_ff, gopV_tf, gopV_ft, pickV_t, pickV_f, pickV_bool, nilS_ptr, add_eq, sub_eq, mul_eq, lss_eq, leq_eq, gtr_eq, geq_eq, not_eq, minI_eq, maxI_eq, extract_0, extract_1, extract_2, eqlI, neqI, makeFunc_eq, decide_true, decide_false, if_true, if_false, Bool.false_eq_true, Bool.not_true, Bool.not_false, reduceIte, List.getElem?_toArray, List.getElem?_cons_zero, List.getElem?_cons_succ, Option.isSome_none, List.length_map]
  refine one_s (st := (0, s)) hR4 hS fun h5 x1 e1 hR5 u5 => ?_
  have H5 := H4.rdUpd D u5
  have hx1 : x1.1 < 256 := by rw [e1]; exact rGet_lt _ 1
  have hg : rAct 8 (0, s) = ({ Act.zero 8 with writes := (rWr x1.1 x1.2).1 }, (rWr x1.1 x1.2).2) := by rw [e1]; rfl
  rw [hg] at hk
  refine ⟨fun vs h' => ∃ (i : Nat) (st : Stt) (l : List Wr) (v : Value) (F : List Nat), vs = [.pointer (some ⟨r1, 0, none⟩), .pointer (some ⟨r3, 0, none⟩), .pointer (some ⟨r6, 0, none⟩), .int .i64 x1.1, .int .i64 i] ∧ i ≤ x1.1 ∧ l.length = i ∧ RfAt h' a S st.1 st.2 ∧ RB h' a r1 r3 r6 { Act.zero 8 with writes := l } v ∧ OwnR h' T_api_Write 2 v (l.map Wr.cells) F ∧ Fresh h4 F ∧ Upd [a, r1, r3, r6] h4 h' ∧ rWr x1.1 x1.2 = (l ++ (rWr (x1.1 - i) st).1, (rWr (x1.1 - i) st).2), upTo x1.1 4, ⟨0, x1.2, [], _, [], rfl, by omega, rfl, hR5, H5, nilW, nilF, up1 u5 (by simp), by simp⟩, ?_⟩
  rintro ρ h' ⟨i, st, l, v, F, hvs, hi, hl, hR', H', hO, f, w, hrw⟩
  simp only [List.map_cons, List.map_nil, List.cons.injEq, and_true] at hvs
  obtain ⟨e2, e4, e5, e6, e7⟩ := hvs
  simp only [e2, e4, e5, e6, e7]
  unfold carrackref23_reader_act_b116
  have kn : ∀ b ∈ F, b ∉ [a, r1, r3, r6] := fun b hb hm => by
    have hn := f b hb
    simp only [List.mem_cons, List.not_mem_nil, or_false] at hm
    rcases hm with rfl | rfl | rfl | rfl
    · rw [hR4.here] at hn; cases hn
    · rw [H4.rd] at hn; cases hn
    · obtain ⟨c, h1, _⟩ := H4.out; rw [h1] at hn; cases hn
    · rw [H4.act.here] at hn; cases hn
  by_cases hlt : i < x1.1
  · have hd : ((i : Int) < (x1.1 : Int)) = True := by apply eq_true; omega
    simp only [hd, H'.load, popO_some, bindH_eq, condV_bool, condV_true, condV_false, yV_bool, gopV_tt, gopV_ff, gopV_tf, gopV_ft, pickV_t, pickV_f, pickV_bool, nilS_ptr, add_eq, sub_eq, mul_eq, lss_eq, leq_eq, gtr_eq, geq_eq, not_eq, minI_eq, maxI_eq, extract_0, extract_1, extract_2, eqlI, neqI, makeFunc_eq, decide_true, decide_false, if_true, if_false, Bool.false_eq_true, Bool.not_true, Bool.not_false, reduceIte, List.getElem?_toArray, List.getElem?_cons_zero, List.getElem?_cons_succ, Option.isSome_none, List.length_map]
    refine one_s hR' hS fun h6 x2 e2' hR6 u6 => ?_
    have H6 := H'.rdUpd D u6
    simp only [wr_build1, popO_some, bindH_eq, condV_bool, condV_true, condV_false, yV_bool, gopV_tt, gopV_ff, gopV_tf, gopV_ft, pickV_t, pickV_f, pickV_bool, nilS_ptr, add_eq, sub_eq, mul_eq, lss_eq, leq_eq, gtr_eq, geq_eq, not_eq, minI_eq, maxI_eq, extract_0, extract_1, extract_2, eqlI, neqI, makeFunc_eq, decide_true, decide_false, if_true, if_false, Bool.false_eq_true, Bool.not_true, Bool.not_false, reduceIte, List.getElem?_toArray, List.getElem?_cons_zero, List.getElem?_cons_succ, Option.isSome_none, List.length_map]
    intro r hr
    refine store_box set_same T_api_Write.info (by show 2 = 2; rfl) (by show 0 < 2; decide) (by rw [T_api_Write.zc]; rfl) (by intro v hv; simp [Wr.cells] at hv; rcases hv with rfl | rfl <;> rfl) ?_
    rw [set_set_same]
    have u7 : Ext h6 (h6.set r (.cells (Wr.mk ((x2.1 : Int) != 0) 0).cells.toArray T_api_Write)) := Upd.new hr
    have b7 : (h6.set r (.cells (Wr.mk ((x2.1 : Int) != 0) 0).cells.toArray T_api_Write)) r = some (.cells (Wr.mk ((x2.1 : Int) != 0) 0).cells.toArray T_api_Write (0, 0)) := set_same
    generalize h6.set r (.cells (Wr.mk ((x2.1 : Int) != 0) 0).cells.toArray T_api_Write) = h7 at *
    have H7 := H6.upd u7 (by simp) (by simp) (by simp)
    simp only [H7.load, popO_some, bindH_eq, condV_bool, condV_true, condV_false, yV_bool, gopV_tt, gopV_ff, gopV_tf, gopV_ft, pickV_t, pickV_f, pickV_bool, nilS_ptr, add_eq, sub_eq, mul_eq, lss_eq, leq_eq, gtr_eq, geq_eq, not_eq, minI_eq, maxI_eq, extract_0, extract_1, extract_2, eqlI, neqI, makeFunc_eq, decide_true, decide_false, if_true, if_false, Bool.false_eq_true, Bool.not_true, Bool.not_false, reduceIte, List.getElem?_toArray, List.getElem?_cons_zero, List.getElem?_cons_succ, Option.isSome_none, List.length_map]
    refine two_s (hR6.ext u7) hS fun h8 x3 e3' hR8 u8 => ?_
    have H8 := H7.rdUpd D u8
    have hra : r ≠ a := fun e => by subst e; rw [hR6.here] at hr; cases hr
    have b8 := u8.get b7 (by simpa using hra)
    simp only [T_api_Write.f1, Nat.zero_add, popO_some, bindH_eq, condV_bool, condV_true, condV_false, yV_bool, gopV_tt, gopV_ff, gopV_tf, gopV_ft, pickV_t, pickV_f, pickV_bool, nilS_ptr, add_eq, sub_eq, mul_eq, lss_eq, leq_eq, gtr_eq, geq_eq, not_eq, minI_eq, maxI_eq, extract_0, extract_1, extract_2, eqlI, neqI, makeFunc_eq, decide_true, decide_false, if_true, if_false, Bool.false_eq_true, Bool.not_true, Bool.not_false, reduceIte, List.getElem?_toArray, List.getElem?_cons_zero, List.getElem?_cons_succ, Option.isSome_none, List.length_map]
    refine store_cell T_int.und rfl b8 (by show 1 < 2; decide) rfl T_int.info T_int.size ?_
    have hw : (Wr.mk ((x2.1 : Int) != 0) 0).cells.toArray.setIfInBounds 1 (.int .i64 x3.1) = (Wr.mk ((x2.1 : Int) != 0) x3.1).cells.toArray := rfl
    rw [hw]
    have u9 : Upd [r] h8 (h8.set r (.cells (Wr.mk ((x2.1 : Int) != 0) x3.1).cells.toArray T_api_Write (0, 0))) := Upd.set (by simp)
    have b9 : (h8.set r (.cells (Wr.mk ((x2.1 : Int) != 0) x3.1).cells.toArray T_api_Write (0, 0))) r = some (.cells (Wr.mk ((x2.1 : Int) != 0) x3.1).cells.toArray T_api_Write (0, 0)) := set_same
    generalize h8.set r (.cells (Wr.mk ((x2.1 : Int) != 0) x3.1).cells.toArray T_api_Write (0, 0)) = h9 at *
    have hr1' : r1 ∉ [r] := by simp; intro e; subst e; rw [H6.rd] at hr; cases hr
    have hr3' : r3 ∉ [r] := by simp; intro e; subst e; obtain ⟨c, h1, _⟩ := H6.out; rw [h1] at hr; cases hr
    have hr6' : r6 ∉ [r] := by simp; intro e; subst e; rw [H6.act.here] at hr; cases hr
    have H9 := H8.upd u9 hr1' hr3' hr6'
    have hR9 := hR8.upd u9 (by simpa using hra.symm)
    simp only [T_api_Act.f6, Nat.zero_add, T_sl_api_Write.load, H9.act.field6, load_box T_api_Write.und rfl T_api_Write.info T_api_Write.size b9 rfl, wr_lit, popO_some, bindH_eq, condV_bool, condV_true, condV_false, yV_bool, gopV_tt, gopV_ff, gopV_tf, gopV_ft, pickV_t, pickV_f, pickV_bool, nilS_ptr, add_eq, sub_eq, mul_eq, lss_eq, leq_eq, gtr_eq, geq_eq, not_eq, minI_eq, maxI_eq, extract_0, extract_1, extract_2, eqlI, neqI, makeFunc_eq, decide_true, decide_false, if_true, if_false, Bool.false_eq_true, Bool.not_true, Bool.not_false, reduceIte, List.getElem?_toArray, List.getElem?_cons_zero, List.getElem?_cons_succ, Option.isSome_none, List.length_map]
    have hO6 := hO.upd u6 (fun b hb => by simp; intro e; subst e; exact kn b hb (by simp))
    have hrF : r ∉ F := fun hm => hO6.known r hm hr
    have hO9 := ((hO6.ext u7).upd u8 (fun b hb => by simp; intro e; subst e; exact kn b hb (by simp))).upd u9 (fun b hb => by simp; intro e; subst e; exact hrF hb)
    intro q hq
    refine popO_pure ?_
    refine wr_app hO9 (by omega) ⟨(x2.1 : Int) != 0, x3.1⟩ (fun v10 h10 F10 hO10 u10 k10 => ?_) hq
    have H10 := H9.upd u10 (fun hm => kn _ hm (by simp)) (fun hm => kn _ hm (by simp)) (fun hm => kn _ hm (by simp))
    have hR10 := hR9.upd u10 (fun hm => kn _ hm (by simp))
    refine H10.setW D (l ++ [⟨(x2.1 : Int) != 0, x3.1⟩]) hO10.cell fun h11 H11 u11 => ?_
    have w8 : Upd [a, r1, r3, r6] h4 h8 := ((w.trans (up1 u6 (by simp))).trans u7.upd).trans (up1 u8 (by simp))
    have hr4 : h4 r = none := by
      cases hh : h4 r with
      | none => rfl
      | some o =>
        have hnm : r ∉ [a, r1, r3, r6] := by
          simp only [List.mem_cons, List.not_mem_nil, or_false] at hr1' hr3' hr6' ⊢
          rintro (e | e | e | e)
          · exact hra e
          · exact hr1' e.symm
          · exact hr3' e.symm
          · exact hr6' e.symm
        rw [(w.trans (up1 u6 (by simp))).get hh hnm] at hr; cases hr
    have w9 : Upd [a, r1, r3, r6] h4 h9 := w8.then u9 (fun b hb => by simp at hb; subst hb; exact .inr hr4)
    have w10 : Upd [a, r1, r3, r6] h4 h10 := w9.then u10 (fun b hb => .inr (f b hb))
    have f10 : Fresh h4 F10 := fun b hb => by
      rcases k10 b hb with hm | hm
      · exact f b hm
      · cases hh : h4 b with
        | none => rfl
        | some o =>
          by_cases hba : b ∈ [a, r1, r3, r6]
          · simp only [List.mem_cons, List.not_mem_nil, or_false] at hba
            rcases hba with rfl | rfl | rfl | rfl
            · rw [hR9.here] at hm; cases hm
            · rw [H9.rd] at hm; cases hm
            · obtain ⟨c, h1, _⟩ := H9.out; rw [h1] at hm; cases hm
            · rw [H9.act.here] at hm; cases hm
          · rw [w9 b o hh hba] at hm; cases hm
    have hO11 := hO10.upd u11 (fun b hb => by simp; intro e; subst e; exact absurd (f10 b hb) (by rw [H4.act.here]; simp))
    have ei : IntKind.i64.wrap ((i : Int) + 1) = ((i + 1 : Nat) : Int) := by rw [i64_wrap (by omega) (by omega)]; omega
    rw [ei]
    refine ⟨⟨i + 1, x3.2, l ++ [⟨(x2.1 : Int) != 0, x3.1⟩], v10, F10, rfl, by omega, by simp; omega, hR10.upd u11 (by simpa using D.d6.symm), H11, hO11, f10, w10.trans (up1 u11 (by simp)), ?_⟩, by simp [upTo, e7]; omega⟩
    rw [hrw, show x1.1 - i = (x1.1 - (i + 1)) + 1 by omega, e3', e2']
    have hd2 : (((rGet st 1).1 : Int) != 0) = ((rGet st 1).1 != 0) := bne_nat _
    rw [hd2]
    simp [rWr]
  · have hd : ((i : Int) < (x1.1 : Int)) = False := by apply eq_false; omega
    simp only [hd, popO_some, bindH_eq, condV_bool, condV_true, condV_false, yV_bool, gopV_tt, gopV_ff, gopV_tf, gopV_ft, pickV_t, pickV_f, pickV_bool, nilS_ptr, add_eq, sub_eq, mul_eq, lss_eq, leq_eq, gtr_eq, geq_eq, not_eq, minI_eq, maxI_eq, extract_0, extract_1, extract_2, eqlI, neqI, makeFunc_eq, decide_true, decide_false, if_true, if_false, Bool.false_eq_true, Bool.not_true, Bool.not_false, reduceIte, List.getElem?_toArray, List.getElem?_cons_zero, List.getElem?_cons_succ, Option.isSome_none, List.length_map]
    have : x1.1 - i = 0 := by omega
    rw [this] at hrw
    simp only [rWr, List.append_nil] at hrw
    rw [hrw] at hk
    exact k29_end (wx w) hR' H' D hf hO (f.of w4) (fun hm => kn _ hm (by simp)) hk
end Go.Proofs.Ytflgnfiebgcegaa
