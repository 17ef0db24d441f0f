/- script: the document's Put tells the same. -/
import Derived.Test.YtflgnfiebgcegaaScrXX
set_option linter.unusedSimpArgs false
set_option linter.unusedVariables false
namespace Go.Proofs.Ytflgnfiebgcegaa
open Go
set_option maxRecDepth 20000
open Classical in
set_option maxHeartbeats 8000000 in
theorem RPut_ok {h : PH} {A : Act} {v : Value} (hA : ActOk A) (hv : SlR h 2 v (A.writes.map Wr.cells)) (hf : fewA A) {k : Value → PH → Prop} (hk : ∀ h', Ext h h' → k (pairV (docA A)) h') : CallsH PG id_carrackref23_Put #[.agg (A.cells v).toArray] h k := by
  obtain ⟨hd0, hd2, hd1, hn⟩ := hf
  apply carrackref23_Put.call
  unfold carrackref23_Put
  unfold docA at hk
  intro r1 hr1
  try rw [bindH_eq]
  have u1 : Ext h (h.set r1 (.cells (Value.agg (A.cells v).toArray).cells T_api_Act)) := Upd.new hr1
  have B1 : ABox (h.set r1 (.cells (Value.agg (A.cells v).toArray).cells T_api_Act)) r1 A v := ⟨set_same⟩
  generalize h.set r1 (.cells (Value.agg (A.cells v).toArray).cells T_api_Act) = h1 at *
  simp only [T_api_Act.f0, T_int.load, B1.kind, popO_some, bindH_eq, condV_bool, condV_true, condV_false, yV_bool, gopV_tt, gopV_ff, gopV_tf, gopV_ft, pickV_t, pickV_f, pickV_bool, nilS_ptr, add_eq, sub_eq, mul_eq, lss_eq, leq_eq, gtr_eq, geq_eq, not_eq, minI_eq, maxI_eq, extract_0, extract_1, extract_2, eqlI, neqI, makeFunc_eq, decide_true, decide_false, if_true, if_false, Bool.false_eq_true, Bool.not_true, Bool.not_false, reduceIte, List.getElem?_toArray, List.getElem?_cons_zero, List.getElem?_cons_succ, Option.isSome_none, List.length_map]
  by_cases q0 : A.kind < 0
  · rw [if_pos (.inl q0)] at hk
    simp only [q0, T_api_Act.f0, T_int.load, B1.kind, popO_some, bindH_eq, condV_bool, condV_true, condV_false, yV_bool, gopV_tt, gopV_ff, gopV_tf, gopV_ft, pickV_t, pickV_f, pickV_bool, nilS_ptr, add_eq, sub_eq, mul_eq, lss_eq, leq_eq, gtr_eq, geq_eq, not_eq, minI_eq, maxI_eq, extract_0, extract_1, extract_2, eqlI, neqI, makeFunc_eq, decide_true, decide_false, if_true, if_false, Bool.false_eq_true, Bool.not_true, Bool.not_false, reduceIte, List.getElem?_toArray, List.getElem?_cons_zero, List.getElem?_cons_succ, Option.isSome_none, List.length_map]
    exact hk _ u1
  by_cases q9 : 8 < A.kind
  · rw [if_pos (.inr (.inl q9))] at hk
    simp only [q0, q9, T_api_Act.f0, T_int.load, B1.kind, popO_some, bindH_eq, condV_bool, condV_true, condV_false, yV_bool, gopV_tt, gopV_ff, gopV_tf, gopV_ft, pickV_t, pickV_f, pickV_bool, nilS_ptr, add_eq, sub_eq, mul_eq, lss_eq, leq_eq, gtr_eq, geq_eq, not_eq, minI_eq, maxI_eq, extract_0, extract_1, extract_2, eqlI, neqI, makeFunc_eq, decide_true, decide_false, if_true, if_false, Bool.false_eq_true, Bool.not_true, Bool.not_false, reduceIte, List.getElem?_toArray, List.getElem?_cons_zero, List.getElem?_cons_succ, Option.isSome_none, List.length_map]
    exact hk _ u1
  obtain ⟨K, hK⟩ : ∃ K : Nat, A.kind = K := ⟨A.kind.toNat, by omega⟩
  have hK9 : K < 9 := by omega
  have hKn : A.kind.toNat = K := by omega
  simp only [q0, q9, T_api_Act.f0, T_int.load, B1.kind, B1.load, popO_some, bindH_eq, condV_bool, condV_true, condV_false, yV_bool, gopV_tt, gopV_ff, gopV_tf, gopV_ft, pickV_t, pickV_f, pickV_bool, nilS_ptr, add_eq, sub_eq, mul_eq, lss_eq, leq_eq, gtr_eq, geq_eq, not_eq, minI_eq, maxI_eq, extract_0, extract_1, extract_2, eqlI, neqI, makeFunc_eq, decide_true, decide_false, if_true, if_false, Bool.false_eq_true, Bool.not_true, Bool.not_false, reduceIte, List.getElem?_toArray, List.getElem?_cons_zero, List.getElem?_cons_succ, Option.isSome_none, List.length_map]
  refine rest_ok hK9 hK (hv.ext u1) fun h2 b hb u2 => ?_
  have B2 := B1.ext u2
  cases b with
  | false =>
    have qs : A ≠ onlyA A := fun e => by have := hb.2 e; cases this
    rw [if_pos (.inr (.inr qs))] at hk
    simp only [popO_some, bindH_eq, condV_bool, condV_true, condV_false, yV_bool, gopV_tt, gopV_ff, gopV_tf, gopV_ft, pickV_t, pickV_f, pickV_bool, nilS_ptr, add_eq, sub_eq, mul_eq, lss_eq, leq_eq, gtr_eq, geq_eq, not_eq, minI_eq, maxI_eq, extract_0, extract_1, extract_2, eqlI, neqI, makeFunc_eq, decide_true, decide_false, if_true, if_false, Bool.false_eq_true, Bool.not_true, Bool.not_false, reduceIte, List.getElem?_toArray, List.getElem?_cons_zero, List.getElem?_cons_succ, Option.isSome_none, List.length_map]
    exact hk _ (u1.trans u2)
  | true =>
  have qs := hb.1 rfl
  rw [if_neg (fun hh => hh.elim q0 fun hh => hh.elim q9 fun hh => hh qs), hKn] at hk
  simp only [T_api_Act.f0, T_int.load, B2.kind, popO_some, bindH_eq, condV_bool, condV_true, condV_false, yV_bool, gopV_tt, gopV_ff, gopV_tf, gopV_ft, pickV_t, pickV_f, pickV_bool, nilS_ptr, add_eq, sub_eq, mul_eq, lss_eq, leq_eq, gtr_eq, geq_eq, not_eq, minI_eq, maxI_eq, extract_0, extract_1, extract_2, eqlI, neqI, makeFunc_eq, decide_true, decide_false, if_true, if_false, Bool.false_eq_true, Bool.not_true, Bool.not_false, reduceIte, List.getElem?_toArray, List.getElem?_cons_zero, List.getElem?_cons_succ, Option.isSome_none, List.length_map]
  refine nb1_ok fun h3 u3 => ?_
  have B3 := B2.ext u3
  simp only [T_api_Act.f5, T_api_Message.f3, Nat.zero_add, Nat.reduceAdd, B3.msg, B3.pkt, popO_some, bindH_eq, condV_bool, condV_true, condV_false, yV_bool, gopV_tt, gopV_ff, gopV_tf, gopV_ft, pickV_t, pickV_f, pickV_bool, nilS_ptr, add_eq, sub_eq, mul_eq, lss_eq, leq_eq, gtr_eq, geq_eq, not_eq, minI_eq, maxI_eq, extract_0, extract_1, extract_2, eqlI, neqI, makeFunc_eq, decide_true, decide_false, if_true, if_false, Bool.false_eq_true, Bool.not_true, Bool.not_false, reduceIte, List.getElem?_toArray, List.getElem?_cons_zero, List.getElem?_cons_succ, Option.isSome_none, List.length_map]
  intro rm hrm
  try rw [bindH_eq]
  have u4 : Ext h3 (h3.set rm (.cells (zcells PG T_api_Message) T_api_Message)) := Upd.new hrm
  have b4 : (h3.set rm (.cells (zcells PG T_api_Message) T_api_Message)) rm = some (.cells (zcells PG T_api_Message) T_api_Message (0, 0)) := set_same
  have o1m : r1 ≠ rm := fun e => by subst e; rw [B3.here] at hrm; cases hrm
  generalize h3.set rm (.cells (zcells PG T_api_Message) T_api_Message) = h4 at *
  intro rp hrp
  try rw [bindH_eq]
  have u5 : Ext h4 (h4.set rp (.cells (zcells PG T_api_Packet) T_api_Packet)) := Upd.new hrp
  have b5 : (h4.set rp (.cells (zcells PG T_api_Packet) T_api_Packet)) rp = some (.cells (zcells PG T_api_Packet) T_api_Packet (0, 0)) := set_same
  have o1p : r1 ≠ rp := fun e => by subst e; rw [(B3.ext u4).here] at hrp; cases hrp
  have opm : rp ≠ rm := fun e => by subst e; rw [b4] at hrp; cases hrp
  generalize h4.set rp (.cells (zcells PG T_api_Packet) T_api_Packet) = h5 at *
  have w5 : Ext h h5 := (((u1.trans u2).trans u3).trans u4).trans u5
  have fm : Fresh h [rm] := Fresh.one (((u1.trans u2).trans u3).none hrm)
  have fp : Fresh h [rp] := Fresh.one ((((u1.trans u2).trans u3).trans u4).none hrp)
  have B5 := (B3.ext u4).ext u5
  refine store_box (u5.get b4) T_api_Message.info (by show 8 = 8; rfl) (by show 0 < 8; decide) (by rw [T_api_Message.zc]; rfl) A.msg.allCell ?_
  have u6 : Upd [rm] h5 (h5.set rm (.cells A.msg.cells.toArray T_api_Message (0, 0))) := Upd.set (by simp)
  have b6 : (h5.set rm (.cells A.msg.cells.toArray T_api_Message (0, 0))) rm = some (.cells A.msg.cells.toArray T_api_Message (0, 0)) := set_same
  generalize h5.set rm (.cells A.msg.cells.toArray T_api_Message (0, 0)) = h6 at *
  have B6 := B5.upd u6 (by simpa using o1m)
  refine ⟨B6.pkt, ?_⟩
  refine store_box (u6.get b5 (by simpa using opm)) T_api_Packet.info (by show 4 = 4; rfl) (by show 0 < 4; decide) (by rw [T_api_Packet.zc]; rfl) A.msg.pktOk ?_
  have u7 : Upd [rp] h6 (h6.set rp (.cells A.msg.pkt.toArray T_api_Packet (0, 0))) := Upd.set (by simp)
  have b7 : (h6.set rp (.cells A.msg.pkt.toArray T_api_Packet (0, 0))) rp = some (.cells A.msg.pkt.toArray T_api_Packet (0, 0)) := set_same
  generalize h6.set rp (.cells A.msg.pkt.toArray T_api_Packet (0, 0)) = h7 at *
  have B := B6.upd u7 (by simpa using o1p)
  have M : MB h7 [] rm rp A.msg := ⟨u7.get b6 (by simpa using opm.symm), b7, by simp, by simp⟩
  have w : Ext h h7 := (w5.fresh u6 fm).fresh u7 fp
  have fin : PEnd h K A k := by
    intro h' ok out hok e w'
    refine k89_ok ?_
    have := hk h' w'
    cases ok with
    | true => rw [if_pos (hok.1 rfl), ← e] at this; exact this
    | false => rw [if_neg (fun hh => by have := hok.2 hh; cases this)] at this; exact this
  simp only [T_api_Act.f0, Nat.zero_add, T_int.load, B.kind, popO_some, bindH_eq, condV_bool, condV_true, condV_false, yV_bool, gopV_tt, gopV_ff, gopV_tf, gopV_ft, pickV_t, pickV_f, pickV_bool, nilS_ptr, add_eq, sub_eq, mul_eq, lss_eq, leq_eq, gtr_eq, geq_eq, not_eq, minI_eq, maxI_eq, extract_0, extract_1, extract_2, eqlI, neqI, makeFunc_eq, decide_true, decide_false, if_true, if_false, Bool.false_eq_true, Bool.not_true, Bool.not_false, reduceIte, List.getElem?_toArray, List.getElem?_cons_zero, List.getElem?_cons_succ, Option.isSome_none, List.length_map]
  have : K = 0 ∨ K = 1 ∨ K = 2 ∨ K = 3 ∨ K = 4 ∨ K = 5 ∨ K = 6 ∨ K = 7 ∨ K = 8 := by omega
  rcases this with rfl | rfl | rfl | rfl | rfl | rfl | rfl | rfl | rfl
  · have hA' : A.kind = 0 := hK
    have e0 : (A.kind == 0) = true := by rw [hA']; rfl
    simp only [e0, T_api_Act.f1, T_api_Act.f2, T_api_Act.f3, Nat.zero_add, T_int.load, T_uint64.load, T_string.load, B.c1, B.c2, B.c3, T_string.len, tx_size, Int.reduceBEq, beq_self_eq_true, popO_some, bindH_eq, condV_bool, condV_true, condV_false, yV_bool, gopV_tt, gopV_ff, gopV_tf, gopV_ft, pickV_t, pickV_f, pickV_bool, nilS_ptr, add_eq, sub_eq, mul_eq, lss_eq, leq_eq, gtr_eq, geq_eq, not_eq, minI_eq, maxI_eq, extract_0, extract_1, extract_2, eqlI, neqI, makeFunc_eq, decide_true, decide_false, if_true, if_false, Bool.false_eq_true, Bool.not_true, Bool.not_false, reduceIte, List.getElem?_toArray, List.getElem?_cons_zero, List.getElem?_cons_succ, Option.isSome_none, List.length_map]
    refine fits1_ok fun b hb => ?_
    cases b with
    | false =>
      have hok : (false = true ↔ rOk 0 A) := ⟨fun e => (by cases e), fun e => hb.2 ((fun e => e.1 : rOk 0 A → _) e)⟩
      simp only [T_api_Act.f1, T_api_Act.f2, T_api_Act.f3, Nat.zero_add, T_int.load, T_uint64.load, T_string.load, B.c1, B.c2, B.c3, T_string.len, tx_size, Int.reduceBEq, beq_self_eq_true, popO_some, bindH_eq, condV_bool, condV_true, condV_false, yV_bool, gopV_tt, gopV_ff, gopV_tf, gopV_ft, pickV_t, pickV_f, pickV_bool, nilS_ptr, add_eq, sub_eq, mul_eq, lss_eq, leq_eq, gtr_eq, geq_eq, not_eq, minI_eq, maxI_eq, extract_0, extract_1, extract_2, eqlI, neqI, makeFunc_eq, decide_true, decide_false, if_true, if_false, Bool.false_eq_true, Bool.not_true, Bool.not_false, reduceIte, List.getElem?_toArray, List.getElem?_cons_zero, List.getElem?_cons_succ, Option.isSome_none, List.length_map]
      refine nb1_ok fun g0 y0 => ?_
      have B0' := B.ext y0
      refine ⟨by simp only [T_string.load, B0'.c3], by simp only [T_uint64.load, B0'.c2], ?_⟩
      simp only [cat_tx (a := nb A.kind 1) (b := nb A.chain 1) (by simp only [List.length_append, nb_len, be_len]; omega) (by rw [nb_len]; omega), popO_some, bindH_eq, condV_bool, condV_true, condV_false, yV_bool, gopV_tt, gopV_ff, gopV_tf, gopV_ft, pickV_t, pickV_f, pickV_bool, nilS_ptr, add_eq, sub_eq, mul_eq, lss_eq, leq_eq, gtr_eq, geq_eq, not_eq, minI_eq, maxI_eq, extract_0, extract_1, extract_2, eqlI, neqI, makeFunc_eq, decide_true, decide_false, if_true, if_false, Bool.false_eq_true, Bool.not_true, Bool.not_false, reduceIte, List.getElem?_toArray, List.getElem?_cons_zero, List.getElem?_cons_succ, Option.isSome_none, List.length_map]
      refine be8_ok hA.to fun g1 y1 => ?_
      have B1' := B0'.ext y1
      refine ⟨by simp only [T_string.load, B1'.c3], ?_⟩
      simp only [cat_tx (a := nb A.kind 1 ++ nb A.chain 1) (b := be A.timeout 8) (by simp only [List.length_append, nb_len, be_len]; omega) (by rw [be_len]; omega), popO_some, bindH_eq, condV_bool, condV_true, condV_false, yV_bool, gopV_tt, gopV_ff, gopV_tf, gopV_ft, pickV_t, pickV_f, pickV_bool, nilS_ptr, add_eq, sub_eq, mul_eq, lss_eq, leq_eq, gtr_eq, geq_eq, not_eq, minI_eq, maxI_eq, extract_0, extract_1, extract_2, eqlI, neqI, makeFunc_eq, decide_true, decide_false, if_true, if_false, Bool.false_eq_true, Bool.not_true, Bool.not_false, reduceIte, List.getElem?_toArray, List.getElem?_cons_zero, List.getElem?_cons_succ, Option.isSome_none, List.length_map]
      refine text23_ok (by omega) fun g2 y2 => ?_
      have B2' := B1'.ext y2
      simp only [cat_tx (a := nb A.kind 1 ++ nb A.chain 1 ++ be A.timeout 8) (b := (be A.data.length 2 ++ A.data)) (by simp only [List.length_append, nb_len, be_len]; omega) (by rw [List.length_append, be_len]; omega), popO_some, bindH_eq, condV_bool, condV_true, condV_false, yV_bool, gopV_tt, gopV_ff, gopV_tf, gopV_ft, pickV_t, pickV_f, pickV_bool, nilS_ptr, add_eq, sub_eq, mul_eq, lss_eq, leq_eq, gtr_eq, geq_eq, not_eq, minI_eq, maxI_eq, extract_0, extract_1, extract_2, eqlI, neqI, makeFunc_eq, decide_true, decide_false, if_true, if_false, Bool.false_eq_true, Bool.not_true, Bool.not_false, reduceIte, List.getElem?_toArray, List.getElem?_cons_zero, List.getElem?_cons_succ, Option.isSome_none, List.length_map]
      exact fin g2 false _ hok (by simp only [rOut, List.append_assoc]) (w.trans (y0.trans (y1.trans y2)))
    | true =>
      have pc := hb.1 rfl
      by_cases pd : A.data.length ≤ 65535
      · have qd : ((A.data.length : Int) ≤ 65535) = True := by apply eq_true; omega
        have hok : (true = true ↔ rOk 0 A) := ⟨fun _ => ⟨pc, pd⟩, fun _ => rfl⟩
        simp only [T_api_Act.f1, T_api_Act.f2, T_api_Act.f3, Nat.zero_add, T_int.load, T_uint64.load, T_string.load, B.c1, B.c2, B.c3, T_string.len, tx_size, Int.reduceBEq, beq_self_eq_true, qd, popO_some, bindH_eq, condV_bool, condV_true, condV_false, yV_bool, gopV_tt, gopV_ff, gopV_tf, gopV_ft, pickV_t, pickV_f, pickV_bool, nilS_ptr, add_eq, sub_eq, mul_eq, lss_eq, leq_eq, gtr_eq, geq_eq, not_eq, minI_eq, maxI_eq, extract_0, extract_1, extract_2, eqlI, neqI, makeFunc_eq, decide_true, decide_false, if_true, if_false, Bool.false_eq_true, Bool.not_true, Bool.not_false, reduceIte, List.getElem?_toArray, List.getElem?_cons_zero, List.getElem?_cons_succ, Option.isSome_none, List.length_map]
        refine nb1_ok fun g0 y0 => ?_
        have B0' := B.ext y0
        refine ⟨by simp only [T_string.load, B0'.c3], by simp only [T_uint64.load, B0'.c2], ?_⟩
        simp only [cat_tx (a := nb A.kind 1) (b := nb A.chain 1) (by simp only [List.length_append, nb_len, be_len]; omega) (by rw [nb_len]; omega), popO_some, bindH_eq, condV_bool, condV_true, condV_false, yV_bool, gopV_tt, gopV_ff, gopV_tf, gopV_ft, pickV_t, pickV_f, pickV_bool, nilS_ptr, add_eq, sub_eq, mul_eq, lss_eq, leq_eq, gtr_eq, geq_eq, not_eq, minI_eq, maxI_eq, extract_0, extract_1, extract_2, eqlI, neqI, makeFunc_eq, decide_true, decide_false, if_true, if_false, Bool.false_eq_true, Bool.not_true, Bool.not_false, reduceIte, List.getElem?_toArray, List.getElem?_cons_zero, List.getElem?_cons_succ, Option.isSome_none, List.length_map]
        refine be8_ok hA.to fun g1 y1 => ?_
        have B1' := B0'.ext y1
        refine ⟨by simp only [T_string.load, B1'.c3], ?_⟩
        simp only [cat_tx (a := nb A.kind 1 ++ nb A.chain 1) (b := be A.timeout 8) (by simp only [List.length_append, nb_len, be_len]; omega) (by rw [be_len]; omega), popO_some, bindH_eq, condV_bool, condV_true, condV_false, yV_bool, gopV_tt, gopV_ff, gopV_tf, gopV_ft, pickV_t, pickV_f, pickV_bool, nilS_ptr, add_eq, sub_eq, mul_eq, lss_eq, leq_eq, gtr_eq, geq_eq, not_eq, minI_eq, maxI_eq, extract_0, extract_1, extract_2, eqlI, neqI, makeFunc_eq, decide_true, decide_false, if_true, if_false, Bool.false_eq_true, Bool.not_true, Bool.not_false, reduceIte, List.getElem?_toArray, List.getElem?_cons_zero, List.getElem?_cons_succ, Option.isSome_none, List.length_map]
        refine text23_ok (by omega) fun g2 y2 => ?_
        have B2' := B1'.ext y2
        simp only [cat_tx (a := nb A.kind 1 ++ nb A.chain 1 ++ be A.timeout 8) (b := (be A.data.length 2 ++ A.data)) (by simp only [List.length_append, nb_len, be_len]; omega) (by rw [List.length_append, be_len]; omega), popO_some, bindH_eq, condV_bool, condV_true, condV_false, yV_bool, gopV_tt, gopV_ff, gopV_tf, gopV_ft, pickV_t, pickV_f, pickV_bool, nilS_ptr, add_eq, sub_eq, mul_eq, lss_eq, leq_eq, gtr_eq, geq_eq, not_eq, minI_eq, maxI_eq, extract_0, extract_1, extract_2, eqlI, neqI, makeFunc_eq, decide_true, decide_false, if_true, if_false, Bool.false_eq_true, Bool.not_true, Bool.not_false, reduceIte, List.getElem?_toArray, List.getElem?_cons_zero, List.getElem?_cons_succ, Option.isSome_none, List.length_map]
        exact fin g2 true _ hok (by simp only [rOut, List.append_assoc]) (w.trans (y0.trans (y1.trans y2)))
      · have qd : ((A.data.length : Int) ≤ 65535) = False := by apply eq_false; omega
        have hok : (false = true ↔ rOk 0 A) := ⟨fun e => (by cases e), fun e => absurd ((fun e => e.2 : rOk 0 A → _) e) pd⟩
        simp only [T_api_Act.f1, T_api_Act.f2, T_api_Act.f3, Nat.zero_add, T_int.load, T_uint64.load, T_string.load, B.c1, B.c2, B.c3, T_string.len, tx_size, Int.reduceBEq, beq_self_eq_true, qd, popO_some, bindH_eq, condV_bool, condV_true, condV_false, yV_bool, gopV_tt, gopV_ff, gopV_tf, gopV_ft, pickV_t, pickV_f, pickV_bool, nilS_ptr, add_eq, sub_eq, mul_eq, lss_eq, leq_eq, gtr_eq, geq_eq, not_eq, minI_eq, maxI_eq, extract_0, extract_1, extract_2, eqlI, neqI, makeFunc_eq, decide_true, decide_false, if_true, if_false, Bool.false_eq_true, Bool.not_true, Bool.not_false, reduceIte, List.getElem?_toArray, List.getElem?_cons_zero, List.getElem?_cons_succ, Option.isSome_none, List.length_map]
        refine nb1_ok fun g0 y0 => ?_
        have B0' := B.ext y0
        refine ⟨by simp only [T_string.load, B0'.c3], by simp only [T_uint64.load, B0'.c2], ?_⟩
        simp only [cat_tx (a := nb A.kind 1) (b := nb A.chain 1) (by simp only [List.length_append, nb_len, be_len]; omega) (by rw [nb_len]; omega), popO_some, bindH_eq, condV_bool, condV_true, condV_false, yV_bool, gopV_tt, gopV_ff, gopV_tf, gopV_ft, pickV_t, pickV_f, pickV_bool, nilS_ptr, add_eq, sub_eq, mul_eq, lss_eq, leq_eq, gtr_eq, geq_eq, not_eq, minI_eq, maxI_eq, extract_0, extract_1, extract_2, eqlI, neqI, makeFunc_eq, decide_true, decide_false, if_true, if_false, Bool.false_eq_true, Bool.not_true, Bool.not_false, reduceIte, List.getElem?_toArray, List.getElem?_cons_zero, List.getElem?_cons_succ, Option.isSome_none, List.length_map]
        refine be8_ok hA.to fun g1 y1 => ?_
        have B1' := B0'.ext y1
        refine ⟨by simp only [T_string.load, B1'.c3], ?_⟩
        simp only [cat_tx (a := nb A.kind 1 ++ nb A.chain 1) (b := be A.timeout 8) (by simp only [List.length_append, nb_len, be_len]; omega) (by rw [be_len]; omega), popO_some, bindH_eq, condV_bool, condV_true, condV_false, yV_bool, gopV_tt, gopV_ff, gopV_tf, gopV_ft, pickV_t, pickV_f, pickV_bool, nilS_ptr, add_eq, sub_eq, mul_eq, lss_eq, leq_eq, gtr_eq, geq_eq, not_eq, minI_eq, maxI_eq, extract_0, extract_1, extract_2, eqlI, neqI, makeFunc_eq, decide_true, decide_false, if_true, if_false, Bool.false_eq_true, Bool.not_true, Bool.not_false, reduceIte, List.getElem?_toArray, List.getElem?_cons_zero, List.getElem?_cons_succ, Option.isSome_none, List.length_map]
        refine text23_ok (by omega) fun g2 y2 => ?_
        have B2' := B1'.ext y2
        simp only [cat_tx (a := nb A.kind 1 ++ nb A.chain 1 ++ be A.timeout 8) (b := (be A.data.length 2 ++ A.data)) (by simp only [List.length_append, nb_len, be_len]; omega) (by rw [List.length_append, be_len]; omega), popO_some, bindH_eq, condV_bool, condV_true, condV_false, yV_bool, gopV_tt, gopV_ff, gopV_tf, gopV_ft, pickV_t, pickV_f, pickV_bool, nilS_ptr, add_eq, sub_eq, mul_eq, lss_eq, leq_eq, gtr_eq, geq_eq, not_eq, minI_eq, maxI_eq, extract_0, extract_1, extract_2, eqlI, neqI, makeFunc_eq, decide_true, decide_false, if_true, if_false, Bool.false_eq_true, Bool.not_true, Bool.not_false, reduceIte, List.getElem?_toArray, List.getElem?_cons_zero, List.getElem?_cons_succ, Option.isSome_none, List.length_map]
        exact fin g2 false _ hok (by simp only [rOut, List.append_assoc]) (w.trans (y0.trans (y1.trans y2)))
  · have hA' : A.kind = 1 := hK
    have e0 : (A.kind == 0) = false := by rw [hA']; rfl
    have e1 : (A.kind == 1) = true := by rw [hA']; rfl
    have e2 : (A.kind == 2) = false := by rw [hA']; rfl
    have e3 : (A.kind == 3) = false := by rw [hA']; rfl
    have e4 : (A.kind == 4) = false := by rw [hA']; rfl
    have e5 : (A.kind == 5) = false := by rw [hA']; rfl
    have e6 : (A.kind == 6) = false := by rw [hA']; rfl
    have e7 : (A.kind == 7) = false := by rw [hA']; rfl
    have e8 : (A.kind == 8) = false := by rw [hA']; rfl
    simp only [e0, e1, e2, e3, e4, e5, e6, e7, e8, T_api_Act.f1, T_api_Act.f2, T_api_Act.f3, Nat.zero_add, T_int.load, T_uint64.load, T_string.load, B.c1, B.c2, B.c3, T_string.len, tx_size, Int.reduceBEq, beq_self_eq_true, popO_some, bindH_eq, condV_bool, condV_true, condV_false, yV_bool, gopV_tt, gopV_ff, gopV_tf, gopV_ft, pickV_t, pickV_f, pickV_bool, nilS_ptr, add_eq, sub_eq, mul_eq, lss_eq, leq_eq, gtr_eq, geq_eq, not_eq, minI_eq, maxI_eq, extract_0, extract_1, extract_2, eqlI, neqI, makeFunc_eq, decide_true, decide_false, if_true, if_false, Bool.false_eq_true, Bool.not_true, Bool.not_false, reduceIte, List.getElem?_toArray, List.getElem?_cons_zero, List.getElem?_cons_succ, Option.isSome_none, List.length_map]
    refine fits1_ok fun b hb => ?_
    simp only [T_api_Act.f1, T_api_Act.f2, T_api_Act.f3, Nat.zero_add, T_int.load, T_uint64.load, T_string.load, B.c1, B.c2, B.c3, T_string.len, tx_size, Int.reduceBEq, beq_self_eq_true, popO_some, bindH_eq, condV_bool, condV_true, condV_false, yV_bool, gopV_tt, gopV_ff, gopV_tf, gopV_ft, pickV_t, pickV_f, pickV_bool, nilS_ptr, add_eq, sub_eq, mul_eq, lss_eq, leq_eq, gtr_eq, geq_eq, not_eq, minI_eq, maxI_eq, extract_0, extract_1, extract_2, eqlI, neqI, makeFunc_eq, decide_true, decide_false, if_true, if_false, Bool.false_eq_true, Bool.not_true, Bool.not_false, reduceIte, List.getElem?_toArray, List.getElem?_cons_zero, List.getElem?_cons_succ, Option.isSome_none, List.length_map]
    refine nb1_ok fun g0 y0 => ?_
    simp only [cat_tx (a := nb A.kind 1) (b := nb A.chain 1) (by rw [nb_len]; omega) (by rw [nb_len]; omega), popO_some, bindH_eq, condV_bool, condV_true, condV_false, yV_bool, gopV_tt, gopV_ff, gopV_tf, gopV_ft, pickV_t, pickV_f, pickV_bool, nilS_ptr, add_eq, sub_eq, mul_eq, lss_eq, leq_eq, gtr_eq, geq_eq, not_eq, minI_eq, maxI_eq, extract_0, extract_1, extract_2, eqlI, neqI, makeFunc_eq, decide_true, decide_false, if_true, if_false, Bool.false_eq_true, Bool.not_true, Bool.not_false, reduceIte, List.getElem?_toArray, List.getElem?_cons_zero, List.getElem?_cons_succ, Option.isSome_none, List.length_map]
    exact fin g0 b _ hb rfl (w.trans y0)
  · have hA' : A.kind = 2 := hK
    have e0 : (A.kind == 0) = false := by rw [hA']; rfl
    have e1 : (A.kind == 1) = false := by rw [hA']; rfl
    have e2 : (A.kind == 2) = true := by rw [hA']; rfl
    have e3 : (A.kind == 3) = false := by rw [hA']; rfl
    have e4 : (A.kind == 4) = false := by rw [hA']; rfl
    have e5 : (A.kind == 5) = false := by rw [hA']; rfl
    have e6 : (A.kind == 6) = false := by rw [hA']; rfl
    have e7 : (A.kind == 7) = false := by rw [hA']; rfl
    have e8 : (A.kind == 8) = false := by rw [hA']; rfl
    simp only [e0, e1, e2, e3, e4, e5, e6, e7, e8, popO_some, bindH_eq, condV_bool, condV_true, condV_false, yV_bool, gopV_tt, gopV_ff, gopV_tf, gopV_ft, pickV_t, pickV_f, pickV_bool, nilS_ptr, add_eq, sub_eq, mul_eq, lss_eq, leq_eq, gtr_eq, geq_eq, not_eq, minI_eq, maxI_eq, extract_0, extract_1, extract_2, eqlI, neqI, makeFunc_eq, decide_true, decide_false, if_true, if_false, Bool.false_eq_true, Bool.not_true, Bool.not_false, reduceIte, List.getElem?_toArray, List.getElem?_cons_zero, List.getElem?_cons_succ, Option.isSome_none, List.length_map]
    unfold carrackref23_Put_k103
    simp only [e0, e1, e2, e3, e4, e5, e6, e7, e8, popO_some, bindH_eq, condV_bool, condV_true, condV_false, yV_bool, gopV_tt, gopV_ff, gopV_tf, gopV_ft, pickV_t, pickV_f, pickV_bool, nilS_ptr, add_eq, sub_eq, mul_eq, lss_eq, leq_eq, gtr_eq, geq_eq, not_eq, minI_eq, maxI_eq, extract_0, extract_1, extract_2, eqlI, neqI, makeFunc_eq, decide_true, decide_false, if_true, if_false, Bool.false_eq_true, Bool.not_true, Bool.not_false, reduceIte, List.getElem?_toArray, List.getElem?_cons_zero, List.getElem?_cons_succ, Option.isSome_none, List.length_map]
    exact fin h7 true _ (by simp [rOk]) (by simp [rOut]) w
  · have hA' : A.kind = 3 := hK
    have e0 : (A.kind == 0) = false := by rw [hA']; rfl
    have e1 : (A.kind == 1) = false := by rw [hA']; rfl
    have e2 : (A.kind == 2) = false := by rw [hA']; rfl
    have e3 : (A.kind == 3) = true := by rw [hA']; rfl
    have e4 : (A.kind == 4) = false := by rw [hA']; rfl
    have e5 : (A.kind == 5) = false := by rw [hA']; rfl
    have e6 : (A.kind == 6) = false := by rw [hA']; rfl
    have e7 : (A.kind == 7) = false := by rw [hA']; rfl
    have e8 : (A.kind == 8) = false := by rw [hA']; rfl
    simp only [e0, e1, e2, e3, e4, e5, e6, e7, e8, popO_some, bindH_eq, condV_bool, condV_true, condV_false, yV_bool, gopV_tt, gopV_ff, gopV_tf, gopV_ft, pickV_t, pickV_f, pickV_bool, nilS_ptr, add_eq, sub_eq, mul_eq, lss_eq, leq_eq, gtr_eq, geq_eq, not_eq, minI_eq, maxI_eq, extract_0, extract_1, extract_2, eqlI, neqI, makeFunc_eq, decide_true, decide_false, if_true, if_false, Bool.false_eq_true, Bool.not_true, Bool.not_false, reduceIte, List.getElem?_toArray, List.getElem?_cons_zero, List.getElem?_cons_succ, Option.isSome_none, List.length_map]
    exact k103_N (by simp) B w fin
  · have hA' : A.kind = 4 := hK
    have e0 : (A.kind == 0) = false := by rw [hA']; rfl
    have e1 : (A.kind == 1) = false := by rw [hA']; rfl
    have e2 : (A.kind == 2) = false := by rw [hA']; rfl
    have e3 : (A.kind == 3) = false := by rw [hA']; rfl
    have e4 : (A.kind == 4) = true := by rw [hA']; rfl
    have e5 : (A.kind == 5) = false := by rw [hA']; rfl
    have e6 : (A.kind == 6) = false := by rw [hA']; rfl
    have e7 : (A.kind == 7) = false := by rw [hA']; rfl
    have e8 : (A.kind == 8) = false := by rw [hA']; rfl
    simp only [e0, e1, e2, e3, e4, e5, e6, e7, e8, popO_some, bindH_eq, condV_bool, condV_true, condV_false, yV_bool, gopV_tt, gopV_ff, gopV_tf, gopV_ft, pickV_t, pickV_f, pickV_bool, nilS_ptr, add_eq, sub_eq, mul_eq, lss_eq, leq_eq, gtr_eq, geq_eq, not_eq, minI_eq, maxI_eq, extract_0, extract_1, extract_2, eqlI, neqI, makeFunc_eq, decide_true, decide_false, if_true, if_false, Bool.false_eq_true, Bool.not_true, Bool.not_false, reduceIte, List.getElem?_toArray, List.getElem?_cons_zero, List.getElem?_cons_succ, Option.isSome_none, List.length_map]
    exact k103_N (by simp) B w fin
  · have hA' : A.kind = 5 := hK
    have e0 : (A.kind == 0) = false := by rw [hA']; rfl
    have e1 : (A.kind == 1) = false := by rw [hA']; rfl
    have e2 : (A.kind == 2) = false := by rw [hA']; rfl
    have e3 : (A.kind == 3) = false := by rw [hA']; rfl
    have e4 : (A.kind == 4) = false := by rw [hA']; rfl
    have e5 : (A.kind == 5) = true := by rw [hA']; rfl
    have e6 : (A.kind == 6) = false := by rw [hA']; rfl
    have e7 : (A.kind == 7) = false := by rw [hA']; rfl
    have e8 : (A.kind == 8) = false := by rw [hA']; rfl
    simp only [e0, e1, e2, e3, e4, e5, e6, e7, e8, popO_some, bindH_eq, condV_bool, condV_true, condV_false, yV_bool, gopV_tt, gopV_ff, gopV_tf, gopV_ft, pickV_t, pickV_f, pickV_bool, nilS_ptr, add_eq, sub_eq, mul_eq, lss_eq, leq_eq, gtr_eq, geq_eq, not_eq, minI_eq, maxI_eq, extract_0, extract_1, extract_2, eqlI, neqI, makeFunc_eq, decide_true, decide_false, if_true, if_false, Bool.false_eq_true, Bool.not_true, Bool.not_false, reduceIte, List.getElem?_toArray, List.getElem?_cons_zero, List.getElem?_cons_succ, Option.isSome_none, List.length_map]
    exact k103_N (by simp) B w fin
  · have hA' : A.kind = 6 := hK
    have e0 : (A.kind == 0) = false := by rw [hA']; rfl
    have e1 : (A.kind == 1) = false := by rw [hA']; rfl
    have e2 : (A.kind == 2) = false := by rw [hA']; rfl
    have e3 : (A.kind == 3) = false := by rw [hA']; rfl
    have e4 : (A.kind == 4) = false := by rw [hA']; rfl
    have e5 : (A.kind == 5) = false := by rw [hA']; rfl
    have e6 : (A.kind == 6) = true := by rw [hA']; rfl
    have e7 : (A.kind == 7) = false := by rw [hA']; rfl
    have e8 : (A.kind == 8) = false := by rw [hA']; rfl
    simp only [e0, e1, e2, e3, e4, e5, e6, e7, e8, popO_some, bindH_eq, condV_bool, condV_true, condV_false, yV_bool, gopV_tt, gopV_ff, gopV_tf, gopV_ft, pickV_t, pickV_f, pickV_bool, nilS_ptr, add_eq, sub_eq, mul_eq, lss_eq, leq_eq, gtr_eq, geq_eq, not_eq, minI_eq, maxI_eq, extract_0, extract_1, extract_2, eqlI, neqI, makeFunc_eq, decide_true, decide_false, if_true, if_false, Bool.false_eq_true, Bool.not_true, Bool.not_false, reduceIte, List.getElem?_toArray, List.getElem?_cons_zero, List.getElem?_cons_succ, Option.isSome_none, List.length_map]
    have := k103_6 (v := v) (r1 := r1) hA hd1 hd2 M w fin
    rw [hA'] at this ⊢
    exact this
  · have hA' : A.kind = 7 := hK
    have e0 : (A.kind == 0) = false := by rw [hA']; rfl
    have e1 : (A.kind == 1) = false := by rw [hA']; rfl
    have e2 : (A.kind == 2) = false := by rw [hA']; rfl
    have e3 : (A.kind == 3) = false := by rw [hA']; rfl
    have e4 : (A.kind == 4) = false := by rw [hA']; rfl
    have e5 : (A.kind == 5) = false := by rw [hA']; rfl
    have e6 : (A.kind == 6) = false := by rw [hA']; rfl
    have e7 : (A.kind == 7) = true := by rw [hA']; rfl
    have e8 : (A.kind == 8) = false := by rw [hA']; rfl
    simp only [e0, e1, e2, e3, e4, e5, e6, e7, e8, popO_some, bindH_eq, condV_bool, condV_true, condV_false, yV_bool, gopV_tt, gopV_ff, gopV_tf, gopV_ft, pickV_t, pickV_f, pickV_bool, nilS_ptr, add_eq, sub_eq, mul_eq, lss_eq, leq_eq, gtr_eq, geq_eq, not_eq, minI_eq, maxI_eq, extract_0, extract_1, extract_2, eqlI, neqI, makeFunc_eq, decide_true, decide_false, if_true, if_false, Bool.false_eq_true, Bool.not_true, Bool.not_false, reduceIte, List.getElem?_toArray, List.getElem?_cons_zero, List.getElem?_cons_succ, Option.isSome_none, List.length_map]
    exact k103_N (by simp) B w fin
  · have hA' : A.kind = 8 := hK
    have e0 : (A.kind == 0) = false := by rw [hA']; rfl
    have e1 : (A.kind == 1) = false := by rw [hA']; rfl
    have e2 : (A.kind == 2) = false := by rw [hA']; rfl
    have e3 : (A.kind == 3) = false := by rw [hA']; rfl
    have e4 : (A.kind == 4) = false := by rw [hA']; rfl
    have e5 : (A.kind == 5) = false := by rw [hA']; rfl
    have e6 : (A.kind == 6) = false := by rw [hA']; rfl
    have e7 : (A.kind == 7) = false := by rw [hA']; rfl
    have e8 : (A.kind == 8) = true := by rw [hA']; rfl
    simp only [e0, e1, e2, e3, e4, e5, e6, e7, e8, popO_some, bindH_eq, condV_bool, condV_true, condV_false, yV_bool, gopV_tt, gopV_ff, gopV_tf, gopV_ft, pickV_t, pickV_f, pickV_bool, nilS_ptr, add_eq, sub_eq, mul_eq, lss_eq, leq_eq, gtr_eq, geq_eq, not_eq, minI_eq, maxI_eq, extract_0, extract_1, extract_2, eqlI, neqI, makeFunc_eq, decide_true, decide_false, if_true, if_false, Bool.false_eq_true, Bool.not_true, Bool.not_false, reduceIte, List.getElem?_toArray, List.getElem?_cons_zero, List.getElem?_cons_succ, Option.isSome_none, List.length_map]
    have := k103_8 (t6 := .pointer (some ⟨rm, 0, none⟩)) (t7 := .pointer (some ⟨rp, 0, none⟩)) B hv (by omega) w fin
    rw [hA'] at this ⊢
    exact this
end Go.Proofs.Ytflgnfiebgcegaa
