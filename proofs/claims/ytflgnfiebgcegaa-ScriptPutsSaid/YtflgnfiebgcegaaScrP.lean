/- script: Put. -/
import Derived.Test.YtflgnfiebgcegaaScrW
set_option linter.unusedSimpArgs false
set_option linter.unusedVariables false
namespace Go.Proofs.Ytflgnfiebgcegaa
open Go
set_option maxRecDepth 20000
def Msg.pkt (m : Msg) : List Value := [.int .i64 m.pfrom, .int .u64 m.pseq, .int .u64 m.ptimeout, .string (tx m.pdata)]
theorem Msg.pktOk (m : Msg) : ∀ v ∈ m.pkt.toArray.toList, Go.Proofs.Ytflgnfiebgcegaa.isCell v = true := fun v hv => by
  simp only [Msg.pkt, List.mem_cons, List.not_mem_nil, or_false] at hv
  rcases hv with rfl | rfl | rfl | rfl <;> rfl
theorem ABox.pkt {h : PH} {r : Nat} {A : Act} {v : Value} (H : ABox h r A v) : SemE PG h (Instr.loadAt T_api_Packet (.pointer (some ⟨r, 8, none⟩))) = some (.agg A.msg.pkt.toArray) := by
  rw [T_api_Packet.loadAgg H.here (by show 8 + 4 ≤ 14; decide)]; rfl
structure MB (h : PH) (F : List Nat) (rm rp : Nat) (m : Msg) : Prop where
  hm : h rm = some (.cells m.cells.toArray T_api_Message (0, 0))
  hp : h rp = some (.cells m.pkt.toArray T_api_Packet (0, 0))
  om : rm ∉ F
  op : rp ∉ F
theorem MB.keep {h h' : PH} {F F' : List Nat} {rm rp : Nat} {m : Msg} (H : MB h F rm rp m) (K : Keep h F h' F') : MB h' F' rm rp m :=
  ⟨(K _ _ H.hm H.om).1, (K _ _ H.hp H.op).1, (K _ _ H.hm H.om).2, (K _ _ H.hp H.op).2⟩
section
variable {h : PH} {F : List Nat} {rm rp : Nat} {m : Msg} (H : MB h F rm rp m)
include H
theorem MB.c0 : cellH h ⟨rm, 0, none⟩ = some (.int .i64 m.kind) := by simp [cellH, H.hm, Msg.cells]
theorem MB.c1 : cellH h ⟨rm, 1, none⟩ = some (.int .i64 m.dest) := by simp [cellH, H.hm, Msg.cells]
theorem MB.c2 : cellH h ⟨rm, 2, none⟩ = some (.int .u64 m.height) := by simp [cellH, H.hm, Msg.cells]
theorem MB.c7 : cellH h ⟨rm, 7, none⟩ = some (.string (tx m.proof)) := by simp [cellH, H.hm, Msg.cells]
theorem MB.p0 : cellH h ⟨rp, 0, none⟩ = some (.int .i64 m.pfrom) := by simp [cellH, H.hp, Msg.pkt]
theorem MB.p1 : cellH h ⟨rp, 1, none⟩ = some (.int .u64 m.pseq) := by simp [cellH, H.hp, Msg.pkt]
theorem MB.p2 : cellH h ⟨rp, 2, none⟩ = some (.int .u64 m.ptimeout) := by simp [cellH, H.hp, Msg.pkt]
theorem MB.p3 : cellH h ⟨rp, 3, none⟩ = some (.string (tx m.pdata)) := by simp [cellH, H.hp, Msg.pkt]
end
set_option maxHeartbeats 2000000 in
theorem put6_ok {h0 h : PH} {a : Nat} {st : Stt} {F : List Nat} {A : Act} {v : Value} (S : WN h0 h a st F) (hl : st.2.length ≤ 1000000) (hA : ActOk A) {k : Value → PH → Prop} (hk : PNext h0 a (pAct 6 A st) k) : callC PG (fn (putF 6)) #[.pointer (some ⟨a, 0, none⟩), .agg (A.cells v).toArray] h k := by
  show CallsH PG id_script_forge_1 #[.pointer (some ⟨a, 0, none⟩), .agg (A.cells v).toArray] h k
  apply script_forge_1.call
  unfold script_forge_1
  intro r1 hr1
  try rw [bindH_eq]
  obtain ⟨B1, S1⟩ := act_box S hr1 A v
  generalize h.set r1 (.cells (Value.agg (A.cells v).toArray).cells T_api_Act) = h1 at *
  simp only [T_api_Act.f5, T_api_Message.f3, Nat.zero_add, Nat.reduceAdd, B1.box.msg, B1.box.pkt, popO_some, bindH_eq, condV_bool, condV_true, condV_false, yV_bool, gopV_tt, gopV_ff, gopV_tf, gopV_ft, pickV_t, pickV_f, pickV_bool, nilS_ptr, add_eq, sub_eq, mul_eq, lss_eq, leq_eq, gtr_eq, geq_eq, not_eq, minI_eq, maxI_eq, extract_0, extract_1, extract_2, eqlI, neqI, makeFunc_eq, decide_true, decide_false, if_true, if_false, Bool.false_eq_true, Bool.not_true, Bool.not_false, reduceIte, List.getElem?_toArray, List.getElem?_cons_zero, List.getElem?_cons_succ, Option.isSome_none, List.length_map]
  intro rm hrm
  try rw [bindH_eq]
  have u2 : Ext h1 (h1.set rm (.cells (zcells PG T_api_Message) T_api_Message)) := Upd.new hrm
  have b2 : (h1.set rm (.cells (zcells PG T_api_Message) T_api_Message)) rm = some (.cells (zcells PG T_api_Message) T_api_Message (0, 0)) := set_same
  have S2 := S1.new hrm (.cells (zcells PG T_api_Message) T_api_Message)
  have om := S1.box hrm
  have o1m : r1 ≠ rm := fun e => by subst e; rw [B1.box.here] at hrm; cases hrm
  generalize h1.set rm (.cells (zcells PG T_api_Message) T_api_Message) = h2 at *
  intro rp hrp
  try rw [bindH_eq]
  have u3 : Ext h2 (h2.set rp (.cells (zcells PG T_api_Packet) T_api_Packet)) := Upd.new hrp
  have b3 : (h2.set rp (.cells (zcells PG T_api_Packet) T_api_Packet)) rp = some (.cells (zcells PG T_api_Packet) T_api_Packet (0, 0)) := set_same
  have S3 := S2.new hrp (.cells (zcells PG T_api_Packet) T_api_Packet)
  have op := S2.box hrp
  have opm : rp ≠ rm := fun e => by subst e; rw [b2] at hrp; cases hrp
  generalize h2.set rp (.cells (zcells PG T_api_Packet) T_api_Packet) = h3 at *
  refine store_box (u3.get b2) T_api_Message.info (by show 8 = 8; rfl) (by show 0 < 8; decide) (by rw [T_api_Message.zc]; rfl) A.msg.allCell ?_
  have u4 : Upd [rm] h3 (h3.set rm (.cells A.msg.cells.toArray T_api_Message (0, 0))) := Upd.set (by simp)
  have b4 : (h3.set rm (.cells A.msg.cells.toArray T_api_Message (0, 0))) rm = some (.cells A.msg.cells.toArray T_api_Message (0, 0)) := set_same
  have hn : h0 rm = none := S1.upd.none hrm
  have S4 : WN h0 (h3.set rm (.cells A.msg.cells.toArray T_api_Message (0, 0))) a st F := ⟨by
      obtain ⟨p, w, G, ha, hp, hO, rfl, hna⟩ := S3.at_
      simp only [List.mem_cons, not_or] at om
      exact ⟨p, w, G, u4.get ha (by simpa using fun e => om.1 e.symm), hp, hO.upd u4 (fun b hb => by simp; rintro rfl; exact om.2 hb), rfl, hna⟩, S3.upd.fresh u4 (Fresh.one hn), S3.grow⟩
  generalize h3.set rm (.cells A.msg.cells.toArray T_api_Message (0, 0)) = h4 at *
  have B4 : ABox h4 r1 A v := ((B1.box.ext u2).ext u3).upd u4 (by simpa using o1m)
  refine ⟨B4.pkt, ?_⟩
  refine store_box (u4.get b3 (by simpa using opm)) T_api_Packet.info (by show 4 = 4; rfl) (by show 0 < 4; decide) (by rw [T_api_Packet.zc]; rfl) A.msg.pktOk ?_
  have u5 : Upd [rp] h4 (h4.set rp (.cells A.msg.pkt.toArray T_api_Packet (0, 0))) := Upd.set (by simp)
  have b5 : (h4.set rp (.cells A.msg.pkt.toArray T_api_Packet (0, 0))) rp = some (.cells A.msg.pkt.toArray T_api_Packet (0, 0)) := set_same
  have hn2 : h0 rp = none := (S1.upd.trans u2).none hrp
  have S5 : WN h0 (h4.set rp (.cells A.msg.pkt.toArray T_api_Packet (0, 0))) a st F := ⟨by
      obtain ⟨p, w, G, ha, hp, hO, rfl, hna⟩ := S4.at_
      simp only [List.mem_cons, not_or] at op
      exact ⟨p, w, G, u5.get ha (by simpa using fun e => op.1 e.symm), hp, hO.upd u5 (fun b hb => by simp; rintro rfl; exact op.2 hb), rfl, hna⟩, S4.upd.fresh u5 (Fresh.one hn2), S4.grow⟩
  have M5 : MB (h4.set rp (.cells A.msg.pkt.toArray T_api_Packet (0, 0))) F rm rp A.msg := ⟨u5.get b4 (by simpa using opm.symm), b5, om, op⟩
  generalize h4.set rp (.cells A.msg.pkt.toArray T_api_Packet (0, 0)) = h5 at *
  simp only [T_api_Message.f0, Nat.zero_add, T_int.load, M5.c0, popO_some, bindH_eq, condV_bool, condV_true, condV_false, yV_bool, gopV_tt, gopV_ff, gopV_tf, gopV_ft, pickV_t, pickV_f, pickV_bool, nilS_ptr, add_eq, sub_eq, mul_eq, lss_eq, leq_eq, gtr_eq, geq_eq, not_eq, minI_eq, maxI_eq, extract_0, extract_1, extract_2, eqlI, neqI, makeFunc_eq, decide_true, decide_false, if_true, if_false, Bool.false_eq_true, Bool.not_true, Bool.not_false, reduceIte, List.getElem?_toArray, List.getElem?_cons_zero, List.getElem?_cons_succ, Option.isSome_none, List.length_map]
  refine Byte_w S5 (by omega) _ fun h6 F6 x6 e6 S6 K6 => ?_
  have M6 := M5.keep K6
  have l6 := wByte_len st A.msg.kind
  rw [← e6] at l6
  simp only [T_api_Message.f1, Nat.zero_add, T_int.load, M6.c1, popO_some, bindH_eq, condV_bool, condV_true, condV_false, yV_bool, gopV_tt, gopV_ff, gopV_tf, gopV_ft, pickV_t, pickV_f, pickV_bool, nilS_ptr, add_eq, sub_eq, mul_eq, lss_eq, leq_eq, gtr_eq, geq_eq, not_eq, minI_eq, maxI_eq, extract_0, extract_1, extract_2, eqlI, neqI, makeFunc_eq, decide_true, decide_false, if_true, if_false, Bool.false_eq_true, Bool.not_true, Bool.not_false, reduceIte, List.getElem?_toArray, List.getElem?_cons_zero, List.getElem?_cons_succ, Option.isSome_none, List.length_map]
  refine Byte_w S6 (by omega) _ fun h7 F7 x7 e7 S7 K7 => ?_
  have M7 := M6.keep K7
  have l7 := wByte_len x6 A.msg.dest
  rw [← e7] at l7
  simp only [T_api_Message.f2, Nat.zero_add, T_uint64.load, M7.c2, popO_some, bindH_eq, condV_bool, condV_true, condV_false, yV_bool, gopV_tt, gopV_ff, gopV_tf, gopV_ft, pickV_t, pickV_f, pickV_bool, nilS_ptr, add_eq, sub_eq, mul_eq, lss_eq, leq_eq, gtr_eq, geq_eq, not_eq, minI_eq, maxI_eq, extract_0, extract_1, extract_2, eqlI, neqI, makeFunc_eq, decide_true, decide_false, if_true, if_false, Bool.false_eq_true, Bool.not_true, Bool.not_false, reduceIte, List.getElem?_toArray, List.getElem?_cons_zero, List.getElem?_cons_succ, Option.isSome_none, List.length_map]
  refine Number_w S7 (by omega) hA.he fun h8 F8 x8 e8 S8 K8 => ?_
  have M8 := M7.keep K8
  have l8 := wNum_len x7 A.msg.height
  rw [← e8] at l8
  simp only [T_api_Packet.f0, Nat.zero_add, T_int.load, M8.p0, popO_some, bindH_eq, condV_bool, condV_true, condV_false, yV_bool, gopV_tt, gopV_ff, gopV_tf, gopV_ft, pickV_t, pickV_f, pickV_bool, nilS_ptr, add_eq, sub_eq, mul_eq, lss_eq, leq_eq, gtr_eq, geq_eq, not_eq, minI_eq, maxI_eq, extract_0, extract_1, extract_2, eqlI, neqI, makeFunc_eq, decide_true, decide_false, if_true, if_false, Bool.false_eq_true, Bool.not_true, Bool.not_false, reduceIte, List.getElem?_toArray, List.getElem?_cons_zero, List.getElem?_cons_succ, Option.isSome_none, List.length_map]
  refine Byte_w S8 (by omega) _ fun h9 F9 x9 e9 S9 K9 => ?_
  have M9 := M8.keep K9
  have l9 := wByte_len x8 A.msg.pfrom
  rw [← e9] at l9
  simp only [T_api_Packet.f1, Nat.zero_add, T_uint64.load, M9.p1, popO_some, bindH_eq, condV_bool, condV_true, condV_false, yV_bool, gopV_tt, gopV_ff, gopV_tf, gopV_ft, pickV_t, pickV_f, pickV_bool, nilS_ptr, add_eq, sub_eq, mul_eq, lss_eq, leq_eq, gtr_eq, geq_eq, not_eq, minI_eq, maxI_eq, extract_0, extract_1, extract_2, eqlI, neqI, makeFunc_eq, decide_true, decide_false, if_true, if_false, Bool.false_eq_true, Bool.not_true, Bool.not_false, reduceIte, List.getElem?_toArray, List.getElem?_cons_zero, List.getElem?_cons_succ, Option.isSome_none, List.length_map]
  refine Number_w S9 (by omega) hA.ps fun h10 F10 x10 e10 S10 K10 => ?_
  have M10 := M9.keep K10
  have l10 := wNum_len x9 A.msg.pseq
  rw [← e10] at l10
  simp only [T_api_Packet.f2, Nat.zero_add, T_uint64.load, M10.p2, popO_some, bindH_eq, condV_bool, condV_true, condV_false, yV_bool, gopV_tt, gopV_ff, gopV_tf, gopV_ft, pickV_t, pickV_f, pickV_bool, nilS_ptr, add_eq, sub_eq, mul_eq, lss_eq, leq_eq, gtr_eq, geq_eq, not_eq, minI_eq, maxI_eq, extract_0, extract_1, extract_2, eqlI, neqI, makeFunc_eq, decide_true, decide_false, if_true, if_false, Bool.false_eq_true, Bool.not_true, Bool.not_false, reduceIte, List.getElem?_toArray, List.getElem?_cons_zero, List.getElem?_cons_succ, Option.isSome_none, List.length_map]
  refine Number_w S10 (by omega) hA.pt fun h11 F11 x11 e11 S11 K11 => ?_
  have M11 := M10.keep K11
  have l11 := wNum_len x10 A.msg.ptimeout
  rw [← e11] at l11
  simp only [T_api_Packet.f3, Nat.zero_add, T_string.load, M11.p3, popO_some, bindH_eq, condV_bool, condV_true, condV_false, yV_bool, gopV_tt, gopV_ff, gopV_tf, gopV_ft, pickV_t, pickV_f, pickV_bool, nilS_ptr, add_eq, sub_eq, mul_eq, lss_eq, leq_eq, gtr_eq, geq_eq, not_eq, minI_eq, maxI_eq, extract_0, extract_1, extract_2, eqlI, neqI, makeFunc_eq, decide_true, decide_false, if_true, if_false, Bool.false_eq_true, Bool.not_true, Bool.not_false, reduceIte, List.getElem?_toArray, List.getElem?_cons_zero, List.getElem?_cons_succ, Option.isSome_none, List.length_map]
  refine Text_w S11 (by omega) _ fun h12 F12 x12 e12 S12 K12 => ?_
  have M12 := M11.keep K12
  have l12 := wText_len x11 A.msg.pdata
  rw [← e12] at l12
  simp only [T_api_Message.f4, Nat.zero_add, T_string.load, M12.c7, popO_some, bindH_eq, condV_bool, condV_true, condV_false, yV_bool, gopV_tt, gopV_ff, gopV_tf, gopV_ft, pickV_t, pickV_f, pickV_bool, nilS_ptr, add_eq, sub_eq, mul_eq, lss_eq, leq_eq, gtr_eq, geq_eq, not_eq, minI_eq, maxI_eq, extract_0, extract_1, extract_2, eqlI, neqI, makeFunc_eq, decide_true, decide_false, if_true, if_false, Bool.false_eq_true, Bool.not_true, Bool.not_false, reduceIte, List.getElem?_toArray, List.getElem?_cons_zero, List.getElem?_cons_succ, Option.isSome_none, List.length_map]
  refine Text_w S12 (by omega) _ fun h13 F13 x13 e13 S13 K13 => ?_
  exact hk h13 F13 (by rw [e13, e12, e11, e10, e9, e8, e7, e6] at S13; exact S13)
theorem put_all {h0 h : PH} {a K : Nat} {st : Stt} {F : List Nat} {A : Act} {v : Value} (hK : K < 9) (S : WN h0 h a st F) (hl : st.2.length ≤ 1000000) (hA : ActOk A) (hv : SlR h0 2 v (A.writes.map Wr.cells)) (hn : A.writes.length ≤ 100000) {k : Value → PH → Prop} (hk : PNext h0 a (pAct K A st) k) : callC PG (fn (putF K)) #[.pointer (some ⟨a, 0, none⟩), .agg (A.cells v).toArray] h k := by
  have : K = 0 ∨ K = 1 ∨ K = 2 ∨ (K = 3 ∨ K = 4 ∨ K = 5 ∨ K = 7) ∨ K = 6 ∨ K = 8 := by omega
  rcases this with rfl | rfl | rfl | h4 | rfl | rfl
  · exact put0_ok S hl hA hk
  · exact put1_ok S hl hk
  · exact put2_ok S hk
  · exact putN_ok h4 S hl hk
  · exact put6_ok S hl hA hk
  · exact put8_ok S hl hv hn hk
/-- What Put tells. -/
def putA (A : Act) : List UInt8 × Int := if A.kind < 0 ∨ 9 ≤ A.kind ∨ A ≠ onlyA A then ([], 5) else wBytes (pAct A.kind.toNat A (wByte (0, []) A.kind))
abbrev pairV (o : List UInt8 × Int) : Value := .tuple #[.string (tx o.1), .int .i64 o.2]
theorem w_start {h : PH} {r : Nat} (hr : h r = none) : WN h (h.set r (.cells (zcells PG T_wire_Writer) T_wire_Writer)) r (0, []) [r] :=
  ⟨⟨.pointer none, .slice none 0 0, [], by rw [set_same, T_wire_Writer.zc]; rfl, .inl rfl, OwnR.nil, rfl, by simp⟩, Upd.new hr, fun b hb => by simp at hb; subst hb; exact .inr hr⟩
set_option maxHeartbeats 1000000 in
theorem Put_ok {h : PH} {A : Act} {v : Value} (hA : ActOk A) (hv : SlR h 2 v (A.writes.map Wr.cells)) (hn : A.writes.length ≤ 100000) {k : Value → PH → Prop} (hk : ∀ h', Ext h h' → k (pairV (putA A)) h') : CallsH PG id_script_Put #[.agg (A.cells v).toArray] h k := by
  apply script_Put.call
  unfold script_Put
  unfold putA at hk
  intro r1 hr1
  try rw [bindH_eq]
  have u1 : Ext h (h.set r1 (.cells (Value.agg (A.cells v).toArray).cells T_api_Act)) := Upd.new hr1
  have B1 : ABox (h.set r1 (.cells (Value.agg (A.cells v).toArray).cells T_api_Act)) r1 A v := ⟨set_same⟩
  generalize h.set r1 (.cells (Value.agg (A.cells v).toArray).cells T_api_Act) = h1 at *
  simp only [T_api_Act.f0, T_int.load, B1.kind, popO_some, bindH_eq, condV_bool, condV_true, condV_false, yV_bool, gopV_tt, gopV_ff, gopV_tf, gopV_ft, pickV_t, pickV_f, pickV_bool, nilS_ptr, add_eq, sub_eq, mul_eq, lss_eq, leq_eq, gtr_eq, geq_eq, not_eq, minI_eq, maxI_eq, extract_0, extract_1, extract_2, eqlI, neqI, makeFunc_eq, decide_true, decide_false, if_true, if_false, Bool.false_eq_true, Bool.not_true, Bool.not_false, reduceIte, List.getElem?_toArray, List.getElem?_cons_zero, List.getElem?_cons_succ, Option.isSome_none, List.length_map]
  by_cases q0 : A.kind < 0
  · rw [if_pos (.inl q0)] at hk
    simp only [q0, T_api_Act.f0, T_int.load, B1.kind, popO_some, bindH_eq, condV_bool, condV_true, condV_false, yV_bool, gopV_tt, gopV_ff, gopV_tf, gopV_ft, pickV_t, pickV_f, pickV_bool, nilS_ptr, add_eq, sub_eq, mul_eq, lss_eq, leq_eq, gtr_eq, geq_eq, not_eq, minI_eq, maxI_eq, extract_0, extract_1, extract_2, eqlI, neqI, makeFunc_eq, decide_true, decide_false, if_true, if_false, Bool.false_eq_true, Bool.not_true, Bool.not_false, reduceIte, List.getElem?_toArray, List.getElem?_cons_zero, List.getElem?_cons_succ, Option.isSome_none, List.length_map]
    refine ⟨(by intro e; cases e), ?_⟩
    exact hk _ u1
  by_cases q9 : 9 ≤ A.kind
  · rw [if_pos (.inr (.inl q9))] at hk
    simp only [q0, q9, T_api_Act.f0, T_int.load, B1.kind, popO_some, bindH_eq, condV_bool, condV_true, condV_false, yV_bool, gopV_tt, gopV_ff, gopV_tf, gopV_ft, pickV_t, pickV_f, pickV_bool, nilS_ptr, add_eq, sub_eq, mul_eq, lss_eq, leq_eq, gtr_eq, geq_eq, not_eq, minI_eq, maxI_eq, extract_0, extract_1, extract_2, eqlI, neqI, makeFunc_eq, decide_true, decide_false, if_true, if_false, Bool.false_eq_true, Bool.not_true, Bool.not_false, reduceIte, List.getElem?_toArray, List.getElem?_cons_zero, List.getElem?_cons_succ, Option.isSome_none, List.length_map]
    refine ⟨(by intro e; cases e), ?_⟩
    exact hk _ u1
  obtain ⟨K, hK⟩ : ∃ K : Nat, A.kind = K := ⟨A.kind.toNat, by omega⟩
  have hK9 : K < 9 := by omega
  simp only [q0, q9, T_api_Act.f0, T_int.load, B1.kind, B1.load, popO_some, bindH_eq, condV_bool, condV_true, condV_false, yV_bool, gopV_tt, gopV_ff, gopV_tf, gopV_ft, pickV_t, pickV_f, pickV_bool, nilS_ptr, add_eq, sub_eq, mul_eq, lss_eq, leq_eq, gtr_eq, geq_eq, not_eq, minI_eq, maxI_eq, extract_0, extract_1, extract_2, eqlI, neqI, makeFunc_eq, decide_true, decide_false, if_true, if_false, Bool.false_eq_true, Bool.not_true, Bool.not_false, reduceIte, List.getElem?_toArray, List.getElem?_cons_zero, List.getElem?_cons_succ, Option.isSome_none, List.length_map]
  refine only_ok hK9 hK (hv.ext u1) fun w h2 hw u2 => ?_
  have B2 := B1.ext u2
  refine ⟨fun _ => B2.load, ?_⟩
  refine same_ok ((hv.ext u1).ext u2) hw fun h3 u3 => ?_
  have B3 := B2.ext u3
  by_cases qs : A = onlyA A
  · rw [if_neg (fun hh => hh.elim q0 fun hh => hh.elim q9 fun hh => hh qs)] at hk
    simp only [decide_eq_true qs, popO_some, bindH_eq, condV_bool, condV_true, condV_false, yV_bool, gopV_tt, gopV_ff, gopV_tf, gopV_ft, pickV_t, pickV_f, pickV_bool, nilS_ptr, add_eq, sub_eq, mul_eq, lss_eq, leq_eq, gtr_eq, geq_eq, not_eq, minI_eq, maxI_eq, extract_0, extract_1, extract_2, eqlI, neqI, makeFunc_eq, decide_true, decide_false, if_true, if_false, Bool.false_eq_true, Bool.not_true, Bool.not_false, reduceIte, List.getElem?_toArray, List.getElem?_cons_zero, List.getElem?_cons_succ, Option.isSome_none, List.length_map]
    intro rq hrq
    try rw [bindH_eq]
    have S4 : WN h3 (h3.set rq (.cells (zcells PG T_wire_Writer) T_wire_Writer)) rq (0, []) [rq] := w_start hrq
    have B4 : AB (h3.set rq (.cells (zcells PG T_wire_Writer) T_wire_Writer)) [rq] r1 A v := ⟨B3.ext (Upd.new hrq), by simp; rintro rfl; rw [B3.here] at hrq; cases hrq⟩
    generalize h3.set rq (.cells (zcells PG T_wire_Writer) T_wire_Writer) = h4 at *
    simp only [T_api_Act.f0, T_int.load, B4.box.kind, popO_some, bindH_eq, condV_bool, condV_true, condV_false, yV_bool, gopV_tt, gopV_ff, gopV_tf, gopV_ft, pickV_t, pickV_f, pickV_bool, nilS_ptr, add_eq, sub_eq, mul_eq, lss_eq, leq_eq, gtr_eq, geq_eq, not_eq, minI_eq, maxI_eq, extract_0, extract_1, extract_2, eqlI, neqI, makeFunc_eq, decide_true, decide_false, if_true, if_false, Bool.false_eq_true, Bool.not_true, Bool.not_false, reduceIte, List.getElem?_toArray, List.getElem?_cons_zero, List.getElem?_cons_succ, Option.isSome_none, List.length_map]
    refine Byte_w S4 (by simp) _ fun h5 F5 x5 e5 S5 K5 => ?_
    have B5 := B4.keep K5
    have l5 := wByte_len (0, []) A.kind
    rw [← e5] at l5
    simp only [List.length_nil] at l5
    simp only [T_api_Act.f0, T_int.load, B5.box.kind, B5.box.load, popO_some, bindH_eq, condV_bool, condV_true, condV_false, yV_bool, gopV_tt, gopV_ff, gopV_tf, gopV_ft, pickV_t, pickV_f, pickV_bool, nilS_ptr, add_eq, sub_eq, mul_eq, lss_eq, leq_eq, gtr_eq, geq_eq, not_eq, minI_eq, maxI_eq, extract_0, extract_1, extract_2, eqlI, neqI, makeFunc_eq, decide_true, decide_false, if_true, if_false, Bool.false_eq_true, Bool.not_true, Bool.not_false, reduceIte, List.getElem?_toArray, List.getElem?_cons_zero, List.getElem?_cons_succ, Option.isSome_none, List.length_map]
    refine forms_ok fun h6 u6 => ?_
    have B6 := B5.box.ext u6
    refine ⟨B6.load, by simp only [T_int.load, B6.kind], ?_⟩
    have S6 : WN h3 h6 rq x5 F5 := WS.ext S5 u6
    simp only [hK, forms_at hK9, form_put, popO_some, bindH_eq, condV_bool, condV_true, condV_false, yV_bool, gopV_tt, gopV_ff, gopV_tf, gopV_ft, pickV_t, pickV_f, pickV_bool, nilS_ptr, add_eq, sub_eq, mul_eq, lss_eq, leq_eq, gtr_eq, geq_eq, not_eq, minI_eq, maxI_eq, extract_0, extract_1, extract_2, eqlI, neqI, makeFunc_eq, decide_true, decide_false, if_true, if_false, Bool.false_eq_true, Bool.not_true, Bool.not_false, reduceIte, List.getElem?_toArray, List.getElem?_cons_zero, List.getElem?_cons_succ, Option.isSome_none, List.length_map]
    refine put_all hK9 S6 (by omega) hA (((hv.ext u1).ext u2).ext u3) hn fun h7 F7 S7 => ?_
    refine Bytes_ok S7.at_ fun h8 u8 => ?_
    simp only [popO_some, bindH_eq, condV_bool, condV_true, condV_false, yV_bool, gopV_tt, gopV_ff, gopV_tf, gopV_ft, pickV_t, pickV_f, pickV_bool, nilS_ptr, add_eq, sub_eq, mul_eq, lss_eq, leq_eq, gtr_eq, geq_eq, not_eq, minI_eq, maxI_eq, extract_0, extract_1, extract_2, eqlI, neqI, makeFunc_eq, decide_true, decide_false, if_true, if_false, Bool.false_eq_true, Bool.not_true, Bool.not_false, reduceIte, List.getElem?_toArray, List.getElem?_cons_zero, List.getElem?_cons_succ, Option.isSome_none, List.length_map]
    have : A.kind.toNat = K := by omega
    rw [this, ← e5] at hk
    exact hk h8 ((((u1.trans u2).trans u3).trans S7.upd).fresh u8 (fun b hb => ((u1.trans u2).trans u3).none (S7.fresh b hb)))
  · rw [if_pos (.inr (.inr qs))] at hk
    simp only [decide_eq_false qs, popO_some, bindH_eq, condV_bool, condV_true, condV_false, yV_bool, gopV_tt, gopV_ff, gopV_tf, gopV_ft, pickV_t, pickV_f, pickV_bool, nilS_ptr, add_eq, sub_eq, mul_eq, lss_eq, leq_eq, gtr_eq, geq_eq, not_eq, minI_eq, maxI_eq, extract_0, extract_1, extract_2, eqlI, neqI, makeFunc_eq, decide_true, decide_false, if_true, if_false, Bool.false_eq_true, Bool.not_true, Bool.not_false, reduceIte, List.getElem?_toArray, List.getElem?_cons_zero, List.getElem?_cons_succ, Option.isSome_none, List.length_map]
    exact hk _ ((u1.trans u2).trans u3)
end Go.Proofs.Ytflgnfiebgcegaa
