/- script: how an act is written. -/
import Derived.Test.YtflgnfiebgcegaaScrQ
set_option linter.unusedSimpArgs false
set_option linter.unusedVariables false
namespace Go.Proofs.Ytflgnfiebgcegaa
open Go
set_option maxRecDepth 20000
def wNum (st : Stt) (n : Nat) : Stt := (st.1, st.2 ++ be n 8)
theorem wByte_len (st : Stt) (n : Int) : (wByte st n).2.length ≤ st.2.length + 1 := by
  unfold wByte; split <;> simp [be_len]
theorem wNum_len (st : Stt) (n : Nat) : (wNum st n).2.length ≤ st.2.length + 8 := by simp [wNum, be_len]
theorem wText_len (st : Stt) (l : List UInt8) : (wText st l).2.length ≤ st.2.length + 65537 := by
  unfold wText; split
  · simp [be_len]; omega
  · simp
theorem wTwo_len (st : Stt) (n : Int) : (wTwo st n).2.length ≤ st.2.length + 2 := by
  unfold wTwo; split
  · have := wByte_len (wByte st (n / 256)) (n % 256); have := wByte_len st (n / 256); omega
  · have := wByte_len (wByte st (-1)) 0; have := wByte_len st (-1); omega
/-- A writer made since h0. -/
abbrev WN (h0 : PH) (h : PH) (a : Nat) (st : Stt) (F : List Nat) : Prop := WS h0 [] h a st.1 st.2 F
theorem WN.upd {h0 h : PH} {a : Nat} {st : Stt} {F : List Nat} (S : WN h0 h a st F) : Ext h0 h := WS.upd S
theorem WN.fresh {h0 h : PH} {a : Nat} {st : Stt} {F : List Nat} (S : WN h0 h a st F) : Fresh h0 F := fun b hb => by
  rcases S.grow b hb with h1 | h1
  · cases h1
  · exact h1
/-- What is held beside the writer stays. -/
def Keep (h : PH) (F : List Nat) (h' : PH) (F' : List Nat) : Prop := ∀ r o, h r = some o → r ∉ F → h' r = some o ∧ r ∉ F'
theorem keepOf {h h' : PH} {F F' : List Nat} (u : Upd F h h') (g : ∀ b ∈ F', b ∈ F ∨ h b = none) : Keep h F h' F' := fun r o hr hn => ⟨u.get hr hn, fun hm => by
  rcases g r hm with h1 | h1
  · exact hn h1
  · rw [h1] at hr; cases hr⟩
/-- An act's box that the writer has no part in. -/
structure AB (h : PH) (F : List Nat) (r : Nat) (A : Act) (v : Value) : Prop where
  box : ABox h r A v
  out : r ∉ F
theorem AB.keep {h h' : PH} {F F' : List Nat} {r : Nat} {A : Act} {v : Value} (H : AB h F r A v) (K : Keep h F h' F') : AB h' F' r A v :=
  ⟨⟨(K r _ H.box.here H.out).1⟩, (K r _ H.box.here H.out).2⟩
theorem Byte_w {h0 h : PH} {a : Nat} {st : Stt} {F : List Nat} (S : WN h0 h a st F) (hl : st.2.length ≤ 1000000000) (n : Int) {k : Value → PH → Prop} (hk : ∀ h' F' x, x = wByte st n → WN h0 h' a x F' → Keep h F h' F' → k (.tuple #[]) h') : CallsH PG id_wire_Writer_Byte #[.pointer (some ⟨a, 0, none⟩), .int .i64 n] h k :=
  Byte_ok S.at_ (by omega) n fun h' F' hW u g => hk h' F' _ rfl (S.step hW u g) (keepOf u g)
theorem Number_w {h0 h : PH} {a : Nat} {st : Stt} {F : List Nat} (S : WN h0 h a st F) (hl : st.2.length ≤ 1000000000) {n : Nat} (hn : n < 18446744073709551616) {k : Value → PH → Prop} (hk : ∀ h' F' x, x = wNum st n → WN h0 h' a x F' → Keep h F h' F' → k (.tuple #[]) h') : CallsH PG id_wire_Writer_Number #[.pointer (some ⟨a, 0, none⟩), .int .u64 n] h k :=
  Number_ok S.at_ (by omega) hn fun h' F' hW u g => hk h' F' (wNum st n) rfl (S.step hW u g) (keepOf u g)
theorem Text_w {h0 h : PH} {a : Nat} {st : Stt} {F : List Nat} (S : WN h0 h a st F) (hl : st.2.length ≤ 1000000000) (ys : List UInt8) {k : Value → PH → Prop} (hk : ∀ h' F' x, x = wText st ys → WN h0 h' a x F' → Keep h F h' F' → k (.tuple #[]) h') : CallsH PG id_wire_Writer_Text #[.pointer (some ⟨a, 0, none⟩), .string (tx ys)] h k :=
  Text_ok S.at_ (by omega) fun h' F' hW u g => hk h' F' _ rfl (S.step hW u g) (keepOf u g)
theorem two_w {h0 h : PH} {a : Nat} {st : Stt} {F : List Nat} (S : WN h0 h a st F) (hl : st.2.length ≤ 1000000000) (n : Int) {k : Value → PH → Prop} (hk : ∀ h' F' x, x = wTwo st n → WN h0 h' a x F' → Keep h F h' F' → k (.tuple #[]) h') : CallsH PG id_script_two #[.pointer (some ⟨a, 0, none⟩), .int .i64 n] h k :=
  wtwo_ok S.at_ (by omega) n fun h' F' hW u g => hk h' F' _ rfl (S.step hW u g) (keepOf u g)
/-- A box of one's own, beside the writer. -/
theorem WN.box {h0 h : PH} {a : Nat} {st : Stt} {F : List Nat} (S : WN h0 h a st F) {r : Nat} (hr : h r = none) : r ∉ F := fun hm => S.at_.known r hm hr
theorem WN.new {h0 h : PH} {a : Nat} {st : Stt} {F : List Nat} (S : WN h0 h a st F) {r : Nat} (hr : h r = none) (o : Obj) : WN h0 (h.set r o) a st F := WS.ext S (Upd.new hr)
/-- What is written of an act, by its kind. -/
def wWrs : List Wr → Stt → Stt
  | [], st => st
  | w :: ws, st => wWrs ws (wTwo (wByte st (if w.lasts then 1 else 0)) w.torn)
def pForge (m : Msg) (st : Stt) : Stt := wText (wText (wNum (wNum (wByte (wNum (wByte (wByte st m.kind) m.dest) m.height) m.pfrom) m.pseq) m.ptimeout) m.pdata) m.proof
def pAct (k : Nat) (A : Act) (st : Stt) : Stt := match k with
  | 0 => wText (wNum (wByte st A.chain) A.timeout) A.data
  | 1 => wByte st A.chain
  | 2 => st
  | 6 => pForge A.msg st
  | 8 => wWrs A.writes (wByte st A.writes.length)
  | _ => wByte st A.n
/-- The numbers are ones that the language has. -/
structure ActOk (A : Act) : Prop where
  to : A.timeout < 18446744073709551616
  he : A.msg.height < 18446744073709551616
  ps : A.msg.pseq < 18446744073709551616
  pt : A.msg.ptimeout < 18446744073709551616
theorem act_box {h0 h : PH} {a : Nat} {st : Stt} {F : List Nat} (S : WN h0 h a st F) {r : Nat} (hr : h r = none) (A : Act) (v : Value) :
    AB (h.set r (.cells (Value.agg (A.cells v).toArray).cells T_api_Act)) F r A v ∧ WN h0 (h.set r (.cells (Value.agg (A.cells v).toArray).cells T_api_Act)) a st F :=
  ⟨⟨⟨set_same⟩, S.box hr⟩, S.new hr _⟩
abbrev PNext (h0 : PH) (a : Nat) (out : Stt) (k : Value → PH → Prop) : Prop := ∀ h' F', WN h0 h' a out F' → k (.tuple #[]) h'
theorem put1_ok {h0 h : PH} {a : Nat} {st : Stt} {F : List Nat} {A : Act} {v : Value} (S : WN h0 h a st F) (hl : st.2.length ≤ 1000000) {k : Value → PH → Prop} (hk : PNext h0 a (pAct 1 A st) k) : callC PG (fn (putF 1)) #[.pointer (some ⟨a, 0, none⟩), .agg (A.cells v).toArray] h k := by
  show CallsH PG id_script_forms_1 #[.pointer (some ⟨a, 0, none⟩), .agg (A.cells v).toArray] h k
  apply script_forms_1.call
  unfold script_forms_1
  intro r1 hr1
  try rw [bindH_eq]
  obtain ⟨B1, S1⟩ := act_box S hr1 A v
  generalize h.set r1 (.cells (Value.agg (A.cells v).toArray).cells T_api_Act) = h1 at *
  simp only [T_api_Act.f1, Nat.zero_add, T_int.load, B1.box.c1, popO_some, bindH_eq, condV_bool, condV_true, condV_false, yV_bool, gopV_tt, gopV_ff, gopV_tf, gopV_ft, pickV_t, pickV_f, pickV_bool, nilS_ptr, add_eq, sub_eq, mul_eq, lss_eq, leq_eq, gtr_eq, geq_eq, not_eq, minI_eq, maxI_eq, extract_0, extract_1, extract_2, eqlI, neqI, makeFunc_eq, decide_true, decide_false, if_true, if_false, Bool.false_eq_true, Bool.not_true, Bool.not_false, reduceIte, List.getElem?_toArray, List.getElem?_cons_zero, List.getElem?_cons_succ, Option.isSome_none, List.length_map]
  refine Byte_w S1 (by omega) _ fun h2 F2 x2 e2 S2 K2 => ?_
  exact hk h2 F2 (by rw [e2] at S2; exact S2)
theorem put2_ok {h0 h : PH} {a : Nat} {st : Stt} {F : List Nat} {A : Act} {v : Value} (S : WN h0 h a st F) {k : Value → PH → Prop} (hk : PNext h0 a (pAct 2 A st) k) : callC PG (fn (putF 2)) #[.pointer (some ⟨a, 0, none⟩), .agg (A.cells v).toArray] h k := by
  show CallsH PG id_script_forms_3 #[.pointer (some ⟨a, 0, none⟩), .agg (A.cells v).toArray] h k
  apply script_forms_3.call
  unfold script_forms_3
  intro r1 hr1
  try rw [bindH_eq]
  obtain ⟨B1, S1⟩ := act_box S hr1 A v
  exact hk _ F S1
theorem putN_ok {h0 h : PH} {a K : Nat} {st : Stt} {F : List Nat} {A : Act} {v : Value} (hK : K = 3 ∨ K = 4 ∨ K = 5 ∨ K = 7) (S : WN h0 h a st F) (hl : st.2.length ≤ 1000000) {k : Value → PH → Prop} (hk : PNext h0 a (pAct K A st) k) : callC PG (fn (putF K)) #[.pointer (some ⟨a, 0, none⟩), .agg (A.cells v).toArray] h k := by
  have hF : putF K = id_script_number_1 := by rcases hK with rfl | rfl | rfl | rfl <;> rfl
  have hg : pAct K A st = wByte st A.n := by rcases hK with rfl | rfl | rfl | rfl <;> rfl
  rw [hg] at hk
  rw [hF]
  show CallsH PG id_script_number_1 #[.pointer (some ⟨a, 0, none⟩), .agg (A.cells v).toArray] h k
  apply script_number_1.call
  unfold script_number_1
  intro r1 hr1
  try rw [bindH_eq]
  obtain ⟨B1, S1⟩ := act_box S hr1 A v
  generalize h.set r1 (.cells (Value.agg (A.cells v).toArray).cells T_api_Act) = h1 at *
  simp only [T_api_Act.f4, Nat.zero_add, T_int.load, B1.box.c4, popO_some, bindH_eq, condV_bool, condV_true, condV_false, yV_bool, gopV_tt, gopV_ff, gopV_tf, gopV_ft, pickV_t, pickV_f, pickV_bool, nilS_ptr, add_eq, sub_eq, mul_eq, lss_eq, leq_eq, gtr_eq, geq_eq, not_eq, minI_eq, maxI_eq, extract_0, extract_1, extract_2, eqlI, neqI, makeFunc_eq, decide_true, decide_false, if_true, if_false, Bool.false_eq_true, Bool.not_true, Bool.not_false, reduceIte, List.getElem?_toArray, List.getElem?_cons_zero, List.getElem?_cons_succ, Option.isSome_none, List.length_map]
  refine Byte_w S1 (by omega) _ fun h2 F2 x2 e2 S2 K2 => ?_
  exact hk h2 F2 (by rw [e2] at S2; exact S2)
theorem put0_ok {h0 h : PH} {a : Nat} {st : Stt} {F : List Nat} {A : Act} {v : Value} (S : WN h0 h a st F) (hl : st.2.length ≤ 1000000) (hA : ActOk A) {k : Value → PH → Prop} (hk : PNext h0 a (pAct 0 A st) k) : callC PG (fn (putF 0)) #[.pointer (some ⟨a, 0, none⟩), .agg (A.cells v).toArray] h k := by
  show CallsH PG id_script_send_1 #[.pointer (some ⟨a, 0, none⟩), .agg (A.cells v).toArray] h k
  apply script_send_1.call
  unfold script_send_1
  intro r1 hr1
  try rw [bindH_eq]
  obtain ⟨B1, S1⟩ := act_box S hr1 A v
  generalize h.set r1 (.cells (Value.agg (A.cells v).toArray).cells T_api_Act) = h1 at *
  simp only [T_api_Act.f1, Nat.zero_add, T_int.load, B1.box.c1, popO_some, bindH_eq, condV_bool, condV_true, condV_false, yV_bool, gopV_tt, gopV_ff, gopV_tf, gopV_ft, pickV_t, pickV_f, pickV_bool, nilS_ptr, add_eq, sub_eq, mul_eq, lss_eq, leq_eq, gtr_eq, geq_eq, not_eq, minI_eq, maxI_eq, extract_0, extract_1, extract_2, eqlI, neqI, makeFunc_eq, decide_true, decide_false, if_true, if_false, Bool.false_eq_true, Bool.not_true, Bool.not_false, reduceIte, List.getElem?_toArray, List.getElem?_cons_zero, List.getElem?_cons_succ, Option.isSome_none, List.length_map]
  refine Byte_w S1 (by omega) _ fun h2 F2 x2 e2 S2 K2 => ?_
  have B2 := B1.keep K2
  have l2 := wByte_len st A.chain
  rw [← e2] at l2
  simp only [T_api_Act.f2, Nat.zero_add, T_uint64.load, B2.box.c2, popO_some, bindH_eq, condV_bool, condV_true, condV_false, yV_bool, gopV_tt, gopV_ff, gopV_tf, gopV_ft, pickV_t, pickV_f, pickV_bool, nilS_ptr, add_eq, sub_eq, mul_eq, lss_eq, leq_eq, gtr_eq, geq_eq, not_eq, minI_eq, maxI_eq, extract_0, extract_1, extract_2, eqlI, neqI, makeFunc_eq, decide_true, decide_false, if_true, if_false, Bool.false_eq_true, Bool.not_true, Bool.not_false, reduceIte, List.getElem?_toArray, List.getElem?_cons_zero, List.getElem?_cons_succ, Option.isSome_none, List.length_map]
  refine Number_w S2 (by omega) hA.to fun h3 F3 x3 e3 S3 K3 => ?_
  have B3 := B2.keep K3
  have l3 := wNum_len x2 A.timeout
  rw [← e3] at l3
  simp only [T_api_Act.f3, Nat.zero_add, T_string.load, B3.box.c3, popO_some, bindH_eq, condV_bool, condV_true, condV_false, yV_bool, gopV_tt, gopV_ff, gopV_tf, gopV_ft, pickV_t, pickV_f, pickV_bool, nilS_ptr, add_eq, sub_eq, mul_eq, lss_eq, leq_eq, gtr_eq, geq_eq, not_eq, minI_eq, maxI_eq, extract_0, extract_1, extract_2, eqlI, neqI, makeFunc_eq, decide_true, decide_false, if_true, if_false, Bool.false_eq_true, Bool.not_true, Bool.not_false, reduceIte, List.getElem?_toArray, List.getElem?_cons_zero, List.getElem?_cons_succ, Option.isSome_none, List.length_map]
  refine Text_w S3 (by omega) _ fun h4 F4 x4 e4 S4 K4 => ?_
  exact hk h4 F4 (by rw [e4, e3, e2] at S4; exact S4)
theorem put8_ok {h0 h : PH} {a : Nat} {st : Stt} {F : List Nat} {A : Act} {v : Value} (S : WN h0 h a st F) (hl : st.2.length ≤ 1000000) (hv : SlR h0 2 v (A.writes.map Wr.cells)) (hn : A.writes.length ≤ 100000) {k : Value → PH → Prop} (hk : PNext h0 a (pAct 8 A st) k) : callC PG (fn (putF 8)) #[.pointer (some ⟨a, 0, none⟩), .agg (A.cells v).toArray] h k := by
  show CallsH PG id_script_crash_1 #[.pointer (some ⟨a, 0, none⟩), .agg (A.cells v).toArray] h k
  apply script_crash_1.call
  unfold script_crash_1
  intro r1 hr1
  try rw [bindH_eq]
  obtain ⟨B1, S1⟩ := act_box S hr1 A v
  generalize h.set r1 (.cells (Value.agg (A.cells v).toArray).cells T_api_Act) = h1 at *
  have lv := hv.len (t' := T_int) T_sl_api_Write.und
  rw [List.length_map] at lv
  simp only [T_api_Act.f6, Nat.zero_add, T_sl_api_Write.load, B1.box.field6, lv, popO_some, bindH_eq, condV_bool, condV_true, condV_false, yV_bool, gopV_tt, gopV_ff, gopV_tf, gopV_ft, pickV_t, pickV_f, pickV_bool, nilS_ptr, add_eq, sub_eq, mul_eq, lss_eq, leq_eq, gtr_eq, geq_eq, not_eq, minI_eq, maxI_eq, extract_0, extract_1, extract_2, eqlI, neqI, makeFunc_eq, decide_true, decide_false, if_true, if_false, Bool.false_eq_true, Bool.not_true, Bool.not_false, reduceIte, List.getElem?_toArray, List.getElem?_cons_zero, List.getElem?_cons_succ, Option.isSome_none, List.length_map]
  refine Byte_w S1 (by omega) _ fun h2 F2 x2 e2 S2 K2 => ?_
  have B2 := B1.keep K2
  have l2 := wByte_len st A.writes.length
  rw [← e2] at l2
  simp only [T_api_Act.f6, Nat.zero_add, T_sl_api_Write.load, B2.box.field6, lv, popO_some, bindH_eq, condV_bool, condV_true, condV_false, yV_bool, gopV_tt, gopV_ff, gopV_tf, gopV_ft, pickV_t, pickV_f, pickV_bool, nilS_ptr, add_eq, sub_eq, mul_eq, lss_eq, leq_eq, gtr_eq, geq_eq, not_eq, minI_eq, maxI_eq, extract_0, extract_1, extract_2, eqlI, neqI, makeFunc_eq, decide_true, decide_false, if_true, if_false, Bool.false_eq_true, Bool.not_true, Bool.not_false, reduceIte, List.getElem?_toArray, List.getElem?_cons_zero, List.getElem?_cons_succ, Option.isSome_none, List.length_map]
  refine ⟨fun vs h' => ∃ (i : Nat) (x : Stt) (F' : List Nat), i ≤ A.writes.length ∧ vs = [.pointer (some ⟨a, 0, none⟩), v, .int .i64 A.writes.length, .int .i64 i] ∧ WN h0 h' a x F' ∧ wWrs (A.writes.drop i) x = pAct 8 A st ∧ x.2.length ≤ 1000001 + 3 * i, upTo A.writes.length 3, ⟨0, x2, F2, by omega, rfl, S2, by rw [e2]; rfl, by omega⟩, ?_⟩
  rintro ρ h' ⟨i, x, F', hi, hvs, S', hx, hlx⟩
  simp only [List.map_cons, List.map_nil, List.cons.injEq, and_true] at hvs
  obtain ⟨e0, e13, e14, e15⟩ := hvs
  simp only [e0, e13, e14, e15]
  unfold script_crash_1_b12
  by_cases hlt : i < A.writes.length
  · have hd : ((i : Int) < (A.writes.length : Int)) = True := by apply eq_true; omega
    obtain ⟨m, hm⟩ : ∃ m, A.writes[i]? = some m := ⟨_, List.getElem?_eq_getElem hlt⟩
    obtain ⟨p, p1, p2⟩ := (hv.ext S'.upd).wr (k := .i64) hm
    simp only [hd, p1, p2, popO_some, bindH_eq, condV_bool, condV_true, condV_false, yV_bool, gopV_tt, gopV_ff, gopV_tf, gopV_ft, pickV_t, pickV_f, pickV_bool, nilS_ptr, add_eq, sub_eq, mul_eq, lss_eq, leq_eq, gtr_eq, geq_eq, not_eq, minI_eq, maxI_eq, extract_0, extract_1, extract_2, eqlI, neqI, makeFunc_eq, decide_true, decide_false, if_true, if_false, Bool.false_eq_true, Bool.not_true, Bool.not_false, reduceIte, List.getElem?_toArray, List.getElem?_cons_zero, List.getElem?_cons_succ, Option.isSome_none, List.length_map]
    intro r hr
    refine store_box set_same T_api_Write.info (by show 2 = 2; rfl) (by show 0 < 2; decide) (by rw [T_api_Write.zc]; rfl) (by intro v hv; simp [Wr.cells] at hv; rcases hv with rfl | rfl <;> rfl) ?_
    rw [set_set_same]
    have S5 : WN h0 (h'.set r (.cells m.cells.toArray T_api_Write)) a x F' := S'.new hr _
    have b5 : (h'.set r (.cells m.cells.toArray T_api_Write)) r = some (.cells m.cells.toArray T_api_Write (0, 0)) := set_same
    have n5 : r ∉ F' := S'.box hr
    generalize h'.set r (.cells m.cells.toArray T_api_Write) = h5 at *
    have c0 : cellH h5 ⟨r, 0, none⟩ = some (.bool m.lasts) := by simp [cellH, b5, Wr.cells]
    have go : script_crash_1_k22 k (fun vs' h' => (∃ (i : Nat) (x : Stt) (F' : List Nat), i ≤ A.writes.length ∧ vs' = [.pointer (some ⟨a, 0, none⟩), v, .int .i64 A.writes.length, .int .i64 i] ∧ WN h0 h' a x F' ∧ wWrs (A.writes.drop i) x = pAct 8 A st ∧ x.2.length ≤ 1000001 + 3 * i) ∧ upTo A.writes.length 3 vs' h' < upTo A.writes.length 3 (List.map ρ [0, 13, 14, 15]) h) (.pointer (some ⟨a, 0, none⟩)) (.pointer (some ⟨r, 0, none⟩)) (.int .i64 (if m.lasts then 1 else 0)) v (.int .i64 A.writes.length) (.int .i64 i) h5 := by
      unfold script_crash_1_k22
      refine Byte_w S5 (by omega) _ fun h6 F6 x6 e6 S6 K6 => ?_
      obtain ⟨b6, n6⟩ := K6 r _ b5 n5
      have l6 := wByte_len x (if m.lasts then 1 else 0)
      rw [← e6] at l6
      have c1 : cellH h6 ⟨r, 1, none⟩ = some (.int .i64 m.torn) := by simp [cellH, b6, Wr.cells]
      simp only [T_api_Write.f1, Nat.zero_add, T_int.load, c1, popO_some, bindH_eq, condV_bool, condV_true, condV_false, yV_bool, gopV_tt, gopV_ff, gopV_tf, gopV_ft, pickV_t, pickV_f, pickV_bool, nilS_ptr, add_eq, sub_eq, mul_eq, lss_eq, leq_eq, gtr_eq, geq_eq, not_eq, minI_eq, maxI_eq, extract_0, extract_1, extract_2, eqlI, neqI, makeFunc_eq, decide_true, decide_false, if_true, if_false, Bool.false_eq_true, Bool.not_true, Bool.not_false, reduceIte, List.getElem?_toArray, List.getElem?_cons_zero, List.getElem?_cons_succ, Option.isSome_none, List.length_map]
      refine two_w S6 (by omega) _ fun h7 F7 x7 e7 S7 K7 => ?_
      have l7 := wTwo_len x6 m.torn
      rw [← e7] at l7
      have ei : IntKind.i64.wrap ((i : Int) + 1) = ((i + 1 : Nat) : Int) := by rw [i64_wrap (by omega) (by omega)]; omega
      simp only [ei, popO_some, bindH_eq, condV_bool, condV_true, condV_false, yV_bool, gopV_tt, gopV_ff, gopV_tf, gopV_ft, pickV_t, pickV_f, pickV_bool, nilS_ptr, add_eq, sub_eq, mul_eq, lss_eq, leq_eq, gtr_eq, geq_eq, not_eq, minI_eq, maxI_eq, extract_0, extract_1, extract_2, eqlI, neqI, makeFunc_eq, decide_true, decide_false, if_true, if_false, Bool.false_eq_true, Bool.not_true, Bool.not_false, reduceIte, List.getElem?_toArray, List.getElem?_cons_zero, List.getElem?_cons_succ, Option.isSome_none, List.length_map]
      refine ⟨⟨i + 1, x7, F7, by omega, rfl, S7, ?_, by omega⟩, by simp [upTo, e15]; omega⟩
      rw [← hx, List.drop_eq_getElem_cons hlt]
      have : A.writes[i] = m := by rw [List.getElem?_eq_getElem hlt] at hm; exact Option.some.inj hm
      rw [this]
      show _ = wWrs (A.writes.drop (i + 1)) (wTwo (wByte x (if m.lasts then 1 else 0)) m.torn)
      rw [e7, e6]
    simp only [T_api_Write.f0, Nat.zero_add, T_bool.load, c0, popO_some, bindH_eq, condV_bool, condV_true, condV_false, yV_bool, gopV_tt, gopV_ff, gopV_tf, gopV_ft, pickV_t, pickV_f, pickV_bool, nilS_ptr, add_eq, sub_eq, mul_eq, lss_eq, leq_eq, gtr_eq, geq_eq, not_eq, minI_eq, maxI_eq, extract_0, extract_1, extract_2, eqlI, neqI, makeFunc_eq, decide_true, decide_false, if_true, if_false, Bool.false_eq_true, Bool.not_true, Bool.not_false, reduceIte, List.getElem?_toArray, List.getElem?_cons_zero, List.getElem?_cons_succ, Option.isSome_none, List.length_map]
    cases hb : m.lasts with
    | true => rw [hb] at go; exact go
    | false => rw [hb] at go; exact go
  · have hd : ((i : Int) < (A.writes.length : Int)) = False := by apply eq_false; omega
    simp only [hd, popO_some, bindH_eq, condV_bool, condV_true, condV_false, yV_bool, gopV_tt, gopV_ff, gopV_tf, gopV_ft, pickV_t, pickV_f, pickV_bool, nilS_ptr, add_eq, sub_eq, mul_eq, lss_eq, leq_eq, gtr_eq, geq_eq, not_eq, minI_eq, maxI_eq, extract_0, extract_1, extract_2, eqlI, neqI, makeFunc_eq, decide_true, decide_false, if_true, if_false, Bool.false_eq_true, Bool.not_true, Bool.not_false, reduceIte, List.getElem?_toArray, List.getElem?_cons_zero, List.getElem?_cons_succ, Option.isSome_none, List.length_map]
    have hi' : A.writes.drop i = [] := List.drop_eq_nil_of_le (by omega)
    rw [hi'] at hx
    rw [← hx] at hk
    exact hk h' F' S'
end Go.Proofs.Ytflgnfiebgcegaa
