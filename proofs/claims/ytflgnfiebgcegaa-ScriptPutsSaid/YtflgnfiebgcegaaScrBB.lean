/- script: the law ScriptBack. -/
import Derived.Test.YtflgnfiebgcegaaScrB
set_option linter.unusedSimpArgs false
set_option linter.unusedVariables false
namespace Go.Proofs.Ytflgnfiebgcegaa
open Go
set_option maxRecDepth 20000
theorem wWrs_len : ∀ (ws : List Wr) (st : Stt), (wWrs ws st).2.length ≤ st.2.length + 3 * ws.length
  | [], st => by simp [wWrs]
  | w :: ws, st => by
    have h1 := wWrs_len ws (wTwo (wByte st (if w.lasts then 1 else 0)) w.torn)
    have h2 := wTwo_len (wByte st (if w.lasts then 1 else 0)) w.torn
    have h3 := wByte_len st (if w.lasts then 1 else 0)
    simp only [wWrs, List.length_cons]; omega
theorem pAct_len (K : Nat) (A : Act) (st : Stt) : (pAct K A st).2.length ≤ st.2.length + 140000 + 3 * A.writes.length := by
  unfold pAct
  split
  · have h1 := wText_len (wNum (wByte st A.chain) A.timeout) A.data
    have h2 := wNum_len (wByte st A.chain) A.timeout
    have h3 := wByte_len st A.chain
    omega
  · have h3 := wByte_len st A.chain; omega
  · omega
  · unfold pForge
    have a1 := wByte_len st A.msg.kind
    have a2 := wByte_len (wByte st A.msg.kind) A.msg.dest
    generalize wByte (wByte st A.msg.kind) A.msg.dest = s2 at *
    have a3 := wNum_len s2 A.msg.height
    generalize wNum s2 A.msg.height = s3 at *
    have a4 := wByte_len s3 A.msg.pfrom
    generalize wByte s3 A.msg.pfrom = s4 at *
    have a5 := wNum_len s4 A.msg.pseq
    generalize wNum s4 A.msg.pseq = s5 at *
    have a6 := wNum_len s5 A.msg.ptimeout
    generalize wNum s5 A.msg.ptimeout = s6 at *
    have a7 := wText_len s6 A.msg.pdata
    generalize wText s6 A.msg.pdata = s7 at *
    have a8 := wText_len s7 A.msg.proof
    omega
  · have h1 := wWrs_len A.writes (wByte st A.writes.length)
    have h3 := wByte_len st A.writes.length
    omega
  · have h3 := wByte_len st A.n; omega
theorem putA_len (A : Act) : (putA A).1.length ≤ 140001 + 3 * A.writes.length := by
  unfold putA
  split
  · simp
  · unfold wBytes
    split
    · have h1 := pAct_len A.kind.toNat A (wByte (0, []) A.kind)
      have h2 := wByte_len (0, []) A.kind
      simp only [List.length_nil] at h2
      simp only; omega
    · simp
theorem wNums_len : ∀ (ns : List Nat) (st : Stt), (wNums ns st).2.length ≤ st.2.length + 8 * ns.length
  | [], st => by simp [wNums]
  | n :: ns, st => by
    have h1 := wNums_len ns (wNum st n)
    have h2 := wNum_len st n
    simp only [wNums, List.length_cons]; omega
theorem putC_len (c : Cfg) : (putC c).1.length ≤ 100 := by
  unfold putC wBytes
  split
  · unfold pCfg
    have a1 := wByte_len (0, []) c.table
    generalize wByte (0, []) c.table = s1 at *
    have a2 := wByte_len s1 c.batch
    generalize wByte s1 c.batch = s2 at *
    have a3 := wByte_len s2 c.scan
    generalize wByte s2 c.scan = s3 at *
    have a4 := wTwo_len s3 c.sector
    generalize wTwo s3 c.sector = s4 at *
    have a5 := wTwo_len s4 c.sectors
    generalize wTwo s4 c.sectors = s5 at *
    have a6 := wNums_len (nums4 c) s5
    simp only [nums4, List.length_cons, List.length_nil] at a1 a6
    simp only [nums4]
    omega
  · simp
def fewA (A : Act) : Prop := A.data.length ≤ 70000 ∧ A.msg.proof.length ≤ 70000 ∧ A.msg.pdata.length ≤ 70000 ∧ A.writes.length ≤ 600
theorem ABox.proof {h : PH} {r : Nat} {A : Act} {v : Value} (H : ABox h r A v) : cellH h ⟨r, 12, none⟩ = some (.string (tx A.msg.proof)) := by simp [cellH, H.here, Act.cells, Msg.cells]
theorem ABox.pdata {h : PH} {r : Nat} {A : Act} {v : Value} (H : ABox h r A v) : cellH h ⟨r, 11, none⟩ = some (.string (tx A.msg.pdata)) := by simp [cellH, H.here, Act.cells, Msg.cells]
theorem few_ok {h : PH} {A : Act} {v : Value} (hv : SlR h 2 v (A.writes.map Wr.cells)) {k : Value → PH → Prop} (hk : ∀ h' b, (b = true ↔ fewA A) → Ext h h' → k (.bool b) h') : CallsH PG id_carracklaw23_few #[.agg (A.cells v).toArray] h k := by
  apply carracklaw23_few.call
  unfold carracklaw23_few
  intro r1 hr1
  try rw [bindH_eq]
  have u1 : Ext h (h.set r1 (.cells (Value.agg (A.cells v).toArray).cells T_api_Act)) := Upd.new hr1
  have B1 : ABox (h.set r1 (.cells (Value.agg (A.cells v).toArray).cells T_api_Act)) r1 A v := ⟨set_same⟩
  generalize h.set r1 (.cells (Value.agg (A.cells v).toArray).cells T_api_Act) = h1 at *
  have lv := hv.len (t' := T_int) T_sl_api_Write.und
  rw [List.length_map] at lv
  have no : ¬ fewA A → k (.bool false) h1 := fun h => hk h1 false ⟨fun e => (by cases e), fun e => absurd e h⟩ u1
  by_cases e1 : A.data.length ≤ 70000
  rotate_left
  · have q : ((A.data.length : Int) ≤ 70000) = False := by apply eq_false; omega
    simp only [T_api_Act.f3, Nat.zero_add, T_string.load, B1.c3, T_string.len, tx_size, q, popO_some, bindH_eq, condV_bool, condV_true, condV_false, yV_bool, gopV_tt, gopV_ff, gopV_tf, gopV_ft, pickV_t, pickV_f, pickV_bool, nilS_ptr, add_eq, sub_eq, mul_eq, lss_eq, leq_eq, gtr_eq, geq_eq, not_eq, minI_eq, maxI_eq, extract_0, extract_1, extract_2, eqlI, neqI, makeFunc_eq, decide_true, decide_false, if_true, if_false, Bool.false_eq_true, Bool.not_true, Bool.not_false, reduceIte, List.getElem?_toArray, List.getElem?_cons_zero, List.getElem?_cons_succ, Option.isSome_none, List.length_map]
    exact no fun h => e1 h.1
  have q1 : ((A.data.length : Int) ≤ 70000) = True := by apply eq_true; omega
  by_cases e2 : A.msg.proof.length ≤ 70000
  rotate_left
  · have q : ((A.msg.proof.length : Int) ≤ 70000) = False := by apply eq_false; omega
    simp only [T_api_Act.f3, T_api_Act.f5, T_api_Message.f4, Nat.zero_add, Nat.reduceAdd, T_string.load, B1.c3, B1.proof, T_string.len, tx_size, q1, q, popO_some, bindH_eq, condV_bool, condV_true, condV_false, yV_bool, gopV_tt, gopV_ff, gopV_tf, gopV_ft, pickV_t, pickV_f, pickV_bool, nilS_ptr, add_eq, sub_eq, mul_eq, lss_eq, leq_eq, gtr_eq, geq_eq, not_eq, minI_eq, maxI_eq, extract_0, extract_1, extract_2, eqlI, neqI, makeFunc_eq, decide_true, decide_false, if_true, if_false, Bool.false_eq_true, Bool.not_true, Bool.not_false, reduceIte, List.getElem?_toArray, List.getElem?_cons_zero, List.getElem?_cons_succ, Option.isSome_none, List.length_map]
    exact no fun h => e2 h.2.1
  have q2 : ((A.msg.proof.length : Int) ≤ 70000) = True := by apply eq_true; omega
  by_cases e3 : A.msg.pdata.length ≤ 70000
  rotate_left
  · have q : ((A.msg.pdata.length : Int) ≤ 70000) = False := by apply eq_false; omega
    simp only [T_api_Act.f3, T_api_Act.f5, T_api_Message.f4, T_api_Message.f3, T_api_Packet.f3, Nat.zero_add, Nat.reduceAdd, T_string.load, B1.c3, B1.proof, B1.pdata, T_string.len, tx_size, q1, q2, q, popO_some, bindH_eq, condV_bool, condV_true, condV_false, yV_bool, gopV_tt, gopV_ff, gopV_tf, gopV_ft, pickV_t, pickV_f, pickV_bool, nilS_ptr, add_eq, sub_eq, mul_eq, lss_eq, leq_eq, gtr_eq, geq_eq, not_eq, minI_eq, maxI_eq, extract_0, extract_1, extract_2, eqlI, neqI, makeFunc_eq, decide_true, decide_false, if_true, if_false, Bool.false_eq_true, Bool.not_true, Bool.not_false, reduceIte, List.getElem?_toArray, List.getElem?_cons_zero, List.getElem?_cons_succ, Option.isSome_none, List.length_map]
    exact no fun h => e3 h.2.2.1
  have q3 : ((A.msg.pdata.length : Int) ≤ 70000) = True := by apply eq_true; omega
  by_cases e4 : A.writes.length ≤ 600
  · have q : ((A.writes.length : Int) ≤ 600) = True := by apply eq_true; omega
    simp only [T_api_Act.f3, T_api_Act.f5, T_api_Act.f6, T_api_Message.f4, T_api_Message.f3, T_api_Packet.f3, Nat.zero_add, Nat.reduceAdd, T_string.load, T_sl_api_Write.load, B1.field6, lv, B1.c3, B1.proof, B1.pdata, T_string.len, tx_size, q1, q2, q3, q, popO_some, bindH_eq, condV_bool, condV_true, condV_false, yV_bool, gopV_tt, gopV_ff, gopV_tf, gopV_ft, pickV_t, pickV_f, pickV_bool, nilS_ptr, add_eq, sub_eq, mul_eq, lss_eq, leq_eq, gtr_eq, geq_eq, not_eq, minI_eq, maxI_eq, extract_0, extract_1, extract_2, eqlI, neqI, makeFunc_eq, decide_true, decide_false, if_true, if_false, Bool.false_eq_true, Bool.not_true, Bool.not_false, reduceIte, List.getElem?_toArray, List.getElem?_cons_zero, List.getElem?_cons_succ, Option.isSome_none, List.length_map]
    exact hk h1 true ⟨fun _ => ⟨e1, e2, e3, e4⟩, fun _ => rfl⟩ u1
  · have q : ((A.writes.length : Int) ≤ 600) = False := by apply eq_false; omega
    simp only [T_api_Act.f3, T_api_Act.f5, T_api_Act.f6, T_api_Message.f4, T_api_Message.f3, T_api_Packet.f3, Nat.zero_add, Nat.reduceAdd, T_string.load, T_sl_api_Write.load, B1.field6, lv, B1.c3, B1.proof, B1.pdata, T_string.len, tx_size, q1, q2, q3, q, popO_some, bindH_eq, condV_bool, condV_true, condV_false, yV_bool, gopV_tt, gopV_ff, gopV_tf, gopV_ft, pickV_t, pickV_f, pickV_bool, nilS_ptr, add_eq, sub_eq, mul_eq, lss_eq, leq_eq, gtr_eq, geq_eq, not_eq, minI_eq, maxI_eq, extract_0, extract_1, extract_2, eqlI, neqI, makeFunc_eq, decide_true, decide_false, if_true, if_false, Bool.false_eq_true, Bool.not_true, Bool.not_false, reduceIte, List.getElem?_toArray, List.getElem?_cons_zero, List.getElem?_cons_succ, Option.isSome_none, List.length_map]
    exact no fun h => e4 h.2.2.2
/-! ### acts in a slice -/
abbrev AcV := Act × Value
def arow (p : AcV) : List Value := p.1.cells p.2
def AcS (h : PH) (l : List AcV) : Prop := ∀ p ∈ l, SlR h 2 p.2 (p.1.writes.map Wr.cells) ∧ ActOk p.1
theorem SlR.act {h : PH} {x : Value} {l : List AcV} (H : SlR h 14 x (l.map arow)) {k : IntKind} {j : Nat} {p : AcV} (hp : l[j]? = some p) :
    ∃ a, SemP PG (Instr.indexAt T_sl_api_Act x (.int k j)) = some (.pointer (some a)) ∧ SemE PG h (Instr.loadAt T_api_Act (.pointer (some a))) = some (.agg (p.1.cells p.2).toArray) :=
  H.loadAgg T_sl_api_Act.und T_api_Act.info T_api_Act.size T_api_Act.und rfl (by omega) (by rw [List.getElem?_map, Int.toNat_natCast, hp]; rfl)
theorem kept_app {h : PH} {v : Value} {xs : List EnV} {F : List Nat} (hO : OwnR h T_carrackref23_Entry 15 v (xs.map erow) F) (hl : xs.length ≤ 100000000) (p : EnV) (hc : isCell p.2 = true) {k : Value → PH → Prop}
    (hk : ∀ v' h' F', OwnR h' T_carrackref23_Entry 15 v' ((xs ++ [p]).map erow) F' → Upd F h h' → (∀ b ∈ F', b ∈ F ∨ h b = none) → k v' h') {r : Nat} (hr : h r = none) :
    SemH PG (Builtin.append_ #[T_sl_carrackref23_Entry, T_sl_carrackref23_Entry] T_sl_carrackref23_Entry #[v, .slice (some ⟨r, 0, none⟩) 1 1]) (h.set r (.cells (erow p).toArray T_carrackref23_Entry)) k := by
  have u1 : Ext h (h.set r (.cells (erow p).toArray T_carrackref23_Entry)) := Upd.new hr
  have s1 : SlR (h.set r (.cells (erow p).toArray T_carrackref23_Entry)) 15 (.slice (some ⟨r, 0, none⟩) 1 1) ([p].map erow) := (OwnR.lit (erow.rows [p]) set_same (by simp) (by decide) (by simp)).slR
  have hcell : ∀ r ∈ [p].map erow, ∀ u ∈ r, isCell u = true := fun r hr u hu => by
    simp only [List.map_cons, List.map_nil, List.mem_cons, List.not_mem_nil, or_false] at hr
    subst hr
    simp only [erow, Act.cells, Msg.cells, List.cons_append, List.nil_append, List.mem_cons, List.not_mem_nil, or_false] at hu
    rcases hu with rfl | rfl | rfl | rfl | rfl | rfl | rfl | rfl | rfl | rfl | rfl | rfl | rfl | rfl | rfl <;> first | rfl | exact hc
  refine append_own T_sl_carrackref23_Entry.und T_sl_carrackref23_Entry.und T_carrackref23_Entry.info T_carrackref23_Entry.size T_carrackref23_Entry.bytes T_carrackref23_Entry.zero rfl (by decide) (hO.ext u1) s1 hcell (by simp; omega) ?_
  intro v2 h2 F2 hO2 u2 k2 _
  rw [← List.map_append] at hO2
  refine hk v2 h2 F2 hO2 (u1.upd.trans u2) fun b hb => ?_
  rcases k2 b hb with h' | h'
  · exact .inl h'
  · exact .inr (u1.none h')
theorem tx0 : (⟨#[]⟩ : ByteArray) = tx [] := rfl
set_option maxHeartbeats 2000000 in
theorem ScriptBack_ok {h : PH} {x : Value} {l : List AcV} {c : Cfg} {more : List UInt8} (hx : SlR h 14 x (l.map arow)) (hl : AcS h l) (hc : CfgOk c) {k : Value → PH → Prop} (hk : ∀ h', Ext h h' → k (.bool true) h') :
    CallsH PG id_carracklaw23_ScriptBack #[x, .agg c.cells.toArray, .string (tx more)] h k := by
  have lx := hx.len (t' := T_int) T_sl_api_Act.und
  rw [List.length_map] at lx
  apply carracklaw23_ScriptBack.call
  unfold carracklaw23_ScriptBack
  intro r1 hr1
  try rw [bindH_eq]
  have u1 : Ext h (h.set r1 (.cells (Value.agg c.cells.toArray).cells T_api_Config)) := Upd.new hr1
  have B1 : CBox (h.set r1 (.cells (Value.agg c.cells.toArray).cells T_api_Config)) r1 c := ⟨set_same⟩
  generalize h.set r1 (.cells (Value.agg c.cells.toArray).cells T_api_Config) = h1 at *
  refine awake23_ok fun h2 u2 => ?_
  have w2 := u1.trans u2
  have B2 := B1.ext u2
  by_cases c1 : 60 < l.length
  · have q : ((60 : Int) < (l.length : Int)) = True := by apply eq_true; omega
    simp only [lx, q, popO_some, bindH_eq, condV_bool, condV_true, condV_false, yV_bool, gopV_tt, gopV_ff, gopV_tf, gopV_ft, pickV_t, pickV_f, pickV_bool, nilS_ptr, add_eq, sub_eq, mul_eq, lss_eq, leq_eq, gtr_eq, geq_eq, not_eq, minI_eq, maxI_eq, extract_0, extract_1, extract_2, eqlI, neqI, makeFunc_eq, decide_true, decide_false, if_true, if_false, Bool.false_eq_true, Bool.not_true, Bool.not_false, reduceIte, List.getElem?_toArray, List.getElem?_cons_zero, List.getElem?_cons_succ, Option.isSome_none, List.length_map]
    exact hk _ w2
  have q1 : ((60 : Int) < (l.length : Int)) = False := by apply eq_false; omega
  by_cases c2 : 1000 < more.length
  · have q : ((1000 : Int) < (more.length : Int)) = True := by apply eq_true; omega
    simp only [lx, q1, T_string.len, tx_size, q, popO_some, bindH_eq, condV_bool, condV_true, condV_false, yV_bool, gopV_tt, gopV_ff, gopV_tf, gopV_ft, pickV_t, pickV_f, pickV_bool, nilS_ptr, add_eq, sub_eq, mul_eq, lss_eq, leq_eq, gtr_eq, geq_eq, not_eq, minI_eq, maxI_eq, extract_0, extract_1, extract_2, eqlI, neqI, makeFunc_eq, decide_true, decide_false, if_true, if_false, Bool.false_eq_true, Bool.not_true, Bool.not_false, reduceIte, List.getElem?_toArray, List.getElem?_cons_zero, List.getElem?_cons_succ, Option.isSome_none, List.length_map]
    exact hk _ w2
  have q2 : ((1000 : Int) < (more.length : Int)) = False := by apply eq_false; omega
  simp only [lx, q1, T_string.len, tx_size, q2, popO_some, bindH_eq, condV_bool, condV_true, condV_false, yV_bool, gopV_tt, gopV_ff, gopV_tf, gopV_ft, pickV_t, pickV_f, pickV_bool, nilS_ptr, add_eq, sub_eq, mul_eq, lss_eq, leq_eq, gtr_eq, geq_eq, not_eq, minI_eq, maxI_eq, extract_0, extract_1, extract_2, eqlI, neqI, makeFunc_eq, decide_true, decide_false, if_true, if_false, Bool.false_eq_true, Bool.not_true, Bool.not_false, reduceIte, List.getElem?_toArray, List.getElem?_cons_zero, List.getElem?_cons_succ, Option.isSome_none, List.length_map]
  refine ⟨fun vs h' => ∃ (i : Nat) (text : List UInt8) (v : Value) (F : List Nat) (ps : List EnV), i ≤ l.length ∧ vs = [x, .string (tx more), .pointer (some ⟨r1, 0, none⟩), .string (tx text), v, .int .i64 i] ∧ Ext h2 h' ∧ OwnR h' T_carrackref23_Entry 15 v (ps.map erow) F ∧ Fresh h2 F ∧ EnS h ps ∧ ps.length ≤ i ∧ text.length ≤ 150000 * i ∧ (∀ rest, entL (text ++ rest) = ps.map Prod.fst ++ entL rest), upTo l.length 5, ⟨0, [], _, [], [], by omega, rfl, Upd.refl, OwnR.nil, (fun b hb => by cases hb), (fun p hp => by cases hp), by simp, by simp, fun rest => rfl⟩, ?_⟩
  rintro ρ h' ⟨i, text, v, F, ps, hi, hvs, w, hO, f, hE, hpl, htl, hps⟩
  simp only [List.map_cons, List.map_nil, List.cons.injEq, and_true] at hvs
  obtain ⟨e0, e2, e4, e7, e8, e9⟩ := hvs
  simp only [e0, e2, e4, e7, e8, e9]
  unfold carracklaw23_ScriptBack_b21
  by_cases hlt : i < l.length
  · have hd : ((i : Int) < (l.length : Int)) = True := by apply eq_true; omega
    obtain ⟨p, hp⟩ : ∃ p, l[i]? = some p := ⟨_, List.getElem?_eq_getElem hlt⟩
    obtain ⟨hpv, hpo⟩ := hl p (List.mem_of_getElem? hp)
    have ww := w2.trans w
    obtain ⟨a, a1, a2⟩ := (hx.ext ww).act (k := .i64) hp
    simp only [lx, hd, a1, a2, popO_some, bindH_eq, condV_bool, condV_true, condV_false, yV_bool, gopV_tt, gopV_ff, gopV_tf, gopV_ft, pickV_t, pickV_f, pickV_bool, nilS_ptr, add_eq, sub_eq, mul_eq, lss_eq, leq_eq, gtr_eq, geq_eq, not_eq, minI_eq, maxI_eq, extract_0, extract_1, extract_2, eqlI, neqI, makeFunc_eq, decide_true, decide_false, if_true, if_false, Bool.false_eq_true, Bool.not_true, Bool.not_false, reduceIte, List.getElem?_toArray, List.getElem?_cons_zero, List.getElem?_cons_succ, Option.isSome_none, List.length_map]
    refine few_ok (hpv.ext ww) fun h3 b hb u3 => ?_
    cases b with
    | false =>
      simp only [popO_some, bindH_eq, condV_bool, condV_true, condV_false, yV_bool, gopV_tt, gopV_ff, gopV_tf, gopV_ft, pickV_t, pickV_f, pickV_bool, nilS_ptr, add_eq, sub_eq, mul_eq, lss_eq, leq_eq, gtr_eq, geq_eq, not_eq, minI_eq, maxI_eq, extract_0, extract_1, extract_2, eqlI, neqI, makeFunc_eq, decide_true, decide_false, if_true, if_false, Bool.false_eq_true, Bool.not_true, Bool.not_false, reduceIte, List.getElem?_toArray, List.getElem?_cons_zero, List.getElem?_cons_succ, Option.isSome_none, List.length_map]
      exact hk _ (ww.trans u3)
    | true =>
      have hf := hb.1 rfl
      obtain ⟨a', a1', a2'⟩ := (hx.ext (ww.trans u3)).act (k := .i64) hp
      obtain rfl : a = a' := by rw [a1] at a1'; cases a1'; rfl
      simp only [a2', popO_some, bindH_eq, condV_bool, condV_true, condV_false, yV_bool, gopV_tt, gopV_ff, gopV_tf, gopV_ft, pickV_t, pickV_f, pickV_bool, nilS_ptr, add_eq, sub_eq, mul_eq, lss_eq, leq_eq, gtr_eq, geq_eq, not_eq, minI_eq, maxI_eq, extract_0, extract_1, extract_2, eqlI, neqI, makeFunc_eq, decide_true, decide_false, if_true, if_false, Bool.false_eq_true, Bool.not_true, Bool.not_false, reduceIte, List.getElem?_toArray, List.getElem?_cons_zero, List.getElem?_cons_succ, Option.isSome_none, List.length_map]
      have hlen := putA_len p.1
      have hf4 := hf.2.2.2
      refine Put_ok hpo (hpv.ext (ww.trans u3)) (by omega) fun h4 u4 => ?_
      have w4 := (w.trans u3).trans u4
      have ei : IntKind.i64.wrap ((i : Int) + 1) = ((i + 1 : Nat) : Int) := by rw [i64_wrap (by omega) (by omega)]; omega
      have hO4 := (hO.ext u3).ext u4
      by_cases hz : (putA p.1).2 = 0
      · have q : ((putA p.1).2 == 0) = true := by simp [hz]
        obtain ⟨a'', a1'', a2''⟩ := (hx.ext (w2.trans w4)).act (k := .i64) hp
        obtain rfl : a = a'' := by rw [a1] at a1''; cases a1''; rfl
        have eadd := add_tx (P := PG) (t := T_string) (a := text) (b := (putA p.1).1) (by omega)
        simp only [q, a2'', eadd, rentA_build, rentA_lit, popO_some, bindH_eq, condV_bool, condV_true, condV_false, yV_bool, gopV_tt, gopV_ff, gopV_tf, gopV_ft, pickV_t, pickV_f, pickV_bool, nilS_ptr, add_eq, sub_eq, mul_eq, lss_eq, leq_eq, gtr_eq, geq_eq, not_eq, minI_eq, maxI_eq, extract_0, extract_1, extract_2, eqlI, neqI, makeFunc_eq, decide_true, decide_false, if_true, if_false, Bool.false_eq_true, Bool.not_true, Bool.not_false, reduceIte, List.getElem?_toArray, List.getElem?_cons_zero, List.getElem?_cons_succ, Option.isSome_none, List.length_map]
        intro r hr
        refine popO_pure ?_
        refine kept_app hO4 (by omega) (⟨p.1, 0⟩, p.2) hpv.cell (fun v5 h5 F5 hO5 u5 k5 => ?_) hr
        unfold carracklaw23_ScriptBack_k46 carracklaw23_ScriptBack_k47
        have hback := put_back hpo (bs := (putA p.1).1) (by rw [← hz])
        simp only [ei, popO_some, bindH_eq, condV_bool, condV_true, condV_false, yV_bool, gopV_tt, gopV_ff, gopV_tf, gopV_ft, pickV_t, pickV_f, pickV_bool, nilS_ptr, add_eq, sub_eq, mul_eq, lss_eq, leq_eq, gtr_eq, geq_eq, not_eq, minI_eq, maxI_eq, extract_0, extract_1, extract_2, eqlI, neqI, makeFunc_eq, decide_true, decide_false, if_true, if_false, Bool.false_eq_true, Bool.not_true, Bool.not_false, reduceIte, List.getElem?_toArray, List.getElem?_cons_zero, List.getElem?_cons_succ, Option.isSome_none, List.length_map]
        refine ⟨⟨i + 1, text ++ (putA p.1).1, v5, F5, _, by omega, rfl, w4.fresh u5 f, hO5, f.grow w4 k5, ?_, by simp; omega, by simp; omega, ?_⟩, by simp [upTo, e9]; omega⟩
        · intro y hy
          rcases List.mem_append.1 hy with h1 | h1
          · exact hE y h1
          · simp only [List.mem_cons, List.not_mem_nil, or_false] at h1
            subst h1; exact hpv
        · intro rest
          rw [List.append_assoc, hps, hback, List.map_append, List.append_assoc]; rfl
      · have q : ((putA p.1).2 == 0) = false := by simp [hz]
        simp only [q, popO_some, bindH_eq, condV_bool, condV_true, condV_false, yV_bool, gopV_tt, gopV_ff, gopV_tf, gopV_ft, pickV_t, pickV_f, pickV_bool, nilS_ptr, add_eq, sub_eq, mul_eq, lss_eq, leq_eq, gtr_eq, geq_eq, not_eq, minI_eq, maxI_eq, extract_0, extract_1, extract_2, eqlI, neqI, makeFunc_eq, decide_true, decide_false, if_true, if_false, Bool.false_eq_true, Bool.not_true, Bool.not_false, reduceIte, List.getElem?_toArray, List.getElem?_cons_zero, List.getElem?_cons_succ, Option.isSome_none, List.length_map]
        unfold carracklaw23_ScriptBack_k46 carracklaw23_ScriptBack_k47
        simp only [ei, popO_some, bindH_eq, condV_bool, condV_true, condV_false, yV_bool, gopV_tt, gopV_ff, gopV_tf, gopV_ft, pickV_t, pickV_f, pickV_bool, nilS_ptr, add_eq, sub_eq, mul_eq, lss_eq, leq_eq, gtr_eq, geq_eq, not_eq, minI_eq, maxI_eq, extract_0, extract_1, extract_2, eqlI, neqI, makeFunc_eq, decide_true, decide_false, if_true, if_false, Bool.false_eq_true, Bool.not_true, Bool.not_false, reduceIte, List.getElem?_toArray, List.getElem?_cons_zero, List.getElem?_cons_succ, Option.isSome_none, List.length_map]
        exact ⟨⟨i + 1, text, v, F, ps, by omega, rfl, w4, hO4, f, hE, by omega, by omega, hps⟩, by simp [upTo, e9]; omega⟩
  · have hd : ((i : Int) < (l.length : Int)) = False := by apply eq_false; omega
    have hps0 := hps []
    rw [List.append_nil, entL_nil, List.append_nil] at hps0
    simp only [lx, hd, popO_some, bindH_eq, condV_bool, condV_true, condV_false, yV_bool, gopV_tt, gopV_ff, gopV_tf, gopV_ft, pickV_t, pickV_f, pickV_bool, nilS_ptr, add_eq, sub_eq, mul_eq, lss_eq, leq_eq, gtr_eq, geq_eq, not_eq, minI_eq, maxI_eq, extract_0, extract_1, extract_2, eqlI, neqI, makeFunc_eq, decide_true, decide_false, if_true, if_false, Bool.false_eq_true, Bool.not_true, Bool.not_false, reduceIte, List.getElem?_toArray, List.getElem?_cons_zero, List.getElem?_cons_succ, Option.isSome_none, List.length_map]
    have ww := w2.trans w
    refine Entries_ok text (by omega) fun v3 h3 F3 qs hO3 hE3 hp3 u3 f3 => ?_
    refine entries_ok hO3.slR (hO.slR.ext u3) hE3.ws ((hE.ext ww).ext u3) fun h4 u4 => ?_
    have e : decide (qs.map Prod.fst = ps.map Prod.fst) = true := by rw [hp3, hps0]; simp
    have B4 := ((B2.ext w).ext u3).ext u4
    simp only [e, B4.load, popO_some, bindH_eq, condV_bool, condV_true, condV_false, yV_bool, gopV_tt, gopV_ff, gopV_tf, gopV_ft, pickV_t, pickV_f, pickV_bool, nilS_ptr, add_eq, sub_eq, mul_eq, lss_eq, leq_eq, gtr_eq, geq_eq, not_eq, minI_eq, maxI_eq, extract_0, extract_1, extract_2, eqlI, neqI, makeFunc_eq, decide_true, decide_false, if_true, if_false, Bool.false_eq_true, Bool.not_true, Bool.not_false, reduceIte, List.getElem?_toArray, List.getElem?_cons_zero, List.getElem?_cons_succ, Option.isSome_none, List.length_map]
    refine PutConfig_ok hc fun h5 u5 => ?_
    have w5 := ((ww.trans u3).trans u4).trans u5
    by_cases hz : (putC c).2 = 0
    · have q : ((putC c).2 != 0) = false := by simp [hz]
      have hback := putC_back hc (bs := (putC c).1) (by rw [← hz]) more
      have hcl := putC_len c
      have eadd := add_tx (P := PG) (t := T_string) (a := (putC c).1) (b := more) (by omega)
      simp only [q, eadd, popO_some, bindH_eq, condV_bool, condV_true, condV_false, yV_bool, gopV_tt, gopV_ff, gopV_tf, gopV_ft, pickV_t, pickV_f, pickV_bool, nilS_ptr, add_eq, sub_eq, mul_eq, lss_eq, leq_eq, gtr_eq, geq_eq, not_eq, minI_eq, maxI_eq, extract_0, extract_1, extract_2, eqlI, neqI, makeFunc_eq, decide_true, decide_false, if_true, if_false, Bool.false_eq_true, Bool.not_true, Bool.not_false, reduceIte, List.getElem?_toArray, List.getElem?_cons_zero, List.getElem?_cons_succ, Option.isSome_none, List.length_map]
      have hlen : ((putC c).1 ++ more).length ≤ 1000000000000 := by simp; omega
      refine Config_ok _ hlen fun h6 u6 => ?_
      rw [hback]
      simp only [popO_some, bindH_eq, condV_bool, condV_true, condV_false, yV_bool, gopV_tt, gopV_ff, gopV_tf, gopV_ft, pickV_t, pickV_f, pickV_bool, nilS_ptr, add_eq, sub_eq, mul_eq, lss_eq, leq_eq, gtr_eq, geq_eq, not_eq, minI_eq, maxI_eq, extract_0, extract_1, extract_2, eqlI, neqI, makeFunc_eq, decide_true, decide_false, if_true, if_false, Bool.false_eq_true, Bool.not_true, Bool.not_false, reduceIte, List.getElem?_toArray, List.getElem?_cons_zero, List.getElem?_cons_succ, Option.isSome_none, List.length_map]
      intro r7 hr7
      try rw [bindH_eq]
      refine put_cfg _ set_same (by rw [T_api_Config.zc]; rfl) fun h7 hC7 v7 => ?_
      have u7 : Ext h6 h7 := fun b o hb _ => v7 b o (set_old hr7 hb) (by simp; exact ne_new hb hr7)
      have B7 := ((B4.ext u5).ext u6).ext u7
      have ec : decide (c = c) = true := by simp
      have em : decide (more = more) = true := by simp
      simp only [hC7.load, B7.load, Cfg.eql, eqlS, ec, em, beq_self_eq_true, popO_some, bindH_eq, condV_bool, condV_true, condV_false, yV_bool, gopV_tt, gopV_ff, gopV_tf, gopV_ft, pickV_t, pickV_f, pickV_bool, nilS_ptr, add_eq, sub_eq, mul_eq, lss_eq, leq_eq, gtr_eq, geq_eq, not_eq, minI_eq, maxI_eq, extract_0, extract_1, extract_2, eqlI, neqI, makeFunc_eq, decide_true, decide_false, if_true, if_false, Bool.false_eq_true, Bool.not_true, Bool.not_false, reduceIte, List.getElem?_toArray, List.getElem?_cons_zero, List.getElem?_cons_succ, Option.isSome_none, List.length_map]
      exact hk _ ((w5.trans u6).trans u7)
    · have q : ((putC c).2 != 0) = true := by simp [hz]
      have e0 := putC_no hz
      have en : decide (([] : List UInt8) = []) = true := by simp
      simp only [q, e0, tx0, eqlS, en, popO_some, bindH_eq, condV_bool, condV_true, condV_false, yV_bool, gopV_tt, gopV_ff, gopV_tf, gopV_ft, pickV_t, pickV_f, pickV_bool, nilS_ptr, add_eq, sub_eq, mul_eq, lss_eq, leq_eq, gtr_eq, geq_eq, not_eq, minI_eq, maxI_eq, extract_0, extract_1, extract_2, eqlI, neqI, makeFunc_eq, decide_true, decide_false, if_true, if_false, Bool.false_eq_true, Bool.not_true, Bool.not_false, reduceIte, List.getElem?_toArray, List.getElem?_cons_zero, List.getElem?_cons_succ, Option.isSome_none, List.length_map]
      exact hk _ w5
end Go.Proofs.Ytflgnfiebgcegaa
