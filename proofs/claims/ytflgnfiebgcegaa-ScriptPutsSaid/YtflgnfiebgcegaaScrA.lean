/- script: acts, and how they are read by kinds. -/
import Derived.Test.YtflgnfiebgcegaaWirG
set_option linter.unusedSimpArgs false
set_option linter.unusedVariables false
namespace Go.Proofs.Ytflgnfiebgcegaa
open Go
set_option maxRecDepth 20000
structure Wr where
  lasts : Bool
  torn : Int
  deriving DecidableEq
def Wr.cells (m : Wr) : List Value := [.bool m.lasts, .int .i64 m.torn]
theorem Wr.rows (l : List Wr) : Rows 2 (l.map Wr.cells) := fun r hr => by
  obtain ⟨m, _, rfl⟩ := List.mem_map.1 hr; rfl
theorem Wr.isCell (l : List Wr) : ∀ r ∈ l.map Wr.cells, ∀ u ∈ r, isCell u = true := fun r hr u hu => by
  obtain ⟨m, _, rfl⟩ := List.mem_map.1 hr
  simp only [Wr.cells, List.mem_cons, List.not_mem_nil, or_false] at hu
  rcases hu with rfl | rfl <;> rfl
structure Msg where
  kind : Int
  dest : Int
  height : Nat
  pfrom : Int
  pseq : Nat
  ptimeout : Nat
  pdata : List UInt8
  proof : List UInt8
  deriving DecidableEq
def Msg.cells (m : Msg) : List Value := [.int .i64 m.kind, .int .i64 m.dest, .int .u64 m.height, .int .i64 m.pfrom, .int .u64 m.pseq, .int .u64 m.ptimeout, .string (tx m.pdata), .string (tx m.proof)]
def Msg.zero : Msg := ⟨0, 0, 0, 0, 0, 0, [], []⟩
structure Act where
  kind : Int
  chain : Int
  timeout : Nat
  data : List UInt8
  n : Int
  msg : Msg
  writes : List Wr
  deriving DecidableEq
def Act.zero (k : Int) : Act := ⟨k, 0, 0, [], 0, Msg.zero, []⟩
def Act.cells (A : Act) (v : Value) : List Value := [.int .i64 A.kind, .int .i64 A.chain, .int .u64 A.timeout, .string (tx A.data), .int .i64 A.n] ++ A.msg.cells ++ [v]
theorem Act.cellOk (A : Act) {v : Value} (hv : Go.Proofs.Ytflgnfiebgcegaa.isCell v = true) : ∀ u ∈ (A.cells v).toArray.toList, Go.Proofs.Ytflgnfiebgcegaa.isCell u = true := fun u hu => by
  simp only [Act.cells, Msg.cells, List.cons_append, List.nil_append, List.mem_cons, List.not_mem_nil, or_false] at hu
  rcases hu with rfl | rfl | rfl | rfl | rfl | rfl | rfl | rfl | rfl | rfl | rfl | rfl | rfl | rfl <;> first | rfl | exact hv
theorem act_build (k : Int) : SemP PG (Instr.build T_api_Act #[(0, .int .i64 k)]) = some (.agg ((Act.zero k).cells (.slice none 0 0)).toArray) := by kernel_rfl
/-- An act in a box of its own. -/
structure ABox (h : PH) (r : Nat) (A : Act) (v : Value) : Prop where
  here : h r = some (.cells (A.cells v).toArray T_api_Act (0, 0))
theorem ABox.upd {h h' : PH} {r : Nat} {A : Act} {v : Value} {G : List Nat} (H : ABox h r A v) (u : Upd G h h') (hd : r ∉ G) : ABox h' r A v := ⟨u.get H.here hd⟩
theorem ABox.ext {h h' : PH} {r : Nat} {A : Act} {v : Value} (H : ABox h r A v) (u : Ext h h') : ABox h' r A v := H.upd u (by simp)
theorem ABox.load {h : PH} {r : Nat} {A : Act} {v : Value} (H : ABox h r A v) : SemE PG h (Instr.loadAt T_api_Act (.pointer (some ⟨r, 0, none⟩))) = some (.agg (A.cells v).toArray) :=
  load_box T_api_Act.und rfl T_api_Act.info T_api_Act.size H.here rfl
theorem ABox.set {h : PH} {r i : Nat} {A A' : Act} {v v' x : Value} {t : TypeId} {d : TypeDesc} {inf : TypeInfo} (H : ABox h r A v) (hu : PG.underlying t = some d) (hd : flatD d = true) (hi : PG.info? t = some inf) (hn : inf.size = 1) (hlt : i < 14) (hx : isCell x = true)
    (he : (A.cells v).toArray.setIfInBounds i x = (A'.cells v').toArray) {k : Value → PH → Prop} (hk : ∀ h', ABox h' r A' v' → Upd [r] h h' → (∀ b, b ≠ r → h' b = h b) → k undef h') : SemH PG (storeS t (.pointer (some ⟨r, i, none⟩)) x) h k := by
  refine store_cell hu hd H.here (by show i < 14; exact hlt) hx hi hn ?_
  rw [he]
  exact hk _ ⟨set_same⟩ (Upd.set (by simp)) (fun b hb => set_other hb)
theorem put_act {h : PH} {r : Nat} (hr : h r = none) (A : Act) {v : Value} (hv : isCell v = true) {k : Value → PH → Prop} (hk : ∀ h', ABox h' r A v → Ext h h' → k undef h') :
    SemH PG (storeS T_api_Act (.pointer (some ⟨r, 0, none⟩)) (.agg (A.cells v).toArray)) (h.set r (.cells (zcells PG T_api_Act) T_api_Act)) k := by
  refine store_box set_same T_api_Act.info (by show 14 = 14; rfl) (by show 0 < 14; decide) (by rw [T_api_Act.zc]; rfl) (A.cellOk hv) ?_
  rw [set_set_same]
  exact hk _ ⟨set_same⟩ (Upd.new hr)

/-! ### the table of forms -/
def fn (f : FuncId) : Value := .func (.func f) #[] #[]
def formC (f g : FuncId) : Array Value := #[fn f, fn g]
theorem form_build (f g : FuncId) : SemP PG (Instr.build T_script_form #[(0, .func (.func f) #[] #[]), (1, .func (.func g) #[] #[])]) = some (.agg (formC f g)) := by kernel_rfl
theorem form_box {h : PH} {r : Nat} (hr : h r = none) (f g : FuncId) {k : Value → PH → Prop} (hk : ∀ h', SemE PG h' (Instr.loadAt T_script_form (.pointer (some ⟨r, 0, none⟩))) = some (.agg (formC f g)) → (∀ h2, Ext h' h2 → SemE PG h2 (Instr.loadAt T_script_form (.pointer (some ⟨r, 0, none⟩))) = some (.agg (formC f g))) → Ext h h' → k undef h') :
    SemH PG (storeS T_script_form (.pointer (some ⟨r, 0, none⟩)) (.agg (formC f g))) (h.set r (.cells (zcells PG T_script_form) T_script_form)) k := by
  refine store_box set_same T_script_form.info (by show 2 = 2; rfl) (by show 0 < 2; decide) (by rw [T_script_form.zc]; rfl) (by intro v hv; simp [formC, fn] at hv; rcases hv with rfl | rfl <;> rfl) ?_
  rw [set_set_same]
  exact hk _ (load_box T_script_form.und rfl T_script_form.info T_script_form.size set_same rfl) (fun h2 u => load_box T_script_form.und rfl T_script_form.info T_script_form.size (u.get set_same) rfl) (Upd.new hr)
theorem send_form {h : PH} {k : Value → PH → Prop} (hk : ∀ h', Ext h h' → k (.agg (formC id_script_send_1 id_script_send_2)) h') : CallsH PG id_script_send #[] h k := by
  apply script_send.call
  unfold script_send
  intro r hr
  simp only [form_build, popO_some, bindH_eq, condV_bool, condV_true, condV_false, yV_bool, gopV_tt, gopV_ff, gopV_tf, gopV_ft, pickV_t, pickV_f, pickV_bool, nilS_ptr, add_eq, sub_eq, mul_eq, lss_eq, leq_eq, gtr_eq, geq_eq, not_eq, minI_eq, maxI_eq, extract_0, extract_1, extract_2, eqlI, neqI, makeFunc_eq, decide_true, decide_false, if_true, if_false, Bool.false_eq_true, Bool.not_true, Bool.not_false, reduceIte, List.getElem?_toArray, List.getElem?_cons_zero, List.getElem?_cons_succ, Option.isSome_none, List.length_map]
  refine form_box hr _ _ fun h2 l2 _ u2 => ?_
  rw [l2]
  exact hk _ u2
theorem number_form {h : PH} {k : Value → PH → Prop} (hk : ∀ h', Ext h h' → k (.agg (formC id_script_number_1 id_script_number_2)) h') : CallsH PG id_script_number #[] h k := by
  apply script_number.call
  unfold script_number
  intro r hr
  simp only [form_build, popO_some, bindH_eq, condV_bool, condV_true, condV_false, yV_bool, gopV_tt, gopV_ff, gopV_tf, gopV_ft, pickV_t, pickV_f, pickV_bool, nilS_ptr, add_eq, sub_eq, mul_eq, lss_eq, leq_eq, gtr_eq, geq_eq, not_eq, minI_eq, maxI_eq, extract_0, extract_1, extract_2, eqlI, neqI, makeFunc_eq, decide_true, decide_false, if_true, if_false, Bool.false_eq_true, Bool.not_true, Bool.not_false, reduceIte, List.getElem?_toArray, List.getElem?_cons_zero, List.getElem?_cons_succ, Option.isSome_none, List.length_map]
  refine form_box hr _ _ fun h2 l2 _ u2 => ?_
  rw [l2]
  exact hk _ u2
theorem forge_form {h : PH} {k : Value → PH → Prop} (hk : ∀ h', Ext h h' → k (.agg (formC id_script_forge_1 id_script_forge_2)) h') : CallsH PG id_script_forge #[] h k := by
  apply script_forge.call
  unfold script_forge
  intro r hr
  simp only [form_build, popO_some, bindH_eq, condV_bool, condV_true, condV_false, yV_bool, gopV_tt, gopV_ff, gopV_tf, gopV_ft, pickV_t, pickV_f, pickV_bool, nilS_ptr, add_eq, sub_eq, mul_eq, lss_eq, leq_eq, gtr_eq, geq_eq, not_eq, minI_eq, maxI_eq, extract_0, extract_1, extract_2, eqlI, neqI, makeFunc_eq, decide_true, decide_false, if_true, if_false, Bool.false_eq_true, Bool.not_true, Bool.not_false, reduceIte, List.getElem?_toArray, List.getElem?_cons_zero, List.getElem?_cons_succ, Option.isSome_none, List.length_map]
  refine form_box hr _ _ fun h2 l2 _ u2 => ?_
  rw [l2]
  exact hk _ u2
theorem crash_form {h : PH} {k : Value → PH → Prop} (hk : ∀ h', Ext h h' → k (.agg (formC id_script_crash_1 id_script_crash_2)) h') : CallsH PG id_script_crash #[] h k := by
  apply script_crash.call
  unfold script_crash
  intro r hr
  simp only [form_build, popO_some, bindH_eq, condV_bool, condV_true, condV_false, yV_bool, gopV_tt, gopV_ff, gopV_tf, gopV_ft, pickV_t, pickV_f, pickV_bool, nilS_ptr, add_eq, sub_eq, mul_eq, lss_eq, leq_eq, gtr_eq, geq_eq, not_eq, minI_eq, maxI_eq, extract_0, extract_1, extract_2, eqlI, neqI, makeFunc_eq, decide_true, decide_false, if_true, if_false, Bool.false_eq_true, Bool.not_true, Bool.not_false, reduceIte, List.getElem?_toArray, List.getElem?_cons_zero, List.getElem?_cons_succ, Option.isSome_none, List.length_map]
  refine form_box hr _ _ fun h2 l2 _ u2 => ?_
  rw [l2]
  exact hk _ u2
def formsC : Array Value := #[fn id_script_send_1, fn id_script_send_2, fn id_script_forms_1, fn id_script_forms_2, fn id_script_forms_3, fn id_script_forms_4, fn id_script_number_1, fn id_script_number_2, fn id_script_number_1, fn id_script_number_2, fn id_script_number_1, fn id_script_number_2, fn id_script_forge_1, fn id_script_forge_2, fn id_script_number_1, fn id_script_number_2, fn id_script_crash_1, fn id_script_crash_2]
theorem forms_build : SemP PG (Instr.build T_9_script_form #[(0, .agg (formC id_script_send_1 id_script_send_2)), (1, .agg (formC id_script_forms_1 id_script_forms_2)), (2, .agg (formC id_script_forms_3 id_script_forms_4)), (3, .agg (formC id_script_number_1 id_script_number_2)), (4, .agg (formC id_script_number_1 id_script_number_2)), (5, .agg (formC id_script_number_1 id_script_number_2)), (6, .agg (formC id_script_forge_1 id_script_forge_2)), (7, .agg (formC id_script_number_1 id_script_number_2)), (8, .agg (formC id_script_crash_1 id_script_crash_2))]) = some (.agg formsC) := by kernel_rfl
theorem forms_ok {h : PH} {k : Value → PH → Prop} (hk : ∀ h', Ext h h' → k (.agg formsC) h') : CallsH PG id_script_forms #[] h k := by
  apply script_forms.call
  unfold script_forms
  intro r1 hr1
  rw [bindH_eq]
  have u1 : Ext h (h.set r1 (.cells (zcells PG T_9_script_form) T_9_script_form)) := Upd.new hr1
  have b1 : (h.set r1 (.cells (zcells PG T_9_script_form) T_9_script_form)) r1 = some (.cells (zcells PG T_9_script_form) T_9_script_form) := set_same
  simp only [form_build, popO_some, bindH_eq, condV_bool, condV_true, condV_false, yV_bool, gopV_tt, gopV_ff, gopV_tf, gopV_ft, pickV_t, pickV_f, pickV_bool, nilS_ptr, add_eq, sub_eq, mul_eq, lss_eq, leq_eq, gtr_eq, geq_eq, not_eq, minI_eq, maxI_eq, extract_0, extract_1, extract_2, eqlI, neqI, makeFunc_eq, decide_true, decide_false, if_true, if_false, Bool.false_eq_true, Bool.not_true, Bool.not_false, reduceIte, List.getElem?_toArray, List.getElem?_cons_zero, List.getElem?_cons_succ, Option.isSome_none, List.length_map]
  generalize h.set r1 (.cells (zcells PG T_9_script_form) T_9_script_form) = h1 at *
  intro r4 hr4
  refine form_box hr4 _ _ fun h2 l2 p2 u2 => ?_
  intro r9 hr9
  refine form_box hr9 _ _ fun h3 l3 p3 u3 => ?_
  rw [p2 _ u3, l3]
  simp only [popO_some, bindH_eq, condV_bool, condV_true, condV_false, yV_bool, gopV_tt, gopV_ff, gopV_tf, gopV_ft, pickV_t, pickV_f, pickV_bool, nilS_ptr, add_eq, sub_eq, mul_eq, lss_eq, leq_eq, gtr_eq, geq_eq, not_eq, minI_eq, maxI_eq, extract_0, extract_1, extract_2, eqlI, neqI, makeFunc_eq, decide_true, decide_false, if_true, if_false, Bool.false_eq_true, Bool.not_true, Bool.not_false, reduceIte, List.getElem?_toArray, List.getElem?_cons_zero, List.getElem?_cons_succ, Option.isSome_none, List.length_map]
  refine send_form fun h4 u4 => ?_
  refine ⟨p3 _ u4, p2 _ (u3.trans u4), ?_⟩
  refine number_form fun h5 u5 => ?_
  have w5 := u4.trans u5
  refine ⟨p3 _ w5, p2 _ (u3.trans w5), ?_⟩
  refine number_form fun h6 u6 => ?_
  have w6 := w5.trans u6
  refine ⟨p3 _ w6, p2 _ (u3.trans w6), ?_⟩
  refine number_form fun h7 u7 => ?_
  have w7 := w6.trans u7
  refine ⟨p3 _ w7, p2 _ (u3.trans w7), ?_⟩
  refine forge_form fun h8 u8 => ?_
  have w8 := w7.trans u8
  refine ⟨p3 _ w8, p2 _ (u3.trans w8), ?_⟩
  refine number_form fun h9 u9 => ?_
  have w9 := w8.trans u9
  refine ⟨p3 _ w9, p2 _ (u3.trans w9), ?_⟩
  refine crash_form fun h10 u10 => ?_
  have w10 := w9.trans u10
  refine ⟨p3 _ w10, p2 _ (u3.trans w10), ?_⟩
  rw [forms_build]
  simp only [popO_some, bindH_eq, condV_bool, condV_true, condV_false, yV_bool, gopV_tt, gopV_ff, gopV_tf, gopV_ft, pickV_t, pickV_f, pickV_bool, nilS_ptr, add_eq, sub_eq, mul_eq, lss_eq, leq_eq, gtr_eq, geq_eq, not_eq, minI_eq, maxI_eq, extract_0, extract_1, extract_2, eqlI, neqI, makeFunc_eq, decide_true, decide_false, if_true, if_false, Bool.false_eq_true, Bool.not_true, Bool.not_false, reduceIte, List.getElem?_toArray, List.getElem?_cons_zero, List.getElem?_cons_succ, Option.isSome_none, List.length_map]
  have b10 := ((u2.trans u3).trans w10).get b1
  refine store_box b10 T_9_script_form.info (by show 18 = 18; rfl) (by show 0 < 18; decide) (by rw [T_9_script_form.zc]; rfl) ?_ ?_
  · intro v hv
    simp only [formsC, List.mem_cons, List.not_mem_nil, or_false] at hv
    rcases hv with rfl | rfl | rfl | rfl | rfl | rfl | rfl | rfl | rfl | rfl | rfl | rfl | rfl | rfl | rfl | rfl | rfl | rfl <;> rfl
  · rw [load_box T_9_script_form.und rfl T_9_script_form.info T_9_script_form.size set_same rfl]
    simp only [popO_some, bindH_eq, condV_bool, condV_true, condV_false, yV_bool, gopV_tt, gopV_ff, gopV_tf, gopV_ft, pickV_t, pickV_f, pickV_bool, nilS_ptr, add_eq, sub_eq, mul_eq, lss_eq, leq_eq, gtr_eq, geq_eq, not_eq, minI_eq, maxI_eq, extract_0, extract_1, extract_2, eqlI, neqI, makeFunc_eq, decide_true, decide_false, if_true, if_false, Bool.false_eq_true, Bool.not_true, Bool.not_false, reduceIte, List.getElem?_toArray, List.getElem?_cons_zero, List.getElem?_cons_succ, Option.isSome_none, List.length_map]
    exact hk _ (u1.fresh ((((u2.trans u3).trans w10).upd).trans (Upd.set (F := [r1]) (by simp))) (Fresh.one hr1))
def getF (k : Nat) : FuncId := match k with
  | 0 => id_script_send_2
  | 1 => id_script_forms_2
  | 2 => id_script_forms_4
  | 6 => id_script_forge_2
  | 8 => id_script_crash_2
  | _ => id_script_number_2
def putF (k : Nat) : FuncId := match k with
  | 0 => id_script_send_1
  | 1 => id_script_forms_1
  | 2 => id_script_forms_3
  | 6 => id_script_forge_1
  | 8 => id_script_crash_1
  | _ => id_script_number_1
theorem forms_at0 : SemP PG (Instr.index T_9_script_form (.agg formsC) (.int .i64 ((0 : Nat) : Int))) = some (.agg (formC (putF 0) (getF 0))) := by kernel_rfl
theorem forms_at1 : SemP PG (Instr.index T_9_script_form (.agg formsC) (.int .i64 ((1 : Nat) : Int))) = some (.agg (formC (putF 1) (getF 1))) := by kernel_rfl
theorem forms_at2 : SemP PG (Instr.index T_9_script_form (.agg formsC) (.int .i64 ((2 : Nat) : Int))) = some (.agg (formC (putF 2) (getF 2))) := by kernel_rfl
theorem forms_at3 : SemP PG (Instr.index T_9_script_form (.agg formsC) (.int .i64 ((3 : Nat) : Int))) = some (.agg (formC (putF 3) (getF 3))) := by kernel_rfl
theorem forms_at4 : SemP PG (Instr.index T_9_script_form (.agg formsC) (.int .i64 ((4 : Nat) : Int))) = some (.agg (formC (putF 4) (getF 4))) := by kernel_rfl
theorem forms_at5 : SemP PG (Instr.index T_9_script_form (.agg formsC) (.int .i64 ((5 : Nat) : Int))) = some (.agg (formC (putF 5) (getF 5))) := by kernel_rfl
theorem forms_at6 : SemP PG (Instr.index T_9_script_form (.agg formsC) (.int .i64 ((6 : Nat) : Int))) = some (.agg (formC (putF 6) (getF 6))) := by kernel_rfl
theorem forms_at7 : SemP PG (Instr.index T_9_script_form (.agg formsC) (.int .i64 ((7 : Nat) : Int))) = some (.agg (formC (putF 7) (getF 7))) := by kernel_rfl
theorem forms_at8 : SemP PG (Instr.index T_9_script_form (.agg formsC) (.int .i64 ((8 : Nat) : Int))) = some (.agg (formC (putF 8) (getF 8))) := by kernel_rfl
theorem forms_at {k : Nat} (hk : k < 9) : SemP PG (Instr.index T_9_script_form (.agg formsC) (.int .i64 k)) = some (.agg (formC (putF k) (getF k))) := by
  have : k = 0 ∨ k = 1 ∨ k = 2 ∨ k = 3 ∨ k = 4 ∨ k = 5 ∨ k = 6 ∨ k = 7 ∨ k = 8 := by omega
  rcases this with rfl | rfl | rfl | rfl | rfl | rfl | rfl | rfl | rfl
  · exact forms_at0
  · exact forms_at1
  · exact forms_at2
  · exact forms_at3
  · exact forms_at4
  · exact forms_at5
  · exact forms_at6
  · exact forms_at7
  · exact forms_at8
theorem form_get (f g : FuncId) : SemP PG (Instr.field T_script_form (.agg (formC f g)) 1) = some (fn g) := by kernel_rfl
theorem form_put (f g : FuncId) : SemP PG (Instr.field T_script_form (.agg (formC f g)) 0) = some (fn f) := by kernel_rfl
end Go.Proofs.Ytflgnfiebgcegaa
