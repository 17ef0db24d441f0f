/- script: the document's Put, whole. -/
import Derived.Test.YtflgnfiebgcegaaScrX
set_option linter.unusedSimpArgs false
set_option linter.unusedVariables false
namespace Go.Proofs.Ytflgnfiebgcegaa
open Go
set_option maxRecDepth 20000
theorem MB.ext {h h' : PH} {rm rp : Nat} {m : Msg} (H : MB h [] rm rp m) (u : Ext h h') : MB h' [] rm rp m := H.keep (keepOf u (by simp))
theorem cat_tx {a b : List UInt8} (h : a.length ≤ 1000000000) (h2 : b.length ≤ 1000000000) : SemP PG (binOp .add T_string (.string (tx a)) (.string (tx b))) = some (.string (tx (a ++ b))) := add_tx (by omega)
theorem nb_len (x : Int) (c : Nat) : (nb x c).length = c := be_len _ _
theorem k89_ok {h : PH} {ok : Bool} {out : List UInt8} {k : Value → PH → Prop} (hk : k (pairV (if ok then (out, 0) else ([], 1))) h) : carrackref23_Put_k89 k (.string (tx out)) (.bool ok) h := by
  unfold carrackref23_Put_k89 carrackref23_Put_k90
  cases ok with
  | true => simp only [popO_some, bindH_eq, condV_bool, condV_true, condV_false, yV_bool, gopV_tt, gopV_ff, gopV_tf, gopV_ft, pickV_t, pickV_f, pickV_bool, nilS_ptr, add_eq, sub_eq, mul_eq, lss_eq, leq_eq, gtr_eq, geq_eq, not_eq, minI_eq, maxI_eq, extract_0, extract_1, extract_2, eqlI, neqI, makeFunc_eq, decide_true, decide_false, if_true, if_false, Bool.false_eq_true, Bool.not_true, Bool.not_false, reduceIte, List.getElem?_toArray, List.getElem?_cons_zero, List.getElem?_cons_succ, Option.isSome_none, List.length_map]; exact hk
  | false => simp only [popO_some, bindH_eq, condV_bool, condV_true, condV_false, yV_bool, gopV_tt, gopV_ff, gopV_tf, gopV_ft, pickV_t, pickV_f, pickV_bool, nilS_ptr, add_eq, sub_eq, mul_eq, lss_eq, leq_eq, gtr_eq, geq_eq, not_eq, minI_eq, maxI_eq, extract_0, extract_1, extract_2, eqlI, neqI, makeFunc_eq, decide_true, decide_false, if_true, if_false, Bool.false_eq_true, Bool.not_true, Bool.not_false, reduceIte, List.getElem?_toArray, List.getElem?_cons_zero, List.getElem?_cons_succ, Option.isSome_none, List.length_map]; exact hk
theorem wrOut_len (ws : List Wr) : (wrOut ws).length = 3 * ws.length := by
  induction ws with
  | nil => rfl
  | cons w ws ih =>
    have : wrOut (w :: ws) = ([if w.lasts then 1 else 0] ++ nb w.torn 2) ++ wrOut ws := rfl
    rw [this, List.length_append, ih, List.length_append, nb_len]
    simp; omega
theorem wrOut_take {ws : List Wr} {i : Nat} {m : Wr} (hm : ws[i]? = some m) : wrOut (ws.take (i + 1)) = wrOut (ws.take i) ++ ([if m.lasts then 1 else 0] ++ nb m.torn 2) := by
  rw [List.take_add_one, hm]
  simp [wrOut]
theorem wrOk_take {ws : List Wr} {i : Nat} {m : Wr} (hm : ws[i]? = some m) : wrOk (ws.take (i + 1)) ↔ wrOk (ws.take i) ∧ 0 ≤ m.torn ∧ m.torn ≤ 65535 := by
  rw [List.take_add_one, hm]
  unfold wrOk
  simp only [Option.toList, List.mem_append, List.mem_cons, List.not_mem_nil, or_false]
  constructor
  · intro h; exact ⟨fun x hx => h x (.inl hx), h m (.inr rfl)⟩
  · rintro ⟨h1, h2⟩ x (hx | rfl)
    · exact h1 x hx
    · exact h2
/-- The end of Put: the bytes, or that they do not fit. -/
def PEnd (h0 : PH) (K : Nat) (A : Act) (k : Value → PH → Prop) : Prop := ∀ h' (ok : Bool) out, (ok = true ↔ rOk K A) → out = nb A.kind 1 ++ rOut K A → Ext h0 h' → carrackref23_Put_k89 k (.string (tx out)) (.bool ok) h'
set_option maxHeartbeats 4000000 in
theorem k103_N {h0 h : PH} {K : Nat} (hK : K = 3 ∨ K = 4 ∨ K = 5 ∨ K = 7) {A : Act} {v : Value} {r1 : Nat} (B : ABox h r1 A v) (w : Ext h0 h) {t6 t7 t32 : Value} {k : Value → PH → Prop} (fin : PEnd h0 K A k) : carrackref23_Put_k103 k (.pointer (some ⟨r1, 0, none⟩)) (.string (tx (nb A.kind 1))) (.bool true) t6 t7 t32 (.bool true) h := by
  have ho : rOk K A ↔ 0 ≤ A.n ∧ A.n ≤ 255 := by rcases hK with rfl | rfl | rfl | rfl <;> rfl
  have hu : rOut K A = nb A.n 1 := by rcases hK with rfl | rfl | rfl | rfl <;> rfl
  unfold carrackref23_Put_k103
  simp only [T_api_Act.f4, Nat.zero_add, T_int.load, B.c4, popO_some, bindH_eq, condV_bool, condV_true, condV_false, yV_bool, gopV_tt, gopV_ff, gopV_tf, gopV_ft, pickV_t, pickV_f, pickV_bool, nilS_ptr, add_eq, sub_eq, mul_eq, lss_eq, leq_eq, gtr_eq, geq_eq, not_eq, minI_eq, maxI_eq, extract_0, extract_1, extract_2, eqlI, neqI, makeFunc_eq, decide_true, decide_false, if_true, if_false, Bool.false_eq_true, Bool.not_true, Bool.not_false, reduceIte, List.getElem?_toArray, List.getElem?_cons_zero, List.getElem?_cons_succ, Option.isSome_none, List.length_map]
  refine fits1_ok fun b hb => ?_
  simp only [T_api_Act.f4, Nat.zero_add, T_int.load, B.c4, popO_some, bindH_eq, condV_bool, condV_true, condV_false, yV_bool, gopV_tt, gopV_ff, gopV_tf, gopV_ft, pickV_t, pickV_f, pickV_bool, nilS_ptr, add_eq, sub_eq, mul_eq, lss_eq, leq_eq, gtr_eq, geq_eq, not_eq, minI_eq, maxI_eq, extract_0, extract_1, extract_2, eqlI, neqI, makeFunc_eq, decide_true, decide_false, if_true, if_false, Bool.false_eq_true, Bool.not_true, Bool.not_false, reduceIte, List.getElem?_toArray, List.getElem?_cons_zero, List.getElem?_cons_succ, Option.isSome_none, List.length_map]
  refine nb1_ok fun h2 u2 => ?_
  simp only [cat_tx (a := nb A.kind 1) (b := nb A.n 1) (by rw [nb_len]; omega) (by rw [nb_len]; omega), popO_some, bindH_eq, condV_bool, condV_true, condV_false, yV_bool, gopV_tt, gopV_ff, gopV_tf, gopV_ft, pickV_t, pickV_f, pickV_bool, nilS_ptr, add_eq, sub_eq, mul_eq, lss_eq, leq_eq, gtr_eq, geq_eq, not_eq, minI_eq, maxI_eq, extract_0, extract_1, extract_2, eqlI, neqI, makeFunc_eq, decide_true, decide_false, if_true, if_false, Bool.false_eq_true, Bool.not_true, Bool.not_false, reduceIte, List.getElem?_toArray, List.getElem?_cons_zero, List.getElem?_cons_succ, Option.isSome_none, List.length_map]
  exact fin h2 b _ (hb.trans ho.symm) (by rw [hu]) (w.trans u2)
set_option maxHeartbeats 4000000 in
theorem k103_8 {h0 h : PH} {A : Act} {v : Value} {r1 : Nat} (B : ABox h r1 A v) (hv : SlR h0 2 v (A.writes.map Wr.cells)) (hn : A.writes.length ≤ 100000) (w : Ext h0 h) {t6 t7 : Value} {k : Value → PH → Prop} (fin : PEnd h0 8 A k) : carrackref23_Put_k103 k (.pointer (some ⟨r1, 0, none⟩)) (.string (tx (nb A.kind 1))) (.bool true) t6 t7 (.int .i64 8) (.bool false) h := by
  unfold carrackref23_Put_k103
  have lv := hv.len (t' := T_int) T_sl_api_Write.und
  rw [List.length_map] at lv
  simp only [T_api_Act.f6, Nat.zero_add, T_sl_api_Write.load, B.field6, lv, Int.reduceBEq, beq_self_eq_true, popO_some, bindH_eq, condV_bool, condV_true, condV_false, yV_bool, gopV_tt, gopV_ff, gopV_tf, gopV_ft, pickV_t, pickV_f, pickV_bool, nilS_ptr, add_eq, sub_eq, mul_eq, lss_eq, leq_eq, gtr_eq, geq_eq, not_eq, minI_eq, maxI_eq, extract_0, extract_1, extract_2, eqlI, neqI, makeFunc_eq, decide_true, decide_false, if_true, if_false, Bool.false_eq_true, Bool.not_true, Bool.not_false, reduceIte, List.getElem?_toArray, List.getElem?_cons_zero, List.getElem?_cons_succ, Option.isSome_none, List.length_map]
  refine fits1_ok fun b hb => ?_
  simp only [T_api_Act.f6, Nat.zero_add, T_sl_api_Write.load, B.field6, lv, popO_some, bindH_eq, condV_bool, condV_true, condV_false, yV_bool, gopV_tt, gopV_ff, gopV_tf, gopV_ft, pickV_t, pickV_f, pickV_bool, nilS_ptr, add_eq, sub_eq, mul_eq, lss_eq, leq_eq, gtr_eq, geq_eq, not_eq, minI_eq, maxI_eq, extract_0, extract_1, extract_2, eqlI, neqI, makeFunc_eq, decide_true, decide_false, if_true, if_false, Bool.false_eq_true, Bool.not_true, Bool.not_false, reduceIte, List.getElem?_toArray, List.getElem?_cons_zero, List.getElem?_cons_succ, Option.isSome_none, List.length_map]
  refine nb1_ok fun h2 u2 => ?_
  have B2 := B.ext u2
  have w2 := w.trans u2
  simp only [cat_tx (a := nb A.kind 1) (b := nb A.writes.length 1) (by rw [nb_len]; omega) (by rw [nb_len]; omega), popO_some, bindH_eq, condV_bool, condV_true, condV_false, yV_bool, gopV_tt, gopV_ff, gopV_tf, gopV_ft, pickV_t, pickV_f, pickV_bool, nilS_ptr, add_eq, sub_eq, mul_eq, lss_eq, leq_eq, gtr_eq, geq_eq, not_eq, minI_eq, maxI_eq, extract_0, extract_1, extract_2, eqlI, neqI, makeFunc_eq, decide_true, decide_false, if_true, if_false, Bool.false_eq_true, Bool.not_true, Bool.not_false, reduceIte, List.getElem?_toArray, List.getElem?_cons_zero, List.getElem?_cons_succ, Option.isSome_none, List.length_map]
  refine ⟨fun vs h' => ∃ (i : Nat) (ok : Bool), i ≤ A.writes.length ∧ vs = [.pointer (some ⟨r1, 0, none⟩), .string (tx (nb A.kind 1 ++ nb A.writes.length 1 ++ wrOut (A.writes.take i))), .bool ok, .int .i64 i] ∧ Ext h2 h' ∧ (ok = true ↔ A.writes.length ≤ 255 ∧ wrOk (A.writes.take i)), upTo A.writes.length 3, ⟨0, b, by omega, by simp [wrOut], Upd.refl, by rw [hb]; simp [wrOk]; omega⟩, ?_⟩
  rintro ρ h' ⟨i, ok, hi, hvs, u, hok⟩
  simp only [List.map_cons, List.map_nil, List.cons.injEq, and_true] at hvs
  obtain ⟨e1, e4, e5, e8⟩ := hvs
  simp only [e1, e4, e5, e8]
  unfold carrackref23_Put_b233
  have B' := B2.ext u
  by_cases hlt : i < A.writes.length
  · have hd : ((i : Int) < (A.writes.length : Int)) = True := by apply eq_true; omega
    obtain ⟨m, hm⟩ : ∃ m, A.writes[i]? = some m := ⟨_, List.getElem?_eq_getElem hlt⟩
    obtain ⟨p, p1, p2⟩ := (hv.ext (w2.trans u)).wr (k := .i64) hm
    simp only [T_api_Act.f6, Nat.zero_add, T_sl_api_Write.load, B'.field6, lv, hd, p1, p2, popO_some, bindH_eq, condV_bool, condV_true, condV_false, yV_bool, gopV_tt, gopV_ff, gopV_tf, gopV_ft, pickV_t, pickV_f, pickV_bool, nilS_ptr, add_eq, sub_eq, mul_eq, lss_eq, leq_eq, gtr_eq, geq_eq, not_eq, minI_eq, maxI_eq, extract_0, extract_1, extract_2, eqlI, neqI, makeFunc_eq, decide_true, decide_false, if_true, if_false, Bool.false_eq_true, Bool.not_true, Bool.not_false, reduceIte, List.getElem?_toArray, List.getElem?_cons_zero, List.getElem?_cons_succ, Option.isSome_none, List.length_map]
    intro r hr
    refine store_box set_same T_api_Write.info (by show 2 = 2; rfl) (by show 0 < 2; decide) (by rw [T_api_Write.zc]; rfl) (by intro v hv; simp [Wr.cells] at hv; rcases hv with rfl | rfl <;> rfl) ?_
    rw [set_set_same]
    have u5 : Ext h' (h'.set r (.cells m.cells.toArray T_api_Write)) := Upd.new hr
    have b5 : (h'.set r (.cells m.cells.toArray T_api_Write)) r = some (.cells m.cells.toArray T_api_Write (0, 0)) := set_same
    generalize h'.set r (.cells m.cells.toArray T_api_Write) = h5 at *
    have c0 : cellH h5 ⟨r, 0, none⟩ = some (.bool m.lasts) := by simp [cellH, b5, Wr.cells]
    have c1 : cellH h5 ⟨r, 1, none⟩ = some (.int .i64 m.torn) := by simp [cellH, b5, Wr.cells]
    have ei : IntKind.i64.wrap ((i : Int) + 1) = ((i + 1 : Nat) : Int) := by rw [i64_wrap (by omega) (by omega)]; omega
    have hlen : (nb A.kind 1 ++ nb A.writes.length 1 ++ wrOut (A.writes.take i)).length ≤ 500000 := by
      simp only [List.length_append, nb_len, wrOut_len, List.length_take]; omega
    have last : ∀ (b2 : Bool), (b2 = true ↔ A.writes.length ≤ 255 ∧ wrOk (A.writes.take (i + 1))) → ∀ (l : Bool), l = m.lasts → ∀ n1, (∀ h6, Ext h2 h6 → n1 [.pointer (some ⟨r1, 0, none⟩), .string (tx (nb A.kind 1 ++ nb A.writes.length 1 ++ wrOut (A.writes.take (i + 1)))), .bool b2, .int .i64 ((i + 1 : Nat) : Int)] h6) →
        CallsH PG id_carrackref23_num #[.int .i64 m.torn, .int .i64 2] h5 fun v265 h266 => popO (SemP PG (binOp BinOp.add T_string (.string (tx (nb A.kind 1 ++ nb A.writes.length 1 ++ wrOut (A.writes.take i) ++ [if l then 1 else 0]))) v265)) fun v267 => carrackref23_Put_k268 k n1 (.pointer (some ⟨r1, 0, none⟩)) v267 (.bool b2) (.int .i64 i) h266 := by
      intro b2 hb2 l hl n1 hn1
      refine nb2_ok fun h6 u6 => ?_
      have e1 := cat_tx (a := nb A.kind 1 ++ nb A.writes.length 1 ++ wrOut (A.writes.take i) ++ [if l then 1 else 0]) (b := nb m.torn 2) (by rw [List.length_append]; simp only [List.length_cons, List.length_nil]; omega) (by rw [nb_len]; omega)
      simp only [e1, popO_some, bindH_eq, condV_bool, condV_true, condV_false, yV_bool, gopV_tt, gopV_ff, gopV_tf, gopV_ft, pickV_t, pickV_f, pickV_bool, nilS_ptr, add_eq, sub_eq, mul_eq, lss_eq, leq_eq, gtr_eq, geq_eq, not_eq, minI_eq, maxI_eq, extract_0, extract_1, extract_2, eqlI, neqI, makeFunc_eq, decide_true, decide_false, if_true, if_false, Bool.false_eq_true, Bool.not_true, Bool.not_false, reduceIte, List.getElem?_toArray, List.getElem?_cons_zero, List.getElem?_cons_succ, Option.isSome_none, List.length_map]
      unfold carrackref23_Put_k268 carrackref23_Put_k269
      simp only [ei, popO_some, bindH_eq, condV_bool, condV_true, condV_false, yV_bool, gopV_tt, gopV_ff, gopV_tf, gopV_ft, pickV_t, pickV_f, pickV_bool, nilS_ptr, add_eq, sub_eq, mul_eq, lss_eq, leq_eq, gtr_eq, geq_eq, not_eq, minI_eq, maxI_eq, extract_0, extract_1, extract_2, eqlI, neqI, makeFunc_eq, decide_true, decide_false, if_true, if_false, Bool.false_eq_true, Bool.not_true, Bool.not_false, reduceIte, List.getElem?_toArray, List.getElem?_cons_zero, List.getElem?_cons_succ, Option.isSome_none, List.length_map]
      have := hn1 h6 ((u.trans u5).trans u6)
      rw [wrOut_take hm, ← hl] at this
      simpa only [List.append_assoc] using this
    have tx1 : (⟨#[1]⟩ : ByteArray) = tx [1] := rfl
    have txz : (⟨#[0]⟩ : ByteArray) = tx [0] := rfl
    have a1 := cat_tx (a := nb A.kind 1 ++ nb A.writes.length 1 ++ wrOut (A.writes.take i)) (b := [1]) (by omega) (by simp)
    have a0 := cat_tx (a := nb A.kind 1 ++ nb A.writes.length 1 ++ wrOut (A.writes.take i)) (b := [0]) (by omega) (by simp)
    cases ok with
    | false =>
      have hb2 : (false = true ↔ A.writes.length ≤ 255 ∧ wrOk (A.writes.take (i + 1))) := by
        rw [wrOk_take hm]
        constructor
        · intro e; cases e
        · intro e; exact hok.2 ⟨e.1, e.2.1⟩
      simp only [T_api_Write.f0, T_api_Write.f1, Nat.zero_add, T_bool.load, T_int.load, c0, c1, tx1, txz, a1, a0, popO_some, bindH_eq, condV_bool, condV_true, condV_false, yV_bool, gopV_tt, gopV_ff, gopV_tf, gopV_ft, pickV_t, pickV_f, pickV_bool, nilS_ptr, add_eq, sub_eq, mul_eq, lss_eq, leq_eq, gtr_eq, geq_eq, not_eq, minI_eq, maxI_eq, extract_0, extract_1, extract_2, eqlI, neqI, makeFunc_eq, decide_true, decide_false, if_true, if_false, Bool.false_eq_true, Bool.not_true, Bool.not_false, reduceIte, List.getElem?_toArray, List.getElem?_cons_zero, List.getElem?_cons_succ, Option.isSome_none, List.length_map]
      cases hl : m.lasts with
      | true =>
        simp only [popO_some, bindH_eq, condV_bool, condV_true, condV_false, yV_bool, gopV_tt, gopV_ff, gopV_tf, gopV_ft, pickV_t, pickV_f, pickV_bool, nilS_ptr, add_eq, sub_eq, mul_eq, lss_eq, leq_eq, gtr_eq, geq_eq, not_eq, minI_eq, maxI_eq, extract_0, extract_1, extract_2, eqlI, neqI, makeFunc_eq, decide_true, decide_false, if_true, if_false, Bool.false_eq_true, Bool.not_true, Bool.not_false, reduceIte, List.getElem?_toArray, List.getElem?_cons_zero, List.getElem?_cons_succ, Option.isSome_none, List.length_map]
        refine last false hb2 true hl.symm _ fun h6 u6 => ?_
        exact ⟨⟨i + 1, false, by omega, rfl, u6, hb2⟩, by simp [upTo, e8]; omega⟩
      | false =>
        simp only [popO_some, bindH_eq, condV_bool, condV_true, condV_false, yV_bool, gopV_tt, gopV_ff, gopV_tf, gopV_ft, pickV_t, pickV_f, pickV_bool, nilS_ptr, add_eq, sub_eq, mul_eq, lss_eq, leq_eq, gtr_eq, geq_eq, not_eq, minI_eq, maxI_eq, extract_0, extract_1, extract_2, eqlI, neqI, makeFunc_eq, decide_true, decide_false, if_true, if_false, Bool.false_eq_true, Bool.not_true, Bool.not_false, reduceIte, List.getElem?_toArray, List.getElem?_cons_zero, List.getElem?_cons_succ, Option.isSome_none, List.length_map]
        refine last false hb2 false hl.symm _ fun h6 u6 => ?_
        exact ⟨⟨i + 1, false, by omega, rfl, u6, hb2⟩, by simp [upTo, e8]; omega⟩
    | true =>
      simp only [T_api_Write.f0, T_api_Write.f1, Nat.zero_add, T_bool.load, T_int.load, c0, c1, popO_some, bindH_eq, condV_bool, condV_true, condV_false, yV_bool, gopV_tt, gopV_ff, gopV_tf, gopV_ft, pickV_t, pickV_f, pickV_bool, nilS_ptr, add_eq, sub_eq, mul_eq, lss_eq, leq_eq, gtr_eq, geq_eq, not_eq, minI_eq, maxI_eq, extract_0, extract_1, extract_2, eqlI, neqI, makeFunc_eq, decide_true, decide_false, if_true, if_false, Bool.false_eq_true, Bool.not_true, Bool.not_false, reduceIte, List.getElem?_toArray, List.getElem?_cons_zero, List.getElem?_cons_succ, Option.isSome_none, List.length_map]
      refine fits2_ok fun b2 hb => ?_
      have hb2 : (b2 = true ↔ A.writes.length ≤ 255 ∧ wrOk (A.writes.take (i + 1))) := by
        rw [wrOk_take hm, hb]
        have := hok.1 rfl
        constructor
        · intro e; exact ⟨this.1, this.2, e⟩
        · intro e; exact e.2.2
      simp only [T_api_Write.f0, T_api_Write.f1, Nat.zero_add, T_bool.load, T_int.load, c0, c1, tx1, txz, a1, a0, popO_some, bindH_eq, condV_bool, condV_true, condV_false, yV_bool, gopV_tt, gopV_ff, gopV_tf, gopV_ft, pickV_t, pickV_f, pickV_bool, nilS_ptr, add_eq, sub_eq, mul_eq, lss_eq, leq_eq, gtr_eq, geq_eq, not_eq, minI_eq, maxI_eq, extract_0, extract_1, extract_2, eqlI, neqI, makeFunc_eq, decide_true, decide_false, if_true, if_false, Bool.false_eq_true, Bool.not_true, Bool.not_false, reduceIte, List.getElem?_toArray, List.getElem?_cons_zero, List.getElem?_cons_succ, Option.isSome_none, List.length_map]
      cases hl : m.lasts with
      | true =>
        simp only [popO_some, bindH_eq, condV_bool, condV_true, condV_false, yV_bool, gopV_tt, gopV_ff, gopV_tf, gopV_ft, pickV_t, pickV_f, pickV_bool, nilS_ptr, add_eq, sub_eq, mul_eq, lss_eq, leq_eq, gtr_eq, geq_eq, not_eq, minI_eq, maxI_eq, extract_0, extract_1, extract_2, eqlI, neqI, makeFunc_eq, decide_true, decide_false, if_true, if_false, Bool.false_eq_true, Bool.not_true, Bool.not_false, reduceIte, List.getElem?_toArray, List.getElem?_cons_zero, List.getElem?_cons_succ, Option.isSome_none, List.length_map]
        refine last b2 hb2 true hl.symm _ fun h6 u6 => ?_
        exact ⟨⟨i + 1, b2, by omega, rfl, u6, hb2⟩, by simp [upTo, e8]; omega⟩
      | false =>
        simp only [popO_some, bindH_eq, condV_bool, condV_true, condV_false, yV_bool, gopV_tt, gopV_ff, gopV_tf, gopV_ft, pickV_t, pickV_f, pickV_bool, nilS_ptr, add_eq, sub_eq, mul_eq, lss_eq, leq_eq, gtr_eq, geq_eq, not_eq, minI_eq, maxI_eq, extract_0, extract_1, extract_2, eqlI, neqI, makeFunc_eq, decide_true, decide_false, if_true, if_false, Bool.false_eq_true, Bool.not_true, Bool.not_false, reduceIte, List.getElem?_toArray, List.getElem?_cons_zero, List.getElem?_cons_succ, Option.isSome_none, List.length_map]
        refine last b2 hb2 false hl.symm _ fun h6 u6 => ?_
        exact ⟨⟨i + 1, b2, by omega, rfl, u6, hb2⟩, by simp [upTo, e8]; omega⟩
  · have hd : ((i : Int) < (A.writes.length : Int)) = False := by apply eq_false; omega
    simp only [T_api_Act.f6, Nat.zero_add, T_sl_api_Write.load, B'.field6, lv, hd, popO_some, bindH_eq, condV_bool, condV_true, condV_false, yV_bool, gopV_tt, gopV_ff, gopV_tf, gopV_ft, pickV_t, pickV_f, pickV_bool, nilS_ptr, add_eq, sub_eq, mul_eq, lss_eq, leq_eq, gtr_eq, geq_eq, not_eq, minI_eq, maxI_eq, extract_0, extract_1, extract_2, eqlI, neqI, makeFunc_eq, decide_true, decide_false, if_true, if_false, Bool.false_eq_true, Bool.not_true, Bool.not_false, reduceIte, List.getElem?_toArray, List.getElem?_cons_zero, List.getElem?_cons_succ, Option.isSome_none, List.length_map]
    have ht : A.writes.take i = A.writes := List.take_of_length_le (by omega)
    rw [ht] at hok ⊢
    exact fin h' ok _ hok (by rw [List.append_assoc]; rfl) (w2.trans u)
set_option maxHeartbeats 8000000 in
theorem k103_6 {h0 h : PH} {A : Act} {v : Value} {r1 rm rp : Nat} (hA : ActOk A) (hd1 : A.msg.pdata.length ≤ 70000) (hd2 : A.msg.proof.length ≤ 70000) (M : MB h [] rm rp A.msg) (w : Ext h0 h) {k : Value → PH → Prop} (fin : PEnd h0 6 A k) : carrackref23_Put_k103 k (.pointer (some ⟨r1, 0, none⟩)) (.string (tx (nb A.kind 1))) (.bool true) (.pointer (some ⟨rm, 0, none⟩)) (.pointer (some ⟨rp, 0, none⟩)) (.int .i64 6) (.bool false) h := by
  unfold carrackref23_Put_k103
  simp only [T_api_Message.f0, Nat.zero_add, T_int.load, M.c0, Int.reduceBEq, beq_self_eq_true, popO_some, bindH_eq, condV_bool, condV_true, condV_false, yV_bool, gopV_tt, gopV_ff, gopV_tf, gopV_ft, pickV_t, pickV_f, pickV_bool, nilS_ptr, add_eq, sub_eq, mul_eq, lss_eq, leq_eq, gtr_eq, geq_eq, not_eq, minI_eq, maxI_eq, extract_0, extract_1, extract_2, eqlI, neqI, makeFunc_eq, decide_true, decide_false, if_true, if_false, Bool.false_eq_true, Bool.not_true, Bool.not_false, reduceIte, List.getElem?_toArray, List.getElem?_cons_zero, List.getElem?_cons_succ, Option.isSome_none, List.length_map]
  refine fits1_ok fun b0 hb0 => ?_
  cases b0 with
  | false =>
    have hok : (false = true ↔ rOk 6 A) := ⟨fun e => (by cases e), fun e => hb0.2 ((fun e => e.1 : rOk 6 A → _) e)⟩
    simp only [T_api_Message.f0, T_api_Message.f1, T_api_Message.f2, T_api_Message.f4, T_api_Packet.f0, T_api_Packet.f1, T_api_Packet.f2, T_api_Packet.f3, Nat.zero_add, T_int.load, T_uint64.load, T_string.load, M.c0, M.c1, M.c2, M.c7, M.p0, M.p1, M.p2, M.p3, T_string.len, tx_size, popO_some, bindH_eq, condV_bool, condV_true, condV_false, yV_bool, gopV_tt, gopV_ff, gopV_tf, gopV_ft, pickV_t, pickV_f, pickV_bool, nilS_ptr, add_eq, sub_eq, mul_eq, lss_eq, leq_eq, gtr_eq, geq_eq, not_eq, minI_eq, maxI_eq, extract_0, extract_1, extract_2, eqlI, neqI, makeFunc_eq, decide_true, decide_false, if_true, if_false, Bool.false_eq_true, Bool.not_true, Bool.not_false, reduceIte, List.getElem?_toArray, List.getElem?_cons_zero, List.getElem?_cons_succ, Option.isSome_none, List.length_map]
    refine nb1_ok fun g0 y0 => ?_
    have M0 := M.ext y0
    refine ⟨by simp only [T_string.load, M0.c7], by simp only [T_string.load, M0.p3], by simp only [T_uint64.load, M0.p2], by simp only [T_uint64.load, M0.p1], by simp only [T_int.load, M0.p0], by simp only [T_uint64.load, M0.c2], by simp only [T_int.load, M0.c1], ?_⟩
    simp only [cat_tx (a := nb A.kind 1) (b := nb A.msg.kind 1) (by simp only [List.length_append, nb_len, be_len]; omega) (by rw [nb_len]; omega), popO_some, bindH_eq, condV_bool, condV_true, condV_false, yV_bool, gopV_tt, gopV_ff, gopV_tf, gopV_ft, pickV_t, pickV_f, pickV_bool, nilS_ptr, add_eq, sub_eq, mul_eq, lss_eq, leq_eq, gtr_eq, geq_eq, not_eq, minI_eq, maxI_eq, extract_0, extract_1, extract_2, eqlI, neqI, makeFunc_eq, decide_true, decide_false, if_true, if_false, Bool.false_eq_true, Bool.not_true, Bool.not_false, reduceIte, List.getElem?_toArray, List.getElem?_cons_zero, List.getElem?_cons_succ, Option.isSome_none, List.length_map]
    refine nb1_ok fun g1 y1 => ?_
    have M1 := M0.ext y1
    refine ⟨by simp only [T_string.load, M1.c7], by simp only [T_string.load, M1.p3], by simp only [T_uint64.load, M1.p2], by simp only [T_uint64.load, M1.p1], by simp only [T_int.load, M1.p0], by simp only [T_uint64.load, M1.c2], ?_⟩
    simp only [cat_tx (a := nb A.kind 1 ++ nb A.msg.kind 1) (b := nb A.msg.dest 1) (by simp only [List.length_append, nb_len, be_len]; omega) (by rw [nb_len]; omega), popO_some, bindH_eq, condV_bool, condV_true, condV_false, yV_bool, gopV_tt, gopV_ff, gopV_tf, gopV_ft, pickV_t, pickV_f, pickV_bool, nilS_ptr, add_eq, sub_eq, mul_eq, lss_eq, leq_eq, gtr_eq, geq_eq, not_eq, minI_eq, maxI_eq, extract_0, extract_1, extract_2, eqlI, neqI, makeFunc_eq, decide_true, decide_false, if_true, if_false, Bool.false_eq_true, Bool.not_true, Bool.not_false, reduceIte, List.getElem?_toArray, List.getElem?_cons_zero, List.getElem?_cons_succ, Option.isSome_none, List.length_map]
    refine be8_ok hA.he fun g2 y2 => ?_
    have M2 := M1.ext y2
    refine ⟨by simp only [T_string.load, M2.c7], by simp only [T_string.load, M2.p3], by simp only [T_uint64.load, M2.p2], by simp only [T_uint64.load, M2.p1], by simp only [T_int.load, M2.p0], ?_⟩
    simp only [cat_tx (a := nb A.kind 1 ++ nb A.msg.kind 1 ++ nb A.msg.dest 1) (b := be A.msg.height 8) (by simp only [List.length_append, nb_len, be_len]; omega) (by rw [be_len]; omega), popO_some, bindH_eq, condV_bool, condV_true, condV_false, yV_bool, gopV_tt, gopV_ff, gopV_tf, gopV_ft, pickV_t, pickV_f, pickV_bool, nilS_ptr, add_eq, sub_eq, mul_eq, lss_eq, leq_eq, gtr_eq, geq_eq, not_eq, minI_eq, maxI_eq, extract_0, extract_1, extract_2, eqlI, neqI, makeFunc_eq, decide_true, decide_false, if_true, if_false, Bool.false_eq_true, Bool.not_true, Bool.not_false, reduceIte, List.getElem?_toArray, List.getElem?_cons_zero, List.getElem?_cons_succ, Option.isSome_none, List.length_map]
    refine nb1_ok fun g3 y3 => ?_
    have M3 := M2.ext y3
    refine ⟨by simp only [T_string.load, M3.c7], by simp only [T_string.load, M3.p3], by simp only [T_uint64.load, M3.p2], by simp only [T_uint64.load, M3.p1], ?_⟩
    simp only [cat_tx (a := nb A.kind 1 ++ nb A.msg.kind 1 ++ nb A.msg.dest 1 ++ be A.msg.height 8) (b := nb A.msg.pfrom 1) (by simp only [List.length_append, nb_len, be_len]; omega) (by rw [nb_len]; omega), popO_some, bindH_eq, condV_bool, condV_true, condV_false, yV_bool, gopV_tt, gopV_ff, gopV_tf, gopV_ft, pickV_t, pickV_f, pickV_bool, nilS_ptr, add_eq, sub_eq, mul_eq, lss_eq, leq_eq, gtr_eq, geq_eq, not_eq, minI_eq, maxI_eq, extract_0, extract_1, extract_2, eqlI, neqI, makeFunc_eq, decide_true, decide_false, if_true, if_false, Bool.false_eq_true, Bool.not_true, Bool.not_false, reduceIte, List.getElem?_toArray, List.getElem?_cons_zero, List.getElem?_cons_succ, Option.isSome_none, List.length_map]
    refine be8_ok hA.ps fun g4 y4 => ?_
    have M4 := M3.ext y4
    refine ⟨by simp only [T_string.load, M4.c7], by simp only [T_string.load, M4.p3], by simp only [T_uint64.load, M4.p2], ?_⟩
    simp only [cat_tx (a := nb A.kind 1 ++ nb A.msg.kind 1 ++ nb A.msg.dest 1 ++ be A.msg.height 8 ++ nb A.msg.pfrom 1) (b := be A.msg.pseq 8) (by simp only [List.length_append, nb_len, be_len]; omega) (by rw [be_len]; omega), popO_some, bindH_eq, condV_bool, condV_true, condV_false, yV_bool, gopV_tt, gopV_ff, gopV_tf, gopV_ft, pickV_t, pickV_f, pickV_bool, nilS_ptr, add_eq, sub_eq, mul_eq, lss_eq, leq_eq, gtr_eq, geq_eq, not_eq, minI_eq, maxI_eq, extract_0, extract_1, extract_2, eqlI, neqI, makeFunc_eq, decide_true, decide_false, if_true, if_false, Bool.false_eq_true, Bool.not_true, Bool.not_false, reduceIte, List.getElem?_toArray, List.getElem?_cons_zero, List.getElem?_cons_succ, Option.isSome_none, List.length_map]
    refine be8_ok hA.pt fun g5 y5 => ?_
    have M5 := M4.ext y5
    refine ⟨by simp only [T_string.load, M5.c7], by simp only [T_string.load, M5.p3], ?_⟩
    simp only [cat_tx (a := nb A.kind 1 ++ nb A.msg.kind 1 ++ nb A.msg.dest 1 ++ be A.msg.height 8 ++ nb A.msg.pfrom 1 ++ be A.msg.pseq 8) (b := be A.msg.ptimeout 8) (by simp only [List.length_append, nb_len, be_len]; omega) (by rw [be_len]; omega), popO_some, bindH_eq, condV_bool, condV_true, condV_false, yV_bool, gopV_tt, gopV_ff, gopV_tf, gopV_ft, pickV_t, pickV_f, pickV_bool, nilS_ptr, add_eq, sub_eq, mul_eq, lss_eq, leq_eq, gtr_eq, geq_eq, not_eq, minI_eq, maxI_eq, extract_0, extract_1, extract_2, eqlI, neqI, makeFunc_eq, decide_true, decide_false, if_true, if_false, Bool.false_eq_true, Bool.not_true, Bool.not_false, reduceIte, List.getElem?_toArray, List.getElem?_cons_zero, List.getElem?_cons_succ, Option.isSome_none, List.length_map]
    refine text23_ok (by omega) fun g6 y6 => ?_
    have M6 := M5.ext y6
    refine ⟨by simp only [T_string.load, M6.c7], ?_⟩
    simp only [cat_tx (a := nb A.kind 1 ++ nb A.msg.kind 1 ++ nb A.msg.dest 1 ++ be A.msg.height 8 ++ nb A.msg.pfrom 1 ++ be A.msg.pseq 8 ++ be A.msg.ptimeout 8) (b := (be A.msg.pdata.length 2 ++ A.msg.pdata)) (by simp only [List.length_append, nb_len, be_len]; omega) (by rw [List.length_append, be_len]; omega), popO_some, bindH_eq, condV_bool, condV_true, condV_false, yV_bool, gopV_tt, gopV_ff, gopV_tf, gopV_ft, pickV_t, pickV_f, pickV_bool, nilS_ptr, add_eq, sub_eq, mul_eq, lss_eq, leq_eq, gtr_eq, geq_eq, not_eq, minI_eq, maxI_eq, extract_0, extract_1, extract_2, eqlI, neqI, makeFunc_eq, decide_true, decide_false, if_true, if_false, Bool.false_eq_true, Bool.not_true, Bool.not_false, reduceIte, List.getElem?_toArray, List.getElem?_cons_zero, List.getElem?_cons_succ, Option.isSome_none, List.length_map]
    refine text23_ok (by omega) fun g7 y7 => ?_
    have M7 := M6.ext y7
    simp only [cat_tx (a := nb A.kind 1 ++ nb A.msg.kind 1 ++ nb A.msg.dest 1 ++ be A.msg.height 8 ++ nb A.msg.pfrom 1 ++ be A.msg.pseq 8 ++ be A.msg.ptimeout 8 ++ (be A.msg.pdata.length 2 ++ A.msg.pdata)) (b := (be A.msg.proof.length 2 ++ A.msg.proof)) (by simp only [List.length_append, nb_len, be_len]; omega) (by rw [List.length_append, be_len]; omega), popO_some, bindH_eq, condV_bool, condV_true, condV_false, yV_bool, gopV_tt, gopV_ff, gopV_tf, gopV_ft, pickV_t, pickV_f, pickV_bool, nilS_ptr, add_eq, sub_eq, mul_eq, lss_eq, leq_eq, gtr_eq, geq_eq, not_eq, minI_eq, maxI_eq, extract_0, extract_1, extract_2, eqlI, neqI, makeFunc_eq, decide_true, decide_false, if_true, if_false, Bool.false_eq_true, Bool.not_true, Bool.not_false, reduceIte, List.getElem?_toArray, List.getElem?_cons_zero, List.getElem?_cons_succ, Option.isSome_none, List.length_map]
    refine fin g7 false _ hok ?_ (w.trans (y0.trans (y1.trans (y2.trans (y3.trans (y4.trans (y5.trans (y6.trans y7))))))))
    simp only [rOut, List.append_assoc]
  | true =>
  have p0 := hb0.1 rfl
  simp only [T_api_Message.f0, T_api_Message.f1, T_api_Message.f2, T_api_Message.f4, T_api_Packet.f0, T_api_Packet.f1, T_api_Packet.f2, T_api_Packet.f3, Nat.zero_add, T_int.load, T_uint64.load, T_string.load, M.c0, M.c1, M.c2, M.c7, M.p0, M.p1, M.p2, M.p3, T_string.len, tx_size, popO_some, bindH_eq, condV_bool, condV_true, condV_false, yV_bool, gopV_tt, gopV_ff, gopV_tf, gopV_ft, pickV_t, pickV_f, pickV_bool, nilS_ptr, add_eq, sub_eq, mul_eq, lss_eq, leq_eq, gtr_eq, geq_eq, not_eq, minI_eq, maxI_eq, extract_0, extract_1, extract_2, eqlI, neqI, makeFunc_eq, decide_true, decide_false, if_true, if_false, Bool.false_eq_true, Bool.not_true, Bool.not_false, reduceIte, List.getElem?_toArray, List.getElem?_cons_zero, List.getElem?_cons_succ, Option.isSome_none, List.length_map]
  refine fits1_ok fun b1 hb1 => ?_
  cases b1 with
  | false =>
    have hok : (false = true ↔ rOk 6 A) := ⟨fun e => (by cases e), fun e => hb1.2 ((fun e => e.2.1 : rOk 6 A → _) e)⟩
    simp only [T_api_Message.f0, T_api_Message.f1, T_api_Message.f2, T_api_Message.f4, T_api_Packet.f0, T_api_Packet.f1, T_api_Packet.f2, T_api_Packet.f3, Nat.zero_add, T_int.load, T_uint64.load, T_string.load, M.c0, M.c1, M.c2, M.c7, M.p0, M.p1, M.p2, M.p3, T_string.len, tx_size, popO_some, bindH_eq, condV_bool, condV_true, condV_false, yV_bool, gopV_tt, gopV_ff, gopV_tf, gopV_ft, pickV_t, pickV_f, pickV_bool, nilS_ptr, add_eq, sub_eq, mul_eq, lss_eq, leq_eq, gtr_eq, geq_eq, not_eq, minI_eq, maxI_eq, extract_0, extract_1, extract_2, eqlI, neqI, makeFunc_eq, decide_true, decide_false, if_true, if_false, Bool.false_eq_true, Bool.not_true, Bool.not_false, reduceIte, List.getElem?_toArray, List.getElem?_cons_zero, List.getElem?_cons_succ, Option.isSome_none, List.length_map]
    refine nb1_ok fun g0 y0 => ?_
    have M0 := M.ext y0
    refine ⟨by simp only [T_string.load, M0.c7], by simp only [T_string.load, M0.p3], by simp only [T_uint64.load, M0.p2], by simp only [T_uint64.load, M0.p1], by simp only [T_int.load, M0.p0], by simp only [T_uint64.load, M0.c2], by simp only [T_int.load, M0.c1], ?_⟩
    simp only [cat_tx (a := nb A.kind 1) (b := nb A.msg.kind 1) (by simp only [List.length_append, nb_len, be_len]; omega) (by rw [nb_len]; omega), popO_some, bindH_eq, condV_bool, condV_true, condV_false, yV_bool, gopV_tt, gopV_ff, gopV_tf, gopV_ft, pickV_t, pickV_f, pickV_bool, nilS_ptr, add_eq, sub_eq, mul_eq, lss_eq, leq_eq, gtr_eq, geq_eq, not_eq, minI_eq, maxI_eq, extract_0, extract_1, extract_2, eqlI, neqI, makeFunc_eq, decide_true, decide_false, if_true, if_false, Bool.false_eq_true, Bool.not_true, Bool.not_false, reduceIte, List.getElem?_toArray, List.getElem?_cons_zero, List.getElem?_cons_succ, Option.isSome_none, List.length_map]
    refine nb1_ok fun g1 y1 => ?_
    have M1 := M0.ext y1
    refine ⟨by simp only [T_string.load, M1.c7], by simp only [T_string.load, M1.p3], by simp only [T_uint64.load, M1.p2], by simp only [T_uint64.load, M1.p1], by simp only [T_int.load, M1.p0], by simp only [T_uint64.load, M1.c2], ?_⟩
    simp only [cat_tx (a := nb A.kind 1 ++ nb A.msg.kind 1) (b := nb A.msg.dest 1) (by simp only [List.length_append, nb_len, be_len]; omega) (by rw [nb_len]; omega), popO_some, bindH_eq, condV_bool, condV_true, condV_false, yV_bool, gopV_tt, gopV_ff, gopV_tf, gopV_ft, pickV_t, pickV_f, pickV_bool, nilS_ptr, add_eq, sub_eq, mul_eq, lss_eq, leq_eq, gtr_eq, geq_eq, not_eq, minI_eq, maxI_eq, extract_0, extract_1, extract_2, eqlI, neqI, makeFunc_eq, decide_true, decide_false, if_true, if_false, Bool.false_eq_true, Bool.not_true, Bool.not_false, reduceIte, List.getElem?_toArray, List.getElem?_cons_zero, List.getElem?_cons_succ, Option.isSome_none, List.length_map]
    refine be8_ok hA.he fun g2 y2 => ?_
    have M2 := M1.ext y2
    refine ⟨by simp only [T_string.load, M2.c7], by simp only [T_string.load, M2.p3], by simp only [T_uint64.load, M2.p2], by simp only [T_uint64.load, M2.p1], by simp only [T_int.load, M2.p0], ?_⟩
    simp only [cat_tx (a := nb A.kind 1 ++ nb A.msg.kind 1 ++ nb A.msg.dest 1) (b := be A.msg.height 8) (by simp only [List.length_append, nb_len, be_len]; omega) (by rw [be_len]; omega), popO_some, bindH_eq, condV_bool, condV_true, condV_false, yV_bool, gopV_tt, gopV_ff, gopV_tf, gopV_ft, pickV_t, pickV_f, pickV_bool, nilS_ptr, add_eq, sub_eq, mul_eq, lss_eq, leq_eq, gtr_eq, geq_eq, not_eq, minI_eq, maxI_eq, extract_0, extract_1, extract_2, eqlI, neqI, makeFunc_eq, decide_true, decide_false, if_true, if_false, Bool.false_eq_true, Bool.not_true, Bool.not_false, reduceIte, List.getElem?_toArray, List.getElem?_cons_zero, List.getElem?_cons_succ, Option.isSome_none, List.length_map]
    refine nb1_ok fun g3 y3 => ?_
    have M3 := M2.ext y3
    refine ⟨by simp only [T_string.load, M3.c7], by simp only [T_string.load, M3.p3], by simp only [T_uint64.load, M3.p2], by simp only [T_uint64.load, M3.p1], ?_⟩
    simp only [cat_tx (a := nb A.kind 1 ++ nb A.msg.kind 1 ++ nb A.msg.dest 1 ++ be A.msg.height 8) (b := nb A.msg.pfrom 1) (by simp only [List.length_append, nb_len, be_len]; omega) (by rw [nb_len]; omega), popO_some, bindH_eq, condV_bool, condV_true, condV_false, yV_bool, gopV_tt, gopV_ff, gopV_tf, gopV_ft, pickV_t, pickV_f, pickV_bool, nilS_ptr, add_eq, sub_eq, mul_eq, lss_eq, leq_eq, gtr_eq, geq_eq, not_eq, minI_eq, maxI_eq, extract_0, extract_1, extract_2, eqlI, neqI, makeFunc_eq, decide_true, decide_false, if_true, if_false, Bool.false_eq_true, Bool.not_true, Bool.not_false, reduceIte, List.getElem?_toArray, List.getElem?_cons_zero, List.getElem?_cons_succ, Option.isSome_none, List.length_map]
    refine be8_ok hA.ps fun g4 y4 => ?_
    have M4 := M3.ext y4
    refine ⟨by simp only [T_string.load, M4.c7], by simp only [T_string.load, M4.p3], by simp only [T_uint64.load, M4.p2], ?_⟩
    simp only [cat_tx (a := nb A.kind 1 ++ nb A.msg.kind 1 ++ nb A.msg.dest 1 ++ be A.msg.height 8 ++ nb A.msg.pfrom 1) (b := be A.msg.pseq 8) (by simp only [List.length_append, nb_len, be_len]; omega) (by rw [be_len]; omega), popO_some, bindH_eq, condV_bool, condV_true, condV_false, yV_bool, gopV_tt, gopV_ff, gopV_tf, gopV_ft, pickV_t, pickV_f, pickV_bool, nilS_ptr, add_eq, sub_eq, mul_eq, lss_eq, leq_eq, gtr_eq, geq_eq, not_eq, minI_eq, maxI_eq, extract_0, extract_1, extract_2, eqlI, neqI, makeFunc_eq, decide_true, decide_false, if_true, if_false, Bool.false_eq_true, Bool.not_true, Bool.not_false, reduceIte, List.getElem?_toArray, List.getElem?_cons_zero, List.getElem?_cons_succ, Option.isSome_none, List.length_map]
    refine be8_ok hA.pt fun g5 y5 => ?_
    have M5 := M4.ext y5
    refine ⟨by simp only [T_string.load, M5.c7], by simp only [T_string.load, M5.p3], ?_⟩
    simp only [cat_tx (a := nb A.kind 1 ++ nb A.msg.kind 1 ++ nb A.msg.dest 1 ++ be A.msg.height 8 ++ nb A.msg.pfrom 1 ++ be A.msg.pseq 8) (b := be A.msg.ptimeout 8) (by simp only [List.length_append, nb_len, be_len]; omega) (by rw [be_len]; omega), popO_some, bindH_eq, condV_bool, condV_true, condV_false, yV_bool, gopV_tt, gopV_ff, gopV_tf, gopV_ft, pickV_t, pickV_f, pickV_bool, nilS_ptr, add_eq, sub_eq, mul_eq, lss_eq, leq_eq, gtr_eq, geq_eq, not_eq, minI_eq, maxI_eq, extract_0, extract_1, extract_2, eqlI, neqI, makeFunc_eq, decide_true, decide_false, if_true, if_false, Bool.false_eq_true, Bool.not_true, Bool.not_false, reduceIte, List.getElem?_toArray, List.getElem?_cons_zero, List.getElem?_cons_succ, Option.isSome_none, List.length_map]
    refine text23_ok (by omega) fun g6 y6 => ?_
    have M6 := M5.ext y6
    refine ⟨by simp only [T_string.load, M6.c7], ?_⟩
    simp only [cat_tx (a := nb A.kind 1 ++ nb A.msg.kind 1 ++ nb A.msg.dest 1 ++ be A.msg.height 8 ++ nb A.msg.pfrom 1 ++ be A.msg.pseq 8 ++ be A.msg.ptimeout 8) (b := (be A.msg.pdata.length 2 ++ A.msg.pdata)) (by simp only [List.length_append, nb_len, be_len]; omega) (by rw [List.length_append, be_len]; omega), popO_some, bindH_eq, condV_bool, condV_true, condV_false, yV_bool, gopV_tt, gopV_ff, gopV_tf, gopV_ft, pickV_t, pickV_f, pickV_bool, nilS_ptr, add_eq, sub_eq, mul_eq, lss_eq, leq_eq, gtr_eq, geq_eq, not_eq, minI_eq, maxI_eq, extract_0, extract_1, extract_2, eqlI, neqI, makeFunc_eq, decide_true, decide_false, if_true, if_false, Bool.false_eq_true, Bool.not_true, Bool.not_false, reduceIte, List.getElem?_toArray, List.getElem?_cons_zero, List.getElem?_cons_succ, Option.isSome_none, List.length_map]
    refine text23_ok (by omega) fun g7 y7 => ?_
    have M7 := M6.ext y7
    simp only [cat_tx (a := nb A.kind 1 ++ nb A.msg.kind 1 ++ nb A.msg.dest 1 ++ be A.msg.height 8 ++ nb A.msg.pfrom 1 ++ be A.msg.pseq 8 ++ be A.msg.ptimeout 8 ++ (be A.msg.pdata.length 2 ++ A.msg.pdata)) (b := (be A.msg.proof.length 2 ++ A.msg.proof)) (by simp only [List.length_append, nb_len, be_len]; omega) (by rw [List.length_append, be_len]; omega), popO_some, bindH_eq, condV_bool, condV_true, condV_false, yV_bool, gopV_tt, gopV_ff, gopV_tf, gopV_ft, pickV_t, pickV_f, pickV_bool, nilS_ptr, add_eq, sub_eq, mul_eq, lss_eq, leq_eq, gtr_eq, geq_eq, not_eq, minI_eq, maxI_eq, extract_0, extract_1, extract_2, eqlI, neqI, makeFunc_eq, decide_true, decide_false, if_true, if_false, Bool.false_eq_true, Bool.not_true, Bool.not_false, reduceIte, List.getElem?_toArray, List.getElem?_cons_zero, List.getElem?_cons_succ, Option.isSome_none, List.length_map]
    refine fin g7 false _ hok ?_ (w.trans (y0.trans (y1.trans (y2.trans (y3.trans (y4.trans (y5.trans (y6.trans y7))))))))
    simp only [rOut, List.append_assoc]
  | true =>
  have p1 := hb1.1 rfl
  simp only [T_api_Message.f0, T_api_Message.f1, T_api_Message.f2, T_api_Message.f4, T_api_Packet.f0, T_api_Packet.f1, T_api_Packet.f2, T_api_Packet.f3, Nat.zero_add, T_int.load, T_uint64.load, T_string.load, M.c0, M.c1, M.c2, M.c7, M.p0, M.p1, M.p2, M.p3, T_string.len, tx_size, popO_some, bindH_eq, condV_bool, condV_true, condV_false, yV_bool, gopV_tt, gopV_ff, gopV_tf, gopV_ft, pickV_t, pickV_f, pickV_bool, nilS_ptr, add_eq, sub_eq, mul_eq, lss_eq, leq_eq, gtr_eq, geq_eq, not_eq, minI_eq, maxI_eq, extract_0, extract_1, extract_2, eqlI, neqI, makeFunc_eq, decide_true, decide_false, if_true, if_false, Bool.false_eq_true, Bool.not_true, Bool.not_false, reduceIte, List.getElem?_toArray, List.getElem?_cons_zero, List.getElem?_cons_succ, Option.isSome_none, List.length_map]
  refine fits1_ok fun b2 hb2 => ?_
  cases b2 with
  | false =>
    have hok : (false = true ↔ rOk 6 A) := ⟨fun e => (by cases e), fun e => hb2.2 ((fun e => e.2.2.1 : rOk 6 A → _) e)⟩
    simp only [T_api_Message.f0, T_api_Message.f1, T_api_Message.f2, T_api_Message.f4, T_api_Packet.f0, T_api_Packet.f1, T_api_Packet.f2, T_api_Packet.f3, Nat.zero_add, T_int.load, T_uint64.load, T_string.load, M.c0, M.c1, M.c2, M.c7, M.p0, M.p1, M.p2, M.p3, T_string.len, tx_size, popO_some, bindH_eq, condV_bool, condV_true, condV_false, yV_bool, gopV_tt, gopV_ff, gopV_tf, gopV_ft, pickV_t, pickV_f, pickV_bool, nilS_ptr, add_eq, sub_eq, mul_eq, lss_eq, leq_eq, gtr_eq, geq_eq, not_eq, minI_eq, maxI_eq, extract_0, extract_1, extract_2, eqlI, neqI, makeFunc_eq, decide_true, decide_false, if_true, if_false, Bool.false_eq_true, Bool.not_true, Bool.not_false, reduceIte, List.getElem?_toArray, List.getElem?_cons_zero, List.getElem?_cons_succ, Option.isSome_none, List.length_map]
    refine nb1_ok fun g0 y0 => ?_
    have M0 := M.ext y0
    refine ⟨by simp only [T_string.load, M0.c7], by simp only [T_string.load, M0.p3], by simp only [T_uint64.load, M0.p2], by simp only [T_uint64.load, M0.p1], by simp only [T_int.load, M0.p0], by simp only [T_uint64.load, M0.c2], by simp only [T_int.load, M0.c1], ?_⟩
    simp only [cat_tx (a := nb A.kind 1) (b := nb A.msg.kind 1) (by simp only [List.length_append, nb_len, be_len]; omega) (by rw [nb_len]; omega), popO_some, bindH_eq, condV_bool, condV_true, condV_false, yV_bool, gopV_tt, gopV_ff, gopV_tf, gopV_ft, pickV_t, pickV_f, pickV_bool, nilS_ptr, add_eq, sub_eq, mul_eq, lss_eq, leq_eq, gtr_eq, geq_eq, not_eq, minI_eq, maxI_eq, extract_0, extract_1, extract_2, eqlI, neqI, makeFunc_eq, decide_true, decide_false, if_true, if_false, Bool.false_eq_true, Bool.not_true, Bool.not_false, reduceIte, List.getElem?_toArray, List.getElem?_cons_zero, List.getElem?_cons_succ, Option.isSome_none, List.length_map]
    refine nb1_ok fun g1 y1 => ?_
    have M1 := M0.ext y1
    refine ⟨by simp only [T_string.load, M1.c7], by simp only [T_string.load, M1.p3], by simp only [T_uint64.load, M1.p2], by simp only [T_uint64.load, M1.p1], by simp only [T_int.load, M1.p0], by simp only [T_uint64.load, M1.c2], ?_⟩
    simp only [cat_tx (a := nb A.kind 1 ++ nb A.msg.kind 1) (b := nb A.msg.dest 1) (by simp only [List.length_append, nb_len, be_len]; omega) (by rw [nb_len]; omega), popO_some, bindH_eq, condV_bool, condV_true, condV_false, yV_bool, gopV_tt, gopV_ff, gopV_tf, gopV_ft, pickV_t, pickV_f, pickV_bool, nilS_ptr, add_eq, sub_eq, mul_eq, lss_eq, leq_eq, gtr_eq, geq_eq, not_eq, minI_eq, maxI_eq, extract_0, extract_1, extract_2, eqlI, neqI, makeFunc_eq, decide_true, decide_false, if_true, if_false, Bool.false_eq_true, Bool.not_true, Bool.not_false, reduceIte, List.getElem?_toArray, List.getElem?_cons_zero, List.getElem?_cons_succ, Option.isSome_none, List.length_map]
    refine be8_ok hA.he fun g2 y2 => ?_
    have M2 := M1.ext y2
    refine ⟨by simp only [T_string.load, M2.c7], by simp only [T_string.load, M2.p3], by simp only [T_uint64.load, M2.p2], by simp only [T_uint64.load, M2.p1], by simp only [T_int.load, M2.p0], ?_⟩
    simp only [cat_tx (a := nb A.kind 1 ++ nb A.msg.kind 1 ++ nb A.msg.dest 1) (b := be A.msg.height 8) (by simp only [List.length_append, nb_len, be_len]; omega) (by rw [be_len]; omega), popO_some, bindH_eq, condV_bool, condV_true, condV_false, yV_bool, gopV_tt, gopV_ff, gopV_tf, gopV_ft, pickV_t, pickV_f, pickV_bool, nilS_ptr, add_eq, sub_eq, mul_eq, lss_eq, leq_eq, gtr_eq, geq_eq, not_eq, minI_eq, maxI_eq, extract_0, extract_1, extract_2, eqlI, neqI, makeFunc_eq, decide_true, decide_false, if_true, if_false, Bool.false_eq_true, Bool.not_true, Bool.not_false, reduceIte, List.getElem?_toArray, List.getElem?_cons_zero, List.getElem?_cons_succ, Option.isSome_none, List.length_map]
    refine nb1_ok fun g3 y3 => ?_
    have M3 := M2.ext y3
    refine ⟨by simp only [T_string.load, M3.c7], by simp only [T_string.load, M3.p3], by simp only [T_uint64.load, M3.p2], by simp only [T_uint64.load, M3.p1], ?_⟩
    simp only [cat_tx (a := nb A.kind 1 ++ nb A.msg.kind 1 ++ nb A.msg.dest 1 ++ be A.msg.height 8) (b := nb A.msg.pfrom 1) (by simp only [List.length_append, nb_len, be_len]; omega) (by rw [nb_len]; omega), popO_some, bindH_eq, condV_bool, condV_true, condV_false, yV_bool, gopV_tt, gopV_ff, gopV_tf, gopV_ft, pickV_t, pickV_f, pickV_bool, nilS_ptr, add_eq, sub_eq, mul_eq, lss_eq, leq_eq, gtr_eq, geq_eq, not_eq, minI_eq, maxI_eq, extract_0, extract_1, extract_2, eqlI, neqI, makeFunc_eq, decide_true, decide_false, if_true, if_false, Bool.false_eq_true, Bool.not_true, Bool.not_false, reduceIte, List.getElem?_toArray, List.getElem?_cons_zero, List.getElem?_cons_succ, Option.isSome_none, List.length_map]
    refine be8_ok hA.ps fun g4 y4 => ?_
    have M4 := M3.ext y4
    refine ⟨by simp only [T_string.load, M4.c7], by simp only [T_string.load, M4.p3], by simp only [T_uint64.load, M4.p2], ?_⟩
    simp only [cat_tx (a := nb A.kind 1 ++ nb A.msg.kind 1 ++ nb A.msg.dest 1 ++ be A.msg.height 8 ++ nb A.msg.pfrom 1) (b := be A.msg.pseq 8) (by simp only [List.length_append, nb_len, be_len]; omega) (by rw [be_len]; omega), popO_some, bindH_eq, condV_bool, condV_true, condV_false, yV_bool, gopV_tt, gopV_ff, gopV_tf, gopV_ft, pickV_t, pickV_f, pickV_bool, nilS_ptr, add_eq, sub_eq, mul_eq, lss_eq, leq_eq, gtr_eq, geq_eq, not_eq, minI_eq, maxI_eq, extract_0, extract_1, extract_2, eqlI, neqI, makeFunc_eq, decide_true, decide_false, if_true, if_false, Bool.false_eq_true, Bool.not_true, Bool.not_false, reduceIte, List.getElem?_toArray, List.getElem?_cons_zero, List.getElem?_cons_succ, Option.isSome_none, List.length_map]
    refine be8_ok hA.pt fun g5 y5 => ?_
    have M5 := M4.ext y5
    refine ⟨by simp only [T_string.load, M5.c7], by simp only [T_string.load, M5.p3], ?_⟩
    simp only [cat_tx (a := nb A.kind 1 ++ nb A.msg.kind 1 ++ nb A.msg.dest 1 ++ be A.msg.height 8 ++ nb A.msg.pfrom 1 ++ be A.msg.pseq 8) (b := be A.msg.ptimeout 8) (by simp only [List.length_append, nb_len, be_len]; omega) (by rw [be_len]; omega), popO_some, bindH_eq, condV_bool, condV_true, condV_false, yV_bool, gopV_tt, gopV_ff, gopV_tf, gopV_ft, pickV_t, pickV_f, pickV_bool, nilS_ptr, add_eq, sub_eq, mul_eq, lss_eq, leq_eq, gtr_eq, geq_eq, not_eq, minI_eq, maxI_eq, extract_0, extract_1, extract_2, eqlI, neqI, makeFunc_eq, decide_true, decide_false, if_true, if_false, Bool.false_eq_true, Bool.not_true, Bool.not_false, reduceIte, List.getElem?_toArray, List.getElem?_cons_zero, List.getElem?_cons_succ, Option.isSome_none, List.length_map]
    refine text23_ok (by omega) fun g6 y6 => ?_
    have M6 := M5.ext y6
    refine ⟨by simp only [T_string.load, M6.c7], ?_⟩
    simp only [cat_tx (a := nb A.kind 1 ++ nb A.msg.kind 1 ++ nb A.msg.dest 1 ++ be A.msg.height 8 ++ nb A.msg.pfrom 1 ++ be A.msg.pseq 8 ++ be A.msg.ptimeout 8) (b := (be A.msg.pdata.length 2 ++ A.msg.pdata)) (by simp only [List.length_append, nb_len, be_len]; omega) (by rw [List.length_append, be_len]; omega), popO_some, bindH_eq, condV_bool, condV_true, condV_false, yV_bool, gopV_tt, gopV_ff, gopV_tf, gopV_ft, pickV_t, pickV_f, pickV_bool, nilS_ptr, add_eq, sub_eq, mul_eq, lss_eq, leq_eq, gtr_eq, geq_eq, not_eq, minI_eq, maxI_eq, extract_0, extract_1, extract_2, eqlI, neqI, makeFunc_eq, decide_true, decide_false, if_true, if_false, Bool.false_eq_true, Bool.not_true, Bool.not_false, reduceIte, List.getElem?_toArray, List.getElem?_cons_zero, List.getElem?_cons_succ, Option.isSome_none, List.length_map]
    refine text23_ok (by omega) fun g7 y7 => ?_
    have M7 := M6.ext y7
    simp only [cat_tx (a := nb A.kind 1 ++ nb A.msg.kind 1 ++ nb A.msg.dest 1 ++ be A.msg.height 8 ++ nb A.msg.pfrom 1 ++ be A.msg.pseq 8 ++ be A.msg.ptimeout 8 ++ (be A.msg.pdata.length 2 ++ A.msg.pdata)) (b := (be A.msg.proof.length 2 ++ A.msg.proof)) (by simp only [List.length_append, nb_len, be_len]; omega) (by rw [List.length_append, be_len]; omega), popO_some, bindH_eq, condV_bool, condV_true, condV_false, yV_bool, gopV_tt, gopV_ff, gopV_tf, gopV_ft, pickV_t, pickV_f, pickV_bool, nilS_ptr, add_eq, sub_eq, mul_eq, lss_eq, leq_eq, gtr_eq, geq_eq, not_eq, minI_eq, maxI_eq, extract_0, extract_1, extract_2, eqlI, neqI, makeFunc_eq, decide_true, decide_false, if_true, if_false, Bool.false_eq_true, Bool.not_true, Bool.not_false, reduceIte, List.getElem?_toArray, List.getElem?_cons_zero, List.getElem?_cons_succ, Option.isSome_none, List.length_map]
    refine fin g7 false _ hok ?_ (w.trans (y0.trans (y1.trans (y2.trans (y3.trans (y4.trans (y5.trans (y6.trans y7))))))))
    simp only [rOut, List.append_assoc]
  | true =>
  have p2 := hb2.1 rfl

  by_cases p3 : A.msg.pdata.length ≤ 65535
  rotate_left
  · have q3 : ((A.msg.pdata.length : Int) ≤ 65535) = False := by apply eq_false; omega
    have hok : (false = true ↔ rOk 6 A) := ⟨fun e => (by cases e), fun e => absurd ((fun e => e.2.2.2.1 : rOk 6 A → _) e) p3⟩
    simp only [T_api_Message.f0, T_api_Message.f1, T_api_Message.f2, T_api_Message.f4, T_api_Packet.f0, T_api_Packet.f1, T_api_Packet.f2, T_api_Packet.f3, Nat.zero_add, T_int.load, T_uint64.load, T_string.load, M.c0, M.c1, M.c2, M.c7, M.p0, M.p1, M.p2, M.p3, T_string.len, tx_size, q3, popO_some, bindH_eq, condV_bool, condV_true, condV_false, yV_bool, gopV_tt, gopV_ff, gopV_tf, gopV_ft, pickV_t, pickV_f, pickV_bool, nilS_ptr, add_eq, sub_eq, mul_eq, lss_eq, leq_eq, gtr_eq, geq_eq, not_eq, minI_eq, maxI_eq, extract_0, extract_1, extract_2, eqlI, neqI, makeFunc_eq, decide_true, decide_false, if_true, if_false, Bool.false_eq_true, Bool.not_true, Bool.not_false, reduceIte, List.getElem?_toArray, List.getElem?_cons_zero, List.getElem?_cons_succ, Option.isSome_none, List.length_map]
    refine nb1_ok fun g0 y0 => ?_
    have M0 := M.ext y0
    refine ⟨by simp only [T_string.load, M0.c7], by simp only [T_string.load, M0.p3], by simp only [T_uint64.load, M0.p2], by simp only [T_uint64.load, M0.p1], by simp only [T_int.load, M0.p0], by simp only [T_uint64.load, M0.c2], by simp only [T_int.load, M0.c1], ?_⟩
    simp only [cat_tx (a := nb A.kind 1) (b := nb A.msg.kind 1) (by simp only [List.length_append, nb_len, be_len]; omega) (by rw [nb_len]; omega), popO_some, bindH_eq, condV_bool, condV_true, condV_false, yV_bool, gopV_tt, gopV_ff, gopV_tf, gopV_ft, pickV_t, pickV_f, pickV_bool, nilS_ptr, add_eq, sub_eq, mul_eq, lss_eq, leq_eq, gtr_eq, geq_eq, not_eq, minI_eq, maxI_eq, extract_0, extract_1, extract_2, eqlI, neqI, makeFunc_eq, decide_true, decide_false, if_true, if_false, Bool.false_eq_true, Bool.not_true, Bool.not_false, reduceIte, List.getElem?_toArray, List.getElem?_cons_zero, List.getElem?_cons_succ, Option.isSome_none, List.length_map]
    refine nb1_ok fun g1 y1 => ?_
    have M1 := M0.ext y1
    refine ⟨by simp only [T_string.load, M1.c7], by simp only [T_string.load, M1.p3], by simp only [T_uint64.load, M1.p2], by simp only [T_uint64.load, M1.p1], by simp only [T_int.load, M1.p0], by simp only [T_uint64.load, M1.c2], ?_⟩
    simp only [cat_tx (a := nb A.kind 1 ++ nb A.msg.kind 1) (b := nb A.msg.dest 1) (by simp only [List.length_append, nb_len, be_len]; omega) (by rw [nb_len]; omega), popO_some, bindH_eq, condV_bool, condV_true, condV_false, yV_bool, gopV_tt, gopV_ff, gopV_tf, gopV_ft, pickV_t, pickV_f, pickV_bool, nilS_ptr, add_eq, sub_eq, mul_eq, lss_eq, leq_eq, gtr_eq, geq_eq, not_eq, minI_eq, maxI_eq, extract_0, extract_1, extract_2, eqlI, neqI, makeFunc_eq, decide_true, decide_false, if_true, if_false, Bool.false_eq_true, Bool.not_true, Bool.not_false, reduceIte, List.getElem?_toArray, List.getElem?_cons_zero, List.getElem?_cons_succ, Option.isSome_none, List.length_map]
    refine be8_ok hA.he fun g2 y2 => ?_
    have M2 := M1.ext y2
    refine ⟨by simp only [T_string.load, M2.c7], by simp only [T_string.load, M2.p3], by simp only [T_uint64.load, M2.p2], by simp only [T_uint64.load, M2.p1], by simp only [T_int.load, M2.p0], ?_⟩
    simp only [cat_tx (a := nb A.kind 1 ++ nb A.msg.kind 1 ++ nb A.msg.dest 1) (b := be A.msg.height 8) (by simp only [List.length_append, nb_len, be_len]; omega) (by rw [be_len]; omega), popO_some, bindH_eq, condV_bool, condV_true, condV_false, yV_bool, gopV_tt, gopV_ff, gopV_tf, gopV_ft, pickV_t, pickV_f, pickV_bool, nilS_ptr, add_eq, sub_eq, mul_eq, lss_eq, leq_eq, gtr_eq, geq_eq, not_eq, minI_eq, maxI_eq, extract_0, extract_1, extract_2, eqlI, neqI, makeFunc_eq, decide_true, decide_false, if_true, if_false, Bool.false_eq_true, Bool.not_true, Bool.not_false, reduceIte, List.getElem?_toArray, List.getElem?_cons_zero, List.getElem?_cons_succ, Option.isSome_none, List.length_map]
    refine nb1_ok fun g3 y3 => ?_
    have M3 := M2.ext y3
    refine ⟨by simp only [T_string.load, M3.c7], by simp only [T_string.load, M3.p3], by simp only [T_uint64.load, M3.p2], by simp only [T_uint64.load, M3.p1], ?_⟩
    simp only [cat_tx (a := nb A.kind 1 ++ nb A.msg.kind 1 ++ nb A.msg.dest 1 ++ be A.msg.height 8) (b := nb A.msg.pfrom 1) (by simp only [List.length_append, nb_len, be_len]; omega) (by rw [nb_len]; omega), popO_some, bindH_eq, condV_bool, condV_true, condV_false, yV_bool, gopV_tt, gopV_ff, gopV_tf, gopV_ft, pickV_t, pickV_f, pickV_bool, nilS_ptr, add_eq, sub_eq, mul_eq, lss_eq, leq_eq, gtr_eq, geq_eq, not_eq, minI_eq, maxI_eq, extract_0, extract_1, extract_2, eqlI, neqI, makeFunc_eq, decide_true, decide_false, if_true, if_false, Bool.false_eq_true, Bool.not_true, Bool.not_false, reduceIte, List.getElem?_toArray, List.getElem?_cons_zero, List.getElem?_cons_succ, Option.isSome_none, List.length_map]
    refine be8_ok hA.ps fun g4 y4 => ?_
    have M4 := M3.ext y4
    refine ⟨by simp only [T_string.load, M4.c7], by simp only [T_string.load, M4.p3], by simp only [T_uint64.load, M4.p2], ?_⟩
    simp only [cat_tx (a := nb A.kind 1 ++ nb A.msg.kind 1 ++ nb A.msg.dest 1 ++ be A.msg.height 8 ++ nb A.msg.pfrom 1) (b := be A.msg.pseq 8) (by simp only [List.length_append, nb_len, be_len]; omega) (by rw [be_len]; omega), popO_some, bindH_eq, condV_bool, condV_true, condV_false, yV_bool, gopV_tt, gopV_ff, gopV_tf, gopV_ft, pickV_t, pickV_f, pickV_bool, nilS_ptr, add_eq, sub_eq, mul_eq, lss_eq, leq_eq, gtr_eq, geq_eq, not_eq, minI_eq, maxI_eq, extract_0, extract_1, extract_2, eqlI, neqI, makeFunc_eq, decide_true, decide_false, if_true, if_false, Bool.false_eq_true, Bool.not_true, Bool.not_false, reduceIte, List.getElem?_toArray, List.getElem?_cons_zero, List.getElem?_cons_succ, Option.isSome_none, List.length_map]
    refine be8_ok hA.pt fun g5 y5 => ?_
    have M5 := M4.ext y5
    refine ⟨by simp only [T_string.load, M5.c7], by simp only [T_string.load, M5.p3], ?_⟩
    simp only [cat_tx (a := nb A.kind 1 ++ nb A.msg.kind 1 ++ nb A.msg.dest 1 ++ be A.msg.height 8 ++ nb A.msg.pfrom 1 ++ be A.msg.pseq 8) (b := be A.msg.ptimeout 8) (by simp only [List.length_append, nb_len, be_len]; omega) (by rw [be_len]; omega), popO_some, bindH_eq, condV_bool, condV_true, condV_false, yV_bool, gopV_tt, gopV_ff, gopV_tf, gopV_ft, pickV_t, pickV_f, pickV_bool, nilS_ptr, add_eq, sub_eq, mul_eq, lss_eq, leq_eq, gtr_eq, geq_eq, not_eq, minI_eq, maxI_eq, extract_0, extract_1, extract_2, eqlI, neqI, makeFunc_eq, decide_true, decide_false, if_true, if_false, Bool.false_eq_true, Bool.not_true, Bool.not_false, reduceIte, List.getElem?_toArray, List.getElem?_cons_zero, List.getElem?_cons_succ, Option.isSome_none, List.length_map]
    refine text23_ok (by omega) fun g6 y6 => ?_
    have M6 := M5.ext y6
    refine ⟨by simp only [T_string.load, M6.c7], ?_⟩
    simp only [cat_tx (a := nb A.kind 1 ++ nb A.msg.kind 1 ++ nb A.msg.dest 1 ++ be A.msg.height 8 ++ nb A.msg.pfrom 1 ++ be A.msg.pseq 8 ++ be A.msg.ptimeout 8) (b := (be A.msg.pdata.length 2 ++ A.msg.pdata)) (by simp only [List.length_append, nb_len, be_len]; omega) (by rw [List.length_append, be_len]; omega), popO_some, bindH_eq, condV_bool, condV_true, condV_false, yV_bool, gopV_tt, gopV_ff, gopV_tf, gopV_ft, pickV_t, pickV_f, pickV_bool, nilS_ptr, add_eq, sub_eq, mul_eq, lss_eq, leq_eq, gtr_eq, geq_eq, not_eq, minI_eq, maxI_eq, extract_0, extract_1, extract_2, eqlI, neqI, makeFunc_eq, decide_true, decide_false, if_true, if_false, Bool.false_eq_true, Bool.not_true, Bool.not_false, reduceIte, List.getElem?_toArray, List.getElem?_cons_zero, List.getElem?_cons_succ, Option.isSome_none, List.length_map]
    refine text23_ok (by omega) fun g7 y7 => ?_
    have M7 := M6.ext y7
    simp only [cat_tx (a := nb A.kind 1 ++ nb A.msg.kind 1 ++ nb A.msg.dest 1 ++ be A.msg.height 8 ++ nb A.msg.pfrom 1 ++ be A.msg.pseq 8 ++ be A.msg.ptimeout 8 ++ (be A.msg.pdata.length 2 ++ A.msg.pdata)) (b := (be A.msg.proof.length 2 ++ A.msg.proof)) (by simp only [List.length_append, nb_len, be_len]; omega) (by rw [List.length_append, be_len]; omega), popO_some, bindH_eq, condV_bool, condV_true, condV_false, yV_bool, gopV_tt, gopV_ff, gopV_tf, gopV_ft, pickV_t, pickV_f, pickV_bool, nilS_ptr, add_eq, sub_eq, mul_eq, lss_eq, leq_eq, gtr_eq, geq_eq, not_eq, minI_eq, maxI_eq, extract_0, extract_1, extract_2, eqlI, neqI, makeFunc_eq, decide_true, decide_false, if_true, if_false, Bool.false_eq_true, Bool.not_true, Bool.not_false, reduceIte, List.getElem?_toArray, List.getElem?_cons_zero, List.getElem?_cons_succ, Option.isSome_none, List.length_map]
    refine fin g7 false _ hok ?_ (w.trans (y0.trans (y1.trans (y2.trans (y3.trans (y4.trans (y5.trans (y6.trans y7))))))))
    simp only [rOut, List.append_assoc]
  have q3 : ((A.msg.pdata.length : Int) ≤ 65535) = True := by apply eq_true; omega
  by_cases p4 : A.msg.proof.length ≤ 65535
  rotate_left
  · have q4 : ((A.msg.proof.length : Int) ≤ 65535) = False := by apply eq_false; omega
    have hok : (false = true ↔ rOk 6 A) := ⟨fun e => (by cases e), fun e => absurd ((fun e => e.2.2.2.2 : rOk 6 A → _) e) p4⟩
    simp only [T_api_Message.f0, T_api_Message.f1, T_api_Message.f2, T_api_Message.f4, T_api_Packet.f0, T_api_Packet.f1, T_api_Packet.f2, T_api_Packet.f3, Nat.zero_add, T_int.load, T_uint64.load, T_string.load, M.c0, M.c1, M.c2, M.c7, M.p0, M.p1, M.p2, M.p3, T_string.len, tx_size, q3, q4, popO_some, bindH_eq, condV_bool, condV_true, condV_false, yV_bool, gopV_tt, gopV_ff, gopV_tf, gopV_ft, pickV_t, pickV_f, pickV_bool, nilS_ptr, add_eq, sub_eq, mul_eq, lss_eq, leq_eq, gtr_eq, geq_eq, not_eq, minI_eq, maxI_eq, extract_0, extract_1, extract_2, eqlI, neqI, makeFunc_eq, decide_true, decide_false, if_true, if_false, Bool.false_eq_true, Bool.not_true, Bool.not_false, reduceIte, List.getElem?_toArray, List.getElem?_cons_zero, List.getElem?_cons_succ, Option.isSome_none, List.length_map]
    refine nb1_ok fun g0 y0 => ?_
    have M0 := M.ext y0
    refine ⟨by simp only [T_string.load, M0.c7], by simp only [T_string.load, M0.p3], by simp only [T_uint64.load, M0.p2], by simp only [T_uint64.load, M0.p1], by simp only [T_int.load, M0.p0], by simp only [T_uint64.load, M0.c2], by simp only [T_int.load, M0.c1], ?_⟩
    simp only [cat_tx (a := nb A.kind 1) (b := nb A.msg.kind 1) (by simp only [List.length_append, nb_len, be_len]; omega) (by rw [nb_len]; omega), popO_some, bindH_eq, condV_bool, condV_true, condV_false, yV_bool, gopV_tt, gopV_ff, gopV_tf, gopV_ft, pickV_t, pickV_f, pickV_bool, nilS_ptr, add_eq, sub_eq, mul_eq, lss_eq, leq_eq, gtr_eq, geq_eq, not_eq, minI_eq, maxI_eq, extract_0, extract_1, extract_2, eqlI, neqI, makeFunc_eq, decide_true, decide_false, if_true, if_false, Bool.false_eq_true, Bool.not_true, Bool.not_false, reduceIte, List.getElem?_toArray, List.getElem?_cons_zero, List.getElem?_cons_succ, Option.isSome_none, List.length_map]
    refine nb1_ok fun g1 y1 => ?_
    have M1 := M0.ext y1
    refine ⟨by simp only [T_string.load, M1.c7], by simp only [T_string.load, M1.p3], by simp only [T_uint64.load, M1.p2], by simp only [T_uint64.load, M1.p1], by simp only [T_int.load, M1.p0], by simp only [T_uint64.load, M1.c2], ?_⟩
    simp only [cat_tx (a := nb A.kind 1 ++ nb A.msg.kind 1) (b := nb A.msg.dest 1) (by simp only [List.length_append, nb_len, be_len]; omega) (by rw [nb_len]; omega), popO_some, bindH_eq, condV_bool, condV_true, condV_false, yV_bool, gopV_tt, gopV_ff, gopV_tf, gopV_ft, pickV_t, pickV_f, pickV_bool, nilS_ptr, add_eq, sub_eq, mul_eq, lss_eq, leq_eq, gtr_eq, geq_eq, not_eq, minI_eq, maxI_eq, extract_0, extract_1, extract_2, eqlI, neqI, makeFunc_eq, decide_true, decide_false, if_true, if_false, Bool.false_eq_true, Bool.not_true, Bool.not_false, reduceIte, List.getElem?_toArray, List.getElem?_cons_zero, List.getElem?_cons_succ, Option.isSome_none, List.length_map]
    refine be8_ok hA.he fun g2 y2 => ?_
    have M2 := M1.ext y2
    refine ⟨by simp only [T_string.load, M2.c7], by simp only [T_string.load, M2.p3], by simp only [T_uint64.load, M2.p2], by simp only [T_uint64.load, M2.p1], by simp only [T_int.load, M2.p0], ?_⟩
    simp only [cat_tx (a := nb A.kind 1 ++ nb A.msg.kind 1 ++ nb A.msg.dest 1) (b := be A.msg.height 8) (by simp only [List.length_append, nb_len, be_len]; omega) (by rw [be_len]; omega), popO_some, bindH_eq, condV_bool, condV_true, condV_false, yV_bool, gopV_tt, gopV_ff, gopV_tf, gopV_ft, pickV_t, pickV_f, pickV_bool, nilS_ptr, add_eq, sub_eq, mul_eq, lss_eq, leq_eq, gtr_eq, geq_eq, not_eq, minI_eq, maxI_eq, extract_0, extract_1, extract_2, eqlI, neqI, makeFunc_eq, decide_true, decide_false, if_true, if_false, Bool.false_eq_true, Bool.not_true, Bool.not_false, reduceIte, List.getElem?_toArray, List.getElem?_cons_zero, List.getElem?_cons_succ, Option.isSome_none, List.length_map]
    refine nb1_ok fun g3 y3 => ?_
    have M3 := M2.ext y3
    refine ⟨by simp only [T_string.load, M3.c7], by simp only [T_string.load, M3.p3], by simp only [T_uint64.load, M3.p2], by simp only [T_uint64.load, M3.p1], ?_⟩
    simp only [cat_tx (a := nb A.kind 1 ++ nb A.msg.kind 1 ++ nb A.msg.dest 1 ++ be A.msg.height 8) (b := nb A.msg.pfrom 1) (by simp only [List.length_append, nb_len, be_len]; omega) (by rw [nb_len]; omega), popO_some, bindH_eq, condV_bool, condV_true, condV_false, yV_bool, gopV_tt, gopV_ff, gopV_tf, gopV_ft, pickV_t, pickV_f, pickV_bool, nilS_ptr, add_eq, sub_eq, mul_eq, lss_eq, leq_eq, gtr_eq, geq_eq, not_eq, minI_eq, maxI_eq, extract_0, extract_1, extract_2, eqlI, neqI, makeFunc_eq, decide_true, decide_false, if_true, if_false, Bool.false_eq_true, Bool.not_true, Bool.not_false, reduceIte, List.getElem?_toArray, List.getElem?_cons_zero, List.getElem?_cons_succ, Option.isSome_none, List.length_map]
    refine be8_ok hA.ps fun g4 y4 => ?_
    have M4 := M3.ext y4
    refine ⟨by simp only [T_string.load, M4.c7], by simp only [T_string.load, M4.p3], by simp only [T_uint64.load, M4.p2], ?_⟩
    simp only [cat_tx (a := nb A.kind 1 ++ nb A.msg.kind 1 ++ nb A.msg.dest 1 ++ be A.msg.height 8 ++ nb A.msg.pfrom 1) (b := be A.msg.pseq 8) (by simp only [List.length_append, nb_len, be_len]; omega) (by rw [be_len]; omega), popO_some, bindH_eq, condV_bool, condV_true, condV_false, yV_bool, gopV_tt, gopV_ff, gopV_tf, gopV_ft, pickV_t, pickV_f, pickV_bool, nilS_ptr, add_eq, sub_eq, mul_eq, lss_eq, leq_eq, gtr_eq, geq_eq, not_eq, minI_eq, maxI_eq, extract_0, extract_1, extract_2, eqlI, neqI, makeFunc_eq, decide_true, decide_false, if_true, if_false, Bool.false_eq_true, Bool.not_true, Bool.not_false, reduceIte, List.getElem?_toArray, List.getElem?_cons_zero, List.getElem?_cons_succ, Option.isSome_none, List.length_map]
    refine be8_ok hA.pt fun g5 y5 => ?_
    have M5 := M4.ext y5
    refine ⟨by simp only [T_string.load, M5.c7], by simp only [T_string.load, M5.p3], ?_⟩
    simp only [cat_tx (a := nb A.kind 1 ++ nb A.msg.kind 1 ++ nb A.msg.dest 1 ++ be A.msg.height 8 ++ nb A.msg.pfrom 1 ++ be A.msg.pseq 8) (b := be A.msg.ptimeout 8) (by simp only [List.length_append, nb_len, be_len]; omega) (by rw [be_len]; omega), popO_some, bindH_eq, condV_bool, condV_true, condV_false, yV_bool, gopV_tt, gopV_ff, gopV_tf, gopV_ft, pickV_t, pickV_f, pickV_bool, nilS_ptr, add_eq, sub_eq, mul_eq, lss_eq, leq_eq, gtr_eq, geq_eq, not_eq, minI_eq, maxI_eq, extract_0, extract_1, extract_2, eqlI, neqI, makeFunc_eq, decide_true, decide_false, if_true, if_false, Bool.false_eq_true, Bool.not_true, Bool.not_false, reduceIte, List.getElem?_toArray, List.getElem?_cons_zero, List.getElem?_cons_succ, Option.isSome_none, List.length_map]
    refine text23_ok (by omega) fun g6 y6 => ?_
    have M6 := M5.ext y6
    refine ⟨by simp only [T_string.load, M6.c7], ?_⟩
    simp only [cat_tx (a := nb A.kind 1 ++ nb A.msg.kind 1 ++ nb A.msg.dest 1 ++ be A.msg.height 8 ++ nb A.msg.pfrom 1 ++ be A.msg.pseq 8 ++ be A.msg.ptimeout 8) (b := (be A.msg.pdata.length 2 ++ A.msg.pdata)) (by simp only [List.length_append, nb_len, be_len]; omega) (by rw [List.length_append, be_len]; omega), popO_some, bindH_eq, condV_bool, condV_true, condV_false, yV_bool, gopV_tt, gopV_ff, gopV_tf, gopV_ft, pickV_t, pickV_f, pickV_bool, nilS_ptr, add_eq, sub_eq, mul_eq, lss_eq, leq_eq, gtr_eq, geq_eq, not_eq, minI_eq, maxI_eq, extract_0, extract_1, extract_2, eqlI, neqI, makeFunc_eq, decide_true, decide_false, if_true, if_false, Bool.false_eq_true, Bool.not_true, Bool.not_false, reduceIte, List.getElem?_toArray, List.getElem?_cons_zero, List.getElem?_cons_succ, Option.isSome_none, List.length_map]
    refine text23_ok (by omega) fun g7 y7 => ?_
    have M7 := M6.ext y7
    simp only [cat_tx (a := nb A.kind 1 ++ nb A.msg.kind 1 ++ nb A.msg.dest 1 ++ be A.msg.height 8 ++ nb A.msg.pfrom 1 ++ be A.msg.pseq 8 ++ be A.msg.ptimeout 8 ++ (be A.msg.pdata.length 2 ++ A.msg.pdata)) (b := (be A.msg.proof.length 2 ++ A.msg.proof)) (by simp only [List.length_append, nb_len, be_len]; omega) (by rw [List.length_append, be_len]; omega), popO_some, bindH_eq, condV_bool, condV_true, condV_false, yV_bool, gopV_tt, gopV_ff, gopV_tf, gopV_ft, pickV_t, pickV_f, pickV_bool, nilS_ptr, add_eq, sub_eq, mul_eq, lss_eq, leq_eq, gtr_eq, geq_eq, not_eq, minI_eq, maxI_eq, extract_0, extract_1, extract_2, eqlI, neqI, makeFunc_eq, decide_true, decide_false, if_true, if_false, Bool.false_eq_true, Bool.not_true, Bool.not_false, reduceIte, List.getElem?_toArray, List.getElem?_cons_zero, List.getElem?_cons_succ, Option.isSome_none, List.length_map]
    refine fin g7 false _ hok ?_ (w.trans (y0.trans (y1.trans (y2.trans (y3.trans (y4.trans (y5.trans (y6.trans y7))))))))
    simp only [rOut, List.append_assoc]
  have q4 : ((A.msg.proof.length : Int) ≤ 65535) = True := by apply eq_true; omega
  have hok : (true = true ↔ rOk 6 A) := ⟨fun _ => ⟨p0, p1, p2, p3, p4⟩, fun _ => rfl⟩
  simp only [T_api_Message.f0, T_api_Message.f1, T_api_Message.f2, T_api_Message.f4, T_api_Packet.f0, T_api_Packet.f1, T_api_Packet.f2, T_api_Packet.f3, Nat.zero_add, T_int.load, T_uint64.load, T_string.load, M.c0, M.c1, M.c2, M.c7, M.p0, M.p1, M.p2, M.p3, T_string.len, tx_size, q3, q4, popO_some, bindH_eq, condV_bool, condV_true, condV_false, yV_bool, gopV_tt, gopV_ff, gopV_tf, gopV_ft, pickV_t, pickV_f, pickV_bool, nilS_ptr, add_eq, sub_eq, mul_eq, lss_eq, leq_eq, gtr_eq, geq_eq, not_eq, minI_eq, maxI_eq, extract_0, extract_1, extract_2, eqlI, neqI, makeFunc_eq, decide_true, decide_false, if_true, if_false, Bool.false_eq_true, Bool.not_true, Bool.not_false, reduceIte, List.getElem?_toArray, List.getElem?_cons_zero, List.getElem?_cons_succ, Option.isSome_none, List.length_map]
  refine nb1_ok fun g0 y0 => ?_
  have M0 := M.ext y0
  refine ⟨by simp only [T_string.load, M0.c7], by simp only [T_string.load, M0.p3], by simp only [T_uint64.load, M0.p2], by simp only [T_uint64.load, M0.p1], by simp only [T_int.load, M0.p0], by simp only [T_uint64.load, M0.c2], by simp only [T_int.load, M0.c1], ?_⟩
  simp only [cat_tx (a := nb A.kind 1) (b := nb A.msg.kind 1) (by simp only [List.length_append, nb_len, be_len]; omega) (by rw [nb_len]; omega), popO_some, bindH_eq, condV_bool, condV_true, condV_false, yV_bool, gopV_tt, gopV_ff, gopV_tf, gopV_ft, pickV_t, pickV_f, pickV_bool, nilS_ptr, add_eq, sub_eq, mul_eq, lss_eq, leq_eq, gtr_eq, geq_eq, not_eq, minI_eq, maxI_eq, extract_0, extract_1, extract_2, eqlI, neqI, makeFunc_eq, decide_true, decide_false, if_true, if_false, Bool.false_eq_true, Bool.not_true, Bool.not_false, reduceIte, List.getElem?_toArray, List.getElem?_cons_zero, List.getElem?_cons_succ, Option.isSome_none, List.length_map]
  refine nb1_ok fun g1 y1 => ?_
  have M1 := M0.ext y1
  refine ⟨by simp only [T_string.load, M1.c7], by simp only [T_string.load, M1.p3], by simp only [T_uint64.load, M1.p2], by simp only [T_uint64.load, M1.p1], by simp only [T_int.load, M1.p0], by simp only [T_uint64.load, M1.c2], ?_⟩
  simp only [cat_tx (a := nb A.kind 1 ++ nb A.msg.kind 1) (b := nb A.msg.dest 1) (by simp only [List.length_append, nb_len, be_len]; omega) (by rw [nb_len]; omega), popO_some, bindH_eq, condV_bool, condV_true, condV_false, yV_bool, gopV_tt, gopV_ff, gopV_tf, gopV_ft, pickV_t, pickV_f, pickV_bool, nilS_ptr, add_eq, sub_eq, mul_eq, lss_eq, leq_eq, gtr_eq, geq_eq, not_eq, minI_eq, maxI_eq, extract_0, extract_1, extract_2, eqlI, neqI, makeFunc_eq, decide_true, decide_false, if_true, if_false, Bool.false_eq_true, Bool.not_true, Bool.not_false, reduceIte, List.getElem?_toArray, List.getElem?_cons_zero, List.getElem?_cons_succ, Option.isSome_none, List.length_map]
  refine be8_ok hA.he fun g2 y2 => ?_
  have M2 := M1.ext y2
  refine ⟨by simp only [T_string.load, M2.c7], by simp only [T_string.load, M2.p3], by simp only [T_uint64.load, M2.p2], by simp only [T_uint64.load, M2.p1], by simp only [T_int.load, M2.p0], ?_⟩
  simp only [cat_tx (a := nb A.kind 1 ++ nb A.msg.kind 1 ++ nb A.msg.dest 1) (b := be A.msg.height 8) (by simp only [List.length_append, nb_len, be_len]; omega) (by rw [be_len]; omega), popO_some, bindH_eq, condV_bool, condV_true, condV_false, yV_bool, gopV_tt, gopV_ff, gopV_tf, gopV_ft, pickV_t, pickV_f, pickV_bool, nilS_ptr, add_eq, sub_eq, mul_eq, lss_eq, leq_eq, gtr_eq, geq_eq, not_eq, minI_eq, maxI_eq, extract_0, extract_1, extract_2, eqlI, neqI, makeFunc_eq, decide_true, decide_false, if_true, if_false, Bool.false_eq_true, Bool.not_true, Bool.not_false, reduceIte, List.getElem?_toArray, List.getElem?_cons_zero, List.getElem?_cons_succ, Option.isSome_none, List.length_map]
  refine nb1_ok fun g3 y3 => ?_
  have M3 := M2.ext y3
  refine ⟨by simp only [T_string.load, M3.c7], by simp only [T_string.load, M3.p3], by simp only [T_uint64.load, M3.p2], by simp only [T_uint64.load, M3.p1], ?_⟩
  simp only [cat_tx (a := nb A.kind 1 ++ nb A.msg.kind 1 ++ nb A.msg.dest 1 ++ be A.msg.height 8) (b := nb A.msg.pfrom 1) (by simp only [List.length_append, nb_len, be_len]; omega) (by rw [nb_len]; omega), popO_some, bindH_eq, condV_bool, condV_true, condV_false, yV_bool, gopV_tt, gopV_ff, gopV_tf, gopV_ft, pickV_t, pickV_f, pickV_bool, nilS_ptr, add_eq, sub_eq, mul_eq, lss_eq, leq_eq, gtr_eq, geq_eq, not_eq, minI_eq, maxI_eq, extract_0, extract_1, extract_2, eqlI, neqI, makeFunc_eq, decide_true, decide_false, if_true, if_false, Bool.false_eq_true, Bool.not_true, Bool.not_false, reduceIte, List.getElem?_toArray, List.getElem?_cons_zero, List.getElem?_cons_succ, Option.isSome_none, List.length_map]
  refine be8_ok hA.ps fun g4 y4 => ?_
  have M4 := M3.ext y4
  refine ⟨by simp only [T_string.load, M4.c7], by simp only [T_string.load, M4.p3], by simp only [T_uint64.load, M4.p2], ?_⟩
  simp only [cat_tx (a := nb A.kind 1 ++ nb A.msg.kind 1 ++ nb A.msg.dest 1 ++ be A.msg.height 8 ++ nb A.msg.pfrom 1) (b := be A.msg.pseq 8) (by simp only [List.length_append, nb_len, be_len]; omega) (by rw [be_len]; omega), popO_some, bindH_eq, condV_bool, condV_true, condV_false, yV_bool, gopV_tt, gopV_ff, gopV_tf, gopV_ft, pickV_t, pickV_f, pickV_bool, nilS_ptr, add_eq, sub_eq, mul_eq, lss_eq, leq_eq, gtr_eq, geq_eq, not_eq, minI_eq, maxI_eq, extract_0, extract_1, extract_2, eqlI, neqI, makeFunc_eq, decide_true, decide_false, if_true, if_false, Bool.false_eq_true, Bool.not_true, Bool.not_false, reduceIte, List.getElem?_toArray, List.getElem?_cons_zero, List.getElem?_cons_succ, Option.isSome_none, List.length_map]
  refine be8_ok hA.pt fun g5 y5 => ?_
  have M5 := M4.ext y5
  refine ⟨by simp only [T_string.load, M5.c7], by simp only [T_string.load, M5.p3], ?_⟩
  simp only [cat_tx (a := nb A.kind 1 ++ nb A.msg.kind 1 ++ nb A.msg.dest 1 ++ be A.msg.height 8 ++ nb A.msg.pfrom 1 ++ be A.msg.pseq 8) (b := be A.msg.ptimeout 8) (by simp only [List.length_append, nb_len, be_len]; omega) (by rw [be_len]; omega), popO_some, bindH_eq, condV_bool, condV_true, condV_false, yV_bool, gopV_tt, gopV_ff, gopV_tf, gopV_ft, pickV_t, pickV_f, pickV_bool, nilS_ptr, add_eq, sub_eq, mul_eq, lss_eq, leq_eq, gtr_eq, geq_eq, not_eq, minI_eq, maxI_eq, extract_0, extract_1, extract_2, eqlI, neqI, makeFunc_eq, decide_true, decide_false, if_true, if_false, Bool.false_eq_true, Bool.not_true, Bool.not_false, reduceIte, List.getElem?_toArray, List.getElem?_cons_zero, List.getElem?_cons_succ, Option.isSome_none, List.length_map]
  refine text23_ok (by omega) fun g6 y6 => ?_
  have M6 := M5.ext y6
  refine ⟨by simp only [T_string.load, M6.c7], ?_⟩
  simp only [cat_tx (a := nb A.kind 1 ++ nb A.msg.kind 1 ++ nb A.msg.dest 1 ++ be A.msg.height 8 ++ nb A.msg.pfrom 1 ++ be A.msg.pseq 8 ++ be A.msg.ptimeout 8) (b := (be A.msg.pdata.length 2 ++ A.msg.pdata)) (by simp only [List.length_append, nb_len, be_len]; omega) (by rw [List.length_append, be_len]; omega), popO_some, bindH_eq, condV_bool, condV_true, condV_false, yV_bool, gopV_tt, gopV_ff, gopV_tf, gopV_ft, pickV_t, pickV_f, pickV_bool, nilS_ptr, add_eq, sub_eq, mul_eq, lss_eq, leq_eq, gtr_eq, geq_eq, not_eq, minI_eq, maxI_eq, extract_0, extract_1, extract_2, eqlI, neqI, makeFunc_eq, decide_true, decide_false, if_true, if_false, Bool.false_eq_true, Bool.not_true, Bool.not_false, reduceIte, List.getElem?_toArray, List.getElem?_cons_zero, List.getElem?_cons_succ, Option.isSome_none, List.length_map]
  refine text23_ok (by omega) fun g7 y7 => ?_
  have M7 := M6.ext y7
  simp only [cat_tx (a := nb A.kind 1 ++ nb A.msg.kind 1 ++ nb A.msg.dest 1 ++ be A.msg.height 8 ++ nb A.msg.pfrom 1 ++ be A.msg.pseq 8 ++ be A.msg.ptimeout 8 ++ (be A.msg.pdata.length 2 ++ A.msg.pdata)) (b := (be A.msg.proof.length 2 ++ A.msg.proof)) (by simp only [List.length_append, nb_len, be_len]; omega) (by rw [List.length_append, be_len]; omega), popO_some, bindH_eq, condV_bool, condV_true, condV_false, yV_bool, gopV_tt, gopV_ff, gopV_tf, gopV_ft, pickV_t, pickV_f, pickV_bool, nilS_ptr, add_eq, sub_eq, mul_eq, lss_eq, leq_eq, gtr_eq, geq_eq, not_eq, minI_eq, maxI_eq, extract_0, extract_1, extract_2, eqlI, neqI, makeFunc_eq, decide_true, decide_false, if_true, if_false, Bool.false_eq_true, Bool.not_true, Bool.not_false, reduceIte, List.getElem?_toArray, List.getElem?_cons_zero, List.getElem?_cons_succ, Option.isSome_none, List.length_map]
  refine fin g7 true _ hok ?_ (w.trans (y0.trans (y1.trans (y2.trans (y3.trans (y4.trans (y5.trans (y6.trans y7))))))))
  simp only [rOut, List.append_assoc]
end Go.Proofs.Ytflgnfiebgcegaa
