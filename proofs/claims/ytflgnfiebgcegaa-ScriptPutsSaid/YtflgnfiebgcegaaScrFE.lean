/- script: the document's entries are the same. -/
import Derived.Test.YtflgnfiebgcegaaScrFF
set_option linter.unusedSimpArgs false
set_option linter.unusedVariables false
namespace Go.Proofs.Ytflgnfiebgcegaa
open Go
set_option maxRecDepth 20000
theorem rRaw_stuck {st : Stt} (h : st.1 ≠ 0) (n : Int) : rRaw st n = ([], st) := by
  unfold rRaw
  rw [if_neg (by rintro ⟨h1, _⟩; exact h h1), if_neg h]
theorem rGet_stuck {st : Stt} (h : st.1 ≠ 0) (n : Nat) : rGet st n = (0, st) := by
  unfold rGet; rw [rRaw_stuck h]; rfl
theorem rTwo_stuck {st : Stt} (h : st.1 ≠ 0) : rTwo st = (0, st) := by
  unfold rTwo; rw [rGet_stuck h]; simp only [rGet_stuck h]
theorem rWr_stuck : ∀ (n : Nat) {st : Stt}, st.1 ≠ 0 → (rWr n st).2 = st
  | 0, st, _ => rfl
  | n + 1, st, h => by
    unfold rWr
    simp only [rGet_stuck h, rTwo_stuck h]
    exact rWr_stuck n h
theorem rWr_left : ∀ (n : Nat) (st : Stt), (rWr n st).2 = (gWr n st).2
  | 0, st => rfl
  | n + 1, st => by
    by_cases h : st.1 = 0
    · unfold rWr gWr
      rw [if_neg (by simpa using h)]
      exact rWr_left n _
    · rw [rWr_stuck _ h]
      unfold gWr
      rw [if_pos h]
theorem rWr_eq : ∀ (n : Nat) (st : Stt), (rWr n st).2.1 = 0 → rWr n st = gWr n st
  | 0, st, _ => rfl
  | n + 1, st, h0 => by
    by_cases h : st.1 = 0
    · unfold rWr at h0
      unfold rWr gWr
      rw [if_neg (by simpa using h)]
      have e := rWr_eq n _ h0
      have ed : ((rGet st 1).1 != 0) = decide (0 < (rGet st 1).1) := by
        cases (rGet st 1).1 with
        | zero => rfl
        | succ m => simp
      simp only [e, ed]
    · rw [rWr_stuck _ h] at h0
      exact absurd h0 h
theorem rAct_left (K : Nat) (st : Stt) : (rAct K st).2 = (gAct K st).2 := by
  unfold rAct
  split
  · exact rWr_left _ _
  · rfl
theorem rAct_eq (K : Nat) (st : Stt) (h : (rAct K st).2.1 = 0) : rAct K st = gAct K st := by
  by_cases hK : K = 8
  · subst hK
    have h' : (rWr (rGet st 1).1 (rGet st 1).2).2.1 = 0 := h
    show ({ Act.zero 8 with writes := (rWr (rGet st 1).1 (rGet st 1).2).1 }, (rWr (rGet st 1).1 (rGet st 1).2).2) = ({ Act.zero 8 with writes := (gWr (rGet st 1).1 (rGet st 1).2).1 }, (gWr (rGet st 1).1 (rGet st 1).2).2)
    rw [rWr_eq _ _ h']
  · unfold rAct
    split
    · exact absurd rfl hK
    · rfl
theorem ract_all {h : PH} {a K : Nat} {S s : List UInt8} (hK : K < 9) (hR : RfAt h a S 0 s) (hS : S.length ≤ 1000000000000) {k : Value → PH → Prop} (hk : RNextA h a S (rAct K (0, s)) k) :
    CallsH PG id_carrackref23_reader_act #[rdV a, .int .i64 K] h k := by
  by_cases h8 : K = 8
  · subst h8; exact ract8_ok hR hS hk
  · exact ract_ok hK h8 hR hS hk
theorem rentE_build (n : Int) : SemP PG (Instr.build T_carrackref23_Entry #[(1, .int .i64 n)]) = some (.agg (erow (⟨Act.zero 0, n⟩, .slice none 0 0)).toArray) := by kernel_rfl
theorem rentE_lit (n : Int) : SemA PG (Instr.buildSlice T_sl_carrackref23_Entry 1 #[(0, .agg (erow (⟨Act.zero 0, n⟩, .slice none 0 0)).toArray)]) = some (.cells (erow (⟨Act.zero 0, n⟩, .slice none 0 0)).toArray T_carrackref23_Entry, fun r => pure (.slice (some ⟨r, 0, none⟩) 1 1)) := by kernel_rfl
theorem rentA_build (A : Act) (v : Value) : SemP PG (Instr.build T_carrackref23_Entry #[(0, .agg (A.cells v).toArray)]) = some (.agg (erow (⟨A, 0⟩, v)).toArray) := by kernel_rfl
theorem rentA_lit (A : Act) (v : Value) : SemA PG (Instr.buildSlice T_sl_carrackref23_Entry 1 #[(0, .agg (erow (⟨A, 0⟩, v)).toArray)]) = some (.cells (erow (⟨A, 0⟩, v)).toArray T_carrackref23_Entry, fun r => pure (.slice (some ⟨r, 0, none⟩) 1 1)) := by kernel_rfl
theorem rent_app {h : PH} {v : Value} {xs : List EnV} {F : List Nat} (hO : OwnR h T_carrackref23_Entry 15 v (xs.map erow) F) (hE : EW h F xs) (hl : xs.length ≤ 100000000) (p : EnV) {Fv : List Nat} (hOv : OwnR h T_api_Write 2 p.2 (p.1.act.writes.map Wr.cells) Fv) (hd : ∀ b ∈ Fv, b ∉ F) {k : Value → PH → Prop}
    (hk : ∀ v' h' F', OwnR h' T_carrackref23_Entry 15 v' ((xs ++ [p]).map erow) F' → EW h' F' (xs ++ [p]) → Upd F h h' → (∀ b ∈ F', b ∈ F ∨ h b = none) → k v' h') {r : Nat} (hr : h r = none) :
    SemH PG (Builtin.append_ #[T_sl_carrackref23_Entry, T_sl_carrackref23_Entry] T_sl_carrackref23_Entry #[v, .slice (some ⟨r, 0, none⟩) 1 1]) (h.set r (.cells (erow p).toArray T_carrackref23_Entry)) k := by
  have u1 : Ext h (h.set r (.cells (erow p).toArray T_carrackref23_Entry)) := Upd.new hr
  have s1 : SlR (h.set r (.cells (erow p).toArray T_carrackref23_Entry)) 15 (.slice (some ⟨r, 0, none⟩) 1 1) ([p].map erow) := (OwnR.lit (erow.rows [p]) set_same (by simp) (by decide) (by simp)).slR
  refine append_own T_sl_carrackref23_Entry.und T_sl_carrackref23_Entry.und T_carrackref23_Entry.info T_carrackref23_Entry.size T_carrackref23_Entry.bytes T_carrackref23_Entry.zero rfl (by decide) (hO.ext u1) s1 (EW.cells (EW.one hOv hd)) (by simp; omega) ?_
  intro v2 h2 F2 hO2 u2 k2 _
  rw [← List.map_append] at hO2
  have k3 : ∀ b ∈ F2, b ∈ F ∨ h b = none := fun b hb => by
    rcases k2 b hb with h' | h'
    · exact .inl h'
    · exact .inr (u1.none h')
  exact hk v2 h2 F2 hO2 ((hE.append (EW.one hOv hd)).upd (u1.upd.trans u2) k3) (u1.upd.trans u2) k3
theorem rd_build (s : List UInt8) : SemP PG (Instr.build T_carrackref03_Reader #[(0, .string (tx s))]) = some (.agg #[.string (tx s), .int .i64 0, .int .i64 0]) := by kernel_rfl
theorem rdv_build (a : Nat) : SemP PG (Instr.build T_carrackref23_reader #[(0, .pointer (some ⟨a, 0, none⟩))]) = some (rdV a) := by kernel_rfl
set_option maxHeartbeats 1000000 in
theorem REntries_ok {h : PH} (s : List UInt8) (hs : s.length ≤ 100000000) {k : Value → PH → Prop} (hk : ∀ v h' F ps, OwnR h' T_carrackref23_Entry 15 v (ps.map erow) F → EW h' F ps → ps.map Prod.fst = entL s → Ext h h' → Fresh h F → k v h') : CallsH PG id_carrackref23_Entries #[.string (tx s)] h k := by
  apply carrackref23_Entries.call
  unfold carrackref23_Entries
  refine ⟨fun vs h' => ∃ (rest : List UInt8) (v : Value) (F : List Nat) (ps : List EnV), vs = [.string (tx rest), v] ∧ OwnR h' T_carrackref23_Entry 15 v (ps.map erow) F ∧ EW h' F ps ∧ Ext h h' ∧ Fresh h F ∧ ps.map Prod.fst ++ entL rest = entL s ∧ rest.length + ps.length ≤ s.length, strTo 0, ⟨s, _, [], [], rfl, OwnR.nil, (fun p hp => by cases hp), Upd.refl, (fun b hb => by cases hb), by simp, by simp⟩, ?_⟩
  rintro ρ h' ⟨rest, v, F, ps, hvs, hO, hE, w, f, hps, hle⟩
  simp only [List.map_cons, List.map_nil, List.cons.injEq, and_true] at hvs
  obtain ⟨e0, e3⟩ := hvs
  simp only [e0, e3]
  unfold carrackref23_Entries_b2
  cases rest with
  | nil =>
    rw [entL_nil, List.append_nil] at hps
    have hd : ((0 : Int) < ((([] : List UInt8).length : Nat) : Int)) = False := by simp
    simp only [T_string.len, tx_size, hd, popO_some, bindH_eq, condV_bool, condV_true, condV_false, yV_bool, gopV_tt, gopV_ff, gopV_tf, gopV_ft, pickV_t, pickV_f, pickV_bool, nilS_ptr, add_eq, sub_eq, mul_eq, lss_eq, leq_eq, gtr_eq, geq_eq, not_eq, minI_eq, maxI_eq, extract_0, extract_1, extract_2, eqlI, neqI, makeFunc_eq, decide_true, decide_false, if_true, if_false, Bool.false_eq_true, Bool.not_true, Bool.not_false, reduceIte, List.getElem?_toArray, List.getElem?_cons_zero, List.getElem?_cons_succ, Option.isSome_none, List.length_map]
    exact hk v h' F ps hO hE hps w f
  | cons b rest =>
    rw [entL_cons] at hps
    simp only [List.length_cons] at hle
    have hd : ((0 : Int) < (((b :: rest).length : Nat) : Int)) = True := by simp
    have ec : SemP PG (convert T_uint8 T_int (.int .u8 b.toNat)) = some (.int .i64 b.toNat) := by
      have hb := b.toNat_lt
      rw [conv_8i, i64_wrap (by omega) (by omega)]
    simp only [T_string.len, tx_size, hd, index_head, popO_some, bindH_eq, condV_bool, condV_true, condV_false, yV_bool, gopV_tt, gopV_ff, gopV_tf, gopV_ft, pickV_t, pickV_f, pickV_bool, nilS_ptr, add_eq, sub_eq, mul_eq, lss_eq, leq_eq, gtr_eq, geq_eq, not_eq, minI_eq, maxI_eq, extract_0, extract_1, extract_2, eqlI, neqI, makeFunc_eq, decide_true, decide_false, if_true, if_false, Bool.false_eq_true, Bool.not_true, Bool.not_false, reduceIte, List.getElem?_toArray, List.getElem?_cons_zero, List.getElem?_cons_succ, Option.isSome_none, List.length_map]
    by_cases h9 : 9 ≤ b.toNat
    · have q : ((8 : Int) < (b.toNat : Int)) = True := by apply eq_true; omega
      simp only [q, cut_cons, rentE_build, rentE_lit, popO_some, bindH_eq, condV_bool, condV_true, condV_false, yV_bool, gopV_tt, gopV_ff, gopV_tf, gopV_ft, pickV_t, pickV_f, pickV_bool, nilS_ptr, add_eq, sub_eq, mul_eq, lss_eq, leq_eq, gtr_eq, geq_eq, not_eq, minI_eq, maxI_eq, extract_0, extract_1, extract_2, eqlI, neqI, makeFunc_eq, decide_true, decide_false, if_true, if_false, Bool.false_eq_true, Bool.not_true, Bool.not_false, reduceIte, List.getElem?_toArray, List.getElem?_cons_zero, List.getElem?_cons_succ, Option.isSome_none, List.length_map]
      rw [if_pos h9] at hps
      intro r hr
      refine popO_pure ?_
      refine rent_app hO hE (by omega) (⟨Act.zero 0, 5⟩, .slice none 0 0) (Fv := []) OwnR.nil (by simp) (fun v2 h2 F2 hO2 hE2 u2 k2 => ?_) hr
      unfold carrackref23_Entries_k15
      refine ⟨⟨rest, v2, F2, _, rfl, hO2, hE2, w.fresh u2 f, f.grow w k2, ?_, by simp; omega⟩, by simp [strTo, e0, tx_size]⟩
      rw [List.map_append, List.append_assoc]; exact hps
    · have q : ((8 : Int) < (b.toNat : Int)) = False := by apply eq_false; omega
      rw [if_neg h9] at hps
      simp only [q, cut_cons, rd_build, popO_some, bindH_eq, condV_bool, condV_true, condV_false, yV_bool, gopV_tt, gopV_ff, gopV_tf, gopV_ft, pickV_t, pickV_f, pickV_bool, nilS_ptr, add_eq, sub_eq, mul_eq, lss_eq, leq_eq, gtr_eq, geq_eq, not_eq, minI_eq, maxI_eq, extract_0, extract_1, extract_2, eqlI, neqI, makeFunc_eq, decide_true, decide_false, if_true, if_false, Bool.false_eq_true, Bool.not_true, Bool.not_false, reduceIte, List.getElem?_toArray, List.getElem?_cons_zero, List.getElem?_cons_succ, Option.isSome_none, List.length_map]
      intro a ha
      try rw [bindH_eq]
      have u1 : Ext h' (h'.set a (.cells (Value.agg #[.string (tx rest), .int .i64 0, .int .i64 0]).cells T_carrackref03_Reader)) := Upd.new ha
      have hR1 : RfAt (h'.set a (.cells (Value.agg #[.string (tx rest), .int .i64 0, .int .i64 0]).cells T_carrackref03_Reader)) a rest 0 rest := ⟨by rw [set_same, Nat.sub_self]; rfl, by simp, Nat.le_refl _⟩
      generalize h'.set a (.cells (Value.agg #[.string (tx rest), .int .i64 0, .int .i64 0]).cells T_carrackref03_Reader) = h1 at *
      simp only [rdv_build, index_head, ec, popO_some, bindH_eq, condV_bool, condV_true, condV_false, yV_bool, gopV_tt, gopV_ff, gopV_tf, gopV_ft, pickV_t, pickV_f, pickV_bool, nilS_ptr, add_eq, sub_eq, mul_eq, lss_eq, leq_eq, gtr_eq, geq_eq, not_eq, minI_eq, maxI_eq, extract_0, extract_1, extract_2, eqlI, neqI, makeFunc_eq, decide_true, decide_false, if_true, if_false, Bool.false_eq_true, Bool.not_true, Bool.not_false, reduceIte, List.getElem?_toArray, List.getElem?_cons_zero, List.getElem?_cons_succ, Option.isSome_none, List.length_map]
      refine ract_all (show b.toNat < 9 by omega) hR1 (by omega) ?_
      intro h4 v4 F4 hR4 hO4 f4 u4
      have w4 : Ext h' h4 := u1.fresh u4 (Fresh.one ha)
      have f4' : Fresh h' F4 := f4.of u1
      have hd4 : ∀ x ∈ F4, x ∉ F := fun x hx hx' => hO.known x hx' (f4' x hx)
      intro r5 hr5
      try rw [bindH_eq]
      refine put_act hr5 _ hO4.cell fun h5 hB5 u5 => ?_
      have hR5 := hR4.ext u5
      have hO5 := hO4.ext u5
      have w5 := w4.trans u5
      have c2 : cellH h5 ⟨a, 2, none⟩ = some (.int .i64 (rAct b.toNat (0, rest)).2.1) := by simp [cellH, hR5.here]
      simp only [T_carrackref03_Reader.f2, Nat.zero_add, T_int.load, c2, popO_some, bindH_eq, condV_bool, condV_true, condV_false, yV_bool, gopV_tt, gopV_ff, gopV_tf, gopV_ft, pickV_t, pickV_f, pickV_bool, nilS_ptr, add_eq, sub_eq, mul_eq, lss_eq, leq_eq, gtr_eq, geq_eq, not_eq, minI_eq, maxI_eq, extract_0, extract_1, extract_2, eqlI, neqI, makeFunc_eq, decide_true, decide_false, if_true, if_false, Bool.false_eq_true, Bool.not_true, Bool.not_false, reduceIte, List.getElem?_toArray, List.getElem?_cons_zero, List.getElem?_cons_succ, Option.isSome_none, List.length_map]
      by_cases hz : (gAct b.toNat (0, rest)).2.1 = 0
      · have ez : (rAct b.toNat (0, rest)).2.1 = 0 := by rw [rAct_left]; exact hz
        have q2 : ((rAct b.toNat (0, rest)).2.1 != 0) = false := by simp [ez]
        rw [if_neg (by simp [hz])] at hps
        simp only [q2, hB5.load, rentA_build, rentA_lit, popO_some, bindH_eq, condV_bool, condV_true, condV_false, yV_bool, gopV_tt, gopV_ff, gopV_tf, gopV_ft, pickV_t, pickV_f, pickV_bool, nilS_ptr, add_eq, sub_eq, mul_eq, lss_eq, leq_eq, gtr_eq, geq_eq, not_eq, minI_eq, maxI_eq, extract_0, extract_1, extract_2, eqlI, neqI, makeFunc_eq, decide_true, decide_false, if_true, if_false, Bool.false_eq_true, Bool.not_true, Bool.not_false, reduceIte, List.getElem?_toArray, List.getElem?_cons_zero, List.getElem?_cons_succ, Option.isSome_none, List.length_map]
        intro r hr
        refine popO_pure ?_
        refine rent_app (hO.ext w5) (hE.ext w5) (by omega) (⟨(rAct b.toNat (0, rest)).1, 0⟩, v4) hO5 hd4 (fun v6 h6 F6 hO6 hE6 u6 k6 => ?_) hr
        have haF : a ∉ F := fun hm => hO.known a hm ha
        have hR6 := hR5.upd u6 haF
        have hsuf := gAct_suf b.toNat (0, rest)
        have hlen := hsuf.length_le
        simp only at hlen hsuf
        have c1 : cellH h6 ⟨a, 1, none⟩ = some (.int .i64 ((rest.length - (gAct b.toNat (0, rest)).2.2.length : Nat) : Int)) := by simp [cellH, hR6.here, rAct_left]
        have es : IntKind.i64.wrap ((1 : Int) + ((rest.length - (gAct b.toNat (0, rest)).2.2.length : Nat) : Int)) = ((((b :: rest).length - (gAct b.toNat (0, rest)).2.2.length : Nat)) : Int) := by rw [i64_wrap (by omega) (by omega)]; simp only [List.length_cons]; omega
        have ed := suf_drop (hsuf.trans (List.suffix_cons b rest))
        simp only [T_carrackref03_Reader.f1, Nat.zero_add, T_int.load, c1, es, cut_drop (s := b :: rest) (n := (b :: rest).length - (gAct b.toNat (0, rest)).2.2.length) (by omega), ed, popO_some, bindH_eq, condV_bool, condV_true, condV_false, yV_bool, gopV_tt, gopV_ff, gopV_tf, gopV_ft, pickV_t, pickV_f, pickV_bool, nilS_ptr, add_eq, sub_eq, mul_eq, lss_eq, leq_eq, gtr_eq, geq_eq, not_eq, minI_eq, maxI_eq, extract_0, extract_1, extract_2, eqlI, neqI, makeFunc_eq, decide_true, decide_false, if_true, if_false, Bool.false_eq_true, Bool.not_true, Bool.not_false, reduceIte, List.getElem?_toArray, List.getElem?_cons_zero, List.getElem?_cons_succ, Option.isSome_none, List.length_map]
        unfold carrackref23_Entries_k15
        refine ⟨⟨(gAct b.toNat (0, rest)).2.2, v6, F6, _, rfl, hO6, hE6, (w.trans w5).fresh u6 f, f.grow (w.trans w5) k6, ?_, by simp; omega⟩, by simp [strTo, e0, tx_size]; omega⟩
        rw [List.map_append, List.append_assoc, rAct_eq _ _ ez]; exact hps
      · have ez : (rAct b.toNat (0, rest)).2.1 ≠ 0 := by rw [rAct_left]; exact hz
        have q2 : ((rAct b.toNat (0, rest)).2.1 != 0) = true := by simp [ez]
        rw [if_pos (by simp [hz])] at hps
        simp only [q2, rentE_build, rentE_lit, popO_some, bindH_eq, condV_bool, condV_true, condV_false, yV_bool, gopV_tt, gopV_ff, gopV_tf, gopV_ft, pickV_t, pickV_f, pickV_bool, nilS_ptr, add_eq, sub_eq, mul_eq, lss_eq, leq_eq, gtr_eq, geq_eq, not_eq, minI_eq, maxI_eq, extract_0, extract_1, extract_2, eqlI, neqI, makeFunc_eq, decide_true, decide_false, if_true, if_false, Bool.false_eq_true, Bool.not_true, Bool.not_false, reduceIte, List.getElem?_toArray, List.getElem?_cons_zero, List.getElem?_cons_succ, Option.isSome_none, List.length_map]
        intro r hr
        refine popO_pure ?_
        refine rent_app (hO.ext w5) (hE.ext w5) (by omega) (⟨Act.zero 0, 6⟩, .slice none 0 0) (Fv := []) OwnR.nil (by simp) (fun v2 h2 F2 hO2 hE2 u2 k2 => ?_) hr
        refine hk v2 h2 F2 _ hO2 hE2 ?_ ((w.trans w5).fresh u2 f) (f.grow (w.trans w5) k2)
        rw [List.map_append]; exact hps
end Go.Proofs.Ytflgnfiebgcegaa
