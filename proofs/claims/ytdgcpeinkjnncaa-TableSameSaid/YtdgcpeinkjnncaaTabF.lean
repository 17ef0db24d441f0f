/- the document's table: Drop, Apply, Get, Copy, Fit. -/
import Derived.Test.YtdgcpeinkjnncaaTabE
set_option maxRecDepth 20000
set_option linter.unusedSimpArgs false
set_option linter.unusedVariables false
namespace Go.Proofs.Ytdgcpeinkjnncaa
open Go

theorem del_rule {h2 : PH} {a : Nat} {L : List It} {room : Int} {F : List Nat} (H : RAt h2 a L room F) (hL : L.length ≤ 1000) {key : Ky} {x : It} (hg : getL L key = some x) {K : PH → Prop}
    (hk : ∀ h' F', RAt h' a (delL L key) room F' → Upd F h2 h' → (∀ b ∈ F', b ∈ F ∨ h2 b = none) → K h') :
    popO (SemP PG (nilS (.pointer (some ⟨a, 0, none⟩)))) fun v6 =>
 popO (SemP PG (Instr.fieldAt T_carrackref15_Table v6 0)) fun v7 =>
 popO (SemE PG h2 (Instr.loadAt T_sl_api_Item v7)) fun v8 =>
 popO (SemP PG (Instr.sliceAt T_sl_api_Item v8 none (some (.int .i64 (pA L key).length)) none)) fun v9 =>
 popO (SemP PG (nilS (.pointer (some ⟨a, 0, none⟩)))) fun v10 =>
 popO (SemP PG (Instr.fieldAt T_carrackref15_Table v10 0)) fun v11 =>
 popO (SemE PG h2 (Instr.loadAt T_sl_api_Item v11)) fun v12 =>
 popO (SemP PG (binOp BinOp.add T_int (.int .i64 (pA L key).length) (Value.int IntKind.i64 1))) fun v13 =>
 popO (SemP PG (Instr.sliceAt T_sl_api_Item v12 (some v13) none none)) fun v14 =>
 popO (SemA PG (Instr.buildSlice T_sl_api_Item 0 #[])) fun x16 => ∀ r15, h2 r15 = none → popO (SemP PG (x16.2 r15)) fun v17 => bindH (PH.set h2 r15 x16.1) fun h18 =>
 SemH PG (Builtin.append_ #[T_sl_api_Item, T_sl_api_Item] T_sl_api_Item #[v17, v9]) h18 fun v19 h20 =>
 SemE PG h20 (Instr.loadAt T_sl_api_Item v11) = some v12 ∧ (SemH PG (Builtin.append_ #[T_sl_api_Item, T_sl_api_Item] T_sl_api_Item #[v19, v14]) h20 fun v21 h22 =>
 (popO (SemP PG (nilS (.pointer (some ⟨a, 0, none⟩)))) fun v23 =>
 popO (SemP PG (Instr.fieldAt T_carrackref15_Table v23 0)) fun v24 =>
 SemH PG (storeS T_sl_api_Item v24 v21) h22 fun v25 h26 =>
 (K h26))) := by
  have hs := H.srt
  have HK := H.known
  obtain ⟨v, G, ha, hO, rfl, hn⟩ := H.here
  have c0 : cellH h2 ⟨a, 0, none⟩ = some v := by simp [cellH, ha]
  have hlt : (pA L key).length < L.length := by
    have := congrArg List.length (split3 hs key)
    rw [hg] at this
    simp only [List.length_append, Option.toList_some, List.length_cons, List.length_nil] at this
    omega
  have e5 : IntKind.i64.wrap (((pA L key).length : Int) + 1) = (((pA L key).length + 1 : Nat) : Int) := by rw [i64_wrap (by omega) (by omega)]; omega
  obtain ⟨w1, s1, s2, s3⟩ := hO.cutIt (lo := none) (hi := some (.int .i64 (pA L key).length)) (l := 0) (m := (pA L key).length) (.inl ⟨rfl, rfl⟩) (.inr ⟨.i64, rfl⟩) (Nat.zero_le _) (by omega)
  obtain ⟨w2, t1, t2, t3⟩ := hO.cutIt (lo := some (.int .i64 ((pA L key).length + 1 : Nat))) (hi := none) (l := (pA L key).length + 1) (m := L.length) (.inr ⟨.i64, rfl⟩) (.inl ⟨rfl, rfl⟩) (by omega) (Nat.le_refl _)
  rw [List.drop_zero] at s2
  rw [List.take_of_length_le (Nat.le_refl _)] at t2
  simp only [T_carrackref15_Table.f0, T_sl_api_Item.load, c0, s1, e5, t1, empty_lit, popO_some, bindH_eq, condV_bool, condV_true, condV_false, yV_bool, gopV_tt, gopV_ff, gopV_tf, gopV_ft, pickV_t, pickV_f, pickV_bool, nilS_ptr, add_eq, sub_eq, mul_eq, lss_eq, leq_eq, gtr_eq, geq_eq, not_eq, minI_eq, maxI_eq, extract_0, extract_1, extract_2, eqlI, neqI, makeFunc_eq, decide_true, decide_false, if_true, if_false, Bool.false_eq_true, Bool.not_true, Bool.not_false, reduceIte, List.getElem?_toArray, List.getElem?_cons_zero, List.getElem?_cons_succ, Option.isSome_none, List.length_map]
  intro r2 hr2
  refine popO_pure ?_
  try rw [bindH_eq]
  have u2 : Ext h2 (h2.set r2 (.cells #[] T_api_Item)) := Upd.new hr2
  have hE : OwnR (h2.set r2 (.cells #[] T_api_Item)) T_api_Item 5 (.slice (some ⟨r2, 0, none⟩) 0 0) (([] : List It).map It.cells) [r2] := OwnR.lit (It.rows []) set_same rfl (by decide) rfl
  generalize h2.set r2 (.cells #[] T_api_Item) = h3 at *
  refine app_it hE (s2.ext u2) (by simp; omega) ?_
  intro v4 h4 F4 hO4 u4 f4
  have ha3 := u2.get ha
  have n2 : a ∉ [r2] := by simp; rintro rfl; rw [ha] at hr2; cases hr2
  have ha4 : h4 a = some (.cells #[v, .int .i64 room] T_carrackref15_Table (0, 0)) := u4.get ha3 n2
  have c04 : cellH h4 ⟨a, 0, none⟩ = some v := by simp [cellH, ha4]
  refine ⟨c04, ?_⟩
  have E4 : Ext h2 h4 := u2.fresh u4 (Fresh.one hr2)
  have fresh4 : ∀ b ∈ F4, h2 b = none := fun b hb => by
    rcases f4 b hb with h6 | h6
    · simp at h6; subst h6; exact hr2
    · exact u2.none h6
  have na4 : a ∉ F4 := fun hm => by rw [fresh4 a hm] at ha; cases ha
  refine app_it hO4 (t2.ext E4) (by simp; omega) ?_
  intro v6 h6 F6 hO6 u6 f6
  have ha6 := u6.get ha4 na4
  have E6 : Ext h2 h6 := E4.fresh u6 fresh4
  have fresh6 : ∀ b ∈ F6, h2 b = none := fun b hb => by
    rcases f6 b hb with h7 | h7
    · exact fresh4 b h7
    · exact E4.none h7
  have na6 : a ∉ F6 := fun hm => by rw [fresh6 a hm] at ha; cases ha
  refine store_cell T_sl_api_Item.und rfl ha6 (by simp) (by obtain ⟨_, _, rfl, -⟩ := hO6.slR.here; rfl) T_sl_api_Item.info T_sl_api_Item.size ?_
  have u7 : Upd [a] h6 (h6.set a (.cells (#[v, .int .i64 room].setIfInBounds 0 v6) T_carrackref15_Table (0, 0))) := Upd.set (by simp)
  have ha7 : (h6.set a (.cells (#[v, .int .i64 room].setIfInBounds 0 v6) T_carrackref15_Table (0, 0))) a = some (.cells #[v6, .int .i64 room] T_carrackref15_Table (0, 0)) := set_same
  generalize h6.set a (.cells (#[v, .int .i64 room].setIfInBounds 0 v6) T_carrackref15_Table (0, 0)) = h7 at *
  have e4 : ([] : List It) ++ L.take (pA L key).length ++ L.drop ((pA L key).length + 1) = delL L key := by rw [List.nil_append]; exact del_cut hs hg
  rw [e4] at hO6
  refine hk h7 (a :: F6) ⟨⟨v6, F6, ha7, hO6.upd u7 (fun b hb => by simp; rintro rfl; exact na6 hb), rfl, na6⟩, hs.del _⟩ ?_ ?_
  · exact Upd.then (Ext.upd E6) u7 (fun b hb => by left; simp at hb; simp [hb])
  · intro b hb
    rcases List.mem_cons.1 hb with rfl | hb
    · left; simp
    · right; exact fresh6 b hb

theorem set_stage {L : List It} {p : Nat} {x : It} (hlt : p < L.length) (hat : L[p]? = some x) (g : Int) : (L.map It.cells).flatten.set (p * 5 + 4) (.int .i64 g) = ((L.take p ++ ⟨x.p, g⟩ :: L.drop (p + 1)).map It.cells).flatten := by
  have h2 : ((L.take p).map It.cells).flatten.length = p * 5 := by
    rw [(It.rows _).flat, List.length_map, List.length_take]; congr 1; omega
  have h1 : (L.map It.cells).flatten = ((L.take p).map It.cells).flatten ++ (x.cells ++ ((L.drop (p + 1)).map It.cells).flatten) := by
    have h3 : L = L.take p ++ x :: L.drop (p + 1) := by
      have : L.drop p = x :: L.drop (p + 1) := by
        rw [List.drop_eq_getElem_cons hlt]
        have : L[p] = x := by rw [List.getElem?_eq_getElem hlt] at hat; simpa using hat
        rw [this]
      rw [← this, List.take_append_drop]
    conv => lhs; rw [h3]
    simp only [List.map_append, List.flatten_append, List.map_cons, List.flatten_cons]
  rw [h1, List.set_append_right _ _ (by rw [h2]; omega), h2]
  simp only [List.map_append, List.flatten_append, List.map_cons, List.flatten_cons]
  congr 1
  rw [show p * 5 + 4 - p * 5 = 4 by omega]
  rfl
theorem RDrop_ok {h : PH} {a : Nat} {L : List It} {room : Int} {F : List Nat} (H : RAt h a L room F) (hL : L.length ≤ 1000) (key : Ky) {k : Value → PH → Prop}
    (hk : ∀ h' F', RAt h' a (delL L key) room F' → Upd F h h' → (∀ b ∈ F', b ∈ F ∨ h b = none) → k (.int .i64 (dropE L key)) h') : CallsH PG id_carrackref15_Table_Drop #[.pointer (some ⟨a, 0, none⟩), .int .i64 key.1, .int .u64 key.2] h k := by
  apply carrackref15_Table_Drop.call
  unfold carrackref15_Table_Drop
  refine Place_ok H (by omega) key ?_
  cases hg : getL L key with
  | none =>
    simp only [Option.isSome_none, popO_some, bindH_eq, condV_bool, condV_true, condV_false, yV_bool, gopV_tt, gopV_ff, gopV_tf, gopV_ft, pickV_t, pickV_f, pickV_bool, nilS_ptr, add_eq, sub_eq, mul_eq, lss_eq, leq_eq, gtr_eq, geq_eq, not_eq, minI_eq, maxI_eq, extract_0, extract_1, extract_2, eqlI, neqI, makeFunc_eq, decide_true, decide_false, if_true, if_false, Bool.false_eq_true, Bool.not_true, Bool.not_false, reduceIte, List.getElem?_toArray, List.getElem?_cons_zero, List.getElem?_cons_succ, Option.isSome_none, List.length_map]
    have e1 : dropE L key = 3 := by unfold dropE; rw [hg]; rfl
    rw [e1, del_none hg] at hk
    exact hk h F H Upd.refl (fun b hb => .inl hb)
  | some x =>
    simp only [Option.isSome_some, extract_0, extract_1, popO_some, not_eq, Bool.not_true, condV_false]
    have e1 : dropE L key = 0 := by unfold dropE; rw [hg]; rfl
    rw [e1] at hk
    exact del_rule H hL hg fun h' F' H' u f => hk h' F' H' u f

theorem RApply_ok {h : PH} {a : Nat} {L : List It} {room : Int} {F : List Nat} (H : RAt h a L room F) (hL : L.length ≤ 1000) (n : Nt) (hs0 : 0 ≤ n.p.s) (ht0 : 0 ≤ n.p.t) {k : Value → PH → Prop}
    (hk : ∀ h' F', RAt h' a (appL L room n) room F' → Upd F h h' → (∀ b ∈ F', b ∈ F ∨ h b = none) → k (.int .i64 (appE L room n)) h') : CallsH PG id_carrackref15_Table_Apply #[.pointer (some ⟨a, 0, none⟩), .agg n.cells.toArray] h k := by
  apply carrackref15_Table_Apply.call
  unfold carrackref15_Table_Apply
  intro r1 hr1
  rw [bindH_eq]
  have u1 : Ext h (h.set r1 (.cells (Value.cells (.agg n.cells.toArray)) T_api_Note)) := Upd.new hr1
  have b1 : Bx (h.set r1 (.cells (Value.cells (.agg n.cells.toArray)) T_api_Note)) r1 n.cells := Bx.new
  generalize h.set r1 (.cells (Value.cells (.agg n.cells.toArray)) T_api_Note) = h1 at *
  simp only [b1.nt, popO_some, bindH_eq, condV_bool, condV_true, condV_false, yV_bool, gopV_tt, gopV_ff, gopV_tf, gopV_ft, pickV_t, pickV_f, pickV_bool, nilS_ptr, add_eq, sub_eq, mul_eq, lss_eq, leq_eq, gtr_eq, geq_eq, not_eq, minI_eq, maxI_eq, extract_0, extract_1, extract_2, eqlI, neqI, makeFunc_eq, decide_true, decide_false, if_true, if_false, Bool.false_eq_true, Bool.not_true, Bool.not_false, reduceIte, List.getElem?_toArray, List.getElem?_cons_zero, List.getElem?_cons_succ, Option.isSome_none, List.length_map]
  refine RNRight_ok n hs0 ht0 fun h2 u2 => ?_
  have uu := u1.trans u2
  have b2 := b1.ext u2
  have H2 := H.ext uu
  have hs := H.srt
  cases hr : n.right with
  | false =>
    have e1 : appE L room n = 1 := by unfold appE; rw [if_pos hr]
    have e2 : appL L room n = L := by unfold appL; rw [if_pos hr]
    rw [e1, e2] at hk
    simp only [popO_some, bindH_eq, condV_bool, condV_true, condV_false, yV_bool, gopV_tt, gopV_ff, gopV_tf, gopV_ft, pickV_t, pickV_f, pickV_bool, nilS_ptr, add_eq, sub_eq, mul_eq, lss_eq, leq_eq, gtr_eq, geq_eq, not_eq, minI_eq, maxI_eq, extract_0, extract_1, extract_2, eqlI, neqI, makeFunc_eq, decide_true, decide_false, if_true, if_false, Bool.false_eq_true, Bool.not_true, Bool.not_false, reduceIte, List.getElem?_toArray, List.getElem?_cons_zero, List.getElem?_cons_succ, Option.isSome_none, List.length_map]
    exact hk h2 F H2 (Ext.upd uu) (fun b hb => .inl hb)
  | true =>
    have c0 : cellH h2 ⟨r1, 0, none⟩ = some (.int .i64 n.k) := b2.cell 0
    have c1 : cellH h2 ⟨r1, 0 + 1, none⟩ = some (.int .i64 n.p.f) := b2.cell 1
    have c2 : cellH h2 ⟨r1, 0 + 1 + 1, none⟩ = some (.int .u64 n.p.s) := b2.cell 2
    have p1 := b2.pk (o := 0 + 1) (p := n.p) rfl
    simp only [T_api_Note.f1, T_api_Packet.f0, T_api_Packet.f1, T_int.load, T_uint64.load, c1, c2, popO_some, bindH_eq, condV_bool, condV_true, condV_false, yV_bool, gopV_tt, gopV_ff, gopV_tf, gopV_ft, pickV_t, pickV_f, pickV_bool, nilS_ptr, add_eq, sub_eq, mul_eq, lss_eq, leq_eq, gtr_eq, geq_eq, not_eq, minI_eq, maxI_eq, extract_0, extract_1, extract_2, eqlI, neqI, makeFunc_eq, decide_true, decide_false, if_true, if_false, Bool.false_eq_true, Bool.not_true, Bool.not_false, reduceIte, List.getElem?_toArray, List.getElem?_cons_zero, List.getElem?_cons_succ, Option.isSome_none, List.length_map]
    refine Place_ok H2 (by omega) n.p.key ?_
    have hkr : 1 ≤ n.k ∧ n.k ≤ 4 := by
      unfold Nt.right at hr
      simp only [Bool.and_eq_true, decide_eq_true_eq] at hr
      exact hr.1
    have hrt : ¬ n.right = false := by rw [hr]; simp
    have hx : n.k = 1 ∨ n.k = 2 ∨ 2 < n.k := by omega
    have fin : ∀ {h' : PH} {F' : List Nat} {X : List It} {E : Int}, appL L room n = X → appE L room n = E → RAt h' a X room F' → Upd F h2 h' → (∀ b ∈ F', b ∈ F ∨ h2 b = none) → k (.int .i64 E) h' := by
      intro h' F' X E e1 e2 H' u' f'
      rw [← e2]
      exact hk h' F' (by rw [e1]; exact H') (Upd.then (Ext.upd uu) u' fun b hb => .inl hb) (fun b hb => by
        rcases f' b hb with h | h
        · exact .inl h
        · exact .inr (uu.none h))
    rcases hx with hA | hA | hA
    · have d1 : (n.k == 1) = true := by simp [hA]
      have d2 : (n.k == 2) = false := by simp [hA]
      have d3 : ((2 : Int) < n.k) = False := by apply eq_false; omega
      cases hg : getL L n.p.key with
      | none =>
        simp only [T_api_Note.f0, T_api_Note.f1, T_int.load, c0, d1, Option.isSome_none, p1, it_build, popO_some, bindH_eq, condV_bool, condV_true, condV_false, yV_bool, gopV_tt, gopV_ff, gopV_tf, gopV_ft, pickV_t, pickV_f, pickV_bool, nilS_ptr, add_eq, sub_eq, mul_eq, lss_eq, leq_eq, gtr_eq, geq_eq, not_eq, minI_eq, maxI_eq, extract_0, extract_1, extract_2, eqlI, neqI, makeFunc_eq, decide_true, decide_false, if_true, if_false, Bool.false_eq_true, Bool.not_true, Bool.not_false, reduceIte, List.getElem?_toArray, List.getElem?_cons_zero, List.getElem?_cons_succ, Option.isSome_none, List.length_map]
        refine RPut_ok H2 hL ⟨n.p, 1⟩ hg fun h3 F3 H3 u3 f3 => fin ?_ ?_ H3 u3 f3
        · unfold appL; rw [if_neg hrt, if_pos hA, hg]; rfl
        · unfold appE; rw [if_neg hrt, if_pos hA, hg]; rfl
      | some x =>
        simp only [T_api_Note.f0, T_api_Note.f1, T_int.load, c0, d1, d2, d3, Option.isSome_some, popO_some, bindH_eq, condV_bool, condV_true, condV_false, yV_bool, gopV_tt, gopV_ff, gopV_tf, gopV_ft, pickV_t, pickV_f, pickV_bool, nilS_ptr, add_eq, sub_eq, mul_eq, lss_eq, leq_eq, gtr_eq, geq_eq, not_eq, minI_eq, maxI_eq, extract_0, extract_1, extract_2, eqlI, neqI, makeFunc_eq, decide_true, decide_false, if_true, if_false, Bool.false_eq_true, Bool.not_true, Bool.not_false, reduceIte, List.getElem?_toArray, List.getElem?_cons_zero, List.getElem?_cons_succ, Option.isSome_none, List.length_map]
        unfold carrackref15_Table_Apply_k69 carrackref15_Table_Apply_k70
        refine fin ?_ ?_ H2 Upd.refl (fun b hb => .inl hb)
        · unfold appL; rw [if_neg hrt, if_pos hA, hg]; rfl
        · unfold appE; rw [if_neg hrt, if_pos hA, hg]; rfl
    · have d1 : (n.k == 1) = false := by simp [hA]
      have d2 : (n.k == 2) = true := by simp [hA]
      have n1 : ¬ n.k = 1 := by omega
      cases hg : getL L n.p.key with
      | none =>
        simp only [T_api_Note.f0, T_api_Note.f1, T_int.load, c0, d1, d2, Option.isSome_none, p1, it_build, popO_some, bindH_eq, condV_bool, condV_true, condV_false, yV_bool, gopV_tt, gopV_ff, gopV_tf, gopV_ft, pickV_t, pickV_f, pickV_bool, nilS_ptr, add_eq, sub_eq, mul_eq, lss_eq, leq_eq, gtr_eq, geq_eq, not_eq, minI_eq, maxI_eq, extract_0, extract_1, extract_2, eqlI, neqI, makeFunc_eq, decide_true, decide_false, if_true, if_false, Bool.false_eq_true, Bool.not_true, Bool.not_false, reduceIte, List.getElem?_toArray, List.getElem?_cons_zero, List.getElem?_cons_succ, Option.isSome_none, List.length_map]
        refine RPut_ok H2 hL ⟨n.p, 2⟩ hg fun h3 F3 H3 u3 f3 => fin ?_ ?_ H3 u3 f3
        · unfold appL; rw [if_neg hrt, if_neg n1, if_pos hA, hg]
        · unfold appE; rw [if_neg hrt, if_neg n1, if_pos hA, hg]; rfl
      | some x =>
        obtain ⟨hx1, hx2⟩ := getL_mem hg
        have eL : appL L room n = insL L ⟨x.p, 2⟩ := by unfold appL; rw [if_neg hrt, if_neg n1, if_pos hA, hg]
        have eE : appE L room n = 0 := by unfold appE; rw [if_neg hrt, if_neg n1, if_pos hA, hg]; rfl
        simp only [T_api_Note.f0, T_api_Note.f1, T_int.load, c0, d1, d2, Option.isSome_some, empty_lit, popO_some, bindH_eq, condV_bool, condV_true, condV_false, yV_bool, gopV_tt, gopV_ff, gopV_tf, gopV_ft, pickV_t, pickV_f, pickV_bool, nilS_ptr, add_eq, sub_eq, mul_eq, lss_eq, leq_eq, gtr_eq, geq_eq, not_eq, minI_eq, maxI_eq, extract_0, extract_1, extract_2, eqlI, neqI, makeFunc_eq, decide_true, decide_false, if_true, if_false, Bool.false_eq_true, Bool.not_true, Bool.not_false, reduceIte, List.getElem?_toArray, List.getElem?_cons_zero, List.getElem?_cons_succ, Option.isSome_none, List.length_map]
        intro r2 hr2
        refine popO_pure ?_
        try rw [bindH_eq]
        obtain ⟨v, G, ha, hO, rfl, hn⟩ := H2.here
        have u3 : Ext h2 (h2.set r2 (.cells #[] T_api_Item)) := Upd.new hr2
        have hE : OwnR (h2.set r2 (.cells #[] T_api_Item)) T_api_Item 5 (.slice (some ⟨r2, 0, none⟩) 0 0) (([] : List It).map It.cells) [r2] := OwnR.lit (It.rows []) set_same rfl (by decide) rfl
        generalize h2.set r2 (.cells #[] T_api_Item) = h3 at *
        have ha3 := u3.get ha
        have c03 : cellH h3 ⟨a, 0, none⟩ = some v := by simp [cellH, ha3]
        simp only [T_carrackref15_Table.f0, T_sl_api_Item.load, c03, popO_some, bindH_eq, condV_bool, condV_true, condV_false, yV_bool, gopV_tt, gopV_ff, gopV_tf, gopV_ft, pickV_t, pickV_f, pickV_bool, nilS_ptr, add_eq, sub_eq, mul_eq, lss_eq, leq_eq, gtr_eq, geq_eq, not_eq, minI_eq, maxI_eq, extract_0, extract_1, extract_2, eqlI, neqI, makeFunc_eq, decide_true, decide_false, if_true, if_false, Bool.false_eq_true, Bool.not_true, Bool.not_false, reduceIte, List.getElem?_toArray, List.getElem?_cons_zero, List.getElem?_cons_succ, Option.isSome_none, List.length_map]
        refine app_it hE (hO.slR.ext u3) (by simp; omega) ?_
        intro v4 h4 F4 hO4 u4 f4
        rw [List.nil_append] at hO4
        have E4 : Ext h2 h4 := u3.fresh u4 (Fresh.one hr2)
        have fresh4 : ∀ b ∈ F4, h2 b = none := fun b hb => by
          rcases f4 b hb with h6 | h6
          · simp at h6; subst h6; exact hr2
          · exact u3.none h6
        have na4 : a ∉ F4 := fun hm => by rw [fresh4 a hm] at ha; cases ha
        have ha4 := E4.get ha
        have hlt : (pA L n.p.key).length < L.length := by
          have := congrArg List.length (split3 hs n.p.key)
          rw [hg] at this
          simp only [List.length_append, Option.toList_some, List.length_cons, List.length_nil] at this
          omega
        have hat : L[(pA L n.p.key).length]? = some x := by
          have : (pA L n.p.key ++ ((getL L n.p.key).toList ++ pC L n.p.key))[(pA L n.p.key).length]? = some x := by
            rw [List.getElem?_append_right (Nat.le_refl _), Nat.sub_self, hg]; rfl
          rwa [← split3 hs n.p.key] at this
        -- the copy's stage is set
        obtain ⟨b', cap, cs, hv4, hF4, hb4, hle4, hcm4, hcs4, htk4⟩ : ∃ b cap cs, v4 = .slice (some ⟨b, 0, none⟩) (L.map It.cells).length cap ∧ F4 = [b] ∧ h4 b = some (.cells cs T_api_Item (0, 0)) ∧ (L.map It.cells).length ≤ cap ∧ cap ≤ maxL ∧ cs.size = cap * 5 ∧ cs.toList.take ((L.map It.cells).length * 5) = (L.map It.cells).flatten := by
          rcases hO4.here with ⟨_, h2, _⟩ | h2
          · exfalso
            have : L = [] := List.map_eq_nil_iff.1 h2
            subst this; simp at hlt
          · exact h2
        rw [List.length_map] at hv4 hle4 htk4
        have ix : SemP PG (Instr.indexAt T_sl_api_Item v4 (.int .i64 (pA L n.p.key).length)) = some (.pointer (some ⟨b', 0 + (pA L n.p.key).length * 5, none⟩)) := by
          rw [hv4]
          exact indexAt_slice T_sl_api_Item.und T_api_Item.info T_api_Item.size (by omega) (by omega)
        have hbound : (pA L n.p.key).length * 5 + 5 ≤ cap * 5 := by
          have : ((pA L n.p.key).length + 1) * 5 ≤ cap * 5 := Nat.mul_le_mul_right 5 (by omega)
          omega
        simp only [ix, T_api_Item.f1, popO_some, bindH_eq, condV_bool, condV_true, condV_false, yV_bool, gopV_tt, gopV_ff, gopV_tf, gopV_ft, pickV_t, pickV_f, pickV_bool, nilS_ptr, add_eq, sub_eq, mul_eq, lss_eq, leq_eq, gtr_eq, geq_eq, not_eq, minI_eq, maxI_eq, extract_0, extract_1, extract_2, eqlI, neqI, makeFunc_eq, decide_true, decide_false, if_true, if_false, Bool.false_eq_true, Bool.not_true, Bool.not_false, reduceIte, List.getElem?_toArray, List.getElem?_cons_zero, List.getElem?_cons_succ, Option.isSome_none, List.length_map]
        refine store_cell T_int.und rfl hb4 (by rw [hcs4]; omega) rfl T_int.info T_int.size ?_
        have u5 : Upd [b'] h4 (h4.set b' (.cells (cs.setIfInBounds (0 + (pA L n.p.key).length * 5 + 4) (.int .i64 2)) T_api_Item (0, 0))) := Upd.set (by simp)
        have hb5 : (h4.set b' (.cells (cs.setIfInBounds (0 + (pA L n.p.key).length * 5 + 4) (.int .i64 2)) T_api_Item (0, 0))) b' = some (.cells (cs.setIfInBounds (0 + (pA L n.p.key).length * 5 + 4) (.int .i64 2)) T_api_Item (0, 0)) := set_same
        generalize h4.set b' (.cells (cs.setIfInBounds (0 + (pA L n.p.key).length * 5 + 4) (.int .i64 2)) T_api_Item (0, 0)) = h5 at *
        have nab : a ≠ b' := by rintro rfl; exact na4 (by rw [hF4]; simp)
        have ha5 := u5.get ha4 (by simpa using nab)
        have hO5 : OwnR h5 T_api_Item 5 v4 ((insL L ⟨x.p, 2⟩).map It.cells) [b'] := by
          have hk2 : (⟨x.p, 2⟩ : It).key = n.p.key := hx2
          have hins := set_cut hs (i := ⟨x.p, 2⟩) (x := x) (by rw [hk2]; exact hg)
          rw [hk2] at hins
          have hlen : (insL L ⟨x.p, 2⟩).length = L.length := by
            rw [← hins]; simp only [List.length_append, List.length_take, List.length_cons, List.length_drop]; omega
          refine ⟨It.rows _, .inr ⟨b', cap, _, by rw [hv4, List.length_map, hlen], rfl, hb5, by rw [List.length_map, hlen]; exact hle4, hcm4, by simpa using hcs4, ?_⟩⟩
          rw [List.length_map, hlen]
          -- the cells
          have e0 : (L.map It.cells).flatten.set ((pA L n.p.key).length * 5 + 4) (.int .i64 2) = ((insL L ⟨x.p, 2⟩).map It.cells).flatten := by
            rw [← hins]; exact set_stage hlt hat 2
          rw [← e0, ← htk4, Array.toList_setIfInBounds, Nat.zero_add, List.take_set]
        have na5 : a ∉ [b'] := by simpa using nab
        refine store_cell T_sl_api_Item.und rfl ha5 (by simp) (by rw [hv4]; rfl) T_sl_api_Item.info T_sl_api_Item.size ?_
        have u7 : Upd [a] h5 (h5.set a (.cells (#[v, .int .i64 room].setIfInBounds 0 v4) T_carrackref15_Table (0, 0))) := Upd.set (by simp)
        have ha7 : (h5.set a (.cells (#[v, .int .i64 room].setIfInBounds 0 v4) T_carrackref15_Table (0, 0))) a = some (.cells #[v4, .int .i64 room] T_carrackref15_Table (0, 0)) := set_same
        generalize h5.set a (.cells (#[v, .int .i64 room].setIfInBounds 0 v4) T_carrackref15_Table (0, 0)) = h7 at *
        unfold carrackref15_Table_Apply_k69 carrackref15_Table_Apply_k70
        have fb : h2 b' = none := fresh4 b' (by rw [hF4]; simp)
        have E5 : Ext h2 h5 := E4.fresh u5 (Fresh.one fb)
        refine fin eL eE (F' := [a, b']) ⟨⟨v4, [b'], ha7, hO5.upd u7 (fun b hb => by simp at hb; subst hb; simpa using Ne.symm nab), rfl, na5⟩, hs.ins _⟩ ?_ ?_
        · exact Upd.then (Ext.upd E5) u7 (fun b hb => by left; simp at hb; simp [hb])
        · intro b hb
          simp only [List.mem_cons, List.not_mem_nil, or_false] at hb
          rcases hb with rfl | rfl
          · left; simp
          · right; exact fb
    · have d1 : (n.k == 1) = false := by simp; omega
      have d2 : (n.k == 2) = false := by simp; omega
      have d3 : ((2 : Int) < n.k) = True := by apply eq_true; omega
      have n1 : ¬ n.k = 1 := by omega
      have n2 : ¬ n.k = 2 := by omega
      have eL : appL L room n = delL L n.p.key := by unfold appL; rw [if_neg hrt, if_neg n1, if_neg n2]
      have eE : appE L room n = 0 := by unfold appE; rw [if_neg hrt, if_neg n1, if_neg n2]
      cases hg : getL L n.p.key with
      | none =>
        simp only [T_api_Note.f0, T_api_Note.f1, T_int.load, c0, d1, d2, d3, Option.isSome_none, popO_some, bindH_eq, condV_bool, condV_true, condV_false, yV_bool, gopV_tt, gopV_ff, gopV_tf, gopV_ft, pickV_t, pickV_f, pickV_bool, nilS_ptr, add_eq, sub_eq, mul_eq, lss_eq, leq_eq, gtr_eq, geq_eq, not_eq, minI_eq, maxI_eq, extract_0, extract_1, extract_2, eqlI, neqI, makeFunc_eq, decide_true, decide_false, if_true, if_false, Bool.false_eq_true, Bool.not_true, Bool.not_false, reduceIte, List.getElem?_toArray, List.getElem?_cons_zero, List.getElem?_cons_succ, Option.isSome_none, List.length_map]
        unfold carrackref15_Table_Apply_k69 carrackref15_Table_Apply_k70
        rw [del_none hg] at eL
        exact fin eL eE H2 Upd.refl (fun b hb => .inl hb)
      | some x =>
        have hx15 : ∀ X : Prop, X → X := fun _ x => x
        simp only [T_api_Note.f0, T_api_Note.f1, T_int.load, c0, d1, d2, d3, Option.isSome_some, extract_0, extract_1, popO_some, eqlI, yV_bool, gopV_tt, gopV_ft, pickV_t, pickV_f, condV_false, condV_true, gtr_eq, decide_true]
        exact del_rule H2 hL hg fun h' F' H' u f => by
          unfold carrackref15_Table_Apply_k69 carrackref15_Table_Apply_k70
          exact fin eL eE H' u f
end Go.Proofs.Ytdgcpeinkjnncaa
