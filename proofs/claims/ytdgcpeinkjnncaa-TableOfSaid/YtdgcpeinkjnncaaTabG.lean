/- the document's table: the rest; the statements' helpers. -/
import Derived.Test.YtdgcpeinkjnncaaTabF
set_option maxRecDepth 20000
set_option linter.unusedSimpArgs false
set_option linter.unusedVariables false
namespace Go.Proofs.Ytdgcpeinkjnncaa
open Go

theorem zero_it : SemP PG (Instr.build T_api_Item #[]) = some (It.val default) := by kernel_rfl
theorem RGet_ok {h : PH} {a : Nat} {L : List It} {room : Int} {F : List Nat} (H : RAt h a L room F) (hL : L.length ≤ 1000) (key : Ky) {k : Value → PH → Prop}
    (hk : ∀ h', Ext h h' → k (.tuple #[((getL L key).getD default).val, .bool (getL L key).isSome]) h') :
    CallsH PG id_carrackref15_Table_Get #[.pointer (some ⟨a, 0, none⟩), .int .i64 key.1, .int .u64 key.2] h k := by
  apply carrackref15_Table_Get.call
  unfold carrackref15_Table_Get
  intro r1 hr1
  rw [bindH_eq]
  have u1 : Ext h (h.set r1 (.cells (zcells PG T_api_Item) T_api_Item)) := Upd.new hr1
  have b1 : (h.set r1 (.cells (zcells PG T_api_Item) T_api_Item)) r1 = some (.cells (zcells PG T_api_Item) T_api_Item (0, 0)) := set_same
  generalize h.set r1 (.cells (zcells PG T_api_Item) T_api_Item) = h1 at *
  have H1 := H.ext u1
  have hs := H.srt
  refine Place_ok H1 (by omega) key ?_
  have stor : ∀ (x : It) {K : Value → PH → Prop}, (∀ h', Bx h' r1 x.cells → Ext h h' → K undef h') → SemH PG (storeS T_api_Item (.pointer (some ⟨r1, 0, none⟩)) x.val) h1 K := fun x K hK => by
    refine store_box b1 T_api_Item.info (by show 5 = 5; rfl) (by show 0 < 5; decide) (by rw [T_api_Item.zc]; rfl) x.allCell ?_
    exact hK _ ⟨_, set_same⟩ (u1.fresh (Upd.set (by simp)) (Fresh.one hr1))
  cases hg : getL L key with
  | none =>
    rw [hg] at hk
    simp only [Option.isSome_none, zero_it, popO_some, bindH_eq, condV_bool, condV_true, condV_false, yV_bool, gopV_tt, gopV_ff, gopV_tf, gopV_ft, pickV_t, pickV_f, pickV_bool, nilS_ptr, add_eq, sub_eq, mul_eq, lss_eq, leq_eq, gtr_eq, geq_eq, not_eq, minI_eq, maxI_eq, extract_0, extract_1, extract_2, eqlI, neqI, makeFunc_eq, decide_true, decide_false, if_true, if_false, Bool.false_eq_true, Bool.not_true, Bool.not_false, reduceIte, List.getElem?_toArray, List.getElem?_cons_zero, List.getElem?_cons_succ, Option.isSome_none, List.length_map]
    refine stor default fun h2 b2 u2 => ?_
    simp only [b2.it, popO_some, bindH_eq, condV_bool, condV_true, condV_false, yV_bool, gopV_tt, gopV_ff, gopV_tf, gopV_ft, pickV_t, pickV_f, pickV_bool, nilS_ptr, add_eq, sub_eq, mul_eq, lss_eq, leq_eq, gtr_eq, geq_eq, not_eq, minI_eq, maxI_eq, extract_0, extract_1, extract_2, eqlI, neqI, makeFunc_eq, decide_true, decide_false, if_true, if_false, Bool.false_eq_true, Bool.not_true, Bool.not_false, reduceIte, List.getElem?_toArray, List.getElem?_cons_zero, List.getElem?_cons_succ, Option.isSome_none, List.length_map]
    exact hk h2 u2
  | some x =>
    rw [hg] at hk
    obtain ⟨v, G, ha, hO, rfl, hn⟩ := H1.here
    have c0 : cellH h1 ⟨a, 0, none⟩ = some v := by simp [cellH, ha]
    have hat : L[(pA L key).length]? = some x := by
      have : (pA L key ++ ((getL L key).toList ++ pC L key))[(pA L key).length]? = some x := by
        rw [List.getElem?_append_right (Nat.le_refl _), Nat.sub_self, hg]; rfl
      rwa [← split3 hs key] at this
    obtain ⟨y, y1, y2⟩ := hO.slR.it (k := .i64) hat
    simp only [Option.isSome_some, T_carrackref15_Table.f0, T_sl_api_Item.load, c0, y1, y2, popO_some, bindH_eq, condV_bool, condV_true, condV_false, yV_bool, gopV_tt, gopV_ff, gopV_tf, gopV_ft, pickV_t, pickV_f, pickV_bool, nilS_ptr, add_eq, sub_eq, mul_eq, lss_eq, leq_eq, gtr_eq, geq_eq, not_eq, minI_eq, maxI_eq, extract_0, extract_1, extract_2, eqlI, neqI, makeFunc_eq, decide_true, decide_false, if_true, if_false, Bool.false_eq_true, Bool.not_true, Bool.not_false, reduceIte, List.getElem?_toArray, List.getElem?_cons_zero, List.getElem?_cons_succ, Option.isSome_none, List.length_map]
    refine stor x fun h2 b2 u2 => ?_
    simp only [b2.it, popO_some, bindH_eq, condV_bool, condV_true, condV_false, yV_bool, gopV_tt, gopV_ff, gopV_tf, gopV_ft, pickV_t, pickV_f, pickV_bool, nilS_ptr, add_eq, sub_eq, mul_eq, lss_eq, leq_eq, gtr_eq, geq_eq, not_eq, minI_eq, maxI_eq, extract_0, extract_1, extract_2, eqlI, neqI, makeFunc_eq, decide_true, decide_false, if_true, if_false, Bool.false_eq_true, Bool.not_true, Bool.not_false, reduceIte, List.getElem?_toArray, List.getElem?_cons_zero, List.getElem?_cons_succ, Option.isSome_none, List.length_map]
    exact hk h2 u2
theorem rt_build (v : Value) (hv : ∃ a n c, v = .slice a n c) (room : Int) : SemP PG (Instr.build T_carrackref15_Table #[(0, v), (1, .int .i64 room)]) = some (.agg #[v, .int .i64 room]) := by
  obtain ⟨a, n, c, rfl⟩ := hv
  kernel_rfl
theorem RCopy_ok {h : PH} {a : Nat} {L : List It} {room : Int} {F : List Nat} (H : RAt h a L room F) (hL : L.length ≤ 1000) {k : Value → PH → Prop}
    (hk : ∀ a' h' F', RAt h' a' L room F' → Fresh h F' → Ext h h' → k (.pointer (some ⟨a', 0, none⟩)) h') : CallsH PG id_carrackref15_Table_Copy #[.pointer (some ⟨a, 0, none⟩)] h k := by
  apply carrackref15_Table_Copy.call
  unfold carrackref15_Table_Copy
  obtain ⟨v, G, ha, hO, rfl, hn⟩ := H.here
  have c0 : cellH h ⟨a, 0, none⟩ = some v := by simp [cellH, ha]
  have c1 : cellH h ⟨a, 0 + 1, none⟩ = some (.int .i64 room) := by simp [cellH, ha]
  simp only [T_carrackref15_Table.f0, T_carrackref15_Table.f1, T_sl_api_Item.load, T_int.load, c0, c1, empty_lit, popO_some, bindH_eq, condV_bool, condV_true, condV_false, yV_bool, gopV_tt, gopV_ff, gopV_tf, gopV_ft, pickV_t, pickV_f, pickV_bool, nilS_ptr, add_eq, sub_eq, mul_eq, lss_eq, leq_eq, gtr_eq, geq_eq, not_eq, minI_eq, maxI_eq, extract_0, extract_1, extract_2, eqlI, neqI, makeFunc_eq, decide_true, decide_false, if_true, if_false, Bool.false_eq_true, Bool.not_true, Bool.not_false, reduceIte, List.getElem?_toArray, List.getElem?_cons_zero, List.getElem?_cons_succ, Option.isSome_none, List.length_map]
  intro r2 hr2
  refine popO_pure ?_
  try rw [bindH_eq]
  have u2 : Ext h (h.set r2 (.cells #[] T_api_Item)) := Upd.new hr2
  have hE : OwnR (h.set r2 (.cells #[] T_api_Item)) T_api_Item 5 (.slice (some ⟨r2, 0, none⟩) 0 0) (([] : List It).map It.cells) [r2] := OwnR.lit (It.rows []) set_same rfl (by decide) rfl
  generalize h.set r2 (.cells #[] T_api_Item) = h2 at *
  refine app_it hE (hO.slR.ext u2) (by simp; omega) ?_
  intro v4 h4 F4 hO4 u4 f4
  rw [List.nil_append] at hO4
  have E4 : Ext h h4 := u2.fresh u4 (Fresh.one hr2)
  have fresh4 : Fresh h F4 := fun b hb => by
    rcases f4 b hb with h6 | h6
    · simp at h6; subst h6; exact hr2
    · exact u2.none h6
  have ha4 := E4.get ha
  refine ⟨by simp [cellH, ha4], ?_⟩
  rw [rt_build v4 (by obtain ⟨a, c, e, -⟩ := hO4.slR.here; exact ⟨_, _, _, e⟩), popO_some]
  intro a' ha'
  try rw [bindH_eq]
  have na : a' ∉ F4 := fun hm => hO4.known a' hm ha'
  refine hk a' _ (a' :: F4) ⟨⟨v4, F4, set_same, hO4.ext (Upd.new ha'), rfl, na⟩, H.srt⟩ (fun b hb => ?_) (E4.trans (Upd.new ha'))
  rcases List.mem_cons.1 hb with rfl | hb
  · exact E4.none ha'
  · exact fresh4 b hb
theorem RFit_ok {h : PH} {a : Nat} {L : List It} {room : Int} {F : List Nat} (H : RAt h a L room F) (hr : L.length ≤ room) (hr2 : room ≤ 1000) {x : Value} {ns : List Nt} (hx : SlR h 5 x (ns.map Nt.cells)) (hn : ns.length ≤ 1000000) (hw : ∀ n ∈ ns, 0 ≤ n.p.s ∧ 0 ≤ n.p.t) {k : Value → PH → Prop}
    (hk : ∀ h', Ext h h' → k (.int .i64 (fitL room L ns)) h') : CallsH PG id_carrackref15_Table_Fit #[.pointer (some ⟨a, 0, none⟩), x] h k := by
  have lx := hx.len (t' := T_int) T_sl_api_Note.und
  rw [List.length_map] at lx
  apply carrackref15_Table_Fit.call
  unfold carrackref15_Table_Fit
  refine RCopy_ok H (by omega) fun c h1 G H1 f1 u1 => ?_
  refine ⟨fun vs h' => ∃ (i : Nat) (L' : List It) (G' : List Nat), i ≤ ns.length ∧ vs = [x, .pointer (some ⟨c, 0, none⟩), .int .i64 i] ∧ RAt h' c L' room G' ∧ Fresh h G' ∧ L'.length ≤ room ∧ Ext h h' ∧ fitL room L ns = i + fitL room L' (ns.drop i), upTo ns.length 2, ⟨0, L, G, by omega, rfl, H1, f1, hr, u1, by simp⟩, ?_⟩
  rintro ρ h' ⟨i, L', G', hi, hvs, HC, fG, hr', w, hf⟩
  simp only [List.map_cons, List.map_nil, List.cons.injEq, and_true] at hvs
  obtain ⟨e0, e1, e4⟩ := hvs
  rw [e0, e1, e4]
  unfold carrackref15_Table_Fit_b4
  by_cases hlt : i < ns.length
  · have hd : ((i : Int) < (ns.length : Int)) = True := by apply eq_true; omega
    obtain ⟨n, hm⟩ : ∃ m, ns[i]? = some m := ⟨_, List.getElem?_eq_getElem hlt⟩
    obtain ⟨y, y1, y2⟩ := (hx.ext w).nt (k := .i64) hm
    have hwn := hw n (List.mem_of_getElem? hm)
    have e5 : IntKind.i64.wrap ((i : Int) + 1) = ((i + 1 : Nat) : Int) := by rw [i64_wrap (by omega) (by omega)]; omega
    have hdrop : ns.drop i = n :: ns.drop (i + 1) := by
      rw [List.drop_eq_getElem_cons hlt]
      have : ns[i] = n := by rw [List.getElem?_eq_getElem hlt] at hm; simpa using hm
      rw [this]
    simp only [lx, hd, y1, y2, popO_some, bindH_eq, condV_bool, condV_true, condV_false, yV_bool, gopV_tt, gopV_ff, gopV_tf, gopV_ft, pickV_t, pickV_f, pickV_bool, nilS_ptr, add_eq, sub_eq, mul_eq, lss_eq, leq_eq, gtr_eq, geq_eq, not_eq, minI_eq, maxI_eq, extract_0, extract_1, extract_2, eqlI, neqI, makeFunc_eq, decide_true, decide_false, if_true, if_false, Bool.false_eq_true, Bool.not_true, Bool.not_false, reduceIte, List.getElem?_toArray, List.getElem?_cons_zero, List.getElem?_cons_succ, Option.isSome_none, List.length_map]
    refine RApply_ok HC (by omega) n hwn.1 hwn.2 fun h3 F3 H3 u3 f3 => ?_
    have w3 : Ext h h3 := w.fresh u3 fG
    by_cases hz : appE L' room n = 0
    · have e6 : (appE L' room n != 0) = false := by simp [hz]
      simp only [e6, e5, popO_some, bindH_eq, condV_bool, condV_true, condV_false, yV_bool, gopV_tt, gopV_ff, gopV_tf, gopV_ft, pickV_t, pickV_f, pickV_bool, nilS_ptr, add_eq, sub_eq, mul_eq, lss_eq, leq_eq, gtr_eq, geq_eq, not_eq, minI_eq, maxI_eq, extract_0, extract_1, extract_2, eqlI, neqI, makeFunc_eq, decide_true, decide_false, if_true, if_false, Bool.false_eq_true, Bool.not_true, Bool.not_false, reduceIte, List.getElem?_toArray, List.getElem?_cons_zero, List.getElem?_cons_succ, Option.isSome_none, List.length_map]
      refine ⟨⟨i + 1, appL L' room n, F3, by omega, rfl, H3, fG.grow w f3, app_len HC.srt hr' n, w3, ?_⟩, by simp [upTo, e4]; omega⟩
      rw [hf, hdrop]
      show i + (if appE L' room n = 0 then _ else _) = _
      rw [if_pos hz]; omega
    · have e6 : (appE L' room n != 0) = true := by simp [hz]
      simp only [e6, popO_some, bindH_eq, condV_bool, condV_true, condV_false, yV_bool, gopV_tt, gopV_ff, gopV_tf, gopV_ft, pickV_t, pickV_f, pickV_bool, nilS_ptr, add_eq, sub_eq, mul_eq, lss_eq, leq_eq, gtr_eq, geq_eq, not_eq, minI_eq, maxI_eq, extract_0, extract_1, extract_2, eqlI, neqI, makeFunc_eq, decide_true, decide_false, if_true, if_false, Bool.false_eq_true, Bool.not_true, Bool.not_false, reduceIte, List.getElem?_toArray, List.getElem?_cons_zero, List.getElem?_cons_succ, Option.isSome_none, List.length_map]
      have : fitL room L ns = i := by
        rw [hf, hdrop]
        show i + (if appE L' room n = 0 then _ else _) = _
        rw [if_neg hz]; rfl
      rw [this] at hk
      exact hk h3 w3
  · have hd : ((i : Int) < (ns.length : Int)) = False := by apply eq_false; omega
    simp only [hd, lx, popO_some, bindH_eq, condV_bool, condV_true, condV_false, yV_bool, gopV_tt, gopV_ff, gopV_tf, gopV_ft, pickV_t, pickV_f, pickV_bool, nilS_ptr, add_eq, sub_eq, mul_eq, lss_eq, leq_eq, gtr_eq, geq_eq, not_eq, minI_eq, maxI_eq, extract_0, extract_1, extract_2, eqlI, neqI, makeFunc_eq, decide_true, decide_false, if_true, if_false, Bool.false_eq_true, Bool.not_true, Bool.not_false, reduceIte, List.getElem?_toArray, List.getElem?_cons_zero, List.getElem?_cons_succ, Option.isSome_none, List.length_map]
    have hil : i = ns.length := by omega
    rw [hil] at hf
    rw [List.drop_length] at hf
    have : fitL room L ns = ns.length := hf
    rw [this] at hk
    exact hk h' w
theorem RAct_ok {h : PH} {a : Nat} {L : List It} {room : Int} {F : List Nat} (H : RAt h a L room F) (hL : L.length ≤ 1000) (c : Ac) (hs0 : 0 ≤ c.n.p.s) (ht0 : 0 ≤ c.n.p.t) {k : Value → PH → Prop}
    (hk : ∀ h' F', RAt h' a (actL L room c) room F' → Upd F h h' → (∀ b ∈ F', b ∈ F ∨ h b = none) → k (.int .i64 (actE L room c)) h') : CallsH PG id_carrackref15_Table_Act #[.pointer (some ⟨a, 0, none⟩), .agg c.cells.toArray] h k := by
  apply carrackref15_Table_Act.call
  unfold carrackref15_Table_Act
  intro r1 hr1
  rw [bindH_eq]
  have u1 : Ext h (h.set r1 (.cells (Value.cells (.agg c.cells.toArray)) T_carrackref15_Act)) := Upd.new hr1
  have b1 : Bx (h.set r1 (.cells (Value.cells (.agg c.cells.toArray)) T_carrackref15_Act)) r1 c.cells := Bx.new
  have b1' : (h.set r1 (.cells (Value.cells (.agg c.cells.toArray)) T_carrackref15_Act)) r1 = some (.cells c.cells.toArray T_carrackref15_Act (0, 0)) := set_same
  generalize h.set r1 (.cells (Value.cells (.agg c.cells.toArray)) T_carrackref15_Act) = h1 at *
  have c0 : cellH h1 ⟨r1, 0, none⟩ = some (.bool c.dr) := b1.cell 0
  have c2 : cellH h1 ⟨r1, 0 + 1 + 1, none⟩ = some (.int .i64 c.n.p.f) := b1.cell 2
  have c3 : cellH h1 ⟨r1, 0 + 1 + 1 + 1, none⟩ = some (.int .u64 c.n.p.s) := b1.cell 3
  have pn : SemE PG h1 (Instr.loadAt T_api_Note (.pointer (some ⟨r1, 0 + 1, none⟩))) = some (.agg c.n.cells.toArray) := by
    rw [T_api_Note.loadAgg b1' (by show 0 + 1 + 5 ≤ 6; decide)]; rfl
  simp only [T_carrackref15_Act.f0, T_carrackref15_Act.f1, T_bool.load, c0, popO_some, bindH_eq, condV_bool, condV_true, condV_false, yV_bool, gopV_tt, gopV_ff, gopV_tf, gopV_ft, pickV_t, pickV_f, pickV_bool, nilS_ptr, add_eq, sub_eq, mul_eq, lss_eq, leq_eq, gtr_eq, geq_eq, not_eq, minI_eq, maxI_eq, extract_0, extract_1, extract_2, eqlI, neqI, makeFunc_eq, decide_true, decide_false, if_true, if_false, Bool.false_eq_true, Bool.not_true, Bool.not_false, reduceIte, List.getElem?_toArray, List.getElem?_cons_zero, List.getElem?_cons_succ, Option.isSome_none, List.length_map]
  cases hd : c.dr with
  | true =>
    simp only [T_carrackref15_Act.f0, T_carrackref15_Act.f1, T_api_Note.f1, T_api_Packet.f0, T_api_Packet.f1, T_int.load, T_uint64.load, c2, c3, popO_some, bindH_eq, condV_bool, condV_true, condV_false, yV_bool, gopV_tt, gopV_ff, gopV_tf, gopV_ft, pickV_t, pickV_f, pickV_bool, nilS_ptr, add_eq, sub_eq, mul_eq, lss_eq, leq_eq, gtr_eq, geq_eq, not_eq, minI_eq, maxI_eq, extract_0, extract_1, extract_2, eqlI, neqI, makeFunc_eq, decide_true, decide_false, if_true, if_false, Bool.false_eq_true, Bool.not_true, Bool.not_false, reduceIte, List.getElem?_toArray, List.getElem?_cons_zero, List.getElem?_cons_succ, Option.isSome_none, List.length_map]
    refine RDrop_ok (H.ext u1) hL c.n.p.key fun h2 F2 H2 u2 f2 => ?_
    have e1 : actE L room c = dropE L c.n.p.key := by unfold actE; rw [hd]; rfl
    have e2 : actL L room c = delL L c.n.p.key := by unfold actL; rw [hd]; rfl
    rw [← e1]
    exact hk h2 F2 (by rw [e2]; exact H2) (Upd.then (Ext.upd u1) u2 fun b hb => .inl hb) (fun b hb => by
      rcases f2 b hb with h | h
      · exact .inl h
      · exact .inr (u1.none h))
  | false =>
    simp only [T_carrackref15_Act.f1, pn, popO_some, bindH_eq, condV_bool, condV_true, condV_false, yV_bool, gopV_tt, gopV_ff, gopV_tf, gopV_ft, pickV_t, pickV_f, pickV_bool, nilS_ptr, add_eq, sub_eq, mul_eq, lss_eq, leq_eq, gtr_eq, geq_eq, not_eq, minI_eq, maxI_eq, extract_0, extract_1, extract_2, eqlI, neqI, makeFunc_eq, decide_true, decide_false, if_true, if_false, Bool.false_eq_true, Bool.not_true, Bool.not_false, reduceIte, List.getElem?_toArray, List.getElem?_cons_zero, List.getElem?_cons_succ, Option.isSome_none, List.length_map]
    refine RApply_ok (H.ext u1) hL c.n hs0 ht0 fun h2 F2 H2 u2 f2 => ?_
    have e1 : actE L room c = appE L room c.n := by unfold actE; rw [hd]; rfl
    have e2 : actL L room c = appL L room c.n := by unfold actL; rw [hd]; rfl
    rw [← e1]
    exact hk h2 F2 (by rw [e2]; exact H2) (Upd.then (Ext.upd u1) u2 fun b hb => .inl hb) (fun b hb => by
      rcases f2 b hb with h | h
      · exact .inl h
      · exact .inr (u1.none h))

/-! ### the statements' helpers -/
theorem one_ok {h : PH} (kd s : Int) {k : Value → PH → Prop} (hk : ∀ h', Ext h h' → k (.agg (Nt.cells ⟨kd, ⟨0, s, 1, ⟨#[]⟩⟩⟩).toArray) h') : CallsH PG id_carracklaw15_one #[.int .i64 kd, .int .u64 s] h k := by
  apply carracklaw15_one.call
  unfold carracklaw15_one
  intro r hr
  rw [bindH_eq]
  have e1 : SemP PG (Instr.build T_api_Packet #[(1, .int .u64 s), (2, .int .u64 1)]) = some (.agg (Pk.cells ⟨0, s, 1, ⟨#[]⟩⟩).toArray) := by kernel_rfl
  have e2 : SemP PG (Instr.build T_api_Note #[(0, .int .i64 kd), (1, .agg (Pk.cells ⟨0, s, 1, ⟨#[]⟩⟩).toArray)]) = some (.agg (Nt.cells ⟨kd, ⟨0, s, 1, ⟨#[]⟩⟩⟩).toArray) := by kernel_rfl
  simp only [e1, e2, popO_some, bindH_eq, condV_bool, condV_true, condV_false, yV_bool, gopV_tt, gopV_ff, gopV_tf, gopV_ft, pickV_t, pickV_f, pickV_bool, nilS_ptr, add_eq, sub_eq, mul_eq, lss_eq, leq_eq, gtr_eq, geq_eq, not_eq, minI_eq, maxI_eq, extract_0, extract_1, extract_2, eqlI, neqI, makeFunc_eq, decide_true, decide_false, if_true, if_false, Bool.false_eq_true, Bool.not_true, Bool.not_false, reduceIte, List.getElem?_toArray, List.getElem?_cons_zero, List.getElem?_cons_succ, Option.isSome_none, List.length_map]
  refine put_nt hr _ fun h2 b2 _ u2 => ?_
  simp only [b2.nt, popO_some, bindH_eq, condV_bool, condV_true, condV_false, yV_bool, gopV_tt, gopV_ff, gopV_tf, gopV_ft, pickV_t, pickV_f, pickV_bool, nilS_ptr, add_eq, sub_eq, mul_eq, lss_eq, leq_eq, gtr_eq, geq_eq, not_eq, minI_eq, maxI_eq, extract_0, extract_1, extract_2, eqlI, neqI, makeFunc_eq, decide_true, decide_false, if_true, if_false, Bool.false_eq_true, Bool.not_true, Bool.not_false, reduceIte, List.getElem?_toArray, List.getElem?_cons_zero, List.getElem?_cons_succ, Option.isSome_none, List.length_map]
  exact hk h2 u2
theorem awake_ok {h : PH} {k : Value → PH → Prop} (hk : ∀ h', Ext h h' → k (.bool true) h') : CallsH PG id_carracklaw15_awake #[] h k := by
  apply carracklaw15_awake.call
  unfold carracklaw15_awake
  refine New_ok 1 (fun hc => by omega) fun _ _ a h1 F H1 f1 u1 => ?_
  have pn : ∀ {h : PH} {x y : Operand}, SemE PG h (binS .eql T_p_table_Table x y (.pointer (some ⟨a, 0, none⟩)) (.pointer none)) = some (.bool false) := eqlPtrNil T_p_table_Table.und
  have z0 : ((0 : Int) != 0) = false := by decide
  simp only [z0, pn, popO_some, bindH_eq, condV_bool, condV_true, condV_false, yV_bool, gopV_tt, gopV_ff, gopV_tf, gopV_ft, pickV_t, pickV_f, pickV_bool, nilS_ptr, add_eq, sub_eq, mul_eq, lss_eq, leq_eq, gtr_eq, geq_eq, not_eq, minI_eq, maxI_eq, extract_0, extract_1, extract_2, eqlI, neqI, makeFunc_eq, decide_true, decide_false, if_true, if_false, Bool.false_eq_true, Bool.not_true, Bool.not_false, reduceIte, List.getElem?_toArray, List.getElem?_cons_zero, List.getElem?_cons_succ, Option.isSome_none, List.length_map]
  refine one_ok 1 1 fun h2 u2 => ?_
  refine Apply_ok (H1.ext u2) _ fun h3 H3 u3 => ?_
  refine one_ok 1 2 fun h4 u4 => ?_
  refine Apply_ok (H3.ext u4) _ fun h5 H5 u5 => ?_
  refine one_ok 3 1 fun h6 u6 => ?_
  refine Apply_ok (H5.ext u6) _ fun h7 H7 u7 => ?_
  refine one_ok 1 2 fun h8 u8 => ?_
  refine Apply_ok (H7.ext u8) _ fun h9 H9 u9 => ?_
  have E : Ext h h9 := (((((((u1.trans u2).fresh u3 f1).trans u4).fresh u5 f1).trans u6).fresh u7 f1).trans u8).fresh u9 f1
  have q1 : appL [] 1 ⟨1, ⟨0, 1, 1, ⟨#[]⟩⟩⟩ = [⟨⟨0, 1, 1, ⟨#[]⟩⟩, 1⟩] := by decide
  have q2 : appL [⟨⟨0, 1, 1, ⟨#[]⟩⟩, 1⟩] 1 ⟨1, ⟨0, 2, 1, ⟨#[]⟩⟩⟩ = [⟨⟨0, 1, 1, ⟨#[]⟩⟩, 1⟩] := by decide
  have q3 : appL [⟨⟨0, 1, 1, ⟨#[]⟩⟩, 1⟩] 1 ⟨3, ⟨0, 1, 1, ⟨#[]⟩⟩⟩ = [] := by decide
  have q4 : appL [] 1 ⟨1, ⟨0, 2, 1, ⟨#[]⟩⟩⟩ = [⟨⟨0, 2, 1, ⟨#[]⟩⟩, 1⟩] := by decide
  have p1 : appE [] 1 ⟨1, ⟨0, 1, 1, ⟨#[]⟩⟩⟩ = 0 := by decide
  have p2 : appE [⟨⟨0, 1, 1, ⟨#[]⟩⟩, 1⟩] 1 ⟨1, ⟨0, 2, 1, ⟨#[]⟩⟩⟩ = 2 := by decide
  have p3 : appE [⟨⟨0, 1, 1, ⟨#[]⟩⟩, 1⟩] 1 ⟨3, ⟨0, 1, 1, ⟨#[]⟩⟩⟩ = 0 := by decide
  have p4 : appE [] 1 ⟨1, ⟨0, 2, 1, ⟨#[]⟩⟩⟩ = 0 := by decide
  rw [q1, q2, q3, q4] at H9
  have z1 : ((0 : Int) == 0) = true := by decide
  have z2 : ((2 : Int) == 2) = true := by decide
  simp only [q1, q2, q3, q4, p1, p2, p3, p4, z1, z2, popO_some, bindH_eq, condV_bool, condV_true, condV_false, yV_bool, gopV_tt, gopV_ff, gopV_tf, gopV_ft, pickV_t, pickV_f, pickV_bool, nilS_ptr, add_eq, sub_eq, mul_eq, lss_eq, leq_eq, gtr_eq, geq_eq, not_eq, minI_eq, maxI_eq, extract_0, extract_1, extract_2, eqlI, neqI, makeFunc_eq, decide_true, decide_false, if_true, if_false, Bool.false_eq_true, Bool.not_true, Bool.not_false, reduceIte, List.getElem?_toArray, List.getElem?_cons_zero, List.getElem?_cons_succ, Option.isSome_none, List.length_map]
  refine Len_ok H9 ?_
  have z3 : ((([⟨⟨0, 2, 1, ⟨#[]⟩⟩, 1⟩] : List It).length : Int) == 1) = true := by decide
  simp only [z3, popO_some, bindH_eq, condV_bool, condV_true, condV_false, yV_bool, gopV_tt, gopV_ff, gopV_tf, gopV_ft, pickV_t, pickV_f, pickV_bool, nilS_ptr, add_eq, sub_eq, mul_eq, lss_eq, leq_eq, gtr_eq, geq_eq, not_eq, minI_eq, maxI_eq, extract_0, extract_1, extract_2, eqlI, neqI, makeFunc_eq, decide_true, decide_false, if_true, if_false, Bool.false_eq_true, Bool.not_true, Bool.not_false, reduceIte, List.getElem?_toArray, List.getElem?_cons_zero, List.getElem?_cons_succ, Option.isSome_none, List.length_map]
  exact hk h9 E
theorem few_ok {h : PH} {x : Value} {ns : List Nt} (hx : SlR h 5 x (ns.map Nt.cells)) {k : Value → PH → Prop} (hk : ∀ b, (b = true → ns.length ≤ 100) → k (.bool b) h) : CallsH PG id_carracklaw15_few #[x] h k := by
  have lx := hx.len (t' := T_int) T_sl_api_Note.und
  rw [List.length_map] at lx
  apply carracklaw15_few.call
  unfold carracklaw15_few
  by_cases hl : 100 < ns.length
  · have d1 : ((100 : Int) < (ns.length : Int)) = True := by apply eq_true; omega
    simp only [lx, d1, popO_some, bindH_eq, condV_bool, condV_true, condV_false, yV_bool, gopV_tt, gopV_ff, gopV_tf, gopV_ft, pickV_t, pickV_f, pickV_bool, nilS_ptr, add_eq, sub_eq, mul_eq, lss_eq, leq_eq, gtr_eq, geq_eq, not_eq, minI_eq, maxI_eq, extract_0, extract_1, extract_2, eqlI, neqI, makeFunc_eq, decide_true, decide_false, if_true, if_false, Bool.false_eq_true, Bool.not_true, Bool.not_false, reduceIte, List.getElem?_toArray, List.getElem?_cons_zero, List.getElem?_cons_succ, Option.isSome_none, List.length_map]
    exact hk false (by simp)
  · have d1 : ((100 : Int) < (ns.length : Int)) = False := by apply eq_false; omega
    simp only [lx, d1, popO_some, bindH_eq, condV_bool, condV_true, condV_false, yV_bool, gopV_tt, gopV_ff, gopV_tf, gopV_ft, pickV_t, pickV_f, pickV_bool, nilS_ptr, add_eq, sub_eq, mul_eq, lss_eq, leq_eq, gtr_eq, geq_eq, not_eq, minI_eq, maxI_eq, extract_0, extract_1, extract_2, eqlI, neqI, makeFunc_eq, decide_true, decide_false, if_true, if_false, Bool.false_eq_true, Bool.not_true, Bool.not_false, reduceIte, List.getElem?_toArray, List.getElem?_cons_zero, List.getElem?_cons_succ, Option.isSome_none, List.length_map]
    refine ⟨fun vs h' => ∃ i : Nat, i ≤ ns.length ∧ vs = [x, .int .i64 i] ∧ h' = h, upTo ns.length 1, ⟨0, by omega, rfl, rfl⟩, ?_⟩
    rintro ρ h' ⟨i, hi, hvs, rfl⟩
    simp only [List.map_cons, List.map_nil, List.cons.injEq, and_true] at hvs
    obtain ⟨e0, e4⟩ := hvs
    rw [e0, e4]
    unfold carracklaw15_few_b4
    by_cases hlt : i < ns.length
    · have hd : ((i : Int) < (ns.length : Int)) = True := by apply eq_true; omega
      obtain ⟨n, hm⟩ : ∃ m, ns[i]? = some m := ⟨_, List.getElem?_eq_getElem hlt⟩
      obtain ⟨b, o, h1, h2, h3⟩ := hx.fields T_sl_api_Note.und T_api_Note.info T_api_Note.size (k := .i64) (j := i) (r := n.cells) (by rw [List.getElem?_map, hm]; rfl)
      have c4 : cellH h' ⟨b, o + 1 + 3, none⟩ = some (.string n.p.d) := h2 4 _ rfl
      have e5 : IntKind.i64.wrap ((i : Int) + 1) = ((i + 1 : Nat) : Int) := by rw [i64_wrap (by omega) (by omega)]; omega
      by_cases hs : (300 : Int) < (n.p.d.size : Int)
      · simp only [lx, hd, h1, T_api_Note.f1, T_api_Packet.f3, T_string.load, c4, len_string T_string.und, hs, popO_some, bindH_eq, condV_bool, condV_true, condV_false, yV_bool, gopV_tt, gopV_ff, gopV_tf, gopV_ft, pickV_t, pickV_f, pickV_bool, nilS_ptr, add_eq, sub_eq, mul_eq, lss_eq, leq_eq, gtr_eq, geq_eq, not_eq, minI_eq, maxI_eq, extract_0, extract_1, extract_2, eqlI, neqI, makeFunc_eq, decide_true, decide_false, if_true, if_false, Bool.false_eq_true, Bool.not_true, Bool.not_false, reduceIte, List.getElem?_toArray, List.getElem?_cons_zero, List.getElem?_cons_succ, Option.isSome_none, List.length_map]
        exact hk false (by simp)
      · simp only [lx, hd, h1, T_api_Note.f1, T_api_Packet.f3, T_string.load, c4, len_string T_string.und, hs, e5, popO_some, bindH_eq, condV_bool, condV_true, condV_false, yV_bool, gopV_tt, gopV_ff, gopV_tf, gopV_ft, pickV_t, pickV_f, pickV_bool, nilS_ptr, add_eq, sub_eq, mul_eq, lss_eq, leq_eq, gtr_eq, geq_eq, not_eq, minI_eq, maxI_eq, extract_0, extract_1, extract_2, eqlI, neqI, makeFunc_eq, decide_true, decide_false, if_true, if_false, Bool.false_eq_true, Bool.not_true, Bool.not_false, reduceIte, List.getElem?_toArray, List.getElem?_cons_zero, List.getElem?_cons_succ, Option.isSome_none, List.length_map]
        exact ⟨⟨i + 1, by omega, rfl, by trivial⟩, by simp [upTo, e4]; omega⟩
    · have hd : ((i : Int) < (ns.length : Int)) = False := by apply eq_false; omega
      simp only [lx, hd, popO_some, bindH_eq, condV_bool, condV_true, condV_false, yV_bool, gopV_tt, gopV_ff, gopV_tf, gopV_ft, pickV_t, pickV_f, pickV_bool, nilS_ptr, add_eq, sub_eq, mul_eq, lss_eq, leq_eq, gtr_eq, geq_eq, not_eq, minI_eq, maxI_eq, extract_0, extract_1, extract_2, eqlI, neqI, makeFunc_eq, decide_true, decide_false, if_true, if_false, Bool.false_eq_true, Bool.not_true, Bool.not_false, reduceIte, List.getElem?_toArray, List.getElem?_cons_zero, List.getElem?_cons_succ, Option.isSome_none, List.length_map]
      exact hk true (fun _ => by omega)
theorem Nt.isCell (l : List Nt) : ∀ r ∈ l.map Nt.cells, ∀ u ∈ r, isCell u = true := fun r hr u hu => by
  obtain ⟨m, _, rfl⟩ := List.mem_map.1 hr
  simp only [Nt.cells, List.mem_cons, List.not_mem_nil, or_false] at hu
  rcases hu with rfl | rfl | rfl | rfl | rfl <;> rfl
theorem nt_lit (x : Nt) : SemA PG (Instr.buildSlice T_sl_api_Note 1 #[(0, .agg x.cells.toArray)]) = some (.cells x.cells.toArray T_api_Note (0, 0), fun r => pure (.slice (some ⟨r, 0, none⟩) 1 1)) := by
  kernel_rfl
theorem notes_ok {h : PH} {x : Value} {al : List Ac} (hx : SlR h 6 x (al.map Ac.cells)) (hl : al.length ≤ 1000) {k : Value → PH → Prop}
    (hk : ∀ v h' F, OwnR h' T_api_Note 5 v ((al.map Ac.n).map Nt.cells) F → Fresh h F → Ext h h' → k v h') : CallsH PG id_carracklaw15_notes #[x] h k := by
  have lx := hx.len (t' := T_int) T_sl_carrackref15_Act.und
  rw [List.length_map] at lx
  apply carracklaw15_notes.call
  unfold carracklaw15_notes
  refine ⟨fun vs h' => ∃ (i : Nat) (v : Value) (F : List Nat), i ≤ al.length ∧ vs = [x, v, .int .i64 i] ∧ OwnR h' T_api_Note 5 v (((al.take i).map Ac.n).map Nt.cells) F ∧ Fresh h F ∧ Ext h h', upTo al.length 2, ⟨0, _, [], by omega, rfl, OwnR.nil, (fun b hb => by cases hb), Upd.refl⟩, ?_⟩
  rintro ρ h' ⟨i, v, F, hi, hvs, hO, f, w⟩
  simp only [List.map_cons, List.map_nil, List.cons.injEq, and_true] at hvs
  obtain ⟨e0, e1, e4⟩ := hvs
  rw [e0, e1, e4]
  unfold carracklaw15_notes_b2
  by_cases hlt : i < al.length
  · have hd : ((i : Int) < (al.length : Int)) = True := by apply eq_true; omega
    obtain ⟨n, hm⟩ : ∃ m, al[i]? = some m := ⟨_, List.getElem?_eq_getElem hlt⟩
    obtain ⟨b, o, cs, e', fr, h1, hb, hle, hex⟩ := (hx.ext w).at T_sl_carrackref15_Act.und T_carrackref15_Act.info T_carrackref15_Act.size (k := .i64) (j := (i : Int)) (r := n.cells) (by omega) (by rw [List.getElem?_map, Int.toNat_natCast, hm]; rfl)
    have c4 : SemE PG h' (Instr.loadAt T_api_Note (.pointer (some ⟨b, o + 1, none⟩))) = some (.agg n.n.cells.toArray) := by
      rw [T_api_Note.loadAgg hb (by omega)]
      congr 2
      have : n.n.cells = (n.cells).drop 1 := rfl
      rw [this, ← hex]
      apply Array.ext'
      simp [List.extract_eq_take_drop, List.drop_take, List.drop_drop]
    have e5 : IntKind.i64.wrap ((i : Int) + 1) = ((i + 1 : Nat) : Int) := by rw [i64_wrap (by omega) (by omega)]; omega
    simp only [lx, hd, h1, T_carrackref15_Act.f1, c4, nt_lit, popO_some, bindH_eq, condV_bool, condV_true, condV_false, yV_bool, gopV_tt, gopV_ff, gopV_tf, gopV_ft, pickV_t, pickV_f, pickV_bool, nilS_ptr, add_eq, sub_eq, mul_eq, lss_eq, leq_eq, gtr_eq, geq_eq, not_eq, minI_eq, maxI_eq, extract_0, extract_1, extract_2, eqlI, neqI, makeFunc_eq, decide_true, decide_false, if_true, if_false, Bool.false_eq_true, Bool.not_true, Bool.not_false, reduceIte, List.getElem?_toArray, List.getElem?_cons_zero, List.getElem?_cons_succ, Option.isSome_none, List.length_map]
    intro r hr
    refine popO_pure ?_
    try rw [bindH_eq]
    have u1 : Ext h' (h'.set r (.cells n.n.cells.toArray T_api_Note)) := Upd.new hr
    have s1 : SlR (h'.set r (.cells n.n.cells.toArray T_api_Note)) 5 (.slice (some ⟨r, 0, none⟩) 1 1) ([n.n].map Nt.cells) := (OwnR.lit (Nt.rows [n.n]) set_same (by simp) (by decide) (by simp)).slR
    generalize h'.set r (.cells n.n.cells.toArray T_api_Note) = h1 at *
    refine append_own T_sl_api_Note.und T_sl_api_Note.und T_api_Note.info T_api_Note.size T_api_Note.bytes T_api_Note.zero rfl (by decide) (hO.ext u1) s1 (Nt.isCell _) (by simp; omega) ?_
    intro v2 h2 F2 hO2 u2 k2 _
    have e6 : ((al.take i).map Ac.n).map Nt.cells ++ [n.n].map Nt.cells = ((al.take (i + 1)).map Ac.n).map Nt.cells := by
      rw [List.take_add_one, hm]; simp
    rw [e6] at hO2
    simp only [e5, popO_some, bindH_eq, condV_bool, condV_true, condV_false, yV_bool, gopV_tt, gopV_ff, gopV_tf, gopV_ft, pickV_t, pickV_f, pickV_bool, nilS_ptr, add_eq, sub_eq, mul_eq, lss_eq, leq_eq, gtr_eq, geq_eq, not_eq, minI_eq, maxI_eq, extract_0, extract_1, extract_2, eqlI, neqI, makeFunc_eq, decide_true, decide_false, if_true, if_false, Bool.false_eq_true, Bool.not_true, Bool.not_false, reduceIte, List.getElem?_toArray, List.getElem?_cons_zero, List.getElem?_cons_succ, Option.isSome_none, List.length_map]
    exact ⟨⟨i + 1, v2, F2, by omega, rfl, hO2, f.grow (w.trans u1) k2, (w.trans u1).fresh u2 f⟩, by simp [upTo, e4]; omega⟩
  · have hd : ((i : Int) < (al.length : Int)) = False := by apply eq_false; omega
    rw [List.take_of_length_le (by omega)] at hO
    simp only [lx, hd, popO_some, bindH_eq, condV_bool, condV_true, condV_false, yV_bool, gopV_tt, gopV_ff, gopV_tf, gopV_ft, pickV_t, pickV_f, pickV_bool, nilS_ptr, add_eq, sub_eq, mul_eq, lss_eq, leq_eq, gtr_eq, geq_eq, not_eq, minI_eq, maxI_eq, extract_0, extract_1, extract_2, eqlI, neqI, makeFunc_eq, decide_true, decide_false, if_true, if_false, Bool.false_eq_true, Bool.not_true, Bool.not_false, reduceIte, List.getElem?_toArray, List.getElem?_cons_zero, List.getElem?_cons_succ, Option.isSome_none, List.length_map]
    exact hk _ _ _ hO f w
end Go.Proofs.Ytdgcpeinkjnncaa
