/- table: its functions, as rules for their calls. -/
import Derived.Test.YtdgcpeinkjnncaaTabP
set_option maxRecDepth 20000
set_option linter.unusedSimpArgs false
set_option linter.unusedVariables false
namespace Go.Proofs.Ytdgcpeinkjnncaa
open Go

structure TAt (h : PH) (a : Nat) (L : List It) (room : Int) (F : List Nat) : Prop where
  here : ∃ m l, h a = some (.cells #[.map (some m), .int .i64 room] T_table_Table (0, 0)) ∧ MAt h m l ∧ l.Perm L ∧ F = [a, m] ∧ a ≠ m
  srt : Srt L
theorem TAt.upd {h h' : PH} {a : Nat} {L : List It} {room : Int} {F G : List Nat} (H : TAt h a L room F) (u : Upd G h h') (hd : ∀ b ∈ F, b ∉ G) : TAt h' a L room F := by
  obtain ⟨m, l, ha, hm, hp, rfl, hn⟩ := H.here
  exact ⟨⟨m, l, u.get ha (hd a (by simp)), MapAt.upd hm u (hd m (by simp)), hp, rfl, hn⟩, H.srt⟩
theorem TAt.ext {h h' : PH} {a : Nat} {L : List It} {room : Int} {F : List Nat} (H : TAt h a L room F) (u : Ext h h') : TAt h' a L room F := H.upd u (by simp)
theorem TAt.known {h : PH} {a : Nat} {L : List It} {room : Int} {F : List Nat} (H : TAt h a L room F) : ∀ b ∈ F, h b ≠ none := by
  obtain ⟨m, l, ha, hm, hp, rfl, hn⟩ := H.here
  intro b hb
  simp only [List.mem_cons, List.not_mem_nil, or_false] at hb
  rcases hb with rfl | rfl
  · rw [ha]; simp
  · exact MapAt.known hm
theorem getM_pr (l : List It) (k : Ky) : getM (l.map It.pr) k = (getL l k).map It.val := by
  unfold getM getL
  rw [List.find?_map, Option.map_map]
  rfl
theorem look_eq {h : PH} {m : Nat} {l : List It} (hm : MAt h m l) (k : Ky) : SemE PG h (Instr.lookup T_map_table_id_api_Item (.map (some m)) (kenc k) true) = some (.tuple #[((getL l k).getD default).val, .bool (getL l k).isSome]) := by
  rw [look_found kkeyed T_map_table_id_api_Item.und T_api_Item.info T_api_Item.zero hm k true, getM_pr]
  cases getL l k <;> rfl
theorem del_pr (l : List It) (k : Ky) : delM (l.map It.pr) k = (delL l k).map It.pr := by
  unfold delM delL
  rw [List.filter_map]; rfl
theorem put_perm {l L : List It} (hp : l.Perm L) (hs : Srt L) (i : It) : ∃ l' : List It, putM (l.map It.pr) i.key i.val = l'.map It.pr ∧ l'.Perm (insL L i) := by
  have hnl : (l.map It.key).Nodup := (hp.map It.key).nodup_iff.2 hs.nodup
  have hk : keysM (l.map It.pr) = l.map It.key := by unfold keysM; rw [List.map_map]; rfl
  have hdel : (delL l i.key).Perm (delL L i.key) := hp.filter _
  unfold putM
  rw [hk]
  split
  · rename_i hm
    refine ⟨l.map fun j => if j.key = i.key then i else j, ?_, ?_⟩
    · rw [List.map_map, List.map_map]
      apply List.map_congr_left
      intro x _
      show (if x.key = i.key then (i.key, i.val) else (x.key, x.val)) = It.pr (if x.key = i.key then i else x)
      by_cases hc : x.key = i.key
      · rw [if_pos hc, if_pos hc]; rfl
      · rw [if_neg hc, if_neg hc]; rfl
    · obtain ⟨x, hx, e⟩ := List.mem_map.1 hm
      exact ((repl_perm hnl ⟨x, hx, e⟩).trans (hdel.cons i)).trans (ins_perm L i).symm
  · rename_i hm
    refine ⟨l ++ [i], by rw [List.map_append]; rfl, ?_⟩
    have hno : getL l i.key = none := getL_none.2 fun x hx e => hm (by rw [← e]; exact List.mem_map_of_mem hx)
    rw [del_none hno] at hdel
    exact (List.perm_append_singleton i l).trans ((hdel.cons i).trans (ins_perm L i).symm)
theorem id_build (k : Ky) : SemP PG (Instr.build T_table_id #[(0, .int .i64 k.1), (1, .int .u64 k.2)]) = some (kenc k) := by kernel_rfl
theorem it_build (p : Pk) (g : Int) : SemP PG (Instr.build T_api_Item #[(0, .agg p.cells.toArray), (1, .int .i64 g)]) = some (It.val ⟨p, g⟩) := by kernel_rfl

theorem New_ok {h : PH} (room : Int) {k : Value → PH → Prop} (hbad : (room < 1 ∨ 40 < room) → k (.tuple #[.pointer none, .int .i64 1]) h)
    (hk : 1 ≤ room → room ≤ 40 → ∀ a h' F, TAt h' a [] room F → Fresh h F → Ext h h' → k (.tuple #[.pointer (some ⟨a, 0, none⟩), .int .i64 0]) h') : CallsH PG id_table_New #[.int .i64 room] h k := by
  apply table_New.call
  unfold table_New
  by_cases d1 : room < 1
  · simp only [d1, popO_some, bindH_eq, condV_bool, condV_true, condV_false, yV_bool, gopV_tt, gopV_ff, gopV_tf, gopV_ft, pickV_t, pickV_f, pickV_bool, nilS_ptr, add_eq, sub_eq, mul_eq, lss_eq, leq_eq, gtr_eq, geq_eq, not_eq, minI_eq, maxI_eq, extract_0, extract_1, extract_2, eqlI, neqI, makeFunc_eq, decide_true, decide_false, if_true, if_false, Bool.false_eq_true, Bool.not_true, Bool.not_false, reduceIte, List.getElem?_toArray, List.getElem?_cons_zero, List.getElem?_cons_succ, Option.isSome_none, List.length_map]; exact hbad (.inl d1)
  · by_cases d2 : 40 < room
    · simp only [d1, d2, popO_some, bindH_eq, condV_bool, condV_true, condV_false, yV_bool, gopV_tt, gopV_ff, gopV_tf, gopV_ft, pickV_t, pickV_f, pickV_bool, nilS_ptr, add_eq, sub_eq, mul_eq, lss_eq, leq_eq, gtr_eq, geq_eq, not_eq, minI_eq, maxI_eq, extract_0, extract_1, extract_2, eqlI, neqI, makeFunc_eq, decide_true, decide_false, if_true, if_false, Bool.false_eq_true, Bool.not_true, Bool.not_false, reduceIte, List.getElem?_toArray, List.getElem?_cons_zero, List.getElem?_cons_succ, Option.isSome_none, List.length_map]; exact hbad (.inr d2)
    · simp only [d1, d2, makeMap_eq, popO_some, bindH_eq, condV_bool, condV_true, condV_false, yV_bool, gopV_tt, gopV_ff, gopV_tf, gopV_ft, pickV_t, pickV_f, pickV_bool, nilS_ptr, add_eq, sub_eq, mul_eq, lss_eq, leq_eq, gtr_eq, geq_eq, not_eq, minI_eq, maxI_eq, extract_0, extract_1, extract_2, eqlI, neqI, makeFunc_eq, decide_true, decide_false, if_true, if_false, Bool.false_eq_true, Bool.not_true, Bool.not_false, reduceIte, List.getElem?_toArray, List.getElem?_cons_zero, List.getElem?_cons_succ, Option.isSome_none, List.length_map]
      intro m hm
      refine popO_pure ?_
      try rw [bindH_eq]
      have hb : SemP PG (Instr.build T_table_Table #[(0, .map (some m)), (1, .int .i64 room)]) = some (.agg #[.map (some m), .int .i64 room]) := by kernel_rfl
      rw [hb, popO_some]
      intro a ha
      try rw [bindH_eq]
      have ham : a ≠ m := by rintro rfl; rw [set_same] at ha; cases ha
      have u1 : Ext h (h.set m (.map #[] 0)) := Upd.new hm
      have hma : (h.set m (.map #[] 0)) a = none := ha
      refine hk (by omega) (by omega) a _ [a, m] ⟨⟨m, [], set_same, ?_, List.Perm.refl _, rfl, ham⟩, List.Pairwise.nil⟩ (fun b hb => ?_) (u1.trans (Upd.new ha))
      · exact MapAt.ext MapAt.new (Upd.new ha)
      · simp only [List.mem_cons, List.not_mem_nil, or_false] at hb
        rcases hb with rfl | rfl
        · exact u1.none hma
        · exact hm

theorem put_ok {h : PH} {a : Nat} {L : List It} {room : Int} {F : List Nat} (H : TAt h a L room F) (i : It) {k : Value → PH → Prop}
    (hk : ∀ h', TAt h' a (putL L room i) room F → Upd F h h' → k (.int .i64 (putE L room i)) h') : CallsH PG id_table_Table_put #[.pointer (some ⟨a, 0, none⟩), kenc i.key, i.val] h k := by
  apply table_Table_put.call
  unfold table_Table_put
  intro r1 hr1
  rw [bindH_eq]
  intro r3 hr3
  rw [bindH_eq]
  have u1 : Ext h (h.set r1 (.cells (Value.cells (kenc i.key)) T_table_id)) := Upd.new hr1
  have b1 : Bx (h.set r1 (.cells (Value.cells (kenc i.key)) T_table_id)) r1 [.int .i64 i.key.1, .int .u64 i.key.2] := Bx.new
  generalize h.set r1 (.cells (Value.cells (kenc i.key)) T_table_id) = h1 at *
  have u2 : Ext h1 (h1.set r3 (.cells (Value.cells i.val) T_api_Item)) := Upd.new hr3
  have b3 : Bx (h1.set r3 (.cells (Value.cells i.val) T_api_Item)) r3 i.cells := Bx.new
  generalize h1.set r3 (.cells (Value.cells i.val) T_api_Item) = h2 at *
  have b1 := b1.ext u2
  have u := u1.trans u2
  have H2 := H.ext u
  have hs := H.srt
  obtain ⟨m, l, ha, hm, hp, rfl, ham⟩ := H2.here
  have hgl := fun k => getL_perm hp hs.nodup k
  have c0 : cellH h2 ⟨a, 0, none⟩ = some (.map (some m)) := by simp [cellH, ha]
  simp only [T_table_Table.f0, T_map_table_id_api_Item.load, c0, b1.id, look_eq hm, hgl, popO_some, bindH_eq, condV_bool, condV_true, condV_false, yV_bool, gopV_tt, gopV_ff, gopV_tf, gopV_ft, pickV_t, pickV_f, pickV_bool, nilS_ptr, add_eq, sub_eq, mul_eq, lss_eq, leq_eq, gtr_eq, geq_eq, not_eq, minI_eq, maxI_eq, extract_0, extract_1, extract_2, eqlI, neqI, makeFunc_eq, decide_true, decide_false, if_true, if_false, Bool.false_eq_true, Bool.not_true, Bool.not_false, reduceIte, List.getElem?_toArray, List.getElem?_cons_zero, List.getElem?_cons_succ, Option.isSome_none, List.length_map]
  intro r12 hr12
  try rw [bindH_eq]
  refine put_it hr12 _ fun h5 b5 u5 => ?_
  have ha5 := u5.get ha
  have hm5 := MapAt.ext hm u5
  have b1 := b1.ext u5
  have b3 := b3.ext u5
  have c0 : cellH h5 ⟨a, 0, none⟩ = some (.map (some m)) := by simp [cellH, ha5]
  have c1 : cellH h5 ⟨a, 0 + 1, none⟩ = some (.int .i64 room) := by simp [cellH, ha5]
  have lm := MapAt.len hm5 (t' := T_int) T_map_table_id_api_Item.und
  rw [List.length_map, hp.length_eq] at lm
  have uu := u.trans u5
  have fin : ¬ (getL L i.key = none ∧ room ≤ L.length) → SemH PG (mapUpdS T_map_table_id_api_Item (.map (some m)) (kenc i.key) i.val) h5 fun v61 h62 => k (.int .i64 0) h62 := fun hc => by
    refine map_put kkeyed T_map_table_id_api_Item.und hm5 i.key i.val fun h6 hm6 u6 => ?_
    obtain ⟨l', e1, e2⟩ := put_perm hp hs i
    rw [e1] at hm6
    have : putE L room i = 0 := by unfold putE; rw [if_neg hc]
    rw [← this]
    have : putL L room i = insL L i := by unfold putL; rw [if_neg hc]
    refine hk h6 ⟨⟨m, l', u6.get ha5 (by simpa using ham), hm6, by rw [this]; exact e2, rfl, ham⟩, by rw [this]; exact hs.ins i⟩ ?_
    exact Upd.then (Ext.upd uu) u6 (fun b hb => by left; simp at hb; simp [hb])
  by_cases hx : (getL L i.key).isSome = true
  · have hc : ¬ (getL L i.key = none ∧ room ≤ L.length) := fun hc => by rw [hc.1] at hx; cases hx
    have hf := fin hc
    simp only [hx, T_table_Table.f0, T_table_Table.f1, T_map_table_id_api_Item.load, c0, b1.id, b3.it, popO_some, bindH_eq, condV_bool, condV_true, condV_false, yV_bool, gopV_tt, gopV_ff, gopV_tf, gopV_ft, pickV_t, pickV_f, pickV_bool, nilS_ptr, add_eq, sub_eq, mul_eq, lss_eq, leq_eq, gtr_eq, geq_eq, not_eq, minI_eq, maxI_eq, extract_0, extract_1, extract_2, eqlI, neqI, makeFunc_eq, decide_true, decide_false, if_true, if_false, Bool.false_eq_true, Bool.not_true, Bool.not_false, reduceIte, List.getElem?_toArray, List.getElem?_cons_zero, List.getElem?_cons_succ, Option.isSome_none, List.length_map]
    exact hf
  · have hx' : (getL L i.key).isSome = false := by simpa using hx
    have hnone : getL L i.key = none := by simpa using hx'
    by_cases hr : room ≤ L.length
    · have e1 : (room ≤ (L.length : Int)) = True := by apply eq_true; exact hr
      simp only [hx', T_table_Table.f0, T_table_Table.f1, T_map_table_id_api_Item.load, T_int.load, c0, c1, lm, e1, b1.id, b3.it, popO_some, bindH_eq, condV_bool, condV_true, condV_false, yV_bool, gopV_tt, gopV_ff, gopV_tf, gopV_ft, pickV_t, pickV_f, pickV_bool, nilS_ptr, add_eq, sub_eq, mul_eq, lss_eq, leq_eq, gtr_eq, geq_eq, not_eq, minI_eq, maxI_eq, extract_0, extract_1, extract_2, eqlI, neqI, makeFunc_eq, decide_true, decide_false, if_true, if_false, Bool.false_eq_true, Bool.not_true, Bool.not_false, reduceIte, List.getElem?_toArray, List.getElem?_cons_zero, List.getElem?_cons_succ, Option.isSome_none, List.length_map]
      have h1 : putE L room i = 2 := by unfold putE; rw [if_pos ⟨hnone, hr⟩]
      have h2 : putL L room i = L := by unfold putL; rw [if_pos ⟨hnone, hr⟩]
      rw [← h1]
      refine hk h5 ?_ (Ext.upd uu)
      rw [h2]; exact H.ext uu
    · have e1 : (room ≤ (L.length : Int)) = False := by apply eq_false; exact hr
      have hf := fin (fun hc => hr hc.2)
      simp only [hx', T_table_Table.f0, T_table_Table.f1, T_map_table_id_api_Item.load, T_int.load, c0, c1, lm, e1, b1.id, b3.it, popO_some, bindH_eq, condV_bool, condV_true, condV_false, yV_bool, gopV_tt, gopV_ff, gopV_tf, gopV_ft, pickV_t, pickV_f, pickV_bool, nilS_ptr, add_eq, sub_eq, mul_eq, lss_eq, leq_eq, gtr_eq, geq_eq, not_eq, minI_eq, maxI_eq, extract_0, extract_1, extract_2, eqlI, neqI, makeFunc_eq, decide_true, decide_false, if_true, if_false, Bool.false_eq_true, Bool.not_true, Bool.not_false, reduceIte, List.getElem?_toArray, List.getElem?_cons_zero, List.getElem?_cons_succ, Option.isSome_none, List.length_map]
      exact hf

theorem sent_ok {h : PH} {a : Nat} {L : List It} {room : Int} {F : List Nat} (H : TAt h a L room F) (p : Pk) {k : Value → PH → Prop}
    (hk : ∀ h', TAt h' a (if (getL L p.key).isSome then L else putL L room ⟨p, 1⟩) room F → Upd F h h' → k (.int .i64 (if (getL L p.key).isSome then 0 else putE L room ⟨p, 1⟩)) h') :
    CallsH PG id_table_Table_sent #[.pointer (some ⟨a, 0, none⟩), kenc p.key, .agg p.cells.toArray] h k := by
  apply table_Table_sent.call
  unfold table_Table_sent
  intro r1 hr1
  rw [bindH_eq]
  intro r3 hr3
  rw [bindH_eq]
  have u1 : Ext h (h.set r1 (.cells (Value.cells (kenc p.key)) T_table_id)) := Upd.new hr1
  have b1 : Bx (h.set r1 (.cells (Value.cells (kenc p.key)) T_table_id)) r1 [.int .i64 p.key.1, .int .u64 p.key.2] := Bx.new
  generalize h.set r1 (.cells (Value.cells (kenc p.key)) T_table_id) = h1 at *
  have u2 : Ext h1 (h1.set r3 (.cells (Value.cells (.agg p.cells.toArray)) T_api_Packet)) := Upd.new hr3
  have b3 : Bx (h1.set r3 (.cells (Value.cells (.agg p.cells.toArray)) T_api_Packet)) r3 p.cells := Bx.new
  generalize h1.set r3 (.cells (Value.cells (.agg p.cells.toArray)) T_api_Packet) = h2 at *
  have b1 := b1.ext u2
  have u := u1.trans u2
  have H2 := H.ext u
  have hs := H.srt
  obtain ⟨m, l, ha, hm, hp, hF, ham⟩ := H2.here
  have hgl := fun k => getL_perm hp hs.nodup k
  have c0 : cellH h2 ⟨a, 0, none⟩ = some (.map (some m)) := by simp [cellH, ha]
  simp only [T_table_Table.f0, T_map_table_id_api_Item.load, c0, b1.id, look_eq hm, hgl, popO_some, bindH_eq, condV_bool, condV_true, condV_false, yV_bool, gopV_tt, gopV_ff, gopV_tf, gopV_ft, pickV_t, pickV_f, pickV_bool, nilS_ptr, add_eq, sub_eq, mul_eq, lss_eq, leq_eq, gtr_eq, geq_eq, not_eq, minI_eq, maxI_eq, extract_0, extract_1, extract_2, eqlI, neqI, makeFunc_eq, decide_true, decide_false, if_true, if_false, Bool.false_eq_true, Bool.not_true, Bool.not_false, reduceIte, List.getElem?_toArray, List.getElem?_cons_zero, List.getElem?_cons_succ, Option.isSome_none, List.length_map]
  intro r12 hr12
  try rw [bindH_eq]
  refine put_it hr12 _ fun h5 b5 u5 => ?_
  have b1 := b1.ext u5
  have p3 := (b3.ext u5).pk (o := 0) (p := p) rfl
  have uu := u.trans u5
  by_cases hx : (getL L p.key).isSome = true
  · simp only [hx, popO_some, bindH_eq, condV_bool, condV_true, condV_false, yV_bool, gopV_tt, gopV_ff, gopV_tf, gopV_ft, pickV_t, pickV_f, pickV_bool, nilS_ptr, add_eq, sub_eq, mul_eq, lss_eq, leq_eq, gtr_eq, geq_eq, not_eq, minI_eq, maxI_eq, extract_0, extract_1, extract_2, eqlI, neqI, makeFunc_eq, decide_true, decide_false, if_true, if_false, Bool.false_eq_true, Bool.not_true, Bool.not_false, reduceIte, List.getElem?_toArray, List.getElem?_cons_zero, List.getElem?_cons_succ, Option.isSome_none, List.length_map] at hk ⊢
    exact hk h5 (H.ext uu) (Ext.upd uu)
  · have hx' : (getL L p.key).isSome = false := by simpa using hx
    simp only [hx', b1.id, p3, it_build, popO_some, bindH_eq, condV_bool, condV_true, condV_false, yV_bool, gopV_tt, gopV_ff, gopV_tf, gopV_ft, pickV_t, pickV_f, pickV_bool, nilS_ptr, add_eq, sub_eq, mul_eq, lss_eq, leq_eq, gtr_eq, geq_eq, not_eq, minI_eq, maxI_eq, extract_0, extract_1, extract_2, eqlI, neqI, makeFunc_eq, decide_true, decide_false, if_true, if_false, Bool.false_eq_true, Bool.not_true, Bool.not_false, reduceIte, List.getElem?_toArray, List.getElem?_cons_zero, List.getElem?_cons_succ, Option.isSome_none, List.length_map] at hk ⊢
    refine put_ok (H.ext uu) ⟨p, 1⟩ fun h6 H6 u6 => hk h6 H6 (Upd.then (Ext.upd uu) u6 fun b hb => .inl hb)

theorem received_ok {h : PH} {a : Nat} {L : List It} {room : Int} {F : List Nat} (H : TAt h a L room F) (p : Pk) {k : Value → PH → Prop}
    (hk : ∀ h', TAt h' a (match getL L p.key with
      | some x => insL L ⟨x.p, 2⟩
      | none => putL L room ⟨p, 2⟩) room F → Upd F h h' → k (.int .i64 (if (getL L p.key).isSome then 0 else putE L room ⟨p, 2⟩)) h') :
    CallsH PG id_table_Table_received #[.pointer (some ⟨a, 0, none⟩), kenc p.key, .agg p.cells.toArray] h k := by
  apply table_Table_received.call
  unfold table_Table_received
  intro r1 hr1
  rw [bindH_eq]
  intro r3 hr3
  rw [bindH_eq]
  have u1 : Ext h (h.set r1 (.cells (Value.cells (kenc p.key)) T_table_id)) := Upd.new hr1
  have b1 : Bx (h.set r1 (.cells (Value.cells (kenc p.key)) T_table_id)) r1 [.int .i64 p.key.1, .int .u64 p.key.2] := Bx.new
  generalize h.set r1 (.cells (Value.cells (kenc p.key)) T_table_id) = h1 at *
  have u2 : Ext h1 (h1.set r3 (.cells (Value.cells (.agg p.cells.toArray)) T_api_Packet)) := Upd.new hr3
  have b3 : (h1.set r3 (.cells (Value.cells (.agg p.cells.toArray)) T_api_Packet)) r3 = some (.cells p.cells.toArray T_api_Packet (0, 0)) := set_same
  have n3 : h r3 = none := u1.none hr3
  have n13 : r1 ≠ r3 := by rintro rfl; exact b1.known hr3
  generalize h1.set r3 (.cells (Value.cells (.agg p.cells.toArray)) T_api_Packet) = h2 at *
  have b1 := b1.ext u2
  have u := u1.trans u2
  have H2 := H.ext u
  have hs := H.srt
  obtain ⟨m, l, ha, hm, hp, hF, ham⟩ := H2.here
  have hgl := fun k => getL_perm hp hs.nodup k
  have c0 : cellH h2 ⟨a, 0, none⟩ = some (.map (some m)) := by simp [cellH, ha]
  simp only [T_table_Table.f0, T_map_table_id_api_Item.load, c0, b1.id, look_eq hm, hgl, popO_some, bindH_eq, condV_bool, condV_true, condV_false, yV_bool, gopV_tt, gopV_ff, gopV_tf, gopV_ft, pickV_t, pickV_f, pickV_bool, nilS_ptr, add_eq, sub_eq, mul_eq, lss_eq, leq_eq, gtr_eq, geq_eq, not_eq, minI_eq, maxI_eq, extract_0, extract_1, extract_2, eqlI, neqI, makeFunc_eq, decide_true, decide_false, if_true, if_false, Bool.false_eq_true, Bool.not_true, Bool.not_false, reduceIte, List.getElem?_toArray, List.getElem?_cons_zero, List.getElem?_cons_succ, Option.isSome_none, List.length_map]
  intro r12 hr12
  try rw [bindH_eq]
  refine put_it hr12 _ fun h5 b5 u5 => ?_
  have b1 := b1.ext u5
  have b3 := u5.get b3
  have uu := u.trans u5
  cases hx : getL L p.key with
  | none =>
    have p3 := (Bx.mk ⟨_, b3⟩ : Bx h5 r3 p.cells).pk (o := 0) (p := p) rfl
    simp only [hx, Option.isSome_none, popO_some, bindH_eq, condV_bool, condV_true, condV_false, yV_bool, gopV_tt, gopV_ff, gopV_tf, gopV_ft, pickV_t, pickV_f, pickV_bool, nilS_ptr, add_eq, sub_eq, mul_eq, lss_eq, leq_eq, gtr_eq, geq_eq, not_eq, minI_eq, maxI_eq, extract_0, extract_1, extract_2, eqlI, neqI, makeFunc_eq, decide_true, decide_false, if_true, if_false, Bool.false_eq_true, Bool.not_true, Bool.not_false, reduceIte, List.getElem?_toArray, List.getElem?_cons_zero, List.getElem?_cons_succ, Option.isSome_none, List.length_map] at hk ⊢
    unfold table_Table_received_k20
    simp only [b1.id, p3, it_build, popO_some, bindH_eq, condV_bool, condV_true, condV_false, yV_bool, gopV_tt, gopV_ff, gopV_tf, gopV_ft, pickV_t, pickV_f, pickV_bool, nilS_ptr, add_eq, sub_eq, mul_eq, lss_eq, leq_eq, gtr_eq, geq_eq, not_eq, minI_eq, maxI_eq, extract_0, extract_1, extract_2, eqlI, neqI, makeFunc_eq, decide_true, decide_false, if_true, if_false, Bool.false_eq_true, Bool.not_true, Bool.not_false, reduceIte, List.getElem?_toArray, List.getElem?_cons_zero, List.getElem?_cons_succ, Option.isSome_none, List.length_map]
    refine put_ok (H.ext uu) ⟨p, 2⟩ fun h6 H6 u6 => hk h6 H6 (Upd.then (Ext.upd uu) u6 fun b hb => .inl hb)
  | some x =>
    obtain ⟨hx1, hx2⟩ := getL_mem hx
    have p5 := b5.pk (o := 0) (p := x.p) (by rw [hx]; rfl)
    simp only [hx, Option.isSome_some, T_api_Item.f0, p5, popO_some, bindH_eq, condV_bool, condV_true, condV_false, yV_bool, gopV_tt, gopV_ff, gopV_tf, gopV_ft, pickV_t, pickV_f, pickV_bool, nilS_ptr, add_eq, sub_eq, mul_eq, lss_eq, leq_eq, gtr_eq, geq_eq, not_eq, minI_eq, maxI_eq, extract_0, extract_1, extract_2, eqlI, neqI, makeFunc_eq, decide_true, decide_false, if_true, if_false, Bool.false_eq_true, Bool.not_true, Bool.not_false, reduceIte, List.getElem?_toArray, List.getElem?_cons_zero, List.getElem?_cons_succ, Option.isSome_none, List.length_map] at hk ⊢
    refine store_box b3 T_api_Packet.info (by show 4 = 4; rfl) (by show 0 < 4; decide) (by rfl) x.p.allCell ?_
    have u6 : Upd [r3] h5 (h5.set r3 (.cells x.p.cells.toArray T_api_Packet (0, 0))) := Upd.set (by simp)
    have b6 : Bx (h5.set r3 (.cells x.p.cells.toArray T_api_Packet (0, 0))) r3 x.p.cells := ⟨_, set_same⟩
    generalize h5.set r3 (.cells x.p.cells.toArray T_api_Packet (0, 0)) = h6 at *
    have uu6 := uu.fresh u6 (Fresh.one n3)
    have b1 := b1.upd u6 (by simpa using n13)
    have p6 := b6.pk (o := 0) (p := x.p) rfl
    unfold table_Table_received_k20
    simp only [b1.id, p6, it_build, popO_some, bindH_eq, condV_bool, condV_true, condV_false, yV_bool, gopV_tt, gopV_ff, gopV_tf, gopV_ft, pickV_t, pickV_f, pickV_bool, nilS_ptr, add_eq, sub_eq, mul_eq, lss_eq, leq_eq, gtr_eq, geq_eq, not_eq, minI_eq, maxI_eq, extract_0, extract_1, extract_2, eqlI, neqI, makeFunc_eq, decide_true, decide_false, if_true, if_false, Bool.false_eq_true, Bool.not_true, Bool.not_false, reduceIte, List.getElem?_toArray, List.getElem?_cons_zero, List.getElem?_cons_succ, Option.isSome_none, List.length_map]
    have hkey : kenc p.key = kenc (⟨x.p, 2⟩ : It).key := by rw [← hx2]; rfl
    rw [hkey]
    have hsome : getL L (⟨x.p, 2⟩ : It).key = some x := by show getL L x.key = some x; rw [hx2]; exact hx
    have e1 : putE L room ⟨x.p, 2⟩ = 0 := by unfold putE; rw [hsome]; simp
    have e2 : putL L room ⟨x.p, 2⟩ = insL L ⟨x.p, 2⟩ := by unfold putL; rw [hsome]; simp
    refine put_ok (H.ext uu6) ⟨x.p, 2⟩ fun h7 H7 u7 => ?_
    rw [e2] at H7
    rw [e1]
    exact hk h7 H7 (Upd.then (Ext.upd uu6) u7 fun b hb => .inl hb)

theorem over_ok {h : PH} {a : Nat} {L : List It} {room : Int} {F : List Nat} (H : TAt h a L room F) (p : Pk) {k : Value → PH → Prop}
    (hk : ∀ h', TAt h' a (delL L p.key) room F → Upd F h h' → k (.int .i64 0) h') :
    CallsH PG id_table_Table_over #[.pointer (some ⟨a, 0, none⟩), kenc p.key, .agg p.cells.toArray] h k := by
  apply table_Table_over.call
  unfold table_Table_over
  intro r1 hr1
  rw [bindH_eq]
  intro r3 hr3
  rw [bindH_eq]
  have u1 : Ext h (h.set r1 (.cells (Value.cells (kenc p.key)) T_table_id)) := Upd.new hr1
  have b1 : Bx (h.set r1 (.cells (Value.cells (kenc p.key)) T_table_id)) r1 [.int .i64 p.key.1, .int .u64 p.key.2] := Bx.new
  generalize h.set r1 (.cells (Value.cells (kenc p.key)) T_table_id) = h1 at *
  have u2 : Ext h1 (h1.set r3 (.cells (Value.cells (.agg p.cells.toArray)) T_api_Packet)) := Upd.new hr3
  generalize h1.set r3 (.cells (Value.cells (.agg p.cells.toArray)) T_api_Packet) = h2 at *
  have b1 := b1.ext u2
  have u := u1.trans u2
  have H2 := H.ext u
  have hs := H.srt
  obtain ⟨m, l, ha, hm, hp, rfl, ham⟩ := H2.here
  have c0 : cellH h2 ⟨a, 0, none⟩ = some (.map (some m)) := by simp [cellH, ha]
  simp only [T_table_Table.f0, T_map_table_id_api_Item.load, c0, b1.id, popO_some, bindH_eq, condV_bool, condV_true, condV_false, yV_bool, gopV_tt, gopV_ff, gopV_tf, gopV_ft, pickV_t, pickV_f, pickV_bool, nilS_ptr, add_eq, sub_eq, mul_eq, lss_eq, leq_eq, gtr_eq, geq_eq, not_eq, minI_eq, maxI_eq, extract_0, extract_1, extract_2, eqlI, neqI, makeFunc_eq, decide_true, decide_false, if_true, if_false, Bool.false_eq_true, Bool.not_true, Bool.not_false, reduceIte, List.getElem?_toArray, List.getElem?_cons_zero, List.getElem?_cons_succ, Option.isSome_none, List.length_map]
  refine map_del kkeyed T_map_table_id_api_Item.und hm p.key rfl fun h3 hm3 u3 => ?_
  rw [del_pr] at hm3
  refine hk h3 ⟨⟨m, delL l p.key, u3.get ha (by simpa using ham), hm3, hp.filter _, rfl, ham⟩, hs.del _⟩ ?_
  exact Upd.then (Ext.upd u) u3 (fun b hb => by left; simp at hb; simp [hb])

theorem Drop_ok {h : PH} {a : Nat} {L : List It} {room : Int} {F : List Nat} (H : TAt h a L room F) (key : Ky) {k : Value → PH → Prop}
    (hk : ∀ h', TAt h' a (delL L key) room F → Upd F h h' → k (.int .i64 (dropE L key)) h') :
    CallsH PG id_table_Table_Drop #[.pointer (some ⟨a, 0, none⟩), .int .i64 key.1, .int .u64 key.2] h k := by
  apply table_Table_Drop.call
  unfold table_Table_Drop
  rw [id_build, popO_some]
  intro r2 hr2
  rw [bindH_eq]
  refine store_box set_same T_table_id.info (by show 2 = 2; rfl) (by show 0 < 2; decide) (by rw [T_table_id.zc]; rfl) (by simp [isCell]) ?_
  rw [set_set_same]
  have u2 : Ext h (h.set r2 (.cells #[.int .i64 key.1, .int .u64 key.2] T_table_id (0, 0))) := Upd.new hr2
  have b2 : Bx (h.set r2 (.cells #[.int .i64 key.1, .int .u64 key.2] T_table_id (0, 0))) r2 [.int .i64 key.1, .int .u64 key.2] := ⟨_, set_same⟩
  generalize h.set r2 (.cells #[.int .i64 key.1, .int .u64 key.2] T_table_id (0, 0)) = h2 at *
  have H2 := H.ext u2
  have hs := H.srt
  obtain ⟨m, l, ha, hm, hp, rfl, ham⟩ := H2.here
  have hgl := fun k => getL_perm hp hs.nodup k
  have c0 : cellH h2 ⟨a, 0, none⟩ = some (.map (some m)) := by simp [cellH, ha]
  simp only [T_table_Table.f0, T_map_table_id_api_Item.load, c0, b2.id, look_eq hm, hgl, popO_some, bindH_eq, condV_bool, condV_true, condV_false, yV_bool, gopV_tt, gopV_ff, gopV_tf, gopV_ft, pickV_t, pickV_f, pickV_bool, nilS_ptr, add_eq, sub_eq, mul_eq, lss_eq, leq_eq, gtr_eq, geq_eq, not_eq, minI_eq, maxI_eq, extract_0, extract_1, extract_2, eqlI, neqI, makeFunc_eq, decide_true, decide_false, if_true, if_false, Bool.false_eq_true, Bool.not_true, Bool.not_false, reduceIte, List.getElem?_toArray, List.getElem?_cons_zero, List.getElem?_cons_succ, Option.isSome_none, List.length_map]
  intro r12 hr12
  try rw [bindH_eq]
  refine put_it hr12 _ fun h5 b5 u5 => ?_
  have ha5 := u5.get ha
  have hm5 := MapAt.ext hm u5
  have b2 := b2.ext u5
  have uu := u2.trans u5
  have c0 : cellH h5 ⟨a, 0, none⟩ = some (.map (some m)) := by simp [cellH, ha5]
  cases hx : getL L key with
  | none =>
    have e1 : dropE L key = 3 := by unfold dropE; rw [hx]; rfl
    rw [e1, del_none hx] at hk
    simp only [Option.isSome_none, popO_some, bindH_eq, condV_bool, condV_true, condV_false, yV_bool, gopV_tt, gopV_ff, gopV_tf, gopV_ft, pickV_t, pickV_f, pickV_bool, nilS_ptr, add_eq, sub_eq, mul_eq, lss_eq, leq_eq, gtr_eq, geq_eq, not_eq, minI_eq, maxI_eq, extract_0, extract_1, extract_2, eqlI, neqI, makeFunc_eq, decide_true, decide_false, if_true, if_false, Bool.false_eq_true, Bool.not_true, Bool.not_false, reduceIte, List.getElem?_toArray, List.getElem?_cons_zero, List.getElem?_cons_succ, Option.isSome_none, List.length_map]
    exact hk h5 (H.ext uu) (Ext.upd uu)
  | some x =>
    have e1 : dropE L key = 0 := by unfold dropE; rw [hx]; rfl
    rw [e1] at hk
    simp only [Option.isSome_some, T_table_Table.f0, T_map_table_id_api_Item.load, c0, b2.id, popO_some, bindH_eq, condV_bool, condV_true, condV_false, yV_bool, gopV_tt, gopV_ff, gopV_tf, gopV_ft, pickV_t, pickV_f, pickV_bool, nilS_ptr, add_eq, sub_eq, mul_eq, lss_eq, leq_eq, gtr_eq, geq_eq, not_eq, minI_eq, maxI_eq, extract_0, extract_1, extract_2, eqlI, neqI, makeFunc_eq, decide_true, decide_false, if_true, if_false, Bool.false_eq_true, Bool.not_true, Bool.not_false, reduceIte, List.getElem?_toArray, List.getElem?_cons_zero, List.getElem?_cons_succ, Option.isSome_none, List.length_map]
    refine map_del kkeyed T_map_table_id_api_Item.und hm5 key rfl fun h3 hm3 u3 => ?_
    rw [del_pr] at hm3
    refine hk h3 ⟨⟨m, delL l key, u3.get ha5 (by simpa using ham), hm3, hp.filter _, rfl, ham⟩, hs.del _⟩ ?_
    exact Upd.then (Ext.upd uu) u3 (fun b hb => by left; simp at hb; simp [hb])

theorem Get_ok {h : PH} {a : Nat} {L : List It} {room : Int} {F : List Nat} (H : TAt h a L room F) (key : Ky) {k : Value → PH → Prop}
    (hk : ∀ h', Ext h h' → k (.tuple #[((getL L key).getD default).val, .bool (getL L key).isSome]) h') :
    CallsH PG id_table_Table_Get #[.pointer (some ⟨a, 0, none⟩), .int .i64 key.1, .int .u64 key.2] h k := by
  apply table_Table_Get.call
  unfold table_Table_Get
  intro r1 hr1
  rw [bindH_eq]
  have u1 : Ext h (h.set r1 (.cells (zcells PG T_api_Item) T_api_Item)) := Upd.new hr1
  have b1 : (h.set r1 (.cells (zcells PG T_api_Item) T_api_Item)) r1 = some (.cells (zcells PG T_api_Item) T_api_Item (0, 0)) := set_same
  generalize h.set r1 (.cells (zcells PG T_api_Item) T_api_Item) = h2 at *
  have H2 := H.ext u1
  have hs := H.srt
  obtain ⟨m, l, ha, hm, hp, rfl, ham⟩ := H2.here
  have hgl := fun k => getL_perm hp hs.nodup k
  have c0 : cellH h2 ⟨a, 0, none⟩ = some (.map (some m)) := by simp [cellH, ha]
  simp only [T_table_Table.f0, T_map_table_id_api_Item.load, c0, id_build, look_eq hm, hgl, popO_some, bindH_eq, condV_bool, condV_true, condV_false, yV_bool, gopV_tt, gopV_ff, gopV_tf, gopV_ft, pickV_t, pickV_f, pickV_bool, nilS_ptr, add_eq, sub_eq, mul_eq, lss_eq, leq_eq, gtr_eq, geq_eq, not_eq, minI_eq, maxI_eq, extract_0, extract_1, extract_2, eqlI, neqI, makeFunc_eq, decide_true, decide_false, if_true, if_false, Bool.false_eq_true, Bool.not_true, Bool.not_false, reduceIte, List.getElem?_toArray, List.getElem?_cons_zero, List.getElem?_cons_succ, Option.isSome_none, List.length_map]
  intro r10 hr10
  try rw [bindH_eq]
  refine put_it hr10 _ fun h5 b5 u5 => ?_
  have b1 := u5.get b1
  simp only [b5.it, popO_some, bindH_eq, condV_bool, condV_true, condV_false, yV_bool, gopV_tt, gopV_ff, gopV_tf, gopV_ft, pickV_t, pickV_f, pickV_bool, nilS_ptr, add_eq, sub_eq, mul_eq, lss_eq, leq_eq, gtr_eq, geq_eq, not_eq, minI_eq, maxI_eq, extract_0, extract_1, extract_2, eqlI, neqI, makeFunc_eq, decide_true, decide_false, if_true, if_false, Bool.false_eq_true, Bool.not_true, Bool.not_false, reduceIte, List.getElem?_toArray, List.getElem?_cons_zero, List.getElem?_cons_succ, Option.isSome_none, List.length_map]
  refine store_box b1 T_api_Item.info (by show 5 = 5; rfl) (by show 0 < 5; decide) (by rw [T_api_Item.zc]; rfl) (It.allCell _) ?_
  have u6 : Upd [r1] h5 (h5.set r1 (.cells ((getL L key).getD default).cells.toArray T_api_Item (0, 0))) := Upd.set (by simp)
  have b6 : Bx (h5.set r1 (.cells ((getL L key).getD default).cells.toArray T_api_Item (0, 0))) r1 ((getL L key).getD default).cells := ⟨_, set_same⟩
  generalize h5.set r1 (.cells ((getL L key).getD default).cells.toArray T_api_Item (0, 0)) = h6 at *
  simp only [b6.it, popO_some, bindH_eq, condV_bool, condV_true, condV_false, yV_bool, gopV_tt, gopV_ff, gopV_tf, gopV_ft, pickV_t, pickV_f, pickV_bool, nilS_ptr, add_eq, sub_eq, mul_eq, lss_eq, leq_eq, gtr_eq, geq_eq, not_eq, minI_eq, maxI_eq, extract_0, extract_1, extract_2, eqlI, neqI, makeFunc_eq, decide_true, decide_false, if_true, if_false, Bool.false_eq_true, Bool.not_true, Bool.not_false, reduceIte, List.getElem?_toArray, List.getElem?_cons_zero, List.getElem?_cons_succ, Option.isSome_none, List.length_map]
  exact hk h6 ((u1.trans u5).fresh u6 (Fresh.one hr1))

theorem Len_ok {h : PH} {a : Nat} {L : List It} {room : Int} {F : List Nat} (H : TAt h a L room F) {k : Value → PH → Prop} (hk : k (.int .i64 L.length) h) : CallsH PG id_table_Table_Len #[.pointer (some ⟨a, 0, none⟩)] h k := by
  apply table_Table_Len.call
  unfold table_Table_Len
  obtain ⟨m, l, ha, hm, hp, rfl, ham⟩ := H.here
  have c0 : cellH h ⟨a, 0, none⟩ = some (.map (some m)) := by simp [cellH, ha]
  have lm := MapAt.len hm (t' := T_int) T_map_table_id_api_Item.und
  rw [List.length_map, hp.length_eq] at lm
  simp only [T_table_Table.f0, T_map_table_id_api_Item.load, c0, lm, popO_some, bindH_eq, condV_bool, condV_true, condV_false, yV_bool, gopV_tt, gopV_ff, gopV_tf, gopV_ft, pickV_t, pickV_f, pickV_bool, nilS_ptr, add_eq, sub_eq, mul_eq, lss_eq, leq_eq, gtr_eq, geq_eq, not_eq, minI_eq, maxI_eq, extract_0, extract_1, extract_2, eqlI, neqI, makeFunc_eq, decide_true, decide_false, if_true, if_false, Bool.false_eq_true, Bool.not_true, Bool.not_false, reduceIte, List.getElem?_toArray, List.getElem?_cons_zero, List.getElem?_cons_succ, Option.isSome_none, List.length_map]
  exact hk
theorem Room_ok {h : PH} {a : Nat} {L : List It} {room : Int} {F : List Nat} (H : TAt h a L room F) {k : Value → PH → Prop} (hk : k (.int .i64 room) h) : CallsH PG id_table_Table_Room #[.pointer (some ⟨a, 0, none⟩)] h k := by
  apply table_Table_Room.call
  unfold table_Table_Room
  obtain ⟨m, l, ha, hm, hp, rfl, ham⟩ := H.here
  have c1 : cellH h ⟨a, 0 + 1, none⟩ = some (.int .i64 room) := by simp [cellH, ha]
  simp only [T_table_Table.f1, T_int.load, c1, popO_some, bindH_eq, condV_bool, condV_true, condV_false, yV_bool, gopV_tt, gopV_ff, gopV_tf, gopV_ft, pickV_t, pickV_f, pickV_bool, nilS_ptr, add_eq, sub_eq, mul_eq, lss_eq, leq_eq, gtr_eq, geq_eq, not_eq, minI_eq, maxI_eq, extract_0, extract_1, extract_2, eqlI, neqI, makeFunc_eq, decide_true, decide_false, if_true, if_false, Bool.false_eq_true, Bool.not_true, Bool.not_false, reduceIte, List.getElem?_toArray, List.getElem?_cons_zero, List.getElem?_cons_succ, Option.isSome_none, List.length_map]
  exact hk
end Go.Proofs.Ytdgcpeinkjnncaa
