/- table: Apply, Copy, Fit, Items. -/
import Derived.Test.YtdgcpeinkjnncaaTabT
import Derived.Test.YtdgcpeinkjnncaaHMake
import Derived.Test.YtdgcpeinkjnncaaHArr
set_option maxRecDepth 20000
set_option linter.unusedSimpArgs false
set_option linter.unusedVariables false
namespace Go.Proofs.Ytdgcpeinkjnncaa
open Go

theorem fn_build : SemP PG (Instr.build T_5_functable_Table_table_id_api_Packet_api_Errno #[(1, (Value.func (Fn.func id_table_Table_sent) #[] #[])), (2, (Value.func (Fn.func id_table_Table_received) #[] #[])), (3, (Value.func (Fn.func id_table_Table_over) #[] #[])), (4, (Value.func (Fn.func id_table_Table_over) #[] #[]))]) =
    some (.agg #[.nilFunc, .func (.func id_table_Table_sent) #[] #[], .func (.func id_table_Table_received) #[] #[], .func (.func id_table_Table_over) #[] #[], .func (.func id_table_Table_over) #[] #[]]) := by kernel_rfl
theorem callC_func {f : FuncId} {args : Array Value} {h : PH} {k : Value → PH → Prop} (hc : CallsH PG f args h k) : callC PG (.func (.func f) #[] #[]) args h k := by
  unfold callC
  simpa using hc
theorem pk_key_build (p : Pk) : SemP PG (Instr.build T_table_id #[(0, .int .i64 p.f), (1, .int .u64 p.s)]) = some (kenc p.key) := id_build p.key

theorem Apply_ok {h : PH} {a : Nat} {L : List It} {room : Int} {F : List Nat} (H : TAt h a L room F) (n : Nt) {k : Value → PH → Prop}
    (hk : ∀ h', TAt h' a (appL L room n) room F → Upd F h h' → k (.int .i64 (appE L room n)) h') : CallsH PG id_table_Table_Apply #[.pointer (some ⟨a, 0, none⟩), .agg n.cells.toArray] h k := by
  apply table_Table_Apply.call
  unfold table_Table_Apply
  intro r1 hr1
  rw [bindH_eq]
  have u1 : Ext h (h.set r1 (.cells (Value.cells (.agg n.cells.toArray)) T_api_Note)) := Upd.new hr1
  have b1 : Bx (h.set r1 (.cells (Value.cells (.agg n.cells.toArray)) T_api_Note)) r1 n.cells := Bx.new
  generalize h.set r1 (.cells (Value.cells (.agg n.cells.toArray)) T_api_Note) = h1 at *
  simp only [b1.nt, popO_some, bindH_eq, condV_bool, condV_true, condV_false, yV_bool, gopV_tt, gopV_ff, gopV_tf, gopV_ft, pickV_t, pickV_f, pickV_bool, nilS_ptr, add_eq, sub_eq, mul_eq, lss_eq, leq_eq, gtr_eq, geq_eq, not_eq, minI_eq, maxI_eq, extract_0, extract_1, extract_2, eqlI, neqI, makeFunc_eq, decide_true, decide_false, if_true, if_false, Bool.false_eq_true, Bool.not_true, Bool.not_false, reduceIte, List.getElem?_toArray, List.getElem?_cons_zero, List.getElem?_cons_succ, Option.isSome_none, List.length_map]
  refine NCheck_ok n fun h2 u2 => ?_
  have uu := u1.trans u2
  have b2 := b1.ext u2
  cases hr : n.right with
  | false =>
    have e1 : appE L room n = 1 := by unfold appE; rw [if_pos hr]
    have e2 : appL L room n = L := by unfold appL; rw [if_pos hr]
    rw [e1, e2] at hk
    simp only [Bool.false_eq_true, if_false, popO_some, bindH_eq, condV_bool, condV_true, condV_false, yV_bool, gopV_tt, gopV_ff, gopV_tf, gopV_ft, pickV_t, pickV_f, pickV_bool, nilS_ptr, add_eq, sub_eq, mul_eq, lss_eq, leq_eq, gtr_eq, geq_eq, not_eq, minI_eq, maxI_eq, extract_0, extract_1, extract_2, eqlI, neqI, makeFunc_eq, decide_true, decide_false, if_true, if_false, Bool.false_eq_true, Bool.not_true, Bool.not_false, reduceIte, List.getElem?_toArray, List.getElem?_cons_zero, List.getElem?_cons_succ, Option.isSome_none, List.length_map]
    exact hk h2 (H.ext uu) (Ext.upd uu)
  | true =>
    simp only [if_true, fn_build, popO_some, bindH_eq, condV_bool, condV_true, condV_false, yV_bool, gopV_tt, gopV_ff, gopV_tf, gopV_ft, pickV_t, pickV_f, pickV_bool, nilS_ptr, add_eq, sub_eq, mul_eq, lss_eq, leq_eq, gtr_eq, geq_eq, not_eq, minI_eq, maxI_eq, extract_0, extract_1, extract_2, eqlI, neqI, makeFunc_eq, decide_true, decide_false, if_true, if_false, Bool.false_eq_true, Bool.not_true, Bool.not_false, reduceIte, List.getElem?_toArray, List.getElem?_cons_zero, List.getElem?_cons_succ, Option.isSome_none, List.length_map]
    intro r8 hr8
    try rw [bindH_eq]
    refine store_box set_same T_5_functable_Table_table_id_api_Packet_api_Errno.info (by show 5 = 5; rfl) (by show 0 < 5; decide) (by rw [T_5_functable_Table_table_id_api_Packet_api_Errno.zc]; rfl) (by simp [isCell]) ?_
    rw [set_set_same]
    have u3 : Ext h2 (h2.set r8 (.cells #[.nilFunc, .func (.func id_table_Table_sent) #[] #[], .func (.func id_table_Table_received) #[] #[], .func (.func id_table_Table_over) #[] #[], .func (.func id_table_Table_over) #[] #[]] T_5_functable_Table_table_id_api_Packet_api_Errno (0, 0))) := Upd.new hr8
    have b8 : Bx (h2.set r8 (.cells #[.nilFunc, .func (.func id_table_Table_sent) #[] #[], .func (.func id_table_Table_received) #[] #[], .func (.func id_table_Table_over) #[] #[], .func (.func id_table_Table_over) #[] #[]] T_5_functable_Table_table_id_api_Packet_api_Errno (0, 0))) r8
      [.nilFunc, .func (.func id_table_Table_sent) #[] #[], .func (.func id_table_Table_received) #[] #[], .func (.func id_table_Table_over) #[] #[], .func (.func id_table_Table_over) #[] #[]] := ⟨_, set_same⟩
    generalize h2.set r8 (.cells #[.nilFunc, .func (.func id_table_Table_sent) #[] #[], .func (.func id_table_Table_received) #[] #[], .func (.func id_table_Table_over) #[] #[], .func (.func id_table_Table_over) #[] #[]] T_5_functable_Table_table_id_api_Packet_api_Errno (0, 0)) = h3 at *
    have b3 := b2.ext u3
    have uu3 := uu.trans u3
    have H3 := H.ext uu3
    have c0 : cellH h3 ⟨r1, 0, none⟩ = some (.int .i64 n.k) := b3.cell 0
    have c1 : cellH h3 ⟨r1, 0 + 1, none⟩ = some (.int .i64 n.p.f) := b3.cell 1
    have c2 : cellH h3 ⟨r1, 0 + 1 + 1, none⟩ = some (.int .u64 n.p.s) := b3.cell 2
    have p1 := b3.pk (o := 0 + 1) (p := n.p) rfl
    have hkr : 1 ≤ n.k ∧ n.k ≤ 4 := by
      unfold Nt.right at hr
      simp only [Bool.and_eq_true, decide_eq_true_eq] at hr
      exact hr.1
    have ix : SemP PG (Instr.indexAt T_5_functable_Table_table_id_api_Packet_api_Errno (.pointer (some ⟨r8, 0, none⟩)) (.int .i64 n.k)) = some (.pointer (some ⟨r8, 0 + n.k.toNat * 1, none⟩)) :=
      indexAt_array T_5_functable_Table_table_id_api_Packet_api_Errno.und T_functable_Table_table_id_api_Packet_api_Errno.info T_functable_Table_table_id_api_Packet_api_Errno.size (by omega) (by omega)
    have hf : ∀ (id : FuncId), [.nilFunc, .func (.func id_table_Table_sent) #[] #[], .func (.func id_table_Table_received) #[] #[], .func (.func id_table_Table_over) #[] #[], .func (.func id_table_Table_over) #[] #[]][0 + n.k.toNat * 1]? = some (Value.func (.func id) #[] #[]) →
        CallsH PG id #[.pointer (some ⟨a, 0, none⟩), kenc n.p.key, .agg n.p.cells.toArray] h3 k →
        popO (SemP PG (Instr.fieldAt T_api_Note (Value.pointer (some ⟨r1, 0, none⟩)) 0)) fun v12 =>
 popO (SemE PG h3 (Instr.loadAt T_int v12)) fun v13 =>
 popO (SemP PG (Instr.indexAt T_5_functable_Table_table_id_api_Packet_api_Errno (Value.pointer (some ⟨r8, 0, none⟩)) v13)) fun v14 =>
 popO (SemE PG h3 (Instr.loadAt T_functable_Table_table_id_api_Packet_api_Errno v14)) fun v15 =>
 popO (SemP PG (Instr.fieldAt T_api_Note (Value.pointer (some ⟨r1, 0, none⟩)) 1)) fun v16 =>
 popO (SemP PG (Instr.fieldAt T_api_Packet v16 0)) fun v17 =>
 popO (SemE PG h3 (Instr.loadAt T_int v17)) fun v18 =>
 popO (SemP PG (Instr.fieldAt T_api_Note (Value.pointer (some ⟨r1, 0, none⟩)) 1)) fun v19 =>
 popO (SemP PG (Instr.fieldAt T_api_Packet v19 1)) fun v20 =>
 popO (SemE PG h3 (Instr.loadAt T_uint64 v20)) fun v21 =>
 popO (SemP PG (Instr.build T_table_id #[(0, v18), (1, v21)])) fun v22 =>
 popO (SemP PG (Instr.fieldAt T_api_Note (Value.pointer (some ⟨r1, 0, none⟩)) 1)) fun v23 =>
 popO (SemE PG h3 (Instr.loadAt T_api_Packet v23)) fun v24 =>
 callC PG v15 #[.pointer (some ⟨a, 0, none⟩), v22, v24] h3 fun v25 h26 => (k v25 h26) := fun id hid hc => by
      have c3 : cellH h3 ⟨r8, 0 + n.k.toNat * 1, none⟩ = some (.func (.func id) #[] #[]) := (b8.cell _).trans hid
      simp only [T_api_Note.f0, T_api_Note.f1, T_api_Packet.f0, T_api_Packet.f1, T_int.load, T_uint64.load, T_functable_Table_table_id_api_Packet_api_Errno.load, c0, c1, c2, c3, ix, pk_key_build, p1, popO_some, bindH_eq, condV_bool, condV_true, condV_false, yV_bool, gopV_tt, gopV_ff, gopV_tf, gopV_ft, pickV_t, pickV_f, pickV_bool, nilS_ptr, add_eq, sub_eq, mul_eq, lss_eq, leq_eq, gtr_eq, geq_eq, not_eq, minI_eq, maxI_eq, extract_0, extract_1, extract_2, eqlI, neqI, makeFunc_eq, decide_true, decide_false, if_true, if_false, Bool.false_eq_true, Bool.not_true, Bool.not_false, reduceIte, List.getElem?_toArray, List.getElem?_cons_zero, List.getElem?_cons_succ, Option.isSome_none, List.length_map]
      exact callC_func hc
    have hx : n.k = 1 ∨ n.k = 2 ∨ n.k = 3 ∨ n.k = 4 := by omega
    have hrt : ¬ n.right = false := by rw [hr]; simp
    rcases hx with hA | hA | hA | hA
    · refine hf id_table_Table_sent (by rw [hA]; rfl) (sent_ok H3 n.p fun h4 H4 u4 => ?_)
      have e1 : appE L room n = (if (getL L n.p.key).isSome then 0 else putE L room ⟨n.p, 1⟩) := by unfold appE; rw [if_neg hrt, if_pos hA]
      have e2 : appL L room n = (if (getL L n.p.key).isSome then L else putL L room ⟨n.p, 1⟩) := by unfold appL; rw [if_neg hrt, if_pos hA]
      rw [← e1]
      exact hk h4 (by rw [e2]; exact H4) (Upd.then (Ext.upd uu3) u4 fun b hb => .inl hb)
    · have n1 : ¬ n.k = 1 := by omega
      refine hf id_table_Table_received (by rw [hA]; rfl) (received_ok H3 n.p fun h4 H4 u4 => ?_)
      have e1 : appE L room n = (if (getL L n.p.key).isSome then 0 else putE L room ⟨n.p, 2⟩) := by unfold appE; rw [if_neg hrt, if_neg n1, if_pos hA]
      have e2 : appL L room n = (match getL L n.p.key with
        | some x => insL L ⟨x.p, 2⟩
        | none => putL L room ⟨n.p, 2⟩) := by unfold appL; rw [if_neg hrt, if_neg n1, if_pos hA]; rfl
      rw [← e1]
      exact hk h4 (by rw [e2]; exact H4) (Upd.then (Ext.upd uu3) u4 fun b hb => .inl hb)
    all_goals
      have n1 : ¬ n.k = 1 := by omega
      have n2 : ¬ n.k = 2 := by omega
      refine hf id_table_Table_over (by rw [hA]; rfl) (over_ok H3 n.p fun h4 H4 u4 => ?_)
      have e1 : appE L room n = 0 := by unfold appE; rw [if_neg hrt, if_neg n1, if_neg n2]
      have e2 : appL L room n = delL L n.p.key := by unfold appL; rw [if_neg hrt, if_neg n1, if_neg n2]
      rw [← e1]
      exact hk h4 (by rw [e2]; exact H4) (Upd.then (Ext.upd uu3) u4 fun b hb => .inl hb)

theorem do_ok {h : PH} {a : Nat} {L : List It} {room : Int} {F : List Nat} (H : TAt h a L room F) (c : Ac) {k : Value → PH → Prop}
    (hk : ∀ h', TAt h' a (actL L room c) room F → Upd F h h' → k (.int .i64 (actE L room c)) h') : CallsH PG id_carracklaw15_do #[.pointer (some ⟨a, 0, none⟩), .agg c.cells.toArray] h k := by
  apply carracklaw15_do.call
  unfold carracklaw15_do
  intro r1 hr1
  rw [bindH_eq]
  have u1 : Ext h (h.set r1 (.cells (Value.cells (.agg c.cells.toArray)) T_carrackref15_Act)) := Upd.new hr1
  have b1 : Bx (h.set r1 (.cells (Value.cells (.agg c.cells.toArray)) T_carrackref15_Act)) r1 c.cells := Bx.new
  have b1' : (h.set r1 (.cells (Value.cells (.agg c.cells.toArray)) T_carrackref15_Act)) r1 = some (.cells c.cells.toArray T_carrackref15_Act (0, 0)) := set_same
  generalize h.set r1 (.cells (Value.cells (.agg c.cells.toArray)) T_carrackref15_Act) = h1 at *
  have c0 : cellH h1 ⟨r1, 0, none⟩ = some (.bool c.dr) := b1.cell 0
  have c2 : cellH h1 ⟨r1, 0 + 1 + 1, none⟩ = some (.int .i64 c.n.p.f) := b1.cell 2
  have c3 : cellH h1 ⟨r1, 0 + 1 + 1 + 1, none⟩ = some (.int .u64 c.n.p.s) := b1.cell 3
  have pn : SemE PG h1 (Instr.loadAt T_api_Note (.pointer (some ⟨r1, 0 + 1, none⟩))) = some (.agg c.n.cells.toArray) := by
    rw [T_api_Note.loadAgg b1' (by show 0 + 1 + 5 ≤ 6; decide)]; rfl
  simp only [T_carrackref15_Act.f0, T_carrackref15_Act.f1, T_bool.load, c0, popO_some, bindH_eq, condV_bool, condV_true, condV_false, yV_bool, gopV_tt, gopV_ff, gopV_tf, gopV_ft, pickV_t, pickV_f, pickV_bool, nilS_ptr, add_eq, sub_eq, mul_eq, lss_eq, leq_eq, gtr_eq, geq_eq, not_eq, minI_eq, maxI_eq, extract_0, extract_1, extract_2, eqlI, neqI, makeFunc_eq, decide_true, decide_false, if_true, if_false, Bool.false_eq_true, Bool.not_true, Bool.not_false, reduceIte, List.getElem?_toArray, List.getElem?_cons_zero, List.getElem?_cons_succ, Option.isSome_none, List.length_map]
  cases hd : c.dr with
  | true =>
    simp only [T_carrackref15_Act.f0, T_carrackref15_Act.f1, T_api_Note.f1, T_api_Packet.f0, T_api_Packet.f1, T_int.load, T_uint64.load, c2, c3, popO_some, bindH_eq, condV_bool, condV_true, condV_false, yV_bool, gopV_tt, gopV_ff, gopV_tf, gopV_ft, pickV_t, pickV_f, pickV_bool, nilS_ptr, add_eq, sub_eq, mul_eq, lss_eq, leq_eq, gtr_eq, geq_eq, not_eq, minI_eq, maxI_eq, extract_0, extract_1, extract_2, eqlI, neqI, makeFunc_eq, decide_true, decide_false, if_true, if_false, Bool.false_eq_true, Bool.not_true, Bool.not_false, reduceIte, List.getElem?_toArray, List.getElem?_cons_zero, List.getElem?_cons_succ, Option.isSome_none, List.length_map]
    refine Drop_ok (H.ext u1) c.n.p.key fun h2 H2 u2 => ?_
    have e1 : actE L room c = dropE L c.n.p.key := by unfold actE; rw [hd]; rfl
    have e2 : actL L room c = delL L c.n.p.key := by unfold actL; rw [hd]; rfl
    rw [← e1]
    exact hk h2 (by rw [e2]; exact H2) (Upd.then (Ext.upd u1) u2 fun b hb => .inl hb)
  | false =>
    simp only [T_carrackref15_Act.f1, pn, popO_some, bindH_eq, condV_bool, condV_true, condV_false, yV_bool, gopV_tt, gopV_ff, gopV_tf, gopV_ft, pickV_t, pickV_f, pickV_bool, nilS_ptr, add_eq, sub_eq, mul_eq, lss_eq, leq_eq, gtr_eq, geq_eq, not_eq, minI_eq, maxI_eq, extract_0, extract_1, extract_2, eqlI, neqI, makeFunc_eq, decide_true, decide_false, if_true, if_false, Bool.false_eq_true, Bool.not_true, Bool.not_false, reduceIte, List.getElem?_toArray, List.getElem?_cons_zero, List.getElem?_cons_succ, Option.isSome_none, List.length_map]
    refine Apply_ok (H.ext u1) c.n fun h2 H2 u2 => ?_
    have e1 : actE L room c = appE L room c.n := by unfold actE; rw [hd]; rfl
    have e2 : actL L room c = appL L room c.n := by unfold actL; rw [hd]; rfl
    rw [← e1]
    exact hk h2 (by rw [e2]; exact H2) (Upd.then (Ext.upd u1) u2 fun b hb => .inl hb)

/-! ### a copy -/
theorem clone_call {h : PH} {m : Nat} {l : List It} (hm : MAt h m l) {k : Value → PH → Prop}
    (hk : ∀ m' h', h m' = none → MAt h' m' l → Ext h h' → k (.iface T_map_table_id_api_Item (.map (some m'))) h') : CallsH PG id_maps_clone #[.iface T_map_table_id_api_Item (.map (some m))] h k := by
  refine .inr ?_
  unfold callFunc
  have e0 : PG.funcs[id_maps_clone]? = some Try.f55 := Try.func55
  have key : ∀ (f : Program → Sem Next) (Q : Next → PH → Prop), SemH PG (program >>= f) h Q = SemH PG (f PG) h Q := fun _ _ => rfl
  rw [key, e0]
  dsimp only
  have e1 : (Try.f55.name == "runtime.NumGoroutine") = false := by decide
  have e2 : Try.f55.body.isNone = true := rfl
  have e3 : Extern.findNext Try.f55 = none := by kernel_rfl
  have e4 : Extern.find Try.f55 = some Extern.MapsClone.clone := by kernel_rfl
  simp only [e1, e2, e3, e4, Bool.false_eq_true, if_false, if_true]
  show SemH PG (Extern.MapsClone.clone #[.iface T_map_table_id_api_Item (.map (some m))] >>= fun v => pure (Next.value v)) h _
  refine SemH.bind (P := PG) (s := Extern.MapsClone.clone #[.iface T_map_table_id_api_Item (.map (some m))]) ?_
  refine clone_map hm fun m' h' hm' hM u => ?_
  exact ⟨_, rfl, hk m' h' hm' hM u⟩
theorem mapNil {h : PH} {m : Nat} {x y : Operand} : SemE PG h (binS .eql T_map_table_id_api_Item x y (.map (some m)) (.map none)) = some (.bool false) := by kernel_rfl
theorem Clone_ok {h : PH} {m : Nat} {l : List It} (hm : MAt h m l) {k : Value → PH → Prop}
    (hk : ∀ m' h', h m' = none → MAt h' m' l → Ext h h' → k (.map (some m')) h') : CallsH PG id_maps_Clone_map_table_id_api_Item_table_id_api_Item #[.map (some m)] h k := by
  apply maps_Clone_map_table_id_api_Item_table_id_api_Item.call
  unfold maps_Clone_map_table_id_api_Item_table_id_api_Item
  have e1 : SemP PG (Instr.makeInterface T_map_table_id_api_Item (.map (some m))) = some (.iface T_map_table_id_api_Item (.map (some m))) := by kernel_rfl
  simp only [mapNil, e1, popO_some, bindH_eq, condV_bool, condV_true, condV_false, yV_bool, gopV_tt, gopV_ff, gopV_tf, gopV_ft, pickV_t, pickV_f, pickV_bool, nilS_ptr, add_eq, sub_eq, mul_eq, lss_eq, leq_eq, gtr_eq, geq_eq, not_eq, minI_eq, maxI_eq, extract_0, extract_1, extract_2, eqlI, neqI, makeFunc_eq, decide_true, decide_false, if_true, if_false, Bool.false_eq_true, Bool.not_true, Bool.not_false, reduceIte, List.getElem?_toArray, List.getElem?_cons_zero, List.getElem?_cons_succ, Option.isSome_none, List.length_map]
  refine clone_call hm fun m' h' hm' hM u => ?_
  have e2 : SemE PG h' (Instr.typeAssert (.iface T_map_table_id_api_Item (.map (some m'))) T_interface T_map_table_id_api_Item false) = some (.map (some m')) := by kernel_rfl
  exact SemE.semH e2 (hk m' h' hm' hM u)
theorem Copy_ok {h : PH} {a : Nat} {L : List It} {room : Int} {F : List Nat} (H : TAt h a L room F) {k : Value → PH → Prop}
    (hk : ∀ a' h' F', TAt h' a' L room F' → Fresh h F' → Ext h h' → k (.pointer (some ⟨a', 0, none⟩)) h') : CallsH PG id_table_Table_Copy #[.pointer (some ⟨a, 0, none⟩)] h k := by
  apply table_Table_Copy.call
  unfold table_Table_Copy
  obtain ⟨m, l, ha, hm, hp, rfl, ham⟩ := H.here
  have c0 : cellH h ⟨a, 0, none⟩ = some (.map (some m)) := by simp [cellH, ha]
  have c1 : cellH h ⟨a, 0 + 1, none⟩ = some (.int .i64 room) := by simp [cellH, ha]
  simp only [T_table_Table.f0, T_table_Table.f1, T_map_table_id_api_Item.load, T_int.load, c0, c1, popO_some, bindH_eq, condV_bool, condV_true, condV_false, yV_bool, gopV_tt, gopV_ff, gopV_tf, gopV_ft, pickV_t, pickV_f, pickV_bool, nilS_ptr, add_eq, sub_eq, mul_eq, lss_eq, leq_eq, gtr_eq, geq_eq, not_eq, minI_eq, maxI_eq, extract_0, extract_1, extract_2, eqlI, neqI, makeFunc_eq, decide_true, decide_false, if_true, if_false, Bool.false_eq_true, Bool.not_true, Bool.not_false, reduceIte, List.getElem?_toArray, List.getElem?_cons_zero, List.getElem?_cons_succ, Option.isSome_none, List.length_map]
  refine Clone_ok hm fun m' h1 hm' hM u1 => ?_
  have ha1 := u1.get ha
  refine ⟨by simp [cellH, ha1], ?_⟩
  have hb : SemP PG (Instr.build T_table_Table #[(0, .map (some m')), (1, .int .i64 room)]) = some (.agg #[.map (some m'), .int .i64 room]) := by kernel_rfl
  rw [hb, popO_some]
  intro a' ha'
  try rw [bindH_eq]
  have ham' : a' ≠ m' := by rintro rfl; exact MapAt.known hM ha'
  refine hk a' _ [a', m'] ⟨⟨m', l, set_same, MapAt.ext hM (Upd.new ha'), hp, rfl, ham'⟩, H.srt⟩ (fun b hb => ?_) (u1.trans (Upd.new ha'))
  simp only [List.mem_cons, List.not_mem_nil, or_false] at hb
  rcases hb with rfl | rfl
  · exact u1.none ha'
  · exact hm'
end Go.Proofs.Ytdgcpeinkjnncaa
