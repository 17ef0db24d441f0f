/- table: the items of a map: maps.Values, slices.Collect, slices.SortFunc. -/
import Derived.Test.YtdgcpeinkjnncaaTabC
import Derived.Test.YtdgcpeinkjnncaaHSort
set_option linter.unusedSimpArgs false
set_option linter.unusedVariables false
namespace Go.Proofs.Ytdgcpeinkjnncaa
open Go

theorem kkeyed : Keyed PG T_table_id kenc where
  chk := fun h b a => by unfold kenc; cases b <;> kernel_rfl
  eq := fun h a b => by
    show SemE PG h (Op.equalIn (9999 + 1) T_table_id (.agg #[.int .i64 a.1, .int .u64 a.2]) (.agg #[.int .i64 b.1, .int .u64 b.2])) = _
    rw [eqIn_struct T_table_id.und (by kernel_rfl) (fun f => match f.offset with | 0 => a.1 == b.1 | _ => a.2 == b.2)]
    · congr 1
      rw [Bool.eq_iff_iff]
      obtain ⟨x, y⟩ := a
      obtain ⟨x', y'⟩ := b
      simp
    · intro f hf
      simp only [List.mem_cons, List.not_mem_nil, or_false] at hf
      rcases hf with rfl | rfl
      · exact ⟨by decide, _, _, part_cell T_int.und rfl rfl, part_cell T_int.und rfl rfl, eqIn_int T_int.und⟩
      · exact ⟨by decide, _, _, part_cell T_uint64.und rfl rfl, part_cell T_uint64.und rfl rfl, eqIn_int T_uint64.und⟩
  bits := fun a => by
    show Instr.sameBits (9999 + 1) (.agg #[.int .i64 a.1, .int .u64 a.2]) (.agg #[.int .i64 a.1, .int .u64 a.2]) = true
    simp [Instr.sameBits]
  now := ⟨_, T_table_id.und, .inl fun a b => rfl⟩

def It.pr (i : It) : Ky × Value := (i.key, i.val)
def It.un : Value → It
  | .agg ⟨[.int _ f, .int _ s, .int _ t, .string d, .int _ g]⟩ => ⟨⟨f, s, t, d⟩, g⟩
  | _ => default
theorem It.un_val (i : It) : It.un i.val = i := rfl
theorem un_pr (l : List It) : (l.map It.pr).map (fun p => It.un p.2) = l := by
  rw [List.map_map]
  have : ((fun p : Ky × Value => It.un p.2) ∘ It.pr) = id := by funext i; exact It.un_val i
  rw [this, List.map_id]
abbrev MAt (h : PH) (m : Nat) (l : List It) : Prop := MapAt kenc h m (l.map It.pr)

set_option maxRecDepth 20000 in
theorem put_it {h : PH} {r : Nat} (hr : h r = none) (x : It) {k : Value → PH → Prop} (hk : ∀ h', Bx h' r x.cells → Ext h h' → k undef h') :
    SemH PG (storeS T_api_Item (.pointer (some ⟨r, 0, none⟩)) x.val) (h.set r (.cells (zcells PG T_api_Item) T_api_Item)) k := by
  refine store_box set_same T_api_Item.info (by show 5 = 5; rfl) (by show 0 < 5; decide) (by rw [T_api_Item.zc]; rfl) x.allCell ?_
  rw [set_set_same]
  exact hk _ ⟨_, set_same⟩ (Upd.new hr)

abbrev yieldV (l : Nat) : Value := .func (.yield l) #[] #[]
set_option maxRecDepth 20000 in
/-- maps.Values' iterator: whatever J the caller keeps between rounds. -/
theorem values_ok {h : PH} {bx m l : Nat} {L : List It} (hb : Bx h bx [.map (some m)]) (hm : MAt h m L) (J : Nat → List It → PH → Prop)
    (J0 : ∀ it h', h it = none → Ext h h' → h' it ≠ none → J it [] h') (Js : ∀ it pre h1 h2, J it pre h1 → Upd [it] h1 h2 → J it pre h2)
    (Jy : ∀ it pre x h1, h it = none → pre.length < L.length → J it pre h1 → h1 it ≠ none → ∀ k' : Value → PH → Prop, (∀ h2 G, J it (pre ++ [x]) h2 → Upd G h1 h2 → m ∉ G → it ∉ G → k' (.bool true) h2) → callC PG (yieldV l) #[x.val] h1 k')
    {k : Value → PH → Prop} (hk : ∀ it l' h', l'.Perm L → J it l' h' → k (.tuple #[]) h') :
    CallsH PG id_maps_Values_map_table_id_api_Item_table_id_api_Item_1 #[yieldV l, .pointer (some ⟨bx, 0, none⟩)] h k := by
  apply maps_Values_map_table_id_api_Item_table_id_api_Item_1.call
  unfold maps_Values_map_table_id_api_Item_table_id_api_Item_1
  have c0 : cellH h ⟨bx, 0, none⟩ = some (.map (some m)) := hb.cell 0
  simp only [T_map_table_id_api_Item.load, c0, popO_some, bindH_eq, condV_bool, condV_true, condV_false, yV_bool, gopV_tt, gopV_ff, gopV_tf, gopV_ft, pickV_t, pickV_f, pickV_bool, nilS_ptr, add_eq, sub_eq, mul_eq, lss_eq, leq_eq, gtr_eq, geq_eq, not_eq, minI_eq, maxI_eq, extract_0, extract_1, extract_2, eqlI, neqI, makeFunc_eq, decide_true, decide_false, if_true, if_false, Bool.false_eq_true, Bool.not_true, Bool.not_false, reduceIte, List.getElem?_toArray, List.getElem?_cons_zero, List.getElem?_cons_succ, Option.isSome_none, List.length_map]
  refine range_it T_map_table_id_api_Item.und hm fun it h1 hit HI u1 => ?_
  refine ⟨fun vs h' => ∃ pre : List It, vs = [yieldV l, .pointer (some ⟨it, 0, none⟩)] ∧ MapIt kenc h' m it (L.map It.pr) (pre.map It.pr) ∧ J it pre h', fun _ h' => itLeft L.length it h', ⟨[], rfl, HI, J0 it h1 hit u1 HI.known⟩, ?_⟩
  rintro ρ h' ⟨pre, hvs, HI, hJ⟩
  simp only [List.map_cons, List.map_nil, List.cons.injEq, and_true] at hvs
  obtain ⟨e0, e1⟩ := hvs
  rw [e0, e1]
  unfold maps_Values_map_table_id_api_Item_table_id_api_Item_1_b5
  refine next_it HI (fun hp => ?_) (fun a v h2 hav hnk HI2 u2 => ?_)
  · simp only [popO_some, bindH_eq, condV_bool, condV_true, condV_false, yV_bool, gopV_tt, gopV_ff, gopV_tf, gopV_ft, pickV_t, pickV_f, pickV_bool, nilS_ptr, add_eq, sub_eq, mul_eq, lss_eq, leq_eq, gtr_eq, geq_eq, not_eq, minI_eq, maxI_eq, extract_0, extract_1, extract_2, eqlI, neqI, makeFunc_eq, decide_true, decide_false, if_true, if_false, Bool.false_eq_true, Bool.not_true, Bool.not_false, reduceIte, List.getElem?_toArray, List.getElem?_cons_zero, List.getElem?_cons_succ, Option.isSome_none, List.length_map]
    refine hk it pre h' ?_ hJ
    have := hp.map (fun p => It.un p.2)
    rwa [un_pr, un_pr] at this
  · simp only [popO_some, bindH_eq, condV_bool, condV_true, condV_false, yV_bool, gopV_tt, gopV_ff, gopV_tf, gopV_ft, pickV_t, pickV_f, pickV_bool, nilS_ptr, add_eq, sub_eq, mul_eq, lss_eq, leq_eq, gtr_eq, geq_eq, not_eq, minI_eq, maxI_eq, extract_0, extract_1, extract_2, eqlI, neqI, makeFunc_eq, decide_true, decide_false, if_true, if_false, Bool.false_eq_true, Bool.not_true, Bool.not_false, reduceIte, List.getElem?_toArray, List.getElem?_cons_zero, List.getElem?_cons_succ, Option.isSome_none, List.length_map]
    obtain ⟨x, hx, hxe⟩ := List.mem_map.1 hav
    obtain ⟨rfl, rfl⟩ : x.key = a ∧ x.val = v := by simpa [It.pr] using hxe
    refine entry_it HI2 ?_
    simp only [popO_some, bindH_eq, condV_bool, condV_true, condV_false, yV_bool, gopV_tt, gopV_ff, gopV_tf, gopV_ft, pickV_t, pickV_f, pickV_bool, nilS_ptr, add_eq, sub_eq, mul_eq, lss_eq, leq_eq, gtr_eq, geq_eq, not_eq, minI_eq, maxI_eq, extract_0, extract_1, extract_2, eqlI, neqI, makeFunc_eq, decide_true, decide_false, if_true, if_false, Bool.false_eq_true, Bool.not_true, Bool.not_false, reduceIte, List.getElem?_toArray, List.getElem?_cons_zero, List.getElem?_cons_succ, Option.isSome_none, List.length_map]
    intro r hr
    try rw [bindH_eq]
    refine put_it hr x fun h3 b3 u3 => ?_
    simp only [b3.it, popO_some, bindH_eq, condV_bool, condV_true, condV_false, yV_bool, gopV_tt, gopV_ff, gopV_tf, gopV_ft, pickV_t, pickV_f, pickV_bool, nilS_ptr, add_eq, sub_eq, mul_eq, lss_eq, leq_eq, gtr_eq, geq_eq, not_eq, minI_eq, maxI_eq, extract_0, extract_1, extract_2, eqlI, neqI, makeFunc_eq, decide_true, decide_false, if_true, if_false, Bool.false_eq_true, Bool.not_true, Bool.not_false, reduceIte, List.getElem?_toArray, List.getElem?_cons_zero, List.getElem?_cons_succ, Option.isSome_none, List.length_map]
    have HI3 := HI2.upd u3 (by simp) (by simp)
    have hJ3 := Js it pre h' h3 hJ (Upd.trans u2 (Ext.upd u3))
    have hlt : pre.length < L.length := by
      have := HI2.le
      simp only [List.length_append, List.length_map, List.length_cons, List.length_nil] at this
      omega
    refine Jy it pre x h3 hit hlt hJ3 HI3.known _ fun h4 G hJ4 u4 g1 g2 => ?_
    have HI4 := HI3.upd u4 g1 g2
    simp only [popO_some, bindH_eq, condV_bool, condV_true, condV_false, yV_bool, gopV_tt, gopV_ff, gopV_tf, gopV_ft, pickV_t, pickV_f, pickV_bool, nilS_ptr, add_eq, sub_eq, mul_eq, lss_eq, leq_eq, gtr_eq, geq_eq, not_eq, minI_eq, maxI_eq, extract_0, extract_1, extract_2, eqlI, neqI, makeFunc_eq, decide_true, decide_false, if_true, if_false, Bool.false_eq_true, Bool.not_true, Bool.not_false, reduceIte, List.getElem?_toArray, List.getElem?_cons_zero, List.getElem?_cons_succ, Option.isSome_none, List.length_map]
    refine ⟨⟨pre ++ [x], by trivial, ?_, hJ4⟩, ?_⟩
    · rw [List.map_append]; exact HI4
    · rw [HI4.left, HI.left]
      simp only [List.length_append, List.length_map, List.length_cons, List.length_nil]
      omega

/-! ### a round -/
theorem getLoop_eq {h : PH} {l : Nat} {r : Loop} (hl : h l = some (.loop r)) : SemE PG h (Instr.getLoop l) = some r := by
  unfold Instr.getLoop getObj
  show SemE PG h (Sem.getObj l _) = _
  simp only [SemE, hl]
  rfl
theorem begin_ok {h : PH} {l : Nat} {r : Loop} {k : Unit → PH → Prop} (hl : h l = some (.loop r)) (hs : r.state = .ready) (hk : k () (h.set l (.loop { r with state := .busy }))) : SemH PG (Instr.beginRound l) h k := by
  unfold Instr.beginRound
  refine semH_of_semE (getLoop_eq hl) ?_
  show (∃ u, h l = some u ∧ (∀ c e f, u ≠ .cells c e f)) ∧ _
  refine ⟨⟨_, hl, by intros; simp⟩, ?_⟩
  rw [hs]
  exact hk
theorem end_ok {h : PH} {l : Nat} {r : Loop} {j : Option Code} {k : Value → PH → Prop} (hl : h l = some (.loop r)) (hk : k (.bool j.isNone) (h.set l (.loop { r with state := if j.isNone then .ready else .done, pending := j }))) : SemH PG (Instr.endRound l j) h k := by
  unfold Instr.endRound
  refine semH_of_semE (getLoop_eq hl) ?_
  show (∃ u, h l = some u ∧ (∀ c e f, u ≠ .cells c e f)) ∧ _
  exact ⟨⟨_, hl, by intros; simp⟩, hk⟩
theorem endLoop_ok {h : PH} {l : Nat} {r : Loop} {k : Option Code → PH → Prop} (hl : h l = some (.loop r)) (hs : r.state = .ready ∨ r.state = .done) (hk : k r.pending (h.set l (.loop { r with state := .exhausted }))) : SemH PG (Instr.endLoop l) h k := by
  unfold Instr.endLoop
  refine semH_of_semE (getLoop_eq hl) ?_
  have : (r.state == LoopState.busy) = false := by rcases hs with e | e <;> rw [e] <;> rfl
  rw [this]
  show (∃ u, h l = some u ∧ (∀ c e f, u ≠ .cells c e f)) ∧ _
  exact ⟨⟨_, hl, by intros; simp⟩, hk⟩
theorem yield_ok {h : PH} {l : Nat} {r : Loop} {args : Array Value} {k : Value → PH → Prop} (hl : h l = some (.loop r)) (hn : args.size = r.params.size)
    (hk : NextH PG (.round l r.fn ((r.params.zip args).foldl (fun tmps (t, a) => tmps.setIfInBounds t a) r.tmps) r.assign r.body) h k) : callC PG (yieldV l) args h k := by
  unfold callC
  unfold invoke
  have e0 : (#[] : Array Value) ++ args = args := by simp
  show SemH PG (Instr.yield l (#[] ++ args)) h _
  rw [e0]
  unfold Instr.yield
  refine semH_of_semE (getLoop_eq hl) ?_
  simp only [hn, ne_eq, not_true, if_false]
  exact hk

theorem It.isCell (l : List It) : ∀ r ∈ l.map It.cells, ∀ u ∈ r, isCell u = true := fun r hr u hu => by
  obtain ⟨m, _, rfl⟩ := List.mem_map.1 hr
  exact m.allCell u (by simpa using hu)
theorem it_lit (x : It) : SemA PG (Instr.buildSlice T_sl_api_Item 1 #[(0, x.val)]) = some (.cells x.cells.toArray T_api_Item (0, 0), fun r => pure (.slice (some ⟨r, 0, none⟩) 1 1)) := by
  kernel_rfl

set_option maxRecDepth 20000 in
/-- slices.AppendSeq(nil, maps.Values' iterator). -/
theorem AppendSeq_ok {h : PH} {bx m : Nat} {L : List It} (hb : Bx h bx [.map (some m)]) (hm : MAt h m L) (hL : L.length ≤ 1000000) {k : Value → PH → Prop}
    (hk : ∀ v (l' : List It) h' F, l'.Perm L → OwnR h' T_api_Item 5 v (l'.map It.cells) F → Fresh h F → Ext h h' → k v h') :
    CallsH PG id_slices_AppendSeq_sl_api_Item_api_Item #[.slice none 0 0, .func (.func id_maps_Values_map_table_id_api_Item_table_id_api_Item_1) #[] #[.pointer (some ⟨bx, 0, none⟩)]] h k := by
  apply slices_AppendSeq_sl_api_Item_api_Item.call
  unfold slices_AppendSeq_sl_api_Item_api_Item
  intro B hB
  rw [bindH_eq]
  have uB : Ext h (h.set B (.cells (Value.cells (.slice none 0 0)) T_sl_api_Item)) := Upd.new hB
  have bB : (h.set B (.cells (Value.cells (.slice none 0 0)) T_sl_api_Item)) B = some (.cells #[.slice none 0 0] T_sl_api_Item (0, 0)) := set_same
  generalize h.set B (.cells (Value.cells (.slice none 0 0)) T_sl_api_Item) = h1 at *
  unfold rangeH
  refine ⟨by kernel_rfl, ?_⟩
  intro fn tmps l D hv hsz hl
  have hv2 : tmps.getD 2 undef = .pointer (some ⟨B, 0, none⟩) := hv (2, _) (by simp)
  have hlB : l ≠ B := by rintro rfl; rw [bB] at hl; cases hl
  have ul : Ext h1 (h1.set l (.loop { state := .ready, pending := none, fn, tmps, params := #[7], assign := slices_AppendSeq_sl_api_Item_api_Item_asg0, body := slices_AppendSeq_sl_api_Item_api_Item_body0, defers := D })) := Upd.new hl
  have bl : (h1.set l (.loop { state := .ready, pending := none, fn, tmps, params := #[7], assign := slices_AppendSeq_sl_api_Item_api_Item_asg0, body := slices_AppendSeq_sl_api_Item_api_Item_body0, defers := D })) l = some (.loop { state := .ready, pending := none, fn, tmps, params := #[7], assign := slices_AppendSeq_sl_api_Item_api_Item_asg0, body := slices_AppendSeq_sl_api_Item_api_Item_body0, defers := D }) := set_same
  obtain ⟨rec, hrec⟩ : ∃ rec : Loop, rec = { state := .ready, pending := none, fn, tmps, params := #[7], assign := slices_AppendSeq_sl_api_Item_api_Item_asg0, body := slices_AppendSeq_sl_api_Item_api_Item_body0, defers := D } := ⟨_, rfl⟩
  rw [← hrec] at ul bl ⊢
  have bB2 := ul.get bB
  generalize h1.set l (.loop rec) = h2 at *
  have u12 := Ext.trans uB ul
  have hlh : h l = none := uB.none hl
  refine values_ok (hb.ext u12) (MapAt.ext hm u12)
    (fun it pre h' => ∃ v F, h' l = some (.loop rec) ∧ h' B = some (.cells #[v] T_sl_api_Item (0, 0)) ∧ OwnR h' T_api_Item 5 v (pre.map It.cells) F ∧ Fresh h F ∧ l ∉ F ∧ B ∉ F ∧ it ∉ F ∧ it ≠ l ∧ it ≠ B ∧ h it = none ∧ Ext h h')
    (fun it h3 hit u3 hkn => ?_) (fun it pre h3 h4 hJ u4 => ?_) (fun it pre x h3 hit hlt hJ hkn k' hk' => ?_) (fun it l' h3 hp hJ => ?_)
  · refine ⟨.slice none 0 0, [], u3.get bl, u3.get bB2, OwnR.nil, (fun b hb => by cases hb), by simp, by simp, by simp, ?_, ?_, u12.none hit, u12.trans u3⟩
    · rintro rfl; rw [bl] at hit; cases hit
    · rintro rfl; rw [bB2] at hit; cases hit
  · obtain ⟨v, F, j1, j2, j3, j4, j5, j6, j7, j8, j9, j10, j11⟩ := hJ
    exact ⟨v, F, u4.get j1 (by simpa using Ne.symm j8), u4.get j2 (by simpa using Ne.symm j9), j3.upd u4 (fun b hb => by simp; rintro rfl; exact j7 hb), j4, j5, j6, j7, j8, j9, j10,
      j11.fresh u4 (Fresh.one j10)⟩
  · obtain ⟨v, F, j1, j2, j3, j4, j5, j6, j7, j8, j9, j10, j11⟩ := hJ
    refine yield_ok j1 (by rw [hrec]; rfl) ?_
    have e1 : rec.assign = slices_AppendSeq_sl_api_Item_api_Item_asg0 := by rw [hrec]
    have e2 : rec.body = slices_AppendSeq_sl_api_Item_api_Item_body0 := by rw [hrec]
    have e3 : (rec.params.zip #[x.val]).foldl (fun tmps (t, a) => tmps.setIfInBounds t a) rec.tmps = tmps.setIfInBounds 7 x.val := by rw [hrec]; simp
    rw [e1, e2, e3]
    refine slices_AppendSeq_sl_api_Item_api_Item_r0.next (by simpa using hsz) ?_
    have t2 : (tmps.setIfInBounds 7 x.val).getD 2 undef = .pointer (some ⟨B, 0, none⟩) := by
      rw [← hv2]; simp [Array.getD_eq_getD_getElem?, Array.getElem?_setIfInBounds]
    have t7 : (tmps.setIfInBounds 7 x.val).getD 7 undef = x.val := by
      simp [Array.getD_eq_getD_getElem?, hsz]
    rw [t2, t7]
    unfold slices_AppendSeq_sl_api_Item_api_Item_r0
    intro r hr
    rw [bindH_eq]
    refine put_it hr x fun h4 b4 u4 => ?_
    have hrl : r ≠ l := by rintro rfl; rw [j1] at hr; cases hr
    have hrB : r ≠ B := by rintro rfl; rw [j2] at hr; cases hr
    have hri : r ≠ it := by rintro rfl; exact hkn hr
    refine begin_ok (u4.get j1) (by rw [hrec]) ?_
    have u5 : Upd [l] h4 (h4.set l (.loop { rec with state := .busy })) := Upd.set (by simp)
    have bl5 : (h4.set l (.loop { rec with state := .busy })) l = some (.loop { rec with state := .busy }) := set_same
    generalize h4.set l (.loop { rec with state := .busy }) = h5 at *
    have bB5 : h5 B = _ := u5.get (u4.get j2) (by simpa using Ne.symm hlB)
    have c0 : cellH h5 ⟨B, 0, none⟩ = some v := by simp [cellH, bB5]
    have hO5 := (j3.ext u4).upd u5 (fun b hb => by simp; rintro rfl; exact j5 hb)
    have b5 := b4.upd u5 (by simpa using hrl)
    simp only [T_sl_api_Item.load, c0, b5.it, it_lit, popO_some, bindH_eq, condV_bool, condV_true, condV_false, yV_bool, gopV_tt, gopV_ff, gopV_tf, gopV_ft, pickV_t, pickV_f, pickV_bool, nilS_ptr, add_eq, sub_eq, mul_eq, lss_eq, leq_eq, gtr_eq, geq_eq, not_eq, minI_eq, maxI_eq, extract_0, extract_1, extract_2, eqlI, neqI, makeFunc_eq, decide_true, decide_false, if_true, if_false, Bool.false_eq_true, Bool.not_true, Bool.not_false, reduceIte, List.getElem?_toArray, List.getElem?_cons_zero, List.getElem?_cons_succ, Option.isSome_none, List.length_map]
    intro r6 hr6
    refine popO_pure ?_
    try rw [bindH_eq]
    have u6 : Ext h5 (h5.set r6 (.cells x.cells.toArray T_api_Item)) := Upd.new hr6
    have s1 : SlR (h5.set r6 (.cells x.cells.toArray T_api_Item)) 5 (.slice (some ⟨r6, 0, none⟩) 1 1) ([x].map It.cells) := (OwnR.lit (It.rows [x]) set_same (by simp) (by decide) (by simp)).slR
    generalize h5.set r6 (.cells x.cells.toArray T_api_Item) = h6 at *
    refine append_own T_sl_api_Item.und T_sl_api_Item.und T_api_Item.info T_api_Item.size T_api_Item.bytes T_api_Item.zero rfl (by decide) (hO5.ext u6) s1 (It.isCell _) (by simp; omega) ?_
    intro v7 h7 F7 hO7 u7 hF7 _
    rw [← List.map_append] at hO7
    have bB7 : h7 B = _ := u7.get (u6.get bB5) j6
    have bl7 : h7 l = _ := u7.get (u6.get bl5) j5
    refine store_cell T_sl_api_Item.und rfl bB7 (by simp) (by obtain ⟨_, _, rfl, -⟩ := hO7.slR.here; rfl) T_sl_api_Item.info T_sl_api_Item.size ?_
    have notIn : ∀ b, h6 b ≠ none → b ∉ F → b ∉ F7 := fun b h1 h2 hm => by rcases hF7 b hm with h3 | h3; exact h2 h3; exact h1 h3
    have kn6 : ∀ b, h3 b ≠ none → b ≠ l → h6 b ≠ none := fun b hb hbl => by
      cases e : h3 b with
      | none => exact absurd e hb
      | some o => rw [u6.get (u5.get (u4.get e) (by simpa using hbl))]; simp
    have nB : B ∉ F7 := notIn B (by rw [u6.get bB5]; simp) j6
    have nl : l ∉ F7 := notIn l (by rw [u6.get bl5]; simp) j5
    have ni : it ∉ F7 := notIn it (kn6 it hkn j8) j7
    have u8 : Upd [B] h7 (h7.set B (.cells (#[v].setIfInBounds 0 v7) T_sl_api_Item (0, 0))) := Upd.set (by simp)
    have bB8 : (h7.set B (.cells (#[v].setIfInBounds 0 v7) T_sl_api_Item (0, 0))) B = some (.cells #[v7] T_sl_api_Item (0, 0)) := set_same
    generalize h7.set B (.cells (#[v].setIfInBounds 0 v7) T_sl_api_Item (0, 0)) = h8 at *
    have hO8 := hO7.upd u8 (fun b hb => by simp; rintro rfl; exact nB hb)
    have bl8 := u8.get bl7 (by simpa using hlB)
    refine end_ok bl8 ?_
    have u9 : Upd [l] h8 (h8.set l (.loop { { rec with state := .busy } with state := if (none : Option Code).isNone then .ready else .done, pending := none })) := Upd.set (by simp)
    have bl9 : (h8.set l (.loop { { rec with state := .busy } with state := if (none : Option Code).isNone then .ready else .done, pending := none })) l = some (.loop rec) := by rw [set_same, hrec]; rfl
    generalize h8.set l (.loop { { rec with state := .busy } with state := if (none : Option Code).isNone then .ready else .done, pending := none }) = h9 at *
    have hfr7 : Fresh h F7 := fun b hb => by
      rcases hF7 b hb with h1 | h1
      · exact j4 b h1
      · cases e : h b with
        | none => rfl
        | some o =>
          have := kn6 b (by rw [j11.get e]; simp) (by rintro rfl; rw [hlh] at e; cases e)
          exact absurd h1 this
    have hall : Upd (l :: B :: F) h3 h9 := by
      intro b o hb hn
      simp only [List.mem_cons, not_or] at hn
      exact u9.get (u8.get (u7.get (u6.get (u5.get (u4.get hb) (by simpa using hn.1))) hn.2.2) (by simpa using hn.2.1)) (by simpa using hn.1)
    have hext : Ext h h9 := j11.fresh hall (fun b hb => by
      rcases List.mem_cons.1 hb with rfl | hb
      · exact hlh
      · rcases List.mem_cons.1 hb with rfl | hb
        · exact hB
        · exact j4 b hb)
    refine hk' h9 (l :: B :: F) ⟨v7, F7, bl9, u9.get bB8 (by simpa using Ne.symm hlB), hO8.upd u9 (fun b hb => by simp; rintro rfl; exact nl hb), hfr7, nl, nB, ni, j8, j9, j10, hext⟩ hall ?_ ?_
    · intro hmm
      have hkm := MapAt.known hm
      rcases List.mem_cons.1 hmm with rfl | hmm
      · exact hkm hlh
      · rcases List.mem_cons.1 hmm with rfl | hmm
        · exact hkm hB
        · exact hkm (j4 m hmm)
    · simp only [List.mem_cons, not_or]
      exact ⟨j8, j9, j7⟩
  · obtain ⟨v, F, j1, j2, j3, j4, j5, j6, j7, j8, j9, j10, j11⟩ := hJ
    refine endLoop_ok j1 (by rw [hrec]; exact .inl rfl) ?_
    have ep : rec.pending = none := by rw [hrec]
    have u5 : Upd [l] h3 (h3.set l (.loop { rec with state := .exhausted })) := Upd.set (by simp)
    generalize h3.set l (.loop { rec with state := .exhausted }) = h5 at *
    rw [ep]
    show popO _ _
    have bB5 : h5 B = _ := u5.get j2 (by simpa using Ne.symm hlB)
    have c0 : cellH h5 ⟨B, 0, none⟩ = some v := by simp [cellH, bB5]
    simp only [T_sl_api_Item.load, c0, popO_some, bindH_eq, condV_bool, condV_true, condV_false, yV_bool, gopV_tt, gopV_ff, gopV_tf, gopV_ft, pickV_t, pickV_f, pickV_bool, nilS_ptr, add_eq, sub_eq, mul_eq, lss_eq, leq_eq, gtr_eq, geq_eq, not_eq, minI_eq, maxI_eq, extract_0, extract_1, extract_2, eqlI, neqI, makeFunc_eq, decide_true, decide_false, if_true, if_false, Bool.false_eq_true, Bool.not_true, Bool.not_false, reduceIte, List.getElem?_toArray, List.getElem?_cons_zero, List.getElem?_cons_succ, Option.isSome_none, List.length_map]
    exact hk v l' h5 F hp (j3.upd u5 (fun b hb => by simp; rintro rfl; exact j5 hb)) j4 (j11.fresh u5 (Fresh.one hlh))
end Go.Proofs.Ytdgcpeinkjnncaa
