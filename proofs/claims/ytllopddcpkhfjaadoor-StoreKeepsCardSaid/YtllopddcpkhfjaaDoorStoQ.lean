/- store: a block, its root, its map. -/
import Derived.Test.YtllopddcpkhfjaaDoorStoT
set_option linter.unusedSimpArgs false
set_option linter.unusedVariables false
namespace Go.Proofs.YtllopddcpkhfjaaDoor
open Go Bld
set_option maxRecDepth 20000
theorem yV_undef : yV undef = none := (rfl)
theorem gopV_none {X : (Value → PH → Prop) → Prop} {h : PH} {kv : Value → PH → Prop} {w : Bool} : gopV none w X h kv = kv undef h := by simp [gopV]
def bval (v : Value) (d : Tx) : Value := .agg #[v, .string (tx d)]
theorem sAt_lt {s : St} {x : Nat} {b : List Pr} (h : sAt s x = some b) : ¬ (s.height < x ∨ s.blocks.length ≤ s.height - x) ∧ s.blocks[s.blocks.length - 1 - (s.height - x)]? = some b := by
  unfold sAt at h
  split at h
  · cases h
  · rename_i hn; exact ⟨hn, h⟩
theorem sAt_none {s : St} (hs : 1 ≤ s.blocks.length) {x : Nat} : sAt s x = none ↔ (s.height < x ∨ s.blocks.length ≤ s.height - x) := by
  unfold sAt
  split
  · simp [*]
  · rename_i hn
    simp only [hn, iff_false, ne_eq]
    intro h
    rw [List.getElem?_eq_none_iff] at h
    omega
theorem zbl : zcells PG T_store_block = #[.slice none 0 0, .string (tx [])] := by rw [T_store_block.zc]; rfl
theorem at_ok {h : PH} {a : Nat} {s : St} {F : List Nat} (H : StAt h a s F) (x : Nat) (hx : x < 18446744073709551616) {k : Value → PH → Prop} (hn : sAt s x = none → ∀ h', Ext h h' → k (.tuple #[bval (.slice none 0 0) [], .int .i64 3]) h')
    (hk : ∀ b v h', sAt s x = some b → SlR h' 2 v (b.map Pr.cells) → isCell v = true → Ext h h' → k (.tuple #[bval v (rootP b), .int .i64 0]) h') : CallsH PG id_store_Store_at #[.pointer (some ⟨a, 0, none⟩), .int .u64 (x : Int)] h k := by
  apply store_Store_at.call
  unfold store_Store_at
  rw [zbl]
  intro r1 hr1
  try rw [bindH_eq]
  have u1 : Ext h (h.set r1 (.cells #[.slice none 0 0, .string (tx [])] T_store_block)) := Upd.new hr1
  have a1 : (h.set r1 (.cells #[.slice none 0 0, .string (tx [])] T_store_block)) r1 = some (.cells #[.slice none 0 0, .string (tx [])] T_store_block (0, 0)) := set_same
  generalize h.set r1 (.cells #[.slice none 0 0, .string (tx [])] T_store_block) = h1 at *
  have H1 := H.ext u1
  have hok := H.ok
  obtain ⟨m, l, vv, bl, Fb, G, ha, hm, hp, hO, hS, hbl, rfl, hn1, hn2, hn3, hG⟩ := H1.here
  have c1 : cellH h1 ⟨a, 0 + 1, none⟩ = some vv := by simp [cellH, ha]
  have c2 : cellH h1 ⟨a, 0 + 2, none⟩ = some (.int .u64 s.height) := by simp [cellH, ha]
  have hbn : bl.length = s.blocks.length := by rw [← hbl, List.length_map]
  have lv := hO.slR.len (t' := T_int) T_sl_store_block.und
  rw [List.length_map, hbn] at lv
  have h3 := hok.h3
  have h4 := hok.h4
  have h2 := hok.h2
  have h1' := hok.h1
  have ew : IntKind.u64.wrap ((s.blocks.length : Nat) : Int) = ((s.blocks.length : Nat) : Int) := u64_wrap (by omega) (by omega)
  have bz : SemP PG (Instr.build T_store_block #[]) = some (.agg #[.slice none 0 0, .string (tx [])]) := by kernel_rfl
  have bad : sAt s x = none → SemH PG (storeS T_store_block (.pointer (some ⟨r1, 0, none⟩)) (.agg #[.slice none 0 0, .string (tx [])])) h1 fun _ h44 => popO (SemE PG h44 (Instr.loadAt T_store_block (Value.pointer (some ⟨r1, 0, none⟩)))) fun v45 => k (Value.tuple #[v45, (Value.int IntKind.i64 3)]) h44 := fun hs => by
    refine store_box a1 T_store_block.info rfl (by simp) rfl (by simp [isCell]) ?_
    have l1 := T_store_block.loadAgg (h := h1.set r1 (.cells #[.slice none 0 0, .string (tx [])] T_store_block (0, 0))) (b := r1) (o := 0) set_same (by simp)
    simp only [l1, popO_some, bindH_eq, condV_bool, condV_true, condV_false, yV_bool, gopV_tt, gopV_ff, gopV_tf, gopV_ft, pickV_t, pickV_f, pickV_bool, nilS_ptr, add_eq, sub_eq, mul_eq, lss_eq, leq_eq, gtr_eq, geq_eq, not_eq, minI_eq, maxI_eq, extract_0, extract_1, extract_2, eqlI, neqI, makeFunc_eq, decide_true, decide_false, if_true, if_false, Bool.false_eq_true, Bool.not_true, Bool.not_false, reduceIte, List.getElem?_toArray, List.getElem?_cons_zero, List.getElem?_cons_succ, Option.isSome_none, List.length_map]
    exact hn hs _ (u1.fresh (Upd.set (F := [r1]) (by simp)) (Fresh.one hr1))
  by_cases d1 : s.height < x
  · have g1 : ((s.height : Int) < (x : Int)) = True := eq_true (by omega)
    simp only [T_store_Store.f2, T_uint64.load, c2, g1, bz, popO_some, bindH_eq, condV_bool, condV_true, condV_false, yV_bool, gopV_tt, gopV_ff, gopV_tf, gopV_ft, pickV_t, pickV_f, pickV_bool, nilS_ptr, add_eq, sub_eq, mul_eq, lss_eq, leq_eq, gtr_eq, geq_eq, not_eq, minI_eq, maxI_eq, extract_0, extract_1, extract_2, eqlI, neqI, makeFunc_eq, decide_true, decide_false, if_true, if_false, Bool.false_eq_true, Bool.not_true, Bool.not_false, reduceIte, List.getElem?_toArray, List.getElem?_cons_zero, List.getElem?_cons_succ, Option.isSome_none, List.length_map]
    exact bad ((sAt_none h1').2 (.inl d1))
  have g1 : ((s.height : Int) < (x : Int)) = False := eq_false (by omega)
  have e1 : IntKind.u64.wrap ((s.height : Int) - (x : Int)) = ((s.height - x : Nat) : Int) := by rw [u64_wrap (by omega) (by omega)]; omega
  by_cases d2 : s.blocks.length ≤ s.height - x
  · have g2 : (((s.blocks.length : Nat) : Int) ≤ ((s.height - x : Nat) : Int)) = True := eq_true (by omega)
    simp only [T_store_Store.f2, T_store_Store.f1, T_uint64.load, T_sl_store_block.load, c1, c2, g1, e1, lv, cv_int_u64, ew, g2, bz, popO_some, bindH_eq, condV_bool, condV_true, condV_false, yV_bool, gopV_tt, gopV_ff, gopV_tf, gopV_ft, pickV_t, pickV_f, pickV_bool, nilS_ptr, add_eq, sub_eq, mul_eq, lss_eq, leq_eq, gtr_eq, geq_eq, not_eq, minI_eq, maxI_eq, extract_0, extract_1, extract_2, eqlI, neqI, makeFunc_eq, decide_true, decide_false, if_true, if_false, Bool.false_eq_true, Bool.not_true, Bool.not_false, reduceIte, List.getElem?_toArray, List.getElem?_cons_zero, List.getElem?_cons_succ, Option.isSome_none, List.length_map]
    exact bad ((sAt_none h1').2 (.inr d2))
  have g2 : (((s.blocks.length : Nat) : Int) ≤ ((s.height - x : Nat) : Int)) = False := eq_false (by omega)
  have e2 : IntKind.u64.wrap (((s.blocks.length : Nat) : Int) - 1) = ((s.blocks.length - 1 : Nat) : Int) := by rw [u64_wrap (by omega) (by omega)]; omega
  have e3 : IntKind.u64.wrap (((s.blocks.length - 1 : Nat) : Int) - ((s.height - x : Nat) : Int)) = ((s.blocks.length - 1 - (s.height - x) : Nat) : Int) := by rw [u64_wrap (by omega) (by omega)]; omega
  obtain ⟨j, hj⟩ : ∃ j, j = s.blocks.length - 1 - (s.height - x) := ⟨_, rfl⟩
  rw [← hj] at e3
  have hjl : j < bl.length := by omega
  have hrow : (bl.map brow)[((j : Nat) : Int).toNat]? = some (brow bl[j]) := by rw [Int.toNat_natCast, List.getElem?_map, List.getElem?_eq_getElem hjl]; rfl
  obtain ⟨pa, hpa, hload⟩ := hO.slR.loadAgg (t := T_sl_store_block) (k := .u64) (j := ((j : Nat) : Int)) T_sl_store_block.und T_store_block.info T_store_block.size T_store_block.und rfl (by omega) hrow
  have hmem : bl[j] ∈ bl := List.getElem_mem hjl
  have hsat : sAt s x = some (bl[j]).2 := by
    unfold sAt
    rw [if_neg (by omega), ← hj, ← hbl, List.getElem?_map, List.getElem?_eq_getElem hjl]; rfl
  obtain ⟨hs1, hs2⟩ := hS _ hmem
  generalize bl[j] = y at *
  have hyc : isCell y.1 = true := by obtain ⟨_, _, e, _⟩ := hs1.here; rw [e]; rfl
  simp only [T_store_Store.f2, T_store_Store.f1, T_uint64.load, T_sl_store_block.load, c1, c2, g1, e1, lv, cv_int_u64, ew, g2, e2, e3, hpa, hload, popO_some, bindH_eq, condV_bool, condV_true, condV_false, yV_bool, gopV_tt, gopV_ff, gopV_tf, gopV_ft, pickV_t, pickV_f, pickV_bool, nilS_ptr, add_eq, sub_eq, mul_eq, lss_eq, leq_eq, gtr_eq, geq_eq, not_eq, minI_eq, maxI_eq, extract_0, extract_1, extract_2, eqlI, neqI, makeFunc_eq, decide_true, decide_false, if_true, if_false, Bool.false_eq_true, Bool.not_true, Bool.not_false, reduceIte, List.getElem?_toArray, List.getElem?_cons_zero, List.getElem?_cons_succ, Option.isSome_none, List.length_map]
  refine store_box a1 T_store_block.info rfl (by simp [brow]) rfl ?_ ?_
  · intro v hv
    simp only [brow, List.mem_cons, List.not_mem_nil, or_false] at hv
    rcases hv with rfl | rfl
    · exact hyc
    · rfl
  · have ub : Ext h1 h1 := Upd.refl
    have u2 : Ext h (h1.set r1 (.cells (brow y).toArray T_store_block (0, 0))) := u1.fresh (Upd.set (F := [r1]) (by simp)) (Fresh.one hr1)
    have l1 := T_store_block.loadAgg (h := h1.set r1 (.cells (brow y).toArray T_store_block (0, 0))) (b := r1) (o := 0) set_same (by simp [brow])
    have le : ((brow y).toArray).extract 0 (0 + 2) = (brow y).toArray := rfl
    rw [le] at l1
    simp only [l1, popO_some, bindH_eq, condV_bool, condV_true, condV_false, yV_bool, gopV_tt, gopV_ff, gopV_tf, gopV_ft, pickV_t, pickV_f, pickV_bool, nilS_ptr, add_eq, sub_eq, mul_eq, lss_eq, leq_eq, gtr_eq, geq_eq, not_eq, minI_eq, maxI_eq, extract_0, extract_1, extract_2, eqlI, neqI, makeFunc_eq, decide_true, decide_false, if_true, if_false, Bool.false_eq_true, Bool.not_true, Bool.not_false, reduceIte, List.getElem?_toArray, List.getElem?_cons_zero, List.getElem?_cons_succ, Option.isSome_none, List.length_map]
    refine hk y.2 y.1 _ hsat ?_ hyc u2
    refine hs1.upd (Upd.set (F := [r1]) (by simp)) fun z n c e => ?_
    have := hs2 z n c e
    intro hm
    simp only [List.mem_singleton] at hm
    have hkn := H.known z.block (by simp [this])
    rw [hm] at hkn
    exact hkn hr1
theorem StRoot_ok {h : PH} {a : Nat} {s : St} {F : List Nat} (H : StAt h a s F) (x : Nat) (hx : x < 18446744073709551616) {k : Value → PH → Prop} (hn : sAt s x = none → ∀ h', Ext h h' → k (.tuple #[.string (tx []), .int .i64 3]) h')
    (hk : ∀ b h', sAt s x = some b → Ext h h' → k (.tuple #[.string (tx (rootP b)), .int .i64 0]) h') : CallsH PG id_store_Store_Root #[.pointer (some ⟨a, 0, none⟩), .int .u64 (x : Int)] h k := by
  apply store_Store_Root.call
  unfold store_Store_Root
  have key : ∀ (v : Value) (d : Tx) (e : Int) (h1 : PH), isCell v = true → (∀ h', Ext h1 h' → k (.tuple #[.string (tx d), .int .i64 e]) h') → ∀ r5, h1 r5 = none → bindH (PH.set h1 r5 (.cells (zcells PG T_store_block) T_store_block)) fun h6 =>
      SemH PG (storeS T_store_block (Value.pointer (some ⟨r5, 0, none⟩)) (bval v d)) h6 fun v7 h8 => popO (SemP PG (Instr.fieldAt T_store_block (Value.pointer (some ⟨r5, 0, none⟩)) 1)) fun v9 => popO (SemE PG h8 (Instr.loadAt T_string v9)) fun v10 => k (Value.tuple #[v10, .int .i64 e]) h8 := by
    intro v d e h1 hv hkk r hr
    try rw [bindH_eq]
    rw [zbl]
    refine store_box set_same T_store_block.info rfl (by simp) rfl ?_ ?_
    · intro y hy
      simp only [List.mem_cons, List.not_mem_nil, or_false] at hy
      rcases hy with rfl | rfl
      · exact hv
      · rfl
    · rw [set_set_same]
      have c1 : cellH (h1.set r (.cells #[v, .string (tx d)] T_store_block (0, 0))) ⟨r, 0 + 1, none⟩ = some (.string (tx d)) := by simp [cellH, set_same]
      simp only [T_store_block.f1, T_string.load, c1, popO_some, bindH_eq, condV_bool, condV_true, condV_false, yV_bool, gopV_tt, gopV_ff, gopV_tf, gopV_ft, pickV_t, pickV_f, pickV_bool, nilS_ptr, add_eq, sub_eq, mul_eq, lss_eq, leq_eq, gtr_eq, geq_eq, not_eq, minI_eq, maxI_eq, extract_0, extract_1, extract_2, eqlI, neqI, makeFunc_eq, decide_true, decide_false, if_true, if_false, Bool.false_eq_true, Bool.not_true, Bool.not_false, reduceIte, List.getElem?_toArray, List.getElem?_cons_zero, List.getElem?_cons_succ, Option.isSome_none, List.length_map]
      exact hkk _ (Upd.new hr)
  refine at_ok H x hx (fun hs h1 u1 => ?_) (fun b v h1 hs S hv u1 => ?_)
  · simp only [popO_some, bindH_eq, condV_bool, condV_true, condV_false, yV_bool, gopV_tt, gopV_ff, gopV_tf, gopV_ft, pickV_t, pickV_f, pickV_bool, nilS_ptr, add_eq, sub_eq, mul_eq, lss_eq, leq_eq, gtr_eq, geq_eq, not_eq, minI_eq, maxI_eq, extract_0, extract_1, extract_2, eqlI, neqI, makeFunc_eq, decide_true, decide_false, if_true, if_false, Bool.false_eq_true, Bool.not_true, Bool.not_false, reduceIte, List.getElem?_toArray, List.getElem?_cons_zero, List.getElem?_cons_succ, Option.isSome_none, List.length_map]
    exact key _ _ _ h1 rfl (fun h' u => hn hs _ (u1.trans u))
  · simp only [popO_some, bindH_eq, condV_bool, condV_true, condV_false, yV_bool, gopV_tt, gopV_ff, gopV_tf, gopV_ft, pickV_t, pickV_f, pickV_bool, nilS_ptr, add_eq, sub_eq, mul_eq, lss_eq, leq_eq, gtr_eq, geq_eq, not_eq, minI_eq, maxI_eq, extract_0, extract_1, extract_2, eqlI, neqI, makeFunc_eq, decide_true, decide_false, if_true, if_false, Bool.false_eq_true, Bool.not_true, Bool.not_false, reduceIte, List.getElem?_toArray, List.getElem?_cons_zero, List.getElem?_cons_succ, Option.isSome_none, List.length_map]
    exact key _ _ _ h1 hv (fun h' u => hk b _ hs (u1.trans u))
theorem Clone2_ok {h : PH} {v : Value} {l : List Pr} (S : SlR h 2 v (l.map Pr.cells)) (hl : l.length ≤ 1000000) {k : Value → PH → Prop} (hk : ∀ v' h' F, OwnR h' T_api_Pair 2 v' (l.map Pr.cells) F → Fresh h F → Ext h h' → k v' h') : CallsH PG id_slices_Clone_sl_api_Pair_api_Pair #[v] h k := by
  apply slices_Clone_sl_api_Pair_api_Pair.call
  unfold slices_Clone_sl_api_Pair_api_Pair
  have hS := S
  obtain ⟨va, c, hv, hc1, hc2, hc3, -⟩ := S.here
  rw [List.length_map] at hv
  subst hv
  cases va with
  | none =>
    have hnil : l.map Pr.cells = [] := by
      by_cases h0 : l.map Pr.cells = []
      · exact h0
      · obtain ⟨b, o, cs, e, fr, e1, _⟩ := hc3 h0
        cases e1
    have hl0 : l = [] := List.map_eq_nil_iff.1 hnil
    subst hl0
    simp only [eqlNil T_sl_api_Pair.und, Option.isNone_none, popO_some, bindH_eq, condV_bool, condV_true, condV_false, yV_bool, gopV_tt, gopV_ff, gopV_tf, gopV_ft, pickV_t, pickV_f, pickV_bool, nilS_ptr, add_eq, sub_eq, mul_eq, lss_eq, leq_eq, gtr_eq, geq_eq, not_eq, minI_eq, maxI_eq, extract_0, extract_1, extract_2, eqlI, neqI, makeFunc_eq, decide_true, decide_false, if_true, if_false, Bool.false_eq_true, Bool.not_true, Bool.not_false, reduceIte, List.getElem?_toArray, List.getElem?_cons_zero, List.getElem?_cons_succ, Option.isSome_none, List.length_map]
    exact hk _ _ [] OwnR.nil (fun b hb => by cases hb) Upd.refl
  | some va =>
    have b0 : SemA PG (Instr.buildSlice T_sl_api_Pair 0 #[]) = some (.cells #[] T_api_Pair, fun r => pure (.slice (some ⟨r, 0, none⟩) 0 0)) := by kernel_rfl
    simp only [eqlNil T_sl_api_Pair.und, Option.isNone_some, b0, popO_some, bindH_eq, condV_bool, condV_true, condV_false, yV_bool, gopV_tt, gopV_ff, gopV_tf, gopV_ft, pickV_t, pickV_f, pickV_bool, nilS_ptr, add_eq, sub_eq, mul_eq, lss_eq, leq_eq, gtr_eq, geq_eq, not_eq, minI_eq, maxI_eq, extract_0, extract_1, extract_2, eqlI, neqI, makeFunc_eq, decide_true, decide_false, if_true, if_false, Bool.false_eq_true, Bool.not_true, Bool.not_false, reduceIte, List.getElem?_toArray, List.getElem?_cons_zero, List.getElem?_cons_succ, Option.isSome_none, List.length_map]
    intro r hr
    refine popO_pure ?_
    try rw [bindH_eq]
    have u1 : Ext h (h.set r (.cells #[] T_api_Pair)) := Upd.new hr
    have O1 : OwnR (h.set r (.cells #[] T_api_Pair)) T_api_Pair 2 (.slice (some ⟨r, 0, none⟩) 0 0) (([] : List Pr).map Pr.cells) [r] := OwnR.lit (n := 0) (Pr.rows []) set_same (by simp) (by decide) rfl
    generalize h.set r (.cells #[] T_api_Pair) = h1 at *
    refine append_own T_sl_api_Pair.und T_sl_api_Pair.und T_api_Pair.info T_api_Pair.size T_api_Pair.bytes T_api_Pair.zero rfl (by decide) O1 (hS.ext u1) (Pr.isCell l) (by simp; omega) ?_
    intro v2 h2 F2 O2 u2 k2 _
    rw [List.map_nil, List.nil_append] at O2
    exact hk _ _ F2 O2 (fun b hb => by
      rcases k2 b hb with h1 | h1
      · simp only [List.mem_singleton] at h1
        subst h1; exact hr
      · exact u1.none h1) (u1.fresh u2 (Fresh.one hr))
theorem zso : zcells PG T_store_sorted = #[.slice none 0 0] := by rw [T_store_sorted.zc]; rfl
theorem At_ok {h : PH} {a : Nat} {s : St} {F : List Nat} (H : StAt h a s F) (x : Nat) (hx : x < 18446744073709551616) {k : Value → PH → Prop} (hn : sAt s x = none → ∀ v h' F', OwnR h' T_api_Pair 2 v (([] : List Pr).map Pr.cells) F' → Fresh h F' → Ext h h' → k (.tuple #[v, .int .i64 3]) h')
    (hk : ∀ b v h' F', sAt s x = some b → OwnR h' T_api_Pair 2 v (b.map Pr.cells) F' → Fresh h F' → Ext h h' → k (.tuple #[v, .int .i64 0]) h') : CallsH PG id_store_Store_At #[.pointer (some ⟨a, 0, none⟩), .int .u64 (x : Int)] h k := by
  apply store_Store_At.call
  unfold store_Store_At
  have hok := H.ok
  have key : ∀ (v : Value) (b : List Pr) (d : Tx) (e : Int) (h1 : PH), isCell v = true → SlR h1 2 v (b.map Pr.cells) → b.length ≤ 4096 → (∀ v' h' F', OwnR h' T_api_Pair 2 v' (b.map Pr.cells) F' → Fresh h1 F' → Ext h1 h' → k (.tuple #[v', .int .i64 e]) h') → ∀ r5, h1 r5 = none → bindH (PH.set h1 r5 (.cells (zcells PG T_store_block) T_store_block)) fun h6 =>
      SemH PG (storeS T_store_block (Value.pointer (some ⟨r5, 0, none⟩)) (bval v d)) h6 fun v7 h8 =>  popO (SemP PG (Instr.fieldAt T_store_block (Value.pointer (some ⟨r5, 0, none⟩)) 0)) fun v9 => popO (SemE PG h8 (Instr.loadAt T_store_sorted v9)) fun v10 => CallsH PG id_store_sorted_pairs #[v10] h8 fun v11 h12 => k (Value.tuple #[v11, .int .i64 e]) h12 := by
    intro v b d e h1 hv S hbl hkk r hr
    try rw [bindH_eq]
    rw [zbl]
    refine store_box set_same T_store_block.info rfl (by simp) rfl ?_ ?_
    · intro y hy
      simp only [List.mem_cons, List.not_mem_nil, or_false] at hy
      rcases hy with rfl | rfl
      · exact hv
      · rfl
    · rw [set_set_same]
      have u2 : Ext h1 (h1.set r (.cells #[v, .string (tx d)] T_store_block (0, 0))) := Upd.new hr
      have a2 : (h1.set r (.cells #[v, .string (tx d)] T_store_block (0, 0))) r = some (.cells #[v, .string (tx d)] T_store_block (0, 0)) := set_same
      generalize h1.set r (.cells #[v, .string (tx d)] T_store_block (0, 0)) = h2 at *
      have l1 := T_store_sorted.loadAgg (o := 0) a2 (by simp)
      have le : (#[v, .string (tx d)] : Array Value).extract 0 (0 + 1) = #[v] := rfl
      rw [le] at l1
      simp only [T_store_block.f0, l1, popO_some, bindH_eq, condV_bool, condV_true, condV_false, yV_bool, gopV_tt, gopV_ff, gopV_tf, gopV_ft, pickV_t, pickV_f, pickV_bool, nilS_ptr, add_eq, sub_eq, mul_eq, lss_eq, leq_eq, gtr_eq, geq_eq, not_eq, minI_eq, maxI_eq, extract_0, extract_1, extract_2, eqlI, neqI, makeFunc_eq, decide_true, decide_false, if_true, if_false, Bool.false_eq_true, Bool.not_true, Bool.not_false, reduceIte, List.getElem?_toArray, List.getElem?_cons_zero, List.getElem?_cons_succ, Option.isSome_none, List.length_map]
      apply store_sorted_pairs.call
      unfold store_sorted_pairs
      intro r2 hr2
      try rw [bindH_eq]
      have ec : Value.cells (.agg #[v]) = #[v] := rfl
      rw [ec]
      have u3 : Ext h2 (h2.set r2 (.cells #[v] T_store_sorted)) := Upd.new hr2
      have a3 : (h2.set r2 (.cells #[v] T_store_sorted)) r2 = some (.cells #[v] T_store_sorted (0, 0)) := set_same
      generalize h2.set r2 (.cells #[v] T_store_sorted) = h3 at *
      have c0 : cellH h3 ⟨r2, 0, none⟩ = some v := by simp [cellH, a3]
      simp only [T_store_sorted.f0, T_sl_api_Pair.load, c0, popO_some, bindH_eq, condV_bool, condV_true, condV_false, yV_bool, gopV_tt, gopV_ff, gopV_tf, gopV_ft, pickV_t, pickV_f, pickV_bool, nilS_ptr, add_eq, sub_eq, mul_eq, lss_eq, leq_eq, gtr_eq, geq_eq, not_eq, minI_eq, maxI_eq, extract_0, extract_1, extract_2, eqlI, neqI, makeFunc_eq, decide_true, decide_false, if_true, if_false, Bool.false_eq_true, Bool.not_true, Bool.not_false, reduceIte, List.getElem?_toArray, List.getElem?_cons_zero, List.getElem?_cons_succ, Option.isSome_none, List.length_map]
      have u := u2.trans u3
      refine Clone2_ok (S.ext u) (by omega) fun v' h4 F4 O4 f4 u4 => ?_
      exact hkk v' h4 F4 O4 (f4.of u) (u.trans u4)
  refine at_ok H x hx (fun hs h1 u1 => ?_) (fun b v h1 hs S hv u1 => ?_)
  · simp only [popO_some, bindH_eq, condV_bool, condV_true, condV_false, yV_bool, gopV_tt, gopV_ff, gopV_tf, gopV_ft, pickV_t, pickV_f, pickV_bool, nilS_ptr, add_eq, sub_eq, mul_eq, lss_eq, leq_eq, gtr_eq, geq_eq, not_eq, minI_eq, maxI_eq, extract_0, extract_1, extract_2, eqlI, neqI, makeFunc_eq, decide_true, decide_false, if_true, if_false, Bool.false_eq_true, Bool.not_true, Bool.not_false, reduceIte, List.getElem?_toArray, List.getElem?_cons_zero, List.getElem?_cons_succ, Option.isSome_none, List.length_map]
    exact key _ [] _ _ h1 rfl (OwnR.nil (e := T_api_Pair)).slR (by decide) (fun v' h' F' O' f' u' => hn hs v' h' F' O' (f'.of u1) (u1.trans u'))
  · simp only [popO_some, bindH_eq, condV_bool, condV_true, condV_false, yV_bool, gopV_tt, gopV_ff, gopV_tf, gopV_ft, pickV_t, pickV_f, pickV_bool, nilS_ptr, add_eq, sub_eq, mul_eq, lss_eq, leq_eq, gtr_eq, geq_eq, not_eq, minI_eq, maxI_eq, extract_0, extract_1, extract_2, eqlI, neqI, makeFunc_eq, decide_true, decide_false, if_true, if_false, Bool.false_eq_true, Bool.not_true, Bool.not_false, reduceIte, List.getElem?_toArray, List.getElem?_cons_zero, List.getElem?_cons_succ, Option.isSome_none, List.length_map]
    have hb : b ∈ s.blocks := List.mem_of_getElem? (sAt_lt hs).2
    exact key _ b _ _ h1 hv S (hok.blk b hb).2.2 (fun v' h' F' O' f' u' => hk b v' h' F' hs O' (f'.of u1) (u1.trans u'))
end Go.Proofs.YtllopddcpkhfjaaDoor
