/- store: its functions, as rules for their calls. -/
import Derived.Test.YtllopddcpkhfjaaDoorStoP
set_option linter.unusedSimpArgs false
set_option linter.unusedVariables false
namespace Go.Proofs.YtllopddcpkhfjaaDoor
open Go Bld
set_option maxRecDepth 20000
def brow (x : Value × List Pr) : List Value := [x.1, .string (tx (rootP x.2))]
theorem brow.rows (l : List (Value × List Pr)) : Rows 2 (l.map brow) := fun r hr => by
  obtain ⟨p, -, rfl⟩ := List.mem_map.1 hr; rfl
structure StAt (h : PH) (a : Nat) (s : St) (F : List Nat) : Prop where
  here : ∃ (m : Nat) (l : List Pr) (v : Value) (bl : List (Value × List Pr)) (Fb G : List Nat), h a = some (.cells #[.map (some m), v, .int .u64 s.height] T_store_Store (0, 0)) ∧ MAt h m l ∧ l.Perm s.now ∧ OwnR h T_store_block 2 v (bl.map brow) Fb ∧ (∀ x ∈ bl, SlR h 2 x.1 (x.2.map Pr.cells) ∧ inBlocks x.1 G) ∧
    bl.map (·.2) = s.blocks ∧ F = a :: m :: (Fb ++ G) ∧ a ≠ m ∧ a ∉ Fb ∧ m ∉ Fb ∧ ∀ g ∈ G, g ≠ a ∧ g ≠ m ∧ g ∉ Fb ∧ h g ≠ none
  ok : s.Ok
theorem StAt.upd {h h' : PH} {a : Nat} {s : St} {F K : List Nat} (H : StAt h a s F) (u : Upd K h h') (hd : ∀ b ∈ F, b ∉ K) : StAt h' a s F := by
  obtain ⟨m, l, v, bl, Fb, G, h1, h2, h3, h4, h5, h6, rfl, h8, h9, h10, h11⟩ := H.here
  refine ⟨⟨m, l, v, bl, Fb, G, u.get h1 (hd _ (by simp)), MapAt.upd h2 u (hd _ (by simp)), h3, h4.upd u (fun b hb => hd b (by simp [hb])), fun x hx => ⟨(h5 x hx).1.upd u fun y n c e => hd _ ?_, (h5 x hx).2⟩, h6, rfl, h8, h9, h10, fun g hg => ⟨(h11 g hg).1, (h11 g hg).2.1, (h11 g hg).2.2.1, ?_⟩⟩, H.ok⟩
  · have := (h5 x hx).2 y n c e
    simp [this]
  · have := (h11 g hg).2.2.2
    obtain ⟨o, ho⟩ := Option.ne_none_iff_exists'.1 this
    rw [u.get ho (hd g (by simp [hg]))]; simp
theorem StAt.ext {h h' : PH} {a : Nat} {s : St} {F : List Nat} (H : StAt h a s F) (u : Ext h h') : StAt h' a s F := H.upd u (by simp)
theorem StAt.known {h : PH} {a : Nat} {s : St} {F : List Nat} (H : StAt h a s F) : ∀ b ∈ F, h b ≠ none := by
  obtain ⟨m, l, v, bl, Fb, G, h1, h2, h3, h4, h5, h6, rfl, h8, h9, h10, h11⟩ := H.here
  intro b hb
  simp only [List.mem_cons, List.mem_append] at hb
  rcases hb with rfl | rfl | hb | hb
  · rw [h1]; simp
  · exact MapAt.known h2
  · exact h4.known b hb
  · exact (h11 b hb).2.2.2
theorem St.Ok.new (n : Nat) (hn : n < 18446744073709551616) : St.Ok ⟨[], [[]], n⟩ := ⟨List.Pairwise.nil, by simp, by simp, by simp [Up], by simp, by simp, by simp, hn⟩
theorem StNew_ok {h : PH} (n : Nat) (hn : n < 18446744073709551616) (hK : KAt h) {k : Value → PH → Prop} (hk : ∀ a h' F, StAt h' a ⟨[], [[]], n⟩ F → Fresh h F → Ext h h' → k (.pointer (some ⟨a, 0, none⟩)) h') : CallsH PG id_store_New #[.int .u64 (n : Int)] h k := by
  apply store_New.call
  unfold store_New
  simp only [makeMap_eq, popO_some, bindH_eq, condV_bool, condV_true, condV_false, yV_bool, gopV_tt, gopV_ff, gopV_tf, gopV_ft, pickV_t, pickV_f, pickV_bool, nilS_ptr, add_eq, sub_eq, mul_eq, lss_eq, leq_eq, gtr_eq, geq_eq, not_eq, minI_eq, maxI_eq, extract_0, extract_1, extract_2, eqlI, neqI, makeFunc_eq, decide_true, decide_false, if_true, if_false, Bool.false_eq_true, Bool.not_true, Bool.not_false, reduceIte, List.getElem?_toArray, List.getElem?_cons_zero, List.getElem?_cons_succ, Option.isSome_none, List.length_map]
  intro m hm
  refine popO_pure ?_
  try rw [bindH_eq]
  have u1 : Ext h (h.set m (.map #[] 0)) := Upd.new hm
  have m1 : MAt (h.set m (.map #[] 0)) m [] := MapAt.new
  generalize h.set m (.map #[] 0) = h1 at *
  refine Root_ok (l := []) (by decide) (hK.ext u1) (OwnR.nil (e := T_api_Pair)).slR (fun p hp => by cases hp) fun h2 u2 => ?_
  have b1 : ∀ d : ByteArray, SemP PG (Instr.build T_store_block #[(1, .string d)]) = some (.agg #[.slice none 0 0, .string d]) := fun d => by kernel_rfl
  have b2 : ∀ d : ByteArray, SemA PG (Instr.buildSlice T_sl_store_block 1 #[(0, .agg #[.slice none 0 0, .string d])]) = some (.cells #[.slice none 0 0, .string d] T_store_block, fun r => pure (.slice (some ⟨r, 0, none⟩) 1 1)) := fun d => by kernel_rfl
  simp only [b1, b2, popO_some, bindH_eq, condV_bool, condV_true, condV_false, yV_bool, gopV_tt, gopV_ff, gopV_tf, gopV_ft, pickV_t, pickV_f, pickV_bool, nilS_ptr, add_eq, sub_eq, mul_eq, lss_eq, leq_eq, gtr_eq, geq_eq, not_eq, minI_eq, maxI_eq, extract_0, extract_1, extract_2, eqlI, neqI, makeFunc_eq, decide_true, decide_false, if_true, if_false, Bool.false_eq_true, Bool.not_true, Bool.not_false, reduceIte, List.getElem?_toArray, List.getElem?_cons_zero, List.getElem?_cons_succ, Option.isSome_none, List.length_map]
  intro r hr
  refine popO_pure ?_
  try rw [bindH_eq]
  have u3 : Ext h2 (h2.set r (.cells #[.slice none 0 0, .string (tx (rootP []))] T_store_block)) := Upd.new hr
  have O3 : OwnR (h2.set r (.cells #[.slice none 0 0, .string (tx (rootP []))] T_store_block)) T_store_block 2 (.slice (some ⟨r, 0, none⟩) 1 1) ([((.slice none 0 0 : Value), ([] : List Pr))].map brow) [r] := OwnR.lit (n := 1) (brow.rows [((.slice none 0 0 : Value), ([] : List Pr))]) set_same (by simp) (by decide) rfl
  generalize h2.set r (.cells #[.slice none 0 0, .string (tx (rootP []))] T_store_block) = h3 at *
  have b3 : SemP PG (Instr.build T_store_Store #[(0, .map (some m)), (1, .slice (some ⟨r, 0, none⟩) 1 1), (2, .int .u64 (n : Int))]) = some (.agg #[.map (some m), .slice (some ⟨r, 0, none⟩) 1 1, .int .u64 (n : Int)]) := by kernel_rfl
  simp only [b3, popO_some, bindH_eq, condV_bool, condV_true, condV_false, yV_bool, gopV_tt, gopV_ff, gopV_tf, gopV_ft, pickV_t, pickV_f, pickV_bool, nilS_ptr, add_eq, sub_eq, mul_eq, lss_eq, leq_eq, gtr_eq, geq_eq, not_eq, minI_eq, maxI_eq, extract_0, extract_1, extract_2, eqlI, neqI, makeFunc_eq, decide_true, decide_false, if_true, if_false, Bool.false_eq_true, Bool.not_true, Bool.not_false, reduceIte, List.getElem?_toArray, List.getElem?_cons_zero, List.getElem?_cons_succ, Option.isSome_none, List.length_map]
  intro a ha
  try rw [bindH_eq]
  have u4 : Ext h3 (h3.set a (.cells (Value.cells (.agg #[.map (some m), .slice (some ⟨r, 0, none⟩) 1 1, .int .u64 (n : Int)])) T_store_Store)) := Upd.new ha
  have m3 := MapAt.ext m1 (u2.trans u3)
  have hma : a ≠ m := by rintro rfl; exact MapAt.known m3 ha
  have har : a ≠ r := by rintro rfl; exact O3.known _ (by simp) ha
  have hmr : m ≠ r := by rintro rfl; exact MapAt.known (MapAt.ext m1 u2) hr
  refine hk a _ [a, m, r] ⟨⟨m, [], _, [(.slice none 0 0, [])], [r], [], set_same, MapAt.ext m3 u4, List.Perm.refl _, O3.ext u4, ?_, rfl, rfl, hma, by simpa using har, by simpa using hmr, by simp⟩, St.Ok.new n hn⟩ (fun b hb => ?_) (((u1.trans u2).trans u3).trans u4)
  · intro x hx
    simp only [List.mem_singleton] at hx
    subst hx
    exact ⟨(OwnR.nil (e := T_api_Pair)).slR, fun x n c e => by cases e⟩
  · simp only [List.mem_cons, List.not_mem_nil, or_false] at hb
    rcases hb with rfl | rfl | rfl
    · exact ((u1.trans u2).trans u3).none ha
    · exact hm
    · exact (u1.trans u2).none hr
theorem len_eq {h : PH} {m : Nat} {l L : List Pr} (hm : MAt h m l) (hp : l.Perm L) : SemE PG h (Builtin.len_ #[T_map_string_string] T_int #[.map (some m)]) = some (.int .i64 L.length) := by
  have lm := MapAt.len hm (t' := T_int) T_map_string_string.und
  rw [List.length_map, hp.length_eq] at lm
  exact lm
theorem St.Ok.setOk {s : St} (H : s.Ok) {k v : Tx} (hk : ¬ (k.length < 1 ∨ 16 < k.length ∨ 64 < v.length)) (hf : ¬ (getL s.now k = none ∧ 4096 ≤ s.now.length)) : St.Ok { s with now := setL s.now ⟨k, v⟩ } := by
  refine ⟨H.up.set _, fun p hp => ?_, ?_, H.blk, H.h1, H.h2, H.h3, H.h4⟩
  · rcases mem_setL.1 hp with rfl | ⟨h1, _⟩
    · refine ⟨?_, ?_, ?_⟩ <;> simp only <;> omega
    · exact H.fit p h1
  · have hle : (setL s.now ⟨k, v⟩).length ≤ s.now.length + (if getL s.now k = none then 1 else 0) := by
      have hn := (H.up.set ⟨k, v⟩).irr
      split
      · have := nodup_len (setL s.now ⟨k, v⟩) (⟨k, v⟩ :: s.now) hn fun p hp => by
          rcases mem_setL.1 hp with rfl | ⟨h1, _⟩
          · simp
          · simp [h1]
        simpa using this
      · rename_i hne
        obtain ⟨q, hq⟩ := Option.ne_none_iff_exists'.1 hne
        obtain ⟨q1, q2⟩ := (getL_some H.up).1 hq
        have := nodup_len (setL s.now ⟨k, v⟩) (⟨k, v⟩ :: s.now.erase q) hn fun p hp => by
          rcases mem_setL.1 hp with rfl | ⟨h1, h2⟩
          · simp
          · refine List.mem_cons_of_mem _ ?_
            rw [List.mem_erase_of_ne]
            · exact h1
            · rintro rfl; exact h2 q2
        rw [List.length_cons, List.length_erase_of_mem q1] at this
        have hpos : 0 < s.now.length := List.length_pos_of_mem q1
        omega
    have := H.few
    show (setL s.now ⟨k, v⟩).length ≤ 4096
    split at hle
    · rename_i e
      have : ¬ 4096 ≤ s.now.length := fun h => hf ⟨e, h⟩
      omega
    · omega
theorem Set_ok {h : PH} {a : Nat} {s : St} {F : List Nat} (H : StAt h a s F) (k v : Tx) {kk : Value → PH → Prop} (hk : ∀ h', StAt h' a (sSet s k v).1 F → Upd F h h' → kk (.int .i64 (sSet s k v).2) h') :
    CallsH PG id_store_Store_Set #[.pointer (some ⟨a, 0, none⟩), .string (tx k), .string (tx v)] h kk := by
  apply store_Store_Set.call
  unfold store_Store_Set
  have fin1 : (k.length < 1 ∨ 16 < k.length ∨ 64 < v.length) → kk (.int .i64 1) h := fun hb => by
    have := hk h (by unfold sSet; rw [if_pos hb]; exact H) Upd.refl
    unfold sSet at this
    rw [if_pos hb] at this
    exact this
  by_cases d1 : k.length < 1
  · have g1 : ((k.length : Int) < 1) = True := eq_true (by omega)
    simp only [T_string.len, tx_size, g1, popO_some, bindH_eq, condV_bool, condV_true, condV_false, yV_bool, gopV_tt, gopV_ff, gopV_tf, gopV_ft, pickV_t, pickV_f, pickV_bool, nilS_ptr, add_eq, sub_eq, mul_eq, lss_eq, leq_eq, gtr_eq, geq_eq, not_eq, minI_eq, maxI_eq, extract_0, extract_1, extract_2, eqlI, neqI, makeFunc_eq, decide_true, decide_false, if_true, if_false, Bool.false_eq_true, Bool.not_true, Bool.not_false, reduceIte, List.getElem?_toArray, List.getElem?_cons_zero, List.getElem?_cons_succ, Option.isSome_none, List.length_map]
    exact fin1 (.inl d1)
  have g1 : ((k.length : Int) < 1) = False := eq_false (by omega)
  by_cases d2 : 16 < k.length
  · have g2 : ((16 : Int) < (k.length : Int)) = True := eq_true (by omega)
    simp only [T_string.len, tx_size, g1, g2, popO_some, bindH_eq, condV_bool, condV_true, condV_false, yV_bool, gopV_tt, gopV_ff, gopV_tf, gopV_ft, pickV_t, pickV_f, pickV_bool, nilS_ptr, add_eq, sub_eq, mul_eq, lss_eq, leq_eq, gtr_eq, geq_eq, not_eq, minI_eq, maxI_eq, extract_0, extract_1, extract_2, eqlI, neqI, makeFunc_eq, decide_true, decide_false, if_true, if_false, Bool.false_eq_true, Bool.not_true, Bool.not_false, reduceIte, List.getElem?_toArray, List.getElem?_cons_zero, List.getElem?_cons_succ, Option.isSome_none, List.length_map]
    exact fin1 (.inr (.inl d2))
  have g2 : ((16 : Int) < (k.length : Int)) = False := eq_false (by omega)
  by_cases d3 : 64 < v.length
  · have g3 : ((64 : Int) < (v.length : Int)) = True := eq_true (by omega)
    simp only [T_string.len, tx_size, g1, g2, g3, popO_some, bindH_eq, condV_bool, condV_true, condV_false, yV_bool, gopV_tt, gopV_ff, gopV_tf, gopV_ft, pickV_t, pickV_f, pickV_bool, nilS_ptr, add_eq, sub_eq, mul_eq, lss_eq, leq_eq, gtr_eq, geq_eq, not_eq, minI_eq, maxI_eq, extract_0, extract_1, extract_2, eqlI, neqI, makeFunc_eq, decide_true, decide_false, if_true, if_false, Bool.false_eq_true, Bool.not_true, Bool.not_false, reduceIte, List.getElem?_toArray, List.getElem?_cons_zero, List.getElem?_cons_succ, Option.isSome_none, List.length_map]
    exact fin1 (.inr (.inr d3))
  have g3 : ((64 : Int) < (v.length : Int)) = False := eq_false (by omega)
  have hok := H.ok
  have hr : ¬ (k.length < 1 ∨ 16 < k.length ∨ 64 < v.length) := by omega
  have hH := H
  obtain ⟨m, l, vv, bl, Fb, G, ha, hm, hp, hO, hS, hbl, rfl, hn1, hn2, hn3, hG⟩ := H.here
  have c0 : cellH h ⟨a, 0, none⟩ = some (.map (some m)) := by simp [cellH, ha]
  have hg := getL_perm hp hok.up k
  have hl := len_eq hm hp
  have fin : ¬ (getL s.now k = none ∧ 4096 ≤ s.now.length) → SemH PG (mapUpdS T_map_string_string (.map (some m)) (.string (tx k)) (.string (tx v))) h fun v61 h62 => kk (.int .i64 0) h62 := fun hc => by
    refine map_put skeyed T_map_string_string.und hm k (.string (tx v)) fun h6 hm6 u6 => ?_
    obtain ⟨l', e1, e2⟩ := put_perm hp hok.up ⟨k, v⟩
    have e1' : putM (l.map Pr.pr) k (.string (tx v)) = l'.map Pr.pr := e1
    rw [e1'] at hm6
    have hs : sSet s k v = ({ s with now := setL s.now ⟨k, v⟩ }, 0) := by unfold sSet; rw [if_neg hr, if_neg hc]
    rw [hs] at hk
    refine hk h6 ⟨⟨m, l', vv, bl, Fb, G, u6.get ha (by simpa using hn1), hm6, e2, hO.upd u6 (fun b hb => by simp; rintro rfl; exact hn3 hb), fun x hx => ⟨(hS x hx).1.upd u6 fun y n c e => ?_, (hS x hx).2⟩, hbl, rfl, hn1, hn2, hn3, fun g hg => ⟨(hG g hg).1, (hG g hg).2.1, (hG g hg).2.2.1, ?_⟩⟩, hok.setOk hr hc⟩ (u6.mono fun b hb => .inl (by simp at hb; simp [hb]))
    · have := (hG _ ((hS x hx).2 y n c e)).2.1
      simpa using this
    · obtain ⟨o, ho⟩ := Option.ne_none_iff_exists'.1 (hG g hg).2.2.2
      rw [u6.get ho (by simpa using (hG g hg).2.1)]; simp
  cases eg : getL s.now k with
  | some q =>
    simp only [T_string.len, tx_size, g1, g2, g3, T_store_Store.f0, T_map_string_string.load, c0, look_eq hm, hg, eg, Option.isSome_some, popO_some, bindH_eq, condV_bool, condV_true, condV_false, yV_bool, gopV_tt, gopV_ff, gopV_tf, gopV_ft, pickV_t, pickV_f, pickV_bool, nilS_ptr, add_eq, sub_eq, mul_eq, lss_eq, leq_eq, gtr_eq, geq_eq, not_eq, minI_eq, maxI_eq, extract_0, extract_1, extract_2, eqlI, neqI, makeFunc_eq, decide_true, decide_false, if_true, if_false, Bool.false_eq_true, Bool.not_true, Bool.not_false, reduceIte, List.getElem?_toArray, List.getElem?_cons_zero, List.getElem?_cons_succ, Option.isSome_none, List.length_map]
    exact fin (by simp [eg])
  | none =>
    by_cases d4 : 4096 ≤ s.now.length
    · have g4 : ((4096 : Int) ≤ (s.now.length : Int)) = True := eq_true (by omega)
      simp only [T_string.len, tx_size, g1, g2, g3, T_store_Store.f0, T_map_string_string.load, c0, look_eq hm, hg, eg, hl, g4, Option.isSome_none, popO_some, bindH_eq, condV_bool, condV_true, condV_false, yV_bool, gopV_tt, gopV_ff, gopV_tf, gopV_ft, pickV_t, pickV_f, pickV_bool, nilS_ptr, add_eq, sub_eq, mul_eq, lss_eq, leq_eq, gtr_eq, geq_eq, not_eq, minI_eq, maxI_eq, extract_0, extract_1, extract_2, eqlI, neqI, makeFunc_eq, decide_true, decide_false, if_true, if_false, Bool.false_eq_true, Bool.not_true, Bool.not_false, reduceIte, List.getElem?_toArray, List.getElem?_cons_zero, List.getElem?_cons_succ, Option.isSome_none, List.length_map]
      have hs : sSet s k v = (s, 2) := by unfold sSet; rw [if_neg hr, if_pos ⟨eg, d4⟩]
      have := hk h (by rw [hs]; exact hH) Upd.refl
      rw [hs] at this
      exact this
    · have g4 : ((4096 : Int) ≤ (s.now.length : Int)) = False := eq_false (by omega)
      simp only [T_string.len, tx_size, g1, g2, g3, T_store_Store.f0, T_map_string_string.load, c0, look_eq hm, hg, eg, hl, g4, Option.isSome_none, popO_some, bindH_eq, condV_bool, condV_true, condV_false, yV_bool, gopV_tt, gopV_ff, gopV_tf, gopV_ft, pickV_t, pickV_f, pickV_bool, nilS_ptr, add_eq, sub_eq, mul_eq, lss_eq, leq_eq, gtr_eq, geq_eq, not_eq, minI_eq, maxI_eq, extract_0, extract_1, extract_2, eqlI, neqI, makeFunc_eq, decide_true, decide_false, if_true, if_false, Bool.false_eq_true, Bool.not_true, Bool.not_false, reduceIte, List.getElem?_toArray, List.getElem?_cons_zero, List.getElem?_cons_succ, Option.isSome_none, List.length_map]
      exact fin (fun h => d4 h.2)
theorem Delete_ok {h : PH} {a : Nat} {s : St} {F : List Nat} (H : StAt h a s F) (k : Tx) {kk : Value → PH → Prop} (hk : ∀ h', StAt h' a (sDel s k).1 F → Upd F h h' → kk (.int .i64 (sDel s k).2) h') :
    CallsH PG id_store_Store_Delete #[.pointer (some ⟨a, 0, none⟩), .string (tx k)] h kk := by
  apply store_Store_Delete.call
  unfold store_Store_Delete
  have hok := H.ok
  have hH := H
  obtain ⟨m, l, vv, bl, Fb, G, ha, hm, hp, hO, hS, hbl, rfl, hn1, hn2, hn3, hG⟩ := H.here
  have c0 : cellH h ⟨a, 0, none⟩ = some (.map (some m)) := by simp [cellH, ha]
  have hg := getL_perm hp hok.up k
  cases eg : getL s.now k with
  | none =>
    simp only [T_store_Store.f0, T_map_string_string.load, c0, look_eq hm, hg, eg, Option.isSome_none, popO_some, bindH_eq, condV_bool, condV_true, condV_false, yV_bool, gopV_tt, gopV_ff, gopV_tf, gopV_ft, pickV_t, pickV_f, pickV_bool, nilS_ptr, add_eq, sub_eq, mul_eq, lss_eq, leq_eq, gtr_eq, geq_eq, not_eq, minI_eq, maxI_eq, extract_0, extract_1, extract_2, eqlI, neqI, makeFunc_eq, decide_true, decide_false, if_true, if_false, Bool.false_eq_true, Bool.not_true, Bool.not_false, reduceIte, List.getElem?_toArray, List.getElem?_cons_zero, List.getElem?_cons_succ, Option.isSome_none, List.length_map]
    have hs : sDel s k = (s, 3) := by unfold sDel; rw [if_pos eg]
    have := hk h (by rw [hs]; exact hH) Upd.refl
    rw [hs] at this
    exact this
  | some q =>
    simp only [T_store_Store.f0, T_map_string_string.load, c0, look_eq hm, hg, eg, Option.isSome_some, popO_some, bindH_eq, condV_bool, condV_true, condV_false, yV_bool, gopV_tt, gopV_ff, gopV_tf, gopV_ft, pickV_t, pickV_f, pickV_bool, nilS_ptr, add_eq, sub_eq, mul_eq, lss_eq, leq_eq, gtr_eq, geq_eq, not_eq, minI_eq, maxI_eq, extract_0, extract_1, extract_2, eqlI, neqI, makeFunc_eq, decide_true, decide_false, if_true, if_false, Bool.false_eq_true, Bool.not_true, Bool.not_false, reduceIte, List.getElem?_toArray, List.getElem?_cons_zero, List.getElem?_cons_succ, Option.isSome_none, List.length_map]
    refine map_del skeyed T_map_string_string.und hm k rfl fun h6 hm6 u6 => ?_
    have hs : sDel s k = ({ s with now := delL s.now k }, 0) := by unfold sDel; rw [if_neg (by rw [eg]; simp)]
    rw [hs] at hk
    rw [del_pr] at hm6
    refine hk h6 ⟨⟨m, delL l k, vv, bl, Fb, G, u6.get ha (by simpa using hn1), hm6, hp.filter _, hO.upd u6 (fun b hb => by simp; rintro rfl; exact hn3 hb), fun x hx => ⟨(hS x hx).1.upd u6 fun y n c e => ?_, (hS x hx).2⟩, hbl, rfl, hn1, hn2, hn3, fun g hg => ⟨(hG g hg).1, (hG g hg).2.1, (hG g hg).2.2.1, ?_⟩⟩, ⟨hok.up.del _, fun p hp => hok.fit p (mem_delL.1 hp).1, Nat.le_trans (List.length_filter_le _ _) hok.few, hok.blk, hok.h1, hok.h2, hok.h3, hok.h4⟩⟩ (u6.mono fun b hb => .inl (by simp at hb; simp [hb]))
    · have := (hG _ ((hS x hx).2 y n c e)).2.1
      simpa using this
    · obtain ⟨o, ho⟩ := Option.ne_none_iff_exists'.1 (hG g hg).2.2.2
      rw [u6.get ho (by simpa using (hG g hg).2.1)]; simp
theorem Get_ok {h : PH} {a : Nat} {s : St} {F : List Nat} (H : StAt h a s F) (k : Tx) {kk : Value → PH → Prop} (hk : kk (.tuple #[.string (tx (((getL s.now k).map Pr.v).getD [])), .bool (getL s.now k).isSome]) h) :
    CallsH PG id_store_Store_Get #[.pointer (some ⟨a, 0, none⟩), .string (tx k)] h kk := by
  apply store_Store_Get.call
  unfold store_Store_Get
  obtain ⟨m, l, vv, bl, Fb, G, ha, hm, hp, hO, hS, hbl, rfl, hn1, hn2, hn3, hG⟩ := H.here
  have c0 : cellH h ⟨a, 0, none⟩ = some (.map (some m)) := by simp [cellH, ha]
  have hg := getL_perm hp H.ok.up k
  simp only [T_store_Store.f0, T_map_string_string.load, c0, look_eq hm, hg, popO_some, bindH_eq, condV_bool, condV_true, condV_false, yV_bool, gopV_tt, gopV_ff, gopV_tf, gopV_ft, pickV_t, pickV_f, pickV_bool, nilS_ptr, add_eq, sub_eq, mul_eq, lss_eq, leq_eq, gtr_eq, geq_eq, not_eq, minI_eq, maxI_eq, extract_0, extract_1, extract_2, eqlI, neqI, makeFunc_eq, decide_true, decide_false, if_true, if_false, Bool.false_eq_true, Bool.not_true, Bool.not_false, reduceIte, List.getElem?_toArray, List.getElem?_cons_zero, List.getElem?_cons_succ, Option.isSome_none, List.length_map]
  exact hk
theorem SLen_ok {h : PH} {a : Nat} {s : St} {F : List Nat} (H : StAt h a s F) {kk : Value → PH → Prop} (hk : kk (.int .i64 s.now.length) h) : CallsH PG id_store_Store_Len #[.pointer (some ⟨a, 0, none⟩)] h kk := by
  apply store_Store_Len.call
  unfold store_Store_Len
  obtain ⟨m, l, vv, bl, Fb, G, ha, hm, hp, hO, hS, hbl, rfl, hn1, hn2, hn3, hG⟩ := H.here
  have c0 : cellH h ⟨a, 0, none⟩ = some (.map (some m)) := by simp [cellH, ha]
  simp only [T_store_Store.f0, T_map_string_string.load, c0, len_eq hm hp, popO_some, bindH_eq, condV_bool, condV_true, condV_false, yV_bool, gopV_tt, gopV_ff, gopV_tf, gopV_ft, pickV_t, pickV_f, pickV_bool, nilS_ptr, add_eq, sub_eq, mul_eq, lss_eq, leq_eq, gtr_eq, geq_eq, not_eq, minI_eq, maxI_eq, extract_0, extract_1, extract_2, eqlI, neqI, makeFunc_eq, decide_true, decide_false, if_true, if_false, Bool.false_eq_true, Bool.not_true, Bool.not_false, reduceIte, List.getElem?_toArray, List.getElem?_cons_zero, List.getElem?_cons_succ, Option.isSome_none, List.length_map]
  exact hk
theorem Height_ok {h : PH} {a : Nat} {s : St} {F : List Nat} (H : StAt h a s F) {kk : Value → PH → Prop} (hk : kk (.int .u64 s.height) h) : CallsH PG id_store_Store_Height #[.pointer (some ⟨a, 0, none⟩)] h kk := by
  apply store_Store_Height.call
  unfold store_Store_Height
  obtain ⟨m, l, vv, bl, Fb, G, ha, -⟩ := H.here
  have c2 : cellH h ⟨a, 0 + 2, none⟩ = some (.int .u64 s.height) := by simp [cellH, ha]
  simp only [T_store_Store.f2, T_uint64.load, c2, popO_some, bindH_eq, condV_bool, condV_true, condV_false, yV_bool, gopV_tt, gopV_ff, gopV_tf, gopV_ft, pickV_t, pickV_f, pickV_bool, nilS_ptr, add_eq, sub_eq, mul_eq, lss_eq, leq_eq, gtr_eq, geq_eq, not_eq, minI_eq, maxI_eq, extract_0, extract_1, extract_2, eqlI, neqI, makeFunc_eq, decide_true, decide_false, if_true, if_false, Bool.false_eq_true, Bool.not_true, Bool.not_false, reduceIte, List.getElem?_toArray, List.getElem?_cons_zero, List.getElem?_cons_succ, Option.isSome_none, List.length_map]
  exact hk
theorem Blocks_ok {h : PH} {a : Nat} {s : St} {F : List Nat} (H : StAt h a s F) {kk : Value → PH → Prop} (hk : kk (.int .i64 s.blocks.length) h) : CallsH PG id_store_Store_Blocks #[.pointer (some ⟨a, 0, none⟩)] h kk := by
  apply store_Store_Blocks.call
  unfold store_Store_Blocks
  obtain ⟨m, l, vv, bl, Fb, G, ha, hm, hp, hO, hS, hbl, -⟩ := H.here
  have c1 : cellH h ⟨a, 0 + 1, none⟩ = some vv := by simp [cellH, ha]
  have lv := hO.slR.len (t' := T_int) T_sl_store_block.und
  rw [List.length_map, show bl.length = s.blocks.length by rw [← hbl, List.length_map]] at lv
  simp only [T_store_Store.f1, T_sl_store_block.load, c1, lv, popO_some, bindH_eq, condV_bool, condV_true, condV_false, yV_bool, gopV_tt, gopV_ff, gopV_tf, gopV_ft, pickV_t, pickV_f, pickV_bool, nilS_ptr, add_eq, sub_eq, mul_eq, lss_eq, leq_eq, gtr_eq, geq_eq, not_eq, minI_eq, maxI_eq, extract_0, extract_1, extract_2, eqlI, neqI, makeFunc_eq, decide_true, decide_false, if_true, if_false, Bool.false_eq_true, Bool.not_true, Bool.not_false, reduceIte, List.getElem?_toArray, List.getElem?_cons_zero, List.getElem?_cons_succ, Option.isSome_none, List.length_map]
  exact hk
end Go.Proofs.YtllopddcpkhfjaaDoor
