/- store: the document's Commit; a call of both; pairs; few. -/
import Derived.Test.YtllopddcpkhfjaaDoorStoG
set_option linter.unusedSimpArgs false
set_option linter.unusedVariables false
namespace Go.Proofs.YtllopddcpkhfjaaDoor
open Go Bld
set_option maxRecDepth 20000
theorem app_v {h : PH} {v x : Value} {l ys : List (Value × List Pr)} {F : List Nat} (O : OwnR h T_sl_api_Pair 1 v (l.map vcell) F) (S : SlR h 1 x (ys.map vcell)) (hy : ∀ y ∈ ys, isCell y.1 = true) (hl : l.length + ys.length ≤ 1000000) {t : TypeId} {k : Value → PH → Prop}
    (hk : ∀ v' h' F', OwnR h' T_sl_api_Pair 1 v' ((l ++ ys).map vcell) F' → Upd F h h' → (∀ b ∈ F', b ∈ F ∨ h b = none) → k v' h') : SemH PG (Builtin.append_ #[T_sl_sl_api_Pair, T_sl_sl_api_Pair] t #[v, x]) h k := by
  refine append_own T_sl_sl_api_Pair.und T_sl_sl_api_Pair.und T_sl_api_Pair.info T_sl_api_Pair.size T_sl_api_Pair.bytes T_sl_api_Pair.zero rfl (by decide) O S ?_ (by simp; omega) ?_
  · intro r hr u hu
    obtain ⟨y, hyy, rfl⟩ := List.mem_map.1 hr
    simp only [vcell, List.mem_singleton] at hu
    subst hu
    exact hy y hyy
  intro v' h' F' O' u' k' _
  rw [← List.map_append] at O'
  exact hk v' h' F' O' u' k'
theorem SlR.isc {h : PH} {n : Nat} {v : Value} {rows : List (List Value)} (S : SlR h n v rows) : isCell v = true := by obtain ⟨_, _, e, _⟩ := S.here; rw [e]; rfl
theorem RCom_ok {h : PH} {b : Nat} {s : St} {G : List Nat} (H : RfAt h b s G) {kk : Value → PH → Prop} (hk : ∀ h' G', RfAt h' b (sCom s).1 G' → Upd [b] h h' → (∀ g ∈ G', g ∈ G ∨ h g = none) → kk (.tuple #[.int .u64 ((sCom s).2.1 : Int), .int .i64 (sCom s).2.2]) h') :
    CallsH PG id_carrackref11_Store_Commit #[.pointer (some ⟨b, 0, none⟩)] h kk := by
  apply carrackref11_Store_Commit.call
  unfold carrackref11_Store_Commit
  refine RHeight_ok H ?_
  have hok := H.ok
  have hH := H
  have a1 := hok.h1
  have a2 := hok.h2
  have a3 := hok.h3
  have a4 := hok.h4
  by_cases d1 : s.height = 18446744073709551615
  · have e1 : IntKind.u64.wrap ((s.height : Int) + 1) = 0 := by
      rw [d1]; rfl
    simp only [e1, show ((0 : Int) == 0) = true from rfl, popO_some, bindH_eq, condV_bool, condV_true, condV_false, yV_bool, gopV_tt, gopV_ff, gopV_tf, gopV_ft, pickV_t, pickV_f, pickV_bool, nilS_ptr, add_eq, sub_eq, mul_eq, lss_eq, leq_eq, gtr_eq, geq_eq, not_eq, minI_eq, maxI_eq, extract_0, extract_1, extract_2, eqlI, neqI, makeFunc_eq, decide_true, decide_false, if_true, if_false, Bool.false_eq_true, Bool.not_true, Bool.not_false, reduceIte, List.getElem?_toArray, List.getElem?_cons_zero, List.getElem?_cons_succ, Option.isSome_none, List.length_map]
    have hs : sCom s = (s, (0, 12)) := by unfold sCom; rw [if_pos d1]
    rw [hs] at hk
    exact hk h G hH Upd.refl (fun g hg => .inl hg)
  have e1 : IntKind.u64.wrap ((s.height : Int) + 1) = ((s.height + 1 : Nat) : Int) := by rw [u64_wrap (by omega) (by omega)]; omega
  have g1 : (((s.height + 1 : Nat) : Int) == 0) = false := by simp; omega
  obtain ⟨nv, bv, bl, h1, h2, h3, h4, h5, h6, h7, h8, h9⟩ := H.here
  have c0 : cellH h ⟨b, 0, none⟩ = some nv := by simp [cellH, h1]
  have c2 : cellH h ⟨b, 0 + 2, none⟩ = some bv := by simp [cellH, h1]
  have ln := h3.len (t' := T_int) T_sl_sl_api_Pair.und
  have hbn : bl.length = s.blocks.length := by rw [← h5, List.length_map]
  rw [List.length_map, hbn] at ln
  by_cases d2 : 4096 ≤ s.blocks.length
  · have g2 : ((4096 : Int) ≤ (s.blocks.length : Int)) = True := eq_true (by omega)
    simp only [e1, g1, T_carrackref11_Store.f2, T_sl_sl_api_Pair.load, c2, ln, g2, popO_some, bindH_eq, condV_bool, condV_true, condV_false, yV_bool, gopV_tt, gopV_ff, gopV_tf, gopV_ft, pickV_t, pickV_f, pickV_bool, nilS_ptr, add_eq, sub_eq, mul_eq, lss_eq, leq_eq, gtr_eq, geq_eq, not_eq, minI_eq, maxI_eq, extract_0, extract_1, extract_2, eqlI, neqI, makeFunc_eq, decide_true, decide_false, if_true, if_false, Bool.false_eq_true, Bool.not_true, Bool.not_false, reduceIte, List.getElem?_toArray, List.getElem?_cons_zero, List.getElem?_cons_succ, Option.isSome_none, List.length_map]
    have hs : sCom s = (s, (0, 2)) := by unfold sCom; rw [if_neg d1, if_pos d2]
    rw [hs] at hk
    exact hk h G hH Upd.refl (fun g hg => .inl hg)
  have g2 : ((4096 : Int) ≤ (s.blocks.length : Int)) = False := eq_false (by omega)
  have l0 : SemA PG (Instr.buildSlice T_sl_sl_api_Pair 0 #[]) = some (.cells #[] T_sl_api_Pair, fun r => pure (.slice (some ⟨r, 0, none⟩) 0 0)) := by kernel_rfl
  simp only [e1, g1, T_carrackref11_Store.f0, T_carrackref11_Store.f2, T_sl_api_Pair.load, T_sl_sl_api_Pair.load, c0, c2, ln, g2, l0, popO_some, bindH_eq, condV_bool, condV_true, condV_false, yV_bool, gopV_tt, gopV_ff, gopV_tf, gopV_ft, pickV_t, pickV_f, pickV_bool, nilS_ptr, add_eq, sub_eq, mul_eq, lss_eq, leq_eq, gtr_eq, geq_eq, not_eq, minI_eq, maxI_eq, extract_0, extract_1, extract_2, eqlI, neqI, makeFunc_eq, decide_true, decide_false, if_true, if_false, Bool.false_eq_true, Bool.not_true, Bool.not_false, reduceIte, List.getElem?_toArray, List.getElem?_cons_zero, List.getElem?_cons_succ, Option.isSome_none, List.length_map]
  intro r hr'
  refine popO_pure ?_
  try rw [bindH_eq]
  have u1 : Ext h (h.set r (.cells #[] T_sl_api_Pair)) := Upd.new hr'
  have O1 : OwnR (h.set r (.cells #[] T_sl_api_Pair)) T_sl_api_Pair 1 (.slice (some ⟨r, 0, none⟩) 0 0) (([] : List (Value × List Pr)).map vcell) [r] := OwnR.lit (n := 0) (vcell.rows []) set_same (by simp) (by decide) rfl
  generalize h.set r (.cells #[] T_sl_api_Pair) = h1' at *
  have f1 : Fresh h [r] := Fresh.one hr'
  refine app_v O1 (h3.ext u1) (fun y hy => (h4 y hy).1.isc) (by simp; omega) fun v2 h2' F2 O2 u2 k2 => ?_
  rw [List.nil_append] at O2
  have e2 : Ext h h2' := u1.fresh u2 f1
  have f2 : Fresh h F2 := f1.grow u1 k2
  have hb2 := e2.get h1
  refine ⟨by simp [cellH, hb2], ?_⟩
  have hnl : ∃ a n c, nv = .slice a n c := by obtain ⟨a, c, e, _⟩ := h2.here; exact ⟨a, _, c, e⟩
  have l1 : SemA PG (Instr.buildSlice T_sl_sl_api_Pair 1 #[(0, nv)]) = some (.cells #[nv] T_sl_api_Pair, fun r => pure (.slice (some ⟨r, 0, none⟩) 1 1)) := by
    obtain ⟨a, n, c, rfl⟩ := hnl
    kernel_rfl
  simp only [l1, popO_some, bindH_eq, condV_bool, condV_true, condV_false, yV_bool, gopV_tt, gopV_ff, gopV_tf, gopV_ft, pickV_t, pickV_f, pickV_bool, nilS_ptr, add_eq, sub_eq, mul_eq, lss_eq, leq_eq, gtr_eq, geq_eq, not_eq, minI_eq, maxI_eq, extract_0, extract_1, extract_2, eqlI, neqI, makeFunc_eq, decide_true, decide_false, if_true, if_false, Bool.false_eq_true, Bool.not_true, Bool.not_false, reduceIte, List.getElem?_toArray, List.getElem?_cons_zero, List.getElem?_cons_succ, Option.isSome_none, List.length_map]
  intro r3 hr3
  refine popO_pure ?_
  try rw [bindH_eq]
  have u3 : Ext h2' (h2'.set r3 (.cells #[nv] T_sl_api_Pair)) := Upd.new hr3
  have s3 : SlR (h2'.set r3 (.cells #[nv] T_sl_api_Pair)) 1 (.slice (some ⟨r3, 0, none⟩) 1 1) ([((nv : Value), s.now)].map vcell) := (OwnR.lit (n := 1) (vcell.rows [(nv, s.now)]) set_same (by simp) (by decide) rfl).slR
  generalize h2'.set r3 (.cells #[nv] T_sl_api_Pair) = h3' at *
  have e3 : Ext h h3' := e2.trans u3
  refine app_v (O2.ext u3) s3 (fun y hy => by simp only [List.mem_singleton] at hy; subst hy; exact h2.isc) (by simp; omega) fun v5 h5' F5 O5 u5 k5 => ?_
  have e5 : Ext h h5' := e3.fresh u5 f2
  have f5 : Fresh h F5 := f2.grow e3 k5
  have hb5 := e5.get h1
  try simp only [T_carrackref11_Store.f2, popO_some, bindH_eq, condV_bool, condV_true, condV_false, yV_bool, gopV_tt, gopV_ff, gopV_tf, gopV_ft, pickV_t, pickV_f, pickV_bool, nilS_ptr, add_eq, sub_eq, mul_eq, lss_eq, leq_eq, gtr_eq, geq_eq, not_eq, minI_eq, maxI_eq, extract_0, extract_1, extract_2, eqlI, neqI, makeFunc_eq, decide_true, decide_false, if_true, if_false, Bool.false_eq_true, Bool.not_true, Bool.not_false, reduceIte, List.getElem?_toArray, List.getElem?_cons_zero, List.getElem?_cons_succ, Option.isSome_none, List.length_map]
  refine store_cell T_sl_sl_api_Pair.und rfl hb5 (by simp) O5.slR.isc T_sl_sl_api_Pair.info T_sl_sl_api_Pair.size ?_
  have ew : (#[nv, .int .u64 ((s.height - (s.blocks.length - 1) : Nat) : Int), bv] : Array Value).setIfInBounds (0 + 2) v5 = #[nv, .int .u64 ((s.height - (s.blocks.length - 1) : Nat) : Int), v5] := rfl
  rw [ew]
  have u6 : Upd [b] h5' (h5'.set b (.cells #[nv, .int .u64 ((s.height - (s.blocks.length - 1) : Nat) : Int), v5] T_carrackref11_Store (0, 0))) := Upd.set (by simp)
  have b6 : (h5'.set b (.cells #[nv, .int .u64 ((s.height - (s.blocks.length - 1) : Nat) : Int), v5] T_carrackref11_Store (0, 0))) b = some (.cells #[nv, .int .u64 ((s.height - (s.blocks.length - 1) : Nat) : Int), v5] T_carrackref11_Store (0, 0)) := set_same
  generalize h5'.set b (.cells #[nv, .int .u64 ((s.height - (s.blocks.length - 1) : Nat) : Int), v5] T_carrackref11_Store (0, 0)) = h6' at *
  have hs : sCom s = ({ s with blocks := s.blocks ++ [s.now], height := s.height + 1 }, (s.height + 1, 0)) := by unfold sCom; rw [if_neg d1, if_neg d2]
  rw [hs] at hk
  have uu : Upd [b] h h6' := e5.upd.trans u6
  have hG : ∀ g ∈ G, g ∉ [b] := fun g hg => by simp only [List.mem_singleton]; rintro rfl; exact h8 hg
  have hF : ∀ g ∈ F5, g ∉ [b] := fun g hg => by
    simp only [List.mem_singleton]; rintro rfl
    have := f5 _ hg
    rw [h1] at this; cases this
  have O6 := O5.upd u6 hF
  have hnew : RfAt h6' b { s with blocks := s.blocks ++ [s.now], height := s.height + 1 } (G ++ F5) := by
    refine ⟨⟨nv, v5, bl ++ [(nv, s.now)], ?_, h2.upd uu fun a n c e => hG _ (h6 a n c e), O6.slR, fun x hx => ?_, by rw [List.map_append, h5]; rfl, fun a n c e => List.mem_append_left _ (h6 a n c e), fun a n c e => List.mem_append_right _ (inB_own O6 a n c e), ?_, fun g hg => ?_⟩, ?_⟩
    · have eh : s.height + 1 - ((s.blocks ++ [s.now]).length - 1) = s.height - (s.blocks.length - 1) := by
        simp only [List.length_append, List.length_singleton]
        omega
      show h6' b = some (.cells #[nv, .int .u64 ((s.height + 1 - ((s.blocks ++ [s.now]).length - 1) : Nat) : Int), v5] T_carrackref11_Store (0, 0))
      rw [eh]; exact b6
    · rw [List.mem_append] at hx
      rcases hx with hx | hx
      · exact ⟨(h4 x hx).1.upd uu fun a n c e => hG _ ((h4 x hx).2 a n c e), fun a n c e => List.mem_append_left _ ((h4 x hx).2 a n c e)⟩
      · simp only [List.mem_singleton] at hx
        subst hx
        exact ⟨h2.upd uu fun a n c e => hG _ (h6 a n c e), fun a n c e => List.mem_append_left _ (h6 a n c e)⟩
    · intro hm
      rcases List.mem_append.1 hm with hm | hm
      · exact h8 hm
      · exact hF _ hm (by simp)
    · rcases List.mem_append.1 hg with hg | hg
      · obtain ⟨o, ho⟩ := Option.ne_none_iff_exists'.1 (h9 g hg)
        rw [uu.get ho (hG g hg)]; simp
      · exact O6.known g hg
    · refine ⟨hok.up, hok.fit, hok.few, fun b hb => ?_, ?_, ?_, ?_, ?_⟩
      · simp only [List.mem_append, List.mem_singleton] at hb
        rcases hb with hb | rfl
        · exact hok.blk b hb
        · exact ⟨hok.up, hok.fit, hok.few⟩
      · simp
      · simp only [List.length_append, List.length_singleton]; omega
      · simp only [List.length_append, List.length_singleton]; omega
      · show s.height + 1 < 18446744073709551616
        omega
  refine RHeight_ok hnew ?_
  refine hk h6' (G ++ F5) hnew uu fun g hg => ?_
  rcases List.mem_append.1 hg with hg | hg
  · exact .inl hg
  · exact .inr (f5 g hg)
/-! ### a call of both -/
structure Ac where
  kind : Int
  key : Tx
  val : Tx
def Ac.cells (c : Ac) : List Value := [.int .i64 c.kind, .string (tx c.key), .string (tx c.val)]
def Ac.v (c : Ac) : Value := .agg c.cells.toArray
def step (s : St) (c : Ac) : St := if c.kind = 0 then (sSet s c.key c.val).1 else if c.kind = 1 then (sDel s c.key).1 else if c.kind = 2 then (sCom s).1 else s
theorem do_ok {h : PH} {a b : Nat} {s : St} {F G : List Nat} (hK : KAt h) (H : StAt h a s F) (R : RfAt h b s G) (hd : ∀ x ∈ F, x ∉ b :: G) (c : Ac) {kk : Value → PH → Prop}
    (hk : ∀ h' F' G', StAt h' a (step s c) F' → RfAt h' b (step s c) G' → (∀ x ∈ F', x ∉ b :: G') → Upd (F ++ [b]) h h' → (∀ x, x ∈ F' ∨ x ∈ G' → x ∈ F ∨ x ∈ G ∨ h x = none) → kk (.bool true) h') :
    CallsH PG id_carracklaw11_do #[.pointer (some ⟨a, 0, none⟩), .pointer (some ⟨b, 0, none⟩), c.v] h kk := by
  apply carracklaw11_do.call
  unfold carracklaw11_do
  have ec : Value.cells c.v = #[.int .i64 c.kind, .string (tx c.key), .string (tx c.val)] := rfl
  rw [ec]
  intro r hr
  try rw [bindH_eq]
  have u1 : Ext h (h.set r (.cells #[.int .i64 c.kind, .string (tx c.key), .string (tx c.val)] T_carrackref11_Act)) := Upd.new hr
  have a1 : (h.set r (.cells #[.int .i64 c.kind, .string (tx c.key), .string (tx c.val)] T_carrackref11_Act)) r = some (.cells #[.int .i64 c.kind, .string (tx c.key), .string (tx c.val)] T_carrackref11_Act (0, 0)) := set_same
  generalize h.set r (.cells #[.int .i64 c.kind, .string (tx c.key), .string (tx c.val)] T_carrackref11_Act) = h1 at *
  have c0 : cellH h1 ⟨r, 0, none⟩ = some (.int .i64 c.kind) := by simp [cellH, a1]
  have c1 : cellH h1 ⟨r, 0 + 1, none⟩ = some (.string (tx c.key)) := by simp [cellH, a1]
  have c2 : cellH h1 ⟨r, 0 + 2, none⟩ = some (.string (tx c.val)) := by simp [cellH, a1]
  have H1 := H.ext u1
  have R1 := R.ext u1
  have hrF : r ∉ F := fun hm => H.known r hm hr
  have hrb : r ≠ b := fun e => by subst e; exact R.known _ (by simp) hr
  -- both went
  have fin : ∀ {s' : St} {h2 h3 : PH} {F' G' : List Nat}, step s c = s' → StAt h2 a s' F' → Upd F h1 h2 → (∀ x ∈ F', x ∈ F ∨ h1 x = none) → RfAt h3 b s' G' → Upd [b] h2 h3 → (∀ x ∈ G', x ∈ G ∨ h2 x = none) → kk (.bool true) h3 := by
    intro s' h2 h3 F' G' es H2 u2 k2 R3 u3 k3
    subst es
    have hFb : ∀ x ∈ F', x ∉ [b] := fun x hx => by
      rcases k2 x hx with h0 | h0
      · have := hd x h0
        simp only [List.mem_cons, not_or] at this
        simpa using this.1
      · simp only [List.mem_singleton]; rintro rfl
        exact R1.known _ (by simp) h0
    have H3 := H2.upd u3 hFb
    refine hk h3 F' G' H3 R3 (fun x hx => ?_) ((u1.upd.trans (u2.mono fun b hb => .inl (by simp [hb]))).trans (u3.mono fun b hb => .inl (by simp at hb; simp [hb]))) (fun x hx => ?_)
    · simp only [List.mem_cons, not_or]
      refine ⟨by simpa using hFb x hx, fun hg => ?_⟩
      rcases k3 x hg with h0 | h0
      · rcases k2 x hx with h' | h'
        · have := hd x h'
          simp only [List.mem_cons, not_or] at this
          exact this.2 h0
        · exact R1.known x (by simp [h0]) h'
      · exact H2.known x hx h0
    · rcases hx with hx | hx
      · rcases k2 x hx with h0 | h0
        · exact .inl h0
        · exact .inr (.inr (u1.none h0))
      · rcases k3 x hx with h0 | h0
        · exact .inr (.inl h0)
        · by_cases hn : h x = none
          · exact .inr (.inr hn)
          · obtain ⟨o, ho⟩ := Option.ne_none_iff_exists'.1 hn
            by_cases hxF : x ∈ F
            · exact .inl hxF
            · rw [u2.get (u1.get ho) hxF] at h0
              cases h0
  have hRu : ∀ {h2 : PH}, Upd F h1 h2 → RfAt h2 b s G := fun u2 => R1.upd u2 (fun hm => hd b hm (by simp)) (fun g hg hm => hd g hm (by simp [hg]))
  by_cases k0 : c.kind = 0
  · have g0 : (c.kind == 0) = true := by simp [k0]
    have es : step s c = (sSet s c.key c.val).1 := by unfold step; rw [if_pos k0]
    simp only [T_carrackref11_Act.f0, T_carrackref11_Act.f1, T_carrackref11_Act.f2, T_int.load, T_string.load, c0, c1, c2, g0, popO_some, bindH_eq, condV_bool, condV_true, condV_false, yV_bool, gopV_tt, gopV_ff, gopV_tf, gopV_ft, pickV_t, pickV_f, pickV_bool, nilS_ptr, add_eq, sub_eq, mul_eq, lss_eq, leq_eq, gtr_eq, geq_eq, not_eq, minI_eq, maxI_eq, extract_0, extract_1, extract_2, eqlI, neqI, makeFunc_eq, decide_true, decide_false, if_true, if_false, Bool.false_eq_true, Bool.not_true, Bool.not_false, reduceIte, List.getElem?_toArray, List.getElem?_cons_zero, List.getElem?_cons_succ, Option.isSome_none, List.length_map]
    refine Set_ok H1 c.key c.val fun h2 H2 u2 => ?_
    have a2 := u2.get a1 hrF
    refine ⟨by simp [cellH, a2, T_string.load], by simp [cellH, a2, T_string.load], ?_⟩
    refine RSet_ok (hRu u2) c.key c.val fun h3 G3 R3 u3 k3 => ?_
    simp only [beq_self_eq_true, popO_some, bindH_eq, condV_bool, condV_true, condV_false, yV_bool, gopV_tt, gopV_ff, gopV_tf, gopV_ft, pickV_t, pickV_f, pickV_bool, nilS_ptr, add_eq, sub_eq, mul_eq, lss_eq, leq_eq, gtr_eq, geq_eq, not_eq, minI_eq, maxI_eq, extract_0, extract_1, extract_2, eqlI, neqI, makeFunc_eq, decide_true, decide_false, if_true, if_false, Bool.false_eq_true, Bool.not_true, Bool.not_false, reduceIte, List.getElem?_toArray, List.getElem?_cons_zero, List.getElem?_cons_succ, Option.isSome_none, List.length_map]
    exact fin es H2 u2 (fun x hx => .inl hx) R3 u3 k3
  have g0 : (c.kind == 0) = false := by simp [k0]
  by_cases k1 : c.kind = 1
  · have g1 : (c.kind == 1) = true := by simp [k1]
    have es : step s c = (sDel s c.key).1 := by unfold step; rw [if_neg k0, if_pos k1]
    simp only [T_carrackref11_Act.f0, T_carrackref11_Act.f1, T_carrackref11_Act.f2, T_int.load, T_string.load, c0, c1, c2, g0, g1, popO_some, bindH_eq, condV_bool, condV_true, condV_false, yV_bool, gopV_tt, gopV_ff, gopV_tf, gopV_ft, pickV_t, pickV_f, pickV_bool, nilS_ptr, add_eq, sub_eq, mul_eq, lss_eq, leq_eq, gtr_eq, geq_eq, not_eq, minI_eq, maxI_eq, extract_0, extract_1, extract_2, eqlI, neqI, makeFunc_eq, decide_true, decide_false, if_true, if_false, Bool.false_eq_true, Bool.not_true, Bool.not_false, reduceIte, List.getElem?_toArray, List.getElem?_cons_zero, List.getElem?_cons_succ, Option.isSome_none, List.length_map]
    refine Delete_ok H1 c.key fun h2 H2 u2 => ?_
    have a2 := u2.get a1 hrF
    refine ⟨by simp [cellH, a2, T_string.load], ?_⟩
    refine RDel_ok (hRu u2) c.key fun h3 G3 R3 u3 k3 => ?_
    simp only [beq_self_eq_true, popO_some, bindH_eq, condV_bool, condV_true, condV_false, yV_bool, gopV_tt, gopV_ff, gopV_tf, gopV_ft, pickV_t, pickV_f, pickV_bool, nilS_ptr, add_eq, sub_eq, mul_eq, lss_eq, leq_eq, gtr_eq, geq_eq, not_eq, minI_eq, maxI_eq, extract_0, extract_1, extract_2, eqlI, neqI, makeFunc_eq, decide_true, decide_false, if_true, if_false, Bool.false_eq_true, Bool.not_true, Bool.not_false, reduceIte, List.getElem?_toArray, List.getElem?_cons_zero, List.getElem?_cons_succ, Option.isSome_none, List.length_map]
    exact fin es H2 u2 (fun x hx => .inl hx) R3 u3 k3
  have g1 : (c.kind == 1) = false := by simp [k1]
  by_cases k2 : c.kind = 2
  · have g2 : (c.kind == 2) = true := by simp [k2]
    have es : step s c = (sCom s).1 := by unfold step; rw [if_neg k0, if_neg k1, if_pos k2]
    simp only [T_carrackref11_Act.f0, T_int.load, c0, g0, g1, g2, popO_some, bindH_eq, condV_bool, condV_true, condV_false, yV_bool, gopV_tt, gopV_ff, gopV_tf, gopV_ft, pickV_t, pickV_f, pickV_bool, nilS_ptr, add_eq, sub_eq, mul_eq, lss_eq, leq_eq, gtr_eq, geq_eq, not_eq, minI_eq, maxI_eq, extract_0, extract_1, extract_2, eqlI, neqI, makeFunc_eq, decide_true, decide_false, if_true, if_false, Bool.false_eq_true, Bool.not_true, Bool.not_false, reduceIte, List.getElem?_toArray, List.getElem?_cons_zero, List.getElem?_cons_succ, Option.isSome_none, List.length_map]
    refine Commit_ok (hK.ext u1) H1 fun h2 F2 H2 u2 k2 => ?_
    simp only [popO_some, bindH_eq, condV_bool, condV_true, condV_false, yV_bool, gopV_tt, gopV_ff, gopV_tf, gopV_ft, pickV_t, pickV_f, pickV_bool, nilS_ptr, add_eq, sub_eq, mul_eq, lss_eq, leq_eq, gtr_eq, geq_eq, not_eq, minI_eq, maxI_eq, extract_0, extract_1, extract_2, eqlI, neqI, makeFunc_eq, decide_true, decide_false, if_true, if_false, Bool.false_eq_true, Bool.not_true, Bool.not_false, reduceIte, List.getElem?_toArray, List.getElem?_cons_zero, List.getElem?_cons_succ, Option.isSome_none, List.length_map]
    refine RCom_ok (hRu u2) fun h3 G3 R3 u3 k3 => ?_
    simp only [beq_self_eq_true, popO_some, bindH_eq, condV_bool, condV_true, condV_false, yV_bool, gopV_tt, gopV_ff, gopV_tf, gopV_ft, pickV_t, pickV_f, pickV_bool, nilS_ptr, add_eq, sub_eq, mul_eq, lss_eq, leq_eq, gtr_eq, geq_eq, not_eq, minI_eq, maxI_eq, extract_0, extract_1, extract_2, eqlI, neqI, makeFunc_eq, decide_true, decide_false, if_true, if_false, Bool.false_eq_true, Bool.not_true, Bool.not_false, reduceIte, List.getElem?_toArray, List.getElem?_cons_zero, List.getElem?_cons_succ, Option.isSome_none, List.length_map]
    exact fin es H2 u2 k2 R3 u3 k3
  have g2 : (c.kind == 2) = false := by simp [k2]
  have es : step s c = s := by unfold step; rw [if_neg k0, if_neg k1, if_neg k2]
  simp only [T_carrackref11_Act.f0, T_int.load, c0, g0, g1, g2, popO_some, bindH_eq, condV_bool, condV_true, condV_false, yV_bool, gopV_tt, gopV_ff, gopV_tf, gopV_ft, pickV_t, pickV_f, pickV_bool, nilS_ptr, add_eq, sub_eq, mul_eq, lss_eq, leq_eq, gtr_eq, geq_eq, not_eq, minI_eq, maxI_eq, extract_0, extract_1, extract_2, eqlI, neqI, makeFunc_eq, decide_true, decide_false, if_true, if_false, Bool.false_eq_true, Bool.not_true, Bool.not_false, reduceIte, List.getElem?_toArray, List.getElem?_cons_zero, List.getElem?_cons_succ, Option.isSome_none, List.length_map]
  exact fin es H1 Upd.refl (fun x hx => .inl hx) R1 Upd.refl (fun x hx => .inl hx)
/-! ### pairs, few -/
theorem neqPair {h : PH} {x y : Operand} (p q : Pr) : SemE PG h (binS .neq T_api_Pair x y p.val q.val) = some (.bool (!decide (p = q))) := by
  refine neqStruct (by kernel_rfl) ?_
  rw [eqIn_struct T_api_Pair.und (by kernel_rfl) (fun f => match f.offset with | 0 => decide (p.k = q.k) | _ => decide (p.v = q.v))]
  · congr 1
    rw [Bool.eq_iff_iff]
    obtain ⟨a, b⟩ := p
    obtain ⟨a', b'⟩ := q
    simp
  · intro f hf
    simp only [List.mem_cons, List.not_mem_nil, or_false] at hf
    rcases hf with rfl | rfl
    · exact ⟨by decide, _, _, part_cell T_string.und rfl rfl, part_cell T_string.und rfl rfl, eqStr _ _⟩
    · exact ⟨by decide, _, _, part_cell T_string.und rfl rfl, part_cell T_string.und rfl rfl, eqStr _ _⟩
theorem Pairs_ok {h : PH} {v w : Value} {l : List Pr} (S : SlR h 2 v (l.map Pr.cells)) (T : SlR h 2 w (l.map Pr.cells)) {kk : Value → PH → Prop} (hk : kk (.bool true) h) : CallsH PG id_carrackref11_Pairs #[v, w] h kk := by
  apply carrackref11_Pairs.call
  unfold carrackref11_Pairs
  have lv := S.len (t' := T_int) T_sl_api_Pair.und
  have lw := T.len (t' := T_int) T_sl_api_Pair.und
  have hsm := S.small
  unfold maxL at hsm
  rw [List.length_map] at lv lw hsm
  simp only [lv, lw, bne_self_eq_false, popO_some, bindH_eq, condV_bool, condV_true, condV_false, yV_bool, gopV_tt, gopV_ff, gopV_tf, gopV_ft, pickV_t, pickV_f, pickV_bool, nilS_ptr, add_eq, sub_eq, mul_eq, lss_eq, leq_eq, gtr_eq, geq_eq, not_eq, minI_eq, maxI_eq, extract_0, extract_1, extract_2, eqlI, neqI, makeFunc_eq, decide_true, decide_false, if_true, if_false, Bool.false_eq_true, Bool.not_true, Bool.not_false, reduceIte, List.getElem?_toArray, List.getElem?_cons_zero, List.getElem?_cons_succ, Option.isSome_none, List.length_map]
  refine ⟨fun vs h' => ∃ i, i ≤ l.length ∧ vs = [v, w, .int .i64 (i : Int)] ∧ h' = h, upTo l.length 2, ⟨0, by omega, rfl, rfl⟩, ?_⟩
  rintro ρ h' ⟨i, hi, hvs, rfl⟩
  simp only [List.map_cons, List.map_nil, List.cons.injEq, and_true] at hvs
  obtain ⟨v0, v1, v5⟩ := hvs
  simp only [v0, v1, v5, List.map_cons, List.map_nil]
  unfold carrackref11_Pairs_b5
  by_cases hl : i < l.length
  · have g1 : ((i : Int) < (l.length : Int)) = True := eq_true (by omega)
    have gi : IntKind.i64.wrap ((i : Int) + 1) = ((i + 1 : Nat) : Int) := by rw [i64_wrap (by omega) (by omega)]; omega
    obtain ⟨b1, o1, p1, -, -, p4⟩ := S.pair (j := i) (p := l[i]) (List.getElem?_eq_getElem hl)
    obtain ⟨b2, o2, q1, -, -, q4⟩ := T.pair (j := i) (p := l[i]) (List.getElem?_eq_getElem hl)
    simp only [lv, g1, p1, p4, q1, q4, neqPair, gi, decide_true, popO_some, bindH_eq, condV_bool, condV_true, condV_false, yV_bool, gopV_tt, gopV_ff, gopV_tf, gopV_ft, pickV_t, pickV_f, pickV_bool, nilS_ptr, add_eq, sub_eq, mul_eq, lss_eq, leq_eq, gtr_eq, geq_eq, not_eq, minI_eq, maxI_eq, extract_0, extract_1, extract_2, eqlI, neqI, makeFunc_eq, decide_true, decide_false, if_true, if_false, Bool.false_eq_true, Bool.not_true, Bool.not_false, reduceIte, List.getElem?_toArray, List.getElem?_cons_zero, List.getElem?_cons_succ, Option.isSome_none, List.length_map]
    refine ⟨⟨i + 1, by omega, rfl, (by trivial)⟩, ?_⟩
    simp only [upTo, List.getElem?_cons_succ, List.getElem?_cons_zero]
    omega
  · have g1 : ((i : Int) < (l.length : Int)) = False := eq_false (by omega)
    simp only [lv, g1, popO_some, bindH_eq, condV_bool, condV_true, condV_false, yV_bool, gopV_tt, gopV_ff, gopV_tf, gopV_ft, pickV_t, pickV_f, pickV_bool, nilS_ptr, add_eq, sub_eq, mul_eq, lss_eq, leq_eq, gtr_eq, geq_eq, not_eq, minI_eq, maxI_eq, extract_0, extract_1, extract_2, eqlI, neqI, makeFunc_eq, decide_true, decide_false, if_true, if_false, Bool.false_eq_true, Bool.not_true, Bool.not_false, reduceIte, List.getElem?_toArray, List.getElem?_cons_zero, List.getElem?_cons_succ, Option.isSome_none, List.length_map]
    exact hk
theorem Ac.rows (l : List Ac) : Rows 3 (l.map Ac.cells) := fun r hr => by
  obtain ⟨p, -, rfl⟩ := List.mem_map.1 hr; rfl
theorem SlR.act {h : PH} {v : Value} {l : List Ac} (S : SlR h 3 v (l.map Ac.cells)) {j : Nat} {p : Ac} (hp : l[j]? = some p) :
    ∃ b o, SemP PG (Instr.indexAt T_sl_carrackref11_Act v (.int .i64 (j : Int))) = some (.pointer (some ⟨b, o, none⟩)) ∧ cellH h ⟨b, o + 1, none⟩ = some (.string (tx p.key)) ∧ cellH h ⟨b, o + 2, none⟩ = some (.string (tx p.val)) ∧ SemE PG h (Instr.loadAt T_carrackref11_Act (.pointer (some ⟨b, o, none⟩))) = some p.v := by
  obtain ⟨b, o, h1, h2, h3⟩ := S.fields T_sl_carrackref11_Act.und T_carrackref11_Act.info T_carrackref11_Act.size (k := .i64) (j := j) (r := p.cells) (by rw [List.getElem?_map, hp]; rfl)
  exact ⟨b, o, h1, h2 1 _ rfl, h2 2 _ rfl, h3 _ T_carrackref11_Act.und rfl⟩
structure Few (l : List Ac) : Prop where
  few : l.length ≤ 60
  key : ∀ c ∈ l, c.key.length ≤ 300
  val : ∀ c ∈ l, c.val.length ≤ 300
theorem few_ok {h : PH} {v : Value} {l : List Ac} (S : SlR h 3 v (l.map Ac.cells)) {kk : Value → PH → Prop} (hg : Few l → kk (.bool true) h) (hb : ¬ Few l → kk (.bool false) h) : CallsH PG id_carracklaw11_few #[v] h kk := by
  apply carracklaw11_few.call
  unfold carracklaw11_few
  have lv := S.len (t' := T_int) T_sl_carrackref11_Act.und
  rw [List.length_map] at lv
  by_cases hf : l.length ≤ 60
  · have e1 : ((60 : Int) < (l.length : Int)) = False := eq_false (by omega)
    simp only [lv, e1, popO_some, bindH_eq, condV_bool, condV_true, condV_false, yV_bool, gopV_tt, gopV_ff, gopV_tf, gopV_ft, pickV_t, pickV_f, pickV_bool, nilS_ptr, add_eq, sub_eq, mul_eq, lss_eq, leq_eq, gtr_eq, geq_eq, not_eq, minI_eq, maxI_eq, extract_0, extract_1, extract_2, eqlI, neqI, makeFunc_eq, decide_true, decide_false, if_true, if_false, Bool.false_eq_true, Bool.not_true, Bool.not_false, reduceIte, List.getElem?_toArray, List.getElem?_cons_zero, List.getElem?_cons_succ, Option.isSome_none, List.length_map]
    refine ⟨fun vs h' => ∃ i, i ≤ l.length ∧ vs = [v, .int .i64 (i : Int)] ∧ h' = h ∧ ∀ c ∈ l.take i, c.key.length ≤ 300 ∧ c.val.length ≤ 300, upTo l.length 1, ⟨0, by omega, rfl, rfl, by simp⟩, ?_⟩
    rintro ρ h' ⟨i, hi, hvs, rfl, hs⟩
    simp only [List.map_cons, List.map_nil, List.cons.injEq, and_true] at hvs
    obtain ⟨v0, v3⟩ := hvs
    simp only [v0, v3, List.map_cons, List.map_nil]
    unfold carracklaw11_few_b4
    by_cases hl : i < l.length
    · have g1 : ((i : Int) < (l.length : Int)) = True := eq_true (by omega)
      have gi : IntKind.i64.wrap ((i : Int) + 1) = ((i + 1 : Nat) : Int) := by rw [i64_wrap (by omega) (by omega)]; omega
      obtain ⟨b, o, p1, p2, p3, -⟩ := S.act (j := i) (p := l[i]) (List.getElem?_eq_getElem hl)
      have htk : l.take (i + 1) = l.take i ++ [l[i]] := List.take_succ_eq_append_getElem hl
      have hmem : l[i] ∈ l := List.getElem_mem hl
      generalize l[i] = c at *
      by_cases d1 : 300 < c.key.length
      · have g2 : ((300 : Int) < (c.key.length : Int)) = True := eq_true (by omega)
        simp only [lv, g1, p1, T_carrackref11_Act.f1, T_string.load, p2, T_string.len, tx_size, g2, popO_some, bindH_eq, condV_bool, condV_true, condV_false, yV_bool, gopV_tt, gopV_ff, gopV_tf, gopV_ft, pickV_t, pickV_f, pickV_bool, nilS_ptr, add_eq, sub_eq, mul_eq, lss_eq, leq_eq, gtr_eq, geq_eq, not_eq, minI_eq, maxI_eq, extract_0, extract_1, extract_2, eqlI, neqI, makeFunc_eq, decide_true, decide_false, if_true, if_false, Bool.false_eq_true, Bool.not_true, Bool.not_false, reduceIte, List.getElem?_toArray, List.getElem?_cons_zero, List.getElem?_cons_succ, Option.isSome_none, List.length_map]
        exact hb (fun hh => by have := hh.key c hmem; omega)
      have g2 : ((300 : Int) < (c.key.length : Int)) = False := eq_false (by omega)
      by_cases d2 : 300 < c.val.length
      · have g3 : ((300 : Int) < (c.val.length : Int)) = True := eq_true (by omega)
        simp only [lv, g1, p1, T_carrackref11_Act.f1, T_carrackref11_Act.f2, T_string.load, p2, p3, T_string.len, tx_size, g2, g3, popO_some, bindH_eq, condV_bool, condV_true, condV_false, yV_bool, gopV_tt, gopV_ff, gopV_tf, gopV_ft, pickV_t, pickV_f, pickV_bool, nilS_ptr, add_eq, sub_eq, mul_eq, lss_eq, leq_eq, gtr_eq, geq_eq, not_eq, minI_eq, maxI_eq, extract_0, extract_1, extract_2, eqlI, neqI, makeFunc_eq, decide_true, decide_false, if_true, if_false, Bool.false_eq_true, Bool.not_true, Bool.not_false, reduceIte, List.getElem?_toArray, List.getElem?_cons_zero, List.getElem?_cons_succ, Option.isSome_none, List.length_map]
        exact hb (fun hh => by have := hh.val c hmem; omega)
      have g3 : ((300 : Int) < (c.val.length : Int)) = False := eq_false (by omega)
      simp only [lv, g1, p1, T_carrackref11_Act.f1, T_carrackref11_Act.f2, T_string.load, p2, p3, T_string.len, tx_size, g2, g3, gi, popO_some, bindH_eq, condV_bool, condV_true, condV_false, yV_bool, gopV_tt, gopV_ff, gopV_tf, gopV_ft, pickV_t, pickV_f, pickV_bool, nilS_ptr, add_eq, sub_eq, mul_eq, lss_eq, leq_eq, gtr_eq, geq_eq, not_eq, minI_eq, maxI_eq, extract_0, extract_1, extract_2, eqlI, neqI, makeFunc_eq, decide_true, decide_false, if_true, if_false, Bool.false_eq_true, Bool.not_true, Bool.not_false, reduceIte, List.getElem?_toArray, List.getElem?_cons_zero, List.getElem?_cons_succ, Option.isSome_none, List.length_map]
      refine ⟨⟨i + 1, by omega, rfl, (by trivial), fun x hx => ?_⟩, ?_⟩
      · rw [htk, List.mem_append, List.mem_singleton] at hx
        rcases hx with hx | rfl
        · exact hs x hx
        · exact ⟨by omega, by omega⟩
      · simp only [upTo, List.getElem?_cons_succ, List.getElem?_cons_zero]
        omega
    · have g1 : ((i : Int) < (l.length : Int)) = False := eq_false (by omega)
      rw [List.take_of_length_le (by omega)] at hs
      simp only [lv, g1, popO_some, bindH_eq, condV_bool, condV_true, condV_false, yV_bool, gopV_tt, gopV_ff, gopV_tf, gopV_ft, pickV_t, pickV_f, pickV_bool, nilS_ptr, add_eq, sub_eq, mul_eq, lss_eq, leq_eq, gtr_eq, geq_eq, not_eq, minI_eq, maxI_eq, extract_0, extract_1, extract_2, eqlI, neqI, makeFunc_eq, decide_true, decide_false, if_true, if_false, Bool.false_eq_true, Bool.not_true, Bool.not_false, reduceIte, List.getElem?_toArray, List.getElem?_cons_zero, List.getElem?_cons_succ, Option.isSome_none, List.length_map]
      exact hg ⟨hf, fun c hc => (hs c hc).1, fun c hc => (hs c hc).2⟩
  · have e1 : ((60 : Int) < (l.length : Int)) = True := eq_true (by omega)
    simp only [lv, e1, popO_some, bindH_eq, condV_bool, condV_true, condV_false, yV_bool, gopV_tt, gopV_ff, gopV_tf, gopV_ft, pickV_t, pickV_f, pickV_bool, nilS_ptr, add_eq, sub_eq, mul_eq, lss_eq, leq_eq, gtr_eq, geq_eq, not_eq, minI_eq, maxI_eq, extract_0, extract_1, extract_2, eqlI, neqI, makeFunc_eq, decide_true, decide_false, if_true, if_false, Bool.false_eq_true, Bool.not_true, Bool.not_false, reduceIte, List.getElem?_toArray, List.getElem?_cons_zero, List.getElem?_cons_succ, Option.isSome_none, List.length_map]
    exact hb (fun hh => hf hh.few)
end Go.Proofs.YtllopddcpkhfjaaDoor
