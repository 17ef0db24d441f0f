/- store: Commit. -/
import Derived.Test.YtllopddcpkhfjaaDoorStoQ
set_option linter.unusedSimpArgs false
set_option linter.unusedVariables false
namespace Go.Proofs.YtllopddcpkhfjaaDoor
open Go Bld
set_option maxRecDepth 20000
def unP (q : Tx × Value) : Pr := match q.2 with
  | Value.string t => ⟨q.1, t.data.toList⟩
  | _ => ⟨[], []⟩
theorem unP_pr (p : Pr) : unP p.pr = p := by
  obtain ⟨k, v⟩ := p
  simp [unP, Pr.pr, skey, tx]
theorem un_pr (l : List Pr) : (l.map Pr.pr).map unP = l := by
  rw [List.map_map]
  have : unP ∘ Pr.pr = id := by funext p; exact unP_pr p
  rw [this, List.map_id]
theorem perm_un {a b : List Pr} (h : (a.map Pr.pr).Perm (b.map Pr.pr)) : a.Perm b := by
  have := h.map unP
  rw [un_pr, un_pr] at this
  exact this
theorem Up.of {l L : List Pr} (hp : l.Perm L) (hs : Up L) (ho : l.Pairwise fun a b => ¬ b.k < a.k) : l = L := by
  have hk : (l.map Pr.k).Nodup := (hp.map Pr.k).nodup_iff.2 hs.keys
  have hu : Up l := by
    unfold List.Nodup at hk
    rw [List.pairwise_map] at hk
    have := ho.and hk
    refine List.Pairwise.imp (fun {a b} hab => ?_) this
    obtain ⟨h1, h2⟩ := hab
    rcases tx_total a.k b.k with h | h | h
    · exact h
    · exact absurd h h2
    · exact absurd h h1
  exact hu.ext hs fun p => hp.mem_iff
theorem pr_build (p : Pr) : SemP PG (Instr.build T_api_Pair #[(0, .string (tx p.k)), (1, .string (tx p.v))]) = some p.val := by kernel_rfl
theorem pr_lit (p : Pr) : SemA PG (Instr.buildSlice T_sl_api_Pair 1 #[(0, p.val)]) = some (.cells #[.string (tx p.k), .string (tx p.v)] T_api_Pair, fun r => pure (.slice (some ⟨r, 0, none⟩) 1 1)) := by kernel_rfl
theorem so_build (a : Option Addr) (n c : Nat) : SemP PG (Instr.build T_store_sorted #[(0, .slice a n c)]) = some (.agg #[.slice a n c]) := by kernel_rfl
theorem bl_build (a : Option Addr) (n c : Nat) (d : ByteArray) : SemP PG (Instr.build T_store_block #[(0, .agg #[.slice a n c]), (1, .string d)]) = some (.agg #[.slice a n c, .string d]) := by kernel_rfl
theorem bl_lit (a : Option Addr) (n c : Nat) (d : ByteArray) : SemA PG (Instr.buildSlice T_sl_store_block 1 #[(0, .agg #[.slice a n c, .string d])]) = some (.cells #[.slice a n c, .string d] T_store_block, fun r => pure (.slice (some ⟨r, 0, none⟩) 1 1)) := by kernel_rfl
theorem Commit_ok {h : PH} {a : Nat} {s : St} {F : List Nat} (hK : KAt h) (H : StAt h a s F) {k : Value → PH → Prop} (hk : ∀ h' F', StAt h' a (sCom s).1 F' → Upd F h h' → (∀ b ∈ F', b ∈ F ∨ h b = none) → k (.tuple #[.int .u64 ((sCom s).2.1 : Int), .int .i64 (sCom s).2.2]) h') :
    CallsH PG id_store_Store_Commit #[.pointer (some ⟨a, 0, none⟩)] h k := by
  apply store_Store_Commit.call
  unfold store_Store_Commit
  have hok := H.ok
  have hH := H
  have hkn := H.known
  obtain ⟨m, l, vv, bl, Fb, G, ha, hm, hp, hO, hS, hbl, rfl, hn1, hn2, hn3, hG⟩ := H.here
  have c0 : cellH h ⟨a, 0, none⟩ = some (.map (some m)) := by simp [cellH, ha]
  have c1 : cellH h ⟨a, 0 + 1, none⟩ = some vv := by simp [cellH, ha]
  have c2 : cellH h ⟨a, 0 + 2, none⟩ = some (.int .u64 s.height) := by simp [cellH, ha]
  have h4 := hok.h4
  by_cases d1 : s.height = 18446744073709551615
  · have g1 : ((s.height : Int) == 18446744073709551615) = true := by simp; omega
    simp only [T_store_Store.f2, T_uint64.load, c2, g1, popO_some, bindH_eq, condV_bool, condV_true, condV_false, yV_bool, gopV_tt, gopV_ff, gopV_tf, gopV_ft, pickV_t, pickV_f, pickV_bool, nilS_ptr, add_eq, sub_eq, mul_eq, lss_eq, leq_eq, gtr_eq, geq_eq, not_eq, minI_eq, maxI_eq, extract_0, extract_1, extract_2, eqlI, neqI, makeFunc_eq, decide_true, decide_false, if_true, if_false, Bool.false_eq_true, Bool.not_true, Bool.not_false, reduceIte, List.getElem?_toArray, List.getElem?_cons_zero, List.getElem?_cons_succ, Option.isSome_none, List.length_map]
    have hs : sCom s = (s, (0, 12)) := by unfold sCom; rw [if_pos d1]
    rw [hs] at hk
    exact hk h _ hH Upd.refl (fun b hb => .inl hb)
  have g1 : ((s.height : Int) == 18446744073709551615) = false := by simp; omega
  have lv := hO.slR.len (t' := T_int) T_sl_store_block.und
  have hbn : bl.length = s.blocks.length := by rw [← hbl, List.length_map]
  rw [List.length_map, hbn] at lv
  by_cases d2 : 4096 ≤ s.blocks.length
  · have g2 : ((4096 : Int) ≤ ((s.blocks.length : Nat) : Int)) = True := eq_true (by omega)
    simp only [T_store_Store.f2, T_store_Store.f1, T_uint64.load, T_sl_store_block.load, c1, c2, lv, g1, g2, popO_some, bindH_eq, condV_bool, condV_true, condV_false, yV_bool, gopV_tt, gopV_ff, gopV_tf, gopV_ft, pickV_t, pickV_f, pickV_bool, nilS_ptr, add_eq, sub_eq, mul_eq, lss_eq, leq_eq, gtr_eq, geq_eq, not_eq, minI_eq, maxI_eq, extract_0, extract_1, extract_2, eqlI, neqI, makeFunc_eq, decide_true, decide_false, if_true, if_false, Bool.false_eq_true, Bool.not_true, Bool.not_false, reduceIte, List.getElem?_toArray, List.getElem?_cons_zero, List.getElem?_cons_succ, Option.isSome_none, List.length_map]
    have hs : sCom s = (s, (0, 2)) := by unfold sCom; rw [if_neg d1, if_pos d2]
    rw [hs] at hk
    exact hk h _ hH Upd.refl (fun b hb => .inl hb)
  have g2 : ((4096 : Int) ≤ ((s.blocks.length : Nat) : Int)) = False := eq_false (by omega)
  simp only [T_store_Store.f2, T_store_Store.f1, T_store_Store.f0, T_uint64.load, T_sl_store_block.load, T_map_string_string.load, c0, c1, c2, lv, g1, g2, popO_some, bindH_eq, condV_bool, condV_true, condV_false, yV_bool, gopV_tt, gopV_ff, gopV_tf, gopV_ft, pickV_t, pickV_f, pickV_bool, nilS_ptr, add_eq, sub_eq, mul_eq, lss_eq, leq_eq, gtr_eq, geq_eq, not_eq, minI_eq, maxI_eq, extract_0, extract_1, extract_2, eqlI, neqI, makeFunc_eq, decide_true, decide_false, if_true, if_false, Bool.false_eq_true, Bool.not_true, Bool.not_false, reduceIte, List.getElem?_toArray, List.getElem?_cons_zero, List.getElem?_cons_succ, Option.isSome_none, List.length_map]
  refine range_it T_map_string_string.und hm fun it h1 hit HI u1 => ?_
  have hll : l.length ≤ 4096 := by rw [hp.length_eq]; exact hok.few
  refine ⟨fun vs h' => ∃ (pre : List Pr) (v : Value) (Fl : List Nat), vs = [.pointer (some ⟨a, 0, none⟩), v, .pointer (some ⟨it, 0, none⟩)] ∧ MapIt skey h' m it (l.map Pr.pr) (pre.map Pr.pr) ∧ OwnR h' T_api_Pair 2 v (pre.map Pr.cells) Fl ∧ Fresh h Fl ∧ it ∉ Fl ∧ Ext h h', fun _ h' => itLeft l.length it h', ⟨[], _, [], rfl, HI, OwnR.nil, (fun b hb => by cases hb), by simp, u1⟩, ?_⟩
  rintro ρ h' ⟨pre, v, Fl, hvs, HI, O, fl, hil, u⟩
  simp only [List.map_cons, List.map_nil, List.cons.injEq, and_true] at hvs
  obtain ⟨v0, v4, v24⟩ := hvs
  simp only [v0, v4, v24, List.map_cons, List.map_nil]
  unfold store_Store_Commit_b16
  have hlen := HI.le
  rw [List.length_map, List.length_map] at hlen
  refine next_it HI (fun hperm => ?_) (fun ky vl h2 hmem hnot HI2 u2 => ?_)
  · -- all are gathered
    have hpp : pre.Perm s.now := (perm_un hperm).trans hp
    simp only [popO_some, bindH_eq, condV_bool, condV_true, condV_false, yV_bool, gopV_tt, gopV_ff, gopV_tf, gopV_ft, pickV_t, pickV_f, pickV_bool, nilS_ptr, add_eq, sub_eq, mul_eq, lss_eq, leq_eq, gtr_eq, geq_eq, not_eq, minI_eq, maxI_eq, extract_0, extract_1, extract_2, eqlI, neqI, makeFunc_eq, decide_true, decide_false, if_true, if_false, Bool.false_eq_true, Bool.not_true, Bool.not_false, reduceIte, List.getElem?_toArray, List.getElem?_cons_zero, List.getElem?_cons_succ, Option.isSome_none, List.length_map]
    refine Sort_ok O (by omega) fun l' h2 hp2 hs2 O2 u2 => ?_
    have hl' : l' = s.now := Up.of (hp2.trans hpp) hok.up hs2
    subst hl'
    have e2 : Ext h h2 := u.fresh u2 fl
    have ha2 := e2.get ha
    have c1 : cellH h2 ⟨a, 0 + 1, none⟩ = some vv := by simp [cellH, ha2]
    obtain ⟨va, cap, hv, -⟩ := O2.slR.here
    rw [List.length_map] at hv
    have hsl := O2.slR
    rw [hv] at hsl
    simp only [T_store_Store.f1, T_sl_store_block.load, c1, hv, so_build, popO_some, bindH_eq, condV_bool, condV_true, condV_false, yV_bool, gopV_tt, gopV_ff, gopV_tf, gopV_ft, pickV_t, pickV_f, pickV_bool, nilS_ptr, add_eq, sub_eq, mul_eq, lss_eq, leq_eq, gtr_eq, geq_eq, not_eq, minI_eq, maxI_eq, extract_0, extract_1, extract_2, eqlI, neqI, makeFunc_eq, decide_true, decide_false, if_true, if_false, Bool.false_eq_true, Bool.not_true, Bool.not_false, reduceIte, List.getElem?_toArray, List.getElem?_cons_zero, List.getElem?_cons_succ, Option.isSome_none, List.length_map]
    refine Root_ok (by have := hok.few; omega) (hK.ext e2) hsl (fun p hp => by have := hok.fit p hp; unfold Fit at this; omega) fun h3 u3 => ?_
    have e3 := e2.trans u3
    have ha3 := e3.get ha
    refine ⟨by simp [cellH, ha3], ?_⟩
    simp only [bl_build, bl_lit, popO_some, bindH_eq, condV_bool, condV_true, condV_false, yV_bool, gopV_tt, gopV_ff, gopV_tf, gopV_ft, pickV_t, pickV_f, pickV_bool, nilS_ptr, add_eq, sub_eq, mul_eq, lss_eq, leq_eq, gtr_eq, geq_eq, not_eq, minI_eq, maxI_eq, extract_0, extract_1, extract_2, eqlI, neqI, makeFunc_eq, decide_true, decide_false, if_true, if_false, Bool.false_eq_true, Bool.not_true, Bool.not_false, reduceIte, List.getElem?_toArray, List.getElem?_cons_zero, List.getElem?_cons_succ, Option.isSome_none, List.length_map]
    intro r hr
    refine popO_pure ?_
    try rw [bindH_eq]
    have u4 : Ext h3 (h3.set r (.cells #[.slice va s.now.length cap, .string (tx (rootP s.now))] T_store_block)) := Upd.new hr
    have s4 : SlR (h3.set r (.cells #[.slice va s.now.length cap, .string (tx (rootP s.now))] T_store_block)) 2 (.slice (some ⟨r, 0, none⟩) 1 1) ([((.slice va s.now.length cap : Value), s.now)].map brow) := (OwnR.lit (n := 1) (brow.rows [((.slice va s.now.length cap : Value), s.now)]) set_same (by simp) (by decide) rfl).slR
    generalize h3.set r (.cells #[.slice va s.now.length cap, .string (tx (rootP s.now))] T_store_block) = h4' at *
    have e4 := e3.trans u4
    have hO4 := hO.ext e4
    refine append_own T_sl_store_block.und T_sl_store_block.und T_store_block.info T_store_block.size T_store_block.bytes T_store_block.zero rfl (by decide) hO4 s4 ?_ (by simp only [List.length_map, List.length_singleton]; omega) ?_
    · intro r hr u hu
      obtain ⟨y, hy, rfl⟩ := List.mem_map.1 hr
      simp only [List.mem_singleton] at hy
      subst hy
      simp only [brow, List.mem_cons, List.not_mem_nil, or_false] at hu
      rcases hu with rfl | rfl <;> rfl
    intro v5 h5 F5 O5 u5 k5 _
    have ha4 := e4.get ha
    have ha5 := u5.get ha4 hn2
    obtain ⟨x5, y5, hv5, -⟩ := O5.slR.here
    have hvc : isCell v5 = true := by rw [hv5]; rfl
    try simp only [T_store_Store.f1, popO_some, bindH_eq, condV_bool, condV_true, condV_false, yV_bool, gopV_tt, gopV_ff, gopV_tf, gopV_ft, pickV_t, pickV_f, pickV_bool, nilS_ptr, add_eq, sub_eq, mul_eq, lss_eq, leq_eq, gtr_eq, geq_eq, not_eq, minI_eq, maxI_eq, extract_0, extract_1, extract_2, eqlI, neqI, makeFunc_eq, decide_true, decide_false, if_true, if_false, Bool.false_eq_true, Bool.not_true, Bool.not_false, reduceIte, List.getElem?_toArray, List.getElem?_cons_zero, List.getElem?_cons_succ, Option.isSome_none, List.length_map]
    refine store_cell T_sl_store_block.und rfl ha5 (by simp) hvc T_sl_store_block.info T_sl_store_block.size ?_
    have ew1 : (#[(Value.map (some m)), vv, .int .u64 (s.height : Int)] : Array Value).setIfInBounds (0 + 1) v5 = #[.map (some m), v5, .int .u64 (s.height : Int)] := rfl
    rw [ew1]
    have u6 : Upd [a] h5 (h5.set a (.cells #[.map (some m), v5, .int .u64 (s.height : Int)] T_store_Store (0, 0))) := Upd.set (by simp)
    have a6 : (h5.set a (.cells #[.map (some m), v5, .int .u64 (s.height : Int)] T_store_Store (0, 0))) a = some (.cells #[.map (some m), v5, .int .u64 (s.height : Int)] T_store_Store (0, 0)) := set_same
    generalize h5.set a (.cells #[.map (some m), v5, .int .u64 (s.height : Int)] T_store_Store (0, 0)) = h6 at *
    have c2 : cellH h6 ⟨a, 0 + 2, none⟩ = some (.int .u64 s.height) := by simp [cellH, a6]
    have ei : IntKind.u64.wrap ((s.height : Int) + 1) = ((s.height + 1 : Nat) : Int) := by rw [u64_wrap (by omega) (by omega)]; omega
    simp only [T_store_Store.f2, T_uint64.load, c2, ei, popO_some, bindH_eq, condV_bool, condV_true, condV_false, yV_bool, gopV_tt, gopV_ff, gopV_tf, gopV_ft, pickV_t, pickV_f, pickV_bool, nilS_ptr, add_eq, sub_eq, mul_eq, lss_eq, leq_eq, gtr_eq, geq_eq, not_eq, minI_eq, maxI_eq, extract_0, extract_1, extract_2, eqlI, neqI, makeFunc_eq, decide_true, decide_false, if_true, if_false, Bool.false_eq_true, Bool.not_true, Bool.not_false, reduceIte, List.getElem?_toArray, List.getElem?_cons_zero, List.getElem?_cons_succ, Option.isSome_none, List.length_map]
    refine store_cell T_uint64.und rfl a6 (by simp) rfl T_uint64.info T_uint64.size ?_
    have ew2 : (#[(Value.map (some m)), v5, .int .u64 (s.height : Int)] : Array Value).setIfInBounds (0 + 2) (.int .u64 ((s.height + 1 : Nat) : Int)) = #[.map (some m), v5, .int .u64 ((s.height + 1 : Nat) : Int)] := rfl
    rw [ew2]
    have u7 : Upd [a] h6 (h6.set a (.cells #[.map (some m), v5, .int .u64 ((s.height + 1 : Nat) : Int)] T_store_Store (0, 0))) := Upd.set (by simp)
    have a7 : (h6.set a (.cells #[.map (some m), v5, .int .u64 ((s.height + 1 : Nat) : Int)] T_store_Store (0, 0))) a = some (.cells #[.map (some m), v5, .int .u64 ((s.height + 1 : Nat) : Int)] T_store_Store (0, 0)) := set_same
    generalize h6.set a (.cells #[.map (some m), v5, .int .u64 ((s.height + 1 : Nat) : Int)] T_store_Store (0, 0)) = h7 at *
    have c2 : cellH h7 ⟨a, 0 + 2, none⟩ = some (.int .u64 ((s.height + 1 : Nat) : Int)) := by simp [cellH, a7]
    simp only [T_store_Store.f2, T_uint64.load, c2, popO_some, bindH_eq, condV_bool, condV_true, condV_false, yV_bool, gopV_tt, gopV_ff, gopV_tf, gopV_ft, pickV_t, pickV_f, pickV_bool, nilS_ptr, add_eq, sub_eq, mul_eq, lss_eq, leq_eq, gtr_eq, geq_eq, not_eq, minI_eq, maxI_eq, extract_0, extract_1, extract_2, eqlI, neqI, makeFunc_eq, decide_true, decide_false, if_true, if_false, Bool.false_eq_true, Bool.not_true, Bool.not_false, reduceIte, List.getElem?_toArray, List.getElem?_cons_zero, List.getElem?_cons_succ, Option.isSome_none, List.length_map]
    have hs : sCom s = ({ s with blocks := s.blocks ++ [s.now], height := s.height + 1 }, (s.height + 1, 0)) := by unfold sCom; rw [if_neg d1, if_neg d2]
    rw [hs] at hk
    -- what was changed
    have w5 : Upd (a :: Fb) h4' h5 := u5.mono fun b hb => .inl (by simp [hb])
    have w7 : Upd (a :: Fb) h5 h7 := (u6.trans u7).mono fun b hb => .inl (by simp at hb; simp [hb])
    have w : Upd (a :: Fb) h4' h7 := w5.trans w7
    have wh : Upd (a :: Fb) h h7 := e4.upd.trans w
    have hflh : ∀ b ∈ Fl, b ≠ a ∧ b ≠ m ∧ b ∉ Fb := fun b hb => by
      have := fl b hb
      refine ⟨fun e => ?_, fun e => ?_, fun e => ?_⟩
      · subst e; rw [ha] at this; cases this
      · subst e; exact MapAt.known hm this
      · exact hO.known b e this
    have hO4l := (O2.ext u3).ext u4
    have hFlk : ∀ b ∈ Fl, h4' b ≠ none := hO4l.known
    have hnoF5 : ∀ b, h4' b ≠ none → b ∉ Fb → b ∉ F5 := fun b h1 h2 h3 => by
      rcases k5 b h3 with h | h
      · exact h2 h
      · exact h1 h
    have ha4n : h4' a ≠ none := by rw [ha4]; simp
    have hm4n : h4' m ≠ none := MapAt.known (MapAt.ext hm e4)
    have hG4 : ∀ g ∈ G, h4' g ≠ none := fun g hg => by
      obtain ⟨o, ho⟩ := Option.ne_none_iff_exists'.1 (hG g hg).2.2.2
      rw [e4.get ho]; simp
    have hOl7 := hO4l.upd w (fun b hb => by simp only [List.mem_cons, not_or]; exact ⟨(hflh b hb).1, (hflh b hb).2.2⟩)
    refine hk h7 (a :: m :: (F5 ++ (G ++ Fl))) ⟨⟨m, l, v5, bl ++ [(.slice va s.now.length cap, s.now)], F5, G ++ Fl, a7, MapAt.upd hm wh (by simp only [List.mem_cons, not_or]; exact ⟨hn1.symm, hn3⟩), hp, ?_, ?_, ?_, rfl, hn1, hnoF5 a ha4n hn2, hnoF5 m hm4n hn3, ?_⟩, ?_⟩ (wh.mono fun b hb => .inl ?_) ?_
    · rw [List.map_append]
      exact O5.upd (u6.trans u7) (fun b hb => by simp only [List.mem_singleton]; rintro rfl; exact hnoF5 _ ha4n hn2 hb)
    · intro x hx
      rw [List.mem_append] at hx
      rcases hx with hx | hx
      · refine ⟨(hS x hx).1.upd wh fun y n c e => ?_, fun y n c e => List.mem_append_left _ ((hS x hx).2 y n c e)⟩
        have hg := hG _ ((hS x hx).2 y n c e)
        simp only [List.mem_cons, not_or]
        exact ⟨hg.1, hg.2.2.1⟩
      · simp only [List.mem_singleton] at hx
        subst hx
        have hs7 := hOl7.slR
        rw [hv] at hs7
        refine ⟨hs7, fun y n c e => List.mem_append_right _ ?_⟩
        rcases hOl7.here with ⟨e1, _, _⟩ | ⟨b, cap', cs, e1, e2, _⟩
        · rw [hv] at e1
          simp only [Value.slice.injEq] at e1 e
          rw [e1.1] at e
          cases e.1
        · rw [hv] at e1
          simp only [Value.slice.injEq] at e1 e
          rw [e1.1] at e
          simp only [Option.some.injEq] at e
          rw [← e.1, e2]; simp
    · rw [List.map_append, hbl]; rfl
    · intro g hg
      rw [List.mem_append] at hg
      have wk : h4' g ≠ none → g ≠ a → g ∉ Fb → h7 g ≠ none := fun h1 h2 h3 => by
        obtain ⟨o, ho⟩ := Option.ne_none_iff_exists'.1 h1
        rw [w.get ho (by simp only [List.mem_cons, not_or]; exact ⟨h2, h3⟩)]; simp
      rcases hg with hg | hg
      · have := hG g hg
        exact ⟨this.1, this.2.1, hnoF5 g (hG4 g hg) this.2.2.1, wk (hG4 g hg) this.1 this.2.2.1⟩
      · have := hflh g hg
        exact ⟨this.1, this.2.1, hnoF5 g (hFlk g hg) this.2.2, wk (hFlk g hg) this.1 this.2.2⟩
    · refine ⟨hok.up, hok.fit, hok.few, fun b hb => ?_, ?_, ?_, ?_, ?_⟩
      · simp only [List.mem_append, List.mem_singleton] at hb
        rcases hb with hb | rfl
        · exact hok.blk b hb
        · exact ⟨hok.up, hok.fit, hok.few⟩
      · simp
      · simp only [List.length_append, List.length_singleton]; omega
      · have := hok.h3
        have := hok.h1
        simp only [List.length_append, List.length_singleton]; omega
      · show s.height + 1 < 18446744073709551616
        omega
    · simp only [List.mem_cons] at hb
      simp only [List.mem_cons, List.mem_append]
      rcases hb with hb | hb
      · exact .inl hb
      · exact .inr (.inr (.inl hb))
    · intro b hb
      simp only [List.mem_cons, List.mem_append] at hb ⊢
      rcases hb with hb | hb | hb | hb | hb
      · exact .inl (.inl hb)
      · exact .inl (.inr (.inl hb))
      · rcases k5 b hb with h1 | h1
        · exact .inl (.inr (.inr (.inl h1)))
        · exact .inr (e4.none h1)
      · exact .inl (.inr (.inr (.inr hb)))
      · exact .inr (fl b hb)
  · -- one more
    obtain ⟨p, hpl, hpe⟩ := List.mem_map.1 hmem
    have hky : ky = p.k := by have := congrArg Prod.fst hpe; exact this.symm
    have hvl : vl = .string (tx p.v) := by have := congrArg Prod.snd hpe; exact this.symm
    subst hky hvl
    have O2 := O.upd u2 (fun b hb => by simp only [List.mem_singleton]; rintro rfl; exact hil hb)
    have e2 : Ext h h2 := u.fresh u2 (Fresh.one hit)
    simp only [popO_some, bindH_eq, condV_bool, condV_true, condV_false, yV_bool, gopV_tt, gopV_ff, gopV_tf, gopV_ft, pickV_t, pickV_f, pickV_bool, nilS_ptr, add_eq, sub_eq, mul_eq, lss_eq, leq_eq, gtr_eq, geq_eq, not_eq, minI_eq, maxI_eq, extract_0, extract_1, extract_2, eqlI, neqI, makeFunc_eq, decide_true, decide_false, if_true, if_false, Bool.false_eq_true, Bool.not_true, Bool.not_false, reduceIte, List.getElem?_toArray, List.getElem?_cons_zero, List.getElem?_cons_succ, Option.isSome_none, List.length_map]
    refine entry_it HI2 ?_
    have ek : skey p.k = .string (tx p.k) := rfl
    simp only [ek, pr_build, pr_lit, popO_some, bindH_eq, condV_bool, condV_true, condV_false, yV_bool, gopV_tt, gopV_ff, gopV_tf, gopV_ft, pickV_t, pickV_f, pickV_bool, nilS_ptr, add_eq, sub_eq, mul_eq, lss_eq, leq_eq, gtr_eq, geq_eq, not_eq, minI_eq, maxI_eq, extract_0, extract_1, extract_2, eqlI, neqI, makeFunc_eq, decide_true, decide_false, if_true, if_false, Bool.false_eq_true, Bool.not_true, Bool.not_false, reduceIte, List.getElem?_toArray, List.getElem?_cons_zero, List.getElem?_cons_succ, Option.isSome_none, List.length_map]
    intro r hr
    refine popO_pure ?_
    try rw [bindH_eq]
    have u3 : Ext h2 (h2.set r (.cells #[.string (tx p.k), .string (tx p.v)] T_api_Pair)) := Upd.new hr
    have s3 : SlR (h2.set r (.cells #[.string (tx p.k), .string (tx p.v)] T_api_Pair)) 2 (.slice (some ⟨r, 0, none⟩) 1 1) ([p].map Pr.cells) := (OwnR.lit (n := 1) (Pr.rows [p]) set_same (by simp) (by decide) rfl).slR
    generalize h2.set r (.cells #[.string (tx p.k), .string (tx p.v)] T_api_Pair) = h3 at *
    have HI3 := HI2.upd u3 (by simp) (by simp)
    have O3 := O2.ext u3
    refine append_own T_sl_api_Pair.und T_sl_api_Pair.und T_api_Pair.info T_api_Pair.size T_api_Pair.bytes T_api_Pair.zero rfl (by decide) O3 s3 (Pr.isCell [p]) (by simp; omega) ?_
    intro v4' h4' F4 O4 u4 k4 _
    have e3 := e2.trans u3
    have hit3 : it ∉ F4 := fun hm => by
      rcases k4 it hm with h1 | h1
      · exact hil h1
      · exact HI3.known h1
    have HI4 := HI3.upd u4 (fun hm' => by have := fl m hm'; exact MapAt.known hm this) hil
    refine ⟨⟨pre ++ [p], v4', F4, (by trivial), ?_, ?_, fl.grow e3 k4, hit3, e3.fresh u4 fl⟩, ?_⟩
    · rw [List.map_append]; exact HI4
    · rw [List.map_append]; exact O4
    · rw [HI4.left, HI.left]
      have := HI4.le
      simp only [List.length_append, List.length_map, List.length_cons, List.length_nil] at this ⊢
      omega
end Go.Proofs.YtllopddcpkhfjaaDoor
