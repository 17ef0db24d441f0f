/- record: the card of RecordWhole. -/
import Derived.Test.YtlkjippiaghbmaaRecGRC5
/- record: the statement RecordWhole. -/
set_option linter.unusedSimpArgs false
set_option linter.unusedVariables false
namespace Go.Proofs.Ytlkjippiaghbmaa
open Go
set_option maxRecDepth 20000
theorem str_lit1 (a : ByteArray) : SemA PG (Instr.buildSlice T_sl_string 1 #[(0, .string a)]) = some (.cells #[.string a] T_string, fun r => pure (.slice (some ⟨r, 0, none⟩) 1 1)) := by kernel_rfl
theorem dm_zb : SemP PG (Instr.build T_api_Daemon #[]) = some (Dm.zero.v (.slice none 0 0)) := by kernel_rfl
def bsT (l : List RV) : List Tx := l.map fun y => y.1.bs
theorem few_of_ok {r : Rc} (h : RcOk r) : r.s.its.length ≤ 1000 := by
  by_cases k1 : r.k = 1
  · obtain ⟨-, -, -, h40⟩ := plain1 h.plain k1; omega
  · obtain ⟨-, e, -, -⟩ := plain2 h.plain k1
    rw [e]; simp [Dm.zero]
def recsOf (l : List RV) : List Rc := l.map (·.1)
theorem bsT_eq (l : List RV) : bsT l = (recsOf l).map Rc.bs := by simp [bsT, recsOf]
/-- The second loop, and what follows it. -/
theorem whole2_ok {h : PH} {room : Int} {x : Value} {y0 : RV} {ys : List RV} (S : SlR h 10 x ((y0 :: ys).map rrw)) (HS : RcS h (y0 :: ys)) (hg : ∀ y ∈ y0 :: ys, RcOk y.1) (k1 : y0.1.k = 1) (hl : (y0 :: ys).length ≤ 30)
    {t : Value} (T : SlR h 1 t ((bsT (y0 :: ys)).map tcell)) {last : Nat} {yl : RV} (hlast : (y0 :: ys)[last]? = some yl) (kl : yl.1.k = 1)
    {r51 : Nat} {gv : Value} {g : Dm × Int} (eg : g = rpl room (bsT (y0 :: ys))) (G : Bx h r51 (g.1.cells gv)) (VG : ISl h gv g.1.its) (hgl : g.1.its.length ≤ 1000)
    {r63 : Nat} {h1 : PH} (hr63 : h r63 = none) (u1 : Ext h h1) (B : Bx h1 r63 (y0.1.s.cells y0.2.1)) {R : Value → PH → Prop} (hR : ∀ h', Ext h h' → R (.bool true) h') :
    LoopL [0, 1, 5, 6, 10, 11, 12, 13, 14] (fun n70 ρ h => carracklaw17_RecordWhole_b71 R n70 (ρ 0) (ρ 1) (ρ 5) (ρ 6) (ρ 10) (ρ 11) (ρ 12) (ρ 13) (ρ 14) h) [.int .i64 room, x, t, .int .i64 (last : Int), (Value.pointer (some ⟨r51, 0, none⟩)), .int .i64 g.2, (Value.pointer (some ⟨r63, 0, none⟩)), .int .i64 (chk y0.1.s room), (Value.int IntKind.i64 1)] h1 := by
  have lx := rv_len S
  have hl0 := few_of_ok (hg y0 (by simp))
  have hl' : ys.length ≤ 29 := by simpa using hl
  have eg2 := rpl_good (room := room) (x := y0.1) (l := recsOf ys) (fun y hy => by
    obtain ⟨z, hz, rfl⟩ := List.mem_map.1 (show y ∈ recsOf (y0 :: ys) from hy)
    exact ⟨hg z hz, (HS z hz).2.2⟩) k1
  refine ⟨fun vs h' => ∃ (i : Nat) (v : Value), i ≤ ys.length ∧ vs = [.int .i64 room, x, t, .int .i64 (last : Int), (Value.pointer (some ⟨r51, 0, none⟩)), .int .i64 g.2, (Value.pointer (some ⟨r63, 0, none⟩)), .int .i64 (wlk room y0.1 (recsOf (ys.take i))).2, .int .i64 ((i + 1 : Nat) : Int)] ∧ Ext h h' ∧ Bx h' r63 ((wlk room y0.1 (recsOf (ys.take i))).1.cells v) ∧ ISl h' v (wlk room y0.1 (recsOf (ys.take i))).1.its, upTo (ys.length + 1) 8, ⟨0, y0.2.1, by omega, rfl, u1, B, (HS y0 (by simp)).1.ext u1⟩, ?_⟩
  rintro ρ h' ⟨i, v, hi, hvs, w, B', V'⟩
  simp only [List.map_cons, List.map_nil, List.cons.injEq, and_true] at hvs
  obtain ⟨e0, e1, e2, e3, e4, e5, e6, e7, e8⟩ := hvs
  have lx : SemP PG (Builtin.len_ #[T_sl_api_Record] T_int #[x]) = some (.int .i64 ((ys.length + 1 : Nat) : Int)) := rv_len S
  have hlen := wlk_len (room := room) hl0 (recsOf (ys.take i))
  have ld : ∀ {h'' : PH}, Ext h' h'' → SemE PG h'' (Instr.loadAt T_api_Daemon (.pointer (some ⟨r63, 0, none⟩))) = some ((wlk room y0.1 (recsOf (ys.take i))).1.v v) := fun u => Dm.load (o := 0) (B'.ext u) rfl
  have lg : ∀ {h'' : PH}, Ext h' h'' → SemE PG h'' (Instr.loadAt T_api_Daemon (.pointer (some ⟨r51, 0, none⟩))) = some (g.1.v gv) := fun u => Dm.load (o := 0) ((G.ext w).ext u) rfl
  -- what follows the loop
  have fin : (wlk room y0.1 (recsOf (ys.take i))).2 ≠ 0 ∨ i = ys.length → wlk room y0.1 (recsOf (ys.take i)) = wlk room y0.1 (recsOf ys) := by
    rintro (h0 | rfl)
    · conv => rhs; rw [← List.take_append_drop i ys]
      unfold wlk recsOf at h0 ⊢
      rw [List.map_append, List.foldl_append, wstep_stick _ h0]
    · rw [List.take_length]
  unfold carracklaw17_RecordWhole_b71
  rw [e0, e1, e2, e3, e4, e5, e6, e7, e8]
  by_cases hc : i < ys.length ∧ (wlk room y0.1 (recsOf (ys.take i))).2 = 0
  · obtain ⟨hlt, h0⟩ := hc
    have hd : (((i + 1 : Nat) : Int) < ((ys.length + 1 : Nat) : Int)) = True := by apply eq_true; omega
    obtain ⟨m, hm⟩ : ∃ m, ys[i]? = some m := ⟨_, List.getElem?_eq_getElem hlt⟩
    have hmem : m ∈ y0 :: ys := List.mem_cons_of_mem _ (List.mem_of_getElem? hm)
    obtain ⟨b, o, a1, a2, -, -⟩ := (S.ext w).rv (j := i + 1) (y := m) (by simpa using hm)
    have ei : IntKind.i64.wrap (((i + 1 : Nat) : Int) + 1) = ((i + 1 + 1 : Nat) : Int) := by rw [i64_wrap (by omega) (by omega)]; omega
    have en : wlk room y0.1 (recsOf (ys.take (i + 1))) = stp (wlk room y0.1 (recsOf (ys.take i))).1 room m.1 := by
      rw [List.take_add_one, hm]
      unfold wlk recsOf at h0 ⊢
      rw [List.map_append, List.foldl_append]
      simp only [Option.toList, List.map_cons, List.map_nil, List.foldl_cons, List.foldl_nil]
      exact if_pos h0
    simp only [lx, hd, h0, eqlI, a1, a2, ld Upd.refl, popO_some, bindH_eq, condV_bool, condV_true, condV_false, yV_bool, gopV_tt, gopV_ff, gopV_tf, gopV_ft, pickV_t, pickV_f, pickV_bool, nilS_ptr, add_eq, sub_eq, mul_eq, lss_eq, leq_eq, gtr_eq, geq_eq, not_eq, minI_eq, maxI_eq, extract_0, extract_1, extract_2, eqlI, neqI, makeFunc_eq, decide_true, decide_false, if_true, if_false, Bool.false_eq_true, Bool.not_true, Bool.not_false, reduceIte, List.getElem?_toArray, List.getElem?_cons_zero, List.getElem?_cons_succ, Option.isSome_none, List.length_map, yV_undef, gopV_none, Nat.zero_add, Nat.reduceAdd, beq_self_eq_true, bne_self_eq_false, and_self, Bool.true_and, Bool.false_and, Bool.and_true, Bool.and_false, Bool.true_or, Bool.false_or, Bool.or_true, Bool.or_false]
    obtain ⟨VI, VN, wf⟩ := (HS.ext w) m hmem
    refine step_ok V' VI VN wf hlen fun h2 v2 V2 n2 u2 => ?_
    rw [← en] at V2 ⊢
    have B2 := B'.ext u2
    simp only [popO_some, bindH_eq, condV_bool, condV_true, condV_false, yV_bool, gopV_tt, gopV_ff, gopV_tf, gopV_ft, pickV_t, pickV_f, pickV_bool, nilS_ptr, add_eq, sub_eq, mul_eq, lss_eq, leq_eq, gtr_eq, geq_eq, not_eq, minI_eq, maxI_eq, extract_0, extract_1, extract_2, eqlI, neqI, makeFunc_eq, decide_true, decide_false, if_true, if_false, Bool.false_eq_true, Bool.not_true, Bool.not_false, reduceIte, List.getElem?_toArray, List.getElem?_cons_zero, List.getElem?_cons_succ, Option.isSome_none, List.length_map, yV_undef, gopV_none, Nat.zero_add, Nat.reduceAdd, beq_self_eq_true, bne_self_eq_false, and_self, Bool.true_and, Bool.false_and, Bool.and_true, Bool.and_false, Bool.true_or, Bool.false_or, Bool.or_true, Bool.or_false]
    refine T_api_Daemon.put B2 rfl (by show 0 + 5 ≤ 5; decide) (Dm.isC _ V2.isc) fun h3 B3 u3 => ?_
    have V3 : ISl h3 v2 (wlk room y0.1 (recsOf (ys.take (i + 1)))).1.its := ISl.updG (G := [r63]) V2 (outG.new n2 (fun b hb => by simp at hb; subst hb; exact B'.known)) u3 (fun b hb => hb)
    simp only [ei, popO_some, bindH_eq, condV_bool, condV_true, condV_false, yV_bool, gopV_tt, gopV_ff, gopV_tf, gopV_ft, pickV_t, pickV_f, pickV_bool, nilS_ptr, add_eq, sub_eq, mul_eq, lss_eq, leq_eq, gtr_eq, geq_eq, not_eq, minI_eq, maxI_eq, extract_0, extract_1, extract_2, eqlI, neqI, makeFunc_eq, decide_true, decide_false, if_true, if_false, Bool.false_eq_true, Bool.not_true, Bool.not_false, reduceIte, List.getElem?_toArray, List.getElem?_cons_zero, List.getElem?_cons_succ, Option.isSome_none, List.length_map, yV_undef, gopV_none, Nat.zero_add, Nat.reduceAdd, beq_self_eq_true, bne_self_eq_false, and_self, Bool.true_and, Bool.false_and, Bool.and_true, Bool.and_false, Bool.true_or, Bool.false_or, Bool.or_true, Bool.or_false]
    exact ⟨⟨i + 1, v2, by omega, rfl, (w.trans u2).fresh u3 (Fresh.one hr63), B3, V3⟩, by simp [upTo, e8]; omega⟩
  · have hc' : (wlk room y0.1 (recsOf (ys.take i))).2 ≠ 0 ∨ i = ys.length := by omega
    have ew := fin hc'
    rw [ew] at V' ld hlen ⊢
    rw [bsT_eq] at eg
    have eg3 : g = if (wlk room y0.1 (recsOf ys)).2 ≠ 0 then (Dm.zero, (wlk room y0.1 (recsOf ys)).2) else wlk room y0.1 (recsOf ys) := eg.trans eg2
    have g2 : g.2 = (wlk room y0.1 (recsOf ys)).2 := by rw [eg3]; split <;> rfl
    have head : ∀ {Y : Value → PH → Prop}, Y (.bool false) h' → popO (SemP PG (binOp BinOp.lss T_int (.int .i64 ((i + 1 : Nat) : Int)) (.int .i64 ((ys.length + 1 : Nat) : Int)))) fun v73 =>
        gopV (yV v73) true (fun k76 => k76 (.int .i64 (wlk room y0.1 (recsOf ys)).2) h') h' fun v74 h75 =>
        gopV (yV v73) true (fun k79 => popO (SemE PG h75 (binS BinOp.eql T_api_Errno (.tmp 85) (.const (Value.int IntKind.i64 0)) v74 (Value.int IntKind.i64 0))) fun v80 => k79 v80 h75) h75 fun v77 h78 =>
        popO (pickV v73 v77 (Value.bool false)) fun v81 => Y v81 h78 := by
      intro Y hY
      rw [ew] at hc
      by_cases hlt : i < ys.length
      · have hd : (((i + 1 : Nat) : Int) < ((ys.length + 1 : Nat) : Int)) = True := by apply eq_true; omega
        have q : ((wlk room y0.1 (recsOf ys)).2 == 0) = false := by
          have : ¬ (wlk room y0.1 (recsOf ys)).2 = 0 := fun c => hc ⟨hlt, c⟩
          simpa using this
        simp only [hd, eqlI, q, popO_some, bindH_eq, condV_bool, condV_true, condV_false, yV_bool, gopV_tt, gopV_ff, gopV_tf, gopV_ft, pickV_t, pickV_f, pickV_bool, nilS_ptr, add_eq, sub_eq, mul_eq, lss_eq, leq_eq, gtr_eq, geq_eq, not_eq, minI_eq, maxI_eq, extract_0, extract_1, extract_2, eqlI, neqI, makeFunc_eq, decide_true, decide_false, if_true, if_false, Bool.false_eq_true, Bool.not_true, Bool.not_false, reduceIte, List.getElem?_toArray, List.getElem?_cons_zero, List.getElem?_cons_succ, Option.isSome_none, List.length_map, yV_undef, gopV_none, Nat.zero_add, Nat.reduceAdd, beq_self_eq_true, bne_self_eq_false, and_self, Bool.true_and, Bool.false_and, Bool.and_true, Bool.and_false, Bool.true_or, Bool.false_or, Bool.or_true, Bool.or_false]
        exact hY
      · have hd : (((i + 1 : Nat) : Int) < ((ys.length + 1 : Nat) : Int)) = False := by apply eq_false; omega
        simp only [hd, popO_some, bindH_eq, condV_bool, condV_true, condV_false, yV_bool, gopV_tt, gopV_ff, gopV_tf, gopV_ft, pickV_t, pickV_f, pickV_bool, nilS_ptr, add_eq, sub_eq, mul_eq, lss_eq, leq_eq, gtr_eq, geq_eq, not_eq, minI_eq, maxI_eq, extract_0, extract_1, extract_2, eqlI, neqI, makeFunc_eq, decide_true, decide_false, if_true, if_false, Bool.false_eq_true, Bool.not_true, Bool.not_false, reduceIte, List.getElem?_toArray, List.getElem?_cons_zero, List.getElem?_cons_succ, Option.isSome_none, List.length_map, yV_undef, gopV_none, Nat.zero_add, Nat.reduceAdd, beq_self_eq_true, bne_self_eq_false, and_self, Bool.true_and, Bool.false_and, Bool.and_true, Bool.and_false, Bool.true_or, Bool.false_or, Bool.or_true, Bool.or_false]
        exact hY
    rw [lx]
    refine head ?_
    have q0 : ((wlk room y0.1 (recsOf ys)).2 != (wlk room y0.1 (recsOf ys)).2) = false := by simp
    simp only [g2, neqI, q0, popO_some, bindH_eq, condV_bool, condV_true, condV_false, yV_bool, gopV_tt, gopV_ff, gopV_tf, gopV_ft, pickV_t, pickV_f, pickV_bool, nilS_ptr, add_eq, sub_eq, mul_eq, lss_eq, leq_eq, gtr_eq, geq_eq, not_eq, minI_eq, maxI_eq, extract_0, extract_1, extract_2, eqlI, neqI, makeFunc_eq, decide_true, decide_false, if_true, if_false, Bool.false_eq_true, Bool.not_true, Bool.not_false, reduceIte, List.getElem?_toArray, List.getElem?_cons_zero, List.getElem?_cons_succ, Option.isSome_none, List.length_map, yV_undef, gopV_none, Nat.zero_add, Nat.reduceAdd, beq_self_eq_true, bne_self_eq_false, and_self, Bool.true_and, Bool.false_and, Bool.and_true, Bool.and_false, Bool.true_or, Bool.false_or, Bool.or_true, Bool.or_false]
    by_cases h0 : (wlk room y0.1 (recsOf ys)).2 = 0
    · have g1 : g.1 = (wlk room y0.1 (recsOf ys)).1 := by rw [eg3, if_neg (by simpa using h0)]
      obtain ⟨tl, ed, et⟩ := wlk_cut (j := last) (y := yl.1) (l := recsOf ys) h0 (by
        have : (recsOf (y0 :: ys))[last]? = some yl.1 := by unfold recsOf; rw [List.getElem?_map, hlast]; rfl
        exact this) kl
      have hll : last ≤ (y0 :: ys).length := by
        have := (List.getElem?_eq_some_iff.1 hlast).1; omega
      obtain ⟨vs, c1, c2, -⟩ := (T.ext w).cut T_sl_string.und T_string.info T_string.size (lo := some (.int .i64 (last : Int))) (hi := none) (l := last) (m := ((bsT (y0 :: ys)).map tcell).length) (.inr ⟨_, rfl⟩) (.inl ⟨rfl, rfl⟩) (by simpa [bsT] using hll) (by omega)
      have ebs : (((bsT (y0 :: ys)).map tcell).take ((bsT (y0 :: ys)).map tcell).length).drop last = ((yl.1 :: tl).map Rc.bs).map tcell := by
        rw [List.take_length, bsT_eq, ← ed, List.map_drop, List.map_drop]; rfl
      rw [ebs] at c2
      have el := rpl_good (room := room) (x := yl.1) (l := tl) (fun y hy => by
        rw [← ed] at hy
        obtain ⟨z, hz, rfl⟩ := List.mem_map.1 (show y ∈ recsOf (y0 :: ys) from List.mem_of_mem_drop hy)
        exact ⟨hg z hz, (HS z hz).2.2⟩) kl
      rw [et, if_neg (by simpa using h0)] at el
      have hlt2 : ((yl.1 :: tl).map Rc.bs).length ≤ 1000 := by
        rw [List.length_map, ← ed, List.length_drop]
        have : (y0.1 :: recsOf ys).length = ys.length + 1 := by simp [recsOf]
        omega
      simp only [h0, c1, popO_some, bindH_eq, condV_bool, condV_true, condV_false, yV_bool, gopV_tt, gopV_ff, gopV_tf, gopV_ft, pickV_t, pickV_f, pickV_bool, nilS_ptr, add_eq, sub_eq, mul_eq, lss_eq, leq_eq, gtr_eq, geq_eq, not_eq, minI_eq, maxI_eq, extract_0, extract_1, extract_2, eqlI, neqI, makeFunc_eq, decide_true, decide_false, if_true, if_false, Bool.false_eq_true, Bool.not_true, Bool.not_false, reduceIte, List.getElem?_toArray, List.getElem?_cons_zero, List.getElem?_cons_succ, Option.isSome_none, List.length_map, yV_undef, gopV_none, Nat.zero_add, Nat.reduceAdd, beq_self_eq_true, bne_self_eq_false, and_self, Bool.true_and, Bool.false_and, Bool.and_true, Bool.and_false, Bool.true_or, Bool.false_or, Bool.or_true, Bool.or_false]
      refine replay_ok c2 hlt2 fun h2 v2 V2 n2 u2 => ?_
      rw [el] at V2 ⊢
      simp only [popO_some, bindH_eq, condV_bool, condV_true, condV_false, yV_bool, gopV_tt, gopV_ff, gopV_tf, gopV_ft, pickV_t, pickV_f, pickV_bool, nilS_ptr, add_eq, sub_eq, mul_eq, lss_eq, leq_eq, gtr_eq, geq_eq, not_eq, minI_eq, maxI_eq, extract_0, extract_1, extract_2, eqlI, neqI, makeFunc_eq, decide_true, decide_false, if_true, if_false, Bool.false_eq_true, Bool.not_true, Bool.not_false, reduceIte, List.getElem?_toArray, List.getElem?_cons_zero, List.getElem?_cons_succ, Option.isSome_none, List.length_map, yV_undef, gopV_none, Nat.zero_add, Nat.reduceAdd, beq_self_eq_true, bne_self_eq_false, and_self, Bool.true_and, Bool.false_and, Bool.and_true, Bool.and_false, Bool.true_or, Bool.false_or, Bool.or_true, Bool.or_false]
      intro r3 hr3
      try rw [bindH_eq]
      refine T_api_Daemon.fill hr3 rfl (Dm.isC _ V2.isc) fun h3 B3 u3 => ?_
      have e3 := u2.trans u3
      have l3 : ∀ {h'' : PH}, Ext h3 h'' → SemE PG h'' (Instr.loadAt T_api_Daemon (.pointer (some ⟨r3, 0, none⟩))) = some ((wlk room y0.1 (recsOf ys)).1.v v2) := fun u => Dm.load (o := 0) (B3.ext u) rfl
      simp only [lg e3, ld e3, popO_some, bindH_eq, condV_bool, condV_true, condV_false, yV_bool, gopV_tt, gopV_ff, gopV_tf, gopV_ft, pickV_t, pickV_f, pickV_bool, nilS_ptr, add_eq, sub_eq, mul_eq, lss_eq, leq_eq, gtr_eq, geq_eq, not_eq, minI_eq, maxI_eq, extract_0, extract_1, extract_2, eqlI, neqI, makeFunc_eq, decide_true, decide_false, if_true, if_false, Bool.false_eq_true, Bool.not_true, Bool.not_false, reduceIte, List.getElem?_toArray, List.getElem?_cons_zero, List.getElem?_cons_succ, Option.isSome_none, List.length_map, yV_undef, gopV_none, Nat.zero_add, Nat.reduceAdd, beq_self_eq_true, bne_self_eq_false, and_self, Bool.true_and, Bool.false_and, Bool.and_true, Bool.and_false, Bool.true_or, Bool.false_or, Bool.or_true, Bool.or_false]
      refine sameState_ok (VG.ext (w.trans e3)) (V'.ext e3) (by omega) fun h4 u4 => ?_
      have e4 := e3.trans u4
      rw [decide_eq_true g1]
      simp only [h0, eqlI, l3 u4, ld e4, popO_some, bindH_eq, condV_bool, condV_true, condV_false, yV_bool, gopV_tt, gopV_ff, gopV_tf, gopV_ft, pickV_t, pickV_f, pickV_bool, nilS_ptr, add_eq, sub_eq, mul_eq, lss_eq, leq_eq, gtr_eq, geq_eq, not_eq, minI_eq, maxI_eq, extract_0, extract_1, extract_2, eqlI, neqI, makeFunc_eq, decide_true, decide_false, if_true, if_false, Bool.false_eq_true, Bool.not_true, Bool.not_false, reduceIte, List.getElem?_toArray, List.getElem?_cons_zero, List.getElem?_cons_succ, Option.isSome_none, List.length_map, yV_undef, gopV_none, Nat.zero_add, Nat.reduceAdd, beq_self_eq_true, bne_self_eq_false, and_self, Bool.true_and, Bool.false_and, Bool.and_true, Bool.and_false, Bool.true_or, Bool.false_or, Bool.or_true, Bool.or_false]
      refine sameState_ok (V2.ext (u3.trans u4)) (V'.ext e4) (by omega) fun h5 u5 => ?_
      have e5 := e4.trans u5
      simp only [decide_true, ld e5, popO_some, bindH_eq, condV_bool, condV_true, condV_false, yV_bool, gopV_tt, gopV_ff, gopV_tf, gopV_ft, pickV_t, pickV_f, pickV_bool, nilS_ptr, add_eq, sub_eq, mul_eq, lss_eq, leq_eq, gtr_eq, geq_eq, not_eq, minI_eq, maxI_eq, extract_0, extract_1, extract_2, eqlI, neqI, makeFunc_eq, decide_true, decide_false, if_true, if_false, Bool.false_eq_true, Bool.not_true, Bool.not_false, reduceIte, List.getElem?_toArray, List.getElem?_cons_zero, List.getElem?_cons_succ, Option.isSome_none, List.length_map, yV_undef, gopV_none, Nat.zero_add, Nat.reduceAdd, beq_self_eq_true, bne_self_eq_false, and_self, Bool.true_and, Bool.false_and, Bool.and_true, Bool.and_false, Bool.true_or, Bool.false_or, Bool.or_true, Bool.or_false]
      refine check_ok (V'.ext e5) hlen fun h6 u6 => ?_
      simp only [wlk_good h0, eqlI, popO_some, bindH_eq, condV_bool, condV_true, condV_false, yV_bool, gopV_tt, gopV_ff, gopV_tf, gopV_ft, pickV_t, pickV_f, pickV_bool, nilS_ptr, add_eq, sub_eq, mul_eq, lss_eq, leq_eq, gtr_eq, geq_eq, not_eq, minI_eq, maxI_eq, extract_0, extract_1, extract_2, eqlI, neqI, makeFunc_eq, decide_true, decide_false, if_true, if_false, Bool.false_eq_true, Bool.not_true, Bool.not_false, reduceIte, List.getElem?_toArray, List.getElem?_cons_zero, List.getElem?_cons_succ, Option.isSome_none, List.length_map, yV_undef, gopV_none, Nat.zero_add, Nat.reduceAdd, beq_self_eq_true, bne_self_eq_false, and_self, Bool.true_and, Bool.false_and, Bool.and_true, Bool.and_false, Bool.true_or, Bool.false_or, Bool.or_true, Bool.or_false]
      exact hR _ (w.trans (e5.trans u6))
    · have g1 : g.1 = Dm.zero := by rw [eg3, if_pos h0]
      have q1 : ((wlk room y0.1 (recsOf ys)).2 != 0) = true := by simp [h0]
      simp only [q1, lg Upd.refl, dm_zb, popO_some, bindH_eq, condV_bool, condV_true, condV_false, yV_bool, gopV_tt, gopV_ff, gopV_tf, gopV_ft, pickV_t, pickV_f, pickV_bool, nilS_ptr, add_eq, sub_eq, mul_eq, lss_eq, leq_eq, gtr_eq, geq_eq, not_eq, minI_eq, maxI_eq, extract_0, extract_1, extract_2, eqlI, neqI, makeFunc_eq, decide_true, decide_false, if_true, if_false, Bool.false_eq_true, Bool.not_true, Bool.not_false, reduceIte, List.getElem?_toArray, List.getElem?_cons_zero, List.getElem?_cons_succ, Option.isSome_none, List.length_map, yV_undef, gopV_none, Nat.zero_add, Nat.reduceAdd, beq_self_eq_true, bne_self_eq_false, and_self, Bool.true_and, Bool.false_and, Bool.and_true, Bool.and_false, Bool.true_or, Bool.false_or, Bool.or_true, Bool.or_false]
      refine sameState_ok (VG.ext w) nilI (by omega) fun h3 u3 => ?_
      rw [decide_eq_true g1]
      exact hR _ (w.trans u3)
theorem tcell.isC (s : Tx) : ∀ u ∈ tcell s, Go.Proofs.Ytlkjippiaghbmaa.isCell u = true := fun u hu => by
  simp only [tcell, List.mem_cons, List.not_mem_nil, or_false] at hu
  subst hu; rfl
/-- The first loop. -/
theorem whole1_ok {h : PH} {room : Int} {x : Value} {l : List RV} (S : SlR h 10 x (l.map rrw)) (HS : RcS h l) (hl : l.length ≤ 30) (hne : l ≠ []) {R : Value → PH → Prop} (hR : ∀ h', Ext h h' → R (.bool true) h') :
    LoopL [0, 1, 5, 6, 7] (fun n18 ρ h => carracklaw17_RecordWhole_b19 R n18 (ρ 0) (ρ 1) (ρ 5) (ρ 6) (ρ 7) h) [.int .i64 room, x, (Value.slice none 0 0), (Value.int IntKind.i64 0), (Value.int IntKind.i64 0)] h := by
  have lx := rv_len S
  refine ⟨fun vs h' => ∃ (i last : Nat) (t : Value) (F : List Nat), i ≤ l.length ∧ vs = [.int .i64 room, x, t, .int .i64 (last : Int), .int .i64 (i : Int)] ∧ Ext h h' ∧ OwnR h' T_string 1 t ((bsT (l.take i)).map tcell) F ∧ Fresh h F ∧ (∀ y ∈ l.take i, RcOk y.1) ∧ (last = 0 ∨ ∃ yl, l[last]? = some yl ∧ yl.1.k = 1), upTo l.length 4, ⟨0, 0, _, [], by omega, rfl, Upd.refl, OwnR.nil, (fun b hb => by cases hb), by simp, .inl rfl⟩, ?_⟩
  rintro ρ h' ⟨i, last, t, F, hi, hvs, w, hO, f, hg, hlast⟩
  simp only [List.map_cons, List.map_nil, List.cons.injEq, and_true] at hvs
  obtain ⟨e0, e1, e2, e3, e4⟩ := hvs
  unfold carracklaw17_RecordWhole_b19
  rw [e0, e1, e2, e3, e4]
  by_cases hlt : i < l.length
  · have hd : ((i : Int) < (l.length : Int)) = True := by apply eq_true; omega
    obtain ⟨m, hm⟩ : ∃ m, l[i]? = some m := ⟨_, List.getElem?_eq_getElem hlt⟩
    have hmem : m ∈ l := List.mem_of_getElem? hm
    obtain ⟨b, o, a1, -⟩ := S.rv (j := i) hm
    have look : ∀ {h'' : PH}, Ext h h'' → SemE PG h'' (Instr.loadAt T_api_Record (.pointer (some ⟨b, o, none⟩))) = some (m.1.v m.2.1 m.2.2) ∧ SemE PG h'' (Instr.loadAt T_int (.pointer (some ⟨b, o, none⟩))) = some (.int .i64 m.1.k) := fun u => by
      obtain ⟨b', o', c1, c2, -, c4⟩ := (S.ext u).rv (j := i) hm
      rw [a1] at c1
      cases c1
      exact ⟨c2, c4⟩
    have ei : IntKind.i64.wrap ((i : Int) + 1) = ((i + 1 : Nat) : Int) := by rw [i64_wrap (by omega) (by omega)]; omega
    obtain ⟨VI, VN, wf⟩ := HS m hmem
    simp only [lx, hd, a1, (look w).1, popO_some, bindH_eq, condV_bool, condV_true, condV_false, yV_bool, gopV_tt, gopV_ff, gopV_tf, gopV_ft, pickV_t, pickV_f, pickV_bool, nilS_ptr, add_eq, sub_eq, mul_eq, lss_eq, leq_eq, gtr_eq, geq_eq, not_eq, minI_eq, maxI_eq, extract_0, extract_1, extract_2, eqlI, neqI, makeFunc_eq, decide_true, decide_false, if_true, if_false, Bool.false_eq_true, Bool.not_true, Bool.not_false, reduceIte, List.getElem?_toArray, List.getElem?_cons_zero, List.getElem?_cons_succ, Option.isSome_none, List.length_map, yV_undef, gopV_none, Nat.zero_add, Nat.reduceAdd, beq_self_eq_true, bne_self_eq_false, and_self, Bool.true_and, Bool.false_and, Bool.and_true, Bool.and_false, Bool.true_or, Bool.false_or, Bool.or_true, Bool.or_false]
    refine rfew_ok (VI.ext w) (VN.ext w) fun h2 bb hb u2 => ?_
    cases bb with
    | false =>
      simp only [popO_some, bindH_eq, condV_bool, condV_true, condV_false, yV_bool, gopV_tt, gopV_ff, gopV_tf, gopV_ft, pickV_t, pickV_f, pickV_bool, nilS_ptr, add_eq, sub_eq, mul_eq, lss_eq, leq_eq, gtr_eq, geq_eq, not_eq, minI_eq, maxI_eq, extract_0, extract_1, extract_2, eqlI, neqI, makeFunc_eq, decide_true, decide_false, if_true, if_false, Bool.false_eq_true, Bool.not_true, Bool.not_false, reduceIte, List.getElem?_toArray, List.getElem?_cons_zero, List.getElem?_cons_succ, Option.isSome_none, List.length_map, yV_undef, gopV_none, Nat.zero_add, Nat.reduceAdd, beq_self_eq_true, bne_self_eq_false, and_self, Bool.true_and, Bool.false_and, Bool.and_true, Bool.and_false, Bool.true_or, Bool.false_or, Bool.or_true, Bool.or_false]
      exact hR _ (w.trans u2)
    | true =>
      simp only [(look (w.trans u2)).1, popO_some, bindH_eq, condV_bool, condV_true, condV_false, yV_bool, gopV_tt, gopV_ff, gopV_tf, gopV_ft, pickV_t, pickV_f, pickV_bool, nilS_ptr, add_eq, sub_eq, mul_eq, lss_eq, leq_eq, gtr_eq, geq_eq, not_eq, minI_eq, maxI_eq, extract_0, extract_1, extract_2, eqlI, neqI, makeFunc_eq, decide_true, decide_false, if_true, if_false, Bool.false_eq_true, Bool.not_true, Bool.not_false, reduceIte, List.getElem?_toArray, List.getElem?_cons_zero, List.getElem?_cons_succ, Option.isSome_none, List.length_map, yV_undef, gopV_none, Nat.zero_add, Nat.reduceAdd, beq_self_eq_true, bne_self_eq_false, and_self, Bool.true_and, Bool.false_and, Bool.and_true, Bool.and_false, Bool.true_or, Bool.false_or, Bool.or_true, Bool.or_false]
      refine bytes_ok (VI.ext (w.trans u2)) (VN.ext (w.trans u2)) wf fun h3 u3 => ?_
      have e3' := u2.trans u3
      rcases bytes_iff m.1 with ⟨ok, e⟩ | ⟨no, e⟩
      · simp only [e, neqI, str_lit1, popO_some, bindH_eq, condV_bool, condV_true, condV_false, yV_bool, gopV_tt, gopV_ff, gopV_tf, gopV_ft, pickV_t, pickV_f, pickV_bool, nilS_ptr, add_eq, sub_eq, mul_eq, lss_eq, leq_eq, gtr_eq, geq_eq, not_eq, minI_eq, maxI_eq, extract_0, extract_1, extract_2, eqlI, neqI, makeFunc_eq, decide_true, decide_false, if_true, if_false, Bool.false_eq_true, Bool.not_true, Bool.not_false, reduceIte, List.getElem?_toArray, List.getElem?_cons_zero, List.getElem?_cons_succ, Option.isSome_none, List.length_map, yV_undef, gopV_none, Nat.zero_add, Nat.reduceAdd, beq_self_eq_true, bne_self_eq_false, and_self, Bool.true_and, Bool.false_and, Bool.and_true, Bool.and_false, Bool.true_or, Bool.false_or, Bool.or_true, Bool.or_false]
        intro r hr
        refine popO_pure ?_
        have u4 : Ext h3 (h3.set r (.cells #[.string (tx m.1.bs)] T_string)) := Upd.new hr
        have s1 : SlR (h3.set r (.cells #[.string (tx m.1.bs)] T_string)) 1 (.slice (some ⟨r, 0, none⟩) 1 1) ((bsT [m]).map tcell) := (OwnR.lit (tcell.rows (bsT [m])) set_same (by simp [bsT]) (by decide) (by simp [bsT, tcell])).slR
        generalize h3.set r (.cells #[.string (tx m.1.bs)] T_string) = h4 at *
        have e4' := e3'.trans u4
        refine append_own T_sl_string.und T_sl_string.und T_string.info T_string.size T_string.bytes T_string.zero rfl (by decide) (hO.ext e4') s1 (fun r hr u hu => by
          obtain ⟨s, -, rfl⟩ := List.mem_map.1 hr
          exact tcell.isC s u hu) (by simp [bsT]; omega) ?_
        intro v5 h5 F5 hO5 u5 k5 _
        have et : (bsT (l.take i)).map tcell ++ (bsT [m]).map tcell = (bsT (l.take (i + 1))).map tcell := by
          rw [← List.map_append, List.take_add_one, hm]; simp [bsT]
        rw [et] at hO5
        have w5 := (w.trans e4').fresh u5 f
        have f5 := f.grow (w.trans e4') k5
        have hg5 : ∀ y ∈ l.take (i + 1), RcOk y.1 := fun y hy => by
          rw [List.take_add_one, hm] at hy
          rcases List.mem_append.1 hy with hy | hy
          · exact hg y hy
          · simp at hy; subst hy; exact ok
        unfold carracklaw17_RecordWhole_k44 carracklaw17_RecordWhole_k45
        by_cases k1 : m.1.k = 1
        · have q : (m.1.k == 1) = true := by simp [k1]
          simp only [T_api_Record.f0, (look w5).2, eqlI, q, ei, popO_some, bindH_eq, condV_bool, condV_true, condV_false, yV_bool, gopV_tt, gopV_ff, gopV_tf, gopV_ft, pickV_t, pickV_f, pickV_bool, nilS_ptr, add_eq, sub_eq, mul_eq, lss_eq, leq_eq, gtr_eq, geq_eq, not_eq, minI_eq, maxI_eq, extract_0, extract_1, extract_2, eqlI, neqI, makeFunc_eq, decide_true, decide_false, if_true, if_false, Bool.false_eq_true, Bool.not_true, Bool.not_false, reduceIte, List.getElem?_toArray, List.getElem?_cons_zero, List.getElem?_cons_succ, Option.isSome_none, List.length_map, yV_undef, gopV_none, Nat.zero_add, Nat.reduceAdd, beq_self_eq_true, bne_self_eq_false, and_self, Bool.true_and, Bool.false_and, Bool.and_true, Bool.and_false, Bool.true_or, Bool.false_or, Bool.or_true, Bool.or_false]
          exact ⟨⟨i + 1, i, v5, F5, by omega, rfl, w5, hO5, f5, hg5, .inr ⟨m, hm, k1⟩⟩, by simp [upTo, e4]; omega⟩
        · have q : (m.1.k == 1) = false := by simp [k1]
          simp only [T_api_Record.f0, (look w5).2, eqlI, q, ei, popO_some, bindH_eq, condV_bool, condV_true, condV_false, yV_bool, gopV_tt, gopV_ff, gopV_tf, gopV_ft, pickV_t, pickV_f, pickV_bool, nilS_ptr, add_eq, sub_eq, mul_eq, lss_eq, leq_eq, gtr_eq, geq_eq, not_eq, minI_eq, maxI_eq, extract_0, extract_1, extract_2, eqlI, neqI, makeFunc_eq, decide_true, decide_false, if_true, if_false, Bool.false_eq_true, Bool.not_true, Bool.not_false, reduceIte, List.getElem?_toArray, List.getElem?_cons_zero, List.getElem?_cons_succ, Option.isSome_none, List.length_map, yV_undef, gopV_none, Nat.zero_add, Nat.reduceAdd, beq_self_eq_true, bne_self_eq_false, and_self, Bool.true_and, Bool.false_and, Bool.and_true, Bool.and_false, Bool.true_or, Bool.false_or, Bool.or_true, Bool.or_false]
          exact ⟨⟨i + 1, last, v5, F5, by omega, rfl, w5, hO5, f5, hg5, hlast⟩, by simp [upTo, e4]; omega⟩
      · have n1 : ((1 : Int) != 0) = true := by decide
        simp only [e, neqI, n1, popO_some, bindH_eq, condV_bool, condV_true, condV_false, yV_bool, gopV_tt, gopV_ff, gopV_tf, gopV_ft, pickV_t, pickV_f, pickV_bool, nilS_ptr, add_eq, sub_eq, mul_eq, lss_eq, leq_eq, gtr_eq, geq_eq, not_eq, minI_eq, maxI_eq, extract_0, extract_1, extract_2, eqlI, neqI, makeFunc_eq, decide_true, decide_false, if_true, if_false, Bool.false_eq_true, Bool.not_true, Bool.not_false, reduceIte, List.getElem?_toArray, List.getElem?_cons_zero, List.getElem?_cons_succ, Option.isSome_none, List.length_map, yV_undef, gopV_none, Nat.zero_add, Nat.reduceAdd, beq_self_eq_true, bne_self_eq_false, and_self, Bool.true_and, Bool.false_and, Bool.and_true, Bool.and_false, Bool.true_or, Bool.false_or, Bool.or_true, Bool.or_false]
        exact hR _ (w.trans e3')
  · have hd : ((i : Int) < (l.length : Int)) = False := by apply eq_false; omega
    rw [List.take_of_length_le (by omega)] at hO hg
    simp only [lx, hd, popO_some, bindH_eq, condV_bool, condV_true, condV_false, yV_bool, gopV_tt, gopV_ff, gopV_tf, gopV_ft, pickV_t, pickV_f, pickV_bool, nilS_ptr, add_eq, sub_eq, mul_eq, lss_eq, leq_eq, gtr_eq, geq_eq, not_eq, minI_eq, maxI_eq, extract_0, extract_1, extract_2, eqlI, neqI, makeFunc_eq, decide_true, decide_false, if_true, if_false, Bool.false_eq_true, Bool.not_true, Bool.not_false, reduceIte, List.getElem?_toArray, List.getElem?_cons_zero, List.getElem?_cons_succ, Option.isSome_none, List.length_map, yV_undef, gopV_none, Nat.zero_add, Nat.reduceAdd, beq_self_eq_true, bne_self_eq_false, and_self, Bool.true_and, Bool.false_and, Bool.and_true, Bool.and_false, Bool.true_or, Bool.false_or, Bool.or_true, Bool.or_false]
    have T := hO.slR
    refine replay_ok T (by simp [bsT]; omega) fun h2 gv V2 n2 u2 => ?_
    simp only [popO_some, bindH_eq, condV_bool, condV_true, condV_false, yV_bool, gopV_tt, gopV_ff, gopV_tf, gopV_ft, pickV_t, pickV_f, pickV_bool, nilS_ptr, add_eq, sub_eq, mul_eq, lss_eq, leq_eq, gtr_eq, geq_eq, not_eq, minI_eq, maxI_eq, extract_0, extract_1, extract_2, eqlI, neqI, makeFunc_eq, decide_true, decide_false, if_true, if_false, Bool.false_eq_true, Bool.not_true, Bool.not_false, reduceIte, List.getElem?_toArray, List.getElem?_cons_zero, List.getElem?_cons_succ, Option.isSome_none, List.length_map, yV_undef, gopV_none, Nat.zero_add, Nat.reduceAdd, beq_self_eq_true, bne_self_eq_false, and_self, Bool.true_and, Bool.false_and, Bool.and_true, Bool.and_false, Bool.true_or, Bool.false_or, Bool.or_true, Bool.or_false]
    intro r51 hr51
    try rw [bindH_eq]
    refine T_api_Daemon.fill hr51 rfl (Dm.isC _ V2.isc) fun h3 B3 u3 => ?_
    have e3' := w.trans (u2.trans u3)
    obtain ⟨y0, ys, rfl⟩ : ∃ y0 ys, l = y0 :: ys := by cases l with
      | nil => exact absurd rfl hne
      | cons a b => exact ⟨a, b, rfl⟩
    obtain ⟨b, o, a1, a2, a3, a4⟩ := (S.ext e3').rv (j := 0) (y := y0) rfl
    have a1' : SemP PG (Instr.indexAt T_sl_api_Record x (.int .i64 0)) = some (.pointer (some ⟨b, o, none⟩)) := a1
    by_cases k1 : y0.1.k = 1
    · have q : (y0.1.k != 1) = false := by simp [k1]
      simp only [a1', T_api_Record.f0, T_api_Record.f1, a4, a3, neqI, q, popO_some, bindH_eq, condV_bool, condV_true, condV_false, yV_bool, gopV_tt, gopV_ff, gopV_tf, gopV_ft, pickV_t, pickV_f, pickV_bool, nilS_ptr, add_eq, sub_eq, mul_eq, lss_eq, leq_eq, gtr_eq, geq_eq, not_eq, minI_eq, maxI_eq, extract_0, extract_1, extract_2, eqlI, neqI, makeFunc_eq, decide_true, decide_false, if_true, if_false, Bool.false_eq_true, Bool.not_true, Bool.not_false, reduceIte, List.getElem?_toArray, List.getElem?_cons_zero, List.getElem?_cons_succ, Option.isSome_none, List.length_map, yV_undef, gopV_none, Nat.zero_add, Nat.reduceAdd, beq_self_eq_true, bne_self_eq_false, and_self, Bool.true_and, Bool.false_and, Bool.and_true, Bool.and_false, Bool.true_or, Bool.false_or, Bool.or_true, Bool.or_false]
      intro r63 hr63
      try rw [bindH_eq]
      have V0 := (HS y0 (by simp)).1.ext e3'
      have hl0 := few_of_ok (hg y0 (by simp))
      refine T_api_Daemon.fill hr63 rfl (Dm.isC _ V0.isc) fun h4 B4 u4 => ?_
      have l4 : SemE PG h4 (Instr.loadAt T_api_Daemon (.pointer (some ⟨r63, 0, none⟩))) = some (y0.1.s.v y0.2.1) := Dm.load (o := 0) B4 rfl
      simp only [l4, popO_some, bindH_eq, condV_bool, condV_true, condV_false, yV_bool, gopV_tt, gopV_ff, gopV_tf, gopV_ft, pickV_t, pickV_f, pickV_bool, nilS_ptr, add_eq, sub_eq, mul_eq, lss_eq, leq_eq, gtr_eq, geq_eq, not_eq, minI_eq, maxI_eq, extract_0, extract_1, extract_2, eqlI, neqI, makeFunc_eq, decide_true, decide_false, if_true, if_false, Bool.false_eq_true, Bool.not_true, Bool.not_false, reduceIte, List.getElem?_toArray, List.getElem?_cons_zero, List.getElem?_cons_succ, Option.isSome_none, List.length_map, yV_undef, gopV_none, Nat.zero_add, Nat.reduceAdd, beq_self_eq_true, bne_self_eq_false, and_self, Bool.true_and, Bool.false_and, Bool.and_true, Bool.and_false, Bool.true_or, Bool.false_or, Bool.or_true, Bool.or_false]
      refine check_ok (V0.ext u4) hl0 fun h5 u5 => ?_
      obtain ⟨yl, hyl, kl⟩ : ∃ yl, (y0 :: ys)[last]? = some yl ∧ yl.1.k = 1 := by
        rcases hlast with rfl | h
        · exact ⟨y0, rfl, k1⟩
        · exact h
      have hgl : (rpl room (bsT (y0 :: ys))).1.its.length ≤ 1000 := by
        rw [bsT_eq]
        have := rpl_good (room := room) (x := y0.1) (l := recsOf ys) (fun y hy => by
          obtain ⟨z, hz, rfl⟩ := List.mem_map.1 (show y ∈ recsOf (y0 :: ys) from hy)
          exact ⟨hg z hz, (HS z hz).2.2⟩) k1
        rw [show (recsOf (y0 :: ys)) = y0.1 :: recsOf ys from rfl, this]
        split
        · simp [Dm.zero]
        · exact wlk_len hl0 _
      exact whole2_ok (S.ext e3') (HS.ext e3') hg k1 hl (T.ext (u2.trans u3)) hyl kl rfl B3 (V2.ext u3) hgl hr63 (u4.trans u5) (B4.ext u5) fun h6 u6 => hR _ (e3'.trans u6)
    · have q : (y0.1.k != 1) = true := by simp [k1]
      have e5 := rpl_bad (room := room) (x := y0.1) (l := recsOf ys) (fun y hy => by
        obtain ⟨z, hz, rfl⟩ := List.mem_map.1 (show y ∈ recsOf (y0 :: ys) from hy)
        exact ⟨hg z hz, (HS z hz).2.2⟩) k1
      rw [show (y0.1 :: recsOf ys) = recsOf (y0 :: ys) from rfl, ← bsT_eq] at e5
      simp only [a1', T_api_Record.f0, a4, neqI, q, e5, eqlI, popO_some, bindH_eq, condV_bool, condV_true, condV_false, yV_bool, gopV_tt, gopV_ff, gopV_tf, gopV_ft, pickV_t, pickV_f, pickV_bool, nilS_ptr, add_eq, sub_eq, mul_eq, lss_eq, leq_eq, gtr_eq, geq_eq, not_eq, minI_eq, maxI_eq, extract_0, extract_1, extract_2, eqlI, neqI, makeFunc_eq, decide_true, decide_false, if_true, if_false, Bool.false_eq_true, Bool.not_true, Bool.not_false, reduceIte, List.getElem?_toArray, List.getElem?_cons_zero, List.getElem?_cons_succ, Option.isSome_none, List.length_map, yV_undef, gopV_none, Nat.zero_add, Nat.reduceAdd, beq_self_eq_true, bne_self_eq_false, and_self, Bool.true_and, Bool.false_and, Bool.and_true, Bool.and_false, Bool.true_or, Bool.false_or, Bool.or_true, Bool.or_false]
      exact hR _ e3'
theorem RecordWhole_ok {h : PH} (room : Int) {x : Value} {l : List RV} (S : SlR h 10 x (l.map rrw)) (HS : RcS h l) {k : Value → PH → Prop} (hk : ∀ h', Ext h h' → k (.bool true) h') :
    CallsH PG id_carracklaw17_RecordWhole #[.int .i64 room, x] h k := by
  apply carracklaw17_RecordWhole.call
  unfold carracklaw17_RecordWhole
  have lx := rv_len S
  refine rawake_ok fun h2 u2 => ?_
  by_cases hb : 30 < l.length
  · have g : ((30 : Int) < (l.length : Int)) = True := eq_true (by omega)
    simp only [lx, g, popO_some, bindH_eq, condV_bool, condV_true, condV_false, yV_bool, gopV_tt, gopV_ff, gopV_tf, gopV_ft, pickV_t, pickV_f, pickV_bool, nilS_ptr, add_eq, sub_eq, mul_eq, lss_eq, leq_eq, gtr_eq, geq_eq, not_eq, minI_eq, maxI_eq, extract_0, extract_1, extract_2, eqlI, neqI, makeFunc_eq, decide_true, decide_false, if_true, if_false, Bool.false_eq_true, Bool.not_true, Bool.not_false, reduceIte, List.getElem?_toArray, List.getElem?_cons_zero, List.getElem?_cons_succ, Option.isSome_none, List.length_map, yV_undef, gopV_none, Nat.zero_add, Nat.reduceAdd, beq_self_eq_true, bne_self_eq_false, and_self, Bool.true_and, Bool.false_and, Bool.and_true, Bool.and_false, Bool.true_or, Bool.false_or, Bool.or_true, Bool.or_false]
    exact hk _ u2
  · have g : ((30 : Int) < (l.length : Int)) = False := eq_false (by omega)
    by_cases hz : l = []
    · have q : ((l.length : Int) == 0) = true := by simp [hz]
      simp only [lx, g, eqlI, q, popO_some, bindH_eq, condV_bool, condV_true, condV_false, yV_bool, gopV_tt, gopV_ff, gopV_tf, gopV_ft, pickV_t, pickV_f, pickV_bool, nilS_ptr, add_eq, sub_eq, mul_eq, lss_eq, leq_eq, gtr_eq, geq_eq, not_eq, minI_eq, maxI_eq, extract_0, extract_1, extract_2, eqlI, neqI, makeFunc_eq, decide_true, decide_false, if_true, if_false, Bool.false_eq_true, Bool.not_true, Bool.not_false, reduceIte, List.getElem?_toArray, List.getElem?_cons_zero, List.getElem?_cons_succ, Option.isSome_none, List.length_map, yV_undef, gopV_none, Nat.zero_add, Nat.reduceAdd, beq_self_eq_true, bne_self_eq_false, and_self, Bool.true_and, Bool.false_and, Bool.and_true, Bool.and_false, Bool.true_or, Bool.false_or, Bool.or_true, Bool.or_false]
      exact hk _ u2
    · have q : ((l.length : Int) == 0) = false := by simp [hz]
      simp only [lx, g, eqlI, q, popO_some, bindH_eq, condV_bool, condV_true, condV_false, yV_bool, gopV_tt, gopV_ff, gopV_tf, gopV_ft, pickV_t, pickV_f, pickV_bool, nilS_ptr, add_eq, sub_eq, mul_eq, lss_eq, leq_eq, gtr_eq, geq_eq, not_eq, minI_eq, maxI_eq, extract_0, extract_1, extract_2, eqlI, neqI, makeFunc_eq, decide_true, decide_false, if_true, if_false, Bool.false_eq_true, Bool.not_true, Bool.not_false, reduceIte, List.getElem?_toArray, List.getElem?_cons_zero, List.getElem?_cons_succ, Option.isSome_none, List.length_map, yV_undef, gopV_none, Nat.zero_add, Nat.reduceAdd, beq_self_eq_true, bne_self_eq_false, and_self, Bool.true_and, Bool.false_and, Bool.and_true, Bool.and_false, Bool.true_or, Bool.false_or, Bool.or_true, Bool.or_false]
      exact whole1_ok (S.ext u2) (HS.ext u2) (by omega) hz fun h3 u3 => hk _ (u2.trans u3)
end Go.Proofs.Ytlkjippiaghbmaa
/- record: the card of RecordWhole. -/
set_option linter.unusedSimpArgs false
set_option linter.unusedVariables false
namespace Go.Proofs.Ytlkjippiaghbmaa
open Go
theorem RV.rds {H : Type} {enc : TypeId × Value → H} {w : World} {spare : Nat → Bool} {held : Bool} {rows : List (List Value)} (h : ∀ r ∈ rows, Rd enc PG w spare held T_api_Record r) : ∃ xs : List RV, rows = xs.map rrw ∧ RcS (heapOf w) xs :=
  rows_of' (fun _ hr => Rc.rd_ hr) h
theorem RecordWhole_row {h : PH} (room : Int) {x : Value} {rows : List (List Value)} (S : SlR h 10 x rows) {l : List RV} (e : rows = l.map rrw ∧ RcS h l) {k : Value → PH → Prop} (hk : ∀ h', Ext h h' → k (.bool true) h') :
    CallsH PG id_carracklaw17_RecordWhole #[.int .i64 room, x] h k := by
  obtain ⟨rfl, HS⟩ := e
  exact RecordWhole_ok room S HS hk
end Go.Proofs.Ytlkjippiaghbmaa
namespace Go.Proofs.Ytlkjippiaghbmaa.recordWhole
open Go Go.ChangeShapes Go.WideShapes Go.ChangeAt Go.RowKit
theorem own : ownKnob Try.prog.godebug = none := by kernel_rfl
set_option maxRecDepth 100000 in
theorem lifted (os : Os) (started : os.Started) (H : Type) (enc : TypeId × Value → H) :
    ReturnsInHanded {} Try.checked os 3 .any (Rows.recordWholeSpec.pre6 enc Try.prog Try.f3 Rows.recordWholeRow.domain false) (Rows.recordWholeSpec.post enc Try.prog Try.f3 false true false false) := by
  refine returnsInHanded_of_change (C := Try.checked) own started (by kernel_rfl) Try.func3
    (ChangeSpec.witness6 (enc := enc) (C := Try.checked) false ⟨#[], #[.int .i64 0, .slice none 0 0], []⟩ 8 (by kernel_rfl) (by kernel_rfl) (by kernel_rfl) (by kernel_rfl)) ?_
  intro W base args ds gs before hval0 hW hcnd _
  have hval : ∀ (j : Nat) t v, Try.f3.params[j]? = some t → args[j]? = some v → Value.okWide Try.prog W .any base t v := hval0
  have hW' := hW
  obtain ⟨p, q, hA0, hV, rfl, hfz, hnd⟩ := hW
  have hA : DataW.TrodAll enc Try.prog W 0 (fun _ => true) true Try.f3.params.toList args.toList ds p := hA0
  rw [Try.params3] at hA hval
  obtain ⟨v0, vs0, d0, ds0, p0, q0, hargs, rfl, rfl, h0, r0⟩ := trodAll_cons hA
  obtain ⟨v1, vs1, d1, ds1, p1, q1, rfl, rfl, rfl, h1, r1⟩ := trodAll_cons r0
  obtain ⟨rfl, rfl, rfl⟩ := trodAll_nil r1
  obtain rfl : args = #[v0, v1] := by cases args; simp_all
  obtain ⟨rfl, rfl⟩ := trodVars_none hV
  obtain ⟨a0, rfl, rfl, rfl, w0⟩ := open_int Try.underlying3 (hval 0 3 v0 rfl rfl) h0
  obtain ⟨rows1, s1, o1⟩ := open_rd T_sl_api_Record.und (by rw [T_api_Record.cells]; decide) (hval 1 _ v1 rfl rfl) h1
  rw [T_api_Record.cells] at s1
  obtain ⟨xs1, e1⟩ := RV.rds o1
  refine (calls_kept (RecordWhole_row a0 s1 e1 fun h' hx => ⟨rfl, hx⟩)).mono fun e W' ⟨he, hk⟩ => ?_
  subst he
  exact ⟨_, rfl, post_of_kept kidsPG fullPG (by rw [Try.params3]; decide +kernel) Try.underlying4 (by kernel_rfl) rfl hW' hk rfl rfl rfl⟩
theorem over : Rows.recordWholeRow.holds Try.pinned (OpenSpec.ofChange Rows.recordWholeSpec) :=
  OpenClaim.holds_of_wide 3 Try.f3 rfl rfl rfl rfl rfl rfl rfl ⟨rfl, rfl, rfl, rfl, rfl⟩ rfl rfl rfl rfl rfl (by kernel_rfl) Try.func3 (by kernel_rfl)
    (of_decide_eq_true (by kernel_rfl)) (by unfold Func.isWrapper; first | (rw [if_pos (by decide +kernel)]; kernel_rfl) | (rw [if_neg (by decide +kernel)]; exact ⟨rfl, rfl⟩))
    (fun os started H enc _ => lifted os started H enc)
theorem proved : Rows.RecordWholeSaid :=
  over
#print axioms proved
end Go.Proofs.Ytlkjippiaghbmaa.recordWhole
