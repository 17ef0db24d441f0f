/- TableBounds. -/
import Derived.Test.YtdgcpeinkjnncaaTabPl
set_option maxRecDepth 40000
set_option linter.unusedSimpArgs false
set_option linter.unusedVariables false
namespace Go.Proofs.Ytdgcpeinkjnncaa
open Go

theorem act_err {L : List It} {room : Int} {c : Ac} (h : actE L room c ≠ 0) : actL L room c = L := by
  unfold actE at h
  unfold actL
  by_cases hd : c.dr = true
  · rw [if_pos hd] at h ⊢
    unfold dropE at h
    cases hg : getL L c.n.p.key with
    | none => exact del_none hg
    | some x => rw [hg] at h; simp at h
  · rw [if_neg hd] at h ⊢
    unfold appE at h
    unfold appL
    by_cases h1 : c.n.right = false
    · rw [if_pos h1]
    · rw [if_neg h1] at h ⊢
      by_cases h2 : c.n.k = 1
      · rw [if_pos h2] at h ⊢
        by_cases h3 : (getL L c.n.p.key).isSome = true
        · rw [if_pos h3]
        · rw [if_neg h3] at h ⊢
          unfold putE at h
          unfold putL
          split at h
          · rename_i hc; rw [if_pos hc]
          · exact absurd rfl h
      · rw [if_neg h2] at h ⊢
        by_cases h3 : c.n.k = 2
        · rw [if_pos h3] at h ⊢
          cases hg : getL L c.n.p.key with
          | some x => rw [hg] at h; simp at h
          | none =>
            rw [hg] at h
            simp only [Option.isSome_none, Bool.false_eq_true, if_false] at h
            unfold putE at h
            show putL L room ⟨c.n.p, 2⟩ = L
            unfold putL
            split at h
            · rename_i hc; rw [if_pos hc]
            · exact absurd rfl h
        · rw [if_neg h3] at h
          exact absurd rfl h
theorem SlR.itk {h : PH} {x : Value} {xs : List It} (H : SlR h 5 x (xs.map It.cells)) {k : IntKind} {j : Nat} {m : It} (hm : xs[j]? = some m) :
    ∃ b o, SemP PG (Instr.indexAt T_sl_api_Item x (.int k j)) = some (.pointer (some ⟨b, o, none⟩)) ∧ SemE PG h (Instr.loadAt T_api_Packet (.pointer (some ⟨b, o, none⟩))) = some (.agg m.p.cells.toArray) := by
  obtain ⟨b, o, cs, e', fr, h1, hb, hle, hex⟩ := H.at T_sl_api_Item.und T_api_Item.info T_api_Item.size (k := k) (j := (j : Int)) (r := m.cells) (by omega) (by rw [List.getElem?_map, Int.toNat_natCast, hm]; rfl)
  refine ⟨b, o, h1, ?_⟩
  rw [T_api_Packet.loadAgg hb (by omega)]
  congr 2
  have : m.p.cells = (m.cells).take 4 := rfl
  rw [this, ← hex]
  apply Array.ext'
  simp [List.extract_eq_take_drop, List.take_take]
theorem put_pk {h : PH} {r : Nat} (hb : h r = some (.cells (zcells PG T_api_Packet) T_api_Packet (0, 0))) (p : Pk) {k : Value → PH → Prop} (hk : ∀ h', Bx h' r p.cells → Upd [r] h h' → k undef h') :
    SemH PG (storeS T_api_Packet (.pointer (some ⟨r, 0, none⟩)) (.agg p.cells.toArray)) h k := by
  refine store_box hb T_api_Packet.info (by show 4 = 4; rfl) (by show 0 < 4; decide) (by rw [T_api_Packet.zc]; rfl) p.allCell ?_
  exact hk _ ⟨_, set_same⟩ (Upd.set (by simp))

theorem fit_cons (room : Int) (L : List It) (n : Nt) (ns : List Nt) : fitL room L (n :: ns) = if appE L room n = 0 then fitL room (appL L room n) ns + 1 else 0 := rfl
theorem fit_le (room : Int) : ∀ (ns : List Nt) (L : List It), fitL room L ns ≤ ns.length
  | [], _ => Nat.le_refl _
  | n :: ns, L => by
    unfold fitL
    split
    · have := fit_le room ns (appL L room n)
      simp only [List.length_cons]; omega
    · omega
set_option maxHeartbeats 1000000 in
theorem inner_ok {h8 : PH} {a i : Nat} {room : Int} {x y v7 : Value} {L : List It} {G7 : List Nat} (hO : OwnR h8 T_api_Item 5 v7 (L.map It.cells) G7) (hs : Srt L) (hL : L.length ≤ 1000) (hi : i ≤ 1000) {k : Value → PH → Prop} {n51 : List Value → PH → Prop}
    (hn : ∀ h', Ext h8 h' → n51 [.int .i64 room, x, y, .pointer (some ⟨a, 0, none⟩), .int .i64 (i + 1 : Nat)] h') :
    LoopL [0, 1, 2, 7, 9, 12, 13] (fun n115 ρ h => carracklaw15_TableBounds_b116 k n51 n115 (ρ 0) (ρ 1) (ρ 2) (ρ 7) (ρ 9) (ρ 12) (ρ 13) h)
      [.int .i64 room, x, y, .pointer (some ⟨a, 0, none⟩), .int .i64 i, v7, .int .i64 1] h8 := by
  refine ⟨fun vs h' => ∃ q : Nat, vs = [.int .i64 room, x, y, .pointer (some ⟨a, 0, none⟩), .int .i64 i, v7, .int .i64 (q + 1 : Nat)] ∧ (q = 0 ∨ q < L.length) ∧ Ext h8 h', upTo (L.length + 1) 6, ⟨0, rfl, .inl rfl, Upd.refl⟩, ?_⟩
  rintro ρ h9 ⟨q, hvs, hq, w9⟩
  simp only [List.map_cons, List.map_nil, List.cons.injEq, and_true] at hvs
  obtain ⟨e0, e1, e2, e3, e4, e5, e6⟩ := hvs
  rw [e0, e1, e2, e3, e4, e5, e6]
  unfold carracklaw15_TableBounds_b116
  have hO9 := hO.ext w9
  have l9 := hO9.slR.len (t' := T_int) T_sl_api_Item.und
  rw [List.length_map] at l9
  by_cases hlt : q + 1 < L.length
  · have hd : (((q + 1 : Nat) : Int) < (L.length : Int)) = True := by apply eq_true; omega
    have em : IntKind.i64.wrap (((q + 1 : Nat) : Int) - 1) = (q : Int) := by rw [i64_wrap (by omega) (by omega)]; omega
    have ep : IntKind.i64.wrap (((q + 1 : Nat) : Int) + 1) = ((q + 1 + 1 : Nat) : Int) := by rw [i64_wrap (by omega) (by omega)]; omega
    obtain ⟨m, hm⟩ : ∃ m, L[q]? = some m := ⟨_, List.getElem?_eq_getElem (by omega)⟩
    obtain ⟨m', hm'⟩ : ∃ m, L[q + 1]? = some m := ⟨_, List.getElem?_eq_getElem hlt⟩
    have hkl : kl m.key m'.key := by
      unfold Srt at hs
      rw [List.pairwise_iff_getElem] at hs
      have := hs q (q + 1) (by omega) hlt (by omega)
      rw [List.getElem?_eq_getElem (by omega)] at hm
      rw [List.getElem?_eq_getElem hlt] at hm'
      cases hm; cases hm'
      exact this
    obtain ⟨b1, o1, i1, q1⟩ := hO9.slR.itk (k := .i64) hm
    obtain ⟨b2, o2, i2, q2⟩ := hO9.slR.itk (k := .i64) hm'
    simp only [l9, hd, em, i1, i2, T_api_Item.f0, q1, q2, popO_some, bindH_eq, condV_bool, condV_true, condV_false, yV_bool, gopV_tt, gopV_ff, gopV_tf, gopV_ft, pickV_t, pickV_f, pickV_bool, nilS_ptr, add_eq, sub_eq, mul_eq, lss_eq, leq_eq, gtr_eq, geq_eq, not_eq, minI_eq, maxI_eq, extract_0, extract_1, extract_2, eqlI, neqI, makeFunc_eq, decide_true, decide_false, if_true, if_false, Bool.false_eq_true, Bool.not_true, Bool.not_false, reduceIte, List.getElem?_toArray, List.getElem?_cons_zero, List.getElem?_cons_succ, Option.isSome_none, List.length_map]
    intro r1 hr1
    try rw [bindH_eq]
    intro r2 hr2
    try rw [bindH_eq]
    have v1 : Ext h9 (h9.set r1 (.cells (zcells PG T_api_Packet) T_api_Packet)) := Upd.new hr1
    have z1 : (h9.set r1 (.cells (zcells PG T_api_Packet) T_api_Packet)) r1 = some (.cells (zcells PG T_api_Packet) T_api_Packet (0, 0)) := set_same
    generalize h9.set r1 (.cells (zcells PG T_api_Packet) T_api_Packet) = h10 at *
    have n1 : h9 r1 = none := hr1
    have v2 : Ext h10 (h10.set r2 (.cells (zcells PG T_api_Packet) T_api_Packet)) := Upd.new hr2
    have z2 : (h10.set r2 (.cells (zcells PG T_api_Packet) T_api_Packet)) r2 = some (.cells (zcells PG T_api_Packet) T_api_Packet (0, 0)) := set_same
    have n2 : h9 r2 = none := v1.none hr2
    have n12 : r2 ≠ r1 := by rintro rfl; rw [z1] at hr2; cases hr2
    generalize h10.set r2 (.cells (zcells PG T_api_Packet) T_api_Packet) = h11 at *
    refine put_pk (v2.get z1) m.p fun h12 b12 u12 => ?_
    have E12 : Ext h9 h12 := (v1.trans v2).fresh u12 (Fresh.one n1)
    obtain ⟨b3, o3, i3, q3⟩ := (hO9.ext E12).slR.itk (k := .i64) hm'
    rw [i2] at i3; cases i3
    refine ⟨q3, ?_⟩
    refine put_pk (u12.get z2 (by simpa using n12)) m'.p fun h13 b13 u13 => ?_
    have E13 : Ext h9 h13 := E12.fresh u13 (Fresh.one n2)
    have b12' := b12.upd u13 (by simpa using Ne.symm n12)
    have c1 : cellH h13 ⟨r1, 0, none⟩ = some (.int .i64 m.p.f) := b12'.cell 0
    have c2 : cellH h13 ⟨r1, 0 + 1, none⟩ = some (.int .u64 m.p.s) := b12'.cell 1
    have c3 : cellH h13 ⟨r2, 0, none⟩ = some (.int .i64 m'.p.f) := b13.cell 0
    have c4 : cellH h13 ⟨r2, 0 + 1, none⟩ = some (.int .u64 m'.p.s) := b13.cell 1
    rcases hkl with hk1 | ⟨hk1, hk2⟩
    · have hk1 : m.p.f < m'.p.f := hk1
      have d2 : (m'.p.f < m.p.f) = False := by apply eq_false; omega
      have d3 : (m.p.f == m'.p.f) = false := by simp; omega
      simp only [T_api_Packet.f0, T_api_Packet.f1, T_int.load, T_uint64.load, c1, c2, c3, c4, d2, d3, ep, popO_some, bindH_eq, condV_bool, condV_true, condV_false, yV_bool, gopV_tt, gopV_ff, gopV_tf, gopV_ft, pickV_t, pickV_f, pickV_bool, nilS_ptr, add_eq, sub_eq, mul_eq, lss_eq, leq_eq, gtr_eq, geq_eq, not_eq, minI_eq, maxI_eq, extract_0, extract_1, extract_2, eqlI, neqI, makeFunc_eq, decide_true, decide_false, if_true, if_false, Bool.false_eq_true, Bool.not_true, Bool.not_false, reduceIte, List.getElem?_toArray, List.getElem?_cons_zero, List.getElem?_cons_succ, Option.isSome_none, List.length_map]
      exact ⟨⟨q + 1, rfl, .inr hlt, w9.trans E13⟩, by simp [upTo, e6]; omega⟩
    · have hk1 : m.p.f = m'.p.f := hk1
      have hk2 : m.p.s < m'.p.s := hk2
      have d2 : (m'.p.f < m.p.f) = False := by apply eq_false; omega
      have d3 : (m.p.f == m'.p.f) = true := by simp [hk1]
      have d4 : (m'.p.s ≤ m.p.s) = False := by apply eq_false; omega
      simp only [T_api_Packet.f0, T_api_Packet.f1, T_int.load, T_uint64.load, c1, c2, c3, c4, d2, d3, d4, ep, popO_some, bindH_eq, condV_bool, condV_true, condV_false, yV_bool, gopV_tt, gopV_ff, gopV_tf, gopV_ft, pickV_t, pickV_f, pickV_bool, nilS_ptr, add_eq, sub_eq, mul_eq, lss_eq, leq_eq, gtr_eq, geq_eq, not_eq, minI_eq, maxI_eq, extract_0, extract_1, extract_2, eqlI, neqI, makeFunc_eq, decide_true, decide_false, if_true, if_false, Bool.false_eq_true, Bool.not_true, Bool.not_false, reduceIte, List.getElem?_toArray, List.getElem?_cons_zero, List.getElem?_cons_succ, Option.isSome_none, List.length_map]
      exact ⟨⟨q + 1, rfl, .inr hlt, w9.trans E13⟩, by simp [upTo, e6]; omega⟩
  · have hd : (((q + 1 : Nat) : Int) < (L.length : Int)) = False := by apply eq_false; omega
    have ei : IntKind.i64.wrap ((i : Int) + 1) = ((i + 1 : Nat) : Int) := by rw [i64_wrap (by omega) (by omega)]; omega
    simp only [l9, hd, ei, popO_some, bindH_eq, condV_bool, condV_true, condV_false, yV_bool, gopV_tt, gopV_ff, gopV_tf, gopV_ft, pickV_t, pickV_f, pickV_bool, nilS_ptr, add_eq, sub_eq, mul_eq, lss_eq, leq_eq, gtr_eq, geq_eq, not_eq, minI_eq, maxI_eq, extract_0, extract_1, extract_2, eqlI, neqI, makeFunc_eq, decide_true, decide_false, if_true, if_false, Bool.false_eq_true, Bool.not_true, Bool.not_false, reduceIte, List.getElem?_toArray, List.getElem?_cons_zero, List.getElem?_cons_succ, Option.isSome_none, List.length_map]
    exact hn h9 w9

set_option maxHeartbeats 1000000 in
theorem bounds_ok {h0 : PH} {room : Int} {x y : Value} {al : List Ac} {ns : List Nt} (hx : SlR h0 6 x (al.map Ac.cells)) (hy : SlR h0 5 y (ns.map Nt.cells)) {k : Value → PH → Prop}
    (hk : ∀ h', Ext h0 h' → k (.bool true) h') : CallsH PG id_carracklaw15_TableBounds #[.int .i64 room, x, y] h0 k := by
  have lx := hx.len (t' := T_int) T_sl_carrackref15_Act.und
  have ly := hy.len (t' := T_int) T_sl_api_Note.und
  rw [List.length_map] at lx ly
  apply carracklaw15_TableBounds.call
  unfold carracklaw15_TableBounds
  refine awake_ok fun h1 u1 => ?_
  by_cases hl : 100 < al.length
  · have d1 : ((100 : Int) < (al.length : Int)) = True := by apply eq_true; omega
    simp only [lx, d1, popO_some, bindH_eq, condV_bool, condV_true, condV_false, yV_bool, gopV_tt, gopV_ff, gopV_tf, gopV_ft, pickV_t, pickV_f, pickV_bool, nilS_ptr, add_eq, sub_eq, mul_eq, lss_eq, leq_eq, gtr_eq, geq_eq, not_eq, minI_eq, maxI_eq, extract_0, extract_1, extract_2, eqlI, neqI, makeFunc_eq, decide_true, decide_false, if_true, if_false, Bool.false_eq_true, Bool.not_true, Bool.not_false, reduceIte, List.getElem?_toArray, List.getElem?_cons_zero, List.getElem?_cons_succ, Option.isSome_none, List.length_map]
    exact hk h1 u1
  have d1 : ((100 : Int) < (al.length : Int)) = False := by apply eq_false; omega
  simp only [lx, d1, popO_some, bindH_eq, condV_bool, condV_true, condV_false, yV_bool, gopV_tt, gopV_ff, gopV_tf, gopV_ft, pickV_t, pickV_f, pickV_bool, nilS_ptr, add_eq, sub_eq, mul_eq, lss_eq, leq_eq, gtr_eq, geq_eq, not_eq, minI_eq, maxI_eq, extract_0, extract_1, extract_2, eqlI, neqI, makeFunc_eq, decide_true, decide_false, if_true, if_false, Bool.false_eq_true, Bool.not_true, Bool.not_false, reduceIte, List.getElem?_toArray, List.getElem?_cons_zero, List.getElem?_cons_succ, Option.isSome_none, List.length_map]
  refine notes_ok (hx.ext u1) (by omega) fun v h2 F2 hO2 f2 u2 => ?_
  refine few_ok hO2.slR fun b _ => ?_
  have w2 := u1.trans u2
  cases b with
  | false => simp only [popO_some, bindH_eq, condV_bool, condV_true, condV_false, yV_bool, gopV_tt, gopV_ff, gopV_tf, gopV_ft, pickV_t, pickV_f, pickV_bool, nilS_ptr, add_eq, sub_eq, mul_eq, lss_eq, leq_eq, gtr_eq, geq_eq, not_eq, minI_eq, maxI_eq, extract_0, extract_1, extract_2, eqlI, neqI, makeFunc_eq, decide_true, decide_false, if_true, if_false, Bool.false_eq_true, Bool.not_true, Bool.not_false, reduceIte, List.getElem?_toArray, List.getElem?_cons_zero, List.getElem?_cons_succ, Option.isSome_none, List.length_map]; exact hk h2 w2
  | true =>
  simp only [popO_some, bindH_eq, condV_bool, condV_true, condV_false, yV_bool, gopV_tt, gopV_ff, gopV_tf, gopV_ft, pickV_t, pickV_f, pickV_bool, nilS_ptr, add_eq, sub_eq, mul_eq, lss_eq, leq_eq, gtr_eq, geq_eq, not_eq, minI_eq, maxI_eq, extract_0, extract_1, extract_2, eqlI, neqI, makeFunc_eq, decide_true, decide_false, if_true, if_false, Bool.false_eq_true, Bool.not_true, Bool.not_false, reduceIte, List.getElem?_toArray, List.getElem?_cons_zero, List.getElem?_cons_succ, Option.isSome_none, List.length_map]
  refine few_ok (hy.ext w2) fun b hb => ?_
  cases b with
  | false => simp only [popO_some, bindH_eq, condV_bool, condV_true, condV_false, yV_bool, gopV_tt, gopV_ff, gopV_tf, gopV_ft, pickV_t, pickV_f, pickV_bool, nilS_ptr, add_eq, sub_eq, mul_eq, lss_eq, leq_eq, gtr_eq, geq_eq, not_eq, minI_eq, maxI_eq, extract_0, extract_1, extract_2, eqlI, neqI, makeFunc_eq, decide_true, decide_false, if_true, if_false, Bool.false_eq_true, Bool.not_true, Bool.not_false, reduceIte, List.getElem?_toArray, List.getElem?_cons_zero, List.getElem?_cons_succ, Option.isSome_none, List.length_map]; exact hk h2 w2
  | true =>
  have hnl := hb rfl
  simp only [popO_some, bindH_eq, condV_bool, condV_true, condV_false, yV_bool, gopV_tt, gopV_ff, gopV_tf, gopV_ft, pickV_t, pickV_f, pickV_bool, nilS_ptr, add_eq, sub_eq, mul_eq, lss_eq, leq_eq, gtr_eq, geq_eq, not_eq, minI_eq, maxI_eq, extract_0, extract_1, extract_2, eqlI, neqI, makeFunc_eq, decide_true, decide_false, if_true, if_false, Bool.false_eq_true, Bool.not_true, Bool.not_false, reduceIte, List.getElem?_toArray, List.getElem?_cons_zero, List.getElem?_cons_succ, Option.isSome_none, List.length_map]
  have z1 : ((1 : Int) == 1) = true := by decide
  have z0 : ((0 : Int) != 0) = false := by decide
  have z2 : ((1 : Int) != 0) = true := by decide
  refine New_ok room (fun hbad => ?_) fun g1 g2 a h3 F3 H3 f3 u3 => ?_
  · simp only [z2, z1, popO_some, bindH_eq, condV_bool, condV_true, condV_false, yV_bool, gopV_tt, gopV_ff, gopV_tf, gopV_ft, pickV_t, pickV_f, pickV_bool, nilS_ptr, add_eq, sub_eq, mul_eq, lss_eq, leq_eq, gtr_eq, geq_eq, not_eq, minI_eq, maxI_eq, extract_0, extract_1, extract_2, eqlI, neqI, makeFunc_eq, decide_true, decide_false, if_true, if_false, Bool.false_eq_true, Bool.not_true, Bool.not_false, reduceIte, List.getElem?_toArray, List.getElem?_cons_zero, List.getElem?_cons_succ, Option.isSome_none, List.length_map]; exact hk h2 w2
  simp only [z0, ptrNil, popO_some, bindH_eq, condV_bool, condV_true, condV_false, yV_bool, gopV_tt, gopV_ff, gopV_tf, gopV_ft, pickV_t, pickV_f, pickV_bool, nilS_ptr, add_eq, sub_eq, mul_eq, lss_eq, leq_eq, gtr_eq, geq_eq, not_eq, minI_eq, maxI_eq, extract_0, extract_1, extract_2, eqlI, neqI, makeFunc_eq, decide_true, decide_false, if_true, if_false, Bool.false_eq_true, Bool.not_true, Bool.not_false, reduceIte, List.getElem?_toArray, List.getElem?_cons_zero, List.getElem?_cons_succ, Option.isSome_none, List.length_map]
  have w3 := w2.trans u3
  have f3' : Fresh h0 F3 := fun b hb => w2.none (f3 b hb)
  refine ⟨fun vs h' => ∃ (i : Nat) (L : List It) (F : List Nat), i ≤ al.length ∧ vs = [.int .i64 room, x, y, .pointer (some ⟨a, 0, none⟩), .int .i64 i] ∧ TAt h' a L room F ∧ Fresh h0 F ∧ L.length ≤ room ∧ Ext h0 h',
    upTo al.length 4, ⟨0, [], F3, by omega, rfl, H3, f3', by simp; omega, w3⟩, ?_⟩
  rintro ρ h' ⟨i, L, F, hi, hvs, HT, fF, hLr, w⟩
  simp only [List.map_cons, List.map_nil, List.cons.injEq, and_true] at hvs
  obtain ⟨e0, e1, e2, e3, e4⟩ := hvs
  rw [e0, e1, e2, e3, e4]
  unfold carracklaw15_TableBounds_b52
  by_cases hlt : i < al.length
  · have hd : ((i : Int) < (al.length : Int)) = True := by apply eq_true; omega
    obtain ⟨c, hc⟩ : ∃ m, al[i]? = some m := ⟨_, List.getElem?_eq_getElem hlt⟩
    have ei : IntKind.i64.wrap ((i : Int) + 1) = ((i + 1 : Nat) : Int) := by rw [i64_wrap (by omega) (by omega)]; omega
    simp only [lx, hd, popO_some, bindH_eq, condV_bool, condV_true, condV_false, yV_bool, gopV_tt, gopV_ff, gopV_tf, gopV_ft, pickV_t, pickV_f, pickV_bool, nilS_ptr, add_eq, sub_eq, mul_eq, lss_eq, leq_eq, gtr_eq, geq_eq, not_eq, minI_eq, maxI_eq, extract_0, extract_1, extract_2, eqlI, neqI, makeFunc_eq, decide_true, decide_false, if_true, if_false, Bool.false_eq_true, Bool.not_true, Bool.not_false, reduceIte, List.getElem?_toArray, List.getElem?_cons_zero, List.getElem?_cons_succ, Option.isSome_none, List.length_map]
    refine Items_ok HT (by omega) fun v5 h5 G5 hO5 f5 u5 => ?_
    have w5 := w.trans u5
    obtain ⟨p, p1, p2⟩ := (hx.ext w5).ac (k := .i64) hc
    simp only [p1, p2, popO_some, bindH_eq, condV_bool, condV_true, condV_false, yV_bool, gopV_tt, gopV_ff, gopV_tf, gopV_ft, pickV_t, pickV_f, pickV_bool, nilS_ptr, add_eq, sub_eq, mul_eq, lss_eq, leq_eq, gtr_eq, geq_eq, not_eq, minI_eq, maxI_eq, extract_0, extract_1, extract_2, eqlI, neqI, makeFunc_eq, decide_true, decide_false, if_true, if_false, Bool.false_eq_true, Bool.not_true, Bool.not_false, reduceIte, List.getElem?_toArray, List.getElem?_cons_zero, List.getElem?_cons_succ, Option.isSome_none, List.length_map]
    refine do_ok (HT.ext u5) c fun h6 H6 u6 => ?_
    have w6 : Ext h0 h6 := w5.fresh u6 fF
    have hLr6 := act_len HT.srt hLr c
    have dj : ∀ b ∈ G5, b ∉ F := fun b hb hm => absurd (f5 b hb) (HT.known b hm)
    have hO6 := hO5.upd u6 dj
    refine Items_ok H6 (by omega) fun v7 h7 G7 hO7 f7 u7 => ?_
    have w7 := w6.trans u7
    have l7 := hO7.slR.len (t' := T_int) T_sl_api_Item.und
    rw [List.length_map] at l7
    have e5 : (room < ((actL L room c).length : Int)) = False := by apply eq_false; omega
    simp only [l7, e5, popO_some, bindH_eq, condV_bool, condV_true, condV_false, yV_bool, gopV_tt, gopV_ff, gopV_tf, gopV_ft, pickV_t, pickV_f, pickV_bool, nilS_ptr, add_eq, sub_eq, mul_eq, lss_eq, leq_eq, gtr_eq, geq_eq, not_eq, minI_eq, maxI_eq, extract_0, extract_1, extract_2, eqlI, neqI, makeFunc_eq, decide_true, decide_false, if_true, if_false, Bool.false_eq_true, Bool.not_true, Bool.not_false, reduceIte, List.getElem?_toArray, List.getElem?_cons_zero, List.getElem?_cons_succ, Option.isSome_none, List.length_map]
    refine Len_ok (H6.ext u7) ?_
    have e6 : (((actL L room c).length : Int) != ((actL L room c).length : Int)) = false := by simp
    simp only [e6, popO_some, bindH_eq, condV_bool, condV_true, condV_false, yV_bool, gopV_tt, gopV_ff, gopV_tf, gopV_ft, pickV_t, pickV_f, pickV_bool, nilS_ptr, add_eq, sub_eq, mul_eq, lss_eq, leq_eq, gtr_eq, geq_eq, not_eq, minI_eq, maxI_eq, extract_0, extract_1, extract_2, eqlI, neqI, makeFunc_eq, decide_true, decide_false, if_true, if_false, Bool.false_eq_true, Bool.not_true, Bool.not_false, reduceIte, List.getElem?_toArray, List.getElem?_cons_zero, List.getElem?_cons_succ, Option.isSome_none, List.length_map]
    have fin : ∀ (h8 : PH), Ext h7 h8 → LoopL [0, 1, 2, 7, 9, 12, 13] (fun n115 ρ' h => carracklaw15_TableBounds_b116 k (fun vs' h' =>
          (∃ (i : Nat) (L : List It) (F : List Nat), i ≤ al.length ∧ vs' = [.int .i64 room, x, y, .pointer (some ⟨a, 0, none⟩), .int .i64 i] ∧ TAt h' a L room F ∧ Fresh h0 F ∧ L.length ≤ room ∧ Ext h0 h') ∧ upTo al.length 4 vs' h' < upTo al.length 4 ([0, 1, 2, 7, 9].map ρ) h') n115 (ρ' 0) (ρ' 1) (ρ' 2) (ρ' 7) (ρ' 9) (ρ' 12) (ρ' 13) h)
        [.int .i64 room, x, y, .pointer (some ⟨a, 0, none⟩), .int .i64 i, v7, .int .i64 1] h8 := fun h8 u8 => by
      refine inner_ok (hO7.ext u8) H6.srt (by omega) (by omega) fun h9 u9 => ?_
      refine ⟨⟨i + 1, _, F, by omega, rfl, H6.ext ((u7.trans u8).trans u9), fF, hLr6, (w7.trans u8).trans u9⟩, ?_⟩
      simp [upTo, e4]; omega
    by_cases hz : actE L room c = 0
    · have e7 : (actE L room c != 0) = false := by simp [hz]
      simp only [e7, popO_some, bindH_eq, condV_bool, condV_true, condV_false, yV_bool, gopV_tt, gopV_ff, gopV_tf, gopV_ft, pickV_t, pickV_f, pickV_bool, nilS_ptr, add_eq, sub_eq, mul_eq, lss_eq, leq_eq, gtr_eq, geq_eq, not_eq, minI_eq, maxI_eq, extract_0, extract_1, extract_2, eqlI, neqI, makeFunc_eq, decide_true, decide_false, if_true, if_false, Bool.false_eq_true, Bool.not_true, Bool.not_false, reduceIte, List.getElem?_toArray, List.getElem?_cons_zero, List.getElem?_cons_succ, Option.isSome_none, List.length_map]
      exact fin h7 Upd.refl
    · have e7 : (actE L room c != 0) = true := by simp [hz]
      simp only [e7, popO_some, bindH_eq, condV_bool, condV_true, condV_false, yV_bool, gopV_tt, gopV_ff, gopV_tf, gopV_ft, pickV_t, pickV_f, pickV_bool, nilS_ptr, add_eq, sub_eq, mul_eq, lss_eq, leq_eq, gtr_eq, geq_eq, not_eq, minI_eq, maxI_eq, extract_0, extract_1, extract_2, eqlI, neqI, makeFunc_eq, decide_true, decide_false, if_true, if_false, Bool.false_eq_true, Bool.not_true, Bool.not_false, reduceIte, List.getElem?_toArray, List.getElem?_cons_zero, List.getElem?_cons_succ, Option.isSome_none, List.length_map]
      have hsame := act_err hz
      refine Same_ok hO7.slR (hO6.ext u7).slR (by omega) ?_
      have e8 : decide (actL L room c = L) = true := by simp [hsame]
      simp only [e8, popO_some, bindH_eq, condV_bool, condV_true, condV_false, yV_bool, gopV_tt, gopV_ff, gopV_tf, gopV_ft, pickV_t, pickV_f, pickV_bool, nilS_ptr, add_eq, sub_eq, mul_eq, lss_eq, leq_eq, gtr_eq, geq_eq, not_eq, minI_eq, maxI_eq, extract_0, extract_1, extract_2, eqlI, neqI, makeFunc_eq, decide_true, decide_false, if_true, if_false, Bool.false_eq_true, Bool.not_true, Bool.not_false, reduceIte, List.getElem?_toArray, List.getElem?_cons_zero, List.getElem?_cons_succ, Option.isSome_none, List.length_map]
      exact fin h7 Upd.refl
  · have hd : ((i : Int) < (al.length : Int)) = False := by apply eq_false; omega
    simp only [lx, hd, popO_some, bindH_eq, condV_bool, condV_true, condV_false, yV_bool, gopV_tt, gopV_ff, gopV_tf, gopV_ft, pickV_t, pickV_f, pickV_bool, nilS_ptr, add_eq, sub_eq, mul_eq, lss_eq, leq_eq, gtr_eq, geq_eq, not_eq, minI_eq, maxI_eq, extract_0, extract_1, extract_2, eqlI, neqI, makeFunc_eq, decide_true, decide_false, if_true, if_false, Bool.false_eq_true, Bool.not_true, Bool.not_false, reduceIte, List.getElem?_toArray, List.getElem?_cons_zero, List.getElem?_cons_succ, Option.isSome_none, List.length_map]
    refine Items_ok HT (by omega) fun v5 h5 G5 hO5 f5 u5 => ?_
    have w5 := w.trans u5
    refine Copy_ok (HT.ext u5) fun c h6 F6 H6 f6 u6 => ?_
    have w6 := w5.trans u6
    refine Fit_ok (HT.ext (u5.trans u6)) (hy.ext w6) (by omega) fun h7 u7 => ?_
    have w7 := w6.trans u7
    have hfl := fit_le room ns L
    have e5 : ((fitL room L ns : Int) < 0) = False := by apply eq_false; omega
    have e6 : ((ns.length : Int) < (fitL room L ns : Int)) = False := by apply eq_false; omega
    simp only [ptrNil, e5, e6, ly, popO_some, bindH_eq, condV_bool, condV_true, condV_false, yV_bool, gopV_tt, gopV_ff, gopV_tf, gopV_ft, pickV_t, pickV_f, pickV_bool, nilS_ptr, add_eq, sub_eq, mul_eq, lss_eq, leq_eq, gtr_eq, geq_eq, not_eq, minI_eq, maxI_eq, extract_0, extract_1, extract_2, eqlI, neqI, makeFunc_eq, decide_true, decide_false, if_true, if_false, Bool.false_eq_true, Bool.not_true, Bool.not_false, reduceIte, List.getElem?_toArray, List.getElem?_cons_zero, List.getElem?_cons_succ, Option.isSome_none, List.length_map]
    refine ⟨fun vs h' => ∃ (q : Nat) (L' : List It), q ≤ fitL room L ns ∧ vs = [y, .pointer (some ⟨a, 0, none⟩), v5, .pointer (some ⟨c, 0, none⟩), .int .i64 (fitL room L ns : Nat), .int .i64 q] ∧ TAt h' c L' room F6 ∧ TAt h' a L room F ∧ OwnR h' T_api_Item 5 v5 (L.map It.cells) G5 ∧ Ext h0 h' ∧ fitL room L ns = q + fitL room L' (ns.drop q),
      upTo (fitL room L ns) 5, ⟨0, L, by omega, rfl, H6.ext u7, HT.ext ((u5.trans u6).trans u7), (hO5.ext u6).ext u7, w7, by simp⟩, ?_⟩
    rintro ρ2 h8 ⟨q, L', hq, hvs2, HC, HA, hO8, w8, hf⟩
    simp only [List.map_cons, List.map_nil, List.cons.injEq, and_true] at hvs2
    obtain ⟨g0, g1, g2, g3, g4, g5⟩ := hvs2
    rw [g0, g1, g2, g3, g4, g5]
    unfold carracklaw15_TableBounds_b220
    have f6' : Fresh h0 F6 := fun b hb => w5.none (f6 b hb)
    by_cases hqlt : q < fitL room L ns
    · have hd : ((q : Int) < (fitL room L ns : Int)) = True := by apply eq_true; omega
      obtain ⟨n, hm⟩ : ∃ m, ns[q]? = some m := ⟨_, List.getElem?_eq_getElem (by omega)⟩
      obtain ⟨p, p1, p2⟩ := (hy.ext w8).nt (k := .i64) hm
      have ei : IntKind.i64.wrap ((q : Int) + 1) = ((q + 1 : Nat) : Int) := by rw [i64_wrap (by omega) (by omega)]; omega
      have hdrop : ns.drop q = n :: ns.drop (q + 1) := by
        rw [List.drop_eq_getElem_cons (by omega)]
        have : ns[q]'(by omega) = n := by rw [List.getElem?_eq_getElem (by omega)] at hm; simpa using hm
        rw [this]
      have hz : appE L' room n = 0 := by
        rw [hdrop, fit_cons] at hf
        split at hf
        · assumption
        · omega
      have hf' : fitL room L ns = q + 1 + fitL room (appL L' room n) (ns.drop (q + 1)) := by
        rw [hf, hdrop]
        show q + (if appE L' room n = 0 then _ else _) = _
        rw [if_pos hz]; omega
      simp only [hd, p1, p2, popO_some, bindH_eq, condV_bool, condV_true, condV_false, yV_bool, gopV_tt, gopV_ff, gopV_tf, gopV_ft, pickV_t, pickV_f, pickV_bool, nilS_ptr, add_eq, sub_eq, mul_eq, lss_eq, leq_eq, gtr_eq, geq_eq, not_eq, minI_eq, maxI_eq, extract_0, extract_1, extract_2, eqlI, neqI, makeFunc_eq, decide_true, decide_false, if_true, if_false, Bool.false_eq_true, Bool.not_true, Bool.not_false, reduceIte, List.getElem?_toArray, List.getElem?_cons_zero, List.getElem?_cons_succ, Option.isSome_none, List.length_map]
      refine Apply_ok HC n fun h9 H9 u9 => ?_
      have e7 : (appE L' room n != 0) = false := by simp [hz]
      simp only [e7, ei, popO_some, bindH_eq, condV_bool, condV_true, condV_false, yV_bool, gopV_tt, gopV_ff, gopV_tf, gopV_ft, pickV_t, pickV_f, pickV_bool, nilS_ptr, add_eq, sub_eq, mul_eq, lss_eq, leq_eq, gtr_eq, geq_eq, not_eq, minI_eq, maxI_eq, extract_0, extract_1, extract_2, eqlI, neqI, makeFunc_eq, decide_true, decide_false, if_true, if_false, Bool.false_eq_true, Bool.not_true, Bool.not_false, reduceIte, List.getElem?_toArray, List.getElem?_cons_zero, List.getElem?_cons_succ, Option.isSome_none, List.length_map]
      have d1 : ∀ b ∈ F, b ∉ F6 := fun b hb hm => absurd (f6 b hm) (by
        have := (HT.ext u5).known b hb; exact this)
      have d2 : ∀ b ∈ G5, b ∉ F6 := fun b hb hm => absurd (f6 b hm) (hO5.known b hb)
      exact ⟨⟨q + 1, _, by omega, rfl, H9, HA.upd u9 d1, hO8.upd u9 d2, w8.fresh u9 f6', hf'⟩, by simp [upTo, g5]; omega⟩
    · have hql : q = fitL room L ns := by omega
      have hd : ((q : Int) < (fitL room L ns : Int)) = False := by apply eq_false; omega
      simp only [hd, popO_some, bindH_eq, condV_bool, condV_true, condV_false, yV_bool, gopV_tt, gopV_ff, gopV_tf, gopV_ft, pickV_t, pickV_f, pickV_bool, nilS_ptr, add_eq, sub_eq, mul_eq, lss_eq, leq_eq, gtr_eq, geq_eq, not_eq, minI_eq, maxI_eq, extract_0, extract_1, extract_2, eqlI, neqI, makeFunc_eq, decide_true, decide_false, if_true, if_false, Bool.false_eq_true, Bool.not_true, Bool.not_false, reduceIte, List.getElem?_toArray, List.getElem?_cons_zero, List.getElem?_cons_succ, Option.isSome_none, List.length_map]
      refine Items_ok HA (by omega) fun v9 h9 G9 hO9 f9 u9 => ?_
      refine Same_ok hO9.slR (hO8.ext u9).slR (by omega) ?_
      have w9 := w8.trans u9
      have e8 : decide (L = L) = true := by simp
      by_cases hend : fitL room L ns = ns.length
      · have e9 : ((fitL room L ns : Int) == (ns.length : Int)) = true := by simp [hend]
        simp only [e8, ly, e9, popO_some, bindH_eq, condV_bool, condV_true, condV_false, yV_bool, gopV_tt, gopV_ff, gopV_tf, gopV_ft, pickV_t, pickV_f, pickV_bool, nilS_ptr, add_eq, sub_eq, mul_eq, lss_eq, leq_eq, gtr_eq, geq_eq, not_eq, minI_eq, maxI_eq, extract_0, extract_1, extract_2, eqlI, neqI, makeFunc_eq, decide_true, decide_false, if_true, if_false, Bool.false_eq_true, Bool.not_true, Bool.not_false, reduceIte, List.getElem?_toArray, List.getElem?_cons_zero, List.getElem?_cons_succ, Option.isSome_none, List.length_map]
        exact hk h9 w9
      · have e9 : ((fitL room L ns : Int) == (ns.length : Int)) = false := by simp; omega
        obtain ⟨n, hm⟩ : ∃ m, ns[q]? = some m := ⟨_, List.getElem?_eq_getElem (by omega)⟩
        obtain ⟨p, p1, p2⟩ := (hy.ext w9).nt (k := .i64) hm
        rw [hql] at p1
        have hdrop : ns.drop q = n :: ns.drop (q + 1) := by
          rw [List.drop_eq_getElem_cons (by omega)]
          have : ns[q]'(by omega) = n := by rw [List.getElem?_eq_getElem (by omega)] at hm; simpa using hm
          rw [this]
        have hz : appE L' room n ≠ 0 := by
          intro hz
          rw [hdrop, fit_cons, if_pos hz] at hf
          omega
        simp only [e8, ly, e9, p1, p2, popO_some, bindH_eq, condV_bool, condV_true, condV_false, yV_bool, gopV_tt, gopV_ff, gopV_tf, gopV_ft, pickV_t, pickV_f, pickV_bool, nilS_ptr, add_eq, sub_eq, mul_eq, lss_eq, leq_eq, gtr_eq, geq_eq, not_eq, minI_eq, maxI_eq, extract_0, extract_1, extract_2, eqlI, neqI, makeFunc_eq, decide_true, decide_false, if_true, if_false, Bool.false_eq_true, Bool.not_true, Bool.not_false, reduceIte, List.getElem?_toArray, List.getElem?_cons_zero, List.getElem?_cons_succ, Option.isSome_none, List.length_map]
        refine Apply_ok (HC.ext u9) n fun h10 H10 u10 => ?_
        have e10 : (appE L' room n != 0) = true := by simp [hz]
        simp only [e10, popO_some, bindH_eq, condV_bool, condV_true, condV_false, yV_bool, gopV_tt, gopV_ff, gopV_tf, gopV_ft, pickV_t, pickV_f, pickV_bool, nilS_ptr, add_eq, sub_eq, mul_eq, lss_eq, leq_eq, gtr_eq, geq_eq, not_eq, minI_eq, maxI_eq, extract_0, extract_1, extract_2, eqlI, neqI, makeFunc_eq, decide_true, decide_false, if_true, if_false, Bool.false_eq_true, Bool.not_true, Bool.not_false, reduceIte, List.getElem?_toArray, List.getElem?_cons_zero, List.getElem?_cons_succ, Option.isSome_none, List.length_map]
        exact hk h10 (w9.fresh u10 f6')
theorem TableBounds_ok {h : PH} {x y : Value} {r1 r2 : List (List Value)} (room : Int) (hx : SlR h 6 x r1) (hy : SlR h 5 y r2) {al : List Ac} (e1 : r1 = al.map Ac.cells ∧ ∀ c ∈ al, c.n.p.ok) {ns : List Nt} (e2 : r2 = ns.map Nt.cells ∧ ∀ n ∈ ns, n.p.ok)
    {k : Value → PH → Prop} (hk : ∀ h', Ext h h' → k (.bool true) h') : CallsH PG id_carracklaw15_TableBounds #[.int .i64 room, x, y] h k := by
  obtain ⟨rfl, h1⟩ := e1
  obtain ⟨rfl, h2⟩ := e2
  exact bounds_ok hx hy hk
end Go.Proofs.Ytdgcpeinkjnncaa
