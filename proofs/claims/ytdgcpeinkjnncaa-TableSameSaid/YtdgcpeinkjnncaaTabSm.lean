/- TableSame. -/
import Derived.Test.YtdgcpeinkjnncaaTabQ
set_option maxRecDepth 40000
set_option linter.unusedSimpArgs false
set_option linter.unusedVariables false
namespace Go.Proofs.Ytdgcpeinkjnncaa
open Go

def AR (L : List It) : Prop := ∀ i ∈ L, i.right = true
theorem mem_ins {L : List It} {i x : It} (h : x ∈ insL L i) : x = i ∨ x ∈ L := by
  have := (ins_perm L i).mem_iff.1 h
  rcases List.mem_cons.1 this with h | h
  · exact .inl h
  · unfold delL at h; exact .inr (List.mem_filter.1 h).1
theorem AR.ins {L : List It} (h : AR L) {i : It} (hi : i.right = true) : AR (insL L i) := fun x hx => by
  rcases mem_ins hx with rfl | hx
  · exact hi
  · exact h x hx
theorem AR.del {L : List It} (h : AR L) (k : Ky) : AR (delL L k) := fun x hx => h x (by unfold delL at hx; exact (List.mem_filter.1 hx).1)
theorem AR.put {L : List It} (h : AR L) {i : It} (hi : i.right = true) (room : Int) : AR (putL L room i) := by
  unfold putL; split
  · exact h
  · exact h.ins hi
theorem AR.app {L : List It} (h : AR L) (room : Int) (n : Nt) : AR (appL L room n) := by
  unfold appL
  by_cases hr : n.right = false
  · rw [if_pos hr]; exact h
  · rw [if_neg hr]
    have hp : n.p.right = true := by
      have : n.right = true := by simpa using hr
      unfold Nt.right at this
      simp only [Bool.and_eq_true] at this
      exact this.2
    split
    · split
      · exact h
      · exact h.put (by unfold It.right; simp [hp]) room
    · split
      · split
        · rename_i x hx
          obtain ⟨h1, _⟩ := getL_mem hx
          have := h x h1
          unfold It.right at this
          simp only [Bool.and_eq_true] at this
          exact h.ins (by unfold It.right; simp [this.2])
        · exact h.put (by unfold It.right; simp [hp]) room
      · exact h.del _
theorem AR.act {L : List It} (h : AR L) (room : Int) (c : Ac) : AR (actL L room c) := by
  unfold actL; split
  · exact h.del _
  · exact h.app room _
theorem app_twice {L : List It} (hs : Srt L) {room : Int} {n : Nt} (h0 : appE L room n = 0) : appE (appL L room n) room n = 0 ∧ appL (appL L room n) room n = appL L room n := by
  have hr : ¬ n.right = false := fun h => by unfold appE at h0; rw [if_pos h] at h0; cases h0
  by_cases h1 : n.k = 1
  · have put : ∀ i : It, putE L room i = 0 → putL L room i = insL L i := fun i h => by
      unfold putE at h; unfold putL
      split at h
      · cases h
      · rename_i hc; rw [if_neg hc]
    cases hg : getL L n.p.key with
    | some x =>
      have e : appL L room n = L := by unfold appL; rw [if_neg hr, if_pos h1, hg]; rfl
      rw [e]; exact ⟨h0, e⟩
    | none =>
      have e0 : putE L room ⟨n.p, 1⟩ = 0 := by unfold appE at h0; rw [if_neg hr, if_pos h1, hg] at h0; exact h0
      have e : appL L room n = insL L ⟨n.p, 1⟩ := by unfold appL; rw [if_neg hr, if_pos h1, hg]; exact put _ e0
      have g : getL (insL L ⟨n.p, 1⟩) n.p.key = some ⟨n.p, 1⟩ := ins_get hs ⟨n.p, 1⟩
      rw [e]
      exact ⟨by unfold appE; rw [if_neg hr, if_pos h1, g]; rfl, by unfold appL; rw [if_neg hr, if_pos h1, g]; rfl⟩
  · by_cases h2 : n.k = 2
    · have put : ∀ i : It, putE L room i = 0 → putL L room i = insL L i := fun i h => by
        unfold putE at h; unfold putL
        split at h
        · cases h
        · rename_i hc; rw [if_neg hc]
      cases hg : getL L n.p.key with
      | some x =>
        obtain ⟨_, hx2⟩ := getL_mem hg
        have e : appL L room n = insL L ⟨x.p, 2⟩ := by unfold appL; rw [if_neg hr, if_neg h1, if_pos h2, hg]
        have g : getL (insL L ⟨x.p, 2⟩) n.p.key = some ⟨x.p, 2⟩ := by rw [← hx2]; exact ins_get hs ⟨x.p, 2⟩
        rw [e]
        refine ⟨by unfold appE; rw [if_neg hr, if_neg h1, if_pos h2, g]; rfl, ?_⟩
        unfold appL; rw [if_neg hr, if_neg h1, if_pos h2, g]
        exact ins_ins hs rfl
      | none =>
        have e0 : putE L room ⟨n.p, 2⟩ = 0 := by unfold appE at h0; rw [if_neg hr, if_neg h1, if_pos h2, hg] at h0; exact h0
        have e : appL L room n = insL L ⟨n.p, 2⟩ := by unfold appL; rw [if_neg hr, if_neg h1, if_pos h2, hg]; exact put _ e0
        have g : getL (insL L ⟨n.p, 2⟩) n.p.key = some ⟨n.p, 2⟩ := ins_get hs ⟨n.p, 2⟩
        rw [e]
        refine ⟨by unfold appE; rw [if_neg hr, if_neg h1, if_pos h2, g]; rfl, ?_⟩
        unfold appL; rw [if_neg hr, if_neg h1, if_pos h2, g]
        exact ins_ins hs rfl
    · have e : ∀ X, appL X room n = delL X n.p.key := fun X => by unfold appL; rw [if_neg hr, if_neg h1, if_neg h2]
      have e' : ∀ X, appE X room n = 0 := fun X => by unfold appE; rw [if_neg hr, if_neg h1, if_neg h2]
      rw [e L]
      exact ⟨e' _, by rw [e, del_del]⟩

set_option maxHeartbeats 2000000 in
theorem same_ok {h0 : PH} {room : Int} {x : Value} {al : List Ac} {n : Nt} (hx : SlR h0 6 x (al.map Ac.cells)) {k : Value → PH → Prop}
    (hk : ∀ h', Ext h0 h' → k (.bool true) h') : CallsH PG id_carracklaw15_TableSame #[.int .i64 room, x, .agg n.cells.toArray] h0 k := by
  have lx := hx.len (t' := T_int) T_sl_carrackref15_Act.und
  rw [List.length_map] at lx
  apply carracklaw15_TableSame.call
  unfold carracklaw15_TableSame
  intro rn hrn
  rw [bindH_eq]
  have u0 : Ext h0 (h0.set rn (.cells (Value.cells (.agg n.cells.toArray)) T_api_Note)) := Upd.new hrn
  have b0 : NB (h0.set rn (.cells (Value.cells (.agg n.cells.toArray)) T_api_Note)) rn n := set_same
  generalize h0.set rn (.cells (Value.cells (.agg n.cells.toArray)) T_api_Note) = h00 at *
  refine awake_ok fun h1 u1 => ?_
  have w1 := u0.trans u1
  by_cases hl : 100 < al.length
  · have d1 : ((100 : Int) < (al.length : Int)) = True := by apply eq_true; omega
    simp only [lx, d1, popO_some, bindH_eq, condV_bool, condV_true, condV_false, yV_bool, gopV_tt, gopV_ff, gopV_tf, gopV_ft, pickV_t, pickV_f, pickV_bool, nilS_ptr, add_eq, sub_eq, mul_eq, lss_eq, leq_eq, gtr_eq, geq_eq, not_eq, minI_eq, maxI_eq, extract_0, extract_1, extract_2, eqlI, neqI, makeFunc_eq, decide_true, decide_false, if_true, if_false, Bool.false_eq_true, Bool.not_true, Bool.not_false, reduceIte, List.getElem?_toArray, List.getElem?_cons_zero, List.getElem?_cons_succ, Option.isSome_none, List.length_map]
    exact hk h1 w1
  have d1 : ((100 : Int) < (al.length : Int)) = False := by apply eq_false; omega
  simp only [lx, d1, popO_some, bindH_eq, condV_bool, condV_true, condV_false, yV_bool, gopV_tt, gopV_ff, gopV_tf, gopV_ft, pickV_t, pickV_f, pickV_bool, nilS_ptr, add_eq, sub_eq, mul_eq, lss_eq, leq_eq, gtr_eq, geq_eq, not_eq, minI_eq, maxI_eq, extract_0, extract_1, extract_2, eqlI, neqI, makeFunc_eq, decide_true, decide_false, if_true, if_false, Bool.false_eq_true, Bool.not_true, Bool.not_false, reduceIte, List.getElem?_toArray, List.getElem?_cons_zero, List.getElem?_cons_succ, Option.isSome_none, List.length_map]
  refine notes_ok (hx.ext w1) (by omega) fun v h2 F2 hO2 f2 u2 => ?_
  refine few_ok hO2.slR fun b _ => ?_
  have w2 := w1.trans u2
  cases b with
  | false => simp only [popO_some, bindH_eq, condV_bool, condV_true, condV_false, yV_bool, gopV_tt, gopV_ff, gopV_tf, gopV_ft, pickV_t, pickV_f, pickV_bool, nilS_ptr, add_eq, sub_eq, mul_eq, lss_eq, leq_eq, gtr_eq, geq_eq, not_eq, minI_eq, maxI_eq, extract_0, extract_1, extract_2, eqlI, neqI, makeFunc_eq, decide_true, decide_false, if_true, if_false, Bool.false_eq_true, Bool.not_true, Bool.not_false, reduceIte, List.getElem?_toArray, List.getElem?_cons_zero, List.getElem?_cons_succ, Option.isSome_none, List.length_map]; exact hk h2 w2
  | true =>
  have b2 : NB h2 rn n := (u1.trans u2).get b0
  simp only [b2.bx.nt, nt_lit, popO_some, bindH_eq, condV_bool, condV_true, condV_false, yV_bool, gopV_tt, gopV_ff, gopV_tf, gopV_ft, pickV_t, pickV_f, pickV_bool, nilS_ptr, add_eq, sub_eq, mul_eq, lss_eq, leq_eq, gtr_eq, geq_eq, not_eq, minI_eq, maxI_eq, extract_0, extract_1, extract_2, eqlI, neqI, makeFunc_eq, decide_true, decide_false, if_true, if_false, Bool.false_eq_true, Bool.not_true, Bool.not_false, reduceIte, List.getElem?_toArray, List.getElem?_cons_zero, List.getElem?_cons_succ, Option.isSome_none, List.length_map]
  intro r3 hr3
  refine popO_pure ?_
  try rw [bindH_eq]
  have u3 : Ext h2 (h2.set r3 (.cells n.cells.toArray T_api_Note)) := Upd.new hr3
  have s3 : SlR (h2.set r3 (.cells n.cells.toArray T_api_Note)) 5 (.slice (some ⟨r3, 0, none⟩) 1 1) ([n].map Nt.cells) := (OwnR.lit (Nt.rows [n]) set_same (by simp) (by decide) (by simp)).slR
  generalize h2.set r3 (.cells n.cells.toArray T_api_Note) = h3 at *
  have w3 := w2.trans u3
  have b3 : NB h3 rn n := u3.get b2
  refine few_ok s3 fun b _ => ?_
  cases b with
  | false => simp only [popO_some, bindH_eq, condV_bool, condV_true, condV_false, yV_bool, gopV_tt, gopV_ff, gopV_tf, gopV_ft, pickV_t, pickV_f, pickV_bool, nilS_ptr, add_eq, sub_eq, mul_eq, lss_eq, leq_eq, gtr_eq, geq_eq, not_eq, minI_eq, maxI_eq, extract_0, extract_1, extract_2, eqlI, neqI, makeFunc_eq, decide_true, decide_false, if_true, if_false, Bool.false_eq_true, Bool.not_true, Bool.not_false, reduceIte, List.getElem?_toArray, List.getElem?_cons_zero, List.getElem?_cons_succ, Option.isSome_none, List.length_map]; exact hk h3 w3
  | true =>
  simp only [popO_some, bindH_eq, condV_bool, condV_true, condV_false, yV_bool, gopV_tt, gopV_ff, gopV_tf, gopV_ft, pickV_t, pickV_f, pickV_bool, nilS_ptr, add_eq, sub_eq, mul_eq, lss_eq, leq_eq, gtr_eq, geq_eq, not_eq, minI_eq, maxI_eq, extract_0, extract_1, extract_2, eqlI, neqI, makeFunc_eq, decide_true, decide_false, if_true, if_false, Bool.false_eq_true, Bool.not_true, Bool.not_false, reduceIte, List.getElem?_toArray, List.getElem?_cons_zero, List.getElem?_cons_succ, Option.isSome_none, List.length_map]
  have z1 : ((1 : Int) == 1) = true := by decide
  have z0 : ((0 : Int) != 0) = false := by decide
  have z2 : ((1 : Int) != 0) = true := by decide
  refine New_ok room (fun hbad => ?_) fun g1 g2 a h4 F H4 f4 u4 => ?_
  · simp only [z2, z1, popO_some, bindH_eq, condV_bool, condV_true, condV_false, yV_bool, gopV_tt, gopV_ff, gopV_tf, gopV_ft, pickV_t, pickV_f, pickV_bool, nilS_ptr, add_eq, sub_eq, mul_eq, lss_eq, leq_eq, gtr_eq, geq_eq, not_eq, minI_eq, maxI_eq, extract_0, extract_1, extract_2, eqlI, neqI, makeFunc_eq, decide_true, decide_false, if_true, if_false, Bool.false_eq_true, Bool.not_true, Bool.not_false, reduceIte, List.getElem?_toArray, List.getElem?_cons_zero, List.getElem?_cons_succ, Option.isSome_none, List.length_map]; exact hk h3 w3
  simp only [z0, ptrNil, popO_some, bindH_eq, condV_bool, condV_true, condV_false, yV_bool, gopV_tt, gopV_ff, gopV_tf, gopV_ft, pickV_t, pickV_f, pickV_bool, nilS_ptr, add_eq, sub_eq, mul_eq, lss_eq, leq_eq, gtr_eq, geq_eq, not_eq, minI_eq, maxI_eq, extract_0, extract_1, extract_2, eqlI, neqI, makeFunc_eq, decide_true, decide_false, if_true, if_false, Bool.false_eq_true, Bool.not_true, Bool.not_false, reduceIte, List.getElem?_toArray, List.getElem?_cons_zero, List.getElem?_cons_succ, Option.isSome_none, List.length_map]
  have w4 := w3.trans u4
  have b4 : NB h4 rn n := u4.get b3
  have hnF : rn ∉ F := fun hm => by have := f4 rn hm; unfold NB at b3; rw [b3] at this; cases this
  have f0 : Fresh h0 F := fun b hb => w3.none (f4 b hb)
  refine ⟨fun vs h' => ∃ (i : Nat) (L : List It), i ≤ al.length ∧ vs = [.int .i64 room, x, .pointer (some ⟨rn, 0, none⟩), .pointer (some ⟨a, 0, none⟩), .int .i64 i] ∧ TAt h' a L room F ∧ L.length ≤ room ∧ AR L ∧ NB h' rn n ∧ Ext h0 h',
    upTo al.length 4, ⟨0, [], by omega, rfl, H4, by simp; omega, (fun i hi => by cases hi), b4, w4⟩, ?_⟩
  rintro ρ h' ⟨i, L, hi, hvs, HT, hLr, hAR, bn, w⟩
  simp only [List.map_cons, List.map_nil, List.cons.injEq, and_true] at hvs
  obtain ⟨e0, e1, e2, e3, e4⟩ := hvs
  rw [e0, e1, e2, e3, e4]
  unfold carracklaw15_TableSame_b62
  by_cases hlt : i < al.length
  · have hd : ((i : Int) < (al.length : Int)) = True := by apply eq_true; omega
    obtain ⟨c, hc⟩ : ∃ m, al[i]? = some m := ⟨_, List.getElem?_eq_getElem hlt⟩
    have ei : IntKind.i64.wrap ((i : Int) + 1) = ((i + 1 : Nat) : Int) := by rw [i64_wrap (by omega) (by omega)]; omega
    obtain ⟨q, q1, q2⟩ := (hx.ext w).ac (k := .i64) hc
    simp only [lx, hd, q1, q2, popO_some, bindH_eq, condV_bool, condV_true, condV_false, yV_bool, gopV_tt, gopV_ff, gopV_tf, gopV_ft, pickV_t, pickV_f, pickV_bool, nilS_ptr, add_eq, sub_eq, mul_eq, lss_eq, leq_eq, gtr_eq, geq_eq, not_eq, minI_eq, maxI_eq, extract_0, extract_1, extract_2, eqlI, neqI, makeFunc_eq, decide_true, decide_false, if_true, if_false, Bool.false_eq_true, Bool.not_true, Bool.not_false, reduceIte, List.getElem?_toArray, List.getElem?_cons_zero, List.getElem?_cons_succ, Option.isSome_none, List.length_map]
    refine do_ok HT c fun h5 H5 u5 => ?_
    simp only [ei, popO_some, bindH_eq, condV_bool, condV_true, condV_false, yV_bool, gopV_tt, gopV_ff, gopV_tf, gopV_ft, pickV_t, pickV_f, pickV_bool, nilS_ptr, add_eq, sub_eq, mul_eq, lss_eq, leq_eq, gtr_eq, geq_eq, not_eq, minI_eq, maxI_eq, extract_0, extract_1, extract_2, eqlI, neqI, makeFunc_eq, decide_true, decide_false, if_true, if_false, Bool.false_eq_true, Bool.not_true, Bool.not_false, reduceIte, List.getElem?_toArray, List.getElem?_cons_zero, List.getElem?_cons_succ, Option.isSome_none, List.length_map]
    exact ⟨⟨i + 1, _, by omega, rfl, H5, act_len HT.srt hLr c, hAR.act room c, u5.get bn hnF, w.fresh u5 f0⟩, by simp [upTo, e4]; omega⟩
  · have hd : ((i : Int) < (al.length : Int)) = False := by apply eq_false; omega
    simp only [lx, hd, popO_some, bindH_eq, condV_bool, condV_true, condV_false, yV_bool, gopV_tt, gopV_ff, gopV_tf, gopV_ft, pickV_t, pickV_f, pickV_bool, nilS_ptr, add_eq, sub_eq, mul_eq, lss_eq, leq_eq, gtr_eq, geq_eq, not_eq, minI_eq, maxI_eq, extract_0, extract_1, extract_2, eqlI, neqI, makeFunc_eq, decide_true, decide_false, if_true, if_false, Bool.false_eq_true, Bool.not_true, Bool.not_false, reduceIte, List.getElem?_toArray, List.getElem?_cons_zero, List.getElem?_cons_succ, Option.isSome_none, List.length_map]
    have hs := HT.srt
    refine Items_ok HT (by omega) fun v5 h5 G5 hO5 f5 u5 => ?_
    have hof : ofE room L = 0 := by
      unfold ofE
      rw [if_neg (by omega), if_neg, if_neg (fun h => h hs.nodup), if_neg (by omega)]
      have : L.all It.right = true := List.all_eq_true.2 hAR
      rw [this]; simp
    refine Of_ok hO5.slR (by omega) (fun h6 _ hne => absurd hof hne) fun u h6 Fu _ HU fu u6 => ?_
    rw [ofL_srt hs] at HU
    have E6 := u5.trans u6
    have w6 := w.trans E6
    simp only [z0, ptrNil, popO_some, bindH_eq, condV_bool, condV_true, condV_false, yV_bool, gopV_tt, gopV_ff, gopV_tf, gopV_ft, pickV_t, pickV_f, pickV_bool, nilS_ptr, add_eq, sub_eq, mul_eq, lss_eq, leq_eq, gtr_eq, geq_eq, not_eq, minI_eq, maxI_eq, extract_0, extract_1, extract_2, eqlI, neqI, makeFunc_eq, decide_true, decide_false, if_true, if_false, Bool.false_eq_true, Bool.not_true, Bool.not_false, reduceIte, List.getElem?_toArray, List.getElem?_cons_zero, List.getElem?_cons_succ, Option.isSome_none, List.length_map]
    refine Items_ok HU (by omega) fun v7 h7 G7 hO7 f7 u7 => ?_
    try simp only [popO_some, bindH_eq, condV_bool, condV_true, condV_false, yV_bool, gopV_tt, gopV_ff, gopV_tf, gopV_ft, pickV_t, pickV_f, pickV_bool, nilS_ptr, add_eq, sub_eq, mul_eq, lss_eq, leq_eq, gtr_eq, geq_eq, not_eq, minI_eq, maxI_eq, extract_0, extract_1, extract_2, eqlI, neqI, makeFunc_eq, decide_true, decide_false, if_true, if_false, Bool.false_eq_true, Bool.not_true, Bool.not_false, reduceIte, List.getElem?_toArray, List.getElem?_cons_zero, List.getElem?_cons_succ, Option.isSome_none, List.length_map]
    refine Items_ok (HT.ext (E6.trans u7)) (by omega) fun v8 h8 G8 hO8 f8 u8 => ?_
    try simp only [popO_some, bindH_eq, condV_bool, condV_true, condV_false, yV_bool, gopV_tt, gopV_ff, gopV_tf, gopV_ft, pickV_t, pickV_f, pickV_bool, nilS_ptr, add_eq, sub_eq, mul_eq, lss_eq, leq_eq, gtr_eq, geq_eq, not_eq, minI_eq, maxI_eq, extract_0, extract_1, extract_2, eqlI, neqI, makeFunc_eq, decide_true, decide_false, if_true, if_false, Bool.false_eq_true, Bool.not_true, Bool.not_false, reduceIte, List.getElem?_toArray, List.getElem?_cons_zero, List.getElem?_cons_succ, Option.isSome_none, List.length_map]
    refine Same_ok (hO7.ext u8).slR hO8.slR (by omega) ?_
    have e5 : decide (L = L) = true := by simp
    have E8 : Ext h' h8 := (E6.trans u7).trans u8
    have b8 : NB h8 rn n := E8.get bn
    have HT8 := HT.ext E8
    have HU8 := HU.ext (u7.trans u8)
    -- the two tables' blocks
    have djT : ∀ b ∈ Fu, b ∉ F := fun b hb hm => by
      have h1 := fu b hb
      exact (HT.ext u5).known b hm h1
    have djT' : ∀ b ∈ F, b ∉ Fu := fun b hb hm => djT b hm hb
    have hnFu : rn ∉ Fu := fun hm => by
      have h1 := fu rn hm
      have : NB h5 rn n := u5.get bn
      unfold NB at this; rw [this] at h1; cases h1
    have f0u : Fresh h0 Fu := fun b hb => (w.trans u5).none (fu b hb)
    have w8 := w.trans E8
    simp only [e5, b8.bx.nt, popO_some, bindH_eq, condV_bool, condV_true, condV_false, yV_bool, gopV_tt, gopV_ff, gopV_tf, gopV_ft, pickV_t, pickV_f, pickV_bool, nilS_ptr, add_eq, sub_eq, mul_eq, lss_eq, leq_eq, gtr_eq, geq_eq, not_eq, minI_eq, maxI_eq, extract_0, extract_1, extract_2, eqlI, neqI, makeFunc_eq, decide_true, decide_false, if_true, if_false, Bool.false_eq_true, Bool.not_true, Bool.not_false, reduceIte, List.getElem?_toArray, List.getElem?_cons_zero, List.getElem?_cons_succ, Option.isSome_none, List.length_map]
    refine Apply_ok HT8 n fun h9 H9 u9 => ?_
    have HU9 := HU8.upd u9 djT
    have b9 : NB h9 rn n := u9.get b8 hnF
    have w9 := w8.fresh u9 f0
    have hLa := app_len hs hLr n
    by_cases hz : appE L room n = 0
    · have e6 : (appE L room n != 0) = false := by simp [hz]
      obtain ⟨t1, t2⟩ := app_twice hs hz
      simp only [e6, popO_some, bindH_eq, condV_bool, condV_true, condV_false, yV_bool, gopV_tt, gopV_ff, gopV_tf, gopV_ft, pickV_t, pickV_f, pickV_bool, nilS_ptr, add_eq, sub_eq, mul_eq, lss_eq, leq_eq, gtr_eq, geq_eq, not_eq, minI_eq, maxI_eq, extract_0, extract_1, extract_2, eqlI, neqI, makeFunc_eq, decide_true, decide_false, if_true, if_false, Bool.false_eq_true, Bool.not_true, Bool.not_false, reduceIte, List.getElem?_toArray, List.getElem?_cons_zero, List.getElem?_cons_succ, Option.isSome_none, List.length_map]
      refine Items_ok H9 (by omega) fun v10 h10 G10 hO10 f10 u10 => ?_
      have b10 : NB h10 rn n := u10.get b9
      have w10 := w9.trans u10
      have d10 : ∀ b ∈ G10, b ∉ F := fun b hb hm => absurd (f10 b hb) (H9.known b hm)
      have d10u : ∀ b ∈ G10, b ∉ Fu := fun b hb hm => absurd (f10 b hb) (HU9.known b hm)
      simp only [b10.bx.nt, popO_some, bindH_eq, condV_bool, condV_true, condV_false, yV_bool, gopV_tt, gopV_ff, gopV_tf, gopV_ft, pickV_t, pickV_f, pickV_bool, nilS_ptr, add_eq, sub_eq, mul_eq, lss_eq, leq_eq, gtr_eq, geq_eq, not_eq, minI_eq, maxI_eq, extract_0, extract_1, extract_2, eqlI, neqI, makeFunc_eq, decide_true, decide_false, if_true, if_false, Bool.false_eq_true, Bool.not_true, Bool.not_false, reduceIte, List.getElem?_toArray, List.getElem?_cons_zero, List.getElem?_cons_succ, Option.isSome_none, List.length_map]
      refine Apply_ok (H9.ext u10) n fun h11 H11 u11 => ?_
      rw [t2] at H11
      have e7 : (appE (appL L room n) room n == 0) = true := by simp [t1]
      have w11 := w10.fresh u11 f0
      simp only [e7, popO_some, bindH_eq, condV_bool, condV_true, condV_false, yV_bool, gopV_tt, gopV_ff, gopV_tf, gopV_ft, pickV_t, pickV_f, pickV_bool, nilS_ptr, add_eq, sub_eq, mul_eq, lss_eq, leq_eq, gtr_eq, geq_eq, not_eq, minI_eq, maxI_eq, extract_0, extract_1, extract_2, eqlI, neqI, makeFunc_eq, decide_true, decide_false, if_true, if_false, Bool.false_eq_true, Bool.not_true, Bool.not_false, reduceIte, List.getElem?_toArray, List.getElem?_cons_zero, List.getElem?_cons_succ, Option.isSome_none, List.length_map]
      refine Items_ok H11 (by omega) fun v12 h12 G12 hO12 f12 u12 => ?_
      try simp only [popO_some, bindH_eq, condV_bool, condV_true, condV_false, yV_bool, gopV_tt, gopV_ff, gopV_tf, gopV_ft, pickV_t, pickV_f, pickV_bool, nilS_ptr, add_eq, sub_eq, mul_eq, lss_eq, leq_eq, gtr_eq, geq_eq, not_eq, minI_eq, maxI_eq, extract_0, extract_1, extract_2, eqlI, neqI, makeFunc_eq, decide_true, decide_false, if_true, if_false, Bool.false_eq_true, Bool.not_true, Bool.not_false, reduceIte, List.getElem?_toArray, List.getElem?_cons_zero, List.getElem?_cons_succ, Option.isSome_none, List.length_map]
      have hO10' := (hO10.upd u11 d10).ext u12
      refine Same_ok hO12.slR hO10'.slR (by omega) ?_
      have e8 : decide (appL L room n = appL L room n) = true := by simp
      have b12 : NB h12 rn n := u12.get (u11.get b10 hnF)
      have w12 := w11.trans u12
      simp only [e8, b12.bx.nt, popO_some, bindH_eq, condV_bool, condV_true, condV_false, yV_bool, gopV_tt, gopV_ff, gopV_tf, gopV_ft, pickV_t, pickV_f, pickV_bool, nilS_ptr, add_eq, sub_eq, mul_eq, lss_eq, leq_eq, gtr_eq, geq_eq, not_eq, minI_eq, maxI_eq, extract_0, extract_1, extract_2, eqlI, neqI, makeFunc_eq, decide_true, decide_false, if_true, if_false, Bool.false_eq_true, Bool.not_true, Bool.not_false, reduceIte, List.getElem?_toArray, List.getElem?_cons_zero, List.getElem?_cons_succ, Option.isSome_none, List.length_map]
      have HU12 := ((HU9.ext u10).upd u11 djT).ext u12
      refine Apply_ok HU12 n fun h13 H13 u13 => ?_
      have e9 : (appE L room n == 0) = true := by simp [hz]
      have w13 := w12.fresh u13 f0u
      simp only [e9, popO_some, bindH_eq, condV_bool, condV_true, condV_false, yV_bool, gopV_tt, gopV_ff, gopV_tf, gopV_ft, pickV_t, pickV_f, pickV_bool, nilS_ptr, add_eq, sub_eq, mul_eq, lss_eq, leq_eq, gtr_eq, geq_eq, not_eq, minI_eq, maxI_eq, extract_0, extract_1, extract_2, eqlI, neqI, makeFunc_eq, decide_true, decide_false, if_true, if_false, Bool.false_eq_true, Bool.not_true, Bool.not_false, reduceIte, List.getElem?_toArray, List.getElem?_cons_zero, List.getElem?_cons_succ, Option.isSome_none, List.length_map]
      refine Items_ok H13 (by omega) fun v14 h14 G14 hO14 f14 u14 => ?_
      try simp only [popO_some, bindH_eq, condV_bool, condV_true, condV_false, yV_bool, gopV_tt, gopV_ff, gopV_tf, gopV_ft, pickV_t, pickV_f, pickV_bool, nilS_ptr, add_eq, sub_eq, mul_eq, lss_eq, leq_eq, gtr_eq, geq_eq, not_eq, minI_eq, maxI_eq, extract_0, extract_1, extract_2, eqlI, neqI, makeFunc_eq, decide_true, decide_false, if_true, if_false, Bool.false_eq_true, Bool.not_true, Bool.not_false, reduceIte, List.getElem?_toArray, List.getElem?_cons_zero, List.getElem?_cons_succ, Option.isSome_none, List.length_map]
      refine Same_ok hO14.slR ((hO10'.upd u13 d10u).ext u14).slR (by omega) ?_
      simp only [e8, popO_some, bindH_eq, condV_bool, condV_true, condV_false, yV_bool, gopV_tt, gopV_ff, gopV_tf, gopV_ft, pickV_t, pickV_f, pickV_bool, nilS_ptr, add_eq, sub_eq, mul_eq, lss_eq, leq_eq, gtr_eq, geq_eq, not_eq, minI_eq, maxI_eq, extract_0, extract_1, extract_2, eqlI, neqI, makeFunc_eq, decide_true, decide_false, if_true, if_false, Bool.false_eq_true, Bool.not_true, Bool.not_false, reduceIte, List.getElem?_toArray, List.getElem?_cons_zero, List.getElem?_cons_succ, Option.isSome_none, List.length_map]
      exact hk h14 (w13.trans u14)
    · have e6 : (appE L room n != 0) = true := by simp [hz]
      simp only [e6, b9.bx.nt, popO_some, bindH_eq, condV_bool, condV_true, condV_false, yV_bool, gopV_tt, gopV_ff, gopV_tf, gopV_ft, pickV_t, pickV_f, pickV_bool, nilS_ptr, add_eq, sub_eq, mul_eq, lss_eq, leq_eq, gtr_eq, geq_eq, not_eq, minI_eq, maxI_eq, extract_0, extract_1, extract_2, eqlI, neqI, makeFunc_eq, decide_true, decide_false, if_true, if_false, Bool.false_eq_true, Bool.not_true, Bool.not_false, reduceIte, List.getElem?_toArray, List.getElem?_cons_zero, List.getElem?_cons_succ, Option.isSome_none, List.length_map]
      refine Apply_ok HU9 n fun h10 H10 u10 => ?_
      have w10 := w9.fresh u10 f0u
      simp only [e6, popO_some, bindH_eq, condV_bool, condV_true, condV_false, yV_bool, gopV_tt, gopV_ff, gopV_tf, gopV_ft, pickV_t, pickV_f, pickV_bool, nilS_ptr, add_eq, sub_eq, mul_eq, lss_eq, leq_eq, gtr_eq, geq_eq, not_eq, minI_eq, maxI_eq, extract_0, extract_1, extract_2, eqlI, neqI, makeFunc_eq, decide_true, decide_false, if_true, if_false, Bool.false_eq_true, Bool.not_true, Bool.not_false, reduceIte, List.getElem?_toArray, List.getElem?_cons_zero, List.getElem?_cons_succ, Option.isSome_none, List.length_map]
      refine Items_ok H10 (by omega) fun v11 h11 G11 hO11 f11 u11 => ?_
      try simp only [popO_some, bindH_eq, condV_bool, condV_true, condV_false, yV_bool, gopV_tt, gopV_ff, gopV_tf, gopV_ft, pickV_t, pickV_f, pickV_bool, nilS_ptr, add_eq, sub_eq, mul_eq, lss_eq, leq_eq, gtr_eq, geq_eq, not_eq, minI_eq, maxI_eq, extract_0, extract_1, extract_2, eqlI, neqI, makeFunc_eq, decide_true, decide_false, if_true, if_false, Bool.false_eq_true, Bool.not_true, Bool.not_false, reduceIte, List.getElem?_toArray, List.getElem?_cons_zero, List.getElem?_cons_succ, Option.isSome_none, List.length_map]
      refine Items_ok ((H9.upd u10 djT').ext u11) (by omega) fun v12 h12 G12 hO12 f12 u12 => ?_
      try simp only [popO_some, bindH_eq, condV_bool, condV_true, condV_false, yV_bool, gopV_tt, gopV_ff, gopV_tf, gopV_ft, pickV_t, pickV_f, pickV_bool, nilS_ptr, add_eq, sub_eq, mul_eq, lss_eq, leq_eq, gtr_eq, geq_eq, not_eq, minI_eq, maxI_eq, extract_0, extract_1, extract_2, eqlI, neqI, makeFunc_eq, decide_true, decide_false, if_true, if_false, Bool.false_eq_true, Bool.not_true, Bool.not_false, reduceIte, List.getElem?_toArray, List.getElem?_cons_zero, List.getElem?_cons_succ, Option.isSome_none, List.length_map]
      refine Same_ok (hO11.ext u12).slR hO12.slR (by omega) ?_
      have e8 : decide (appL L room n = appL L room n) = true := by simp
      simp only [e8, popO_some, bindH_eq, condV_bool, condV_true, condV_false, yV_bool, gopV_tt, gopV_ff, gopV_tf, gopV_ft, pickV_t, pickV_f, pickV_bool, nilS_ptr, add_eq, sub_eq, mul_eq, lss_eq, leq_eq, gtr_eq, geq_eq, not_eq, minI_eq, maxI_eq, extract_0, extract_1, extract_2, eqlI, neqI, makeFunc_eq, decide_true, decide_false, if_true, if_false, Bool.false_eq_true, Bool.not_true, Bool.not_false, reduceIte, List.getElem?_toArray, List.getElem?_cons_zero, List.getElem?_cons_succ, Option.isSome_none, List.length_map]
      exact hk h12 ((w10.trans u11).trans u12)
theorem TableSame_ok {h : PH} {x : Value} {r1 : List (List Value)} {cs : Array Value} (room : Int) (hx : SlR h 6 x r1) {al : List Ac} (e1 : r1 = al.map Ac.cells ∧ ∀ c ∈ al, c.n.p.ok) {n : Nt} (e2 : cs.toList = n.cells ∧ n.p.ok)
    {k : Value → PH → Prop} (hk : ∀ h', Ext h h' → k (.bool true) h') : CallsH PG id_carracklaw15_TableSame #[.int .i64 room, x, .agg cs] h k := by
  obtain ⟨rfl, h1⟩ := e1
  obtain ⟨e, h2⟩ := e2
  have : cs = n.cells.toArray := by rw [← e]
  subst this
  exact same_ok hx hk
end Go.Proofs.Ytdgcpeinkjnncaa
