/- tables made of items. -/
import Derived.Test.YtdgcpeinkjnncaaTabL2
set_option maxRecDepth 40000
set_option linter.unusedSimpArgs false
set_option linter.unusedVariables false
namespace Go.Proofs.Ytdgcpeinkjnncaa
open Go

def ofL (l : List It) : List It := l.foldl insL []
theorem ofL_snoc (l : List It) (x : It) : ofL (l ++ [x]) = insL (ofL l) x := by unfold ofL; rw [List.foldl_append]; rfl
theorem srt_ofL (l : List It) : Srt (ofL l) := by
  unfold ofL
  have : ∀ (l : List It) (L : List It), Srt L → Srt (l.foldl insL L) := by
    intro l
    induction l with
    | nil => intro L h; exact h
    | cons x l ih => intro L h; exact ih _ (h.ins x)
  exact this l [] List.Pairwise.nil
theorem key_ins (L : List It) (i : It) (k : Ky) : k ∈ (insL L i).map It.key ↔ k = i.key ∨ k ∈ L.map It.key := by
  rw [((ins_perm L i).map It.key).mem_iff, List.map_cons, List.mem_cons]
  constructor
  · rintro (h | h)
    · exact .inl h
    · obtain ⟨x, hx, rfl⟩ := List.mem_map.1 h
      unfold delL at hx
      exact .inr (List.mem_map_of_mem (List.mem_filter.1 hx).1)
  · rintro (h | h)
    · exact .inl h
    · obtain ⟨x, hx, rfl⟩ := List.mem_map.1 h
      by_cases e : x.key = i.key
      · exact .inl e
      · right
        unfold delL
        exact List.mem_map_of_mem (List.mem_filter.2 ⟨hx, by simpa using e⟩)
theorem key_ofL (l : List It) (k : Ky) : k ∈ (ofL l).map It.key ↔ k ∈ l.map It.key := by
  unfold ofL
  have : ∀ (l L : List It), k ∈ (l.foldl insL L).map It.key ↔ (k ∈ l.map It.key ∨ k ∈ L.map It.key) := by
    intro l
    induction l with
    | nil => intro L; simp
    | cons x l ih =>
      intro L
      rw [List.foldl_cons, ih, key_ins, List.map_cons, List.mem_cons]
      constructor
      · rintro (h | h | h)
        · exact .inl (.inr h)
        · exact .inl (.inl h)
        · exact .inr h
      · rintro ((h | h) | h)
        · exact .inr (.inl h)
        · exact .inl h
        · exact .inr (.inr h)
  rw [this]; simp
theorem get_ofL (l : List It) (k : Ky) : (getL (ofL l) k).isSome = decide (k ∈ l.map It.key) := by
  cases h : getL (ofL l) k with
  | some x =>
    obtain ⟨h1, h2⟩ := getL_mem h
    have : k ∈ l.map It.key := (key_ofL l k).1 (by rw [← h2]; exact List.mem_map_of_mem h1)
    simp only [Option.isSome_some]; exact (decide_eq_true this).symm
  | none =>
    have : k ∉ l.map It.key := fun hm => by
      obtain ⟨x, hx, e⟩ := List.mem_map.1 ((key_ofL l k).2 hm)
      exact getL_none.1 h x hx e
    simp only [Option.isSome_none]; exact (decide_eq_false this).symm
theorem nodup_snoc {l : List It} {x : It} : ((l ++ [x]).map It.key).Nodup ↔ (l.map It.key).Nodup ∧ x.key ∉ l.map It.key := by
  rw [List.map_append, List.nodup_append]
  simp only [List.map_cons, List.map_nil, List.nodup_cons, List.not_mem_nil, not_false_eq_true, List.nodup_nil, and_self, true_and, List.mem_singleton]
  constructor
  · rintro ⟨h1, h2⟩
    exact ⟨h1, fun hm => h2 _ hm _ rfl rfl⟩
  · rintro ⟨h1, h2⟩
    refine ⟨h1, ?_⟩
    rintro a ha b rfl rfl
    exact h2 ha
theorem ofL_srt {L : List It} (hs : Srt L) : ofL L = L := by
  have hp : ∀ (l L : List It), (L.map It.key ++ l.map It.key).Nodup → (l.foldl insL L).Perm (L ++ l) := by
    intro l
    induction l with
    | nil => intro L _; simp
    | cons x l ih =>
      intro L hn
      rw [List.map_cons] at hn
      have hx : x.key ∉ L.map It.key := fun hm => by
        rw [List.nodup_append] at hn
        exact hn.2.2 _ hm _ (by simp) rfl
      have hg : getL L x.key = none := getL_none.2 fun y hy e => hx (by rw [← e]; exact List.mem_map_of_mem hy)
      have h3 := ins_perm L x
      rw [del_none hg] at h3
      rw [List.foldl_cons]
      refine (ih (insL L x) ?_).trans ((h3.append_right l).trans List.perm_middle.symm)
      refine (((h3.map It.key).append_right (l.map It.key)).nodup_iff).2 ?_
      rw [List.map_cons, List.cons_append]
      exact (List.perm_middle.nodup_iff).1 hn
  exact Srt.unique (srt_ofL L) hs (hp L [] (by simpa using hs.nodup))

def ofE (room : Int) (l : List It) : Int :=
  if room < 1 ∨ 40 < room then 1 else if l.all It.right = false then 1 else if ¬ (l.map It.key).Nodup then 4 else if room < l.length then 2 else 0

/-- What a call of Of hands back, with whatever it leaves. -/
theorem Of_ok {h : PH} {room : Int} {x : Value} {l : List It} (hx : SlR h 5 x (l.map It.cells)) (hl : l.length ≤ 1000) {k : Value → PH → Prop}
    (hbad : ∀ h', Ext h h' → ofE room l ≠ 0 → k (.tuple #[.pointer none, .int .i64 (ofE room l)]) h')
    (hk : ∀ a h' F, ofE room l = 0 → TAt h' a (ofL l) room F → Fresh h F → Ext h h' → k (.tuple #[.pointer (some ⟨a, 0, none⟩), .int .i64 0]) h') : CallsH PG id_table_Of #[.int .i64 room, x] h k := by
  have lx := hx.len (t' := T_int) T_sl_api_Item.und
  rw [List.length_map] at lx
  apply table_Of.call
  unfold table_Of
  have z1 : ((1 : Int) != 0) = true := by decide
  have z0 : ((0 : Int) != 0) = false := by decide
  refine New_ok room (fun hb => ?_) fun g1 g2 a h1 F H1 f1 u1 => ?_
  · have e : ofE room l = 1 := by unfold ofE; rw [if_pos hb]
    simp only [z1, popO_some, bindH_eq, condV_bool, condV_true, condV_false, yV_bool, gopV_tt, gopV_ff, gopV_tf, gopV_ft, pickV_t, pickV_f, pickV_bool, nilS_ptr, add_eq, sub_eq, mul_eq, lss_eq, leq_eq, gtr_eq, geq_eq, not_eq, minI_eq, maxI_eq, extract_0, extract_1, extract_2, eqlI, neqI, makeFunc_eq, decide_true, decide_false, if_true, if_false, Bool.false_eq_true, Bool.not_true, Bool.not_false, reduceIte, List.getElem?_toArray, List.getElem?_cons_zero, List.getElem?_cons_succ, Option.isSome_none, List.length_map]
    have := hbad h Upd.refl (by rw [e]; decide)
    rw [e] at this; exact this
  have hroom : ¬ (room < 1 ∨ 40 < room) := by omega
  simp only [z0, lx, popO_some, bindH_eq, condV_bool, condV_true, condV_false, yV_bool, gopV_tt, gopV_ff, gopV_tf, gopV_ft, pickV_t, pickV_f, pickV_bool, nilS_ptr, add_eq, sub_eq, mul_eq, lss_eq, leq_eq, gtr_eq, geq_eq, not_eq, minI_eq, maxI_eq, extract_0, extract_1, extract_2, eqlI, neqI, makeFunc_eq, decide_true, decide_false, if_true, if_false, Bool.false_eq_true, Bool.not_true, Bool.not_false, reduceIte, List.getElem?_toArray, List.getElem?_cons_zero, List.getElem?_cons_succ, Option.isSome_none, List.length_map]
  refine ⟨fun vs h' => ∃ (i : Nat) (tw : Bool), i ≤ l.length ∧ vs = [.int .i64 room, x, .pointer (some ⟨a, 0, none⟩), .bool tw, x, .int .i64 l.length, .int .i64 i] ∧ TAt h' a (ofL (l.take i)) room F ∧ Ext h h' ∧ (l.take i).all It.right = true ∧ tw = !decide (((l.take i).map It.key).Nodup), upTo l.length 6,
    ⟨0, false, by omega, rfl, H1, u1, by simp, by simp⟩, ?_⟩
  rintro ρ h' ⟨i, tw, hi, hvs, HT, w, har, htw⟩
  simp only [List.map_cons, List.map_nil, List.cons.injEq, and_true] at hvs
  obtain ⟨e0, e1, e2, e3, e4, e5, e6⟩ := hvs
  rw [e0, e1, e2, e3, e4, e5, e6]
  unfold table_Of_b8
  by_cases hlt : i < l.length
  · have hd : ((i : Int) < (l.length : Int)) = True := by apply eq_true; omega
    obtain ⟨m, hm⟩ : ∃ m, l[i]? = some m := ⟨_, List.getElem?_eq_getElem hlt⟩
    obtain ⟨y, y1, y2⟩ := (hx.ext w).it (k := .i64) hm
    have htake : l.take (i + 1) = l.take i ++ [m] := by rw [List.take_add_one, hm]; rfl
    have ei : IntKind.i64.wrap ((i : Int) + 1) = ((i + 1 : Nat) : Int) := by rw [i64_wrap (by omega) (by omega)]; omega
    simp only [hd, y1, y2, popO_some, bindH_eq, condV_bool, condV_true, condV_false, yV_bool, gopV_tt, gopV_ff, gopV_tf, gopV_ft, pickV_t, pickV_f, pickV_bool, nilS_ptr, add_eq, sub_eq, mul_eq, lss_eq, leq_eq, gtr_eq, geq_eq, not_eq, minI_eq, maxI_eq, extract_0, extract_1, extract_2, eqlI, neqI, makeFunc_eq, decide_true, decide_false, if_true, if_false, Bool.false_eq_true, Bool.not_true, Bool.not_false, reduceIte, List.getElem?_toArray, List.getElem?_cons_zero, List.getElem?_cons_succ, Option.isSome_none, List.length_map]
    intro r hr
    try rw [bindH_eq]
    refine put_it hr m fun h2 b2 u2 => ?_
    have w2 := w.trans u2
    have c4 : cellH h2 ⟨r, 0 + 4, none⟩ = some (.int .i64 m.g) := b2.cell 4
    have p2 := b2.pk (o := 0) (p := m.p) rfl
    have bad : m.right = false → ofE room l = 1 := fun hmr => by
      unfold ofE
      rw [if_neg hroom, if_pos]
      rw [List.all_eq_false]
      exact ⟨m, List.mem_of_getElem? hm, by simp [hmr]⟩
    have fail : ∀ h3, Ext h h3 → m.right = false → k (.tuple #[.pointer none, .int .i64 1]) h3 := fun h3 w3 hmr => by
      have e := bad hmr
      have := hbad h3 w3 (by rw [e]; decide)
      rw [e] at this; exact this
    have hcase : (m.g ≠ 1 ∧ m.g ≠ 2) ∨ (m.g = 1 ∨ m.g = 2) := by omega
    rcases hcase with ⟨n1, n2⟩ | hgg
    · have e1 : (m.g != 1) = true := by simp [n1]
      have e2 : (m.g != 2) = true := by simp [n2]
      have hmr : m.right = false := by unfold It.right; simp [n1, n2]
      simp only [T_api_Item.f1, T_int.load, c4, e1, e2, popO_some, bindH_eq, condV_bool, condV_true, condV_false, yV_bool, gopV_tt, gopV_ff, gopV_tf, gopV_ft, pickV_t, pickV_f, pickV_bool, nilS_ptr, add_eq, sub_eq, mul_eq, lss_eq, leq_eq, gtr_eq, geq_eq, not_eq, minI_eq, maxI_eq, extract_0, extract_1, extract_2, eqlI, neqI, makeFunc_eq, decide_true, decide_false, if_true, if_false, Bool.false_eq_true, Bool.not_true, Bool.not_false, reduceIte, List.getElem?_toArray, List.getElem?_cons_zero, List.getElem?_cons_succ, Option.isSome_none, List.length_map]
      exact fail h2 w2 hmr
    have z11 : ((1 : Int) != 1) = false := by decide
    have z21 : ((2 : Int) != 1) = true := by decide
    have z22 : ((2 : Int) != 2) = false := by decide
    have hmr : m.right = m.p.right := by unfold It.right; rcases hgg with h | h <;> simp [h]
    rcases hgg with hg | hg <;> rw [hg] at c4 <;> simp only [T_api_Item.f0, T_api_Item.f1, T_int.load, c4, z11, z21, z22, p2, popO_some, bindH_eq, condV_bool, condV_true, condV_false, yV_bool, gopV_tt, gopV_ff, gopV_tf, gopV_ft, pickV_t, pickV_f, pickV_bool, nilS_ptr, add_eq, sub_eq, mul_eq, lss_eq, leq_eq, gtr_eq, geq_eq, not_eq, minI_eq, maxI_eq, extract_0, extract_1, extract_2, eqlI, neqI, makeFunc_eq, decide_true, decide_false, if_true, if_false, Bool.false_eq_true, Bool.not_true, Bool.not_false, reduceIte, List.getElem?_toArray, List.getElem?_cons_zero, List.getElem?_cons_succ, Option.isSome_none, List.length_map] <;> refine Check_ok m.p fun h3 u3 => ?_
    all_goals
      cases hpr : m.p.right with
      | false =>
        simp only [Bool.false_eq_true, if_false, z1, popO_some, bindH_eq, condV_bool, condV_true, condV_false, yV_bool, gopV_tt, gopV_ff, gopV_tf, gopV_ft, pickV_t, pickV_f, pickV_bool, nilS_ptr, add_eq, sub_eq, mul_eq, lss_eq, leq_eq, gtr_eq, geq_eq, not_eq, minI_eq, maxI_eq, extract_0, extract_1, extract_2, eqlI, neqI, makeFunc_eq, decide_true, decide_false, if_true, if_false, Bool.false_eq_true, Bool.not_true, Bool.not_false, reduceIte, List.getElem?_toArray, List.getElem?_cons_zero, List.getElem?_cons_succ, Option.isSome_none, List.length_map]
        exact fail h3 (w2.trans u3) (by rw [hmr]; exact hpr)
      | true =>
        have b3 := b2.ext u3
        have c0 : cellH h3 ⟨r, 0, none⟩ = some (.int .i64 m.p.f) := b3.cell 0
        have c1 : cellH h3 ⟨r, 0 + 1, none⟩ = some (.int .u64 m.p.s) := b3.cell 1
        simp only [if_true, z0, T_api_Item.f0, T_api_Packet.f0, T_api_Packet.f1, T_int.load, T_uint64.load, c0, c1, pk_key_build, popO_some, bindH_eq, condV_bool, condV_true, condV_false, yV_bool, gopV_tt, gopV_ff, gopV_tf, gopV_ft, pickV_t, pickV_f, pickV_bool, nilS_ptr, add_eq, sub_eq, mul_eq, lss_eq, leq_eq, gtr_eq, geq_eq, not_eq, minI_eq, maxI_eq, extract_0, extract_1, extract_2, eqlI, neqI, makeFunc_eq, decide_true, decide_false, if_true, if_false, Bool.false_eq_true, Bool.not_true, Bool.not_false, reduceIte, List.getElem?_toArray, List.getElem?_cons_zero, List.getElem?_cons_succ, Option.isSome_none, List.length_map]
        intro r5 hr5
        try rw [bindH_eq]
        refine store_box set_same T_table_id.info (by show 2 = 2; rfl) (by show 0 < 2; decide) (by rw [T_table_id.zc]; rfl) (by simp [isCell, Pk.key]) ?_
        rw [set_set_same]
        have u5 : Ext h3 (h3.set r5 (.cells #[.int .i64 m.p.key.1, .int .u64 m.p.key.2] T_table_id (0, 0))) := Upd.new hr5
        have b5 : Bx (h3.set r5 (.cells #[.int .i64 m.p.key.1, .int .u64 m.p.key.2] T_table_id (0, 0))) r5 [.int .i64 m.p.key.1, .int .u64 m.p.key.2] := ⟨_, set_same⟩
        generalize h3.set r5 (.cells #[.int .i64 m.p.key.1, .int .u64 m.p.key.2] T_table_id (0, 0)) = h5 at *
        have U5 := (u2.trans u3).trans u5
        have H5 := HT.ext U5
        have hs := HT.srt
        obtain ⟨mm, ll, ha, hmm, hp, hF, ham⟩ := H5.here
        have hgl := fun k => getL_perm hp hs.nodup k
        have cm : cellH h5 ⟨a, 0, none⟩ = some (.map (some mm)) := by simp [cellH, ha]
        simp only [T_table_Table.f0, T_map_table_id_api_Item.load, cm, b5.id, look_eq hmm, hgl, popO_some, bindH_eq, condV_bool, condV_true, condV_false, yV_bool, gopV_tt, gopV_ff, gopV_tf, gopV_ft, pickV_t, pickV_f, pickV_bool, nilS_ptr, add_eq, sub_eq, mul_eq, lss_eq, leq_eq, gtr_eq, geq_eq, not_eq, minI_eq, maxI_eq, extract_0, extract_1, extract_2, eqlI, neqI, makeFunc_eq, decide_true, decide_false, if_true, if_false, Bool.false_eq_true, Bool.not_true, Bool.not_false, reduceIte, List.getElem?_toArray, List.getElem?_cons_zero, List.getElem?_cons_succ, Option.isSome_none, List.length_map]
        intro r7 hr7
        try rw [bindH_eq]
        refine put_it hr7 _ fun h7 b7 u7 => ?_
        have ha7 := u7.get ha
        have hm7 := MapAt.ext hmm u7
        have b57 := b5.ext u7
        have b37 := (b3.ext u5).ext u7
        have cm7 : cellH h7 ⟨a, 0, none⟩ = some (.map (some mm)) := by simp [cellH, ha7]
        have hgt : (getL (ofL (l.take i)) m.p.key).isSome = decide (m.key ∈ (l.take i).map It.key) := get_ofL (l.take i) m.p.key
        have hn := @nodup_snoc (l.take i) m
        have hFf : Fresh h F := f1
        have rest : ∀ (K : Value → PH → Prop), (∀ h9, TAt h9 a (ofL (l.take (i + 1))) room F → Ext h h9 → K undef h9) → SemH PG (mapUpdS T_map_table_id_api_Item (.map (some mm)) (kenc m.p.key) m.val) h7 K := fun K hK => by
          refine map_put kkeyed T_map_table_id_api_Item.und hm7 m.key m.val fun h9 hm9 u9 => ?_
          obtain ⟨l', q1, q2⟩ := put_perm hp hs m
          rw [q1] at hm9
          refine hK h9 ⟨⟨mm, l', u9.get ha7 (by simpa using ham), hm9, by rw [htake, ofL_snoc]; exact q2, hF, ham⟩, srt_ofL _⟩ ?_
          exact ((w.trans U5).trans u7).fresh u9 (Fresh.one (hFf mm (by rw [hF]; simp)))
        have hall : (l.take (i + 1)).all It.right = true := by rw [htake, List.all_append, har]; simp [hmr, hpr]
        cases tw with
        | true =>
          simp only [T_table_Table.f0, T_map_table_id_api_Item.load, cm7, b57.id, b37.it, popO_some, bindH_eq, condV_bool, condV_true, condV_false, yV_bool, gopV_tt, gopV_ff, gopV_tf, gopV_ft, pickV_t, pickV_f, pickV_bool, nilS_ptr, add_eq, sub_eq, mul_eq, lss_eq, leq_eq, gtr_eq, geq_eq, not_eq, minI_eq, maxI_eq, extract_0, extract_1, extract_2, eqlI, neqI, makeFunc_eq, decide_true, decide_false, if_true, if_false, Bool.false_eq_true, Bool.not_true, Bool.not_false, reduceIte, List.getElem?_toArray, List.getElem?_cons_zero, List.getElem?_cons_succ, Option.isSome_none, List.length_map]
          refine rest _ fun h9 H9 w9 => ?_
          simp only [ei, popO_some, bindH_eq, condV_bool, condV_true, condV_false, yV_bool, gopV_tt, gopV_ff, gopV_tf, gopV_ft, pickV_t, pickV_f, pickV_bool, nilS_ptr, add_eq, sub_eq, mul_eq, lss_eq, leq_eq, gtr_eq, geq_eq, not_eq, minI_eq, maxI_eq, extract_0, extract_1, extract_2, eqlI, neqI, makeFunc_eq, decide_true, decide_false, if_true, if_false, Bool.false_eq_true, Bool.not_true, Bool.not_false, reduceIte, List.getElem?_toArray, List.getElem?_cons_zero, List.getElem?_cons_succ, Option.isSome_none, List.length_map]
          have hnd : ¬ ((l.take i).map It.key).Nodup := by intro h; rw [decide_eq_true h] at htw; cases htw
          exact ⟨⟨i + 1, true, by omega, rfl, H9, w9, hall, by rw [htake, decide_eq_false (fun h => hnd (hn.1 h).1)]; rfl⟩, by simp [upTo, e6]; omega⟩
        | false =>
          have hnd : ((l.take i).map It.key).Nodup := by
            have : decide (((l.take i).map It.key).Nodup) = true := by simpa using htw.symm
            exact of_decide_eq_true this
          simp only [T_table_Table.f0, T_map_table_id_api_Item.load, cm7, b57.id, b37.it, popO_some, bindH_eq, condV_bool, condV_true, condV_false, yV_bool, gopV_tt, gopV_ff, gopV_tf, gopV_ft, pickV_t, pickV_f, pickV_bool, nilS_ptr, add_eq, sub_eq, mul_eq, lss_eq, leq_eq, gtr_eq, geq_eq, not_eq, minI_eq, maxI_eq, extract_0, extract_1, extract_2, eqlI, neqI, makeFunc_eq, decide_true, decide_false, if_true, if_false, Bool.false_eq_true, Bool.not_true, Bool.not_false, reduceIte, List.getElem?_toArray, List.getElem?_cons_zero, List.getElem?_cons_succ, Option.isSome_none, List.length_map]
          refine rest _ fun h9 H9 w9 => ?_
          simp only [ei, popO_some, bindH_eq, condV_bool, condV_true, condV_false, yV_bool, gopV_tt, gopV_ff, gopV_tf, gopV_ft, pickV_t, pickV_f, pickV_bool, nilS_ptr, add_eq, sub_eq, mul_eq, lss_eq, leq_eq, gtr_eq, geq_eq, not_eq, minI_eq, maxI_eq, extract_0, extract_1, extract_2, eqlI, neqI, makeFunc_eq, decide_true, decide_false, if_true, if_false, Bool.false_eq_true, Bool.not_true, Bool.not_false, reduceIte, List.getElem?_toArray, List.getElem?_cons_zero, List.getElem?_cons_succ, Option.isSome_none, List.length_map]
          refine ⟨⟨i + 1, (getL (ofL (l.take i)) m.p.key).isSome, by omega, rfl, H9, w9, hall, ?_⟩, by simp [upTo, e6]; omega⟩
          rw [hgt, htake]
          by_cases h2 : m.key ∈ (l.take i).map It.key
          · rw [decide_eq_true h2, decide_eq_false (fun h => (hn.1 h).2 h2)]; rfl
          · rw [decide_eq_false h2, decide_eq_true (hn.2 ⟨hnd, h2⟩)]; rfl
  · have hil : i = l.length := by omega
    have hd : ((i : Int) < (l.length : Int)) = False := by apply eq_false; omega
    rw [hil, List.take_length] at HT har htw
    have har' : ¬ l.all It.right = false := by rw [har]; simp
    simp only [hd, lx, popO_some, bindH_eq, condV_bool, condV_true, condV_false, yV_bool, gopV_tt, gopV_ff, gopV_tf, gopV_ft, pickV_t, pickV_f, pickV_bool, nilS_ptr, add_eq, sub_eq, mul_eq, lss_eq, leq_eq, gtr_eq, geq_eq, not_eq, minI_eq, maxI_eq, extract_0, extract_1, extract_2, eqlI, neqI, makeFunc_eq, decide_true, decide_false, if_true, if_false, Bool.false_eq_true, Bool.not_true, Bool.not_false, reduceIte, List.getElem?_toArray, List.getElem?_cons_zero, List.getElem?_cons_succ, Option.isSome_none, List.length_map]
    cases tw with
    | true =>
      have hnd : ¬ (l.map It.key).Nodup := by intro h; rw [decide_eq_true h] at htw; cases htw
      have e : ofE room l = 4 := by unfold ofE; rw [if_neg hroom, if_neg har', if_pos hnd]
      simp only [popO_some, bindH_eq, condV_bool, condV_true, condV_false, yV_bool, gopV_tt, gopV_ff, gopV_tf, gopV_ft, pickV_t, pickV_f, pickV_bool, nilS_ptr, add_eq, sub_eq, mul_eq, lss_eq, leq_eq, gtr_eq, geq_eq, not_eq, minI_eq, maxI_eq, extract_0, extract_1, extract_2, eqlI, neqI, makeFunc_eq, decide_true, decide_false, if_true, if_false, Bool.false_eq_true, Bool.not_true, Bool.not_false, reduceIte, List.getElem?_toArray, List.getElem?_cons_zero, List.getElem?_cons_succ, Option.isSome_none, List.length_map]
      have := hbad h' w (by rw [e]; decide)
      rw [e] at this; exact this
    | false =>
      have hnd : (l.map It.key).Nodup := by
        have : decide ((l.map It.key).Nodup) = true := by simpa using htw.symm
        exact of_decide_eq_true this
      by_cases hfull : room < (l.length : Int)
      · have e : ofE room l = 2 := by unfold ofE; rw [if_neg hroom, if_neg har', if_neg (fun h => h hnd), if_pos hfull]
        simp only [hfull, popO_some, bindH_eq, condV_bool, condV_true, condV_false, yV_bool, gopV_tt, gopV_ff, gopV_tf, gopV_ft, pickV_t, pickV_f, pickV_bool, nilS_ptr, add_eq, sub_eq, mul_eq, lss_eq, leq_eq, gtr_eq, geq_eq, not_eq, minI_eq, maxI_eq, extract_0, extract_1, extract_2, eqlI, neqI, makeFunc_eq, decide_true, decide_false, if_true, if_false, Bool.false_eq_true, Bool.not_true, Bool.not_false, reduceIte, List.getElem?_toArray, List.getElem?_cons_zero, List.getElem?_cons_succ, Option.isSome_none, List.length_map]
        have := hbad h' w (by rw [e]; decide)
        rw [e] at this; exact this
      · have e : ofE room l = 0 := by unfold ofE; rw [if_neg hroom, if_neg har', if_neg (fun h => h hnd), if_neg hfull]
        simp only [hfull, popO_some, bindH_eq, condV_bool, condV_true, condV_false, yV_bool, gopV_tt, gopV_ff, gopV_tf, gopV_ft, pickV_t, pickV_f, pickV_bool, nilS_ptr, add_eq, sub_eq, mul_eq, lss_eq, leq_eq, gtr_eq, geq_eq, not_eq, minI_eq, maxI_eq, extract_0, extract_1, extract_2, eqlI, neqI, makeFunc_eq, decide_true, decide_false, if_true, if_false, Bool.false_eq_true, Bool.not_true, Bool.not_false, reduceIte, List.getElem?_toArray, List.getElem?_cons_zero, List.getElem?_cons_succ, Option.isSome_none, List.length_map]
        exact hk a h' F e HT f1 w
end Go.Proofs.Ytdgcpeinkjnncaa
