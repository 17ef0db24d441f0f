/- maps: dropping a key, walking a map, a copy of it; on a part of memory. -/
import Derived.Test.YtllopddcpkhfjaaDoorHMap
set_option linter.unusedSectionVars false
set_option linter.unusedSimpArgs false
set_option linter.unusedVariables false
namespace Go.Proofs.YtllopddcpkhfjaaDoor
open Go
section
variable {P : Program} {h : PH} {t t' kt et : TypeId} {α : Type} [DecidableEq α] {enc : α → Value}

/-! ### dropping -/
def delM (l : List (α × Value)) (a : α) : List (α × Value) := l.filter fun p => decide (p.1 ≠ a)
theorem getM_del (l : List (α × Value)) (a b : α) : getM (delM l a) b = if b = a then none else getM l b := by
  induction l with
  | nil => simp [getM, delM]
  | cons p ps ih =>
    simp only [getM, delM] at ih ⊢
    simp only [List.filter_cons]
    by_cases hp : p.1 = a
    · simp only [hp, ne_eq, not_true, decide_false, Bool.false_eq_true, if_false, ih, List.find?_cons]
      by_cases hb : b = a
      · simp [hb]
      · simp [hb]
    · simp only [hp, ne_eq, not_false_eq_true, decide_true, if_true, List.find?_cons]
      by_cases hb : b = p.1
      · subst hb; simp [hp]
      · simp only [hb, decide_false]; exact ih
theorem erase_filter {β : Type} : ∀ (L : List (α × β)) (a : α) (q : Nat), (L.map (·.1)).Nodup → (L.map (·.1))[q]? = some a → L.eraseIdx q = L.filter fun p => decide (p.1 ≠ a)
  | [], a, q, _, hq => by simp at hq
  | p :: ps, a, 0, hnd, hq => by
    simp only [List.map_cons, List.getElem?_cons_zero, Option.some.injEq] at hq
    simp only [List.map_cons, List.nodup_cons] at hnd
    simp only [List.eraseIdx_cons_zero, List.filter_cons, hq, ne_eq, not_true, decide_false, Bool.false_eq_true, if_false]
    symm
    rw [List.filter_eq_self]
    intro x hx
    simp only [decide_eq_true_eq]
    rintro e
    exact hnd.1 (by rw [hq, ← e]; exact List.mem_map_of_mem hx)
  | p :: ps, a, q + 1, hnd, hq => by
    simp only [List.map_cons, List.getElem?_cons_succ] at hq
    simp only [List.map_cons, List.nodup_cons] at hnd
    have hne : p.1 ≠ a := fun e => hnd.1 (by rw [e]; exact List.mem_of_getElem? hq)
    simp only [List.eraseIdx_cons_succ, List.filter_cons, hne, ne_eq, not_false_eq_true, decide_true, if_true]
    rw [erase_filter ps a q hnd.2 hq]
theorem eraseIdx_map {β γ : Type} (f : β → γ) : ∀ (L : List β) (q : Nat), (L.map f).eraseIdx q = (L.eraseIdx q).map f
  | [], _ => rfl
  | _ :: _, 0 => rfl
  | x :: xs, q + 1 => by simp only [List.map_cons, List.eraseIdx_cons_succ, eraseIdx_map f xs q]
theorem nodup_len {β : Type} : ∀ (D L : List β), D.Nodup → (∀ p ∈ D, p ∈ L) → D.length ≤ L.length
  | [], _, _, _ => Nat.zero_le _
  | p :: ps, L, hn, hs => by
    obtain ⟨a, b, rfl⟩ := List.append_of_mem (hs p (by simp))
    simp only [List.nodup_cons] at hn
    have := nodup_len ps (a ++ b) hn.2 fun q hq => by
      have := hs q (by simp [hq])
      simp only [List.mem_append, List.mem_cons] at this ⊢
      rcases this with h | rfl | h
      · exact .inl h
      · exact absurd hq hn.1
      · exact .inr h
    simp only [List.length_cons, List.length_append] at this ⊢
    omega
theorem findL_none {a : α} {L : List (α × Value × Nat)} (e2 : a ∉ L.map (·.1)) : (L.filter fun p => decide (p.1 ≠ a)) = L := by
  rw [List.filter_eq_self]
  intro x hx
  simp only [decide_eq_true_eq]
  rintro e
  exact e2 (by rw [← e]; exact List.mem_map_of_mem hx)
theorem del_map (L : List (α × Value × Nat)) (a : α) : delM (L.map fun p => (p.1, p.2.1)) a = (L.filter fun p => decide (p.1 ≠ a)).map fun p => (p.1, p.2.1) := by
  unfold delM
  rw [List.filter_map]; rfl
theorem map_del {r : Nat} {l : List (α × Value)} (K : Keyed P kt enc) (hu : P.underlying t = some (.map kt et)) (H : MapAt enc h r l) (a : α) {ts : Array TypeId} (hts : ts[0]? = some t) {k : Value → PH → Prop}
    (hk : ∀ h', MapAt enc h' r (delM l a) → Upd [r] h h' → k (.tuple #[]) h') : SemH P (Builtin.delete_ ts t' #[.map (some r), enc a]) h k := by
  obtain ⟨es, c, L, h1, h2, rfl, hb1, hb2⟩ := H.here
  have hnd := H.nodup
  rw [mem_keys] at hnd
  unfold Builtin.delete_
  simp only [hts, List.getElem?_toArray, List.getElem?_cons_zero, List.getElem?_cons_succ]
  show SemH P (underlying t >>= _) h _
  rw [semH_und hu]
  dsimp only
  refine semH_getMap h1 ?_
  dsimp only
  refine semH_of_semE (K.chk h _ a) ?_
  rw [h2]
  refine semH_of_semE (findKey_eq K a L) ?_
  have hnd2 : (keysM (delM (L.map fun p => (p.1, p.2.1)) a)).Nodup := by
    rw [del_map, mem_keys]
    exact List.Nodup.sublist (List.Sublist.map _ List.filter_sublist) hnd
  have hb3 : ((L.filter fun p => decide (p.1 ≠ a)).map (·.2.2)).Nodup := List.Nodup.sublist (List.Sublist.map _ List.filter_sublist) hb1
  have hb4 : ∀ p ∈ L.filter fun p => decide (p.1 ≠ a), p.2.2 < c := fun p hp => hb2 p (List.mem_filter.1 hp).1
  rcases findL_at a L 0 with ⟨q, w, e1, e2, e3⟩ | ⟨e1, e2⟩
  · rw [e1, Nat.zero_add]
    show (∃ u, h r = some u ∧ (∀ c e f, u ≠ .cells c e f)) ∧ _
    refine ⟨⟨_, h1, by intros; simp⟩, ?_⟩
    show k (.tuple #[]) _
    refine hk _ ⟨hnd2, _, c, L.filter (fun p => decide (p.1 ≠ a)), set_same, ?_, del_map L a, hb3, hb4⟩ (Upd.set (by simp))
    rw [← erase_filter L a q hnd e2]
    have hq : q < es.size := by
      rw [← Array.length_toList, h2]
      have := (List.getElem?_eq_some_iff.1 e2).1
      simpa [ents] using this
    rw [Array.eraseIdxIfInBounds, dif_pos hq, Array.toList_eraseIdx, h2]
    unfold ents
    exact eraseIdx_map _ _ _
  · rw [e1]
    show (∃ u, h r = some u ∧ (∀ c e f, u ≠ .cells c e f)) ∧ _
    refine ⟨⟨_, h1, by intros; simp⟩, ?_⟩
    show k (.tuple #[]) _
    refine hk _ ⟨hnd2, _, c, L, set_same, h2, ?_, hb1, hb2⟩ (Upd.set (by simp))
    rw [del_map, findL_none e2]

/-! ### walking -/
/-- A walk over a map: 'D' has come. -/
structure MapIt (enc : α → Value) (h : PH) (r it : Nat) (l D : List (α × Value)) : Prop where
  nodup : (keysM l).Nodup
  here : ∃ (es : Array MapEntry) (c : Nat) (L DL : List (α × Value × Nat)) (S : Array Nat), h r = some (.map es c) ∧ es.toList = ents enc L ∧ l = L.map (fun p => (p.1, p.2.1)) ∧ (L.map (·.2.2)).Nodup ∧ (∀ p ∈ L, p.2.2 < c) ∧
    h it = some (.mapIter (some r) c S c) ∧ S.toList = DL.map (·.2.2) ∧ (∀ p ∈ DL, p ∈ L) ∧ DL.Nodup ∧ D = DL.map (fun p => (p.1, p.2.1))
theorem MapIt.upd {h h' : PH} {r it : Nat} {l D : List (α × Value)} {G : List Nat} (H : MapIt enc h r it l D) (u : Upd G h h') (hr : r ∉ G) (hi : it ∉ G) : MapIt enc h' r it l D := by
  obtain ⟨es, c, L, DL, S, h1, h2, h3, h4, h5, h6, h7⟩ := H.here
  exact ⟨H.nodup, es, c, L, DL, S, u.get h1 hr, h2, h3, h4, h5, u.get h6 hi, h7⟩
theorem MapIt.map {r it : Nat} {l D : List (α × Value)} (H : MapIt enc h r it l D) : MapAt enc h r l := by
  obtain ⟨es, c, L, DL, S, h1, h2, h3, h4, h5, _⟩ := H.here
  exact ⟨H.nodup, es, c, L, h1, h2, h3, h4, h5⟩
theorem MapIt.known {r it : Nat} {l D : List (α × Value)} (H : MapIt enc h r it l D) : h it ≠ none := by
  obtain ⟨es, c, L, DL, S, h1, h2, h3, h4, h5, h6, _⟩ := H.here; rw [h6]; simp
/-- How many are left. -/
def itLeft (n : Nat) (it : Nat) (h : PH) : Nat := match h it with
  | some (.mapIter _ _ S _) => n - S.size
  | _ => 0
theorem MapIt.left {r it : Nat} {l D : List (α × Value)} (H : MapIt enc h r it l D) (n : Nat) : itLeft n it h = n - D.length := by
  obtain ⟨es, c, L, DL, S, h1, h2, h3, h4, h5, h6, h7, _, _, h8⟩ := H.here
  unfold itLeft
  rw [h6]
  have : S.size = D.length := by rw [← Array.length_toList, h7, h8]; simp
  simp only [this]
theorem MapIt.le {r it : Nat} {l D : List (α × Value)} (H : MapIt enc h r it l D) : D.length ≤ l.length := by
  obtain ⟨es, c, L, DL, S, h1, h2, rfl, h4, h5, h6, h7, h9, h10, rfl⟩ := H.here
  rw [List.length_map, List.length_map]
  exact nodup_len _ _ h10 h9
theorem range_it {r : Nat} {l : List (α × Value)} (hu : P.underlying t = some (.map kt et)) (H : MapAt enc h r l) {k : Value → PH → Prop}
    (hk : ∀ it h', h it = none → MapIt enc h' r it l [] → Ext h h' → k (.pointer (some ⟨it, 0, none⟩)) h') : SemH P (Instr.range t (.map (some r))) h k := by
  obtain ⟨es, c, L, h1, h2, rfl, hb1, hb2⟩ := H.here
  unfold Instr.range
  show SemH P (underlying t >>= _) h _
  rw [semH_und hu]
  have key : ∀ (X : Sem Obj) (f : Obj → Sem Value), SemH P X h (fun o h' => SemH P (f o) h' k) → SemH P (X >>= f) h k := fun X f hX => SemH.bind (P := P) (s := X) hX
  refine key _ _ ?_
  refine semH_getMap h1 ?_
  intro it hit
  exact hk it _ hit ⟨H.nodup, es, c, L, [], #[], set_old hit h1, h2, rfl, hb1, hb2, set_same, rfl, by simp, by simp, rfl⟩ (Upd.new hit)

theorem nodup_of_map {β γ : Type} (f : β → γ) : ∀ {L : List β}, (L.map f).Nodup → L.Nodup
  | [], _ => List.nodup_nil
  | x :: xs, hnd => by
    simp only [List.map_cons, List.nodup_cons] at hnd ⊢
    exact ⟨fun hm => hnd.1 (List.mem_map_of_mem hm), nodup_of_map f hnd.2⟩
theorem nodup_inj {β γ : Type} {f : β → γ} : ∀ {L : List β}, (L.map f).Nodup → ∀ {p q : β}, p ∈ L → q ∈ L → f p = f q → p = q
  | [], _, p, q, hp, _, _ => by cases hp
  | x :: xs, hnd, p, q, hp, hq, e => by
    simp only [List.map_cons, List.nodup_cons] at hnd
    rcases List.mem_cons.1 hp with hp | hp
    · rcases List.mem_cons.1 hq with hq | hq
      · rw [hp, hq]
      · exact absurd (by rw [← hp, e]; exact List.mem_map_of_mem hq) hnd.1
    · rcases List.mem_cons.1 hq with hq | hq
      · exact absurd (by rw [← hq, ← e]; exact List.mem_map_of_mem hp) hnd.1
      · exact nodup_inj hnd.2 hp hq e
theorem semH_getO {r : Nat} {o : Obj} {β : Type} {Q : β → PH → Prop} (hr : h r = some o) (hc : ∀ c e f, o ≠ .cells c e f) {f : Obj → Sem β} (hq : SemH P (f o) h Q) : SemH P (getObj r >>= f) h Q := by
  show ∃ o, h r = some o ∧ (∀ c e f, o ≠ .cells c e f) ∧ SemH P _ h Q
  exact ⟨o, hr, hc, hq⟩
theorem next_it {r it : Nat} {l D : List (α × Value)} (H : MapIt enc h r it l D) {k : Value → PH → Prop}
    (hnil : D.Perm l → k (.tuple #[.bool false]) h)
    (hcons : ∀ a v h', (a, v) ∈ l → a ∉ keysM D → MapIt enc h' r it l (D ++ [(a, v)]) → Upd [it] h h' → k (.tuple #[.bool true, enc a, v]) h') : SemH P (Instr.next (.pointer (some ⟨it, 0, none⟩)) false t) h k := by
  obtain ⟨es, c, L, DL, S, h1, h2, h3, hb1, hb2, hi, hS, hDL, hDn, hD⟩ := H.here
  unfold Instr.next
  refine semH_getO hi (by intros; simp) ?_
  dsimp only
  refine semH_getMap h1 ?_
  dsimp only
  have hborn : ∀ e ∈ es.toList, e.born < c := fun e he => by
    rw [h2] at he
    obtain ⟨p, hp, rfl⟩ := List.mem_map.1 he
    exact hb2 p hp
  have hgo : (!S.isEmpty && !es.isEmpty && es.all (·.born ≥ c)) = false := by
    by_cases he : es.isEmpty = true
    · simp [he]
    · have : es.all (·.born ≥ c) = false := by
        rw [Bool.eq_false_iff]
        intro hall
        have hne : es.toList ≠ [] := by intro e; apply he; simpa using e
        obtain ⟨x, xs, hx⟩ := List.exists_cons_of_ne_nil hne
        have h1 := hborn x (by rw [hx]; simp)
        have h2 := Array.all_eq_true_iff_forall_mem.1 hall x (by rw [← Array.mem_toList_iff, hx]; simp)
        simp only [ge_iff_le, decide_eq_true_eq] at h2
        omega
      simp [this]
  rw [hgo]
  simp only [Bool.false_eq_true, if_false]
  obtain ⟨LL, hLL⟩ : ∃ LL : List (α × Value × Nat), LL = L.filter fun p => decide (p.2.2 ∉ DL.map (·.2.2)) := ⟨_, rfl⟩
  have hleft : (es.filter fun e => !S.contains e.born).toList = ents enc LL := by
    rw [Array.toList_filter, h2, hLL]
    unfold ents
    rw [List.filter_map]
    congr 1
    apply List.filter_congr
    intro p _
    simp only [Function.comp]
    rw [← Array.contains_toList, hS]
    by_cases hm : p.2.2 ∈ DL.map (·.2.2)
    · simp [hm]
    · simp [hm]
  have hmemLL : ∀ p, p ∈ LL ↔ p ∈ L ∧ p.2.2 ∉ DL.map (·.2.2) := fun p => by rw [hLL, List.mem_filter]; simp
  have hold : ((es.filter fun e => !S.contains e.born).filter (·.born < c)).toList = ents enc LL := by
    rw [Array.toList_filter, hleft, List.filter_eq_self]
    intro e he
    obtain ⟨p, hp, rfl⟩ := List.mem_map.1 he
    simpa using hb2 p ((hmemLL p).1 hp).1
  have hnew : ((es.filter fun e => !S.contains e.born).filter (·.born ≥ c)) = #[] := by
    rw [← Array.toList_inj, Array.toList_filter, hleft]
    show _ = []
    rw [List.filter_eq_nil_iff]
    intro e he
    obtain ⟨p, hp, rfl⟩ := List.mem_map.1 he
    have := hb2 p ((hmemLL p).1 hp).1
    simp only [ge_iff_le, decide_eq_true_eq]; omega
  generalize ho : (es.filter fun e => !S.contains e.born).filter (·.born < c) = old at hold
  rw [hnew]
  simp only [Array.append_empty]
  by_cases hemp : LL = []
  · have hold0 : old = #[] := by rw [← Array.toList_inj, hold, hemp]; rfl
    subst hold0
    simp only [List.isEmpty_toArray, List.isEmpty_nil, if_true, List.map_toArray, List.map_nil, Array.append_empty, List.size_toArray, List.length_cons, List.length_nil, Nat.zero_add]
    rw [semH_choose]
    intro tt
    have : (if Question.forced (.mapNext 1) then 0 else Question.cut (.mapNext 1) tt) = 0 := by simp [Question.forced]
    rw [this]
    show k (.tuple #[.bool false]) h
    refine hnil ?_
    rw [hD, h3]
    apply List.Perm.map
    refine (List.perm_ext_iff_of_nodup hDn ?_).2 fun p => ⟨hDL p, fun hp => ?_⟩
    · exact nodup_of_map _ hb1
    · by_cases hm : p.2.2 ∈ DL.map (·.2.2)
      · obtain ⟨q, hq, e⟩ := List.mem_map.1 hm
        rw [nodup_inj (f := fun p : α × Value × Nat => p.2.2) hb1 hp (hDL q hq) e.symm]; exact hq
      · have := (hmemLL p).2 ⟨hp, hm⟩
        rw [hemp] at this; cases this
  · have hne : old.isEmpty = false := by
      rw [Bool.eq_false_iff]
      intro e
      have : old.toList = [] := by simpa using e
      rw [hold] at this
      exact hemp (List.map_eq_nil_iff.1 this)
    rw [hne]
    simp only [Bool.false_eq_true, if_false, Array.empty_append, Array.size_map]
    have hpos : 0 < old.size := by
      rw [← Array.length_toList, hold]
      unfold ents
      rw [List.length_map]
      exact List.length_pos_iff.2 hemp
    rw [semH_choose]
    intro tt
    obtain ⟨j, hj, hjlt⟩ : ∃ j, (if Question.forced (.mapNext old.size) then 0 else Question.cut (.mapNext old.size) tt) = j ∧ j < old.size := by
      refine ⟨_, rfl, ?_⟩
      split
      · exact hpos
      · exact Nat.mod_lt _ hpos
    rw [hj]
    have hjl : j < LL.length := by
      have : old.size = LL.length := by rw [← Array.length_toList, hold]; simp [ents]
      omega
    have hget : (old.map some)[j]? = some (some ⟨enc LL[j].1, LL[j].2.1, LL[j].2.2⟩) := by
      rw [Array.getElem?_map, ← Array.getElem?_toList, hold]
      simp [ents, hjl]
    rw [hget]
    dsimp only
    have hp := (hmemLL LL[j]).1 (List.getElem_mem hjl)
    generalize LL[j] = p at hp
    obtain ⟨hpL, hpD⟩ := hp
    show (∃ u, h it = some u ∧ (∀ c e f, u ≠ .cells c e f)) ∧ _
    refine ⟨⟨_, hi, by intros; simp⟩, ?_⟩
    have hri : r ≠ it := fun e => by rw [e, hi] at h1; cases h1
    refine hcons p.1 p.2.1 _ ?_ ?_ ⟨H.nodup, es, c, L, DL ++ [p], S.push p.2.2, (by rw [set_other hri]; exact h1), h2, h3, hb1, hb2, set_same, ?_, ?_, ?_, ?_⟩ (Upd.set (by simp))
    · rw [h3]; exact List.mem_map_of_mem hpL
    · intro hm
      rw [hD, mem_keys] at hm
      obtain ⟨q, hq, e⟩ := List.mem_map.1 hm
      have hnd := H.nodup
      rw [h3, mem_keys] at hnd
      have hqL := hDL q hq
      have : q = p := nodup_inj (f := fun p : α × Value × Nat => p.1) hnd hqL hpL e
      exact hpD (by rw [← this]; exact List.mem_map_of_mem hq)
    · rw [Array.toList_push, hS]; simp
    · intro q hq
      rcases List.mem_append.1 hq with hq | hq
      · exact hDL q hq
      · simp only [List.mem_singleton] at hq; subst hq; exact hpL
    · rw [List.nodup_append]
      refine ⟨hDn, by simp, ?_⟩
      intro x hx y hy
      simp only [List.mem_singleton] at hy
      subst hy
      rintro rfl
      exact hpD (List.mem_map_of_mem hx)
    · rw [hD]; simp
theorem entry_it {r it : Nat} {l D : List (α × Value)} {a : α} {v : Value} (H : MapIt enc h r it l (D ++ [(a, v)])) {k : Value → PH → Prop} (hk : k (.tuple #[enc a, v]) h) : SemH P (Instr.entry (.pointer (some ⟨it, 0, none⟩))) h k := by
  obtain ⟨es, c, L, DL, S, h1, h2, h3, hb1, hb2, hi, hS, hDL, hDn, hD⟩ := H.here
  obtain ⟨DL', p, rfl, hp1⟩ : ∃ DL' p, DL = DL' ++ [p] ∧ (a, v) = (p.1, p.2.1) := by
    rcases List.eq_nil_or_concat DL with rfl | ⟨DL', p, rfl⟩
    · simp at hD
    · refine ⟨DL', p, by simp, ?_⟩
      simp only [List.concat_eq_append, List.map_append, List.map_cons, List.map_nil] at hD
      have := List.append_inj_right' hD rfl
      simpa using this
  simp only [Prod.mk.injEq] at hp1
  obtain ⟨rfl, rfl⟩ := hp1
  have hpL := hDL p (by simp)
  unfold Instr.entry
  refine semH_getO hi (by intros; simp) ?_
  dsimp only
  have hback : S.back? = some p.2.2 := by
    rw [← Array.getLast?_toList, hS]; simp
  rw [hback]
  dsimp only
  refine semH_getMap h1 ?_
  dsimp only
  simp only [bne_self_eq_false, Bool.false_eq_true, if_false]
  have hfind : es.find? (·.born == p.2.2) = some ⟨enc p.1, p.2.1, p.2.2⟩ := by
    rw [← Array.find?_toList, h2]
    unfold ents
    rw [List.find?_map]
    have : L.find? ((fun e : MapEntry => e.born == p.2.2) ∘ fun p => ⟨enc p.1, p.2.1, p.2.2⟩) = some p := by
      cases hf : L.find? ((fun e : MapEntry => e.born == p.2.2) ∘ fun p => ⟨enc p.1, p.2.1, p.2.2⟩) with
      | none =>
        rw [List.find?_eq_none] at hf
        have := hf p hpL
        simp at this
      | some q =>
        have hq := List.mem_of_find?_eq_some hf
        have he := List.find?_some hf
        simp only [Function.comp, beq_iff_eq] at he
        rw [nodup_inj (f := fun p : α × Value × Nat => p.2.2) hb1 hq hpL he]
    rw [this]; rfl
  rw [hfind]
  exact hk

/-! ### a copy -/
theorem clone_map {r : Nat} {l : List (α × Value)} (H : MapAt enc h r l) {k : Value → PH → Prop}
    (hk : ∀ r' h', h r' = none → MapAt enc h' r' l → Ext h h' → k (.iface t (.map (some r'))) h') : SemH P (Extern.MapsClone.clone #[.iface t (.map (some r))]) h k := by
  obtain ⟨es, c, L, h1, h2, h3, hb1, hb2⟩ := H.here
  unfold Extern.MapsClone.clone
  refine semH_getMap h1 ?_
  intro r' hr'
  exact hk r' _ hr' ⟨H.nodup, es, c, L, set_same, h2, h3, hb1, hb2⟩ (Upd.new hr')
end
end Go.Proofs.YtllopddcpkhfjaaDoor
