/- store: the plain store. -/
import Derived.Test.YtllopddcpkhfjaaDoorStoC
set_option linter.unusedSimpArgs false
set_option linter.unusedVariables false
namespace Go.Proofs.YtllopddcpkhfjaaDoor
open Go Bld
set_option maxRecDepth 20000
def Up (l : List Pr) : Prop := l.Pairwise fun a b => a.k < b.k
def setL (L : List Pr) (p : Pr) : List Pr := L.filter (fun q => decide (q.k < p.k)) ++ p :: L.filter (fun q => decide (p.k < q.k))
def delL (L : List Pr) (k : Tx) : List Pr := L.filter fun q => decide (q.k ≠ k)
def getL (L : List Pr) (k : Tx) : Option Pr := L.find? fun q => decide (k = q.k)
theorem Up.irr {L : List Pr} (h : Up L) : L.Nodup := by
  refine List.Pairwise.imp (fun {a b} hab => ?_) h
  rintro rfl
  exact List.lt_irrefl _ hab
theorem Up.keys {L : List Pr} (h : Up L) : (L.map Pr.k).Nodup := by
  unfold List.Nodup
  rw [List.pairwise_map]
  refine List.Pairwise.imp (fun {a b} hab e => ?_) h
  rw [e] at hab
  exact List.lt_irrefl _ hab
theorem Up.ext {A B : List Pr} (ha : Up A) (hb : Up B) (h : ∀ p, p ∈ A ↔ p ∈ B) : A = B := by
  have hp : A.Perm B := (List.perm_ext_iff_of_nodup ha.irr hb.irr).2 h
  unfold Up at ha hb
  exact List.Perm.eq_of_pairwise (le := fun a b : Pr => a.k < b.k) (fun a b _ _ (h1 : a.k < b.k) h2 => absurd h2 (List.lt_asymm h1)) ha hb hp
theorem Up.one {L : List Pr} (h : Up L) {p q : Pr} (hp : p ∈ L) (hq : q ∈ L) (e : p.k = q.k) : p = q := nodup_inj h.keys hp hq e
theorem mem_setL {L : List Pr} {p q : Pr} : q ∈ setL L p ↔ q = p ∨ (q ∈ L ∧ q.k ≠ p.k) := by
  unfold setL
  simp only [List.mem_append, List.mem_cons, List.mem_filter, decide_eq_true_eq]
  constructor
  · rintro (⟨h1, h2⟩ | rfl | ⟨h1, h2⟩)
    · exact .inr ⟨h1, fun e => by rw [e] at h2; exact List.lt_irrefl _ h2⟩
    · exact .inl rfl
    · exact .inr ⟨h1, fun e => by rw [e] at h2; exact List.lt_irrefl _ h2⟩
  · rintro (rfl | ⟨h1, h2⟩)
    · exact .inr (.inl rfl)
    · rcases tx_total q.k p.k with h | h | h
      · exact .inl ⟨h1, h⟩
      · exact absurd h h2
      · exact .inr (.inr ⟨h1, h⟩)
theorem mem_delL {L : List Pr} {k : Tx} {q : Pr} : q ∈ delL L k ↔ q ∈ L ∧ q.k ≠ k := by
  unfold delL
  simp [List.mem_filter]
theorem Up.del {L : List Pr} (h : Up L) (k : Tx) : Up (delL L k) := List.Pairwise.filter _ h
theorem Up.set {L : List Pr} (h : Up L) (p : Pr) : Up (setL L p) := by
  unfold setL Up
  rw [List.pairwise_append, List.pairwise_cons]
  refine ⟨List.Pairwise.filter _ h, ⟨fun q hq => ?_, List.Pairwise.filter _ h⟩, fun a ha b hb => ?_⟩
  · simpa using (List.mem_filter.1 hq).2
  · have h1 : a.k < p.k := by simpa using (List.mem_filter.1 ha).2
    rcases List.mem_cons.1 hb with rfl | hb
    · exact h1
    · have h2 : p.k < b.k := by simpa using (List.mem_filter.1 hb).2
      exact List.lt_trans h1 h2
theorem getL_none {L : List Pr} {k : Tx} : getL L k = none ↔ ∀ p ∈ L, p.k ≠ k := by
  unfold getL
  rw [List.find?_eq_none]
  simp only [decide_eq_true_eq]
  exact ⟨fun h p hp e => h p hp e.symm, fun h p hp e => h p hp e.symm⟩
theorem getL_some {L : List Pr} (h : Up L) {k : Tx} {p : Pr} : getL L k = some p ↔ p ∈ L ∧ p.k = k := by
  constructor
  · intro e
    have h1 := List.mem_of_find?_eq_some e
    have h2 := List.find?_some e
    exact ⟨h1, by simpa using Eq.symm (by simpa using h2)⟩
  · rintro ⟨h1, h2⟩
    cases e : getL L k with
    | none => exact absurd h2 (getL_none.1 e p h1)
    | some q =>
      have h3 := List.mem_of_find?_eq_some e
      have h4 : k = q.k := by simpa using List.find?_some e
      rw [h.one h3 h1 (by rw [h2]; exact h4.symm)]
theorem getL_perm {l L : List Pr} (hp : l.Perm L) (hn : Up L) (k : Tx) : getL l k = getL L k := by
  have hnl : (l.map Pr.k).Nodup := (hp.map Pr.k).nodup_iff.2 hn.keys
  cases e : getL L k with
  | none =>
    rw [getL_none] at e ⊢
    exact fun p h => e p (hp.mem_iff.1 h)
  | some q =>
    obtain ⟨h1, h2⟩ := (getL_some hn).1 e
    cases e2 : getL l k with
    | none => exact absurd h2 (getL_none.1 e2 q (hp.mem_iff.2 h1))
    | some r =>
      have h3 := List.mem_of_find?_eq_some e2
      have h4 : k = r.k := by simpa using List.find?_some e2
      rw [nodup_inj hnl h3 (hp.mem_iff.2 h1) (by rw [h2]; exact h4.symm)]
/-- Set back. -/
theorem set_del {L : List Pr} (h : Up L) {k v : Tx} (e : getL L k = none) : delL (setL L ⟨k, v⟩) k = L := by
  refine ((h.set _).del _).ext h fun p => ?_
  rw [mem_delL, mem_setL]
  rw [getL_none] at e
  constructor
  · rintro ⟨rfl | ⟨h1, _⟩, h2⟩
    · exact absurd rfl h2
    · exact h1
  · exact fun hp => ⟨.inr ⟨hp, e p hp⟩, e p hp⟩
theorem set_set {L : List Pr} (h : Up L) {k v w : Tx} (e : getL L k = some ⟨k, w⟩) : setL (setL L ⟨k, v⟩) ⟨k, w⟩ = L := by
  refine ((h.set _).set _).ext h fun p => ?_
  obtain ⟨h1, -⟩ := (getL_some h).1 e
  simp only [mem_setL]
  constructor
  · rintro (rfl | ⟨rfl | ⟨h2, _⟩, h3⟩)
    · exact h1
    · exact absurd rfl h3
    · exact h2
  · intro hp
    by_cases hk : p.k = k
    · exact .inl (h.one hp h1 hk)
    · exact .inr ⟨.inr ⟨hp, hk⟩, hk⟩
theorem get_set {L : List Pr} (h : Up L) (p : Pr) : getL (setL L p) p.k = some p := (getL_some (h.set p)).2 ⟨mem_setL.2 (.inl rfl), rfl⟩
/-! ### memory's map -/
def Pr.pr (p : Pr) : Tx × Value := (p.k, skey p.v)
abbrev MAt (h : PH) (m : Nat) (l : List Pr) : Prop := MapAt skey h m (l.map Pr.pr)
theorem getM_pr (l : List Pr) (k : Tx) : getM (l.map Pr.pr) k = (getL l k).map fun p => skey p.v := by
  unfold getM getL
  rw [List.find?_map, Option.map_map]
  rfl
theorem del_pr (l : List Pr) (k : Tx) : delM (l.map Pr.pr) k = (delL l k).map Pr.pr := by
  unfold delM delL
  rw [List.filter_map]; rfl
theorem keys_pr (l : List Pr) : keysM (l.map Pr.pr) = l.map Pr.k := by unfold keysM; rw [List.map_map]; rfl
theorem put_perm {l L : List Pr} (hp : l.Perm L) (hs : Up L) (p : Pr) : ∃ l' : List Pr, putM (l.map Pr.pr) p.k (skey p.v) = l'.map Pr.pr ∧ l'.Perm (setL L p) := by
  have hnl : (l.map Pr.k).Nodup := (hp.map Pr.k).nodup_iff.2 hs.keys
  have hnd : l.Nodup := nodup_of_map Pr.k hnl
  unfold putM
  rw [keys_pr]
  split
  · rename_i hm
    refine ⟨l.map fun q => if q.k = p.k then p else q, ?_, ?_⟩
    · rw [List.map_map, List.map_map]
      apply List.map_congr_left
      intro x _
      show (if x.k = p.k then (p.k, skey p.v) else (x.k, skey x.v)) = Pr.pr (if x.k = p.k then p else x)
      by_cases hc : x.k = p.k
      · rw [if_pos hc, if_pos hc]; rfl
      · rw [if_neg hc, if_neg hc]; rfl
    · have hk : (l.map fun q => if q.k = p.k then p else q).map Pr.k = l.map Pr.k := by
        rw [List.map_map]
        apply List.map_congr_left
        intro x _
        show (if x.k = p.k then p else x).k = x.k
        split
        · rename_i e; exact e.symm
        · rfl
      have hn2 : (l.map fun q => if q.k = p.k then p else q).Nodup := nodup_of_map Pr.k (by rw [hk]; exact hnl)
      refine (List.perm_ext_iff_of_nodup hn2 (hs.set p).irr).2 fun q => ?_
      rw [mem_setL, List.mem_map]
      constructor
      · rintro ⟨x, hx, e⟩
        by_cases hc : x.k = p.k
        · rw [if_pos hc] at e; exact .inl e.symm
        · rw [if_neg hc] at e; subst e; exact .inr ⟨hp.mem_iff.1 hx, hc⟩
      · rintro (rfl | ⟨h1, h2⟩)
        · obtain ⟨x, hx, e⟩ := List.mem_map.1 hm
          exact ⟨x, hx, by rw [if_pos e]⟩
        · exact ⟨q, hp.mem_iff.2 h1, by rw [if_neg h2]⟩
  · rename_i hm
    refine ⟨l ++ [p], by rw [List.map_append]; rfl, ?_⟩
    have hno : ∀ x ∈ l, x.k ≠ p.k := fun x hx e => hm (by rw [← e]; exact List.mem_map_of_mem hx)
    have hn2 : (l ++ [p]).Nodup := by
      rw [List.nodup_append]
      refine ⟨hnd, by simp, fun a ha b hb e => ?_⟩
      simp only [List.mem_singleton] at hb
      subst hb; subst e
      exact hno _ ha rfl
    refine (List.perm_ext_iff_of_nodup hn2 (hs.set p).irr).2 fun q => ?_
    rw [mem_setL, List.mem_append, List.mem_singleton]
    constructor
    · rintro (h1 | rfl)
      · exact .inr ⟨hp.mem_iff.1 h1, hno q h1⟩
      · exact .inl rfl
    · rintro (rfl | ⟨h1, h2⟩)
      · exact .inr rfl
      · exact .inl (hp.mem_iff.2 h1)
theorem look_eq {h : PH} {m : Nat} {l : List Pr} (hm : MAt h m l) (k : Tx) : SemE PG h (Instr.lookup T_map_string_string (.map (some m)) (.string (tx k)) true) = some (.tuple #[.string (tx (((getL l k).map Pr.v).getD [])), .bool (getL l k).isSome]) := by
  have := look_found skeyed T_map_string_string.und T_string.info T_string.zero hm k true
  rw [getM_pr] at this
  rw [show (.string (tx k) : Value) = skey k from rfl, this]
  cases getL l k <;> rfl
/-! ### the plain store -/
structure St where
  now : List Pr
  blocks : List (List Pr)
  height : Nat
def sSet (s : St) (k v : Tx) : St × Int :=
  if k.length < 1 ∨ 16 < k.length ∨ 64 < v.length then (s, 1) else if getL s.now k = none ∧ 4096 ≤ s.now.length then (s, 2) else ({ s with now := setL s.now ⟨k, v⟩ }, 0)
def sDel (s : St) (k : Tx) : St × Int := if getL s.now k = none then (s, 3) else ({ s with now := delL s.now k }, 0)
def sCom (s : St) : St × (Nat × Int) :=
  if s.height = 18446744073709551615 then (s, (0, 12)) else if 4096 ≤ s.blocks.length then (s, (0, 2)) else ({ s with blocks := s.blocks ++ [s.now], height := s.height + 1 }, (s.height + 1, 0))
def sAt (s : St) (x : Nat) : Option (List Pr) := if s.height < x ∨ s.blocks.length ≤ s.height - x then none else s.blocks[s.blocks.length - 1 - (s.height - x)]?
structure St.Ok (s : St) : Prop where
  up : Up s.now
  fit : ∀ p ∈ s.now, Fit p
  few : s.now.length ≤ 4096
  blk : ∀ b ∈ s.blocks, Up b ∧ (∀ p ∈ b, Fit p) ∧ b.length ≤ 4096
  h1 : 1 ≤ s.blocks.length
  h2 : s.blocks.length ≤ 4096
  h3 : s.blocks.length - 1 ≤ s.height
  h4 : s.height < 18446744073709551616
end Go.Proofs.YtllopddcpkhfjaaDoor
