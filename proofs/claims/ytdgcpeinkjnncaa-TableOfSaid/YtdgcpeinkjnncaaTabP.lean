/- table, plainly: a row of items, by rising From, then Seq. -/
import Derived.Test.YtdgcpeinkjnncaaTabS
set_option linter.unusedSimpArgs false
set_option linter.unusedVariables false
namespace Go.Proofs.Ytdgcpeinkjnncaa
open Go

def kl (a b : Ky) : Prop := a.1 < b.1 ∨ a.1 = b.1 ∧ a.2 < b.2
instance (a b : Ky) : Decidable (kl a b) := by unfold kl; exact inferInstance
theorem kl_irrefl (a : Ky) : ¬ kl a a := by unfold kl; omega
theorem kl_trans {a b c : Ky} (h1 : kl a b) (h2 : kl b c) : kl a c := by unfold kl at *; omega
theorem kl_ne {a b : Ky} (h : kl a b) : a ≠ b := by rintro rfl; exact kl_irrefl _ h
theorem kl_asymm {a b : Ky} (h : kl a b) : ¬ kl b a := fun h2 => kl_irrefl _ (kl_trans h h2)
theorem kl_total {a b : Ky} (h : a ≠ b) : kl a b ∨ kl b a := by
  have : ¬ (a.1 = b.1 ∧ a.2 = b.2) := fun e => h (Prod.ext e.1 e.2)
  unfold kl; omega
def Srt (L : List It) : Prop := L.Pairwise fun a b => kl a.key b.key
def getL (L : List It) (k : Ky) : Option It := L.find? fun i => decide (k = i.key)
def delL (L : List It) (k : Ky) : List It := L.filter fun i => decide (i.key ≠ k)
def insL (L : List It) (i : It) : List It := (L.filter fun j => decide (kl j.key i.key)) ++ i :: (L.filter fun j => decide (kl i.key j.key))

theorem Srt.unique : ∀ {A B : List It}, Srt A → Srt B → A.Perm B → A = B
  | [], B, _, _, h => by rw [List.nil_perm.1 h]
  | a :: A, [], _, _, h => by have := h.length_eq; simp at this
  | a :: A, b :: B, hA, hB, h => by
    unfold Srt at hA hB
    rw [List.pairwise_cons] at hA hB
    have e : a = b := by
      have h1 : a ∈ b :: B := h.mem_iff.1 (by simp)
      have h2 : b ∈ a :: A := h.mem_iff.2 (by simp)
      rcases List.mem_cons.1 h1 with h1 | h1
      · exact h1
      · rcases List.mem_cons.1 h2 with h2 | h2
        · exact h2.symm
        · exact absurd (hA.1 b h2) (kl_asymm (hB.1 a h1))
    subst e
    rw [Srt.unique hA.2 hB.2 (h.cons_inv)]
theorem Srt.filter {L : List It} (h : Srt L) (p : It → Bool) : Srt (L.filter p) := List.Pairwise.filter p h
theorem Srt.del {L : List It} (h : Srt L) (k : Ky) : Srt (delL L k) := h.filter _
theorem Srt.ins {L : List It} (h : Srt L) (i : It) : Srt (insL L i) := by
  unfold insL Srt
  rw [List.pairwise_append]
  refine ⟨h.filter _, ?_, ?_⟩
  · rw [List.pairwise_cons]
    exact ⟨fun x hx => by simpa using (List.mem_filter.1 hx).2, h.filter _⟩
  · intro x hx y hy
    have h1 : kl x.key i.key := by simpa using (List.mem_filter.1 hx).2
    rcases List.mem_cons.1 hy with rfl | hy
    · exact h1
    · exact kl_trans h1 (by simpa using (List.mem_filter.1 hy).2)
theorem Srt.nodup {L : List It} (h : Srt L) : (L.map It.key).Nodup := by
  unfold List.Nodup
  rw [List.pairwise_map]
  exact h.imp fun h => kl_ne h
theorem part_perm {α : Type} (p q : α → Bool) (hd : ∀ a, p a = true → q a = false) : ∀ l : List α, (l.filter p ++ l.filter q).Perm (l.filter fun a => p a || q a)
  | [] => List.Perm.refl _
  | a :: l => by
    have ih := part_perm p q hd l
    cases hp : p a with
    | true =>
      have hq := hd a hp
      simp only [List.filter_cons, hp, hq, Bool.true_or, if_true, Bool.false_eq_true, if_false, List.cons_append]
      exact ih.cons a
    | false =>
      cases hq : q a with
      | true =>
        simp only [List.filter_cons, hp, hq, Bool.false_or, if_true, Bool.false_eq_true, if_false]
        exact List.perm_middle.trans (ih.cons a)
      | false => simp only [List.filter_cons, hp, hq, Bool.or_self, Bool.false_eq_true, if_false]; exact ih
theorem ins_perm (L : List It) (i : It) : (insL L i).Perm (i :: delL L i.key) := by
  unfold insL delL
  refine List.perm_middle.trans (List.Perm.cons i ?_)
  refine (part_perm _ _ (fun a ha => ?_) L).trans ?_
  · simp only [decide_eq_true_eq] at ha
    simp only [decide_eq_false_iff_not]
    exact kl_asymm ha
  · have : (L.filter fun a => decide (kl a.key i.key) || decide (kl i.key a.key)) = L.filter fun j => decide (j.key ≠ i.key) := by
      apply List.filter_congr
      intro x _
      rw [Bool.eq_iff_iff]
      simp only [Bool.or_eq_true, decide_eq_true_eq]
      constructor
      · rintro (h | h)
        · exact kl_ne h
        · exact (kl_ne h).symm
      · exact kl_total
    rw [this]
theorem getL_mem {L : List It} {k : Ky} {x : It} (h : getL L k = some x) : x ∈ L ∧ x.key = k := by
  unfold getL at h
  exact ⟨List.mem_of_find?_eq_some h, by simpa using (by simpa using List.find?_some h : k = x.key).symm⟩
theorem getL_none {L : List It} {k : Ky} : getL L k = none ↔ ∀ x ∈ L, x.key ≠ k := by
  unfold getL
  rw [List.find?_eq_none]
  simp only [decide_eq_true_eq]
  exact ⟨fun h x hx e => h x hx e.symm, fun h x hx e => h x hx e.symm⟩
theorem getL_of {L : List It} (hn : (L.map It.key).Nodup) {x : It} (hx : x ∈ L) : getL L x.key = some x := by
  cases h : getL L x.key with
  | none => exact absurd rfl (getL_none.1 h x hx)
  | some y => obtain ⟨h1, h2⟩ := getL_mem h; rw [nodup_inj (f := It.key) hn h1 hx h2]
theorem getL_perm {l L : List It} (hp : l.Perm L) (hn : (L.map It.key).Nodup) (k : Ky) : getL l k = getL L k := by
  cases h : getL L k with
  | none => exact getL_none.2 fun x hx => getL_none.1 h x (hp.mem_iff.1 hx)
  | some y =>
    obtain ⟨h1, rfl⟩ := getL_mem h
    exact getL_of ((hp.map It.key).nodup_iff.2 hn) (hp.mem_iff.2 h1)
theorem del_none {L : List It} {k : Ky} (h : getL L k = none) : delL L k = L := by
  unfold delL
  rw [List.filter_eq_self]
  intro x hx
  simpa using getL_none.1 h x hx
/-- A replaced one. -/
theorem repl_perm {i : It} : ∀ {l : List It}, (l.map It.key).Nodup → (∃ x ∈ l, x.key = i.key) → (l.map fun j => if j.key = i.key then i else j).Perm (i :: delL l i.key)
  | [], _, ⟨x, hx, _⟩ => by cases hx
  | y :: l, hn, ⟨x, hx, e⟩ => by
    simp only [List.map_cons, List.nodup_cons] at hn
    by_cases hy : y.key = i.key
    · have hno : ∀ z ∈ l, z.key ≠ i.key := fun z hz e => hn.1 (by rw [hy, ← e]; exact List.mem_map_of_mem hz)
      have h1 : (l.map fun j => if j.key = i.key then i else j) = l := by
        rw [List.map_congr_left (g := id) fun z hz => by simp [hno z hz], List.map_id]
      have h2 : delL (y :: l) i.key = l := by
        unfold delL
        simp only [List.filter_cons, hy, ne_eq, not_true, decide_false, Bool.false_eq_true, if_false]
        rw [List.filter_eq_self]
        intro z hz; simpa using hno z hz
      rw [List.map_cons, if_pos hy, h1, h2]
    · have hx' : ∃ x ∈ l, x.key = i.key := by
        rcases List.mem_cons.1 hx with rfl | hx
        · exact absurd e hy
        · exact ⟨x, hx, e⟩
      have ih := repl_perm hn.2 hx'
      have h2 : delL (y :: l) i.key = y :: delL l i.key := by
        unfold delL
        simp [List.filter_cons, hy]
      rw [List.map_cons, if_neg hy, h2]
      exact (ih.cons y).trans (List.Perm.swap i y _)

/-! ### what calls leave, and say -/
def putE (L : List It) (room : Int) (i : It) : Int := if getL L i.key = none ∧ room ≤ L.length then 2 else 0
def putL (L : List It) (room : Int) (i : It) : List It := if getL L i.key = none ∧ room ≤ L.length then L else insL L i
def appE (L : List It) (room : Int) (n : Nt) : Int :=
  if n.right = false then 1
  else if n.k = 1 then (if (getL L n.p.key).isSome then 0 else putE L room ⟨n.p, 1⟩)
  else if n.k = 2 then (if (getL L n.p.key).isSome then 0 else putE L room ⟨n.p, 2⟩)
  else 0
def appL (L : List It) (room : Int) (n : Nt) : List It :=
  if n.right = false then L
  else if n.k = 1 then (if (getL L n.p.key).isSome then L else putL L room ⟨n.p, 1⟩)
  else if n.k = 2 then (match getL L n.p.key with
    | some x => insL L ⟨x.p, 2⟩
    | none => putL L room ⟨n.p, 2⟩)
  else delL L n.p.key
def dropE (L : List It) (k : Ky) : Int := if (getL L k).isSome then 0 else 3
def actE (L : List It) (room : Int) (a : Ac) : Int := if a.dr then dropE L a.n.p.key else appE L room a.n
def actL (L : List It) (room : Int) (a : Ac) : List It := if a.dr then delL L a.n.p.key else appL L room a.n
def fitL (room : Int) : List It → List Nt → Nat
  | _, [] => 0
  | L, n :: ns => if appE L room n = 0 then fitL room (appL L room n) ns + 1 else 0
theorem Srt.put {L : List It} (h : Srt L) (room : Int) (i : It) : Srt (putL L room i) := by
  unfold putL; split
  · exact h
  · exact h.ins i
theorem Srt.app {L : List It} (h : Srt L) (room : Int) (n : Nt) : Srt (appL L room n) := by
  unfold appL
  split
  · exact h
  · split
    · split
      · exact h
      · exact h.put room _
    · split
      · split
        · exact h.ins _
        · exact h.put room _
      · exact h.del _
theorem Srt.act {L : List It} (h : Srt L) (room : Int) (a : Ac) : Srt (actL L room a) := by
  unfold actL; split
  · exact h.del _
  · exact h.app room _
theorem ins_length_of {L : List It} (hs : Srt L) (i : It) : (insL L i).length = if (getL L i.key).isSome then L.length else L.length + 1 := by
  rw [(ins_perm L i).length_eq, List.length_cons]
  cases h : getL L i.key with
  | none => rw [del_none h]; rfl
  | some x =>
    obtain ⟨h1, h2⟩ := getL_mem h
    have := (repl_perm (i := i) hs.nodup ⟨x, h1, h2⟩).length_eq
    rw [List.length_map, List.length_cons] at this
    simp only [Option.isSome_some, if_true]; omega
theorem put_len {L : List It} (hs : Srt L) {room : Int} (h0 : L.length ≤ room) (i : It) : (putL L room i).length ≤ room := by
  unfold putL
  split
  · exact h0
  · rename_i hn
    rw [ins_length_of hs]
    split
    · exact h0
    · rename_i hx
      have : getL L i.key = none := by cases h : getL L i.key with
        | none => rfl
        | some x => rw [h] at hx; simp at hx
      have : ¬ room ≤ L.length := fun h => hn ⟨this, h⟩
      omega
theorem del_len (L : List It) (k : Ky) : (delL L k).length ≤ L.length := List.length_filter_le _ _
theorem app_len {L : List It} (hs : Srt L) {room : Int} (h0 : L.length ≤ room) (n : Nt) : (appL L room n).length ≤ room := by
  unfold appL
  split
  · exact h0
  · split
    · split
      · exact h0
      · exact put_len hs h0 _
    · split
      · split
        · rename_i x hx
          rw [ins_length_of hs]
          obtain ⟨h1, h2⟩ := getL_mem hx
          have : getL L (⟨x.p, 2⟩ : It).key = some x := by show getL L x.key = some x; rw [h2]; exact hx
          rw [this]; simpa using h0
        · exact put_len hs h0 _
      · have := del_len L n.p.key; omega
theorem act_len {L : List It} (hs : Srt L) {room : Int} (h0 : L.length ≤ room) (a : Ac) : (actL L room a).length ≤ room := by
  unfold actL
  split
  · have := del_len L a.n.p.key; omega
  · exact app_len hs h0 _
end Go.Proofs.Ytdgcpeinkjnncaa
