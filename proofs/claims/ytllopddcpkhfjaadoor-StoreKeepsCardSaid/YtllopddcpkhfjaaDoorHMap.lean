/- maps: what looking up and setting do, on a part of memory. -/
import Derived.Test.YtllopddcpkhfjaaDoorHEq
import Derived.Test.YtllopddcpkhfjaaDoorHMore
set_option linter.unusedSectionVars false
set_option linter.unusedSimpArgs false
set_option linter.unusedVariables false
namespace Go.Proofs.YtllopddcpkhfjaaDoor
open Go

/-- A map's key type whose values are told by 'enc'. -/
structure Keyed (P : Program) (t : TypeId) {α : Type} [DecidableEq α] (enc : α → Value) : Prop where
  chk : ∀ (h : PH) (b : Bool) (a : α), SemE P h (Instr.checkKey b 10000 t (enc a)) = some ()
  eq : ∀ (h : PH) (a b : α), SemE P h (Op.equal t (enc a) (enc b)) = some (decide (a = b))
  bits : ∀ a, Instr.sameBits 10000 (enc a) (enc a) = true
  now : ∃ kind, P.underlying t = some kind ∧ ((∀ a b, Instr.sameNow kind (enc a) (enc b) = none) ∨ ∀ a b, Instr.sameNow kind (enc a) (enc b) = some (decide (a = b)))

section
variable {P : Program} {h : PH} {t kt et : TypeId} {α : Type} [DecidableEq α] {enc : α → Value}
def ents (enc : α → Value) (l : List (α × Value × Nat)) : List MapEntry := l.map fun p => ⟨enc p.1, p.2.1, p.2.2⟩
def findL (a : α) : List (α × Value × Nat) → Nat → Option (Nat × Value)
  | [], _ => none
  | p :: ps, i => if a = p.1 then some (i, p.2.1) else findL a ps (i + 1)
theorem findAsking_eq (K : Keyed P kt enc) (a : α) : ∀ (l : List (α × Value × Nat)) (i : Nat), SemE P h (Instr.findAsking kt (enc a) (ents enc l) i) = some (findL a l i)
  | [], i => rfl
  | p :: ps, i => by
    show SemE P h (Op.equal kt (enc a) (enc p.1) >>= _) = _
    rw [semE_bind, K.eq h a p.1]
    simp only [Option.bind_some, findL]
    by_cases e : a = p.1
    · simp [e, SemE, pure]
    · simp only [e, decide_false, Bool.false_eq_true, if_false]
      exact findAsking_eq K a ps (i + 1)
theorem findNow_eq {kind : TypeDesc} (hk : ∀ a b : α, Instr.sameNow kind (enc a) (enc b) = some (decide (a = b))) (a : α) : ∀ (l : List (α × Value × Nat)) (i : Nat), Instr.findNow kind (enc a) (ents enc l) i = some (findL a l i)
  | [], i => rfl
  | p :: ps, i => by
    show (match Instr.sameNow kind (enc a) (enc p.1) with | some true => _ | some false => _ | none => _) = _
    rw [hk]
    by_cases e : a = p.1
    · simp [e, findL]
    · simp only [e, decide_false, findL, if_false]
      exact findNow_eq hk a ps (i + 1)
theorem findNow_none {kind : TypeDesc} (hk : ∀ a b : α, Instr.sameNow kind (enc a) (enc b) = none) (a : α) : ∀ (l : List (α × Value × Nat)) (i : Nat), Instr.findNow kind (enc a) (ents enc l) i = none ∨ (l = [] ∧ Instr.findNow kind (enc a) (ents enc l) i = some none)
  | [], i => .inr ⟨rfl, rfl⟩
  | p :: ps, i => .inl (by
    show (match Instr.sameNow kind (enc a) (enc p.1) with | some true => _ | some false => _ | none => _) = _
    rw [hk])
theorem findKey_eq (K : Keyed P kt enc) (a : α) (l : List (α × Value × Nat)) : SemE P h (Instr.findKey kt (enc a) (ents enc l)) = some (findL a l 0) := by
  obtain ⟨kind, hu, hk⟩ := K.now
  show SemE P h (underlying kt >>= _) = _
  rw [semE_und hu]
  rcases hk with hk | hk
  · rcases findNow_none hk a l 0 with e | ⟨rfl, e⟩
    · rw [e]; exact findAsking_eq K a l 0
    · rw [e]; rfl
  · rw [findNow_eq hk]; rfl

def getM (l : List (α × Value)) (a : α) : Option Value := (l.find? fun p => decide (a = p.1)).map (·.2)
def keysM (l : List (α × Value)) : List α := l.map (·.1)
def putM (l : List (α × Value)) (a : α) (v : Value) : List (α × Value) := if a ∈ keysM l then l.map (fun p => if p.1 = a then (a, v) else p) else l ++ [(a, v)]
structure MapAt (enc : α → Value) (h : PH) (r : Nat) (l : List (α × Value)) : Prop where
  nodup : (keysM l).Nodup
  here : ∃ es c L, h r = some (.map es c) ∧ es.toList = ents enc L ∧ l = L.map (fun p => (p.1, p.2.1)) ∧ (L.map (·.2.2)).Nodup ∧ ∀ p ∈ L, p.2.2 < c
theorem MapAt.upd {h h' : PH} {r : Nat} {l : List (α × Value)} {G : List Nat} (H : MapAt enc h r l) (u : Upd G h h') (hd : r ∉ G) : MapAt enc h' r l := by
  obtain ⟨es, c, L, h1, h2, h3⟩ := H.here
  exact ⟨H.nodup, es, c, L, u.get h1 hd, h2, h3⟩
theorem MapAt.ext {h h' : PH} {r : Nat} {l : List (α × Value)} (H : MapAt enc h r l) (u : Ext h h') : MapAt enc h' r l := H.upd u (by simp)
theorem MapAt.known {h : PH} {r : Nat} {l : List (α × Value)} (H : MapAt enc h r l) : h r ≠ none := by
  obtain ⟨es, c, L, h1, _⟩ := H.here; rw [h1]; simp
theorem findL_get (a : α) : ∀ (L : List (α × Value × Nat)) (i : Nat), (findL a L i).map (·.2) = getM (L.map fun p => (p.1, p.2.1)) a
  | [], _ => rfl
  | p :: ps, i => by
    simp only [findL, getM, List.map_cons, List.find?_cons]
    by_cases e : a = p.1
    · simp [e]
    · simp only [e, if_false, decide_false]
      exact findL_get a ps (i + 1)
theorem findL_at (a : α) : ∀ (L : List (α × Value × Nat)) (i : Nat), (∃ q v, findL a L i = some (i + q, v) ∧ (L.map (·.1))[q]? = some a ∧ a ∈ L.map (·.1)) ∨ (findL a L i = none ∧ a ∉ L.map (·.1))
  | [], _ => .inr ⟨rfl, by simp⟩
  | p :: ps, i => by
    by_cases e : a = p.1
    · exact .inl ⟨0, p.2.1, by simp [findL, e], by simp [e], by simp [e]⟩
    · rcases findL_at a ps (i + 1) with ⟨q, v, h1, h2, h3⟩ | ⟨h1, h2⟩
      · exact .inl ⟨q + 1, v, by simp only [findL, e, if_false, h1]; congr 2; omega, by simpa using h2, by simp at h3; simp [h3]⟩
      · exact .inr ⟨by simp [findL, e, h1], by simp only [List.map_cons, List.mem_cons, e, false_or]; exact h2⟩
theorem semE_zero {i : TypeInfo} {z : Value} (hi : P.info? et = some i) (hz : i.zero = some z) : SemE P h (zeroValue et) = some z := by
  show SemE P h (typeInfo et >>= _) = _
  rw [semE_info hi]
  simp only [hz]
  rfl
theorem semE_getMap {r : Nat} {es : Array MapEntry} {c : Nat} {β : Type} (hr : h r = some (.map es c)) (f : Obj → Sem β) : SemE P h (getObj r >>= f) = SemE P h (f (.map es c)) := by
  rw [semE_bind]
  have : SemE P h (getObj r) = some (.map es c) := by
    unfold getObj
    simp only [SemE, hr]
  rw [this]; rfl
theorem look_found {r : Nat} {l : List (α × Value)} (K : Keyed P kt enc) (hu : P.underlying t = some (.map kt et)) {i : TypeInfo} {z : Value} (hi : P.info? et = some i) (hz : i.zero = some z) (H : MapAt enc h r l) (a : α) (ok : Bool) :
    SemE P h (Instr.lookup t (.map (some r)) (enc a) ok) = some (if ok then .tuple #[(getM l a).getD z, .bool (getM l a).isSome] else (getM l a).getD z) := by
  obtain ⟨es, c, L, h1, h2, rfl, hb1, hb2⟩ := H.here
  show SemE P h (underlying t >>= _) = _
  rw [semE_und hu]
  show SemE P h (((getObj r) >>= _) >>= _) = _
  rw [semE_bind, semE_getMap h1]
  show SemE P h (Instr.checkKey es.isEmpty 10000 kt (enc a) >>= _) = _
  rw [semE_bind, K.chk h _ a]
  simp only [Option.bind_some]
  rw [h2]
  rw [semE_bind, findKey_eq K]
  simp only [Option.bind_some]
  have hg := findL_get a L 0
  cases e : findL a L 0 with
  | none =>
    rw [e] at hg
    rw [← hg]
    simp only [semE_bind, semE_zero hi hz]
    cases ok <;> rfl
  | some q =>
    rw [e] at hg
    rw [← hg]
    cases ok <;> rfl

/-! ### setting -/
theorem semH_getMap {r : Nat} {es : Array MapEntry} {c : Nat} {β : Type} {Q : β → PH → Prop} (hr : h r = some (.map es c)) {f : Obj → Sem β} (hq : SemH P (f (.map es c)) h Q) : SemH P (getObj r >>= f) h Q := by
  refine semH_of_semE (a := .map es c) ?_ hq
  unfold getObj
  simp only [SemE, hr]
theorem mem_keys {L : List (α × Value × Nat)} : keysM (L.map fun p => (p.1, p.2.1)) = L.map (·.1) := by simp [keysM]
theorem map_put {r : Nat} {l : List (α × Value)} (K : Keyed P kt enc) (hu : P.underlying t = some (.map kt et)) (H : MapAt enc h r l) (a : α) (v : Value) {k : Value → PH → Prop}
    (hk : ∀ h', MapAt enc h' r (putM l a v) → Upd [r] h h' → k undef h') : SemH P (mapUpdS t (.map (some r)) (enc a) v) h k := by
  obtain ⟨es, c, L, h1, h2, rfl, hb1, hb2⟩ := H.here
  have hnd := H.nodup
  rw [mem_keys] at hnd
  show SemH P (Instr.mapUpdate t (.map (some r)) (enc a) v >>= fun _ => pure undef) h k
  refine SemH.bind (P := P) (s := Instr.mapUpdate t (.map (some r)) (enc a) v) ?_
  show SemH P (underlying t >>= _) h _
  rw [semH_und hu]
  refine semH_getMap h1 ?_
  refine semH_of_semE (K.chk h false a) ?_
  rw [h2]
  refine semH_of_semE (findKey_eq K a L) ?_
  rcases findL_at a L 0 with ⟨q, w, e1, e2, e3⟩ | ⟨e1, e2⟩
  · rw [e1, Nat.zero_add]
    have hq : es[q]? = some ⟨enc a, (L[q]?.map (·.2.1)).getD v, (L[q]?.map (·.2.2)).getD 0⟩ := by
      rw [← Array.getElem?_toList, h2]
      rw [List.getElem?_map] at e2
      obtain ⟨p, hp, rfl⟩ := Option.map_eq_some_iff.1 e2
      simp [ents, List.getElem?_map, hp]
    show SemH P (Instr.keyThatStays (((es[q]?).map (·.key)).getD (enc a)) (enc a) >>= _) h _
    rw [hq]
    unfold Instr.keyThatStays
    simp only [Option.map_some, Option.getD_some, K.bits, if_true]
    show (∃ u, h r = some u ∧ (∀ c e f, u ≠ .cells c e f)) ∧ _
    refine ⟨⟨_, h1, by intros; simp⟩, ?_⟩
    show k undef _
    have hbm : (L.map (fun p => if p.1 = a then (a, v, p.2.2) else p)).map (·.2.2) = L.map (·.2.2) := by
      rw [List.map_map]; apply List.map_congr_left; intro p _; simp only [Function.comp]; split <;> rfl
    refine hk _ ⟨?_, _, c, L.map (fun p => if p.1 = a then (a, v, p.2.2) else p), set_same, ?_, ?_, by rw [hbm]; exact hb1, fun p hp => ?_⟩ (Upd.set (by simp))
    · have : keysM (putM (L.map fun p => (p.1, p.2.1)) a v) = L.map (·.1) := by
        unfold putM
        rw [mem_keys, if_pos e3]
        simp only [keysM, List.map_map]
        apply List.map_congr_left
        intro p _
        simp only [Function.comp]
        split
        · rename_i h; exact h.symm
        · rfl
      rw [this]; exact hnd
    · rw [Array.toList_modify, h2]
      apply List.ext_getElem?
      intro j
      rw [List.getElem?_modify]
      simp only [ents, List.getElem?_map]
      rw [List.getElem?_map] at e2
      obtain ⟨p0, hp0, hp1⟩ := Option.map_eq_some_iff.1 e2
      cases hj : L[j]? with
      | none => simp
      | some p =>
        by_cases hjq : q = j
        · subst hjq
          rw [hp0] at hj; cases hj
          simp [hp1]
        · have hne : p.1 ≠ a := by
            intro hpa
            have h3 : (L.map (·.1))[j]? = (L.map (·.1))[q]? := by rw [List.getElem?_map, List.getElem?_map, hj, hp0, Option.map_some, Option.map_some, hpa, hp1]
            have hjl : j < (L.map (·.1)).length := by rw [List.length_map]; exact (List.getElem?_eq_some_iff.1 hj).1
            exact hjq ((List.getElem?_inj hjl hnd).1 h3).symm
          simp [hjq, hne]
    · unfold putM
      rw [mem_keys, if_pos e3]
      simp only [List.map_map]
      apply List.map_congr_left
      intro p _
      simp only [Function.comp]
      split <;> rfl
    · obtain ⟨q, hq, rfl⟩ := List.mem_map.1 hp
      have := hb2 q hq
      split <;> exact this
  · rw [e1]
    show (∃ u, h r = some u ∧ (∀ c e f, u ≠ .cells c e f)) ∧ _
    refine ⟨⟨_, h1, by intros; simp⟩, ?_⟩
    show k undef _
    refine hk _ ⟨?_, _, c + 1, L ++ [(a, v, c)], set_same, ?_, ?_, ?_, ?_⟩ (Upd.set (by simp))
    · unfold putM
      rw [mem_keys, if_neg e2]
      have : keysM (L.map (fun p => (p.1, p.2.1)) ++ [(a, v)]) = L.map (·.1) ++ [a] := by simp [keysM]
      rw [this, List.nodup_append]
      refine ⟨hnd, by simp, ?_⟩
      intro x hx y hy
      simp only [List.mem_singleton] at hy
      subst hy
      rintro rfl
      exact e2 hx
    · rw [Array.toList_push, h2]
      simp [ents]
    · unfold putM
      rw [mem_keys, if_neg e2]
      simp
    · rw [List.map_append, List.nodup_append]
      refine ⟨hb1, by simp, ?_⟩
      intro x hx y hy
      simp only [List.map_cons, List.map_nil, List.mem_singleton] at hy
      subst hy
      obtain ⟨p, hp, rfl⟩ := List.mem_map.1 hx
      have := hb2 p hp
      omega
    · intro p hp
      rcases List.mem_append.1 hp with hp | hp
      · have := hb2 p hp; omega
      · simp only [List.mem_singleton] at hp; subst hp; simp
theorem getM_put (l : List (α × Value)) (a b : α) (v : Value) : getM (putM l a v) b = if b = a then some v else getM l b := by
  unfold putM
  split
  · rename_i hm
    induction l with
    | nil => simp [keysM] at hm
    | cons p ps ih =>
      simp only [getM, List.map_cons, List.find?_cons]
      by_cases hb : b = a
      · subst hb
        by_cases hp : p.1 = b
        · simp [hp]
        · have hm' : b ∈ keysM ps := by
            simp only [keysM, List.map_cons, List.mem_cons] at hm
            rcases hm with h | h
            · exact absurd h.symm hp
            · exact h
          have := ih hm'
          simp only [getM] at this
          simp only [hp, if_false, show (b = p.1) = False from eq_false (fun h => hp h.symm), decide_false]
          exact this
      · by_cases hp : p.1 = a
        · simp only [hp, if_true, hb, decide_false, if_false]
          by_cases hm' : a ∈ keysM ps
          · have := ih hm'
            simp only [getM, hb, if_false] at this
            exact this
          · have : ps.map (fun p => if p.1 = a then (a, v) else p) = ps := by
              refine (List.map_congr_left (g := id) ?_).trans (List.map_id ps)
              intro x hx
              exact if_neg (by rintro rfl; exact hm' (List.mem_map_of_mem hx))
            rw [this]
        · simp only [hp, if_false]
          by_cases hbp : b = p.1
          · simp [hbp, hp]
          · simp only [hbp, decide_false, hb, if_false]
            by_cases hm' : a ∈ keysM ps
            · have := ih hm'
              simp only [getM, hb, if_false] at this
              exact this
            · have : ps.map (fun p => if p.1 = a then (a, v) else p) = ps := by
                refine (List.map_congr_left (g := id) ?_).trans (List.map_id ps)
                intro x hx
                exact if_neg (by rintro rfl; exact hm' (List.mem_map_of_mem hx))
              rw [this]
  · rename_i hm
    simp only [getM, List.find?_append]
    by_cases hb : b = a
    · subst hb
      have : l.find? (fun p => decide (b = p.1)) = none := by
        rw [List.find?_eq_none]
        intro p hp
        simp only [decide_eq_true_eq]
        rintro rfl
        exact hm (List.mem_map_of_mem hp)
      simp [this]
    · simp [hb]
theorem makeMap_eq : SemA P (Instr.makeMap t none) = some (.map #[] 0, fun r => pure (.map (some r))) := rfl
theorem MapAt.new {r : Nat} : MapAt enc (h.set r (.map #[] 0)) r [] := ⟨by simp [keysM], #[], 0, [], set_same, rfl, rfl, by simp, by simp⟩
end
end Go.Proofs.YtllopddcpkhfjaaDoor
