/- The texts of this claim, put together. -/
import Derived.Test.YtllopddcpkhfjaaGreatDoorStoPRC0
import Derived.Laws.Strings
import Derived.Test.YtllopddcpkhfjaaGreatDoorChecked
import Derived.KernelRfl
/- maps: what looking up and setting do, on a part of memory. -/
set_option linter.unusedSectionVars false
set_option linter.unusedSimpArgs false
set_option linter.unusedVariables false
namespace Go.Proofs.YtllopddcpkhfjaaGreatDoor
open Go

/-- A map's key type whose values are told by 'enc'. -/
structure Keyed (P : Program) (t : TypeId) {α : Type} [DecidableEq α] (enc : α → Value) : Prop where
  chk : ∀ (h : PH) (b : Bool) (a : α), SemE P h (Instr.checkKey b 10000 t (enc a)) = some ()
  eq : ∀ (h : PH) (a b : α), SemE P h (Op.equal t (enc a) (enc b)) = some (decide (a = b))
  bits : ∀ a, Instr.sameBits 10000 (enc a) (enc a) = true
  now : ∃ kind, P.underlying t = some kind ∧ ((∀ a b, Instr.sameNow kind (enc a) (enc b) = none) ∨ ∀ a b, Instr.sameNow kind (enc a) (enc b) = some (decide (a = b)))

section
variable {P : Program} {h : PH} {t kt et : TypeId} {α : Type} [DecidableEq α] {enc : α → Value}
def ents (enc : α → Value) (l : List (α × Value × Nat)) : List MapEntry := l.map fun p => ⟨enc p.1, p.2.1, p.2.2⟩
def findL (a : α) : List (α × Value × Nat) → Nat → Option (Nat × Value)
  | [], _ => none
  | p :: ps, i => if a = p.1 then some (i, p.2.1) else findL a ps (i + 1)
theorem findAsking_eq (K : Keyed P kt enc) (a : α) : ∀ (l : List (α × Value × Nat)) (i : Nat), SemE P h (Instr.findAsking kt (enc a) (ents enc l) i) = some (findL a l i)
  | [], i => rfl
  | p :: ps, i => by
    show SemE P h (Op.equal kt (enc a) (enc p.1) >>= _) = _
    rw [semE_bind, K.eq h a p.1]
    simp only [Option.bind_some, findL]
    by_cases e : a = p.1
    · simp [e, SemE, pure]
    · simp only [e, decide_false, Bool.false_eq_true, if_false]
      exact findAsking_eq K a ps (i + 1)
theorem findNow_eq {kind : TypeDesc} (hk : ∀ a b : α, Instr.sameNow kind (enc a) (enc b) = some (decide (a = b))) (a : α) : ∀ (l : List (α × Value × Nat)) (i : Nat), Instr.findNow kind (enc a) (ents enc l) i = some (findL a l i)
  | [], i => rfl
  | p :: ps, i => by
    show (match Instr.sameNow kind (enc a) (enc p.1) with | some true => _ | some false => _ | none => _) = _
    rw [hk]
    by_cases e : a = p.1
    · simp [e, findL]
    · simp only [e, decide_false, findL, if_false]
      exact findNow_eq hk a ps (i + 1)
theorem findNow_none {kind : TypeDesc} (hk : ∀ a b : α, Instr.sameNow kind (enc a) (enc b) = none) (a : α) : ∀ (l : List (α × Value × Nat)) (i : Nat), Instr.findNow kind (enc a) (ents enc l) i = none ∨ (l = [] ∧ Instr.findNow kind (enc a) (ents enc l) i = some none)
  | [], i => .inr ⟨rfl, rfl⟩
  | p :: ps, i => .inl (by
    show (match Instr.sameNow kind (enc a) (enc p.1) with | some true => _ | some false => _ | none => _) = _
    rw [hk])
theorem findKey_eq (K : Keyed P kt enc) (a : α) (l : List (α × Value × Nat)) : SemE P h (Instr.findKey kt (enc a) (ents enc l)) = some (findL a l 0) := by
  obtain ⟨kind, hu, hk⟩ := K.now
  show SemE P h (underlying kt >>= _) = _
  rw [semE_und hu]
  rcases hk with hk | hk
  · rcases findNow_none hk a l 0 with e | ⟨rfl, e⟩
    · rw [e]; exact findAsking_eq K a l 0
    · rw [e]; rfl
  · rw [findNow_eq hk]; rfl

def getM (l : List (α × Value)) (a : α) : Option Value := (l.find? fun p => decide (a = p.1)).map (·.2)
def keysM (l : List (α × Value)) : List α := l.map (·.1)
def putM (l : List (α × Value)) (a : α) (v : Value) : List (α × Value) := if a ∈ keysM l then l.map (fun p => if p.1 = a then (a, v) else p) else l ++ [(a, v)]
structure MapAt (enc : α → Value) (h : PH) (r : Nat) (l : List (α × Value)) : Prop where
  nodup : (keysM l).Nodup
  here : ∃ es c L, h r = some (.map es c) ∧ es.toList = ents enc L ∧ l = L.map (fun p => (p.1, p.2.1)) ∧ (L.map (·.2.2)).Nodup ∧ ∀ p ∈ L, p.2.2 < c
theorem MapAt.upd {h h' : PH} {r : Nat} {l : List (α × Value)} {G : List Nat} (H : MapAt enc h r l) (u : Upd G h h') (hd : r ∉ G) : MapAt enc h' r l := by
  obtain ⟨es, c, L, h1, h2, h3⟩ := H.here
  exact ⟨H.nodup, es, c, L, u.get h1 hd, h2, h3⟩
theorem MapAt.ext {h h' : PH} {r : Nat} {l : List (α × Value)} (H : MapAt enc h r l) (u : Ext h h') : MapAt enc h' r l := H.upd u (by simp)
theorem MapAt.known {h : PH} {r : Nat} {l : List (α × Value)} (H : MapAt enc h r l) : h r ≠ none := by
  obtain ⟨es, c, L, h1, _⟩ := H.here; rw [h1]; simp
theorem findL_get (a : α) : ∀ (L : List (α × Value × Nat)) (i : Nat), (findL a L i).map (·.2) = getM (L.map fun p => (p.1, p.2.1)) a
  | [], _ => rfl
  | p :: ps, i => by
    simp only [findL, getM, List.map_cons, List.find?_cons]
    by_cases e : a = p.1
    · simp [e]
    · simp only [e, if_false, decide_false]
      exact findL_get a ps (i + 1)
theorem findL_at (a : α) : ∀ (L : List (α × Value × Nat)) (i : Nat), (∃ q v, findL a L i = some (i + q, v) ∧ (L.map (·.1))[q]? = some a ∧ a ∈ L.map (·.1)) ∨ (findL a L i = none ∧ a ∉ L.map (·.1))
  | [], _ => .inr ⟨rfl, by simp⟩
  | p :: ps, i => by
    by_cases e : a = p.1
    · exact .inl ⟨0, p.2.1, by simp [findL, e], by simp [e], by simp [e]⟩
    · rcases findL_at a ps (i + 1) with ⟨q, v, h1, h2, h3⟩ | ⟨h1, h2⟩
      · exact .inl ⟨q + 1, v, by simp only [findL, e, if_false, h1]; congr 2; omega, by simpa using h2, by simp at h3; simp [h3]⟩
      · exact .inr ⟨by simp [findL, e, h1], by simp only [List.map_cons, List.mem_cons, e, false_or]; exact h2⟩
theorem semE_zero {i : TypeInfo} {z : Value} (hi : P.info? et = some i) (hz : i.zero = some z) : SemE P h (zeroValue et) = some z := by
  show SemE P h (typeInfo et >>= _) = _
  rw [semE_info hi]
  simp only [hz]
  rfl
theorem semE_getMap {r : Nat} {es : Array MapEntry} {c : Nat} {β : Type} (hr : h r = some (.map es c)) (f : Obj → Sem β) : SemE P h (getObj r >>= f) = SemE P h (f (.map es c)) := by
  rw [semE_bind]
  have : SemE P h (getObj r) = some (.map es c) := by
    unfold getObj
    simp only [SemE, hr]
  rw [this]; rfl
theorem look_found {r : Nat} {l : List (α × Value)} (K : Keyed P kt enc) (hu : P.underlying t = some (.map kt et)) {i : TypeInfo} {z : Value} (hi : P.info? et = some i) (hz : i.zero = some z) (H : MapAt enc h r l) (a : α) (ok : Bool) :
    SemE P h (Instr.lookup t (.map (some r)) (enc a) ok) = some (if ok then .tuple #[(getM l a).getD z, .bool (getM l a).isSome] else (getM l a).getD z) := by
  obtain ⟨es, c, L, h1, h2, rfl, hb1, hb2⟩ := H.here
  show SemE P h (underlying t >>= _) = _
  rw [semE_und hu]
  show SemE P h (((getObj r) >>= _) >>= _) = _
  rw [semE_bind, semE_getMap h1]
  show SemE P h (Instr.checkKey es.isEmpty 10000 kt (enc a) >>= _) = _
  rw [semE_bind, K.chk h _ a]
  simp only [Option.bind_some]
  rw [h2]
  rw [semE_bind, findKey_eq K]
  simp only [Option.bind_some]
  have hg := findL_get a L 0
  cases e : findL a L 0 with
  | none =>
    rw [e] at hg
    rw [← hg]
    simp only [semE_bind, semE_zero hi hz]
    cases ok <;> rfl
  | some q =>
    rw [e] at hg
    rw [← hg]
    cases ok <;> rfl

/-! ### setting -/
theorem semH_getMap {r : Nat} {es : Array MapEntry} {c : Nat} {β : Type} {Q : β → PH → Prop} (hr : h r = some (.map es c)) {f : Obj → Sem β} (hq : SemH P (f (.map es c)) h Q) : SemH P (getObj r >>= f) h Q := by
  refine semH_of_semE (a := .map es c) ?_ hq
  unfold getObj
  simp only [SemE, hr]
theorem mem_keys {L : List (α × Value × Nat)} : keysM (L.map fun p => (p.1, p.2.1)) = L.map (·.1) := by simp [keysM]
theorem map_put {r : Nat} {l : List (α × Value)} (K : Keyed P kt enc) (hu : P.underlying t = some (.map kt et)) (H : MapAt enc h r l) (a : α) (v : Value) {k : Value → PH → Prop}
    (hk : ∀ h', MapAt enc h' r (putM l a v) → Upd [r] h h' → k undef h') : SemH P (mapUpdS t (.map (some r)) (enc a) v) h k := by
  obtain ⟨es, c, L, h1, h2, rfl, hb1, hb2⟩ := H.here
  have hnd := H.nodup
  rw [mem_keys] at hnd
  show SemH P (Instr.mapUpdate t (.map (some r)) (enc a) v >>= fun _ => pure undef) h k
  refine SemH.bind (P := P) (s := Instr.mapUpdate t (.map (some r)) (enc a) v) ?_
  show SemH P (underlying t >>= _) h _
  rw [semH_und hu]
  refine semH_getMap h1 ?_
  refine semH_of_semE (K.chk h false a) ?_
  rw [h2]
  refine semH_of_semE (findKey_eq K a L) ?_
  rcases findL_at a L 0 with ⟨q, w, e1, e2, e3⟩ | ⟨e1, e2⟩
  · rw [e1, Nat.zero_add]
    have hq : es[q]? = some ⟨enc a, (L[q]?.map (·.2.1)).getD v, (L[q]?.map (·.2.2)).getD 0⟩ := by
      rw [← Array.getElem?_toList, h2]
      rw [List.getElem?_map] at e2
      obtain ⟨p, hp, rfl⟩ := Option.map_eq_some_iff.1 e2
      simp [ents, List.getElem?_map, hp]
    show SemH P (Instr.keyThatStays (((es[q]?).map (·.key)).getD (enc a)) (enc a) >>= _) h _
    rw [hq]
    unfold Instr.keyThatStays
    simp only [Option.map_some, Option.getD_some, K.bits, if_true]
    show (∃ u, h r = some u ∧ (∀ c e f, u ≠ .cells c e f)) ∧ _
    refine ⟨⟨_, h1, by intros; simp⟩, ?_⟩
    show k undef _
    have hbm : (L.map (fun p => if p.1 = a then (a, v, p.2.2) else p)).map (·.2.2) = L.map (·.2.2) := by
      rw [List.map_map]; apply List.map_congr_left; intro p _; simp only [Function.comp]; split <;> rfl
    refine hk _ ⟨?_, _, c, L.map (fun p => if p.1 = a then (a, v, p.2.2) else p), set_same, ?_, ?_, by rw [hbm]; exact hb1, fun p hp => ?_⟩ (Upd.set (by simp))
    · have : keysM (putM (L.map fun p => (p.1, p.2.1)) a v) = L.map (·.1) := by
        unfold putM
        rw [mem_keys, if_pos e3]
        simp only [keysM, List.map_map]
        apply List.map_congr_left
        intro p _
        simp only [Function.comp]
        split
        · rename_i h; exact h.symm
        · rfl
      rw [this]; exact hnd
    · rw [Array.toList_modify, h2]
      apply List.ext_getElem?
      intro j
      rw [List.getElem?_modify]
      simp only [ents, List.getElem?_map]
      rw [List.getElem?_map] at e2
      obtain ⟨p0, hp0, hp1⟩ := Option.map_eq_some_iff.1 e2
      cases hj : L[j]? with
      | none => simp
      | some p =>
        by_cases hjq : q = j
        · subst hjq
          rw [hp0] at hj; cases hj
          simp [hp1]
        · have hne : p.1 ≠ a := by
            intro hpa
            have h3 : (L.map (·.1))[j]? = (L.map (·.1))[q]? := by rw [List.getElem?_map, List.getElem?_map, hj, hp0, Option.map_some, Option.map_some, hpa, hp1]
            have hjl : j < (L.map (·.1)).length := by rw [List.length_map]; exact (List.getElem?_eq_some_iff.1 hj).1
            exact hjq ((List.getElem?_inj hjl hnd).1 h3).symm
          simp [hjq, hne]
    · unfold putM
      rw [mem_keys, if_pos e3]
      simp only [List.map_map]
      apply List.map_congr_left
      intro p _
      simp only [Function.comp]
      split <;> rfl
    · obtain ⟨q, hq, rfl⟩ := List.mem_map.1 hp
      have := hb2 q hq
      split <;> exact this
  · rw [e1]
    show (∃ u, h r = some u ∧ (∀ c e f, u ≠ .cells c e f)) ∧ _
    refine ⟨⟨_, h1, by intros; simp⟩, ?_⟩
    show k undef _
    refine hk _ ⟨?_, _, c + 1, L ++ [(a, v, c)], set_same, ?_, ?_, ?_, ?_⟩ (Upd.set (by simp))
    · unfold putM
      rw [mem_keys, if_neg e2]
      have : keysM (L.map (fun p => (p.1, p.2.1)) ++ [(a, v)]) = L.map (·.1) ++ [a] := by simp [keysM]
      rw [this, List.nodup_append]
      refine ⟨hnd, by simp, ?_⟩
      intro x hx y hy
      simp only [List.mem_singleton] at hy
      subst hy
      rintro rfl
      exact e2 hx
    · rw [Array.toList_push, h2]
      simp [ents]
    · unfold putM
      rw [mem_keys, if_neg e2]
      simp
    · rw [List.map_append, List.nodup_append]
      refine ⟨hb1, by simp, ?_⟩
      intro x hx y hy
      simp only [List.map_cons, List.map_nil, List.mem_singleton] at hy
      subst hy
      obtain ⟨p, hp, rfl⟩ := List.mem_map.1 hx
      have := hb2 p hp
      omega
    · intro p hp
      rcases List.mem_append.1 hp with hp | hp
      · have := hb2 p hp; omega
      · simp only [List.mem_singleton] at hp; subst hp; simp
theorem getM_put (l : List (α × Value)) (a b : α) (v : Value) : getM (putM l a v) b = if b = a then some v else getM l b := by
  unfold putM
  split
  · rename_i hm
    induction l with
    | nil => simp [keysM] at hm
    | cons p ps ih =>
      simp only [getM, List.map_cons, List.find?_cons]
      by_cases hb : b = a
      · subst hb
        by_cases hp : p.1 = b
        · simp [hp]
        · have hm' : b ∈ keysM ps := by
            simp only [keysM, List.map_cons, List.mem_cons] at hm
            rcases hm with h | h
            · exact absurd h.symm hp
            · exact h
          have := ih hm'
          simp only [getM] at this
          simp only [hp, if_false, show (b = p.1) = False from eq_false (fun h => hp h.symm), decide_false]
          exact this
      · by_cases hp : p.1 = a
        · simp only [hp, if_true, hb, decide_false, if_false]
          by_cases hm' : a ∈ keysM ps
          · have := ih hm'
            simp only [getM, hb, if_false] at this
            exact this
          · have : ps.map (fun p => if p.1 = a then (a, v) else p) = ps := by
              refine (List.map_congr_left (g := id) ?_).trans (List.map_id ps)
              intro x hx
              exact if_neg (by rintro rfl; exact hm' (List.mem_map_of_mem hx))
            rw [this]
        · simp only [hp, if_false]
          by_cases hbp : b = p.1
          · simp [hbp, hp]
          · simp only [hbp, decide_false, hb, if_false]
            by_cases hm' : a ∈ keysM ps
            · have := ih hm'
              simp only [getM, hb, if_false] at this
              exact this
            · have : ps.map (fun p => if p.1 = a then (a, v) else p) = ps := by
                refine (List.map_congr_left (g := id) ?_).trans (List.map_id ps)
                intro x hx
                exact if_neg (by rintro rfl; exact hm' (List.mem_map_of_mem hx))
              rw [this]
  · rename_i hm
    simp only [getM, List.find?_append]
    by_cases hb : b = a
    · subst hb
      have : l.find? (fun p => decide (b = p.1)) = none := by
        rw [List.find?_eq_none]
        intro p hp
        simp only [decide_eq_true_eq]
        rintro rfl
        exact hm (List.mem_map_of_mem hp)
      simp [this]
    · simp [hb]
theorem makeMap_eq : SemA P (Instr.makeMap t none) = some (.map #[] 0, fun r => pure (.map (some r))) := rfl
theorem MapAt.new {r : Nat} : MapAt enc (h.set r (.map #[] 0)) r [] := ⟨by simp [keysM], #[], 0, [], set_same, rfl, rfl, by simp, by simp⟩
end
end Go.Proofs.YtllopddcpkhfjaaGreatDoor
/- A cut up to its own capacity, appended to: always a new block; a map's length; whole-number and text keys. -/
set_option linter.unusedSimpArgs false
set_option linter.unusedVariables false
namespace Go.Proofs.YtllopddcpkhfjaaGreatDoor
open Go
section
variable {P : Program} {h : PH} {t t' t2 e : TypeId}
/-- append(v[:n:n], x...) with something to append: v's block stays as it is. -/
theorem append_grow {size bytes n : Nat} {v x : Value} {rows ys : List (List Value)} {i : TypeInfo} {z : Value} {e2 : TypeId} {va : Option Addr} {k : Value → PH → Prop}
    (hu : P.underlying t = some (.slice e)) (hu2 : P.underlying t2 = some (.slice e2)) (hi : P.info? e = some i) (hn : i.size = size) (hby : i.bytes = bytes) (hz : i.zero = some z) (hzs : z.cells.size = size) (hb0 : 0 < bytes)
    (H : SlR h size v rows) (hv : v = .slice va n n) (S : SlR h size x ys) (hl : (rows.length + ys.length) * bytes ≤ 140737488355328) (hne : ys ≠ [])
    (hk : ∀ v' h' F', OwnR h' e size v' (rows ++ ys) F' → Ext h h' → (∀ b ∈ F', h b = none) → k v' h') : SemH P (Builtin.append_ #[t, t2] t' #[v, x]) h k := by
  have hbig : rows.length + ys.length ≤ 140737488355328 := Nat.le_trans (Nat.le_mul_of_pos_right _ hb0) hl
  obtain ⟨xa, xc, hx, hx1, hx2, hx3, hx4⟩ := S.here
  have hfirst := S.first (P := P)
  have hrows : Rows size (rows ++ ys) := H.ok.append S.ok
  have hpos : 0 < ys.length := List.length_pos_iff.2 hne
  have grown : ∀ (m : Nat), rows.length + ys.length ≤ m → m ≤ maxL → ∀ r, h r = none →
      k (.slice (some ⟨r, 0, none⟩) (rows.length + ys.length) m) (h.set r (.cells (rows.flatten.toArray ++ ys.flatten.toArray ++ Builtin.zeroCells z.cells (m - (rows.length + ys.length))) e (0, 0))) := by
    intro m hm hmax r hr
    refine hk _ _ [r] ⟨hrows, .inr ⟨r, m, _, by rw [List.length_append], rfl, set_same, by simpa using hm, hmax, ?_, ?_⟩⟩ (Upd.new hr) (fun b hb => by simp at hb; subst hb; exact hr)
    · simp only [Array.size_append, List.size_toArray, H.ok.flat, S.ok.flat, Builtin.zeroCells, Array.size_map, Array.size_range, hzs]
      rw [← Nat.add_mul, ← Nat.add_mul]; congr 1; omega
    · have hlen : (rows ++ ys).length * size = (rows.flatten ++ ys.flatten).length := by rw [List.length_append, List.length_append, H.ok.flat, S.ok.flat, Nat.add_mul]
      simp only [Array.toList_append, hlen, List.flatten_append]
      rw [List.take_append_of_le_length (Nat.le_refl _), List.take_length]
  obtain ⟨va', vc, hv', hv1, hv2, _, _⟩ := H.here
  have hvfirst := H.first (P := P)
  have hvc : vc = rows.length := by
    rw [hv] at hv'
    simp only [Value.slice.injEq] at hv'
    omega
  rw [hvc] at hv'
  subst hx; subst hv'
  simp only [Builtin.append_, List.getElem?_toArray, List.getElem?_cons_zero, List.getElem?_cons_succ, semH_und hu, semH_und hu2, sizeOf_bind, semH_info hi, pure_bind, Bool.false_eq_true, if_false, Builtin.lenOf, Bool.not_false, if_true, hn]
  have hfit : ¬ rows.length + ys.length ≤ rows.length := by omega
  rw [if_neg hfit]
  have hlt : rows.length < rows.length + ys.length := by omega
  have h63 : ¬ (((rows.length + ys.length : Nat) : Int) > IntKind.i64.max ∧ (False ∨ i.bytes = 0)) := by
    rintro ⟨_, hh⟩
    rcases hh with hh | hh
    · exact hh
    · omega
  have hfits : ¬ (Builtin.nextslicecap (rows.length + ys.length) rows.length * i.bytes > 2 ^ 48) := by
    rw [hby]
    have := growslice_fits hlt hl
    omega
  rw [semH_info hi, if_neg h63, semH_info hi, if_neg hfits, semH_choose]
  intro tt
  rw [semH_info hi, semH_askRoom]
  refine semH_of_semE hvfirst (semH_of_semE hfirst ?_)
  have hzv : zeroValue e = (typeInfo e >>= fun i => match i.zero with | some v => pure v | none => unsupported (.resourceLimit "a value of more than 2^22 cells")) := rfl
  rw [hzv, bind_assoc, semH_info hi, hz, pure_bind]
  have hcut : ∀ n m : Nat, n ≤ 140737488355328 → n ≤ (Question.appendCap n m e).cut tt ∧ (Question.appendCap n m e).cut tt ≤ maxL := by
    intro n m hn
    have hpos : 0 < 2 ^ 63 - n := by omega
    have := Nat.mod_lt tt hpos
    simp only [Question.cut, maxL]
    omega
  have hforced : (Question.appendCap (rows.length + ys.length) rows.length e).forced = false := rfl
  rw [hforced]
  obtain ⟨hc1, hc2⟩ := hcut (rows.length + ys.length) rows.length hbig
  intro r hr
  exact grown _ hc1 hc2 r hr

/-- v[:m:m]. -/
theorem SlR.full {size : Nat} {v : Value} {rows : List (List Value)} (H : SlR h size v rows) {i : TypeInfo} (hu : P.underlying t = some (.slice e)) (hi' : P.info? e = some i) {m : Nat} {k2 k3 : IntKind} (h2 : m ≤ rows.length) :
    ∃ va, SemP P (Instr.sliceAt t v none (some (.int k2 m)) (some (.int k3 m))) = some (.slice va m m) ∧ SlR h size (.slice va m m) (rows.take m) := by
  obtain ⟨a, c, rfl, hc1, hc2, hc3, hc4⟩ := H.here
  have hlen : (rows.take m).length = m := by simp; omega
  refine ⟨a, ?_, H.ok.take m, ⟨a, m, by rw [hlen], by omega, by omega, fun hne => ?_, trivial⟩⟩
  · show SemP P (underlying t >>= _) = _
    rw [semP_und hu]
    show SemP P (underlying t >>= _) = _
    rw [semP_und hu]
    have hb : Instr.sliceBounds true rows.length c none (some (.int k2 m)) (some (.int k3 m)) = pure (0, m, m) := by
      have hcast : ∀ n m : Nat, n ≤ m → (0 ≤ (n : Int) ∧ (n : Int) ≤ (m : Int)) := fun n m h => by omega
      simp [Instr.sliceBounds, Instr.sliceBound, asIntOf, hcast, show m ≤ c by omega]
    simp only [hb, pure_bind]
    rw [sizeOf_bind, semP_info hi']
    show some (Value.slice (if m = 0 then a else a.map (·.add (0 * i.size))) (m - 0) (m - 0)) = _
    have : a.map (·.add (0 * i.size)) = a := by
      cases a with
      | none => rfl
      | some x =>
        have : x.add (0 * i.size) = x := by
          obtain ⟨b, o, w⟩ := x
          cases w <;> simp [Addr.add]
        rw [Option.map_some, this]
    rw [this]
    simp
  · have hne' : rows ≠ [] := by rintro rfl; simp at hne
    obtain ⟨b, o, cs, e', fr, rfl, hb, hle, hex⟩ := hc3 hne'
    have hm1 : m * size ≤ rows.length * size := Nat.mul_le_mul_right _ h2
    refine ⟨b, o, cs, e', fr, rfl, hb, by rw [hlen]; omega, ?_⟩
    rw [hlen, H.ok.flat_take, ← hex]
    simp only [Array.toList_extract, List.extract_eq_take_drop]
    rw [List.take_take, Nat.min_eq_left (by omega)]
    congr 1
    omega
theorem MapAt.len {α : Type} [DecidableEq α] {enc : α → Value} {r : Nat} {l : List (α × Value)} (H : MapAt enc h r l) {k v : TypeId} (hu : P.underlying t = some (.map k v)) : SemE P h (Builtin.len_ #[t] t' #[.map (some r)]) = some (.int .i64 l.length) := by
  obtain ⟨es, c, L, h1, h2, rfl, _⟩ := H.here
  rw [len_map hu h1]
  have : es.size = L.length := by rw [← Array.length_toList, h2]; simp [ents]
  rw [this, List.length_map]

theorem beq_dec' {a b : Int} : (a == b) = decide (a = b) := by rw [Bool.eq_iff_iff]; simp
def ukey (x : Int) : Value := .int .u64 x
theorem ukeyed (hu : P.underlying t = some (.int .u64)) : Keyed P t ukey where
  chk := fun h b a => by
    unfold ukey
    rw [show (10000 : Nat) = 9999 + 1 from rfl]
    cases b <;> (rw [Instr.checkKey]; try rw [semE_und hu]) <;> rfl
  eq := fun h a b => by
    unfold ukey
    show SemE P h (Op.equalIn (9999 + 1) t _ _) = _
    rw [eqIn_int hu, beq_dec']
  bits := fun a => by unfold ukey; rw [show (10000 : Nat) = 9999 + 1 from rfl]; simp [Instr.sameBits]
  now := ⟨_, hu, .inr fun a b => by unfold ukey; simp [Instr.sameNow, beq_dec']⟩

end
end Go.Proofs.YtllopddcpkhfjaaGreatDoor
/- Bytes: a slice of them to a text. -/
set_option linter.unusedSimpArgs false
set_option linter.unusedVariables false
namespace Go.Proofs.YtllopddcpkhfjaaGreatDoor
open Go
section
variable {P : Program} {h : PH} {t t' t2 e : TypeId}
def bcell (b : UInt8) : List Value := [.int .u8 b.toNat]
theorem bcell.rows (l : List UInt8) : Rows 1 (l.map bcell) := fun r hr => by
  obtain ⟨m, _, rfl⟩ := List.mem_map.1 hr; rfl
theorem bcell.isCell (l : List UInt8) : ∀ r ∈ l.map bcell, ∀ u ∈ r, isCell u = true := fun r hr u hu => by
  obtain ⟨m, _, rfl⟩ := List.mem_map.1 hr
  simp only [bcell, List.mem_cons, List.not_mem_nil, or_false] at hu
  subst hu; rfl
theorem bcell.flat (l : List UInt8) : (l.map bcell).flatten = l.map fun b => Value.int .u8 b.toNat := by
  induction l with
  | nil => rfl
  | cons b bs ih => simp [bcell, ih]
theorem semE_pushes {body : Value → ByteArray → Sem (ForInStep ByteArray)} (hb : ∀ (b : UInt8) (s : ByteArray), body (.int .u8 b.toNat) s = pure (.yield (s.push b))) : ∀ (l : List UInt8) (s : ByteArray),
    SemE P h (forIn (l.map fun b => Value.int .u8 b.toNat) s body) = some ⟨s.data ++ l.toArray⟩
  | [], s => by simp [SemE, pure]
  | b :: bs, s => by
    rw [List.map_cons, List.forIn_cons, semE_bind, hb]
    show SemE P h (forIn (bs.map _) (s.push b) body) = _
    rw [semE_pushes hb bs (s.push b)]
    congr 1
    apply ByteArray.ext
    show (s.push b).data ++ bs.toArray = _
    rw [ByteArray.data_push]
    apply Array.ext'
    simp
theorem conv_bytes {x : Value} {l : List UInt8} (hu : P.underlying t = some (.slice e)) (he : P.underlying e = some (.int .u8)) (hs : P.underlying t2 = some .string) (S : SlR h 1 x (l.map bcell)) :
    SemE P h (convert t t2 x) = some (.string ⟨l.toArray⟩) := by
  have hf := S.first (P := P)
  obtain ⟨a, c, rfl, h1, h2, h3, h4⟩ := S.here
  show SemE P h (underlying t >>= _) = _
  rw [semE_und hu]
  show SemE P h (underlying t2 >>= _) = _
  rw [semE_und hs]
  show SemE P h (underlying e >>= _) = _
  rw [semE_und he]
  simp only [List.length_map, bcell.flat] at hf ⊢
  show SemE P h (Conv.bytesToString (.slice a l.length c)) = _
  unfold Conv.bytesToString
  cases a with
  | none =>
    have : l = [] := by
      by_cases h0 : l = []
      · exact h0
      · obtain ⟨b, o, cs, e, fr, hh, _⟩ := h3 (by simpa using h0); cases hh
    subst this
    rfl
  | some a =>
    have hf' : SemE P h (loadCells a l.length) = some (l.map fun b => Value.int .u8 b.toNat).toArray := by
      have : Builtin.firstCells 1 l.length (.slice (some a) l.length c) = loadCells a (l.length * 1) := rfl
      rw [this, Nat.mul_one] at hf
      exact hf
    show SemE P h (loadCells a l.length >>= _) = _
    rw [semE_bind, hf', Option.bind_some]
    rw [semE_bind, ← Array.forIn_toList, semE_pushes]
    · rw [Option.bind_some]
      show some (Value.string _) = _
      congr 2
      apply ByteArray.ext
      simp
    · intro b s
      simp
/-- An element's place; each of its cells; the whole. -/
theorem SlR.fields {size : Nat} {v : Value} {rows : List (List Value)} (H : SlR h size v rows) {i : TypeInfo} (hu : P.underlying t = some (.slice e)) (hi : P.info? e = some i) (hn : i.size = size) {k : IntKind} {j : Nat} {r : List Value} (hr : rows[j]? = some r) :
    ∃ b o, SemP P (Instr.indexAt t v (.int k j)) = some (.pointer (some ⟨b, o, none⟩)) ∧ (∀ q c, r[q]? = some c → cellH h ⟨b, o + q, none⟩ = some c) ∧ ∀ d, P.underlying e = some d → flatD d = false → SemE P h (Instr.loadAt e (.pointer (some ⟨b, o, none⟩))) = some (.agg r.toArray) := by
  obtain ⟨b, o, cs, e', fr, h1, hb, hle, hex⟩ := H.at hu hi hn (k := k) (j := (j : Int)) (by omega) hr
  refine ⟨b, o, h1, fun q c hq => ?_, fun d he hd => ?_⟩
  · have hql : q < size := by
      have := (List.getElem?_eq_some_iff.1 hq).1
      rwa [H.ok r (List.mem_of_getElem? hr)] at this
    unfold cellH
    simp only [hb]
    rw [← hex] at hq
    simp only [Array.toList_extract, List.extract_eq_take_drop, Nat.add_sub_cancel_left, List.getElem?_take, List.getElem?_drop, hql, if_true] at hq
    simpa using hq
  · rw [loadAt_agg he hd hi hn hb hle]
    congr 2
    exact Array.ext' hex
end
end Go.Proofs.YtllopddcpkhfjaaGreatDoor
/- Arrays: their elements' places, and arrays held against each other. -/
set_option linter.unusedSimpArgs false
set_option linter.unusedVariables false
namespace Go.Proofs.YtllopddcpkhfjaaGreatDoor
open Go
section
variable {P : Program} {h : PH} {t e : TypeId}
theorem semE_forInN {α β : Type} {fs : List α} {s0 s1 : β} {body : α → β → Sem (ForInStep β)} (g : α → Bool)
    (hb : ∀ f ∈ fs, SemE P h (body f s0) = some (if g f then .yield s0 else .done s1)) : SemE P h (forIn fs s0 body) = some (if fs.all g then s0 else s1) := by
  induction fs with
  | nil => rfl
  | cons f fs ih =>
    rw [List.forIn_cons, semE_bind, hb f (by simp)]
    cases hg : g f with
    | true => simp only [if_true, Option.bind_some, List.all_cons, hg, Bool.true_and]; exact ih fun x hx => hb x (by simp [hx])
    | false => simp [List.all_cons, hg, SemE, pure]
theorem eqIn_array {d n size : Nat} {xs ys : Array Value} {i : TypeInfo} (hu : P.underlying t = some (.array n e)) (hi : P.info? e = some i) (hn : i.size = size) (g : Nat → Bool)
    (hf : ∀ j, j < n → ∃ a b, SemE P h (part e xs (j * size)) = some a ∧ SemE P h (part e ys (j * size)) = some b ∧ SemE P h (Op.equalIn d e a b) = some (g j)) :
    SemE P h (Op.equalIn (d + 1) t (.agg xs) (.agg ys)) = some ((List.range n).all g) := by
  rw [Op.equalIn, semE_und hu]
  simp only [sizeOf_bind, semE_info hi, hn]
  simp only [Std.Legacy.Range.forIn_eq_forIn_range', Std.Legacy.Range.size, Nat.sub_zero, Nat.add_sub_cancel, Nat.div_one]
  rw [semE_bind, ← List.range_eq_range', semE_forInN (s1 := ⟨some false, ()⟩) g]
  · cases hx : (List.range n).all g <;> simp [SemE, pure]
  · intro j hj
    obtain ⟨a, b, ha, hb, hab⟩ := hf j (List.mem_range.1 hj)
    rw [semE_bind, ha, Option.bind_some, semE_bind, hb, Option.bind_some, semE_bind, hab, Option.bind_some]
    cases g j <;> rfl
theorem indexAt_array {b o n len : Nat} {k : IntKind} {j : Int} {i : TypeInfo} (hu : P.underlying t = some (.array len e)) (hi : P.info? e = some i) (hn : i.size = n) (h0 : 0 ≤ j) (h1 : j < len) :
    SemP P (Instr.indexAt t (.pointer (some ⟨b, o, none⟩)) (.int k j)) = some (.pointer (some ⟨b, o + j.toNat * n, none⟩)) := by
  show SemP P (underlying t >>= _) = _
  rw [semP_und hu]
  show SemP P (underlying t >>= _) = _
  rw [semP_und hu]
  simp only [h0, h1, and_self, if_true]
  rw [sizeOf_bind, semP_info hi, hn, plain_add]; rfl
def ikey (x : Int) : Value := .int .i64 x
theorem ikeyed (hu : P.underlying t = some (.int .i64)) : Keyed P t ikey where
  chk := fun h b a => by
    unfold ikey
    rw [show (10000 : Nat) = 9999 + 1 from rfl]
    cases b <;> (rw [Instr.checkKey]; try rw [semE_und hu]) <;> rfl
  eq := fun h a b => by
    unfold ikey
    show SemE P h (Op.equalIn (9999 + 1) t _ _) = _
    rw [eqIn_int hu, beq_dec']
  bits := fun a => by unfold ikey; rw [show (10000 : Nat) = 9999 + 1 from rfl]; simp [Instr.sameBits]
  now := ⟨_, hu, .inr fun a b => by unfold ikey; simp [Instr.sameNow, beq_dec']⟩
end
end Go.Proofs.YtllopddcpkhfjaaGreatDoor
/- Texts as lists of bytes: put together, cut, looked into; numbers as bytes, and back. -/
set_option linter.unusedSimpArgs false
set_option linter.unusedVariables false
namespace Go.Proofs.YtllopddcpkhfjaaGreatDoor
open Go
def tx (l : List UInt8) : ByteArray := ⟨l.toArray⟩
theorem tx_list (s : ByteArray) : tx s.data.toList = s := by cases s; simp [tx]
theorem tx_size (l : List UInt8) : (tx l).size = l.length := by simp [tx, ByteArray.size]
theorem tx_inj {a b : List UInt8} (h : tx a = tx b) : a = b := by
  have := congrArg (fun s : ByteArray => s.data.toList) h
  simpa [tx] using this
theorem tx_nil : tx [] = ⟨#[]⟩ := rfl
theorem tx_append (a b : List UInt8) : tx a ++ tx b = tx (a ++ b) := by
  apply ByteArray.ext
  rw [ByteArray.data_append]
  simp [tx]
section
variable {P : Program} {h : PH} {t t' t2 e : TypeId}
theorem add_tx {a b : List UInt8} (hs : a.length + b.length ≤ 9223372036854775807) : SemP P (binOp .add t (.string (tx a)) (.string (tx b))) = some (.string (tx (a ++ b))) := by
  show SemP P (Op.stringOp .add (tx a) (tx b)) = _
  have : ¬ (((tx a).size + (tx b).size : Nat) : Int) > IntKind.i64.max := by
    rw [tx_size, tx_size]
    have : IntKind.i64.max = 9223372036854775807 := rfl
    omega
  simp only [Op.stringOp, this, if_false]
  rw [tx_append]; rfl
theorem cut_tx {l : List UInt8} {i j : Nat} {lo hi : Option Value} (hu : P.underlying t = some .string) (hlo : lo = none ∧ i = 0 ∨ ∃ k, lo = some (.int k i)) (hhi : hi = none ∧ j = l.length ∨ ∃ k, hi = some (.int k j)) (h1 : i ≤ j) (h2 : j ≤ l.length) :
    SemP P (Instr.sliceAt t (.string (tx l)) lo hi none) = some (.string (tx ((l.take j).drop i))) := by
  show SemP P (underlying t >>= _) = _
  rw [semP_und hu]
  show SemP P (underlying t >>= _) = _
  rw [semP_und hu]
  have hb : Instr.sliceBounds false (tx l).size (tx l).size lo hi none = pure (i, j, (tx l).size) := by
    have hcast : ∀ n m : Nat, n ≤ m → (0 ≤ (n : Int) ∧ (n : Int) ≤ (m : Int)) := fun n m h => by omega
    rw [tx_size]
    rcases hlo with ⟨rfl, rfl⟩ | ⟨k, rfl⟩ <;> rcases hhi with ⟨rfl, rfl⟩ | ⟨k', rfl⟩ <;>
      simp [Instr.sliceBounds, Instr.sliceBound, asIntOf, hcast, h1, h2]
  simp only [hb, pure_bind, Option.isSome_none, Bool.false_eq_true, if_false]
  show some (Value.string ((tx l).extract i j)) = _
  congr 2
  apply ByteArray.ext
  apply Array.ext'
  rw [ByteArray.data_extract]
  simp [tx, List.extract_eq_take_drop, List.drop_take]
theorem index_tx {l : List UInt8} {k : IntKind} {j : Nat} {b : UInt8} (hu : P.underlying t = some .string) (hb : l[j]? = some b) : SemP P (Instr.index t (.string (tx l)) (.int k j)) = some (.int .u8 b.toNat) := by
  show SemP P (underlying t >>= _) = _
  rw [semP_und hu]
  have h0 : (0 : Int) ≤ (j : Int) := by omega
  simp only [h0, if_true, Int.toNat_natCast]
  have : (tx l)[j]? = some b := by
    obtain ⟨hlt, rfl⟩ := List.getElem?_eq_some_iff.1 hb
    have hs : j < (tx l).size := by rw [tx_size]; exact hlt
    rw [getElem?_pos (tx l) j hs]
    congr 1
  rw [this]; rfl
/-- A text as bytes: a new block. -/
theorem bytes_of {l : List UInt8} (hu : P.underlying t = some .string) (hu2 : P.underlying t2 = some (.slice e)) (he : P.underlying e = some (.int .u8)) (hl : l.length ≤ 140737488355328) {k : Value → PH → Prop}
    (hk : ∀ v h', SlR h' 1 v (l.map bcell) → Ext h h' → k v h') : SemH P (convert t t2 (.string (tx l))) h k := by
  show SemH P (underlying t >>= _) h k
  rw [semH_und hu]
  show SemH P (underlying t2 >>= _) h k
  rw [semH_und hu2]
  show SemH P (underlying e >>= _) h k
  rw [semH_und he]
  show SemH P (choose (.appendCap (tx l).size 0 e) >>= _) h k
  rw [semH_choose]
  intro tt
  have hforced : (Question.appendCap (tx l).size 0 e).forced = false := rfl
  rw [hforced]
  have hcut : (tx l).size ≤ (Question.appendCap (tx l).size 0 e).cut tt ∧ (Question.appendCap (tx l).size 0 e).cut tt ≤ maxL := by
    rw [tx_size]
    have hpos : 0 < 2 ^ 63 - l.length := by omega
    have := Nat.mod_lt tt hpos
    simp only [Question.cut, maxL]
    omega
  simp only [Bool.false_eq_true, if_false]
  generalize (Question.appendCap (tx l).size 0 e).cut tt = cap at *
  obtain ⟨c1, c2⟩ := hcut
  intro r hr
  generalize hcs : ((tx l).data.map fun b => Value.int .u8 b.toNat) ++ Array.replicate (cap - (tx l).size) (.int .u8 0) = cs
  have hsz : cs.size = cap := by rw [← hcs]; simp [tx, ByteArray.size] at *; omega
  have u1 : Ext h (h.set r (.cells cs e)) := Upd.new hr
  show SemH P (markStringish ⟨r, 0, none⟩ >>= fun _ => pure (Value.slice (some ⟨r, 0, none⟩) (tx l).size cap)) (h.set r (.cells cs e)) k
  unfold markStringish
  have hshape : shapeH (h.set r (.cells cs e)) r = some (some (e, cs.size)) := by unfold shapeH; rw [set_same]
  show ∃ s, shapeH (h.set r (.cells cs e)) r = some s ∧ _
  refine ⟨_, hshape, ?_⟩
  show (∃ o, (h.set r (.cells cs e)) r = some o) ∧ _
  refine ⟨⟨_, set_same⟩, ?_⟩
  show k (.slice (some ⟨r, 0, none⟩) (tx l).size cap) (freezeH (h.set r (.cells cs e)) ⟨r, cs.size, none⟩ 1)
  have hf : freezeH (h.set r (.cells cs e)) ⟨r, cs.size, none⟩ 1 = h.set r (.cells cs e (cs.size, cs.size + 1)) := by
    funext b
    unfold freezeH PH.set
    simp only [Nat.one_ne_zero, if_false]
    by_cases hb : b = r
    · subst hb; simp
    · simp [hb]
  rw [hf]
  refine hk _ _ ⟨bcell.rows _, some ⟨r, 0, none⟩, cap, by rw [tx_size, List.length_map], by rw [List.length_map, ← tx_size]; exact c1, c2, fun _ => ⟨r, 0, cs, e, _, rfl, set_same, ?_, ?_⟩, trivial⟩ (Upd.new hr)
  · rw [List.length_map, hsz, ← tx_size]; omega
  · rw [bcell.flat, List.length_map]
    have e1 : cs.toList = (l.map fun b => Value.int .u8 b.toNat) ++ List.replicate (cap - (tx l).size) (.int .u8 0) := by rw [← hcs]; simp [tx]
    rw [Array.toList_extract, List.extract_eq_take_drop, e1]
    simp
/-- append(v, s...): v one's own bytes; s a text. -/
theorem append_str {bytes : Nat} {v : Value} {rows : List (List Value)} {l : List UInt8} {F : List Nat} {i : TypeInfo} {z : Value} {k : Value → PH → Prop}
    (hu : P.underlying t = some (.slice e)) (hu2 : P.underlying t2 = some .string) (hi : P.info? e = some i) (hn : i.size = 1) (hby : i.bytes = bytes) (hz : i.zero = some z) (hzs : z.cells.size = 1) (hb0 : 0 < bytes)
    (H : OwnR h e 1 v rows F) (hl : (rows.length + l.length) * bytes ≤ 140737488355328)
    (hk : ∀ v' h' F', OwnR h' e 1 v' (rows ++ l.map bcell) F' → Upd F h h' → (∀ b ∈ F', b ∈ F ∨ h b = none) → capOf v ≤ capOf v' → k v' h') : SemH P (Builtin.append_ #[t, t2] t' #[v, .string (tx l)]) h k := by
  generalize hys : l.map bcell = ys at *
  have hyl : ys.length = l.length := by rw [← hys, List.length_map]
  have hSok : Rows 1 ys := by rw [← hys]; exact bcell.rows l
  have hcell : ∀ r ∈ ys, ∀ u ∈ r, isCell u = true := by rw [← hys]; exact bcell.isCell l
  rw [← hyl] at hl
  have hfirst : SemE P h (Builtin.firstCells 1 ys.length (.string (tx l))) = some ys.flatten.toArray := by
    show some (((tx l).extract 0 ys.length).data.map fun b => Value.int .u8 b.toNat) = _
    rw [hyl, ← hys, bcell.flat]
    congr 1
    apply Array.ext'
    rw [ByteArray.data_extract]
    simp [tx, List.extract_eq_take_drop]
  have hbig : rows.length + ys.length ≤ 140737488355328 := Nat.le_trans (Nat.le_mul_of_pos_right _ hb0) hl
  have hrows : Rows 1 (rows ++ ys) := H.ok.append hSok
  have hflat : ∀ u ∈ ys.flatten, isCell u = true := fun u hu => by
    obtain ⟨r, hr, hur⟩ := List.mem_flatten.1 hu; exact hcell r hr u hur
  -- a new block
  have grown : ∀ (m : Nat), rows.length + ys.length ≤ m → m ≤ maxL → capOf v ≤ m → ∀ r, h r = none →
      k (.slice (some ⟨r, 0, none⟩) (rows.length + ys.length) m) (h.set r (.cells (rows.flatten.toArray ++ ys.flatten.toArray ++ Builtin.zeroCells z.cells (m - (rows.length + ys.length))) e (0, 0))) := by
    intro m hm hmax hcapv r hr
    refine hk _ _ [r] ⟨hrows, .inr ⟨r, m, _, by rw [List.length_append], rfl, set_same, by simpa using hm, hmax, ?_, ?_⟩⟩ (Upd.new hr) (fun b hb => .inr (by simp at hb; subst hb; exact hr)) hcapv
    · simp only [Array.size_append, List.size_toArray, H.ok.flat, hSok.flat, Builtin.zeroCells, Array.size_map, Array.size_range, hzs]
      rw [← Nat.add_mul, ← Nat.add_mul]; congr 1; omega
    · have hlen : (rows ++ ys).length * 1 = (rows.flatten ++ ys.flatten).length := by rw [List.length_append, List.length_append, H.ok.flat, hSok.flat, Nat.add_mul]
      simp only [Array.toList_append, hlen, List.flatten_append]
      rw [List.take_append_of_le_length (Nat.le_refl _), List.take_length]
  obtain ⟨va, vc, hv, hv1, hv2, _, _⟩ := H.slR.here
  have hvfirst := H.slR.first (P := P)
  subst hv
  simp only [Builtin.append_, List.getElem?_toArray, List.getElem?_cons_zero, List.getElem?_cons_succ, semH_und hu, semH_und hu2, sizeOf_bind, semH_info hi, pure_bind, Bool.false_eq_true, if_false, Builtin.lenOf, Bool.not_false, if_true, hn, tx_size, ← hyl]
  by_cases hfit : rows.length + ys.length ≤ vc
  · rw [if_pos hfit]
    refine semH_of_semE hfirst ?_
    rcases H.here with ⟨hv', hr, hF⟩ | ⟨b, cap, cs, hv', hF, hb, hle, hcap, hcs, htake⟩
    · subst hr
      simp only [List.length_nil, Value.slice.injEq, true_and] at hv'
      obtain ⟨rfl, rfl⟩ := hv'
      have hy : ys = [] := List.eq_nil_of_length_eq_zero (by omega)
      subst hy
      exact hk _ _ [] (by simpa using OwnR.nil) Upd.refl (by simp) (Nat.le_refl _)
    · simp only [Value.slice.injEq, true_and] at hv'
      obtain ⟨rfl, rfl⟩ := hv'
      have hmul : (rows.length + ys.length) * 1 ≤ vc * 1 := Nat.mul_le_mul_right _ hfit
      have hadd : (⟨b, 0, none⟩ : Addr).add (rows.length * 1) = ⟨b, 0 + rows.length * 1, none⟩ := plain_add ..
      show SemH P (storeCells ((⟨b, 0, none⟩ : Addr).add (rows.length * 1)) ys.flatten.toArray.toList >>= fun _ => pure _) h k
      rw [hadd]
      refine SemH.bind (P := P) (s := storeCells _ _) ?_
      refine semH_storeCells _ 0 h cs hb (by simp only [hSok.flat, hcs]; rw [Nat.add_mul] at hmul; omega) (by simpa using hflat) ?_
      show k _ _
      simp only [Nat.zero_add, Nat.add_zero]
      have fin : ∀ cs' : Array Value, cs'.size = cs.size → cs'.toList.take ((rows.length + ys.length) * 1) = rows.flatten ++ ys.flatten → ∀ h' : PH, h' b = some (.cells cs' e (0, 0)) → Upd F h h' →
          k (.slice (some ⟨b, 0, none⟩) (rows.length + ys.length) vc) h' := by
        intro cs' hsz htk h' hb' hu'
        refine hk _ _ [b] ⟨hrows, .inr ⟨b, vc, cs', by rw [List.length_append], rfl, hb', by simpa using hfit, hcap, by rw [hsz, hcs], by rw [List.length_append, htk, List.flatten_append]⟩⟩ hu' (fun b' hb' => .inl (hF ▸ hb')) (Nat.le_refl _)
      split
      · rename_i hys
        refine fin cs rfl ?_ h hb Upd.refl
        have : ys.length * 1 = 0 := by rw [← hSok.flat, hys]; rfl
        rw [Nat.add_mul, this, hys, List.append_nil, Nat.add_zero]; exact htake
      · refine fin _ (writeA_size _ _ _) ?_ _ set_same (Upd.set (by rw [hF]; simp))
        have hlen : rows.length * 1 + ys.flatten.length ≤ cs.size := by rw [hSok.flat, ← Nat.add_mul, hcs]; exact hmul
        rw [writeA_list _ _ _ hlen, htake]
        have hlen2 : (rows.length + ys.length) * 1 = (rows.flatten ++ ys.flatten).length := by rw [List.length_append, H.ok.flat, hSok.flat, Nat.add_mul]
        rw [hlen2, List.take_append_of_le_length (Nat.le_refl _), List.take_length]
  · rw [if_neg hfit]
    have hlt : vc < rows.length + ys.length := by omega
    have h63 : ¬ (((rows.length + ys.length : Nat) : Int) > IntKind.i64.max ∧ (False ∨ i.bytes = 0)) := by
      rintro ⟨_, hh⟩
      rcases hh with hh | hh
      · exact hh
      · omega
    have hfits : ¬ (Builtin.nextslicecap (rows.length + ys.length) vc * i.bytes > 2 ^ 48) := by
      rw [hby]
      have := growslice_fits hlt hl
      omega
    rw [semH_info hi, if_neg h63, semH_info hi, if_neg hfits, semH_choose]
    intro tt
    rw [semH_info hi, semH_askRoom]
    refine semH_of_semE hvfirst (semH_of_semE hfirst ?_)
    have hzv : zeroValue e = (typeInfo e >>= fun i => match i.zero with | some v => pure v | none => unsupported (.resourceLimit "a value of more than 2^22 cells")) := rfl
    rw [hzv, bind_assoc, semH_info hi, hz, pure_bind]
    have hcut : ∀ n m : Nat, n ≤ 140737488355328 → n ≤ (Question.appendCap n m e).cut tt ∧ (Question.appendCap n m e).cut tt ≤ maxL := by
      intro n m hn
      have hpos : 0 < 2 ^ 63 - n := by omega
      have := Nat.mod_lt tt hpos
      simp only [Question.cut, maxL]
      omega
    have hforced : (Question.appendCap (rows.length + ys.length) vc e).forced = false := rfl
    rw [hforced]
    obtain ⟨hc1, hc2⟩ := hcut (rows.length + ys.length) vc hbig
    intro r hr
    exact grown _ hc1 hc2 (show vc ≤ _ by omega) r hr

end

/-! ### numbers as bytes -/
theorem snoc_ind {α : Type} {p : List α → Prop} (h0 : p []) (hs : ∀ l a, p l → p (l ++ [a])) (l : List α) : p l := by
  rw [← List.reverse_reverse l]
  induction l.reverse with
  | nil => exact h0
  | cons a l ih => rw [List.reverse_cons]; exact hs _ _ ih
def val (l : List UInt8) : Nat := l.foldl (fun a b => a * 256 + b.toNat) 0
theorem val_snoc (l : List UInt8) (b : UInt8) : val (l ++ [b]) = val l * 256 + b.toNat := by simp [val]
def be (n : Nat) : Nat → List UInt8
  | 0 => []
  | k + 1 => be (n / 256) k ++ [UInt8.ofNat (n % 256)]
theorem be_len (n k : Nat) : (be n k).length = k := by
  induction k generalizing n with
  | zero => rfl
  | succ k ih => simp [be, ih]
theorem val_be (n k : Nat) : val (be n k) = n % 256 ^ k := by
  induction k generalizing n with
  | zero => simp [be, val]; omega
  | succ k ih =>
    rw [be, val_snoc, ih]
    have : (UInt8.ofNat (n % 256)).toNat = n % 256 := by simp
    rw [this, Nat.pow_succ, Nat.mul_comm (256 ^ k) 256, Nat.mod_mul]
    omega
theorem val_lt (l : List UInt8) : val l < 256 ^ l.length := by
  refine snoc_ind (p := fun l => val l < 256 ^ l.length) (by simp [val]) (fun l b ih => ?_) l
  · rw [val_snoc, List.length_append, List.length_singleton, Nat.pow_succ]
    have := b.toNat_lt
    have : val l + 1 ≤ 256 ^ l.length := ih
    have h2 : (val l + 1) * 256 ≤ 256 ^ l.length * 256 := Nat.mul_le_mul_right _ this
    omega
theorem be_get (n : Nat) : ∀ (k i : Nat), i < k → (be n k)[i]? = some (UInt8.ofNat (n / 256 ^ (k - 1 - i) % 256))
  | 0, i, h => by omega
  | k + 1, i, h => by
    rw [be, List.getElem?_append, be_len]
    by_cases hi : i < k
    · rw [if_pos hi, be_get (n / 256) k i hi, Nat.div_div_eq_div_mul, show k + 1 - 1 - i = (k - 1 - i) + 1 by omega, Nat.pow_succ, Nat.mul_comm 256]
    · have : i = k := by omega
      subst this
      simp
theorem be_take_succ {n k i : Nat} (hi : i < k) : (be n k).take (i + 1) = (be n k).take i ++ [UInt8.ofNat (n / 256 ^ (k - 1 - i) % 256)] := by
  rw [List.take_add_one, be_get n k i hi]; rfl
theorem be_val (l : List UInt8) : be (val l) l.length = l := by
  refine snoc_ind (p := fun l => be (val l) l.length = l) rfl (fun l b ih => ?_) l
  · rw [List.length_append, List.length_singleton, be, val_snoc]
    have := b.toNat_lt
    have e1 : (val l * 256 + b.toNat) / 256 = val l := by omega
    have e2 : (val l * 256 + b.toNat) % 256 = b.toNat := by omega
    rw [e1, e2, ih]
    simp
end Go.Proofs.YtllopddcpkhfjaaGreatDoor
/- The types that the printed functions use, by program. -/
set_option maxRecDepth 100000
set_option linter.unusedVariables false
namespace Go.Proofs.YtllopddcpkhfjaaGreatDoor
open Go
noncomputable abbrev PG : Program := Tryz.prog
theorem mix : PG.follows .mixedOrders = true := by kernel_rfl
abbrev id_carracklaw11_StorePlays : FuncId := 3
abbrev id_carracklaw11_awake : FuncId := 4
abbrev id_carracklaw11_few : FuncId := 5
abbrev id_store_New : FuncId := 6
abbrev id_carrackref11_New : FuncId := 7
abbrev id_carracklaw11_do : FuncId := 8
abbrev id_store_Store_Height : FuncId := 9
abbrev id_carrackref11_Store_Height : FuncId := 10
abbrev id_store_Store_Len : FuncId := 11
abbrev id_store_Store_Blocks : FuncId := 12
abbrev id_store_Store_Get : FuncId := 13
abbrev id_carrackref11_Store_Get : FuncId := 14
abbrev id_store_Store_At : FuncId := 15
abbrev id_carrackref11_Store_At : FuncId := 16
abbrev id_carrackref11_Pairs : FuncId := 17
abbrev id_store_Store_Root : FuncId := 18
abbrev id_carrackref11_Store_Root : FuncId := 19
abbrev id_carrackref01_New : FuncId := 20
abbrev id_store_Store_Set : FuncId := 21
abbrev id_store_Store_Commit : FuncId := 22
abbrev id_merkle_Root : FuncId := 23
abbrev id_carrackref11_Store_Set : FuncId := 24
abbrev id_store_Store_Delete : FuncId := 25
abbrev id_carrackref11_Store_Delete : FuncId := 26
abbrev id_carrackref11_Store_Commit : FuncId := 27
abbrev id_carrackref11_Store_find : FuncId := 28
abbrev id_store_Store_at : FuncId := 29
abbrev id_store_sorted_pairs : FuncId := 30
abbrev id_carrackref08_Root : FuncId := 31
abbrev id_carrackref01_Constants : FuncId := 32
abbrev id_slices_SortFunc_sl_api_Pair_api_Pair : FuncId := 33
abbrev id_store_Store_Commit_1 : FuncId := 34
abbrev id_cmp_Compare_string : FuncId := 35
abbrev id_merkle_Top : FuncId := 36
abbrev id_merkle_digest : FuncId := 37
abbrev id_slices_Clone_sl_api_Pair_api_Pair : FuncId := 38
abbrev id_carrackref08_Top : FuncId := 39
abbrev id_carrackref08_Digest : FuncId := 40
abbrev id_carrackref01_primes : FuncId := 41
abbrev id_carrackref01_root : FuncId := 42
abbrev id_math_bits_Len : FuncId := 44
abbrev id_cmp_isNaN_string : FuncId := 45
abbrev id_merkle_one : FuncId := 46
abbrev id_sha_Sum : FuncId := 47
abbrev id_merkle_Leaf : FuncId := 48
abbrev id_merkle_left : FuncId := 49
abbrev id_merkle_both : FuncId := 50
abbrev id_carrackref01_Book_Sum : FuncId := 51
abbrev id_carrackref03_Bytes : FuncId := 52
abbrev id_carrackref08_Leaf : FuncId := 53
abbrev id_carrackref08_Left : FuncId := 54
abbrev id_carrackref01_least : FuncId := 55
abbrev id_math_bits_Len32 : FuncId := 64
abbrev id_math_bits_Len64 : FuncId := 65
abbrev id_sha_New : FuncId := 66
abbrev id_sha_Hash_Write : FuncId := 67
abbrev id_sha_Hash_Sum : FuncId := 68
abbrev id_carrackref01_Book_Digest : FuncId := 69
abbrev id_carrackref01_multiply : FuncId := 70
abbrev id_carrackref01_above : FuncId := 71
abbrev id_sha_begin : FuncId := 77
abbrev id_strings_Clone : FuncId := 78
abbrev id_sha_state_mix : FuncId := 79
abbrev id_strings_Builder_WriteByte : FuncId := 80
abbrev id_strings_Repeat : FuncId := 81
abbrev id_strings_Builder_String : FuncId := 82
abbrev id_sha_state_digest : FuncId := 83
abbrev id_carrackref01_Pad : FuncId := 84
abbrev id_carrackref01_block : FuncId := 85
abbrev id_carrackref01_spread : FuncId := 86
abbrev id_carrackref01_add : FuncId := 87
abbrev id_carrackref01_digit : FuncId := 88
abbrev id_internal_stringslite_Clone : FuncId := 90
abbrev id_sha_words : FuncId := 91
abbrev id_sha_turn : FuncId := 92
abbrev id_strings_Builder_copyCheck : FuncId := 93
abbrev id_math_bits_Mul : FuncId := 94
abbrev id_strings_HasPrefix : FuncId := 95
abbrev id_strings_Builder_Grow : FuncId := 96
abbrev id_strings_Builder_WriteString : FuncId := 97
abbrev id_strings_Builder_Len : FuncId := 98
abbrev id_carrackref01_right : FuncId := 99
abbrev id_math_bits_RotateLeft32 : FuncId := 100
abbrev id_internal_abi_NoEscape : FuncId := 101
abbrev id_math_bits_Mul32 : FuncId := 102
abbrev id_math_bits_Mul64 : FuncId := 103
abbrev id_internal_stringslite_HasPrefix : FuncId := 104
abbrev id_strings_Builder_grow : FuncId := 105
abbrev id_internal_bytealg_MakeNoZero : FuncId := 106
abbrev T_ : TypeId := 0
abbrev T_int : TypeId := 3
abbrev T_bool : TypeId := 4
abbrev T_uint8 : TypeId := 5
abbrev T_string : TypeId := 9
abbrev T_uint64 : TypeId := 22
abbrev T_sl_carrackref11_Act : TypeId := 23
abbrev T_p_store_Store : TypeId := 26
abbrev T_carrackref11_Act : TypeId := 32
abbrev T_sl_api_Pair : TypeId := 35
abbrev T_sl_sl_api_Pair : TypeId := 36
abbrev T_carrackref11_Store : TypeId := 38
abbrev T_api_Errno : TypeId := 41
abbrev T_map_string_string : TypeId := 57
abbrev T_store_sorted : TypeId := 60
abbrev T_store_block : TypeId := 62
abbrev T_sl_store_block : TypeId := 63
abbrev T_store_Store : TypeId := 65
abbrev T_api_Pair : TypeId := 74
abbrev T_sl_uint32 : TypeId := 79
abbrev T_carrackref01_Book : TypeId := 83
abbrev T_sl_uint64 : TypeId := 89
abbrev T_uint32 : TypeId := 91
abbrev T_uint : TypeId := 95
abbrev T_sl_uint8 : TypeId := 115
abbrev T_sl_string : TypeId := 116
abbrev T_8_uint32 : TypeId := 128
abbrev T_sha_state : TypeId := 130
abbrev T_sha_Hash : TypeId := 133
abbrev T_p_strings_Builder : TypeId := 134
abbrev T_strings_Builder : TypeId := 136
abbrev T_64_uint32 : TypeId := 149
abbrev T_p_uint8 : TypeId := 158
abbrev T_unsafe_Pointer : TypeId := 159
theorem T_.und : PG.underlying T_ = some (TypeDesc.tuple #[]) := Tryz.underlying0
theorem T_.info : PG.info? T_ = some Tryz.t0 := by kernel_rfl
theorem T_.size : Tryz.t0.size = 1 := rfl
theorem T_.bytes : Tryz.t0.bytes = 0 := rfl
theorem T_.zero : Tryz.t0.zero = some (Value.tuple #[]) := rfl
theorem T_.zc : zcells PG T_ = ((Value.tuple #[])).cells := by kernel_rfl
theorem T_.load {h : PH} {a : Addr} : SemE PG h (Instr.loadAt T_ (.pointer (some a))) = cellH h a := loadAt_cell T_.und rfl
theorem T_int.und : PG.underlying T_int = some (TypeDesc.int IntKind.i64) := Tryz.underlying3
theorem T_int.info : PG.info? T_int = some Tryz.t3 := by kernel_rfl
theorem T_int.size : Tryz.t3.size = 1 := rfl
theorem T_int.bytes : Tryz.t3.bytes = 8 := rfl
theorem T_int.zero : Tryz.t3.zero = some (Value.int IntKind.i64 0) := rfl
theorem T_int.zc : zcells PG T_int = ((Value.int IntKind.i64 0)).cells := by kernel_rfl
theorem T_int.load {h : PH} {a : Addr} : SemE PG h (Instr.loadAt T_int (.pointer (some a))) = cellH h a := loadAt_cell T_int.und rfl
theorem T_bool.und : PG.underlying T_bool = some TypeDesc.bool := Tryz.underlying4
theorem T_bool.info : PG.info? T_bool = some Tryz.t4 := by kernel_rfl
theorem T_bool.size : Tryz.t4.size = 1 := rfl
theorem T_bool.bytes : Tryz.t4.bytes = 1 := rfl
theorem T_bool.zero : Tryz.t4.zero = some (Value.bool false) := rfl
theorem T_bool.zc : zcells PG T_bool = ((Value.bool false)).cells := by kernel_rfl
theorem T_bool.load {h : PH} {a : Addr} : SemE PG h (Instr.loadAt T_bool (.pointer (some a))) = cellH h a := loadAt_cell T_bool.und rfl
theorem T_uint8.und : PG.underlying T_uint8 = some (TypeDesc.int IntKind.u8) := Tryz.underlying5
theorem T_uint8.info : PG.info? T_uint8 = some Tryz.t5 := by kernel_rfl
theorem T_uint8.size : Tryz.t5.size = 1 := rfl
theorem T_uint8.bytes : Tryz.t5.bytes = 1 := rfl
theorem T_uint8.zero : Tryz.t5.zero = some (Value.int IntKind.u8 0) := rfl
theorem T_uint8.zc : zcells PG T_uint8 = ((Value.int IntKind.u8 0)).cells := by kernel_rfl
theorem T_uint8.load {h : PH} {a : Addr} : SemE PG h (Instr.loadAt T_uint8 (.pointer (some a))) = cellH h a := loadAt_cell T_uint8.und rfl
theorem T_string.und : PG.underlying T_string = some TypeDesc.string := Tryz.underlying9
theorem T_string.info : PG.info? T_string = some Tryz.t9 := by kernel_rfl
theorem T_string.size : Tryz.t9.size = 1 := rfl
theorem T_string.bytes : Tryz.t9.bytes = 16 := rfl
theorem T_string.zero : Tryz.t9.zero = some (Value.string { data := #[] }) := rfl
theorem T_string.zc : zcells PG T_string = ((Value.string { data := #[] })).cells := by kernel_rfl
theorem T_string.load {h : PH} {a : Addr} : SemE PG h (Instr.loadAt T_string (.pointer (some a))) = cellH h a := loadAt_cell T_string.und rfl
theorem T_string.len {s : ByteArray} {t : TypeId} : SemP PG (Builtin.len_ #[T_string] t #[.string s]) = some (.int .i64 s.size) := len_string T_string.und
theorem T_uint64.und : PG.underlying T_uint64 = some (TypeDesc.int IntKind.u64) := Tryz.underlying22
theorem T_uint64.info : PG.info? T_uint64 = some Tryz.t22 := by kernel_rfl
theorem T_uint64.size : Tryz.t22.size = 1 := rfl
theorem T_uint64.bytes : Tryz.t22.bytes = 8 := rfl
theorem T_uint64.zero : Tryz.t22.zero = some (Value.int IntKind.u64 0) := rfl
theorem T_uint64.zc : zcells PG T_uint64 = ((Value.int IntKind.u64 0)).cells := by kernel_rfl
theorem T_uint64.load {h : PH} {a : Addr} : SemE PG h (Instr.loadAt T_uint64 (.pointer (some a))) = cellH h a := loadAt_cell T_uint64.und rfl
theorem T_sl_carrackref11_Act.und : PG.underlying T_sl_carrackref11_Act = some (TypeDesc.slice 32) := Tryz.underlying23
theorem T_sl_carrackref11_Act.info : PG.info? T_sl_carrackref11_Act = some Tryz.t23 := by kernel_rfl
theorem T_sl_carrackref11_Act.size : Tryz.t23.size = 1 := rfl
theorem T_sl_carrackref11_Act.bytes : Tryz.t23.bytes = 24 := rfl
theorem T_sl_carrackref11_Act.zero : Tryz.t23.zero = some (Value.slice none 0 0) := rfl
theorem T_sl_carrackref11_Act.zc : zcells PG T_sl_carrackref11_Act = ((Value.slice none 0 0)).cells := by kernel_rfl
theorem T_sl_carrackref11_Act.load {h : PH} {a : Addr} : SemE PG h (Instr.loadAt T_sl_carrackref11_Act (.pointer (some a))) = cellH h a := loadAt_cell T_sl_carrackref11_Act.und rfl
theorem T_sl_carrackref11_Act.len {a : Option Addr} {n c : Nat} {t : TypeId} : SemP PG (Builtin.len_ #[T_sl_carrackref11_Act] t #[.slice a n c]) = some (.int .i64 n) := len_slice T_sl_carrackref11_Act.und
theorem T_p_store_Store.und : PG.underlying T_p_store_Store = some (TypeDesc.pointer 65) := Tryz.underlying26
theorem T_p_store_Store.info : PG.info? T_p_store_Store = some Tryz.t26 := by kernel_rfl
theorem T_p_store_Store.size : Tryz.t26.size = 1 := rfl
theorem T_p_store_Store.bytes : Tryz.t26.bytes = 8 := rfl
theorem T_p_store_Store.zero : Tryz.t26.zero = some (Value.pointer none) := rfl
theorem T_p_store_Store.zc : zcells PG T_p_store_Store = ((Value.pointer none)).cells := by kernel_rfl
theorem T_p_store_Store.load {h : PH} {a : Addr} : SemE PG h (Instr.loadAt T_p_store_Store (.pointer (some a))) = cellH h a := loadAt_cell T_p_store_Store.und rfl
theorem T_carrackref11_Act.und : PG.underlying T_carrackref11_Act = some (TypeDesc.struct #[{ name := "Kind", type := 3, offset := 0, embedded := false, tag := "", pkgPath := "", byteOffset := 0 }, { name := "Key", type := 9, offset := 1, embedded := false, tag := "", pkgPath := "", byteOffset := 8 }, { name := "Value", type := 9, offset := 2, embedded := false, tag := "", pkgPath := "", byteOffset := 24 }]) := Tryz.underlying32
theorem T_carrackref11_Act.info : PG.info? T_carrackref11_Act = some Tryz.t32 := by kernel_rfl
theorem T_carrackref11_Act.size : Tryz.t32.size = 3 := rfl
theorem T_carrackref11_Act.bytes : Tryz.t32.bytes = 40 := rfl
theorem T_carrackref11_Act.zero : Tryz.t32.zero = some (Value.agg #[Value.int IntKind.i64 0, Value.string { data := #[] }, Value.string { data := #[] }]) := rfl
theorem T_carrackref11_Act.zc : zcells PG T_carrackref11_Act = ((Value.agg #[Value.int IntKind.i64 0, Value.string { data := #[] }, Value.string { data := #[] }])).cells := by kernel_rfl
theorem T_carrackref11_Act.loadAgg {h : PH} {b o : Nat} {c : Array Value} {e : TypeId} {fr : Nat × Nat} (hb : h b = some (.cells c e fr)) (hle : o + 3 ≤ c.size) : SemE PG h (Instr.loadAt T_carrackref11_Act (.pointer (some ⟨b, o, none⟩))) = some (.agg (c.extract o (o + 3))) := loadAt_agg T_carrackref11_Act.und rfl T_carrackref11_Act.info T_carrackref11_Act.size hb hle
theorem T_carrackref11_Act.f0 {b o : Nat} : SemP PG (Instr.fieldAt T_carrackref11_Act (.pointer (some ⟨b, o, none⟩)) 0) = some (.pointer (some ⟨b, o, none⟩)) := by kernel_rfl
theorem T_carrackref11_Act.f1 {b o : Nat} : SemP PG (Instr.fieldAt T_carrackref11_Act (.pointer (some ⟨b, o, none⟩)) 1) = some (.pointer (some ⟨b, o + 1, none⟩)) := by kernel_rfl
theorem T_carrackref11_Act.f2 {b o : Nat} : SemP PG (Instr.fieldAt T_carrackref11_Act (.pointer (some ⟨b, o, none⟩)) 2) = some (.pointer (some ⟨b, o + 2, none⟩)) := by kernel_rfl
theorem T_carrackref11_Act.build0 : SemP PG (Instr.build T_carrackref11_Act #[]) = some (Value.agg #[Value.int IntKind.i64 0, Value.string { data := #[] }, Value.string { data := #[] }]) := by kernel_rfl
theorem T_sl_api_Pair.und : PG.underlying T_sl_api_Pair = some (TypeDesc.slice 74) := Tryz.underlying35
theorem T_sl_api_Pair.info : PG.info? T_sl_api_Pair = some Tryz.t35 := by kernel_rfl
theorem T_sl_api_Pair.size : Tryz.t35.size = 1 := rfl
theorem T_sl_api_Pair.bytes : Tryz.t35.bytes = 24 := rfl
theorem T_sl_api_Pair.zero : Tryz.t35.zero = some (Value.slice none 0 0) := rfl
theorem T_sl_api_Pair.zc : zcells PG T_sl_api_Pair = ((Value.slice none 0 0)).cells := by kernel_rfl
theorem T_sl_api_Pair.load {h : PH} {a : Addr} : SemE PG h (Instr.loadAt T_sl_api_Pair (.pointer (some a))) = cellH h a := loadAt_cell T_sl_api_Pair.und rfl
theorem T_sl_api_Pair.len {a : Option Addr} {n c : Nat} {t : TypeId} : SemP PG (Builtin.len_ #[T_sl_api_Pair] t #[.slice a n c]) = some (.int .i64 n) := len_slice T_sl_api_Pair.und
theorem T_sl_sl_api_Pair.und : PG.underlying T_sl_sl_api_Pair = some (TypeDesc.slice 35) := Tryz.underlying36
theorem T_sl_sl_api_Pair.info : PG.info? T_sl_sl_api_Pair = some Tryz.t36 := by kernel_rfl
theorem T_sl_sl_api_Pair.size : Tryz.t36.size = 1 := rfl
theorem T_sl_sl_api_Pair.bytes : Tryz.t36.bytes = 24 := rfl
theorem T_sl_sl_api_Pair.zero : Tryz.t36.zero = some (Value.slice none 0 0) := rfl
theorem T_sl_sl_api_Pair.zc : zcells PG T_sl_sl_api_Pair = ((Value.slice none 0 0)).cells := by kernel_rfl
theorem T_sl_sl_api_Pair.load {h : PH} {a : Addr} : SemE PG h (Instr.loadAt T_sl_sl_api_Pair (.pointer (some a))) = cellH h a := loadAt_cell T_sl_sl_api_Pair.und rfl
theorem T_sl_sl_api_Pair.len {a : Option Addr} {n c : Nat} {t : TypeId} : SemP PG (Builtin.len_ #[T_sl_sl_api_Pair] t #[.slice a n c]) = some (.int .i64 n) := len_slice T_sl_sl_api_Pair.und
theorem T_carrackref11_Store.und : PG.underlying T_carrackref11_Store = some (TypeDesc.struct #[{ name := "Now", type := 35, offset := 0, embedded := false, tag := "", pkgPath := "", byteOffset := 0 }, { name := "First", type := 22, offset := 1, embedded := false, tag := "", pkgPath := "", byteOffset := 24 }, { name := "Blocks", type := 36, offset := 2, embedded := false, tag := "", pkgPath := "", byteOffset := 32 }]) := Tryz.underlying38
theorem T_carrackref11_Store.info : PG.info? T_carrackref11_Store = some Tryz.t38 := by kernel_rfl
theorem T_carrackref11_Store.size : Tryz.t38.size = 3 := rfl
theorem T_carrackref11_Store.bytes : Tryz.t38.bytes = 56 := rfl
theorem T_carrackref11_Store.zero : Tryz.t38.zero = some (Value.agg #[Value.slice none 0 0, Value.int IntKind.u64 0, Value.slice none 0 0]) := rfl
theorem T_carrackref11_Store.zc : zcells PG T_carrackref11_Store = ((Value.agg #[Value.slice none 0 0, Value.int IntKind.u64 0, Value.slice none 0 0])).cells := by kernel_rfl
theorem T_carrackref11_Store.loadAgg {h : PH} {b o : Nat} {c : Array Value} {e : TypeId} {fr : Nat × Nat} (hb : h b = some (.cells c e fr)) (hle : o + 3 ≤ c.size) : SemE PG h (Instr.loadAt T_carrackref11_Store (.pointer (some ⟨b, o, none⟩))) = some (.agg (c.extract o (o + 3))) := loadAt_agg T_carrackref11_Store.und rfl T_carrackref11_Store.info T_carrackref11_Store.size hb hle
theorem T_carrackref11_Store.f0 {b o : Nat} : SemP PG (Instr.fieldAt T_carrackref11_Store (.pointer (some ⟨b, o, none⟩)) 0) = some (.pointer (some ⟨b, o, none⟩)) := by kernel_rfl
theorem T_carrackref11_Store.f1 {b o : Nat} : SemP PG (Instr.fieldAt T_carrackref11_Store (.pointer (some ⟨b, o, none⟩)) 1) = some (.pointer (some ⟨b, o + 1, none⟩)) := by kernel_rfl
theorem T_carrackref11_Store.f2 {b o : Nat} : SemP PG (Instr.fieldAt T_carrackref11_Store (.pointer (some ⟨b, o, none⟩)) 2) = some (.pointer (some ⟨b, o + 2, none⟩)) := by kernel_rfl
theorem T_carrackref11_Store.build0 : SemP PG (Instr.build T_carrackref11_Store #[]) = some (Value.agg #[Value.slice none 0 0, Value.int IntKind.u64 0, Value.slice none 0 0]) := by kernel_rfl
theorem T_api_Errno.und : PG.underlying T_api_Errno = some (TypeDesc.int IntKind.i64) := Tryz.underlying41
theorem T_api_Errno.info : PG.info? T_api_Errno = some Tryz.t41 := by kernel_rfl
theorem T_api_Errno.size : Tryz.t41.size = 1 := rfl
theorem T_api_Errno.bytes : Tryz.t41.bytes = 8 := rfl
theorem T_api_Errno.zero : Tryz.t41.zero = some (Value.int IntKind.i64 0) := rfl
theorem T_api_Errno.zc : zcells PG T_api_Errno = ((Value.int IntKind.i64 0)).cells := by kernel_rfl
theorem T_api_Errno.load {h : PH} {a : Addr} : SemE PG h (Instr.loadAt T_api_Errno (.pointer (some a))) = cellH h a := loadAt_cell T_api_Errno.und rfl
theorem T_map_string_string.und : PG.underlying T_map_string_string = some (TypeDesc.map 9 9) := Tryz.underlying57
theorem T_map_string_string.info : PG.info? T_map_string_string = some Tryz.t57 := by kernel_rfl
theorem T_map_string_string.size : Tryz.t57.size = 1 := rfl
theorem T_map_string_string.bytes : Tryz.t57.bytes = 8 := rfl
theorem T_map_string_string.zero : Tryz.t57.zero = some (Value.map none) := rfl
theorem T_map_string_string.zc : zcells PG T_map_string_string = ((Value.map none)).cells := by kernel_rfl
theorem T_map_string_string.load {h : PH} {a : Addr} : SemE PG h (Instr.loadAt T_map_string_string (.pointer (some a))) = cellH h a := loadAt_cell T_map_string_string.und rfl
theorem T_store_sorted.und : PG.underlying T_store_sorted = some (TypeDesc.struct #[{ name := "l", type := 35, offset := 0, embedded := false, tag := "", pkgPath := "carrack/store", byteOffset := 0 }]) := Tryz.underlying60
theorem T_store_sorted.info : PG.info? T_store_sorted = some Tryz.t60 := by kernel_rfl
theorem T_store_sorted.size : Tryz.t60.size = 1 := rfl
theorem T_store_sorted.bytes : Tryz.t60.bytes = 24 := rfl
theorem T_store_sorted.zero : Tryz.t60.zero = some (Value.agg #[Value.slice none 0 0]) := rfl
theorem T_store_sorted.zc : zcells PG T_store_sorted = ((Value.agg #[Value.slice none 0 0])).cells := by kernel_rfl
theorem T_store_sorted.loadAgg {h : PH} {b o : Nat} {c : Array Value} {e : TypeId} {fr : Nat × Nat} (hb : h b = some (.cells c e fr)) (hle : o + 1 ≤ c.size) : SemE PG h (Instr.loadAt T_store_sorted (.pointer (some ⟨b, o, none⟩))) = some (.agg (c.extract o (o + 1))) := loadAt_agg T_store_sorted.und rfl T_store_sorted.info T_store_sorted.size hb hle
theorem T_store_sorted.f0 {b o : Nat} : SemP PG (Instr.fieldAt T_store_sorted (.pointer (some ⟨b, o, none⟩)) 0) = some (.pointer (some ⟨b, o, none⟩)) := by kernel_rfl
theorem T_store_sorted.build0 : SemP PG (Instr.build T_store_sorted #[]) = some (Value.agg #[Value.slice none 0 0]) := by kernel_rfl
theorem T_store_block.und : PG.underlying T_store_block = some (TypeDesc.struct #[{ name := "sorted", type := 60, offset := 0, embedded := true, tag := "", pkgPath := "carrack/store", byteOffset := 0 }, { name := "root", type := 9, offset := 1, embedded := false, tag := "", pkgPath := "carrack/store", byteOffset := 24 }]) := Tryz.underlying62
theorem T_store_block.info : PG.info? T_store_block = some Tryz.t62 := by kernel_rfl
theorem T_store_block.size : Tryz.t62.size = 2 := rfl
theorem T_store_block.bytes : Tryz.t62.bytes = 40 := rfl
theorem T_store_block.zero : Tryz.t62.zero = some (Value.agg #[Value.slice none 0 0, Value.string { data := #[] }]) := rfl
theorem T_store_block.zc : zcells PG T_store_block = ((Value.agg #[Value.slice none 0 0, Value.string { data := #[] }])).cells := by kernel_rfl
theorem T_store_block.loadAgg {h : PH} {b o : Nat} {c : Array Value} {e : TypeId} {fr : Nat × Nat} (hb : h b = some (.cells c e fr)) (hle : o + 2 ≤ c.size) : SemE PG h (Instr.loadAt T_store_block (.pointer (some ⟨b, o, none⟩))) = some (.agg (c.extract o (o + 2))) := loadAt_agg T_store_block.und rfl T_store_block.info T_store_block.size hb hle
theorem T_store_block.f0 {b o : Nat} : SemP PG (Instr.fieldAt T_store_block (.pointer (some ⟨b, o, none⟩)) 0) = some (.pointer (some ⟨b, o, none⟩)) := by kernel_rfl
theorem T_store_block.f1 {b o : Nat} : SemP PG (Instr.fieldAt T_store_block (.pointer (some ⟨b, o, none⟩)) 1) = some (.pointer (some ⟨b, o + 1, none⟩)) := by kernel_rfl
theorem T_store_block.build0 : SemP PG (Instr.build T_store_block #[]) = some (Value.agg #[Value.slice none 0 0, Value.string { data := #[] }]) := by kernel_rfl
theorem T_sl_store_block.und : PG.underlying T_sl_store_block = some (TypeDesc.slice 62) := Tryz.underlying63
theorem T_sl_store_block.info : PG.info? T_sl_store_block = some Tryz.t63 := by kernel_rfl
theorem T_sl_store_block.size : Tryz.t63.size = 1 := rfl
theorem T_sl_store_block.bytes : Tryz.t63.bytes = 24 := rfl
theorem T_sl_store_block.zero : Tryz.t63.zero = some (Value.slice none 0 0) := rfl
theorem T_sl_store_block.zc : zcells PG T_sl_store_block = ((Value.slice none 0 0)).cells := by kernel_rfl
theorem T_sl_store_block.load {h : PH} {a : Addr} : SemE PG h (Instr.loadAt T_sl_store_block (.pointer (some a))) = cellH h a := loadAt_cell T_sl_store_block.und rfl
theorem T_sl_store_block.len {a : Option Addr} {n c : Nat} {t : TypeId} : SemP PG (Builtin.len_ #[T_sl_store_block] t #[.slice a n c]) = some (.int .i64 n) := len_slice T_sl_store_block.und
theorem T_store_Store.und : PG.underlying T_store_Store = some (TypeDesc.struct #[{ name := "now", type := 57, offset := 0, embedded := false, tag := "", pkgPath := "carrack/store", byteOffset := 0 }, { name := "blocks", type := 63, offset := 1, embedded := false, tag := "", pkgPath := "carrack/store", byteOffset := 8 }, { name := "height", type := 22, offset := 2, embedded := false, tag := "", pkgPath := "carrack/store", byteOffset := 32 }]) := Tryz.underlying65
theorem T_store_Store.info : PG.info? T_store_Store = some Tryz.t65 := by kernel_rfl
theorem T_store_Store.size : Tryz.t65.size = 3 := rfl
theorem T_store_Store.bytes : Tryz.t65.bytes = 40 := rfl
theorem T_store_Store.zero : Tryz.t65.zero = some (Value.agg #[Value.map none, Value.slice none 0 0, Value.int IntKind.u64 0]) := rfl
theorem T_store_Store.zc : zcells PG T_store_Store = ((Value.agg #[Value.map none, Value.slice none 0 0, Value.int IntKind.u64 0])).cells := by kernel_rfl
theorem T_store_Store.loadAgg {h : PH} {b o : Nat} {c : Array Value} {e : TypeId} {fr : Nat × Nat} (hb : h b = some (.cells c e fr)) (hle : o + 3 ≤ c.size) : SemE PG h (Instr.loadAt T_store_Store (.pointer (some ⟨b, o, none⟩))) = some (.agg (c.extract o (o + 3))) := loadAt_agg T_store_Store.und rfl T_store_Store.info T_store_Store.size hb hle
theorem T_store_Store.f0 {b o : Nat} : SemP PG (Instr.fieldAt T_store_Store (.pointer (some ⟨b, o, none⟩)) 0) = some (.pointer (some ⟨b, o, none⟩)) := by kernel_rfl
theorem T_store_Store.f1 {b o : Nat} : SemP PG (Instr.fieldAt T_store_Store (.pointer (some ⟨b, o, none⟩)) 1) = some (.pointer (some ⟨b, o + 1, none⟩)) := by kernel_rfl
theorem T_store_Store.f2 {b o : Nat} : SemP PG (Instr.fieldAt T_store_Store (.pointer (some ⟨b, o, none⟩)) 2) = some (.pointer (some ⟨b, o + 2, none⟩)) := by kernel_rfl
theorem T_store_Store.build0 : SemP PG (Instr.build T_store_Store #[]) = some (Value.agg #[Value.map none, Value.slice none 0 0, Value.int IntKind.u64 0]) := by kernel_rfl
theorem T_api_Pair.und : PG.underlying T_api_Pair = some (TypeDesc.struct #[{ name := "Key", type := 9, offset := 0, embedded := false, tag := "", pkgPath := "", byteOffset := 0 }, { name := "Value", type := 9, offset := 1, embedded := false, tag := "", pkgPath := "", byteOffset := 16 }]) := Tryz.underlying74
theorem T_api_Pair.info : PG.info? T_api_Pair = some Tryz.t74 := by kernel_rfl
theorem T_api_Pair.size : Tryz.t74.size = 2 := rfl
theorem T_api_Pair.bytes : Tryz.t74.bytes = 32 := rfl
theorem T_api_Pair.zero : Tryz.t74.zero = some (Value.agg #[Value.string { data := #[] }, Value.string { data := #[] }]) := rfl
theorem T_api_Pair.zc : zcells PG T_api_Pair = ((Value.agg #[Value.string { data := #[] }, Value.string { data := #[] }])).cells := by kernel_rfl
theorem T_api_Pair.loadAgg {h : PH} {b o : Nat} {c : Array Value} {e : TypeId} {fr : Nat × Nat} (hb : h b = some (.cells c e fr)) (hle : o + 2 ≤ c.size) : SemE PG h (Instr.loadAt T_api_Pair (.pointer (some ⟨b, o, none⟩))) = some (.agg (c.extract o (o + 2))) := loadAt_agg T_api_Pair.und rfl T_api_Pair.info T_api_Pair.size hb hle
theorem T_api_Pair.f0 {b o : Nat} : SemP PG (Instr.fieldAt T_api_Pair (.pointer (some ⟨b, o, none⟩)) 0) = some (.pointer (some ⟨b, o, none⟩)) := by kernel_rfl
theorem T_api_Pair.f1 {b o : Nat} : SemP PG (Instr.fieldAt T_api_Pair (.pointer (some ⟨b, o, none⟩)) 1) = some (.pointer (some ⟨b, o + 1, none⟩)) := by kernel_rfl
theorem T_api_Pair.build0 : SemP PG (Instr.build T_api_Pair #[]) = some (Value.agg #[Value.string { data := #[] }, Value.string { data := #[] }]) := by kernel_rfl
theorem T_sl_uint32.und : PG.underlying T_sl_uint32 = some (TypeDesc.slice 91) := Tryz.underlying79
theorem T_sl_uint32.info : PG.info? T_sl_uint32 = some Tryz.t79 := by kernel_rfl
theorem T_sl_uint32.size : Tryz.t79.size = 1 := rfl
theorem T_sl_uint32.bytes : Tryz.t79.bytes = 24 := rfl
theorem T_sl_uint32.zero : Tryz.t79.zero = some (Value.slice none 0 0) := rfl
theorem T_sl_uint32.zc : zcells PG T_sl_uint32 = ((Value.slice none 0 0)).cells := by kernel_rfl
theorem T_sl_uint32.load {h : PH} {a : Addr} : SemE PG h (Instr.loadAt T_sl_uint32 (.pointer (some a))) = cellH h a := loadAt_cell T_sl_uint32.und rfl
theorem T_sl_uint32.len {a : Option Addr} {n c : Nat} {t : TypeId} : SemP PG (Builtin.len_ #[T_sl_uint32] t #[.slice a n c]) = some (.int .i64 n) := len_slice T_sl_uint32.und
theorem T_carrackref01_Book.und : PG.underlying T_carrackref01_Book = some (TypeDesc.struct #[{ name := "K", type := 79, offset := 0, embedded := false, tag := "", pkgPath := "", byteOffset := 0 }, { name := "H", type := 79, offset := 1, embedded := false, tag := "", pkgPath := "", byteOffset := 24 }, { name := "Of", type := 57, offset := 2, embedded := false, tag := "", pkgPath := "", byteOffset := 48 }, { name := "Clash", type := 4, offset := 3, embedded := false, tag := "", pkgPath := "", byteOffset := 56 }]) := Tryz.underlying83
theorem T_carrackref01_Book.info : PG.info? T_carrackref01_Book = some Tryz.t83 := by kernel_rfl
theorem T_carrackref01_Book.size : Tryz.t83.size = 4 := rfl
theorem T_carrackref01_Book.bytes : Tryz.t83.bytes = 64 := rfl
theorem T_carrackref01_Book.zero : Tryz.t83.zero = some (Value.agg #[Value.slice none 0 0, Value.slice none 0 0, Value.map none, Value.bool false]) := rfl
theorem T_carrackref01_Book.zc : zcells PG T_carrackref01_Book = ((Value.agg #[Value.slice none 0 0, Value.slice none 0 0, Value.map none, Value.bool false])).cells := by kernel_rfl
theorem T_carrackref01_Book.loadAgg {h : PH} {b o : Nat} {c : Array Value} {e : TypeId} {fr : Nat × Nat} (hb : h b = some (.cells c e fr)) (hle : o + 4 ≤ c.size) : SemE PG h (Instr.loadAt T_carrackref01_Book (.pointer (some ⟨b, o, none⟩))) = some (.agg (c.extract o (o + 4))) := loadAt_agg T_carrackref01_Book.und rfl T_carrackref01_Book.info T_carrackref01_Book.size hb hle
theorem T_carrackref01_Book.f0 {b o : Nat} : SemP PG (Instr.fieldAt T_carrackref01_Book (.pointer (some ⟨b, o, none⟩)) 0) = some (.pointer (some ⟨b, o, none⟩)) := by kernel_rfl
theorem T_carrackref01_Book.f1 {b o : Nat} : SemP PG (Instr.fieldAt T_carrackref01_Book (.pointer (some ⟨b, o, none⟩)) 1) = some (.pointer (some ⟨b, o + 1, none⟩)) := by kernel_rfl
theorem T_carrackref01_Book.f2 {b o : Nat} : SemP PG (Instr.fieldAt T_carrackref01_Book (.pointer (some ⟨b, o, none⟩)) 2) = some (.pointer (some ⟨b, o + 2, none⟩)) := by kernel_rfl
theorem T_carrackref01_Book.f3 {b o : Nat} : SemP PG (Instr.fieldAt T_carrackref01_Book (.pointer (some ⟨b, o, none⟩)) 3) = some (.pointer (some ⟨b, o + 3, none⟩)) := by kernel_rfl
theorem T_carrackref01_Book.build0 : SemP PG (Instr.build T_carrackref01_Book #[]) = some (Value.agg #[Value.slice none 0 0, Value.slice none 0 0, Value.map none, Value.bool false]) := by kernel_rfl
theorem T_sl_uint64.und : PG.underlying T_sl_uint64 = some (TypeDesc.slice 22) := Tryz.underlying89
theorem T_sl_uint64.info : PG.info? T_sl_uint64 = some Tryz.t89 := by kernel_rfl
theorem T_sl_uint64.size : Tryz.t89.size = 1 := rfl
theorem T_sl_uint64.bytes : Tryz.t89.bytes = 24 := rfl
theorem T_sl_uint64.zero : Tryz.t89.zero = some (Value.slice none 0 0) := rfl
theorem T_sl_uint64.zc : zcells PG T_sl_uint64 = ((Value.slice none 0 0)).cells := by kernel_rfl
theorem T_sl_uint64.load {h : PH} {a : Addr} : SemE PG h (Instr.loadAt T_sl_uint64 (.pointer (some a))) = cellH h a := loadAt_cell T_sl_uint64.und rfl
theorem T_sl_uint64.len {a : Option Addr} {n c : Nat} {t : TypeId} : SemP PG (Builtin.len_ #[T_sl_uint64] t #[.slice a n c]) = some (.int .i64 n) := len_slice T_sl_uint64.und
theorem T_uint32.und : PG.underlying T_uint32 = some (TypeDesc.int IntKind.u32) := Tryz.underlying91
theorem T_uint32.info : PG.info? T_uint32 = some Tryz.t91 := by kernel_rfl
theorem T_uint32.size : Tryz.t91.size = 1 := rfl
theorem T_uint32.bytes : Tryz.t91.bytes = 4 := rfl
theorem T_uint32.zero : Tryz.t91.zero = some (Value.int IntKind.u32 0) := rfl
theorem T_uint32.zc : zcells PG T_uint32 = ((Value.int IntKind.u32 0)).cells := by kernel_rfl
theorem T_uint32.load {h : PH} {a : Addr} : SemE PG h (Instr.loadAt T_uint32 (.pointer (some a))) = cellH h a := loadAt_cell T_uint32.und rfl
theorem T_uint.und : PG.underlying T_uint = some (TypeDesc.int IntKind.u64) := Tryz.underlying95
theorem T_uint.info : PG.info? T_uint = some Tryz.t95 := by kernel_rfl
theorem T_uint.size : Tryz.t95.size = 1 := rfl
theorem T_uint.bytes : Tryz.t95.bytes = 8 := rfl
theorem T_uint.zero : Tryz.t95.zero = some (Value.int IntKind.u64 0) := rfl
theorem T_uint.zc : zcells PG T_uint = ((Value.int IntKind.u64 0)).cells := by kernel_rfl
theorem T_uint.load {h : PH} {a : Addr} : SemE PG h (Instr.loadAt T_uint (.pointer (some a))) = cellH h a := loadAt_cell T_uint.und rfl
theorem T_sl_uint8.und : PG.underlying T_sl_uint8 = some (TypeDesc.slice 5) := Tryz.underlying115
theorem T_sl_uint8.info : PG.info? T_sl_uint8 = some Tryz.t115 := by kernel_rfl
theorem T_sl_uint8.size : Tryz.t115.size = 1 := rfl
theorem T_sl_uint8.bytes : Tryz.t115.bytes = 24 := rfl
theorem T_sl_uint8.zero : Tryz.t115.zero = some (Value.slice none 0 0) := rfl
theorem T_sl_uint8.zc : zcells PG T_sl_uint8 = ((Value.slice none 0 0)).cells := by kernel_rfl
theorem T_sl_uint8.load {h : PH} {a : Addr} : SemE PG h (Instr.loadAt T_sl_uint8 (.pointer (some a))) = cellH h a := loadAt_cell T_sl_uint8.und rfl
theorem T_sl_uint8.len {a : Option Addr} {n c : Nat} {t : TypeId} : SemP PG (Builtin.len_ #[T_sl_uint8] t #[.slice a n c]) = some (.int .i64 n) := len_slice T_sl_uint8.und
theorem T_sl_string.und : PG.underlying T_sl_string = some (TypeDesc.slice 9) := Tryz.underlying116
theorem T_sl_string.info : PG.info? T_sl_string = some Tryz.t116 := by kernel_rfl
theorem T_sl_string.size : Tryz.t116.size = 1 := rfl
theorem T_sl_string.bytes : Tryz.t116.bytes = 24 := rfl
theorem T_sl_string.zero : Tryz.t116.zero = some (Value.slice none 0 0) := rfl
theorem T_sl_string.zc : zcells PG T_sl_string = ((Value.slice none 0 0)).cells := by kernel_rfl
theorem T_sl_string.load {h : PH} {a : Addr} : SemE PG h (Instr.loadAt T_sl_string (.pointer (some a))) = cellH h a := loadAt_cell T_sl_string.und rfl
theorem T_sl_string.len {a : Option Addr} {n c : Nat} {t : TypeId} : SemP PG (Builtin.len_ #[T_sl_string] t #[.slice a n c]) = some (.int .i64 n) := len_slice T_sl_string.und
theorem T_8_uint32.und : PG.underlying T_8_uint32 = some (TypeDesc.array 8 91) := Tryz.underlying128
theorem T_8_uint32.info : PG.info? T_8_uint32 = some Tryz.t128 := by kernel_rfl
theorem T_8_uint32.size : Tryz.t128.size = 8 := rfl
theorem T_8_uint32.bytes : Tryz.t128.bytes = 32 := rfl
theorem T_8_uint32.zero : Tryz.t128.zero = some (Value.agg #[Value.int IntKind.u32 0, Value.int IntKind.u32 0, Value.int IntKind.u32 0, Value.int IntKind.u32 0, Value.int IntKind.u32 0, Value.int IntKind.u32 0, Value.int IntKind.u32 0, Value.int IntKind.u32 0]) := rfl
theorem T_8_uint32.zc : zcells PG T_8_uint32 = ((Value.agg #[Value.int IntKind.u32 0, Value.int IntKind.u32 0, Value.int IntKind.u32 0, Value.int IntKind.u32 0, Value.int IntKind.u32 0, Value.int IntKind.u32 0, Value.int IntKind.u32 0, Value.int IntKind.u32 0])).cells := by kernel_rfl
theorem T_8_uint32.loadAgg {h : PH} {b o : Nat} {c : Array Value} {e : TypeId} {fr : Nat × Nat} (hb : h b = some (.cells c e fr)) (hle : o + 8 ≤ c.size) : SemE PG h (Instr.loadAt T_8_uint32 (.pointer (some ⟨b, o, none⟩))) = some (.agg (c.extract o (o + 8))) := loadAt_agg T_8_uint32.und rfl T_8_uint32.info T_8_uint32.size hb hle
theorem T_sha_state.und : PG.underlying T_sha_state = some (TypeDesc.struct #[{ name := "h", type := 128, offset := 0, embedded := false, tag := "", pkgPath := "carrack/sha", byteOffset := 0 }]) := Tryz.underlying130
theorem T_sha_state.info : PG.info? T_sha_state = some Tryz.t130 := by kernel_rfl
theorem T_sha_state.size : Tryz.t130.size = 8 := rfl
theorem T_sha_state.bytes : Tryz.t130.bytes = 32 := rfl
theorem T_sha_state.zero : Tryz.t130.zero = some (Value.agg #[Value.int IntKind.u32 0, Value.int IntKind.u32 0, Value.int IntKind.u32 0, Value.int IntKind.u32 0, Value.int IntKind.u32 0, Value.int IntKind.u32 0, Value.int IntKind.u32 0, Value.int IntKind.u32 0]) := rfl
theorem T_sha_state.zc : zcells PG T_sha_state = ((Value.agg #[Value.int IntKind.u32 0, Value.int IntKind.u32 0, Value.int IntKind.u32 0, Value.int IntKind.u32 0, Value.int IntKind.u32 0, Value.int IntKind.u32 0, Value.int IntKind.u32 0, Value.int IntKind.u32 0])).cells := by kernel_rfl
theorem T_sha_state.loadAgg {h : PH} {b o : Nat} {c : Array Value} {e : TypeId} {fr : Nat × Nat} (hb : h b = some (.cells c e fr)) (hle : o + 8 ≤ c.size) : SemE PG h (Instr.loadAt T_sha_state (.pointer (some ⟨b, o, none⟩))) = some (.agg (c.extract o (o + 8))) := loadAt_agg T_sha_state.und rfl T_sha_state.info T_sha_state.size hb hle
theorem T_sha_state.f0 {b o : Nat} : SemP PG (Instr.fieldAt T_sha_state (.pointer (some ⟨b, o, none⟩)) 0) = some (.pointer (some ⟨b, o, none⟩)) := by kernel_rfl
theorem T_sha_state.build0 : SemP PG (Instr.build T_sha_state #[]) = some (Value.agg #[Value.int IntKind.u32 0, Value.int IntKind.u32 0, Value.int IntKind.u32 0, Value.int IntKind.u32 0, Value.int IntKind.u32 0, Value.int IntKind.u32 0, Value.int IntKind.u32 0, Value.int IntKind.u32 0]) := by kernel_rfl
theorem T_sha_Hash.und : PG.underlying T_sha_Hash = some (TypeDesc.struct #[{ name := "state", type := 130, offset := 0, embedded := true, tag := "", pkgPath := "carrack/sha", byteOffset := 0 }, { name := "rest", type := 9, offset := 8, embedded := false, tag := "", pkgPath := "carrack/sha", byteOffset := 32 }, { name := "n", type := 3, offset := 9, embedded := false, tag := "", pkgPath := "carrack/sha", byteOffset := 48 }]) := Tryz.underlying133
theorem T_sha_Hash.info : PG.info? T_sha_Hash = some Tryz.t133 := by kernel_rfl
theorem T_sha_Hash.size : Tryz.t133.size = 10 := rfl
theorem T_sha_Hash.bytes : Tryz.t133.bytes = 56 := rfl
theorem T_sha_Hash.zero : Tryz.t133.zero = some (Value.agg #[Value.int IntKind.u32 0, Value.int IntKind.u32 0, Value.int IntKind.u32 0, Value.int IntKind.u32 0, Value.int IntKind.u32 0, Value.int IntKind.u32 0, Value.int IntKind.u32 0, Value.int IntKind.u32 0, Value.string { data := #[] }, Value.int IntKind.i64 0]) := rfl
theorem T_sha_Hash.zc : zcells PG T_sha_Hash = ((Value.agg #[Value.int IntKind.u32 0, Value.int IntKind.u32 0, Value.int IntKind.u32 0, Value.int IntKind.u32 0, Value.int IntKind.u32 0, Value.int IntKind.u32 0, Value.int IntKind.u32 0, Value.int IntKind.u32 0, Value.string { data := #[] }, Value.int IntKind.i64 0])).cells := by kernel_rfl
theorem T_sha_Hash.loadAgg {h : PH} {b o : Nat} {c : Array Value} {e : TypeId} {fr : Nat × Nat} (hb : h b = some (.cells c e fr)) (hle : o + 10 ≤ c.size) : SemE PG h (Instr.loadAt T_sha_Hash (.pointer (some ⟨b, o, none⟩))) = some (.agg (c.extract o (o + 10))) := loadAt_agg T_sha_Hash.und rfl T_sha_Hash.info T_sha_Hash.size hb hle
theorem T_sha_Hash.f0 {b o : Nat} : SemP PG (Instr.fieldAt T_sha_Hash (.pointer (some ⟨b, o, none⟩)) 0) = some (.pointer (some ⟨b, o, none⟩)) := by kernel_rfl
theorem T_sha_Hash.f1 {b o : Nat} : SemP PG (Instr.fieldAt T_sha_Hash (.pointer (some ⟨b, o, none⟩)) 1) = some (.pointer (some ⟨b, o + 8, none⟩)) := by kernel_rfl
theorem T_sha_Hash.f2 {b o : Nat} : SemP PG (Instr.fieldAt T_sha_Hash (.pointer (some ⟨b, o, none⟩)) 2) = some (.pointer (some ⟨b, o + 9, none⟩)) := by kernel_rfl
theorem T_sha_Hash.build0 : SemP PG (Instr.build T_sha_Hash #[]) = some (Value.agg #[Value.int IntKind.u32 0, Value.int IntKind.u32 0, Value.int IntKind.u32 0, Value.int IntKind.u32 0, Value.int IntKind.u32 0, Value.int IntKind.u32 0, Value.int IntKind.u32 0, Value.int IntKind.u32 0, Value.string { data := #[] }, Value.int IntKind.i64 0]) := by kernel_rfl
theorem T_p_strings_Builder.und : PG.underlying T_p_strings_Builder = some (TypeDesc.pointer 136) := Tryz.underlying134
theorem T_p_strings_Builder.info : PG.info? T_p_strings_Builder = some Tryz.t134 := by kernel_rfl
theorem T_p_strings_Builder.size : Tryz.t134.size = 1 := rfl
theorem T_p_strings_Builder.bytes : Tryz.t134.bytes = 8 := rfl
theorem T_p_strings_Builder.zero : Tryz.t134.zero = some (Value.pointer none) := rfl
theorem T_p_strings_Builder.zc : zcells PG T_p_strings_Builder = ((Value.pointer none)).cells := by kernel_rfl
theorem T_p_strings_Builder.load {h : PH} {a : Addr} : SemE PG h (Instr.loadAt T_p_strings_Builder (.pointer (some a))) = cellH h a := loadAt_cell T_p_strings_Builder.und rfl
theorem T_strings_Builder.und : PG.underlying T_strings_Builder = some (TypeDesc.struct #[{ name := "addr", type := 134, offset := 0, embedded := false, tag := "", pkgPath := "strings", byteOffset := 0 }, { name := "buf", type := 115, offset := 1, embedded := false, tag := "", pkgPath := "strings", byteOffset := 8 }]) := Tryz.underlying136
theorem T_strings_Builder.info : PG.info? T_strings_Builder = some Tryz.t136 := by kernel_rfl
theorem T_strings_Builder.size : Tryz.t136.size = 2 := rfl
theorem T_strings_Builder.bytes : Tryz.t136.bytes = 32 := rfl
theorem T_strings_Builder.zero : Tryz.t136.zero = some (Value.agg #[Value.pointer none, Value.slice none 0 0]) := rfl
theorem T_strings_Builder.zc : zcells PG T_strings_Builder = ((Value.agg #[Value.pointer none, Value.slice none 0 0])).cells := by kernel_rfl
theorem T_strings_Builder.loadAgg {h : PH} {b o : Nat} {c : Array Value} {e : TypeId} {fr : Nat × Nat} (hb : h b = some (.cells c e fr)) (hle : o + 2 ≤ c.size) : SemE PG h (Instr.loadAt T_strings_Builder (.pointer (some ⟨b, o, none⟩))) = some (.agg (c.extract o (o + 2))) := loadAt_agg T_strings_Builder.und rfl T_strings_Builder.info T_strings_Builder.size hb hle
theorem T_strings_Builder.f0 {b o : Nat} : SemP PG (Instr.fieldAt T_strings_Builder (.pointer (some ⟨b, o, none⟩)) 0) = some (.pointer (some ⟨b, o, none⟩)) := by kernel_rfl
theorem T_strings_Builder.f1 {b o : Nat} : SemP PG (Instr.fieldAt T_strings_Builder (.pointer (some ⟨b, o, none⟩)) 1) = some (.pointer (some ⟨b, o + 1, none⟩)) := by kernel_rfl
theorem T_strings_Builder.build0 : SemP PG (Instr.build T_strings_Builder #[]) = some (Value.agg #[Value.pointer none, Value.slice none 0 0]) := by kernel_rfl
theorem T_64_uint32.und : PG.underlying T_64_uint32 = some (TypeDesc.array 64 91) := Tryz.underlying149
theorem T_64_uint32.info : PG.info? T_64_uint32 = some Tryz.t149 := by kernel_rfl
theorem T_64_uint32.size : Tryz.t149.size = 64 := rfl
theorem T_64_uint32.bytes : Tryz.t149.bytes = 256 := rfl
theorem T_64_uint32.zero : Tryz.t149.zero = some (Value.agg #[Value.int IntKind.u32 0, Value.int IntKind.u32 0, Value.int IntKind.u32 0, Value.int IntKind.u32 0, Value.int IntKind.u32 0, Value.int IntKind.u32 0, Value.int IntKind.u32 0, Value.int IntKind.u32 0, Value.int IntKind.u32 0, Value.int IntKind.u32 0, Value.int IntKind.u32 0, Value.int IntKind.u32 0, Value.int IntKind.u32 0, Value.int IntKind.u32 0, Value.int IntKind.u32 0, Value.int IntKind.u32 0, Value.int IntKind.u32 0, Value.int IntKind.u32 0, Value.int IntKind.u32 0, Value.int IntKind.u32 0, Value.int IntKind.u32 0, Value.int IntKind.u32 0, Value.int IntKind.u32 0, Value.int IntKind.u32 0, Value.int IntKind.u32 0, Value.int IntKind.u32 0, Value.int IntKind.u32 0, Value.int IntKind.u32 0, Value.int IntKind.u32 0, Value.int IntKind.u32 0, Value.int IntKind.u32 0, Value.int IntKind.u32 0, Value.int IntKind.u32 0, Value.int IntKind.u32 0, Value.int IntKind.u32 0, Value.int IntKind.u32 0, Value.int IntKind.u32 0, Value.int IntKind.u32 0, Value.int IntKind.u32 0, Value.int IntKind.u32 0, Value.int IntKind.u32 0, Value.int IntKind.u32 0, Value.int IntKind.u32 0, Value.int IntKind.u32 0, Value.int IntKind.u32 0, Value.int IntKind.u32 0, Value.int IntKind.u32 0, Value.int IntKind.u32 0, Value.int IntKind.u32 0, Value.int IntKind.u32 0, Value.int IntKind.u32 0, Value.int IntKind.u32 0, Value.int IntKind.u32 0, Value.int IntKind.u32 0, Value.int IntKind.u32 0, Value.int IntKind.u32 0, Value.int IntKind.u32 0, Value.int IntKind.u32 0, Value.int IntKind.u32 0, Value.int IntKind.u32 0, Value.int IntKind.u32 0, Value.int IntKind.u32 0, Value.int IntKind.u32 0, Value.int IntKind.u32 0]) := rfl
theorem T_64_uint32.zc : zcells PG T_64_uint32 = ((Value.agg #[Value.int IntKind.u32 0, Value.int IntKind.u32 0, Value.int IntKind.u32 0, Value.int IntKind.u32 0, Value.int IntKind.u32 0, Value.int IntKind.u32 0, Value.int IntKind.u32 0, Value.int IntKind.u32 0, Value.int IntKind.u32 0, Value.int IntKind.u32 0, Value.int IntKind.u32 0, Value.int IntKind.u32 0, Value.int IntKind.u32 0, Value.int IntKind.u32 0, Value.int IntKind.u32 0, Value.int IntKind.u32 0, Value.int IntKind.u32 0, Value.int IntKind.u32 0, Value.int IntKind.u32 0, Value.int IntKind.u32 0, Value.int IntKind.u32 0, Value.int IntKind.u32 0, Value.int IntKind.u32 0, Value.int IntKind.u32 0, Value.int IntKind.u32 0, Value.int IntKind.u32 0, Value.int IntKind.u32 0, Value.int IntKind.u32 0, Value.int IntKind.u32 0, Value.int IntKind.u32 0, Value.int IntKind.u32 0, Value.int IntKind.u32 0, Value.int IntKind.u32 0, Value.int IntKind.u32 0, Value.int IntKind.u32 0, Value.int IntKind.u32 0, Value.int IntKind.u32 0, Value.int IntKind.u32 0, Value.int IntKind.u32 0, Value.int IntKind.u32 0, Value.int IntKind.u32 0, Value.int IntKind.u32 0, Value.int IntKind.u32 0, Value.int IntKind.u32 0, Value.int IntKind.u32 0, Value.int IntKind.u32 0, Value.int IntKind.u32 0, Value.int IntKind.u32 0, Value.int IntKind.u32 0, Value.int IntKind.u32 0, Value.int IntKind.u32 0, Value.int IntKind.u32 0, Value.int IntKind.u32 0, Value.int IntKind.u32 0, Value.int IntKind.u32 0, Value.int IntKind.u32 0, Value.int IntKind.u32 0, Value.int IntKind.u32 0, Value.int IntKind.u32 0, Value.int IntKind.u32 0, Value.int IntKind.u32 0, Value.int IntKind.u32 0, Value.int IntKind.u32 0, Value.int IntKind.u32 0])).cells := by kernel_rfl
theorem T_64_uint32.loadAgg {h : PH} {b o : Nat} {c : Array Value} {e : TypeId} {fr : Nat × Nat} (hb : h b = some (.cells c e fr)) (hle : o + 64 ≤ c.size) : SemE PG h (Instr.loadAt T_64_uint32 (.pointer (some ⟨b, o, none⟩))) = some (.agg (c.extract o (o + 64))) := loadAt_agg T_64_uint32.und rfl T_64_uint32.info T_64_uint32.size hb hle
theorem T_p_uint8.und : PG.underlying T_p_uint8 = some (TypeDesc.pointer 5) := Tryz.underlying158
theorem T_p_uint8.info : PG.info? T_p_uint8 = some Tryz.t158 := by kernel_rfl
theorem T_p_uint8.size : Tryz.t158.size = 1 := rfl
theorem T_p_uint8.bytes : Tryz.t158.bytes = 8 := rfl
theorem T_p_uint8.zero : Tryz.t158.zero = some (Value.pointer none) := rfl
theorem T_p_uint8.zc : zcells PG T_p_uint8 = ((Value.pointer none)).cells := by kernel_rfl
theorem T_p_uint8.load {h : PH} {a : Addr} : SemE PG h (Instr.loadAt T_p_uint8 (.pointer (some a))) = cellH h a := loadAt_cell T_p_uint8.und rfl
theorem T_unsafe_Pointer.und : PG.underlying T_unsafe_Pointer = some TypeDesc.unsafePointer := Tryz.underlying159
theorem T_unsafe_Pointer.info : PG.info? T_unsafe_Pointer = some Tryz.t159 := by kernel_rfl
theorem T_unsafe_Pointer.size : Tryz.t159.size = 1 := rfl
theorem T_unsafe_Pointer.bytes : Tryz.t159.bytes = 8 := rfl
theorem T_unsafe_Pointer.zero : Tryz.t159.zero = some (Value.pointer none) := rfl
theorem T_unsafe_Pointer.zc : zcells PG T_unsafe_Pointer = ((Value.pointer none)).cells := by kernel_rfl
theorem T_unsafe_Pointer.load {h : PH} {a : Addr} : SemE PG h (Instr.loadAt T_unsafe_Pointer (.pointer (some a))) = cellH h a := loadAt_cell T_unsafe_Pointer.und rfl
end Go.Proofs.YtllopddcpkhfjaaGreatDoor
