/- Bytes: a slice of them to a text. -/
import Derived.Test.YtllopddcpkhfjaaDoorHCut
set_option linter.unusedSimpArgs false
set_option linter.unusedVariables false
namespace Go.Proofs.YtllopddcpkhfjaaDoor
open Go
section
variable {P : Program} {h : PH} {t t' t2 e : TypeId}
def bcell (b : UInt8) : List Value := [.int .u8 b.toNat]
theorem bcell.rows (l : List UInt8) : Rows 1 (l.map bcell) := fun r hr => by
  obtain ⟨m, _, rfl⟩ := List.mem_map.1 hr; rfl
theorem bcell.isCell (l : List UInt8) : ∀ r ∈ l.map bcell, ∀ u ∈ r, isCell u = true := fun r hr u hu => by
  obtain ⟨m, _, rfl⟩ := List.mem_map.1 hr
  simp only [bcell, List.mem_cons, List.not_mem_nil, or_false] at hu
  subst hu; rfl
theorem bcell.flat (l : List UInt8) : (l.map bcell).flatten = l.map fun b => Value.int .u8 b.toNat := by
  induction l with
  | nil => rfl
  | cons b bs ih => simp [bcell, ih]
theorem semE_pushes {body : Value → ByteArray → Sem (ForInStep ByteArray)} (hb : ∀ (b : UInt8) (s : ByteArray), body (.int .u8 b.toNat) s = pure (.yield (s.push b))) : ∀ (l : List UInt8) (s : ByteArray),
    SemE P h (forIn (l.map fun b => Value.int .u8 b.toNat) s body) = some ⟨s.data ++ l.toArray⟩
  | [], s => by simp [SemE, pure]
  | b :: bs, s => by
    rw [List.map_cons, List.forIn_cons, semE_bind, hb]
    show SemE P h (forIn (bs.map _) (s.push b) body) = _
    rw [semE_pushes hb bs (s.push b)]
    congr 1
    apply ByteArray.ext
    show (s.push b).data ++ bs.toArray = _
    rw [ByteArray.data_push]
    apply Array.ext'
    simp
theorem conv_bytes {x : Value} {l : List UInt8} (hu : P.underlying t = some (.slice e)) (he : P.underlying e = some (.int .u8)) (hs : P.underlying t2 = some .string) (S : SlR h 1 x (l.map bcell)) :
    SemE P h (convert t t2 x) = some (.string ⟨l.toArray⟩) := by
  have hf := S.first (P := P)
  obtain ⟨a, c, rfl, h1, h2, h3, h4⟩ := S.here
  show SemE P h (underlying t >>= _) = _
  rw [semE_und hu]
  show SemE P h (underlying t2 >>= _) = _
  rw [semE_und hs]
  show SemE P h (underlying e >>= _) = _
  rw [semE_und he]
  simp only [List.length_map, bcell.flat] at hf ⊢
  show SemE P h (Conv.bytesToString (.slice a l.length c)) = _
  unfold Conv.bytesToString
  cases a with
  | none =>
    have : l = [] := by
      by_cases h0 : l = []
      · exact h0
      · obtain ⟨b, o, cs, e, fr, hh, _⟩ := h3 (by simpa using h0); cases hh
    subst this
    rfl
  | some a =>
    have hf' : SemE P h (loadCells a l.length) = some (l.map fun b => Value.int .u8 b.toNat).toArray := by
      have : Builtin.firstCells 1 l.length (.slice (some a) l.length c) = loadCells a (l.length * 1) := rfl
      rw [this, Nat.mul_one] at hf
      exact hf
    show SemE P h (loadCells a l.length >>= _) = _
    rw [semE_bind, hf', Option.bind_some]
    rw [semE_bind, ← Array.forIn_toList, semE_pushes]
    · rw [Option.bind_some]
      show some (Value.string _) = _
      congr 2
      apply ByteArray.ext
      simp
    · intro b s
      simp
/-- An element's place; each of its cells; the whole. -/
theorem SlR.fields {size : Nat} {v : Value} {rows : List (List Value)} (H : SlR h size v rows) {i : TypeInfo} (hu : P.underlying t = some (.slice e)) (hi : P.info? e = some i) (hn : i.size = size) {k : IntKind} {j : Nat} {r : List Value} (hr : rows[j]? = some r) :
    ∃ b o, SemP P (Instr.indexAt t v (.int k j)) = some (.pointer (some ⟨b, o, none⟩)) ∧ (∀ q c, r[q]? = some c → cellH h ⟨b, o + q, none⟩ = some c) ∧ ∀ d, P.underlying e = some d → flatD d = false → SemE P h (Instr.loadAt e (.pointer (some ⟨b, o, none⟩))) = some (.agg r.toArray) := by
  obtain ⟨b, o, cs, e', fr, h1, hb, hle, hex⟩ := H.at hu hi hn (k := k) (j := (j : Int)) (by omega) hr
  refine ⟨b, o, h1, fun q c hq => ?_, fun d he hd => ?_⟩
  · have hql : q < size := by
      have := (List.getElem?_eq_some_iff.1 hq).1
      rwa [H.ok r (List.mem_of_getElem? hr)] at this
    unfold cellH
    simp only [hb]
    rw [← hex] at hq
    simp only [Array.toList_extract, List.extract_eq_take_drop, Nat.add_sub_cancel_left, List.getElem?_take, List.getElem?_drop, hql, if_true] at hq
    simpa using hq
  · rw [loadAt_agg he hd hi hn hb hle]
    congr 2
    exact Array.ext' hex
end
end Go.Proofs.YtllopddcpkhfjaaDoor
