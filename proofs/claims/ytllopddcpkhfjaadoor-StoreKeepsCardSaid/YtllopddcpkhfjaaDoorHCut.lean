/- A cut up to its own capacity, appended to: always a new block; a map's length; whole-number and text keys. -/
import Derived.Test.YtllopddcpkhfjaaDoorHMap
set_option linter.unusedSimpArgs false
set_option linter.unusedVariables false
namespace Go.Proofs.YtllopddcpkhfjaaDoor
open Go
section
variable {P : Program} {h : PH} {t t' t2 e : TypeId}
/-- append(v[:n:n], x...) with something to append: v's block stays as it is. -/
theorem append_grow {size bytes n : Nat} {v x : Value} {rows ys : List (List Value)} {i : TypeInfo} {z : Value} {e2 : TypeId} {va : Option Addr} {k : Value → PH → Prop}
    (hu : P.underlying t = some (.slice e)) (hu2 : P.underlying t2 = some (.slice e2)) (hi : P.info? e = some i) (hn : i.size = size) (hby : i.bytes = bytes) (hz : i.zero = some z) (hzs : z.cells.size = size) (hb0 : 0 < bytes)
    (H : SlR h size v rows) (hv : v = .slice va n n) (S : SlR h size x ys) (hl : (rows.length + ys.length) * bytes ≤ 140737488355328) (hne : ys ≠ [])
    (hk : ∀ v' h' F', OwnR h' e size v' (rows ++ ys) F' → Ext h h' → (∀ b ∈ F', h b = none) → k v' h') : SemH P (Builtin.append_ #[t, t2] t' #[v, x]) h k := by
  have hbig : rows.length + ys.length ≤ 140737488355328 := Nat.le_trans (Nat.le_mul_of_pos_right _ hb0) hl
  obtain ⟨xa, xc, hx, hx1, hx2, hx3, hx4⟩ := S.here
  have hfirst := S.first (P := P)
  have hrows : Rows size (rows ++ ys) := H.ok.append S.ok
  have hpos : 0 < ys.length := List.length_pos_iff.2 hne
  have grown : ∀ (m : Nat), rows.length + ys.length ≤ m → m ≤ maxL → ∀ r, h r = none →
      k (.slice (some ⟨r, 0, none⟩) (rows.length + ys.length) m) (h.set r (.cells (rows.flatten.toArray ++ ys.flatten.toArray ++ Builtin.zeroCells z.cells (m - (rows.length + ys.length))) e (0, 0))) := by
    intro m hm hmax r hr
    refine hk _ _ [r] ⟨hrows, .inr ⟨r, m, _, by rw [List.length_append], rfl, set_same, by simpa using hm, hmax, ?_, ?_⟩⟩ (Upd.new hr) (fun b hb => by simp at hb; subst hb; exact hr)
    · simp only [Array.size_append, List.size_toArray, H.ok.flat, S.ok.flat, Builtin.zeroCells, Array.size_map, Array.size_range, hzs]
      rw [← Nat.add_mul, ← Nat.add_mul]; congr 1; omega
    · have hlen : (rows ++ ys).length * size = (rows.flatten ++ ys.flatten).length := by rw [List.length_append, List.length_append, H.ok.flat, S.ok.flat, Nat.add_mul]
      simp only [Array.toList_append, hlen, List.flatten_append]
      rw [List.take_append_of_le_length (Nat.le_refl _), List.take_length]
  obtain ⟨va', vc, hv', hv1, hv2, _, _⟩ := H.here
  have hvfirst := H.first (P := P)
  have hvc : vc = rows.length := by
    rw [hv] at hv'
    simp only [Value.slice.injEq] at hv'
    omega
  rw [hvc] at hv'
  subst hx; subst hv'
  simp only [Builtin.append_, List.getElem?_toArray, List.getElem?_cons_zero, List.getElem?_cons_succ, semH_und hu, semH_und hu2, sizeOf_bind, semH_info hi, pure_bind, Bool.false_eq_true, if_false, Builtin.lenOf, Bool.not_false, if_true, hn]
  have hfit : ¬ rows.length + ys.length ≤ rows.length := by omega
  rw [if_neg hfit]
  have hlt : rows.length < rows.length + ys.length := by omega
  have h63 : ¬ (((rows.length + ys.length : Nat) : Int) > IntKind.i64.max ∧ (False ∨ i.bytes = 0)) := by
    rintro ⟨_, hh⟩
    rcases hh with hh | hh
    · exact hh
    · omega
  have hfits : ¬ (Builtin.nextslicecap (rows.length + ys.length) rows.length * i.bytes > 2 ^ 48) := by
    rw [hby]
    have := growslice_fits hlt hl
    omega
  rw [semH_info hi, if_neg h63, semH_info hi, if_neg hfits, semH_choose]
  intro tt
  rw [semH_info hi, semH_askRoom]
  refine semH_of_semE hvfirst (semH_of_semE hfirst ?_)
  have hzv : zeroValue e = (typeInfo e >>= fun i => match i.zero with | some v => pure v | none => unsupported (.resourceLimit "a value of more than 2^22 cells")) := rfl
  rw [hzv, bind_assoc, semH_info hi, hz, pure_bind]
  have hcut : ∀ n m : Nat, n ≤ 140737488355328 → n ≤ (Question.appendCap n m e).cut tt ∧ (Question.appendCap n m e).cut tt ≤ maxL := by
    intro n m hn
    have hpos : 0 < 2 ^ 63 - n := by omega
    have := Nat.mod_lt tt hpos
    simp only [Question.cut, maxL]
    omega
  have hforced : (Question.appendCap (rows.length + ys.length) rows.length e).forced = false := rfl
  rw [hforced]
  obtain ⟨hc1, hc2⟩ := hcut (rows.length + ys.length) rows.length hbig
  intro r hr
  exact grown _ hc1 hc2 r hr

/-- v[:m:m]. -/
theorem SlR.full {size : Nat} {v : Value} {rows : List (List Value)} (H : SlR h size v rows) {i : TypeInfo} (hu : P.underlying t = some (.slice e)) (hi' : P.info? e = some i) {m : Nat} {k2 k3 : IntKind} (h2 : m ≤ rows.length) :
    ∃ va, SemP P (Instr.sliceAt t v none (some (.int k2 m)) (some (.int k3 m))) = some (.slice va m m) ∧ SlR h size (.slice va m m) (rows.take m) := by
  obtain ⟨a, c, rfl, hc1, hc2, hc3, hc4⟩ := H.here
  have hlen : (rows.take m).length = m := by simp; omega
  refine ⟨a, ?_, H.ok.take m, ⟨a, m, by rw [hlen], by omega, by omega, fun hne => ?_, trivial⟩⟩
  · show SemP P (underlying t >>= _) = _
    rw [semP_und hu]
    show SemP P (underlying t >>= _) = _
    rw [semP_und hu]
    have hb : Instr.sliceBounds true rows.length c none (some (.int k2 m)) (some (.int k3 m)) = pure (0, m, m) := by
      have hcast : ∀ n m : Nat, n ≤ m → (0 ≤ (n : Int) ∧ (n : Int) ≤ (m : Int)) := fun n m h => by omega
      simp [Instr.sliceBounds, Instr.sliceBound, asIntOf, hcast, show m ≤ c by omega]
    simp only [hb, pure_bind]
    rw [sizeOf_bind, semP_info hi']
    show some (Value.slice (if m = 0 then a else a.map (·.add (0 * i.size))) (m - 0) (m - 0)) = _
    have : a.map (·.add (0 * i.size)) = a := by
      cases a with
      | none => rfl
      | some x =>
        have : x.add (0 * i.size) = x := by
          obtain ⟨b, o, w⟩ := x
          cases w <;> simp [Addr.add]
        rw [Option.map_some, this]
    rw [this]
    simp
  · have hne' : rows ≠ [] := by rintro rfl; simp at hne
    obtain ⟨b, o, cs, e', fr, rfl, hb, hle, hex⟩ := hc3 hne'
    have hm1 : m * size ≤ rows.length * size := Nat.mul_le_mul_right _ h2
    refine ⟨b, o, cs, e', fr, rfl, hb, by rw [hlen]; omega, ?_⟩
    rw [hlen, H.ok.flat_take, ← hex]
    simp only [Array.toList_extract, List.extract_eq_take_drop]
    rw [List.take_take, Nat.min_eq_left (by omega)]
    congr 1
    omega
theorem MapAt.len {α : Type} [DecidableEq α] {enc : α → Value} {r : Nat} {l : List (α × Value)} (H : MapAt enc h r l) {k v : TypeId} (hu : P.underlying t = some (.map k v)) : SemE P h (Builtin.len_ #[t] t' #[.map (some r)]) = some (.int .i64 l.length) := by
  obtain ⟨es, c, L, h1, h2, rfl, _⟩ := H.here
  rw [len_map hu h1]
  have : es.size = L.length := by rw [← Array.length_toList, h2]; simp [ents]
  rw [this, List.length_map]

theorem beq_dec' {a b : Int} : (a == b) = decide (a = b) := by rw [Bool.eq_iff_iff]; simp
def ukey (x : Int) : Value := .int .u64 x
theorem ukeyed (hu : P.underlying t = some (.int .u64)) : Keyed P t ukey where
  chk := fun h b a => by
    unfold ukey
    rw [show (10000 : Nat) = 9999 + 1 from rfl]
    cases b <;> (rw [Instr.checkKey]; try rw [semE_und hu]) <;> rfl
  eq := fun h a b => by
    unfold ukey
    show SemE P h (Op.equalIn (9999 + 1) t _ _) = _
    rw [eqIn_int hu, beq_dec']
  bits := fun a => by unfold ukey; rw [show (10000 : Nat) = 9999 + 1 from rfl]; simp [Instr.sameBits]
  now := ⟨_, hu, .inr fun a b => by unfold ukey; simp [Instr.sameNow, beq_dec']⟩

end
end Go.Proofs.YtllopddcpkhfjaaDoor
