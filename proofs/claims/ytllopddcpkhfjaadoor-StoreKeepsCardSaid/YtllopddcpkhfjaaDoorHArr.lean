/- Arrays: their elements' places, and arrays held against each other. -/
import Derived.Test.YtllopddcpkhfjaaDoorHByt
set_option linter.unusedSimpArgs false
set_option linter.unusedVariables false
namespace Go.Proofs.YtllopddcpkhfjaaDoor
open Go
section
variable {P : Program} {h : PH} {t e : TypeId}
theorem semE_forInN {α β : Type} {fs : List α} {s0 s1 : β} {body : α → β → Sem (ForInStep β)} (g : α → Bool)
    (hb : ∀ f ∈ fs, SemE P h (body f s0) = some (if g f then .yield s0 else .done s1)) : SemE P h (forIn fs s0 body) = some (if fs.all g then s0 else s1) := by
  induction fs with
  | nil => rfl
  | cons f fs ih =>
    rw [List.forIn_cons, semE_bind, hb f (by simp)]
    cases hg : g f with
    | true => simp only [if_true, Option.bind_some, List.all_cons, hg, Bool.true_and]; exact ih fun x hx => hb x (by simp [hx])
    | false => simp [List.all_cons, hg, SemE, pure]
theorem eqIn_array {d n size : Nat} {xs ys : Array Value} {i : TypeInfo} (hu : P.underlying t = some (.array n e)) (hi : P.info? e = some i) (hn : i.size = size) (g : Nat → Bool)
    (hf : ∀ j, j < n → ∃ a b, SemE P h (part e xs (j * size)) = some a ∧ SemE P h (part e ys (j * size)) = some b ∧ SemE P h (Op.equalIn d e a b) = some (g j)) :
    SemE P h (Op.equalIn (d + 1) t (.agg xs) (.agg ys)) = some ((List.range n).all g) := by
  rw [Op.equalIn, semE_und hu]
  simp only [sizeOf_bind, semE_info hi, hn]
  simp only [Std.Legacy.Range.forIn_eq_forIn_range', Std.Legacy.Range.size, Nat.sub_zero, Nat.add_sub_cancel, Nat.div_one]
  rw [semE_bind, ← List.range_eq_range', semE_forInN (s1 := ⟨some false, ()⟩) g]
  · cases hx : (List.range n).all g <;> simp [SemE, pure]
  · intro j hj
    obtain ⟨a, b, ha, hb, hab⟩ := hf j (List.mem_range.1 hj)
    rw [semE_bind, ha, Option.bind_some, semE_bind, hb, Option.bind_some, semE_bind, hab, Option.bind_some]
    cases g j <;> rfl
theorem indexAt_array {b o n len : Nat} {k : IntKind} {j : Int} {i : TypeInfo} (hu : P.underlying t = some (.array len e)) (hi : P.info? e = some i) (hn : i.size = n) (h0 : 0 ≤ j) (h1 : j < len) :
    SemP P (Instr.indexAt t (.pointer (some ⟨b, o, none⟩)) (.int k j)) = some (.pointer (some ⟨b, o + j.toNat * n, none⟩)) := by
  show SemP P (underlying t >>= _) = _
  rw [semP_und hu]
  show SemP P (underlying t >>= _) = _
  rw [semP_und hu]
  simp only [h0, h1, and_self, if_true]
  rw [sizeOf_bind, semP_info hi, hn, plain_add]; rfl
def ikey (x : Int) : Value := .int .i64 x
theorem ikeyed (hu : P.underlying t = some (.int .i64)) : Keyed P t ikey where
  chk := fun h b a => by
    unfold ikey
    rw [show (10000 : Nat) = 9999 + 1 from rfl]
    cases b <;> (rw [Instr.checkKey]; try rw [semE_und hu]) <;> rfl
  eq := fun h a b => by
    unfold ikey
    show SemE P h (Op.equalIn (9999 + 1) t _ _) = _
    rw [eqIn_int hu, beq_dec']
  bits := fun a => by unfold ikey; rw [show (10000 : Nat) = 9999 + 1 from rfl]; simp [Instr.sameBits]
  now := ⟨_, hu, .inr fun a b => by unfold ikey; simp [Instr.sameNow, beq_dec']⟩
end
end Go.Proofs.YtllopddcpkhfjaaDoor
