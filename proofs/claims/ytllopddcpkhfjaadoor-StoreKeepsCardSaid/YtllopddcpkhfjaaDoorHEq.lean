/- Values held against each other: structs of numbers and texts. -/
import Derived.Test.YtllopddcpkhfjaaDoorHMore
set_option linter.unusedSimpArgs false
set_option linter.unusedVariables false
namespace Go.Proofs.YtllopddcpkhfjaaDoor
open Go
section
variable {P : Program} {h : PH} {t e : TypeId}
theorem eqIn_int {d : Nat} {k k' : IntKind} {a b : Int} (hu : P.underlying t = some (.int k')) : SemE P h (Op.equalIn (d + 1) t (.int k a) (.int k b)) = some (a == b) := by
  rw [Op.equalIn, semE_und hu]; simp [SemE, pure]
theorem beq_bytes (a b : ByteArray) : (a == b) = decide (a = b) := by
  obtain ⟨x⟩ := a
  obtain ⟨y⟩ := b
  show (x == y) = _
  rw [Bool.eq_iff_iff]
  simp
theorem eqIn_string {d : Nat} {a b : ByteArray} (hu : P.underlying t = some .string) : SemE P h (Op.equalIn (d + 1) t (.string a) (.string b)) = some (a == b) := by
  rw [Op.equalIn, semE_und hu]; simp [SemE, pure]
theorem eqIn_bool {d : Nat} {a b : Bool} (hu : P.underlying t = some .bool) : SemE P h (Op.equalIn (d + 1) t (.bool a) (.bool b)) = some (a == b) := by
  rw [Op.equalIn, semE_und hu]; simp [SemE, pure]
theorem semE_forIn {β : Type} {fs : List Field} {s0 s1 : β} {body : Field → β → Sem (ForInStep β)} (g : Field → Bool)
    (hb : ∀ f ∈ fs, SemE P h (body f s0) = some (if g f then .yield s0 else .done s1)) : SemE P h (forIn fs s0 body) = some (if fs.all g then s0 else s1) := by
  induction fs with
  | nil => rfl
  | cons f fs ih =>
    rw [List.forIn_cons, semE_bind, hb f (by simp)]
    cases hg : g f with
    | true => simp only [if_true, Option.bind_some, List.all_cons, hg, Bool.true_and]; exact ih fun x hx => hb x (by simp [hx])
    | false => simp [List.all_cons, hg, SemE, pure]
theorem eqIn_struct {d : Nat} {fields : Array Field} {xs ys : Array Value} (hu : P.underlying t = some (.struct fields)) (hs : P.stoodInHeld t = false) (g : Field → Bool)
    (hf : ∀ f ∈ fields.toList, f.name ≠ "_" ∧ ∃ a b, SemE P h (part f.type xs f.offset) = some a ∧ SemE P h (part f.type ys f.offset) = some b ∧ SemE P h (Op.equalIn d f.type a b) = some (g f)) :
    SemE P h (Op.equalIn (d + 1) t (.agg xs) (.agg ys)) = some (fields.toList.all g) := by
  rw [Op.equalIn, semE_und hu]
  simp only [bind_pure_comp, pure_bind]
  have hp : ∀ {α : Type} (f : Program → Sem α), SemE P h (program >>= f) = SemE P h (f P) := fun f => rfl
  have hp2 : ∀ {α β : Type} (g : Program → β) (f : β → Sem α), SemE P h ((g <$> program) >>= f) = SemE P h (f (g P)) := fun g f => rfl
  first
    | rw [hp]
    | skip
  simp only [hs, Bool.false_eq_true, if_false]
  rw [← Array.forIn_toList, semE_bind, semE_forIn (s1 := ⟨some false, ()⟩) g]
  · cases hx : fields.toList.all g <;> simp [SemE, pure]
  · intro f hfm
    obtain ⟨hn, a, b, ha, hb, hab⟩ := hf f hfm
    simp only [ne_eq, hn, not_false_eq_true, if_true]
    rw [semE_bind, ha, Option.bind_some, semE_bind, hb, Option.bind_some, semE_bind, hab, Option.bind_some]
    cases g f <;> rfl
theorem eqlStruct {x y : Operand} {xs ys : Array Value} {b : Bool} (hg : P.eqGuardType P.depth t = false) (he : SemE P h (Op.equalIn (9999 + 1) t (.agg xs) (.agg ys)) = some b) :
    SemE P h (binS .eql t x y (.agg xs) (.agg ys)) = some (.bool b) := by
  show SemE P h (eqGuard .eql t x y (.agg xs) (.agg ys) >>= fun _ => binOp .eql t (.agg xs) (.agg ys)) = _
  rw [semE_bind]
  have : SemE P h (eqGuard .eql t x y (.agg xs) (.agg ys)) = some () := by
    unfold eqGuard
    show SemE P h (if !P.eqGuardType P.depth t then pure () else _) = _
    rw [hg]; rfl
  rw [this, Option.bind_some]
  show SemE P h (Op.equalIn (9999 + 1) t (.agg xs) (.agg ys) >>= fun b => (pure (Value.bool b) : Sem Value)) = _
  rw [semE_bind, he]; rfl
theorem neqStruct {x y : Operand} {xs ys : Array Value} {b : Bool} (hg : P.eqGuardType P.depth t = false) (he : SemE P h (Op.equalIn (9999 + 1) t (.agg xs) (.agg ys)) = some b) :
    SemE P h (binS .neq t x y (.agg xs) (.agg ys)) = some (.bool (!b)) := by
  show SemE P h (eqGuard .neq t x y (.agg xs) (.agg ys) >>= fun _ => binOp .neq t (.agg xs) (.agg ys)) = _
  rw [semE_bind]
  have : SemE P h (eqGuard .neq t x y (.agg xs) (.agg ys)) = some () := by
    unfold eqGuard
    show SemE P h (if !P.eqGuardType P.depth t then pure () else _) = _
    rw [hg]; rfl
  rw [this, Option.bind_some]
  show SemE P h (Op.equalIn (9999 + 1) t (.agg xs) (.agg ys) >>= fun b => (pure (Value.bool (!b)) : Sem Value)) = _
  rw [semE_bind, he]; rfl
theorem part_cell {d : TypeDesc} {cs : Array Value} {o : Nat} {v : Value} (hu : P.underlying t = some d) (hd : flatD d = true) (hv : cs[o]? = some v) : SemE P h (part t cs o) = some v := by
  unfold part
  rw [semE_agg hu, hd]
  simp [hv, SemE, pure]
theorem part_agg {d : TypeDesc} {cs : Array Value} {o n : Nat} {i : TypeInfo} (hu : P.underlying t = some d) (hd : flatD d = false) (hi : P.info? t = some i) (hn : i.size = n) : SemE P h (part t cs o) = some (.agg (cs.extract o (o + n))) := by
  unfold part
  rw [semE_agg hu, hd]
  simp only [Bool.not_false, if_true]
  rw [sizeOf_bind, semE_info hi, hn]; rfl
end
end Go.Proofs.YtllopddcpkhfjaaDoor
