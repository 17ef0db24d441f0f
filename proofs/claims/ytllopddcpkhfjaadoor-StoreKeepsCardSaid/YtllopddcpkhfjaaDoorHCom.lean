/- What the contracts share: wraps, measures, fresh blocks. -/
import Derived.Test.YtllopddcpkhfjaaDoorHStr
import Derived.Test.YtllopddcpkhfjaaDoorSh
set_option linter.unusedSimpArgs false
set_option linter.unusedVariables false
namespace Go.Proofs.YtllopddcpkhfjaaDoor
open Go
theorem i64_wrap {x : Int} (h1 : -9223372036854775808 ≤ x) (h2 : x ≤ 9223372036854775807) : IntKind.i64.wrap x = x := IntWalk.i64_in _ ⟨h1, h2⟩
def upTo (n : Nat) (i : Nat) : List Value → PH → Nat := fun vs _ => match vs[i]? with
  | some (.int _ j) => n - j.toNat
  | _ => 0
def Fresh (h : PH) (F : List Nat) : Prop := ∀ b ∈ F, h b = none
theorem Fresh.one {h : PH} {a : Nat} (ha : h a = none) : Fresh h [a] := fun b hb => by simp at hb; subst hb; exact ha
theorem Ext.none {h h1 : PH} (u : Ext h h1) {b : Nat} (hb : h1 b = none) : h b = none := by
  cases e : h b with
  | none => rfl
  | some o => rw [u.get e] at hb; cases hb
theorem Fresh.grow {h h1 : PH} {F F' : List Nat} (f : Fresh h F) (u : Ext h h1) (hg : ∀ b ∈ F', b ∈ F ∨ h1 b = none) : Fresh h F' := fun b hb => by
  rcases hg b hb with h1 | h1
  · exact f b h1
  · exact u.none h1
theorem Fresh.of {h h1 : PH} {F : List Nat} (f : Fresh h1 F) (u : Ext h h1) : Fresh h F := fun b hb => u.none (f b hb)
theorem Ext.trans {h h1 h2 : PH} (u : Ext h h1) (v : Ext h1 h2) : Ext h h2 := Upd.trans u v
theorem Ext.fresh {h h1 h2 : PH} {F : List Nat} (u : Ext h h1) (v : Upd F h1 h2) (f : Fresh h F) : Ext h h2 := fun b o hb _ =>
  v b o (u.get hb) fun hm => by rw [f b hm] at hb; cases hb
theorem OwnR.ext {h h' : PH} {e : TypeId} {size : Nat} {v : Value} {rows : List (List Value)} {F : List Nat} (H : OwnR h e size v rows F) (u : Ext h h') : OwnR h' e size v rows F := H.upd u (by simp)
theorem popO_pure {α : Type} {v : α} {k : α → Prop} (hk : k v) : popO (SemP PG (pure v)) k := hk
theorem u64_wrap {x : Int} (h1 : 0 ≤ x) (h2 : x < 18446744073709551616) : IntKind.u64.wrap x = x := by
  unfold IntKind.wrap
  simp [IntKind.signed, IntKind.bits]
  omega
theorem u8_wrap (x : Int) : IntKind.u8.wrap x = x % 256 := by
  unfold IntKind.wrap
  simp [IntKind.signed, IntKind.bits]
end Go.Proofs.YtllopddcpkhfjaaDoor
