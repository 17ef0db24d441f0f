/-
  NARROWER THAN 'FOR EVERY INPUT', by the rows' own cells (each row's printed sentence says how): ModelOrder: laid · ModelTells: laid · ModelCounts: laid.
  DERIVED. THE GIVEN ROWS OF THIS SEAT. 3 by the template 'for every input the law returns true; each argument reads behind the call as it read before'; 0 by the template 'total and deterministic' (their statements: YtbloalappckjhaaDoorTotals.lean).
  GIVEN WITH THE SEED: the statements are not yours to turn. If you find one false, say at which input.
  Laid BY PROGRAM, IN A SANDBOX (cutbox-rows.mjs): the forced cells as the released guide's own fill.sh prints them over the translation 8f8250b4b90b2026… (all of the seat's roots in one cut). By AI agents, Wed Nov 11 2026. No macro, syntax, notation, axiom, sorry.
-/
import Derived.Test.YtbloalappckjhaaDoorChecked
import GoSem.Claim
import GoSem.ClaimJoined
import GoSem.ClaimMapViews
import Derived.JoinedTies
import Derived.KernelRfl
namespace Go.Proofs.YtbloalappckjhaaDoor
/- THE CELL 'sum', in the pinned program and in every row, IS THE sha256 OF THE DUMP (.gsa) THAT YtbloalappckjhaaDoorProg.lean LOADS. Nothing in Lean hashes anything: it is a label: what it is worth is what the hold of that sum in a sandbox is worth. -/
noncomputable def Tryd.pinned : Pinned := { name := "ytbloalappckjhaadoor", sum := "8f8250b4b90b20262329e0a5dfd7ec6c4fca75617a8ec58ab3fd83e8d1b89ab3", checked := Tryd.checked }
namespace Rows
def none {H : Type} : Left H := { results := [], args := [] }

/- WHAT THE LISTED PACKAGE-LEVEL VARIABLES READ AS WHEN THE CALL BEGINS. Each datum BY PROGRAM (the guide's laid-datum.mjs) off the statement by which the dump's own 'gosem.cut.vars' lays the variable. In a bare row this is a premise. The card (YtbloalappckjhaaDoorCards.lean) ties it to the program's text. -/
def laid_carrack_model_follows {H : Type} : DataW H := .agg [.agg [.lit (.int .i64 0), .lit (.int .i64 1)], .agg [.lit (.int .i64 1), .lit (.int .i64 2)], .agg [.lit (.int .i64 1), .lit (.int .i64 4)], .agg [.lit (.int .i64 2), .lit (.int .i64 3)]]

/-- 'carracklaw22.ModelOrder': WHATEVER THE INPUT: true; the input reads as it did. -/
def modelOrderSpec : ChangeSpec := { name := "modelOrder", fn := fun _ => fun
  | [d1, d2, d3, d4] => { results := [.lit (.bool true)], args := [d1, d2, d3, d4] }
  | _ => none }
def modelOrderRow : OpenClaim := { program := "ytbloalappckjhaadoor", sum := "8f8250b4b90b20262329e0a5dfd7ec6c4fca75617a8ec58ab3fd83e8d1b89ab3", func := "carrack/carracklaw22.ModelOrder", spec := "modelOrder", unfollowed := true, recurses := true, named := ["carrack/model.follows"], plainKeys := false, apart := false, laid := [("carrack/model.follows", laid_carrack_model_follows)] }
def ModelOrderSaid : Prop := modelOrderRow.holds Tryd.pinned (OpenSpec.ofChange modelOrderSpec)

/-- ITS FALSE NEIGHBOUR: 'it returns false'. Refute it at one input. -/
def modelOrderWrong : ChangeSpec := { name := "modelOrder", fn := fun _ => fun
  | [d1, d2, d3, d4] => { results := [.lit (.bool false)], args := [d1, d2, d3, d4] }
  | _ => none }
def ModelOrderWrongFalsely : Prop := modelOrderRow.holds Tryd.pinned (OpenSpec.ofChange modelOrderWrong)

/-- 'carracklaw22.ModelTells': WHATEVER THE INPUT: true; the input reads as it did. -/
def modelTellsSpec : ChangeSpec := { name := "modelTells", fn := fun _ => fun
  | [d1, d2, d3, d4] => { results := [.lit (.bool true)], args := [d1, d2, d3, d4] }
  | _ => none }
def modelTellsRow : OpenClaim := { program := "ytbloalappckjhaadoor", sum := "8f8250b4b90b20262329e0a5dfd7ec6c4fca75617a8ec58ab3fd83e8d1b89ab3", func := "carrack/carracklaw22.ModelTells", spec := "modelTells", unfollowed := true, recurses := true, named := ["carrack/model.follows"], plainKeys := false, apart := false, laid := [("carrack/model.follows", laid_carrack_model_follows)] }
def ModelTellsSaid : Prop := modelTellsRow.holds Tryd.pinned (OpenSpec.ofChange modelTellsSpec)

/-- ITS FALSE NEIGHBOUR: 'it returns false'. Refute it at one input. -/
def modelTellsWrong : ChangeSpec := { name := "modelTells", fn := fun _ => fun
  | [d1, d2, d3, d4] => { results := [.lit (.bool false)], args := [d1, d2, d3, d4] }
  | _ => none }
def ModelTellsWrongFalsely : Prop := modelTellsRow.holds Tryd.pinned (OpenSpec.ofChange modelTellsWrong)

/-- 'carracklaw22.ModelCounts': WHATEVER THE INPUT: true; the input reads as it did. -/
def modelCountsSpec : ChangeSpec := { name := "modelCounts", fn := fun _ => fun
  | [d1, d2] => { results := [.lit (.bool true)], args := [d1, d2] }
  | _ => none }
def modelCountsRow : OpenClaim := { program := "ytbloalappckjhaadoor", sum := "8f8250b4b90b20262329e0a5dfd7ec6c4fca75617a8ec58ab3fd83e8d1b89ab3", func := "carrack/carracklaw22.ModelCounts", spec := "modelCounts", unfollowed := true, recurses := true, named := ["carrack/model.follows"], plainKeys := false, apart := false, laid := [("carrack/model.follows", laid_carrack_model_follows)] }
def ModelCountsSaid : Prop := modelCountsRow.holds Tryd.pinned (OpenSpec.ofChange modelCountsSpec)

/-- ITS FALSE NEIGHBOUR: 'it returns false'. Refute it at one input. -/
def modelCountsWrong : ChangeSpec := { name := "modelCounts", fn := fun _ => fun
  | [d1, d2] => { results := [.lit (.bool false)], args := [d1, d2] }
  | _ => none }
def ModelCountsWrongFalsely : Prop := modelCountsRow.holds Tryd.pinned (OpenSpec.ofChange modelCountsWrong)

/- THE SECOND FORM. 'bulk': how many values and letters a reading holds, each counted each time it is reached (what is shared counts as often as it is met; a slice's spare places count too). A statement '..UptoSaid' is the law's where the arguments, and the package variables that the reading takes, are together of bulk at most 1048576: NARROWER than '..Said'. Prove '..Said' where nothing that the law and all that it calls make is longer than what came in: it says more and counts as full. Else prove '..UptoSaid'. A law counts once. -/
mutual
def uptoBulk {H : Type} : DataW H → Nat
  | .lit (.string bytes) => bytes.length + 1
  | .lit _ => 1
  | .nil => 1
  | .ptr d => uptoBulk d + 1
  | .slice elems spare => uptoBulkAll elems + uptoBulkAll spare + 1
  | .agg parts => uptoBulkAll parts + 1
  | .iface _ d => uptoBulk d + 1
  | .map entries => uptoBulkEntries entries + 1
  | .held _ => 1
def uptoBulkAll {H : Type} : List (DataW H) → Nat
  | [] => 0
  | d :: r => uptoBulk d + uptoBulkAll r
def uptoBulkEntries {H : Type} : List (Lit × DataW H) → Nat
  | [] => 0
  | x :: r => uptoBulkEntry x + uptoBulkEntries r
def uptoBulkEntry {H : Type} : Lit × DataW H → Nat
  | (.string bytes, d) => bytes.length + uptoBulk d + 1
  | (_, d) => uptoBulk d + 1
 end
def uptoSmall : (H : Type) → List (DataW H) → Bool := fun _ ds => decide (uptoBulkAll ds ≤ 1048576)
def OpenSpec.upto (s : _root_.Go.ChangeSpec) : _root_.Go.OpenSpec := { _root_.Go.OpenSpec.ofChange s with cond := some uptoSmall }

/-- 'carracklaw22.ModelOrder', WHERE WHAT IT READS IS OF BULK AT MOST 1048576: true; the input reads as it did. -/
def modelOrderUptoRow : OpenClaim := { program := "ytbloalappckjhaadoor", sum := "8f8250b4b90b20262329e0a5dfd7ec6c4fca75617a8ec58ab3fd83e8d1b89ab3", func := "carrack/carracklaw22.ModelOrder", spec := "modelOrder", unfollowed := true, recurses := true, named := ["carrack/model.follows"], plainKeys := false, apart := false, laid := [("carrack/model.follows", laid_carrack_model_follows)], narrowed := true }
def ModelOrderUptoSaid : Prop := modelOrderUptoRow.holds Tryd.pinned (OpenSpec.upto modelOrderSpec)

/-- 'carracklaw22.ModelTells', WHERE WHAT IT READS IS OF BULK AT MOST 1048576: true; the input reads as it did. -/
def modelTellsUptoRow : OpenClaim := { program := "ytbloalappckjhaadoor", sum := "8f8250b4b90b20262329e0a5dfd7ec6c4fca75617a8ec58ab3fd83e8d1b89ab3", func := "carrack/carracklaw22.ModelTells", spec := "modelTells", unfollowed := true, recurses := true, named := ["carrack/model.follows"], plainKeys := false, apart := false, laid := [("carrack/model.follows", laid_carrack_model_follows)], narrowed := true }
def ModelTellsUptoSaid : Prop := modelTellsUptoRow.holds Tryd.pinned (OpenSpec.upto modelTellsSpec)

/-- 'carracklaw22.ModelCounts', WHERE WHAT IT READS IS OF BULK AT MOST 1048576: true; the input reads as it did. -/
def modelCountsUptoRow : OpenClaim := { program := "ytbloalappckjhaadoor", sum := "8f8250b4b90b20262329e0a5dfd7ec6c4fca75617a8ec58ab3fd83e8d1b89ab3", func := "carrack/carracklaw22.ModelCounts", spec := "modelCounts", unfollowed := true, recurses := true, named := ["carrack/model.follows"], plainKeys := false, apart := false, laid := [("carrack/model.follows", laid_carrack_model_follows)], narrowed := true }
def ModelCountsUptoSaid : Prop := modelCountsUptoRow.holds Tryd.pinned (OpenSpec.upto modelCountsSpec)

end Rows
end Go.Proofs.YtbloalappckjhaaDoor
