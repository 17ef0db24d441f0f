/-
  DERIVED. GIVEN WITH THE SEED: THE CARDS: each row of YtiohehjhlghikaaGreatDoorRows.lean that lists a variable, with what it lists TIED to the program's text (the seventh form; the later family's looks); each row that meets fmt, with fmt's text TOLD by the authors' own Lean function (tested against real Go, not proved from fmt's source: count such statements apart). THE CARD IS WHAT COUNTS. Prove the row's statement (the work); the ties are given (YtiohehjhlghikaaGreatDoorTie.lean); close each card by the builder's one call (the guide's Derived/Test/ToyasCard.lean, 'card_holds'). Laid BY PROGRAM, IN A SANDBOX (cutbox-door.mjs). By AI agents, Wed Nov 11 2026. No macro, syntax, notation, axiom, sorry.
-/
import Derived.Test.YtiohehjhlghikaaGreatDoorRows
import GoSem.ClaimSeven
namespace Go.Proofs.YtiohehjhlghikaaGreatDoor
namespace Rows

/-- THE TIED CARD OF 'carracklaw18.JournalSame'. -/
def journalSameCard : Claim7 := { stood := { row := journalSameRow, standIns := [], harness := (true, "0c8c7a63d2a285e71e8bcbfa8c35b77b58cfcfe86579a48db0f3727ae4e3fcf4"), looks := false }, kinds := [], alts := [], laidByText := true, laidKinds := [.data, .pinned], laidTests := true, laidLooks := .later }
def JournalSameCardSaid : Prop := Claim7.holds Tryz.pinned (.plain (OpenSpec.ofChange journalSameSpec)) journalSameCard

/-- THE TIED CARD OF 'carracklaw18.JournalTwice'. -/
def journalTwiceCard : Claim7 := { stood := { row := journalTwiceRow, standIns := [], harness := (true, "0c8c7a63d2a285e71e8bcbfa8c35b77b58cfcfe86579a48db0f3727ae4e3fcf4"), looks := false }, kinds := [], alts := [], laidByText := true, laidKinds := [.data, .pinned], laidTests := true, laidLooks := .later }
def JournalTwiceCardSaid : Prop := Claim7.holds Tryz.pinned (.plain (OpenSpec.ofChange journalTwiceSpec)) journalTwiceCard

/-- THE TIED CARD OF 'carracklaw18.JournalHalts'. -/
def journalHaltsCard : Claim7 := { stood := { row := journalHaltsRow, standIns := [], harness := (true, "0c8c7a63d2a285e71e8bcbfa8c35b77b58cfcfe86579a48db0f3727ae4e3fcf4"), looks := false }, kinds := [], alts := [], laidByText := true, laidKinds := [.data, .pinned], laidTests := true, laidLooks := .later }
def JournalHaltsCardSaid : Prop := Claim7.holds Tryz.pinned (.plain (OpenSpec.ofChange journalHaltsSpec)) journalHaltsCard

/-- THE TIED CARD OF 'carracklaw18.JournalPlays'. -/
def journalPlaysCard : Claim7 := { stood := { row := journalPlaysRow, standIns := [], harness := (true, "0c8c7a63d2a285e71e8bcbfa8c35b77b58cfcfe86579a48db0f3727ae4e3fcf4"), looks := false }, kinds := [], alts := [], laidByText := true, laidKinds := [.data, .pinned], laidTests := true, laidLooks := .later }
def JournalPlaysCardSaid : Prop := Claim7.holds Tryz.pinned (.plain (OpenSpec.ofChange journalPlaysSpec)) journalPlaysCard

/-- THE SECOND FORM's CARD OF 'carracklaw18.JournalSame'. -/
def journalSameUptoCard : Claim7 := { stood := { row := journalSameUptoRow, standIns := [], harness := (true, "0c8c7a63d2a285e71e8bcbfa8c35b77b58cfcfe86579a48db0f3727ae4e3fcf4"), looks := false }, kinds := [], alts := [], laidByText := true, laidKinds := [.data, .pinned], laidTests := true, laidLooks := .later }
def JournalSameUptoCardSaid : Prop := Claim7.holds Tryz.pinned (.plain (OpenSpec.upto journalSameSpec)) journalSameUptoCard

/-- THE SECOND FORM's CARD OF 'carracklaw18.JournalTwice'. -/
def journalTwiceUptoCard : Claim7 := { stood := { row := journalTwiceUptoRow, standIns := [], harness := (true, "0c8c7a63d2a285e71e8bcbfa8c35b77b58cfcfe86579a48db0f3727ae4e3fcf4"), looks := false }, kinds := [], alts := [], laidByText := true, laidKinds := [.data, .pinned], laidTests := true, laidLooks := .later }
def JournalTwiceUptoCardSaid : Prop := Claim7.holds Tryz.pinned (.plain (OpenSpec.upto journalTwiceSpec)) journalTwiceUptoCard

/-- THE SECOND FORM's CARD OF 'carracklaw18.JournalHalts'. -/
def journalHaltsUptoCard : Claim7 := { stood := { row := journalHaltsUptoRow, standIns := [], harness := (true, "0c8c7a63d2a285e71e8bcbfa8c35b77b58cfcfe86579a48db0f3727ae4e3fcf4"), looks := false }, kinds := [], alts := [], laidByText := true, laidKinds := [.data, .pinned], laidTests := true, laidLooks := .later }
def JournalHaltsUptoCardSaid : Prop := Claim7.holds Tryz.pinned (.plain (OpenSpec.upto journalHaltsSpec)) journalHaltsUptoCard

/-- THE SECOND FORM's CARD OF 'carracklaw18.JournalPlays'. -/
def journalPlaysUptoCard : Claim7 := { stood := { row := journalPlaysUptoRow, standIns := [], harness := (true, "0c8c7a63d2a285e71e8bcbfa8c35b77b58cfcfe86579a48db0f3727ae4e3fcf4"), looks := false }, kinds := [], alts := [], laidByText := true, laidKinds := [.data, .pinned], laidTests := true, laidLooks := .later }
def JournalPlaysUptoCardSaid : Prop := Claim7.holds Tryz.pinned (.plain (OpenSpec.upto journalPlaysSpec)) journalPlaysUptoCard
end Rows
end Go.Proofs.YtiohehjhlghikaaGreatDoor
