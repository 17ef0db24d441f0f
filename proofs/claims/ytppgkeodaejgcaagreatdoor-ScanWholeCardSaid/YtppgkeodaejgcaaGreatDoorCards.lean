/-
  DERIVED. GIVEN WITH THE SEED: THE CARDS: each row of YtppgkeodaejgcaaGreatDoorRows.lean that lists a variable, with what it lists TIED to the program's text (the seventh form; the later family's looks); each row that meets fmt, with fmt's text TOLD by the authors' own Lean function (tested against real Go, not proved from fmt's source: count such statements apart). THE CARD IS WHAT COUNTS. Prove the row's statement (the work); the ties are given (YtppgkeodaejgcaaGreatDoorTie.lean); close each card by the builder's one call (the guide's Derived/Test/ToyasCard.lean, 'card_holds'). Laid BY PROGRAM, IN A SANDBOX (cutbox-door.mjs). By AI agents, Wed Nov 11 2026. No macro, syntax, notation, axiom, sorry.
-/
import Derived.Test.YtppgkeodaejgcaaGreatDoorRows
import GoSem.ClaimSeven
namespace Go.Proofs.YtppgkeodaejgcaaGreatDoor
namespace Rows

/-- THE TIED CARD OF 'carracklaw19.RelaySettles'. -/
def relaySettlesCard : Claim7 := { stood := { row := relaySettlesRow, standIns := [], harness := (true, "12e170d1944b94b951b0328fcf00c140d74f7b04ee2d5a4f0f8bea72198918bd"), looks := true }, kinds := [], alts := [], laidByText := true, laidKinds := [.data], laidTests := true, laidLooks := .later }
def RelaySettlesCardSaid : Prop := Claim7.holds Tryz.pinned (.plain (OpenSpec.ofChange relaySettlesSpec)) relaySettlesCard

/-- THE TIED CARD OF 'carracklaw19.RelayFront'. -/
def relayFrontCard : Claim7 := { stood := { row := relayFrontRow, standIns := [], harness := (true, "12e170d1944b94b951b0328fcf00c140d74f7b04ee2d5a4f0f8bea72198918bd"), looks := true }, kinds := [], alts := [], laidByText := true, laidKinds := [.data], laidTests := true, laidLooks := .later }
def RelayFrontCardSaid : Prop := Claim7.holds Tryz.pinned (.plain (OpenSpec.ofChange relayFrontSpec)) relayFrontCard

/-- THE TIED CARD OF 'carracklaw19.RelayTwice'. -/
def relayTwiceCard : Claim7 := { stood := { row := relayTwiceRow, standIns := [], harness := (true, "12e170d1944b94b951b0328fcf00c140d74f7b04ee2d5a4f0f8bea72198918bd"), looks := true }, kinds := [], alts := [], laidByText := true, laidKinds := [.data], laidTests := true, laidLooks := .later }
def RelayTwiceCardSaid : Prop := Claim7.holds Tryz.pinned (.plain (OpenSpec.ofChange relayTwiceSpec)) relayTwiceCard

/-- THE TIED CARD OF 'carracklaw16.ScanWhole'. -/
def scanWholeCard : Claim7 := { stood := { row := scanWholeRow, standIns := [], harness := (true, "12e170d1944b94b951b0328fcf00c140d74f7b04ee2d5a4f0f8bea72198918bd"), looks := true }, kinds := [], alts := [], laidByText := true, laidKinds := [.data], laidTests := true, laidLooks := .later }
def ScanWholeCardSaid : Prop := Claim7.holds Tryz.pinned (.plain (OpenSpec.ofChange scanWholeSpec)) scanWholeCard

/-- THE TIED CARD OF 'carracklaw16.ScanSteps'. -/
def scanStepsCard : Claim7 := { stood := { row := scanStepsRow, standIns := [], harness := (true, "12e170d1944b94b951b0328fcf00c140d74f7b04ee2d5a4f0f8bea72198918bd"), looks := true }, kinds := [], alts := [], laidByText := true, laidKinds := [.data], laidTests := true, laidLooks := .later }
def ScanStepsCardSaid : Prop := Claim7.holds Tryz.pinned (.plain (OpenSpec.ofChange scanStepsSpec)) scanStepsCard

/-- THE TIED CARD OF 'carracklaw16.ScanStops'. -/
def scanStopsCard : Claim7 := { stood := { row := scanStopsRow, standIns := [], harness := (true, "12e170d1944b94b951b0328fcf00c140d74f7b04ee2d5a4f0f8bea72198918bd"), looks := true }, kinds := [], alts := [], laidByText := true, laidKinds := [.data], laidTests := true, laidLooks := .later }
def ScanStopsCardSaid : Prop := Claim7.holds Tryz.pinned (.plain (OpenSpec.ofChange scanStopsSpec)) scanStopsCard

/-- THE SECOND FORM's CARD OF 'carracklaw19.RelaySettles'. -/
def relaySettlesUptoCard : Claim7 := { stood := { row := relaySettlesUptoRow, standIns := [], harness := (true, "12e170d1944b94b951b0328fcf00c140d74f7b04ee2d5a4f0f8bea72198918bd"), looks := true }, kinds := [], alts := [], laidByText := true, laidKinds := [.data], laidTests := true, laidLooks := .later }
def RelaySettlesUptoCardSaid : Prop := Claim7.holds Tryz.pinned (.plain (OpenSpec.upto relaySettlesSpec)) relaySettlesUptoCard

/-- THE SECOND FORM's CARD OF 'carracklaw19.RelayFront'. -/
def relayFrontUptoCard : Claim7 := { stood := { row := relayFrontUptoRow, standIns := [], harness := (true, "12e170d1944b94b951b0328fcf00c140d74f7b04ee2d5a4f0f8bea72198918bd"), looks := true }, kinds := [], alts := [], laidByText := true, laidKinds := [.data], laidTests := true, laidLooks := .later }
def RelayFrontUptoCardSaid : Prop := Claim7.holds Tryz.pinned (.plain (OpenSpec.upto relayFrontSpec)) relayFrontUptoCard

/-- THE SECOND FORM's CARD OF 'carracklaw19.RelayTwice'. -/
def relayTwiceUptoCard : Claim7 := { stood := { row := relayTwiceUptoRow, standIns := [], harness := (true, "12e170d1944b94b951b0328fcf00c140d74f7b04ee2d5a4f0f8bea72198918bd"), looks := true }, kinds := [], alts := [], laidByText := true, laidKinds := [.data], laidTests := true, laidLooks := .later }
def RelayTwiceUptoCardSaid : Prop := Claim7.holds Tryz.pinned (.plain (OpenSpec.upto relayTwiceSpec)) relayTwiceUptoCard

/-- THE SECOND FORM's CARD OF 'carracklaw16.ScanWhole'. -/
def scanWholeUptoCard : Claim7 := { stood := { row := scanWholeUptoRow, standIns := [], harness := (true, "12e170d1944b94b951b0328fcf00c140d74f7b04ee2d5a4f0f8bea72198918bd"), looks := true }, kinds := [], alts := [], laidByText := true, laidKinds := [.data], laidTests := true, laidLooks := .later }
def ScanWholeUptoCardSaid : Prop := Claim7.holds Tryz.pinned (.plain (OpenSpec.upto scanWholeSpec)) scanWholeUptoCard

/-- THE SECOND FORM's CARD OF 'carracklaw16.ScanSteps'. -/
def scanStepsUptoCard : Claim7 := { stood := { row := scanStepsUptoRow, standIns := [], harness := (true, "12e170d1944b94b951b0328fcf00c140d74f7b04ee2d5a4f0f8bea72198918bd"), looks := true }, kinds := [], alts := [], laidByText := true, laidKinds := [.data], laidTests := true, laidLooks := .later }
def ScanStepsUptoCardSaid : Prop := Claim7.holds Tryz.pinned (.plain (OpenSpec.upto scanStepsSpec)) scanStepsUptoCard

/-- THE SECOND FORM's CARD OF 'carracklaw16.ScanStops'. -/
def scanStopsUptoCard : Claim7 := { stood := { row := scanStopsUptoRow, standIns := [], harness := (true, "12e170d1944b94b951b0328fcf00c140d74f7b04ee2d5a4f0f8bea72198918bd"), looks := true }, kinds := [], alts := [], laidByText := true, laidKinds := [.data], laidTests := true, laidLooks := .later }
def ScanStopsUptoCardSaid : Prop := Claim7.holds Tryz.pinned (.plain (OpenSpec.upto scanStopsSpec)) scanStopsUptoCard
end Rows
end Go.Proofs.YtppgkeodaejgcaaGreatDoor
