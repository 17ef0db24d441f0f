/-
  DERIVED. GIVEN WITH THE SEED: THE CARDS: each row of YtllopddcpkhfjaaDoorRows.lean that lists a variable, with what it lists TIED to the program's text (the seventh form; the later family's looks); each row that meets fmt, with fmt's text TOLD by the authors' own Lean function (tested against real Go, not proved from fmt's source: count such statements apart). THE CARD IS WHAT COUNTS. Prove the row's statement (the work); the ties are given (YtllopddcpkhfjaaDoorTie.lean); close each card by the builder's one call (the guide's Derived/Test/ToyasCard.lean, 'card_holds'). Laid BY PROGRAM, IN A SANDBOX (cutbox-door.mjs). By AI agents, Wed Nov 11 2026. No macro, syntax, notation, axiom, sorry.
-/
import Derived.Test.YtllopddcpkhfjaaDoorRows
import GoSem.ClaimSeven
namespace Go.Proofs.YtllopddcpkhfjaaDoor
namespace Rows

/-- THE TIED CARD OF 'carracklaw11.StoreBlocks'. -/
def storeBlocksCard : Claim7 := { stood := { row := storeBlocksRow, standIns := [], harness := (true, "7ea0eb8060972ec5a5ab5496428d7f65a0c0a9bac55779b51971d6b0135e5f47"), looks := false }, kinds := [], alts := [], laidByText := true, laidKinds := [.data], laidTests := true, laidLooks := .later }
def StoreBlocksCardSaid : Prop := Claim7.holds Tryd.pinned (.plain (OpenSpec.ofChange storeBlocksSpec)) storeBlocksCard

/-- THE TIED CARD OF 'carracklaw11.StoreBack'. -/
def storeBackCard : Claim7 := { stood := { row := storeBackRow, standIns := [], harness := (true, "7ea0eb8060972ec5a5ab5496428d7f65a0c0a9bac55779b51971d6b0135e5f47"), looks := false }, kinds := [], alts := [], laidByText := true, laidKinds := [.data], laidTests := true, laidLooks := .later }
def StoreBackCardSaid : Prop := Claim7.holds Tryd.pinned (.plain (OpenSpec.ofChange storeBackSpec)) storeBackCard

/-- THE TIED CARD OF 'carracklaw11.StoreSame'. -/
def storeSameCard : Claim7 := { stood := { row := storeSameRow, standIns := [], harness := (true, "7ea0eb8060972ec5a5ab5496428d7f65a0c0a9bac55779b51971d6b0135e5f47"), looks := false }, kinds := [], alts := [], laidByText := true, laidKinds := [.data], laidTests := true, laidLooks := .later }
def StoreSameCardSaid : Prop := Claim7.holds Tryd.pinned (.plain (OpenSpec.ofChange storeSameSpec)) storeSameCard

/-- THE TIED CARD OF 'carracklaw11.StoreKeeps'. -/
def storeKeepsCard : Claim7 := { stood := { row := storeKeepsRow, standIns := [], harness := (true, "7ea0eb8060972ec5a5ab5496428d7f65a0c0a9bac55779b51971d6b0135e5f47"), looks := false }, kinds := [], alts := [], laidByText := true, laidKinds := [.data], laidTests := true, laidLooks := .later }
def StoreKeepsCardSaid : Prop := Claim7.holds Tryd.pinned (.plain (OpenSpec.ofChange storeKeepsSpec)) storeKeepsCard

/-- THE SECOND FORM's CARD OF 'carracklaw11.StoreBlocks'. -/
def storeBlocksUptoCard : Claim7 := { stood := { row := storeBlocksUptoRow, standIns := [], harness := (true, "7ea0eb8060972ec5a5ab5496428d7f65a0c0a9bac55779b51971d6b0135e5f47"), looks := false }, kinds := [], alts := [], laidByText := true, laidKinds := [.data], laidTests := true, laidLooks := .later }
def StoreBlocksUptoCardSaid : Prop := Claim7.holds Tryd.pinned (.plain (OpenSpec.upto storeBlocksSpec)) storeBlocksUptoCard

/-- THE SECOND FORM's CARD OF 'carracklaw11.StoreBack'. -/
def storeBackUptoCard : Claim7 := { stood := { row := storeBackUptoRow, standIns := [], harness := (true, "7ea0eb8060972ec5a5ab5496428d7f65a0c0a9bac55779b51971d6b0135e5f47"), looks := false }, kinds := [], alts := [], laidByText := true, laidKinds := [.data], laidTests := true, laidLooks := .later }
def StoreBackUptoCardSaid : Prop := Claim7.holds Tryd.pinned (.plain (OpenSpec.upto storeBackSpec)) storeBackUptoCard

/-- THE SECOND FORM's CARD OF 'carracklaw11.StoreSame'. -/
def storeSameUptoCard : Claim7 := { stood := { row := storeSameUptoRow, standIns := [], harness := (true, "7ea0eb8060972ec5a5ab5496428d7f65a0c0a9bac55779b51971d6b0135e5f47"), looks := false }, kinds := [], alts := [], laidByText := true, laidKinds := [.data], laidTests := true, laidLooks := .later }
def StoreSameUptoCardSaid : Prop := Claim7.holds Tryd.pinned (.plain (OpenSpec.upto storeSameSpec)) storeSameUptoCard

/-- THE SECOND FORM's CARD OF 'carracklaw11.StoreKeeps'. -/
def storeKeepsUptoCard : Claim7 := { stood := { row := storeKeepsUptoRow, standIns := [], harness := (true, "7ea0eb8060972ec5a5ab5496428d7f65a0c0a9bac55779b51971d6b0135e5f47"), looks := false }, kinds := [], alts := [], laidByText := true, laidKinds := [.data], laidTests := true, laidLooks := .later }
def StoreKeepsUptoCardSaid : Prop := Claim7.holds Tryd.pinned (.plain (OpenSpec.upto storeKeepsSpec)) storeKeepsUptoCard
end Rows
end Go.Proofs.YtllopddcpkhfjaaDoor
