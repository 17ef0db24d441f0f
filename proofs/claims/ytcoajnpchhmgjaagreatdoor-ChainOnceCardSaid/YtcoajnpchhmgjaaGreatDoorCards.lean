/-
  DERIVED. GIVEN WITH THE SEED: THE CARDS: each row of YtcoajnpchhmgjaaGreatDoorRows.lean that lists a variable, with what it lists TIED to the program's text (the seventh form; the later family's looks); each row that meets fmt, with fmt's text TOLD by the authors' own Lean function (tested against real Go, not proved from fmt's source: count such statements apart). THE CARD IS WHAT COUNTS. Prove the row's statement (the work); the ties are given (YtcoajnpchhmgjaaGreatDoorTie.lean); close each card by the builder's one call (the guide's Derived/Test/ToyasCard.lean, 'card_holds'). Laid BY PROGRAM, IN A SANDBOX (cutbox-door.mjs). By AI agents, Wed Nov 11 2026. No macro, syntax, notation, axiom, sorry.
-/
import Derived.Test.YtcoajnpchhmgjaaGreatDoorRows
import GoSem.ClaimSeven
namespace Go.Proofs.YtcoajnpchhmgjaaGreatDoor
namespace Rows

/-- THE TIED CARD OF 'carracklaw13.ChainSafe'. -/
def chainSafeCard : Claim7 := { stood := { row := chainSafeRow, standIns := [], harness := (true, "ffc9c4e58fb005edcfc3584b561f2ad7ef77368ac970e35ab2fb2d70755663e1"), looks := false }, kinds := [], alts := [], laidByText := true, laidKinds := [.data], laidTests := true, laidLooks := .later }
def ChainSafeCardSaid : Prop := Claim7.holds Tryz.pinned (.plain (OpenSpec.ofChange chainSafeSpec)) chainSafeCard

/-- THE TIED CARD OF 'carracklaw13.ChainProves'. -/
def chainProvesCard : Claim7 := { stood := { row := chainProvesRow, standIns := [], harness := (true, "ffc9c4e58fb005edcfc3584b561f2ad7ef77368ac970e35ab2fb2d70755663e1"), looks := false }, kinds := [], alts := [], laidByText := true, laidKinds := [.data], laidTests := true, laidLooks := .later }
def ChainProvesCardSaid : Prop := Claim7.holds Tryz.pinned (.plain (OpenSpec.ofChange chainProvesSpec)) chainProvesCard

/-- THE TIED CARD OF 'carracklaw13.ChainOnce'. -/
def chainOnceCard : Claim7 := { stood := { row := chainOnceRow, standIns := [], harness := (true, "ffc9c4e58fb005edcfc3584b561f2ad7ef77368ac970e35ab2fb2d70755663e1"), looks := false }, kinds := [], alts := [], laidByText := true, laidKinds := [.data], laidTests := true, laidLooks := .later }
def ChainOnceCardSaid : Prop := Claim7.holds Tryz.pinned (.plain (OpenSpec.ofChange chainOnceSpec)) chainOnceCard

/-- THE TIED CARD OF 'carracklaw13.ChainFollows'. -/
def chainFollowsCard : Claim7 := { stood := { row := chainFollowsRow, standIns := [], harness := (true, "ffc9c4e58fb005edcfc3584b561f2ad7ef77368ac970e35ab2fb2d70755663e1"), looks := false }, kinds := [], alts := [], laidByText := true, laidKinds := [.data], laidTests := true, laidLooks := .later }
def ChainFollowsCardSaid : Prop := Claim7.holds Tryz.pinned (.plain (OpenSpec.ofChange chainFollowsSpec)) chainFollowsCard

/-- THE TIED CARD OF 'carracklaw13.ChainMade'. -/
def chainMadeCard : Claim7 := { stood := { row := chainMadeRow, standIns := [], harness := (true, "ffc9c4e58fb005edcfc3584b561f2ad7ef77368ac970e35ab2fb2d70755663e1"), looks := false }, kinds := [], alts := [], laidByText := true, laidKinds := [.data], laidTests := true, laidLooks := .later }
def ChainMadeCardSaid : Prop := Claim7.holds Tryz.pinned (.plain (OpenSpec.ofChange chainMadeSpec)) chainMadeCard

/-- THE TIED CARD OF 'carracklaw13.ChainStays'. -/
def chainStaysCard : Claim7 := { stood := { row := chainStaysRow, standIns := [], harness := (true, "ffc9c4e58fb005edcfc3584b561f2ad7ef77368ac970e35ab2fb2d70755663e1"), looks := false }, kinds := [], alts := [], laidByText := true, laidKinds := [.data], laidTests := true, laidLooks := .later }
def ChainStaysCardSaid : Prop := Claim7.holds Tryz.pinned (.plain (OpenSpec.ofChange chainStaysSpec)) chainStaysCard

/-- THE SECOND FORM's CARD OF 'carracklaw13.ChainSafe'. -/
def chainSafeUptoCard : Claim7 := { stood := { row := chainSafeUptoRow, standIns := [], harness := (true, "ffc9c4e58fb005edcfc3584b561f2ad7ef77368ac970e35ab2fb2d70755663e1"), looks := false }, kinds := [], alts := [], laidByText := true, laidKinds := [.data], laidTests := true, laidLooks := .later }
def ChainSafeUptoCardSaid : Prop := Claim7.holds Tryz.pinned (.plain (OpenSpec.upto chainSafeSpec)) chainSafeUptoCard

/-- THE SECOND FORM's CARD OF 'carracklaw13.ChainProves'. -/
def chainProvesUptoCard : Claim7 := { stood := { row := chainProvesUptoRow, standIns := [], harness := (true, "ffc9c4e58fb005edcfc3584b561f2ad7ef77368ac970e35ab2fb2d70755663e1"), looks := false }, kinds := [], alts := [], laidByText := true, laidKinds := [.data], laidTests := true, laidLooks := .later }
def ChainProvesUptoCardSaid : Prop := Claim7.holds Tryz.pinned (.plain (OpenSpec.upto chainProvesSpec)) chainProvesUptoCard

/-- THE SECOND FORM's CARD OF 'carracklaw13.ChainOnce'. -/
def chainOnceUptoCard : Claim7 := { stood := { row := chainOnceUptoRow, standIns := [], harness := (true, "ffc9c4e58fb005edcfc3584b561f2ad7ef77368ac970e35ab2fb2d70755663e1"), looks := false }, kinds := [], alts := [], laidByText := true, laidKinds := [.data], laidTests := true, laidLooks := .later }
def ChainOnceUptoCardSaid : Prop := Claim7.holds Tryz.pinned (.plain (OpenSpec.upto chainOnceSpec)) chainOnceUptoCard

/-- THE SECOND FORM's CARD OF 'carracklaw13.ChainFollows'. -/
def chainFollowsUptoCard : Claim7 := { stood := { row := chainFollowsUptoRow, standIns := [], harness := (true, "ffc9c4e58fb005edcfc3584b561f2ad7ef77368ac970e35ab2fb2d70755663e1"), looks := false }, kinds := [], alts := [], laidByText := true, laidKinds := [.data], laidTests := true, laidLooks := .later }
def ChainFollowsUptoCardSaid : Prop := Claim7.holds Tryz.pinned (.plain (OpenSpec.upto chainFollowsSpec)) chainFollowsUptoCard

/-- THE SECOND FORM's CARD OF 'carracklaw13.ChainMade'. -/
def chainMadeUptoCard : Claim7 := { stood := { row := chainMadeUptoRow, standIns := [], harness := (true, "ffc9c4e58fb005edcfc3584b561f2ad7ef77368ac970e35ab2fb2d70755663e1"), looks := false }, kinds := [], alts := [], laidByText := true, laidKinds := [.data], laidTests := true, laidLooks := .later }
def ChainMadeUptoCardSaid : Prop := Claim7.holds Tryz.pinned (.plain (OpenSpec.upto chainMadeSpec)) chainMadeUptoCard

/-- THE SECOND FORM's CARD OF 'carracklaw13.ChainStays'. -/
def chainStaysUptoCard : Claim7 := { stood := { row := chainStaysUptoRow, standIns := [], harness := (true, "ffc9c4e58fb005edcfc3584b561f2ad7ef77368ac970e35ab2fb2d70755663e1"), looks := false }, kinds := [], alts := [], laidByText := true, laidKinds := [.data], laidTests := true, laidLooks := .later }
def ChainStaysUptoCardSaid : Prop := Claim7.holds Tryz.pinned (.plain (OpenSpec.upto chainStaysSpec)) chainStaysUptoCard
end Rows
end Go.Proofs.YtcoajnpchhmgjaaGreatDoor
