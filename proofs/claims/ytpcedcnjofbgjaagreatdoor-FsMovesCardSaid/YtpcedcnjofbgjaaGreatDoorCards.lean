/-
  DERIVED. GIVEN WITH THE SEED: THE CARDS: each row of YtpcedcnjofbgjaaGreatDoorRows.lean that lists a variable, with what it lists TIED to the program's text (the seventh form; the later family's looks); each row that meets fmt, with fmt's text TOLD by the authors' own Lean function (tested against real Go, not proved from fmt's source: count such statements apart). THE CARD IS WHAT COUNTS. Prove the row's statement (the work); the ties are given (YtpcedcnjofbgjaaGreatDoorTie.lean); close each card by the builder's one call (the guide's Derived/Test/ToyasCard.lean, 'card_holds'). Laid BY PROGRAM, IN A SANDBOX (cutbox-door.mjs). By AI agents, Wed Nov 11 2026. No macro, syntax, notation, axiom, sorry.
-/
import Derived.Test.YtpcedcnjofbgjaaGreatDoorRows
import GoSem.ClaimSeven
namespace Go.Proofs.YtpcedcnjofbgjaaGreatDoor
namespace Rows

/-- THE TIED CARD OF 'ringkeep3.FsRight'. -/
def fsRightCard : Claim7 := { stood := { row := fsRightRow, standIns := [], harness := (true, "aa5b8263b4248a5926d7d89bc2f6e480d4eefba66160f7e438a877409fd4f0a9"), looks := false }, kinds := [], alts := [], laidByText := true, laidKinds := [.data, .pinned], laidTests := true, laidLooks := .later }
def FsRightCardSaid : Prop := Claim7.holds Tryz.pinned (.plain (OpenSpec.ofChange fsRightSpec)) fsRightCard

/-- THE TIED CARD OF 'ringkeep3.FsKept'. -/
def fsKeptCard : Claim7 := { stood := { row := fsKeptRow, standIns := [], harness := (true, "aa5b8263b4248a5926d7d89bc2f6e480d4eefba66160f7e438a877409fd4f0a9"), looks := false }, kinds := [], alts := [], laidByText := true, laidKinds := [.data, .pinned], laidTests := true, laidLooks := .later }
def FsKeptCardSaid : Prop := Claim7.holds Tryz.pinned (.plain (OpenSpec.ofChange fsKeptSpec)) fsKeptCard

/-- THE TIED CARD OF 'ringkeep3.FsMoves'. -/
def fsMovesCard : Claim7 := { stood := { row := fsMovesRow, standIns := [], harness := (true, "aa5b8263b4248a5926d7d89bc2f6e480d4eefba66160f7e438a877409fd4f0a9"), looks := false }, kinds := [], alts := [], laidByText := true, laidKinds := [.data, .pinned], laidTests := true, laidLooks := .later }
def FsMovesCardSaid : Prop := Claim7.holds Tryz.pinned (.plain (OpenSpec.ofChange fsMovesSpec)) fsMovesCard

/-- THE TIED CARD OF 'ringkeep3.FsErrors'. -/
def fsErrorsCard : Claim7 := { stood := { row := fsErrorsRow, standIns := [], harness := (true, "aa5b8263b4248a5926d7d89bc2f6e480d4eefba66160f7e438a877409fd4f0a9"), looks := false }, kinds := [], alts := [], laidByText := true, laidKinds := [.data, .pinned], laidTests := true, laidLooks := .later }
def FsErrorsCardSaid : Prop := Claim7.holds Tryz.pinned (.plain (OpenSpec.ofChange fsErrorsSpec)) fsErrorsCard

/-- THE SECOND FORM's CARD OF 'ringkeep3.FsRight'. -/
def fsRightUptoCard : Claim7 := { stood := { row := fsRightUptoRow, standIns := [], harness := (true, "aa5b8263b4248a5926d7d89bc2f6e480d4eefba66160f7e438a877409fd4f0a9"), looks := false }, kinds := [], alts := [], laidByText := true, laidKinds := [.data, .pinned], laidTests := true, laidLooks := .later }
def FsRightUptoCardSaid : Prop := Claim7.holds Tryz.pinned (.plain (OpenSpec.upto fsRightSpec)) fsRightUptoCard

/-- THE SECOND FORM's CARD OF 'ringkeep3.FsKept'. -/
def fsKeptUptoCard : Claim7 := { stood := { row := fsKeptUptoRow, standIns := [], harness := (true, "aa5b8263b4248a5926d7d89bc2f6e480d4eefba66160f7e438a877409fd4f0a9"), looks := false }, kinds := [], alts := [], laidByText := true, laidKinds := [.data, .pinned], laidTests := true, laidLooks := .later }
def FsKeptUptoCardSaid : Prop := Claim7.holds Tryz.pinned (.plain (OpenSpec.upto fsKeptSpec)) fsKeptUptoCard

/-- THE SECOND FORM's CARD OF 'ringkeep3.FsMoves'. -/
def fsMovesUptoCard : Claim7 := { stood := { row := fsMovesUptoRow, standIns := [], harness := (true, "aa5b8263b4248a5926d7d89bc2f6e480d4eefba66160f7e438a877409fd4f0a9"), looks := false }, kinds := [], alts := [], laidByText := true, laidKinds := [.data, .pinned], laidTests := true, laidLooks := .later }
def FsMovesUptoCardSaid : Prop := Claim7.holds Tryz.pinned (.plain (OpenSpec.upto fsMovesSpec)) fsMovesUptoCard

/-- THE SECOND FORM's CARD OF 'ringkeep3.FsErrors'. -/
def fsErrorsUptoCard : Claim7 := { stood := { row := fsErrorsUptoRow, standIns := [], harness := (true, "aa5b8263b4248a5926d7d89bc2f6e480d4eefba66160f7e438a877409fd4f0a9"), looks := false }, kinds := [], alts := [], laidByText := true, laidKinds := [.data, .pinned], laidTests := true, laidLooks := .later }
def FsErrorsUptoCardSaid : Prop := Claim7.holds Tryz.pinned (.plain (OpenSpec.upto fsErrorsSpec)) fsErrorsUptoCard
end Rows
end Go.Proofs.YtpcedcnjofbgjaaGreatDoor
