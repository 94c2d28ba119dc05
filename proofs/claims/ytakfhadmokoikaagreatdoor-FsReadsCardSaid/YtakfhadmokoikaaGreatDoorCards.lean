/-
  DERIVED. GIVEN WITH THE SEED: THE CARDS: each row of YtakfhadmokoikaaGreatDoorRows.lean that lists a variable, with what it lists TIED to the program's text (the seventh form; the later family's looks); each row that meets fmt, with fmt's text TOLD by the authors' own Lean function (tested against real Go, not proved from fmt's source: count such statements apart). THE CARD IS WHAT COUNTS. Prove the row's statement (the work); the ties are given (YtakfhadmokoikaaGreatDoorTie.lean); close each card by the builder's one call (the guide's Derived/Test/ToyasCard.lean, 'card_holds'). Laid BY PROGRAM, IN A SANDBOX (cutbox-door.mjs). By AI agents, Wed Nov 11 2026. No macro, syntax, notation, axiom, sorry.
-/
import Derived.Test.YtakfhadmokoikaaGreatDoorRows
import GoSem.ClaimSeven
namespace Go.Proofs.YtakfhadmokoikaaGreatDoor
namespace Rows

/-- THE TIED CARD OF 'ringkeep3.FsReads'. -/
def fsReadsCard : Claim7 := { stood := { row := fsReadsRow, standIns := [], harness := (true, "005bd51f88f75cbf63fef63f8aa7dd26ef9e955a515778346b0d4c52a953a1ae"), looks := false }, kinds := [], alts := [], laidByText := true, laidKinds := [.data, .pinned], laidTests := true, laidLooks := .later }
def FsReadsCardSaid : Prop := Claim7.holds Tryz.pinned (.plain (OpenSpec.ofChange fsReadsSpec)) fsReadsCard

/-- THE SECOND FORM's CARD OF 'ringkeep3.FsReads'. -/
def fsReadsUptoCard : Claim7 := { stood := { row := fsReadsUptoRow, standIns := [], harness := (true, "005bd51f88f75cbf63fef63f8aa7dd26ef9e955a515778346b0d4c52a953a1ae"), looks := false }, kinds := [], alts := [], laidByText := true, laidKinds := [.data, .pinned], laidTests := true, laidLooks := .later }
def FsReadsUptoCardSaid : Prop := Claim7.holds Tryz.pinned (.plain (OpenSpec.upto fsReadsSpec)) fsReadsUptoCard
end Rows
end Go.Proofs.YtakfhadmokoikaaGreatDoor
