/-
  DERIVED. GIVEN WITH THE SEED: THE CARDS: each row of YtmanoiagchpelaaGreatDoorRows.lean that lists a variable, with what it lists TIED to the program's text (the seventh form; the later family's looks); each row that meets fmt, with fmt's text TOLD by the authors' own Lean function (tested against real Go, not proved from fmt's source: count such statements apart). THE CARD IS WHAT COUNTS. Prove the row's statement (the work); the ties are given (YtmanoiagchpelaaGreatDoorTie.lean); close each card by the builder's one call (the guide's Derived/Test/ToyasCard.lean, 'card_holds'). Laid BY PROGRAM, IN A SANDBOX (cutbox-door.mjs). By AI agents, Wed Nov 11 2026. No macro, syntax, notation, axiom, sorry.
-/
import Derived.Test.YtmanoiagchpelaaGreatDoorRows
import GoSem.ClaimSeven
namespace Go.Proofs.YtmanoiagchpelaaGreatDoor
namespace Rows

/-- THE TIED CARD OF 'ringkeep3.FsRight'. -/
def fsRightCard : Claim7 := { stood := { row := fsRightRow, standIns := [], harness := (true, "8541e45672bde8cfbdddd57d9b93278e3bf0bcdc4b11c30fffb80beaa6839096"), looks := false }, kinds := [], alts := [], laidByText := true, laidKinds := [.data, .pinned], laidTests := true, laidLooks := .later }
def FsRightCardSaid : Prop := Claim7.holds Tryz.pinned (.plain (OpenSpec.ofChange fsRightSpec)) fsRightCard

/-- THE TIED CARD OF 'ringkeep3.FsQuota'. -/
def fsQuotaCard : Claim7 := { stood := { row := fsQuotaRow, standIns := [], harness := (true, "8541e45672bde8cfbdddd57d9b93278e3bf0bcdc4b11c30fffb80beaa6839096"), looks := false }, kinds := [], alts := [], laidByText := true, laidKinds := [.data, .pinned], laidTests := true, laidLooks := .later }
def FsQuotaCardSaid : Prop := Claim7.holds Tryz.pinned (.plain (OpenSpec.ofChange fsQuotaSpec)) fsQuotaCard

/-- THE TIED CARD OF 'ringkeep3.FsBack'. -/
def fsBackCard : Claim7 := { stood := { row := fsBackRow, standIns := [], harness := (true, "8541e45672bde8cfbdddd57d9b93278e3bf0bcdc4b11c30fffb80beaa6839096"), looks := false }, kinds := [], alts := [], laidByText := true, laidKinds := [.data, .pinned], laidTests := true, laidLooks := .later }
def FsBackCardSaid : Prop := Claim7.holds Tryz.pinned (.plain (OpenSpec.ofChange fsBackSpec)) fsBackCard

/-- THE TIED CARD OF 'ringkeep3.FsTree'. -/
def fsTreeCard : Claim7 := { stood := { row := fsTreeRow, standIns := [], harness := (true, "8541e45672bde8cfbdddd57d9b93278e3bf0bcdc4b11c30fffb80beaa6839096"), looks := false }, kinds := [], alts := [], laidByText := true, laidKinds := [.data, .pinned], laidTests := true, laidLooks := .later }
def FsTreeCardSaid : Prop := Claim7.holds Tryz.pinned (.plain (OpenSpec.ofChange fsTreeSpec)) fsTreeCard

/-- THE TIED CARD OF 'ringkeep3.FsKept'. -/
def fsKeptCard : Claim7 := { stood := { row := fsKeptRow, standIns := [], harness := (true, "8541e45672bde8cfbdddd57d9b93278e3bf0bcdc4b11c30fffb80beaa6839096"), looks := false }, kinds := [], alts := [], laidByText := true, laidKinds := [.data, .pinned], laidTests := true, laidLooks := .later }
def FsKeptCardSaid : Prop := Claim7.holds Tryz.pinned (.plain (OpenSpec.ofChange fsKeptSpec)) fsKeptCard

/-- THE TIED CARD OF 'ringkeep3.FsMoves'. -/
def fsMovesCard : Claim7 := { stood := { row := fsMovesRow, standIns := [], harness := (true, "8541e45672bde8cfbdddd57d9b93278e3bf0bcdc4b11c30fffb80beaa6839096"), looks := false }, kinds := [], alts := [], laidByText := true, laidKinds := [.data, .pinned], laidTests := true, laidLooks := .later }
def FsMovesCardSaid : Prop := Claim7.holds Tryz.pinned (.plain (OpenSpec.ofChange fsMovesSpec)) fsMovesCard

/-- THE TIED CARD OF 'ringkeep3.FsApart'. -/
def fsApartCard : Claim7 := { stood := { row := fsApartRow, standIns := [], harness := (true, "8541e45672bde8cfbdddd57d9b93278e3bf0bcdc4b11c30fffb80beaa6839096"), looks := false }, kinds := [], alts := [], laidByText := true, laidKinds := [.data, .pinned], laidTests := true, laidLooks := .later }
def FsApartCardSaid : Prop := Claim7.holds Tryz.pinned (.plain (OpenSpec.ofChange fsApartSpec)) fsApartCard

/-- THE TIED CARD OF 'ringkeep3.FsErrors'. -/
def fsErrorsCard : Claim7 := { stood := { row := fsErrorsRow, standIns := [], harness := (true, "8541e45672bde8cfbdddd57d9b93278e3bf0bcdc4b11c30fffb80beaa6839096"), looks := false }, kinds := [], alts := [], laidByText := true, laidKinds := [.data, .pinned], laidTests := true, laidLooks := .later }
def FsErrorsCardSaid : Prop := Claim7.holds Tryz.pinned (.plain (OpenSpec.ofChange fsErrorsSpec)) fsErrorsCard

/-- THE TIED CARD OF 'ringkeep3.FsSync'. -/
def fsSyncCard : Claim7 := { stood := { row := fsSyncRow, standIns := [], harness := (true, "8541e45672bde8cfbdddd57d9b93278e3bf0bcdc4b11c30fffb80beaa6839096"), looks := false }, kinds := [], alts := [], laidByText := true, laidKinds := [.data, .pinned], laidTests := true, laidLooks := .later }
def FsSyncCardSaid : Prop := Claim7.holds Tryz.pinned (.plain (OpenSpec.ofChange fsSyncSpec)) fsSyncCard

/-- THE TIED CARD OF 'ringkeep3.FsAgain'. -/
def fsAgainCard : Claim7 := { stood := { row := fsAgainRow, standIns := [], harness := (true, "8541e45672bde8cfbdddd57d9b93278e3bf0bcdc4b11c30fffb80beaa6839096"), looks := false }, kinds := [], alts := [], laidByText := true, laidKinds := [.data, .pinned], laidTests := true, laidLooks := .later }
def FsAgainCardSaid : Prop := Claim7.holds Tryz.pinned (.plain (OpenSpec.ofChange fsAgainSpec)) fsAgainCard

/-- THE TIED CARD OF 'ringkeep3.FsStep'. -/
def fsStepCard : Claim7 := { stood := { row := fsStepRow, standIns := [], harness := (true, "8541e45672bde8cfbdddd57d9b93278e3bf0bcdc4b11c30fffb80beaa6839096"), looks := false }, kinds := [], alts := [], laidByText := true, laidKinds := [.data, .pinned], laidTests := true, laidLooks := .later }
def FsStepCardSaid : Prop := Claim7.holds Tryz.pinned (.plain (OpenSpec.ofChange fsStepSpec)) fsStepCard

/-- THE TIED CARD OF 'ringkeep3.FsHeld'. -/
def fsHeldCard : Claim7 := { stood := { row := fsHeldRow, standIns := [], harness := (true, "8541e45672bde8cfbdddd57d9b93278e3bf0bcdc4b11c30fffb80beaa6839096"), looks := false }, kinds := [], alts := [], laidByText := true, laidKinds := [.data, .pinned], laidTests := true, laidLooks := .later }
def FsHeldCardSaid : Prop := Claim7.holds Tryz.pinned (.plain (OpenSpec.ofChange fsHeldSpec)) fsHeldCard

/-- THE SECOND FORM's CARD OF 'ringkeep3.FsRight'. -/
def fsRightUptoCard : Claim7 := { stood := { row := fsRightUptoRow, standIns := [], harness := (true, "8541e45672bde8cfbdddd57d9b93278e3bf0bcdc4b11c30fffb80beaa6839096"), looks := false }, kinds := [], alts := [], laidByText := true, laidKinds := [.data, .pinned], laidTests := true, laidLooks := .later }
def FsRightUptoCardSaid : Prop := Claim7.holds Tryz.pinned (.plain (OpenSpec.upto fsRightSpec)) fsRightUptoCard

/-- THE SECOND FORM's CARD OF 'ringkeep3.FsQuota'. -/
def fsQuotaUptoCard : Claim7 := { stood := { row := fsQuotaUptoRow, standIns := [], harness := (true, "8541e45672bde8cfbdddd57d9b93278e3bf0bcdc4b11c30fffb80beaa6839096"), looks := false }, kinds := [], alts := [], laidByText := true, laidKinds := [.data, .pinned], laidTests := true, laidLooks := .later }
def FsQuotaUptoCardSaid : Prop := Claim7.holds Tryz.pinned (.plain (OpenSpec.upto fsQuotaSpec)) fsQuotaUptoCard

/-- THE SECOND FORM's CARD OF 'ringkeep3.FsBack'. -/
def fsBackUptoCard : Claim7 := { stood := { row := fsBackUptoRow, standIns := [], harness := (true, "8541e45672bde8cfbdddd57d9b93278e3bf0bcdc4b11c30fffb80beaa6839096"), looks := false }, kinds := [], alts := [], laidByText := true, laidKinds := [.data, .pinned], laidTests := true, laidLooks := .later }
def FsBackUptoCardSaid : Prop := Claim7.holds Tryz.pinned (.plain (OpenSpec.upto fsBackSpec)) fsBackUptoCard

/-- THE SECOND FORM's CARD OF 'ringkeep3.FsTree'. -/
def fsTreeUptoCard : Claim7 := { stood := { row := fsTreeUptoRow, standIns := [], harness := (true, "8541e45672bde8cfbdddd57d9b93278e3bf0bcdc4b11c30fffb80beaa6839096"), looks := false }, kinds := [], alts := [], laidByText := true, laidKinds := [.data, .pinned], laidTests := true, laidLooks := .later }
def FsTreeUptoCardSaid : Prop := Claim7.holds Tryz.pinned (.plain (OpenSpec.upto fsTreeSpec)) fsTreeUptoCard

/-- THE SECOND FORM's CARD OF 'ringkeep3.FsKept'. -/
def fsKeptUptoCard : Claim7 := { stood := { row := fsKeptUptoRow, standIns := [], harness := (true, "8541e45672bde8cfbdddd57d9b93278e3bf0bcdc4b11c30fffb80beaa6839096"), looks := false }, kinds := [], alts := [], laidByText := true, laidKinds := [.data, .pinned], laidTests := true, laidLooks := .later }
def FsKeptUptoCardSaid : Prop := Claim7.holds Tryz.pinned (.plain (OpenSpec.upto fsKeptSpec)) fsKeptUptoCard

/-- THE SECOND FORM's CARD OF 'ringkeep3.FsMoves'. -/
def fsMovesUptoCard : Claim7 := { stood := { row := fsMovesUptoRow, standIns := [], harness := (true, "8541e45672bde8cfbdddd57d9b93278e3bf0bcdc4b11c30fffb80beaa6839096"), looks := false }, kinds := [], alts := [], laidByText := true, laidKinds := [.data, .pinned], laidTests := true, laidLooks := .later }
def FsMovesUptoCardSaid : Prop := Claim7.holds Tryz.pinned (.plain (OpenSpec.upto fsMovesSpec)) fsMovesUptoCard

/-- THE SECOND FORM's CARD OF 'ringkeep3.FsApart'. -/
def fsApartUptoCard : Claim7 := { stood := { row := fsApartUptoRow, standIns := [], harness := (true, "8541e45672bde8cfbdddd57d9b93278e3bf0bcdc4b11c30fffb80beaa6839096"), looks := false }, kinds := [], alts := [], laidByText := true, laidKinds := [.data, .pinned], laidTests := true, laidLooks := .later }
def FsApartUptoCardSaid : Prop := Claim7.holds Tryz.pinned (.plain (OpenSpec.upto fsApartSpec)) fsApartUptoCard

/-- THE SECOND FORM's CARD OF 'ringkeep3.FsErrors'. -/
def fsErrorsUptoCard : Claim7 := { stood := { row := fsErrorsUptoRow, standIns := [], harness := (true, "8541e45672bde8cfbdddd57d9b93278e3bf0bcdc4b11c30fffb80beaa6839096"), looks := false }, kinds := [], alts := [], laidByText := true, laidKinds := [.data, .pinned], laidTests := true, laidLooks := .later }
def FsErrorsUptoCardSaid : Prop := Claim7.holds Tryz.pinned (.plain (OpenSpec.upto fsErrorsSpec)) fsErrorsUptoCard

/-- THE SECOND FORM's CARD OF 'ringkeep3.FsSync'. -/
def fsSyncUptoCard : Claim7 := { stood := { row := fsSyncUptoRow, standIns := [], harness := (true, "8541e45672bde8cfbdddd57d9b93278e3bf0bcdc4b11c30fffb80beaa6839096"), looks := false }, kinds := [], alts := [], laidByText := true, laidKinds := [.data, .pinned], laidTests := true, laidLooks := .later }
def FsSyncUptoCardSaid : Prop := Claim7.holds Tryz.pinned (.plain (OpenSpec.upto fsSyncSpec)) fsSyncUptoCard

/-- THE SECOND FORM's CARD OF 'ringkeep3.FsAgain'. -/
def fsAgainUptoCard : Claim7 := { stood := { row := fsAgainUptoRow, standIns := [], harness := (true, "8541e45672bde8cfbdddd57d9b93278e3bf0bcdc4b11c30fffb80beaa6839096"), looks := false }, kinds := [], alts := [], laidByText := true, laidKinds := [.data, .pinned], laidTests := true, laidLooks := .later }
def FsAgainUptoCardSaid : Prop := Claim7.holds Tryz.pinned (.plain (OpenSpec.upto fsAgainSpec)) fsAgainUptoCard

/-- THE SECOND FORM's CARD OF 'ringkeep3.FsStep'. -/
def fsStepUptoCard : Claim7 := { stood := { row := fsStepUptoRow, standIns := [], harness := (true, "8541e45672bde8cfbdddd57d9b93278e3bf0bcdc4b11c30fffb80beaa6839096"), looks := false }, kinds := [], alts := [], laidByText := true, laidKinds := [.data, .pinned], laidTests := true, laidLooks := .later }
def FsStepUptoCardSaid : Prop := Claim7.holds Tryz.pinned (.plain (OpenSpec.upto fsStepSpec)) fsStepUptoCard

/-- THE SECOND FORM's CARD OF 'ringkeep3.FsHeld'. -/
def fsHeldUptoCard : Claim7 := { stood := { row := fsHeldUptoRow, standIns := [], harness := (true, "8541e45672bde8cfbdddd57d9b93278e3bf0bcdc4b11c30fffb80beaa6839096"), looks := false }, kinds := [], alts := [], laidByText := true, laidKinds := [.data, .pinned], laidTests := true, laidLooks := .later }
def FsHeldUptoCardSaid : Prop := Claim7.holds Tryz.pinned (.plain (OpenSpec.upto fsHeldSpec)) fsHeldUptoCard
end Rows
end Go.Proofs.YtmanoiagchpelaaGreatDoor
