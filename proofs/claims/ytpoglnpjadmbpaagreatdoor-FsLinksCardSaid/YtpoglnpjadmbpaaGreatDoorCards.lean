/-
  DERIVED. GIVEN WITH THE SEED: THE CARDS: each row of YtpoglnpjadmbpaaGreatDoorRows.lean that lists a variable, with what it lists TIED to the program's text (the seventh form; the later family's looks); each row that meets fmt, with fmt's text TOLD by the authors' own Lean function (tested against real Go, not proved from fmt's source: count such statements apart). THE CARD IS WHAT COUNTS. Prove the row's statement (the work); the ties are given (YtpoglnpjadmbpaaGreatDoorTie.lean); close each card by the builder's one call (the guide's Derived/Test/ToyasCard.lean, 'card_holds'). Laid BY PROGRAM, IN A SANDBOX (cutbox-door.mjs). By AI agents, Wed Nov 11 2026. No macro, syntax, notation, axiom, sorry.
-/
import Derived.Test.YtpoglnpjadmbpaaGreatDoorRows
import GoSem.ClaimSeven
namespace Go.Proofs.YtpoglnpjadmbpaaGreatDoor
namespace Rows

/-- THE TIED CARD OF 'ringkeep3.CheckFresh'. -/
def checkFreshCard : Claim7 := { stood := { row := checkFreshRow, standIns := [], harness := (true, "de6d4493e24de49d5e543b0bf1f27a77437f89fc427d4d510a17af16703bac09"), looks := false }, kinds := [], alts := [], laidByText := true, laidKinds := [.data, .pinned], laidTests := true, laidLooks := .later }
def CheckFreshCardSaid : Prop := Claim7.holds Tryz.pinned (.plain (OpenSpec.ofChange checkFreshSpec)) checkFreshCard

/-- THE TIED CARD OF 'ringkeep3.FsCut'. -/
def fsCutCard : Claim7 := { stood := { row := fsCutRow, standIns := [], harness := (true, "de6d4493e24de49d5e543b0bf1f27a77437f89fc427d4d510a17af16703bac09"), looks := false }, kinds := [], alts := [], laidByText := true, laidKinds := [.data, .pinned], laidTests := true, laidLooks := .later }
def FsCutCardSaid : Prop := Claim7.holds Tryz.pinned (.plain (OpenSpec.ofChange fsCutSpec)) fsCutCard

/-- THE TIED CARD OF 'ringkeep3.FsHoles'. -/
def fsHolesCard : Claim7 := { stood := { row := fsHolesRow, standIns := [], harness := (true, "de6d4493e24de49d5e543b0bf1f27a77437f89fc427d4d510a17af16703bac09"), looks := false }, kinds := [], alts := [], laidByText := true, laidKinds := [.data, .pinned], laidTests := true, laidLooks := .later }
def FsHolesCardSaid : Prop := Claim7.holds Tryz.pinned (.plain (OpenSpec.ofChange fsHolesSpec)) fsHolesCard

/-- THE TIED CARD OF 'ringkeep3.FsLinks'. -/
def fsLinksCard : Claim7 := { stood := { row := fsLinksRow, standIns := [], harness := (true, "de6d4493e24de49d5e543b0bf1f27a77437f89fc427d4d510a17af16703bac09"), looks := false }, kinds := [], alts := [], laidByText := true, laidKinds := [.data, .pinned], laidTests := true, laidLooks := .later }
def FsLinksCardSaid : Prop := Claim7.holds Tryz.pinned (.plain (OpenSpec.ofChange fsLinksSpec)) fsLinksCard

/-- THE SECOND FORM's CARD OF 'ringkeep3.CheckFresh'. -/
def checkFreshUptoCard : Claim7 := { stood := { row := checkFreshUptoRow, standIns := [], harness := (true, "de6d4493e24de49d5e543b0bf1f27a77437f89fc427d4d510a17af16703bac09"), looks := false }, kinds := [], alts := [], laidByText := true, laidKinds := [.data, .pinned], laidTests := true, laidLooks := .later }
def CheckFreshUptoCardSaid : Prop := Claim7.holds Tryz.pinned (.plain (OpenSpec.upto checkFreshSpec)) checkFreshUptoCard

/-- THE SECOND FORM's CARD OF 'ringkeep3.FsCut'. -/
def fsCutUptoCard : Claim7 := { stood := { row := fsCutUptoRow, standIns := [], harness := (true, "de6d4493e24de49d5e543b0bf1f27a77437f89fc427d4d510a17af16703bac09"), looks := false }, kinds := [], alts := [], laidByText := true, laidKinds := [.data, .pinned], laidTests := true, laidLooks := .later }
def FsCutUptoCardSaid : Prop := Claim7.holds Tryz.pinned (.plain (OpenSpec.upto fsCutSpec)) fsCutUptoCard

/-- THE SECOND FORM's CARD OF 'ringkeep3.FsHoles'. -/
def fsHolesUptoCard : Claim7 := { stood := { row := fsHolesUptoRow, standIns := [], harness := (true, "de6d4493e24de49d5e543b0bf1f27a77437f89fc427d4d510a17af16703bac09"), looks := false }, kinds := [], alts := [], laidByText := true, laidKinds := [.data, .pinned], laidTests := true, laidLooks := .later }
def FsHolesUptoCardSaid : Prop := Claim7.holds Tryz.pinned (.plain (OpenSpec.upto fsHolesSpec)) fsHolesUptoCard

/-- THE SECOND FORM's CARD OF 'ringkeep3.FsLinks'. -/
def fsLinksUptoCard : Claim7 := { stood := { row := fsLinksUptoRow, standIns := [], harness := (true, "de6d4493e24de49d5e543b0bf1f27a77437f89fc427d4d510a17af16703bac09"), looks := false }, kinds := [], alts := [], laidByText := true, laidKinds := [.data, .pinned], laidTests := true, laidLooks := .later }
def FsLinksUptoCardSaid : Prop := Claim7.holds Tryz.pinned (.plain (OpenSpec.upto fsLinksSpec)) fsLinksUptoCard
end Rows
end Go.Proofs.YtpoglnpjadmbpaaGreatDoor
