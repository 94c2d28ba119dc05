/-
  DERIVED. GIVEN WITH THE SEED: THE CARDS: each row of YtheiaebmemcbhaaDoorRows.lean that lists a variable, with what it lists TIED to the program's text (the seventh form; the later family's looks); each row that meets fmt, with fmt's text TOLD by the authors' own Lean function (tested against real Go, not proved from fmt's source: count such statements apart). THE CARD IS WHAT COUNTS. Prove the row's statement (the work); the ties are given (YtheiaebmemcbhaaDoorTie.lean); close each card by the builder's one call (the guide's Derived/Test/ToyasCard.lean, 'card_holds'). Laid BY PROGRAM, IN A SANDBOX (cutbox-door.mjs). By AI agents, Wed Nov 11 2026. No macro, syntax, notation, axiom, sorry.
-/
import Derived.Test.YtheiaebmemcbhaaDoorRows
import GoSem.ClaimSeven
namespace Go.Proofs.YtheiaebmemcbhaaDoor
namespace Rows

/-- THE TIED CARD OF 'ringkeep3.DirFinds'. -/
def dirFindsCard : Claim7 := { stood := { row := dirFindsRow, standIns := [], harness := (true, "be823d61da5ae6658d3afda65833d26bb83317dd0533062f0025c3a31c46fa0e"), looks := false }, kinds := [], alts := [], laidByText := true, laidKinds := [.data, .pinned], laidTests := true, laidLooks := .later }
def DirFindsCardSaid : Prop := Claim7.holds Tryd.pinned (.plain (OpenSpec.ofChange dirFindsSpec)) dirFindsCard

/-- THE TIED CARD OF 'ringkeep3.DirNames'. -/
def dirNamesCard : Claim7 := { stood := { row := dirNamesRow, standIns := [], harness := (true, "be823d61da5ae6658d3afda65833d26bb83317dd0533062f0025c3a31c46fa0e"), looks := false }, kinds := [], alts := [], laidByText := true, laidKinds := [.data, .pinned], laidTests := true, laidLooks := .later }
def DirNamesCardSaid : Prop := Claim7.holds Tryd.pinned (.plain (OpenSpec.ofChange dirNamesSpec)) dirNamesCard

/-- THE TIED CARD OF 'ringkeep3.DirAny'. -/
def dirAnyCard : Claim7 := { stood := { row := dirAnyRow, standIns := [], harness := (true, "be823d61da5ae6658d3afda65833d26bb83317dd0533062f0025c3a31c46fa0e"), looks := false }, kinds := [], alts := [], laidByText := true, laidKinds := [.data, .pinned], laidTests := true, laidLooks := .later }
def DirAnyCardSaid : Prop := Claim7.holds Tryd.pinned (.plain (OpenSpec.ofChange dirAnySpec)) dirAnyCard

/-- THE TIED CARD OF 'ringkeep3.DirBack'. -/
def dirBackCard : Claim7 := { stood := { row := dirBackRow, standIns := [], harness := (true, "be823d61da5ae6658d3afda65833d26bb83317dd0533062f0025c3a31c46fa0e"), looks := false }, kinds := [], alts := [], laidByText := true, laidKinds := [.data, .pinned], laidTests := true, laidLooks := .later }
def DirBackCardSaid : Prop := Claim7.holds Tryd.pinned (.plain (OpenSpec.ofChange dirBackSpec)) dirBackCard

/-- THE TIED CARD OF 'ringkeep3.DirOrder'. -/
def dirOrderCard : Claim7 := { stood := { row := dirOrderRow, standIns := [], harness := (true, "be823d61da5ae6658d3afda65833d26bb83317dd0533062f0025c3a31c46fa0e"), looks := false }, kinds := [], alts := [], laidByText := true, laidKinds := [.data, .pinned], laidTests := true, laidLooks := .later }
def DirOrderCardSaid : Prop := Claim7.holds Tryd.pinned (.plain (OpenSpec.ofChange dirOrderSpec)) dirOrderCard

/-- THE TIED CARD OF 'ringkeep3.DirPuts'. -/
def dirPutsCard : Claim7 := { stood := { row := dirPutsRow, standIns := [], harness := (true, "be823d61da5ae6658d3afda65833d26bb83317dd0533062f0025c3a31c46fa0e"), looks := false }, kinds := [], alts := [], laidByText := true, laidKinds := [.data, .pinned], laidTests := true, laidLooks := .later }
def DirPutsCardSaid : Prop := Claim7.holds Tryd.pinned (.plain (OpenSpec.ofChange dirPutsSpec)) dirPutsCard

/-- THE SECOND FORM's CARD OF 'ringkeep3.DirFinds'. -/
def dirFindsUptoCard : Claim7 := { stood := { row := dirFindsUptoRow, standIns := [], harness := (true, "be823d61da5ae6658d3afda65833d26bb83317dd0533062f0025c3a31c46fa0e"), looks := false }, kinds := [], alts := [], laidByText := true, laidKinds := [.data, .pinned], laidTests := true, laidLooks := .later }
def DirFindsUptoCardSaid : Prop := Claim7.holds Tryd.pinned (.plain (OpenSpec.upto dirFindsSpec)) dirFindsUptoCard

/-- THE SECOND FORM's CARD OF 'ringkeep3.DirNames'. -/
def dirNamesUptoCard : Claim7 := { stood := { row := dirNamesUptoRow, standIns := [], harness := (true, "be823d61da5ae6658d3afda65833d26bb83317dd0533062f0025c3a31c46fa0e"), looks := false }, kinds := [], alts := [], laidByText := true, laidKinds := [.data, .pinned], laidTests := true, laidLooks := .later }
def DirNamesUptoCardSaid : Prop := Claim7.holds Tryd.pinned (.plain (OpenSpec.upto dirNamesSpec)) dirNamesUptoCard

/-- THE SECOND FORM's CARD OF 'ringkeep3.DirAny'. -/
def dirAnyUptoCard : Claim7 := { stood := { row := dirAnyUptoRow, standIns := [], harness := (true, "be823d61da5ae6658d3afda65833d26bb83317dd0533062f0025c3a31c46fa0e"), looks := false }, kinds := [], alts := [], laidByText := true, laidKinds := [.data, .pinned], laidTests := true, laidLooks := .later }
def DirAnyUptoCardSaid : Prop := Claim7.holds Tryd.pinned (.plain (OpenSpec.upto dirAnySpec)) dirAnyUptoCard

/-- THE SECOND FORM's CARD OF 'ringkeep3.DirBack'. -/
def dirBackUptoCard : Claim7 := { stood := { row := dirBackUptoRow, standIns := [], harness := (true, "be823d61da5ae6658d3afda65833d26bb83317dd0533062f0025c3a31c46fa0e"), looks := false }, kinds := [], alts := [], laidByText := true, laidKinds := [.data, .pinned], laidTests := true, laidLooks := .later }
def DirBackUptoCardSaid : Prop := Claim7.holds Tryd.pinned (.plain (OpenSpec.upto dirBackSpec)) dirBackUptoCard

/-- THE SECOND FORM's CARD OF 'ringkeep3.DirOrder'. -/
def dirOrderUptoCard : Claim7 := { stood := { row := dirOrderUptoRow, standIns := [], harness := (true, "be823d61da5ae6658d3afda65833d26bb83317dd0533062f0025c3a31c46fa0e"), looks := false }, kinds := [], alts := [], laidByText := true, laidKinds := [.data, .pinned], laidTests := true, laidLooks := .later }
def DirOrderUptoCardSaid : Prop := Claim7.holds Tryd.pinned (.plain (OpenSpec.upto dirOrderSpec)) dirOrderUptoCard

/-- THE SECOND FORM's CARD OF 'ringkeep3.DirPuts'. -/
def dirPutsUptoCard : Claim7 := { stood := { row := dirPutsUptoRow, standIns := [], harness := (true, "be823d61da5ae6658d3afda65833d26bb83317dd0533062f0025c3a31c46fa0e"), looks := false }, kinds := [], alts := [], laidByText := true, laidKinds := [.data, .pinned], laidTests := true, laidLooks := .later }
def DirPutsUptoCardSaid : Prop := Claim7.holds Tryd.pinned (.plain (OpenSpec.upto dirPutsSpec)) dirPutsUptoCard
end Rows
end Go.Proofs.YtheiaebmemcbhaaDoor
