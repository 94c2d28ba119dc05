/-
  NARROWER THAN 'FOR EVERY INPUT', by the rows' own cells (each row's printed sentence says how): FsRight: laid · FsKept: laid · FsMoves: laid · FsErrors: laid.
  DERIVED. THE GIVEN ROWS OF THIS SEAT. 4 by the template 'for every input the law returns true; each argument reads behind the call as it read before'; 0 by the template 'total and deterministic' (their statements: YtpcedcnjofbgjaaGreatDoorTotals.lean).
  GIVEN WITH THE SEED: the statements are not yours to turn. If you find one false, say at which input.
  Laid BY PROGRAM, IN A SANDBOX (cutbox-rows.mjs): the forced cells as the released guide's own fill.sh prints them over the translation 655f9a1f80deb73d… (all of the seat's roots in one cut). By AI agents, Wed Nov 11 2026. No macro, syntax, notation, axiom, sorry.
-/
import Derived.Test.YtpcedcnjofbgjaaGreatDoorChecked
import GoSem.PinnedTables
import GoSem.Claim
import GoSem.ClaimJoined
import GoSem.ClaimMapViews
import Derived.JoinedTies
import Derived.KernelRfl
namespace Go.Proofs.YtpcedcnjofbgjaaGreatDoor
/- THE CELL 'sum', in the pinned program and in every row, IS THE sha256 OF THE DUMP (.gsa) THAT YtpcedcnjofbgjaaGreatDoorProg.lean LOADS. Nothing in Lean hashes anything: it is a label: what it is worth is what the hold of that sum in a sandbox is worth. -/
noncomputable def Tryz.pinned : Pinned := { name := "ytpcedcnjofbgjaagreatdoor", sum := "655f9a1f80deb73dc8c082ace1acc01034a648f695f8a56e4b13b8a34546723b", checked := Tryz.checked }
namespace Rows
def none {H : Type} : Left H := { results := [], args := [] }

/- WHAT THE LISTED PACKAGE-LEVEL VARIABLES READ AS WHEN THE CALL BEGINS. Each datum BY PROGRAM (the guide's laid-datum.mjs) off the statement by which the dump's own 'gosem.cut.vars' lays the variable. In a bare row this is a premise. The card (YtpcedcnjofbgjaaGreatDoorCards.lean) ties it to the program's text. -/
def laid_unicode_utf8_acceptRanges {H : Type} : DataW H := .agg [.agg [.lit (.int .u8 128), .lit (.int .u8 191)], .agg [.lit (.int .u8 160), .lit (.int .u8 191)], .agg [.lit (.int .u8 128), .lit (.int .u8 159)], .agg [.lit (.int .u8 144), .lit (.int .u8 191)], .agg [.lit (.int .u8 128), .lit (.int .u8 143)], .agg [.lit (.int .u8 0), .lit (.int .u8 0)], .agg [.lit (.int .u8 0), .lit (.int .u8 0)], .agg [.lit (.int .u8 0), .lit (.int .u8 0)], .agg [.lit (.int .u8 0), .lit (.int .u8 0)], .agg [.lit (.int .u8 0), .lit (.int .u8 0)], .agg [.lit (.int .u8 0), .lit (.int .u8 0)], .agg [.lit (.int .u8 0), .lit (.int .u8 0)], .agg [.lit (.int .u8 0), .lit (.int .u8 0)], .agg [.lit (.int .u8 0), .lit (.int .u8 0)], .agg [.lit (.int .u8 0), .lit (.int .u8 0)], .agg [.lit (.int .u8 0), .lit (.int .u8 0)]]
/-- One of Go's own tables, pinned by name: the form's constant. -/
def laid_unicode_utf8_first : DataW Unit := Go.Pinned.utf8First

/-- 'ringkeep3.FsRight': WHATEVER THE INPUT: true; the input reads as it did. -/
def fsRightSpec : ChangeSpec := { name := "fsRight", fn := fun _ => fun
  | [d] => { results := [.lit (.bool true)], args := [d] }
  | _ => none }
def fsRightRow : OpenClaim := { program := "ytpcedcnjofbgjaagreatdoor", sum := "655f9a1f80deb73dc8c082ace1acc01034a648f695f8a56e4b13b8a34546723b", func := "ringhall/ringkeep3.FsRight", spec := "fsRight", inPlace := ["internal/bytealg.IndexByteString", "internal/bytealg.IndexString", "slices.overlaps[ringhall/quota.Row]"], unfollowed := true, recurses := true, named := ["unicode/utf8.first", "unicode/utf8.acceptRanges", "internal/bytealg.MaxLen"], apart := false, laid := [("unicode/utf8.acceptRanges", laid_unicode_utf8_acceptRanges), ("unicode/utf8.first", laid_unicode_utf8_first)] }
def FsRightSaid : Prop := fsRightRow.holds Tryz.pinned (OpenSpec.ofChange fsRightSpec)

/-- ITS FALSE NEIGHBOUR: 'it returns false'. Refute it at one input. -/
def fsRightWrong : ChangeSpec := { name := "fsRight", fn := fun _ => fun
  | [d] => { results := [.lit (.bool false)], args := [d] }
  | _ => none }
def FsRightWrongFalsely : Prop := fsRightRow.holds Tryz.pinned (OpenSpec.ofChange fsRightWrong)

/-- 'ringkeep3.FsKept': WHATEVER THE INPUT: true; the input reads as it did. -/
def fsKeptSpec : ChangeSpec := { name := "fsKept", fn := fun _ => fun
  | [d1, d2] => { results := [.lit (.bool true)], args := [d1, d2] }
  | _ => none }
def fsKeptRow : OpenClaim := { program := "ytpcedcnjofbgjaagreatdoor", sum := "655f9a1f80deb73dc8c082ace1acc01034a648f695f8a56e4b13b8a34546723b", func := "ringhall/ringkeep3.FsKept", spec := "fsKept", inPlace := ["internal/bytealg.IndexByteString", "internal/bytealg.IndexString", "slices.overlaps[ringhall/quota.Row]"], unfollowed := true, recurses := true, named := ["unicode/utf8.first", "unicode/utf8.acceptRanges", "internal/bytealg.MaxLen"], apart := false, laid := [("unicode/utf8.acceptRanges", laid_unicode_utf8_acceptRanges), ("unicode/utf8.first", laid_unicode_utf8_first)] }
def FsKeptSaid : Prop := fsKeptRow.holds Tryz.pinned (OpenSpec.ofChange fsKeptSpec)

/-- ITS FALSE NEIGHBOUR: 'it returns false'. Refute it at one input. -/
def fsKeptWrong : ChangeSpec := { name := "fsKept", fn := fun _ => fun
  | [d1, d2] => { results := [.lit (.bool false)], args := [d1, d2] }
  | _ => none }
def FsKeptWrongFalsely : Prop := fsKeptRow.holds Tryz.pinned (OpenSpec.ofChange fsKeptWrong)

/-- 'ringkeep3.FsMoves': WHATEVER THE INPUT: true; the input reads as it did. -/
def fsMovesSpec : ChangeSpec := { name := "fsMoves", fn := fun _ => fun
  | [d1, d2, d3, d4, d5] => { results := [.lit (.bool true)], args := [d1, d2, d3, d4, d5] }
  | _ => none }
def fsMovesRow : OpenClaim := { program := "ytpcedcnjofbgjaagreatdoor", sum := "655f9a1f80deb73dc8c082ace1acc01034a648f695f8a56e4b13b8a34546723b", func := "ringhall/ringkeep3.FsMoves", spec := "fsMoves", inPlace := ["internal/bytealg.IndexByteString", "internal/bytealg.IndexString", "slices.overlaps[ringhall/quota.Row]"], unfollowed := true, recurses := true, named := ["unicode/utf8.first", "unicode/utf8.acceptRanges", "internal/bytealg.MaxLen"], apart := false, laid := [("unicode/utf8.acceptRanges", laid_unicode_utf8_acceptRanges), ("unicode/utf8.first", laid_unicode_utf8_first)] }
def FsMovesSaid : Prop := fsMovesRow.holds Tryz.pinned (OpenSpec.ofChange fsMovesSpec)

/-- ITS FALSE NEIGHBOUR: 'it returns false'. Refute it at one input. -/
def fsMovesWrong : ChangeSpec := { name := "fsMoves", fn := fun _ => fun
  | [d1, d2, d3, d4, d5] => { results := [.lit (.bool false)], args := [d1, d2, d3, d4, d5] }
  | _ => none }
def FsMovesWrongFalsely : Prop := fsMovesRow.holds Tryz.pinned (OpenSpec.ofChange fsMovesWrong)

/-- 'ringkeep3.FsErrors': WHATEVER THE INPUT: true; the input reads as it did. -/
def fsErrorsSpec : ChangeSpec := { name := "fsErrors", fn := fun _ => fun
  | [d1, d2] => { results := [.lit (.bool true)], args := [d1, d2] }
  | _ => none }
def fsErrorsRow : OpenClaim := { program := "ytpcedcnjofbgjaagreatdoor", sum := "655f9a1f80deb73dc8c082ace1acc01034a648f695f8a56e4b13b8a34546723b", func := "ringhall/ringkeep3.FsErrors", spec := "fsErrors", inPlace := ["internal/bytealg.IndexByteString", "internal/bytealg.IndexString", "slices.overlaps[ringhall/quota.Row]"], unfollowed := true, recurses := true, named := ["unicode/utf8.first", "unicode/utf8.acceptRanges", "internal/bytealg.MaxLen"], apart := false, laid := [("unicode/utf8.acceptRanges", laid_unicode_utf8_acceptRanges), ("unicode/utf8.first", laid_unicode_utf8_first)] }
def FsErrorsSaid : Prop := fsErrorsRow.holds Tryz.pinned (OpenSpec.ofChange fsErrorsSpec)

/-- ITS FALSE NEIGHBOUR: 'it returns false'. Refute it at one input. -/
def fsErrorsWrong : ChangeSpec := { name := "fsErrors", fn := fun _ => fun
  | [d1, d2] => { results := [.lit (.bool false)], args := [d1, d2] }
  | _ => none }
def FsErrorsWrongFalsely : Prop := fsErrorsRow.holds Tryz.pinned (OpenSpec.ofChange fsErrorsWrong)

/- THE SECOND FORM. 'bulk': how many values and letters a reading holds, each counted each time it is reached (what is shared counts as often as it is met; a slice's spare places count too). A statement '..UptoSaid' is the law's where the arguments, and the package variables that the reading takes, are together of bulk at most 1048576: NARROWER than '..Said'. Prove '..Said' where nothing that the law and all that it calls make is longer than what came in: it says more and counts as full. Else prove '..UptoSaid'. A law counts once. -/
mutual
def uptoBulk {H : Type} : DataW H → Nat
  | .lit (.string bytes) => bytes.length + 1
  | .lit _ => 1
  | .nil => 1
  | .ptr d => uptoBulk d + 1
  | .slice elems spare => uptoBulkAll elems + uptoBulkAll spare + 1
  | .agg parts => uptoBulkAll parts + 1
  | .iface _ d => uptoBulk d + 1
  | .map entries => uptoBulkEntries entries + 1
  | .held _ => 1
def uptoBulkAll {H : Type} : List (DataW H) → Nat
  | [] => 0
  | d :: r => uptoBulk d + uptoBulkAll r
def uptoBulkEntries {H : Type} : List (Lit × DataW H) → Nat
  | [] => 0
  | x :: r => uptoBulkEntry x + uptoBulkEntries r
def uptoBulkEntry {H : Type} : Lit × DataW H → Nat
  | (.string bytes, d) => bytes.length + uptoBulk d + 1
  | (_, d) => uptoBulk d + 1
 end
def uptoSmall : (H : Type) → List (DataW H) → Bool := fun _ ds => decide (uptoBulkAll ds ≤ 1048576)
def OpenSpec.upto (s : _root_.Go.ChangeSpec) : _root_.Go.OpenSpec := { _root_.Go.OpenSpec.ofChange s with cond := some uptoSmall }

/-- 'ringkeep3.FsRight', WHERE WHAT IT READS IS OF BULK AT MOST 1048576: true; the input reads as it did. -/
def fsRightUptoRow : OpenClaim := { program := "ytpcedcnjofbgjaagreatdoor", sum := "655f9a1f80deb73dc8c082ace1acc01034a648f695f8a56e4b13b8a34546723b", func := "ringhall/ringkeep3.FsRight", spec := "fsRight", inPlace := ["internal/bytealg.IndexByteString", "internal/bytealg.IndexString", "slices.overlaps[ringhall/quota.Row]"], unfollowed := true, recurses := true, named := ["unicode/utf8.first", "unicode/utf8.acceptRanges", "internal/bytealg.MaxLen"], apart := false, laid := [("unicode/utf8.acceptRanges", laid_unicode_utf8_acceptRanges), ("unicode/utf8.first", laid_unicode_utf8_first)], narrowed := true }
def FsRightUptoSaid : Prop := fsRightUptoRow.holds Tryz.pinned (OpenSpec.upto fsRightSpec)

/-- 'ringkeep3.FsKept', WHERE WHAT IT READS IS OF BULK AT MOST 1048576: true; the input reads as it did. -/
def fsKeptUptoRow : OpenClaim := { program := "ytpcedcnjofbgjaagreatdoor", sum := "655f9a1f80deb73dc8c082ace1acc01034a648f695f8a56e4b13b8a34546723b", func := "ringhall/ringkeep3.FsKept", spec := "fsKept", inPlace := ["internal/bytealg.IndexByteString", "internal/bytealg.IndexString", "slices.overlaps[ringhall/quota.Row]"], unfollowed := true, recurses := true, named := ["unicode/utf8.first", "unicode/utf8.acceptRanges", "internal/bytealg.MaxLen"], apart := false, laid := [("unicode/utf8.acceptRanges", laid_unicode_utf8_acceptRanges), ("unicode/utf8.first", laid_unicode_utf8_first)], narrowed := true }
def FsKeptUptoSaid : Prop := fsKeptUptoRow.holds Tryz.pinned (OpenSpec.upto fsKeptSpec)

/-- 'ringkeep3.FsMoves', WHERE WHAT IT READS IS OF BULK AT MOST 1048576: true; the input reads as it did. -/
def fsMovesUptoRow : OpenClaim := { program := "ytpcedcnjofbgjaagreatdoor", sum := "655f9a1f80deb73dc8c082ace1acc01034a648f695f8a56e4b13b8a34546723b", func := "ringhall/ringkeep3.FsMoves", spec := "fsMoves", inPlace := ["internal/bytealg.IndexByteString", "internal/bytealg.IndexString", "slices.overlaps[ringhall/quota.Row]"], unfollowed := true, recurses := true, named := ["unicode/utf8.first", "unicode/utf8.acceptRanges", "internal/bytealg.MaxLen"], apart := false, laid := [("unicode/utf8.acceptRanges", laid_unicode_utf8_acceptRanges), ("unicode/utf8.first", laid_unicode_utf8_first)], narrowed := true }
def FsMovesUptoSaid : Prop := fsMovesUptoRow.holds Tryz.pinned (OpenSpec.upto fsMovesSpec)

/-- 'ringkeep3.FsErrors', WHERE WHAT IT READS IS OF BULK AT MOST 1048576: true; the input reads as it did. -/
def fsErrorsUptoRow : OpenClaim := { program := "ytpcedcnjofbgjaagreatdoor", sum := "655f9a1f80deb73dc8c082ace1acc01034a648f695f8a56e4b13b8a34546723b", func := "ringhall/ringkeep3.FsErrors", spec := "fsErrors", inPlace := ["internal/bytealg.IndexByteString", "internal/bytealg.IndexString", "slices.overlaps[ringhall/quota.Row]"], unfollowed := true, recurses := true, named := ["unicode/utf8.first", "unicode/utf8.acceptRanges", "internal/bytealg.MaxLen"], apart := false, laid := [("unicode/utf8.acceptRanges", laid_unicode_utf8_acceptRanges), ("unicode/utf8.first", laid_unicode_utf8_first)], narrowed := true }
def FsErrorsUptoSaid : Prop := fsErrorsUptoRow.holds Tryz.pinned (OpenSpec.upto fsErrorsSpec)

end Rows
end Go.Proofs.YtpcedcnjofbgjaaGreatDoor
