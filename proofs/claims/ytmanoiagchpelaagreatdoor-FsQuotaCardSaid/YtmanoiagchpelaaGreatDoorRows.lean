/-
  NARROWER THAN 'FOR EVERY INPUT', by the rows' own cells (each row's printed sentence says how): FsRight: laid · FsQuota: laid · FsBack: laid · FsTree: laid · FsKept: laid · FsMoves: laid · FsApart: laid · FsErrors: laid · FsSync: laid · FsAgain: laid · FsStep: laid · FsHeld: laid.
  DERIVED. THE GIVEN ROWS OF THIS SEAT. 12 by the template 'for every input the law returns true; each argument reads behind the call as it read before'; 0 by the template 'total and deterministic' (their statements: YtmanoiagchpelaaGreatDoorTotals.lean).
  GIVEN WITH THE SEED: the statements are not yours to turn. If you find one false, say at which input.
  Laid BY PROGRAM, IN A SANDBOX (cutbox-rows.mjs): the forced cells as the released guide's own fill.sh prints them over the translation d797b5506089f8f5… (all of the seat's roots in one cut). By AI agents, Wed Nov 11 2026. No macro, syntax, notation, axiom, sorry.
-/
import Derived.Test.YtmanoiagchpelaaGreatDoorChecked
import GoSem.PinnedTables
import GoSem.Claim
import GoSem.ClaimJoined
import GoSem.ClaimMapViews
import Derived.JoinedTies
import Derived.KernelRfl
namespace Go.Proofs.YtmanoiagchpelaaGreatDoor
/- THE CELL 'sum', in the pinned program and in every row, IS THE sha256 OF THE DUMP (.gsa) THAT YtmanoiagchpelaaGreatDoorProg.lean LOADS. Nothing in Lean hashes anything: it is a label: what it is worth is what the hold of that sum in a sandbox is worth. -/
noncomputable def Tryz.pinned : Pinned := { name := "ytmanoiagchpelaagreatdoor", sum := "d797b5506089f8f54482cd90c8966c86bb730c886f90f6d9682aa04927be071e", checked := Tryz.checked }
namespace Rows
def none {H : Type} : Left H := { results := [], args := [] }

/- WHAT THE LISTED PACKAGE-LEVEL VARIABLES READ AS WHEN THE CALL BEGINS. Each datum BY PROGRAM (the guide's laid-datum.mjs) off the statement by which the dump's own 'gosem.cut.vars' lays the variable. In a bare row this is a premise. The card (YtmanoiagchpelaaGreatDoorCards.lean) ties it to the program's text. -/
def laid_unicode_utf8_acceptRanges {H : Type} : DataW H := .agg [.agg [.lit (.int .u8 128), .lit (.int .u8 191)], .agg [.lit (.int .u8 160), .lit (.int .u8 191)], .agg [.lit (.int .u8 128), .lit (.int .u8 159)], .agg [.lit (.int .u8 144), .lit (.int .u8 191)], .agg [.lit (.int .u8 128), .lit (.int .u8 143)], .agg [.lit (.int .u8 0), .lit (.int .u8 0)], .agg [.lit (.int .u8 0), .lit (.int .u8 0)], .agg [.lit (.int .u8 0), .lit (.int .u8 0)], .agg [.lit (.int .u8 0), .lit (.int .u8 0)], .agg [.lit (.int .u8 0), .lit (.int .u8 0)], .agg [.lit (.int .u8 0), .lit (.int .u8 0)], .agg [.lit (.int .u8 0), .lit (.int .u8 0)], .agg [.lit (.int .u8 0), .lit (.int .u8 0)], .agg [.lit (.int .u8 0), .lit (.int .u8 0)], .agg [.lit (.int .u8 0), .lit (.int .u8 0)], .agg [.lit (.int .u8 0), .lit (.int .u8 0)]]
/-- One of Go's own tables, pinned by name: the form's constant. -/
def laid_unicode_utf8_first : DataW Unit := Go.Pinned.utf8First

/-- 'ringkeep3.FsRight': WHATEVER THE INPUT: true; the input reads as it did. -/
def fsRightSpec : ChangeSpec := { name := "fsRight", fn := fun _ => fun
  | [d] => { results := [.lit (.bool true)], args := [d] }
  | _ => none }
def fsRightRow : OpenClaim := { program := "ytmanoiagchpelaagreatdoor", sum := "d797b5506089f8f54482cd90c8966c86bb730c886f90f6d9682aa04927be071e", func := "ringhall/ringkeep3.FsRight", spec := "fsRight", inPlace := ["internal/bytealg.IndexByteString", "internal/bytealg.IndexString", "slices.overlaps[ringhall/quota.Row]"], unfollowed := true, recurses := true, named := ["unicode/utf8.first", "unicode/utf8.acceptRanges", "internal/bytealg.MaxLen"], apart := false, laid := [("unicode/utf8.acceptRanges", laid_unicode_utf8_acceptRanges), ("unicode/utf8.first", laid_unicode_utf8_first)] }
def FsRightSaid : Prop := fsRightRow.holds Tryz.pinned (OpenSpec.ofChange fsRightSpec)

/-- ITS FALSE NEIGHBOUR: 'it returns false'. Refute it at one input. -/
def fsRightWrong : ChangeSpec := { name := "fsRight", fn := fun _ => fun
  | [d] => { results := [.lit (.bool false)], args := [d] }
  | _ => none }
def FsRightWrongFalsely : Prop := fsRightRow.holds Tryz.pinned (OpenSpec.ofChange fsRightWrong)

/-- 'ringkeep3.FsQuota': WHATEVER THE INPUT: true; the input reads as it did. -/
def fsQuotaSpec : ChangeSpec := { name := "fsQuota", fn := fun _ => fun
  | [d1, d2] => { results := [.lit (.bool true)], args := [d1, d2] }
  | _ => none }
def fsQuotaRow : OpenClaim := { program := "ytmanoiagchpelaagreatdoor", sum := "d797b5506089f8f54482cd90c8966c86bb730c886f90f6d9682aa04927be071e", func := "ringhall/ringkeep3.FsQuota", spec := "fsQuota", inPlace := ["internal/bytealg.IndexByteString", "internal/bytealg.IndexString", "slices.overlaps[ringhall/quota.Row]"], unfollowed := true, recurses := true, named := ["unicode/utf8.first", "unicode/utf8.acceptRanges", "internal/bytealg.MaxLen"], apart := false, laid := [("unicode/utf8.acceptRanges", laid_unicode_utf8_acceptRanges), ("unicode/utf8.first", laid_unicode_utf8_first)] }
def FsQuotaSaid : Prop := fsQuotaRow.holds Tryz.pinned (OpenSpec.ofChange fsQuotaSpec)

/-- ITS FALSE NEIGHBOUR: 'it returns false'. Refute it at one input. -/
def fsQuotaWrong : ChangeSpec := { name := "fsQuota", fn := fun _ => fun
  | [d1, d2] => { results := [.lit (.bool false)], args := [d1, d2] }
  | _ => none }
def FsQuotaWrongFalsely : Prop := fsQuotaRow.holds Tryz.pinned (OpenSpec.ofChange fsQuotaWrong)

/-- 'ringkeep3.FsBack': WHATEVER THE INPUT: true; the input reads as it did. -/
def fsBackSpec : ChangeSpec := { name := "fsBack", fn := fun _ => fun
  | [d] => { results := [.lit (.bool true)], args := [d] }
  | _ => none }
def fsBackRow : OpenClaim := { program := "ytmanoiagchpelaagreatdoor", sum := "d797b5506089f8f54482cd90c8966c86bb730c886f90f6d9682aa04927be071e", func := "ringhall/ringkeep3.FsBack", spec := "fsBack", inPlace := ["internal/bytealg.IndexByteString", "internal/bytealg.IndexString", "slices.overlaps[ringhall/quota.Row]"], unfollowed := true, recurses := true, named := ["unicode/utf8.first", "unicode/utf8.acceptRanges", "internal/bytealg.MaxLen"], apart := false, laid := [("unicode/utf8.acceptRanges", laid_unicode_utf8_acceptRanges), ("unicode/utf8.first", laid_unicode_utf8_first)] }
def FsBackSaid : Prop := fsBackRow.holds Tryz.pinned (OpenSpec.ofChange fsBackSpec)

/-- ITS FALSE NEIGHBOUR: 'it returns false'. Refute it at one input. -/
def fsBackWrong : ChangeSpec := { name := "fsBack", fn := fun _ => fun
  | [d] => { results := [.lit (.bool false)], args := [d] }
  | _ => none }
def FsBackWrongFalsely : Prop := fsBackRow.holds Tryz.pinned (OpenSpec.ofChange fsBackWrong)

/-- 'ringkeep3.FsTree': WHATEVER THE INPUT: true; the input reads as it did. -/
def fsTreeSpec : ChangeSpec := { name := "fsTree", fn := fun _ => fun
  | [d] => { results := [.lit (.bool true)], args := [d] }
  | _ => none }
def fsTreeRow : OpenClaim := { program := "ytmanoiagchpelaagreatdoor", sum := "d797b5506089f8f54482cd90c8966c86bb730c886f90f6d9682aa04927be071e", func := "ringhall/ringkeep3.FsTree", spec := "fsTree", inPlace := ["internal/bytealg.IndexByteString", "internal/bytealg.IndexString", "slices.overlaps[ringhall/quota.Row]"], unfollowed := true, recurses := true, named := ["unicode/utf8.first", "unicode/utf8.acceptRanges", "internal/bytealg.MaxLen"], apart := false, laid := [("unicode/utf8.acceptRanges", laid_unicode_utf8_acceptRanges), ("unicode/utf8.first", laid_unicode_utf8_first)] }
def FsTreeSaid : Prop := fsTreeRow.holds Tryz.pinned (OpenSpec.ofChange fsTreeSpec)

/-- ITS FALSE NEIGHBOUR: 'it returns false'. Refute it at one input. -/
def fsTreeWrong : ChangeSpec := { name := "fsTree", fn := fun _ => fun
  | [d] => { results := [.lit (.bool false)], args := [d] }
  | _ => none }
def FsTreeWrongFalsely : Prop := fsTreeRow.holds Tryz.pinned (OpenSpec.ofChange fsTreeWrong)

/-- 'ringkeep3.FsKept': WHATEVER THE INPUT: true; the input reads as it did. -/
def fsKeptSpec : ChangeSpec := { name := "fsKept", fn := fun _ => fun
  | [d1, d2] => { results := [.lit (.bool true)], args := [d1, d2] }
  | _ => none }
def fsKeptRow : OpenClaim := { program := "ytmanoiagchpelaagreatdoor", sum := "d797b5506089f8f54482cd90c8966c86bb730c886f90f6d9682aa04927be071e", func := "ringhall/ringkeep3.FsKept", spec := "fsKept", inPlace := ["internal/bytealg.IndexByteString", "internal/bytealg.IndexString", "slices.overlaps[ringhall/quota.Row]"], unfollowed := true, recurses := true, named := ["unicode/utf8.first", "unicode/utf8.acceptRanges", "internal/bytealg.MaxLen"], apart := false, laid := [("unicode/utf8.acceptRanges", laid_unicode_utf8_acceptRanges), ("unicode/utf8.first", laid_unicode_utf8_first)] }
def FsKeptSaid : Prop := fsKeptRow.holds Tryz.pinned (OpenSpec.ofChange fsKeptSpec)

/-- ITS FALSE NEIGHBOUR: 'it returns false'. Refute it at one input. -/
def fsKeptWrong : ChangeSpec := { name := "fsKept", fn := fun _ => fun
  | [d1, d2] => { results := [.lit (.bool false)], args := [d1, d2] }
  | _ => none }
def FsKeptWrongFalsely : Prop := fsKeptRow.holds Tryz.pinned (OpenSpec.ofChange fsKeptWrong)

/-- 'ringkeep3.FsMoves': WHATEVER THE INPUT: true; the input reads as it did. -/
def fsMovesSpec : ChangeSpec := { name := "fsMoves", fn := fun _ => fun
  | [d1, d2, d3, d4, d5] => { results := [.lit (.bool true)], args := [d1, d2, d3, d4, d5] }
  | _ => none }
def fsMovesRow : OpenClaim := { program := "ytmanoiagchpelaagreatdoor", sum := "d797b5506089f8f54482cd90c8966c86bb730c886f90f6d9682aa04927be071e", func := "ringhall/ringkeep3.FsMoves", spec := "fsMoves", inPlace := ["internal/bytealg.IndexByteString", "internal/bytealg.IndexString", "slices.overlaps[ringhall/quota.Row]"], unfollowed := true, recurses := true, named := ["unicode/utf8.first", "unicode/utf8.acceptRanges", "internal/bytealg.MaxLen"], apart := false, laid := [("unicode/utf8.acceptRanges", laid_unicode_utf8_acceptRanges), ("unicode/utf8.first", laid_unicode_utf8_first)] }
def FsMovesSaid : Prop := fsMovesRow.holds Tryz.pinned (OpenSpec.ofChange fsMovesSpec)

/-- ITS FALSE NEIGHBOUR: 'it returns false'. Refute it at one input. -/
def fsMovesWrong : ChangeSpec := { name := "fsMoves", fn := fun _ => fun
  | [d1, d2, d3, d4, d5] => { results := [.lit (.bool false)], args := [d1, d2, d3, d4, d5] }
  | _ => none }
def FsMovesWrongFalsely : Prop := fsMovesRow.holds Tryz.pinned (OpenSpec.ofChange fsMovesWrong)

/-- 'ringkeep3.FsApart': WHATEVER THE INPUT: true; the input reads as it did. -/
def fsApartSpec : ChangeSpec := { name := "fsApart", fn := fun _ => fun
  | [d1, d2, d3, d4] => { results := [.lit (.bool true)], args := [d1, d2, d3, d4] }
  | _ => none }
def fsApartRow : OpenClaim := { program := "ytmanoiagchpelaagreatdoor", sum := "d797b5506089f8f54482cd90c8966c86bb730c886f90f6d9682aa04927be071e", func := "ringhall/ringkeep3.FsApart", spec := "fsApart", inPlace := ["internal/bytealg.IndexByteString", "internal/bytealg.IndexString", "slices.overlaps[ringhall/quota.Row]"], unfollowed := true, recurses := true, named := ["unicode/utf8.first", "unicode/utf8.acceptRanges", "internal/bytealg.MaxLen"], apart := false, laid := [("unicode/utf8.acceptRanges", laid_unicode_utf8_acceptRanges), ("unicode/utf8.first", laid_unicode_utf8_first)] }
def FsApartSaid : Prop := fsApartRow.holds Tryz.pinned (OpenSpec.ofChange fsApartSpec)

/-- ITS FALSE NEIGHBOUR: 'it returns false'. Refute it at one input. -/
def fsApartWrong : ChangeSpec := { name := "fsApart", fn := fun _ => fun
  | [d1, d2, d3, d4] => { results := [.lit (.bool false)], args := [d1, d2, d3, d4] }
  | _ => none }
def FsApartWrongFalsely : Prop := fsApartRow.holds Tryz.pinned (OpenSpec.ofChange fsApartWrong)

/-- 'ringkeep3.FsErrors': WHATEVER THE INPUT: true; the input reads as it did. -/
def fsErrorsSpec : ChangeSpec := { name := "fsErrors", fn := fun _ => fun
  | [d1, d2] => { results := [.lit (.bool true)], args := [d1, d2] }
  | _ => none }
def fsErrorsRow : OpenClaim := { program := "ytmanoiagchpelaagreatdoor", sum := "d797b5506089f8f54482cd90c8966c86bb730c886f90f6d9682aa04927be071e", func := "ringhall/ringkeep3.FsErrors", spec := "fsErrors", inPlace := ["internal/bytealg.IndexByteString", "internal/bytealg.IndexString", "slices.overlaps[ringhall/quota.Row]"], unfollowed := true, recurses := true, named := ["unicode/utf8.first", "unicode/utf8.acceptRanges", "internal/bytealg.MaxLen"], apart := false, laid := [("unicode/utf8.acceptRanges", laid_unicode_utf8_acceptRanges), ("unicode/utf8.first", laid_unicode_utf8_first)] }
def FsErrorsSaid : Prop := fsErrorsRow.holds Tryz.pinned (OpenSpec.ofChange fsErrorsSpec)

/-- ITS FALSE NEIGHBOUR: 'it returns false'. Refute it at one input. -/
def fsErrorsWrong : ChangeSpec := { name := "fsErrors", fn := fun _ => fun
  | [d1, d2] => { results := [.lit (.bool false)], args := [d1, d2] }
  | _ => none }
def FsErrorsWrongFalsely : Prop := fsErrorsRow.holds Tryz.pinned (OpenSpec.ofChange fsErrorsWrong)

/-- 'ringkeep3.FsSync': WHATEVER THE INPUT: true; the input reads as it did. -/
def fsSyncSpec : ChangeSpec := { name := "fsSync", fn := fun _ => fun
  | [d1, d2] => { results := [.lit (.bool true)], args := [d1, d2] }
  | _ => none }
def fsSyncRow : OpenClaim := { program := "ytmanoiagchpelaagreatdoor", sum := "d797b5506089f8f54482cd90c8966c86bb730c886f90f6d9682aa04927be071e", func := "ringhall/ringkeep3.FsSync", spec := "fsSync", inPlace := ["internal/bytealg.IndexByteString", "internal/bytealg.IndexString", "slices.overlaps[ringhall/quota.Row]"], unfollowed := true, recurses := true, named := ["unicode/utf8.first", "unicode/utf8.acceptRanges", "internal/bytealg.MaxLen"], apart := false, laid := [("unicode/utf8.acceptRanges", laid_unicode_utf8_acceptRanges), ("unicode/utf8.first", laid_unicode_utf8_first)] }
def FsSyncSaid : Prop := fsSyncRow.holds Tryz.pinned (OpenSpec.ofChange fsSyncSpec)

/-- ITS FALSE NEIGHBOUR: 'it returns false'. Refute it at one input. -/
def fsSyncWrong : ChangeSpec := { name := "fsSync", fn := fun _ => fun
  | [d1, d2] => { results := [.lit (.bool false)], args := [d1, d2] }
  | _ => none }
def FsSyncWrongFalsely : Prop := fsSyncRow.holds Tryz.pinned (OpenSpec.ofChange fsSyncWrong)

/-- 'ringkeep3.FsAgain': WHATEVER THE INPUT: true; the input reads as it did. -/
def fsAgainSpec : ChangeSpec := { name := "fsAgain", fn := fun _ => fun
  | [d1, d2, d3, d4] => { results := [.lit (.bool true)], args := [d1, d2, d3, d4] }
  | _ => none }
def fsAgainRow : OpenClaim := { program := "ytmanoiagchpelaagreatdoor", sum := "d797b5506089f8f54482cd90c8966c86bb730c886f90f6d9682aa04927be071e", func := "ringhall/ringkeep3.FsAgain", spec := "fsAgain", inPlace := ["internal/bytealg.IndexByteString", "internal/bytealg.IndexString", "slices.overlaps[ringhall/quota.Row]"], unfollowed := true, recurses := true, named := ["unicode/utf8.first", "unicode/utf8.acceptRanges", "internal/bytealg.MaxLen"], apart := false, laid := [("unicode/utf8.acceptRanges", laid_unicode_utf8_acceptRanges), ("unicode/utf8.first", laid_unicode_utf8_first)] }
def FsAgainSaid : Prop := fsAgainRow.holds Tryz.pinned (OpenSpec.ofChange fsAgainSpec)

/-- ITS FALSE NEIGHBOUR: 'it returns false'. Refute it at one input. -/
def fsAgainWrong : ChangeSpec := { name := "fsAgain", fn := fun _ => fun
  | [d1, d2, d3, d4] => { results := [.lit (.bool false)], args := [d1, d2, d3, d4] }
  | _ => none }
def FsAgainWrongFalsely : Prop := fsAgainRow.holds Tryz.pinned (OpenSpec.ofChange fsAgainWrong)

/-- 'ringkeep3.FsStep': WHATEVER THE INPUT: true; the input reads as it did. -/
def fsStepSpec : ChangeSpec := { name := "fsStep", fn := fun _ => fun
  | [d1, d2, d3, d4] => { results := [.lit (.bool true)], args := [d1, d2, d3, d4] }
  | _ => none }
def fsStepRow : OpenClaim := { program := "ytmanoiagchpelaagreatdoor", sum := "d797b5506089f8f54482cd90c8966c86bb730c886f90f6d9682aa04927be071e", func := "ringhall/ringkeep3.FsStep", spec := "fsStep", inPlace := ["internal/bytealg.IndexByteString", "internal/bytealg.IndexString", "slices.overlaps[ringhall/quota.Row]"], unfollowed := true, recurses := true, named := ["unicode/utf8.first", "unicode/utf8.acceptRanges", "internal/bytealg.MaxLen"], apart := false, laid := [("unicode/utf8.acceptRanges", laid_unicode_utf8_acceptRanges), ("unicode/utf8.first", laid_unicode_utf8_first)] }
def FsStepSaid : Prop := fsStepRow.holds Tryz.pinned (OpenSpec.ofChange fsStepSpec)

/-- ITS FALSE NEIGHBOUR: 'it returns false'. Refute it at one input. -/
def fsStepWrong : ChangeSpec := { name := "fsStep", fn := fun _ => fun
  | [d1, d2, d3, d4] => { results := [.lit (.bool false)], args := [d1, d2, d3, d4] }
  | _ => none }
def FsStepWrongFalsely : Prop := fsStepRow.holds Tryz.pinned (OpenSpec.ofChange fsStepWrong)

/-- 'ringkeep3.FsHeld': WHATEVER THE INPUT: true; the input reads as it did. -/
def fsHeldSpec : ChangeSpec := { name := "fsHeld", fn := fun _ => fun
  | [d1, d2, d3] => { results := [.lit (.bool true)], args := [d1, d2, d3] }
  | _ => none }
def fsHeldRow : OpenClaim := { program := "ytmanoiagchpelaagreatdoor", sum := "d797b5506089f8f54482cd90c8966c86bb730c886f90f6d9682aa04927be071e", func := "ringhall/ringkeep3.FsHeld", spec := "fsHeld", inPlace := ["internal/bytealg.IndexByteString", "internal/bytealg.IndexString", "slices.overlaps[ringhall/quota.Row]"], unfollowed := true, recurses := true, named := ["unicode/utf8.first", "unicode/utf8.acceptRanges", "internal/bytealg.MaxLen"], apart := false, laid := [("unicode/utf8.acceptRanges", laid_unicode_utf8_acceptRanges), ("unicode/utf8.first", laid_unicode_utf8_first)] }
def FsHeldSaid : Prop := fsHeldRow.holds Tryz.pinned (OpenSpec.ofChange fsHeldSpec)

/-- ITS FALSE NEIGHBOUR: 'it returns false'. Refute it at one input. -/
def fsHeldWrong : ChangeSpec := { name := "fsHeld", fn := fun _ => fun
  | [d1, d2, d3] => { results := [.lit (.bool false)], args := [d1, d2, d3] }
  | _ => none }
def FsHeldWrongFalsely : Prop := fsHeldRow.holds Tryz.pinned (OpenSpec.ofChange fsHeldWrong)

/- THE SECOND FORM. 'bulk': how many values and letters a reading holds, each counted each time it is reached (what is shared counts as often as it is met; a slice's spare places count too). A statement '..UptoSaid' is the law's where the arguments, and the package variables that the reading takes, are together of bulk at most 1048576: NARROWER than '..Said'. Prove '..Said' where nothing that the law and all that it calls make is longer than what came in: it says more and counts as full. Else prove '..UptoSaid'. A law counts once. -/
mutual
def uptoBulk {H : Type} : DataW H → Nat
  | .lit (.string bytes) => bytes.length + 1
  | .lit _ => 1
  | .nil => 1
  | .ptr d => uptoBulk d + 1
  | .slice elems spare => uptoBulkAll elems + uptoBulkAll spare + 1
  | .agg parts => uptoBulkAll parts + 1
  | .iface _ d => uptoBulk d + 1
  | .map entries => uptoBulkEntries entries + 1
  | .held _ => 1
def uptoBulkAll {H : Type} : List (DataW H) → Nat
  | [] => 0
  | d :: r => uptoBulk d + uptoBulkAll r
def uptoBulkEntries {H : Type} : List (Lit × DataW H) → Nat
  | [] => 0
  | x :: r => uptoBulkEntry x + uptoBulkEntries r
def uptoBulkEntry {H : Type} : Lit × DataW H → Nat
  | (.string bytes, d) => bytes.length + uptoBulk d + 1
  | (_, d) => uptoBulk d + 1
 end
def uptoSmall : (H : Type) → List (DataW H) → Bool := fun _ ds => decide (uptoBulkAll ds ≤ 1048576)
def OpenSpec.upto (s : _root_.Go.ChangeSpec) : _root_.Go.OpenSpec := { _root_.Go.OpenSpec.ofChange s with cond := some uptoSmall }

/-- 'ringkeep3.FsRight', WHERE WHAT IT READS IS OF BULK AT MOST 1048576: true; the input reads as it did. -/
def fsRightUptoRow : OpenClaim := { program := "ytmanoiagchpelaagreatdoor", sum := "d797b5506089f8f54482cd90c8966c86bb730c886f90f6d9682aa04927be071e", func := "ringhall/ringkeep3.FsRight", spec := "fsRight", inPlace := ["internal/bytealg.IndexByteString", "internal/bytealg.IndexString", "slices.overlaps[ringhall/quota.Row]"], unfollowed := true, recurses := true, named := ["unicode/utf8.first", "unicode/utf8.acceptRanges", "internal/bytealg.MaxLen"], apart := false, laid := [("unicode/utf8.acceptRanges", laid_unicode_utf8_acceptRanges), ("unicode/utf8.first", laid_unicode_utf8_first)], narrowed := true }
def FsRightUptoSaid : Prop := fsRightUptoRow.holds Tryz.pinned (OpenSpec.upto fsRightSpec)

/-- 'ringkeep3.FsQuota', WHERE WHAT IT READS IS OF BULK AT MOST 1048576: true; the input reads as it did. -/
def fsQuotaUptoRow : OpenClaim := { program := "ytmanoiagchpelaagreatdoor", sum := "d797b5506089f8f54482cd90c8966c86bb730c886f90f6d9682aa04927be071e", func := "ringhall/ringkeep3.FsQuota", spec := "fsQuota", inPlace := ["internal/bytealg.IndexByteString", "internal/bytealg.IndexString", "slices.overlaps[ringhall/quota.Row]"], unfollowed := true, recurses := true, named := ["unicode/utf8.first", "unicode/utf8.acceptRanges", "internal/bytealg.MaxLen"], apart := false, laid := [("unicode/utf8.acceptRanges", laid_unicode_utf8_acceptRanges), ("unicode/utf8.first", laid_unicode_utf8_first)], narrowed := true }
def FsQuotaUptoSaid : Prop := fsQuotaUptoRow.holds Tryz.pinned (OpenSpec.upto fsQuotaSpec)

/-- 'ringkeep3.FsBack', WHERE WHAT IT READS IS OF BULK AT MOST 1048576: true; the input reads as it did. -/
def fsBackUptoRow : OpenClaim := { program := "ytmanoiagchpelaagreatdoor", sum := "d797b5506089f8f54482cd90c8966c86bb730c886f90f6d9682aa04927be071e", func := "ringhall/ringkeep3.FsBack", spec := "fsBack", inPlace := ["internal/bytealg.IndexByteString", "internal/bytealg.IndexString", "slices.overlaps[ringhall/quota.Row]"], unfollowed := true, recurses := true, named := ["unicode/utf8.first", "unicode/utf8.acceptRanges", "internal/bytealg.MaxLen"], apart := false, laid := [("unicode/utf8.acceptRanges", laid_unicode_utf8_acceptRanges), ("unicode/utf8.first", laid_unicode_utf8_first)], narrowed := true }
def FsBackUptoSaid : Prop := fsBackUptoRow.holds Tryz.pinned (OpenSpec.upto fsBackSpec)

/-- 'ringkeep3.FsTree', WHERE WHAT IT READS IS OF BULK AT MOST 1048576: true; the input reads as it did. -/
def fsTreeUptoRow : OpenClaim := { program := "ytmanoiagchpelaagreatdoor", sum := "d797b5506089f8f54482cd90c8966c86bb730c886f90f6d9682aa04927be071e", func := "ringhall/ringkeep3.FsTree", spec := "fsTree", inPlace := ["internal/bytealg.IndexByteString", "internal/bytealg.IndexString", "slices.overlaps[ringhall/quota.Row]"], unfollowed := true, recurses := true, named := ["unicode/utf8.first", "unicode/utf8.acceptRanges", "internal/bytealg.MaxLen"], apart := false, laid := [("unicode/utf8.acceptRanges", laid_unicode_utf8_acceptRanges), ("unicode/utf8.first", laid_unicode_utf8_first)], narrowed := true }
def FsTreeUptoSaid : Prop := fsTreeUptoRow.holds Tryz.pinned (OpenSpec.upto fsTreeSpec)

/-- 'ringkeep3.FsKept', WHERE WHAT IT READS IS OF BULK AT MOST 1048576: true; the input reads as it did. -/
def fsKeptUptoRow : OpenClaim := { program := "ytmanoiagchpelaagreatdoor", sum := "d797b5506089f8f54482cd90c8966c86bb730c886f90f6d9682aa04927be071e", func := "ringhall/ringkeep3.FsKept", spec := "fsKept", inPlace := ["internal/bytealg.IndexByteString", "internal/bytealg.IndexString", "slices.overlaps[ringhall/quota.Row]"], unfollowed := true, recurses := true, named := ["unicode/utf8.first", "unicode/utf8.acceptRanges", "internal/bytealg.MaxLen"], apart := false, laid := [("unicode/utf8.acceptRanges", laid_unicode_utf8_acceptRanges), ("unicode/utf8.first", laid_unicode_utf8_first)], narrowed := true }
def FsKeptUptoSaid : Prop := fsKeptUptoRow.holds Tryz.pinned (OpenSpec.upto fsKeptSpec)

/-- 'ringkeep3.FsMoves', WHERE WHAT IT READS IS OF BULK AT MOST 1048576: true; the input reads as it did. -/
def fsMovesUptoRow : OpenClaim := { program := "ytmanoiagchpelaagreatdoor", sum := "d797b5506089f8f54482cd90c8966c86bb730c886f90f6d9682aa04927be071e", func := "ringhall/ringkeep3.FsMoves", spec := "fsMoves", inPlace := ["internal/bytealg.IndexByteString", "internal/bytealg.IndexString", "slices.overlaps[ringhall/quota.Row]"], unfollowed := true, recurses := true, named := ["unicode/utf8.first", "unicode/utf8.acceptRanges", "internal/bytealg.MaxLen"], apart := false, laid := [("unicode/utf8.acceptRanges", laid_unicode_utf8_acceptRanges), ("unicode/utf8.first", laid_unicode_utf8_first)], narrowed := true }
def FsMovesUptoSaid : Prop := fsMovesUptoRow.holds Tryz.pinned (OpenSpec.upto fsMovesSpec)

/-- 'ringkeep3.FsApart', WHERE WHAT IT READS IS OF BULK AT MOST 1048576: true; the input reads as it did. -/
def fsApartUptoRow : OpenClaim := { program := "ytmanoiagchpelaagreatdoor", sum := "d797b5506089f8f54482cd90c8966c86bb730c886f90f6d9682aa04927be071e", func := "ringhall/ringkeep3.FsApart", spec := "fsApart", inPlace := ["internal/bytealg.IndexByteString", "internal/bytealg.IndexString", "slices.overlaps[ringhall/quota.Row]"], unfollowed := true, recurses := true, named := ["unicode/utf8.first", "unicode/utf8.acceptRanges", "internal/bytealg.MaxLen"], apart := false, laid := [("unicode/utf8.acceptRanges", laid_unicode_utf8_acceptRanges), ("unicode/utf8.first", laid_unicode_utf8_first)], narrowed := true }
def FsApartUptoSaid : Prop := fsApartUptoRow.holds Tryz.pinned (OpenSpec.upto fsApartSpec)

/-- 'ringkeep3.FsErrors', WHERE WHAT IT READS IS OF BULK AT MOST 1048576: true; the input reads as it did. -/
def fsErrorsUptoRow : OpenClaim := { program := "ytmanoiagchpelaagreatdoor", sum := "d797b5506089f8f54482cd90c8966c86bb730c886f90f6d9682aa04927be071e", func := "ringhall/ringkeep3.FsErrors", spec := "fsErrors", inPlace := ["internal/bytealg.IndexByteString", "internal/bytealg.IndexString", "slices.overlaps[ringhall/quota.Row]"], unfollowed := true, recurses := true, named := ["unicode/utf8.first", "unicode/utf8.acceptRanges", "internal/bytealg.MaxLen"], apart := false, laid := [("unicode/utf8.acceptRanges", laid_unicode_utf8_acceptRanges), ("unicode/utf8.first", laid_unicode_utf8_first)], narrowed := true }
def FsErrorsUptoSaid : Prop := fsErrorsUptoRow.holds Tryz.pinned (OpenSpec.upto fsErrorsSpec)

/-- 'ringkeep3.FsSync', WHERE WHAT IT READS IS OF BULK AT MOST 1048576: true; the input reads as it did. -/
def fsSyncUptoRow : OpenClaim := { program := "ytmanoiagchpelaagreatdoor", sum := "d797b5506089f8f54482cd90c8966c86bb730c886f90f6d9682aa04927be071e", func := "ringhall/ringkeep3.FsSync", spec := "fsSync", inPlace := ["internal/bytealg.IndexByteString", "internal/bytealg.IndexString", "slices.overlaps[ringhall/quota.Row]"], unfollowed := true, recurses := true, named := ["unicode/utf8.first", "unicode/utf8.acceptRanges", "internal/bytealg.MaxLen"], apart := false, laid := [("unicode/utf8.acceptRanges", laid_unicode_utf8_acceptRanges), ("unicode/utf8.first", laid_unicode_utf8_first)], narrowed := true }
def FsSyncUptoSaid : Prop := fsSyncUptoRow.holds Tryz.pinned (OpenSpec.upto fsSyncSpec)

/-- 'ringkeep3.FsAgain', WHERE WHAT IT READS IS OF BULK AT MOST 1048576: true; the input reads as it did. -/
def fsAgainUptoRow : OpenClaim := { program := "ytmanoiagchpelaagreatdoor", sum := "d797b5506089f8f54482cd90c8966c86bb730c886f90f6d9682aa04927be071e", func := "ringhall/ringkeep3.FsAgain", spec := "fsAgain", inPlace := ["internal/bytealg.IndexByteString", "internal/bytealg.IndexString", "slices.overlaps[ringhall/quota.Row]"], unfollowed := true, recurses := true, named := ["unicode/utf8.first", "unicode/utf8.acceptRanges", "internal/bytealg.MaxLen"], apart := false, laid := [("unicode/utf8.acceptRanges", laid_unicode_utf8_acceptRanges), ("unicode/utf8.first", laid_unicode_utf8_first)], narrowed := true }
def FsAgainUptoSaid : Prop := fsAgainUptoRow.holds Tryz.pinned (OpenSpec.upto fsAgainSpec)

/-- 'ringkeep3.FsStep', WHERE WHAT IT READS IS OF BULK AT MOST 1048576: true; the input reads as it did. -/
def fsStepUptoRow : OpenClaim := { program := "ytmanoiagchpelaagreatdoor", sum := "d797b5506089f8f54482cd90c8966c86bb730c886f90f6d9682aa04927be071e", func := "ringhall/ringkeep3.FsStep", spec := "fsStep", inPlace := ["internal/bytealg.IndexByteString", "internal/bytealg.IndexString", "slices.overlaps[ringhall/quota.Row]"], unfollowed := true, recurses := true, named := ["unicode/utf8.first", "unicode/utf8.acceptRanges", "internal/bytealg.MaxLen"], apart := false, laid := [("unicode/utf8.acceptRanges", laid_unicode_utf8_acceptRanges), ("unicode/utf8.first", laid_unicode_utf8_first)], narrowed := true }
def FsStepUptoSaid : Prop := fsStepUptoRow.holds Tryz.pinned (OpenSpec.upto fsStepSpec)

/-- 'ringkeep3.FsHeld', WHERE WHAT IT READS IS OF BULK AT MOST 1048576: true; the input reads as it did. -/
def fsHeldUptoRow : OpenClaim := { program := "ytmanoiagchpelaagreatdoor", sum := "d797b5506089f8f54482cd90c8966c86bb730c886f90f6d9682aa04927be071e", func := "ringhall/ringkeep3.FsHeld", spec := "fsHeld", inPlace := ["internal/bytealg.IndexByteString", "internal/bytealg.IndexString", "slices.overlaps[ringhall/quota.Row]"], unfollowed := true, recurses := true, named := ["unicode/utf8.first", "unicode/utf8.acceptRanges", "internal/bytealg.MaxLen"], apart := false, laid := [("unicode/utf8.acceptRanges", laid_unicode_utf8_acceptRanges), ("unicode/utf8.first", laid_unicode_utf8_first)], narrowed := true }
def FsHeldUptoSaid : Prop := fsHeldUptoRow.holds Tryz.pinned (OpenSpec.upto fsHeldSpec)

end Rows
end Go.Proofs.YtmanoiagchpelaaGreatDoor
