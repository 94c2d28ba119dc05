/-
  No cell of these rows narrows 'for every input' (looked for: loops, veiled, ifaces, maps, wideKeys, modest, calm, conditions, laid).
  DERIVED. THE GIVEN ROWS OF THIS SEAT. 11 by the template 'for every input the law returns true; each argument reads behind the call as it read before'; 0 by the template 'total and deterministic' (their statements: YtneknlbmiofmlaaTotals.lean).
  GIVEN WITH THE SEED: the statements are not yours to turn. If you find one false, say at which input.
  Laid BY PROGRAM, IN A SANDBOX (cutbox-rows.mjs): the forced cells as the released guide's own fill.sh prints them over the translation 9358da5ac498ee2e… (all of the seat's roots in one cut). By AI agents, Wed Nov 11 2026. No macro, syntax, notation, axiom, sorry.
-/
import Derived.Test.YtneknlbmiofmlaaChecked
import GoSem.Claim
import GoSem.ClaimJoined
import GoSem.ClaimMapViews
import Derived.JoinedTies
import Derived.KernelRfl
namespace Go.Proofs.Ytneknlbmiofmlaa
/- THE CELL 'sum', in the pinned program and in every row, IS THE sha256 OF THE DUMP (.gsa) THAT YtneknlbmiofmlaaProg.lean LOADS. Nothing in Lean hashes anything: it is a label: what it is worth is what the hold of that sum in a sandbox is worth. -/
noncomputable def Try.pinned : Pinned := { name := "ytneknlbmiofmlaa", sum := "9358da5ac498ee2ea3668b37d554942719f8b7bdafdba4926efcf2133e16cbbe", checked := Try.checked }
namespace Rows
def none {H : Type} : Left H := { results := [], args := [] }

/-- 'ringkeep3.ExtentAt': WHATEVER THE INPUT: true; the input reads as it did. -/
def extentAtSpec : ChangeSpec := { name := "extentAt", fn := fun _ => fun
  | [d1, d2] => { results := [.lit (.bool true)], args := [d1, d2] }
  | _ => none }
def extentAtRow : OpenClaim := { program := "ytneknlbmiofmlaa", sum := "9358da5ac498ee2ea3668b37d554942719f8b7bdafdba4926efcf2133e16cbbe", func := "ringhall/ringkeep3.ExtentAt", spec := "extentAt", apart := false }
def ExtentAtSaid : Prop := extentAtRow.holds Try.pinned (OpenSpec.ofChange extentAtSpec)

/-- ITS FALSE NEIGHBOUR: 'it returns false'. Refute it at one input. -/
def extentAtWrong : ChangeSpec := { name := "extentAt", fn := fun _ => fun
  | [d1, d2] => { results := [.lit (.bool false)], args := [d1, d2] }
  | _ => none }
def ExtentAtWrongFalsely : Prop := extentAtRow.holds Try.pinned (OpenSpec.ofChange extentAtWrong)

/-- 'ringkeep3.ExtentFew': WHATEVER THE INPUT: true; the input reads as it did. -/
def extentFewSpec : ChangeSpec := { name := "extentFew", fn := fun _ => fun
  | [d] => { results := [.lit (.bool true)], args := [d] }
  | _ => none }
def extentFewRow : OpenClaim := { program := "ytneknlbmiofmlaa", sum := "9358da5ac498ee2ea3668b37d554942719f8b7bdafdba4926efcf2133e16cbbe", func := "ringhall/ringkeep3.ExtentFew", spec := "extentFew", apart := false }
def ExtentFewSaid : Prop := extentFewRow.holds Try.pinned (OpenSpec.ofChange extentFewSpec)

/-- ITS FALSE NEIGHBOUR: 'it returns false'. Refute it at one input. -/
def extentFewWrong : ChangeSpec := { name := "extentFew", fn := fun _ => fun
  | [d] => { results := [.lit (.bool false)], args := [d] }
  | _ => none }
def ExtentFewWrongFalsely : Prop := extentFewRow.holds Try.pinned (OpenSpec.ofChange extentFewWrong)

/-- 'ringkeep3.ExtentBack': WHATEVER THE INPUT: true; the input reads as it did. -/
def extentBackSpec : ChangeSpec := { name := "extentBack", fn := fun _ => fun
  | [d] => { results := [.lit (.bool true)], args := [d] }
  | _ => none }
def extentBackRow : OpenClaim := { program := "ytneknlbmiofmlaa", sum := "9358da5ac498ee2ea3668b37d554942719f8b7bdafdba4926efcf2133e16cbbe", func := "ringhall/ringkeep3.ExtentBack", spec := "extentBack", apart := false }
def ExtentBackSaid : Prop := extentBackRow.holds Try.pinned (OpenSpec.ofChange extentBackSpec)

/-- ITS FALSE NEIGHBOUR: 'it returns false'. Refute it at one input. -/
def extentBackWrong : ChangeSpec := { name := "extentBack", fn := fun _ => fun
  | [d] => { results := [.lit (.bool false)], args := [d] }
  | _ => none }
def ExtentBackWrongFalsely : Prop := extentBackRow.holds Try.pinned (OpenSpec.ofChange extentBackWrong)

/-- 'ringkeep3.ExtentOnly': WHATEVER THE INPUT: true; the input reads as it did. -/
def extentOnlySpec : ChangeSpec := { name := "extentOnly", fn := fun _ => fun
  | [d] => { results := [.lit (.bool true)], args := [d] }
  | _ => none }
def extentOnlyRow : OpenClaim := { program := "ytneknlbmiofmlaa", sum := "9358da5ac498ee2ea3668b37d554942719f8b7bdafdba4926efcf2133e16cbbe", func := "ringhall/ringkeep3.ExtentOnly", spec := "extentOnly", apart := false }
def ExtentOnlySaid : Prop := extentOnlyRow.holds Try.pinned (OpenSpec.ofChange extentOnlySpec)

/-- ITS FALSE NEIGHBOUR: 'it returns false'. Refute it at one input. -/
def extentOnlyWrong : ChangeSpec := { name := "extentOnly", fn := fun _ => fun
  | [d] => { results := [.lit (.bool false)], args := [d] }
  | _ => none }
def ExtentOnlyWrongFalsely : Prop := extentOnlyRow.holds Try.pinned (OpenSpec.ofChange extentOnlyWrong)

/-- 'ringkeep3.InodeBack': WHATEVER THE INPUT: true; the input reads as it did. -/
def inodeBackSpec : ChangeSpec := { name := "inodeBack", fn := fun _ => fun
  | [d] => { results := [.lit (.bool true)], args := [d] }
  | _ => none }
def inodeBackRow : OpenClaim := { program := "ytneknlbmiofmlaa", sum := "9358da5ac498ee2ea3668b37d554942719f8b7bdafdba4926efcf2133e16cbbe", func := "ringhall/ringkeep3.InodeBack", spec := "inodeBack", apart := false }
def InodeBackSaid : Prop := inodeBackRow.holds Try.pinned (OpenSpec.ofChange inodeBackSpec)

/-- ITS FALSE NEIGHBOUR: 'it returns false'. Refute it at one input. -/
def inodeBackWrong : ChangeSpec := { name := "inodeBack", fn := fun _ => fun
  | [d] => { results := [.lit (.bool false)], args := [d] }
  | _ => none }
def InodeBackWrongFalsely : Prop := inodeBackRow.holds Try.pinned (OpenSpec.ofChange inodeBackWrong)

/-- 'ringkeep3.InodeOnly': WHATEVER THE INPUT: true; the input reads as it did. -/
def inodeOnlySpec : ChangeSpec := { name := "inodeOnly", fn := fun _ => fun
  | [d] => { results := [.lit (.bool true)], args := [d] }
  | _ => none }
def inodeOnlyRow : OpenClaim := { program := "ytneknlbmiofmlaa", sum := "9358da5ac498ee2ea3668b37d554942719f8b7bdafdba4926efcf2133e16cbbe", func := "ringhall/ringkeep3.InodeOnly", spec := "inodeOnly", apart := false }
def InodeOnlySaid : Prop := inodeOnlyRow.holds Try.pinned (OpenSpec.ofChange inodeOnlySpec)

/-- ITS FALSE NEIGHBOUR: 'it returns false'. Refute it at one input. -/
def inodeOnlyWrong : ChangeSpec := { name := "inodeOnly", fn := fun _ => fun
  | [d] => { results := [.lit (.bool false)], args := [d] }
  | _ => none }
def InodeOnlyWrongFalsely : Prop := inodeOnlyRow.holds Try.pinned (OpenSpec.ofChange inodeOnlyWrong)

/-- 'ringkeep3.InodeBlocks': WHATEVER THE INPUT: true; the input reads as it did. -/
def inodeBlocksSpec : ChangeSpec := { name := "inodeBlocks", fn := fun _ => fun
  | [d] => { results := [.lit (.bool true)], args := [d] }
  | _ => none }
def inodeBlocksRow : OpenClaim := { program := "ytneknlbmiofmlaa", sum := "9358da5ac498ee2ea3668b37d554942719f8b7bdafdba4926efcf2133e16cbbe", func := "ringhall/ringkeep3.InodeBlocks", spec := "inodeBlocks", apart := false }
def InodeBlocksSaid : Prop := inodeBlocksRow.holds Try.pinned (OpenSpec.ofChange inodeBlocksSpec)

/-- ITS FALSE NEIGHBOUR: 'it returns false'. Refute it at one input. -/
def inodeBlocksWrong : ChangeSpec := { name := "inodeBlocks", fn := fun _ => fun
  | [d] => { results := [.lit (.bool false)], args := [d] }
  | _ => none }
def InodeBlocksWrongFalsely : Prop := inodeBlocksRow.holds Try.pinned (OpenSpec.ofChange inodeBlocksWrong)

/-- 'ringkeep3.InodeUsed': WHATEVER THE INPUT: true; the input reads as it did. -/
def inodeUsedSpec : ChangeSpec := { name := "inodeUsed", fn := fun _ => fun
  | [d] => { results := [.lit (.bool true)], args := [d] }
  | _ => none }
def inodeUsedRow : OpenClaim := { program := "ytneknlbmiofmlaa", sum := "9358da5ac498ee2ea3668b37d554942719f8b7bdafdba4926efcf2133e16cbbe", func := "ringhall/ringkeep3.InodeUsed", spec := "inodeUsed", apart := false }
def InodeUsedSaid : Prop := inodeUsedRow.holds Try.pinned (OpenSpec.ofChange inodeUsedSpec)

/-- ITS FALSE NEIGHBOUR: 'it returns false'. Refute it at one input. -/
def inodeUsedWrong : ChangeSpec := { name := "inodeUsed", fn := fun _ => fun
  | [d] => { results := [.lit (.bool false)], args := [d] }
  | _ => none }
def InodeUsedWrongFalsely : Prop := inodeUsedRow.holds Try.pinned (OpenSpec.ofChange inodeUsedWrong)

/-- 'ringkeep3.QuotaSets': WHATEVER THE INPUT: true; the input reads as it did. -/
def quotaSetsSpec : ChangeSpec := { name := "quotaSets", fn := fun _ => fun
  | [d1, d2, d3, d4] => { results := [.lit (.bool true)], args := [d1, d2, d3, d4] }
  | _ => none }
def quotaSetsRow : OpenClaim := { program := "ytneknlbmiofmlaa", sum := "9358da5ac498ee2ea3668b37d554942719f8b7bdafdba4926efcf2133e16cbbe", func := "ringhall/ringkeep3.QuotaSets", spec := "quotaSets", inPlace := ["slices.overlaps[ringhall/quota.Row]"], unfollowed := true, recurses := true, apart := false }
def QuotaSetsSaid : Prop := quotaSetsRow.holds Try.pinned (OpenSpec.ofChange quotaSetsSpec)

/-- ITS FALSE NEIGHBOUR: 'it returns false'. Refute it at one input. -/
def quotaSetsWrong : ChangeSpec := { name := "quotaSets", fn := fun _ => fun
  | [d1, d2, d3, d4] => { results := [.lit (.bool false)], args := [d1, d2, d3, d4] }
  | _ => none }
def QuotaSetsWrongFalsely : Prop := quotaSetsRow.holds Try.pinned (OpenSpec.ofChange quotaSetsWrong)

/-- 'ringkeep3.QuotaMay': WHATEVER THE INPUT: true; the input reads as it did. -/
def quotaMaySpec : ChangeSpec := { name := "quotaMay", fn := fun _ => fun
  | [d1, d2, d3, d4, d5] => { results := [.lit (.bool true)], args := [d1, d2, d3, d4, d5] }
  | _ => none }
def quotaMayRow : OpenClaim := { program := "ytneknlbmiofmlaa", sum := "9358da5ac498ee2ea3668b37d554942719f8b7bdafdba4926efcf2133e16cbbe", func := "ringhall/ringkeep3.QuotaMay", spec := "quotaMay", inPlace := ["slices.overlaps[ringhall/quota.Row]"], unfollowed := true, recurses := true, apart := false }
def QuotaMaySaid : Prop := quotaMayRow.holds Try.pinned (OpenSpec.ofChange quotaMaySpec)

/-- ITS FALSE NEIGHBOUR: 'it returns false'. Refute it at one input. -/
def quotaMayWrong : ChangeSpec := { name := "quotaMay", fn := fun _ => fun
  | [d1, d2, d3, d4, d5] => { results := [.lit (.bool false)], args := [d1, d2, d3, d4, d5] }
  | _ => none }
def QuotaMayWrongFalsely : Prop := quotaMayRow.holds Try.pinned (OpenSpec.ofChange quotaMayWrong)

/-- 'ringkeep3.QuotaBack': WHATEVER THE INPUT: true; the input reads as it did. -/
def quotaBackSpec : ChangeSpec := { name := "quotaBack", fn := fun _ => fun
  | [d1, d2] => { results := [.lit (.bool true)], args := [d1, d2] }
  | _ => none }
def quotaBackRow : OpenClaim := { program := "ytneknlbmiofmlaa", sum := "9358da5ac498ee2ea3668b37d554942719f8b7bdafdba4926efcf2133e16cbbe", func := "ringhall/ringkeep3.QuotaBack", spec := "quotaBack", inPlace := ["slices.overlaps[ringhall/quota.Row]"], unfollowed := true, recurses := true, apart := false }
def QuotaBackSaid : Prop := quotaBackRow.holds Try.pinned (OpenSpec.ofChange quotaBackSpec)

/-- ITS FALSE NEIGHBOUR: 'it returns false'. Refute it at one input. -/
def quotaBackWrong : ChangeSpec := { name := "quotaBack", fn := fun _ => fun
  | [d1, d2] => { results := [.lit (.bool false)], args := [d1, d2] }
  | _ => none }
def QuotaBackWrongFalsely : Prop := quotaBackRow.holds Try.pinned (OpenSpec.ofChange quotaBackWrong)

/- THE SECOND FORM. 'bulk': how many values and letters a reading holds, each counted each time it is reached (what is shared counts as often as it is met; a slice's spare places count too). A statement '..UptoSaid' is the law's where the arguments, and the package variables that the reading takes, are together of bulk at most 1048576: NARROWER than '..Said'. Prove '..Said' where nothing that the law and all that it calls make is longer than what came in: it says more and counts as full. Else prove '..UptoSaid'. A law counts once. -/
mutual
def uptoBulk {H : Type} : DataW H → Nat
  | .lit (.string bytes) => bytes.length + 1
  | .lit _ => 1
  | .nil => 1
  | .ptr d => uptoBulk d + 1
  | .slice elems spare => uptoBulkAll elems + uptoBulkAll spare + 1
  | .agg parts => uptoBulkAll parts + 1
  | .iface _ d => uptoBulk d + 1
  | .map entries => uptoBulkEntries entries + 1
  | .held _ => 1
def uptoBulkAll {H : Type} : List (DataW H) → Nat
  | [] => 0
  | d :: r => uptoBulk d + uptoBulkAll r
def uptoBulkEntries {H : Type} : List (Lit × DataW H) → Nat
  | [] => 0
  | x :: r => uptoBulkEntry x + uptoBulkEntries r
def uptoBulkEntry {H : Type} : Lit × DataW H → Nat
  | (.string bytes, d) => bytes.length + uptoBulk d + 1
  | (_, d) => uptoBulk d + 1
 end
def uptoSmall : (H : Type) → List (DataW H) → Bool := fun _ ds => decide (uptoBulkAll ds ≤ 1048576)
def OpenSpec.upto (s : _root_.Go.ChangeSpec) : _root_.Go.OpenSpec := { _root_.Go.OpenSpec.ofChange s with cond := some uptoSmall }

/-- 'ringkeep3.ExtentAt', WHERE WHAT IT READS IS OF BULK AT MOST 1048576: true; the input reads as it did. -/
def extentAtUptoRow : OpenClaim := { program := "ytneknlbmiofmlaa", sum := "9358da5ac498ee2ea3668b37d554942719f8b7bdafdba4926efcf2133e16cbbe", func := "ringhall/ringkeep3.ExtentAt", spec := "extentAt", apart := false, narrowed := true }
def ExtentAtUptoSaid : Prop := extentAtUptoRow.holds Try.pinned (OpenSpec.upto extentAtSpec)

/-- 'ringkeep3.ExtentFew', WHERE WHAT IT READS IS OF BULK AT MOST 1048576: true; the input reads as it did. -/
def extentFewUptoRow : OpenClaim := { program := "ytneknlbmiofmlaa", sum := "9358da5ac498ee2ea3668b37d554942719f8b7bdafdba4926efcf2133e16cbbe", func := "ringhall/ringkeep3.ExtentFew", spec := "extentFew", apart := false, narrowed := true }
def ExtentFewUptoSaid : Prop := extentFewUptoRow.holds Try.pinned (OpenSpec.upto extentFewSpec)

/-- 'ringkeep3.ExtentBack', WHERE WHAT IT READS IS OF BULK AT MOST 1048576: true; the input reads as it did. -/
def extentBackUptoRow : OpenClaim := { program := "ytneknlbmiofmlaa", sum := "9358da5ac498ee2ea3668b37d554942719f8b7bdafdba4926efcf2133e16cbbe", func := "ringhall/ringkeep3.ExtentBack", spec := "extentBack", apart := false, narrowed := true }
def ExtentBackUptoSaid : Prop := extentBackUptoRow.holds Try.pinned (OpenSpec.upto extentBackSpec)

/-- 'ringkeep3.ExtentOnly', WHERE WHAT IT READS IS OF BULK AT MOST 1048576: true; the input reads as it did. -/
def extentOnlyUptoRow : OpenClaim := { program := "ytneknlbmiofmlaa", sum := "9358da5ac498ee2ea3668b37d554942719f8b7bdafdba4926efcf2133e16cbbe", func := "ringhall/ringkeep3.ExtentOnly", spec := "extentOnly", apart := false, narrowed := true }
def ExtentOnlyUptoSaid : Prop := extentOnlyUptoRow.holds Try.pinned (OpenSpec.upto extentOnlySpec)

/-- 'ringkeep3.InodeBack', WHERE WHAT IT READS IS OF BULK AT MOST 1048576: true; the input reads as it did. -/
def inodeBackUptoRow : OpenClaim := { program := "ytneknlbmiofmlaa", sum := "9358da5ac498ee2ea3668b37d554942719f8b7bdafdba4926efcf2133e16cbbe", func := "ringhall/ringkeep3.InodeBack", spec := "inodeBack", apart := false, narrowed := true }
def InodeBackUptoSaid : Prop := inodeBackUptoRow.holds Try.pinned (OpenSpec.upto inodeBackSpec)

/-- 'ringkeep3.InodeOnly', WHERE WHAT IT READS IS OF BULK AT MOST 1048576: true; the input reads as it did. -/
def inodeOnlyUptoRow : OpenClaim := { program := "ytneknlbmiofmlaa", sum := "9358da5ac498ee2ea3668b37d554942719f8b7bdafdba4926efcf2133e16cbbe", func := "ringhall/ringkeep3.InodeOnly", spec := "inodeOnly", apart := false, narrowed := true }
def InodeOnlyUptoSaid : Prop := inodeOnlyUptoRow.holds Try.pinned (OpenSpec.upto inodeOnlySpec)

/-- 'ringkeep3.InodeBlocks', WHERE WHAT IT READS IS OF BULK AT MOST 1048576: true; the input reads as it did. -/
def inodeBlocksUptoRow : OpenClaim := { program := "ytneknlbmiofmlaa", sum := "9358da5ac498ee2ea3668b37d554942719f8b7bdafdba4926efcf2133e16cbbe", func := "ringhall/ringkeep3.InodeBlocks", spec := "inodeBlocks", apart := false, narrowed := true }
def InodeBlocksUptoSaid : Prop := inodeBlocksUptoRow.holds Try.pinned (OpenSpec.upto inodeBlocksSpec)

/-- 'ringkeep3.InodeUsed', WHERE WHAT IT READS IS OF BULK AT MOST 1048576: true; the input reads as it did. -/
def inodeUsedUptoRow : OpenClaim := { program := "ytneknlbmiofmlaa", sum := "9358da5ac498ee2ea3668b37d554942719f8b7bdafdba4926efcf2133e16cbbe", func := "ringhall/ringkeep3.InodeUsed", spec := "inodeUsed", apart := false, narrowed := true }
def InodeUsedUptoSaid : Prop := inodeUsedUptoRow.holds Try.pinned (OpenSpec.upto inodeUsedSpec)

/-- 'ringkeep3.QuotaSets', WHERE WHAT IT READS IS OF BULK AT MOST 1048576: true; the input reads as it did. -/
def quotaSetsUptoRow : OpenClaim := { program := "ytneknlbmiofmlaa", sum := "9358da5ac498ee2ea3668b37d554942719f8b7bdafdba4926efcf2133e16cbbe", func := "ringhall/ringkeep3.QuotaSets", spec := "quotaSets", inPlace := ["slices.overlaps[ringhall/quota.Row]"], unfollowed := true, recurses := true, apart := false, narrowed := true }
def QuotaSetsUptoSaid : Prop := quotaSetsUptoRow.holds Try.pinned (OpenSpec.upto quotaSetsSpec)

/-- 'ringkeep3.QuotaMay', WHERE WHAT IT READS IS OF BULK AT MOST 1048576: true; the input reads as it did. -/
def quotaMayUptoRow : OpenClaim := { program := "ytneknlbmiofmlaa", sum := "9358da5ac498ee2ea3668b37d554942719f8b7bdafdba4926efcf2133e16cbbe", func := "ringhall/ringkeep3.QuotaMay", spec := "quotaMay", inPlace := ["slices.overlaps[ringhall/quota.Row]"], unfollowed := true, recurses := true, apart := false, narrowed := true }
def QuotaMayUptoSaid : Prop := quotaMayUptoRow.holds Try.pinned (OpenSpec.upto quotaMaySpec)

/-- 'ringkeep3.QuotaBack', WHERE WHAT IT READS IS OF BULK AT MOST 1048576: true; the input reads as it did. -/
def quotaBackUptoRow : OpenClaim := { program := "ytneknlbmiofmlaa", sum := "9358da5ac498ee2ea3668b37d554942719f8b7bdafdba4926efcf2133e16cbbe", func := "ringhall/ringkeep3.QuotaBack", spec := "quotaBack", inPlace := ["slices.overlaps[ringhall/quota.Row]"], unfollowed := true, recurses := true, apart := false, narrowed := true }
def QuotaBackUptoSaid : Prop := quotaBackUptoRow.holds Try.pinned (OpenSpec.upto quotaBackSpec)

end Rows
end Go.Proofs.Ytneknlbmiofmlaa
