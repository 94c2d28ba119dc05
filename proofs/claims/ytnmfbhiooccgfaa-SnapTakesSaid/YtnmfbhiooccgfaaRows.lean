/-
  No cell of these rows narrows 'for every input' (looked for: loops, veiled, ifaces, maps, wideKeys, modest, calm, conditions, laid).
  DERIVED. THE GIVEN ROWS OF THIS SEAT. 8 by the template 'for every input the law returns true; each argument reads behind the call as it read before'; 0 by the template 'total and deterministic' (their statements: YtnmfbhiooccgfaaTotals.lean).
  GIVEN WITH THE SEED: the statements are not yours to turn. If you find one false, say at which input.
  Laid BY PROGRAM, IN A SANDBOX (cutbox-rows.mjs): the forced cells as the released guide's own fill.sh prints them over the translation fba9afe4ff375b2a… (all of the seat's roots in one cut). By AI agents, Wed Nov 11 2026. No macro, syntax, notation, axiom, sorry.
-/
import Derived.Test.YtnmfbhiooccgfaaChecked
import GoSem.Claim
import GoSem.ClaimJoined
import GoSem.ClaimMapViews
import Derived.JoinedTies
import Derived.KernelRfl
namespace Go.Proofs.Ytnmfbhiooccgfaa
/- THE CELL 'sum', in the pinned program and in every row, IS THE sha256 OF THE DUMP (.gsa) THAT YtnmfbhiooccgfaaProg.lean LOADS. Nothing in Lean hashes anything: it is a label: what it is worth is what the hold of that sum in a sandbox is worth. -/
noncomputable def Try.pinned : Pinned := { name := "ytnmfbhiooccgfaa", sum := "fba9afe4ff375b2aac4daf5f7321e91988417fecbed7bf04643488ef9faa891d", checked := Try.checked }
namespace Rows
def none {H : Type} : Left H := { results := [], args := [] }

/-- 'ringkeep3.BitsPut': WHATEVER THE INPUT: true; the input reads as it did. -/
def bitsPutSpec : ChangeSpec := { name := "bitsPut", fn := fun _ => fun
  | [d1, d2, d3] => { results := [.lit (.bool true)], args := [d1, d2, d3] }
  | _ => none }
def bitsPutRow : OpenClaim := { program := "ytnmfbhiooccgfaa", sum := "fba9afe4ff375b2aac4daf5f7321e91988417fecbed7bf04643488ef9faa891d", func := "ringhall/ringkeep3.BitsPut", spec := "bitsPut", apart := false }
def BitsPutSaid : Prop := bitsPutRow.holds Try.pinned (OpenSpec.ofChange bitsPutSpec)

/-- ITS FALSE NEIGHBOUR: 'it returns false'. Refute it at one input. -/
def bitsPutWrong : ChangeSpec := { name := "bitsPut", fn := fun _ => fun
  | [d1, d2, d3] => { results := [.lit (.bool false)], args := [d1, d2, d3] }
  | _ => none }
def BitsPutWrongFalsely : Prop := bitsPutRow.holds Try.pinned (OpenSpec.ofChange bitsPutWrong)

/-- 'ringkeep3.BitsFirst': WHATEVER THE INPUT: true; the input reads as it did. -/
def bitsFirstSpec : ChangeSpec := { name := "bitsFirst", fn := fun _ => fun
  | [d1, d2, d3] => { results := [.lit (.bool true)], args := [d1, d2, d3] }
  | _ => none }
def bitsFirstRow : OpenClaim := { program := "ytnmfbhiooccgfaa", sum := "fba9afe4ff375b2aac4daf5f7321e91988417fecbed7bf04643488ef9faa891d", func := "ringhall/ringkeep3.BitsFirst", spec := "bitsFirst", apart := false }
def BitsFirstSaid : Prop := bitsFirstRow.holds Try.pinned (OpenSpec.ofChange bitsFirstSpec)

/-- ITS FALSE NEIGHBOUR: 'it returns false'. Refute it at one input. -/
def bitsFirstWrong : ChangeSpec := { name := "bitsFirst", fn := fun _ => fun
  | [d1, d2, d3] => { results := [.lit (.bool false)], args := [d1, d2, d3] }
  | _ => none }
def BitsFirstWrongFalsely : Prop := bitsFirstRow.holds Try.pinned (OpenSpec.ofChange bitsFirstWrong)

/-- 'ringkeep3.BitsList': WHATEVER THE INPUT: true; the input reads as it did. -/
def bitsListSpec : ChangeSpec := { name := "bitsList", fn := fun _ => fun
  | [d] => { results := [.lit (.bool true)], args := [d] }
  | _ => none }
def bitsListRow : OpenClaim := { program := "ytnmfbhiooccgfaa", sum := "fba9afe4ff375b2aac4daf5f7321e91988417fecbed7bf04643488ef9faa891d", func := "ringhall/ringkeep3.BitsList", spec := "bitsList", apart := false }
def BitsListSaid : Prop := bitsListRow.holds Try.pinned (OpenSpec.ofChange bitsListSpec)

/-- ITS FALSE NEIGHBOUR: 'it returns false'. Refute it at one input. -/
def bitsListWrong : ChangeSpec := { name := "bitsList", fn := fun _ => fun
  | [d] => { results := [.lit (.bool false)], args := [d] }
  | _ => none }
def BitsListWrongFalsely : Prop := bitsListRow.holds Try.pinned (OpenSpec.ofChange bitsListWrong)

/-- 'ringkeep3.BitsSets': WHATEVER THE INPUT: true; the input reads as it did. -/
def bitsSetsSpec : ChangeSpec := { name := "bitsSets", fn := fun _ => fun
  | [d1, d2, d3] => { results := [.lit (.bool true)], args := [d1, d2, d3] }
  | _ => none }
def bitsSetsRow : OpenClaim := { program := "ytnmfbhiooccgfaa", sum := "fba9afe4ff375b2aac4daf5f7321e91988417fecbed7bf04643488ef9faa891d", func := "ringhall/ringkeep3.BitsSets", spec := "bitsSets", apart := false }
def BitsSetsSaid : Prop := bitsSetsRow.holds Try.pinned (OpenSpec.ofChange bitsSetsSpec)

/-- ITS FALSE NEIGHBOUR: 'it returns false'. Refute it at one input. -/
def bitsSetsWrong : ChangeSpec := { name := "bitsSets", fn := fun _ => fun
  | [d1, d2, d3] => { results := [.lit (.bool false)], args := [d1, d2, d3] }
  | _ => none }
def BitsSetsWrongFalsely : Prop := bitsSetsRow.holds Try.pinned (OpenSpec.ofChange bitsSetsWrong)

/-- 'ringkeep3.SnapFree': WHATEVER THE INPUT: true; the input reads as it did. -/
def snapFreeSpec : ChangeSpec := { name := "snapFree", fn := fun _ => fun
  | [d1, d2, d3] => { results := [.lit (.bool true)], args := [d1, d2, d3] }
  | _ => none }
def snapFreeRow : OpenClaim := { program := "ytnmfbhiooccgfaa", sum := "fba9afe4ff375b2aac4daf5f7321e91988417fecbed7bf04643488ef9faa891d", func := "ringhall/ringkeep3.SnapFree", spec := "snapFree", apart := false }
def SnapFreeSaid : Prop := snapFreeRow.holds Try.pinned (OpenSpec.ofChange snapFreeSpec)

/-- ITS FALSE NEIGHBOUR: 'it returns false'. Refute it at one input. -/
def snapFreeWrong : ChangeSpec := { name := "snapFree", fn := fun _ => fun
  | [d1, d2, d3] => { results := [.lit (.bool false)], args := [d1, d2, d3] }
  | _ => none }
def SnapFreeWrongFalsely : Prop := snapFreeRow.holds Try.pinned (OpenSpec.ofChange snapFreeWrong)

/-- 'ringkeep3.SnapTakes': WHATEVER THE INPUT: true; the input reads as it did. -/
def snapTakesSpec : ChangeSpec := { name := "snapTakes", fn := fun _ => fun
  | [d] => { results := [.lit (.bool true)], args := [d] }
  | _ => none }
def snapTakesRow : OpenClaim := { program := "ytnmfbhiooccgfaa", sum := "fba9afe4ff375b2aac4daf5f7321e91988417fecbed7bf04643488ef9faa891d", func := "ringhall/ringkeep3.SnapTakes", spec := "snapTakes", apart := false }
def SnapTakesSaid : Prop := snapTakesRow.holds Try.pinned (OpenSpec.ofChange snapTakesSpec)

/-- ITS FALSE NEIGHBOUR: 'it returns false'. Refute it at one input. -/
def snapTakesWrong : ChangeSpec := { name := "snapTakes", fn := fun _ => fun
  | [d] => { results := [.lit (.bool false)], args := [d] }
  | _ => none }
def SnapTakesWrongFalsely : Prop := snapTakesRow.holds Try.pinned (OpenSpec.ofChange snapTakesWrong)

/-- 'ringkeep3.SnapTaken': WHATEVER THE INPUT: true; the input reads as it did. -/
def snapTakenSpec : ChangeSpec := { name := "snapTaken", fn := fun _ => fun
  | [d1, d2] => { results := [.lit (.bool true)], args := [d1, d2] }
  | _ => none }
def snapTakenRow : OpenClaim := { program := "ytnmfbhiooccgfaa", sum := "fba9afe4ff375b2aac4daf5f7321e91988417fecbed7bf04643488ef9faa891d", func := "ringhall/ringkeep3.SnapTaken", spec := "snapTaken", apart := false }
def SnapTakenSaid : Prop := snapTakenRow.holds Try.pinned (OpenSpec.ofChange snapTakenSpec)

/-- ITS FALSE NEIGHBOUR: 'it returns false'. Refute it at one input. -/
def snapTakenWrong : ChangeSpec := { name := "snapTaken", fn := fun _ => fun
  | [d1, d2] => { results := [.lit (.bool false)], args := [d1, d2] }
  | _ => none }
def SnapTakenWrongFalsely : Prop := snapTakenRow.holds Try.pinned (OpenSpec.ofChange snapTakenWrong)

/-- 'ringkeep3.SnapBack': WHATEVER THE INPUT: true; the input reads as it did. -/
def snapBackSpec : ChangeSpec := { name := "snapBack", fn := fun _ => fun
  | [d1, d2] => { results := [.lit (.bool true)], args := [d1, d2] }
  | _ => none }
def snapBackRow : OpenClaim := { program := "ytnmfbhiooccgfaa", sum := "fba9afe4ff375b2aac4daf5f7321e91988417fecbed7bf04643488ef9faa891d", func := "ringhall/ringkeep3.SnapBack", spec := "snapBack", apart := false }
def SnapBackSaid : Prop := snapBackRow.holds Try.pinned (OpenSpec.ofChange snapBackSpec)

/-- ITS FALSE NEIGHBOUR: 'it returns false'. Refute it at one input. -/
def snapBackWrong : ChangeSpec := { name := "snapBack", fn := fun _ => fun
  | [d1, d2] => { results := [.lit (.bool false)], args := [d1, d2] }
  | _ => none }
def SnapBackWrongFalsely : Prop := snapBackRow.holds Try.pinned (OpenSpec.ofChange snapBackWrong)

/- THE SECOND FORM. 'bulk': how many values and letters a reading holds, each counted each time it is reached (what is shared counts as often as it is met; a slice's spare places count too). A statement '..UptoSaid' is the law's where the arguments, and the package variables that the reading takes, are together of bulk at most 1048576: NARROWER than '..Said'. Prove '..Said' where nothing that the law and all that it calls make is longer than what came in: it says more and counts as full. Else prove '..UptoSaid'. A law counts once. -/
mutual
def uptoBulk {H : Type} : DataW H → Nat
  | .lit (.string bytes) => bytes.length + 1
  | .lit _ => 1
  | .nil => 1
  | .ptr d => uptoBulk d + 1
  | .slice elems spare => uptoBulkAll elems + uptoBulkAll spare + 1
  | .agg parts => uptoBulkAll parts + 1
  | .iface _ d => uptoBulk d + 1
  | .map entries => uptoBulkEntries entries + 1
  | .held _ => 1
def uptoBulkAll {H : Type} : List (DataW H) → Nat
  | [] => 0
  | d :: r => uptoBulk d + uptoBulkAll r
def uptoBulkEntries {H : Type} : List (Lit × DataW H) → Nat
  | [] => 0
  | x :: r => uptoBulkEntry x + uptoBulkEntries r
def uptoBulkEntry {H : Type} : Lit × DataW H → Nat
  | (.string bytes, d) => bytes.length + uptoBulk d + 1
  | (_, d) => uptoBulk d + 1
 end
def uptoSmall : (H : Type) → List (DataW H) → Bool := fun _ ds => decide (uptoBulkAll ds ≤ 1048576)
def OpenSpec.upto (s : _root_.Go.ChangeSpec) : _root_.Go.OpenSpec := { _root_.Go.OpenSpec.ofChange s with cond := some uptoSmall }

/-- 'ringkeep3.BitsPut', WHERE WHAT IT READS IS OF BULK AT MOST 1048576: true; the input reads as it did. -/
def bitsPutUptoRow : OpenClaim := { program := "ytnmfbhiooccgfaa", sum := "fba9afe4ff375b2aac4daf5f7321e91988417fecbed7bf04643488ef9faa891d", func := "ringhall/ringkeep3.BitsPut", spec := "bitsPut", apart := false, narrowed := true }
def BitsPutUptoSaid : Prop := bitsPutUptoRow.holds Try.pinned (OpenSpec.upto bitsPutSpec)

/-- 'ringkeep3.BitsFirst', WHERE WHAT IT READS IS OF BULK AT MOST 1048576: true; the input reads as it did. -/
def bitsFirstUptoRow : OpenClaim := { program := "ytnmfbhiooccgfaa", sum := "fba9afe4ff375b2aac4daf5f7321e91988417fecbed7bf04643488ef9faa891d", func := "ringhall/ringkeep3.BitsFirst", spec := "bitsFirst", apart := false, narrowed := true }
def BitsFirstUptoSaid : Prop := bitsFirstUptoRow.holds Try.pinned (OpenSpec.upto bitsFirstSpec)

/-- 'ringkeep3.BitsList', WHERE WHAT IT READS IS OF BULK AT MOST 1048576: true; the input reads as it did. -/
def bitsListUptoRow : OpenClaim := { program := "ytnmfbhiooccgfaa", sum := "fba9afe4ff375b2aac4daf5f7321e91988417fecbed7bf04643488ef9faa891d", func := "ringhall/ringkeep3.BitsList", spec := "bitsList", apart := false, narrowed := true }
def BitsListUptoSaid : Prop := bitsListUptoRow.holds Try.pinned (OpenSpec.upto bitsListSpec)

/-- 'ringkeep3.BitsSets', WHERE WHAT IT READS IS OF BULK AT MOST 1048576: true; the input reads as it did. -/
def bitsSetsUptoRow : OpenClaim := { program := "ytnmfbhiooccgfaa", sum := "fba9afe4ff375b2aac4daf5f7321e91988417fecbed7bf04643488ef9faa891d", func := "ringhall/ringkeep3.BitsSets", spec := "bitsSets", apart := false, narrowed := true }
def BitsSetsUptoSaid : Prop := bitsSetsUptoRow.holds Try.pinned (OpenSpec.upto bitsSetsSpec)

/-- 'ringkeep3.SnapFree', WHERE WHAT IT READS IS OF BULK AT MOST 1048576: true; the input reads as it did. -/
def snapFreeUptoRow : OpenClaim := { program := "ytnmfbhiooccgfaa", sum := "fba9afe4ff375b2aac4daf5f7321e91988417fecbed7bf04643488ef9faa891d", func := "ringhall/ringkeep3.SnapFree", spec := "snapFree", apart := false, narrowed := true }
def SnapFreeUptoSaid : Prop := snapFreeUptoRow.holds Try.pinned (OpenSpec.upto snapFreeSpec)

/-- 'ringkeep3.SnapTakes', WHERE WHAT IT READS IS OF BULK AT MOST 1048576: true; the input reads as it did. -/
def snapTakesUptoRow : OpenClaim := { program := "ytnmfbhiooccgfaa", sum := "fba9afe4ff375b2aac4daf5f7321e91988417fecbed7bf04643488ef9faa891d", func := "ringhall/ringkeep3.SnapTakes", spec := "snapTakes", apart := false, narrowed := true }
def SnapTakesUptoSaid : Prop := snapTakesUptoRow.holds Try.pinned (OpenSpec.upto snapTakesSpec)

/-- 'ringkeep3.SnapTaken', WHERE WHAT IT READS IS OF BULK AT MOST 1048576: true; the input reads as it did. -/
def snapTakenUptoRow : OpenClaim := { program := "ytnmfbhiooccgfaa", sum := "fba9afe4ff375b2aac4daf5f7321e91988417fecbed7bf04643488ef9faa891d", func := "ringhall/ringkeep3.SnapTaken", spec := "snapTaken", apart := false, narrowed := true }
def SnapTakenUptoSaid : Prop := snapTakenUptoRow.holds Try.pinned (OpenSpec.upto snapTakenSpec)

/-- 'ringkeep3.SnapBack', WHERE WHAT IT READS IS OF BULK AT MOST 1048576: true; the input reads as it did. -/
def snapBackUptoRow : OpenClaim := { program := "ytnmfbhiooccgfaa", sum := "fba9afe4ff375b2aac4daf5f7321e91988417fecbed7bf04643488ef9faa891d", func := "ringhall/ringkeep3.SnapBack", spec := "snapBack", apart := false, narrowed := true }
def SnapBackUptoSaid : Prop := snapBackUptoRow.holds Try.pinned (OpenSpec.upto snapBackSpec)

end Rows
end Go.Proofs.Ytnmfbhiooccgfaa
