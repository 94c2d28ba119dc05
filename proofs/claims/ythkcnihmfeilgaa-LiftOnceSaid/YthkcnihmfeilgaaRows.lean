/-
  No cell of these rows narrows 'for every input' (looked for: loops, veiled, ifaces, maps, wideKeys, modest, calm, conditions, laid).
  DERIVED. THE GIVEN ROWS OF THIS SEAT. 9 by the template 'for every input the law returns true; each argument reads behind the call as it read before'; 0 by the template 'total and deterministic' (their statements: YthkcnihmfeilgaaTotals.lean).
  GIVEN WITH THE SEED: the statements are not yours to turn. If you find one false, say at which input.
  Laid BY PROGRAM, IN A SANDBOX (cutbox-rows.mjs): the forced cells as the released guide's own fill.sh prints them over the translation 9d2c70a3d77e4b24… (all of the seat's roots in one cut). By AI agents, Wed Nov 11 2026. No macro, syntax, notation, axiom, sorry.
-/
import Derived.Test.YthkcnihmfeilgaaChecked
import GoSem.Claim
import GoSem.ClaimJoined
import GoSem.ClaimMapViews
import Derived.JoinedTies
import Derived.KernelRfl
namespace Go.Proofs.Ythkcnihmfeilgaa
/- THE CELL 'sum', in the pinned program and in every row, IS THE sha256 OF THE DUMP (.gsa) THAT YthkcnihmfeilgaaProg.lean LOADS. Nothing in Lean hashes anything: it is a label: what it is worth is what the hold of that sum in a sandbox is worth. -/
noncomputable def Try.pinned : Pinned := { name := "ythkcnihmfeilgaa", sum := "9d2c70a3d77e4b24fff7f799d17040851c49dccef629a665ea45d8c79d20528c", checked := Try.checked }
namespace Rows
def none {H : Type} : Left H := { results := [], args := [] }

/-- 'ringkeep3.BufferReads': WHATEVER THE INPUT: true; the input reads as it did. -/
def bufferReadsSpec : ChangeSpec := { name := "bufferReads", fn := fun _ => fun
  | [d1, d2, d3] => { results := [.lit (.bool true)], args := [d1, d2, d3] }
  | _ => none }
def bufferReadsRow : OpenClaim := { program := "ythkcnihmfeilgaa", sum := "9d2c70a3d77e4b24fff7f799d17040851c49dccef629a665ea45d8c79d20528c", func := "ringhall/ringkeep3.BufferReads", spec := "bufferReads", inPlace := ["slices.overlaps[ringhall/buffer.slot]"], unfollowed := true, recurses := true, apart := false }
def BufferReadsSaid : Prop := bufferReadsRow.holds Try.pinned (OpenSpec.ofChange bufferReadsSpec)

/-- ITS FALSE NEIGHBOUR: 'it returns false'. Refute it at one input. -/
def bufferReadsWrong : ChangeSpec := { name := "bufferReads", fn := fun _ => fun
  | [d1, d2, d3] => { results := [.lit (.bool false)], args := [d1, d2, d3] }
  | _ => none }
def BufferReadsWrongFalsely : Prop := bufferReadsRow.holds Try.pinned (OpenSpec.ofChange bufferReadsWrong)

/-- 'ringkeep3.BufferMore': WHATEVER THE INPUT: true; the input reads as it did. -/
def bufferMoreSpec : ChangeSpec := { name := "bufferMore", fn := fun _ => fun
  | [d1, d2, d3] => { results := [.lit (.bool true)], args := [d1, d2, d3] }
  | _ => none }
def bufferMoreRow : OpenClaim := { program := "ythkcnihmfeilgaa", sum := "9d2c70a3d77e4b24fff7f799d17040851c49dccef629a665ea45d8c79d20528c", func := "ringhall/ringkeep3.BufferMore", spec := "bufferMore", inPlace := ["slices.overlaps[ringhall/buffer.slot]"], unfollowed := true, recurses := true, apart := false }
def BufferMoreSaid : Prop := bufferMoreRow.holds Try.pinned (OpenSpec.ofChange bufferMoreSpec)

/-- ITS FALSE NEIGHBOUR: 'it returns false'. Refute it at one input. -/
def bufferMoreWrong : ChangeSpec := { name := "bufferMore", fn := fun _ => fun
  | [d1, d2, d3] => { results := [.lit (.bool false)], args := [d1, d2, d3] }
  | _ => none }
def BufferMoreWrongFalsely : Prop := bufferMoreRow.holds Try.pinned (OpenSpec.ofChange bufferMoreWrong)

/-- 'ringkeep3.LiftAgain': WHATEVER THE INPUT: true; the input reads as it did. -/
def liftAgainSpec : ChangeSpec := { name := "liftAgain", fn := fun _ => fun
  | [d1, d2] => { results := [.lit (.bool true)], args := [d1, d2] }
  | _ => none }
def liftAgainRow : OpenClaim := { program := "ythkcnihmfeilgaa", sum := "9d2c70a3d77e4b24fff7f799d17040851c49dccef629a665ea45d8c79d20528c", func := "ringhall/ringkeep3.LiftAgain", spec := "liftAgain", unfollowed := true, recurses := true, apart := false }
def LiftAgainSaid : Prop := liftAgainRow.holds Try.pinned (OpenSpec.ofChange liftAgainSpec)

/-- ITS FALSE NEIGHBOUR: 'it returns false'. Refute it at one input. -/
def liftAgainWrong : ChangeSpec := { name := "liftAgain", fn := fun _ => fun
  | [d1, d2] => { results := [.lit (.bool false)], args := [d1, d2] }
  | _ => none }
def LiftAgainWrongFalsely : Prop := liftAgainRow.holds Try.pinned (OpenSpec.ofChange liftAgainWrong)

/-- 'ringkeep3.LiftWay': WHATEVER THE INPUT: true; the input reads as it did. -/
def liftWaySpec : ChangeSpec := { name := "liftWay", fn := fun _ => fun
  | [d1, d2] => { results := [.lit (.bool true)], args := [d1, d2] }
  | _ => none }
def liftWayRow : OpenClaim := { program := "ythkcnihmfeilgaa", sum := "9d2c70a3d77e4b24fff7f799d17040851c49dccef629a665ea45d8c79d20528c", func := "ringhall/ringkeep3.LiftWay", spec := "liftWay", unfollowed := true, recurses := true, apart := false }
def LiftWaySaid : Prop := liftWayRow.holds Try.pinned (OpenSpec.ofChange liftWaySpec)

/-- ITS FALSE NEIGHBOUR: 'it returns false'. Refute it at one input. -/
def liftWayWrong : ChangeSpec := { name := "liftWay", fn := fun _ => fun
  | [d1, d2] => { results := [.lit (.bool false)], args := [d1, d2] }
  | _ => none }
def LiftWayWrongFalsely : Prop := liftWayRow.holds Try.pinned (OpenSpec.ofChange liftWayWrong)

/-- 'ringkeep3.LiftSame': WHATEVER THE INPUT: true; the input reads as it did. -/
def liftSameSpec : ChangeSpec := { name := "liftSame", fn := fun _ => fun
  | [d] => { results := [.lit (.bool true)], args := [d] }
  | _ => none }
def liftSameRow : OpenClaim := { program := "ythkcnihmfeilgaa", sum := "9d2c70a3d77e4b24fff7f799d17040851c49dccef629a665ea45d8c79d20528c", func := "ringhall/ringkeep3.LiftSame", spec := "liftSame", unfollowed := true, recurses := true, apart := false }
def LiftSameSaid : Prop := liftSameRow.holds Try.pinned (OpenSpec.ofChange liftSameSpec)

/-- ITS FALSE NEIGHBOUR: 'it returns false'. Refute it at one input. -/
def liftSameWrong : ChangeSpec := { name := "liftSame", fn := fun _ => fun
  | [d] => { results := [.lit (.bool false)], args := [d] }
  | _ => none }
def LiftSameWrongFalsely : Prop := liftSameRow.holds Try.pinned (OpenSpec.ofChange liftSameWrong)

/-- 'ringkeep3.LiftBarrier': WHATEVER THE INPUT: true; the input reads as it did. -/
def liftBarrierSpec : ChangeSpec := { name := "liftBarrier", fn := fun _ => fun
  | [d1, d2, d3] => { results := [.lit (.bool true)], args := [d1, d2, d3] }
  | _ => none }
def liftBarrierRow : OpenClaim := { program := "ythkcnihmfeilgaa", sum := "9d2c70a3d77e4b24fff7f799d17040851c49dccef629a665ea45d8c79d20528c", func := "ringhall/ringkeep3.LiftBarrier", spec := "liftBarrier", unfollowed := true, recurses := true, apart := false }
def LiftBarrierSaid : Prop := liftBarrierRow.holds Try.pinned (OpenSpec.ofChange liftBarrierSpec)

/-- ITS FALSE NEIGHBOUR: 'it returns false'. Refute it at one input. -/
def liftBarrierWrong : ChangeSpec := { name := "liftBarrier", fn := fun _ => fun
  | [d1, d2, d3] => { results := [.lit (.bool false)], args := [d1, d2, d3] }
  | _ => none }
def LiftBarrierWrongFalsely : Prop := liftBarrierRow.holds Try.pinned (OpenSpec.ofChange liftBarrierWrong)

/-- 'ringkeep3.BufferFew': WHATEVER THE INPUT: true; the input reads as it did. -/
def bufferFewSpec : ChangeSpec := { name := "bufferFew", fn := fun _ => fun
  | [d1, d2] => { results := [.lit (.bool true)], args := [d1, d2] }
  | _ => none }
def bufferFewRow : OpenClaim := { program := "ythkcnihmfeilgaa", sum := "9d2c70a3d77e4b24fff7f799d17040851c49dccef629a665ea45d8c79d20528c", func := "ringhall/ringkeep3.BufferFew", spec := "bufferFew", inPlace := ["slices.overlaps[ringhall/buffer.slot]"], unfollowed := true, recurses := true, apart := false }
def BufferFewSaid : Prop := bufferFewRow.holds Try.pinned (OpenSpec.ofChange bufferFewSpec)

/-- ITS FALSE NEIGHBOUR: 'it returns false'. Refute it at one input. -/
def bufferFewWrong : ChangeSpec := { name := "bufferFew", fn := fun _ => fun
  | [d1, d2] => { results := [.lit (.bool false)], args := [d1, d2] }
  | _ => none }
def BufferFewWrongFalsely : Prop := bufferFewRow.holds Try.pinned (OpenSpec.ofChange bufferFewWrong)

/-- 'ringkeep3.BufferSync': WHATEVER THE INPUT: true; the input reads as it did. -/
def bufferSyncSpec : ChangeSpec := { name := "bufferSync", fn := fun _ => fun
  | [d1, d2] => { results := [.lit (.bool true)], args := [d1, d2] }
  | _ => none }
def bufferSyncRow : OpenClaim := { program := "ythkcnihmfeilgaa", sum := "9d2c70a3d77e4b24fff7f799d17040851c49dccef629a665ea45d8c79d20528c", func := "ringhall/ringkeep3.BufferSync", spec := "bufferSync", inPlace := ["slices.overlaps[ringhall/buffer.slot]"], unfollowed := true, recurses := true, apart := false }
def BufferSyncSaid : Prop := bufferSyncRow.holds Try.pinned (OpenSpec.ofChange bufferSyncSpec)

/-- ITS FALSE NEIGHBOUR: 'it returns false'. Refute it at one input. -/
def bufferSyncWrong : ChangeSpec := { name := "bufferSync", fn := fun _ => fun
  | [d1, d2] => { results := [.lit (.bool false)], args := [d1, d2] }
  | _ => none }
def BufferSyncWrongFalsely : Prop := bufferSyncRow.holds Try.pinned (OpenSpec.ofChange bufferSyncWrong)

/-- 'ringkeep3.LiftOnce': WHATEVER THE INPUT: true; the input reads as it did. -/
def liftOnceSpec : ChangeSpec := { name := "liftOnce", fn := fun _ => fun
  | [d1, d2] => { results := [.lit (.bool true)], args := [d1, d2] }
  | _ => none }
def liftOnceRow : OpenClaim := { program := "ythkcnihmfeilgaa", sum := "9d2c70a3d77e4b24fff7f799d17040851c49dccef629a665ea45d8c79d20528c", func := "ringhall/ringkeep3.LiftOnce", spec := "liftOnce", unfollowed := true, recurses := true, apart := false }
def LiftOnceSaid : Prop := liftOnceRow.holds Try.pinned (OpenSpec.ofChange liftOnceSpec)

/-- ITS FALSE NEIGHBOUR: 'it returns false'. Refute it at one input. -/
def liftOnceWrong : ChangeSpec := { name := "liftOnce", fn := fun _ => fun
  | [d1, d2] => { results := [.lit (.bool false)], args := [d1, d2] }
  | _ => none }
def LiftOnceWrongFalsely : Prop := liftOnceRow.holds Try.pinned (OpenSpec.ofChange liftOnceWrong)

/- THE SECOND FORM. 'bulk': how many values and letters a reading holds, each counted each time it is reached (what is shared counts as often as it is met; a slice's spare places count too). A statement '..UptoSaid' is the law's where the arguments, and the package variables that the reading takes, are together of bulk at most 1048576: NARROWER than '..Said'. Prove '..Said' where nothing that the law and all that it calls make is longer than what came in: it says more and counts as full. Else prove '..UptoSaid'. A law counts once. -/
mutual
def uptoBulk {H : Type} : DataW H → Nat
  | .lit (.string bytes) => bytes.length + 1
  | .lit _ => 1
  | .nil => 1
  | .ptr d => uptoBulk d + 1
  | .slice elems spare => uptoBulkAll elems + uptoBulkAll spare + 1
  | .agg parts => uptoBulkAll parts + 1
  | .iface _ d => uptoBulk d + 1
  | .map entries => uptoBulkEntries entries + 1
  | .held _ => 1
def uptoBulkAll {H : Type} : List (DataW H) → Nat
  | [] => 0
  | d :: r => uptoBulk d + uptoBulkAll r
def uptoBulkEntries {H : Type} : List (Lit × DataW H) → Nat
  | [] => 0
  | x :: r => uptoBulkEntry x + uptoBulkEntries r
def uptoBulkEntry {H : Type} : Lit × DataW H → Nat
  | (.string bytes, d) => bytes.length + uptoBulk d + 1
  | (_, d) => uptoBulk d + 1
 end
def uptoSmall : (H : Type) → List (DataW H) → Bool := fun _ ds => decide (uptoBulkAll ds ≤ 1048576)
def OpenSpec.upto (s : _root_.Go.ChangeSpec) : _root_.Go.OpenSpec := { _root_.Go.OpenSpec.ofChange s with cond := some uptoSmall }

/-- 'ringkeep3.BufferReads', WHERE WHAT IT READS IS OF BULK AT MOST 1048576: true; the input reads as it did. -/
def bufferReadsUptoRow : OpenClaim := { program := "ythkcnihmfeilgaa", sum := "9d2c70a3d77e4b24fff7f799d17040851c49dccef629a665ea45d8c79d20528c", func := "ringhall/ringkeep3.BufferReads", spec := "bufferReads", inPlace := ["slices.overlaps[ringhall/buffer.slot]"], unfollowed := true, recurses := true, apart := false, narrowed := true }
def BufferReadsUptoSaid : Prop := bufferReadsUptoRow.holds Try.pinned (OpenSpec.upto bufferReadsSpec)

/-- 'ringkeep3.BufferMore', WHERE WHAT IT READS IS OF BULK AT MOST 1048576: true; the input reads as it did. -/
def bufferMoreUptoRow : OpenClaim := { program := "ythkcnihmfeilgaa", sum := "9d2c70a3d77e4b24fff7f799d17040851c49dccef629a665ea45d8c79d20528c", func := "ringhall/ringkeep3.BufferMore", spec := "bufferMore", inPlace := ["slices.overlaps[ringhall/buffer.slot]"], unfollowed := true, recurses := true, apart := false, narrowed := true }
def BufferMoreUptoSaid : Prop := bufferMoreUptoRow.holds Try.pinned (OpenSpec.upto bufferMoreSpec)

/-- 'ringkeep3.LiftAgain', WHERE WHAT IT READS IS OF BULK AT MOST 1048576: true; the input reads as it did. -/
def liftAgainUptoRow : OpenClaim := { program := "ythkcnihmfeilgaa", sum := "9d2c70a3d77e4b24fff7f799d17040851c49dccef629a665ea45d8c79d20528c", func := "ringhall/ringkeep3.LiftAgain", spec := "liftAgain", unfollowed := true, recurses := true, apart := false, narrowed := true }
def LiftAgainUptoSaid : Prop := liftAgainUptoRow.holds Try.pinned (OpenSpec.upto liftAgainSpec)

/-- 'ringkeep3.LiftWay', WHERE WHAT IT READS IS OF BULK AT MOST 1048576: true; the input reads as it did. -/
def liftWayUptoRow : OpenClaim := { program := "ythkcnihmfeilgaa", sum := "9d2c70a3d77e4b24fff7f799d17040851c49dccef629a665ea45d8c79d20528c", func := "ringhall/ringkeep3.LiftWay", spec := "liftWay", unfollowed := true, recurses := true, apart := false, narrowed := true }
def LiftWayUptoSaid : Prop := liftWayUptoRow.holds Try.pinned (OpenSpec.upto liftWaySpec)

/-- 'ringkeep3.LiftSame', WHERE WHAT IT READS IS OF BULK AT MOST 1048576: true; the input reads as it did. -/
def liftSameUptoRow : OpenClaim := { program := "ythkcnihmfeilgaa", sum := "9d2c70a3d77e4b24fff7f799d17040851c49dccef629a665ea45d8c79d20528c", func := "ringhall/ringkeep3.LiftSame", spec := "liftSame", unfollowed := true, recurses := true, apart := false, narrowed := true }
def LiftSameUptoSaid : Prop := liftSameUptoRow.holds Try.pinned (OpenSpec.upto liftSameSpec)

/-- 'ringkeep3.LiftBarrier', WHERE WHAT IT READS IS OF BULK AT MOST 1048576: true; the input reads as it did. -/
def liftBarrierUptoRow : OpenClaim := { program := "ythkcnihmfeilgaa", sum := "9d2c70a3d77e4b24fff7f799d17040851c49dccef629a665ea45d8c79d20528c", func := "ringhall/ringkeep3.LiftBarrier", spec := "liftBarrier", unfollowed := true, recurses := true, apart := false, narrowed := true }
def LiftBarrierUptoSaid : Prop := liftBarrierUptoRow.holds Try.pinned (OpenSpec.upto liftBarrierSpec)

/-- 'ringkeep3.BufferFew', WHERE WHAT IT READS IS OF BULK AT MOST 1048576: true; the input reads as it did. -/
def bufferFewUptoRow : OpenClaim := { program := "ythkcnihmfeilgaa", sum := "9d2c70a3d77e4b24fff7f799d17040851c49dccef629a665ea45d8c79d20528c", func := "ringhall/ringkeep3.BufferFew", spec := "bufferFew", inPlace := ["slices.overlaps[ringhall/buffer.slot]"], unfollowed := true, recurses := true, apart := false, narrowed := true }
def BufferFewUptoSaid : Prop := bufferFewUptoRow.holds Try.pinned (OpenSpec.upto bufferFewSpec)

/-- 'ringkeep3.BufferSync', WHERE WHAT IT READS IS OF BULK AT MOST 1048576: true; the input reads as it did. -/
def bufferSyncUptoRow : OpenClaim := { program := "ythkcnihmfeilgaa", sum := "9d2c70a3d77e4b24fff7f799d17040851c49dccef629a665ea45d8c79d20528c", func := "ringhall/ringkeep3.BufferSync", spec := "bufferSync", inPlace := ["slices.overlaps[ringhall/buffer.slot]"], unfollowed := true, recurses := true, apart := false, narrowed := true }
def BufferSyncUptoSaid : Prop := bufferSyncUptoRow.holds Try.pinned (OpenSpec.upto bufferSyncSpec)

/-- 'ringkeep3.LiftOnce', WHERE WHAT IT READS IS OF BULK AT MOST 1048576: true; the input reads as it did. -/
def liftOnceUptoRow : OpenClaim := { program := "ythkcnihmfeilgaa", sum := "9d2c70a3d77e4b24fff7f799d17040851c49dccef629a665ea45d8c79d20528c", func := "ringhall/ringkeep3.LiftOnce", spec := "liftOnce", unfollowed := true, recurses := true, apart := false, narrowed := true }
def LiftOnceUptoSaid : Prop := liftOnceUptoRow.holds Try.pinned (OpenSpec.upto liftOnceSpec)

end Rows
end Go.Proofs.Ythkcnihmfeilgaa
