/-
  No cell of these rows narrows 'for every input' (looked for: loops, veiled, ifaces, maps, wideKeys, modest, calm, conditions, laid).
  DERIVED. THE GIVEN ROWS OF THIS SEAT. 3 by the template 'for every input the law returns true; each argument reads behind the call as it read before'; 0 by the template 'total and deterministic' (their statements: YtablomjaaifgfaaTotals.lean).
  GIVEN WITH THE SEED: the statements are not yours to turn. If you find one false, say at which input.
  Laid BY PROGRAM, IN A SANDBOX (cutbox-rows.mjs): the forced cells as the released guide's own fill.sh prints them over the translation 2bd77d3a05a558a0… (all of the seat's roots in one cut). By AI agents, Wed Nov 11 2026. No macro, syntax, notation, axiom, sorry.
-/
import Derived.Test.YtablomjaaifgfaaChecked
import GoSem.Claim
import GoSem.ClaimJoined
import GoSem.ClaimMapViews
import Derived.JoinedTies
import Derived.KernelRfl
namespace Go.Proofs.Ytablomjaaifgfaa
/- THE CELL 'sum', in the pinned program and in every row, IS THE sha256 OF THE DUMP (.gsa) THAT YtablomjaaifgfaaProg.lean LOADS. Nothing in Lean hashes anything: it is a label: what it is worth is what the hold of that sum in a sandbox is worth. -/
noncomputable def Try.pinned : Pinned := { name := "ytablomjaaifgfaa", sum := "2bd77d3a05a558a024affa0878ce852c03881abf81f66863662646ac56a3a7ba", checked := Try.checked }
namespace Rows
def none {H : Type} : Left H := { results := [], args := [] }

/-- 'ringkeep3.OrphanTwice': WHATEVER THE INPUT: true; the input reads as it did. -/
def orphanTwiceSpec : ChangeSpec := { name := "orphanTwice", fn := fun _ => fun
  | [d1, d2, d3] => { results := [.lit (.bool true)], args := [d1, d2, d3] }
  | _ => none }
def orphanTwiceRow : OpenClaim := { program := "ytablomjaaifgfaa", sum := "2bd77d3a05a558a024affa0878ce852c03881abf81f66863662646ac56a3a7ba", func := "ringhall/ringkeep3.OrphanTwice", spec := "orphanTwice", recurses := true, apart := false }
def OrphanTwiceSaid : Prop := orphanTwiceRow.holds Try.pinned (OpenSpec.ofChange orphanTwiceSpec)

/-- ITS FALSE NEIGHBOUR: 'it returns false'. Refute it at one input. -/
def orphanTwiceWrong : ChangeSpec := { name := "orphanTwice", fn := fun _ => fun
  | [d1, d2, d3] => { results := [.lit (.bool false)], args := [d1, d2, d3] }
  | _ => none }
def OrphanTwiceWrongFalsely : Prop := orphanTwiceRow.holds Try.pinned (OpenSpec.ofChange orphanTwiceWrong)

/-- 'ringkeep3.OrphanLost': WHATEVER THE INPUT: true; the input reads as it did. -/
def orphanLostSpec : ChangeSpec := { name := "orphanLost", fn := fun _ => fun
  | [d1, d2, d3, d4] => { results := [.lit (.bool true)], args := [d1, d2, d3, d4] }
  | _ => none }
def orphanLostRow : OpenClaim := { program := "ytablomjaaifgfaa", sum := "2bd77d3a05a558a024affa0878ce852c03881abf81f66863662646ac56a3a7ba", func := "ringhall/ringkeep3.OrphanLost", spec := "orphanLost", recurses := true, apart := false }
def OrphanLostSaid : Prop := orphanLostRow.holds Try.pinned (OpenSpec.ofChange orphanLostSpec)

/-- ITS FALSE NEIGHBOUR: 'it returns false'. Refute it at one input. -/
def orphanLostWrong : ChangeSpec := { name := "orphanLost", fn := fun _ => fun
  | [d1, d2, d3, d4] => { results := [.lit (.bool false)], args := [d1, d2, d3, d4] }
  | _ => none }
def OrphanLostWrongFalsely : Prop := orphanLostRow.holds Try.pinned (OpenSpec.ofChange orphanLostWrong)

/-- 'ringkeep3.OrphanCut': WHATEVER THE INPUT: true; the input reads as it did. -/
def orphanCutSpec : ChangeSpec := { name := "orphanCut", fn := fun _ => fun
  | [d1, d2] => { results := [.lit (.bool true)], args := [d1, d2] }
  | _ => none }
def orphanCutRow : OpenClaim := { program := "ytablomjaaifgfaa", sum := "2bd77d3a05a558a024affa0878ce852c03881abf81f66863662646ac56a3a7ba", func := "ringhall/ringkeep3.OrphanCut", spec := "orphanCut", unfollowed := true, recurses := true, apart := false }
def OrphanCutSaid : Prop := orphanCutRow.holds Try.pinned (OpenSpec.ofChange orphanCutSpec)

/-- ITS FALSE NEIGHBOUR: 'it returns false'. Refute it at one input. -/
def orphanCutWrong : ChangeSpec := { name := "orphanCut", fn := fun _ => fun
  | [d1, d2] => { results := [.lit (.bool false)], args := [d1, d2] }
  | _ => none }
def OrphanCutWrongFalsely : Prop := orphanCutRow.holds Try.pinned (OpenSpec.ofChange orphanCutWrong)

/- THE SECOND FORM. 'bulk': how many values and letters a reading holds, each counted each time it is reached (what is shared counts as often as it is met; a slice's spare places count too). A statement '..UptoSaid' is the law's where the arguments, and the package variables that the reading takes, are together of bulk at most 1048576: NARROWER than '..Said'. Prove '..Said' where nothing that the law and all that it calls make is longer than what came in: it says more and counts as full. Else prove '..UptoSaid'. A law counts once. -/
mutual
def uptoBulk {H : Type} : DataW H → Nat
  | .lit (.string bytes) => bytes.length + 1
  | .lit _ => 1
  | .nil => 1
  | .ptr d => uptoBulk d + 1
  | .slice elems spare => uptoBulkAll elems + uptoBulkAll spare + 1
  | .agg parts => uptoBulkAll parts + 1
  | .iface _ d => uptoBulk d + 1
  | .map entries => uptoBulkEntries entries + 1
  | .held _ => 1
def uptoBulkAll {H : Type} : List (DataW H) → Nat
  | [] => 0
  | d :: r => uptoBulk d + uptoBulkAll r
def uptoBulkEntries {H : Type} : List (Lit × DataW H) → Nat
  | [] => 0
  | x :: r => uptoBulkEntry x + uptoBulkEntries r
def uptoBulkEntry {H : Type} : Lit × DataW H → Nat
  | (.string bytes, d) => bytes.length + uptoBulk d + 1
  | (_, d) => uptoBulk d + 1
 end
def uptoSmall : (H : Type) → List (DataW H) → Bool := fun _ ds => decide (uptoBulkAll ds ≤ 1048576)
def OpenSpec.upto (s : _root_.Go.ChangeSpec) : _root_.Go.OpenSpec := { _root_.Go.OpenSpec.ofChange s with cond := some uptoSmall }

/-- 'ringkeep3.OrphanTwice', WHERE WHAT IT READS IS OF BULK AT MOST 1048576: true; the input reads as it did. -/
def orphanTwiceUptoRow : OpenClaim := { program := "ytablomjaaifgfaa", sum := "2bd77d3a05a558a024affa0878ce852c03881abf81f66863662646ac56a3a7ba", func := "ringhall/ringkeep3.OrphanTwice", spec := "orphanTwice", recurses := true, apart := false, narrowed := true }
def OrphanTwiceUptoSaid : Prop := orphanTwiceUptoRow.holds Try.pinned (OpenSpec.upto orphanTwiceSpec)

/-- 'ringkeep3.OrphanLost', WHERE WHAT IT READS IS OF BULK AT MOST 1048576: true; the input reads as it did. -/
def orphanLostUptoRow : OpenClaim := { program := "ytablomjaaifgfaa", sum := "2bd77d3a05a558a024affa0878ce852c03881abf81f66863662646ac56a3a7ba", func := "ringhall/ringkeep3.OrphanLost", spec := "orphanLost", recurses := true, apart := false, narrowed := true }
def OrphanLostUptoSaid : Prop := orphanLostUptoRow.holds Try.pinned (OpenSpec.upto orphanLostSpec)

/-- 'ringkeep3.OrphanCut', WHERE WHAT IT READS IS OF BULK AT MOST 1048576: true; the input reads as it did. -/
def orphanCutUptoRow : OpenClaim := { program := "ytablomjaaifgfaa", sum := "2bd77d3a05a558a024affa0878ce852c03881abf81f66863662646ac56a3a7ba", func := "ringhall/ringkeep3.OrphanCut", spec := "orphanCut", unfollowed := true, recurses := true, apart := false, narrowed := true }
def OrphanCutUptoSaid : Prop := orphanCutUptoRow.holds Try.pinned (OpenSpec.upto orphanCutSpec)

end Rows
end Go.Proofs.Ytablomjaaifgfaa
