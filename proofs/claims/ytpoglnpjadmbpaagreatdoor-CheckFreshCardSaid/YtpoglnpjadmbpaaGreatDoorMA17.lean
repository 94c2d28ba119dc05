/- Part of the proofs of CheckFresh, FsCut, FsHoles: the texts Inode2. -/
import Derived.Test.YtpoglnpjadmbpaaGreatDoorMA14
import Derived.Deep.RegionHeldLaw
import Derived.Deep.RegionHeld3
import Derived.Laws.StructEq
set_option maxHeartbeats 16000000
namespace Go.Proofs.YtpoglnpjadmbpaaGreatDoor
open Go.RowKit
theorem qam {W : World} {B : Nat} {k m u g s l up : Int} {v : Value} {t : TypeId} (h : W.heap[B]? = some (.cells #[.int .i64 k, .int .i64 m, .int .i64 u, .int .i64 g, .int .i64 s, .int .i64 l, .int .i64 up, v] t (0, 0))) : W.cell? ⟨B, 0, none⟩ = some (.int .i64 k) ∧ W.cell? ⟨B, 1, none⟩ = some (.int .i64 m) ∧ W.cell? ⟨B, 2, none⟩ = some (.int .i64 u) ∧ W.cell? ⟨B, 3, none⟩ = some (.int .i64 g) ∧ W.cell? ⟨B, 4, none⟩ = some (.int .i64 s) ∧ W.cell? ⟨B, 5, none⟩ = some (.int .i64 l) ∧ W.cell? ⟨B, 6, none⟩ = some (.int .i64 up) ∧ W.cell? ⟨B, 7, none⟩ = some v := by
 have c := fun j => cell_of_row W B j _ t (0, 0) h
 exact ⟨c 0, c 1, c 2, c 3, c 4, c 5, c 6, c 7⟩
end Go.Proofs.YtpoglnpjadmbpaaGreatDoor
