/- slices.Insert of one row in the middle, where there is room. -/
import Derived.Test.YtneknlbmiofmlaaQuota7
import Derived.Lib.Overlaps
import Derived.Laws.Externs
namespace Go.Proofs.Ytneknlbmiofmlaa
open Go.RowKit

theorem rowSz : ∀ w, (Go.sizeOf 63).run Try.prog w = .ok 2 w := fun w => by kernel_rfl
theorem run_ovl (w : World) (h g o lb cb : Nat) (x y : Int) (cur : Array Value) (hne : h ≠ g) (hh : w.heap[h]? = some (.cells #[.int .i64 x, .int .i64 y] 63 (0, 0)))
    (hg : w.heap[g]? = some (.cells cur 63 (0, 0))) (hc : cur.size ≠ 0) :
    (callFunc 48 #[.slice (some ⟨h, 0, none⟩) 1 1, .slice (some ⟨g, o, none⟩) lb cb]).run Try.prog w = .ok (.value (.bool false)) w := by
  rw [run_callFunc_extern Try.func48 (by kernel_rfl) (by kernel_rfl) (by kernel_rfl) (e := Extern.SlicesOverlaps.overlaps #[56, 56] #[4]) (by kernel_rfl),
    Lib.run_overlaps_apart w 56 4 63 rowT 2 rowSz ⟨h, 0, none⟩ ⟨g, o, none⟩ 1 1 lb cb hne 63 63 2 cur.size (by simp [World.shape?, hh]) (by simp [World.shape?, hg]) hc (by simp [World.frozen?, hh]) (by simp [World.frozen?, hh])]
  rfl

end Go.Proofs.Ytneknlbmiofmlaa
