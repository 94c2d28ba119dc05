/- append of zero rows to a slice that is full. -/
import Derived.Test.YtneknlbmiofmlaaQuota9
import Derived.Lib.AppendZerosOnto
import Derived.Lib.AppendZeros
import Derived.Deep.DeepAppendWide
namespace Go.Proofs.Ytneknlbmiofmlaa
open Go.RowKit

theorem run_grow_rows (w : World) (g i n : Nat) (cur : Array Value) (l : List (Int × Int)) (hg : w.heap[g]? = some (.cells cur 63 (0, 0))) (hs : cur.size = n * 2) (ht : cur.toList.take (n * 2) = pairs l) (hl : n = l.length) (hin : i < n) (hn : n ≤ 1000000) :
    ∃ (G : Nat) (zs : List Value), n + 1 ≤ G ∧ G ≤ maxLen ∧ zs.length = (G - i) * 2 ∧ ∀ ty, (Builtin.append_ #[56, 3] ty #[.slice (some ⟨g, 0, none⟩) i n, .int .i64 ((n : Int) + 1 - (i : Int))]).run Try.prog w =
      .ok (.slice (some ⟨w.heap.size, 0, none⟩) (n + 1) G) (w.drew.alloc (.cells (pairs (l.take i) ++ zs).toArray 63)) := by
  obtain ⟨i0, hi, hz0, hz1, hz2⟩ := info_parts rowInfo
  have hpl : (pairs (l.take i)).length = i * i0.size := by rw [pairs_len, List.length_take, hz1]; congr 1; omega
  have hold : (Builtin.firstCells i0.size i (.slice (some ⟨g, 0, none⟩) i n)).run Try.prog w.drew = .ok (pairs (l.take i)).toArray w.drew :=
    run_firstCells_some _ _ _ _ _ _ _ hpl fun j v hj => by
      have hadd : (⟨g, 0, none⟩ : Addr).add j = ⟨g, 0 + j, none⟩ := by unfold Addr.add; split <;> simp_all
      have hjl := (List.getElem?_eq_some_iff.1 hj).1
      rw [hpl, hz1] at hjl
      rw [hadd, Nat.zero_add, cell_of_row w.drew g j cur 63 (0, 0) hg]
      rw [(pairs_drop l i (by omega)).2, ← ht, List.getElem?_take, if_pos (by omega), List.getElem?_take, if_pos (by omega)] at hj
      simpa using hj
  have hk : ((n : Int) + 1 - (i : Int)) = ((n + 1 - i : Nat) : Int) := by omega
  have hi64 : Try.prog.underlying 3 = some (.int .i64) := by kernel_rfl
  refine ⟨grownCap w (n + 1) n 63, (Builtin.zeroCells #[.int .i64 0, .int .i64 0] (n + 1 - i) ++ Builtin.zeroCells #[.int .i64 0, .int .i64 0] (grownCap w (n + 1) n 63 - (n + 1))).toList, grownCap_ge _ _ _ _, grownCap_le_maxLen _ _ _ _ (by unfold maxLen; omega), ?_, fun ty => ?_⟩
  · have := grownCap_ge w (n + 1) n 63
    rw [Array.length_toList, Array.size_append, size_zeroCells, size_zeroCells]
    show (n + 1 - i) * 2 + (_ - (n + 1)) * 2 = _
    omega
  · have h := Lib.run_append_grow_zeros (P := Try.prog) w 56 3 ty 63 i0 _ .i64 .i64 rowT hi64 hi hz0 (some ⟨g, 0, none⟩) i n (pairs (l.take i)) hold (n + 1 - i) (by omega) (by omega) (by omega) (by omega) (by rw [hz2]; omega) (by rw [hz2]; exact growslice_fits_wide (by omega) (by omega))
    rw [show i + (n + 1 - i) = n + 1 by omega] at h
    rw [hk, h]
    congr 3
    simp [Array.append_assoc, Value.cells]

end Go.Proofs.Ytneknlbmiofmlaa
