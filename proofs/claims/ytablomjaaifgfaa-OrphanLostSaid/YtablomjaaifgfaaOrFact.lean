/- cut: a fact: a file that is cut. -/
import Derived.Test.YtablomjaaifgfaaOrLost
namespace Go.Proofs.Ytablomjaaifgfaa
open Go.RowKit

theorem rightN_fact : rightN 1 0 0 0 200 1 0 [40, 41, 0, 43] = 0 := by decide
theorem fact_blk : blkN 70 = 2 := by decide
theorem fact_res : resP [40, 41, 0, 43] 2 = [40, 41] := by decide
theorem fact_gone : goneP [40, 41, 0, 43] 2 = [43] := by decide
theorem fact_srt : srtI [43] = [43] := by simp [srtI]
theorem fact_tail : tailP [40, 41, 0, 43] 2 200 70 = 6 := by decide
theorem ints_blockF {w : World} {g c n : Nat} {l : List Int} {t : TypeId} {fr : Nat × Nat} (hn : l.length = n) (h : w.heap[g]? = some (.cells (ints l).toArray t fr)) : IntsAt w (.slice (some ⟨g, 0, none⟩) n c) l := by
  subst hn
  refine ⟨by simp [ints], Or.inr ⟨g, 0, c, rfl, fun j x hx => ?_⟩⟩
  rw [Nat.zero_add, cell_of_row _ _ j _ t fr h]
  simpa using hx
def nd0 : Nd := ⟨0, 0, 0, 0, 0, 0, 0, none, 0, 0⟩
def nd1 : Nd := ⟨1, 0, 0, 0, 0, 0, 0, none, 0, 0⟩
theorem fact_lost : lostK [nd0, nd1] [] 2 = [2] := by decide

set_option maxRecDepth 100000 in
set_option maxHeartbeats 4000000 in
theorem cut_true (w : World) : Calls Try.prog 6 #[] w fun e w' => e = .returned (.bool true) ∧ Below w.heap.size w w' := by
  have HBA : Hid (Below w.heap.size w ((w.alloc (.cells (ints [40, 41, 0, 43]).toArray 3)).alloc (.cells #[.int .i64 1, .int .i64 0, .int .i64 0, .int .i64 0, .int .i64 200, .int .i64 1, .int .i64 0, .slice (some ⟨w.heap.size, 0, none⟩) 4 4] 24))) := ((Below.refl _ _).alloc (Nat.le_refl _) _).alloc (by simp) _
  have HCUT := Lib.hid (cut_any 1 0 0 0 200 1 0 (.slice (some ⟨w.heap.size, 0, none⟩) 4 4) [40, 41, 0, 43] 70 ((w.alloc (.cells (ints [40, 41, 0, 43]).toArray 3)).alloc (.cells #[.int .i64 1, .int .i64 0, .int .i64 0, .int .i64 0, .int .i64 200, .int .i64 1, .int .i64 0, .slice (some ⟨w.heap.size, 0, none⟩) 4 4] 24)) (ints_blockF rfl (heap_alloc_keep (heap_alloc_new w _) _)) rightN_fact (by decide) (by decide) (by decide))
  unfold CutRes at HCUT
  rw [fact_blk, fact_res, fact_gone, fact_srt, fact_tail] at HCUT
  go_enter Try.func6, Try.ntmps6
  go_wp2_with fail
  refine HCUT.out.mono ?_
  rintro e w1 ⟨pq, pc, gv, rfl, hp1, hg1, hb1⟩
  have HB1 : Hid (Below w.heap.size w w1) := Below.step HBA.out hb1
  have hbM : Below w1.heap.size w1 (w1.alloc (.cells #[.int .i64 1, .int .i64 0, .int .i64 0, .int .i64 0, .int .i64 70, .int .i64 1, .int .i64 0, .slice pq 2 pc] 24)) := (Below.refl _ _).alloc (Nat.le_refl _) _
  have hbE : Below w1.heap.size w1 ((w1.alloc (.cells #[.int .i64 1, .int .i64 0, .int .i64 0, .int .i64 0, .int .i64 70, .int .i64 1, .int .i64 0, .slice pq 2 pc] 24)).alloc (.cells (ints [40, 41]).toArray 3)) := hbM.alloc (by simp) _
  have HBE : Hid (Below w.heap.size w ((w1.alloc (.cells #[.int .i64 1, .int .i64 0, .int .i64 0, .int .i64 0, .int .i64 70, .int .i64 1, .int .i64 0, .slice pq 2 pc] 24)).alloc (.cells (ints [40, 41]).toArray 3))) := Below.step HB1.out hbE
  have HE1 := Lib.hid (equalInts_true (.slice pq 2 pc) (.slice (some ⟨w1.heap.size + 1, 0, none⟩) 2 2) [40, 41] ((w1.alloc (.cells #[.int .i64 1, .int .i64 0, .int .i64 0, .int .i64 0, .int .i64 70, .int .i64 1, .int .i64 0, .slice pq 2 pc] 24)).alloc (.cells (ints [40, 41]).toArray 3)) (RowAt.below (own_ints_at hp1) hbE) (ints_blockF rfl (by
    have := heap_alloc_new (w1.alloc (.cells #[.int .i64 1, .int .i64 0, .int .i64 0, .int .i64 0, .int .i64 70, .int .i64 1, .int .i64 0, .slice pq 2 pc] 24)) (.cells (ints [40, 41]).toArray 3)
    rw [show (w1.alloc (.cells #[.int .i64 1, .int .i64 0, .int .i64 0, .int .i64 0, .int .i64 70, .int .i64 1, .int .i64 0, .slice pq 2 pc] 24)).heap.size = w1.heap.size + 1 by simp] at this
    exact this)) (by simp))
  have HG1 := Lib.hid (ownsRow_keep hg1 hbE)
  clear hp1 hg1 hb1 hbM hbE
  go_wp2_with fail
  refine HE1.out.mono ?_
  rintro e w2 ⟨rfl, hb2⟩
  have HB2 : Hid (Below w.heap.size w w2) := Below.step HBE.out hb2
  have HG2 := Lib.hid (ownsRow_keep HG1.out hb2)
  have hbF : Below w2.heap.size w2 (w2.alloc (.cells (ints [43]).toArray 3)) := (Below.refl _ _).alloc (Nat.le_refl _) _
  have HE2 := Lib.hid (equalInts_true gv (.slice (some ⟨w2.heap.size, 0, none⟩) 1 1) [43] (w2.alloc (.cells (ints [43]).toArray 3)) (RowAt.below (own_ints_at HG2.out) hbF) (ints_blockF rfl (heap_alloc_new w2 _)) (by simp))
  have HBF : Hid (Below w.heap.size w (w2.alloc (.cells (ints [43]).toArray 3))) := Below.step HB2.out hbF
  clear hb2 hbF
  go_wp2_with fail
  refine HE2.out.mono ?_
  rintro e w3 ⟨rfl, hb3⟩
  have HB3 : Hid (Below w.heap.size w w3) := Below.step HBF.out hb3
  have HLO := Lib.hid (lost_any (.slice (some ⟨w3.heap.size, 0, none⟩) 2 2) (.slice none 0 0) [nd0, nd1] [] (w3.alloc (.cells (ncells [nd0, nd1]).toArray 24)) ⟨ncells_len _, Or.inr ⟨w3.heap.size, 0, 2, rfl, fun j x hx => by
    rw [Nat.zero_add, cell_of_row _ _ j _ _ _ (heap_alloc_new w3 _)]
    simpa using hx⟩⟩ ⟨rfl, Or.inl ⟨rfl, none, 0, rfl⟩⟩ (by simp) (by simp))
  have hbN : Below w.heap.size w (w3.alloc (.cells (ncells [nd0, nd1]).toArray 24)) := Below.step HB3.out ((Below.refl _ _).alloc (Nat.le_refl _) _)
  have HBN := Lib.hid hbN
  rw [show ([nd0, nd1] : List Nd).length = 2 from rfl, fact_lost] at HLO
  clear hb3 hbN
  go_wp2_with fail
  refine HLO.out.mono ?_
  rintro e w4 ⟨r, rfl, ho4, hb4⟩
  have HB4 : Hid (Below w.heap.size w w4) := Below.step HBN.out hb4
  have hbG : Below w4.heap.size w4 (w4.alloc (.cells (ints [2]).toArray 3)) := (Below.refl _ _).alloc (Nat.le_refl _) _
  have HE3 := Lib.hid (equalInts_true r (.slice (some ⟨w4.heap.size, 0, none⟩) 1 1) [2] (w4.alloc (.cells (ints [2]).toArray 3)) (RowAt.below (own_ints_at ho4) hbG) (ints_blockF rfl (heap_alloc_new w4 _)) (by simp))
  have HBG : Hid (Below w.heap.size w (w4.alloc (.cells (ints [2]).toArray 3))) := Below.step HB4.out hbG
  clear ho4 hb4 hbG
  go_wp2_with fail
  refine HE3.out.mono ?_
  rintro e w5 ⟨rfl, hb5⟩
  have hB5 : Below w.heap.size w w5 := Below.step HBG.out hb5
  clear hb5
  go_wp2
  go_ret
  exact ⟨rfl, hB5⟩

end Go.Proofs.Ytablomjaaifgfaa
