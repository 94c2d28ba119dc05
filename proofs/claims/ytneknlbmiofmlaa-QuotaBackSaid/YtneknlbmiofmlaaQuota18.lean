/- The fact limited. -/
import Derived.Test.YtneknlbmiofmlaaQuota17
import Derived.Test.YtneknlbmiofmlaaInode5
namespace Go.Proofs.Ytneknlbmiofmlaa
open Go.RowKit

theorem rows_new (w : World) (l : List (Int × Int)) (t : TypeId) (c : Nat) : RowAt (w.alloc (.cells (pairs l).toArray t)) (.slice (some ⟨w.heap.size, 0, none⟩) l.length c) 2 l.length (pairs l) :=
  ⟨pairs_len l, Or.inr ⟨w.heap.size, 0, c, rfl, fun j x hx => by
    rw [Nat.zero_add, cell_of_row _ _ _ _ _ _ (heap_alloc_new w _)]
    simpa using hx⟩⟩

set_option maxRecDepth 100000 in
set_option maxHeartbeats 2000000 in
theorem limited_true (w : World) :
    Calls Try.prog 31 #[] w fun e w' => e = .returned (.bool true) ∧ Below w.heap.size w w' := by
  have HS0 : Hid (∀ W : World, RowAt (W.alloc (.cells #[.int .i64 5, .int .i64 9] 63)) (.slice (some ⟨W.heap.size, 0, none⟩) 1 1) 2 1 (pairs [(5, 9)])) := fun W => rows_new W [(5, 9)] _ 1
  have HS1 : Hid (∀ W : World, RowAt (W.alloc (.cells #[.int .i64 2, .int .i64 256, .int .i64 5, .int .i64 9] 63)) (.slice (some ⟨W.heap.size, 0, none⟩) 2 2) 2 2 (pairs [(2, 256), (5, 9)])) := fun W => rows_new W [(2, 256), (5, 9)] _ 2
  have HQ : Hid (rightQ [(2, 256), (5, 9)] = 0) := by show _ = _; decide
  have HF : Hid (fullQ [(5, 9)] 2 256 = false) := by show _ = _; decide
  have HST : Hid (setQ [(5, 9)] 2 256 = [(2, 256), (5, 9)]) := by show _ = _; decide
  go_enter Try.func31, Try.ntmps31
  go_wp2_with fail
  refine (set_any _ [(5, 9)] 2 256 _ (HS0.out w) (by simp) (by decide) (by omega) (by omega) (by omega) (by omega)).mono ?_
  rintro e w1 ⟨_, hset, hb1⟩
  obtain ⟨v1, rfl, hown⟩ := hset HF.out
  rw [HST.out] at hown
  have HR1 : Hid (RowAt w1 v1 2 2 (pairs [(2, 256), (5, 9)])) := RowAt.of_owns hown
  have hB1 : Below w.heap.size w w1 := Below.step ((Below.refl _ _).alloc (Nat.le_refl _) _) hb1
  clear hset hown hb1
  go_wp2_with fail
  refine (packQ_good _ [(2, 256), (5, 9)] _ HR1.out HQ.out).mono ?_
  rintro e w2 ⟨gp, rfl, hgp, hhp, hb2⟩
  have HH2 := Lib.hid hhp
  have HR2 : Hid (RowAt w2 v1 2 2 (pairs [(2, 256), (5, 9)])) := RowAt.below HR1.out hb2
  have hB2 := Below.step hB1 hb2
  clear hhp hb2
  go_wp2_with fail
  refine (equalRows_true _ _ [(2, 256), (5, 9)] _ (RowAt.below HR2.out ((Below.refl _ _).alloc (Nat.le_refl _) _)) (HS1.out w2) (by simp)).mono ?_
  rintro e w3 ⟨rfl, hb3⟩
  have hB3 : Below w.heap.size w w3 := Below.step (hB2.alloc hB2.size _) hb3
  have HR3 : Hid (RowAt w3 v1 2 2 (pairs [(2, 256), (5, 9)])) := RowAt.below (RowAt.below HR2.out ((Below.refl _ _).alloc (Nat.le_refl _) _)) hb3
  have HH3 := Lib.hid (heap_below hb3 (heap_alloc_keep HH2.out (Obj.cells #[.int .i64 2, .int .i64 256, .int .i64 5, .int .i64 9] 63)))
  have hcv : (convert 37 9 (.slice (some ⟨gp, 0, none⟩) 7 64)).run Try.prog w3 = .ok (.string ⟨#[2, 2, 0, 1, 5, 9, 0]⟩) w3 := by
    have := run_string_of (P := Try.prog) w3 37 9 5 gp 0 64 7 [2, 2, 0, 1, 5, 9, 0] rfl (by kernel_rfl) (by kernel_rfl) (by kernel_rfl) (fun j v hv => by
      rw [Nat.zero_add, cell_of_row _ _ _ _ _ _ HH3.out]
      have hj := (List.getElem?_eq_some_iff.1 hv).1
      simp only [List.length_map, List.length_cons, List.length_nil] at hj
      have e : (packQ 2 [(2, 256), (5, 9)]).take 7 = [2, 2, 0, 1, 5, 9, 0] := by decide
      rw [← e, List.map_take, List.getElem?_take, if_pos (by omega)] at hv
      unfold byts
      rw [List.getElem?_toArray]
      exact hv)
    exact this
  clear hb3
  go_wp2_with fail
  refine (of_any _ [(2, 256), (5, 9)] 5 _ HR3.out (by simp)).mono ?_
  rw [show ofQ [(2, 256), (5, 9)] 5 = 9 by decide]
  rintro e w4 ⟨rfl, hb4⟩
  have hB4 := Below.step hB3 hb4
  have HR4 : Hid (RowAt w4 v1 2 2 (pairs [(2, 256), (5, 9)])) := RowAt.below HR3.out hb4
  clear hb4 hcv
  go_wp2_with fail
  refine (of_any _ [(2, 256), (5, 9)] 3 _ HR4.out (by simp)).mono ?_
  rw [show ofQ [(2, 256), (5, 9)] 3 = -1 by decide]
  rintro e w5 ⟨rfl, hb5⟩
  have hB5 := Below.step hB4 hb5
  have HR5 : Hid (RowAt w5 v1 2 2 (pairs [(2, 256), (5, 9)])) := RowAt.below HR4.out hb5
  clear hb5
  go_wp2_with fail
  refine (may_any _ [(2, 256), (5, 9)] 5 8 1 _ HR5.out (by simp) (by omega) (by omega) (by omega) (by omega)).mono ?_
  rw [show mayQ [(2, 256), (5, 9)] 5 8 1 = 0 by decide]
  rintro e w6 ⟨rfl, hb6⟩
  have hB6 := Below.step hB5 hb6
  have HR6 : Hid (RowAt w6 v1 2 2 (pairs [(2, 256), (5, 9)])) := RowAt.below HR5.out hb6
  clear hb6
  go_wp2_with fail
  refine (may_any _ [(2, 256), (5, 9)] 5 8 2 _ HR6.out (by simp) (by omega) (by omega) (by omega) (by omega)).mono ?_
  rw [show mayQ [(2, 256), (5, 9)] 5 8 2 = 16 by decide]
  rintro e w7 ⟨rfl, hb7⟩
  have hB7 := Below.step hB6 hb7
  go_wp2
  go_ret
  exact ⟨rfl, hB7⟩

end Go.Proofs.Ytneknlbmiofmlaa
