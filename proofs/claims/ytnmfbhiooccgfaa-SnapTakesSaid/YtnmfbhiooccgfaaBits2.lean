/- The loops of package bits: Count, Join, Less. -/
import Derived.Test.YtnmfbhiooccgfaaBits
import Derived.Test.YtnmfbhiooccgfaaLaws
import Derived.LoopTactic
namespace Go.Proofs.Ytnmfbhiooccgfaa
open Go.RowKit

theorem byteT : Try.prog.underlying 5 = some (.int .u8) := by kernel_rfl
theorem byteI : (Try.prog.info? 5).map (·.size) = some 1 := by kernel_rfl

set_option maxRecDepth 100000 in
set_option maxHeartbeats 400000 in
theorem count_raw (s : Nat → Bool) (A : Array Value) (HA : Hid (A = enc s)) (w : World) :
    Calls Try.prog 15 #[.agg A] w fun e w' => e = .returned (.int .i64 (cntTo s 256)) ∧ Below w.heap.size w w' := by
  have HS : Hid (A.size = 32) := by rw [HA.out]; exact enc_size s
  go_enter Try.func15, Try.ntmps15
  go_wp2_with (first
      | (refine wpList_load_row rfl 23 (.tmp 1) rfl w.heap.size rfl 23 A (0, 0) _ (heap_alloc_new w _) setT rfl (by rw [HS.out]; exact setI) ?_))
  go_loop [3, 7] (fun n i => ∃ k : Nat, k ≤ 32 ∧ i = .int .i64 k ∧ n = .int .i64 (cntTo s (8 * k))) (fun _ i => 32 - (intOf i).toNat)
  case atStart => exact ⟨0, Nat.zero_le _, rfl, rfl⟩
  case round =>
    obtain ⟨k, hk, rfl, rfl⟩ := hrel
    have hl := cntTo_le s (8 * k)
    by_cases hlt : k < 32
    · have hI := run_index_arr (P := Try.prog) 23 5 32 .u8 A .i64 (k : Int) setT byteT byteI (by omega) (by omega) (.int .u8 (byteAt s k)) (by rw [HA.out]; exact enc_get s k hlt)
      have hb := byteAt_lt s k
      have hp := pop8_byteAt s k
      have hl2 := cntTo_le s (8 * k + 8)
      have HP := Lib.hid hp
      have hq : pop8 (byteAt s k) ≤ 300 := by omega
      clear hp
      go_wp2_with (go_at_call 32; refine (ones8_any _ _ (by omega) (by omega)).mono ?_; rintro e w' ⟨rfl, rfl⟩)
      go_round
      case rel => exact ⟨k + 1, by omega, by go_num, by rw [show 8 * (k + 1) = 8 * k + 8 by omega, HP.out]; go_num⟩
      case measure => simp [intOf]; omega
    · obtain rfl : k = 32 := by omega
      go_wp2
      go_ret
      exact ⟨rfl, (Below.refl _ _).alloc (Nat.le_refl _) _⟩

theorem count_any (s : Nat → Bool) (w : World) :
    Calls Try.prog 15 #[.agg (enc s)] w fun e w' => e = .returned (.int .i64 (cntTo s 256)) ∧ Below w.heap.size w w' := count_raw s _ rfl w
theorem heap_alloc_at (w : World) (o : Obj) (i : Nat) (h : i = w.heap.size) : (w.alloc o).heap[i]? = some o := by rw [h]; exact heap_alloc_new w o

set_option maxRecDepth 100000 in
set_option maxHeartbeats 1000000 in
theorem join_raw (s t : Nat → Bool) (A T R : Array Value) (HA : Hid (A = enc s)) (HT : Hid (T = enc t)) (HR : Hid (enc (join s t) = R)) (w : World) :
    Calls Try.prog 20 #[.agg A, .agg T] w fun e w' => e = .returned (.agg R) ∧ Below w.heap.size w w' := by
  go_enter Try.func20, Try.ntmps20
  go_wp2
  go_loopw [6] (fun i wr => ∃ k : Nat, k ≤ 32 ∧ i = .int .i64 k ∧ Below w.heap.size w wr ∧ Hid (wr.heap[w.heap.size]? = some (.cells (enc (mixTo s (join s t) k)) 23 (0, 0))) ∧ Hid (wr.heap[w.heap.size + 1]? = some (.cells (enc t) 23 (0, 0)))
      ∧ Hid (∃ Z, wr.heap[w.heap.size + 2]? = some (.cells Z 23 (0, 0)) ∧ Z.size = 32)) (fun i _ => 32 - (intOf i).toNat)
  case atStart =>
    refine ⟨0, by omega, rfl, (((Below.refl _ _).alloc (Nat.le_refl _) _).alloc (by simp) _).alloc (by simp; omega) _, ?_, ?_, ⟨_, heap_alloc_at _ _ _ (by simp), rfl⟩⟩
    · rw [enc_mix0, ← HA.out]
      exact (Below.heap_alloc _ _ _ (by simp; omega)).trans ((Below.heap_alloc _ _ _ (by simp)).trans (heap_alloc_new _ _))
    · rw [← HT.out]
      exact (Below.heap_alloc _ _ _ (by simp)).trans (heap_alloc_at _ _ _ (by simp))
  case round =>
    obtain ⟨k, hk, rfl, HB, H0, H1, H2⟩ := hrel
    by_cases hlt : k < 32
    · have c0 : wr.cell? ⟨w.heap.size, k, none⟩ = some (.int .u8 (byteAt s k)) := by rw [cell_of_row _ _ k _ _ _ H0.out, enc_get _ _ hlt, byteAt_mix]
      have c1 : wr.cell? ⟨w.heap.size + 1, k, none⟩ = some (.int .u8 (byteAt t k)) := by rw [cell_of_row _ _ k _ _ _ H1.out, enc_get _ _ hlt]
      have f0 : wr.frozen? ⟨w.heap.size, k, none⟩ = false := frozen_of_row _ _ k _ _ H0.out
      go_wp2
      go_region
      all_goals
        go_wp2
        go_roundw
        case rel =>
          refine ⟨k + 1, by omega, by go_num, (HB.setCell (Nat.le_refl _) _).drew, ?_, (heap_setCell_other _ _ _ _ (by simp)).trans H1.out, ?_⟩
          · rw [byteAt_join]
            exact (heap_setCell_same _ _ _ _ _ _ H0.out).trans (by rw [enc_mix s (join s t) k hlt])
          · obtain ⟨Z, h1, h2⟩ := H2.out
            exact ⟨Z, (heap_setCell_other _ _ _ _ (by simp)).trans h1, h2⟩
        case measure => simp [intOf]; omega
    · obtain rfl : k = 32 := by omega
      obtain ⟨Z, h1, h2⟩ := H2.out
      have G1 := Lib.hid h1
      have G2 := Lib.hid h2
      have G0 : Hid (wr.heap[w.heap.size]? = some (.cells R 23 (0, 0))) := by have := H0.out; rw [enc_mix32, HR.out] at this; exact this
      have HS : Hid (R.size = 32) := by rw [← HR.out]; exact enc_size _
      have HO : Hid (R.all (·.oneCell') = true) := by rw [← HR.out]; exact enc_one _
      clear h1 h2 H0 H2
      go_wp2_with (first
        | (refine wpList_load_row rfl 23 (.tmp 2) rfl w.heap.size rfl 23 R (0, 0) _ G0.out setT rfl (by rw [HS.out]; exact setI) ?_)
        | (refine wpList_store_row rfl 23 (.tmp 4) (.tmp 18) rfl (w.heap.size + 2) R rfl rfl 23 Z G1.out (by rw [HS.out]; exact setI) (by rw [HS.out, G2.out]) HO.out ?_))
      refine bodyPost_ret (results_cell_row rfl _ _ (w.heap.size + 2) 23 R (0, 0) _ rfl (setRow_heap _ _ _ _ _ _ G1.out) setT rfl (by rw [HS.out]; exact setI)) rfl ⟨rfl, ?_⟩
      exact Below.setRow HB (by omega) _
theorem join_any (s t : Nat → Bool) (w : World) :
    Calls Try.prog 20 #[.agg (enc s), .agg (enc t)] w fun e w' => e = .returned (.agg (enc (join s t))) ∧ Below w.heap.size w w' := join_raw s t _ _ _ rfl rfl rfl w

set_option maxRecDepth 100000 in
set_option maxHeartbeats 1000000 in
theorem less_raw (s t : Nat → Bool) (A T R : Array Value) (HA : Hid (A = enc s)) (HT : Hid (T = enc t)) (HR : Hid (enc (less s t) = R)) (w : World) :
    Calls Try.prog 19 #[.agg A, .agg T] w fun e w' => e = .returned (.agg R) ∧ Below w.heap.size w w' := by
  go_enter Try.func19, Try.ntmps19
  go_wp2
  go_loopw [6] (fun i wr => ∃ k : Nat, k ≤ 32 ∧ i = .int .i64 k ∧ Below w.heap.size w wr ∧ Hid (wr.heap[w.heap.size]? = some (.cells (enc (mixTo s (less s t) k)) 23 (0, 0))) ∧ Hid (wr.heap[w.heap.size + 1]? = some (.cells (enc t) 23 (0, 0)))
      ∧ Hid (∃ Z, wr.heap[w.heap.size + 2]? = some (.cells Z 23 (0, 0)) ∧ Z.size = 32)) (fun i _ => 32 - (intOf i).toNat)
  case atStart =>
    refine ⟨0, by omega, rfl, (((Below.refl _ _).alloc (Nat.le_refl _) _).alloc (by simp) _).alloc (by simp; omega) _, ?_, ?_, ⟨_, heap_alloc_at _ _ _ (by simp), rfl⟩⟩
    · rw [enc_mix0, ← HA.out]
      exact (Below.heap_alloc _ _ _ (by simp; omega)).trans ((Below.heap_alloc _ _ _ (by simp)).trans (heap_alloc_new _ _))
    · rw [← HT.out]
      exact (Below.heap_alloc _ _ _ (by simp)).trans (heap_alloc_at _ _ _ (by simp))
  case round =>
    obtain ⟨k, hk, rfl, HB, H0, H1, H2⟩ := hrel
    by_cases hlt : k < 32
    · have c0 : wr.cell? ⟨w.heap.size, k, none⟩ = some (.int .u8 (byteAt s k)) := by rw [cell_of_row _ _ k _ _ _ H0.out, enc_get _ _ hlt, byteAt_mix]
      have c1 : wr.cell? ⟨w.heap.size + 1, k, none⟩ = some (.int .u8 (byteAt t k)) := by rw [cell_of_row _ _ k _ _ _ H1.out, enc_get _ _ hlt]
      have f0 : wr.frozen? ⟨w.heap.size, k, none⟩ = false := frozen_of_row _ _ k _ _ H0.out
      go_wp2
      go_region
      all_goals
        go_wp2
        go_roundw
        case rel =>
          refine ⟨k + 1, by omega, by go_num, (HB.setCell (Nat.le_refl _) _).drew, ?_, (heap_setCell_other _ _ _ _ (by simp)).trans H1.out, ?_⟩
          · rw [byteAt_less]
            exact (heap_setCell_same _ _ _ _ _ _ H0.out).trans (by rw [enc_mix s (less s t) k hlt])
          · obtain ⟨Z, h1, h2⟩ := H2.out
            exact ⟨Z, (heap_setCell_other _ _ _ _ (by simp)).trans h1, h2⟩
        case measure => simp [intOf]; omega
    · obtain rfl : k = 32 := by omega
      obtain ⟨Z, h1, h2⟩ := H2.out
      have G1 := Lib.hid h1
      have G2 := Lib.hid h2
      have G0 : Hid (wr.heap[w.heap.size]? = some (.cells R 23 (0, 0))) := by have := H0.out; rw [enc_mix32, HR.out] at this; exact this
      have HS : Hid (R.size = 32) := by rw [← HR.out]; exact enc_size _
      have HO : Hid (R.all (·.oneCell') = true) := by rw [← HR.out]; exact enc_one _
      clear h1 h2 H0 H2
      go_wp2_with (first
        | (refine wpList_load_row rfl 23 (.tmp 2) rfl w.heap.size rfl 23 R (0, 0) _ G0.out setT rfl (by rw [HS.out]; exact setI) ?_)
        | (refine wpList_store_row rfl 23 (.tmp 4) (.tmp 18) rfl (w.heap.size + 2) R rfl rfl 23 Z G1.out (by rw [HS.out]; exact setI) (by rw [HS.out, G2.out]) HO.out ?_))
      refine bodyPost_ret (results_cell_row rfl _ _ (w.heap.size + 2) 23 R (0, 0) _ rfl (setRow_heap _ _ _ _ _ _ G1.out) setT rfl (by rw [HS.out]; exact setI)) rfl ⟨rfl, ?_⟩
      exact Below.setRow HB (by omega) _
theorem less_any (s t : Nat → Bool) (w : World) :
    Calls Try.prog 19 #[.agg (enc s), .agg (enc t)] w fun e w' => e = .returned (.agg (enc (less s t))) ∧ Below w.heap.size w w' := less_raw s t _ _ _ rfl rfl rfl w

end Go.Proofs.Ytnmfbhiooccgfaa
