/- How many sectors of a disk are free. -/
import Derived.Test.YtnmfbhiooccgfaaSnap2
namespace Go.Proofs.Ytnmfbhiooccgfaa
open Go.RowKit

theorem freeTo_le (s : Nat → Bool) : ∀ k, freeTo s k ≤ k
  | 0 => Nat.le_refl _
  | k + 1 => by
    have := freeTo_le s k
    unfold freeTo
    split <;> omega

set_option maxRecDepth 100000 in
set_option maxHeartbeats 2000000 in
theorem free_neg (f : Fo) (A : Array Value) (HA : Hid (A = encF f)) (z : Int) (hz0 : z < 0) (w : World) :
    Calls Try.prog 22 #[.agg A, .int .i64 z] w fun e w' => e = .returned (.int .i64 (freeTo (takenS f 4) 0 : Int)) ∧ Below w.heap.size w w' := by
  have HAS : Hid (A.size = 192) := by rw [HA.out]; exact encF_size f
  obtain ⟨Z0, HZ0⟩ : ∃ Z, Hid (Z = enc emp) := ⟨_, rfl⟩
  have hz : ∀ w, (zeroValue 23).run Try.prog w = .ok (.agg Z0) w := by rw [HZ0.out]; exact setZ
  have HZ := Lib.hid hz
  have HZS : Hid (Z0.size = 32) := by rw [HZ0.out]; exact enc_size _
  clear hz
  obtain ⟨T, HT⟩ : ∃ T, Hid (T = enc (takenS f 4)) := ⟨_, rfl⟩
  have HTS : Hid (T.size = 32) := by rw [HT.out]; exact enc_size _
  have HT1 : Hid (T.all (·.oneCell') = true) := by rw [HT.out]; exact enc_one _
  have HTC : Hid (∀ W : World, Calls Try.prog 26 #[.agg A] W fun e w' => e = .returned (.agg T) ∧ Below W.heap.size W w') := fun W => by rw [HA.out, HT.out]; exact taken_any f W
  have hz1 : z ≤ 256 := by omega
  go_enter Try.func22, Try.ntmps22
  go_wp2_with (refine wpList_load_row rfl 42 (.tmp 2) rfl w.heap.size rfl 42 A (0, 0) _ (heap_alloc_new w _) forT rfl (by rw [HAS.out]; exact forI) ?_)
  refine (HTC.out _).mono ?_
  rintro e w1 ⟨rfl, hb1⟩
  have hB1 : Below w.heap.size w w1 := Below.step ((Below.refl _ _).alloc (Nat.le_refl _) _) hb1
  clear hb1
  go_wp2_with (first
    | (refine wpList_alloc_row rfl 23 rfl Z0 HZ.out ?_)
    | (refine wpList_store_row rfl 23 (.tmp 6) (.tmp 9) rfl w1.heap.size T rfl rfl 23 Z0 (heap_alloc_new w1 _) (by rw [HTS.out]; exact setI) (by rw [HTS.out, HZS.out]) HT1.out ?_))
  have HW : Hid (((w1.alloc (.cells Z0 23)).setRow w1.heap.size T).heap[w1.heap.size]? = some (.cells T 23 (0, 0))) := setRow_heap _ _ _ _ _ _ (heap_alloc_new w1 _)
  have hBW : Below w.heap.size w ((w1.alloc (.cells Z0 23)).setRow w1.heap.size T) := Below.setRow (hB1.alloc hB1.size _) hB1.size _
  generalize (w1.alloc (.cells Z0 23)).setRow w1.heap.size T = w2 at *
  generalize w1.heap.size = G at *
  go_loopw [5, 13] (fun c i wr => ∃ k : Nat, k ≤ 0 ∧ i = .int .i64 k ∧ ∃ x : Nat, x ≤ k ∧ c = .int .i64 x ∧ Hid (x = freeTo (takenS f 4) k) ∧ Hid (wr.heap[G]? = some (.cells T 23 (0, 0))) ∧ Below w.heap.size w wr) (fun _ i _ => 0 - (intOf i).toNat)
  case atStart => exact ⟨0, Nat.zero_le _, rfl, 0, Nat.zero_le _, rfl, rfl, HW, hBW⟩
  case round =>
    obtain ⟨k, hk, rfl, x, hxk, rfl, HX, HG, HB⟩ := hrel
    by_cases hlt : k < 0
    · have hlt2 : (k : Int) < 0 := by omega
      have HHAS : Hid (∀ W : World, Calls Try.prog 16 #[.agg T, .int .i64 (k : Int)] W fun e w' => e = .returned (.bool (takenS f 4 k)) ∧ Below W.heap.size W w') := fun W => by
        have := has_in (takenS f 4) (k : Int) W (by omega) (by omega)
        rw [Int.toNat_natCast] at this
        rw [HT.out]; exact this
      have HNX : Hid (freeTo (takenS f 4) (k + 1) = x + (if takenS f 4 k = true then 0 else 1)) := by show freeTo (takenS f 4) k + _ = _; rw [← HX.out]
      go_wp2_with (refine wpList_load_row rfl 23 (.tmp 6) rfl G rfl 23 T (0, 0) _ HG.out setT rfl (by rw [HTS.out]; exact setI) ?_)
      refine (HHAS.out _).mono ?_
      cases hh : takenS f 4 k with
      | true =>
        rintro e w3 ⟨rfl, hb3⟩
        have HG3 := Lib.hid (heap_below hb3 HG.out)
        have hB3 := Below.step HB hb3
        have HX3 : Hid (x = freeTo (takenS f 4) (k + 1)) := by rw [HNX.out, hh, if_pos rfl]; exact rfl
        clear hh hb3
        go_wp2
        go_roundw
        case rel => exact ⟨k + 1, by omega, by go_num, x, by omega, rfl, HX3, HG3, hB3⟩
        case measure => simp [intOf]; omega
      | false =>
        rintro e w3 ⟨rfl, hb3⟩
        have HG3 := Lib.hid (heap_below hb3 HG.out)
        have hB3 := Below.step HB hb3
        have HX3 : Hid (x + 1 = freeTo (takenS f 4) (k + 1)) := by rw [HNX.out, hh, if_neg (by simp)]; exact rfl
        clear hh hb3
        go_wp2
        go_roundw
        case rel => exact ⟨k + 1, by omega, by go_num, x + 1, by omega, by go_num, HX3, HG3, hB3⟩
        case measure => simp [intOf]; omega
    · have HE : Hid (x = freeTo (takenS f 4) 0) := by rw [show 0 = k by omega]; exact HX.out
      have hlt2 : ¬ (k : Int) < 0 := by omega
      go_wp2
      go_ret
      rw [← HE.out]
      exact ⟨rfl, HB⟩

set_option maxRecDepth 100000 in
set_option maxHeartbeats 2000000 in
theorem free_mid (f : Fo) (A : Array Value) (HA : Hid (A = encF f)) (m : Nat) (hm : m < 256) (hmz : 0 < m) (w : World) :
    Calls Try.prog 22 #[.agg A, .int .i64 (m : Int)] w fun e w' => e = .returned (.int .i64 (freeTo (takenS f 4) m : Int)) ∧ Below w.heap.size w w' := by
  have HAS : Hid (A.size = 192) := by rw [HA.out]; exact encF_size f
  obtain ⟨Z0, HZ0⟩ : ∃ Z, Hid (Z = enc emp) := ⟨_, rfl⟩
  have hz : ∀ w, (zeroValue 23).run Try.prog w = .ok (.agg Z0) w := by rw [HZ0.out]; exact setZ
  have HZ := Lib.hid hz
  have HZS : Hid (Z0.size = 32) := by rw [HZ0.out]; exact enc_size _
  clear hz
  obtain ⟨T, HT⟩ : ∃ T, Hid (T = enc (takenS f 4)) := ⟨_, rfl⟩
  have HTS : Hid (T.size = 32) := by rw [HT.out]; exact enc_size _
  have HT1 : Hid (T.all (·.oneCell') = true) := by rw [HT.out]; exact enc_one _
  have HTC : Hid (∀ W : World, Calls Try.prog 26 #[.agg A] W fun e w' => e = .returned (.agg T) ∧ Below W.heap.size W w') := fun W => by rw [HA.out, HT.out]; exact taken_any f W
  have hm1 : (m : Int) ≤ 256 := by omega
  have hm2 : (m : Int) < 256 := by omega
  have hm0 : (0 : Int) ≤ (m : Int) := by omega
  have hm3 : (0 : Int) < (m : Int) := by omega
  go_enter Try.func22, Try.ntmps22
  go_wp2_with (refine wpList_load_row rfl 42 (.tmp 2) rfl w.heap.size rfl 42 A (0, 0) _ (heap_alloc_new w _) forT rfl (by rw [HAS.out]; exact forI) ?_)
  refine (HTC.out _).mono ?_
  rintro e w1 ⟨rfl, hb1⟩
  have hB1 : Below w.heap.size w w1 := Below.step ((Below.refl _ _).alloc (Nat.le_refl _) _) hb1
  clear hb1
  go_wp2_with (first
    | (refine wpList_alloc_row rfl 23 rfl Z0 HZ.out ?_)
    | (refine wpList_store_row rfl 23 (.tmp 6) (.tmp 9) rfl w1.heap.size T rfl rfl 23 Z0 (heap_alloc_new w1 _) (by rw [HTS.out]; exact setI) (by rw [HTS.out, HZS.out]) HT1.out ?_))
  have HW : Hid (((w1.alloc (.cells Z0 23)).setRow w1.heap.size T).heap[w1.heap.size]? = some (.cells T 23 (0, 0))) := setRow_heap _ _ _ _ _ _ (heap_alloc_new w1 _)
  have hBW : Below w.heap.size w ((w1.alloc (.cells Z0 23)).setRow w1.heap.size T) := Below.setRow (hB1.alloc hB1.size _) hB1.size _
  generalize (w1.alloc (.cells Z0 23)).setRow w1.heap.size T = w2 at *
  generalize w1.heap.size = G at *
  go_loopw [5, 13] (fun c i wr => ∃ k : Nat, k ≤ m ∧ i = .int .i64 k ∧ ∃ x : Nat, x ≤ k ∧ c = .int .i64 x ∧ Hid (x = freeTo (takenS f 4) k) ∧ Hid (wr.heap[G]? = some (.cells T 23 (0, 0))) ∧ Below w.heap.size w wr) (fun _ i _ => m - (intOf i).toNat)
  case atStart => exact ⟨0, Nat.zero_le _, rfl, 0, Nat.zero_le _, rfl, rfl, HW, hBW⟩
  case round =>
    obtain ⟨k, hk, rfl, x, hxk, rfl, HX, HG, HB⟩ := hrel
    by_cases hlt : k < m
    · have hlt2 : (k : Int) < (m : Int) := by omega
      have HHAS : Hid (∀ W : World, Calls Try.prog 16 #[.agg T, .int .i64 (k : Int)] W fun e w' => e = .returned (.bool (takenS f 4 k)) ∧ Below W.heap.size W w') := fun W => by
        have := has_in (takenS f 4) (k : Int) W (by omega) (by omega)
        rw [Int.toNat_natCast] at this
        rw [HT.out]; exact this
      have HNX : Hid (freeTo (takenS f 4) (k + 1) = x + (if takenS f 4 k = true then 0 else 1)) := by show freeTo (takenS f 4) k + _ = _; rw [← HX.out]
      go_wp2_with (refine wpList_load_row rfl 23 (.tmp 6) rfl G rfl 23 T (0, 0) _ HG.out setT rfl (by rw [HTS.out]; exact setI) ?_)
      refine (HHAS.out _).mono ?_
      cases hh : takenS f 4 k with
      | true =>
        rintro e w3 ⟨rfl, hb3⟩
        have HG3 := Lib.hid (heap_below hb3 HG.out)
        have hB3 := Below.step HB hb3
        have HX3 : Hid (x = freeTo (takenS f 4) (k + 1)) := by rw [HNX.out, hh, if_pos rfl]; exact rfl
        clear hh hb3
        go_wp2
        go_roundw
        case rel => exact ⟨k + 1, by omega, by go_num, x, by omega, rfl, HX3, HG3, hB3⟩
        case measure => simp [intOf]; omega
      | false =>
        rintro e w3 ⟨rfl, hb3⟩
        have HG3 := Lib.hid (heap_below hb3 HG.out)
        have hB3 := Below.step HB hb3
        have HX3 : Hid (x + 1 = freeTo (takenS f 4) (k + 1)) := by rw [HNX.out, hh, if_neg (by simp)]; exact rfl
        clear hh hb3
        go_wp2
        go_roundw
        case rel => exact ⟨k + 1, by omega, by go_num, x + 1, by omega, by go_num, HX3, HG3, hB3⟩
        case measure => simp [intOf]; omega
    · have HE : Hid (x = freeTo (takenS f 4) m) := by rw [show m = k by omega]; exact HX.out
      have hlt2 : ¬ (k : Int) < (m : Int) := by omega
      go_wp2
      go_ret
      rw [← HE.out]
      exact ⟨rfl, HB⟩

set_option maxRecDepth 100000 in
set_option maxHeartbeats 2000000 in
theorem free_zero (f : Fo) (A : Array Value) (HA : Hid (A = encF f))  (w : World) :
    Calls Try.prog 22 #[.agg A, .int .i64 0] w fun e w' => e = .returned (.int .i64 (freeTo (takenS f 4) 0 : Int)) ∧ Below w.heap.size w w' := by
  have HAS : Hid (A.size = 192) := by rw [HA.out]; exact encF_size f
  obtain ⟨Z0, HZ0⟩ : ∃ Z, Hid (Z = enc emp) := ⟨_, rfl⟩
  have hz : ∀ w, (zeroValue 23).run Try.prog w = .ok (.agg Z0) w := by rw [HZ0.out]; exact setZ
  have HZ := Lib.hid hz
  have HZS : Hid (Z0.size = 32) := by rw [HZ0.out]; exact enc_size _
  clear hz
  obtain ⟨T, HT⟩ : ∃ T, Hid (T = enc (takenS f 4)) := ⟨_, rfl⟩
  have HTS : Hid (T.size = 32) := by rw [HT.out]; exact enc_size _
  have HT1 : Hid (T.all (·.oneCell') = true) := by rw [HT.out]; exact enc_one _
  have HTC : Hid (∀ W : World, Calls Try.prog 26 #[.agg A] W fun e w' => e = .returned (.agg T) ∧ Below W.heap.size W w') := fun W => by rw [HA.out, HT.out]; exact taken_any f W
  go_enter Try.func22, Try.ntmps22
  go_wp2_with (refine wpList_load_row rfl 42 (.tmp 2) rfl w.heap.size rfl 42 A (0, 0) _ (heap_alloc_new w _) forT rfl (by rw [HAS.out]; exact forI) ?_)
  refine (HTC.out _).mono ?_
  rintro e w1 ⟨rfl, hb1⟩
  have hB1 : Below w.heap.size w w1 := Below.step ((Below.refl _ _).alloc (Nat.le_refl _) _) hb1
  clear hb1
  go_wp2_with (first
    | (refine wpList_alloc_row rfl 23 rfl Z0 HZ.out ?_)
    | (refine wpList_store_row rfl 23 (.tmp 6) (.tmp 9) rfl w1.heap.size T rfl rfl 23 Z0 (heap_alloc_new w1 _) (by rw [HTS.out]; exact setI) (by rw [HTS.out, HZS.out]) HT1.out ?_))
  have HW : Hid (((w1.alloc (.cells Z0 23)).setRow w1.heap.size T).heap[w1.heap.size]? = some (.cells T 23 (0, 0))) := setRow_heap _ _ _ _ _ _ (heap_alloc_new w1 _)
  have hBW : Below w.heap.size w ((w1.alloc (.cells Z0 23)).setRow w1.heap.size T) := Below.setRow (hB1.alloc hB1.size _) hB1.size _
  generalize (w1.alloc (.cells Z0 23)).setRow w1.heap.size T = w2 at *
  generalize w1.heap.size = G at *
  go_loopw [5, 13] (fun c i wr => ∃ k : Nat, k ≤ 0 ∧ i = .int .i64 k ∧ ∃ x : Nat, x ≤ k ∧ c = .int .i64 x ∧ Hid (x = freeTo (takenS f 4) k) ∧ Hid (wr.heap[G]? = some (.cells T 23 (0, 0))) ∧ Below w.heap.size w wr) (fun _ i _ => 0 - (intOf i).toNat)
  case atStart => exact ⟨0, Nat.zero_le _, rfl, 0, Nat.zero_le _, rfl, rfl, HW, hBW⟩
  case round =>
    obtain ⟨k, hk, rfl, x, hxk, rfl, HX, HG, HB⟩ := hrel
    by_cases hlt : k < 0
    · have hlt2 : (k : Int) < 0 := by omega
      have HHAS : Hid (∀ W : World, Calls Try.prog 16 #[.agg T, .int .i64 (k : Int)] W fun e w' => e = .returned (.bool (takenS f 4 k)) ∧ Below W.heap.size W w') := fun W => by
        have := has_in (takenS f 4) (k : Int) W (by omega) (by omega)
        rw [Int.toNat_natCast] at this
        rw [HT.out]; exact this
      have HNX : Hid (freeTo (takenS f 4) (k + 1) = x + (if takenS f 4 k = true then 0 else 1)) := by show freeTo (takenS f 4) k + _ = _; rw [← HX.out]
      go_wp2_with (refine wpList_load_row rfl 23 (.tmp 6) rfl G rfl 23 T (0, 0) _ HG.out setT rfl (by rw [HTS.out]; exact setI) ?_)
      refine (HHAS.out _).mono ?_
      cases hh : takenS f 4 k with
      | true =>
        rintro e w3 ⟨rfl, hb3⟩
        have HG3 := Lib.hid (heap_below hb3 HG.out)
        have hB3 := Below.step HB hb3
        have HX3 : Hid (x = freeTo (takenS f 4) (k + 1)) := by rw [HNX.out, hh, if_pos rfl]; exact rfl
        clear hh hb3
        go_wp2
        go_roundw
        case rel => exact ⟨k + 1, by omega, by go_num, x, by omega, rfl, HX3, HG3, hB3⟩
        case measure => simp [intOf]; omega
      | false =>
        rintro e w3 ⟨rfl, hb3⟩
        have HG3 := Lib.hid (heap_below hb3 HG.out)
        have hB3 := Below.step HB hb3
        have HX3 : Hid (x + 1 = freeTo (takenS f 4) (k + 1)) := by rw [HNX.out, hh, if_neg (by simp)]; exact rfl
        clear hh hb3
        go_wp2
        go_roundw
        case rel => exact ⟨k + 1, by omega, by go_num, x + 1, by omega, by go_num, HX3, HG3, hB3⟩
        case measure => simp [intOf]; omega
    · have HE : Hid (x = freeTo (takenS f 4) 0) := by rw [show 0 = k by omega]; exact HX.out
      have hlt2 : ¬ (k : Int) < 0 := by omega
      go_wp2
      go_ret
      rw [← HE.out]
      exact ⟨rfl, HB⟩

set_option maxRecDepth 100000 in
set_option maxHeartbeats 2000000 in
theorem free_256 (f : Fo) (A : Array Value) (HA : Hid (A = encF f))  (w : World) :
    Calls Try.prog 22 #[.agg A, .int .i64 256] w fun e w' => e = .returned (.int .i64 (freeTo (takenS f 4) 256 : Int)) ∧ Below w.heap.size w w' := by
  have HAS : Hid (A.size = 192) := by rw [HA.out]; exact encF_size f
  obtain ⟨Z0, HZ0⟩ : ∃ Z, Hid (Z = enc emp) := ⟨_, rfl⟩
  have hz : ∀ w, (zeroValue 23).run Try.prog w = .ok (.agg Z0) w := by rw [HZ0.out]; exact setZ
  have HZ := Lib.hid hz
  have HZS : Hid (Z0.size = 32) := by rw [HZ0.out]; exact enc_size _
  clear hz
  obtain ⟨T, HT⟩ : ∃ T, Hid (T = enc (takenS f 4)) := ⟨_, rfl⟩
  have HTS : Hid (T.size = 32) := by rw [HT.out]; exact enc_size _
  have HT1 : Hid (T.all (·.oneCell') = true) := by rw [HT.out]; exact enc_one _
  have HTC : Hid (∀ W : World, Calls Try.prog 26 #[.agg A] W fun e w' => e = .returned (.agg T) ∧ Below W.heap.size W w') := fun W => by rw [HA.out, HT.out]; exact taken_any f W
  go_enter Try.func22, Try.ntmps22
  go_wp2_with (refine wpList_load_row rfl 42 (.tmp 2) rfl w.heap.size rfl 42 A (0, 0) _ (heap_alloc_new w _) forT rfl (by rw [HAS.out]; exact forI) ?_)
  refine (HTC.out _).mono ?_
  rintro e w1 ⟨rfl, hb1⟩
  have hB1 : Below w.heap.size w w1 := Below.step ((Below.refl _ _).alloc (Nat.le_refl _) _) hb1
  clear hb1
  go_wp2_with (first
    | (refine wpList_alloc_row rfl 23 rfl Z0 HZ.out ?_)
    | (refine wpList_store_row rfl 23 (.tmp 6) (.tmp 9) rfl w1.heap.size T rfl rfl 23 Z0 (heap_alloc_new w1 _) (by rw [HTS.out]; exact setI) (by rw [HTS.out, HZS.out]) HT1.out ?_))
  have HW : Hid (((w1.alloc (.cells Z0 23)).setRow w1.heap.size T).heap[w1.heap.size]? = some (.cells T 23 (0, 0))) := setRow_heap _ _ _ _ _ _ (heap_alloc_new w1 _)
  have hBW : Below w.heap.size w ((w1.alloc (.cells Z0 23)).setRow w1.heap.size T) := Below.setRow (hB1.alloc hB1.size _) hB1.size _
  generalize (w1.alloc (.cells Z0 23)).setRow w1.heap.size T = w2 at *
  generalize w1.heap.size = G at *
  go_loopw [5, 13] (fun c i wr => ∃ k : Nat, k ≤ 256 ∧ i = .int .i64 k ∧ ∃ x : Nat, x ≤ k ∧ c = .int .i64 x ∧ Hid (x = freeTo (takenS f 4) k) ∧ Hid (wr.heap[G]? = some (.cells T 23 (0, 0))) ∧ Below w.heap.size w wr) (fun _ i _ => 256 - (intOf i).toNat)
  case atStart => exact ⟨0, Nat.zero_le _, rfl, 0, Nat.zero_le _, rfl, rfl, HW, hBW⟩
  case round =>
    obtain ⟨k, hk, rfl, x, hxk, rfl, HX, HG, HB⟩ := hrel
    by_cases hlt : k < 256
    · have hlt2 : (k : Int) < 256 := by omega
      have HHAS : Hid (∀ W : World, Calls Try.prog 16 #[.agg T, .int .i64 (k : Int)] W fun e w' => e = .returned (.bool (takenS f 4 k)) ∧ Below W.heap.size W w') := fun W => by
        have := has_in (takenS f 4) (k : Int) W (by omega) (by omega)
        rw [Int.toNat_natCast] at this
        rw [HT.out]; exact this
      have HNX : Hid (freeTo (takenS f 4) (k + 1) = x + (if takenS f 4 k = true then 0 else 1)) := by show freeTo (takenS f 4) k + _ = _; rw [← HX.out]
      go_wp2_with (refine wpList_load_row rfl 23 (.tmp 6) rfl G rfl 23 T (0, 0) _ HG.out setT rfl (by rw [HTS.out]; exact setI) ?_)
      refine (HHAS.out _).mono ?_
      cases hh : takenS f 4 k with
      | true =>
        rintro e w3 ⟨rfl, hb3⟩
        have HG3 := Lib.hid (heap_below hb3 HG.out)
        have hB3 := Below.step HB hb3
        have HX3 : Hid (x = freeTo (takenS f 4) (k + 1)) := by rw [HNX.out, hh, if_pos rfl]; exact rfl
        clear hh hb3
        go_wp2
        go_roundw
        case rel => exact ⟨k + 1, by omega, by go_num, x, by omega, rfl, HX3, HG3, hB3⟩
        case measure => simp [intOf]; omega
      | false =>
        rintro e w3 ⟨rfl, hb3⟩
        have HG3 := Lib.hid (heap_below hb3 HG.out)
        have hB3 := Below.step HB hb3
        have HX3 : Hid (x + 1 = freeTo (takenS f 4) (k + 1)) := by rw [HNX.out, hh, if_neg (by simp)]; exact rfl
        clear hh hb3
        go_wp2
        go_roundw
        case rel => exact ⟨k + 1, by omega, by go_num, x + 1, by omega, by go_num, HX3, HG3, hB3⟩
        case measure => simp [intOf]; omega
    · have HE : Hid (x = freeTo (takenS f 4) 256) := by rw [show 256 = k by omega]; exact HX.out
      have hlt2 : ¬ (k : Int) < 256 := by omega
      go_wp2
      go_ret
      rw [← HE.out]
      exact ⟨rfl, HB⟩

set_option maxRecDepth 100000 in
set_option maxHeartbeats 2000000 in
theorem free_big (f : Fo) (A : Array Value) (HA : Hid (A = encF f)) (z : Int) (hz0 : 256 < z) (w : World) :
    Calls Try.prog 22 #[.agg A, .int .i64 z] w fun e w' => e = .returned (.int .i64 (freeTo (takenS f 4) 256 : Int)) ∧ Below w.heap.size w w' := by
  have HAS : Hid (A.size = 192) := by rw [HA.out]; exact encF_size f
  obtain ⟨Z0, HZ0⟩ : ∃ Z, Hid (Z = enc emp) := ⟨_, rfl⟩
  have hz : ∀ w, (zeroValue 23).run Try.prog w = .ok (.agg Z0) w := by rw [HZ0.out]; exact setZ
  have HZ := Lib.hid hz
  have HZS : Hid (Z0.size = 32) := by rw [HZ0.out]; exact enc_size _
  clear hz
  obtain ⟨T, HT⟩ : ∃ T, Hid (T = enc (takenS f 4)) := ⟨_, rfl⟩
  have HTS : Hid (T.size = 32) := by rw [HT.out]; exact enc_size _
  have HT1 : Hid (T.all (·.oneCell') = true) := by rw [HT.out]; exact enc_one _
  have HTC : Hid (∀ W : World, Calls Try.prog 26 #[.agg A] W fun e w' => e = .returned (.agg T) ∧ Below W.heap.size W w') := fun W => by rw [HA.out, HT.out]; exact taken_any f W
  go_enter Try.func22, Try.ntmps22
  go_wp2_with (refine wpList_load_row rfl 42 (.tmp 2) rfl w.heap.size rfl 42 A (0, 0) _ (heap_alloc_new w _) forT rfl (by rw [HAS.out]; exact forI) ?_)
  refine (HTC.out _).mono ?_
  rintro e w1 ⟨rfl, hb1⟩
  have hB1 : Below w.heap.size w w1 := Below.step ((Below.refl _ _).alloc (Nat.le_refl _) _) hb1
  clear hb1
  go_wp2_with (first
    | (refine wpList_alloc_row rfl 23 rfl Z0 HZ.out ?_)
    | (refine wpList_store_row rfl 23 (.tmp 6) (.tmp 9) rfl w1.heap.size T rfl rfl 23 Z0 (heap_alloc_new w1 _) (by rw [HTS.out]; exact setI) (by rw [HTS.out, HZS.out]) HT1.out ?_))
  have HW : Hid (((w1.alloc (.cells Z0 23)).setRow w1.heap.size T).heap[w1.heap.size]? = some (.cells T 23 (0, 0))) := setRow_heap _ _ _ _ _ _ (heap_alloc_new w1 _)
  have hBW : Below w.heap.size w ((w1.alloc (.cells Z0 23)).setRow w1.heap.size T) := Below.setRow (hB1.alloc hB1.size _) hB1.size _
  generalize (w1.alloc (.cells Z0 23)).setRow w1.heap.size T = w2 at *
  generalize w1.heap.size = G at *
  go_loopw [5, 13] (fun c i wr => ∃ k : Nat, k ≤ 256 ∧ i = .int .i64 k ∧ ∃ x : Nat, x ≤ k ∧ c = .int .i64 x ∧ Hid (x = freeTo (takenS f 4) k) ∧ Hid (wr.heap[G]? = some (.cells T 23 (0, 0))) ∧ Below w.heap.size w wr) (fun _ i _ => 256 - (intOf i).toNat)
  case atStart => exact ⟨0, Nat.zero_le _, rfl, 0, Nat.zero_le _, rfl, rfl, HW, hBW⟩
  case round =>
    obtain ⟨k, hk, rfl, x, hxk, rfl, HX, HG, HB⟩ := hrel
    by_cases hlt : k < 256
    · have hlt2 : (k : Int) < 256 := by omega
      have HHAS : Hid (∀ W : World, Calls Try.prog 16 #[.agg T, .int .i64 (k : Int)] W fun e w' => e = .returned (.bool (takenS f 4 k)) ∧ Below W.heap.size W w') := fun W => by
        have := has_in (takenS f 4) (k : Int) W (by omega) (by omega)
        rw [Int.toNat_natCast] at this
        rw [HT.out]; exact this
      have HNX : Hid (freeTo (takenS f 4) (k + 1) = x + (if takenS f 4 k = true then 0 else 1)) := by show freeTo (takenS f 4) k + _ = _; rw [← HX.out]
      go_wp2_with (refine wpList_load_row rfl 23 (.tmp 6) rfl G rfl 23 T (0, 0) _ HG.out setT rfl (by rw [HTS.out]; exact setI) ?_)
      refine (HHAS.out _).mono ?_
      cases hh : takenS f 4 k with
      | true =>
        rintro e w3 ⟨rfl, hb3⟩
        have HG3 := Lib.hid (heap_below hb3 HG.out)
        have hB3 := Below.step HB hb3
        have HX3 : Hid (x = freeTo (takenS f 4) (k + 1)) := by rw [HNX.out, hh, if_pos rfl]; exact rfl
        clear hh hb3
        go_wp2
        go_roundw
        case rel => exact ⟨k + 1, by omega, by go_num, x, by omega, rfl, HX3, HG3, hB3⟩
        case measure => simp [intOf]; omega
      | false =>
        rintro e w3 ⟨rfl, hb3⟩
        have HG3 := Lib.hid (heap_below hb3 HG.out)
        have hB3 := Below.step HB hb3
        have HX3 : Hid (x + 1 = freeTo (takenS f 4) (k + 1)) := by rw [HNX.out, hh, if_neg (by simp)]; exact rfl
        clear hh hb3
        go_wp2
        go_roundw
        case rel => exact ⟨k + 1, by omega, by go_num, x + 1, by omega, by go_num, HX3, HG3, hB3⟩
        case measure => simp [intOf]; omega
    · have HE : Hid (x = freeTo (takenS f 4) 256) := by rw [show 256 = k by omega]; exact HX.out
      have hlt2 : ¬ (k : Int) < 256 := by omega
      go_wp2
      go_ret
      rw [← HE.out]
      exact ⟨rfl, HB⟩

/-- How many sectors of a disk of so many are looked at. -/
def clampS (z : Int) : Nat := if z < 0 then 0 else if 256 < z then 256 else z.toNat
theorem free_any (f : Fo) (z : Int) (w : World) :
    Calls Try.prog 22 #[.agg (encF f), .int .i64 z] w fun e w' => e = .returned (.int .i64 (freeTo (takenS f 4) (clampS z) : Int)) ∧ Below w.heap.size w w' := by
  unfold clampS
  by_cases h0 : z < 0
  · rw [if_pos h0]; exact free_neg f _ rfl z h0 w
  · rw [if_neg h0]
    by_cases h1 : 256 < z
    · rw [if_pos h1]; exact free_big f _ rfl z h1 w
    · rw [if_neg h1]
      obtain ⟨m, rfl⟩ := Int.eq_ofNat_of_zero_le (by omega : 0 ≤ z)
      rw [Int.toNat_natCast]
      by_cases hz : m = 0
      · subst hz; exact free_zero f _ rfl w
      · by_cases h256 : m = 256
        · subst h256; exact free_256 f _ rfl w
        · exact free_mid f _ rfl m (by omega) (by omega) w

end Go.Proofs.Ytnmfbhiooccgfaa
