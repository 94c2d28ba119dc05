/- What Shared, Taken and Free say of a forest. -/
import Derived.Test.YtnmfbhiooccgfaaSnap
namespace Go.Proofs.Ytnmfbhiooccgfaa
open Go.RowKit

/-- Has one of the trees from 1 on, below k, a sector? -/
def sharedS (f : Fo) : Nat → Nat → Bool
  | 0 => emp
  | 1 => emp
  | k + 2 => if thereB f (k + 1) then join (sharedS f (k + 1)) (f.hs (k + 1)) else sharedS f (k + 1)
def takenS (f : Fo) : Nat → Nat → Bool
  | 0 => emp
  | k + 1 => if thereB f k then join (takenS f k) (f.hs k) else takenS f k
def freeTo (s : Nat → Bool) : Nat → Nat
  | 0 => 0
  | k + 1 => freeTo s k + (if s k = true then 0 else 1)

theorem sharedS_mono (f : Fo) (n k : Nat) (hk : 1 ≤ k) (h : sharedS f k n = true) : ∀ m, sharedS f (k + m) n = true
  | 0 => h
  | m + 1 => by
    have ih := sharedS_mono f n k hk h m
    obtain ⟨j, hj⟩ : ∃ j, k + m = j + 1 := ⟨k + m - 1, by omega⟩
    rw [show k + (m + 1) = j + 2 by omega]
    rw [hj] at ih
    show (if thereB f (j + 1) = true then join (sharedS f (j + 1)) (f.hs (j + 1)) else sharedS f (j + 1)) n = true
    split
    · show (sharedS f (j + 1) n || f.hs (j + 1) n) = true
      rw [ih]; rfl
    · exact ih

set_option maxRecDepth 100000 in
set_option maxHeartbeats 2000000 in
theorem shared_raw (f : Fo) (A : Array Value) (HA : Hid (A = encF f)) (n : Nat) (hn : n < 256) (w : World) :
    Calls Try.prog 27 #[.agg A, .int .i64 (n : Int)] w fun e w' => e = .returned (.bool (sharedS f 4 n)) ∧ Below w.heap.size w w' := by
  have HAS : Hid (A.size = 192) := by rw [HA.out]; exact encF_size f
  go_enter Try.func27, Try.ntmps27
  go_wp2
  go_loopw [5] (fun i wr => ∃ k : Nat, 1 ≤ k ∧ k ≤ 4 ∧ i = .int .i64 k ∧ Hid (sharedS f k n = false) ∧ Hid (wr.heap[w.heap.size]? = some (.cells A 42 (0, 0))) ∧ Below w.heap.size w wr) (fun i _ => 4 - (intOf i).toNat)
  case atStart => exact ⟨1, by omega, by omega, rfl, rfl, heap_alloc_new _ _, (Below.refl _ _).alloc (Nat.le_refl _) _⟩
  case round =>
    obtain ⟨k, hk1, hk, rfl, HS, HF, HB⟩ := hrel
    by_cases hlt : k < 4
    · have hlt2 : (k : Int) < 4 := by omega
      have hk0 : (0 : Int) ≤ (k : Int) := by omega
      obtain ⟨j, rfl⟩ : ∃ j, k = j + 1 := ⟨k - 1, by omega⟩
      generalize hkk : j + 1 = k at *
      have HKK := Lib.hid hkk
      clear hkk
      have HTH : Hid (∀ W : World, Calls Try.prog 24 #[.agg A, .int .i64 (k : Int)] W fun e w' => e = .returned (.bool (thereB f k)) ∧ Below W.heap.size W w') := fun W => by rw [HA.out]; exact there_in f k W hlt
      have HNX : Hid (sharedS f (k + 1) n = (thereB f k && f.hs k n)) := by
        show _ = _
        have h0 := HS.out
        rw [← HKK.out] at h0 ⊢
        show (if thereB f (j + 1) = true then join (sharedS f (j + 1)) (f.hs (j + 1)) else sharedS f (j + 1)) n = _
        cases thereB f (j + 1) with
        | true => rw [if_pos rfl]; show (sharedS f (j + 1) n || f.hs (j + 1) n) = _; rw [h0]; simp
        | false => rw [if_neg (by simp), h0]; simp
      have HHAS : Hid (∀ W : World, Calls Try.prog 16 #[.agg (enc (f.hs k)), .int .i64 (n : Int)] W fun e w' => e = .returned (.bool (f.hs k n)) ∧ Below W.heap.size W w') := fun W => by
        have := has_in (f.hs k) (n : Int) W (by omega) (by omega)
        rw [Int.toNat_natCast] at this; exact this
      have HP : Hid (∀ j, j < (enc (f.hs k)).size → A[k * 48 + 16 + j]? = (enc (f.hs k))[j]?) := by rw [HA.out]; exact part_has f k hlt
      obtain ⟨E, HE⟩ : ∃ E, Hid (E = enc (f.hs k)) := ⟨_, rfl⟩
      have HES : Hid (E.size = 32) := by rw [HE.out]; exact enc_size _
      rw [← HE.out] at HHAS HP
      go_wp2_with (refine wpList_load_row rfl 42 (.tmp 2) rfl w.heap.size rfl 42 A (0, 0) _ HF.out forT rfl (by rw [HAS.out]; exact forI) ?_)
      refine (HTH.out _).mono ?_
      cases hth : thereB f k with
      | false =>
        rintro e w1 ⟨rfl, hb1⟩
        rw [hth] at HNX
        have HF1 := Lib.hid (heap_below hb1 HF.out)
        have hB1 := Below.step HB hb1
        clear hth hb1
        go_wp2
        go_roundw
        case rel => exact ⟨k + 1, by omega, by omega, by go_num, HNX.out, HF1, hB1⟩
        case measure => simp [intOf]; omega
      | true =>
        rintro e w1 ⟨rfl, hb1⟩
        rw [hth, Bool.true_and] at HNX
        have HF1 := Lib.hid (heap_below hb1 HF.out)
        have hB1 := Below.step HB hb1
        clear hth hb1
        go_wp2_with (refine wpList_load_part (by kernel_rfl) 23 (.tmp 16) rfl w.heap.size (k * 48 + 16) rfl 42 A E (0, 0) _ HF1.out HP.out setT rfl (by rw [HES.out]; exact setI) ?_)
        refine (HHAS.out _).mono ?_
        cases hh : f.hs k n with
        | true =>
          rintro e w2 ⟨rfl, hb2⟩
          have hB2 := Below.step hB1 hb2
          have HFIN : Hid (sharedS f 4 n = true) := by
            have := sharedS_mono f n (k + 1) (by omega) (by rw [HNX.out]; exact hh) (4 - (k + 1))
            rw [show k + 1 + (4 - (k + 1)) = 4 by omega] at this
            exact this
          clear hh hb2
          go_wp2
          go_ret
          rw [HFIN.out]
          exact ⟨rfl, hB2⟩
        | false =>
          rintro e w2 ⟨rfl, hb2⟩
          have hB2 := Below.step hB1 hb2
          have HF2 := Lib.hid (heap_below hb2 HF1.out)
          rw [hh] at HNX
          clear hh hb2
          go_wp2
          go_roundw
          case rel => exact ⟨k + 1, by omega, by omega, by go_num, HNX.out, HF2, hB2⟩
          case measure => simp [intOf]; omega
    · obtain rfl : k = 4 := by omega
      go_wp2
      go_ret
      rw [HS.out]
      exact ⟨rfl, HB⟩

theorem shared_in (f : Fo) (n : Nat) (hn : n < 256) (w : World) :
    Calls Try.prog 27 #[.agg (encF f), .int .i64 (n : Int)] w fun e w' => e = .returned (.bool (sharedS f 4 n)) ∧ Below w.heap.size w w' := shared_raw f _ rfl n hn w

set_option maxRecDepth 100000 in
set_option maxHeartbeats 4000000 in
theorem taken_raw (f : Fo) (A S4 : Array Value) (HA : Hid (A = encF f)) (H4 : Hid (S4 = enc (takenS f 4))) (w : World) :
    Calls Try.prog 26 #[.agg A] w fun e w' => e = .returned (.agg S4) ∧ Below w.heap.size w w' := by
  have HAS : Hid (A.size = 192) := by rw [HA.out]; exact encF_size f
  obtain ⟨Z0, HZ0⟩ : ∃ Z, Hid (Z = enc emp) := ⟨_, rfl⟩
  have hz : ∀ w, (zeroValue 23).run Try.prog w = .ok (.agg Z0) w := by rw [HZ0.out]; exact setZ
  have HZ := Lib.hid hz
  clear hz
  go_enter Try.func26, Try.ntmps26
  go_wp2_with (refine wpList_alloc_row rfl 23 rfl Z0 HZ.out ?_)
  go_loopw [5] (fun i wr => ∃ k : Nat, k ≤ 4 ∧ i = .int .i64 k ∧ Hid (wr.heap[w.heap.size]? = some (.cells A 42 (0, 0))) ∧ Hid (wr.heap[w.heap.size + 1]? = some (.cells Z0 23 (0, 0))) ∧ Hid (wr.heap[w.heap.size + 2]? = some (.cells (enc (takenS f k)) 23 (0, 0))) ∧ Below w.heap.size w wr) (fun i _ => 4 - (intOf i).toNat)
  case atStart =>
    refine ⟨0, by omega, rfl, ?_, ?_, ?_, (((Below.refl _ _).alloc (Nat.le_refl _) _).alloc (by simp) _).alloc (by simp; omega) _⟩
    · exact heap_alloc_keep (heap_alloc_keep (heap_alloc_new w _) _) _
    · exact heap_alloc_keep (heap_alloc_at _ _ _ (by simp)) _
    · rw [show enc (takenS f 0) = Z0 from HZ0.out.symm]
      exact heap_alloc_at _ _ _ (by simp)
  case round =>
    obtain ⟨k, hk, rfl, HF, HR, HS, HB⟩ := hrel
    by_cases hlt : k < 4
    · have hlt2 : (k : Int) < 4 := by omega
      have hk0 : (0 : Int) ≤ (k : Int) := by omega
      have HTH : Hid (∀ W : World, Calls Try.prog 24 #[.agg A, .int .i64 (k : Int)] W fun e w' => e = .returned (.bool (thereB f k)) ∧ Below W.heap.size W w') := fun W => by rw [HA.out]; exact there_in f k W hlt
      have HP : Hid (∀ j, j < (enc (f.hs k)).size → A[k * 48 + 16 + j]? = (enc (f.hs k))[j]?) := by rw [HA.out]; exact part_has f k hlt
      obtain ⟨E, HE⟩ : ∃ E, Hid (E = enc (f.hs k)) := ⟨_, rfl⟩
      have HES : Hid (E.size = 32) := by rw [HE.out]; exact enc_size _
      rw [← HE.out] at HP
      obtain ⟨S, HSE⟩ : ∃ S, Hid (S = enc (takenS f k)) := ⟨_, rfl⟩
      have HSS : Hid (S.size = 32) := by rw [HSE.out]; exact enc_size _
      rw [← HSE.out] at HS
      go_wp2_with (refine wpList_load_row rfl 42 (.tmp 1) rfl w.heap.size rfl 42 A (0, 0) _ HF.out forT rfl (by rw [HAS.out]; exact forI) ?_)
      refine (HTH.out _).mono ?_
      cases hth : thereB f k with
      | false =>
        rintro e w1 ⟨rfl, hb1⟩
        have HNX : Hid (takenS f (k + 1) = takenS f k) := by show (if thereB f k = true then _ else _) = _; rw [hth, if_neg (by simp)]
        have HF1 := Lib.hid (heap_below hb1 HF.out)
        have HR1 := Lib.hid (heap_below hb1 HR.out)
        have HS1 : Hid (w1.heap[w.heap.size + 2]? = some (.cells (enc (takenS f (k + 1))) 23 (0, 0))) := by rw [HNX.out, ← HSE.out]; exact heap_below hb1 HS.out
        have hB1 := Below.step HB hb1
        clear hth hb1
        go_wp2
        go_roundw
        case rel => exact ⟨k + 1, by omega, by go_num, HF1, HR1, HS1, hB1⟩
        case measure => simp [intOf]; omega
      | true =>
        rintro e w1 ⟨rfl, hb1⟩
        have HNX : Hid (takenS f (k + 1) = join (takenS f k) (f.hs k)) := by show (if thereB f k = true then _ else _) = _; rw [hth, if_pos rfl]
        have HF1 := Lib.hid (heap_below hb1 HF.out)
        have HR1 := Lib.hid (heap_below hb1 HR.out)
        have HS1 := Lib.hid (heap_below hb1 HS.out)
        have hB1 := Below.step HB hb1
        obtain ⟨J, HJ⟩ : ∃ J, Hid (J = enc (takenS f (k + 1))) := ⟨_, rfl⟩
        have HJS : Hid (J.size = 32) := by rw [HJ.out]; exact enc_size _
        have HJ1 : Hid (J.all (·.oneCell') = true) := by rw [HJ.out]; exact enc_one _
        have HJC : Hid (∀ W : World, Calls Try.prog 20 #[.agg S, .agg E] W fun e w' => e = .returned (.agg J) ∧ Below W.heap.size W w') := fun W => by
          rw [HSE.out, HE.out, HJ.out, HNX.out]; exact join_any _ _ W
        clear hth hb1
        go_wp2_with fail
        refine wp_region_still_tail 5 (by kernel_rfl) (by kernel_rfl) ?_
        simp only [List.take_succ_cons, List.take_zero, List.drop_succ_cons, List.drop_zero]
        refine wpStill_load_part (by kernel_rfl) 23 (.tmp 3) rfl (w.heap.size + 2) 0 rfl 23 S S (0, 0) _ HS1.out (part_all S) setT rfl (by rw [HSS.out]; exact setI) ?_
        still_step
        still_step
        still_step
        refine wpStill_load_part (by kernel_rfl) 23 (.tmp 14) rfl w.heap.size (k * 48 + 16) rfl 42 A E (0, 0) _ HF1.out HP.out setT rfl (by rw [HES.out]; exact setI) ?_
        refine wpStill_nil ?_
        go_wp2_with fail
        refine (HJC.out _).mono ?_
        rintro e w2 ⟨rfl, hb2⟩
        have HF2 : Hid (w2.heap[w.heap.size]? = some (.cells A 42 (0, 0))) := heap_below hb2 HF1.out
        have HR2 : Hid (w2.heap[w.heap.size + 1]? = some (.cells Z0 23 (0, 0))) := heap_below hb2 HR1.out
        have HS2 : Hid (w2.heap[w.heap.size + 2]? = some (.cells S 23 (0, 0))) := heap_below hb2 HS1.out
        have hB2 : Below w.heap.size w w2 := Below.step hB1.drew hb2
        clear hb2
        go_wp2_with (refine wpList_store_row rfl 23 (.tmp 3) (.tmp 16) rfl (w.heap.size + 2) J rfl rfl 23 S HS2.out (by rw [HJS.out]; exact setI) (by rw [HJS.out, HSS.out]) HJ1.out ?_)
        go_roundw
        case rel => exact ⟨k + 1, by omega, by go_num, heap_setRow_keep HF2.out _ _ (by omega), heap_setRow_keep HR2.out _ _ (by omega), by rw [← HJ.out]; exact setRow_heap _ _ _ _ _ _ HS2.out, Below.setRow hB2 (by omega) _⟩
        case measure => simp [intOf]; omega
    · obtain rfl : k = 4 := by omega
      have HSS : Hid (S4.size = 32) := by rw [H4.out]; exact enc_size _
      have HS1 : Hid (S4.all (·.oneCell') = true) := by rw [H4.out]; exact enc_one _
      have HZS : Hid (Z0.size = 32) := by rw [HZ0.out]; exact enc_size _
      rw [← H4.out] at HS
      go_wp2_with (first
        | (refine wpList_load_row rfl 23 (.tmp 3) rfl (w.heap.size + 2) rfl 23 S4 (0, 0) _ HS.out setT rfl (by rw [HSS.out]; exact setI) ?_)
        | (refine wpList_store_row rfl 23 (.tmp 2) (.tmp 18) rfl (w.heap.size + 1) S4 rfl rfl 23 Z0 HR.out (by rw [HSS.out]; exact setI) (by rw [HSS.out, HZS.out]) HS1.out ?_))
      refine bodyPost_ret (results_cell_row rfl _ _ (w.heap.size + 1) 23 S4 (0, 0) _ rfl (setRow_heap _ _ _ _ _ _ HR.out) setT rfl (by rw [HSS.out]; exact setI)) rfl ⟨rfl, ?_⟩
      exact Below.setRow HB (by omega) _
theorem taken_any (f : Fo) (w : World) :
    Calls Try.prog 26 #[.agg (encF f)] w fun e w' => e = .returned (.agg (enc (takenS f 4))) ∧ Below w.heap.size w w' := taken_raw f _ _ rfl rfl w

end Go.Proofs.Ytnmfbhiooccgfaa
