/- The statement BitsFirst, walked: First returns the smallest free sector, and behind it a larger one. -/
import Derived.Test.YtnmfbhiooccgfaaBits4
namespace Go.Proofs.Ytnmfbhiooccgfaa
open Go.RowKit

set_option maxRecDepth 100000 in
set_option maxHeartbeats 1000000 in
theorem bitsFirst_none (s : Nat → Bool) (A : Array Value) (HA : Hid (A = enc s)) (fr be : Int) (lo hi : Nat) (w : World) (Hlo : Hid (pk fr 300 = lo)) (Hhi : Hid (pk be 300 = hi)) (h0 : lo < 300) (h1 : hi < 300)
    (HN : Hid (∀ m, lo ≤ m → m < min hi 256 → s m = true)) :
    Calls Try.prog 4 #[.agg A, .int .i64 fr, .int .i64 be] w fun e w' => e = .returned (.bool true) ∧ Below w.heap.size w w' := by
  have HS : Hid (A.size = 32) := by rw [HA.out]; exact enc_size s
  have HF : Hid (∀ W : World, Calls Try.prog 17 #[.agg A, .int .i64 lo, .int .i64 hi] W fun e w' => e = .returned (.tuple #[.int .i64 0, .int .i64 6]) ∧ Below W.heap.size W w') := fun W => by
    rw [HA.out]
    exact first_none s lo hi W (by omega) (by omega) (by omega) (by omega) fun m h1 h2 h3 => HN.out m (by omega) (by omega)
  have HH : Hid (∀ (k : Nat) (W : World), lo ≤ k → k < min hi 256 → Calls Try.prog 16 #[.agg A, .int .i64 k] W fun e w' => e = .returned (.bool true) ∧ Below W.heap.size W w') := fun k W h2 h3 => by
    rw [HA.out, ← HN.out k h2 h3]; exact has_in s k W (by omega) (by omega)
  go_enter Try.func4, Try.ntmps4
  go_wp2_with fail
  refine (counted_true _).mono ?_
  rintro e w1 ⟨rfl, hb1⟩
  have k1 := Lib.hid (heap_below hb1 (heap_alloc_new w (.cells A 23)))
  have kB : Below w.heap.size w w1 := ((Below.refl _ _).alloc (Nat.le_refl _) _).trans (hb1.mono (by simp))
  clear hb1
  go_wp2_with fail
  refine (pick_any _ _ _ (by omega) (by omega)).mono ?_
  rw [Hlo.out]
  rintro e w' ⟨rfl, rfl⟩
  go_wp2_with fail
  refine (pick_any _ _ _ (by omega) (by omega)).mono ?_
  rw [Hhi.out]
  rintro e w' ⟨rfl, rfl⟩
  go_wp2_with (first
      | (refine wpList_load_row rfl 23 (.tmp 3) rfl w.heap.size rfl 23 A (0, 0) _ k1.out setT rfl (by rw [HS.out]; exact setI) ?_)
      | (go_at_call 17; refine (HF.out _).mono ?_; rintro e w2 ⟨rfl, hb2⟩))
  all_goals
    have k2 := Lib.hid (heap_below hb2 k1.out)
    have kB2 := Below.step kB hb2
    clear k1 kB hb2
    go_loopw [9] (fun i wr => ∃ k : Nat, lo ≤ k ∧ k ≤ 300 ∧ i = .int .i64 k ∧ Below w.heap.size w wr ∧ Hid (wr.heap[w.heap.size]? = some (.cells A 23 (0, 0)))) (fun i _ => 300 - (intOf i).toNat)
    case atStart => exact ⟨lo, Nat.le_refl _, by omega, rfl, kB2, k2⟩
    case round =>
      obtain ⟨k, hk0, hk1, rfl, HB, H0⟩ := hrel
      by_cases hlt : k < min hi 256
      · have hlt1 : k < hi := by omega
        have hlt2 : k < 256 := by omega
        go_wp2_with (first
          | (refine wpList_load_row rfl 23 (.tmp 3) rfl w.heap.size rfl 23 A (0, 0) _ H0.out setT rfl (by rw [HS.out]; exact setI) ?_)
          | (go_at_call 16; refine (HH.out k _ hk0 hlt).mono ?_; rintro e w3 ⟨rfl, hb3⟩))
        go_roundw
        case rel => exact ⟨k + 1, by omega, by omega, by go_num, Below.step HB hb3, heap_below hb3 H0.out⟩
        case measure => simp [intOf]; omega
      · go_wp2
        go_ret
        exact ⟨rfl, HB⟩

set_option maxRecDepth 100000 in
set_option maxHeartbeats 2000000 in
theorem bitsFirst_some (s : Nat → Bool) (A B : Array Value) (HA : Hid (A = enc s)) (fr be : Int) (lo hi n m2 : Nat) (e2 : Int) (w : World) (Hlo : Hid (pk fr 300 = lo)) (Hhi : Hid (pk be 300 = hi)) (h0 : lo < 300) (h1 : hi < 300)
    (g0 : lo ≤ n) (g1 : n < hi) (g2 : n < 256) (HB' : Hid (B = enc (ins s n)))
    (Hn : Hid (s n = false)) (HN : Hid (∀ m, lo ≤ m → m < n → s m = true)) (he2 : (e2 = 6 ∧ Hid (∀ m, lo ≤ m → m < min hi 256 → ins s n m = true) ∧ Hid (m2 = 0)) ∨ (e2 = 0 ∧ n < m2 ∧ Hid (m2 < hi ∧ m2 < 256 ∧ ins s n m2 = false ∧ ∀ m, lo ≤ m → m < m2 → ins s n m = true))) :
    Calls Try.prog 4 #[.agg A, .int .i64 fr, .int .i64 be] w fun e w' => e = .returned (.bool true) ∧ Below w.heap.size w w' := by
  have HS : Hid (A.size = 32) := by rw [HA.out]; exact enc_size s
  have HF : Hid (∀ W : World, Calls Try.prog 17 #[.agg A, .int .i64 lo, .int .i64 hi] W fun e w' => e = .returned (.tuple #[.int .i64 n, .int .i64 0]) ∧ Below W.heap.size W w') := fun W => by
    rw [HA.out]
    exact first_some s lo hi n W (by omega) (by omega) (by omega) (by omega) (by omega) (by omega) (by omega) Hn.out fun m h1 h2 => HN.out m (by omega) (by omega)
  have HF2 : Hid (∀ W : World, Calls Try.prog 17 #[.agg B, .int .i64 lo, .int .i64 hi] W fun e w' => e = .returned (.tuple #[.int .i64 m2, .int .i64 e2]) ∧ Below W.heap.size W w') := fun W => by
    rw [HB'.out]
    rcases he2 with ⟨rfl, h3, h4⟩ | ⟨rfl, h3, h4⟩
    · rw [h4.out]
      exact first_none (ins s n) lo hi W (by omega) (by omega) (by omega) (by omega) fun m h1 h2 _ => h3.out m (by omega) (by omega)
    · obtain ⟨h5, h6, h7, h8⟩ := h4.out
      exact first_some (ins s n) lo hi m2 W (by omega) (by omega) (by omega) (by omega) (by omega) (by omega) (by omega) h7 fun m h1 h2 => h8 m (by omega) (by omega)
  have HW : Hid (∀ W : World, Calls Try.prog 13 #[.agg A, .int .i64 n] W fun e w' => e = .returned (.agg B) ∧ Below W.heap.size W w') := fun W => by
    rw [HA.out, HB'.out]; exact with_in s n W (by omega) (by omega)
  have HH : Hid (∀ (k : Nat) (W : World), lo ≤ k → k < n → Calls Try.prog 16 #[.agg A, .int .i64 k] W fun e w' => e = .returned (.bool true) ∧ Below W.heap.size W w') := fun k W h2 h3 => by
    rw [HA.out, ← HN.out k h2 h3]; exact has_in s k W (by omega) (by omega)
  have HHn : Hid (∀ (W : World), Calls Try.prog 16 #[.agg A, .int .i64 n] W fun e w' => e = .returned (.bool false) ∧ Below W.heap.size W w') := fun W => by
    rw [HA.out, ← Hn.out]; exact has_in s n W (by omega) (by omega)
  have he3 : (e2 = 6 ∧ True) ∨ (e2 = 0 ∧ n < m2) := by
    rcases he2 with ⟨h, _⟩ | ⟨h, h', _⟩
    · exact Or.inl ⟨h, trivial⟩
    · exact Or.inr ⟨h, h'⟩
  clear he2
  rcases he3 with ⟨rfl, _⟩ | ⟨rfl, hgt⟩
  all_goals
    go_enter Try.func4, Try.ntmps4
    go_wp2_with fail
    refine (counted_true _).mono ?_
    rintro e w1 ⟨rfl, hb1⟩
    have k1 := Lib.hid (heap_below hb1 (heap_alloc_new w (.cells A 23)))
    have kB : Below w.heap.size w w1 := ((Below.refl _ _).alloc (Nat.le_refl _) _).trans (hb1.mono (by simp))
    clear hb1
    go_wp2_with fail
    refine (pick_any _ _ _ (by omega) (by omega)).mono ?_
    rw [Hlo.out]
    rintro e w' ⟨rfl, rfl⟩
    go_wp2_with fail
    refine (pick_any _ _ _ (by omega) (by omega)).mono ?_
    rw [Hhi.out]
    rintro e w' ⟨rfl, rfl⟩
    go_wp2_with (first
      | (refine wpList_load_row rfl 23 (.tmp 3) rfl w.heap.size rfl 23 A (0, 0) _ k1.out setT rfl (by rw [HS.out]; exact setI) ?_)
      | (go_at_call 17; refine (HF.out _).mono ?_; rintro e w2 ⟨rfl, hb2⟩))
    have k2 := Lib.hid (heap_below hb2 k1.out)
    have kB2 := Below.step kB hb2
    clear k1 kB hb2
    go_loopw [9] (fun i wr => ∃ k : Nat, lo ≤ k ∧ k ≤ n ∧ i = .int .i64 k ∧ Below w.heap.size w wr ∧ Hid (wr.heap[w.heap.size]? = some (.cells A 23 (0, 0)))) (fun i _ => 300 - (intOf i).toNat)
    case atStart => exact ⟨lo, Nat.le_refl _, by omega, rfl, kB2, k2⟩
    case round =>
      obtain ⟨k, hk0, hk1, rfl, HB, H0⟩ := hrel
      by_cases hlt : k < n
      · go_wp2_with (first
          | (refine wpList_load_row rfl 23 (.tmp 3) rfl w.heap.size rfl 23 A (0, 0) _ H0.out setT rfl (by rw [HS.out]; exact setI) ?_)
          | (go_at_call 16; refine (HH.out k _ hk0 hlt).mono ?_; rintro e w3 ⟨rfl, hb3⟩))
        go_roundw
        case rel => exact ⟨k + 1, by omega, by omega, by go_num, Below.step HB hb3, heap_below hb3 H0.out⟩
        case measure => simp [intOf]; omega
      · go_wp2_with (first
          | (refine wpList_load_row rfl 23 (.tmp 3) rfl w.heap.size rfl 23 A (0, 0) _ H0.out setT rfl (by rw [HS.out]; exact setI) ?_)
          | (go_at_call 13; refine (HW.out _).mono ?_; rintro e w3 ⟨rfl, hb3⟩))
        refine (HF2.out _).mono ?_
        rintro e w4 ⟨rfl, hb4⟩
        have k4 := Lib.hid (heap_below hb4 (heap_below hb3 H0.out))
        go_wp2_with (first
          | (refine wpList_load_row rfl 23 (.tmp 3) rfl w.heap.size rfl 23 A (0, 0) _ k4.out setT rfl (by rw [HS.out]; exact setI) ?_)
          | (go_at_call 16; refine (HHn.out _).mono ?_; rintro e w5 ⟨rfl, hb5⟩))
        go_ret
        exact ⟨rfl, Below.step (Below.step (Below.step HB hb3) hb4) hb5⟩

end Go.Proofs.Ytnmfbhiooccgfaa
