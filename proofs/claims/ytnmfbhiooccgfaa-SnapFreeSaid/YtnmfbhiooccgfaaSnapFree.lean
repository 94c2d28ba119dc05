/- SnapFree: for all forests and all sizes the statement returns true and leaves its arguments alone. No conditions. -/
import Derived.Test.YtnmfbhiooccgfaaSnap7
import Derived.Test.YtnmfbhiooccgfaaGrow
import Derived.Test.YtnmfbhiooccgfaaOpenFor
namespace Go.Proofs.Ytnmfbhiooccgfaa
open Go.ChangeShapes Go.WideShapes Go.ChangeAt Go.RowKit

theorem freeTo_mono (s : Nat → Bool) (k : Nat) : ∀ d, freeTo s k ≤ freeTo s (k + d) ∧ freeTo s (k + d) ≤ freeTo s k + d
  | 0 => ⟨Nat.le_refl _, Nat.le_refl _⟩
  | d + 1 => by
    have := freeTo_mono s k d
    show freeTo s k ≤ freeTo s (k + d) + _ ∧ freeTo s (k + d) + _ ≤ _
    split <;> omega
theorem clampS_nat (a : Nat) : clampS (a : Int) = min a 256 := by
  unfold clampS
  rw [if_neg (by omega)]
  split
  · omega
  · rw [Int.toNat_natCast]; omega
theorem free_sizes (s : Nat → Bool) (a b : Nat) (h : a ≤ b) : freeTo s (clampS (a : Int)) ≤ freeTo s (clampS (b : Int)) ∧ freeTo s (clampS (b : Int)) ≤ freeTo s (clampS (a : Int)) + (b - a) ∧ freeTo s (clampS (b : Int)) ≤ 256 := by
  have h1 : clampS (a : Int) ≤ clampS (b : Int) ∧ clampS (b : Int) ≤ clampS (a : Int) + (b - a) ∧ clampS (b : Int) ≤ 256 := by rw [clampS_nat, clampS_nat]; omega
  obtain ⟨d, hd⟩ := Nat.le.dest h1.1
  have h2 := freeTo_mono s (clampS (a : Int)) d
  rw [hd] at h2
  have h3 := freeTo_le s (clampS (b : Int))
  omega

set_option maxRecDepth 100000 in
set_option maxHeartbeats 2000000 in
theorem snapFree_lt (f : Fo) (A : Array Value) (HA : Hid (A = encF f)) (a b : Int) (m n x y : Nat) (Hm : Hid (pk a 300 = m)) (Hn : Hid (pk b 300 = n)) (hm : m < 300) (hn : n < 300) (hc : m < n)
    (Hx : Hid (freeTo (takenS f 4) (clampS (m : Int)) = x)) (Hy : Hid (freeTo (takenS f 4) (clampS (n : Int)) = y)) (h1 : x ≤ y) (h2 : (y : Int) ≤ (x : Int) + (n : Int) - (m : Int)) (h3 : y ≤ 256) (w : World) :
    Calls Try.prog 7 #[.agg A, .int .i64 a, .int .i64 b] w fun e w' => e = .returned (.bool true) ∧ Below w.heap.size w w' := by
  skip
  have HAS : Hid (A.size = 192) := by rw [HA.out]; exact encF_size f
  have HX : Hid (∀ W : World, Calls Try.prog 22 #[.agg A, .int .i64 (m : Int)] W fun e w' => e = .returned (.int .i64 (x : Int)) ∧ Below W.heap.size W w') := fun W => by rw [HA.out, ← Hx.out]; exact free_any f _ W
  have HY : Hid (∀ W : World, Calls Try.prog 22 #[.agg A, .int .i64 (n : Int)] W fun e w' => e = .returned (.int .i64 (y : Int)) ∧ Below W.heap.size W w') := fun W => by rw [HA.out, ← Hy.out]; exact free_any f _ W
  have HN : Hid (∀ W : World, Calls Try.prog 22 #[.agg A, .int .i64 (-1)] W fun e w' => e = .returned (.int .i64 0) ∧ Below W.heap.size W w') := fun W => by rw [HA.out]; exact free_any f (-1) W
  go_enter Try.func7, Try.ntmps7
  go_wp2_with fail
  refine (rooted_true _).mono ?_
  rintro e w1 ⟨rfl, hb1⟩
  have q1 : Hid (w1.heap[w.heap.size]? = some (.cells A 42 (0, 0))) := heap_below hb1 (heap_alloc_new w _)
  have kB := Below.step ((Below.refl _ _).alloc (Nat.le_refl _) _) hb1
  clear hb1
  go_wp2_with fail
  refine (pick_any _ _ _ (by omega) (by omega)).mono ?_
  rw [Hm.out]
  rintro e w' ⟨rfl, rfl⟩
  go_wp2_with fail
  refine (pick_any _ _ _ (by omega) (by omega)).mono ?_
  rw [Hn.out]
  rintro e w' ⟨rfl, rfl⟩
  go_wp2_with fail
  refine wp_region_quiet_below (by kernel_rfl) (by kernel_rfl) ?_
  refine wpQuiet_load_row rfl 42 (.tmp 3) rfl w.heap.size rfl 42 A (0, 0) _ (fun _ hw => grown_heap hw q1.out) forT rfl (by rw [HAS.out]; exact forI) ?_
  simp only [Act.put, List.setIfInBounds_toArray, List.set_cons_zero, List.set_cons_succ]
  refine wpQuiet_move' (.tmp 1) rfl rfl (.int .i64 (m : Int)) rfl ?_
  simp only [Act.put, List.setIfInBounds_toArray, List.set_cons_zero, List.set_cons_succ]
  refine wpQuiet_move' (.tmp 2) rfl rfl (.int .i64 (n : Int)) rfl ?_
  simp only [Act.put, List.setIfInBounds_toArray, List.set_cons_zero, List.set_cons_succ]
  go_big_quiet_want
  go_big_quiet_op
  go_big_quiet_on
  refine wpQuiet_call 22 #[.tmp 15, .tmp 18] #[42, 3] rfl rfl (fun _ _ => by kernel_rfl) #[.agg A, .int .i64 (m : Int)] (by kernel_rfl) (.int .i64 (x : Int)) (fun _ _ => grown_step) (fun w' _ => HX.out w') ?_
  simp only [Act.put, List.setIfInBounds_toArray, List.set_cons_zero, List.set_cons_succ]
  refine wpQuiet_load_row rfl 42 (.tmp 3) rfl w.heap.size rfl 42 A (0, 0) _ (fun _ hw => grown_heap hw q1.out) forT rfl (by rw [HAS.out]; exact forI) ?_
  simp only [Act.put, List.setIfInBounds_toArray, List.set_cons_zero, List.set_cons_succ]
  refine wpQuiet_move' (.tmp 1) rfl rfl (.int .i64 (m : Int)) rfl ?_
  simp only [Act.put, List.setIfInBounds_toArray, List.set_cons_zero, List.set_cons_succ]
  refine wpQuiet_move' (.tmp 2) rfl rfl (.int .i64 (n : Int)) rfl ?_
  simp only [Act.put, List.setIfInBounds_toArray, List.set_cons_zero, List.set_cons_succ]
  go_big_quiet_want
  go_big_quiet_op
  go_big_quiet_on
  refine wpQuiet_call 22 #[.tmp 20, .tmp 23] #[42, 3] rfl rfl (fun _ _ => by kernel_rfl) #[.agg A, .int .i64 (n : Int)] (by kernel_rfl) (.int .i64 (y : Int)) (fun _ _ => grown_step) (fun w' _ => HY.out w') ?_
  simp only [Act.put, List.setIfInBounds_toArray, List.set_cons_zero, List.set_cons_succ]
  refine wpQuiet_assign' (.tmp 19) rfl rfl (.int .i64 (x : Int)) rfl ?_
  simp only [Act.put, List.setIfInBounds_toArray, List.set_cons_zero, List.set_cons_succ]
  refine wpQuiet_assign' (.tmp 24) rfl rfl (.int .i64 (y : Int)) rfl ?_
  simp only [Act.put, List.setIfInBounds_toArray, List.set_cons_zero, List.set_cons_succ]
  refine wpQuiet_nil ?_
  intro w5 hw5
  have q5 : Hid (w5.heap[w.heap.size]? = some (.cells A 42 (0, 0))) := heap_below (grown_below hw5) q1.out
  have kB5 := Below.step kB (grown_below hw5)
  clear hw5 kB q1
  go_wp2_with (refine wpList_load_row_g (by kernel_rfl) 42 (.tmp 3) rfl w.heap.size rfl 42 A (0, 0) _ q5.out forT rfl (by rw [HAS.out]; exact forI) ?_)
  refine (HN.out _).mono ?_
  rintro e w6 ⟨rfl, hb6⟩
  have kB6 := Below.step kB5 hb6
  clear hb6 kB5
  go_wp2
  go_ret
  exact ⟨rfl, kB6⟩

set_option maxRecDepth 100000 in
set_option maxHeartbeats 2000000 in
theorem snapFree_eq (f : Fo) (A : Array Value) (HA : Hid (A = encF f)) (a b : Int) (m n x y : Nat) (Hm : Hid (pk a 300 = m)) (Hn : Hid (pk b 300 = n)) (hm : m < 300) (hn : n < 300) (hc : m = n)
    (Hx : Hid (freeTo (takenS f 4) (clampS (m : Int)) = x)) (Hy : Hid (freeTo (takenS f 4) (clampS (m : Int)) = y)) (h1 : x ≤ y) (h2 : (y : Int) ≤ (x : Int) + (m : Int) - (m : Int)) (h3 : y ≤ 256) (w : World) :
    Calls Try.prog 7 #[.agg A, .int .i64 a, .int .i64 b] w fun e w' => e = .returned (.bool true) ∧ Below w.heap.size w w' := by
  subst hc
  have HAS : Hid (A.size = 192) := by rw [HA.out]; exact encF_size f
  have HX : Hid (∀ W : World, Calls Try.prog 22 #[.agg A, .int .i64 (m : Int)] W fun e w' => e = .returned (.int .i64 (x : Int)) ∧ Below W.heap.size W w') := fun W => by rw [HA.out, ← Hx.out]; exact free_any f _ W
  have HY : Hid (∀ W : World, Calls Try.prog 22 #[.agg A, .int .i64 (m : Int)] W fun e w' => e = .returned (.int .i64 (y : Int)) ∧ Below W.heap.size W w') := fun W => by rw [HA.out, ← Hy.out]; exact free_any f _ W
  have HN : Hid (∀ W : World, Calls Try.prog 22 #[.agg A, .int .i64 (-1)] W fun e w' => e = .returned (.int .i64 0) ∧ Below W.heap.size W w') := fun W => by rw [HA.out]; exact free_any f (-1) W
  go_enter Try.func7, Try.ntmps7
  go_wp2_with fail
  refine (rooted_true _).mono ?_
  rintro e w1 ⟨rfl, hb1⟩
  have q1 : Hid (w1.heap[w.heap.size]? = some (.cells A 42 (0, 0))) := heap_below hb1 (heap_alloc_new w _)
  have kB := Below.step ((Below.refl _ _).alloc (Nat.le_refl _) _) hb1
  clear hb1
  go_wp2_with fail
  refine (pick_any _ _ _ (by omega) (by omega)).mono ?_
  rw [Hm.out]
  rintro e w' ⟨rfl, rfl⟩
  go_wp2_with fail
  refine (pick_any _ _ _ (by omega) (by omega)).mono ?_
  rw [Hn.out]
  rintro e w' ⟨rfl, rfl⟩
  go_wp2_with fail
  refine wp_region_quiet_below (by kernel_rfl) (by kernel_rfl) ?_
  refine wpQuiet_load_row rfl 42 (.tmp 3) rfl w.heap.size rfl 42 A (0, 0) _ (fun _ hw => grown_heap hw q1.out) forT rfl (by rw [HAS.out]; exact forI) ?_
  simp only [Act.put, List.setIfInBounds_toArray, List.set_cons_zero, List.set_cons_succ]
  refine wpQuiet_move' (.tmp 1) rfl rfl (.int .i64 (m : Int)) rfl ?_
  simp only [Act.put, List.setIfInBounds_toArray, List.set_cons_zero, List.set_cons_succ]
  refine wpQuiet_move' (.tmp 2) rfl rfl (.int .i64 (m : Int)) rfl ?_
  simp only [Act.put, List.setIfInBounds_toArray, List.set_cons_zero, List.set_cons_succ]
  go_big_quiet_want
  go_big_quiet_op
  go_big_quiet_on
  refine wpQuiet_call 22 #[.tmp 15, .tmp 18] #[42, 3] rfl rfl (fun _ _ => by kernel_rfl) #[.agg A, .int .i64 (m : Int)] (by kernel_rfl) (.int .i64 (y : Int)) (fun _ _ => grown_step) (fun w' _ => HY.out w') ?_
  simp only [Act.put, List.setIfInBounds_toArray, List.set_cons_zero, List.set_cons_succ]
  refine wpQuiet_load_row rfl 42 (.tmp 3) rfl w.heap.size rfl 42 A (0, 0) _ (fun _ hw => grown_heap hw q1.out) forT rfl (by rw [HAS.out]; exact forI) ?_
  simp only [Act.put, List.setIfInBounds_toArray, List.set_cons_zero, List.set_cons_succ]
  refine wpQuiet_move' (.tmp 1) rfl rfl (.int .i64 (m : Int)) rfl ?_
  simp only [Act.put, List.setIfInBounds_toArray, List.set_cons_zero, List.set_cons_succ]
  refine wpQuiet_move' (.tmp 2) rfl rfl (.int .i64 (m : Int)) rfl ?_
  simp only [Act.put, List.setIfInBounds_toArray, List.set_cons_zero, List.set_cons_succ]
  go_big_quiet_want
  go_big_quiet_op
  go_big_quiet_on
  refine wpQuiet_call 22 #[.tmp 20, .tmp 23] #[42, 3] rfl rfl (fun _ _ => by kernel_rfl) #[.agg A, .int .i64 (m : Int)] (by kernel_rfl) (.int .i64 (y : Int)) (fun _ _ => grown_step) (fun w' _ => HY.out w') ?_
  simp only [Act.put, List.setIfInBounds_toArray, List.set_cons_zero, List.set_cons_succ]
  refine wpQuiet_assign' (.tmp 19) rfl rfl (.int .i64 (y : Int)) rfl ?_
  simp only [Act.put, List.setIfInBounds_toArray, List.set_cons_zero, List.set_cons_succ]
  refine wpQuiet_assign' (.tmp 24) rfl rfl (.int .i64 (y : Int)) rfl ?_
  simp only [Act.put, List.setIfInBounds_toArray, List.set_cons_zero, List.set_cons_succ]
  refine wpQuiet_nil ?_
  intro w5 hw5
  have q5 : Hid (w5.heap[w.heap.size]? = some (.cells A 42 (0, 0))) := heap_below (grown_below hw5) q1.out
  have kB5 := Below.step kB (grown_below hw5)
  clear hw5 kB q1
  go_wp2_with (refine wpList_load_row_g (by kernel_rfl) 42 (.tmp 3) rfl w.heap.size rfl 42 A (0, 0) _ q5.out forT rfl (by rw [HAS.out]; exact forI) ?_)
  refine (HN.out _).mono ?_
  rintro e w6 ⟨rfl, hb6⟩
  have kB6 := Below.step kB5 hb6
  clear hb6 kB5
  go_wp2
  go_ret
  exact ⟨rfl, kB6⟩

set_option maxRecDepth 100000 in
set_option maxHeartbeats 2000000 in
theorem snapFree_gt (f : Fo) (A : Array Value) (HA : Hid (A = encF f)) (a b : Int) (m n x y : Nat) (Hm : Hid (pk a 300 = m)) (Hn : Hid (pk b 300 = n)) (hm : m < 300) (hn : n < 300) (hc : n < m)
    (Hx : Hid (freeTo (takenS f 4) (clampS (n : Int)) = x)) (Hy : Hid (freeTo (takenS f 4) (clampS (m : Int)) = y)) (h1 : x ≤ y) (h2 : (y : Int) ≤ (x : Int) + (m : Int) - (n : Int)) (h3 : y ≤ 256) (w : World) :
    Calls Try.prog 7 #[.agg A, .int .i64 a, .int .i64 b] w fun e w' => e = .returned (.bool true) ∧ Below w.heap.size w w' := by
  skip
  have HAS : Hid (A.size = 192) := by rw [HA.out]; exact encF_size f
  have HX : Hid (∀ W : World, Calls Try.prog 22 #[.agg A, .int .i64 (n : Int)] W fun e w' => e = .returned (.int .i64 (x : Int)) ∧ Below W.heap.size W w') := fun W => by rw [HA.out, ← Hx.out]; exact free_any f _ W
  have HY : Hid (∀ W : World, Calls Try.prog 22 #[.agg A, .int .i64 (m : Int)] W fun e w' => e = .returned (.int .i64 (y : Int)) ∧ Below W.heap.size W w') := fun W => by rw [HA.out, ← Hy.out]; exact free_any f _ W
  have HN : Hid (∀ W : World, Calls Try.prog 22 #[.agg A, .int .i64 (-1)] W fun e w' => e = .returned (.int .i64 0) ∧ Below W.heap.size W w') := fun W => by rw [HA.out]; exact free_any f (-1) W
  go_enter Try.func7, Try.ntmps7
  go_wp2_with fail
  refine (rooted_true _).mono ?_
  rintro e w1 ⟨rfl, hb1⟩
  have q1 : Hid (w1.heap[w.heap.size]? = some (.cells A 42 (0, 0))) := heap_below hb1 (heap_alloc_new w _)
  have kB := Below.step ((Below.refl _ _).alloc (Nat.le_refl _) _) hb1
  clear hb1
  go_wp2_with fail
  refine (pick_any _ _ _ (by omega) (by omega)).mono ?_
  rw [Hm.out]
  rintro e w' ⟨rfl, rfl⟩
  go_wp2_with fail
  refine (pick_any _ _ _ (by omega) (by omega)).mono ?_
  rw [Hn.out]
  rintro e w' ⟨rfl, rfl⟩
  go_wp2_with fail
  refine wp_region_quiet_below (by kernel_rfl) (by kernel_rfl) ?_
  refine wpQuiet_load_row rfl 42 (.tmp 3) rfl w.heap.size rfl 42 A (0, 0) _ (fun _ hw => grown_heap hw q1.out) forT rfl (by rw [HAS.out]; exact forI) ?_
  simp only [Act.put, List.setIfInBounds_toArray, List.set_cons_zero, List.set_cons_succ]
  refine wpQuiet_move' (.tmp 1) rfl rfl (.int .i64 (m : Int)) rfl ?_
  simp only [Act.put, List.setIfInBounds_toArray, List.set_cons_zero, List.set_cons_succ]
  refine wpQuiet_move' (.tmp 2) rfl rfl (.int .i64 (n : Int)) rfl ?_
  simp only [Act.put, List.setIfInBounds_toArray, List.set_cons_zero, List.set_cons_succ]
  go_big_quiet_want
  go_big_quiet_op
  go_big_quiet_on
  refine wpQuiet_call 22 #[.tmp 15, .tmp 18] #[42, 3] rfl rfl (fun _ _ => by kernel_rfl) #[.agg A, .int .i64 (n : Int)] (by kernel_rfl) (.int .i64 (x : Int)) (fun _ _ => grown_step) (fun w' _ => HX.out w') ?_
  simp only [Act.put, List.setIfInBounds_toArray, List.set_cons_zero, List.set_cons_succ]
  refine wpQuiet_load_row rfl 42 (.tmp 3) rfl w.heap.size rfl 42 A (0, 0) _ (fun _ hw => grown_heap hw q1.out) forT rfl (by rw [HAS.out]; exact forI) ?_
  simp only [Act.put, List.setIfInBounds_toArray, List.set_cons_zero, List.set_cons_succ]
  refine wpQuiet_move' (.tmp 1) rfl rfl (.int .i64 (m : Int)) rfl ?_
  simp only [Act.put, List.setIfInBounds_toArray, List.set_cons_zero, List.set_cons_succ]
  refine wpQuiet_move' (.tmp 2) rfl rfl (.int .i64 (n : Int)) rfl ?_
  simp only [Act.put, List.setIfInBounds_toArray, List.set_cons_zero, List.set_cons_succ]
  go_big_quiet_want
  go_big_quiet_op
  go_big_quiet_on
  refine wpQuiet_call 22 #[.tmp 20, .tmp 23] #[42, 3] rfl rfl (fun _ _ => by kernel_rfl) #[.agg A, .int .i64 (m : Int)] (by kernel_rfl) (.int .i64 (y : Int)) (fun _ _ => grown_step) (fun w' _ => HY.out w') ?_
  simp only [Act.put, List.setIfInBounds_toArray, List.set_cons_zero, List.set_cons_succ]
  refine wpQuiet_assign' (.tmp 19) rfl rfl (.int .i64 (x : Int)) rfl ?_
  simp only [Act.put, List.setIfInBounds_toArray, List.set_cons_zero, List.set_cons_succ]
  refine wpQuiet_assign' (.tmp 24) rfl rfl (.int .i64 (y : Int)) rfl ?_
  simp only [Act.put, List.setIfInBounds_toArray, List.set_cons_zero, List.set_cons_succ]
  refine wpQuiet_nil ?_
  intro w5 hw5
  have q5 : Hid (w5.heap[w.heap.size]? = some (.cells A 42 (0, 0))) := heap_below (grown_below hw5) q1.out
  have kB5 := Below.step kB (grown_below hw5)
  clear hw5 kB q1
  go_wp2_with (refine wpList_load_row_g (by kernel_rfl) 42 (.tmp 3) rfl w.heap.size rfl 42 A (0, 0) _ q5.out forT rfl (by rw [HAS.out]; exact forI) ?_)
  refine (HN.out _).mono ?_
  rintro e w6 ⟨rfl, hb6⟩
  have kB6 := Below.step kB5 hb6
  clear hb6 kB5
  go_wp2
  go_ret
  exact ⟨rfl, kB6⟩
theorem snapFree_true (f : Fo) (a b : Int) (w : World) :
    Calls Try.prog 7 #[.agg (encF f), .int .i64 a, .int .i64 b] w fun e w' => e = .returned (.bool true) ∧ Below w.heap.size w w' := by
  have ha := pk_range a 300 (by omega) (by omega)
  have hb := pk_range b 300 (by omega) (by omega)
  obtain ⟨m, hm⟩ := Int.eq_ofNat_of_zero_le ha.1
  obtain ⟨n, hn⟩ := Int.eq_ofNat_of_zero_le hb.1
  rcases Nat.lt_trichotomy m n with h | h | h
  · have := free_sizes (takenS f 4) m n (by omega)
    exact snapFree_lt f _ rfl a b m n _ _ hm hn (by omega) (by omega) h rfl rfl this.1 (by omega) this.2.2 w
  · have := free_sizes (takenS f 4) m m (by omega)
    exact snapFree_eq f _ rfl a b m n _ _ hm hn (by omega) (by omega) h rfl rfl this.1 (by omega) this.2.2 w
  · have := free_sizes (takenS f 4) n m (by omega)
    exact snapFree_gt f _ rfl a b m n _ _ hm hn (by omega) (by omega) h rfl rfl this.1 (by omega) this.2.2 w

-- CLOSING

set_option maxRecDepth 100000 in
theorem snapFree_lifted (os : Os) (started : os.Started) (H : Type) (enc' : TypeId × Value → H) :
    ReturnsInHanded {} Try.checked os 7 .any (Rows.snapFreeSpec.pre6 enc' Try.prog Try.f7 Rows.snapFreeRow.domain false) (Rows.snapFreeSpec.post enc' Try.prog Try.f7 false true false false) := by
  refine returnsInHanded_of_change (C := Try.checked) Try.own started (by kernel_rfl) Try.func7
    (ChangeSpec.witness6 (enc := enc') (C := Try.checked) false ⟨#[], #[.agg (Array.ofFn (n := 192) fun i => if i.val % 48 < 16 then .int .i64 0 else .int .u8 0), .int .i64 0, .int .i64 0], []⟩ 8 (by kernel_rfl) (by kernel_rfl) (by kernel_rfl) (by kernel_rfl)) ?_
  intro W base args ds gs before hval0 hW hcnd _
  have hval : ∀ (j : Nat) t v, Try.f7.params[j]? = some t → args[j]? = some v → Value.okWide Try.prog W .any base t v := hval0
  have hW' := hW
  obtain ⟨p, q, hA0, hV, rfl, hfz, hnd⟩ := hW
  have hA : DataW.TrodAll enc' Try.prog W 0 (fun _ => true) true Try.f7.params.toList args.toList ds p := hA0
  rw [Try.params7] at hA hval
  obtain ⟨v0, v1, v2, d0, d1, d2, p0, p1, p2, rfl, rfl, rfl, h0, h1, h2⟩ := trodAll_three hA
  obtain ⟨rfl, rfl⟩ := trodVars_none hV
  obtain ⟨f, rfl⟩ := open_for (hval 0 42 v0 rfl rfl) h0
  obtain ⟨a, rfl, rfl, rfl, wa⟩ := open_int Try.underlying3 (hval 1 3 v1 rfl rfl) h1
  obtain ⟨b, rfl, rfl, rfl, wb⟩ := open_int Try.underlying3 (hval 2 3 v2 rfl rfl) h2
  clear hA0 hval0
  refine (snapFree_true f a b W).mono fun e W' ⟨he, hw⟩ => ?_
  subst he
  exact ⟨_, rfl, law_post 4 Try.laidOut (by kernel_rfl) rfl rfl Try.underlying4 hW' rfl hw⟩

theorem snapFree_holds : Rows.SnapFreeSaid :=
  OpenClaim.holds_of_wide 7 Try.f7 rfl rfl rfl rfl rfl rfl rfl ⟨rfl, rfl, rfl, rfl, rfl⟩ rfl rfl rfl rfl rfl (by kernel_rfl) Try.func7 (by kernel_rfl)
    (of_decide_eq_true (by kernel_rfl)) (by unfold Func.isWrapper; first | (rw [if_pos (by decide +kernel)]; kernel_rfl) | (rw [if_neg (by decide +kernel)]; exact ⟨rfl, rfl⟩))
    (fun os started H enc _ => snapFree_lifted os started H enc)

end Go.Proofs.Ytnmfbhiooccgfaa
