/- SnapTaken: for all forests and all sectors the statement returns true and leaves its arguments alone. No conditions. -/
import Derived.Test.YtnmfbhiooccgfaaSnap8
import Derived.Test.YtnmfbhiooccgfaaOpenFor
namespace Go.Proofs.Ytnmfbhiooccgfaa
open Go.ChangeShapes Go.WideShapes Go.ChangeAt Go.RowKit


set_option maxRecDepth 100000 in
set_option maxHeartbeats 4000000 in
theorem snapTaken_yes (f f2 : Fo) (A X E T Z0 : Array Value) (HZ0 : Hid (Z0 = encF zeroF)) (HA : Hid (A = encF f)) (HX : Hid (X = encF f2)) (HE : Hid (E = enc (f.hs 0))) (HT : Hid (T = enc (takenS f 4))) (HTE : Hid (takenS f2 4 = takenS f 4)) (k n x c : Nat) (HTK : Hid (takeF f = (f2, k, 0))) (a : Int) (Hn : Hid (pk a 256 = n)) (hn : n < 256)
    (Hh : Hid (f.hs 0 n = true)) (Hs : Hid (sharedS f2 4 n = true)) (Hx : Hid (freeTo (takenS f 4) 256 = x)) (Hc : Hid (cntTo (takenS f 4) 256 = c)) (hc4 : c ≤ 256) (hsum : ((x : Int) == 256 - (c : Int)) = true) (w : World) :
    Calls Try.prog 9 #[.agg A, .int .i64 a] w fun e w' => e = .returned (.bool true) ∧ Below w.heap.size w w' := by
  have HAS : Hid (A.size = 192) := by rw [HA.out]; exact encF_size f
  have HXS : Hid (X.size = 192) := by rw [HX.out]; exact encF_size f2
  have HX1 : Hid (X.all (·.oneCell') = true) := by rw [HX.out]; exact encF_one _
  have HZS : Hid (Z0.size = 192) := by rw [HZ0.out]; exact encF_size _
  have HZ : Hid (∀ w, (zeroValue 42).run Try.prog w = .ok (.agg Z0) w) := by rw [HZ0.out]; exact forZ
  have HES : Hid (E.size = 32) := by rw [HE.out]; exact enc_size _
  have HEP : Hid (∀ j, j < E.size → A[16 + j]? = E[j]?) := by
    have := part_has f 0 (by omega)
    rw [Nat.zero_mul, Nat.zero_add, ← HE.out, ← HA.out] at this; exact this
  have HTA : Hid (∀ W : World, Calls Try.prog 26 #[.agg A] W fun e w' => e = .returned (.agg T) ∧ Below W.heap.size W w') := fun W => by rw [HA.out, HT.out]; exact taken_any f W
  have HTX : Hid (∀ W : World, Calls Try.prog 26 #[.agg X] W fun e w' => e = .returned (.agg T) ∧ Below W.heap.size W w') := fun W => by rw [HX.out, HT.out, ← HTE.out]; exact taken_any f2 W
  have HHE : Hid (∀ W : World, Calls Try.prog 16 #[.agg E, .int .i64 (n : Int)] W fun e w' => e = .returned (.bool true) ∧ Below W.heap.size W w') := fun W => by
    have := has_in (f.hs 0) (n : Int) W (by omega) (by omega)
    rw [Int.toNat_natCast, Hh.out] at this
    rw [HE.out]; exact this
  have HSX : Hid (∀ W : World, Calls Try.prog 27 #[.agg X, .int .i64 (n : Int)] W fun e w' => e = .returned (.bool true) ∧ Below W.heap.size W w') := fun W => by rw [HX.out, ← Hs.out]; exact shared_in f2 n hn W
  have HHT : Hid (∀ W : World, sharedS f2 4 n = true → Calls Try.prog 16 #[.agg T, .int .i64 (n : Int)] W fun e w' => e = .returned (.bool true) ∧ Below W.heap.size W w') := fun W h => by
    have := has_in (takenS f 4) (n : Int) W (by omega) (by omega)
    rw [Int.toNat_natCast, ← HTE.out, taken_shared f2 n h] at this
    rw [HT.out, ← HTE.out]; exact this
  have HFX : Hid (∀ W : World, Calls Try.prog 22 #[.agg X, .int .i64 256] W fun e w' => e = .returned (.int .i64 (x : Int)) ∧ Below W.heap.size W w') := fun W => by
    have := free_any f2 256 W
    rw [HTE.out, show clampS 256 = 256 from rfl, Hx.out] at this
    rw [HX.out]; exact this
  have HCT : Hid (∀ W : World, Calls Try.prog 15 #[.agg T] W fun e w' => e = .returned (.int .i64 (c : Int)) ∧ Below W.heap.size W w') := fun W => by rw [HT.out, ← Hc.out]; exact count_any _ W
  have HTT : Hid (∀ W : World, (Op.equalIn 10000 23 (.agg T) (.agg T)).run Try.prog W = .ok true W) := fun W => by rw [HT.out]; exact run_eql_setS _ W
  have HTKC : Hid (∀ W : World, Calls Try.prog 23 #[.agg A] W fun e w' => e = .returned (.tuple #[.agg X, .int .i64 (k : Int), .int .i64 0]) ∧ Below W.heap.size W w') := fun W => by
    have := take_any f W
    rw [HTK.out] at this
    rw [HA.out, HX.out]; exact this
  go_enter Try.func9, Try.ntmps9
  go_wp2_with fail
  refine (rooted_true _).mono ?_
  rintro e w1 ⟨rfl, hb1⟩
  have q1 : Hid (w1.heap[w.heap.size]? = some (.cells A 42 (0, 0))) := heap_below hb1 (heap_alloc_new w _)
  have kB := Below.step ((Below.refl _ _).alloc (Nat.le_refl _) _) hb1
  clear hb1
  go_wp2_with (refine wpList_load_row rfl 42 (.tmp 2) rfl w.heap.size rfl 42 A (0, 0) _ q1.out forT rfl (by rw [HAS.out]; exact forI) ?_)
  refine (HTKC.out _).mono ?_
  rintro e w2 ⟨rfl, hb2⟩
  have q2 : Hid (w2.heap[w.heap.size]? = some (.cells A 42 (0, 0))) := heap_below hb2 q1.out
  have kB2 := Below.step kB hb2
  clear hb2 kB q1
  go_wp2_with (first
    | (refine wpList_alloc_row rfl 42 rfl Z0 HZ.out ?_)
    | (refine wpList_store_row rfl 42 (.tmp 5) (.tmp 13) rfl w2.heap.size X rfl rfl 42 Z0 (heap_alloc_new w2 _) (by rw [HXS.out]; exact forI) (by rw [HXS.out, HZS.out]) HX1.out ?_))
  have qG : Hid (((w2.alloc (.cells Z0 42)).setRow w2.heap.size X).heap[w2.heap.size]? = some (.cells X 42 (0, 0))) := setRow_heap _ _ _ _ _ _ (heap_alloc_new w2 _)
  have hlt : w.heap.size < w2.heap.size := heap_lt q2.out
  have qF : Hid (((w2.alloc (.cells Z0 42)).setRow w2.heap.size X).heap[w.heap.size]? = some (.cells A 42 (0, 0))) := heap_setRow_keep (heap_alloc_keep q2.out _) _ _ (by omega)
  have kB3 : Below w.heap.size w ((w2.alloc (.cells Z0 42)).setRow w2.heap.size X) := Below.setRow (kB2.alloc kB2.size _) kB2.size _
  clear hlt q2 kB2
  generalize (w2.alloc (.cells Z0 42)).setRow w2.heap.size X = w3 at *
  generalize w2.heap.size = g at *
  refine (pick_any _ _ _ (by omega) (by omega)).mono ?_
  rw [Hn.out]
  rintro e w' ⟨rfl, rfl⟩
  go_wp2_with fail
  refine wp_region_quiet_below (by kernel_rfl) (by kernel_rfl) ?_
  try simp only [List.append_eq, List.cons_append, List.nil_append]
  refine wpQuiet_load_row rfl 42 (.tmp 5) rfl g rfl 42 X (0, 0) _ (fun _ hw => grown_heap hw qG.out) forT rfl (by rw [HXS.out]; exact forI) ?_
  simp only [Act.put, List.setIfInBounds_toArray, List.set_cons_zero, List.set_cons_succ]
  refine wpQuiet_call 26 #[.tmp 20] #[42] rfl rfl (fun _ _ => by kernel_rfl) #[.agg X] (by kernel_rfl) (.agg T) (fun _ _ => grown_step) (fun w' _ => HTX.out w') ?_
  simp only [Act.put, List.setIfInBounds_toArray, List.set_cons_zero, List.set_cons_succ]
  refine wpQuiet_load_row rfl 42 (.tmp 2) rfl w.heap.size rfl 42 A (0, 0) _ (fun _ hw => grown_heap hw qF.out) forT rfl (by rw [HAS.out]; exact forI) ?_
  simp only [Act.put, List.setIfInBounds_toArray, List.set_cons_zero, List.set_cons_succ]
  refine wpQuiet_call 26 #[.tmp 22] #[42] rfl rfl (fun _ _ => by kernel_rfl) #[.agg A] (by kernel_rfl) (.agg T) (fun _ _ => grown_step) (fun w' _ => HTA.out w') ?_
  simp only [Act.put, List.setIfInBounds_toArray, List.set_cons_zero, List.set_cons_succ]
  refine wpQuiet_run rfl (.bool true) (run_eql_agg 23 23 (.tmp 21) (.tmp 23) rfl T T rfl rfl true (fun W => HTT.out W) setG2) ?_
  simp only [Act.put, List.setIfInBounds_toArray, List.set_cons_zero, List.set_cons_succ]
  refine wpQuiet_move' (.tmp 24) rfl rfl (.bool true) rfl ?_
  simp only [Act.put, List.setIfInBounds_toArray, List.set_cons_zero, List.set_cons_succ]
  go_big_quiet_want
  go_big_quiet_op
  go_big_quiet_on
  go_big_quiet_want
  go_big_quiet_op
  go_big_quiet_on
  refine wpQuiet_load_part rfl 23 (.tmp 27) rfl w.heap.size (16) rfl 42 A E (0, 0) _ (fun _ hw => grown_heap hw qF.out) HEP.out setT rfl (by rw [HES.out]; exact setI) ?_
  simp only [Act.put, List.setIfInBounds_toArray, List.set_cons_zero, List.set_cons_succ]
  refine wpQuiet_move' (.tmp 1) rfl rfl (.int .i64 (n : Int)) rfl ?_
  simp only [Act.put, List.setIfInBounds_toArray, List.set_cons_zero, List.set_cons_succ]
  refine wpQuiet_call 16 #[.tmp 28, .tmp 29] #[23, 3] rfl rfl (fun _ _ => by kernel_rfl) #[.agg E, .int .i64 (n : Int)] (by kernel_rfl) (.bool true) (fun _ _ => grown_step) (fun w' _ => HHE.out w') ?_
  simp only [Act.put, List.setIfInBounds_toArray, List.set_cons_zero, List.set_cons_succ]
  go_big_quiet_want
  go_big_quiet_op
  go_big_quiet_on
  refine wpQuiet_move' (.tmp 31) rfl rfl (.bool false) rfl ?_
  simp only [Act.put, List.setIfInBounds_toArray, List.set_cons_zero, List.set_cons_succ]
  refine wpQuiet_load_row rfl 42 (.tmp 5) rfl g rfl 42 X (0, 0) _ (fun _ hw => grown_heap hw qG.out) forT rfl (by rw [HXS.out]; exact forI) ?_
  simp only [Act.put, List.setIfInBounds_toArray, List.set_cons_zero, List.set_cons_succ]
  refine wpQuiet_move' (.tmp 1) rfl rfl (.int .i64 (n : Int)) rfl ?_
  simp only [Act.put, List.setIfInBounds_toArray, List.set_cons_zero, List.set_cons_succ]
  refine wpQuiet_call 27 #[.tmp 33, .tmp 34] #[42, 3] rfl rfl (fun _ _ => by kernel_rfl) #[.agg X, .int .i64 (n : Int)] (by kernel_rfl) (.bool true) (fun _ _ => grown_step) (fun w' _ => HSX.out w') ?_
  simp only [Act.put, List.setIfInBounds_toArray, List.set_cons_zero, List.set_cons_succ]
  refine wpQuiet_pick _ _ _ rfl rfl false (.bool true) rfl rfl ?_
  simp only [Act.put, List.setIfInBounds_toArray, List.set_cons_zero, List.set_cons_succ]
  refine wpQuiet_pick _ _ _ rfl rfl true (.bool true) rfl rfl ?_
  simp only [Act.put, List.setIfInBounds_toArray, List.set_cons_zero, List.set_cons_succ]
  refine wpQuiet_move' (.tmp 37) rfl rfl (.bool true) rfl ?_
  simp only [Act.put, List.setIfInBounds_toArray, List.set_cons_zero, List.set_cons_succ]
  refine wpQuiet_load_row rfl 42 (.tmp 5) rfl g rfl 42 X (0, 0) _ (fun _ hw => grown_heap hw qG.out) forT rfl (by rw [HXS.out]; exact forI) ?_
  simp only [Act.put, List.setIfInBounds_toArray, List.set_cons_zero, List.set_cons_succ]
  refine wpQuiet_move' (.tmp 1) rfl rfl (.int .i64 (n : Int)) rfl ?_
  simp only [Act.put, List.setIfInBounds_toArray, List.set_cons_zero, List.set_cons_succ]
  refine wpQuiet_call 27 #[.tmp 39, .tmp 40] #[42, 3] rfl rfl (fun _ _ => by kernel_rfl) #[.agg X, .int .i64 (n : Int)] (by kernel_rfl) (.bool true) (fun _ _ => grown_step) (fun w' _ => HSX.out w') ?_
  simp only [Act.put, List.setIfInBounds_toArray, List.set_cons_zero, List.set_cons_succ]
  go_big_quiet_want
  go_big_quiet_op
  go_big_quiet_on
  refine wpQuiet_move' (.tmp 42) rfl rfl (.bool false) rfl ?_
  simp only [Act.put, List.setIfInBounds_toArray, List.set_cons_zero, List.set_cons_succ]
  refine wpQuiet_load_row rfl 42 (.tmp 5) rfl g rfl 42 X (0, 0) _ (fun _ hw => grown_heap hw qG.out) forT rfl (by rw [HXS.out]; exact forI) ?_
  simp only [Act.put, List.setIfInBounds_toArray, List.set_cons_zero, List.set_cons_succ]
  refine wpQuiet_call 26 #[.tmp 44] #[42] rfl rfl (fun _ _ => by kernel_rfl) #[.agg X] (by kernel_rfl) (.agg T) (fun _ _ => grown_step) (fun w' _ => HTX.out w') ?_
  simp only [Act.put, List.setIfInBounds_toArray, List.set_cons_zero, List.set_cons_succ]
  refine wpQuiet_move' (.tmp 1) rfl rfl (.int .i64 (n : Int)) rfl ?_
  simp only [Act.put, List.setIfInBounds_toArray, List.set_cons_zero, List.set_cons_succ]
  refine wpQuiet_call 16 #[.tmp 45, .tmp 46] #[23, 3] rfl rfl (fun _ _ => by kernel_rfl) #[.agg T, .int .i64 (n : Int)] (by kernel_rfl) (.bool true) (fun _ _ => grown_step) (fun w' _ => HHT.out w' Hs.out) ?_
  simp only [Act.put, List.setIfInBounds_toArray, List.set_cons_zero, List.set_cons_succ]
  refine wpQuiet_pick _ _ _ rfl rfl false (.bool true) rfl rfl ?_
  simp only [Act.put, List.setIfInBounds_toArray, List.set_cons_zero, List.set_cons_succ]
  refine wpQuiet_pick _ _ _ rfl rfl true (.bool true) rfl rfl ?_
  simp only [Act.put, List.setIfInBounds_toArray, List.set_cons_zero, List.set_cons_succ]
  refine wpQuiet_move' (.tmp 49) rfl rfl (.bool true) rfl ?_
  simp only [Act.put, List.setIfInBounds_toArray, List.set_cons_zero, List.set_cons_succ]
  refine wpQuiet_load_row rfl 42 (.tmp 5) rfl g rfl 42 X (0, 0) _ (fun _ hw => grown_heap hw qG.out) forT rfl (by rw [HXS.out]; exact forI) ?_
  simp only [Act.put, List.setIfInBounds_toArray, List.set_cons_zero, List.set_cons_succ]
  refine wpQuiet_call 22 #[.tmp 51, .const (.int .i64 256)] #[42, 3] rfl rfl (fun _ _ => by kernel_rfl) #[.agg X, .int .i64 256] (by kernel_rfl) (.int .i64 (x : Int)) (fun _ _ => grown_step) (fun w' _ => HFX.out w') ?_
  simp only [Act.put, List.setIfInBounds_toArray, List.set_cons_zero, List.set_cons_succ]
  refine wpQuiet_load_row rfl 42 (.tmp 5) rfl g rfl 42 X (0, 0) _ (fun _ hw => grown_heap hw qG.out) forT rfl (by rw [HXS.out]; exact forI) ?_
  simp only [Act.put, List.setIfInBounds_toArray, List.set_cons_zero, List.set_cons_succ]
  refine wpQuiet_call 26 #[.tmp 53] #[42] rfl rfl (fun _ _ => by kernel_rfl) #[.agg X] (by kernel_rfl) (.agg T) (fun _ _ => grown_step) (fun w' _ => HTX.out w') ?_
  simp only [Act.put, List.setIfInBounds_toArray, List.set_cons_zero, List.set_cons_succ]
  refine wpQuiet_call 15 #[.tmp 54] #[23] rfl rfl (fun _ _ => by kernel_rfl) #[.agg T] (by kernel_rfl) (.int .i64 (c : Int)) (fun _ _ => grown_step) (fun w' _ => HCT.out w') ?_
  simp only [Act.put, List.setIfInBounds_toArray, List.set_cons_zero, List.set_cons_succ]
  go_big_quiet_want
  go_big_quiet_op
  go_big_quiet_on
  go_big_quiet_want
  go_big_quiet_op
  go_big_quiet_on
  refine wpQuiet_pick _ _ _ rfl rfl true (.bool true) rfl rfl ?_
  simp only [Act.put, List.setIfInBounds_toArray, List.set_cons_zero, List.set_cons_succ]
  refine wpQuiet_assign' (.tmp 58) rfl rfl (.bool true) rfl ?_
  simp only [Act.put, List.setIfInBounds_toArray, List.set_cons_zero, List.set_cons_succ]
  refine wpQuiet_nil ?_
  intro w5 hw5
  go_wp2
  go_ret
  exact ⟨rfl, Below.step kB3 (grown_below hw5)⟩

set_option maxRecDepth 100000 in
set_option maxHeartbeats 4000000 in
theorem snapTaken_one (f f2 : Fo) (A X E T Z0 : Array Value) (HZ0 : Hid (Z0 = encF zeroF)) (HA : Hid (A = encF f)) (HX : Hid (X = encF f2)) (HE : Hid (E = enc (f.hs 0))) (HT : Hid (T = enc (takenS f 4))) (HTE : Hid (takenS f2 4 = takenS f 4)) (k n x c : Nat) (HTK : Hid (takeF f = (f2, k, 0))) (a : Int) (Hn : Hid (pk a 256 = n)) (hn : n < 256)
    (Hh : Hid (f.hs 0 n = false)) (Hs : Hid (sharedS f2 4 n = true)) (Hx : Hid (freeTo (takenS f 4) 256 = x)) (Hc : Hid (cntTo (takenS f 4) 256 = c)) (hc4 : c ≤ 256) (hsum : ((x : Int) == 256 - (c : Int)) = true) (w : World) :
    Calls Try.prog 9 #[.agg A, .int .i64 a] w fun e w' => e = .returned (.bool true) ∧ Below w.heap.size w w' := by
  have HAS : Hid (A.size = 192) := by rw [HA.out]; exact encF_size f
  have HXS : Hid (X.size = 192) := by rw [HX.out]; exact encF_size f2
  have HX1 : Hid (X.all (·.oneCell') = true) := by rw [HX.out]; exact encF_one _
  have HZS : Hid (Z0.size = 192) := by rw [HZ0.out]; exact encF_size _
  have HZ : Hid (∀ w, (zeroValue 42).run Try.prog w = .ok (.agg Z0) w) := by rw [HZ0.out]; exact forZ
  have HES : Hid (E.size = 32) := by rw [HE.out]; exact enc_size _
  have HEP : Hid (∀ j, j < E.size → A[16 + j]? = E[j]?) := by
    have := part_has f 0 (by omega)
    rw [Nat.zero_mul, Nat.zero_add, ← HE.out, ← HA.out] at this; exact this
  have HTA : Hid (∀ W : World, Calls Try.prog 26 #[.agg A] W fun e w' => e = .returned (.agg T) ∧ Below W.heap.size W w') := fun W => by rw [HA.out, HT.out]; exact taken_any f W
  have HTX : Hid (∀ W : World, Calls Try.prog 26 #[.agg X] W fun e w' => e = .returned (.agg T) ∧ Below W.heap.size W w') := fun W => by rw [HX.out, HT.out, ← HTE.out]; exact taken_any f2 W
  have HHE : Hid (∀ W : World, Calls Try.prog 16 #[.agg E, .int .i64 (n : Int)] W fun e w' => e = .returned (.bool false) ∧ Below W.heap.size W w') := fun W => by
    have := has_in (f.hs 0) (n : Int) W (by omega) (by omega)
    rw [Int.toNat_natCast, Hh.out] at this
    rw [HE.out]; exact this
  have HSX : Hid (∀ W : World, Calls Try.prog 27 #[.agg X, .int .i64 (n : Int)] W fun e w' => e = .returned (.bool true) ∧ Below W.heap.size W w') := fun W => by rw [HX.out, ← Hs.out]; exact shared_in f2 n hn W
  have HHT : Hid (∀ W : World, sharedS f2 4 n = true → Calls Try.prog 16 #[.agg T, .int .i64 (n : Int)] W fun e w' => e = .returned (.bool true) ∧ Below W.heap.size W w') := fun W h => by
    have := has_in (takenS f 4) (n : Int) W (by omega) (by omega)
    rw [Int.toNat_natCast, ← HTE.out, taken_shared f2 n h] at this
    rw [HT.out, ← HTE.out]; exact this
  have HFX : Hid (∀ W : World, Calls Try.prog 22 #[.agg X, .int .i64 256] W fun e w' => e = .returned (.int .i64 (x : Int)) ∧ Below W.heap.size W w') := fun W => by
    have := free_any f2 256 W
    rw [HTE.out, show clampS 256 = 256 from rfl, Hx.out] at this
    rw [HX.out]; exact this
  have HCT : Hid (∀ W : World, Calls Try.prog 15 #[.agg T] W fun e w' => e = .returned (.int .i64 (c : Int)) ∧ Below W.heap.size W w') := fun W => by rw [HT.out, ← Hc.out]; exact count_any _ W
  have HTT : Hid (∀ W : World, (Op.equalIn 10000 23 (.agg T) (.agg T)).run Try.prog W = .ok true W) := fun W => by rw [HT.out]; exact run_eql_setS _ W
  have HTKC : Hid (∀ W : World, Calls Try.prog 23 #[.agg A] W fun e w' => e = .returned (.tuple #[.agg X, .int .i64 (k : Int), .int .i64 0]) ∧ Below W.heap.size W w') := fun W => by
    have := take_any f W
    rw [HTK.out] at this
    rw [HA.out, HX.out]; exact this
  go_enter Try.func9, Try.ntmps9
  go_wp2_with fail
  refine (rooted_true _).mono ?_
  rintro e w1 ⟨rfl, hb1⟩
  have q1 : Hid (w1.heap[w.heap.size]? = some (.cells A 42 (0, 0))) := heap_below hb1 (heap_alloc_new w _)
  have kB := Below.step ((Below.refl _ _).alloc (Nat.le_refl _) _) hb1
  clear hb1
  go_wp2_with (refine wpList_load_row rfl 42 (.tmp 2) rfl w.heap.size rfl 42 A (0, 0) _ q1.out forT rfl (by rw [HAS.out]; exact forI) ?_)
  refine (HTKC.out _).mono ?_
  rintro e w2 ⟨rfl, hb2⟩
  have q2 : Hid (w2.heap[w.heap.size]? = some (.cells A 42 (0, 0))) := heap_below hb2 q1.out
  have kB2 := Below.step kB hb2
  clear hb2 kB q1
  go_wp2_with (first
    | (refine wpList_alloc_row rfl 42 rfl Z0 HZ.out ?_)
    | (refine wpList_store_row rfl 42 (.tmp 5) (.tmp 13) rfl w2.heap.size X rfl rfl 42 Z0 (heap_alloc_new w2 _) (by rw [HXS.out]; exact forI) (by rw [HXS.out, HZS.out]) HX1.out ?_))
  have qG : Hid (((w2.alloc (.cells Z0 42)).setRow w2.heap.size X).heap[w2.heap.size]? = some (.cells X 42 (0, 0))) := setRow_heap _ _ _ _ _ _ (heap_alloc_new w2 _)
  have hlt : w.heap.size < w2.heap.size := heap_lt q2.out
  have qF : Hid (((w2.alloc (.cells Z0 42)).setRow w2.heap.size X).heap[w.heap.size]? = some (.cells A 42 (0, 0))) := heap_setRow_keep (heap_alloc_keep q2.out _) _ _ (by omega)
  have kB3 : Below w.heap.size w ((w2.alloc (.cells Z0 42)).setRow w2.heap.size X) := Below.setRow (kB2.alloc kB2.size _) kB2.size _
  clear hlt q2 kB2
  generalize (w2.alloc (.cells Z0 42)).setRow w2.heap.size X = w3 at *
  generalize w2.heap.size = g at *
  refine (pick_any _ _ _ (by omega) (by omega)).mono ?_
  rw [Hn.out]
  rintro e w' ⟨rfl, rfl⟩
  go_wp2_with fail
  refine wp_region_quiet_below (by kernel_rfl) (by kernel_rfl) ?_
  try simp only [List.append_eq, List.cons_append, List.nil_append]
  refine wpQuiet_load_row rfl 42 (.tmp 5) rfl g rfl 42 X (0, 0) _ (fun _ hw => grown_heap hw qG.out) forT rfl (by rw [HXS.out]; exact forI) ?_
  simp only [Act.put, List.setIfInBounds_toArray, List.set_cons_zero, List.set_cons_succ]
  refine wpQuiet_call 26 #[.tmp 20] #[42] rfl rfl (fun _ _ => by kernel_rfl) #[.agg X] (by kernel_rfl) (.agg T) (fun _ _ => grown_step) (fun w' _ => HTX.out w') ?_
  simp only [Act.put, List.setIfInBounds_toArray, List.set_cons_zero, List.set_cons_succ]
  refine wpQuiet_load_row rfl 42 (.tmp 2) rfl w.heap.size rfl 42 A (0, 0) _ (fun _ hw => grown_heap hw qF.out) forT rfl (by rw [HAS.out]; exact forI) ?_
  simp only [Act.put, List.setIfInBounds_toArray, List.set_cons_zero, List.set_cons_succ]
  refine wpQuiet_call 26 #[.tmp 22] #[42] rfl rfl (fun _ _ => by kernel_rfl) #[.agg A] (by kernel_rfl) (.agg T) (fun _ _ => grown_step) (fun w' _ => HTA.out w') ?_
  simp only [Act.put, List.setIfInBounds_toArray, List.set_cons_zero, List.set_cons_succ]
  refine wpQuiet_run rfl (.bool true) (run_eql_agg 23 23 (.tmp 21) (.tmp 23) rfl T T rfl rfl true (fun W => HTT.out W) setG2) ?_
  simp only [Act.put, List.setIfInBounds_toArray, List.set_cons_zero, List.set_cons_succ]
  refine wpQuiet_move' (.tmp 24) rfl rfl (.bool true) rfl ?_
  simp only [Act.put, List.setIfInBounds_toArray, List.set_cons_zero, List.set_cons_succ]
  go_big_quiet_want
  go_big_quiet_op
  go_big_quiet_on
  go_big_quiet_want
  go_big_quiet_op
  go_big_quiet_on
  refine wpQuiet_load_part rfl 23 (.tmp 27) rfl w.heap.size (16) rfl 42 A E (0, 0) _ (fun _ hw => grown_heap hw qF.out) HEP.out setT rfl (by rw [HES.out]; exact setI) ?_
  simp only [Act.put, List.setIfInBounds_toArray, List.set_cons_zero, List.set_cons_succ]
  refine wpQuiet_move' (.tmp 1) rfl rfl (.int .i64 (n : Int)) rfl ?_
  simp only [Act.put, List.setIfInBounds_toArray, List.set_cons_zero, List.set_cons_succ]
  refine wpQuiet_call 16 #[.tmp 28, .tmp 29] #[23, 3] rfl rfl (fun _ _ => by kernel_rfl) #[.agg E, .int .i64 (n : Int)] (by kernel_rfl) (.bool false) (fun _ _ => grown_step) (fun w' _ => HHE.out w') ?_
  simp only [Act.put, List.setIfInBounds_toArray, List.set_cons_zero, List.set_cons_succ]
  go_big_quiet_want
  go_big_quiet_op
  go_big_quiet_on
  refine wpQuiet_move' (.tmp 31) rfl rfl (.bool true) rfl ?_
  simp only [Act.put, List.setIfInBounds_toArray, List.set_cons_zero, List.set_cons_succ]
  go_big_quiet_skip
  go_big_quiet_skip
  go_big_quiet_skip
  refine wpQuiet_pick _ _ _ rfl rfl true (.bool true) rfl rfl ?_
  simp only [Act.put, List.setIfInBounds_toArray, List.set_cons_zero, List.set_cons_succ]
  refine wpQuiet_pick _ _ _ rfl rfl true (.bool true) rfl rfl ?_
  simp only [Act.put, List.setIfInBounds_toArray, List.set_cons_zero, List.set_cons_succ]
  refine wpQuiet_move' (.tmp 37) rfl rfl (.bool true) rfl ?_
  simp only [Act.put, List.setIfInBounds_toArray, List.set_cons_zero, List.set_cons_succ]
  refine wpQuiet_load_row rfl 42 (.tmp 5) rfl g rfl 42 X (0, 0) _ (fun _ hw => grown_heap hw qG.out) forT rfl (by rw [HXS.out]; exact forI) ?_
  simp only [Act.put, List.setIfInBounds_toArray, List.set_cons_zero, List.set_cons_succ]
  refine wpQuiet_move' (.tmp 1) rfl rfl (.int .i64 (n : Int)) rfl ?_
  simp only [Act.put, List.setIfInBounds_toArray, List.set_cons_zero, List.set_cons_succ]
  refine wpQuiet_call 27 #[.tmp 39, .tmp 40] #[42, 3] rfl rfl (fun _ _ => by kernel_rfl) #[.agg X, .int .i64 (n : Int)] (by kernel_rfl) (.bool true) (fun _ _ => grown_step) (fun w' _ => HSX.out w') ?_
  simp only [Act.put, List.setIfInBounds_toArray, List.set_cons_zero, List.set_cons_succ]
  go_big_quiet_want
  go_big_quiet_op
  go_big_quiet_on
  refine wpQuiet_move' (.tmp 42) rfl rfl (.bool false) rfl ?_
  simp only [Act.put, List.setIfInBounds_toArray, List.set_cons_zero, List.set_cons_succ]
  refine wpQuiet_load_row rfl 42 (.tmp 5) rfl g rfl 42 X (0, 0) _ (fun _ hw => grown_heap hw qG.out) forT rfl (by rw [HXS.out]; exact forI) ?_
  simp only [Act.put, List.setIfInBounds_toArray, List.set_cons_zero, List.set_cons_succ]
  refine wpQuiet_call 26 #[.tmp 44] #[42] rfl rfl (fun _ _ => by kernel_rfl) #[.agg X] (by kernel_rfl) (.agg T) (fun _ _ => grown_step) (fun w' _ => HTX.out w') ?_
  simp only [Act.put, List.setIfInBounds_toArray, List.set_cons_zero, List.set_cons_succ]
  refine wpQuiet_move' (.tmp 1) rfl rfl (.int .i64 (n : Int)) rfl ?_
  simp only [Act.put, List.setIfInBounds_toArray, List.set_cons_zero, List.set_cons_succ]
  refine wpQuiet_call 16 #[.tmp 45, .tmp 46] #[23, 3] rfl rfl (fun _ _ => by kernel_rfl) #[.agg T, .int .i64 (n : Int)] (by kernel_rfl) (.bool true) (fun _ _ => grown_step) (fun w' _ => HHT.out w' Hs.out) ?_
  simp only [Act.put, List.setIfInBounds_toArray, List.set_cons_zero, List.set_cons_succ]
  refine wpQuiet_pick _ _ _ rfl rfl false (.bool true) rfl rfl ?_
  simp only [Act.put, List.setIfInBounds_toArray, List.set_cons_zero, List.set_cons_succ]
  refine wpQuiet_pick _ _ _ rfl rfl true (.bool true) rfl rfl ?_
  simp only [Act.put, List.setIfInBounds_toArray, List.set_cons_zero, List.set_cons_succ]
  refine wpQuiet_move' (.tmp 49) rfl rfl (.bool true) rfl ?_
  simp only [Act.put, List.setIfInBounds_toArray, List.set_cons_zero, List.set_cons_succ]
  refine wpQuiet_load_row rfl 42 (.tmp 5) rfl g rfl 42 X (0, 0) _ (fun _ hw => grown_heap hw qG.out) forT rfl (by rw [HXS.out]; exact forI) ?_
  simp only [Act.put, List.setIfInBounds_toArray, List.set_cons_zero, List.set_cons_succ]
  refine wpQuiet_call 22 #[.tmp 51, .const (.int .i64 256)] #[42, 3] rfl rfl (fun _ _ => by kernel_rfl) #[.agg X, .int .i64 256] (by kernel_rfl) (.int .i64 (x : Int)) (fun _ _ => grown_step) (fun w' _ => HFX.out w') ?_
  simp only [Act.put, List.setIfInBounds_toArray, List.set_cons_zero, List.set_cons_succ]
  refine wpQuiet_load_row rfl 42 (.tmp 5) rfl g rfl 42 X (0, 0) _ (fun _ hw => grown_heap hw qG.out) forT rfl (by rw [HXS.out]; exact forI) ?_
  simp only [Act.put, List.setIfInBounds_toArray, List.set_cons_zero, List.set_cons_succ]
  refine wpQuiet_call 26 #[.tmp 53] #[42] rfl rfl (fun _ _ => by kernel_rfl) #[.agg X] (by kernel_rfl) (.agg T) (fun _ _ => grown_step) (fun w' _ => HTX.out w') ?_
  simp only [Act.put, List.setIfInBounds_toArray, List.set_cons_zero, List.set_cons_succ]
  refine wpQuiet_call 15 #[.tmp 54] #[23] rfl rfl (fun _ _ => by kernel_rfl) #[.agg T] (by kernel_rfl) (.int .i64 (c : Int)) (fun _ _ => grown_step) (fun w' _ => HCT.out w') ?_
  simp only [Act.put, List.setIfInBounds_toArray, List.set_cons_zero, List.set_cons_succ]
  go_big_quiet_want
  go_big_quiet_op
  go_big_quiet_on
  go_big_quiet_want
  go_big_quiet_op
  go_big_quiet_on
  refine wpQuiet_pick _ _ _ rfl rfl true (.bool true) rfl rfl ?_
  simp only [Act.put, List.setIfInBounds_toArray, List.set_cons_zero, List.set_cons_succ]
  refine wpQuiet_assign' (.tmp 58) rfl rfl (.bool true) rfl ?_
  simp only [Act.put, List.setIfInBounds_toArray, List.set_cons_zero, List.set_cons_succ]
  refine wpQuiet_nil ?_
  intro w5 hw5
  go_wp2
  go_ret
  exact ⟨rfl, Below.step kB3 (grown_below hw5)⟩

set_option maxRecDepth 100000 in
set_option maxHeartbeats 4000000 in
theorem snapTaken_no (f f2 : Fo) (A X E T Z0 : Array Value) (HZ0 : Hid (Z0 = encF zeroF)) (HA : Hid (A = encF f)) (HX : Hid (X = encF f2)) (HE : Hid (E = enc (f.hs 0))) (HT : Hid (T = enc (takenS f 4))) (HTE : Hid (takenS f2 4 = takenS f 4)) (k n x c : Nat) (HTK : Hid (takeF f = (f2, k, 0))) (a : Int) (Hn : Hid (pk a 256 = n)) (hn : n < 256)
    (Hh : Hid (f.hs 0 n = false)) (Hs : Hid (sharedS f2 4 n = false)) (Hx : Hid (freeTo (takenS f 4) 256 = x)) (Hc : Hid (cntTo (takenS f 4) 256 = c)) (hc4 : c ≤ 256) (hsum : ((x : Int) == 256 - (c : Int)) = true) (w : World) :
    Calls Try.prog 9 #[.agg A, .int .i64 a] w fun e w' => e = .returned (.bool true) ∧ Below w.heap.size w w' := by
  have HAS : Hid (A.size = 192) := by rw [HA.out]; exact encF_size f
  have HXS : Hid (X.size = 192) := by rw [HX.out]; exact encF_size f2
  have HX1 : Hid (X.all (·.oneCell') = true) := by rw [HX.out]; exact encF_one _
  have HZS : Hid (Z0.size = 192) := by rw [HZ0.out]; exact encF_size _
  have HZ : Hid (∀ w, (zeroValue 42).run Try.prog w = .ok (.agg Z0) w) := by rw [HZ0.out]; exact forZ
  have HES : Hid (E.size = 32) := by rw [HE.out]; exact enc_size _
  have HEP : Hid (∀ j, j < E.size → A[16 + j]? = E[j]?) := by
    have := part_has f 0 (by omega)
    rw [Nat.zero_mul, Nat.zero_add, ← HE.out, ← HA.out] at this; exact this
  have HTA : Hid (∀ W : World, Calls Try.prog 26 #[.agg A] W fun e w' => e = .returned (.agg T) ∧ Below W.heap.size W w') := fun W => by rw [HA.out, HT.out]; exact taken_any f W
  have HTX : Hid (∀ W : World, Calls Try.prog 26 #[.agg X] W fun e w' => e = .returned (.agg T) ∧ Below W.heap.size W w') := fun W => by rw [HX.out, HT.out, ← HTE.out]; exact taken_any f2 W
  have HHE : Hid (∀ W : World, Calls Try.prog 16 #[.agg E, .int .i64 (n : Int)] W fun e w' => e = .returned (.bool false) ∧ Below W.heap.size W w') := fun W => by
    have := has_in (f.hs 0) (n : Int) W (by omega) (by omega)
    rw [Int.toNat_natCast, Hh.out] at this
    rw [HE.out]; exact this
  have HSX : Hid (∀ W : World, Calls Try.prog 27 #[.agg X, .int .i64 (n : Int)] W fun e w' => e = .returned (.bool false) ∧ Below W.heap.size W w') := fun W => by rw [HX.out, ← Hs.out]; exact shared_in f2 n hn W
  have HHT : Hid (∀ W : World, sharedS f2 4 n = true → Calls Try.prog 16 #[.agg T, .int .i64 (n : Int)] W fun e w' => e = .returned (.bool true) ∧ Below W.heap.size W w') := fun W h => by
    have := has_in (takenS f 4) (n : Int) W (by omega) (by omega)
    rw [Int.toNat_natCast, ← HTE.out, taken_shared f2 n h] at this
    rw [HT.out, ← HTE.out]; exact this
  have HFX : Hid (∀ W : World, Calls Try.prog 22 #[.agg X, .int .i64 256] W fun e w' => e = .returned (.int .i64 (x : Int)) ∧ Below W.heap.size W w') := fun W => by
    have := free_any f2 256 W
    rw [HTE.out, show clampS 256 = 256 from rfl, Hx.out] at this
    rw [HX.out]; exact this
  have HCT : Hid (∀ W : World, Calls Try.prog 15 #[.agg T] W fun e w' => e = .returned (.int .i64 (c : Int)) ∧ Below W.heap.size W w') := fun W => by rw [HT.out, ← Hc.out]; exact count_any _ W
  have HTT : Hid (∀ W : World, (Op.equalIn 10000 23 (.agg T) (.agg T)).run Try.prog W = .ok true W) := fun W => by rw [HT.out]; exact run_eql_setS _ W
  have HTKC : Hid (∀ W : World, Calls Try.prog 23 #[.agg A] W fun e w' => e = .returned (.tuple #[.agg X, .int .i64 (k : Int), .int .i64 0]) ∧ Below W.heap.size W w') := fun W => by
    have := take_any f W
    rw [HTK.out] at this
    rw [HA.out, HX.out]; exact this
  go_enter Try.func9, Try.ntmps9
  go_wp2_with fail
  refine (rooted_true _).mono ?_
  rintro e w1 ⟨rfl, hb1⟩
  have q1 : Hid (w1.heap[w.heap.size]? = some (.cells A 42 (0, 0))) := heap_below hb1 (heap_alloc_new w _)
  have kB := Below.step ((Below.refl _ _).alloc (Nat.le_refl _) _) hb1
  clear hb1
  go_wp2_with (refine wpList_load_row rfl 42 (.tmp 2) rfl w.heap.size rfl 42 A (0, 0) _ q1.out forT rfl (by rw [HAS.out]; exact forI) ?_)
  refine (HTKC.out _).mono ?_
  rintro e w2 ⟨rfl, hb2⟩
  have q2 : Hid (w2.heap[w.heap.size]? = some (.cells A 42 (0, 0))) := heap_below hb2 q1.out
  have kB2 := Below.step kB hb2
  clear hb2 kB q1
  go_wp2_with (first
    | (refine wpList_alloc_row rfl 42 rfl Z0 HZ.out ?_)
    | (refine wpList_store_row rfl 42 (.tmp 5) (.tmp 13) rfl w2.heap.size X rfl rfl 42 Z0 (heap_alloc_new w2 _) (by rw [HXS.out]; exact forI) (by rw [HXS.out, HZS.out]) HX1.out ?_))
  have qG : Hid (((w2.alloc (.cells Z0 42)).setRow w2.heap.size X).heap[w2.heap.size]? = some (.cells X 42 (0, 0))) := setRow_heap _ _ _ _ _ _ (heap_alloc_new w2 _)
  have hlt : w.heap.size < w2.heap.size := heap_lt q2.out
  have qF : Hid (((w2.alloc (.cells Z0 42)).setRow w2.heap.size X).heap[w.heap.size]? = some (.cells A 42 (0, 0))) := heap_setRow_keep (heap_alloc_keep q2.out _) _ _ (by omega)
  have kB3 : Below w.heap.size w ((w2.alloc (.cells Z0 42)).setRow w2.heap.size X) := Below.setRow (kB2.alloc kB2.size _) kB2.size _
  clear hlt q2 kB2
  generalize (w2.alloc (.cells Z0 42)).setRow w2.heap.size X = w3 at *
  generalize w2.heap.size = g at *
  refine (pick_any _ _ _ (by omega) (by omega)).mono ?_
  rw [Hn.out]
  rintro e w' ⟨rfl, rfl⟩
  go_wp2_with fail
  refine wp_region_quiet_below (by kernel_rfl) (by kernel_rfl) ?_
  try simp only [List.append_eq, List.cons_append, List.nil_append]
  refine wpQuiet_load_row rfl 42 (.tmp 5) rfl g rfl 42 X (0, 0) _ (fun _ hw => grown_heap hw qG.out) forT rfl (by rw [HXS.out]; exact forI) ?_
  simp only [Act.put, List.setIfInBounds_toArray, List.set_cons_zero, List.set_cons_succ]
  refine wpQuiet_call 26 #[.tmp 20] #[42] rfl rfl (fun _ _ => by kernel_rfl) #[.agg X] (by kernel_rfl) (.agg T) (fun _ _ => grown_step) (fun w' _ => HTX.out w') ?_
  simp only [Act.put, List.setIfInBounds_toArray, List.set_cons_zero, List.set_cons_succ]
  refine wpQuiet_load_row rfl 42 (.tmp 2) rfl w.heap.size rfl 42 A (0, 0) _ (fun _ hw => grown_heap hw qF.out) forT rfl (by rw [HAS.out]; exact forI) ?_
  simp only [Act.put, List.setIfInBounds_toArray, List.set_cons_zero, List.set_cons_succ]
  refine wpQuiet_call 26 #[.tmp 22] #[42] rfl rfl (fun _ _ => by kernel_rfl) #[.agg A] (by kernel_rfl) (.agg T) (fun _ _ => grown_step) (fun w' _ => HTA.out w') ?_
  simp only [Act.put, List.setIfInBounds_toArray, List.set_cons_zero, List.set_cons_succ]
  refine wpQuiet_run rfl (.bool true) (run_eql_agg 23 23 (.tmp 21) (.tmp 23) rfl T T rfl rfl true (fun W => HTT.out W) setG2) ?_
  simp only [Act.put, List.setIfInBounds_toArray, List.set_cons_zero, List.set_cons_succ]
  refine wpQuiet_move' (.tmp 24) rfl rfl (.bool true) rfl ?_
  simp only [Act.put, List.setIfInBounds_toArray, List.set_cons_zero, List.set_cons_succ]
  go_big_quiet_want
  go_big_quiet_op
  go_big_quiet_on
  go_big_quiet_want
  go_big_quiet_op
  go_big_quiet_on
  refine wpQuiet_load_part rfl 23 (.tmp 27) rfl w.heap.size (16) rfl 42 A E (0, 0) _ (fun _ hw => grown_heap hw qF.out) HEP.out setT rfl (by rw [HES.out]; exact setI) ?_
  simp only [Act.put, List.setIfInBounds_toArray, List.set_cons_zero, List.set_cons_succ]
  refine wpQuiet_move' (.tmp 1) rfl rfl (.int .i64 (n : Int)) rfl ?_
  simp only [Act.put, List.setIfInBounds_toArray, List.set_cons_zero, List.set_cons_succ]
  refine wpQuiet_call 16 #[.tmp 28, .tmp 29] #[23, 3] rfl rfl (fun _ _ => by kernel_rfl) #[.agg E, .int .i64 (n : Int)] (by kernel_rfl) (.bool false) (fun _ _ => grown_step) (fun w' _ => HHE.out w') ?_
  simp only [Act.put, List.setIfInBounds_toArray, List.set_cons_zero, List.set_cons_succ]
  go_big_quiet_want
  go_big_quiet_op
  go_big_quiet_on
  refine wpQuiet_move' (.tmp 31) rfl rfl (.bool true) rfl ?_
  simp only [Act.put, List.setIfInBounds_toArray, List.set_cons_zero, List.set_cons_succ]
  go_big_quiet_skip
  go_big_quiet_skip
  go_big_quiet_skip
  refine wpQuiet_pick _ _ _ rfl rfl true (.bool true) rfl rfl ?_
  simp only [Act.put, List.setIfInBounds_toArray, List.set_cons_zero, List.set_cons_succ]
  refine wpQuiet_pick _ _ _ rfl rfl true (.bool true) rfl rfl ?_
  simp only [Act.put, List.setIfInBounds_toArray, List.set_cons_zero, List.set_cons_succ]
  refine wpQuiet_move' (.tmp 37) rfl rfl (.bool true) rfl ?_
  simp only [Act.put, List.setIfInBounds_toArray, List.set_cons_zero, List.set_cons_succ]
  refine wpQuiet_load_row rfl 42 (.tmp 5) rfl g rfl 42 X (0, 0) _ (fun _ hw => grown_heap hw qG.out) forT rfl (by rw [HXS.out]; exact forI) ?_
  simp only [Act.put, List.setIfInBounds_toArray, List.set_cons_zero, List.set_cons_succ]
  refine wpQuiet_move' (.tmp 1) rfl rfl (.int .i64 (n : Int)) rfl ?_
  simp only [Act.put, List.setIfInBounds_toArray, List.set_cons_zero, List.set_cons_succ]
  refine wpQuiet_call 27 #[.tmp 39, .tmp 40] #[42, 3] rfl rfl (fun _ _ => by kernel_rfl) #[.agg X, .int .i64 (n : Int)] (by kernel_rfl) (.bool false) (fun _ _ => grown_step) (fun w' _ => HSX.out w') ?_
  simp only [Act.put, List.setIfInBounds_toArray, List.set_cons_zero, List.set_cons_succ]
  go_big_quiet_want
  go_big_quiet_op
  go_big_quiet_on
  refine wpQuiet_move' (.tmp 42) rfl rfl (.bool true) rfl ?_
  simp only [Act.put, List.setIfInBounds_toArray, List.set_cons_zero, List.set_cons_succ]
  go_big_quiet_skip
  go_big_quiet_skip
  go_big_quiet_skip
  go_big_quiet_skip
  refine wpQuiet_pick _ _ _ rfl rfl true (.bool true) rfl rfl ?_
  simp only [Act.put, List.setIfInBounds_toArray, List.set_cons_zero, List.set_cons_succ]
  refine wpQuiet_pick _ _ _ rfl rfl true (.bool true) rfl rfl ?_
  simp only [Act.put, List.setIfInBounds_toArray, List.set_cons_zero, List.set_cons_succ]
  refine wpQuiet_move' (.tmp 49) rfl rfl (.bool true) rfl ?_
  simp only [Act.put, List.setIfInBounds_toArray, List.set_cons_zero, List.set_cons_succ]
  refine wpQuiet_load_row rfl 42 (.tmp 5) rfl g rfl 42 X (0, 0) _ (fun _ hw => grown_heap hw qG.out) forT rfl (by rw [HXS.out]; exact forI) ?_
  simp only [Act.put, List.setIfInBounds_toArray, List.set_cons_zero, List.set_cons_succ]
  refine wpQuiet_call 22 #[.tmp 51, .const (.int .i64 256)] #[42, 3] rfl rfl (fun _ _ => by kernel_rfl) #[.agg X, .int .i64 256] (by kernel_rfl) (.int .i64 (x : Int)) (fun _ _ => grown_step) (fun w' _ => HFX.out w') ?_
  simp only [Act.put, List.setIfInBounds_toArray, List.set_cons_zero, List.set_cons_succ]
  refine wpQuiet_load_row rfl 42 (.tmp 5) rfl g rfl 42 X (0, 0) _ (fun _ hw => grown_heap hw qG.out) forT rfl (by rw [HXS.out]; exact forI) ?_
  simp only [Act.put, List.setIfInBounds_toArray, List.set_cons_zero, List.set_cons_succ]
  refine wpQuiet_call 26 #[.tmp 53] #[42] rfl rfl (fun _ _ => by kernel_rfl) #[.agg X] (by kernel_rfl) (.agg T) (fun _ _ => grown_step) (fun w' _ => HTX.out w') ?_
  simp only [Act.put, List.setIfInBounds_toArray, List.set_cons_zero, List.set_cons_succ]
  refine wpQuiet_call 15 #[.tmp 54] #[23] rfl rfl (fun _ _ => by kernel_rfl) #[.agg T] (by kernel_rfl) (.int .i64 (c : Int)) (fun _ _ => grown_step) (fun w' _ => HCT.out w') ?_
  simp only [Act.put, List.setIfInBounds_toArray, List.set_cons_zero, List.set_cons_succ]
  go_big_quiet_want
  go_big_quiet_op
  go_big_quiet_on
  go_big_quiet_want
  go_big_quiet_op
  go_big_quiet_on
  refine wpQuiet_pick _ _ _ rfl rfl true (.bool true) rfl rfl ?_
  simp only [Act.put, List.setIfInBounds_toArray, List.set_cons_zero, List.set_cons_succ]
  refine wpQuiet_assign' (.tmp 58) rfl rfl (.bool true) rfl ?_
  simp only [Act.put, List.setIfInBounds_toArray, List.set_cons_zero, List.set_cons_succ]
  refine wpQuiet_nil ?_
  intro w5 hw5
  go_wp2
  go_ret
  exact ⟨rfl, Below.step kB3 (grown_below hw5)⟩

set_option maxRecDepth 100000 in
set_option maxHeartbeats 4000000 in
theorem snapTaken_none (f f2 : Fo) (A X Z0 : Array Value) (HZ0 : Hid (Z0 = encF zeroF)) (HA : Hid (A = encF f)) (HX : Hid (X = encF f2)) (k : Nat) (c : Int) (_hc : (c == 0) = false) (hc2 : (c != 0) = true) (HTK : Hid (takeF f = (f2, k, c))) (a : Int) (w : World) :
    Calls Try.prog 9 #[.agg A, .int .i64 a] w fun e w' => e = .returned (.bool true) ∧ Below w.heap.size w w' := by
  have HAS : Hid (A.size = 192) := by rw [HA.out]; exact encF_size f
  have HXS : Hid (X.size = 192) := by rw [HX.out]; exact encF_size f2
  have HX1 : Hid (X.all (·.oneCell') = true) := by rw [HX.out]; exact encF_one _
  have HZS : Hid (Z0.size = 192) := by rw [HZ0.out]; exact encF_size _
  have HZ : Hid (∀ w, (zeroValue 42).run Try.prog w = .ok (.agg Z0) w) := by rw [HZ0.out]; exact forZ
  have HTKC : Hid (∀ W : World, Calls Try.prog 23 #[.agg A] W fun e w' => e = .returned (.tuple #[.agg X, .int .i64 (k : Int), .int .i64 c]) ∧ Below W.heap.size W w') := fun W => by
    have := take_any f W
    rw [HTK.out] at this
    rw [HA.out, HX.out]; exact this
  go_enter Try.func9, Try.ntmps9
  go_wp2_with fail
  refine (rooted_true _).mono ?_
  rintro e w1 ⟨rfl, hb1⟩
  have q1 : Hid (w1.heap[w.heap.size]? = some (.cells A 42 (0, 0))) := heap_below hb1 (heap_alloc_new w _)
  have kB := Below.step ((Below.refl _ _).alloc (Nat.le_refl _) _) hb1
  clear hb1
  go_wp2_with (refine wpList_load_row rfl 42 (.tmp 2) rfl w.heap.size rfl 42 A (0, 0) _ q1.out forT rfl (by rw [HAS.out]; exact forI) ?_)
  refine (HTKC.out _).mono ?_
  rintro e w2 ⟨rfl, hb2⟩
  have kB2 := Below.step kB hb2
  clear hb2 kB q1
  go_wp2_with (first
    | (refine wpList_alloc_row rfl 42 rfl Z0 HZ.out ?_)
    | (refine wpList_store_row rfl 42 (.tmp 5) (.tmp 13) rfl w2.heap.size X rfl rfl 42 Z0 (heap_alloc_new w2 _) (by rw [HXS.out]; exact forI) (by rw [HXS.out, HZS.out]) HX1.out ?_))
  go_ret
  exact ⟨rfl, Below.setRow (kB2.alloc kB2.size _) kB2.size _⟩

theorem takeF_cases (f : Fo) : (∃ k c, takeF f = (zeroF, k, c) ∧ (c == 0) = false ∧ (c != 0) = true) ∨ (∃ k, takeF f = (putT f k, k, 0) ∧ 1 ≤ k ∧ k < 4 ∧ thereB f 0 = true ∧ thereB f k = false) := by
  unfold takeF
  by_cases h0 : thereB f 0 = true
  · rw [if_pos h0]
    unfold takeK
    by_cases h1 : thereB f 1 = false
    · rw [if_pos h1]; exact Or.inr ⟨1, rfl, by omega, by omega, h0, h1⟩
    · rw [if_neg h1]
      by_cases h2 : thereB f 2 = false
      · rw [if_pos h2]; exact Or.inr ⟨2, rfl, by omega, by omega, h0, h2⟩
      · rw [if_neg h2]
        by_cases h3 : thereB f 3 = false
        · rw [if_pos h3]; exact Or.inr ⟨3, rfl, by omega, by omega, h0, h3⟩
        · rw [if_neg h3]; exact Or.inl ⟨0, 6, rfl, rfl, rfl⟩
  · rw [if_neg h0]; exact Or.inl ⟨0, 4, rfl, rfl, rfl⟩

theorem snapTaken_true (f : Fo) (a : Int) (w : World) :
    Calls Try.prog 9 #[.agg (encF f), .int .i64 a] w fun e w' => e = .returned (.bool true) ∧ Below w.heap.size w w' := by
  have ha := pk_range a 256 (by omega) (by omega)
  obtain ⟨n, hn⟩ := Int.eq_ofNat_of_zero_le ha.1
  rcases takeF_cases f with ⟨k, c, ht, h1, h2⟩ | ⟨k, ht, h1, h4, h0, hk⟩
  · exact snapTaken_none f _ _ _ _ rfl rfl rfl k c h1 h2 ht a w
  · have hte := takenS_put f k h1 h4 h0 hk
    have hs0 := free_count (takenS f 4) 256
    have hc4 : cntTo (takenS f 4) 256 ≤ 256 := by omega
    have hs : ((freeTo (takenS f 4) 256 : Int) == 256 - (cntTo (takenS f 4) 256 : Int)) = true := by rw [beq_iff_eq]; omega
    cases hh : f.hs 0 n with
    | true => exact snapTaken_yes f (putT f k) _ _ _ _ _ rfl rfl rfl rfl rfl hte k n _ _ ht a hn (by omega) hh (sharedS_put f k n h1 h4 h0 hh) rfl rfl hc4 hs w
    | false =>
      cases hsh : sharedS (putT f k) 4 n with
      | true => exact snapTaken_one f (putT f k) _ _ _ _ _ rfl rfl rfl rfl rfl hte k n _ _ ht a hn (by omega) hh hsh rfl rfl hc4 hs w
      | false => exact snapTaken_no f (putT f k) _ _ _ _ _ rfl rfl rfl rfl rfl hte k n _ _ ht a hn (by omega) hh hsh rfl rfl hc4 hs w

-- CLOSING

set_option maxRecDepth 100000 in
theorem snapTaken_lifted (os : Os) (started : os.Started) (H : Type) (enc' : TypeId × Value → H) :
    ReturnsInHanded {} Try.checked os 9 .any (Rows.snapTakenSpec.pre6 enc' Try.prog Try.f9 Rows.snapTakenRow.domain false) (Rows.snapTakenSpec.post enc' Try.prog Try.f9 false true false false) := by
  refine returnsInHanded_of_change (C := Try.checked) Try.own started (by kernel_rfl) Try.func9
    (ChangeSpec.witness6 (enc := enc') (C := Try.checked) false ⟨#[], #[.agg (Array.ofFn (n := 192) fun i => if i.val % 48 < 16 then .int .i64 0 else .int .u8 0), .int .i64 0], []⟩ 8 (by kernel_rfl) (by kernel_rfl) (by kernel_rfl) (by kernel_rfl)) ?_
  intro W base args ds gs before hval0 hW hcnd _
  have hval : ∀ (j : Nat) t v, Try.f9.params[j]? = some t → args[j]? = some v → Value.okWide Try.prog W .any base t v := hval0
  have hW' := hW
  obtain ⟨p, q, hA0, hV, rfl, hfz, hnd⟩ := hW
  have hA : DataW.TrodAll enc' Try.prog W 0 (fun _ => true) true Try.f9.params.toList args.toList ds p := hA0
  rw [Try.params9] at hA hval
  obtain ⟨v0, v1, d0, d1, p0, p1, rfl, rfl, rfl, h0, h1⟩ := trodAll_two hA
  obtain ⟨rfl, rfl⟩ := trodVars_none hV
  obtain ⟨f, rfl⟩ := open_for (hval 0 42 v0 rfl rfl) h0
  obtain ⟨a, rfl, rfl, rfl, wa⟩ := open_int Try.underlying3 (hval 1 3 v1 rfl rfl) h1
  clear hA0 hval0
  refine (snapTaken_true f a W).mono fun e W' ⟨he, hw⟩ => ?_
  subst he
  exact ⟨_, rfl, law_post 4 Try.laidOut (by kernel_rfl) rfl rfl Try.underlying4 hW' rfl hw⟩

theorem snapTaken_holds : Rows.SnapTakenSaid :=
  OpenClaim.holds_of_wide 9 Try.f9 rfl rfl rfl rfl rfl rfl rfl ⟨rfl, rfl, rfl, rfl, rfl⟩ rfl rfl rfl rfl rfl (by kernel_rfl) Try.func9 (by kernel_rfl)
    (of_decide_eq_true (by kernel_rfl)) (by unfold Func.isWrapper; first | (rw [if_pos (by decide +kernel)]; kernel_rfl) | (rw [if_neg (by decide +kernel)]; exact ⟨rfl, rfl⟩))
    (fun os started H enc _ => snapTaken_lifted os started H enc)

end Go.Proofs.Ytnmfbhiooccgfaa
