/- SnapTakes: for all forests the statement returns true and leaves its argument alone. No conditions. -/
import Derived.Test.YtnmfbhiooccgfaaSnapTakes0
namespace Go.Proofs.Ytnmfbhiooccgfaa
open Go.ChangeShapes Go.WideShapes Go.ChangeAt Go.RowKit

set_option maxRecDepth 100000 in
set_option maxHeartbeats 8000000 in
theorem snapTakes_some (f : Fo) (k : Nat) (hk1 : 1 ≤ k) (hk4 : k < 4) (A X Z0 T0 N Q : Array Value) (HZ0 : Hid (Z0 = encF zeroF)) (HA : Hid (A = encF f)) (HX : Hid (X = encF (putT f k))) (HT0 : Hid (T0 = encT f 0)) (HN : Hid (N = encT zeroF 0)) (HQ : Hid (Q = encF (delT f k))) (HTK : Hid (takeF f = (putT f k, k, 0))) (H0 : Hid (thereB f 0 = true)) (Hk : Hid (thereB f k = false)) (w : World) :
    Calls Try.prog 8 #[.agg A] w fun e w' => e = .returned (.bool true) ∧ Below w.heap.size w w' := by
  have hlt2 : (k : Int) < 4 := by omega
  have hk0 : (0 : Int) ≤ (k : Int) := by omega
  have hk2 : decide ((k : Int) < 1) = false := decide_eq_false (by omega)
  have hk3 : decide (4 ≤ (k : Int)) = false := decide_eq_false (by omega)
  have HAS : Hid (A.size = 192) := by rw [HA.out]; exact encF_size f
  have HXS : Hid (X.size = 192) := by rw [HX.out]; exact encF_size _
  have HX1 : Hid (X.all (·.oneCell') = true) := by rw [HX.out]; exact encF_one _
  have HZS : Hid (Z0.size = 192) := by rw [HZ0.out]; exact encF_size _
  have HZ : Hid (∀ w, (zeroValue 42).run Try.prog w = .ok (.agg Z0) w) := by rw [HZ0.out]; exact forZ
  have HTS : Hid (T0.size = 48) := by rw [HT0.out]; exact encT_size _ _
  have HNS : Hid (N.size = 48) := by rw [HN.out]; exact encT_size _ _
  have HN1 : Hid (N.all (·.oneCell') = true) := by rw [HN.out]; exact encT_one _ _
  have HNZ : Hid (∀ w, (zeroValue 40).run Try.prog w = .ok (.agg N) w) := by rw [HN.out]; exact treeZ
  have HQS : Hid (Q.size = 192) := by rw [HQ.out]; exact encF_size _
  have HQ1 : Hid (Q.all (·.oneCell') = true) := by rw [HQ.out]; exact encF_one _
  have HA1 : Hid (A.all (·.oneCell') = true) := by rw [HA.out]; exact encF_one _
  have HPQ : Hid ((A.toList.take (k * 48) ++ N.toList ++ A.toList.drop (k * 48 + N.size)).toArray = Q) := by rw [HA.out, HN.out, HQ.out]; exact put_zero f k hk4
  have HXK : Hid (∀ j, j < T0.size → X[k * 48 + j]? = T0[j]?) := by
    have := part_tree (putT f k) k hk4
    rw [HX.out, HT0.out]
    rw [show encT (putT f k) k = encT f 0 from by unfold encT cellF putT; simp only [if_true]] at this; exact this
  have HA0 : Hid (∀ j, j < T0.size → A[0 + j]? = T0[j]?) := by
    have := part_tree f 0 (by omega)
    rw [Nat.zero_mul, ← HT0.out, ← HA.out] at this; exact this
  have HTT : Hid (∀ W : World, (Op.equalIn 10000 40 (.agg T0) (.agg T0)).run Try.prog W = .ok true W) := fun W => by rw [HT0.out]; exact run_eql_trees f f 0 0 rfl W
  have HQQ : Hid (∀ W : World, (Op.equalIn 10000 42 (.agg Q) (.agg Q)).run Try.prog W = .ok true W) := fun W => by rw [HQ.out]; exact run_eql_fors _ W
  have HTH : Hid (∀ W : World, Calls Try.prog 24 #[.agg A, .int .i64 (k : Int)] W fun e w' => e = .returned (.bool false) ∧ Below W.heap.size W w') := fun W => by rw [HA.out, ← Hk.out]; exact there_in f k W hk4
  have HFG : Hid (∀ W : World, Calls Try.prog 25 #[.agg X, .int .i64 (k : Int)] W fun e w' => e = .returned (.tuple #[.agg Q, .int .i64 0]) ∧ Below W.heap.size W w') := fun W => by
    rw [HX.out, HQ.out, ← del_put]; exact forget_in (putT f k) k hk1 hk4 (by rw [there_put]; exact H0.out) W
  have HTKC : Hid (∀ W : World, Calls Try.prog 23 #[.agg A] W fun e w' => e = .returned (.tuple #[.agg X, .int .i64 (k : Int), .int .i64 0]) ∧ Below W.heap.size W w') := fun W => by
    have := take_any f W
    rw [HTK.out] at this
    rw [HX.out, HA.out]; exact this
  go_enter Try.func8, Try.ntmps8
  go_wp2_with fail
  refine (rooted_true _).mono ?_
  rintro e w1 ⟨rfl, hb1⟩
  have q1 : Hid (w1.heap[w.heap.size]? = some (.cells A 42 (0, 0))) := heap_below hb1 (heap_alloc_new w _)
  have kB := Below.step ((Below.refl _ _).alloc (Nat.le_refl _) _) hb1
  clear hb1
  go_wp2_with (refine wpList_load_row rfl 42 (.tmp 1) rfl w.heap.size rfl 42 A (0, 0) _ q1.out forT rfl (by rw [HAS.out]; exact forI) ?_)
  refine (HTKC.out _).mono ?_
  rintro e w2 ⟨rfl, hb2⟩
  have q2 : Hid (w2.heap[w.heap.size]? = some (.cells A 42 (0, 0))) := heap_below hb2 q1.out
  have kB2 := Below.step kB hb2
  clear hb2 kB q1
  have qG : Hid (((w2.alloc (.cells Z0 42)).setRow w2.heap.size X).heap[w2.heap.size]? = some (.cells X 42 (0, 0))) := setRow_heap _ _ _ _ _ _ (heap_alloc_new w2 _)
  have hlt : w.heap.size < w2.heap.size := heap_lt q2.out
  have qF : Hid (((w2.alloc (.cells Z0 42)).setRow w2.heap.size X).heap[w.heap.size]? = some (.cells A 42 (0, 0))) := heap_setRow_keep (heap_alloc_keep q2.out _) _ _ (by omega)
  have kB3 : Below w.heap.size w ((w2.alloc (.cells Z0 42)).setRow w2.heap.size X) := Below.setRow (kB2.alloc kB2.size _) kB2.size _
  go_wp2_with (first
    | (refine wpList_alloc_row rfl 42 rfl Z0 HZ.out ?_)
    | (refine wpList_store_row rfl 42 (.tmp 3) (.tmp 14) rfl w2.heap.size X rfl rfl 42 Z0 (heap_alloc_new w2 _) (by rw [HXS.out]; exact forI) (by rw [HXS.out, HZS.out]) HX1.out ?_))
  clear q2 kB2
  generalize (w2.alloc (.cells Z0 42)).setRow w2.heap.size X = w3 at *
  generalize w2.heap.size = g at *
  have hg0 : g ≠ w.heap.size := by omega
  have HG0 := Lib.hid hg0
  clear hg0 hlt
  refine wp_region_quiet_below (by kernel_rfl) (by kernel_rfl) ?_
  try simp only [List.append_eq, List.cons_append, List.nil_append]
  refine wpQuiet_move' (.tmp 4) rfl rfl (.int .i64 (k : Int)) rfl ?_
  simp only [Act.put, List.setIfInBounds_toArray, List.set_cons_zero, List.set_cons_succ]
  go_big_quiet_want
  go_big_quiet_op
  go_big_quiet_on
  refine wpQuiet_move' (.tmp 44) rfl rfl (.bool false) rfl ?_
  simp only [Act.put, List.setIfInBounds_toArray, List.set_cons_zero, List.set_cons_succ]
  refine wpQuiet_move' (.tmp 4) rfl rfl (.int .i64 (k : Int)) rfl ?_
  simp only [Act.put, List.setIfInBounds_toArray, List.set_cons_zero, List.set_cons_succ]
  go_big_quiet_want
  go_big_quiet_op
  go_big_quiet_on
  refine wpQuiet_pick _ _ _ rfl rfl false (.bool false) rfl rfl ?_
  simp only [Act.put, List.setIfInBounds_toArray, List.set_cons_zero, List.set_cons_succ]
  refine wpQuiet_move' (.tmp 48) rfl rfl (.bool false) rfl ?_
  simp only [Act.put, List.setIfInBounds_toArray, List.set_cons_zero, List.set_cons_succ]
  refine wpQuiet_load_row rfl 42 (.tmp 1) rfl w.heap.size rfl 42 A (0, 0) _ (fun _ hw => grown_heap hw qF.out) forT rfl (by rw [HAS.out]; exact forI) ?_
  simp only [Act.put, List.setIfInBounds_toArray, List.set_cons_zero, List.set_cons_succ]
  refine wpQuiet_move' (.tmp 4) rfl rfl (.int .i64 (k : Int)) rfl ?_
  simp only [Act.put, List.setIfInBounds_toArray, List.set_cons_zero, List.set_cons_succ]
  refine wpQuiet_call 24 #[.tmp 50, .tmp 51] #[42, 3] rfl rfl (fun _ _ => by kernel_rfl) #[.agg A, .int .i64 (k : Int)] (by kernel_rfl) (.bool false) (fun _ _ => grown_step) (fun w' _ => HTH.out w') ?_
  simp only [Act.put, List.setIfInBounds_toArray, List.set_cons_zero, List.set_cons_succ]
  refine wpQuiet_pick _ _ _ rfl rfl false (.bool false) rfl rfl ?_
  simp only [Act.put, List.setIfInBounds_toArray, List.set_cons_zero, List.set_cons_succ]
  refine wpQuiet_move' (.tmp 53) rfl rfl (.bool false) rfl ?_
  simp only [Act.put, List.setIfInBounds_toArray, List.set_cons_zero, List.set_cons_succ]
  refine wpQuiet_move' (.tmp 4) rfl rfl (.int .i64 (k : Int)) rfl ?_
  simp only [Act.put, List.setIfInBounds_toArray, List.set_cons_zero, List.set_cons_succ]
  go_big_quiet_want
  go_big_quiet_op
  go_big_quiet_on
  refine wpQuiet_load_part rfl 40 (.tmp 56) rfl g (k * 48) rfl 42 X T0 (0, 0) _ (fun _ hw => grown_heap hw qG.out) HXK.out Try.underlying40 rfl (by rw [HTS.out]; exact treeI) ?_
  simp only [Act.put, List.setIfInBounds_toArray, List.set_cons_zero, List.set_cons_succ]
  go_big_quiet_want
  go_big_quiet_op
  go_big_quiet_on
  refine wpQuiet_load_part rfl 40 (.tmp 58) rfl w.heap.size (0) rfl 42 A T0 (0, 0) _ (fun _ hw => grown_heap hw qF.out) HA0.out Try.underlying40 rfl (by rw [HTS.out]; exact treeI) ?_
  simp only [Act.put, List.setIfInBounds_toArray, List.set_cons_zero, List.set_cons_succ]
  refine wpQuiet_run rfl (.bool false) (run_neq_agg 40 40 (.tmp 57) (.tmp 59) rfl T0 T0 rfl rfl true HTT.out treG) ?_
  simp only [Act.put, List.setIfInBounds_toArray, List.set_cons_zero, List.set_cons_succ]
  refine wpQuiet_pick _ _ _ rfl rfl false (.bool false) rfl rfl ?_
  simp only [Act.put, List.setIfInBounds_toArray, List.set_cons_zero, List.set_cons_succ]
  refine wpQuiet_nil ?_
  intro w5 hw5
  have qF5 : Hid (w5.heap[w.heap.size]? = some (.cells A 42 (0, 0))) := heap_below (grown_below hw5) qF.out
  have qG5 : Hid (w5.heap[g]? = some (.cells X 42 (0, 0))) := heap_below (grown_below hw5) qG.out
  have kB5 := Below.step kB3 (grown_below hw5)
  clear hw5 qF qG kB3
  go_wp2
  go_loopw [62, 6] (fun i _ wr => ∃ j : Nat, j ≤ 4 ∧ i = .int .i64 j ∧ Hid (wr.heap[w.heap.size]? = some (.cells A 42 (0, 0))) ∧ Hid (wr.heap[g]? = some (.cells X 42 (0, 0))) ∧ Below w.heap.size w wr) (fun i _ _ => 4 - (intOf i).toNat)
  case atStart => exact ⟨0, by omega, rfl, qF5, qG5, kB5⟩
  case round =>
    obtain ⟨j, hj, rfl, qF, qG, kB⟩ := hrel
    by_cases hjl : j < 4
    · have hj2 : (j : Int) < 4 := by omega
      have hj0 : (0 : Int) ≤ (j : Int) := by omega
      by_cases hjk : j = k
      · have hkj : k = j := hjk.symm
        clear hjk
        subst hkj
        go_wp2
        refine wp_region_quiet_below (by kernel_rfl) (by kernel_rfl) ?_
        refine wpQuiet_move' (.tmp 6) rfl rfl (.int .i64 (k : Int)) rfl ?_
        simp only [Act.put, List.setIfInBounds_toArray, List.set_cons_zero, List.set_cons_succ]
        refine wpQuiet_move' (.tmp 4) rfl rfl (.int .i64 (k : Int)) rfl ?_
        simp only [Act.put, List.setIfInBounds_toArray, List.set_cons_zero, List.set_cons_succ]
        go_big_quiet_want
        go_big_quiet_op
        go_big_quiet_on
        refine wpQuiet_move' (.tmp 67) rfl rfl (.bool false) rfl ?_
        simp only [Act.put, List.setIfInBounds_toArray, List.set_cons_zero, List.set_cons_succ]
        go_big_quiet_skip
        go_big_quiet_skip
        go_big_quiet_skip
        go_big_quiet_skip
        go_big_quiet_skip
        go_big_quiet_skip
        go_big_quiet_skip
        refine wpQuiet_pick _ _ _ rfl rfl false (.bool false) rfl rfl ?_
        simp only [Act.put, List.setIfInBounds_toArray, List.set_cons_zero, List.set_cons_succ]
        refine wpQuiet_nil ?_
        intro w6 hw6
        have qF6 : Hid (w6.heap[w.heap.size]? = some (.cells A 42 (0, 0))) := heap_below (grown_below hw6) qF.out
        have qG6 : Hid (w6.heap[g]? = some (.cells X 42 (0, 0))) := heap_below (grown_below hw6) qG.out
        have kB6 := Below.step kB (grown_below hw6)
        clear hw6
        go_wp2
        go_roundw
        case rel => exact ⟨k + 1, by omega, by go_num, qF6, qG6, kB6⟩
        case measure => simp [intOf]; omega
      · have e0 : ((j : Int) != (k : Int)) = true := by simp; omega
        have e1 : (j != k) = true := by simpa using hjk
        have e2 : (j == k) = false := by simpa using hjk
        have e3 : decide (j = k) = false := by simpa using hjk
        obtain ⟨T, HT⟩ : ∃ T, Hid (T = encT f j) := ⟨_, rfl⟩
        have HJS : Hid (T.size = 48) := by rw [HT.out]; exact encT_size _ _
        have HJT : Hid (∀ W : World, (Op.equalIn 10000 40 (.agg T) (.agg T)).run Try.prog W = .ok true W) := fun W => by rw [HT.out]; exact run_eql_trees f f j j rfl W
        have HAJ : Hid (∀ i, i < T.size → A[j * 48 + i]? = T[i]?) := by rw [HT.out, HA.out]; exact part_tree f j hjl
        have HXJ : Hid (∀ i, i < T.size → X[j * 48 + i]? = T[i]?) := by
          have := part_tree (putT f k) j hjl
          rw [show encT (putT f k) j = encT f j from by unfold encT cellF putT; simp only [if_neg hjk]] at this
          rw [HX.out, HT.out]; exact this
        have HJK := Lib.hid hjk
        clear hjk
        go_wp2
        refine wp_region_quiet_below (by kernel_rfl) (by kernel_rfl) ?_
        refine wpQuiet_move' (.tmp 6) rfl rfl (.int .i64 (j : Int)) rfl ?_
        simp only [Act.put, List.setIfInBounds_toArray, List.set_cons_zero, List.set_cons_succ]
        refine wpQuiet_move' (.tmp 4) rfl rfl (.int .i64 (k : Int)) rfl ?_
        simp only [Act.put, List.setIfInBounds_toArray, List.set_cons_zero, List.set_cons_succ]
        go_big_quiet_want
        go_big_quiet_op
        go_big_quiet_on
        refine wpQuiet_move' (.tmp 67) rfl rfl (.bool true) rfl ?_
        simp only [Act.put, List.setIfInBounds_toArray, List.set_cons_zero, List.set_cons_succ]
        refine wpQuiet_move' (.tmp 6) rfl rfl (.int .i64 (j : Int)) rfl ?_
        simp only [Act.put, List.setIfInBounds_toArray, List.set_cons_zero, List.set_cons_succ]
        go_big_quiet_want
        go_big_quiet_op
        go_big_quiet_on
        refine wpQuiet_load_part rfl 40 (.tmp 70) rfl g (j * 48) rfl 42 X T (0, 0) _ (fun _ hw => grown_heap hw qG.out) HXJ.out Try.underlying40 rfl (by rw [HJS.out]; exact treeI) ?_
        simp only [Act.put, List.setIfInBounds_toArray, List.set_cons_zero, List.set_cons_succ]
        refine wpQuiet_move' (.tmp 6) rfl rfl (.int .i64 (j : Int)) rfl ?_
        simp only [Act.put, List.setIfInBounds_toArray, List.set_cons_zero, List.set_cons_succ]
        go_big_quiet_want
        go_big_quiet_op
        go_big_quiet_on
        refine wpQuiet_load_part rfl 40 (.tmp 73) rfl w.heap.size (j * 48) rfl 42 A T (0, 0) _ (fun _ hw => grown_heap hw qF.out) HAJ.out Try.underlying40 rfl (by rw [HJS.out]; exact treeI) ?_
        simp only [Act.put, List.setIfInBounds_toArray, List.set_cons_zero, List.set_cons_succ]
        refine wpQuiet_run rfl (.bool false) (run_neq_agg 40 40 (.tmp 71) (.tmp 74) rfl T T rfl rfl true HJT.out treG) ?_
        simp only [Act.put, List.setIfInBounds_toArray, List.set_cons_zero, List.set_cons_succ]
        refine wpQuiet_pick _ _ _ rfl rfl true (.bool false) rfl rfl ?_
        simp only [Act.put, List.setIfInBounds_toArray, List.set_cons_zero, List.set_cons_succ]
        refine wpQuiet_nil ?_
        intro w6 hw6
        have qF6 : Hid (w6.heap[w.heap.size]? = some (.cells A 42 (0, 0))) := heap_below (grown_below hw6) qF.out
        have qG6 : Hid (w6.heap[g]? = some (.cells X 42 (0, 0))) := heap_below (grown_below hw6) qG.out
        have kB6 := Below.step kB (grown_below hw6)
        clear hw6
        go_wp2
        go_roundw
        case rel => exact ⟨j + 1, by omega, by go_num, qF6, qG6, kB6⟩
        case measure => simp [intOf]; omega
    · obtain rfl : j = 4 := by omega
      have hge : ¬ ((4 : Int) < 4) := by omega
      go_wp2_with (refine wpList_load_row rfl 42 (.tmp 3) rfl g rfl 42 X (0, 0) _ qG.out forT rfl (by rw [HXS.out]; exact forI) ?_)
      refine (HFG.out _).mono ?_
      rintro e w7 ⟨rfl, hb7⟩
      have qF7 : Hid (w7.heap[w.heap.size]? = some (.cells A 42 (0, 0))) := heap_below hb7 qF.out
      have kB7 := Below.step kB hb7
      clear hb7 qF qG kB
      have hlt7 : w.heap.size < w7.heap.size := heap_lt qF7.out
      obtain ⟨w8, hw8⟩ : ∃ w8, w8 = (w7.alloc (.cells Z0 42)).setRow w7.heap.size Q := ⟨_, rfl⟩
      have hs8 : w8.heap.size = w7.heap.size + 1 := by rw [hw8]; simp
      have qF8 : Hid (w8.heap[w.heap.size]? = some (.cells A 42 (0, 0))) := by rw [hw8]; exact heap_setRow_keep (heap_alloc_keep qF7.out _) _ _ (by omega)
      have qH8 : Hid (w8.heap[w7.heap.size]? = some (.cells Q 42 (0, 0))) := by rw [hw8]; exact setRow_heap _ _ _ _ _ _ (heap_alloc_new w7 _)
      have kB8 : Below w.heap.size w w8 := by rw [hw8]; exact Below.setRow (kB7.alloc kB7.size _) kB7.size _
      obtain ⟨w9, hw9⟩ : ∃ w9, w9 = (w8.alloc (.cells Z0 42)).setRow w8.heap.size A := ⟨_, rfl⟩
      have qH9 : Hid (w9.heap[w7.heap.size]? = some (.cells Q 42 (0, 0))) := by rw [hw9]; exact heap_setRow_keep (heap_alloc_keep qH8.out _) _ _ (by omega)
      have qW9 : Hid (w9.heap[w8.heap.size]? = some (.cells A 42 (0, 0))) := by rw [hw9]; exact setRow_heap _ _ _ _ _ _ (heap_alloc_new w8 _)
      have kB9 : Below w.heap.size w w9 := by rw [hw9]; exact Below.setRow (kB8.alloc kB8.size _) kB8.size _
      have qH10 : Hid ((w9.setRow w8.heap.size Q).heap[w7.heap.size]? = some (.cells Q 42 (0, 0))) := heap_setRow_keep qH9.out _ _ (by omega)
      have qW10 : Hid ((w9.setRow w8.heap.size Q).heap[w8.heap.size]? = some (.cells Q 42 (0, 0))) := setRow_heap _ _ _ _ _ _ qW9.out
      have kB10 : Below w.heap.size w (w9.setRow w8.heap.size Q) := Below.setRow kB9 kB8.size _
      have hnz := HNZ.out
      have HW8 := Lib.hid hw8
      have HW9 := Lib.hid hw9
      have HS8 := Lib.hid hs8
      clear hw8 hw9 hs8
      go_wp2_with (first
        | (refine wpList_alloc_row rfl 42 rfl Z0 HZ.out ?_)
        | (refine wpList_store_row rfl 42 (.tmp 7) (.tmp 82) rfl w7.heap.size Q rfl rfl 42 Z0 (heap_alloc_new w7 _) (by rw [HQS.out]; exact forI) (by rw [HQS.out, HZS.out]) HQ1.out ?_; rw [← HW8.out])
        | (refine wpList_load_row rfl 42 (.tmp 1) rfl w.heap.size rfl 42 A (0, 0) _ qF8.out forT rfl (by rw [HAS.out]; exact forI) ?_)
        | (refine wpList_store_row rfl 42 (.tmp 8) (.tmp 84) rfl w8.heap.size A rfl rfl 42 Z0 (heap_alloc_new w8 _) (by rw [HAS.out]; exact forI) (by rw [HAS.out, HZS.out]) HA1.out ?_; rw [← HW9.out])
        | (refine wpList_store_part rfl 40 (.tmp 87) (.tmp 86) rfl w8.heap.size (k * 48) N rfl rfl 42 A Q qW9.out (by rw [HNS.out]; exact treeI) (by rw [HNS.out, HAS.out]; omega) HN1.out HPQ.out ?_)
        | (refine wpList_load_row_g (by kernel_rfl) 42 (.tmp 7) rfl w7.heap.size rfl 42 Q (0, 0) _ qH10.out forT rfl (by rw [HQS.out]; exact forI) ?_)
        | (refine wpList_load_row_g (by kernel_rfl) 42 (.tmp 8) rfl w8.heap.size rfl 42 Q (0, 0) _ qW10.out forT rfl (by rw [HQS.out]; exact forI) ?_)
        | (refine wpList_run_o (by kernel_rfl) (.bool true) (run_eql_agg 42 42 (.tmp 91) (.tmp 92) rfl Q Q rfl rfl true HQQ.out forG) ?_))
      go_ret
      exact ⟨rfl, kB10⟩

theorem takeF_three (f : Fo) : (takeF f = (zeroF, 0, 4) ∧ thereB f 0 = false) ∨ (takeF f = (zeroF, 0, 6) ∧ thereB f 0 = true ∧ thereB f 1 = true ∧ thereB f 2 = true ∧ thereB f 3 = true) ∨ (∃ k, takeF f = (putT f k, k, 0) ∧ 1 ≤ k ∧ k < 4 ∧ thereB f 0 = true ∧ thereB f k = false) := by
  unfold takeF
  by_cases h0 : thereB f 0 = true
  · rw [if_pos h0]
    unfold takeK
    by_cases h1 : thereB f 1 = false
    · rw [if_pos h1]; exact Or.inr (Or.inr ⟨1, rfl, by omega, by omega, h0, h1⟩)
    · rw [if_neg h1]
      by_cases h2 : thereB f 2 = false
      · rw [if_pos h2]; exact Or.inr (Or.inr ⟨2, rfl, by omega, by omega, h0, h2⟩)
      · rw [if_neg h2]
        by_cases h3 : thereB f 3 = false
        · rw [if_pos h3]; exact Or.inr (Or.inr ⟨3, rfl, by omega, by omega, h0, h3⟩)
        · rw [if_neg h3]; exact Or.inr (Or.inl ⟨rfl, h0, by simpa using h1, by simpa using h2, by simpa using h3⟩)
  · rw [if_neg h0]; exact Or.inl ⟨rfl, by simpa using h0⟩
theorem snapTakes_true (f : Fo) (w : World) :
    Calls Try.prog 8 #[.agg (encF f)] w fun e w' => e = .returned (.bool true) ∧ Below w.heap.size w w' := by
  rcases takeF_three f with ⟨h, h0⟩ | ⟨h, h0, h1, h2, h3⟩ | ⟨k, h, h1, h4, h0, hk⟩
  · exact snapTakes_bare f _ _ _ rfl rfl rfl h h0 w
  · exact snapTakes_full f _ _ _ rfl rfl rfl h h0 h1 h2 h3 w
  · exact snapTakes_some f k h1 h4 _ _ _ _ _ _ rfl rfl rfl rfl rfl rfl h h0 hk w

-- CLOSING

set_option maxRecDepth 100000 in
theorem snapTakes_lifted (os : Os) (started : os.Started) (H : Type) (enc' : TypeId × Value → H) :
    ReturnsInHanded {} Try.checked os 8 .any (Rows.snapTakesSpec.pre6 enc' Try.prog Try.f8 Rows.snapTakesRow.domain false) (Rows.snapTakesSpec.post enc' Try.prog Try.f8 false true false false) := by
  refine returnsInHanded_of_change (C := Try.checked) Try.own started (by kernel_rfl) Try.func8
    (ChangeSpec.witness6 (enc := enc') (C := Try.checked) false ⟨#[], #[.agg (Array.ofFn (n := 192) fun i => if i.val % 48 < 16 then .int .i64 0 else .int .u8 0)], []⟩ 8 (by kernel_rfl) (by kernel_rfl) (by kernel_rfl) (by kernel_rfl)) ?_
  intro W base args ds gs before hval0 hW hcnd _
  have hval : ∀ (j : Nat) t v, Try.f8.params[j]? = some t → args[j]? = some v → Value.okWide Try.prog W .any base t v := hval0
  have hW' := hW
  obtain ⟨p, q, hA0, hV, rfl, hfz, hnd⟩ := hW
  have hA : DataW.TrodAll enc' Try.prog W 0 (fun _ => true) true Try.f8.params.toList args.toList ds p := hA0
  rw [Try.params8] at hA hval
  obtain ⟨v0, d0, rfl, rfl, h0⟩ := trodAll_one hA
  obtain ⟨rfl, rfl⟩ := trodVars_none hV
  obtain ⟨f, rfl⟩ := open_for (hval 0 42 v0 rfl rfl) h0
  clear hA0 hval0
  refine (snapTakes_true f W).mono fun e W' ⟨he, hw⟩ => ?_
  subst he
  exact ⟨_, rfl, law_post 4 Try.laidOut (by kernel_rfl) rfl rfl Try.underlying4 hW' rfl hw⟩

theorem snapTakes_holds : Rows.SnapTakesSaid :=
  OpenClaim.holds_of_wide 8 Try.f8 rfl rfl rfl rfl rfl rfl rfl ⟨rfl, rfl, rfl, rfl, rfl⟩ rfl rfl rfl rfl rfl (by kernel_rfl) Try.func8 (by kernel_rfl)
    (of_decide_eq_true (by kernel_rfl)) (by unfold Func.isWrapper; first | (rw [if_pos (by decide +kernel)]; kernel_rfl) | (rw [if_neg (by decide +kernel)]; exact ⟨rfl, rfl⟩))
    (fun os started H enc _ => snapTakes_lifted os started H enc)

end Go.Proofs.Ytnmfbhiooccgfaa
