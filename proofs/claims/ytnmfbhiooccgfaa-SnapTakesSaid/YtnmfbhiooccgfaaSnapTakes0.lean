/- SnapTakes: for all forests the statement returns true and leaves its argument alone. No conditions. -/
import Derived.Test.YtnmfbhiooccgfaaSnapTaken
namespace Go.Proofs.Ytnmfbhiooccgfaa
open Go.ChangeShapes Go.WideShapes Go.ChangeAt Go.RowKit

set_option maxRecDepth 100000 in
set_option maxHeartbeats 4000000 in
theorem snapTakes_bare (f : Fo) (A X Z0 : Array Value) (HZ0 : Hid (Z0 = encF zeroF)) (HA : Hid (A = encF f)) (HX : Hid (X = encF zeroF)) (HTK : Hid (takeF f = (zeroF, 0, 4))) (Hth0 : Hid (thereB f 0 = false)) (w : World) :
    Calls Try.prog 8 #[.agg A] w fun e w' => e = .returned (.bool true) ∧ Below w.heap.size w w' := by
  have HAS : Hid (A.size = 192) := by rw [HA.out]; exact encF_size f
  have HXS : Hid (X.size = 192) := by rw [HX.out]; exact encF_size _
  have HX1 : Hid (X.all (·.oneCell') = true) := by rw [HX.out]; exact encF_one _
  have HZS : Hid (Z0.size = 192) := by rw [HZ0.out]; exact encF_size _
  have HZ : Hid (∀ w, (zeroValue 42).run Try.prog w = .ok (.agg Z0) w) := by rw [HZ0.out]; exact forZ
  have HXX : X = Z0 := by rw [HX.out, HZ0.out]
  subst HXX
  have HZZ : Hid (∀ W : World, (Op.equalIn 10000 42 (.agg X) (.agg X)).run Try.prog W = .ok true W) := fun W => by rw [HX.out]; exact run_eql_fors _ W
  have HT0 : Hid (∀ W : World, Calls Try.prog 24 #[.agg A, .int .i64 0] W fun e w' => e = .returned (.bool false) ∧ Below W.heap.size W w') := fun W => by rw [HA.out, ← Hth0.out]; exact there_in f 0 W (by omega)
  have HTKC : Hid (∀ W : World, Calls Try.prog 23 #[.agg A] W fun e w' => e = .returned (.tuple #[.agg X, .int .i64 0, .int .i64 4]) ∧ Below W.heap.size W w') := fun W => by
    have := take_any f W
    rw [HTK.out] at this
    rw [HX.out, HA.out]; exact this
  go_enter Try.func8, Try.ntmps8
  go_wp2_with fail
  refine (rooted_true _).mono ?_
  rintro e w1 ⟨rfl, hb1⟩
  have q1 : Hid (w1.heap[w.heap.size]? = some (.cells A 42 (0, 0))) := heap_below hb1 (heap_alloc_new w _)
  have kB := Below.step ((Below.refl _ _).alloc (Nat.le_refl _) _) hb1
  clear hb1
  go_wp2_with (refine wpList_load_row rfl 42 (.tmp 1) rfl w.heap.size rfl 42 A (0, 0) _ q1.out forT rfl (by rw [HAS.out]; exact forI) ?_)
  refine (HTKC.out _).mono ?_
  rintro e w2 ⟨rfl, hb2⟩
  have q2 : Hid (w2.heap[w.heap.size]? = some (.cells A 42 (0, 0))) := heap_below hb2 q1.out
  have kB2 := Below.step kB hb2
  clear hb2 kB q1
  have qG : Hid (((w2.alloc (.cells X 42)).setRow w2.heap.size X).heap[w2.heap.size]? = some (.cells X 42 (0, 0))) := setRow_heap _ _ _ _ _ _ (heap_alloc_new w2 _)
  have hlt : w.heap.size < w2.heap.size := heap_lt q2.out
  have qF : Hid (((w2.alloc (.cells X 42)).setRow w2.heap.size X).heap[w.heap.size]? = some (.cells A 42 (0, 0))) := heap_setRow_keep (heap_alloc_keep q2.out _) _ _ (by omega)
  have kB3 : Below w.heap.size w ((w2.alloc (.cells X 42)).setRow w2.heap.size X) := Below.setRow (kB2.alloc kB2.size _) kB2.size _
  have hz := HZ.out
  go_wp2_with (first
    | (refine wpList_alloc_row rfl 42 rfl X HZ.out ?_)
    | (refine wpList_store_row rfl 42 (.tmp 3) (.tmp 14) rfl w2.heap.size X rfl rfl 42 X (heap_alloc_new w2 _) (by rw [HXS.out]; exact forI) rfl HX1.out ?_)
    | (refine wpList_load_row rfl 42 (.tmp 3) rfl w2.heap.size rfl 42 X (0, 0) _ qG.out forT rfl (by rw [HXS.out]; exact forI) ?_)
    | (refine wpList_run_o (by kernel_rfl) (.bool true) (run_eql_agg 42 42 (.tmp 19) (.tmp 20) rfl X X rfl rfl true HZZ.out forG) ?_)
    | (refine wpList_load_row_g (by kernel_rfl) 42 (.tmp 1) rfl w.heap.size rfl 42 A (0, 0) _ qF.out forT rfl (by rw [HAS.out]; exact forI) ?_))
  clear hz hlt q2 kB2
  generalize (w2.alloc (.cells X 42)).setRow w2.heap.size X = w3 at *
  generalize w2.heap.size = g at *
  refine (HT0.out _).mono ?_
  rintro e w4 ⟨rfl, hb⟩
  have qF' : Hid (w4.heap[w.heap.size]? = some (.cells A 42 (0, 0))) := heap_below hb qF.out
  have kB' := Below.step kB3 hb
  clear hb qF kB3 qG
  have qF := qF'
  have kB3 := kB'
  clear qF' kB'
  go_wp2
  go_ret
  exact ⟨rfl, kB3⟩

set_option maxRecDepth 100000 in
set_option maxHeartbeats 4000000 in
theorem snapTakes_full (f : Fo) (A X Z0 : Array Value) (HZ0 : Hid (Z0 = encF zeroF)) (HA : Hid (A = encF f)) (HX : Hid (X = encF zeroF)) (HTK : Hid (takeF f = (zeroF, 0, 6))) (Hth0 : Hid (thereB f 0 = true)) (Hth1 : Hid (thereB f 1 = true)) (Hth2 : Hid (thereB f 2 = true)) (Hth3 : Hid (thereB f 3 = true)) (w : World) :
    Calls Try.prog 8 #[.agg A] w fun e w' => e = .returned (.bool true) ∧ Below w.heap.size w w' := by
  have HAS : Hid (A.size = 192) := by rw [HA.out]; exact encF_size f
  have HXS : Hid (X.size = 192) := by rw [HX.out]; exact encF_size _
  have HX1 : Hid (X.all (·.oneCell') = true) := by rw [HX.out]; exact encF_one _
  have HZS : Hid (Z0.size = 192) := by rw [HZ0.out]; exact encF_size _
  have HZ : Hid (∀ w, (zeroValue 42).run Try.prog w = .ok (.agg Z0) w) := by rw [HZ0.out]; exact forZ
  have HXX : X = Z0 := by rw [HX.out, HZ0.out]
  subst HXX
  have HZZ : Hid (∀ W : World, (Op.equalIn 10000 42 (.agg X) (.agg X)).run Try.prog W = .ok true W) := fun W => by rw [HX.out]; exact run_eql_fors _ W
  have HT0 : Hid (∀ W : World, Calls Try.prog 24 #[.agg A, .int .i64 0] W fun e w' => e = .returned (.bool true) ∧ Below W.heap.size W w') := fun W => by rw [HA.out, ← Hth0.out]; exact there_in f 0 W (by omega)
  have HT1 : Hid (∀ W : World, Calls Try.prog 24 #[.agg A, .int .i64 1] W fun e w' => e = .returned (.bool true) ∧ Below W.heap.size W w') := fun W => by rw [HA.out, ← Hth1.out]; exact there_in f 1 W (by omega)
  have HT2 : Hid (∀ W : World, Calls Try.prog 24 #[.agg A, .int .i64 2] W fun e w' => e = .returned (.bool true) ∧ Below W.heap.size W w') := fun W => by rw [HA.out, ← Hth2.out]; exact there_in f 2 W (by omega)
  have HT3 : Hid (∀ W : World, Calls Try.prog 24 #[.agg A, .int .i64 3] W fun e w' => e = .returned (.bool true) ∧ Below W.heap.size W w') := fun W => by rw [HA.out, ← Hth3.out]; exact there_in f 3 W (by omega)
  have HTKC : Hid (∀ W : World, Calls Try.prog 23 #[.agg A] W fun e w' => e = .returned (.tuple #[.agg X, .int .i64 0, .int .i64 6]) ∧ Below W.heap.size W w') := fun W => by
    have := take_any f W
    rw [HTK.out] at this
    rw [HX.out, HA.out]; exact this
  go_enter Try.func8, Try.ntmps8
  go_wp2_with fail
  refine (rooted_true _).mono ?_
  rintro e w1 ⟨rfl, hb1⟩
  have q1 : Hid (w1.heap[w.heap.size]? = some (.cells A 42 (0, 0))) := heap_below hb1 (heap_alloc_new w _)
  have kB := Below.step ((Below.refl _ _).alloc (Nat.le_refl _) _) hb1
  clear hb1
  go_wp2_with (refine wpList_load_row rfl 42 (.tmp 1) rfl w.heap.size rfl 42 A (0, 0) _ q1.out forT rfl (by rw [HAS.out]; exact forI) ?_)
  refine (HTKC.out _).mono ?_
  rintro e w2 ⟨rfl, hb2⟩
  have q2 : Hid (w2.heap[w.heap.size]? = some (.cells A 42 (0, 0))) := heap_below hb2 q1.out
  have kB2 := Below.step kB hb2
  clear hb2 kB q1
  have qG : Hid (((w2.alloc (.cells X 42)).setRow w2.heap.size X).heap[w2.heap.size]? = some (.cells X 42 (0, 0))) := setRow_heap _ _ _ _ _ _ (heap_alloc_new w2 _)
  have hlt : w.heap.size < w2.heap.size := heap_lt q2.out
  have qF : Hid (((w2.alloc (.cells X 42)).setRow w2.heap.size X).heap[w.heap.size]? = some (.cells A 42 (0, 0))) := heap_setRow_keep (heap_alloc_keep q2.out _) _ _ (by omega)
  have kB3 : Below w.heap.size w ((w2.alloc (.cells X 42)).setRow w2.heap.size X) := Below.setRow (kB2.alloc kB2.size _) kB2.size _
  have hz := HZ.out
  go_wp2_with (first
    | (refine wpList_alloc_row rfl 42 rfl X HZ.out ?_)
    | (refine wpList_store_row rfl 42 (.tmp 3) (.tmp 14) rfl w2.heap.size X rfl rfl 42 X (heap_alloc_new w2 _) (by rw [HXS.out]; exact forI) rfl HX1.out ?_)
    | (refine wpList_load_row rfl 42 (.tmp 3) rfl w2.heap.size rfl 42 X (0, 0) _ qG.out forT rfl (by rw [HXS.out]; exact forI) ?_)
    | (refine wpList_run_o (by kernel_rfl) (.bool true) (run_eql_agg 42 42 (.tmp 19) (.tmp 20) rfl X X rfl rfl true HZZ.out forG) ?_)
    | (refine wpList_load_row_g (by kernel_rfl) 42 (.tmp 1) rfl w.heap.size rfl 42 A (0, 0) _ qF.out forT rfl (by rw [HAS.out]; exact forI) ?_))
  clear hz hlt q2 kB2
  generalize (w2.alloc (.cells X 42)).setRow w2.heap.size X = w3 at *
  generalize w2.heap.size = g at *
  refine (HT0.out _).mono ?_
  rintro e w4 ⟨rfl, hb⟩
  have qF' : Hid (w4.heap[w.heap.size]? = some (.cells A 42 (0, 0))) := heap_below hb qF.out
  have kB' := Below.step kB3 hb
  clear hb qF kB3 qG
  have qF := qF'
  have kB3 := kB'
  clear qF' kB'
  go_wp2_with (refine wpList_load_row_g (by kernel_rfl) 42 (.tmp 1) rfl w.heap.size rfl 42 A (0, 0) _ qF.out forT rfl (by rw [HAS.out]; exact forI) ?_)
  refine (HT1.out _).mono ?_
  rintro e w5 ⟨rfl, hb⟩
  have qF' : Hid (w5.heap[w.heap.size]? = some (.cells A 42 (0, 0))) := heap_below hb qF.out
  have kB' := Below.step kB3 hb
  clear hb qF kB3
  have qF := qF'
  have kB3 := kB'
  clear qF' kB'
  go_wp2_with (refine wpList_load_row_g (by kernel_rfl) 42 (.tmp 1) rfl w.heap.size rfl 42 A (0, 0) _ qF.out forT rfl (by rw [HAS.out]; exact forI) ?_)
  refine (HT2.out _).mono ?_
  rintro e w6 ⟨rfl, hb⟩
  have qF' : Hid (w6.heap[w.heap.size]? = some (.cells A 42 (0, 0))) := heap_below hb qF.out
  have kB' := Below.step kB3 hb
  clear hb qF kB3
  have qF := qF'
  have kB3 := kB'
  clear qF' kB'
  go_wp2_with (refine wpList_load_row_g (by kernel_rfl) 42 (.tmp 1) rfl w.heap.size rfl 42 A (0, 0) _ qF.out forT rfl (by rw [HAS.out]; exact forI) ?_)
  refine (HT3.out _).mono ?_
  rintro e w7 ⟨rfl, hb⟩
  have qF' : Hid (w7.heap[w.heap.size]? = some (.cells A 42 (0, 0))) := heap_below hb qF.out
  have kB' := Below.step kB3 hb
  clear hb qF kB3
  have qF := qF'
  have kB3 := kB'
  clear qF' kB'
  go_wp2
  go_ret
  exact ⟨rfl, kB3⟩

end Go.Proofs.Ytnmfbhiooccgfaa
