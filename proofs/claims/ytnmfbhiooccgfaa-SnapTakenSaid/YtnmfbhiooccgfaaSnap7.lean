/- The fact rooted. -/
import Derived.Test.YtnmfbhiooccgfaaSnap6
namespace Go.Proofs.Ytnmfbhiooccgfaa
open Go.RowKit

def f1 : Fo := ⟨fun k j => if k = 0 ∧ j = 0 then 40 else 0, fun _ => emp⟩
def f2 : Fo := ⟨fun k j => if k = 0 ∧ j = 0 then 40 else 0, fun k => if k = 0 then ins (ins emp 40) 50 else emp⟩
theorem zero_f1 : (encF zeroF).setIfInBounds 0 (.int .i64 40) = encF f1 := by kernel_rfl
theorem f1_f2 : ((encF f1).toList.take 16 ++ (enc (ins (ins emp 40) 50)).toList ++ (encF f1).toList.drop (16 + (enc (ins (ins emp 40) 50)).size)).toArray = encF f2 := by kernel_rfl
theorem take_f2 : takeF f2 = (putT f2 1, 1, 0) := rfl

set_option maxRecDepth 100000 in
set_option maxHeartbeats 4000000 in
theorem rooted_raw (Z0 A1 A2 G S1 S2 E0 : Array Value) (HZ0 : Hid (Z0 = encF zeroF)) (H1 : Hid (A1 = encF f1)) (H2 : Hid (A2 = encF f2)) (HG : Hid (G = encF (putT f2 1))) (HE0 : Hid (E0 = enc emp)) (HS1 : Hid (S1 = enc (ins emp 40))) (HS2 : Hid (S2 = enc (ins (ins emp 40) 50))) (w : World) :
    Calls Try.prog 21 #[] w fun e w' => e = .returned (.bool true) ∧ Below w.heap.size w w' := by
  have HZ : Hid (∀ w, (zeroValue 42).run Try.prog w = .ok (.agg Z0) w) := by rw [HZ0.out]; exact forZ
  have hz00 : Z0[0]? = some (.int .i64 0) := by rw [HZ0.out]; exact encF_get zeroF 0 0 (by omega) (by omega)
  have HA1 : Hid (Z0.setIfInBounds 0 (.int .i64 40) = A1) := by rw [HZ0.out, H1.out]; exact zero_f1
  have HZS : Hid (Z0.size = 192) := by rw [HZ0.out]; exact encF_size _
  go_enter Try.func21, Try.ntmps21
  have HE0S : Hid (E0.size = 32) := by rw [HE0.out]; exact enc_size _
  have HS2S : Hid (S2.size = 32) := by rw [HS2.out]; exact enc_size _
  have HS21 : Hid (S2.all (·.oneCell') = true) := by rw [HS2.out]; exact enc_one _
  have HA1S : Hid (A1.size = 192) := by rw [H1.out]; exact encF_size _
  have HA2S : Hid (A2.size = 192) := by rw [H2.out]; exact encF_size _
  have HGS : Hid (G.size = 192) := by rw [HG.out]; exact encF_size _
  have HG1 : Hid (G.all (·.oneCell') = true) := by rw [HG.out]; exact encF_one _
  have HPE : Hid (∀ j, j < E0.size → (Z0.setIfInBounds 0 (.int .i64 40))[16 + j]? = E0[j]?) := by
    rw [HA1.out, H1.out, HE0.out]
    have := part_has f1 0 (by omega)
    rw [Nat.zero_mul, Nat.zero_add] at this
    exact this
  have HW1 : Hid (∀ W : World, Calls Try.prog 13 #[.agg E0, .int .i64 40] W fun e w' => e = .returned (.agg S1) ∧ Below W.heap.size W w') := fun W => by
    rw [HE0.out, HS1.out]; exact with_in emp 40 W (by omega) (by omega)
  have HW2 : Hid (∀ W : World, Calls Try.prog 13 #[.agg S1, .int .i64 50] W fun e w' => e = .returned (.agg S2) ∧ Below W.heap.size W w') := fun W => by
    rw [HS1.out, HS2.out]; exact with_in (ins emp 40) 50 W (by omega) (by omega)
  have HA2 : Hid ((A1.toList.take 16 ++ S2.toList ++ A1.toList.drop (16 + S2.size)).toArray = A2) := by rw [H1.out, H2.out, HS2.out]; exact f1_f2
  have HTK : Hid (∀ W : World, Calls Try.prog 23 #[.agg A2] W fun e w' => e = .returned (.tuple #[.agg G, .int .i64 1, .int .i64 0]) ∧ Below W.heap.size W w') := fun W => by
    have := take_any f2 W
    rw [take_f2] at this
    rw [H2.out, HG.out]; exact this
  have HPK : Hid (∀ W : World, Calls Try.prog 29 #[.agg G] W (PackFRes (putT f2 1) W)) := fun W => by rw [HG.out]; exact packF_good _ (by kernel_rfl) W
  go_wp2_with (first
    | (refine wpList_alloc_row rfl 42 rfl Z0 HZ.out ?_)
    | (refine wpList_load_part (by kernel_rfl) 23 (.tmp 11) rfl w.heap.size 16 rfl 42 _ E0 (0, 0) _ (heap_alloc_new w (.cells (Z0.setIfInBounds 0 (.int .i64 40)) 42)) HPE.out setT rfl (by rw [HE0S.out]; exact setI) ?_))
  refine (HW1.out _).mono ?_
  rintro e w1 ⟨rfl, hb1⟩
  have HF1 : Hid (w1.heap[w.heap.size]? = some (.cells A1 42 (0, 0))) := by rw [← HA1.out]; exact heap_below hb1 (heap_alloc_new w _)
  have hB1 : Below w.heap.size w w1 := Below.step ((Below.refl _ _).alloc (Nat.le_refl _) _) hb1
  clear hb1 hz00
  go_wp2_with fail
  refine (HW2.out _).mono ?_
  rintro e w2 ⟨rfl, hb2⟩
  have HF2 := Lib.hid (heap_below hb2 HF1.out)
  have hB2 := Below.step hB1 hb2
  have HF3 : Hid ((w2.setRow w.heap.size A2).heap[w.heap.size]? = some (.cells A2 42 (0, 0))) := setRow_heap _ _ _ _ _ _ HF2.out
  have hB3 : Below w.heap.size w (w2.setRow w.heap.size A2) := Below.setRow hB2 (Nat.le_refl _) _
  clear hb2
  go_wp2_with (first
    | (refine wpList_store_part rfl 23 (.tmp 16) (.tmp 14) rfl w.heap.size 16 S2 rfl rfl 42 A1 A2 HF2.out (by rw [HS2S.out]; exact setI) (by rw [HS2S.out, HA1S.out]; omega) HS21.out HA2.out ?_)
    | (refine wpList_load_row rfl 42 (.tmp 1) rfl w.heap.size rfl 42 A2 (0, 0) _ HF3.out forT rfl (by rw [HA2S.out]; exact forI) ?_))
  refine (HTK.out _).mono ?_
  rintro e w4 ⟨rfl, hb4⟩
  have HF4 := Lib.hid (heap_below hb4 HF3.out)
  have hB4 := Below.step hB3 hb4
  have hlt4 : w.heap.size < w4.heap.size := heap_lt HF4.out
  clear hb4
  have HG5 : Hid (((w4.alloc (.cells Z0 42)).setRow w4.heap.size G).heap[w4.heap.size]? = some (.cells G 42 (0, 0))) := setRow_heap _ _ _ _ _ _ (heap_alloc_new w4 _)
  have HF5 : Hid (((w4.alloc (.cells Z0 42)).setRow w4.heap.size G).heap[w.heap.size]? = some (.cells A2 42 (0, 0))) := heap_setRow_keep (heap_alloc_keep HF4.out _) _ _ (by omega)
  have hB5 : Below w.heap.size w ((w4.alloc (.cells Z0 42)).setRow w4.heap.size G) := Below.setRow (hB4.alloc hB4.size _) hB4.size _
  go_wp2_with (first
    | (refine wpList_alloc_row rfl 42 rfl Z0 HZ.out ?_)
    | (refine wpList_store_row rfl 42 (.tmp 2) (.tmp 20) rfl w4.heap.size G rfl rfl 42 Z0 (heap_alloc_new w4 _) (by rw [HGS.out]; exact forI) (by rw [HGS.out, HZS.out]) HG1.out ?_)
    | (refine wpList_load_row rfl 42 (.tmp 2) rfl w4.heap.size rfl 42 G (0, 0) _ HG5.out forT rfl (by rw [HGS.out]; exact forI) ?_))
  refine (HPK.out _).mono ?_
  rintro e w6 ⟨v, rfl, hown, hb6⟩
  obtain ⟨q, cq, hv, hq⟩ := owns_slice hown
  obtain ⟨gq, rfl, _, hcq⟩ := hq (by omega)
  subst hv
  have b0 : w6.cell? ⟨gq, 0, none⟩ = some (.int .u8 40) := hcq 0 _ (by kernel_rfl)
  have b16 : w6.cell? ⟨gq, 16, none⟩ = some (.int .u8 40) := hcq 16 _ (by kernel_rfl)
  have HF6 := Lib.hid (heap_below hb6 HF5.out)
  have HG6 := Lib.hid (heap_below hb6 HG5.out)
  have hB6 := Below.step hB5 hb6
  obtain ⟨g4, HG4⟩ : ∃ g, Hid (g = w4.heap.size) := ⟨_, rfl⟩
  rw [← HG4.out] at HG6 ⊢
  clear hown hb6 hcq hq
  have HSG : Hid (∀ W : World, Calls Try.prog 27 #[.agg G, .int .i64 50] W fun e w' => e = .returned (.bool true) ∧ Below W.heap.size W w') := fun W => by rw [HG.out]; exact shared_in (putT f2 1) 50 (by omega) W
  have HSF : Hid (∀ W : World, Calls Try.prog 27 #[.agg A2, .int .i64 50] W fun e w' => e = .returned (.bool false) ∧ Below W.heap.size W w') := fun W => by rw [H2.out]; exact shared_in f2 50 (by omega) W
  have HFR : Hid (∀ W : World, Calls Try.prog 22 #[.agg G, .int .i64 64] W fun e w' => e = .returned (.int .i64 62) ∧ Below W.heap.size W w') := fun W => by
    have := free_any (putT f2 1) 64 W
    have e : (freeTo (takenS (putT f2 1) 4) (clampS 64) : Int) = 62 := by kernel_rfl
    rw [e] at this
    rw [HG.out]; exact this
  have HT0 : Hid (∀ W : World, Calls Try.prog 24 #[.agg A2, .int .i64 0] W fun e w' => e = .returned (.bool true) ∧ Below W.heap.size W w') := fun W => by rw [H2.out]; exact there_in f2 0 W (by omega)
  have HT1 : Hid (∀ W : World, Calls Try.prog 24 #[.agg A2, .int .i64 1] W fun e w' => e = .returned (.bool false) ∧ Below W.heap.size W w') := fun W => by rw [H2.out]; exact there_in f2 1 W (by omega)
  go_wp2_with (refine wpList_load_row_g (by kernel_rfl) 42 (.tmp 2) rfl g4 rfl 42 G (0, 0) _ HG6.out forT rfl (by rw [HGS.out]; exact forI) ?_)
  refine (HSG.out _).mono ?_
  rintro e w7 ⟨rfl, hb7⟩
  have HF7 := Lib.hid (heap_below hb7 HF6.out)
  have HG7 := Lib.hid (heap_below hb7 HG6.out)
  have hB7 := Below.step hB6 hb7
  clear hb7
  go_wp2_with (refine wpList_load_row_g (by kernel_rfl) 42 (.tmp 1) rfl w.heap.size rfl 42 A2 (0, 0) _ HF7.out forT rfl (by rw [HA2S.out]; exact forI) ?_)
  refine (HSF.out _).mono ?_
  rintro e w8 ⟨rfl, hb8⟩
  have HF8 := Lib.hid (heap_below hb8 HF7.out)
  have HG8 := Lib.hid (heap_below hb8 HG7.out)
  have hB8 := Below.step hB7 hb8
  clear hb8
  go_wp2_with (refine wpList_load_row_g (by kernel_rfl) 42 (.tmp 2) rfl g4 rfl 42 G (0, 0) _ HG8.out forT rfl (by rw [HGS.out]; exact forI) ?_)
  refine (HFR.out _).mono ?_
  rintro e w9 ⟨rfl, hb9⟩
  have HF9 := Lib.hid (heap_below hb9 HF8.out)
  have hB9 := Below.step hB8 hb9
  clear hb9
  go_wp2_with (refine wpList_load_row_g (by kernel_rfl) 42 (.tmp 1) rfl w.heap.size rfl 42 A2 (0, 0) _ HF9.out forT rfl (by rw [HA2S.out]; exact forI) ?_)
  refine (HT0.out _).mono ?_
  rintro e w10 ⟨rfl, hb10⟩
  have HF10 := Lib.hid (heap_below hb10 HF9.out)
  have hB10 := Below.step hB9 hb10
  clear hb10
  go_wp2_with (refine wpList_load_row_g (by kernel_rfl) 42 (.tmp 1) rfl w.heap.size rfl 42 A2 (0, 0) _ HF10.out forT rfl (by rw [HA2S.out]; exact forI) ?_)
  refine (HT1.out _).mono ?_
  rintro e w11 ⟨rfl, hb11⟩
  have hB11 := Below.step hB10 hb11
  clear hb11
  go_wp2
  go_ret
  exact ⟨rfl, hB11⟩
theorem rooted_true (w : World) : Calls Try.prog 21 #[] w fun e w' => e = .returned (.bool true) ∧ Below w.heap.size w w' := rooted_raw _ _ _ _ _ _ _ rfl rfl rfl rfl rfl rfl rfl w

end Go.Proofs.Ytnmfbhiooccgfaa
