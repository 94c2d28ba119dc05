/- SnapBack: for all forests and all bytes the statement returns true and leaves its arguments alone. No conditions. -/
import Derived.Test.YtnmfbhiooccgfaaSnap10
import Derived.Test.YtnmfbhiooccgfaaOpenFor
import Derived.Test.YtnmfbhiooccgfaaOpenB
namespace Go.Proofs.Ytnmfbhiooccgfaa
open Go.ChangeShapes Go.WideShapes Go.ChangeAt Go.RowKit

theorem rightF_congr {f g : Fo} (h : encF f = encF g) : rightF f = rightF g := by
  have hc : ∀ k j, k < 4 → j < 48 → cellF f k j = cellF g k j := fun k j hk hj => by
    have h1 := encF_get f k j hk hj
    have h2 := encF_get g k j hk hj
    rw [h, h2] at h1
    exact (Option.some.inj h1).symm
  have hn : ∀ k i, k < 4 → i < 16 → f.nd k i = g.nd k i := fun k i hk hi => by
    have := hc k i hk (by omega)
    unfold cellF at this
    rw [if_pos hi, if_pos hi] at this
    injection this
  have hT : ∀ k, k < 4 → encT f k = encT g k := fun k hk => by
    apply Array.ext_getElem?
    intro j
    by_cases hj : j < 48
    · rw [encT_get f k j hj, encT_get g k j hj, hc k j hk hj]
    · rw [Array.getElem?_eq_none (by rw [encT_size]; omega), Array.getElem?_eq_none (by rw [encT_size]; omega)]
  have hbN : ∀ k, k < 4 → badN f k = badN g k := fun k hk => by
    unfold badN
    rw [Bool.eq_iff_iff, List.any_eq_true, List.any_eq_true]
    constructor
    · rintro ⟨i, hi, hb⟩; exact ⟨i, hi, by rw [← hn k i hk (List.mem_range.1 hi)]; exact hb⟩
    · rintro ⟨i, hi, hb⟩; exact ⟨i, hi, by rw [hn k i hk (List.mem_range.1 hi)]; exact hb⟩
  have hbT : ∀ k, k < 4 → badT f k = badT g k := fun k hk => by
    unfold badT thereB noneT
    rw [hn k 0 hk (by omega), hT k hk]
  unfold rightF
  rw [hbN 0 (by omega), hbN 1 (by omega), hbN 2 (by omega), hbN 3 (by omega), hbT 0 (by omega), hbT 1 (by omega), hbT 2 (by omega), hbT 3 (by omega)]
theorem packF_u8s {f : Fo} (h : rightF f = 0) : U8s (packF f) := fun x hx => by
  unfold packF at hx
  rcases List.mem_append.1 hx with hx | hx
  · unfold Ln at hx
    obtain ⟨m, hm, rfl⟩ := List.mem_map.1 hx
    have := List.mem_range.1 hm
    exact right_nodes h _ _ (by omega) (by omega)
  · unfold Ls at hx
    obtain ⟨m, hm, rfl⟩ := List.mem_map.1 hx
    have := byteAt_lt (f.hs (m / 32)) (m % 32)
    omega
theorem foB_pack {f : Fo} (h : rightF f = 0) : encF (foB (packF f)) = encF f := by
  apply Array.ext_getElem?
  intro n
  by_cases hn : n < 192
  · obtain ⟨k, j, hk, hj, rfl⟩ : ∃ a j, a < 4 ∧ j < 48 ∧ n = a * 48 + j := ⟨n / 48, n % 48, by omega, by omega, by omega⟩
    rw [encF_get _ k j hk hj, encF_get _ k j hk hj]
    unfold cellF
    by_cases h16 : j < 16
    · rw [if_pos h16, if_pos h16]
      show some (Value.int .i64 ((packF f).getD (k * 16 + j) 0)) = _
      rw [List.getD_eq_getElem?_getD]
      unfold packF
      rw [List.getElem?_append_left (by rw [Ln_len]; omega), Ln_get f k j hk h16]
      rfl
    · rw [if_neg h16, if_neg h16, byteAt_foB (packF_u8s h), List.getD_eq_getElem?_getD]
      unfold packF
      rw [List.getElem?_append_right (by rw [Ln_len]; omega), Ln_len, show 64 + k * 32 + (j - 16) - 64 = k * 32 + (j - 16) by omega, Ls_get f k (j - 16) hk (by omega)]
      rfl
  · rw [Array.getElem?_eq_none (by rw [encF_size]; omega), Array.getElem?_eq_none (by rw [encF_size]; omega)]
theorem unp_pack {f : Fo} (h : rightF f = 0) : encF (unpF (packF f)).1 = encF f ∧ (unpF (packF f)).2 = 0 := by
  unfold unpF
  rw [if_pos ⟨packF_len f, by rw [rightF_congr (foB_pack h)]; exact h⟩]
  exact ⟨foB_pack h, rfl⟩
theorem owns_roomy {w : World} {base : Nat} {e : TypeId} {size : Nat} {v : Value} {n : Nat} {xs : List Value} (h : w.ownsRow base e size v n xs) : Roomy v n := fun p l c hv => by
  obtain ⟨_, ⟨rfl, h2⟩ | ⟨g, cap, cur, rfl, _, _, hc, _⟩⟩ := h
  · omega
  · injection hv with _ _ e3
    omega

set_option maxRecDepth 100000 in
set_option maxHeartbeats 2000000 in
theorem snapBack_long (A : Array Value) (q : Option Addr) (N cp : Nat) (hN : 300 < N) (hm : N ≤ 9223372036854775807) (w : World) :
    Calls Try.prog 10 #[.agg A, .slice q N cp] w fun e w' => e = .returned (.bool true) ∧ Below w.heap.size w w' := by
  go_enter Try.func10, Try.ntmps10
  go_wp2_with fail
  refine (rooted_true _).mono ?_
  rintro e w1 ⟨rfl, hb1⟩
  have q1 : Hid (w1.heap[w.heap.size]? = some (.cells A 42 (0, 0))) := heap_below hb1 (heap_alloc_new w _)
  have kB1 := Below.step ((Below.refl _ _).alloc (Nat.le_refl _) _) hb1
  clear hb1
  clear q1
  go_wp2
  go_ret
  exact ⟨rfl, kB1⟩

set_option maxRecDepth 100000 in
set_option maxHeartbeats 4000000 in
theorem snapBack_good_right (f : Fo) (A Z0 : Array Value) (HA : Hid (A = encF f)) (HZ0 : Hid (Z0 = encF zeroF)) (bs : List Int) (q : Option Addr) (N cp : Nat) (hN : N ≤ 300) (w : World) (HBA : Hid (BytesAt w (.slice q N cp) bs)) (HU : Hid (U8s bs)) (hcp : N ≤ cp) (HNL : Hid (N = bs.length)) (G : Array Value) (HG : Hid (G = encF (foB bs))) (HBL : Hid (bs.length = 192)) (hg : rightF (foB bs) = 0) (Hr : Hid (rightF f = 0)) :
    Calls Try.prog 10 #[.agg A, .slice q N cp] w fun e w' => e = .returned (.bool true) ∧ Below w.heap.size w w' := by
  have HAS : Hid (A.size = 192) := by rw [HA.out]; exact encF_size f
  have HZ : Hid (∀ w, (zeroValue 42).run Try.prog w = .ok (.agg Z0) w) := by rw [HZ0.out]; exact forZ
  have HZS : Hid (Z0.size = 192) := by rw [HZ0.out]; exact encF_size _
  have HZ1 : Hid (Z0.all (·.oneCell') = true) := by rw [HZ0.out]; exact encF_one _
  have HGS : Hid (G.size = 192) := by rw [HG.out]; exact encF_size _
  have HGO : Hid (G.all (·.oneCell') = true) := by rw [HG.out]; exact encF_one _
  have hu3 : encF (unpF bs).1 = G ∧ (unpF bs).2 = 0 := by
    unfold unpF
    rw [if_pos ⟨HBL.out, hg⟩]
    exact ⟨HG.out.symm, rfl⟩
  have HPG : Hid (∀ W : World, Calls Try.prog 29 #[.agg G] W (PackFRes (foB bs) W)) := fun W => by rw [HG.out]; exact packF_good _ hg W
  clear hg
  have HUN : Hid (∀ W, Below w.heap.size w W → Calls Try.prog 28 #[.slice q N cp] W fun e w' => e = .returned (.tuple #[.agg G, .int .i64 0]) ∧ Below W.heap.size W w') := fun W hW => by
    have := unpF_any _ bs W (RowAt.below HBA.out hW) HU.out (fun p l c h => by injection h with _ _ e3; rw [← HNL.out]; omega) (by rw [← HNL.out]; omega)
    rw [hu3.1, hu3.2] at this
    exact this
  clear hu3
  have HAO : Hid (A.all (·.oneCell') = true) := by rw [HA.out]; exact encF_one _
  have HAA : Hid (∀ W : World, (Op.equalIn 10000 42 (.agg A) (.agg A)).run Try.prog W = .ok true W) := fun W => by rw [HA.out]; exact run_eql_fors _ W
  have HPF : Hid (∀ W : World, Calls Try.prog 29 #[.agg A] W (PackFRes f W)) := fun W => by rw [HA.out]; exact packF_good _ Hr.out W
  go_enter Try.func10, Try.ntmps10
  go_wp2_with fail
  refine (rooted_true _).mono ?_
  rintro e w1 ⟨rfl, hb1⟩
  have q1 : Hid (w1.heap[w.heap.size]? = some (.cells A 42 (0, 0))) := heap_below hb1 (heap_alloc_new w _)
  have kB1 := Below.step ((Below.refl _ _).alloc (Nat.le_refl _) _) hb1
  clear hb1
  go_wp2_with fail
  refine (HUN.out _ kB1).mono ?_
  rintro e w2 ⟨rfl, hb2⟩
  have q2 : Hid (w2.heap[w.heap.size]? = some (.cells A 42 (0, 0))) := heap_below hb2 q1.out
  have kB2 := Below.step kB1 hb2
  clear hb2 kB1 q1
  have hlt2 : w.heap.size < w2.heap.size := heap_lt q2.out
  have q3 : Hid (((w2.alloc (.cells Z0 42)).setRow w2.heap.size G).heap[w.heap.size]? = some (.cells A 42 (0, 0))) := heap_setRow_keep (heap_alloc_keep q2.out _) _ _ (by omega)
  have s3 : Hid (((w2.alloc (.cells Z0 42)).setRow w2.heap.size G).heap[w2.heap.size]? = some (.cells G 42 (0, 0))) := setRow_heap _ _ _ _ _ _ (heap_alloc_new w2 _)
  have kB3 : Below w.heap.size w ((w2.alloc (.cells Z0 42)).setRow w2.heap.size G) := Below.setRow (kB2.alloc kB2.size _) kB2.size _
  clear hlt2
  go_wp2_with (first
    | (refine wpList_alloc_row rfl 42 rfl Z0 HZ.out ?_)
    | (refine wpList_store_row rfl 42 (.tmp 5) (.tmp 21) rfl w2.heap.size G rfl rfl 42 Z0 (heap_alloc_new w2 _) (by rw [HGS.out]; exact forI) (by rw [HGS.out, HZS.out]) HGO.out ?_)
    | (refine wpList_load_row rfl 42 (.tmp 5) rfl w2.heap.size rfl 42 G (0, 0) _ s3.out forT rfl (by rw [HGS.out]; exact forI) ?_))
  generalize (w2.alloc (.cells Z0 42)).setRow w2.heap.size G = w3 at *
  clear q2 kB2 s3
  refine (HPG.out _).mono ?_
  rintro e w4 ⟨u4, rfl, hown4, hb4⟩
  have q4 : Hid (w4.heap[w.heap.size]? = some (.cells A 42 (0, 0))) := heap_below hb4 q3.out
  have kB4 := Below.step kB3 hb4
  have HU4 : Hid (BytesAt w4 u4 bs) := by
    have := RowAt.of_owns hown4
    rw [pack_foB HU.out HBL.out] at this
    rw [← HBL.out] at this
    exact this
  have HV4 : Hid (BytesAt w4 (.slice q N cp) bs) := RowAt.below HBA.out kB4
  clear hown4 hb4 kB3 q3
  go_wp2_with fail
  refine (equalBytes_dec _ _ _ _ _ HU4.out HV4.out rfl (by rw [HBL.out]; omega)).mono ?_
  have HEQ : Hid (eqB bs bs = true) := by show _ = _; unfold eqB; simp
  rw [HEQ.out]
  rintro e w5 ⟨rfl, hb5⟩
  have r1 : Hid (w5.heap[w.heap.size]? = some (.cells A 42 (0, 0))) := heap_below hb5 q4.out
  have kR := Below.step kB4 hb5
  clear hb5 kB4 q4 HU4 HV4
  go_wp2_with (refine wpList_load_row rfl 42 (.tmp 2) rfl w.heap.size rfl 42 A (0, 0) _ r1.out forT rfl (by rw [HAS.out]; exact forI) ?_)
  refine (HPF.out _).mono ?_
  rintro e w6 ⟨u, rfl, hown, hb6⟩
  have r6 : Hid (w6.heap[w.heap.size]? = some (.cells A 42 (0, 0))) := heap_below hb6 r1.out
  have kB6 := Below.step kR hb6
  have HUF : Hid (∀ W, Below w6.heap.size w6 W → Calls Try.prog 28 #[u] W fun e w' => e = .returned (.tuple #[.agg A, .int .i64 0]) ∧ Below W.heap.size W w') := fun W hW => by
    have hba : BytesAt w6 u (packF f) := by
      have := RowAt.of_owns hown
      rw [← packF_len f] at this
      exact this
    have hro : Roomy u (packF f).length := by rw [packF_len]; exact owns_roomy hown
    have := unpF_any u (packF f) W (RowAt.below hba hW) (packF_u8s Hr.out) hro (by rw [packF_len]; omega)
    rw [(unp_pack Hr.out).1, (unp_pack Hr.out).2] at this
    rw [HA.out]; exact this
  clear hb6 kR r1 hown
  go_wp2_with fail
  refine (HUF.out _ (Below.refl _ _)).mono ?_
  rintro e w7 ⟨rfl, hb7⟩
  have r7 : Hid (w7.heap[w.heap.size]? = some (.cells A 42 (0, 0))) := heap_below hb7 r6.out
  have kB7 := Below.step kB6 hb7
  clear hb7 r6 kB6 HUF
  have hlt7 : w.heap.size < w7.heap.size := heap_lt r7.out
  have r8 : Hid (((w7.alloc (.cells Z0 42)).setRow w7.heap.size A).heap[w.heap.size]? = some (.cells A 42 (0, 0))) := heap_setRow_keep (heap_alloc_keep r7.out _) _ _ (by omega)
  have s8 : Hid (((w7.alloc (.cells Z0 42)).setRow w7.heap.size A).heap[w7.heap.size]? = some (.cells A 42 (0, 0))) := setRow_heap _ _ _ _ _ _ (heap_alloc_new w7 _)
  have kB8 : Below w.heap.size w ((w7.alloc (.cells Z0 42)).setRow w7.heap.size A) := Below.setRow (kB7.alloc kB7.size _) kB7.size _
  clear hlt7 r7 kB7
  go_wp2_with (first
    | (refine wpList_alloc_row rfl 42 rfl Z0 HZ.out ?_)
    | (refine wpList_store_row rfl 42 (.tmp 11) (.tmp 64) rfl w7.heap.size A rfl rfl 42 Z0 (heap_alloc_new w7 _) (by rw [HAS.out]; exact forI) (by rw [HAS.out, HZS.out]) HAO.out ?_)
    | (refine wpList_load_row_g (by kernel_rfl) 42 (.tmp 11) rfl w7.heap.size rfl 42 A (0, 0) _ s8.out forT rfl (by rw [HAS.out]; exact forI) ?_)
    | (refine wpList_load_row_g (by kernel_rfl) 42 (.tmp 2) rfl w.heap.size rfl 42 A (0, 0) _ r8.out forT rfl (by rw [HAS.out]; exact forI) ?_)
    | (refine wpList_run_o (by kernel_rfl) (.bool true) (run_eql_agg 42 42 (.tmp 69) (.tmp 70) rfl A A rfl rfl true HAA.out forG) ?_))
  go_ret
  exact ⟨rfl, kB8⟩

set_option maxRecDepth 100000 in
set_option maxHeartbeats 4000000 in
theorem snapBack_good_wrong (f : Fo) (A Z0 : Array Value) (HA : Hid (A = encF f)) (HZ0 : Hid (Z0 = encF zeroF)) (bs : List Int) (q : Option Addr) (N cp : Nat) (hN : N ≤ 300) (w : World) (HBA : Hid (BytesAt w (.slice q N cp) bs)) (HU : Hid (U8s bs)) (hcp : N ≤ cp) (HNL : Hid (N = bs.length)) (G : Array Value) (HG : Hid (G = encF (foB bs))) (HBL : Hid (bs.length = 192)) (hg : rightF (foB bs) = 0) (r : Int) (Hr : Hid (r = rightF f)) (_hr1 : (r == 0) = false) (hr2 : (r != 0) = true) :
    Calls Try.prog 10 #[.agg A, .slice q N cp] w fun e w' => e = .returned (.bool true) ∧ Below w.heap.size w w' := by
  have HAS : Hid (A.size = 192) := by rw [HA.out]; exact encF_size f
  have HZ : Hid (∀ w, (zeroValue 42).run Try.prog w = .ok (.agg Z0) w) := by rw [HZ0.out]; exact forZ
  have HZS : Hid (Z0.size = 192) := by rw [HZ0.out]; exact encF_size _
  have HZ1 : Hid (Z0.all (·.oneCell') = true) := by rw [HZ0.out]; exact encF_one _
  have HGS : Hid (G.size = 192) := by rw [HG.out]; exact encF_size _
  have HGO : Hid (G.all (·.oneCell') = true) := by rw [HG.out]; exact encF_one _
  have hu3 : encF (unpF bs).1 = G ∧ (unpF bs).2 = 0 := by
    unfold unpF
    rw [if_pos ⟨HBL.out, hg⟩]
    exact ⟨HG.out.symm, rfl⟩
  have HPG : Hid (∀ W : World, Calls Try.prog 29 #[.agg G] W (PackFRes (foB bs) W)) := fun W => by rw [HG.out]; exact packF_good _ hg W
  clear hg
  have HUN : Hid (∀ W, Below w.heap.size w W → Calls Try.prog 28 #[.slice q N cp] W fun e w' => e = .returned (.tuple #[.agg G, .int .i64 0]) ∧ Below W.heap.size W w') := fun W hW => by
    have := unpF_any _ bs W (RowAt.below HBA.out hW) HU.out (fun p l c h => by injection h with _ _ e3; rw [← HNL.out]; omega) (by rw [← HNL.out]; omega)
    rw [hu3.1, hu3.2] at this
    exact this
  clear hu3
  have HPF : Hid (∀ W : World, Calls Try.prog 29 #[.agg A] W fun e w' => e = .returned (.tuple #[.slice none 0 0, .int .i64 r]) ∧ Below W.heap.size W w') := fun W => packF_bad f A r HA Hr hr2 W
  have HRF : Hid (∀ W : World, Calls Try.prog 31 #[.agg A] W fun e w' => e = .returned (.int .i64 r) ∧ Below W.heap.size W w') := fun W => by rw [HA.out, Hr.out]; exact rightF_any f W
  go_enter Try.func10, Try.ntmps10
  go_wp2_with fail
  refine (rooted_true _).mono ?_
  rintro e w1 ⟨rfl, hb1⟩
  have q1 : Hid (w1.heap[w.heap.size]? = some (.cells A 42 (0, 0))) := heap_below hb1 (heap_alloc_new w _)
  have kB1 := Below.step ((Below.refl _ _).alloc (Nat.le_refl _) _) hb1
  clear hb1
  go_wp2_with fail
  refine (HUN.out _ kB1).mono ?_
  rintro e w2 ⟨rfl, hb2⟩
  have q2 : Hid (w2.heap[w.heap.size]? = some (.cells A 42 (0, 0))) := heap_below hb2 q1.out
  have kB2 := Below.step kB1 hb2
  clear hb2 kB1 q1
  have hlt2 : w.heap.size < w2.heap.size := heap_lt q2.out
  have q3 : Hid (((w2.alloc (.cells Z0 42)).setRow w2.heap.size G).heap[w.heap.size]? = some (.cells A 42 (0, 0))) := heap_setRow_keep (heap_alloc_keep q2.out _) _ _ (by omega)
  have s3 : Hid (((w2.alloc (.cells Z0 42)).setRow w2.heap.size G).heap[w2.heap.size]? = some (.cells G 42 (0, 0))) := setRow_heap _ _ _ _ _ _ (heap_alloc_new w2 _)
  have kB3 : Below w.heap.size w ((w2.alloc (.cells Z0 42)).setRow w2.heap.size G) := Below.setRow (kB2.alloc kB2.size _) kB2.size _
  clear hlt2
  go_wp2_with (first
    | (refine wpList_alloc_row rfl 42 rfl Z0 HZ.out ?_)
    | (refine wpList_store_row rfl 42 (.tmp 5) (.tmp 21) rfl w2.heap.size G rfl rfl 42 Z0 (heap_alloc_new w2 _) (by rw [HGS.out]; exact forI) (by rw [HGS.out, HZS.out]) HGO.out ?_)
    | (refine wpList_load_row rfl 42 (.tmp 5) rfl w2.heap.size rfl 42 G (0, 0) _ s3.out forT rfl (by rw [HGS.out]; exact forI) ?_))
  generalize (w2.alloc (.cells Z0 42)).setRow w2.heap.size G = w3 at *
  clear q2 kB2 s3
  refine (HPG.out _).mono ?_
  rintro e w4 ⟨u4, rfl, hown4, hb4⟩
  have q4 : Hid (w4.heap[w.heap.size]? = some (.cells A 42 (0, 0))) := heap_below hb4 q3.out
  have kB4 := Below.step kB3 hb4
  have HU4 : Hid (BytesAt w4 u4 bs) := by
    have := RowAt.of_owns hown4
    rw [pack_foB HU.out HBL.out] at this
    rw [← HBL.out] at this
    exact this
  have HV4 : Hid (BytesAt w4 (.slice q N cp) bs) := RowAt.below HBA.out kB4
  clear hown4 hb4 kB3 q3
  go_wp2_with fail
  refine (equalBytes_dec _ _ _ _ _ HU4.out HV4.out rfl (by rw [HBL.out]; omega)).mono ?_
  have HEQ : Hid (eqB bs bs = true) := by show _ = _; unfold eqB; simp
  rw [HEQ.out]
  rintro e w5 ⟨rfl, hb5⟩
  have r1 : Hid (w5.heap[w.heap.size]? = some (.cells A 42 (0, 0))) := heap_below hb5 q4.out
  have kR := Below.step kB4 hb5
  clear hb5 kB4 q4 HU4 HV4
  go_wp2_with (refine wpList_load_row rfl 42 (.tmp 2) rfl w.heap.size rfl 42 A (0, 0) _ r1.out forT rfl (by rw [HAS.out]; exact forI) ?_)
  refine (HPF.out _).mono ?_
  rintro e w6 ⟨rfl, hb6⟩
  have r6 : Hid (w6.heap[w.heap.size]? = some (.cells A 42 (0, 0))) := heap_below hb6 r1.out
  have kB6 := Below.step kR hb6
  clear hb6 kR r1
  go_wp2_with (refine wpList_load_row_g (by kernel_rfl) 42 (.tmp 2) rfl w.heap.size rfl 42 A (0, 0) _ r6.out forT rfl (by rw [HAS.out]; exact forI) ?_)
  refine (HRF.out _).mono ?_
  rintro e w7 ⟨rfl, hb7⟩
  have kB7 := Below.step kB6 hb7
  clear hb7
  go_wp2
  go_ret
  exact ⟨rfl, kB7⟩

set_option maxRecDepth 100000 in
set_option maxHeartbeats 4000000 in
theorem snapBack_bad_right (f : Fo) (A Z0 : Array Value) (HA : Hid (A = encF f)) (HZ0 : Hid (Z0 = encF zeroF)) (bs : List Int) (q : Option Addr) (N cp : Nat) (hN : N ≤ 300) (w : World) (HBA : Hid (BytesAt w (.slice q N cp) bs)) (HU : Hid (U8s bs)) (hcp : N ≤ cp) (HNL : Hid (N = bs.length)) (hu3 : encF (unpF bs).1 = Z0 ∧ (unpF bs).2 = 3) (Hr : Hid (rightF f = 0)) :
    Calls Try.prog 10 #[.agg A, .slice q N cp] w fun e w' => e = .returned (.bool true) ∧ Below w.heap.size w w' := by
  have HAS : Hid (A.size = 192) := by rw [HA.out]; exact encF_size f
  have HZ : Hid (∀ w, (zeroValue 42).run Try.prog w = .ok (.agg Z0) w) := by rw [HZ0.out]; exact forZ
  have HZS : Hid (Z0.size = 192) := by rw [HZ0.out]; exact encF_size _
  have HZ1 : Hid (Z0.all (·.oneCell') = true) := by rw [HZ0.out]; exact encF_one _
  have HZZ : Hid (∀ W : World, (Op.equalIn 10000 42 (.agg Z0) (.agg Z0)).run Try.prog W = .ok true W) := fun W => by rw [HZ0.out]; exact run_eql_fors _ W
  have HUN : Hid (∀ W, Below w.heap.size w W → Calls Try.prog 28 #[.slice q N cp] W fun e w' => e = .returned (.tuple #[.agg Z0, .int .i64 3]) ∧ Below W.heap.size W w') := fun W hW => by
    have := unpF_any _ bs W (RowAt.below HBA.out hW) HU.out (fun p l c h => by injection h with _ _ e3; rw [← HNL.out]; omega) (by rw [← HNL.out]; omega)
    rw [hu3.1, hu3.2] at this
    exact this
  clear hu3
  have HAO : Hid (A.all (·.oneCell') = true) := by rw [HA.out]; exact encF_one _
  have HAA : Hid (∀ W : World, (Op.equalIn 10000 42 (.agg A) (.agg A)).run Try.prog W = .ok true W) := fun W => by rw [HA.out]; exact run_eql_fors _ W
  have HPF : Hid (∀ W : World, Calls Try.prog 29 #[.agg A] W (PackFRes f W)) := fun W => by rw [HA.out]; exact packF_good _ Hr.out W
  go_enter Try.func10, Try.ntmps10
  go_wp2_with fail
  refine (rooted_true _).mono ?_
  rintro e w1 ⟨rfl, hb1⟩
  have q1 : Hid (w1.heap[w.heap.size]? = some (.cells A 42 (0, 0))) := heap_below hb1 (heap_alloc_new w _)
  have kB1 := Below.step ((Below.refl _ _).alloc (Nat.le_refl _) _) hb1
  clear hb1
  go_wp2_with fail
  refine (HUN.out _ kB1).mono ?_
  rintro e w2 ⟨rfl, hb2⟩
  have q2 : Hid (w2.heap[w.heap.size]? = some (.cells A 42 (0, 0))) := heap_below hb2 q1.out
  have kB2 := Below.step kB1 hb2
  clear hb2 kB1 q1
  have hlt2 : w.heap.size < w2.heap.size := heap_lt q2.out
  have q3 : Hid (((w2.alloc (.cells Z0 42)).setRow w2.heap.size Z0).heap[w.heap.size]? = some (.cells A 42 (0, 0))) := heap_setRow_keep (heap_alloc_keep q2.out _) _ _ (by omega)
  have s3 : Hid (((w2.alloc (.cells Z0 42)).setRow w2.heap.size Z0).heap[w2.heap.size]? = some (.cells Z0 42 (0, 0))) := setRow_heap _ _ _ _ _ _ (heap_alloc_new w2 _)
  have kB3 : Below w.heap.size w ((w2.alloc (.cells Z0 42)).setRow w2.heap.size Z0) := Below.setRow (kB2.alloc kB2.size _) kB2.size _
  clear hlt2
  have hz := HZ.out
  go_wp2_with (first
    | (refine wpList_alloc_row rfl 42 rfl Z0 HZ.out ?_)
    | (refine wpList_store_row rfl 42 (.tmp 5) (.tmp 21) rfl w2.heap.size Z0 rfl rfl 42 Z0 (heap_alloc_new w2 _) (by rw [HZS.out]; exact forI) rfl HZ1.out ?_)
    | (refine wpList_load_row_g (by kernel_rfl) 42 (.tmp 5) rfl w2.heap.size rfl 42 Z0 (0, 0) _ s3.out forT rfl (by rw [HZS.out]; exact forI) ?_)
    | (refine wpList_run_o (by kernel_rfl) (.bool false) (run_neq_agg 42 42 (.tmp 41) (.tmp 42) rfl Z0 Z0 rfl rfl true HZZ.out forG) ?_)
    | (refine wpList_load_row rfl 42 (.tmp 2) rfl w.heap.size rfl 42 A (0, 0) _ q3.out forT rfl (by rw [HAS.out]; exact forI) ?_))
  generalize (w2.alloc (.cells Z0 42)).setRow w2.heap.size Z0 = w3 at *
  have r1 := q3
  have kR := kB3
  clear q2 kB2 s3 q3 kB3 hz
  go_wp2_with (refine wpList_load_row rfl 42 (.tmp 2) rfl w.heap.size rfl 42 A (0, 0) _ r1.out forT rfl (by rw [HAS.out]; exact forI) ?_)
  refine (HPF.out _).mono ?_
  rintro e w6 ⟨u, rfl, hown, hb6⟩
  have r6 : Hid (w6.heap[w.heap.size]? = some (.cells A 42 (0, 0))) := heap_below hb6 r1.out
  have kB6 := Below.step kR hb6
  have HUF : Hid (∀ W, Below w6.heap.size w6 W → Calls Try.prog 28 #[u] W fun e w' => e = .returned (.tuple #[.agg A, .int .i64 0]) ∧ Below W.heap.size W w') := fun W hW => by
    have hba : BytesAt w6 u (packF f) := by
      have := RowAt.of_owns hown
      rw [← packF_len f] at this
      exact this
    have hro : Roomy u (packF f).length := by rw [packF_len]; exact owns_roomy hown
    have := unpF_any u (packF f) W (RowAt.below hba hW) (packF_u8s Hr.out) hro (by rw [packF_len]; omega)
    rw [(unp_pack Hr.out).1, (unp_pack Hr.out).2] at this
    rw [HA.out]; exact this
  clear hb6 kR r1 hown
  go_wp2_with fail
  refine (HUF.out _ (Below.refl _ _)).mono ?_
  rintro e w7 ⟨rfl, hb7⟩
  have r7 : Hid (w7.heap[w.heap.size]? = some (.cells A 42 (0, 0))) := heap_below hb7 r6.out
  have kB7 := Below.step kB6 hb7
  clear hb7 r6 kB6 HUF
  have hlt7 : w.heap.size < w7.heap.size := heap_lt r7.out
  have r8 : Hid (((w7.alloc (.cells Z0 42)).setRow w7.heap.size A).heap[w.heap.size]? = some (.cells A 42 (0, 0))) := heap_setRow_keep (heap_alloc_keep r7.out _) _ _ (by omega)
  have s8 : Hid (((w7.alloc (.cells Z0 42)).setRow w7.heap.size A).heap[w7.heap.size]? = some (.cells A 42 (0, 0))) := setRow_heap _ _ _ _ _ _ (heap_alloc_new w7 _)
  have kB8 : Below w.heap.size w ((w7.alloc (.cells Z0 42)).setRow w7.heap.size A) := Below.setRow (kB7.alloc kB7.size _) kB7.size _
  clear hlt7 r7 kB7
  go_wp2_with (first
    | (refine wpList_alloc_row rfl 42 rfl Z0 HZ.out ?_)
    | (refine wpList_store_row rfl 42 (.tmp 11) (.tmp 64) rfl w7.heap.size A rfl rfl 42 Z0 (heap_alloc_new w7 _) (by rw [HAS.out]; exact forI) (by rw [HAS.out, HZS.out]) HAO.out ?_)
    | (refine wpList_load_row_g (by kernel_rfl) 42 (.tmp 11) rfl w7.heap.size rfl 42 A (0, 0) _ s8.out forT rfl (by rw [HAS.out]; exact forI) ?_)
    | (refine wpList_load_row_g (by kernel_rfl) 42 (.tmp 2) rfl w.heap.size rfl 42 A (0, 0) _ r8.out forT rfl (by rw [HAS.out]; exact forI) ?_)
    | (refine wpList_run_o (by kernel_rfl) (.bool true) (run_eql_agg 42 42 (.tmp 69) (.tmp 70) rfl A A rfl rfl true HAA.out forG) ?_))
  go_ret
  exact ⟨rfl, kB8⟩

set_option maxRecDepth 100000 in
set_option maxHeartbeats 4000000 in
theorem snapBack_bad_wrong (f : Fo) (A Z0 : Array Value) (HA : Hid (A = encF f)) (HZ0 : Hid (Z0 = encF zeroF)) (bs : List Int) (q : Option Addr) (N cp : Nat) (hN : N ≤ 300) (w : World) (HBA : Hid (BytesAt w (.slice q N cp) bs)) (HU : Hid (U8s bs)) (hcp : N ≤ cp) (HNL : Hid (N = bs.length)) (hu3 : encF (unpF bs).1 = Z0 ∧ (unpF bs).2 = 3) (r : Int) (Hr : Hid (r = rightF f)) (_hr1 : (r == 0) = false) (hr2 : (r != 0) = true) :
    Calls Try.prog 10 #[.agg A, .slice q N cp] w fun e w' => e = .returned (.bool true) ∧ Below w.heap.size w w' := by
  have HAS : Hid (A.size = 192) := by rw [HA.out]; exact encF_size f
  have HZ : Hid (∀ w, (zeroValue 42).run Try.prog w = .ok (.agg Z0) w) := by rw [HZ0.out]; exact forZ
  have HZS : Hid (Z0.size = 192) := by rw [HZ0.out]; exact encF_size _
  have HZ1 : Hid (Z0.all (·.oneCell') = true) := by rw [HZ0.out]; exact encF_one _
  have HZZ : Hid (∀ W : World, (Op.equalIn 10000 42 (.agg Z0) (.agg Z0)).run Try.prog W = .ok true W) := fun W => by rw [HZ0.out]; exact run_eql_fors _ W
  have HUN : Hid (∀ W, Below w.heap.size w W → Calls Try.prog 28 #[.slice q N cp] W fun e w' => e = .returned (.tuple #[.agg Z0, .int .i64 3]) ∧ Below W.heap.size W w') := fun W hW => by
    have := unpF_any _ bs W (RowAt.below HBA.out hW) HU.out (fun p l c h => by injection h with _ _ e3; rw [← HNL.out]; omega) (by rw [← HNL.out]; omega)
    rw [hu3.1, hu3.2] at this
    exact this
  clear hu3
  have HPF : Hid (∀ W : World, Calls Try.prog 29 #[.agg A] W fun e w' => e = .returned (.tuple #[.slice none 0 0, .int .i64 r]) ∧ Below W.heap.size W w') := fun W => packF_bad f A r HA Hr hr2 W
  have HRF : Hid (∀ W : World, Calls Try.prog 31 #[.agg A] W fun e w' => e = .returned (.int .i64 r) ∧ Below W.heap.size W w') := fun W => by rw [HA.out, Hr.out]; exact rightF_any f W
  go_enter Try.func10, Try.ntmps10
  go_wp2_with fail
  refine (rooted_true _).mono ?_
  rintro e w1 ⟨rfl, hb1⟩
  have q1 : Hid (w1.heap[w.heap.size]? = some (.cells A 42 (0, 0))) := heap_below hb1 (heap_alloc_new w _)
  have kB1 := Below.step ((Below.refl _ _).alloc (Nat.le_refl _) _) hb1
  clear hb1
  go_wp2_with fail
  refine (HUN.out _ kB1).mono ?_
  rintro e w2 ⟨rfl, hb2⟩
  have q2 : Hid (w2.heap[w.heap.size]? = some (.cells A 42 (0, 0))) := heap_below hb2 q1.out
  have kB2 := Below.step kB1 hb2
  clear hb2 kB1 q1
  have hlt2 : w.heap.size < w2.heap.size := heap_lt q2.out
  have q3 : Hid (((w2.alloc (.cells Z0 42)).setRow w2.heap.size Z0).heap[w.heap.size]? = some (.cells A 42 (0, 0))) := heap_setRow_keep (heap_alloc_keep q2.out _) _ _ (by omega)
  have s3 : Hid (((w2.alloc (.cells Z0 42)).setRow w2.heap.size Z0).heap[w2.heap.size]? = some (.cells Z0 42 (0, 0))) := setRow_heap _ _ _ _ _ _ (heap_alloc_new w2 _)
  have kB3 : Below w.heap.size w ((w2.alloc (.cells Z0 42)).setRow w2.heap.size Z0) := Below.setRow (kB2.alloc kB2.size _) kB2.size _
  clear hlt2
  have hz := HZ.out
  go_wp2_with (first
    | (refine wpList_alloc_row rfl 42 rfl Z0 HZ.out ?_)
    | (refine wpList_store_row rfl 42 (.tmp 5) (.tmp 21) rfl w2.heap.size Z0 rfl rfl 42 Z0 (heap_alloc_new w2 _) (by rw [HZS.out]; exact forI) rfl HZ1.out ?_)
    | (refine wpList_load_row_g (by kernel_rfl) 42 (.tmp 5) rfl w2.heap.size rfl 42 Z0 (0, 0) _ s3.out forT rfl (by rw [HZS.out]; exact forI) ?_)
    | (refine wpList_run_o (by kernel_rfl) (.bool false) (run_neq_agg 42 42 (.tmp 41) (.tmp 42) rfl Z0 Z0 rfl rfl true HZZ.out forG) ?_)
    | (refine wpList_load_row rfl 42 (.tmp 2) rfl w.heap.size rfl 42 A (0, 0) _ q3.out forT rfl (by rw [HAS.out]; exact forI) ?_))
  generalize (w2.alloc (.cells Z0 42)).setRow w2.heap.size Z0 = w3 at *
  have r1 := q3
  have kR := kB3
  clear q2 kB2 s3 q3 kB3 hz
  go_wp2_with (refine wpList_load_row rfl 42 (.tmp 2) rfl w.heap.size rfl 42 A (0, 0) _ r1.out forT rfl (by rw [HAS.out]; exact forI) ?_)
  refine (HPF.out _).mono ?_
  rintro e w6 ⟨rfl, hb6⟩
  have r6 : Hid (w6.heap[w.heap.size]? = some (.cells A 42 (0, 0))) := heap_below hb6 r1.out
  have kB6 := Below.step kR hb6
  clear hb6 kR r1
  go_wp2_with (refine wpList_load_row_g (by kernel_rfl) 42 (.tmp 2) rfl w.heap.size rfl 42 A (0, 0) _ r6.out forT rfl (by rw [HAS.out]; exact forI) ?_)
  refine (HRF.out _).mono ?_
  rintro e w7 ⟨rfl, hb7⟩
  have kB7 := Below.step kB6 hb7
  clear hb7
  go_wp2
  go_ret
  exact ⟨rfl, kB7⟩

theorem snapBack_true (f : Fo) (v : Value) (bs : List Int) (hm : bs.length ≤ maxLen) (hx : ∀ x, x ∈ bs → 0 ≤ x ∧ x ≤ 255) (w : World) (h : BytesAt w v bs) (hC : ∃ p c, v = .slice p bs.length c ∧ bs.length ≤ c) :
    Calls Try.prog 10 #[.agg (encF f), v] w fun e w' => e = .returned (.bool true) ∧ Below w.heap.size w w' := by
  obtain ⟨q, cp, rfl, hcp⟩ := hC
  unfold maxLen at hm
  by_cases hN : bs.length ≤ 300
  · by_cases hg : bs.length = 192 ∧ rightF (foB bs) = 0
    · by_cases hr : rightF f = 0
      · exact snapBack_good_right f _ _ rfl rfl bs q _ cp hN w h hx hcp rfl _ rfl hg.1 hg.2 hr
      · exact snapBack_good_wrong f _ _ rfl rfl bs q _ cp hN w h hx hcp rfl _ rfl hg.1 hg.2 _ rfl (by simpa using hr) (by simpa using hr)
    · have hu3 : encF (unpF bs).1 = encF zeroF ∧ (unpF bs).2 = 3 := by
        unfold unpF
        rw [if_neg hg]
        exact ⟨rfl, rfl⟩
      by_cases hr : rightF f = 0
      · exact snapBack_bad_right f _ _ rfl rfl bs q _ cp hN w h hx hcp rfl hu3 hr
      · exact snapBack_bad_wrong f _ _ rfl rfl bs q _ cp hN w h hx hcp rfl hu3 _ rfl (by simpa using hr) (by simpa using hr)
  · exact snapBack_long _ q _ cp (by omega) (by omega) w

-- CLOSING

set_option maxRecDepth 100000 in
theorem snapBack_lifted (os : Os) (started : os.Started) (H : Type) (enc' : TypeId × Value → H) :
    ReturnsInHanded {} Try.checked os 10 .any (Rows.snapBackSpec.pre6 enc' Try.prog Try.f10 Rows.snapBackRow.domain false) (Rows.snapBackSpec.post enc' Try.prog Try.f10 false true false false) := by
  refine returnsInHanded_of_change (C := Try.checked) Try.own started (by kernel_rfl) Try.func10
    (ChangeSpec.witness6 (enc := enc') (C := Try.checked) false ⟨#[], #[.agg (Array.ofFn (n := 192) fun i => if i.val % 48 < 16 then .int .i64 0 else .int .u8 0), .slice none 0 0], []⟩ 8 (by kernel_rfl) (by kernel_rfl) (by kernel_rfl) (by kernel_rfl)) ?_
  intro W base args ds gs before hval0 hW hcnd _
  have hval : ∀ (j : Nat) t v, Try.f10.params[j]? = some t → args[j]? = some v → Value.okWide Try.prog W .any base t v := hval0
  have hW' := hW
  obtain ⟨p, q, hA0, hV, rfl, hfz, hnd⟩ := hW
  have hA : DataW.TrodAll enc' Try.prog W 0 (fun _ => true) true Try.f10.params.toList args.toList ds p := hA0
  rw [Try.params10] at hA hval
  obtain ⟨v0, v1, d0, d1, p0, p1, rfl, rfl, rfl, h0, h1⟩ := trodAll_two hA
  obtain ⟨rfl, rfl⟩ := trodVars_none hV
  obtain ⟨f, rfl⟩ := open_for (hval 0 42 v0 rfl rfl) h0
  obtain ⟨l1, hI1, hM1, hx1⟩ := open_bytesAt (hval 1 52 v1 rfl rfl) h1
  have hC1 := open_bytesCap (hval 1 52 v1 rfl rfl) h1 hI1
  clear hA0 hval0
  refine (snapBack_true f _ l1 hM1 hx1 W hI1 hC1).mono fun e W' ⟨he, hw⟩ => ?_
  subst he
  exact ⟨_, rfl, law_post 4 Try.laidOut (by kernel_rfl) rfl rfl Try.underlying4 hW' rfl hw⟩

theorem snapBack_holds : Rows.SnapBackSaid :=
  OpenClaim.holds_of_wide 10 Try.f10 rfl rfl rfl rfl rfl rfl rfl ⟨rfl, rfl, rfl, rfl, rfl⟩ rfl rfl rfl rfl rfl (by kernel_rfl) Try.func10 (by kernel_rfl)
    (of_decide_eq_true (by kernel_rfl)) (by unfold Func.isWrapper; first | (rw [if_pos (by decide +kernel)]; kernel_rfl) | (rw [if_neg (by decide +kernel)]; exact ⟨rfl, rfl⟩))
    (fun os started H enc _ => snapBack_lifted os started H enc)

end Go.Proofs.Ytnmfbhiooccgfaa
