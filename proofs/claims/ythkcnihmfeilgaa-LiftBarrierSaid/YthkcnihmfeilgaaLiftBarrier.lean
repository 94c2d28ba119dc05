/- LiftBarrier: whatever is kept, if anything of behind a barrier is there, all of ahead of it is: the statement in full, for all inputs, no condition. -/
import Derived.Test.YthkcnihmfeilgaaLifted
import Derived.Test.YthkcnihmfeilgaaLiftRun
import Derived.Test.YthkcnihmfeilgaaLiftWayP
import Derived.Test.YthkcnihmfeilgaaRqCat
import Derived.Test.YthkcnihmfeilgaaTwoD
import Derived.Test.YthkcnihmfeilgaaPutClone
import Derived.Test.YthkcnihmfeilgaaOpenPuts
import Derived.Test.YthkcnihmfeilgaaLawEnd
import Derived.ChangeShapes
import Derived.Deep.RegionHeldLaw
namespace Go.Proofs.Ythkcnihmfeilgaa
open Go.ChangeShapes Go.WideShapes Go.ChangeAt Go.RowKit

theorem light_leB {l : List (Int × ByteArray)} (h : lightB l = true) : l.length ≤ 60 := by unfold lightB at h; simp at h; exact h.1
theorem slice_of {w : World} {b : Nat} {v : Value} {L : List Rb} (h : RqsOwn w b v L) : ∃ q n c, v = .slice q n c := by
  obtain ⟨E, _, h, _⟩ := h
  obtain ⟨q, c, h, _⟩ := owns_slice h
  exact ⟨q, _, c, h⟩
theorem asks_leB (l : List (Int × ByteArray)) : (asksF l).length = l.length := by unfold asksF; rw [List.length_map]
theorem asks_okB (l : List (Int × ByteArray)) : ∀ x ∈ asksF l, RbOk 16 x := by
  intro x hx
  obtain ⟨y, _, rfl⟩ := List.mem_map.1 hx
  unfold askF
  by_cases e : pkN y.1 17 = 16
  · rw [if_pos e]; exact Or.inl rfl
  · rw [if_neg e]
    have h17 : pkN y.1 17 < 17 := pkN_lt y.1 17 (by omega) (by omega)
    exact Or.inr ⟨by show pkN y.1 17 < 16; omega, secS_len _⟩
theorem rqs_ltB {E : List Rq} {L : List Rb} (h : E.map rab = L) {k : Nat} (hL : ∀ x ∈ L, RbOk k x) : ∀ x ∈ E, x.b = false → x.n < k := by
  intro x hx hb
  rcases hL (rab x) (by rw [← h]; exact List.mem_map.2 ⟨x, hx, rfl⟩) with h1 | h1
  · rw [show (rab x).2.2 = x.b from rfl, hb] at h1; cases h1
  · exact h1.1
theorem bar_eq (a b : List (Int × ByteArray)) : (crashE (runE (freshE 16) (orderF (asksF a ++ [barR] ++ asksF (noBar b)) 0)) []).S = (flushE (runE (freshE 16) (orderF (asksF a) 0))).S := by
  have hP : ∀ x ∈ wrP (noBar b), WrOk 16 x := wrs_okE (r := []) (by
    rw [List.append_nil, ← asks_noBar]
    exact asks_okB _)
  have := run_bar (k := 16) (by omega) (asksF a) (wrP (noBar b)) (freshE 16) (fresh_on 16) (asks_okB a) hP
  rw [asks_noBar, List.append_assoc]
  exact this
theorem all_ok (a b : List (Int × ByteArray)) : ∀ x ∈ asksF a ++ [barR] ++ asksF (noBar b), RbOk 16 x := by
  intro x hx
  rcases List.mem_append.1 hx with hx | hx
  · rcases List.mem_append.1 hx with hx | hx
    · exact asks_okB _ x hx
    · rw [List.mem_singleton] at hx; subst hx; exact Or.inl rfl
  · exact asks_okB _ x hx

set_option maxRecDepth 100000 in
set_option maxHeartbeats 4000000 in
theorem liftBarrier_raw (va vb kv : Value) (la l : List (Int × ByteArray)) (K : List Bool) (ha1 : la.length ≤ maxLen) (h1 : l.length ≤ maxLen) (hK : K.length ≤ maxLen) (hxa : ∀ x, x ∈ la → x.2.size ≤ maxLen) (hx : ∀ x, x ∈ l → x.2.size ≤ maxLen) (w : World) (ha : PutsAt w va la) (h : PutsAt w vb l) (hk : BoolsAt w kv K) :
    Calls Try.prog 8 #[va, vb, kv] w fun e w' => e = .returned (.bool true) ∧ Below w.heap.size w w' := by
  have H := Lib.hid h
  have HA := Lib.hid ha
  have HL := Lib.hid h1
  have HLA := Lib.hid ha1
  have HX := Lib.hid hx
  have HXA := Lib.hid hxa
  obtain ⟨N, HN⟩ : ∃ N, Hid (N = l.length) := ⟨_, rfl⟩
  obtain ⟨p, cp, hv, _⟩ := puts_open h N HN.out
  subst hv
  obtain ⟨NA, HNA⟩ : ∃ N, Hid (N = la.length) := ⟨_, rfl⟩
  obtain ⟨pa, cpa, hva, _⟩ := puts_open ha NA HNA.out
  subst hva
  obtain ⟨KK, HKK⟩ : ∃ N, Hid (N = K.length) := ⟨_, rfl⟩
  obtain ⟨pk, cpk, hvk⟩ : ∃ p c, kv = .slice p KK c := by
    rw [HKK.out]
    obtain ⟨_, ⟨h0, a0, c0, rfl⟩ | ⟨g, o, cap, rfl, hc⟩⟩ := hk
    · exact ⟨a0, c0, by rw [h0]⟩
    · exact ⟨_, cap, rfl⟩
  subst hvk
  rw [← HN.out] at h1
  rw [← HNA.out] at ha1
  rw [← HKK.out] at hK
  unfold maxLen at h1 ha1 hK
  have _ := hK
  clear h hx ha hxa hk
  obtain ⟨S, HSUM⟩ : ∃ S, Hid (IntKind.i64.wrap ((NA : Int) + (N : Int)) = S) := ⟨_, rfl⟩
  go_enter Try.func8, Try.ntmps8
  go_wp2_with fail
  refine (lifted_true _).mono ?_
  rintro e w1 ⟨rfl, hb1⟩
  go_wp2_with fail
  refine (written_true _).mono ?_
  rintro e w2 ⟨rfl, hb2⟩
  have HB2 : Hid (Below w.heap.size w w2) := Below.step hb1 hb2
  clear hb1 hb2
  have hsum := HSUM.out
  by_cases h80 : 80 < S
  · have b1 : decide (80 < S) = true := by rw [decide_eq_true_iff]; exact h80
    go_wp2
    go_ret
    exact ⟨rfl, HB2.out⟩
  have b1 : decide (80 < S) = false := by rw [decide_eq_false_iff_not]; exact h80
  go_wp2_with fail
  refine (light_any _ la _ (RowAt.below HA.out HB2.out) HLA.out HXA.out).mono ?_
  obtain ⟨lba, HLBA⟩ : ∃ lb, Hid (lightB la = lb) := ⟨_, rfl⟩
  rw [HLBA.out]
  rintro e w3 ⟨rfl, hb3⟩
  have HB3 : Hid (Below w.heap.size w w3) := Below.step HB2.out hb3
  clear hb3
  cases lba with
  | false =>
    go_wp2
    go_ret
    exact ⟨rfl, HB3.out⟩
  | true =>
  go_wp2_with fail
  refine (light_any _ l _ (RowAt.below H.out HB3.out) HL.out HX.out).mono ?_
  obtain ⟨lb, HLB⟩ : ∃ lb, Hid (lightB l = lb) := ⟨_, rfl⟩
  rw [HLB.out]
  rintro e w4 ⟨rfl, hb4⟩
  have HB4 : Hid (Below w.heap.size w w4) := Below.step HB3.out hb4
  clear hb4
  cases lb with
  | false =>
    go_wp2
    go_ret
    exact ⟨rfl, HB4.out⟩
  | true =>
  by_cases h100 : 100 < (KK : Int)
  · have b2 : decide (100 < (KK : Int)) = true := by rw [decide_eq_true_iff]; exact h100
    go_wp2
    go_ret
    exact ⟨rfl, HB4.out⟩
  have b2 : decide (100 < (KK : Int)) = false := by rw [decide_eq_false_iff_not]; exact h100
  have hA60 := light_leB HLBA.out
  have hB60 := light_leB HLB.out
  rw [← HNA.out] at hA60
  rw [← HN.out] at hB60
  have hN80 : NA + N ≤ 80 := by
    have : IntKind.i64.wrap ((NA : Int) + (N : Int)) = (NA : Int) + (N : Int) := IntWalk.i64_in _ (by omega)
    rw [this] at hsum
    omega
  have hz4 := HB4.out.size
  have HCL := Lib.hid (putsClone_any _ l w4 (RowAt.below H.out HB4.out) (by rw [← HN.out]; omega))
  go_wp2_with fail
  refine HCL.out.mono ?_
  rintro e w5 ⟨v5, rfl, ho5, hb5, _⟩
  have HB5 : Hid (Below w.heap.size w w5) := Below.step HB4.out hb5
  have HDE := Lib.hid (deleteP_any 36 barrier1_any_eg barrier1_any w4.heap.size v5 l w5 hb5.size (by rw [← HN.out]; omega) ho5)
  unfold fnP at HDE
  clear ho5 hb5 b1 b2 hsum h80 h100
  go_wp2_with fail
  refine HDE.out.mono ?_
  rintro e w6 ⟨v6, rfl, ho6, hb6, hz6⟩
  have HB6 : Hid (Below w.heap.size w w6) := HB5.out.trans (hb6.mono hz4)
  have HPU : Hid (PutsAt w6 v6 (noBar l)) := RowAt.of_owns ho6
  have hnb := noBar_len l
  have hz6' := HB6.out.size
  clear ho6 hb6
  obtain ⟨M, HM⟩ : ∃ M, Hid (M = (noBar l).length) := ⟨_, rfl⟩
  obtain ⟨p6, c6, hv6, _⟩ := puts_open HPU.out M HM.out
  have hM80 : NA + M ≤ 80 := by rw [HM.out]; have := HN.out; omega
  subst hv6
  go_wp2_with fail
  refine (new_any 16 16 rfl (by omega) (by omega) _).mono ?_
  rintro e w7 ⟨d, F1, rfl, hd7, hF1, hb7, _⟩
  obtain ⟨a, rfl⟩ := hd7.ptr
  have HD7 := Lib.hid hd7
  have HF1 := Lib.hid hF1
  have HB7 : Hid (Below w.heap.size w w7) := Below.step HB6.out hb7
  have HPU7 : Hid (PutsAt w7 (.slice p6 M c6) (noBar l)) := RowAt.below HPU.out hb7
  clear hd7 hF1 hb7
  go_wp2_with fail
  refine (new_any 16 16 rfl (by omega) (by omega) _).mono ?_
  rintro e w8 ⟨d2, F2, rfl, hd8, hF2, hb8, _⟩
  obtain ⟨b, rfl⟩ := hd8.ptr
  have HT8 : Hid (TwoD w (.pointer (some a)) (.pointer (some b)) (freshE 16) (freshE 16) F1 F2 w8) := by
    have hfin := HD7.out.fin
    refine ⟨HD7.out.below hb8, hd8, fun i hi => ⟨Nat.le_trans HB6.out.size (HF1.out i hi), fun h2 => ?_⟩, fun i hi => Nat.le_trans HB7.out.size (hF2 i hi), Below.step HB7.out hb8⟩
    have h3 := hfin i hi
    have h4 := hF2 i h2
    omega
  have HPU8 : Hid (PutsAt w8 (.slice p6 M c6) (noBar l)) := RowAt.below HPU7.out hb8
  have hz8 := HT8.out.2.2.2.2.size
  clear hd8 hF2 hb8
  go_wp2_with fail
  refine (asks_any _ la _ (RowAt.below HA.out HT8.out.2.2.2.2) (by rw [← HNA.out]; omega)).mono ?_
  rintro e w9 ⟨v9, rfl, ho9, hb9⟩
  obtain ⟨q9, n9, c9, rfl⟩ := slice_of ho9
  have HT9 := Lib.hid (HT8.out.below hb9)
  have HR1 := Lib.hid (ho9.two hz8)
  have HPU9 : Hid (PutsAt w9 (.slice p6 M c6) (noBar l)) := RowAt.below HPU8.out hb9
  have hz9 := HT9.out.2.2.2.2.size
  have hbA : Below w9.heap.size w9 (w9.alloc (.cells #[.int .i64 0, .slice none 0 0, .bool true] 50)) := (Below.refl _ _).alloc (Nat.le_refl _) _
  have HTA := Lib.hid (HT9.out.below hbA)
  have HRA := Lib.hid (HR1.out.below hbA)
  have HRB : Hid (RqsTwo (w9.alloc (.cells #[.int .i64 0, .slice none 0 0, .bool true] 50)) w.heap.size w.heap.size (.slice (some ⟨w9.heap.size, 0, none⟩) 1 1) [barR]) := (rqsOwn_bar w9 w.heap.size hz9).two (Nat.le_refl _)
  have HPUA : Hid (PutsAt (w9.alloc (.cells #[.int .i64 0, .slice none 0 0, .bool true] 50)) (.slice p6 M c6) (noBar l)) := RowAt.below HPU9.out hbA
  clear hbA ho9 hb9 HPU9 HPU8 HPU7 HPU HT8
  have hzA := HTA.out.2.2.2.2.size
  go_wp2_with fail
  refine (asks_any _ (noBar l) _ HPUA.out (by rw [← HM.out]; omega)).mono ?_
  rintro e w10 ⟨v10, rfl, ho10, hb10⟩
  obtain ⟨q10, n10, c10, rfl⟩ := slice_of ho10
  have HT10 := Lib.hid (HTA.out.below hb10)
  have HR3 := Lib.hid (ho10.two hzA)
  have HR1' := Lib.hid (HRA.out.below hb10)
  have HR2' := Lib.hid (HRB.out.below hb10)
  have hbC : Below w10.heap.size w10 (w10.alloc (.cells #[.slice q9 n9 c9, .slice (some ⟨w9.heap.size, 0, none⟩) 1 1, .slice q10 n10 c10] 44)) := (Below.refl _ _).alloc (Nat.le_refl _) _
  have HTC := Lib.hid (HT10.out.below hbC)
  have hzC := HTC.out.2.2.2.2.size
  have HCAT := Lib.hid (concat3_any w.heap.size w10.heap.size 3 _ _ _ (.slice q9 n9 c9) (.slice (some ⟨w9.heap.size, 0, none⟩) 1 1) (.slice q10 n10 c10) _ _ _ (w10.alloc (.cells #[.slice q9 n9 c9, .slice (some ⟨w9.heap.size, 0, none⟩) 1 1, .slice q10 n10 c10] 44)) (heap_alloc_new w10 _) (HR1'.out.below hbC) (HR2'.out.below hbC) (HR3.out.below hbC) (by rw [asks_leB, asks_leB, ← HM.out, ← HNA.out]; simp; omega))
  clear ho10 hb10 hbC HR1 HRA HRB HR1' HR2' HR3 HT9 HTA HT10 HPUA
  go_wp2_with fail
  refine HCAT.out.mono ?_
  rintro e w11 ⟨v11, rfl, ho11, hb11⟩
  have HT11 := Lib.hid (HTC.out.below hb11)
  obtain ⟨E, hE, h5, h6⟩ := ho11.own hzC
  have hEl : E.length ≤ 100 := by rw [rqs_len hE, List.length_append, List.length_append, asks_leB, asks_leB, ← HM.out, ← HNA.out]; simp; omega
  have HRUN := Lib.hid (run_any HT11.out.1 v11 E (RqRow.of_owns h5) (fun x hx => (h6 x hx).ok) (rqs_ltB hE (all_ok la l)) (by omega) hEl (by show ([] : List (Nat × List Int)).length < _; simp))
  rw [hE] at HRUN
  have HEQ := Lib.hid (bar_eq la l)
  clear hE h5 h6 ho11 hb11 hEl HTC HCAT
  go_wp2_with fail
  refine HRUN.out.mono ?_
  rintro e w12 ⟨rfl, hdid⟩
  obtain ⟨F3, hT12⟩ := HT11.out.did hdid
  have HT12 := Lib.hid hT12
  clear hdid hT12 HT11 HRUN
  go_wp2_with fail
  refine (asks_any _ la _ (RowAt.below HA.out HT12.out.2.2.2.2) (by rw [← HNA.out]; omega)).mono ?_
  rintro e w13 ⟨v13, rfl, ho13, hb13⟩
  have HT13 := Lib.hid (HT12.out.below hb13)
  obtain ⟨E2, hE2, h7, h8⟩ := ho13
  have HRU2 := Lib.hid (run_any HT13.out.2.1 v13 E2 (RqRow.of_owns h7) (fun x hx => (h8 x hx).ok) (rqs_ltB hE2 (asks_okB la)) (by omega) (by rw [rqs_len hE2, asks_leB, ← HNA.out]; omega) (by show ([] : List (Nat × List Int)).length < _; simp))
  rw [hE2] at HRU2
  clear hE2 h7 h8 hb13 HT12
  go_wp2_with fail
  refine HRU2.out.mono ?_
  rintro e w14 ⟨rfl, hdid⟩
  obtain ⟨F4, hT14⟩ := HT13.out.swap.did hdid
  have HT14 := Lib.hid hT14
  clear hdid hT14 HT13 HRU2
  generalize runE (freshE 16) (orderF (asksF la ++ [barR] ++ asksF (noBar l)) 0) = sd at *
  generalize runE (freshE 16) (orderF (asksF la) 0) = se at *
  go_wp2_with fail
  refine (flush_at HT14.out.1).mono ?_
  rintro e w15 ⟨rfl, hdid⟩
  obtain ⟨F5, hT15⟩ := HT14.out.did hdid
  have HT15 := Lib.hid hT15.swap
  clear hdid hT15 HT14
  go_wp2_with fail
  refine (crash_at HT15.out.1 _ [] (fun w' _ => nil_bools w') (by simp)).mono ?_
  rintro e w16 ⟨rfl, hdid⟩
  obtain ⟨F6, hT16⟩ := HT15.out.did hdid
  have HT11 := Lib.hid hT16
  have HSM : Hid ((crashE sd []).S = (flushE se).S) := HEQ.out
  have HLS : Hid (0 < (flushE se).S.length) := by rw [hT16.2.1.lens.1]; exact (by omega : 0 < 64 * 16)
  clear hdid hT16 HT15 HEQ
  obtain ⟨B, HBB⟩ : ∃ B, Hid (B = bytesS (flushE se).S) := ⟨_, rfl⟩
  generalize crashE sd [] = sd2 at *
  generalize flushE se = se2 at *
  have HTA : Hid (DiskAt w16.drew (.pointer (some a)) sd2 16 F6) := HT11.out.1.drew
  have HTB : Hid (DiskAt w16.drew (.pointer (some b)) se2 16 F5) := HT11.out.2.1.drew
  have hB11 : Below w.heap.size w w16.drew := HT11.out.2.2.2.2.drew
  go_wp2_with fail
  refine wp_region_noPanic ?_
  go_region_held_law (fun _ => True) (trivial)
    (first
      | (go_at_call_of 35 (Value.pointer (some a)); refine (image_at HTA.out).mono ?_; rintro e w12 ⟨v12, rfl, hv12⟩
         rw [HSM.out] at hv12
         have hc9 : (convert 26 9 v12).run Try.prog w12 = .ok (.string B) w12 := by rw [HBB.out]; exact conv_bytes hv12.at HLS.out
         have HV9 := Lib.hid hv12
         have HTC : Hid (DiskAt w12 (.pointer (some b)) se2 16 F5) := HTB.out.below hv12.below
         clear hv12)
      | (go_at_call_of 35 (Value.pointer (some b)); refine (image_at HTC.out).mono ?_; rintro e w13 ⟨v13, rfl, hv13⟩
         have hc10 : (convert 26 9 v13).run Try.prog w13 = .ok (.string B) w13 := by rw [HBB.out]; exact conv_bytes hv13.at HLS.out
         have hc11 : (convert 26 9 v12).run Try.prog w13 = .ok (.string B) w13 := by rw [HBB.out]; exact conv_bytes (RowAt.below HV9.out.at hv13.below) HLS.out
         have hB13 : Below w.heap.size w w13 := Below.step (Below.step hB11 HV9.out.below) hv13.below
         clear hv13))
  all_goals
    refine NoPanic.normal ?_
    go_wp2
    go_ret
    exact ⟨rfl, hB13⟩

-- CLOSING

set_option maxRecDepth 100000 in
theorem liftBarrier_lifted (os : Os) (started : os.Started) (H : Type) (enc' : TypeId × Value → H) :
    ReturnsInHanded {} Try.checked os 8 .any (Rows.liftBarrierSpec.pre6 enc' Try.prog Try.f8 Rows.liftBarrierRow.domain false) (Rows.liftBarrierSpec.post enc' Try.prog Try.f8 false true false false) := by
  refine returnsInHanded_of_change (C := Try.checked) Try.own started (by kernel_rfl) Try.func8
    (ChangeSpec.witness6 (enc := enc') (C := Try.checked) false ⟨#[], #[(.slice none 0 0), (.slice none 0 0), (.slice none 0 0)], []⟩ 8 (by kernel_rfl) (by kernel_rfl) (by kernel_rfl) (by kernel_rfl)) ?_
  intro W base args ds gs before hval0 hW hcnd _
  have hval : ∀ (j : Nat) t v, Try.f8.params[j]? = some t → args[j]? = some v → Value.okWide Try.prog W .any base t v := hval0
  have hW' := hW
  obtain ⟨p, q, hA0, hV, rfl, hfz, hnd⟩ := hW
  have hA : DataW.TrodAll enc' Try.prog W 0 (fun _ => true) true Try.f8.params.toList args.toList ds p := hA0
  rw [Try.params8] at hA hval
  obtain ⟨v0, v1, v2, d0, d1, d2, p0, p1, p2, rfl, rfl, rfl, h0, h1, h2⟩ := trodAll_three hA
  obtain ⟨rfl, rfl⟩ := trodVars_none hV
  obtain ⟨l0, hI0, hM0, hx0⟩ := open_putsAt (P := Try.prog) Try.underlying42 Try.underlying55 (by kernel_rfl) rfl rfl (by kernel_rfl) (by kernel_rfl) (by kernel_rfl) (by kernel_rfl) (hval 0 42 v0 rfl rfl) h0
  obtain ⟨l1, hI1, hM1, hx1⟩ := open_putsAt (P := Try.prog) Try.underlying42 Try.underlying55 (by kernel_rfl) rfl rfl (by kernel_rfl) (by kernel_rfl) (by kernel_rfl) (by kernel_rfl) (hval 1 42 v1 rfl rfl) h1
  obtain ⟨l2, hI2, hM2⟩ := open_boolsAt (P := Try.prog) Try.underlying65 Try.underlying4 (by kernel_rfl) (hval 2 65 v2 rfl rfl) h2
  clear hA0 hval0
  refine (liftBarrier_raw _ _ _ l0 l1 l2 hM0 hM1 hM2 hx0 hx1 W hI0 hI1 hI2).mono fun e W' ⟨he, hw⟩ => ?_
  subst he
  exact ⟨_, rfl, law_post 4 Try.laidOut (by kernel_rfl) rfl rfl Try.underlying4 hW' rfl hw⟩

theorem liftBarrier_holds : Rows.LiftBarrierSaid :=
  OpenClaim.holds_of_wide 8 Try.f8 rfl rfl rfl rfl rfl rfl rfl ⟨rfl, rfl, rfl, rfl, rfl⟩ rfl rfl rfl rfl rfl (by kernel_rfl) Try.func8 (by kernel_rfl)
    (of_decide_eq_true (by kernel_rfl)) (by unfold Func.isWrapper; first | (rw [if_pos (by decide +kernel)]; kernel_rfl) | (rw [if_neg (by decide +kernel)]; exact ⟨rfl, rfl⟩))
    (fun os started H enc _ => liftBarrier_lifted os started H enc)

end Go.Proofs.Ythkcnihmfeilgaa
