/- LiftWay: between two barriers the head goes less than once around, and no farther than as they stand: the statement in full, for all inputs, no condition. -/
import Derived.Test.YthkcnihmfeilgaaLifted
import Derived.Test.YthkcnihmfeilgaaLiftWayP
import Derived.Test.YthkcnihmfeilgaaPutClone
import Derived.Test.YthkcnihmfeilgaaOpenPuts
import Derived.Test.YthkcnihmfeilgaaOpenInts
import Derived.Test.YthkcnihmfeilgaaLawEnd
import Derived.ChangeShapes
namespace Go.Proofs.Ythkcnihmfeilgaa
open Go.ChangeShapes Go.WideShapes Go.ChangeAt Go.RowKit

theorem light_le {l : List (Int × ByteArray)} (h : lightB l = true) : l.length ≤ 60 := by unfold lightB at h; simp at h; exact h.1
theorem asks_le (l : List (Int × ByteArray)) : (asksF l).length = l.length := by unfold asksF; rw [List.length_map]

set_option maxRecDepth 100000 in
set_option maxHeartbeats 4000000 in
theorem liftWay_raw (v : Value) (l : List (Int × ByteArray)) (h1 : l.length ≤ maxLen) (hx : ∀ x, x ∈ l → x.2.size ≤ maxLen) (hd : Int) (w : World) (h : PutsAt w v l) :
    Calls Try.prog 6 #[v, .int .i64 hd] w fun e w' => e = .returned (.bool true) ∧ Below w.heap.size w w' := by
  have H := Lib.hid h
  have HL := Lib.hid h1
  have HX := Lib.hid hx
  obtain ⟨N, HN⟩ : ∃ N, Hid (N = l.length) := ⟨_, rfl⟩
  obtain ⟨p, cp, hv, _⟩ := puts_open h N HN.out
  subst hv
  clear h h1 hx
  go_enter Try.func6, Try.ntmps6
  go_wp2_with fail
  refine (lifted_true _).mono ?_
  rintro e w1 ⟨rfl, hb1⟩
  go_wp2_with fail
  refine (light_any _ l _ (RowAt.below H.out hb1) HL.out HX.out).mono ?_
  obtain ⟨lb, HLB⟩ : ∃ lb, Hid (lightB l = lb) := ⟨_, rfl⟩
  rw [HLB.out]
  rintro e w2 ⟨rfl, hb2⟩
  have hB2 := Below.step hb1 hb2
  clear hb1 hb2
  cases lb with
  | false =>
    go_wp2
    go_ret
    exact ⟨rfl, hB2⟩
  | true =>
    have hl60 := light_le HLB.out
    have HB2 := Lib.hid hB2
    have HCL := Lib.hid (putsClone_any _ l w2 (RowAt.below H.out hB2) (by omega))
    clear hB2
    go_wp2_with fail
    refine HCL.out.mono ?_
    rintro e w3 ⟨v3, rfl, ho3, hb3, _⟩
    have HB3 : Hid (Below w.heap.size w w3) := Below.step HB2.out hb3
    have HDE := Lib.hid (deleteP_any 28 way1_any_eg way1_any w2.heap.size v3 l w3 hb3.size (by omega) ho3)
    have hz3 := HB2.out.size
    unfold fnP at HDE
    clear ho3 hb3
    go_wp2_with fail
    refine HDE.out.mono ?_
    rintro e w4 ⟨v4, rfl, ho4, hb4, hz4⟩
    have HB4 : Hid (Below w.heap.size w w4) := HB3.out.trans (hb4.mono hz3)
    have HPU : Hid (PutsAt w4 v4 (noBar l)) := RowAt.of_owns ho4
    have hnb := noBar_len l
    have hz4' := HB4.out.size
    clear ho4 hb4
    obtain ⟨hh, HH⟩ : ∃ q, Hid (pkN hd 256 = q) := ⟨_, rfl⟩
    have hh256 : hh < 256 := by rw [← HH.out]; exact pkN_lt hd 256 (by omega) (by omega)
    go_wp2_with fail
    refine (pickN hd 256 _ (by omega) (by omega)).mono ?_
    rw [HH.out]
    rintro e w' ⟨rfl, rfl⟩
    obtain ⟨p4, c4, hv4, _⟩ := puts_open HPU.out _ rfl
    subst hv4
    go_wp2_with fail
    refine (asks_any _ (noBar l) _ HPU.out (by omega)).mono ?_
    rintro e w5 ⟨v5, rfl, ho5, hb5⟩
    have HPU5 : Hid (PutsAt w5 (.slice p4 (noBar l).length c4) (noBar l)) := RowAt.below HPU.out hb5
    obtain ⟨E, hE, h3, h4⟩ := ho5
    have hEl : E.length ≤ 60 := by rw [rqs_len hE, asks_le]; omega
    have HOR := Lib.hid (order_any v5 E hh hh256 w5 (RqRow.of_owns h3) (fun x hx => (h4 x hx).ok) (by omega))
    unfold OrderRes at HOR
    have HEM : Hid (orderF (asksF (noBar l)) hh = emit (partF (wrP (noBar l)) hh)) := by
      show _ = _
      unfold orderF
      rw [asks_noBar, orderG_emit, List.nil_append]
    rw [hE, HEM.out] at HOR
    have HWP := Lib.hid (way_part (wrP (noBar l)) hh hh256 (wrP_lt _))
    have hwl := wayF_le hh (emit (wrP (noBar l)))
    rw [emit_len] at hwl
    have hpl : (wrP (noBar l)).length ≤ 60 := by unfold wrP; rw [List.length_map]; omega
    have HB5 : Hid (Below w.heap.size w w5) := Below.step HB4.out hb5
    clear hE h3 h4 hb5
    go_wp2_with fail
    refine HOR.out.mono ?_
    rintro e w6 ⟨v6, rfl, ho6, hb6⟩
    obtain ⟨E6, hE6, h5, h6⟩ := ho6
    have hEl6 : E6.length ≤ 60 := by
      rw [rqs_len hE6, emit_len]
      exact Nat.le_trans (partF_len _ _ hh256) hpl
    have HW6 := Lib.hid (way_any v6 E6 hh hh256 w6 (RqRow.of_owns h5) (fun x hx => (h6 x hx).ok) (by omega))
    rw [hE6] at HW6
    have HB6 : Hid (Below w.heap.size w w6) := Below.step HB5.out hb6
    have HPU6 : Hid (PutsAt w6 (.slice p4 (noBar l).length c4) (noBar l)) := RowAt.below HPU5.out hb6
    clear hE6 h5 h6 hb6
    obtain ⟨A, HA⟩ : ∃ A, Hid (wayF hh (emit (partF (wrP (noBar l)) hh)) = A) := ⟨_, rfl⟩
    obtain ⟨C, HC⟩ : ∃ C, Hid (wayF hh (emit (wrP (noBar l))) = C) := ⟨_, rfl⟩
    rw [HA.out] at HW6
    rw [HC.out] at hwl
    have hAC : A < 256 ∧ A ≤ C := by
      have := HWP.out
      rw [HA.out, HC.out] at this
      exact this
    obtain ⟨hA256, hAC⟩ := hAC
    go_wp2_with fail
    refine HW6.out.mono ?_
    rintro e w7 ⟨rfl, hb7⟩
    have HB7 : Hid (Below w.heap.size w w7) := Below.step HB6.out hb7
    have HPU7 : Hid (PutsAt w7 (.slice p4 (noBar l).length c4) (noBar l)) := RowAt.below HPU6.out hb7
    clear hb7
    go_wp2_with fail
    refine (asks_any _ (noBar l) _ HPU7.out (by omega)).mono ?_
    rintro e w8 ⟨v8, rfl, ho8, hb8⟩
    obtain ⟨E8, hE8, h7, h8⟩ := ho8
    have hEl8 : E8.length ≤ 60 := by rw [rqs_len hE8, asks_le]; omega
    have HW8 := Lib.hid (way_any v8 E8 hh hh256 w8 (RqRow.of_owns h7) (fun x hx => (h8 x hx).ok) (by omega))
    rw [hE8, asks_noBar, HC.out] at HW8
    have HB8 : Hid (Below w.heap.size w w8) := Below.step HB7.out hb8
    clear hE8 h7 h8 hb8
    go_wp2_with fail
    refine HW8.out.mono ?_
    rintro e w9 ⟨rfl, hb9⟩
    have hB9 : Below w.heap.size w w9 := Below.step HB8.out hb9
    have b1 : decide ((A : Int) < 256) = true := by rw [decide_eq_true_iff]; omega
    have b2 : decide ((A : Int) ≤ (C : Int)) = true := by rw [decide_eq_true_iff]; omega
    clear hb9
    go_wp2
    go_ret
    exact ⟨rfl, hB9⟩

-- CLOSING

set_option maxRecDepth 100000 in
theorem liftWay_lifted (os : Os) (started : os.Started) (H : Type) (enc' : TypeId × Value → H) :
    ReturnsInHanded {} Try.checked os 6 .any (Rows.liftWaySpec.pre6 enc' Try.prog Try.f6 Rows.liftWayRow.domain false) (Rows.liftWaySpec.post enc' Try.prog Try.f6 false true false false) := by
  refine returnsInHanded_of_change (C := Try.checked) Try.own started (by kernel_rfl) Try.func6
    (ChangeSpec.witness6 (enc := enc') (C := Try.checked) false ⟨#[], #[(.slice none 0 0), (.int .i64 0)], []⟩ 8 (by kernel_rfl) (by kernel_rfl) (by kernel_rfl) (by kernel_rfl)) ?_
  intro W base args ds gs before hval0 hW hcnd _
  have hval : ∀ (j : Nat) t v, Try.f6.params[j]? = some t → args[j]? = some v → Value.okWide Try.prog W .any base t v := hval0
  have hW' := hW
  obtain ⟨p, q, hA0, hV, rfl, hfz, hnd⟩ := hW
  have hA : DataW.TrodAll enc' Try.prog W 0 (fun _ => true) true Try.f6.params.toList args.toList ds p := hA0
  rw [Try.params6] at hA hval
  obtain ⟨v0, v1, d0, d1, p0, p1, rfl, rfl, rfl, h0, h1⟩ := trodAll_two hA
  obtain ⟨rfl, rfl⟩ := trodVars_none hV
  obtain ⟨l0, hI0, hM0, hx0⟩ := open_putsAt (P := Try.prog) Try.underlying42 Try.underlying55 (by kernel_rfl) rfl rfl (by kernel_rfl) (by kernel_rfl) (by kernel_rfl) (by kernel_rfl) (hval 0 42 v0 rfl rfl) h0
  obtain ⟨hd, rfl, rfl, rfl, whd⟩ := open_int Try.underlying3 (hval 1 3 v1 rfl rfl) h1
  clear hA0 hval0
  refine (liftWay_raw _ l0 hM0 hx0 hd W hI0).mono fun e W' ⟨he, hw⟩ => ?_
  subst he
  exact ⟨_, rfl, law_post 4 Try.laidOut (by kernel_rfl) rfl rfl Try.underlying4 hW' rfl hw⟩

theorem liftWay_holds : Rows.LiftWaySaid :=
  OpenClaim.holds_of_wide 6 Try.f6 rfl rfl rfl rfl rfl rfl rfl ⟨rfl, rfl, rfl, rfl, rfl⟩ rfl rfl rfl rfl rfl (by kernel_rfl) Try.func6 (by kernel_rfl)
    (of_decide_eq_true (by kernel_rfl)) (by unfold Func.isWrapper; first | (rw [if_pos (by decide +kernel)]; kernel_rfl) | (rw [if_neg (by decide +kernel)]; exact ⟨rfl, rfl⟩))
    (fun os started H enc _ => liftWay_lifted os started H enc)

end Go.Proofs.Ythkcnihmfeilgaa
