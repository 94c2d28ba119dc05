/- ExtentBack: for all sectors the statement returns true and leaves its argument alone. No conditions. -/
import Derived.Test.YtneknlbmiofmlaaExtBackP
import Derived.Test.YtneknlbmiofmlaaRows
import Derived.Test.YtneknlbmiofmlaaLawEnd
import Derived.Test.YtneknlbmiofmlaaOpenInts
namespace Go.Proofs.Ytneknlbmiofmlaa
open Go.ChangeShapes Go.WideShapes Go.ChangeAt Go.RowKit

set_option maxHeartbeats 2000000 in
theorem extentBack_raw (v : Value) (l : List Int) (w : World) (h : IntsAt w v l) (hbig : l.length ≤ 9223372036854775807) :
    Calls Try.prog 5 #[v] w fun e w' => e = .returned (.bool true) ∧ Below w.heap.size w w' := by
  obtain ⟨N, HN⟩ : ∃ N, Hid (N = l.length) := ⟨_, rfl⟩
  obtain ⟨q, cp, hu⟩ : ∃ p cp, v = .slice p N cp := by
    rw [HN.out]
    obtain ⟨_, ⟨h0, a0, c0, rfl⟩ | ⟨g, o, cap, rfl, hc⟩⟩ := h
    · exact ⟨a0, c0, by rw [h0]⟩
    · exact ⟨_, cap, rfl⟩
  subst hu
  have H := Lib.hid h
  clear h
  rw [← HN.out] at hbig
  by_cases h100 : 100 < N
  · go_enter Try.func5, Try.ntmps5
    go_wp2_with fail
    refine (run_true _).mono ?_
    rintro e w1 ⟨rfl, hb1⟩
    go_wp2
    go_ret
    exact ⟨rfl, hb1⟩
  · have HR := Lib.hid (ptsE_right l)
    obtain ⟨P, HP⟩ : ∃ P, Hid (P = ptsE l) := ⟨_, rfl⟩
    rw [← HP.out] at HR
    have hl8 := right_len HR.out
    have HOK := Lib.hid (ofR_ok P.length P rfl (right_in HR.out))
    have HPT := Lib.hid (ptsR_ofE HR.out)
    have HGP := Lib.hid (good_pack HR.out)
    obtain ⟨n, Hn⟩ : ∃ n, Hid (n = P.length) := ⟨_, rfl⟩
    rw [← Hn.out] at hl8
    go_enter Try.func5, Try.ntmps5
    go_wp2_with fail
    refine (run_true _).mono ?_
    rintro e w1 ⟨rfl, hb1⟩
    go_wp2_with fail
    refine (points_any _ l _ (H.out.below hb1) (by rw [← HN.out]; omega)).mono ?_
    rintro e w2 ⟨o, rfl, hown, hb2⟩
    have hB2 := Below.step hb1 hb2
    rw [← HP.out] at hown
    have hri := RowAt.of_owns hown
    have HI : Hid (IntsAt w2 o P) := hri
    clear hown hri hb1 hb2
    go_wp2_with fail
    refine (of_good _ P _ HI.out HR.out).mono ?_
    rintro e w3 ⟨x, rfl, hown3, hb3⟩
    have HX : Hid (RowAt w3 x 2 (ofE P).length (pairs (ofE P))) := by
      have := RowAt.of_owns hown3
      have e : (ofR P).length = (ofE P).length := by simp [ofE]
      rw [e] at this; exact this
    have hB3 := Below.step hB2 hb3
    have HI3 : Hid (IntsAt w3 o P) := RowAt.below HI.out hb3
    clear hown3 hb3
    go_wp2_with fail
    refine (points_ext _ (ofE P) _ HX.out (by have := HOK.out.2; have := Hn.out; simp [ofE]; omega) (fun y hy => by have := HOK.out.1 y (by simpa [ofE] using hy); have := Hn.out; omega)).mono ?_
    rintro e w4 (⟨h0, q4, rfl, hown4, hb4⟩ | ⟨h0, _, _⟩)
    rotate_left
    · rw [HPT.out] at h0; exact absurd rfl h0
    have HQ4 : Hid (IntsAt w4 q4 P) := by
      have := RowAt.of_owns hown4
      rw [HPT.out] at this; exact this
    have HI4 : Hid (IntsAt w4 o P) := RowAt.below HI3.out hb4
    have hB4 := Below.step hB3 hb4
    clear h0 hown4 hb4
    go_wp2_with fail
    refine (pack_good _ P _ HI4.out HR.out).mono ?_
    rintro e w5 ⟨g5, rfl, hg5, hh5, hb5⟩
    have HB5 : Hid (BytesAt w5 (.slice (some ⟨g5, 0, none⟩) 16 16) (packL (ofE P))) := bytes_block (packOf_len HR.out) hh5
    have HQ5 : Hid (IntsAt w5 q4 P) := RowAt.below HQ4.out hb5
    have HI5 : Hid (IntsAt w5 o P) := RowAt.below HI4.out hb5
    have hB5 := Below.step hB4 hb5
    clear hh5 hb5
    go_wp2_with fail
    refine (unpack_any _ _ _ HB5.out (by rw [packOf_len HR.out]; omega) (packOf_in HR.out)).mono ?_
    rintro e w6 (⟨hg, r6, rfl, hI6, hb6⟩ | ⟨hg, _, _⟩)
    rotate_left
    · exact absurd HGP.out.1 hg
    have HR6 : Hid (IntsAt w6 r6 P) := by rw [HGP.out.2] at hI6; exact hI6
    have HQ6 : Hid (IntsAt w6 q4 P) := RowAt.below HQ5.out hb6
    have HI6 : Hid (IntsAt w6 o P) := RowAt.below HI5.out hb6
    have hB6 := Below.step hB5 hb6
    clear hg hI6 hb6
    go_wp2_with fail
    refine (equalInts_true _ _ P _ HI6.out HQ6.out (by rw [← Hn.out]; omega)).mono ?_
    rintro e w7 ⟨rfl, hb7⟩
    go_wp2_with fail
    refine (equalInts_true _ _ P _ (RowAt.below HI6.out hb7) (RowAt.below HR6.out hb7) (by rw [← Hn.out]; omega)).mono ?_
    rintro e w8 ⟨rfl, hb8⟩
    have hB8 := Below.step (Below.step hB6 hb7) hb8
    go_wp2
    go_ret
    exact ⟨rfl, hB8⟩

theorem extentBack_true (v : Value) (l : List Int) (h1 : l.length ≤ maxLen) (w : World) (h : IntsAt w v l) :
    Calls Try.prog 5 #[v] w fun e w' => e = .returned (.bool true) ∧ Below w.heap.size w w' :=
  extentBack_raw v l w h (by unfold maxLen at h1; omega)

-- CLOSING

set_option maxRecDepth 100000 in
theorem extentBack_lifted (os : Os) (started : os.Started) (H : Type) (enc' : TypeId × Value → H) :
    ReturnsInHanded {} Try.checked os 5 .any (Rows.extentBackSpec.pre6 enc' Try.prog Try.f5 Rows.extentBackRow.domain false) (Rows.extentBackSpec.post enc' Try.prog Try.f5 false true false false) := by
  refine returnsInHanded_of_change (C := Try.checked) Try.own started (by kernel_rfl) Try.func5
    (ChangeSpec.witness6 (enc := enc') (C := Try.checked) false ⟨#[], #[.slice none 0 0], []⟩ 8 (by kernel_rfl) (by kernel_rfl) (by kernel_rfl) (by kernel_rfl)) ?_
  intro W base args ds gs before hval0 hW hcnd _
  have hval : ∀ (j : Nat) t v, Try.f5.params[j]? = some t → args[j]? = some v → Value.okWide Try.prog W .any base t v := hval0
  have hW' := hW
  obtain ⟨p, q, hA0, hV, rfl, hfz, hnd⟩ := hW
  have hA : DataW.TrodAll enc' Try.prog W 0 (fun _ => true) true Try.f5.params.toList args.toList ds p := hA0
  rw [Try.params5] at hA hval
  obtain ⟨v0, d0, rfl, rfl, h0⟩ := trodAll_one hA
  obtain ⟨rfl, rfl⟩ := trodVars_none hV
  obtain ⟨l0, hI0, hM0⟩ := open_intsAt (hval 0 22 v0 rfl rfl) h0
  clear hA0 hval0
  refine (extentBack_true _ l0 hM0 W hI0).mono fun e W' ⟨he, hw⟩ => ?_
  subst he
  exact ⟨_, rfl, law_post 4 Try.laidOut (by kernel_rfl) rfl rfl Try.underlying4 hW' rfl hw⟩

theorem extentBack_holds : Rows.ExtentBackSaid :=
  OpenClaim.holds_of_wide 5 Try.f5 rfl rfl rfl rfl rfl rfl rfl ⟨rfl, rfl, rfl, rfl, rfl⟩ rfl rfl rfl rfl rfl (by kernel_rfl) Try.func5 (by kernel_rfl)
    (of_decide_eq_true (by kernel_rfl)) (by unfold Func.isWrapper; first | (rw [if_pos (by decide +kernel)]; kernel_rfl) | (rw [if_neg (by decide +kernel)]; exact ⟨rfl, rfl⟩))
    (fun os started H enc _ => extentBack_lifted os started H enc)

end Go.Proofs.Ytneknlbmiofmlaa
