/- ExtentOnly: for all bytes the statement returns true and leaves its argument alone. No conditions. -/
import Derived.Test.YtneknlbmiofmlaaExtBackP
import Derived.Test.YtneknlbmiofmlaaOpenBytes
namespace Go.Proofs.Ytneknlbmiofmlaa
open Go.ChangeShapes Go.WideShapes Go.ChangeAt Go.RowKit

set_option maxHeartbeats 2000000 in
theorem extentOnly_raw (v : Value) (bs : List Int) (w : World) (h : BytesAt w v bs) (hbig : bs.length ≤ 9223372036854775807) (hx : ∀ x, x ∈ bs → 0 ≤ x ∧ x ≤ 255) :
    Calls Try.prog 6 #[v] w fun e w' => e = .returned (.bool true) ∧ Below w.heap.size w w' := by
  obtain ⟨N, HN⟩ : ∃ N, Hid (N = bs.length) := ⟨_, rfl⟩
  obtain ⟨q, cp, hu⟩ : ∃ p cp, v = .slice p N cp := by
    rw [HN.out]
    obtain ⟨_, ⟨h0, a0, c0, rfl⟩ | ⟨g, o, cap, rfl, hc⟩⟩ := h
    · exact ⟨a0, c0, by rw [h0]⟩
    · exact ⟨_, cap, rfl⟩
  subst hu
  have H := Lib.hid h
  have HX := Lib.hid hx
  clear h hx
  rw [← HN.out] at hbig
  by_cases h100 : 40 < N
  · go_enter Try.func6, Try.ntmps6
    go_wp2_with fail
    refine (run_true _).mono ?_
    rintro e w1 ⟨rfl, hb1⟩
    go_wp2
    go_ret
    exact ⟨rfl, hb1⟩
  · go_enter Try.func6, Try.ntmps6
    go_wp2_with fail
    refine (run_true _).mono ?_
    rintro e w1 ⟨rfl, hb1⟩
    have H1 : Hid (BytesAt w1 (.slice q N cp) bs) := RowAt.below H.out hb1
    go_wp2_with fail
    refine (unpack_any _ bs _ H1.out (by rw [← HN.out]; omega) HX.out).mono ?_
    rintro e w2 (⟨hg, r, rfl, hI, hb2⟩ | ⟨hg, rfl, hb2⟩)
    · have HG := Lib.hid hg
      have HI : Hid (IntsAt w2 r (PtsOf bs).1) := hI
      have HR : Hid (rightE (PtsOf bs).1 = 0) := ptsOf_right hg.2.1
      have H2 : Hid (BytesAt w2 (.slice q N cp) bs) := RowAt.below H1.out hb2
      have hB2 := Below.step hb1 hb2
      clear hg hI hb1 hb2
      go_wp2_with fail
      refine (pack_good _ _ _ HI.out HR.out).mono ?_
      rintro e w3 ⟨g3, rfl, hg3, hh3, hb3⟩
      have HB3 : Hid (BytesAt w3 (.slice (some ⟨g3, 0, none⟩) 16 16) bs) := by
        rw [HG.out.2.2] at hh3
        exact bytes_block HG.out.1 hh3
      have H3 : Hid (BytesAt w3 (.slice q N cp) bs) := RowAt.below H2.out hb3
      have hB3 := Below.step hB2 hb3
      clear hh3 hb3
      go_wp2_with fail
      refine (equalBytes_true _ _ bs _ H3.out HB3.out (by rw [← HN.out]; omega)).mono ?_
      rintro e w4 ⟨rfl, hb4⟩
      have hB4 := Below.step hB3 hb4
      go_wp2
      go_ret
      exact ⟨rfl, hB4⟩
    · have hB2 := Below.step hb1 hb2
      clear hg
      go_wp2
      go_ret
      exact ⟨rfl, hB2⟩

theorem extentOnly_true (v : Value) (l : List Int) (h1 : l.length ≤ maxLen) (hx : ∀ x, x ∈ l → 0 ≤ x ∧ x ≤ 255) (w : World) (h : BytesAt w v l) :
    Calls Try.prog 6 #[v] w fun e w' => e = .returned (.bool true) ∧ Below w.heap.size w w' :=
  extentOnly_raw v l w h (by unfold maxLen at h1; omega) hx

-- CLOSING

set_option maxRecDepth 100000 in
theorem extentOnly_lifted (os : Os) (started : os.Started) (H : Type) (enc' : TypeId × Value → H) :
    ReturnsInHanded {} Try.checked os 6 .any (Rows.extentOnlySpec.pre6 enc' Try.prog Try.f6 Rows.extentOnlyRow.domain false) (Rows.extentOnlySpec.post enc' Try.prog Try.f6 false true false false) := by
  refine returnsInHanded_of_change (C := Try.checked) Try.own started (by kernel_rfl) Try.func6
    (ChangeSpec.witness6 (enc := enc') (C := Try.checked) false ⟨#[], #[.slice none 0 0], []⟩ 8 (by kernel_rfl) (by kernel_rfl) (by kernel_rfl) (by kernel_rfl)) ?_
  intro W base args ds gs before hval0 hW hcnd _
  have hval : ∀ (j : Nat) t v, Try.f6.params[j]? = some t → args[j]? = some v → Value.okWide Try.prog W .any base t v := hval0
  have hW' := hW
  obtain ⟨p, q, hA0, hV, rfl, hfz, hnd⟩ := hW
  have hA : DataW.TrodAll enc' Try.prog W 0 (fun _ => true) true Try.f6.params.toList args.toList ds p := hA0
  rw [Try.params6] at hA hval
  obtain ⟨v0, d0, rfl, rfl, h0⟩ := trodAll_one hA
  obtain ⟨rfl, rfl⟩ := trodVars_none hV
  obtain ⟨l0, hI0, hM0, hx0⟩ := open_bytesAt (hval 0 37 v0 rfl rfl) h0
  clear hA0 hval0
  refine (extentOnly_true _ l0 hM0 hx0 W hI0).mono fun e W' ⟨he, hw⟩ => ?_
  subst he
  exact ⟨_, rfl, law_post 4 Try.laidOut (by kernel_rfl) rfl rfl Try.underlying4 hW' rfl hw⟩

theorem extentOnly_holds : Rows.ExtentOnlySaid :=
  OpenClaim.holds_of_wide 6 Try.f6 rfl rfl rfl rfl rfl rfl rfl ⟨rfl, rfl, rfl, rfl, rfl⟩ rfl rfl rfl rfl rfl (by kernel_rfl) Try.func6 (by kernel_rfl)
    (of_decide_eq_true (by kernel_rfl)) (by unfold Func.isWrapper; first | (rw [if_pos (by decide +kernel)]; kernel_rfl) | (rw [if_neg (by decide +kernel)]; exact ⟨rfl, rfl⟩))
    (fun os started H enc _ => extentOnly_lifted os started H enc)

end Go.Proofs.Ytneknlbmiofmlaa
