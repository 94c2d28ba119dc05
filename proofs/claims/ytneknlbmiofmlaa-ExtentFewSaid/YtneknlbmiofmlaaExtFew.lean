/- ExtentFew: for all runs the statement returns true and leaves its argument alone. No conditions. -/
import Derived.Test.YtneknlbmiofmlaaExtFewP
import Derived.Test.YtneknlbmiofmlaaRows
import Derived.Test.YtneknlbmiofmlaaLawEnd
import Derived.Test.YtneknlbmiofmlaaOpenPairs
import Derived.BigRegion
namespace Go.Proofs.Ytneknlbmiofmlaa
open Go.ChangeShapes Go.WideShapes Go.ChangeAt Go.RowKit

set_option maxHeartbeats 4000000 in
theorem extentFew_raw (v : Value) (l : List (Int × Int)) (w : World) (h : RowAt w v 2 l.length (pairs l)) (hbig : l.length ≤ 9223372036854775807) (hx : ∀ x, x ∈ l → -9223372036854775808 ≤ x.1 ∧ x.1 ≤ 9223372036854775807 ∧ -9223372036854775808 ≤ x.2 ∧ x.2 ≤ 9223372036854775807) :
    Calls Try.prog 4 #[v] w fun e w' => e = .returned (.bool true) ∧ Below w.heap.size w w' := by
  obtain ⟨N, HN⟩ : ∃ N, Hid (N = l.length) := ⟨_, rfl⟩
  obtain ⟨q, cp, hu⟩ : ∃ p cp, v = .slice p N cp := by
    rw [HN.out]
    obtain ⟨_, ⟨h0, a0, c0, rfl⟩ | ⟨g, o, cap, rfl, hc⟩⟩ := h
    · exact ⟨a0, c0, by rw [h0]⟩
    · exact ⟨_, cap, rfl⟩
  subst hu
  have H := Lib.hid h
  have HX := Lib.hid hx
  clear h hx
  rw [← HN.out] at hbig
  by_cases h100 : 30 < N
  · go_enter Try.func4, Try.ntmps4
    go_wp2_with fail
    refine (run_true _).mono ?_
    rintro e w1 ⟨rfl, hb1⟩
    go_wp2
    go_ret
    exact ⟨rfl, hb1⟩
  · go_enter Try.func4, Try.ntmps4
    go_wp2_with fail
    refine (run_true _).mono ?_
    rintro e w1 ⟨rfl, hb1⟩
    have H1 : Hid (RowAt w1 (.slice q N cp) 2 l.length (pairs l)) := RowAt.below H.out hb1
    go_wp2_with fail
    refine (points_ext _ l _ H1.out (by rw [← HN.out]; omega) HX.out).mono ?_
    rintro e w2 (⟨h0, p2, rfl, hown2, hb2⟩ | ⟨h0, rfl, hb2⟩)
    rotate_left
    · have hB2 := Below.step hb1 hb2
      generalize (ptsR l []).2 = c at h0
      have hc0 : (c != 0) = true := by rw [bne_iff_ne]; exact h0
      clear h0
      go_wp2
      go_ret
      exact ⟨rfl, hB2⟩
    obtain ⟨hgood, heq⟩ := ptsR_good l [] h0
    have hfit := ptsR_fit l [] (by simp) (by simp) h0
    have hr := fit_right hfit.1 hfit.2
    obtain ⟨P, HP⟩ : ∃ P, Hid (P = (ptsR l []).1) := ⟨_, rfl⟩
    have hfew := few l hgood
    rw [List.nil_append] at heq
    rw [← heq, ← HP.out, ← HN.out] at hfew
    rw [← HP.out] at hr hown2
    have HR := Lib.hid hr
    have hok := ofR_ok P.length P rfl (right_in hr)
    have HOK : Hid (∀ x, x ∈ ofE P → 0 ≤ x.1 ∧ x.1 ≤ 255 ∧ 0 ≤ x.2 ∧ x.2 ≤ 8) := fun x hx => by
      have h1 := hok.1 x (by simpa [ofE] using hx); have h2 := right_len hr; omega
    have HI : Hid (IntsAt w2 p2 P) := RowAt.of_owns hown2
    have hB2 := Below.step hb1 hb2
    obtain ⟨M, HM⟩ : ∃ M, Hid (M = (ofE P).length) := ⟨_, rfl⟩
    rw [← HM.out] at hfew
    have hM8 : M ≤ 8 := by
      have h1 := hok.2; have h2 := right_len hr; have := HM.out; simp [ofE] at this; omega
    clear h0 hgood heq hfit hr hok hown2 hb1 hb2
    go_wp2_with fail
    refine (of_good _ P _ HI.out HR.out).mono ?_
    rintro e w3 ⟨x, rfl, hown3, hb3⟩
    have e : (ofR P).length = M := by rw [HM.out]; simp [ofE]
    rw [e] at hown3
    obtain ⟨q3, c3, hx3, hcell3⟩ := owns_slice hown3
    subst hx3
    have HCE := Lib.hid hcell3
    have hB3 := Below.step hB2 hb3
    clear e hown3 hcell3 hb3
    go_wp2
    go_loopw [7] (fun i wr => ∃ j : Nat, j ≤ M ∧ i = .int .i64 ((j : Int) + 1) ∧ Below w3.heap.size w3 wr) (fun i _ => (M + 1 - intOf i).toNat)
    case atStart => exact ⟨0, Nat.zero_le _, rfl, Below.refl _ _⟩
    case round =>
      obtain ⟨j, hj, rfl, HB⟩ := hrel
      by_cases hlt : j + 1 < M
      · obtain ⟨g, rfl, _, hc⟩ := HCE.out (by omega)
        have hl1 : j < (ofE P).length := by rw [← HM.out]; omega
        have hl2 : j + 1 < (ofE P).length := by rw [← HM.out]; omega
        have hp1 := pairs_get (ofE P) j hl1
        have hp2 := pairs_get (ofE P) (j + 1) hl2
        have hs := sep_ofE P j hl2
        have hr1 := HOK.out _ (List.getElem_mem hl1)
        have hr2 := HOK.out _ (List.getElem_mem hl2)
        obtain ⟨a1, ha1⟩ : ∃ a, Hid (a = (ofE P)[j].1) := ⟨(ofE P)[j].1, rfl⟩
        obtain ⟨a2, ha2⟩ : ∃ a, Hid (a = (ofE P)[j].2) := ⟨(ofE P)[j].2, rfl⟩
        obtain ⟨b1, hb1⟩ : ∃ a, Hid (a = (ofE P)[j + 1].1) := ⟨(ofE P)[j + 1].1, rfl⟩
        obtain ⟨b2, hb2⟩ : ∃ a, Hid (a = (ofE P)[j + 1].2) := ⟨(ofE P)[j + 1].2, rfl⟩
        have HSEP : Hid (goesB (a1, a2) b1 = false) := by rw [ha1.out, ha2.out, hb1.out]; exact hs
        rw [← ha1.out, ← ha2.out] at hp1 hr1
        rw [← hb1.out, ← hb2.out] at hp2 hr2
        have keep : ∀ {x : Addr} {y : Value}, w3.cell? x = some y → wr.cell? x = some y := fun h => (HB.cell (block_lt_of_cell h)).trans h
        have c1 := keep (hc _ _ hp1.1)
        have c2 := keep (hc _ _ hp1.2)
        have c4 := keep (hc _ _ hp2.1)
        have c5 := keep (hc _ _ hp2.2)
        clear hs hp1 hp2 keep hc hb2 ha1 ha2 hb1
        obtain ⟨hr11, hr12, hr13, hr14⟩ := hr1
        obtain ⟨hr21, hr22, hr23, hr24⟩ := hr2
        have hlt2 : (j : Int) + 1 < (M : Int) := by omega
        have hlt3 : (j : Int) < (M : Int) := by omega
        have hgl : g < wr.heap.size := block_lt_of_cell c1
        have hgn : ¬ g = wr.heap.size := by omega
        have hgm : ¬ g = wr.heap.size + 1 := by omega
        have hcase : (a1 = 0 ∧ (b1 == 0) = false) ∨ ((a1 == 0) = false ∧ 0 < a1 ∧ (b1 == a1 + a2) = false) := by
          have := HSEP.out
          unfold goesB at this
          by_cases h0 : a1 = 0
          · exact Or.inl ⟨h0, by simpa [h0] using this⟩
          · exact Or.inr ⟨by simpa using h0, by omega, by simpa [h0] using this⟩
        clear HSEP
        rcases hcase with ⟨rfl, e1⟩ | ⟨e1, e2, e3⟩
        all_goals
          go_wp2
          go_region
          all_goals
            go_wp2
            go_roundw
            case rel => exact ⟨j + 1, by omega, by go_num, ((HB.alloc HB.size _).alloc (by have := HB.size; simp; omega) _).drew⟩
            case measure => simp [intOf]; omega
      · have hex : (M : Int) ≤ (j : Int) + 1 := by omega
        go_wp2
        go_ret
        exact ⟨rfl, Below.step hB3 HB⟩

theorem extentFew_true (v : Value) (l : List (Int × Int)) (h1 : l.length ≤ maxLen) (hx : ∀ x, x ∈ l → -9223372036854775808 ≤ x.1 ∧ x.1 ≤ 9223372036854775807 ∧ -9223372036854775808 ≤ x.2 ∧ x.2 ≤ 9223372036854775807) (w : World) (h : RowAt w v 2 l.length (pairs l)) :
    Calls Try.prog 4 #[v] w fun e w' => e = .returned (.bool true) ∧ Below w.heap.size w w' :=
  extentFew_raw v l w h (by unfold maxLen at h1; omega) hx

-- CLOSING

set_option maxRecDepth 100000 in
theorem extentFew_lifted (os : Os) (started : os.Started) (H : Type) (enc' : TypeId × Value → H) :
    ReturnsInHanded {} Try.checked os 4 .any (Rows.extentFewSpec.pre6 enc' Try.prog Try.f4 Rows.extentFewRow.domain false) (Rows.extentFewSpec.post enc' Try.prog Try.f4 false true false false) := by
  refine returnsInHanded_of_change (C := Try.checked) Try.own started (by kernel_rfl) Try.func4
    (ChangeSpec.witness6 (enc := enc') (C := Try.checked) false ⟨#[], #[(.slice none 0 0)], []⟩ 8 (by kernel_rfl) (by kernel_rfl) (by kernel_rfl) (by kernel_rfl)) ?_
  intro W base args ds gs before hval0 hW hcnd _
  have hval : ∀ (j : Nat) t v, Try.f4.params[j]? = some t → args[j]? = some v → Value.okWide Try.prog W .any base t v := hval0
  have hW' := hW
  obtain ⟨p, q, hA0, hV, rfl, hfz, hnd⟩ := hW
  have hA : DataW.TrodAll enc' Try.prog W 0 (fun _ => true) true Try.f4.params.toList args.toList ds p := hA0
  rw [Try.params4] at hA hval
  obtain ⟨v0, d0, rfl, rfl, h0⟩ := trodAll_one hA
  obtain ⟨rfl, rfl⟩ := trodVars_none hV
  obtain ⟨l0, hI0, hM0, hx0⟩ := open_pairsAt (P := Try.prog) Try.underlying25 Try.underlying35 (by kernel_rfl) rfl rfl (by kernel_rfl) (by kernel_rfl) (by kernel_rfl) (by kernel_rfl) (hval 0 25 v0 rfl rfl) h0
  clear hA0 hval0
  refine (extentFew_true _ l0 hM0 hx0 W hI0).mono fun e W' ⟨he, hw⟩ => ?_
  subst he
  exact ⟨_, rfl, law_post 4 Try.laidOut (by kernel_rfl) rfl rfl Try.underlying4 hW' rfl hw⟩

theorem extentFew_holds : Rows.ExtentFewSaid :=
  OpenClaim.holds_of_wide 4 Try.f4 rfl rfl rfl rfl rfl rfl rfl ⟨rfl, rfl, rfl, rfl, rfl⟩ rfl rfl rfl rfl rfl (by kernel_rfl) Try.func4 (by kernel_rfl)
    (of_decide_eq_true (by kernel_rfl)) (by unfold Func.isWrapper; first | (rw [if_pos (by decide +kernel)]; kernel_rfl) | (rw [if_neg (by decide +kernel)]; exact ⟨rfl, rfl⟩))
    (fun os started H enc _ => extentFew_lifted os started H enc)

end Go.Proofs.Ytneknlbmiofmlaa
