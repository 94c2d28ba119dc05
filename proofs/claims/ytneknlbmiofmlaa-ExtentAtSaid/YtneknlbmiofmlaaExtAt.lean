/- ExtentAt: for all sectors and every block the statement returns true and leaves its arguments alone. No conditions. -/
import Derived.Test.YtneknlbmiofmlaaExtAtP
import Derived.Test.YtneknlbmiofmlaaRows
import Derived.Test.YtneknlbmiofmlaaLawEnd
namespace Go.Proofs.Ytneknlbmiofmlaa
open Go.ChangeShapes Go.WideShapes Go.ChangeAt Go.RowKit

set_option maxHeartbeats 2000000 in
theorem extentAt_raw (v : Value) (l : List Int) (k0 : Int) (m : Nat) (w : World) (h : IntsAt w v l) (Hm : Hid (pk k0 1000 = m)) (hm : m < 1000) (hbig : l.length ≤ 9223372036854775807) :
    Calls Try.prog 3 #[v, .int .i64 k0] w fun e w' => e = .returned (.bool true) ∧ Below w.heap.size w w' := by
  obtain ⟨N, HN⟩ : ∃ N, Hid (N = l.length) := ⟨_, rfl⟩
  obtain ⟨q, cp, hu⟩ : ∃ p cp, v = .slice p N cp := by
    rw [HN.out]
    obtain ⟨_, ⟨h0, a0, c0, rfl⟩ | ⟨g, o, cap, rfl, hc⟩⟩ := h
    · exact ⟨a0, c0, by rw [h0]⟩
    · exact ⟨_, cap, rfl⟩
  subst hu
  have H := Lib.hid h
  clear h
  rw [← HN.out] at hbig
  by_cases h100 : 100 < N
  · go_enter Try.func3, Try.ntmps3
    go_wp2_with fail
    refine (run_true _).mono ?_
    rintro e w1 ⟨rfl, hb1⟩
    go_wp2
    go_ret
    exact ⟨rfl, hb1⟩
  · have hr := ptsE_right l
    have hin := right_in hr
    have hl8 := right_len hr
    have hexp := exp_ofE (ptsE l).length (ptsE l) rfl hin
    have hok := ofR_ok (ptsE l).length (ptsE l) rfl hin
    have HOK : Hid (∀ x, x ∈ ofE (ptsE l) → 0 ≤ x.1 ∧ x.1 ≤ 255 ∧ 0 ≤ x.2 ∧ x.2 ≤ 8) := fun x hx => by
      have := hok.1 x (by simpa [ofE] using hx); omega
    have HAT : Hid (∀ b : Int, 0 ≤ b → atE (ofE (ptsE l)) b = (ptsE l).getD b.toNat 0) := fun b hb => by
      rw [at_exp _ b hb (fun x hx => (HOK.out x hx).2.2.1), hexp]
    have HLE : Hid ((ofE (ptsE l)).length ≤ 8) := by
      have := hok.2; simp [ofE, Hid]; omega
    have HR := Lib.hid hr
    clear hr hin hexp hok
    obtain ⟨P, HP⟩ : ∃ P, Hid (P = ptsE l) := ⟨_, rfl⟩
    rw [← HP.out] at HAT HOK HLE HR hl8
    obtain ⟨n, Hn⟩ : ∃ n, Hid (n = P.length) := ⟨_, rfl⟩
    rw [← Hn.out] at hl8
    go_enter Try.func3, Try.ntmps3
    go_wp2_with fail
    refine (run_true _).mono ?_
    rintro e w1 ⟨rfl, hb1⟩
    go_wp2_with fail
    refine (points_any _ l _ (H.out.below hb1) (by rw [← HN.out]; omega)).mono ?_
    rintro e w2 ⟨o, rfl, hown, hb2⟩
    have hB2 := Below.step hb1 hb2
    rw [← HP.out] at hown
    have hri := RowAt.of_owns hown
    obtain ⟨q2, c2, ho, hcell⟩ := owns_slice hown
    subst ho
    rw [← Hn.out] at hri hcell ⊢
    have HI : Hid (IntsAt w2 (.slice q2 n c2) P) := by unfold IntsAt; rw [← Hn.out]; exact hri
    have HCE := Lib.hid hcell
    clear hown hri hcell hb1 hb2
    go_wp2_with fail
    refine (of_good _ P _ HI.out HR.out).mono ?_
    rintro e w3 ⟨x, rfl, hown3, hb3⟩
    have HX : Hid (RowAt w3 x 2 (ofE P).length (pairs (ofE P))) := by
      have := RowAt.of_owns hown3
      have e : (ofR P).length = (ofE P).length := by simp [ofE]
      rw [e] at this; exact this
    have hB3 := Below.step hB2 hb3
    have HCE3 : Hid (0 < n → ∃ g, q2 = some ⟨g, 0, none⟩ ∧ ∀ (j : Nat) (y : Value), (ints P)[j]? = some y → w3.cell? ⟨g, j, none⟩ = some y) := fun h => by
      obtain ⟨g, hg, _, hc⟩ := HCE.out h
      exact ⟨g, hg, fun j y hy => (hb3.cell (block_lt_of_cell (hc j y hy))).trans (hc j y hy)⟩
    clear hown3 hb3 HCE
    go_wp2
    go_loopw [24] (fun i wr => ∃ k : Nat, k ≤ n ∧ i = .int .i64 k ∧ Below w3.heap.size w3 wr) (fun i _ => n - (intOf i).toNat)
    case atStart => exact ⟨0, Nat.zero_le _, rfl, Below.refl _ _⟩
    case round =>
      obtain ⟨k, hk, rfl, HB⟩ := hrel
      by_cases hlt : k < n
      · obtain ⟨g, rfl, hc⟩ := HCE3.out (by omega)
        have hkl : k < P.length := by rw [← Hn.out]; exact hlt
        have hc0 := hc _ _ (ints_get P k hkl)
        have c0 := (HB.cell (block_lt_of_cell hc0)).trans hc0
        have HV : Hid (atE (ofE P) k = P[k]) := by
          rw [HAT.out k (by omega)]
          simp [hkl, Hid]
        obtain ⟨y, hy⟩ : ∃ y, Hid (y = P[k]) := ⟨P[k], rfl⟩
        rw [← hy.out] at c0 HV
        have HC4 := Lib.hid hc
        clear hc hc0
        have hlt2 : (k : Int) < (n : Int) := by omega
        go_wp2_with (first
          | (go_at_call 17; refine (at_any _ (ofE P) _ _ (HX.out.below HB) (by have := HLE.out; omega) (by omega) (by omega) HOK.out).mono ?_; rw [HV.out]; rintro e w4 ⟨rfl, hb4⟩))
        go_roundw
        case rel => exact ⟨k + 1, by omega, by go_num, Below.step HB hb4⟩
        case measure => simp [intOf]; omega
      · have HV : Hid (atE (ofE P) ((n : Int) + m) = 0) := by
          rw [HAT.out _ (by omega), List.getD_eq_getElem?_getD, List.getElem?_eq_none (by rw [← Hn.out]; omega)]; exact rfl
        go_wp2_with (first
          | (go_at_call 18; refine (pick_any _ _ _ (by omega) (by omega)).mono ?_; rw [Hm.out]; rintro e w' ⟨rfl, rfl⟩))
        refine (at_any _ (ofE P) _ _ (HX.out.below HB) (by have := HLE.out; omega) (by omega) (by omega) HOK.out).mono ?_
        rw [HV.out]
        rintro e w4 ⟨rfl, hb4⟩
        go_wp2_with (first
          | (go_at_call 18; refine (pick_any _ _ _ (by omega) (by omega)).mono ?_; rw [Hm.out]; rintro e w' ⟨rfl, rfl⟩))
        refine (at_neg _ _ _ (by omega)).mono ?_
        rintro e w5 ⟨rfl, hb5⟩
        go_wp2
        go_ret
        exact ⟨rfl, Below.step (Below.step (Below.step hB3 HB) hb4) hb5⟩

end Go.Proofs.Ytneknlbmiofmlaa
