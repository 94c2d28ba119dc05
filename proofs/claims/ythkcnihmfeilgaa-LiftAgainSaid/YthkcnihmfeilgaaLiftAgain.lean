/- LiftAgain: requests in their order stay as they are: the statement in full, for all inputs, no condition. -/
import Derived.Test.YthkcnihmfeilgaaLifted
import Derived.Test.YthkcnihmfeilgaaEqR
import Derived.Test.YthkcnihmfeilgaaOpenPuts
import Derived.Test.YthkcnihmfeilgaaOpenInts
import Derived.Test.YthkcnihmfeilgaaLawEnd
import Derived.ChangeShapes
namespace Go.Proofs.Ythkcnihmfeilgaa
open Go.ChangeShapes Go.WideShapes Go.ChangeAt Go.RowKit

theorem light_len {l : List (Int × ByteArray)} (h : lightB l = true) : l.length ≤ 60 := by unfold lightB at h; simp at h; exact h.1
theorem asksF_len (l : List (Int × ByteArray)) : (asksF l).length = l.length := by unfold asksF; rw [List.length_map]

set_option maxRecDepth 100000 in
set_option maxHeartbeats 4000000 in
theorem liftAgain_raw (v : Value) (l : List (Int × ByteArray)) (h1 : l.length ≤ maxLen) (hx : ∀ x, x ∈ l → x.2.size ≤ maxLen) (hd : Int) (w : World) (h : PutsAt w v l) :
    Calls Try.prog 5 #[v, .int .i64 hd] w fun e w' => e = .returned (.bool true) ∧ Below w.heap.size w w' := by
  have H := Lib.hid h
  have HL := Lib.hid h1
  have HX := Lib.hid hx
  obtain ⟨N, HN⟩ : ∃ N, Hid (N = l.length) := ⟨_, rfl⟩
  obtain ⟨p, cp, hv, _⟩ := puts_open h N HN.out
  subst hv
  clear h h1 hx
  go_enter Try.func5, Try.ntmps5
  go_wp2_with fail
  refine (lifted_true _).mono ?_
  rintro e w1 ⟨rfl, hb1⟩
  go_wp2_with fail
  refine (light_any _ l _ (RowAt.below H.out hb1) HL.out HX.out).mono ?_
  obtain ⟨lb, HLB⟩ : ∃ lb, Hid (lightB l = lb) := ⟨_, rfl⟩
  rw [HLB.out]
  rintro e w2 ⟨rfl, hb2⟩
  have hB2 := Below.step hb1 hb2
  clear hb1 hb2
  cases lb with
  | false =>
    go_wp2
    go_ret
    exact ⟨rfl, hB2⟩
  | true =>
    have hl60 := light_len HLB.out
    have HB2 := Lib.hid hB2
    obtain ⟨hh, HH⟩ : ∃ q, Hid (pkN hd 256 = q) := ⟨_, rfl⟩
    have hh256 : hh < 256 := by rw [← HH.out]; exact pkN_lt hd 256 (by omega) (by omega)
    go_wp2_with fail
    refine (pickN hd 256 _ (by omega) (by omega)).mono ?_
    rw [HH.out]
    rintro e w' ⟨rfl, rfl⟩
    go_wp2_with fail
    refine (asks_any _ l _ (RowAt.below H.out HB2.out) (by omega)).mono ?_
    rintro e w3 ⟨v3, rfl, ho3, hb3⟩
    obtain ⟨E, hE, h3, h4⟩ := ho3
    have hEl : E.length ≤ 60 := by rw [rqs_len hE, asksF_len]; exact hl60
    have HOR := Lib.hid (order_any v3 E hh hh256 w3 (RqRow.of_owns h3) (fun x hx => (h4 x hx).ok) (by omega))
    unfold OrderRes at HOR
    rw [hE] at HOR
    have HB3 : Hid (Below w.heap.size w w3) := Below.step HB2.out hb3
    clear hE h3 h4 hb3 hB2
    go_wp2_with fail
    refine HOR.out.mono ?_
    rintro e w4 ⟨v4, rfl, ho4, hb4⟩
    obtain ⟨E4, hE4, h5, h6⟩ := ho4
    have hEl4 : E4.length ≤ 60 := by
      rw [rqs_len hE4]
      have := orderG_len (asksF l) hh hh256
      rw [asksF_len] at this
      exact Nat.le_trans this hl60
    have HOR4 := Lib.hid (order_any v4 E4 hh hh256 w4 (RqRow.of_owns h5) (fun x hx => (h6 x hx).ok) (by omega))
    unfold OrderRes at HOR4
    rw [hE4, order_again (asksF l) hh hh256] at HOR4
    have HB4 : Hid (Below w.heap.size w w4) := Below.step HB3.out hb4
    have HROW4 := Lib.hid (RowAt.of_owns h5)
    have HOK4 : Hid (∀ x ∈ E4, RqOk w4 x) := fun x hx => (h6 x hx).ok
    have HE4 := Lib.hid hE4
    clear hE4 h5 h6 hb4
    go_wp2_with fail
    refine HOR4.out.mono ?_
    rintro e w5 ⟨v5, rfl, ho5, hb5⟩
    obtain ⟨E5, hE5, h7, h8⟩ := ho5
    have HEQ := Lib.hid (equalFunc_same v4 v5 E4 E5 w5 (RowAt.below HROW4.out hb5) (RowAt.of_owns h7) (fun x hx => (HOK4.out x hx).below hb5) (fun x hx => (h8 x hx).ok) (by rw [hE5]; exact HE4.out) (by omega))
    have HB5 : Hid (Below w.heap.size w w5) := Below.step HB4.out hb5
    clear hE5 h7 h8 hb5
    go_wp2_with fail
    refine HEQ.out.mono ?_
    rintro e w6 ⟨rfl, hb6⟩
    have hB6 : Below w.heap.size w w6 := Below.step HB5.out hb6
    clear hb6
    go_wp2
    go_ret
    exact ⟨rfl, hB6⟩

-- CLOSING

set_option maxRecDepth 100000 in
theorem liftAgain_lifted (os : Os) (started : os.Started) (H : Type) (enc' : TypeId × Value → H) :
    ReturnsInHanded {} Try.checked os 5 .any (Rows.liftAgainSpec.pre6 enc' Try.prog Try.f5 Rows.liftAgainRow.domain false) (Rows.liftAgainSpec.post enc' Try.prog Try.f5 false true false false) := by
  refine returnsInHanded_of_change (C := Try.checked) Try.own started (by kernel_rfl) Try.func5
    (ChangeSpec.witness6 (enc := enc') (C := Try.checked) false ⟨#[], #[(.slice none 0 0), (.int .i64 0)], []⟩ 8 (by kernel_rfl) (by kernel_rfl) (by kernel_rfl) (by kernel_rfl)) ?_
  intro W base args ds gs before hval0 hW hcnd _
  have hval : ∀ (j : Nat) t v, Try.f5.params[j]? = some t → args[j]? = some v → Value.okWide Try.prog W .any base t v := hval0
  have hW' := hW
  obtain ⟨p, q, hA0, hV, rfl, hfz, hnd⟩ := hW
  have hA : DataW.TrodAll enc' Try.prog W 0 (fun _ => true) true Try.f5.params.toList args.toList ds p := hA0
  rw [Try.params5] at hA hval
  obtain ⟨v0, v1, d0, d1, p0, p1, rfl, rfl, rfl, h0, h1⟩ := trodAll_two hA
  obtain ⟨rfl, rfl⟩ := trodVars_none hV
  obtain ⟨l0, hI0, hM0, hx0⟩ := open_putsAt (P := Try.prog) Try.underlying42 Try.underlying55 (by kernel_rfl) rfl rfl (by kernel_rfl) (by kernel_rfl) (by kernel_rfl) (by kernel_rfl) (hval 0 42 v0 rfl rfl) h0
  obtain ⟨hd, rfl, rfl, rfl, whd⟩ := open_int Try.underlying3 (hval 1 3 v1 rfl rfl) h1
  clear hA0 hval0
  refine (liftAgain_raw _ l0 hM0 hx0 hd W hI0).mono fun e W' ⟨he, hw⟩ => ?_
  subst he
  exact ⟨_, rfl, law_post 4 Try.laidOut (by kernel_rfl) rfl rfl Try.underlying4 hW' rfl hw⟩

theorem liftAgain_holds : Rows.LiftAgainSaid :=
  OpenClaim.holds_of_wide 5 Try.f5 rfl rfl rfl rfl rfl rfl rfl ⟨rfl, rfl, rfl, rfl, rfl⟩ rfl rfl rfl rfl rfl (by kernel_rfl) Try.func5 (by kernel_rfl)
    (of_decide_eq_true (by kernel_rfl)) (by unfold Func.isWrapper; first | (rw [if_pos (by decide +kernel)]; kernel_rfl) | (rw [if_neg (by decide +kernel)]; exact ⟨rfl, rfl⟩))
    (fun os started H enc _ => liftAgain_lifted os started H enc)

end Go.Proofs.Ythkcnihmfeilgaa
