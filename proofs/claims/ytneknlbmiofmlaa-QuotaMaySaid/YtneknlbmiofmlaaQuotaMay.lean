/- QuotaMay: less may be if more may: the statement in full, for all inputs, no condition. -/
import Derived.Test.YtneknlbmiofmlaaQuota18
import Derived.Test.YtneknlbmiofmlaaQuotaP
import Derived.Test.YtneknlbmiofmlaaPick
import Derived.Test.YtneknlbmiofmlaaOpenPairs
import Derived.Test.YtneknlbmiofmlaaTrod5
namespace Go.Proofs.Ytneknlbmiofmlaa
open Go.ChangeShapes Go.WideShapes Go.ChangeAt Go.RowKit

theorem may_cases (l : List (Int × Int)) (u H M L : Int) (hL : 0 ≤ L) (hLM : L ≤ M) : mayQ l u H (-L) = 0 ∧ ((mayQ l u H M = 16 ∧ ofQ l u < H + M) ∨ (mayQ l u H M = 0 ∧ mayQ l u H L = 0)) := by
  unfold mayQ
  refine ⟨by rw [if_neg (by omega)], ?_⟩
  by_cases h : 0 < M ∧ ofQ l u ≠ -1 ∧ ofQ l u < H + M
  · exact Or.inl ⟨if_pos h, h.2.2⟩
  · refine Or.inr ⟨if_neg h, if_neg (by omega)⟩

set_option maxRecDepth 100000 in
set_option maxHeartbeats 2000000 in
theorem quotaMay_raw (v : Value) (l : List (Int × Int)) (u has more less : Int) (w : World) (h : RowAt w v 2 l.length (pairs l)) (hl : l.length ≤ 9223372036854775807) :
    Calls Try.prog 12 #[v, .int .i64 u, .int .i64 has, .int .i64 more, .int .i64 less] w fun e w' => e = .returned (.bool true) ∧ Below w.heap.size w w' := by
  obtain ⟨a0, c0, rfl, _⟩ := rows_cells h
  obtain ⟨n, HN⟩ : ∃ n, Hid (n = l.length) := ⟨_, rfl⟩
  rw [← HN.out] at hl ⊢
  have HR : Hid (RowAt w (.slice a0 n c0) 2 l.length (pairs l)) := by rw [HN.out]; exact h
  clear h
  go_enter Try.func12, Try.ntmps12
  go_wp2_with fail
  refine (limited_true _).mono ?_
  rintro e w1 ⟨rfl, hb1⟩
  have HR1 : Hid (RowAt w1 (.slice a0 n c0) 2 l.length (pairs l)) := RowAt.below HR.out hb1
  by_cases h40 : 40 < n
  · go_wp2
    go_ret
    exact ⟨rfl, hb1⟩
  · obtain ⟨hp0, hp1⟩ := pk_range has 257 (by omega) (by omega)
    obtain ⟨mp0, mp1⟩ := pk_range more 257 (by omega) (by omega)
    obtain ⟨H, HH⟩ : ∃ H, Hid (pk has 257 = H) := ⟨_, rfl⟩
    obtain ⟨M, HM⟩ : ∃ M, Hid (pk more 257 = M) := ⟨_, rfl⟩
    rw [HH.out] at hp0 hp1
    rw [HM.out] at mp0 mp1
    obtain ⟨lp0, lp1⟩ := pk_range less (M + 1) (by omega) (by omega)
    obtain ⟨L, HL⟩ : ∃ L, Hid (pk less (M + 1) = L) := ⟨_, rfl⟩
    rw [HL.out] at lp0 lp1
    obtain ⟨a, HA⟩ : ∃ a, Hid (mayQ l u H M = a) := ⟨_, rfl⟩
    obtain ⟨b, HB⟩ : ∃ b, Hid (mayQ l u H L = b) := ⟨_, rfl⟩
    have hc := may_cases l u H M L lp0 (by omega)
    rw [HA.out, HB.out] at hc
    have HC := Lib.hid hc
    clear hc
    go_wp2_with fail
    refine (pick_any has 257 _ (by omega) (by omega)).mono ?_
    rw [HH.out]
    rintro e w' ⟨rfl, rfl⟩
    go_wp2_with fail
    refine (pick_any more 257 _ (by omega) (by omega)).mono ?_
    rw [HM.out]
    rintro e w' ⟨rfl, rfl⟩
    go_wp2_with fail
    refine (pick_any less (M + 1) _ (by omega) (by omega)).mono ?_
    rw [HL.out]
    rintro e w' ⟨rfl, rfl⟩
    go_wp2_with fail
    refine (may_any _ l u H M _ HR1.out (by rw [← HN.out]; omega) (by omega) (by omega) (by omega) (by omega)).mono ?_
    rw [HA.out]
    rintro e w2 ⟨rfl, hb2⟩
    have HR2 : Hid (RowAt w2 (.slice a0 n c0) 2 l.length (pairs l)) := RowAt.below HR1.out hb2
    have hB2 := Below.step hb1 hb2
    clear hb2
    go_wp2_with fail
    refine (may_any _ l u H L _ HR2.out (by rw [← HN.out]; omega) (by omega) (by omega) (by omega) (by omega)).mono ?_
    rw [HB.out]
    rintro e w3 ⟨rfl, hb3⟩
    have HR3 : Hid (RowAt w3 (.slice a0 n c0) 2 l.length (pairs l)) := RowAt.below HR2.out hb3
    have hB3 := Below.step hB2 hb3
    clear hb3
    rcases HC.out.2 with ⟨h16, hof⟩ | ⟨h0, h00⟩
    · subst h16
      have hof' := Lib.hid hof
      obtain ⟨q, HQ⟩ : ∃ q, Hid (ofQ l u = q) := ⟨_, rfl⟩
      rw [HQ.out] at hof
      go_wp2_with fail
      refine (may_any _ l u H (-L) _ HR3.out (by rw [← HN.out]; omega) (by omega) (by omega) (by omega) (by omega)).mono ?_
      rw [HC.out.1]
      rintro e w4 ⟨rfl, hb4⟩
      have HR4 : Hid (RowAt w4 (.slice a0 n c0) 2 l.length (pairs l)) := RowAt.below HR3.out hb4
      have hB4 := Below.step hB3 hb4
      clear hb4
      go_wp2_with fail
      refine (of_any _ l u _ HR4.out (by rw [← HN.out]; omega)).mono ?_
      rw [HQ.out]
      rintro e w5 ⟨rfl, hb5⟩
      have hB5 := Below.step hB4 hb5
      clear hb5
      go_wp2
      go_ret
      exact ⟨rfl, hB5⟩
    · subst h0 h00
      go_wp2_with fail
      refine (may_any _ l u H (-L) _ HR3.out (by rw [← HN.out]; omega) (by omega) (by omega) (by omega) (by omega)).mono ?_
      rw [HC.out.1]
      rintro e w4 ⟨rfl, hb4⟩
      have hB4 := Below.step hB3 hb4
      clear hb4
      go_wp2
      go_ret
      exact ⟨rfl, hB4⟩

-- CLOSING

set_option maxRecDepth 100000 in
theorem quotaMay_lifted (os : Os) (started : os.Started) (H : Type) (enc' : TypeId × Value → H) :
    ReturnsInHanded {} Try.checked os 12 .any (Rows.quotaMaySpec.pre6 enc' Try.prog Try.f12 Rows.quotaMayRow.domain false) (Rows.quotaMaySpec.post enc' Try.prog Try.f12 false true false false) := by
  refine returnsInHanded_of_change (C := Try.checked) Try.own started (by kernel_rfl) Try.func12
    (ChangeSpec.witness6 (enc := enc') (C := Try.checked) false ⟨#[], #[(.slice none 0 0), .int .i64 0, .int .i64 0, .int .i64 0, .int .i64 0], []⟩ 8 (by kernel_rfl) (by kernel_rfl) (by kernel_rfl) (by kernel_rfl)) ?_
  intro W base args ds gs before hval0 hW hcnd _
  have hval : ∀ (j : Nat) t v, Try.f12.params[j]? = some t → args[j]? = some v → Value.okWide Try.prog W .any base t v := hval0
  have hW' := hW
  obtain ⟨p, q, hA0, hV, rfl, hfz, hnd⟩ := hW
  have hA : DataW.TrodAll enc' Try.prog W 0 (fun _ => true) true Try.f12.params.toList args.toList ds p := hA0
  rw [Try.params12] at hA hval
  obtain ⟨v0, v1, v2, v3, v4, d0, d1, d2, d3, d4, p0, p1, p2, p3, p4, rfl, rfl, rfl, h0, h1, h2, h3, h4⟩ := trodAll_five hA
  obtain ⟨rfl, rfl⟩ := trodVars_none hV
  obtain ⟨l, hIl, hMl, hxl⟩ := open_pairsAt (P := Try.prog) Try.underlying56 Try.underlying63 (by kernel_rfl) rfl rfl (by kernel_rfl) (by kernel_rfl) (by kernel_rfl) (by kernel_rfl) (hval 0 56 v0 rfl rfl) h0
  obtain ⟨u, rfl, rfl, rfl, wu⟩ := open_int Try.underlying3 (hval 1 3 v1 rfl rfl) h1
  obtain ⟨has, rfl, rfl, rfl, whas⟩ := open_int Try.underlying3 (hval 2 3 v2 rfl rfl) h2
  obtain ⟨more, rfl, rfl, rfl, wmore⟩ := open_int Try.underlying3 (hval 3 3 v3 rfl rfl) h3
  obtain ⟨less, rfl, rfl, rfl, wless⟩ := open_int Try.underlying3 (hval 4 3 v4 rfl rfl) h4
  clear hA0 hval0
  refine (quotaMay_raw v0 l u has more less W hIl (by unfold maxLen at hMl; omega)).mono fun e W' ⟨he, hw⟩ => ?_
  subst he
  exact ⟨_, rfl, law_post 4 Try.laidOut (by kernel_rfl) rfl rfl Try.underlying4 hW' rfl hw⟩

theorem quotaMay_holds : Rows.QuotaMaySaid :=
  OpenClaim.holds_of_wide 12 Try.f12 rfl rfl rfl rfl rfl rfl rfl ⟨rfl, rfl, rfl, rfl, rfl⟩ rfl rfl rfl rfl rfl (by kernel_rfl) Try.func12 (by kernel_rfl)
    (of_decide_eq_true (by kernel_rfl)) (by unfold Func.isWrapper; first | (rw [if_pos (by decide +kernel)]; kernel_rfl) | (rw [if_neg (by decide +kernel)]; exact ⟨rfl, rfl⟩))
    (fun os started H enc _ => quotaMay_lifted os started H enc)

end Go.Proofs.Ytneknlbmiofmlaa
