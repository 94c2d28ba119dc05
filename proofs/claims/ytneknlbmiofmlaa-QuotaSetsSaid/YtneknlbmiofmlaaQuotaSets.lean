/- QuotaSets: what is set is so, for nobody else; rows stay right; set back they are as they were: the statement in full, for all inputs, no condition. -/
import Derived.Test.YtneknlbmiofmlaaQuota18
import Derived.Test.YtneknlbmiofmlaaQuotaP
import Derived.Test.YtneknlbmiofmlaaPick
import Derived.Test.YtneknlbmiofmlaaOpenPairs
namespace Go.Proofs.Ytneknlbmiofmlaa
open Go.ChangeShapes Go.WideShapes Go.ChangeAt Go.RowKit

theorem rightQ_of {l : List (Int × Int)} (h : l.length ≤ 20) (hs : Srt l) : rightQ l = 0 := by
  unfold rightQ; rw [if_neg (by omega), if_pos ((okQ_iff l).2 hs)]

set_option maxRecDepth 100000 in
set_option maxHeartbeats 4000000 in
theorem quotaSets_raw (v : Value) (l : List (Int × Int)) (u lim oth : Int) (w : World) (h : RowAt w v 2 l.length (pairs l)) (hl : l.length ≤ 9223372036854775807) :
    Calls Try.prog 11 #[v, .int .i64 u, .int .i64 lim, .int .i64 oth] w fun e w' => e = .returned (.bool true) ∧ Below w.heap.size w w' := by
  obtain ⟨a0, c0, rfl, _⟩ := rows_cells h
  obtain ⟨n, HN⟩ : ∃ n, Hid (n = l.length) := ⟨_, rfl⟩
  rw [← HN.out] at hl ⊢
  have HR : Hid (RowAt w (.slice a0 n c0) 2 l.length (pairs l)) := by rw [HN.out]; exact h
  clear h
  go_enter Try.func11, Try.ntmps11
  go_wp2_with fail
  refine (limited_true _).mono ?_
  rintro e w1 ⟨rfl, hb1⟩
  have HR1 : Hid (RowAt w1 (.slice a0 n c0) 2 l.length (pairs l)) := RowAt.below HR.out hb1
  by_cases h40 : 40 < n
  · go_wp2
    go_ret
    exact ⟨rfl, hb1⟩
  obtain ⟨rq, HRQ⟩ : ∃ q, Hid (rightQ l = q) := ⟨_, rfl⟩
  go_wp2_with fail
  refine (rightQ_any _ l _ HR1.out (by rw [← HN.out]; omega)).mono ?_
  rw [HRQ.out]
  rintro e w2 ⟨rfl, hb2⟩
  have HR2 : Hid (RowAt w2 (.slice a0 n c0) 2 l.length (pairs l)) := RowAt.below HR1.out hb2
  have hB2 := Below.step hb1 hb2
  clear hb2
  by_cases hrq : rq = 0
  · subst hrq
    have HS : Hid (Srt l ∧ l.length ≤ 20) := ⟨(okQ_iff l).1 (rightQ_ok HRQ.out).2, (rightQ_ok HRQ.out).1⟩
    obtain ⟨u0, u1⟩ := pk_range u 256 (by omega) (by omega)
    obtain ⟨o0, o1⟩ := pk_range oth 256 (by omega) (by omega)
    obtain ⟨m0, m1⟩ := pk_range lim 258 (by omega) (by omega)
    obtain ⟨U, HU⟩ : ∃ H, Hid (pk u 256 = H) := ⟨_, rfl⟩
    obtain ⟨O, HO⟩ : ∃ M, Hid (pk oth 256 = M) := ⟨_, rfl⟩
    obtain ⟨M, HM⟩ : ∃ M, Hid (pk lim 258 = M) := ⟨_, rfl⟩
    rw [HU.out] at u0 u1
    rw [HO.out] at o0 o1
    rw [HM.out] at m0 m1
    go_wp2_with fail
    refine (pick_any u 256 _ (by omega) (by omega)).mono ?_
    rw [HU.out]
    rintro e w' ⟨rfl, rfl⟩
    go_wp2_with fail
    refine (pick_any oth 256 _ (by omega) (by omega)).mono ?_
    rw [HO.out]
    rintro e w' ⟨rfl, rfl⟩
    go_wp2_with fail
    refine (pick_any lim 258 _ (by omega) (by omega)).mono ?_
    rw [HM.out]
    rintro e w' ⟨rfl, rfl⟩
    go_wp2_with fail
    refine (set_any _ l U (M - 1) _ HR2.out HS.out.2 ((okQ_iff l).2 HS.out.1) u0 (by omega) (by omega) (by omega)).mono ?_
    rintro e w3 ⟨hs1, hs2, hb3⟩
    have HR3 : Hid (RowAt w3 (.slice a0 n c0) 2 l.length (pairs l)) := RowAt.below HR2.out hb3
    have hB3 := Below.step hB2 hb3
    clear hb3
    cases hf : fullQ l U (M - 1) with
    | true =>
      have he := hs1 hf
      subst he
      obtain ⟨hl20, hof⟩ := full_of HS.out.2 hf
      have hn20 : n = 20 := by rw [HN.out]; exact hl20
      clear hs1 hs2 hf hl20
      subst hn20
      have HOF := Lib.hid hof
      clear hof
      go_wp2_with fail
      refine (of_any _ l U _ HR3.out (by rw [← HN.out]; omega)).mono ?_
      rw [HOF.out]
      rintro e w4 ⟨rfl, hb4⟩
      have hB4 := Below.step hB3 hb4
      go_wp2
      go_ret
      exact ⟨rfl, hB4⟩
    | false =>
      obtain ⟨v1, he, hown⟩ := hs2 hf
      subst he
      have HLN : Hid ((setQ l U (M - 1)).length ≤ 20) := set_len HS.out.2 hf
      have HSS : Hid (Srt (setQ l U (M - 1))) := srt_set HS.out.1 u0 (by omega) (by omega) (by omega)
      have HSOF : Hid (ofQ (setQ l U (M - 1)) U = M - 1) := set_of l U (M - 1)
      have HSOT : Hid (U ≠ O → ofQ (setQ l U (M - 1)) O = ofQ l O) := set_other l U (M - 1) O
      have HBK : Hid (setQ (setQ l U (M - 1)) U (ofQ l U) = l ∧ fullQ (setQ l U (M - 1)) U (ofQ l U) = false) := ⟨(set_back HS.out.1 U (M - 1)).1, (set_back HS.out.1 U (M - 1)).2 HS.out.2⟩
      have hlo := of_lo HS.out.1 U
      obtain ⟨q, HQ⟩ : ∃ q, Hid (ofQ l U = q) := ⟨_, rfl⟩
      obtain ⟨r, Hr⟩ : ∃ q, Hid (ofQ l O = q) := ⟨_, rfl⟩
      rw [HQ.out] at hlo HBK
      rw [Hr.out] at HSOT
      obtain ⟨q0, q1⟩ := hlo
      generalize setQ l U (M - 1) = S at *
      have HRS3 : Hid (RowAt w3 v1 2 S.length (pairs S)) := RowAt.of_owns hown
      clear hs1 hs2 hf hown
      go_wp2_with fail
      refine (of_any _ l U _ HR3.out (by rw [← HN.out]; omega)).mono ?_
      rw [HQ.out]
      rintro e w4 ⟨rfl, hb4⟩
      have HR4 : Hid (RowAt w4 (.slice a0 n c0) 2 l.length (pairs l)) := RowAt.below HR3.out hb4
      have HRS4 : Hid (RowAt w4 v1 2 S.length (pairs S)) := RowAt.below HRS3.out hb4
      have hB4 := Below.step hB3 hb4
      clear hb4
      go_wp2_with fail
      refine (set_any _ S U q _ HRS4.out HLN.out ((okQ_iff S).2 HSS.out) u0 (by omega) q0 q1).mono ?_
      rintro e w5 ⟨_, hs2, hb5⟩
      obtain ⟨v2, he, hown⟩ := hs2 HBK.out.2
      rw [HBK.out.1] at hown
      subst he
      have HR5 : Hid (RowAt w5 (.slice a0 n c0) 2 l.length (pairs l)) := RowAt.below HR4.out hb5
      have HRS5 : Hid (RowAt w5 v1 2 S.length (pairs S)) := RowAt.below HRS4.out hb5
      have HRT5 : Hid (RowAt w5 v2 2 l.length (pairs l)) := RowAt.of_owns hown
      have hB5 := Below.step hB4 hb5
      clear hb5 hs2 hown
      go_wp2_with fail
      refine (of_any _ S U _ HRS5.out (by have := HLN.out; omega)).mono ?_
      rw [HSOF.out]
      rintro e w6 ⟨rfl, hb6⟩
      have HR6 : Hid (RowAt w6 (.slice a0 n c0) 2 l.length (pairs l)) := RowAt.below HR5.out hb6
      have HRS6 : Hid (RowAt w6 v1 2 S.length (pairs S)) := RowAt.below HRS5.out hb6
      have HRT6 : Hid (RowAt w6 v2 2 l.length (pairs l)) := RowAt.below HRT5.out hb6
      have hB6 := Below.step hB5 hb6
      clear hb6
      have tail : ∀ W, Below w6.heap.size w6 W → Hid (Below w.heap.size w W ∧ RowAt W (.slice a0 n c0) 2 l.length (pairs l) ∧ RowAt W v1 2 S.length (pairs S) ∧ RowAt W v2 2 l.length (pairs l)) := fun W hW =>
        ⟨Below.step hB6 hW, RowAt.below HR6.out hW, RowAt.below HRS6.out hW, RowAt.below HRT6.out hW⟩
      have TL := Lib.hid tail
      clear tail
      have HRR : Hid (rightQ S = 0) := rightQ_of HLN.out HSS.out
      by_cases huo : U = O
      · have b1 : (U == O) = true := by simpa using huo
        have HT := TL.out w6 (Below.refl _ _)
        have HUO := Lib.hid huo
        clear huo
        go_wp2_with fail
        refine (rightQ_any _ S _ HT.out.2.2.1 (by have := HLN.out; omega)).mono ?_
        rw [HRR.out]
        rintro e w7 ⟨rfl, hb7⟩
        have HT7 := TL.out w7 hb7
        clear hb7
        go_wp2_with fail
        refine (equalRows_true _ _ l _ HT7.out.2.2.2 HT7.out.2.1 (by rw [← HN.out]; omega)).mono ?_
        rintro e w8 ⟨rfl, hb8⟩
        have hB8 := Below.step HT7.out.1 hb8
        go_wp2
        go_ret
        exact ⟨rfl, hB8⟩
      · have b1 : (U == O) = false := by simpa using huo
        have HT := TL.out w6 (Below.refl _ _)
        have HSO2 : Hid (ofQ S O = r) := HSOT.out huo
        have HUO := Lib.hid huo
        clear huo
        go_wp2_with fail
        refine (of_any _ S O _ HT.out.2.2.1 (by have := HLN.out; omega)).mono ?_
        rw [HSO2.out]
        rintro e w7 ⟨rfl, hb7⟩
        have HT7 := TL.out w7 hb7
        go_wp2_with fail
        refine (of_any _ l O _ HT7.out.2.1 (by rw [← HN.out]; omega)).mono ?_
        rw [Hr.out]
        rintro e w8 ⟨rfl, hb8⟩
        have hb8' := Below.step hb7 hb8
        have HT8 := TL.out w8 hb8'
        clear hb7 hb8
        go_wp2_with fail
        refine (rightQ_any _ S _ HT8.out.2.2.1 (by have := HLN.out; omega)).mono ?_
        rw [HRR.out]
        rintro e w9 ⟨rfl, hb9⟩
        have HT9 := TL.out w9 (Below.step hb8' hb9)
        clear hb9 hb8'
        go_wp2_with fail
        refine (equalRows_true _ _ l _ HT9.out.2.2.2 HT9.out.2.1 (by rw [← HN.out]; omega)).mono ?_
        rintro e w10 ⟨rfl, hb10⟩
        have hB10 := Below.step HT9.out.1 hb10
        go_wp2
        go_ret
        exact ⟨rfl, hB10⟩
  · have b1 : (rq != 0) = true := by rw [bne_iff_ne]; exact hrq
    have HQ := Lib.hid hrq
    clear hrq
    go_wp2
    go_ret
    exact ⟨rfl, hB2⟩

-- CLOSING

set_option maxRecDepth 100000 in
theorem quotaSets_lifted (os : Os) (started : os.Started) (H : Type) (enc' : TypeId × Value → H) :
    ReturnsInHanded {} Try.checked os 11 .any (Rows.quotaSetsSpec.pre6 enc' Try.prog Try.f11 Rows.quotaSetsRow.domain false) (Rows.quotaSetsSpec.post enc' Try.prog Try.f11 false true false false) := by
  refine returnsInHanded_of_change (C := Try.checked) Try.own started (by kernel_rfl) Try.func11
    (ChangeSpec.witness6 (enc := enc') (C := Try.checked) false ⟨#[], #[(.slice none 0 0), .int .i64 0, .int .i64 0, .int .i64 0], []⟩ 8 (by kernel_rfl) (by kernel_rfl) (by kernel_rfl) (by kernel_rfl)) ?_
  intro W base args ds gs before hval0 hW hcnd _
  have hval : ∀ (j : Nat) t v, Try.f11.params[j]? = some t → args[j]? = some v → Value.okWide Try.prog W .any base t v := hval0
  have hW' := hW
  obtain ⟨p, q, hA0, hV, rfl, hfz, hnd⟩ := hW
  have hA : DataW.TrodAll enc' Try.prog W 0 (fun _ => true) true Try.f11.params.toList args.toList ds p := hA0
  rw [Try.params11] at hA hval
  obtain ⟨v0, v1, v2, v3, d0, d1, d2, d3, p0, p1, p2, p3, rfl, rfl, rfl, h0, h1, h2, h3⟩ := trodAll_four hA
  obtain ⟨rfl, rfl⟩ := trodVars_none hV
  obtain ⟨l, hIl, hMl, hxl⟩ := open_pairsAt (P := Try.prog) Try.underlying56 Try.underlying63 (by kernel_rfl) rfl rfl (by kernel_rfl) (by kernel_rfl) (by kernel_rfl) (by kernel_rfl) (hval 0 56 v0 rfl rfl) h0
  obtain ⟨u, rfl, rfl, rfl, wu⟩ := open_int Try.underlying3 (hval 1 3 v1 rfl rfl) h1
  obtain ⟨lim, rfl, rfl, rfl, wlim⟩ := open_int Try.underlying3 (hval 2 3 v2 rfl rfl) h2
  obtain ⟨oth, rfl, rfl, rfl, woth⟩ := open_int Try.underlying3 (hval 3 3 v3 rfl rfl) h3
  clear hA0 hval0
  refine (quotaSets_raw v0 l u lim oth W hIl (by unfold maxLen at hMl; omega)).mono fun e W' ⟨he, hw⟩ => ?_
  subst he
  exact ⟨_, rfl, law_post 4 Try.laidOut (by kernel_rfl) rfl rfl Try.underlying4 hW' rfl hw⟩

theorem quotaSets_holds : Rows.QuotaSetsSaid :=
  OpenClaim.holds_of_wide 11 Try.f11 rfl rfl rfl rfl rfl rfl rfl ⟨rfl, rfl, rfl, rfl, rfl⟩ rfl rfl rfl rfl rfl (by kernel_rfl) Try.func11 (by kernel_rfl)
    (of_decide_eq_true (by kernel_rfl)) (by unfold Func.isWrapper; first | (rw [if_pos (by decide +kernel)]; kernel_rfl) | (rw [if_neg (by decide +kernel)]; exact ⟨rfl, rfl⟩))
    (fun os started H enc _ => quotaSets_lifted os started H enc)

end Go.Proofs.Ytneknlbmiofmlaa
