/- QuotaBack: what is packed is unpacked, in just one way: the statement in full, for all inputs, no condition. -/
import Derived.Test.YtneknlbmiofmlaaQuota18
import Derived.Test.YtneknlbmiofmlaaQuotaP
import Derived.Test.YtneknlbmiofmlaaOpenPairs
import Derived.Test.YtneknlbmiofmlaaOpenBytes
namespace Go.Proofs.Ytneknlbmiofmlaa
open Go.ChangeShapes Go.WideShapes Go.ChangeAt Go.RowKit

theorem flatQ_get (l : List (Int × Int)) (i : Nat) (hi : i < l.length) (r : List Int) : (flatQ l ++ r).getD (3 * i) 0 = l[i].1 ∧ (flatQ l ++ r).getD (3 * i + 1) 0 = l[i].2 % 256 ∧ (flatQ l ++ r).getD (3 * i + 2) 0 = l[i].2 / 256 := by
  have e : flatQ l = flatQ (l.take i) ++ (l[i].1 :: l[i].2 % 256 :: l[i].2 / 256 :: flatQ (l.drop (i + 1))) := by
    conv => lhs; rw [← List.take_append_drop i l, List.drop_eq_getElem_cons hi, flatQ_append]
    rfl
  have hl : (flatQ (l.take i)).length = 3 * i := by rw [flatQ_len, List.length_take]; omega
  rw [e, List.append_assoc]
  simp only [List.getD_eq_getElem?_getD]
  refine ⟨?_, ?_, ?_⟩
  · rw [List.getElem?_append_right (by omega), hl, show 3 * i - 3 * i = 0 by omega]; rfl
  · rw [List.getElem?_append_right (by omega), hl, show 3 * i + 1 - 3 * i = 1 by omega]; rfl
  · rw [List.getElem?_append_right (by omega), hl, show 3 * i + 2 - 3 * i = 2 by omega]; rfl
theorem rowsB_pack (l : List (Int × Int)) : rowsB (packQ l.length l) = l := by
  unfold rowsB
  have h0 : (packQ l.length l).getD 0 0 = (l.length : Int) := rfl
  rw [h0, Int.toNat_natCast]
  apply List.ext_getElem (by simp)
  intro i h1 h2
  simp only [List.getElem_map, List.getElem_range]
  obtain ⟨a, b, c⟩ := flatQ_get l i h2 (List.replicate (63 - l.length * 3) 0)
  unfold rowB packQ
  have e1 : ∀ (L : List Int) k, ((l.length : Int) :: L).getD (k + 1) 0 = L.getD k 0 := fun L k => by simp
  rw [e1, show 3 * i + 2 = (3 * i + 1) + 1 by omega, e1, show 3 * i + 3 = (3 * i + 2) + 1 by omega, e1, a, b, c]
  have : l[i].2 % 256 + l[i].2 / 256 * 256 = l[i].2 := by omega
  rw [this]
theorem packQ_in {l : List (Int × Int)} (h : l.length ≤ 20) (hs : Srt l) : ∀ x ∈ packQ l.length l, 0 ≤ x ∧ x ≤ 255 := by
  intro x hx
  unfold packQ at hx
  rcases List.mem_cons.1 hx with rfl | hx
  · omega
  · rcases List.mem_append.1 hx with hx | hx
    · obtain ⟨y, hy, hx⟩ := List.mem_flatMap.1 hx
      have := hs.1 y hy
      simp at hx
      rcases hx with rfl | rfl | rfl <;> omega
    · have := List.eq_of_mem_replicate hx
      omega
theorem good_packQ {l : List (Int × Int)} (hr : rightQ l = 0) : goodQB (packQ l.length l) := by
  have h20 := (rightQ_ok hr).1
  refine ⟨packQ_len _ _ h20, ?_, by rw [rowsB_pack]; exact hr, by rw [rowsB_pack]⟩
  show (l.length : Int) ≤ 20
  omega

set_option maxRecDepth 100000 in
set_option maxHeartbeats 4000000 in
theorem quotaBack_raw (v u : Value) (l : List (Int × Int)) (bs : List Int) (w : World) (h : RowAt w v 2 l.length (pairs l)) (hl : l.length ≤ 9223372036854775807) (hb : BytesAt w u bs) (hbl : bs.length ≤ 9223372036854775807) (hx : ∀ x, x ∈ bs → 0 ≤ x ∧ x ≤ 255) :
    Calls Try.prog 13 #[v, u] w fun e w' => e = .returned (.bool true) ∧ Below w.heap.size w w' := by
  obtain ⟨a0, c0, rfl, _⟩ := rows_cells h
  obtain ⟨n, HN⟩ : ∃ n, Hid (n = l.length) := ⟨_, rfl⟩
  rw [← HN.out] at hl ⊢
  have HR : Hid (RowAt w (.slice a0 n c0) 2 l.length (pairs l)) := by rw [HN.out]; exact h
  obtain ⟨N, HNN⟩ : ∃ N, Hid (N = bs.length) := ⟨_, rfl⟩
  obtain ⟨p, cp, hu⟩ : ∃ p cp, u = .slice p N cp := by
    rw [HNN.out]
    obtain ⟨_, ⟨h0, a0, c0, rfl⟩ | ⟨g, o, cap, rfl, hc⟩⟩ := hb
    · exact ⟨a0, c0, by rw [h0]⟩
    · exact ⟨_, cap, rfl⟩
  subst hu
  rw [← HNN.out] at hbl
  have HB : Hid (BytesAt w (.slice p N cp) bs) := hb
  have HX := Lib.hid hx
  clear h hb hx
  go_enter Try.func13, Try.ntmps13
  go_wp2_with fail
  refine (limited_true _).mono ?_
  rintro e w1 ⟨rfl, hb1⟩
  have HR1 : Hid (RowAt w1 (.slice a0 n c0) 2 l.length (pairs l)) := RowAt.below HR.out hb1
  have HB1 : Hid (BytesAt w1 (.slice p N cp) bs) := RowAt.below HB.out hb1
  by_cases h40 : 40 < n
  · go_wp2
    go_ret
    exact ⟨rfl, hb1⟩
  by_cases h100 : 100 < N
  · go_wp2
    go_ret
    exact ⟨rfl, hb1⟩
  have tail : ∀ W, Below w1.heap.size w1 W → Hid (Below w.heap.size w W ∧ RowAt W (.slice a0 n c0) 2 l.length (pairs l) ∧ BytesAt W (.slice p N cp) bs) := fun W hW =>
    ⟨Below.step hb1 hW, RowAt.below HR1.out hW, RowAt.below HB1.out hW⟩
  have TL := Lib.hid tail
  clear tail
  go_wp2_with fail
  refine (unpackQ_any _ bs _ HB1.out HX.out (by rw [← HNN.out]; omega)).mono ?_
  rintro e w2 (⟨hg, m, rfl, hm, hb2⟩ | ⟨hg, rfl, hb2⟩)
  case' inl =>
    have HG := Lib.hid hg
    obtain ⟨S, HS⟩ : ∃ S, Hid (rowsB bs = S) := ⟨_, rfl⟩
    rw [HS.out] at hm
    have HM := Lib.hid hm
    have HS0 : Hid (rightQ S = 0) := by have := hg.2.2.1; rw [HS.out] at this; exact this
    have HS1 : Hid (packQ S.length S = bs) := by have := hg.2.2.2; rw [HS.out] at this; exact this
    clear hg hm
    have HT2 := TL.out w2 hb2
    go_wp2_with fail
    refine (packQ_good _ S _ HM.out HS0.out).mono ?_
    rintro e w3 ⟨g3, rfl, hg3, hh3, hb3⟩
    rw [HS1.out] at hh3
    have HP3 : Hid (BytesAt w3 (.slice (some ⟨g3, 0, none⟩) 64 64) bs) := u8_block HG.out.1 hh3
    have hb3' := Below.step hb2 hb3
    have HT3 := TL.out w3 hb3'
    clear hh3 hb3
    go_wp2_with fail
    refine (equalBytes_true _ _ bs _ HP3.out HT3.out.2.2 (by rw [← HNN.out]; omega)).mono ?_
    rintro e w4 ⟨rfl, hb4⟩
    have hb4' := Below.step hb3' hb4
    have HT4 := TL.out w4 hb4'
    have hbx := hb4'
    clear hb4 hb3' hb2 hb4'
    generalize w4 = wx at *
  case' inr =>
    have HT4 := TL.out w2 hb2
    have hbx := hb2
    clear hb2
    generalize w2 = wx at *
  all_goals
    by_cases hr : rightQ l = 0
    · have HRR := Lib.hid hr
      clear hr
      go_wp2_with fail
      refine (packQ_good _ l _ HT4.out.2.1 HRR.out).mono ?_
      rintro e w5 ⟨g5, rfl, hg5, hh5, hb5⟩
      have hl20 := (rightQ_ok HRR.out).1
      have HBY : Hid (BytesAt w5 (.slice (some ⟨g5, 0, none⟩) 64 64) (packQ l.length l)) := u8_block (packQ_len _ _ hl20) hh5
      have hb5' := Below.step hbx hb5
      clear hh5 hb5 hl20
      go_wp2_with fail
      refine (unpackQ_any _ (packQ l.length l) _ HBY.out (packQ_in (rightQ_ok HRR.out).1 ((okQ_iff l).1 (rightQ_ok HRR.out).2)) (by rw [packQ_len _ _ (rightQ_ok HRR.out).1]; omega)).mono ?_
      rintro e w6 (⟨_, m6, rfl, hm6, hb6⟩ | ⟨hg6, _⟩)
      · rw [rowsB_pack] at hm6
        have HM6 := Lib.hid hm6
        have hb6' := Below.step hb5' hb6
        have HT6 := TL.out w6 hb6'
        clear hm6 hb6 hb5'
        go_wp2_with fail
        refine (equalRows_true _ _ l _ HT6.out.2.1 HM6.out (by rw [← HN.out]; omega)).mono ?_
        rintro e w7 ⟨rfl, hb7⟩
        have HT7 := Below.step HT6.out.1 hb7
        go_wp2
        go_ret
        exact ⟨rfl, HT7⟩
      · exact absurd (good_packQ HRR.out) hg6
    · obtain ⟨c, HC⟩ : ∃ c, Hid (rightQ l = c) := ⟨_, rfl⟩
      have hc0 : (c != 0) = true := by rw [bne_iff_ne, ← HC.out]; exact hr
      clear hr
      go_wp2_with fail
      refine (packQ_bad _ l _ HT4.out.2.1 (by rw [← HN.out]; omega) c HC hc0).mono ?_
      rintro e w5 ⟨rfl, hb5⟩
      have hb5' := Below.step hbx hb5
      have HT5 := TL.out w5 hb5'
      clear hb5
      go_wp2_with fail
      refine (rightQ_any _ l _ HT5.out.2.1 (by rw [← HN.out]; omega)).mono ?_
      rw [HC.out]
      rintro e w6 ⟨rfl, hb6⟩
      have HT6 := Below.step HT5.out.1 hb6
      have hcc : (c == c) = true := by simp
      go_wp2
      go_ret
      exact ⟨rfl, HT6⟩

-- CLOSING

set_option maxRecDepth 100000 in
theorem quotaBack_lifted (os : Os) (started : os.Started) (H : Type) (enc' : TypeId × Value → H) :
    ReturnsInHanded {} Try.checked os 13 .any (Rows.quotaBackSpec.pre6 enc' Try.prog Try.f13 Rows.quotaBackRow.domain false) (Rows.quotaBackSpec.post enc' Try.prog Try.f13 false true false false) := by
  refine returnsInHanded_of_change (C := Try.checked) Try.own started (by kernel_rfl) Try.func13
    (ChangeSpec.witness6 (enc := enc') (C := Try.checked) false ⟨#[], #[(.slice none 0 0), (.slice none 0 0)], []⟩ 8 (by kernel_rfl) (by kernel_rfl) (by kernel_rfl) (by kernel_rfl)) ?_
  intro W base args ds gs before hval0 hW hcnd _
  have hval : ∀ (j : Nat) t v, Try.f13.params[j]? = some t → args[j]? = some v → Value.okWide Try.prog W .any base t v := hval0
  have hW' := hW
  obtain ⟨p, q, hA0, hV, rfl, hfz, hnd⟩ := hW
  have hA : DataW.TrodAll enc' Try.prog W 0 (fun _ => true) true Try.f13.params.toList args.toList ds p := hA0
  rw [Try.params13] at hA hval
  obtain ⟨v0, v1, d0, d1, p0, p1, rfl, rfl, rfl, h0, h1⟩ := trodAll_two hA
  obtain ⟨rfl, rfl⟩ := trodVars_none hV
  obtain ⟨l, hIl, hMl, hxl⟩ := open_pairsAt (P := Try.prog) Try.underlying56 Try.underlying63 (by kernel_rfl) rfl rfl (by kernel_rfl) (by kernel_rfl) (by kernel_rfl) (by kernel_rfl) (hval 0 56 v0 rfl rfl) h0
  obtain ⟨bs, hIb, hMb, hxb⟩ := open_bytesAt (hval 1 37 v1 rfl rfl) h1
  clear hA0 hval0
  refine (quotaBack_raw v0 v1 l bs W hIl (by unfold maxLen at hMl; omega) hIb (by unfold maxLen at hMb; omega) hxb).mono fun e W' ⟨he, hw⟩ => ?_
  subst he
  exact ⟨_, rfl, law_post 4 Try.laidOut (by kernel_rfl) rfl rfl Try.underlying4 hW' rfl hw⟩

theorem quotaBack_holds : Rows.QuotaBackSaid :=
  OpenClaim.holds_of_wide 13 Try.f13 rfl rfl rfl rfl rfl rfl rfl ⟨rfl, rfl, rfl, rfl, rfl⟩ rfl rfl rfl rfl rfl (by kernel_rfl) Try.func13 (by kernel_rfl)
    (of_decide_eq_true (by kernel_rfl)) (by unfold Func.isWrapper; first | (rw [if_pos (by decide +kernel)]; kernel_rfl) | (rw [if_neg (by decide +kernel)]; exact ⟨rfl, rfl⟩))
    (fun os started H enc _ => quotaBack_lifted os started H enc)

end Go.Proofs.Ytneknlbmiofmlaa
