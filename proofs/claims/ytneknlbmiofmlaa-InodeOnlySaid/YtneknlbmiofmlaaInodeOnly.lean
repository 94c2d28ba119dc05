/- InodeOnly: for all bytes the statement returns true and leaves its argument alone. No conditions. -/
import Derived.Test.YtneknlbmiofmlaaInode5
import Derived.Test.YtneknlbmiofmlaaOpenNode
namespace Go.Proofs.Ytneknlbmiofmlaa
open Go.ChangeShapes Go.WideShapes Go.ChangeAt Go.RowKit


set_option maxRecDepth 100000 in
set_option maxHeartbeats 4000000 in
theorem inodeOnly_raw (v : Value) (bs : List Int) (w : World) (h : BytesAt w v bs) (hl : bs.length ≤ maxLen) (hx : ∀ x, x ∈ bs → 0 ≤ x ∧ x ≤ 255) (hcap : ∃ p c, v = .slice p bs.length c ∧ bs.length ≤ c) :
    Calls Try.prog 8 #[v] w fun e w' => e = .returned (.bool true) ∧ Below w.heap.size w w' := by
  obtain ⟨N, HN⟩ : ∃ N, Hid (N = bs.length) := ⟨_, rfl⟩
  have HCAP := Lib.hid hcap
  obtain ⟨p, cp, hv, hcp⟩ := hcap
  rw [← HN.out] at hv hcp
  subst hv
  unfold maxLen at hl
  rw [← HN.out] at hl
  have H := Lib.hid h
  have HX := Lib.hid hx
  clear h hx
  by_cases hbig : 60 < N
  · have hbig2 : (60 : Int) < (N : Int) := by omega
    go_enter Try.func8, Try.ntmps8
    go_wp2_with fail
    refine (noted_true _).mono ?_
    rintro e w1 ⟨rfl, hb1⟩
    go_wp2
    go_ret
    exact ⟨rfl, hb1⟩
  have hbig2 : ¬ (60 : Int) < (N : Int) := by omega
  go_enter Try.func8, Try.ntmps8
  go_wp2_with fail
  refine (noted_true _).mono ?_
  rintro e w1 ⟨rfl, hb1⟩
  have H1 : Hid (BytesAt w1 (.slice p N cp) bs) := RowAt.below H.out hb1
  go_wp2_with fail
  refine (unpackN_any _ bs _ H1.out (by rw [← HN.out]; omega) HX.out HCAP.out).mono ?_
  rintro e w2 (⟨hg, r, rfl, hI, hb2⟩ | ⟨hg, rfl, hb2⟩)
  · obtain ⟨np, Hnp⟩ : ∃ n, Hid (n = (ptsN bs).length) := ⟨_, rfl⟩
    obtain ⟨rp, rc, hre⟩ := ints_shape hI np Hnp.out
    subst hre
    have hnp : np ≤ 8 := by rw [Hnp.out]; exact right_len (ptsOf_right hg.2.1.2.1)
    have HR : Hid (rightN (bs.getD 0 0) (bs.getD 1 0 + bs.getD 2 0 * 256) (bs.getD 3 0) (bs.getD 4 0) (bs.getD 5 0 + bs.getD 6 0 * 256) (bs.getD 7 0) (bs.getD 8 0) (ptsN bs) = 0) := hg.2.2.1
    have HP : Hid (packN (bs.getD 0 0) (bs.getD 1 0 + bs.getD 2 0 * 256) (bs.getD 3 0) (bs.getD 4 0) (bs.getD 5 0 + bs.getD 6 0 * 256) (bs.getD 7 0) (bs.getD 8 0) (ptsN bs) = bs) := hg.2.2.2
    have HL32 : Hid (bs.length = 32) := hg.1
    clear hg
    generalize bs.getD 0 0 = y0 at *
    generalize bs.getD 1 0 + bs.getD 2 0 * 256 = ym at *
    generalize bs.getD 3 0 = y3 at *
    generalize bs.getD 4 0 = y4 at *
    generalize bs.getD 5 0 + bs.getD 6 0 * 256 = ys at *
    generalize bs.getD 7 0 = y7 at *
    generalize bs.getD 8 0 = y8 at *
    have hB2 := Below.step hb1 hb2
    have hba : Below w2.heap.size w2 (w2.alloc (.cells #[.int .i64 y0, .int .i64 ym, .int .i64 y3, .int .i64 y4, .int .i64 ys, .int .i64 y7, .int .i64 y8, .slice rp np rc] 46)) := (Below.refl _ _).alloc (Nat.le_refl _) _
    have HI3 : Hid (IntsAt (w2.alloc (.cells #[.int .i64 y0, .int .i64 ym, .int .i64 y3, .int .i64 y4, .int .i64 ys, .int .i64 y7, .int .i64 y8, .slice rp np rc] 46)) (.slice rp np rc) (ptsN bs)) := RowAt.below hI hba
    have H3 : Hid (BytesAt (w2.alloc (.cells #[.int .i64 y0, .int .i64 ym, .int .i64 y3, .int .i64 y4, .int .i64 ys, .int .i64 y7, .int .i64 y8, .slice rp np rc] 46)) (.slice p N cp) bs) := RowAt.below (RowAt.below H1.out hb2) hba
    have Q3 : Hid ((w2.alloc (.cells #[.int .i64 y0, .int .i64 ym, .int .i64 y3, .int .i64 y4, .int .i64 ys, .int .i64 y7, .int .i64 y8, .slice rp np rc] 46)).heap[w2.heap.size]? = some (.cells #[.int .i64 y0, .int .i64 ym, .int .i64 y3, .int .i64 y4, .int .i64 ys, .int .i64 y7, .int .i64 y8, .slice rp np rc] 46 (0, 0))) := heap_alloc_new _ _
    have hB3 := Below.step hB2 hba
    clear hI hb2 hb1 hba
    go_wp2_with fail
    refine (packN_good y0 ym y3 y4 ys y7 y8 _ (ptsN bs) _ HI3.out HR.out).mono ?_
    rintro e w4 ⟨gp, rfl, hgp, hhp, hb4⟩
    rw [HP.out] at hhp
    have HI4 := Lib.hid (RowAt.below HI3.out hb4)
    have H4 : Hid (BytesAt w4 (.slice p N cp) bs) := RowAt.below H3.out hb4
    have HB4 : Hid (BytesAt w4 (.slice (some ⟨gp, 0, none⟩) 32 32) bs) := u8_block HL32.out hhp
    have Q4 := Lib.hid (heap_below hb4 Q3.out)
    have hB4 := Below.step hB3 hb4
    clear hhp hb4
    go_wp2_with fail
    refine (equalBytes_true _ _ bs _ H4.out HB4.out (by rw [HL32.out]; omega)).mono ?_
    rintro e w5 ⟨rfl, hb5⟩
    have HI5 : Hid (IntsAt w5 (.slice rp np rc) (ptsN bs)) := RowAt.below HI4.out hb5
    have Q5 := Lib.hid (heap_below hb5 Q4.out)
    have hB5 := Below.step hB4 hb5
    clear hb5
    obtain ⟨x0, x1, x2, x3, x4, x5, x6, x7⟩ := node_cells Q5.out
    go_wp2_with fail
    refine (right_node y0 ym y3 y4 ys y7 y8 _ (ptsN bs) _ HI5.out (by rw [← Hnp.out]; omega)).mono ?_
    rw [HR.out]
    rintro e w6 ⟨rfl, hb6⟩
    have hB6 := Below.step hB5 hb6
    clear hb6
    go_wp2
    go_ret
    exact ⟨rfl, hB6⟩
  · have hB2 := Below.step hb1 hb2
    have hB3 := hB2.alloc hB2.size (.cells #[.int .i64 0, .int .i64 0, .int .i64 0, .int .i64 0, .int .i64 0, .int .i64 0, .int .i64 0, .slice none 0 0] 46)
    clear hg hb2 hb1
    go_wp2_with fail
    refine (alike_true 0 0 0 0 0 0 0 (.slice none 0 0) (.slice none 0 0) [] _ ⟨rfl, Or.inl ⟨rfl, _, _, rfl⟩⟩ ⟨rfl, Or.inl ⟨rfl, _, _, rfl⟩⟩ (by simp)).mono ?_
    rintro e w3 ⟨rfl, hb3⟩
    have hB4 := Below.step hB3 hb3
    clear hb3
    go_wp2
    go_ret
    exact ⟨rfl, hB4⟩

theorem inodeOnly_true (v : Value) (l : List Int) (h1 : l.length ≤ maxLen) (hx : ∀ x, x ∈ l → 0 ≤ x ∧ x ≤ 255) (w : World) (h : BytesAt w v l) (hcap : ∃ p c, v = .slice p l.length c ∧ l.length ≤ c) :
    Calls Try.prog 8 #[v] w fun e w' => e = .returned (.bool true) ∧ Below w.heap.size w w' := inodeOnly_raw v l w h h1 hx hcap

-- CLOSING

set_option maxRecDepth 100000 in
theorem inodeOnly_lifted (os : Os) (started : os.Started) (H : Type) (enc' : TypeId × Value → H) :
    ReturnsInHanded {} Try.checked os 8 .any (Rows.inodeOnlySpec.pre6 enc' Try.prog Try.f8 Rows.inodeOnlyRow.domain false) (Rows.inodeOnlySpec.post enc' Try.prog Try.f8 false true false false) := by
  refine returnsInHanded_of_change (C := Try.checked) Try.own started (by kernel_rfl) Try.func8
    (ChangeSpec.witness6 (enc := enc') (C := Try.checked) false ⟨#[], #[.slice none 0 0], []⟩ 8 (by kernel_rfl) (by kernel_rfl) (by kernel_rfl) (by kernel_rfl)) ?_
  intro W base args ds gs before hval0 hW hcnd _
  have hval : ∀ (j : Nat) t v, Try.f8.params[j]? = some t → args[j]? = some v → Value.okWide Try.prog W .any base t v := hval0
  have hW' := hW
  obtain ⟨p, q, hA0, hV, rfl, hfz, hnd⟩ := hW
  have hA : DataW.TrodAll enc' Try.prog W 0 (fun _ => true) true Try.f8.params.toList args.toList ds p := hA0
  rw [Try.params8] at hA hval
  obtain ⟨v0, d0, rfl, rfl, h0⟩ := trodAll_one hA
  obtain ⟨rfl, rfl⟩ := trodVars_none hV
  obtain ⟨l0, hI0, hM0, hx0⟩ := open_bytesAt (hval 0 37 v0 rfl rfl) h0
  have hC0 := open_bytesCap (hval 0 37 v0 rfl rfl) h0 hI0
  clear hA0 hval0
  refine (inodeOnly_true _ l0 hM0 hx0 W hI0 hC0).mono fun e W' ⟨he, hw⟩ => ?_
  subst he
  exact ⟨_, rfl, law_post 4 Try.laidOut (by kernel_rfl) rfl rfl Try.underlying4 hW' rfl hw⟩

theorem inodeOnly_holds : Rows.InodeOnlySaid :=
  OpenClaim.holds_of_wide 8 Try.f8 rfl rfl rfl rfl rfl rfl rfl ⟨rfl, rfl, rfl, rfl, rfl⟩ rfl rfl rfl rfl rfl (by kernel_rfl) Try.func8 (by kernel_rfl)
    (of_decide_eq_true (by kernel_rfl)) (by unfold Func.isWrapper; first | (rw [if_pos (by decide +kernel)]; kernel_rfl) | (rw [if_neg (by decide +kernel)]; exact ⟨rfl, rfl⟩))
    (fun os started H enc _ => inodeOnly_lifted os started H enc)

end Go.Proofs.Ytneknlbmiofmlaa
