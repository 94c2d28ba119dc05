/- InodeBack: for every inode the statement returns true and leaves its argument alone. No conditions. -/
import Derived.Test.YtneknlbmiofmlaaInode5
import Derived.Test.YtneknlbmiofmlaaOpenNode
namespace Go.Proofs.Ytneknlbmiofmlaa
open Go.ChangeShapes Go.WideShapes Go.ChangeAt Go.RowKit


set_option maxRecDepth 100000 in
set_option maxHeartbeats 4000000 in
theorem inodeBack_raw (k m u g s l up : Int) (v : Value) (P : List Int) (w : World) (h : IntsAt w v P) (hl : P.length ≤ maxLen) (hs0 : -9223372036854775808 ≤ s) (hs1 : s ≤ 9223372036854775807) :
    Calls Try.prog 7 #[.agg #[.int .i64 k, .int .i64 m, .int .i64 u, .int .i64 g, .int .i64 s, .int .i64 l, .int .i64 up, v]] w fun e w' => e = .returned (.bool true) ∧ Below w.heap.size w w' := by
  have _ := hs0
  have _ := hs1
  obtain ⟨N, HN⟩ : ∃ N, Hid (N = P.length) := ⟨_, rfl⟩
  obtain ⟨p, cp, hu⟩ := ints_shape h N HN.out
  subst hu
  unfold maxLen at hl
  rw [← HN.out] at hl
  have H := Lib.hid h
  clear h
  by_cases hbig : 30 < N
  · have hbig2 : (30 : Int) < (N : Int) := by omega
    go_enter Try.func7, Try.ntmps7
    go_wp2_with fail
    refine (noted_true _).mono ?_
    rintro e w1 ⟨rfl, hb1⟩
    have q1 := heap_below hb1 (heap_alloc_new w (.cells #[.int .i64 k, .int .i64 m, .int .i64 u, .int .i64 g, .int .i64 s, .int .i64 l, .int .i64 up, .slice p N cp] 46))
    have hB1 : Below w.heap.size w w1 := Below.step ((Below.refl _ _).alloc (Nat.le_refl _) _) hb1
    have H1 : Hid (IntsAt w1 (.slice p N cp) P) := RowAt.below H.out hB1
    have Q1 := Lib.hid q1
    have hlt1 : w.heap.size < w1.heap.size := heap_lt q1
    clear q1 hb1
    obtain ⟨x0, x1, x2, x3, x4, x5, x6, x7⟩ := node_cells Q1.out
    go_wp2
    go_ret
    exact ⟨rfl, hB1⟩
  have hbig2 : ¬ (30 : Int) < (N : Int) := by omega
  obtain ⟨c, Hc⟩ : ∃ c, Hid (rightN k m u g s l up P = c) := ⟨_, rfl⟩
  by_cases hc0 : c = 0
  · subst hc0
    go_enter Try.func7, Try.ntmps7
    go_wp2_with fail
    refine (noted_true _).mono ?_
    rintro e w1 ⟨rfl, hb1⟩
    have q1 := heap_below hb1 (heap_alloc_new w (.cells #[.int .i64 k, .int .i64 m, .int .i64 u, .int .i64 g, .int .i64 s, .int .i64 l, .int .i64 up, .slice p N cp] 46))
    have hB1 : Below w.heap.size w w1 := Below.step ((Below.refl _ _).alloc (Nat.le_refl _) _) hb1
    have H1 : Hid (IntsAt w1 (.slice p N cp) P) := RowAt.below H.out hB1
    have Q1 := Lib.hid q1
    have hlt1 : w.heap.size < w1.heap.size := heap_lt q1
    clear q1 hb1
    obtain ⟨x0, x1, x2, x3, x4, x5, x6, x7⟩ := node_cells Q1.out
    go_wp2_with fail
    refine (packN_good k m u g s l up _ P _ H1.out Hc.out).mono ?_
    rintro e w2 ⟨gp, rfl, hgp, hhp, hb2⟩
    have H2 : Hid (IntsAt w2 (.slice p N cp) P) := RowAt.below H1.out hb2
    have Q2 := Lib.hid (heap_below hb2 Q1.out)
    have HB2 : Hid (BytesAt w2 (.slice (some ⟨gp, 0, none⟩) 32 32) (packN k m u g s l up P)) := u8_block (packN_len Hc.out) hhp
    have hB2 := Below.step hB1 hb2
    clear x0 x1 x2 x3 x4 x5 x6 x7 hb2 hhp
    obtain ⟨x0, x1, x2, x3, x4, x5, x6, x7⟩ := node_cells Q2.out
    go_wp2_with fail
    refine (right_node k m u g s l up _ P _ H2.out (by rw [← HN.out]; omega)).mono ?_
    rw [Hc.out]
    rintro e w3 ⟨rfl, hb3⟩
    have H3 : Hid (IntsAt w3 (.slice p N cp) P) := RowAt.below H2.out hb3
    have HB3 : Hid (BytesAt w3 (.slice (some ⟨gp, 0, none⟩) 32 32) (packN k m u g s l up P)) := RowAt.below HB2.out hb3
    have Q3 := Lib.hid (heap_below hb3 Q2.out)
    have hB3 := Below.step hB2 hb3
    clear x0 x1 x2 x3 x4 x5 x6 x7 hb3
    go_wp2_with fail
    refine (unpackN_packed k m u g s l up P Hc.out _ _ HB3.out ⟨_, 32, by rw [packN_len Hc.out], by rw [packN_len Hc.out]; omega⟩).mono ?_
    rintro e w4 ⟨r, rfl, hI4, hb4⟩
    obtain ⟨rp, rc, hre⟩ := ints_shape hI4 N HN.out
    subst hre
    have HI4 := Lib.hid (RowAt.below hI4 ((Below.refl _ w4).alloc (Nat.le_refl _) (.cells #[.int .i64 k, .int .i64 m, .int .i64 u, .int .i64 g, .int .i64 s, .int .i64 l, .int .i64 up, .slice rp N rc] 46)))
    have H4 := Lib.hid (RowAt.below (RowAt.below H3.out hb4) ((Below.refl _ w4).alloc (Nat.le_refl _) (.cells #[.int .i64 k, .int .i64 m, .int .i64 u, .int .i64 g, .int .i64 s, .int .i64 l, .int .i64 up, .slice rp N rc] 46)))
    have Q4 := Lib.hid (heap_below hb4 Q3.out)
    have hB4 := Below.step hB3 hb4
    have hlt4 : w.heap.size < w4.heap.size := heap_lt Q4.out
    have hB5 := hB4.alloc hB4.size (.cells #[.int .i64 k, .int .i64 m, .int .i64 u, .int .i64 g, .int .i64 s, .int .i64 l, .int .i64 up, .slice rp N rc] 46)
    clear hI4 hb4
    obtain ⟨x0, x1, x2, x3, x4, x5, x6, x7⟩ := node_cells Q4.out
    have hne4 : ¬ w.heap.size = w4.heap.size := by omega
    go_wp2_with fail
    refine (alike_true k m u g s l up _ _ P _ HI4.out H4.out (by rw [← HN.out]; omega)).mono ?_
    rintro e w6 ⟨rfl, hb6⟩
    have hB6 := Below.step hB5 hb6
    clear hb6
    go_wp2
    go_ret
    exact ⟨rfl, hB6⟩
  · have n1 : (c == 0) = false := by simpa using hc0
    have n2 : (c != 0) = true := by simpa using hc0
    have HC0 := Lib.hid hc0
    clear hc0
    go_enter Try.func7, Try.ntmps7
    go_wp2_with fail
    refine (noted_true _).mono ?_
    rintro e w1 ⟨rfl, hb1⟩
    have q1 := heap_below hb1 (heap_alloc_new w (.cells #[.int .i64 k, .int .i64 m, .int .i64 u, .int .i64 g, .int .i64 s, .int .i64 l, .int .i64 up, .slice p N cp] 46))
    have hB1 : Below w.heap.size w w1 := Below.step ((Below.refl _ _).alloc (Nat.le_refl _) _) hb1
    have H1 : Hid (IntsAt w1 (.slice p N cp) P) := RowAt.below H.out hB1
    have Q1 := Lib.hid q1
    have hlt1 : w.heap.size < w1.heap.size := heap_lt q1
    clear q1 hb1
    obtain ⟨x0, x1, x2, x3, x4, x5, x6, x7⟩ := node_cells Q1.out
    go_wp2_with fail
    refine (packN_bad k m u g s l up _ P _ H1.out (by rw [← HN.out]; omega) c Hc n2).mono ?_
    rintro e w2 ⟨rfl, hb2⟩
    have H2 : Hid (IntsAt w2 (.slice p N cp) P) := RowAt.below H1.out hb2
    have Q2 := Lib.hid (heap_below hb2 Q1.out)
    have hB2 := Below.step hB1 hb2
    clear x0 x1 x2 x3 x4 x5 x6 x7 hb2
    obtain ⟨x0, x1, x2, x3, x4, x5, x6, x7⟩ := node_cells Q2.out
    go_wp2_with fail
    refine (right_node k m u g s l up _ P _ H2.out (by rw [← HN.out]; omega)).mono ?_
    rw [Hc.out]
    rintro e w3 ⟨rfl, hb3⟩
    have H3 : Hid (IntsAt w3 (.slice p N cp) P) := RowAt.below H2.out hb3
    have Q3 := Lib.hid (heap_below hb3 Q2.out)
    have hB3 := Below.step hB2 hb3
    clear x0 x1 x2 x3 x4 x5 x6 x7 hb3
    obtain ⟨x0, x1, x2, x3, x4, x5, x6, x7⟩ := node_cells Q3.out
    go_wp2_with fail
    refine (right_node k m u g s l up _ P _ H3.out (by rw [← HN.out]; omega)).mono ?_
    rw [Hc.out]
    rintro e w4 ⟨rfl, hb4⟩
    have hB4 := Below.step hB3 hb4
    clear hb4
    go_wp2
    go_ret
    exact ⟨rfl, hB4⟩

theorem inodeBack_true (k m u g s l up : Int) (v : Value) (P : List Int) (hl : P.length ≤ maxLen) (hs : -9223372036854775808 ≤ s ∧ s ≤ 9223372036854775807) (w : World) (h : IntsAt w v P) :
    Calls Try.prog 7 #[.agg #[.int .i64 k, .int .i64 m, .int .i64 u, .int .i64 g, .int .i64 s, .int .i64 l, .int .i64 up, v]] w fun e w' => e = .returned (.bool true) ∧ Below w.heap.size w w' := inodeBack_raw k m u g s l up v P w h hl hs.1 hs.2

-- CLOSING

set_option maxRecDepth 100000 in
theorem inodeBack_lifted (os : Os) (started : os.Started) (H : Type) (enc' : TypeId × Value → H) :
    ReturnsInHanded {} Try.checked os 7 .any (Rows.inodeBackSpec.pre6 enc' Try.prog Try.f7 Rows.inodeBackRow.domain false) (Rows.inodeBackSpec.post enc' Try.prog Try.f7 false true false false) := by
  refine returnsInHanded_of_change (C := Try.checked) Try.own started (by kernel_rfl) Try.func7
    (ChangeSpec.witness6 (enc := enc') (C := Try.checked) false ⟨#[], #[.agg #[.int .i64 0, .int .i64 0, .int .i64 0, .int .i64 0, .int .i64 0, .int .i64 0, .int .i64 0, .slice none 0 0]], []⟩ 8 (by kernel_rfl) (by kernel_rfl) (by kernel_rfl) (by kernel_rfl)) ?_
  intro W base args ds gs before hval0 hW hcnd _
  have hval : ∀ (j : Nat) t v, Try.f7.params[j]? = some t → args[j]? = some v → Value.okWide Try.prog W .any base t v := hval0
  have hW' := hW
  obtain ⟨p, q, hA0, hV, rfl, hfz, hnd⟩ := hW
  have hA : DataW.TrodAll enc' Try.prog W 0 (fun _ => true) true Try.f7.params.toList args.toList ds p := hA0
  rw [Try.params7] at hA hval
  obtain ⟨v0, d0, rfl, rfl, h0⟩ := trodAll_one hA
  obtain ⟨rfl, rfl⟩ := trodVars_none hV
  obtain ⟨k, m, u, g, s, l, up, vs, Q, rfl, hQ, hQl, hsb⟩ := open_nodeAt rfl Try.underlying46 (by kernel_rfl) (by kernel_rfl) rfl rfl rfl rfl rfl rfl rfl rfl (hval 0 46 v0 rfl rfl) h0
  clear hA0 hval0
  refine (inodeBack_true k m u g s l up vs Q hQl hsb W hQ).mono fun e W' ⟨he, hw⟩ => ?_
  subst he
  exact ⟨_, rfl, law_post 4 Try.laidOut (by kernel_rfl) rfl rfl Try.underlying4 hW' rfl hw⟩

theorem inodeBack_holds : Rows.InodeBackSaid :=
  OpenClaim.holds_of_wide 7 Try.f7 rfl rfl rfl rfl rfl rfl rfl ⟨rfl, rfl, rfl, rfl, rfl⟩ rfl rfl rfl rfl rfl (by kernel_rfl) Try.func7 (by kernel_rfl)
    (of_decide_eq_true (by kernel_rfl)) (by unfold Func.isWrapper; first | (rw [if_pos (by decide +kernel)]; kernel_rfl) | (rw [if_neg (by decide +kernel)]; exact ⟨rfl, rfl⟩))
    (fun os started H enc _ => inodeBack_lifted os started H enc)

end Go.Proofs.Ytneknlbmiofmlaa
