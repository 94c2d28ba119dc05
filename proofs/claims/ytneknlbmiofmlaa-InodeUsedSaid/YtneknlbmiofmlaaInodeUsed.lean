/- InodeUsed: for every inode the statement returns true and leaves its argument alone. No conditions. -/
import Derived.Test.YtneknlbmiofmlaaInode5
import Derived.Test.YtneknlbmiofmlaaOpenNode
namespace Go.Proofs.Ytneknlbmiofmlaa
open Go.ChangeShapes Go.WideShapes Go.ChangeAt Go.RowKit

theorem used_fits {k m u g s l up : Int} {P : List Int} (hr : rightN k m u g s l up P = 0) : (usedE P : Int) ≤ blocksE s ∧ usedE P ≤ 8 := by
  have h1 := usedE_le P
  by_cases hk : k = 0
  · subst hk
    unfold rightN at hr
    rw [if_pos rfl] at hr
    by_cases hz : m = 0 ∧ u = 0 ∧ g = 0 ∧ s = 0 ∧ l = 0 ∧ up = 0 ∧ P.length = 0
    · obtain ⟨_, _, _, rfl, _, _, hP⟩ := hz
      have : blocksE 0 = 0 := rfl
      omega
    · rw [if_neg hz] at hr; cases hr
  · obtain ⟨_, _, _, _, _, _, _, hrE, hbl⟩ := rightN_ok hr hk
    have := right_len hrE
    omega

set_option maxRecDepth 100000 in
set_option maxHeartbeats 4000000 in
theorem inodeUsed_raw (k m u g s l up : Int) (v : Value) (P : List Int) (w : World) (h : IntsAt w v P) (hl : P.length ≤ maxLen) (hs0 : -9223372036854775808 ≤ s) (hs1 : s ≤ 9223372036854775807) :
    Calls Try.prog 10 #[.agg #[.int .i64 k, .int .i64 m, .int .i64 u, .int .i64 g, .int .i64 s, .int .i64 l, .int .i64 up, v]] w fun e w' => e = .returned (.bool true) ∧ Below w.heap.size w w' := by
  obtain ⟨N, HN⟩ : ∃ N, Hid (N = P.length) := ⟨_, rfl⟩
  obtain ⟨p, cp, hu⟩ := ints_shape h N HN.out
  subst hu
  unfold maxLen at hl
  rw [← HN.out] at hl
  have H := Lib.hid h
  clear h
  by_cases hbig : 30 < N
  · have hbig2 : (30 : Int) < (N : Int) := by omega
    go_enter Try.func10, Try.ntmps10
    go_wp2_with fail
    refine (noted_true _).mono ?_
    rintro e w1 ⟨rfl, hb1⟩
    have q1 := heap_below hb1 (heap_alloc_new w (.cells #[.int .i64 k, .int .i64 m, .int .i64 u, .int .i64 g, .int .i64 s, .int .i64 l, .int .i64 up, .slice p N cp] 46))
    have hB1 : Below w.heap.size w w1 := Below.step ((Below.refl _ _).alloc (Nat.le_refl _) _) hb1
    have H1 : Hid (IntsAt w1 (.slice p N cp) P) := RowAt.below H.out hB1
    have Q1 := Lib.hid q1
    have hlt1 : w.heap.size < w1.heap.size := heap_lt q1
    clear q1 hb1
    obtain ⟨x0, x1, x2, x3, x4, x5, x6, x7⟩ := node_cells Q1.out
    go_wp2
    go_ret
    exact ⟨rfl, hB1⟩
  have hbig2 : ¬ (30 : Int) < (N : Int) := by omega
  obtain ⟨c, Hc⟩ : ∃ c, Hid (rightN k m u g s l up P = c) := ⟨_, rfl⟩
  by_cases hc0 : c = 0
  · subst hc0
    have hf := used_fits Hc.out
    obtain ⟨x, Hx⟩ : ∃ x, Hid (x = usedE P) := ⟨_, rfl⟩
    obtain ⟨bk, Hbk⟩ : ∃ b, Hid (blocksE s = b) := ⟨_, rfl⟩
    rw [← Hx.out, Hbk.out] at hf
    obtain ⟨hf1, hf2⟩ := hf
    go_enter Try.func10, Try.ntmps10
    go_wp2_with fail
    refine (noted_true _).mono ?_
    rintro e w1 ⟨rfl, hb1⟩
    have q1 := heap_below hb1 (heap_alloc_new w (.cells #[.int .i64 k, .int .i64 m, .int .i64 u, .int .i64 g, .int .i64 s, .int .i64 l, .int .i64 up, .slice p N cp] 46))
    have hB1 : Below w.heap.size w w1 := Below.step ((Below.refl _ _).alloc (Nat.le_refl _) _) hb1
    have H1 : Hid (IntsAt w1 (.slice p N cp) P) := RowAt.below H.out hB1
    have Q1 := Lib.hid q1
    have hlt1 : w.heap.size < w1.heap.size := heap_lt q1
    clear q1 hb1
    obtain ⟨x0, x1, x2, x3, x4, x5, x6, x7⟩ := node_cells Q1.out
    go_wp2_with fail
    refine (right_node k m u g s l up _ P _ H1.out (by rw [← HN.out]; omega)).mono ?_
    rw [Hc.out]
    rintro e w2 ⟨rfl, hb2⟩
    have H2 : Hid (IntsAt w2 (.slice p N cp) P) := RowAt.below H1.out hb2
    have Q2 := Lib.hid (heap_below hb2 Q1.out)
    have hB2 := Below.step hB1 hb2
    clear x0 x1 x2 x3 x4 x5 x6 x7 hb2
    obtain ⟨x0, x1, x2, x3, x4, x5, x6, x7⟩ := node_cells Q2.out
    go_wp2_with fail
    refine (used_any k m u g s l up _ P _ H2.out (by rw [← HN.out]; omega)).mono ?_
    rw [← Hx.out]
    rintro e w3 ⟨rfl, hb3⟩
    have Q3 := Lib.hid (heap_below hb3 Q2.out)
    have hB3 := Below.step hB2 hb3
    clear x0 x1 x2 x3 x4 x5 x6 x7 hb3
    obtain ⟨x0, x1, x2, x3, x4, x5, x6, x7⟩ := node_cells Q3.out
    have hx0 : (0 : Int) ≤ (x : Int) := by omega
    have hx8 : (x : Int) ≤ 8 := by omega
    go_wp2_with fail
    refine (blocks_any s _ hs0 hs1).mono ?_
    rw [Hbk.out]
    rintro e w' ⟨rfl, rfl⟩
    go_wp2
    go_ret
    exact ⟨rfl, hB3⟩
  · have n1 : (c == 0) = false := by simpa using hc0
    have n2 : (c != 0) = true := by simpa using hc0
    have HC0 := Lib.hid hc0
    clear hc0
    go_enter Try.func10, Try.ntmps10
    go_wp2_with fail
    refine (noted_true _).mono ?_
    rintro e w1 ⟨rfl, hb1⟩
    have q1 := heap_below hb1 (heap_alloc_new w (.cells #[.int .i64 k, .int .i64 m, .int .i64 u, .int .i64 g, .int .i64 s, .int .i64 l, .int .i64 up, .slice p N cp] 46))
    have hB1 : Below w.heap.size w w1 := Below.step ((Below.refl _ _).alloc (Nat.le_refl _) _) hb1
    have H1 : Hid (IntsAt w1 (.slice p N cp) P) := RowAt.below H.out hB1
    have Q1 := Lib.hid q1
    have hlt1 : w.heap.size < w1.heap.size := heap_lt q1
    clear q1 hb1
    obtain ⟨x0, x1, x2, x3, x4, x5, x6, x7⟩ := node_cells Q1.out
    go_wp2_with fail
    refine (right_node k m u g s l up _ P _ H1.out (by rw [← HN.out]; omega)).mono ?_
    rw [Hc.out]
    rintro e w2 ⟨rfl, hb2⟩
    have hB2 := Below.step hB1 hb2
    clear hb2
    go_wp2
    go_ret
    exact ⟨rfl, hB2⟩

theorem inodeUsed_true (k m u g s l up : Int) (v : Value) (P : List Int) (hl : P.length ≤ maxLen) (hs : -9223372036854775808 ≤ s ∧ s ≤ 9223372036854775807) (w : World) (h : IntsAt w v P) :
    Calls Try.prog 10 #[.agg #[.int .i64 k, .int .i64 m, .int .i64 u, .int .i64 g, .int .i64 s, .int .i64 l, .int .i64 up, v]] w fun e w' => e = .returned (.bool true) ∧ Below w.heap.size w w' := inodeUsed_raw k m u g s l up v P w h hl hs.1 hs.2

-- CLOSING

set_option maxRecDepth 100000 in
theorem inodeUsed_lifted (os : Os) (started : os.Started) (H : Type) (enc' : TypeId × Value → H) :
    ReturnsInHanded {} Try.checked os 10 .any (Rows.inodeUsedSpec.pre6 enc' Try.prog Try.f10 Rows.inodeUsedRow.domain false) (Rows.inodeUsedSpec.post enc' Try.prog Try.f10 false true false false) := by
  refine returnsInHanded_of_change (C := Try.checked) Try.own started (by kernel_rfl) Try.func10
    (ChangeSpec.witness6 (enc := enc') (C := Try.checked) false ⟨#[], #[.agg #[.int .i64 0, .int .i64 0, .int .i64 0, .int .i64 0, .int .i64 0, .int .i64 0, .int .i64 0, .slice none 0 0]], []⟩ 8 (by kernel_rfl) (by kernel_rfl) (by kernel_rfl) (by kernel_rfl)) ?_
  intro W base args ds gs before hval0 hW hcnd _
  have hval : ∀ (j : Nat) t v, Try.f10.params[j]? = some t → args[j]? = some v → Value.okWide Try.prog W .any base t v := hval0
  have hW' := hW
  obtain ⟨p, q, hA0, hV, rfl, hfz, hnd⟩ := hW
  have hA : DataW.TrodAll enc' Try.prog W 0 (fun _ => true) true Try.f10.params.toList args.toList ds p := hA0
  rw [Try.params10] at hA hval
  obtain ⟨v0, d0, rfl, rfl, h0⟩ := trodAll_one hA
  obtain ⟨rfl, rfl⟩ := trodVars_none hV
  obtain ⟨k, m, u, g, s, l, up, vs, Q, rfl, hQ, hQl, hsb⟩ := open_nodeAt rfl Try.underlying46 (by kernel_rfl) (by kernel_rfl) rfl rfl rfl rfl rfl rfl rfl rfl (hval 0 46 v0 rfl rfl) h0
  clear hA0 hval0
  refine (inodeUsed_true k m u g s l up vs Q hQl hsb W hQ).mono fun e W' ⟨he, hw⟩ => ?_
  subst he
  exact ⟨_, rfl, law_post 4 Try.laidOut (by kernel_rfl) rfl rfl Try.underlying4 hW' rfl hw⟩

theorem inodeUsed_holds : Rows.InodeUsedSaid :=
  OpenClaim.holds_of_wide 10 Try.f10 rfl rfl rfl rfl rfl rfl rfl ⟨rfl, rfl, rfl, rfl, rfl⟩ rfl rfl rfl rfl rfl (by kernel_rfl) Try.func10 (by kernel_rfl)
    (of_decide_eq_true (by kernel_rfl)) (by unfold Func.isWrapper; first | (rw [if_pos (by decide +kernel)]; kernel_rfl) | (rw [if_neg (by decide +kernel)]; exact ⟨rfl, rfl⟩))
    (fun os started H enc _ => inodeUsed_lifted os started H enc)

end Go.Proofs.Ytneknlbmiofmlaa
