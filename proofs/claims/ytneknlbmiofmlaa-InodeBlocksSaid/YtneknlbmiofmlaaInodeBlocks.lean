/- InodeBlocks: for every number of bytes the statement returns true. No conditions. -/
import Derived.Test.YtneknlbmiofmlaaInode5
import Derived.Test.YtneknlbmiofmlaaOpenNode
namespace Go.Proofs.Ytneknlbmiofmlaa
open Go.ChangeShapes Go.WideShapes Go.ChangeAt Go.RowKit

set_option maxRecDepth 100000 in
set_option maxHeartbeats 2000000 in
theorem inodeBlocks_raw (s : Int) (w : World) (h0 : -9223372036854775808 ≤ s) (h1 : s ≤ 9223372036854775807) :
    Calls Try.prog 9 #[.int .i64 s] w fun e w' => e = .returned (.bool true) ∧ Below w.heap.size w w' := by
  by_cases hs : s ≤ 0
  · have HB : Hid (blocksE s = 0) := by show _ = _; unfold blocksE; rw [if_pos hs]
    go_enter Try.func9, Try.ntmps9
    go_wp2_with fail
    refine (noted_true _).mono ?_
    rintro e w1 ⟨rfl, hb1⟩
    go_wp2_with fail
    refine (blocks_any s _ h0 h1).mono ?_
    rw [HB.out]
    rintro e w' ⟨rfl, rfl⟩
    go_wp2
    go_ret
    exact ⟨rfl, hb1⟩
  · have HB : Hid (blocksE s = (s - 1) / 64 + 1) := by show _ = _; unfold blocksE; rw [if_neg hs]
    obtain ⟨q, Hq⟩ : ∃ q, Hid (q = (s - 1) / 64) := ⟨_, rfl⟩
    have q0 : 0 ≤ q := by rw [Hq.out]; omega
    have q1 : q ≤ 144115188075855871 := by rw [Hq.out]; omega
    have q2 : q * 64 < s := by rw [Hq.out]; omega
    have q3 : s - q * 64 ≤ 64 := by rw [Hq.out]; omega
    rw [← Hq.out] at HB
    go_enter Try.func9, Try.ntmps9
    go_wp2_with fail
    refine (noted_true _).mono ?_
    rintro e w1 ⟨rfl, hb1⟩
    go_wp2_with fail
    refine (blocks_any s _ h0 h1).mono ?_
    rw [HB.out]
    rintro e w' ⟨rfl, rfl⟩
    have q4 : 0 < q + 1 := by omega
    have q5 : q + 1 - 1 = q := by omega
    go_wp2
    go_ret
    exact ⟨rfl, hb1⟩


theorem inodeBlocks_true (s : Int) (hs : -9223372036854775808 ≤ s ∧ s ≤ 9223372036854775807) (w : World) :
    Calls Try.prog 9 #[.int .i64 s] w fun e w' => e = .returned (.bool true) ∧ Below w.heap.size w w' := inodeBlocks_raw s w hs.1 hs.2

-- CLOSING

set_option maxRecDepth 100000 in
theorem inodeBlocks_lifted (os : Os) (started : os.Started) (H : Type) (enc' : TypeId × Value → H) :
    ReturnsInHanded {} Try.checked os 9 .any (Rows.inodeBlocksSpec.pre6 enc' Try.prog Try.f9 Rows.inodeBlocksRow.domain false) (Rows.inodeBlocksSpec.post enc' Try.prog Try.f9 false true false false) := by
  refine returnsInHanded_of_change (C := Try.checked) Try.own started (by kernel_rfl) Try.func9
    (ChangeSpec.witness6 (enc := enc') (C := Try.checked) false ⟨#[], #[(.int .i64 0)], []⟩ 8 (by kernel_rfl) (by kernel_rfl) (by kernel_rfl) (by kernel_rfl)) ?_
  intro W base args ds gs before hval0 hW hcnd _
  have hval : ∀ (j : Nat) t v, Try.f9.params[j]? = some t → args[j]? = some v → Value.okWide Try.prog W .any base t v := hval0
  have hW' := hW
  obtain ⟨p, q, hA0, hV, rfl, hfz, hnd⟩ := hW
  have hA : DataW.TrodAll enc' Try.prog W 0 (fun _ => true) true Try.f9.params.toList args.toList ds p := hA0
  rw [Try.params9] at hA hval
  obtain ⟨v0, d0, rfl, rfl, h0⟩ := trodAll_one hA
  obtain ⟨rfl, rfl⟩ := trodVars_none hV
  obtain ⟨n, rfl, rfl, rfl, wn⟩ := open_int Try.underlying3 (hval 0 3 v0 rfl rfl) h0
  clear hA0 hval0
  refine (inodeBlocks_true n (i64_of_wf wn) W).mono fun e W' ⟨he, hw⟩ => ?_
  subst he
  exact ⟨_, rfl, law_post 4 Try.laidOut (by kernel_rfl) rfl rfl Try.underlying4 hW' rfl hw⟩

theorem inodeBlocks_holds : Rows.InodeBlocksSaid :=
  OpenClaim.holds_of_wide 9 Try.f9 rfl rfl rfl rfl rfl rfl rfl ⟨rfl, rfl, rfl, rfl, rfl⟩ rfl rfl rfl rfl rfl (by kernel_rfl) Try.func9 (by kernel_rfl)
    (of_decide_eq_true (by kernel_rfl)) (by unfold Func.isWrapper; first | (rw [if_pos (by decide +kernel)]; kernel_rfl) | (rw [if_neg (by decide +kernel)]; exact ⟨rfl, rfl⟩))
    (fun os started H enc _ => inodeBlocks_lifted os started H enc)

end Go.Proofs.Ytneknlbmiofmlaa
