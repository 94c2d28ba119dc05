/- BitsFirst: for every set and all bounds the statement returns true and leaves its arguments alone. No conditions. -/
import Derived.Test.YtnmfbhiooccgfaaOpenSet
import Derived.Test.YtnmfbhiooccgfaaBitsFirst
namespace Go.Proofs.Ytnmfbhiooccgfaa
open Go.ChangeShapes Go.WideShapes Go.ChangeAt Go.RowKit

theorem bitsFirst_true (s : Nat → Bool) (fr be : Int) (w : World) :
    Calls Try.prog 4 #[.agg (enc s), .int .i64 fr, .int .i64 be] w fun e w' => e = .returned (.bool true) ∧ Below w.heap.size w w' := by
  obtain ⟨a0, a1⟩ := pk_range fr 300 (by omega) (by omega)
  obtain ⟨b0, b1⟩ := pk_range be 300 (by omega) (by omega)
  obtain ⟨lo, hlo⟩ := Int.eq_ofNat_of_zero_le a0
  obtain ⟨hi, hhi⟩ := Int.eq_ofNat_of_zero_le b0
  rcases first_or s lo (min hi 256) with ⟨n, n0, n1, n2, n3⟩ | hall
  · rcases first_or (ins s n) lo (min hi 256) with ⟨m, m0, m1, m2, m3⟩ | hall
    · refine bitsFirst_some s _ _ rfl fr be lo hi n m 0 w hlo hhi (by omega) (by omega) n0 (by omega) (by omega) rfl n2 n3 (Or.inr ⟨rfl, ?_, by omega, by omega, m2, m3⟩)
      rcases Nat.lt_trichotomy n m with h | h | h
      · exact h
      · subst h; simp [ins] at m2
      · have := n3 m m0 h; simp [ins, this] at m2
    · exact bitsFirst_some s _ _ rfl fr be lo hi n 0 6 w hlo hhi (by omega) (by omega) n0 (by omega) (by omega) rfl n2 n3 (Or.inl ⟨rfl, hall, rfl⟩)
  · exact bitsFirst_none s _ rfl fr be lo hi w hlo hhi (by omega) (by omega) hall

set_option maxRecDepth 100000 in
theorem bitsFirst_lifted (os : Os) (started : os.Started) (H : Type) (enc' : TypeId × Value → H) :
    ReturnsInHanded {} Try.checked os 4 .any (Rows.bitsFirstSpec.pre6 enc' Try.prog Try.f4 Rows.bitsFirstRow.domain false) (Rows.bitsFirstSpec.post enc' Try.prog Try.f4 false true false false) := by
  refine returnsInHanded_of_change (C := Try.checked) Try.own started (by kernel_rfl) Try.func4
    (ChangeSpec.witness6 (enc := enc') (C := Try.checked) false ⟨#[], #[.agg (Array.replicate 32 (.int .u8 0)), .int .i64 0, .int .i64 0], []⟩ 8 (by kernel_rfl) (by kernel_rfl) (by kernel_rfl) (by kernel_rfl)) ?_
  intro W base args ds gs before hval0 hW hcnd _
  have hval : ∀ (j : Nat) t v, Try.f4.params[j]? = some t → args[j]? = some v → Value.okWide Try.prog W .any base t v := hval0
  have hW' := hW
  obtain ⟨p, q, hA0, hV, rfl, hfz, hnd⟩ := hW
  have hA : DataW.TrodAll enc' Try.prog W 0 (fun _ => true) true Try.f4.params.toList args.toList ds p := hA0
  rw [Try.params4] at hA hval
  obtain ⟨v0, v1, v2, d0, d1, d2, p0, p1, p2, rfl, rfl, rfl, h0, h1, h2⟩ := trodAll_three hA
  obtain ⟨rfl, rfl⟩ := trodVars_none hV
  obtain ⟨s, rfl⟩ := open_set (hval 0 23 v0 rfl rfl) h0
  obtain ⟨a, rfl, rfl, rfl, wa⟩ := open_int Try.underlying3 (hval 1 3 v1 rfl rfl) h1
  obtain ⟨b, rfl, rfl, rfl, wb⟩ := open_int Try.underlying3 (hval 2 3 v2 rfl rfl) h2
  clear hA0 hval0
  refine (bitsFirst_true s a b W).mono fun e W' ⟨he, hw⟩ => ?_
  subst he
  exact ⟨_, rfl, law_post 4 Try.laidOut (by kernel_rfl) rfl rfl Try.underlying4 hW' rfl hw⟩

theorem bitsFirst_holds : Rows.BitsFirstSaid :=
  OpenClaim.holds_of_wide 4 Try.f4 rfl rfl rfl rfl rfl rfl rfl ⟨rfl, rfl, rfl, rfl, rfl⟩ rfl rfl rfl rfl rfl (by kernel_rfl) Try.func4 (by kernel_rfl)
    (of_decide_eq_true (by kernel_rfl)) (by unfold Func.isWrapper; first | (rw [if_pos (by decide +kernel)]; kernel_rfl) | (rw [if_neg (by decide +kernel)]; exact ⟨rfl, rfl⟩))
    (fun os started H enc _ => bitsFirst_lifted os started H enc)

end Go.Proofs.Ytnmfbhiooccgfaa
