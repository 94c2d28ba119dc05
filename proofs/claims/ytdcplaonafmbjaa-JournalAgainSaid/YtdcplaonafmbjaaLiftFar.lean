/- far, and what compares two requests. -/
import Derived.Test.YtdcplaonafmbjaaLiftP
import Derived.Test.YtdcplaonafmbjaaProg
import Derived.LoopTactic
import Derived.WalkKit
import Derived.IntWalk
import Derived.Lib.Hide
import Derived.BigQuiet
import Derived.Deep.QuietTactic
import Derived.Sort.Grow
namespace Go.Proofs.Ytdcplaonafmbjaa
open Go.RowKit

theorem far_eq (h n : Int) (h0 : 0 ≤ h) (h1 : h < 256) (n0 : 0 ≤ n) (n1 : n < 256) : (((n - h).tmod 256 + 256) % 256) = ((farN h.toNat n.toNat : Nat) : Int) := by
  unfold farN
  have e1 : (n - h).tmod 256 = n - h := by
    by_cases c : 0 ≤ n - h
    · rw [Int.tmod_eq_emod_of_nonneg c]; omega
    · have : n - h = -(h - n) := by omega
      rw [this, Int.neg_tmod, Int.tmod_eq_emod_of_nonneg (by omega)]; omega
  rw [e1]
  omega
set_option maxRecDepth 100000 in
theorem far_any (h n : Int) (w : World) (h0 : 0 ≤ h) (h1 : h < 256) (n0 : 0 ≤ n) (n1 : n < 256) :
    Calls Try.prog 76 #[.int .i64 h, .int .i64 n] w fun e w' => e = .returned (.int .i64 (farN h.toNat n.toNat : Int)) ∧ w = w' := by
  have HE := Lib.hid (far_eq h n h0 h1 n0 n1)
  have b1 : -256 ≤ (n - h).tmod 256 ∧ (n - h).tmod 256 ≤ 256 := by
    have e := far_eq h n h0 h1 n0 n1
    have a := Int.tmod_lt_of_pos (n - h) (b := 256) (by omega)
    have b : -256 < (n - h).tmod 256 := by
      by_cases c : 0 ≤ n - h
      · have := Int.tmod_nonneg 256 c; omega
      · have e2 : n - h = -(h - n) := by omega
        rw [e2, Int.neg_tmod]
        have := Int.tmod_lt_of_pos (h - n) (b := 256) (by omega)
        omega
    omega
  obtain ⟨c1, c2⟩ := b1
  have p1 : IntKind.i64.wrap (n - h) = n - h := IntWalk.i64_in _ (by omega)
  have p2 : IntKind.i64.wrap ((n - h).tmod 256 + 256) = (n - h).tmod 256 + 256 := IntWalk.i64_in _ (by omega)
  go_enter Try.func76, Try.ntmps76
  go_wp2
  go_ret
  rw [← HE.out]
  exact ⟨rfl, rfl⟩

end Go.Proofs.Ytdcplaonafmbjaa
