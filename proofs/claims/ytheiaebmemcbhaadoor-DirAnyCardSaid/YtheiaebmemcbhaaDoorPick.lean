/- The helper pick of the statements. -/
import Derived.Test.YtheiaebmemcbhaaDoorProg
import Derived.WalkKit
import Derived.WalkSpells
import Derived.WalkLawsBesides
namespace Go.Proofs.YtheiaebmemcbhaaDoor
open Go.RowKit

/-- What 'pick' gives. -/
def pk (a n : Int) : Int := wrap64 ((IntKind.u64.wrap a).tmod n)
theorem pk_range (a n : Int) (h0 : 0 < n) (h1 : n < 9223372036854775808) : 0 ≤ pk a n ∧ pk a n < n := by
  unfold pk
  have h2 : 0 ≤ IntKind.u64.wrap a := by simp [IntKind.wrap, IntKind.bits, IntKind.signed]; omega
  have h3 := Int.tmod_nonneg n h2
  have h4 := Int.tmod_lt_of_pos (IntKind.u64.wrap a) h0
  have : wrap64 ((IntKind.u64.wrap a).tmod n) = (IntKind.u64.wrap a).tmod n := by
    unfold wrap64; omega
  rw [this]
  exact ⟨h3, h4⟩

set_option maxRecDepth 100000 in
set_option maxHeartbeats 400000 in
theorem pick_any (a n : Int) (w : World) (h0 : 0 < n) (h1 : n < 9223372036854775808) :
    Calls Tryd.prog 18 #[.int .i64 a, .int .i64 n] w fun e w' => e = .returned (.int .i64 (pk a n)) ∧ w = w' := by
  go_enter Tryd.func18, Tryd.ntmps18
  go_wp2
  go_ret
  exact ⟨rfl, rfl⟩


end Go.Proofs.YtheiaebmemcbhaaDoor
