/- pick, as a number (where a seat has no disk). -/
import Derived.Test.YtheiaebmemcbhaaDoorPick
namespace Go.Proofs.YtheiaebmemcbhaaDoor
open Go.RowKit

/-- pick, as a number. -/
def pkN (a n : Int) : Nat := (pk a n).toNat
theorem pkN_lt (a : Int) (n : Nat) (h0 : 0 < n) (h1 : n < 9223372036854775808) : pkN a n < n := by
  have := pk_range a n (by omega) (by omega)
  unfold pkN; omega
theorem ret_pk {k : IntKind} {a b : Int} (h : a = b) : Ending.returned (.int k a) = .returned (.int k b) := by rw [h]
theorem pickN (a : Int) (x : Int) (w : World) (h0 : 0 < x) (h1 : x < 9223372036854775808) :
    Calls Tryd.prog 18 #[.int .i64 a, .int .i64 x] w fun e w' => e = .returned (.int .i64 (pkN a x : Int)) ∧ w = w' :=
  (pick_any a x w h0 h1).mono fun e w' ⟨he, hw⟩ => ⟨by
    rw [he]
    have := pk_range a x h0 h1
    exact ret_pk (by unfold pkN; omega), hw⟩

end Go.Proofs.YtheiaebmemcbhaaDoor
