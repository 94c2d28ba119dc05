/- Part of the proofs of CheckFresh: the texts Inode2. -/
import Derived.Test.YtpoglnpjadmbpaaGreatDoorMB2
set_option maxHeartbeats 16000000
namespace Go.Proofs.YtpoglnpjadmbpaaGreatDoor
open Go.RowKit
theorem ybup (k m u g s l up : Int) (v : Value) (w : World) :
  Calls Tryz.prog 64 #[.agg #[.int .i64 k, .int .i64 m, .int .i64 u, .int .i64 g, .int .i64 s, .int .i64 l, .int .i64 up, v]] w fun e w' => e = .returned (.agg #[.int .i64 k, .int .i64 m, .int .i64 u, .int .i64 g, .int .i64 s, .int .i64 l]) ∧ Below w.heap.size w w' := by
 go_enter Tryz.func64, Tryz.ntmps64
 go_wp2
 refine bodyPost_ret (v := .agg #[.int .i64 k, .int .i64 m, .int .i64 u, .int .i64 g, .int .i64 s, .int .i64 l]) (by simp [results, Tryz.results64, go_sem]) rfl ⟨rfl, ?_⟩
 exact ((Below.refl _ _).alloc (Nat.le_refl _) _).alloc (by simp) _
end Go.Proofs.YtpoglnpjadmbpaaGreatDoor
