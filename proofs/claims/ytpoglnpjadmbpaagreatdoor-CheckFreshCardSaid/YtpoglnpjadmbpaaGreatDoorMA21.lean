/- Part of the proofs of CheckFresh, FsCut, FsHoles: the texts DkOps2. -/
import Derived.Test.YtpoglnpjadmbpaaGreatDoorMA16
import Derived.Deep.RegionHeld3
import Derived.Deep.AppendLies
import Derived.Deep.OwnRows
import Derived.BigRegion
set_option maxHeartbeats 16000000
namespace Go.Proofs.YtpoglnpjadmbpaaGreatDoor
open Go.RowKit
theorem ybxw (n : Nat) : madeCells #[Value.int .u8 0] n = (u8s (List.replicate n 0)).toArray := by
 apply Array.ext_getElem?
 intro i
 unfold madeCells u8s
 by_cases h : i < n
 ·simp [h, Nat.mod_one]
 ·simp [h]
theorem qhl (n : Nat) (x : Int) (hx : x = n) (hn : n ≤ 1000000) (W : World) : (Instr.makeSlice 38 (.int .i64 x) (.int .i64 x)).run Tryz.prog W = .ok (.slice (some ⟨W.heap.size, 0, none⟩) n n) (W.alloc (.cells (u8s (List.replicate n 0)).toArray 5)) := by
 subst hx
 rw [← ybxw]
 exact run_make_row' 38 5 (.int .u8 0) 1 u8sT qtm rfl .i64 .i64 n (by omega) (by omega) W
section
variable {w : World} {gd gs gn : Nat} {wt : Value} {E : List (Nat × Value)} {st : Dk} {L k : Nat} {F : Nat → Prop}
end
end Go.Proofs.YtpoglnpjadmbpaaGreatDoor
