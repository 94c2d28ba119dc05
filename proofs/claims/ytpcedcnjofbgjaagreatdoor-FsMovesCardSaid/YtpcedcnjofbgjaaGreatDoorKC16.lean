import Derived.Test.YtpcedcnjofbgjaaGreatDoorKA0
import Derived.Test.YtpcedcnjofbgjaaGreatDoorRows
import Derived.JoinedOf
set_option maxHeartbeats 0
set_option linter.all false
set_option maxRecDepth 100000
namespace Go.Proofs.YtpcedcnjofbgjaaGreatDoor
open Go.Proofs.Tryz
set_option maxRecDepth 100000
theorem ybaj: Tryz.pinned.checked.prog.funcNamed Rows.fsMovesRow.func=some 5:=by kernel_rfl
theorem ybra: joinedFacts Tryz.pinned.checked.prog 5 f5 Rows.fsMovesSpec Rows.fsMovesRow=true:=by kernel_rfl
