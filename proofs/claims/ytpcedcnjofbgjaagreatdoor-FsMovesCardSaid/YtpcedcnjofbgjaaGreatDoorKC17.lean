import Derived.Test.YtpcedcnjofbgjaaGreatDoorKA0
import Derived.Test.YtpcedcnjofbgjaaGreatDoorRows
import Derived.SevenTiedAt
set_option maxHeartbeats 0
set_option linter.all false
set_option maxRecDepth 100000
namespace Go.Proofs.YtpcedcnjofbgjaaGreatDoor
set_option maxRecDepth 100000
theorem ybrd: false=Rows.fsMovesRow.goesBy Tryz.pinned.checked.prog:=by kernel_rfl
