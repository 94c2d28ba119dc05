import Derived.Test.YtpcedcnjofbgjaaGreatDoorKA0
import Derived.Test.YtpcedcnjofbgjaaGreatDoorRows
import Derived.JoinedOf
set_option maxHeartbeats 0
set_option linter.all false
set_option maxRecDepth 100000
namespace Go.Proofs.YtpcedcnjofbgjaaGreatDoor
open Go.Proofs.Tryz
set_option maxRecDepth 100000
theorem ybak: Tryz.pinned.checked.prog.funcNamed Rows.fsRightRow.func=some 3:=by kernel_rfl
theorem ybrg: joinedFacts Tryz.pinned.checked.prog 3 f3 Rows.fsRightSpec Rows.fsRightRow=true:=by kernel_rfl
