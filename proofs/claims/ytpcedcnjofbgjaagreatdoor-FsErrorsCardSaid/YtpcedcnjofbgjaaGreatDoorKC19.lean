import Derived.Test.YtpcedcnjofbgjaaGreatDoorKA0
import Derived.Test.YtpcedcnjofbgjaaGreatDoorRows
import Derived.JoinedOf
set_option maxHeartbeats 0
set_option linter.all false
set_option maxRecDepth 100000
namespace Go.Proofs.YtpcedcnjofbgjaaGreatDoor
open Go.Proofs.Tryz
set_option maxRecDepth 100000
theorem qwu: Tryz.pinned.checked.prog.funcNamed Rows.fsErrorsRow.func=some 6:=by kernel_rfl
theorem ybky: joinedFacts Tryz.pinned.checked.prog 6 f6 Rows.fsErrorsSpec Rows.fsErrorsRow=true:=by kernel_rfl
