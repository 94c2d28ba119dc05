import Derived.Test.YtpcedcnjofbgjaaGreatDoorKA0
import Derived.Test.YtpcedcnjofbgjaaGreatDoorRows
import Derived.JoinedOf
set_option maxHeartbeats 0
set_option linter.all false
set_option maxRecDepth 100000
namespace Go.Proofs.YtpcedcnjofbgjaaGreatDoor
open Go.Proofs.Tryz
set_option maxRecDepth 100000
theorem ybgn: Tryz.pinned.checked.prog.funcNamed Rows.fsKeptRow.func=some 4:=by kernel_rfl
theorem ybwq: joinedFacts Tryz.pinned.checked.prog 4 f4 Rows.fsKeptSpec Rows.fsKeptRow=true:=by kernel_rfl
