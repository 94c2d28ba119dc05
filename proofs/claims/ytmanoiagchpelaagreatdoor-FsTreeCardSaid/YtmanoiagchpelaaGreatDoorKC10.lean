import Derived.Test.YtmanoiagchpelaaGreatDoorKA0
import Derived.Test.YtmanoiagchpelaaGreatDoorRows
import Derived.JoinedOf
set_option maxHeartbeats 0
set_option linter.all false
set_option maxRecDepth 100000
namespace Go.Proofs.YtmanoiagchpelaaGreatDoor
open Go.Proofs.Tryz
set_option maxRecDepth 100000
theorem ybeb: Tryz.pinned.checked.prog.funcNamed Rows.fsTreeRow.func=some 6:=by kernel_rfl
theorem ybso: joinedFacts Tryz.pinned.checked.prog 6 f6 Rows.fsTreeSpec Rows.fsTreeRow=true:=by kernel_rfl
