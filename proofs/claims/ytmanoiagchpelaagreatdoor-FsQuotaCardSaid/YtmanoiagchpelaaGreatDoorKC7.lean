import Derived.Test.YtmanoiagchpelaaGreatDoorKA0
import Derived.Test.YtmanoiagchpelaaGreatDoorRows
import Derived.JoinedOf
set_option maxHeartbeats 0
set_option linter.all false
set_option maxRecDepth 100000
namespace Go.Proofs.YtmanoiagchpelaaGreatDoor
open Go.Proofs.Tryz
set_option maxRecDepth 100000
theorem qyk: Tryz.pinned.checked.prog.funcNamed Rows.fsQuotaRow.func=some 4:=by kernel_rfl
theorem ybnm: joinedFacts Tryz.pinned.checked.prog 4 f4 Rows.fsQuotaSpec Rows.fsQuotaRow=true:=by kernel_rfl
