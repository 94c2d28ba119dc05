import Derived.Test.YtmanoiagchpelaaGreatDoorKA0
import Derived.Test.YtmanoiagchpelaaGreatDoorRows
import Derived.SevenTiedAt
set_option maxHeartbeats 0
set_option linter.all false
set_option maxRecDepth 100000
namespace Go.Proofs.YtmanoiagchpelaaGreatDoor
set_option maxRecDepth 100000
theorem ybsr: false=Rows.fsTreeRow.goesBy Tryz.pinned.checked.prog:=by kernel_rfl
