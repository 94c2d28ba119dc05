import Derived.Test.YtmanoiagchpelaaGreatDoorKA0
import Derived.Test.YtmanoiagchpelaaGreatDoorRows
import Derived.SevenTiedAt
set_option maxHeartbeats 0
set_option linter.all false
set_option maxRecDepth 100000
namespace Go.Proofs.YtmanoiagchpelaaGreatDoor
set_option maxRecDepth 100000
theorem ybnn: Rows.fsQuotaRow.wfByText (OpenSpec.ofChange Rows.fsQuotaSpec)=true:=by kernel_rfl
theorem ybno: Tryz.pinned.checked.prog.mainIs = some ((true, "8541e45672bde8cfbdddd57d9b93278e3bf0bcdc4b11c30fffb80beaa6839096").1, (true, "8541e45672bde8cfbdddd57d9b93278e3bf0bcdc4b11c30fffb80beaa6839096").2.toList) := by kernel_rfl
theorem ybnq: false=Tryz.pinned.checked.prog.looks []:=by kernel_rfl
