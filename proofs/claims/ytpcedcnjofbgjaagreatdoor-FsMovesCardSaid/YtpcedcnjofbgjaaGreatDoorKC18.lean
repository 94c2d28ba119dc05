import Derived.Test.YtpcedcnjofbgjaaGreatDoorKA0
import Derived.Test.YtpcedcnjofbgjaaGreatDoorRows
import Derived.SevenTiedAt
set_option maxHeartbeats 0
set_option linter.all false
set_option maxRecDepth 100000
namespace Go.Proofs.YtpcedcnjofbgjaaGreatDoor
set_option maxRecDepth 100000
theorem ybrb: Rows.fsMovesRow.wfByText (OpenSpec.ofChange Rows.fsMovesSpec)=true:=by kernel_rfl
theorem ybrc: Tryz.pinned.checked.prog.mainIs = some ((true, "aa5b8263b4248a5926d7d89bc2f6e480d4eefba66160f7e438a877409fd4f0a9").1, (true, "aa5b8263b4248a5926d7d89bc2f6e480d4eefba66160f7e438a877409fd4f0a9").2.toList) := by kernel_rfl
theorem ybre: false=Tryz.pinned.checked.prog.looks []:=by kernel_rfl
