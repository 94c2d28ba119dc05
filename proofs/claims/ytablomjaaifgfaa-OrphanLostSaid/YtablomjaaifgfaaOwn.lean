/- Two facts on the program at hand. -/
import Derived.Test.YtablomjaaifgfaaExtPlain
import Derived.Test.YtablomjaaifgfaaRows
import Derived.Test.YtablomjaaifgfaaLawEnd
namespace Go.Proofs.Ytablomjaaifgfaa
open Go.ChangeShapes Go.WideShapes Go.ChangeAt Go.RowKit

theorem Try.own : ownKnob Try.prog.godebug = none := by kernel_rfl
theorem Try.laidOut : laidOutB Try.prog = true := by kernel_rfl

end Go.Proofs.Ytablomjaaifgfaa
