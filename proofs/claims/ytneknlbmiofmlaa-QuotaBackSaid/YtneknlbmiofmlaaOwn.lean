/- Two facts on the program at hand. -/
import Derived.Test.YtneknlbmiofmlaaExtPlain
import Derived.Test.YtneknlbmiofmlaaRows
import Derived.Test.YtneknlbmiofmlaaLawEnd
namespace Go.Proofs.Ytneknlbmiofmlaa
open Go.ChangeShapes Go.WideShapes Go.ChangeAt Go.RowKit

theorem Try.own : ownKnob Try.prog.godebug = none := by kernel_rfl
theorem Try.laidOut : laidOutB Try.prog = true := by kernel_rfl

end Go.Proofs.Ytneknlbmiofmlaa
