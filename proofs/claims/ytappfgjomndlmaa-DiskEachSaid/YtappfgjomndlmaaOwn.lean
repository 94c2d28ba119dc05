/- Two facts on the program at hand. -/
import Derived.Test.YtappfgjomndlmaaExtPlain
import Derived.Test.YtappfgjomndlmaaRows
import Derived.Test.YtappfgjomndlmaaLawEnd
namespace Go.Proofs.Ytappfgjomndlmaa
open Go.ChangeShapes Go.WideShapes Go.ChangeAt Go.RowKit

theorem Try.own : ownKnob Try.prog.godebug = none := by kernel_rfl
theorem Try.laidOut : laidOutB Try.prog = true := by kernel_rfl

end Go.Proofs.Ytappfgjomndlmaa
