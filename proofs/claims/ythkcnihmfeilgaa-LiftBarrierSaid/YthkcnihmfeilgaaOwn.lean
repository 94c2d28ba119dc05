/- Two facts on the program at hand. -/
import Derived.Test.YthkcnihmfeilgaaExtPlain
import Derived.Test.YthkcnihmfeilgaaRows
import Derived.Test.YthkcnihmfeilgaaLawEnd
namespace Go.Proofs.Ythkcnihmfeilgaa
open Go.ChangeShapes Go.WideShapes Go.ChangeAt Go.RowKit

theorem Try.own : ownKnob Try.prog.godebug = none := by kernel_rfl
theorem Try.laidOut : laidOutB Try.prog = true := by kernel_rfl

end Go.Proofs.Ythkcnihmfeilgaa
