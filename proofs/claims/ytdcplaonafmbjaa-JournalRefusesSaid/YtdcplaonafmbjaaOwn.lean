/- Two facts on the program at hand. -/
import Derived.Test.YtdcplaonafmbjaaExtPlain
import Derived.Test.YtdcplaonafmbjaaRows
import Derived.Test.YtdcplaonafmbjaaLawEnd
namespace Go.Proofs.Ytdcplaonafmbjaa
open Go.ChangeShapes Go.WideShapes Go.ChangeAt Go.RowKit

theorem Try.own : ownKnob Try.prog.godebug = none := by kernel_rfl
theorem Try.laidOut : laidOutB Try.prog = true := by kernel_rfl

end Go.Proofs.Ytdcplaonafmbjaa
