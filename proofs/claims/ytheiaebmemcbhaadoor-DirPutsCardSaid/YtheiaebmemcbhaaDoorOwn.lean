/- Two facts on the program at hand. -/
import Derived.Test.YtheiaebmemcbhaaDoorExtPlain
import Derived.Test.YtheiaebmemcbhaaDoorRows
import Derived.Test.YtheiaebmemcbhaaDoorLawEnd
namespace Go.Proofs.YtheiaebmemcbhaaDoor
open Go.ChangeShapes Go.WideShapes Go.ChangeAt Go.RowKit

theorem Tryd.own : ownKnob Tryd.prog.godebug = none := by kernel_rfl
theorem Tryd.laidOut : laidOutB Tryd.prog = true := by kernel_rfl

end Go.Proofs.YtheiaebmemcbhaaDoor
