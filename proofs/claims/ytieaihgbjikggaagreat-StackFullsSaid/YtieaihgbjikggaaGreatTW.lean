/- What all laws of this seat need: the program's own facts; arguments are read. -/
import Derived.Test.YtieaihgbjikggaaGreatC8
import Derived.Test.YtieaihgbjikggaaGreatRows
namespace Go.Proofs.YtieaihgbjikggaaGreat
open Go Go.Sx Go.ChangeShapes Go.WideShapes Go.ChangeAt Go.RowKit
set_option maxRecDepth 100000
set_option maxHeartbeats 1000000
theorem own : ownKnob Tryz.prog.godebug = none := by kernel_rfl
theorem laidOut : laidOutB Tryz.prog = true := by kernel_rfl
end Go.Proofs.YtieaihgbjikggaaGreat
