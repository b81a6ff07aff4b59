/- What the row lists, out of the world. -/
import Derived.Test.YtnjfdgjbeeocjaaGreatDoorE2
import Derived.Test.YtnjfdgjbeeocjaaGreatDoorRows
import Derived.Test.YtnjfdgjbeeocjaaGreatDoorTie
import Derived.Test.YtnjfdgjbeeocjaaGreatDoorCards
import Derived.SevenTiedAt
import Derived.Carry
import Derived.Lay
import Derived.LaidMore
import Derived.ProofKit
import Derived.Stop.Joined
import Derived.Lib.LaidTab
import Derived.Shelf.Vars
namespace Go.Proofs.YtnjfdgjbeeocjaaGreatDoor
open Go Go.Sx Go.ChangeShapes Go.WideShapes Go.ChangeAt Go.RowKit
set_option maxRecDepth 100000
theorem og : ownKnob Tryz.prog.godebug = none := by kernel_rfl
theorem me : laidOutB Tryz.prog = true := by kernel_rfl
abbrev gj : List (String × DataW Unit) := [("math/bits.deBruijn64tab", Rows.laid_math_bits_deBruijn64tab), ("unicode/utf8.acceptRanges", Rows.laid_unicode_utf8_acceptRanges), ("zeitnot/turn.words", Rows.laid_zeitnot_turn_words), ("unicode/utf8.first", Rows.laid_unicode_utf8_first)]
end Go.Proofs.YtnjfdgjbeeocjaaGreatDoor
