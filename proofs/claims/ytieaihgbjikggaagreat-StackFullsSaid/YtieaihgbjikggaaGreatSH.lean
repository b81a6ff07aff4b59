/- The library's contracts for sorting and comparing at this program, laid: printed by the kit's tool. -/
import Derived.Shelf.SlSortCmp.NoneTotal
import Derived.Shelf.SlicesG.Cmp
import Derived.Test.YtieaihgbjikggaaGreatProg
namespace Go.Proofs
open Go.Shelf
end Go.Proofs
