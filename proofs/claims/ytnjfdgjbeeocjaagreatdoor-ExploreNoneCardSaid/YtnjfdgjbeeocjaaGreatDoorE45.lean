/- For all arguments the law ExploreNone returns true, and its arguments read as before.
Conditions: none of ours. The four package-level variables that the row lists hold what the program's own text lays in them (the card ties that). -/
import Derived.Test.YtnjfdgjbeeocjaaGreatDoorE44
import Derived.Test.YtnjfdgjbeeocjaaGreatDoorE40
import Derived.Test.YtnjfdgjbeeocjaaGreatDoorE41
import Derived.Test.YtnjfdgjbeeocjaaGreatDoorE42
import Derived.Test.YtnjfdgjbeeocjaaGreatDoorE43
namespace Go.Proofs.YtnjfdgjbeeocjaaGreatDoor
open Go Go.Sx Go.ChangeShapes Go.WideShapes Go.ChangeAt Go.RowKit
set_option maxRecDepth 100000
theorem none38_card : Rows.ExploreNoneCardSaid :=
 Claim7.holds_tied_plain_at .later [] [.data, .data, .data, .pinned] true (true, "c748f4aacd3ade87e047cccd5477d40209ab283c8494564f955843e676843a38") false
  iR (fun _ h => by cases h) mi (fun _ h => by cases h) exploreNone_row_tie rfl ⟨rfl, rfl⟩ mh rfl
  (fun f fn hf hfn => by
   obtain rfl : f = 3 := Option.some.inj ((show Tryz.prog.funcNamed "zeitnot/zeitnotlaw38.ExploreNone" = some 3 by kernel_rfl).symm.trans hf) |>.symm
   obtain rfl : fn = Tryz.f3 := (Option.some.inj (Tryz.func3.symm.trans hfn)).symm
   exact ⟨mj, fun j t ht => by
    rw [Tryz.params3] at ht
    have hm : t ∈ [3, 3] := by simpa using Array.mem_of_getElem? ht
    have hall : ([3, 3].all fun u => !Tryz.prog.wantsStandIn u) = true := by kernel_rfl
    exact (show Tryz.prog.wantsStandIn t = false by simpa using List.all_eq_true.1 hall t hm)⟩)
  mg
#print axioms none38_card
end Go.Proofs.YtnjfdgjbeeocjaaGreatDoor
