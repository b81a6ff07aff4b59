/- For all arguments the law RulesNil returns true, and its arguments read as before.
Conditions: none of ours. The four package-level variables that the row lists hold what the program's own text lays in them (the card ties that). -/
import Derived.Test.YtocfkcilcfojiaaGreatDoorH44
import Derived.Test.YtocfkcilcfojiaaGreatDoorH40
import Derived.Test.YtocfkcilcfojiaaGreatDoorH41
import Derived.Test.YtocfkcilcfojiaaGreatDoorH42
import Derived.Test.YtocfkcilcfojiaaGreatDoorH43
namespace Go.Proofs.YtocfkcilcfojiaaGreatDoor
open Go Go.Sx Go.ChangeShapes Go.WideShapes Go.ChangeAt Go.RowKit
set_option maxRecDepth 100000
set_option maxHeartbeats 1000000
theorem nil25_card : Rows.RulesNilCardSaid :=
 Claim7.holds_tied_plain_at .later [] [.data, .data, .data, .pinned] true (true, "8db95168630539812611fa3f4c63e0d2ec7b51b4452fad2e5a0b4366c51fada9") false
  qR (fun _ h => by cases h) vP (fun _ h => by cases h) rulesNil_row_tie rfl ⟨rfl, rfl⟩ vO rfl
  (fun f fn hf hfn => by
   obtain rfl : f = 3 := Option.some.inj ((show Tryz.prog.funcNamed "zeitnot/zeitnotlaw25.RulesNil" = some 3 by kernel_rfl).symm.trans hf) |>.symm
   obtain rfl : fn = Tryz.f3 := (Option.some.inj (Tryz.func3.symm.trans hfn)).symm
   exact ⟨vQ, fun j t ht => by
    rw [Tryz.params3] at ht
    have hm : t ∈ [28] := by simpa using Array.mem_of_getElem? ht
    have hall : ([28].all fun u => !Tryz.prog.wantsStandIn u) = true := by kernel_rfl
    exact (show Tryz.prog.wantsStandIn t = false by simpa using List.all_eq_true.1 hall t hm)⟩)
  vN
#print axioms nil25_card
end Go.Proofs.YtocfkcilcfojiaaGreatDoor
