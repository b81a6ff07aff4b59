/- For all arguments the law ArenaNone returns true, and its arguments read as before.
Conditions: none of ours. The four package-level variables that the row lists hold what the program's own text lays in them (the card ties that). -/
import Derived.Test.YtpcpmblfhlcmaaaGreatDoorA44
import Derived.Test.YtpcpmblfhlcmaaaGreatDoorA40
import Derived.Test.YtpcpmblfhlcmaaaGreatDoorA41
import Derived.Test.YtpcpmblfhlcmaaaGreatDoorA42
import Derived.Test.YtpcpmblfhlcmaaaGreatDoorA43
namespace Go.Proofs.YtpcpmblfhlcmaaaGreatDoor
open Go Go.Sx Go.ChangeShapes Go.WideShapes Go.ChangeAt Go.RowKit
set_option maxRecDepth 100000
set_option maxHeartbeats 1000000
theorem none50_card : Rows.ArenaNoneCardSaid :=
 Claim7.holds_tied_plain_at .later [] [.data, .data, .data, .pinned] true (true, "406e9d2c18f624b0d5ae854ed8e8a7a46beb5a05cba3330166c1bb6d4c18dda0") false
  si (fun _ h => by cases h) As (fun _ h => by cases h) arenaNone_row_tie rfl ⟨rfl, rfl⟩ Ar rfl
  (fun f fn hf hfn => by
   obtain rfl : f = 3 := Option.some.inj ((show Tryz.prog.funcNamed "zeitnot/zeitnotlaw50.ArenaNone" = some 3 by kernel_rfl).symm.trans hf) |>.symm
   obtain rfl : fn = Tryz.f3 := (Option.some.inj (Tryz.func3.symm.trans hfn)).symm
   exact ⟨Au, fun j t ht => by
    rw [Tryz.params3] at ht
    have hm : t ∈ [3, 3] := by simpa using Array.mem_of_getElem? ht
    have hall : ([3, 3].all fun u => !Tryz.prog.wantsStandIn u) = true := by kernel_rfl
    exact (show Tryz.prog.wantsStandIn t = false by simpa using List.all_eq_true.1 hall t hm)⟩)
  Aq
#print axioms none50_card
end Go.Proofs.YtpcpmblfhlcmaaaGreatDoor
