/- For all arguments the law BotNone returns true, and its arguments read as before.
Conditions: none of ours. The four package-level variables that the row lists hold what the program's own text lays in them (the card ties that). -/
import Derived.Test.YteakpllehopodaaGreatDoorG32
import Derived.Test.YteakpllehopodaaGreatDoorG40
import Derived.Test.YteakpllehopodaaGreatDoorG41
import Derived.Test.YteakpllehopodaaGreatDoorG42
import Derived.Test.YteakpllehopodaaGreatDoorG43
namespace Go.Proofs.YteakpllehopodaaGreatDoor
open Go Go.Sx Go.ChangeShapes Go.WideShapes Go.ChangeAt Go.RowKit
set_option maxRecDepth 100000
set_option maxHeartbeats 1000000
theorem none49_card:Rows.BotNoneCardSaid :=
 Claim7.holds_tied_plain_at .later [] [.data,.data,.data,.pinned] true (true,"17e97f0ad85ddabd0de9d489cb84e46e8e4bb77c3e7719519424078a470da240") false
  FU (fun _ h=>by cases h) P7 (fun _ h=>by cases h) botNone_row_tie rfl ⟨rfl,rfl⟩ P6 rfl
  (fun f fn hf hfn=>by
   obtain rfl:f=3:=Option.some.inj ((show Tryz.prog.funcNamed "zeitnot/zeitnotlaw49.BotNone"=some 3 by kernel_rfl).symm.trans hf) |>.symm
   obtain rfl:fn=Tryz.f3:=(Option.some.inj (Tryz.func3.symm.trans hfn)).symm
   exact⟨P8,fun j t ht=>by
    rw[Tryz.params3] at ht
    have hm:t ∈ [29,31,3]:=by simpa using Array.mem_of_getElem? ht
    have hall:([29,31,3].all fun u=>!Tryz.prog.wantsStandIn u)=true:=by kernel_rfl
    exact (show Tryz.prog.wantsStandIn t=false by simpa using List.all_eq_true.1 hall t hm)⟩)
  P5
#print axioms none49_card
end Go.Proofs.YteakpllehopodaaGreatDoor
