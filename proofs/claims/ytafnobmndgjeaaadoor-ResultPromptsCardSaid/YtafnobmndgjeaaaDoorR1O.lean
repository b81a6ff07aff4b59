/- The words' tables are in memory, as the program's text lays them. -/
import Derived.Test.YtafnobmndgjeaaaDoorR1H
import Derived.Test.YtafnobmndgjeaaaDoorSx29
import Derived.Test.YtafnobmndgjeaaaDoorTie
import Derived.Test.YtafnobmndgjeaaaDoorCards
import Derived.SevenTiedAt
import Derived.Test.YtafnobmndgjeaaaDoorRows
namespace Go.Proofs.YtafnobmndgjeaaaDoor
open Go Go.Sx Go.ChangeShapes Go.WideShapes Go.ChangeAt Go.RowKit
set_option maxRecDepth 100000

theorem own : ownKnob Tryd.prog.godebug = none := by kernel_rfl
theorem laidOut : laidOutB Tryd.prog = true := by kernel_rfl
theorem sOk : structsOk Tryd.prog = true := by kernel_rfl
theorem gOuts : Tryd.prog.globalNamed "zeitnot/result.outcomes" = some 0 := by kernel_rfl
theorem gReas : Tryd.prog.globalNamed "zeitnot/result.reasons" = some 1 := by kernel_rfl
theorem tOuts : (Tryd.prog.globals[0]?).map (·.type) = some 78 := by kernel_rfl
theorem tReas : (Tryd.prog.globals[1]?).map (·.type) = some 79 := by kernel_rfl
abbrev laid2 : List (String × DataW Unit) := [("zeitnot/result.outcomes", Rows.laid_zeitnot_result_outcomes), ("zeitnot/result.reasons", Rows.laid_zeitnot_result_reasons)]
theorem glob_of {W : World} (h : laidMetH Tryd.prog laid2 W) : Glob (heapOf W) := by
  rw [MakeChecks.laidMetH_plain _ _ _ (by kernel_rfl)] at h
  obtain ⟨ps, ⟨g0, t0, cs0, f0, p0, q0, hg0, ht0, hv0, hd0, ⟨g1, t1, cs1, f1, p1, q1, hg1, ht1, hv1, hd1, _, _⟩, _⟩, _, _⟩ := h
  obtain rfl := Option.some.inj (gOuts.symm.trans hg0)
  obtain rfl := Option.some.inj (gReas.symm.trans hg1)
  obtain rfl := Option.some.inj (tOuts.symm.trans ht0)
  obtain rfl := Option.some.inj (tReas.symm.trans ht1)
  exact ⟨arr_of_laid (l := outsL) Tryd.underlying78 Tryd.underlying9 (by kernel_rfl) rfl hd0 (World.var?_cell hg0 hv0), arr_of_laid (l := reasL) Tryd.underlying79 Tryd.underlying9 (by kernel_rfl) rfl hd1 (World.var?_cell hg1 hv1)⟩
theorem door_met (os : Os) (args : Array Value) : laidMetH Tryd.prog laid2 ((World.doorLaid Tryd.prog 400 os).forCall (fun _ _ => 0) ⟨#[], args, []⟩).memory :=
  laidMetH_of_parts3 (fuel := 8) (laidMet_of_run' 8 (by kernel_rfl) (by kernel_rfl)) (by kernel_rfl) (by kernel_rfl)
end Go.Proofs.YtafnobmndgjeaaaDoor
