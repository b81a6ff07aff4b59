/- The examples of the chapter are as they should be: the kernel reckons the run of 'known'; what is proved of Valid stands for its calls. -/
import Derived.Test.YtieaihgbjikggaaGreatC8
import Derived.Test.YtieaihgbjikggaaGreatM17
namespace Go.Proofs.YtieaihgbjikggaaGreat
open Go Go.Sx
set_option maxRecDepth 100000
set_option maxHeartbeats 1000000
def globT : Glob := fun _ => none
theorem globT_ok (H : Heap) : GlobOk globT H := fun _ _ h => by cases h
noncomputable def cfgT : Cfg := ⟨PP, fun f => okL.contains f, globT⟩
def sumT : SumF := sumB F_board_Valid validBd
theorem sumT_ok (H : Heap) : SumOk PP cfgT.ok H sumT := sumB_ok (fun _ _ _ _ h => c_board_Valid h) H
theorem knownT_eq (f : Nat → Nat) : ((G.exN 12 (runGS cfgT sumT 60 300 F_zeitnotlaw18_known [] [] 0 ⟨[], []⟩) ((List.range 1400).map f)).x, (G.exN 12 (runGS cfgT sumT 60 300 F_zeitnotlaw18_known [] [] 0 ⟨[], []⟩) ((List.range 1400).map f)).fine isT) =
  ((G.exN 12 (runGS cfgT sumT 60 300 F_zeitnotlaw18_known [] [] 0 ⟨[], []⟩) ((List.range 1400).map f)).y, true) := by kernel_rfl
theorem knownT_run : RanS cfgT sumT 60 300 F_zeitnotlaw18_known := RanS.reckon 12 1400 knownT_eq
theorem c_knownT (H : Heap) (O : Own) : RetO PP F_zeitnotlaw18_known [] H O (.bool true) :=
 run_trueS (c := cfgT) mixed (fun _ h => okFn_of okL_ok h) (globT_ok H) (sumT_ok H) (by kernel_rfl) knownT_run O
end Go.Proofs.YtieaihgbjikggaaGreat
