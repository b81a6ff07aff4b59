/- The examples of the chapter are as they should be: the kernel reckons the run of 'known'; what is proved of Valid stands for its calls. -/
import Derived.Test.YtieaihgbjikggaaGreatC8
import Derived.Test.YtieaihgbjikggaaGreatC31
namespace Go.Proofs.YtieaihgbjikggaaGreat
open Go Go.Sx
set_option maxRecDepth 100000
set_option maxHeartbeats 1000000
def KD : Jh := fun _ => none
theorem In (H : Heap) : GlobOk KD H := fun _ _ h => by cases h
noncomputable def cfgT : Cfg := ⟨PP, fun f => okL.contains f, KD⟩
def Ko : HC := Ll oF aw
theorem Jo (H : Heap) : Hv PP cfgT.ok H Ko := Jp (fun _ _ _ _ h => bg h) H
theorem GI (f : Nat → Nat) : ((G.exN 12 (BR cfgT Ko 60 300 cY [] [] 0 ⟨[], []⟩) ((List.range 1400).map f)).x, (G.exN 12 (BR cfgT Ko 60 300 cY [] [] 0 ⟨[], []⟩) ((List.range 1400).map f)).fine isT) =
  ((G.exN 12 (BR cfgT Ko 60 300 cY [] [] 0 ⟨[], []⟩) ((List.range 1400).map f)).y, true) := by kernel_rfl
theorem Fe : RanS cfgT Ko 60 300 cY := RanS.reckon 12 1400 GI
theorem dM (H : Heap) (O : Own) : RetO PP cY [] H O (.bool true) :=
 F9 (c := cfgT) mixed (fun _ h => jF aE h) (In H) (Jo H) (by kernel_rfl) Fe O
end Go.Proofs.YtieaihgbjikggaaGreat
