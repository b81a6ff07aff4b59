/- The examples of the chapter are as they should be: the kernel reckons the run of 'known'; what is proved of Valid stands for its calls. -/
import Derived.Test.YtieaihgbjikggaaGreatC8
import Derived.Test.YtieaihgbjikggaaGreatC31
namespace Go.Proofs.YtieaihgbjikggaaGreat
open Go Go.Sx
set_option maxRecDepth 100000
set_option maxHeartbeats 1000000
def ND : LO := fun _ => none
theorem KR (H : Heap) : GlobOk ND H := fun _ _ h => by cases h
noncomputable def cfgT : Cfg := ⟨PP, fun f => okL.contains f, ND⟩
def Nj : J9 := N8 qy ax
theorem LW (H : Heap) : J2 PP cfgT.ok H Nj := LX (fun _ _ _ _ h => bp h) H
theorem Jq (f : Nat → Nat) : ((G.exN 12 (DZ cfgT Nj 60 300 di [] [] 0 ⟨[], []⟩) ((List.range 1400).map f)).x, (G.exN 12 (DZ cfgT Nj 60 300 di [] [] 0 ⟨[], []⟩) ((List.range 1400).map f)).fine isT) =
  ((G.exN 12 (DZ cfgT Nj 60 300 di [] [] 0 ⟨[], []⟩) ((List.range 1400).map f)).y, true) := by kernel_rfl
theorem Ht : RanS cfgT Nj 60 300 di := RanS.reckon 12 1400 Jq
theorem vI (H : Heap) (O : Own) : RetO PP di [] H O (.bool true) :=
 IC (c := cfgT) mixed (fun _ h => kJ aB h) (KR H) (LW H) (by kernel_rfl) Ht O
end Go.Proofs.YtieaihgbjikggaaGreat
