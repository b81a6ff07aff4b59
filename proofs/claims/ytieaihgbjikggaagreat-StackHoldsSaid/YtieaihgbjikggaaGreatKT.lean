/- The examples of the chapter are as they should be: the kernel reckons the run of 'known'; what is proved of Valid stands for its calls. -/
import Derived.Test.YtieaihgbjikggaaGreatC8
import Derived.Test.YtieaihgbjikggaaGreatC31
namespace Go.Proofs.YtieaihgbjikggaaGreat
open Go Go.Sx
set_option maxRecDepth 100000
set_option maxHeartbeats 1000000
def KE : Ji := fun _ => none
theorem Io (H : Heap) : GlobOk KE H := fun _ _ h => by cases h
noncomputable def cfgT : Cfg := ⟨PP, fun f => okL.contains f, KE⟩
def Kp : HD := Lm oG aw
theorem Jp (H : Heap) : Hw PP cfgT.ok H Kp := Jq (fun _ _ _ _ h => bh h) H
theorem GJ (f : Nat → Nat) : ((G.exN 12 (BS cfgT Kp 60 300 cZ [] [] 0 ⟨[], []⟩) ((List.range 1400).map f)).x, (G.exN 12 (BS cfgT Kp 60 300 cZ [] [] 0 ⟨[], []⟩) ((List.range 1400).map f)).fine isT) =
  ((G.exN 12 (BS cfgT Kp 60 300 cZ [] [] 0 ⟨[], []⟩) ((List.range 1400).map f)).y, true) := by kernel_rfl
theorem Ff : RanS cfgT Kp 60 300 cZ := RanS.reckon 12 1400 GJ
theorem dN (H : Heap) (O : Own) : RetO PP cZ [] H O (.bool true) :=
 Ga (c := cfgT) aY (fun _ h => jG aE h) (Io H) (Jp H) (by kernel_rfl) Ff O
end Go.Proofs.YtieaihgbjikggaaGreat
