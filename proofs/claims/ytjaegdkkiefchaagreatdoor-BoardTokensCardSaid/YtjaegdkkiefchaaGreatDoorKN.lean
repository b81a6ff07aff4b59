/- The examples of the chapter are as they should be: the kernel reckons the run of 'known'; what is proved of Valid stands for its calls. -/
import Derived.Test.YtjaegdkkiefchaaGreatDoorC8
import Derived.Test.YtjaegdkkiefchaaGreatDoorC18
namespace Go.Proofs.YtjaegdkkiefchaaGreatDoor
open Go Go.Sx
set_option maxRecDepth 100000
set_option maxHeartbeats 1000000
/-- The table of math/bits that TrailingZeros64 looks into. -/
def bruijn : List Int := [0, 1, 56, 2, 57, 49, 28, 3, 61, 58, 42, 50, 38, 29, 17, 4, 62, 47, 59, 36, 45, 43, 51, 22, 53, 39, 33, 30, 24, 18, 12, 5, 63, 55, 48, 27, 60, 41, 37, 16, 46, 35, 44, 21, 52, 32, 23, 11, 54, 26, 40, 15, 34, 20, 31, 10, 25, 14, 19, 9, 13, 8, 7, 6]
def glob0 : Glob := fun n => if n = 0 then some (bruijn.map fun n => Value.int .u8 n) else none
noncomputable def cfg0 : Cfg := ⟨PP, fun f => okL.contains f, glob0⟩
def sum0 : SumF := sumB F_board_Valid validBd
theorem sum0_ok (H : Heap) : SumOk PP cfg0.ok H sum0 := sumB_ok (fun _ _ _ _ h => c_board_Valid h) H
theorem known_eq (f : Nat → Nat) : ((G.exN 12 (runGS cfg0 sum0 60 300 F_zeitnotlaw15_known [] [] 0 ⟨[], []⟩) ((List.range 700).map f)).x, (G.exN 12 (runGS cfg0 sum0 60 300 F_zeitnotlaw15_known [] [] 0 ⟨[], []⟩) ((List.range 700).map f)).fine isT) =
  ((G.exN 12 (runGS cfg0 sum0 60 300 F_zeitnotlaw15_known [] [] 0 ⟨[], []⟩) ((List.range 700).map f)).y, true) := by kernel_rfl
theorem known_run : RanS cfg0 sum0 60 300 F_zeitnotlaw15_known := RanS.reckon 12 700 known_eq
end Go.Proofs.YtjaegdkkiefchaaGreatDoor
