/- The examples of the chapter are as they should be: the kernel reckons the run of 'known'. -/
import Derived.Test.YteakpllehopodaaGreatDoorC6
import Derived.Test.YteakpllehopodaaGreatDoorC32
namespace Go.Proofs.YteakpllehopodaaGreatDoor
open Go Go.Sx
set_option maxRecDepth 100000
set_option maxHeartbeats 1000000
def Us:Rn:=fun _=>none
theorem PY (H:Heap):GlobOk Us H:=fun _ _ h=>by cases h
noncomputable def cfgK:Cfg:=⟨PP,fun f=>okL.contains f,Us⟩
def T8:OB:=Vn oc aE
theorem Rx (H:Heap):Ou PP cfgK.ok H T8:=Ry (fun _ _ _ _ h=>bE h) H
theorem MW (f:Nat→Nat):((G.exN 12 (Fv cfgK T8 60 300 cZ [] [] 0 ⟨[],[]⟩) ((List.range 700).map f)).x,(G.exN 12 (Fv cfgK T8 60 300 cZ [] [] 0 ⟨[],[]⟩) ((List.range 700).map f)).fine isT) =
  ((G.exN 12 (Fv cfgK T8 60 300 cZ [] [] 0 ⟨[],[]⟩) ((List.range 700).map f)).y,true):=by kernel_rfl
theorem Ku:RanS cfgK T8 60 300 cZ:=RanS.reckon 12 700 MW
theorem Jv (H:Heap) (O:Go.Sx.Own):RetO PP cZ [] H O (.bool true) :=
 LH (c:=cfgK) mixed (fun _ h=>dE fc h) (PY H) (Rx H) (by kernel_rfl) Ku O
end Go.Proofs.YteakpllehopodaaGreatDoor
