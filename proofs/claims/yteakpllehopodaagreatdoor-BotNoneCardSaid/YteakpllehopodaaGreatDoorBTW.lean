/- Further trees: printed by a tool of mine. -/
import Derived.Test.YteakpllehopodaaGreatDoorBT6
namespace Go.Proofs.YteakpllehopodaaGreatDoor
open Go Go.Sx
set_option maxRecDepth 100000
abbrev iu:FuncId:=79
def io (v:List Value):Tree :=
 .newbox fun r0 =>
 .ret (.func (.func 144) #[] #[pt r0 0]) [⟨r0,25,[g v 0]⟩]
theorem lW:aS iu Tryz.f79 io:=aU Tryz.func79 [] [] [] fun _=>by kernel_rfl
abbrev jG:FuncId:=142
def jA (v:List Value):Tree :=
 c1 205 [.slice none 0 0,g v 0] fun l0 =>
 .ret (g l0 0) []
theorem oG:aS jG Tryz.f142 jA:=aU Tryz.func142 [] [] [] fun _=>by kernel_rfl
abbrev kJ:FuncId:=78
def kB (v:List Value):Tree :=
 c1 142 [g v 0] fun l0 =>
 cS 143 [g l0 0] (.tup []) fun l1 =>
 .ret (g l0 0) []
theorem oY:aS kJ Tryz.f78 kB:=aU Tryz.func78 [] [] [] fun _=>by kernel_rfl
end Go.Proofs.YteakpllehopodaaGreatDoor
