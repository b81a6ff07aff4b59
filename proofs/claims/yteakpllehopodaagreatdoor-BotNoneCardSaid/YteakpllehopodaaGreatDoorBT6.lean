/- The trees of the functions of this seat: printed by a tool of mine; each by the kernel's reckoning equal to the evaluator's. -/
import Derived.Test.YteakpllehopodaaGreatDoorBT5
namespace Go.Proofs.YteakpllehopodaaGreatDoor
open Go Go.Sx
set_option maxRecDepth 100000
abbrev fB:FuncId:=315
def cu (v:List Value):Tree :=
 pZ (g v 0) fun v0 =>
 .loop 4 2 [iv 0] fun C4 l1 =>
 pL (g l1 0) v0 fun v2 =>
 .br v2 (
 pI 2 (g v 0) (g l1 0) fun v3 =>
 .load [] v3 2 fun l4 =>
 .callv false (g v 1) [.agg #[g l4 0,g l4 1]] [] [] .one fun l5 _ =>
 .br (g l5 0) (
 .ret (g l1 0) []) (
 pA (g l1 0) (iv 1) fun v6 =>
 .cont 4 C4 [v6] (Es [[g v 0],[g v 1],[v0]]))) (
 .ret (iv (-1)) [])
theorem eV:aS fB Tryz.f315 cu:=aU Tryz.func315 [(25,[5,6,7,8])] [(2,.inv [8] [0,1,7] [])] [] fun _=>by kernel_rfl
abbrev bZ:FuncId:=324
def bX (v:List Value):Tree :=
 pZ (g v 0) fun v0 =>
 .loop 4 2 [iv 0] fun C4 l1 =>
 pL (g l1 0) v0 fun v2 =>
 .br v2 (
 pI 2 (g v 0) (g l1 0) fun v3 =>
 .load [] v3 2 fun l4 =>
 .callv false (g v 1) [.agg #[g l4 0,g l4 1]] [] [] .one fun l5 _ =>
 .br (g l5 0) (
 .ret (g l1 0) []) (
 pA (g l1 0) (iv 1) fun v6 =>
 .cont 4 C4 [v6] (Es [[g v 0],[g v 1],[v0]]))) (
 .ret (iv (-1)) [])
theorem eG:aS bZ Tryz.f324 bX:=aU Tryz.func324 [(25,[5,6,7,8])] [(2,.inv [8] [0,1,7] [])] [] fun _=>by kernel_rfl
abbrev iw:FuncId:=369
def lC (v:List Value):Tree :=
 .newbox fun r0 =>
 kN r0<|
 c1 370 [g v 0,g v 2] fun l0 =>
 kN r0<|
 kV (g l0 0)<|
 kV (g l0 0)<|
 pE (g v 3) (iv 0) fun v1 =>
 kV (g l0 0)<|
 pK (g l0 0) v1 (.bool false) fun v2 =>
 kN r0<|
 kV v2<|
 kV v2<|
 pE (g v 4) (iv 0) fun v3 =>
 kV v2<|
 pK v2 v3 (.bool false) fun v4 =>
 kN r0<|
 kV v4<|
 kV v4<|
 pE (g v 5) (iv 0) fun v5 =>
 kV v4<|
 pK v4 v5 (.bool false) fun v6 =>
 .ret v6 []
theorem q8:aS iw Tryz.f369 lC:=aU Tryz.func369 [(25,[5,6,7,8])] [] [] fun _=>by kernel_rfl
abbrev bO:FuncId:=370
def bN (v:List Value):Tree :=
 c1 371 [g v 0,g v 1] fun l0 =>
 pH (g l0 0) (iv 0) fun v1 =>
 .ret v1 []
theorem ep:aS bO Tryz.f370 bN:=aU Tryz.func370 [(25,[5,6,7,8])] [] [] fun _=>by kernel_rfl
abbrev cn:FuncId:=371
def cj (v:List Value):Tree :=
 pZ (g v 0) fun v0 =>
 .loop 4 2 [iv 0] fun C4 l1 =>
 pL (g l1 0) v0 fun v2 =>
 .br v2 (
 pI 1 (g v 0) (g l1 0) fun v3 =>
 .load [] v3 1 fun l4 =>
 pE (g v 1) (g l4 0) fun v5 =>
 .br v5 (
 .ret (g l1 0) []) (
 pA (g l1 0) (iv 1) fun v6 =>
 .cont 4 C4 [v6] (Es [[g v 0],[g v 1],[v0]]))) (
 .ret (iv (-1)) [])
theorem eL:aS cn Tryz.f371 cj:=aU Tryz.func371 [(25,[5,6,7,8])] [(2,.inv [8] [0,1,7] [])] [] fun _=>by kernel_rfl
abbrev fN:FuncId:=372
def jk (v:List Value):Tree :=
 .newbox fun r0 =>
 .newbox fun r1 =>
 kN r1<|
 kN r1<|
 kN r0<|
 c1 373 [g v 4,iv 1,g v 1] fun l0 =>
 .br (g l0 0) (
 kN r0<|
 kN r1<|
 c1 369 [g v 0,.agg #[g v 2,g v 3,iv 0,g v 5,g v 6]] fun l1 =>
 .ret (g l1 0) []) (
 .ret (.bool false) [])
theorem ny:aS fN Tryz.f372 jk:=aU Tryz.func372 [(25,[5,6,7,8])] [] [] fun _=>by kernel_rfl
abbrev qw:FuncId:=373
def qe (v:List Value):Tree :=
 pH (g v 0) (g v 1) fun v0 =>
 .br v0 (
 c1 275 [g v 0,g v 2] fun l1 =>
 pE (g l1 0) (g v 0) fun v2 =>
 .ret v2 []) (
 .ret (.bool false) [])
theorem u5:aS qw Tryz.f373 qe:=aU Tryz.func373 [(25,[5,6,7,8])] [] [] fun _=>by kernel_rfl
abbrev gi:FuncId:=374
def jE (v:List Value):Tree :=
 .newbox fun r0 =>
 .newbox fun r1 =>
 kN r1<|
 kN r1<|
 kN r1<|
 kN r1<|
 c1 373 [g v 4,iv 0,iv 9] fun l0 =>
 .br (g l0 0) (
 kN r0<|
 c1 373 [g v 5,g v 1,iv 9] fun l1 =>
 kV (g l1 0)<|
 kV (g l1 0)<|
 pA (g v 4) (g v 5) fun v2 =>
 kV (g l1 0)<|
 pG v2 (iv 0) fun v3 =>
 kV (g l1 0)<|
 pK (g l1 0) v3 (.bool false) fun v4 =>
 .br v4 (
 kN r0<|
 kN r1<|
 c1 369 [g v 0,.agg #[g v 2,g v 3,iv 0,iv 0,g v 6]] fun l5 =>
 .ret (g l5 0) []) (
 .ret (.bool false) [])) (
 .ret (.bool false) [])
theorem oK:aS gi Tryz.f374 jE:=aU Tryz.func374 [(25,[5,6,7,8])] [] [] fun _=>by kernel_rfl
abbrev fu:FuncId:=375
def iG (v:List Value):Tree :=
 .newbox fun r0 =>
 .newbox fun r1 =>
 kN r1<|
 kN r1<|
 c1 373 [g v 6,iv 0,iv 3] fun l0 =>
 .br (g l0 0) (
 kN r0<|
 kN r1<|
 c1 372 [.agg #[g v 0,g v 1],ag (G4 v 2++[iv 0])] fun l1 =>
 .ret (g l1 0) []) (
 .ret (.bool false) [])
theorem mw:aS fu Tryz.f375 iG:=aU Tryz.func375 [(25,[5,6,7,8])] [] [] fun _=>by kernel_rfl

end Go.Proofs.YteakpllehopodaaGreatDoor
