/- The trees of the functions of this seat: printed by a tool of mine; each by the kernel's reckoning equal to the evaluator's. -/
import Derived.Test.YtocfkcilcfojiaaGreatDoorBT3
namespace Go.Proofs.YtocfkcilcfojiaaGreatDoor
open Go Go.Sx
set_option maxRecDepth 100000
abbrev ba : FuncId := 200
def aZ (v : List Value) : Tree :=
 pZ (g v 0) fun v0 =>
 .loop 4 2 [iv 0] fun C4 l1 =>
 pL (g l1 0) v0 fun v2 =>
 .br v2 (
 pI 5 (g v 0) (g l1 0) fun v3 =>
 .load [] v3 5 fun l4 =>
 .callv false (g v 1) [ag (G5 l4 0)] [] [] .one fun l5 _ =>
 .br (g l5 0) (
 .ret (g l1 0) []) (
 pA (g l1 0) (iv 1) fun v6 =>
 .cont 4 C4 [v6] (Es [[g v 0],[g v 1],[v0]]))) (
 .ret (iv (-1)) [])
theorem bT : mP ba Tryz.f200 aZ := mS Tryz.func200 [(75, [5, 6, 7, 8])] [(2, .inv [8] [0, 1, 7] [])] [] fun _ => by kernel_rfl
abbrev jA : FuncId := 202
def jv (v : List Value) : Tree :=
 .newbox fun r0 =>
 kN r0 <|
 .loop 4 2 [iv 0] fun C4 l0 =>
 pL (g l0 0) (iv 4) fun v1 =>
 .br v1 (
 .pure [] .aidx ((g l0 0)::G4 v 0) fun v2 =>
 pL v2 (iv 0) fun v3 =>
 kV v3 <|
 kV v3 <|
 pG v2 (g v 4) fun v4 =>
 kV v3 <|
 pK v3 (.bool true) v4 fun v5 =>
 .br v5 (
 .ret (.bool false) []) (
 pA (g l0 0) (iv 1) fun v6 =>
 .cont 4 C4 [v6] (Es [[g v 4],G4 v 0]))) (
 .ret (.bool true) [])
theorem lq : mP jA Tryz.f202 jv := mS Tryz.func202 [(75, [5, 6, 7, 8])] [(2, .inv [8] [1, 7] [])] [] fun _ => by kernel_rfl
abbrev aL : FuncId := 203
def aJ (v : List Value) : Tree :=
 c1 246 [g v 0,g v 1] fun l0 =>
 pH (g l0 0) (iv 0) fun v1 =>
 .ret v1 []
theorem bu : mP aL Tryz.f203 aJ := mS Tryz.func203 [(75, [5, 6, 7, 8])] [] [] fun _ => by kernel_rfl
abbrev ig : FuncId := 204
def hZ (v : List Value) : Tree :=
 .newbox fun r0 =>
 kN r0 <|
 c1 205 [.agg #[g v 0,g v 1]] fun l0 =>
 pO (g l0 0) fun v1 =>
 .ret v1 []
theorem kE : mP ig Tryz.f204 hZ := mS Tryz.func204 [(75, [5, 6, 7, 8])] [] [] fun _ => by kernel_rfl
abbrev jD : FuncId := 205
def jy (v : List Value) : Tree :=
 .newbox fun r0 =>
 kN r0 <|
 c1 72 [g v 0,iv 0,iv 500] fun l0 =>
 .br (g l0 0) (
 kN r0 <|
 c1 72 [g v 1,iv 0,iv 1] fun l1 =>
 kN r0 <|
 kV (g l1 0) <|
 kV (g l1 0) <|
 pE (g v 0) (iv 0) fun v2 =>
 kV (g l1 0) <|
 kN r0 <|
 kV v2 <|
 kV (g l1 0) <|
 kV v2 <|
 kV (g l1 0) <|
 pE (g v 1) (iv 0) fun v3 =>
 kV (g l1 0) <|
 kV v2 <|
 kV (g l1 0) <|
 pK v2 (.bool true) v3 fun v4 =>
 kV (g l1 0) <|
 pK (g l1 0) v4 (.bool false) fun v5 =>
 .ret v5 []) (
 .ret (.bool false) [])
theorem lx : mP jD Tryz.f205 jy := mS Tryz.func205 [(75, [5, 6, 7, 8])] [] [] fun _ => by kernel_rfl
abbrev dw : FuncId := 206
def fK (v : List Value) : Tree :=
 .load [] (g v 2) 1 fun l0 =>
 .prim (.lookup 281 true) [g l0 0,g v 0] [] [] (.tup [none,none]) fun l1 _ =>
 .load [] (g v 2) 1 fun l2 =>
 .prim (.mapUpdate 281) [g l2 0,g v 0,g v 1] [] [] .one fun l3 _ =>
 pO (g l1 1) fun v4 =>
 .ret v4 []
theorem iR : mP dw Tryz.f206 fK := mS Tryz.func206 [(75, [5, 6, 7, 8])] [] [] fun _ => by kernel_rfl
end Go.Proofs.YtocfkcilcfojiaaGreatDoor
