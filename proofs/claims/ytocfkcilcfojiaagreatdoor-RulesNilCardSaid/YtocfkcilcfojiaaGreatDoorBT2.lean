/- The trees of the functions of this seat: printed by a tool of mine; each by the kernel's reckoning equal to the evaluator's. -/
import Derived.Test.YtocfkcilcfojiaaGreatDoorBT1
namespace Go.Proofs.YtocfkcilcfojiaaGreatDoor
open Go Go.Sx
set_option maxRecDepth 100000
abbrev fH : FuncId := 60
def jz (v : List Value) : Tree :=
 .newbox fun r0 =>
 kN r0 <|
 c1 72 [g v 34,iv 0,iv 1] fun l0 =>
 pO (g l0 0) fun v1 =>
 .br v1 (
 .ret (.bool false) []) (
 kN r0 <|
 c1 72 [g v 33,iv 0,iv 1000] fun l2 =>
 pO (g l2 0) fun v3 =>
 .br v3 (
 .ret (.bool false) []) (
 kN r0 <|
 c1 72 [g v 35,iv 0,iv 10] fun l4 =>
 pO (g l4 0) fun v5 =>
 .br v5 (
 .ret (.bool false) []) (
 kN r0 <|
 c1 72 [g v 36,iv (-1),iv 1] fun l6 =>
 pO (g l6 0) fun v7 =>
 .br v7 (
 .ret (.bool false) []) (
 kN r0 <|
 c1 72 [g v 37,iv 0,iv 2] fun l8 =>
 pO (g l8 0) fun v9 =>
 kN r0 <|
 kV v9 <|
 kV v9 <|
 pZ (g v 0) fun v10 =>
 kV v9 <|
 pG v10 (iv 500) fun v11 =>
 kV v9 <|
 pK v9 (.bool true) v11 fun v12 =>
 kN r0 <|
 kV v12 <|
 kV v12 <|
 pZ (g v 29) fun v13 =>
 kV v12 <|
 pG v13 (iv 200) fun v14 =>
 kV v12 <|
 pK v12 (.bool true) v14 fun v15 =>
 kN r0 <|
 kV v15 <|
 kV v15 <|
 pZ (g v 30) fun v16 =>
 kV v15 <|
 pG v16 (iv 200) fun v17 =>
 kV v15 <|
 pK v15 (.bool true) v17 fun v18 =>
 .br v18 (
 .ret (.bool false) []) (
 kN r0 <|
 .newbox fun r1 =>
 kN r1 <|
 kN r1 <|
 c1 72 [g v 1,iv 0,iv 9999] fun l19 =>
 pO (g l19 0) fun v20 =>
 .br v20 (
 .ret (.bool false) []) (
 kN r1 <|
 c1 126 [ag (G4 v 2)] fun l21 =>
 pO (g l21 0) fun v22 =>
 .br v22 (
 .ret (.bool false) []) (
 kN r1 <|
 c1 72 [g v 13,iv 0,iv 7] fun l23 =>
 pO (g l23 0) fun v24 =>
 .br v24 (
 .ret (.bool false) []) (
 kN r1 <|
 c1 72 [g v 14,iv 0,iv 255] fun l25 =>
 pO (g l25 0) fun v26 =>
 .br v26 (
 .ret (.bool false) []) (
 .newbox fun r2 =>
 kN r2 <|
 kN r2 <|
 c1 72 [g v 15,iv 0,iv 9999] fun l27 =>
 pO (g l27 0) fun v28 =>
 .br v28 (
 .ret (.bool false) []) (
 kN r2 <|
 c1 126 [ag (G4 v 16)] fun l29 =>
 pO (g l29 0) fun v30 =>
 .br v30 (
 .ret (.bool false) []) (
 kN r2 <|
 c1 72 [g v 27,iv 0,iv 7] fun l31 =>
 pO (g l31 0) fun v32 =>
 .br v32 (
 .ret (.bool false) []) (
 kN r2 <|
 c1 72 [g v 28,iv 0,iv 255] fun l33 =>
 pO (g l33 0) fun v34 =>
 .br v34 (
 .ret (.bool false) []) (
 kN r0 <|
 c1 127 [g v 29,.func (.func 128) #[] #[]] fun l35 =>
 .br (g l35 0) (
 .ret (.bool false) []) (
 kN r0 <|
 c1 127 [g v 30,.func (.func 130) #[] #[]] fun l36 =>
 pO (g l36 0) fun v37 =>
 .br v37 (
 kN r0 <|
 c1 131 [ag (G38 v 0)] fun l38 =>
 .br (g l38 0) (
 kN r0 <|
 c1 132 [ag (G38 v 0)] fun l39 =>
 .ret (g l39 0) []) (
 .ret (.bool false) [])) (
 .ret (.bool false) [])))))))))))))))
theorem ly : mP fH Tryz.f60 jz := mS Tryz.func60 [(75, [5, 6, 7, 8])] [(4, .unroll 3)] [] fun _ => by kernel_rfl
abbrev aC : FuncId := 64
def b8 (v : List Value) : Tree :=
 c1 136 [g v 0,g v 1] fun l0 =>
 pH (g l0 0) (iv 0) fun v1 =>
 .ret v1 []
theorem dP : mP aC Tryz.f64 b8 := mS Tryz.func64 [(75, [5, 6, 7, 8])] [] [] fun _ => by kernel_rfl
abbrev ic : FuncId := 72
def hP (v : List Value) : Tree :=
 pH (g v 0) (g v 1) fun v0 =>
 kV v0 <|
 kV v0 <|
 pM (g v 0) (g v 2) fun v1 =>
 kV v0 <|
 pK v0 v1 (.bool false) fun v2 =>
 .ret v2 []
theorem kC : mP ic Tryz.f72 hP := mS Tryz.func72 [(75, [5, 6, 7, 8])] [] [] fun _ => by kernel_rfl
abbrev jC : FuncId := 75
def jx (v : List Value) : Tree :=
 .newbox fun r0 =>
 kP (g v 0) <|
 kP (g v 0) <|
 kP (g v 0) <|
 kP (g v 0) <|
 kP (g v 0) <|
 kP (g v 0) <|
 kP (g v 0) <|
 kP (g v 0) <|
 kN r0 <|
 kN r0 <|
 .ret (.agg #[dj (g v 0) 5,dj (g v 0) 6,dj (g v 0) 7,dj (g v 0) 8]) []
theorem lw : mP jC Tryz.f75 jx := mS Tryz.func75 [(75, [5, 6, 7, 8])] [] [] fun _ => by kernel_rfl
end Go.Proofs.YtocfkcilcfojiaaGreatDoor
