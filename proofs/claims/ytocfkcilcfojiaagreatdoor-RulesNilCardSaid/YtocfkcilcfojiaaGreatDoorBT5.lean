/- The trees of the functions of this seat: printed by a tool of mine; each by the kernel's reckoning equal to the evaluator's. -/
import Derived.Test.YtocfkcilcfojiaaGreatDoorBT4
namespace Go.Proofs.YtocfkcilcfojiaaGreatDoor
open Go Go.Sx
set_option maxRecDepth 100000
abbrev aR : FuncId := 246
def aQ (v : List Value) : Tree :=
 pZ (g v 0) fun v0 =>
 .loop 4 2 [iv 0] fun C4 l1 =>
 pL (g l1 0) v0 fun v2 =>
 .br v2 (
 pI 2 (g v 0) (g l1 0) fun v3 =>
 .load [] v3 2 fun l4 =>
 .callv false (g v 1) [.agg #[g l4 0,g l4 1]] [] [] .one fun l5 _ =>
 .br (g l5 0) (
 .ret (g l1 0) []) (
 pA (g l1 0) (iv 1) fun v6 =>
 .cont 4 C4 [v6] (Es [[g v 0],[g v 1],[v0]]))) (
 .ret (iv (-1)) [])
theorem bL : mP aR Tryz.f246 aQ := mS Tryz.func246 [(75, [5, 6, 7, 8])] [(2, .inv [8] [0, 1, 7] [])] [] fun _ => by kernel_rfl
abbrev eD : FuncId := 269
def kw (v : List Value) : Tree :=
 .pure [] .slen [g v 0] fun v0 =>
 c1 270 [v0,iv 1,iv 32] fun l1 =>
 pO (g l1 0) fun v2 =>
 .br v2 (
 .ret (.bool false) []) (
 c1 294 [g v 0,.string ⟨#[32]⟩] fun l3 =>
 .pure [] (.bin .neq .str) [g l3 0,g v 0] fun v4 =>
 .br v4 (
 .ret (.bool false) []) (
 .prim (.convert 9 373) [g v 0] [] [] .one fun l5 _ =>
 pZ (g l5 0) fun v6 =>
 .loop 15 4 [iv 0] fun C15 l7 =>
 pL (g l7 0) v6 fun v8 =>
 .br v8 (
 pI 1 (g l5 0) (g l7 0) fun v9 =>
 .load [] v9 1 fun l10 =>
 pL (g l10 0) (.int .u8 32) fun v11 =>
 kV v11 <|
 pG (g l10 0) (.int .u8 126) fun v12 =>
 kV v11 <|
 pK v11 (.bool true) v12 fun v13 =>
 .br v13 (
 .ret (.bool false) []) (
 pA (g l7 0) (iv 1) fun v14 =>
 .cont 15 C15 [v14] (Es [[g l5 0],[v6]]))) (
 .ret (.bool true) [])))
theorem mV : mP eD Tryz.f269 kw := mS Tryz.func269 [(75, [5, 6, 7, 8])] [(4, .inv [18] [16, 17] [])] [] fun _ => by kernel_rfl
abbrev jB : FuncId := 270
def jw (v : List Value) : Tree :=
 pH (g v 0) (g v 1) fun v0 =>
 kV v0 <|
 kV v0 <|
 pM (g v 0) (g v 2) fun v1 =>
 kV v0 <|
 pK v0 v1 (.bool false) fun v2 =>
 .ret v2 []
theorem lu : mP jB Tryz.f270 jw := mS Tryz.func270 [(75, [5, 6, 7, 8])] [] [] fun _ => by kernel_rfl

end Go.Proofs.YtocfkcilcfojiaaGreatDoor
