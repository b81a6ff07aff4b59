/- Further trees: printed by a tool of mine. -/
import Derived.Test.YtamgiojcbdbokaaGreatDoorBT1
namespace Go.Proofs.YtamgiojcbdbokaaGreatDoor
open Go Go.Sx
set_option maxRecDepth 100000
abbrev ek : FuncId := 35
def eh (v : List Value) : Tree :=
 pL (g v 1) (iv 0) fun v0 =>
 .br v0 (
 .stuck 1001) (
 pZ (g v 0) fun v1 =>
 .pure [] (.conv .u64) [v1] fun v2 =>
 .pure [] (.conv .u64) [g v 1] fun v3 =>
 cS 57 [v2,v3] (.tup [none,none]) fun l4 =>
 pG (g l4 0) (.int .u64 0) fun v5 =>
 kV v5 <|
 pG (g l4 1) (.int .u64 9223372036854775807) fun v6 =>
 kV v5 <|
 pK v5 (.bool true) v6 fun v7 =>
 .br v7 (
 .stuck 1001) (
 .pure [] (.conv .i64) [g l4 1] fun v8 =>
 .prim (.makeSlice 33) [v8,v8] [] [] .one fun l9 _ =>
 .prim (.bi .copy #[33,33] 3) [g l9 0,g v 0] [] [] .one fun l10 _ =>
 .loop 28 8 [g l10 0] fun C28 l11 =>
 pZ (g l9 0) fun v12 =>
 pL (g l11 0) v12 fun v13 =>
 .br v13 (
 .pure [] (.slc 1 true false false) [g l9 0,g l11 0] fun v14 =>
 .pure [] (.slc 1 false true false) [g l9 0,g l11 0] fun v15 =>
 .prim (.bi .copy #[33,33] 3) [v14,v15] [] [] .one fun l16 _ =>
 pA (g l11 0) (g l16 0) fun v17 =>
 .cont 28 C28 [v17] (Es [[g l9 0]])) (
 .ret (g l9 0) [])))
theorem ic : ck ek Tryz.f35 eh := cm Tryz.func35 [] [(8, .inv [8] [7] [])] [] fun _ => by kernel_rfl
abbrev cL : FuncId := 39
def cJ (v : List Value) : Tree :=
 cS 59 [g v 0] (.tup []) fun l0 =>
 kP (g v 0) <|
 kP (g v 0) <|
 .load [] (bR (g v 0) 1) 1 fun l1 =>
 .prim (.bi .append #[92,9] 92) [g l1 0,g v 1] [] [] .one fun l2 _ =>
 kP (g v 0) <|
 kP (g v 0) <|
 kP (bR (g v 0) 1) <|
 .store (bR (g v 0) 1) [g l2 0] <|
 .pure [] .slen [g v 1] fun v3 =>
 .ret (.tuple #[v3,.nilIface]) []
theorem eG : ck cL Tryz.f39 cJ := cm Tryz.func39 [] [] [] fun _ => by kernel_rfl
abbrev bG : FuncId := 59
def cY (v : List Value) : Tree :=
 kP (g v 0) <|
 kP (g v 0) <|
 .load [] (g v 0) 1 fun l0 =>
 .pure [] (.bin .eql .ptr) [g l0 0,.pointer none] fun v1 =>
 .br v1 (
 .prim (.convert 91 159) [g v 0] [] [] .one fun l2 _ =>
 .prim (.intr 92) [g l2 0] [] [] .one fun l3 _ =>
 .prim (.convert 159 91) [g l3 0] [] [] .one fun l4 _ =>
 kP (g v 0) <|
 kP (g v 0) <|
 kP (g v 0) <|
 .store (g v 0) [g l4 0] <|
 .ret (.tuple #[]) []) (
 kP (g v 0) <|
 kP (g v 0) <|
 .load [] (g v 0) 1 fun l5 =>
 .pure [] (.bin .neq .ptr) [g l5 0,g v 0] fun v6 =>
 .br v6 (
 .stuck 907) (
 .ret (.tuple #[]) []))
theorem eZ : ck bG Tryz.f59 cY := cm Tryz.func59 [] [] [] fun _ => by kernel_rfl
abbrev ej : FuncId := 49
def ef (v : List Value) : Tree :=
 .newbox fun r0 =>
 .ret (.func (.func 79) #[] #[pt r0 0]) [⟨r0,33,[g v 0]⟩]
theorem ib : ck ej Tryz.f49 ef := cm Tryz.func49 [] [] [] fun _ => by kernel_rfl
abbrev fF : FuncId := 77
def fu (v : List Value) : Tree :=
 c1 105 [.slice none 0 0,g v 0] fun l0 =>
 .ret (g l0 0) []
theorem jO : ck fF Tryz.f77 fu := cm Tryz.func77 [] [] [] fun _ => by kernel_rfl
abbrev dM : FuncId := 48
def gx (v : List Value) : Tree :=
 c1 77 [g v 0] fun l0 =>
 cS 78 [g l0 0] (.tup []) fun l1 =>
 .ret (g l0 0) []
theorem j4 : ck dM Tryz.f48 gx := cm Tryz.func48 [] [] [] fun _ => by kernel_rfl
def dS (v : List Value) : Tree :=
 .newbox fun r0 =>
 kN r0 <|
 pL (g v 0) (iv 0) fun v0 =>
 kV v0 <|
 kV v0 <|
 kN r0 <|
 kV v0 <|
 kV v0 <|
 pG (g v 0) (iv 20) fun v1 =>
 kV v0 <|
 pK v0 (.bool true) v1 fun v2 =>
 .br v2 (
 .ret (.bool false) []) (
 kN r0 <|
 pL (g v 1) (iv 0) fun v3 =>
 kV v3 <|
 kV v3 <|
 kN r0 <|
 kV v3 <|
 kV v3 <|
 pG (g v 1) (iv 20) fun v4 =>
 kV v3 <|
 pK v3 (.bool true) v4 fun v5 =>
 .br v5 (
 .ret (.bool false) []) (
 kN r0 <|
 pL (g v 2) (iv 0) fun v6 =>
 kV v6 <|
 kV v6 <|
 kN r0 <|
 kV v6 <|
 kV v6 <|
 pG (g v 2) (iv 20) fun v7 =>
 kV v6 <|
 pK v6 (.bool true) v7 fun v8 =>
 .br v8 (
 .ret (.bool false) []) (
 kN r0 <|
 pL (g v 3) (iv 0) fun v9 =>
 kV v9 <|
 kV v9 <|
 kN r0 <|
 kV v9 <|
 kV v9 <|
 pG (g v 3) (iv 20) fun v10 =>
 kV v9 <|
 pK v9 (.bool true) v10 fun v11 =>
 .br v11 (
 .ret (.bool false) []) (
 kN r0 <|
 pH (g v 4) (iv 0) fun v12 =>
 kN r0 <|
 kV v12 <|
 kV v12 <|
 pM (g v 4) (iv 20) fun v13 =>
 kV v12 <|
 pK v12 v13 (.bool false) fun v14 =>
 .ret v14 []))))
theorem gB : ck dU Tryz.f62 dS := cm Tryz.func62 [] [(2, .unroll 5)] [] fun _ => by kernel_rfl
end Go.Proofs.YtamgiojcbdbokaaGreatDoor
