/- Further trees: printed by a tool of mine. -/
import Derived.Test.YtamgiojcbdbokaaGreatDoorBT1
namespace Go.Proofs.YtamgiojcbdbokaaGreatDoor
open Go Go.Sx
set_option maxRecDepth 100000
abbrev cI : FuncId := 39
def cG (v : List Value) : Tree :=
 cS 59 [g v 0] (.tup []) fun l0 =>
 kP (g v 0) <|
 kP (g v 0) <|
 .load [] (bI (g v 0) 1) 1 fun l1 =>
 .prim (.bi .append #[92,9] 92) [g l1 0,g v 1] [] [] .one fun l2 _ =>
 kP (g v 0) <|
 kP (g v 0) <|
 kP (bI (g v 0) 1) <|
 .store (bI (g v 0) 1) [g l2 0] <|
 .pure [] .slen [g v 1] fun v3 =>
 .ret (.tuple #[v3,.nilIface]) []
theorem eE : ce cI Tryz.f39 cG := ck Tryz.func39 [] [] [] fun _ => by kernel_rfl
abbrev bE : FuncId := 59
def cZ (v : List Value) : Tree :=
 kP (g v 0) <|
 kP (g v 0) <|
 .load [] (g v 0) 1 fun l0 =>
 .pure [] (.bin .eql .ptr) [g l0 0,.pointer none] fun v1 =>
 .br v1 (
 .prim (.convert 91 159) [g v 0] [] [] .one fun l2 _ =>
 .prim (.intr 92) [g l2 0] [] [] .one fun l3 _ =>
 .prim (.convert 159 91) [g l3 0] [] [] .one fun l4 _ =>
 kP (g v 0) <|
 kP (g v 0) <|
 kP (g v 0) <|
 .store (g v 0) [g l4 0] <|
 .ret (.tuple #[]) []) (
 kP (g v 0) <|
 kP (g v 0) <|
 .load [] (g v 0) 1 fun l5 =>
 .pure [] (.bin .neq .ptr) [g l5 0,g v 0] fun v6 =>
 .br v6 (
 .stuck 907) (
 .ret (.tuple #[]) []))
theorem fc : ce bE Tryz.f59 cZ := ck Tryz.func59 [] [] [] fun _ => by kernel_rfl
abbrev ej : FuncId := 49
def eh (v : List Value) : Tree :=
 .newbox fun r0 =>
 .ret (.func (.func 79) #[] #[pt r0 0]) [⟨r0,33,[g v 0]⟩]
theorem ig : ce ej Tryz.f49 eh := ck Tryz.func49 [] [] [] fun _ => by kernel_rfl
abbrev fH : FuncId := 77
def fx (v : List Value) : Tree :=
 c1 105 [.slice none 0 0,g v 0] fun l0 =>
 .ret (g l0 0) []
theorem jQ : ce fH Tryz.f77 fx := ck Tryz.func77 [] [] [] fun _ => by kernel_rfl
abbrev dO : FuncId := 48
def gB (v : List Value) : Tree :=
 c1 77 [g v 0] fun l0 =>
 cS 78 [g l0 0] (.tup []) fun l1 =>
 .ret (g l0 0) []
theorem j8 : ce dO Tryz.f48 gB := ck Tryz.func48 [] [] [] fun _ => by kernel_rfl
def dS (v : List Value) : Tree :=
 .newbox fun r0 =>
 kN r0 <|
 pL (g v 0) (iv 0) fun v0 =>
 kV v0 <|
 kV v0 <|
 kN r0 <|
 kV v0 <|
 kV v0 <|
 pG (g v 0) (iv 20) fun v1 =>
 kV v0 <|
 pK v0 (.bool true) v1 fun v2 =>
 .br v2 (
 .ret (.bool false) []) (
 kN r0 <|
 pL (g v 1) (iv 0) fun v3 =>
 kV v3 <|
 kV v3 <|
 kN r0 <|
 kV v3 <|
 kV v3 <|
 pG (g v 1) (iv 20) fun v4 =>
 kV v3 <|
 pK v3 (.bool true) v4 fun v5 =>
 .br v5 (
 .ret (.bool false) []) (
 kN r0 <|
 pL (g v 2) (iv 0) fun v6 =>
 kV v6 <|
 kV v6 <|
 kN r0 <|
 kV v6 <|
 kV v6 <|
 pG (g v 2) (iv 20) fun v7 =>
 kV v6 <|
 pK v6 (.bool true) v7 fun v8 =>
 .br v8 (
 .ret (.bool false) []) (
 kN r0 <|
 pL (g v 3) (iv 0) fun v9 =>
 kV v9 <|
 kV v9 <|
 kN r0 <|
 kV v9 <|
 kV v9 <|
 pG (g v 3) (iv 20) fun v10 =>
 kV v9 <|
 pK v9 (.bool true) v10 fun v11 =>
 .br v11 (
 .ret (.bool false) []) (
 kN r0 <|
 pH (g v 4) (iv 0) fun v12 =>
 kN r0 <|
 kV v12 <|
 kV v12 <|
 pM (g v 4) (iv 20) fun v13 =>
 kV v12 <|
 pK v12 v13 (.bool false) fun v14 =>
 .ret v14 []))))
theorem gP : ce dT Tryz.f62 dS := ck Tryz.func62 [] [(2, .unroll 5)] [] fun _ => by kernel_rfl
end Go.Proofs.YtamgiojcbdbokaaGreatDoor
