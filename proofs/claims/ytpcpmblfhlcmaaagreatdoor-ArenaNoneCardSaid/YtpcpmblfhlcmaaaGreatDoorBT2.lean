/- The trees of the functions of this seat: printed by a tool of mine; each by the kernel's reckoning equal to the evaluator's. -/
import Derived.Test.YtpcpmblfhlcmaaaGreatDoorBT1
namespace Go.Proofs.YtpcpmblfhlcmaaaGreatDoor
open Go Go.Sx
set_option maxRecDepth 100000
abbrev jk : FuncId := 77
def jf (v : List Value) : Tree :=
 pH (g v 0) (g v 1) fun v0 =>
 kV v0 <|
 kV v0 <|
 pM (g v 0) (g v 2) fun v1 =>
 kV v0 <|
 pK v0 v1 (.bool false) fun v2 =>
 .ret v2 []
theorem mh : eB jk Tryz.f77 jf := eE Tryz.func77 [(91, [5, 6, 7, 8])] [] [] fun _ => by kernel_rfl
abbrev iF : FuncId := 81
def lX (v : List Value) : Tree :=
 .newbox fun r0 =>
 kN r0 <|
 c1 122 [ag (G38 v 1)] fun l0 =>
 .br (g l0 0) (
 kN r0 <|
 kN r0 <|
 c1 150 [g v 0,ag (G38 v 1)] fun l1 =>
 pZ (g l1 0) fun v2 =>
 c1 151 [ag (G38 v 1)] fun l3 =>
 pZ (g l3 0) fun v4 =>
 pA v2 v4 fun v5 =>
 pE v5 (iv 0) fun v6 =>
 .ret v6 []) (
 .ret (.bool false) [])
theorem oV : eB iF Tryz.f81 lX := eE Tryz.func81 [(91, [5, 6, 7, 8])] [] [] fun _ => by kernel_rfl
abbrev lB : FuncId := 83
def qk (v : List Value) : Tree :=
 .newbox fun r0 =>
 .newbox fun r1 =>
 kN r0 <|
 .newbox fun r2 =>
 kN r2 <|
 kN r2 <|
 kN r2 <|
 kV (g v 10) <|
 kV (g v 10) <|
 pE (g v 1) (iv 0) fun v0 =>
 kV (g v 10) <|
 pK (g v 10) (.bool true) v0 fun v1 =>
 kN r1 <|
 .newbox fun r3 =>
 kN r3 <|
 kN r3 <|
 kN r3 <|
 kV (g v 24) <|
 kV (g v 24) <|
 pE (g v 15) (iv 0) fun v2 =>
 kV (g v 24) <|
 pK (g v 24) (.bool true) v2 fun v3 =>
 kN r1 <|
 kN r1 <|
 kN r1 <|
 kN r1 <|
 .ret (.agg #[v1,v3]) []
theorem rR : eB lB Tryz.f83 qk := eE Tryz.func83 [(91, [5, 6, 7, 8])] [(2, .unroll 3)] [] fun _ => by kernel_rfl
abbrev bB : FuncId := 86
def bz (v : List Value) : Tree :=
 .pure [] (.bin .eql .slice) [g v 0,.slice none 0 0] fun v0 =>
 .br v0 (
 .ret (.slice none 0 0) []) (
 .newbox fun r0 =>
 .prim (.bi .append #[120,120] 120) [.slice (some ⟨r0,0,none⟩) 0 0,g v 0] [⟨r0,187,[]⟩] [] .one fun l1 _ =>
 .ret (g l1 0) [])
theorem cI : eB bB Tryz.f86 bz := eE Tryz.func86 [(91, [5, 6, 7, 8])] [] [] fun _ => by kernel_rfl
abbrev bp : FuncId := 87
def bo (v : List Value) : Tree :=
 .pure [] (.bin .eql .slice) [g v 0,.slice none 0 0] fun v0 =>
 .br v0 (
 .ret (.slice none 0 0) []) (
 .newbox fun r0 =>
 .prim (.bi .append #[121,121] 121) [.slice (some ⟨r0,0,none⟩) 0 0,g v 0] [⟨r0,191,[]⟩] [] .one fun l1 _ =>
 .ret (g l1 0) [])
theorem cu : eB bp Tryz.f87 bo := eE Tryz.func87 [(91, [5, 6, 7, 8])] [] [] fun _ => by kernel_rfl
abbrev kT : FuncId := 91
def kF (v : List Value) : Tree :=
 .newbox fun r0 =>
 kP (g v 0) <|
 kP (g v 0) <|
 kP (g v 0) <|
 kP (g v 0) <|
 kP (g v 0) <|
 kP (g v 0) <|
 kP (g v 0) <|
 kP (g v 0) <|
 kN r0 <|
 kN r0 <|
 .ret (.agg #[dq (g v 0) 5,dq (g v 0) 6,dq (g v 0) 7,dq (g v 0) 8]) []
theorem na : eB kT Tryz.f91 kF := eE Tryz.func91 [(91, [5, 6, 7, 8])] [] [] fun _ => by kernel_rfl
abbrev iI : FuncId := 118
def mb (v : List Value) : Tree :=
 .newbox fun r0 =>
 .newbox fun r1 =>
 kN r0 <|
 cS 130 [ag (G38 v 0),g v 38] (.tup [none,none]) fun l0 =>
 pN (g l0 1) (iv 0) fun v1 =>
 .br v1 (
 kN r1 <|
 kN r1 <|
 .ret (.tuple #[ag Z5,g l0 1]) []) (
 kN r0 <|
 pI 12 (g v 0) (g l0 0) fun v2 =>
 .load [] v2 12 fun l3 =>
 kN r1 <|
 kN r1 <|
 .ret (.tuple #[ag (G12 l3 0),iv 0]) [])
theorem o1 : eB iI Tryz.f118 mb := eE Tryz.func118 [(91, [5, 6, 7, 8])] [] [] fun _ => by kernel_rfl
abbrev kQ : FuncId := 119
def kC (v : List Value) : Tree :=
 .newbox fun r0 =>
 .newbox fun r1 =>
 kN r0 <|
 cS 188 [g v 0,ag (G12 v 1)] (.agg 14) fun l0 =>
 cS 51 [ag (G14 l0 0)] (.agg 14) fun l1 =>
 kN r1 <|
 kN r1 <|
 .ret (ag (G14 l1 0)) []
theorem mW : eB kQ Tryz.f119 kC := eE Tryz.func119 [(91, [5, 6, 7, 8])] [] [] fun _ => by kernel_rfl
end Go.Proofs.YtpcpmblfhlcmaaaGreatDoor
