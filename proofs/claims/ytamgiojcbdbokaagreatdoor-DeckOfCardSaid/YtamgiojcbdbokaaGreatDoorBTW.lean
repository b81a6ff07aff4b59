/- Further trees: printed by a tool of mine. -/
import Derived.Test.YtamgiojcbdbokaaGreatDoorBT1
namespace Go.Proofs.YtamgiojcbdbokaaGreatDoor
open Go Go.Sx
set_option maxRecDepth 100000
abbrev cj : FuncId := 39
def ce (v : List Value) : Tree :=
 cS 59 [g v 0] (.tup []) fun l0 =>
 kP (g v 0) <|
 kP (g v 0) <|
 .load [] (bN (g v 0) 1) 1 fun l1 =>
 .prim (.bi .append #[92,9] 92) [g l1 0,g v 1] [] [] .one fun l2 _ =>
 kP (g v 0) <|
 kP (g v 0) <|
 kP (bN (g v 0) 1) <|
 .store (bN (g v 0) 1) [g l2 0] <|
 .pure [] .slen [g v 1] fun v3 =>
 .ret (.tuple #[v3,.nilIface]) []
theorem dQ : cT cj Tryz.f39 ce := cV Tryz.func39 [] [] [] fun _ => by kernel_rfl
abbrev bz : FuncId := 59
def cG (v : List Value) : Tree :=
 kP (g v 0) <|
 kP (g v 0) <|
 .load [] (g v 0) 1 fun l0 =>
 .pure [] (.bin .eql .ptr) [g l0 0,.pointer none] fun v1 =>
 .br v1 (
 .prim (.convert 91 159) [g v 0] [] [] .one fun l2 _ =>
 .prim (.intr 92) [g l2 0] [] [] .one fun l3 _ =>
 .prim (.convert 159 91) [g l3 0] [] [] .one fun l4 _ =>
 kP (g v 0) <|
 kP (g v 0) <|
 kP (g v 0) <|
 .store (g v 0) [g l4 0] <|
 .ret (.tuple #[]) []) (
 kP (g v 0) <|
 kP (g v 0) <|
 .load [] (g v 0) 1 fun l5 =>
 .pure [] (.bin .neq .ptr) [g l5 0,g v 0] fun v6 =>
 .br v6 (
 .stuck 907) (
 .ret (.tuple #[]) []))
theorem ep : cT bz Tryz.f59 cG := cV Tryz.func59 [] [] [] fun _ => by kernel_rfl
abbrev dL : FuncId := 49
def dJ (v : List Value) : Tree :=
 .newbox fun r0 =>
 .ret (.func (.func 79) #[] #[pt r0 0]) [⟨r0,33,[g v 0]⟩]
theorem fH : cT dL Tryz.f49 dJ := cV Tryz.func49 [] [] [] fun _ => by kernel_rfl
abbrev eG : FuncId := 77
def eC (v : List Value) : Tree :=
 c1 105 [.slice none 0 0,g v 0] fun l0 =>
 .ret (g l0 0) []
theorem iw : cT eG Tryz.f77 eC := cV Tryz.func77 [] [] [] fun _ => by kernel_rfl
abbrev dt : FuncId := 48
def fj (v : List Value) : Tree :=
 c1 77 [g v 0] fun l0 =>
 cS 78 [g l0 0] (.tup []) fun l1 =>
 .ret (g l0 0) []
theorem iL : cT dt Tryz.f48 fj := cV Tryz.func48 [] [] [] fun _ => by kernel_rfl
end Go.Proofs.YtamgiojcbdbokaaGreatDoor
