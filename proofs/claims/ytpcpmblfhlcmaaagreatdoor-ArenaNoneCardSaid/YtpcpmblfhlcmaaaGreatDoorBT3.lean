/- The trees of the functions of this seat: printed by a tool of mine; each by the kernel's reckoning equal to the evaluator's. -/
import Derived.Test.YtpcpmblfhlcmaaaGreatDoorBT2
namespace Go.Proofs.YtpcpmblfhlcmaaaGreatDoor
open Go Go.Sx
set_option maxRecDepth 100000
abbrev gK : FuncId := 122
def kJ (v : List Value) : Tree :=
 .newbox fun r0 =>
 kN r0 <|
 c1 77 [g v 34,iv 0,iv 1] fun l0 =>
 pO (g l0 0) fun v1 =>
 .br v1 (
 .ret (.bool false) []) (
 kN r0 <|
 c1 77 [g v 33,iv 0,iv 1000] fun l2 =>
 pO (g l2 0) fun v3 =>
 .br v3 (
 .ret (.bool false) []) (
 kN r0 <|
 c1 77 [g v 35,iv 0,iv 10] fun l4 =>
 pO (g l4 0) fun v5 =>
 .br v5 (
 .ret (.bool false) []) (
 kN r0 <|
 c1 77 [g v 36,iv (-1),iv 1] fun l6 =>
 pO (g l6 0) fun v7 =>
 .br v7 (
 .ret (.bool false) []) (
 kN r0 <|
 c1 77 [g v 37,iv 0,iv 2] fun l8 =>
 pO (g l8 0) fun v9 =>
 kN r0 <|
 kV v9 <|
 kV v9 <|
 pZ (g v 0) fun v10 =>
 kV v9 <|
 pG v10 (iv 500) fun v11 =>
 kV v9 <|
 pK v9 (.bool true) v11 fun v12 =>
 kN r0 <|
 kV v12 <|
 kV v12 <|
 pZ (g v 29) fun v13 =>
 kV v12 <|
 pG v13 (iv 200) fun v14 =>
 kV v12 <|
 pK v12 (.bool true) v14 fun v15 =>
 kN r0 <|
 kV v15 <|
 kV v15 <|
 pZ (g v 30) fun v16 =>
 kV v15 <|
 pG v16 (iv 200) fun v17 =>
 kV v15 <|
 pK v15 (.bool true) v17 fun v18 =>
 .br v18 (
 .ret (.bool false) []) (
 kN r0 <|
 .newbox fun r1 =>
 kN r1 <|
 kN r1 <|
 c1 77 [g v 1,iv 0,iv 9999] fun l19 =>
 pO (g l19 0) fun v20 =>
 .br v20 (
 .ret (.bool false) []) (
 kN r1 <|
 c1 195 [ag (G4 v 2)] fun l21 =>
 pO (g l21 0) fun v22 =>
 .br v22 (
 .ret (.bool false) []) (
 kN r1 <|
 c1 77 [g v 13,iv 0,iv 7] fun l23 =>
 pO (g l23 0) fun v24 =>
 .br v24 (
 .ret (.bool false) []) (
 kN r1 <|
 c1 77 [g v 14,iv 0,iv 255] fun l25 =>
 pO (g l25 0) fun v26 =>
 .br v26 (
 .ret (.bool false) []) (
 .newbox fun r2 =>
 kN r2 <|
 kN r2 <|
 c1 77 [g v 15,iv 0,iv 9999] fun l27 =>
 pO (g l27 0) fun v28 =>
 .br v28 (
 .ret (.bool false) []) (
 kN r2 <|
 c1 195 [ag (G4 v 16)] fun l29 =>
 pO (g l29 0) fun v30 =>
 .br v30 (
 .ret (.bool false) []) (
 kN r2 <|
 c1 77 [g v 27,iv 0,iv 7] fun l31 =>
 pO (g l31 0) fun v32 =>
 .br v32 (
 .ret (.bool false) []) (
 kN r2 <|
 c1 77 [g v 28,iv 0,iv 255] fun l33 =>
 pO (g l33 0) fun v34 =>
 .br v34 (
 .ret (.bool false) []) (
 kN r0 <|
 c1 196 [g v 29,.func (.func 197) #[] #[]] fun l35 =>
 .br (g l35 0) (
 .ret (.bool false) []) (
 kN r0 <|
 c1 196 [g v 30,.func (.func 199) #[] #[]] fun l36 =>
 pO (g l36 0) fun v37 =>
 .br v37 (
 kN r0 <|
 c1 200 [ag (G38 v 0)] fun l38 =>
 .br (g l38 0) (
 kN r0 <|
 c1 201 [ag (G38 v 0)] fun l39 =>
 .ret (g l39 0) []) (
 .ret (.bool false) [])) (
 .ret (.bool false) [])))))))))))))))
theorem ng : eB gK Tryz.f122 kJ := eE Tryz.func122 [(91, [5, 6, 7, 8])] [(4, .unroll 3)] [] fun _ => by kernel_rfl
abbrev aM : FuncId := 125
def cU (v : List Value) : Tree :=
 c1 203 [g v 0,g v 1] fun l0 =>
 pH (g l0 0) (iv 0) fun v1 =>
 .ret v1 []
theorem eD : eB aM Tryz.f125 cU := eE Tryz.func125 [(91, [5, 6, 7, 8])] [] [] fun _ => by kernel_rfl
abbrev gJ : FuncId := 130
def kG (v : List Value) : Tree :=
 .newbox fun r0 =>
 kN r0 <|
 c1 122 [ag (G38 v 0)] fun l0 =>
 pO (g l0 0) fun v1 =>
 .br v1 (
 .ret (.tuple #[iv 0,iv 2]) []) (
 kN r0 <|
 cS 193 [g v 0,g v 38,.func (.func 206) #[] #[]] (.tup [none,none]) fun l2 =>
 pO (g l2 1) fun v3 =>
 .br v3 (
 .ret (.tuple #[iv 0,iv 9]) []) (
 .ret (.tuple #[g l2 0,iv 0]) []))
theorem nb : eB gJ Tryz.f130 kG := eE Tryz.func130 [(91, [5, 6, 7, 8])] [] [] fun _ => by kernel_rfl
abbrev oO : FuncId := 150
def oK (v : List Value) : Tree :=
 .newbox fun r0 =>
 .newbox fun r1 =>
 kN r1 <|
 .call false 228 [ag (G38 v 1),.func (.func 229) #[] #[pt r0 0]] [] [⟨r0,25,[g v 0]⟩] .one fun l0 c0 =>
 .ret (g l0 0) []
theorem qy : eB oO Tryz.f150 oK := eE Tryz.func150 [(91, [5, 6, 7, 8])] [] [] fun _ => by kernel_rfl
abbrev qn : FuncId := 151
def qj (v : List Value) : Tree :=
 .newbox fun r0 =>
 kN r0 <|
 c1 228 [ag (G38 v 0),.func (.func 231) #[] #[]] fun l0 =>
 .ret (g l0 0) []
theorem rQ : eB qn Tryz.f151 qj := eE Tryz.func151 [(91, [5, 6, 7, 8])] [] [] fun _ => by kernel_rfl
end Go.Proofs.YtpcpmblfhlcmaaaGreatDoor
