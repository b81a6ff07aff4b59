/- The trees of the functions of this seat: printed by a tool of mine; each by the kernel's reckoning equal to the evaluator's. -/
import Derived.Test.YtpcpmblfhlcmaaaGreatDoorBT4
namespace Go.Proofs.YtpcpmblfhlcmaaaGreatDoor
open Go Go.Sx
set_option maxRecDepth 100000
abbrev fZ : FuncId := 243
def fY (v : List Value) : Tree :=
 .newbox fun r0 =>
 kN r0 <|
 pE (g v 2) (iv (-1)) fun v0 =>
 .br v0 (
 .ret (.bool true) []) (
 kN r0 <|
 cS 188 [g v 0,ag (G12 v 1)] (.agg 14) fun l1 =>
 pE (g l1 1) (iv 2) fun v2 =>
 .ret v2 [])
theorem jr : eB fZ Tryz.f243 fY := eE Tryz.func243 [(91, [5, 6, 7, 8])] [] [] fun _ => by kernel_rfl
abbrev fu : FuncId := 253
def fq (v : List Value) : Tree :=
 .newbox fun r0 =>
 kN r0 <|
 cS 308 [g v 0,ag (G12 v 1)] (.tup [none,none]) fun l0 =>
 kN r0 <|
 kN r0 <|
 c1 309 [g l0 1,g v 7] fun l1 =>
 c1 309 [g l1 0,g v 9] fun l2 =>
 .ret (g l2 0) []
theorem iY : eB fu Tryz.f253 fq := eE Tryz.func253 [(91, [5, 6, 7, 8])] [] [] fun _ => by kernel_rfl
abbrev td : FuncId := 260
def s7 (v : List Value) : Tree :=
 c1 312 [g v 0,g v 1] fun l0 =>
 c1 311 [g l0 0,g v 2] fun l1 =>
 .ret (g l1 0) []
theorem tt : eB td Tryz.f260 s7 := eE Tryz.func260 [(91, [5, 6, 7, 8])] [] [] fun _ => by kernel_rfl
abbrev gG : FuncId := 267
def cG (a : List Value) (b : List Value → Heap → Go.Sx.Own → Prop) (c d : List Value) (e : Nat) (f : Value) : Tree :=
 pA (g a 1) (iv 1) fun v14 =>
 .cont 7 b [g c 0,v14] (Es [[g d 0],[g d 39],[pt e 0],[g d 1],[f],((pt e 0)::G38 d 1)])
def eO (a b : Nat) (c : List Value) (d : Nat) (e : List Value) (f : Nat) (h i : List Value) (j : List Value → Heap → Go.Sx.Own → Prop) (k : Value) : Tree :=
 kN a <|
 kN b <|
 c1 125 [g c d,g e 0] fun l15 =>
 .br (g l15 0) (
 kN b <|
 kN f <|
 .newbox fun r3 =>
 .prim (.bi .append #[360,360] 360) [g h 0,.slice (some ⟨r3,0,none⟩) 1 1] [⟨r3,415,[g e 0,g i 7]⟩] [] .one fun l16 _ =>
 cG h j l16 c a k) (
 cG h j h c a k)
def ky (v : List Value) : Tree :=
 .newbox fun r0 =>
 kN r0 <|
 pZ (g v 1) fun v0 =>
 .loop 7 3 [.slice none 0 0,iv 0] fun C7 l1 =>
 pL (g l1 1) v0 fun v2 =>
 .br v2 (
 pI 12 (g v 1) (g l1 1) fun v3 =>
 .load [] v3 12 fun l4 =>
 .newbox fun r1 =>
 kN r1 <|
 kN r1 <|
 cS 119 [g v 0,ag (G12 l4 0)] (.agg 14) fun l5 =>
 .newbox fun r2 =>
 kN r2 <|
 kN r1 <|
 pN (g l4 2) (g v 39) fun v6 =>
 kN r1 <|
 kV v6 <|
 kV v6 <|
 pK v6 (.bool true) (g l4 9) fun v7 =>
 kN r2 <|
 kV v7 <|
 kV v7 <|
 pN (g l5 1) (iv 1) fun v8 =>
 kV v7 <|
 pK v7 (.bool true) v8 fun v9 =>
 kN r2 <|
 kV v9 <|
 kV v9 <|
 pL (g l5 7) (iv 0) fun v10 =>
 kV v9 <|
 pK v9 (.bool true) v10 fun v11 =>
 kN r2 <|
 kV v11 <|
 kV v11 <|
 pH (g l5 7) (iv 4) fun v12 =>
 kV v11 <|
 pK v11 (.bool true) v12 fun v13 =>
 .br v13 (
 cG l1 C7 l1 v r0 v0) (
 .sw (g v 39) 0 (
 eO r0 r1 v 9 l4 r2 l1 l5 C7 v0) (
 .sw (g v 39) 1 (
 eO r0 r1 v 23 l4 r2 l1 l5 C7 v0) (
 .stuck 901)))) (
 .ret (g l1 0) [])
theorem mS : eB gG Tryz.f267 ky := eE Tryz.func267 [(91, [5, 6, 7, 8])] [(3, .inv [7, 14] [0, 2, 4, 12, 13] [(4, [])])] [] fun _ => by kernel_rfl
abbrev bA : FuncId := 272
def bw (v : List Value) : Tree :=
 pZ (g v 0) fun v0 =>
 .loop 4 2 [iv 0] fun C4 l1 =>
 pL (g l1 0) v0 fun v2 =>
 .br v2 (
 pI 5 (g v 0) (g l1 0) fun v3 =>
 .load [] v3 5 fun l4 =>
 .callv false (g v 1) [ag (G5 l4 0)] [] [] .one fun l5 _ =>
 .br (g l5 0) (
 .ret (g l1 0) []) (
 pA (g l1 0) (iv 1) fun v6 =>
 .cont 4 C4 [v6] (Es [[g v 0],[g v 1],[v0]]))) (
 .ret (iv (-1)) [])
theorem cH : eB bA Tryz.f272 bw := eE Tryz.func272 [(91, [5, 6, 7, 8])] [(2, .inv [8] [0, 1, 7] [])] [] fun _ => by kernel_rfl
abbrev kR : FuncId := 274
def kD (v : List Value) : Tree :=
 .newbox fun r0 =>
 kN r0 <|
 .loop 4 2 [iv 0] fun C4 l0 =>
 pL (g l0 0) (iv 4) fun v1 =>
 .br v1 (
 .pure [] .aidx ((g l0 0)::G4 v 0) fun v2 =>
 pL v2 (iv 0) fun v3 =>
 kV v3 <|
 kV v3 <|
 pG v2 (g v 4) fun v4 =>
 kV v3 <|
 pK v3 (.bool true) v4 fun v5 =>
 .br v5 (
 .ret (.bool false) []) (
 pA (g l0 0) (iv 1) fun v6 =>
 .cont 4 C4 [v6] (Es [[g v 4],G4 v 0]))) (
 .ret (.bool true) [])
theorem mX : eB kR Tryz.f274 kD := eE Tryz.func274 [(91, [5, 6, 7, 8])] [(2, .inv [8] [1, 7] [])] [] fun _ => by kernel_rfl
abbrev aW : FuncId := 275
def aV (v : List Value) : Tree :=
 c1 323 [g v 0,g v 1] fun l0 =>
 pH (g l0 0) (iv 0) fun v1 =>
 .ret v1 []
theorem bP : eB aW Tryz.f275 aV := eE Tryz.func275 [(91, [5, 6, 7, 8])] [] [] fun _ => by kernel_rfl
abbrev jm : FuncId := 276
def jh (v : List Value) : Tree :=
 .newbox fun r0 =>
 kN r0 <|
 c1 277 [.agg #[g v 0,g v 1]] fun l0 =>
 pO (g l0 0) fun v1 =>
 .ret v1 []
theorem mj : eB jm Tryz.f276 jh := eE Tryz.func276 [(91, [5, 6, 7, 8])] [] [] fun _ => by kernel_rfl
abbrev kU : FuncId := 277
def kH (v : List Value) : Tree :=
 .newbox fun r0 =>
 kN r0 <|
 c1 77 [g v 0,iv 0,iv 500] fun l0 =>
 .br (g l0 0) (
 kN r0 <|
 c1 77 [g v 1,iv 0,iv 1] fun l1 =>
 kN r0 <|
 kV (g l1 0) <|
 kV (g l1 0) <|
 pE (g v 0) (iv 0) fun v2 =>
 kV (g l1 0) <|
 kN r0 <|
 kV v2 <|
 kV (g l1 0) <|
 kV v2 <|
 kV (g l1 0) <|
 pE (g v 1) (iv 0) fun v3 =>
 kV (g l1 0) <|
 kV v2 <|
 kV (g l1 0) <|
 pK v2 (.bool true) v3 fun v4 =>
 kV (g l1 0) <|
 pK (g l1 0) v4 (.bool false) fun v5 =>
 .ret v5 []) (
 .ret (.bool false) [])
theorem nc : eB kU Tryz.f277 kH := eE Tryz.func277 [(91, [5, 6, 7, 8])] [] [] fun _ => by kernel_rfl
abbrev d6 : FuncId := 278
def gR (v : List Value) : Tree :=
 .load [] (g v 2) 1 fun l0 =>
 .prim (.lookup 369 true) [g l0 0,g v 0] [] [] (.tup [none,none]) fun l1 _ =>
 .load [] (g v 2) 1 fun l2 =>
 .prim (.mapUpdate 369) [g l2 0,g v 0,g v 1] [] [] .one fun l3 _ =>
 pO (g l1 1) fun v4 =>
 .ret v4 []
theorem jS : eB d6 Tryz.f278 gR := eE Tryz.func278 [(91, [5, 6, 7, 8])] [] [] fun _ => by kernel_rfl
abbrev kM : FuncId := 308
def kA (v : List Value) : Tree :=
 .newbox fun r0 =>
 kN r0 <|
 pE (g v 2) (iv (-1)) fun v0 =>
 .br v0 (
 kN r0 <|
 kN r0 <|
 .ret (.tuple #[g v 4,g v 5]) []) (
 kN r0 <|
 cS 188 [g v 0,ag (G12 v 1)] (.agg 14) fun l1 =>
 .newbox fun r1 =>
 kN r1 <|
 kN r1 <|
 kN r1 <|
 .ret (.tuple #[g l1 8,g l1 9]) [])
theorem mU : eB kM Tryz.f308 kA := eE Tryz.func308 [(91, [5, 6, 7, 8])] [] [] fun _ => by kernel_rfl
abbrev kL : FuncId := 309
def kz (v : List Value) : Tree :=
 .pure [] .max2 [iv 0,g v 0] fun v0 =>
 .pure [] .max2 [iv 0,g v 1] fun v1 =>
 c1 260 [v0,v1,iv 99] fun l2 =>
 .ret (g l2 0) []
theorem mT : eB kL Tryz.f309 kz := eE Tryz.func309 [(91, [5, 6, 7, 8])] [] [] fun _ => by kernel_rfl
abbrev oP : FuncId := 311
def oL (v : List Value) : Tree :=
 .pure [] .min2 [g v 0,g v 1] fun v0 =>
 .pure [] .max2 [iv 0,v0] fun v1 =>
 .ret v1 []
theorem qz : eB oP Tryz.f311 oL := eE Tryz.func311 [(91, [5, 6, 7, 8])] [] [] fun _ => by kernel_rfl
abbrev qo : FuncId := 312
def ql (v : List Value) : Tree :=
 pA (g v 0) (g v 1) fun v0 =>
 pG (g v 0) (iv 0) fun v1 =>
 kV v1 <|
 pG (g v 1) (iv 0) fun v2 =>
 kV v1 <|
 pK v1 v2 (.bool false) fun v3 =>
 kV v3 <|
 pM v0 (iv 0) fun v4 =>
 kV v3 <|
 pK v3 v4 (.bool false) fun v5 =>
 .br v5 (
 .ret (iv 9223372036854775807) []) (
 pL (g v 0) (iv 0) fun v6 =>
 kV v6 <|
 pL (g v 1) (iv 0) fun v7 =>
 kV v6 <|
 pK v6 v7 (.bool false) fun v8 =>
 kV v8 <|
 pH v0 (iv 0) fun v9 =>
 kV v8 <|
 pK v8 v9 (.bool false) fun v10 =>
 .br v10 (
 .ret (iv (-9223372036854775808)) []) (
 .ret v0 []))
theorem rS : eB qo Tryz.f312 ql := eE Tryz.func312 [(91, [5, 6, 7, 8])] [] [] fun _ => by kernel_rfl
abbrev be : FuncId := 323
def bc (v : List Value) : Tree :=
 pZ (g v 0) fun v0 =>
 .loop 4 2 [iv 0] fun C4 l1 =>
 pL (g l1 0) v0 fun v2 =>
 .br v2 (
 pI 2 (g v 0) (g l1 0) fun v3 =>
 .load [] v3 2 fun l4 =>
 .callv false (g v 1) [.agg #[g l4 0,g l4 1]] [] [] .one fun l5 _ =>
 .br (g l5 0) (
 .ret (g l1 0) []) (
 pA (g l1 0) (iv 1) fun v6 =>
 .cont 4 C4 [v6] (Es [[g v 0],[g v 1],[v0]]))) (
 .ret (iv (-1)) [])
theorem ce : eB be Tryz.f323 bc := eE Tryz.func323 [(91, [5, 6, 7, 8])] [(2, .inv [8] [0, 1, 7] [])] [] fun _ => by kernel_rfl

end Go.Proofs.YtpcpmblfhlcmaaaGreatDoor
