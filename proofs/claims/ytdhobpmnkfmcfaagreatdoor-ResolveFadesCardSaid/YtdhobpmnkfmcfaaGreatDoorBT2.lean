/- The trees of the functions of this seat: printed by a tool of mine; each by the kernel's reckoning equal to the evaluator's. -/
import Derived.Test.YtdhobpmnkfmcfaaGreatDoorBT1
namespace Go.Proofs.YtdhobpmnkfmcfaaGreatDoor
open Go Go.Sx
set_option maxRecDepth 100000
abbrev jy : FuncId := 15
def fD (a : Nat) (b c : List Value) (d : Nat) (e : List Value) (f h i : Nat) : Tree :=
 kN a <|
 kN a <|
 c1 43 [g b 0,ag (G5 c 38)] fun l8 =>
 pZ (g l8 0) fun v9 =>
 .loop d 10 ((g c 42)::((iv 0)::G38 e 0)) fun C48 l10 =>
 pL (g l10 1) v9 fun v11 =>
 .br v11 (
 pI 5 (g l8 0) (g l10 1) fun v12 =>
 .load [] v12 5 fun l13 =>
 .newbox fun r4 =>
 kN r4 <|
 .newbox fun r5 =>
 kN r4 <|
 pN (g l13 1) (iv 0) fun v14 =>
 .br v14 (
 pZ (g l10 0) fun v15 =>
 pE v15 (iv 0) fun v16 =>
 .br v16 (
 pA (g l10 1) (iv 1) fun v17 =>
 .cont d C48 ((g l10 0)::(v17::G38 l10 2)) (Es [[g b 0],[g b 39],[pt f 0],[pt h 0],[pt i 0],[pt a 0],[g l8 0],[v9],[pt f 0,.tuple #[],.tuple #[],.tuple #[],.tuple #[],.tuple #[],.tuple #[],.tuple #[],.tuple #[],.tuple #[],.tuple #[],.tuple #[],.tuple #[],.tuple #[],.tuple #[],.tuple #[],.tuple #[],.tuple #[],.tuple #[],.tuple #[],.tuple #[],.tuple #[],.tuple #[],.tuple #[],.tuple #[],.tuple #[],.tuple #[],.tuple #[],.tuple #[],.tuple #[],.tuple #[],.tuple #[],.tuple #[],.tuple #[],.tuple #[],.tuple #[],.tuple #[],.tuple #[],.tuple #[]],[pt h 0,.slice none 0 0,iv 0,iv 0,iv 0,iv 0,iv 0,.slice none 0 0,.slice none 0 0,.slice none 0 0,.slice none 0 0,.bool false,.bool false,.bool false,iv 0,iv 0,iv 0,iv 0,iv 0,iv 0,iv 0,.slice none 0 0,.slice none 0 0,.slice none 0 0,.slice none 0 0,.bool false,.bool false,.bool false,iv 0,iv 0,.slice none 0 0,.slice none 0 0,.slice none 0 0,.slice none 0 0,iv 0,iv 0,iv 0,iv 0,iv 0],[pt i 0,iv 0,iv 0,iv 0,iv 0,.slice none 0 0],((pt a 0)::G5 c 38)])) (
 pI 2 (g l10 0) (iv 0) fun v18 =>
 .load [] v18 2 fun l19 =>
 .pure [] (.slc 2 true false false) [g l10 0,iv 1] fun v20 =>
 kN r5 <|
 kN r4 <|
 c1 23 [ag (G5 l13 0)] fun l21 =>
 .br (g l21 0) (
 kN f <|
 kN a <|
 kN a <|
 kN r4 <|
 kN r5 <|
 cS 44 [g b 0,ag (G38 l10 2),g c 38,g c 39,ag (G5 l13 0),.agg #[g l19 0,g l19 1],g b 39] (.agg 38) fun l22 =>
 kN f <|
 pA (g l10 1) (iv 1) fun v23 =>
 .cont d C48 (v20::(v23::G38 l22 0)) (Es [[g b 0],[g b 39],[pt f 0],[pt h 0],[pt i 0],[pt a 0],[g l8 0],[v9],[pt f 0,.tuple #[],.tuple #[],.tuple #[],.tuple #[],.tuple #[],.tuple #[],.tuple #[],.tuple #[],.tuple #[],.tuple #[],.tuple #[],.tuple #[],.tuple #[],.tuple #[],.tuple #[],.tuple #[],.tuple #[],.tuple #[],.tuple #[],.tuple #[],.tuple #[],.tuple #[],.tuple #[],.tuple #[],.tuple #[],.tuple #[],.tuple #[],.tuple #[],.tuple #[],.tuple #[],.tuple #[],.tuple #[],.tuple #[],.tuple #[],.tuple #[],.tuple #[],.tuple #[],.tuple #[]],[pt h 0,.slice none 0 0,iv 0,iv 0,iv 0,iv 0,iv 0,.slice none 0 0,.slice none 0 0,.slice none 0 0,.slice none 0 0,.bool false,.bool false,.bool false,iv 0,iv 0,iv 0,iv 0,iv 0,iv 0,iv 0,.slice none 0 0,.slice none 0 0,.slice none 0 0,.slice none 0 0,.bool false,.bool false,.bool false,iv 0,iv 0,.slice none 0 0,.slice none 0 0,.slice none 0 0,.slice none 0 0,iv 0,iv 0,iv 0,iv 0,iv 0],[pt i 0,iv 0,iv 0,iv 0,iv 0,.slice none 0 0],((pt a 0)::G5 c 38)])) (
 pA (g l10 1) (iv 1) fun v24 =>
 .cont d C48 (v20::(v24::G38 l10 2)) (Es [[g b 0],[g b 39],[pt f 0],[pt h 0],[pt i 0],[pt a 0],[g l8 0],[v9],[pt f 0,.tuple #[],.tuple #[],.tuple #[],.tuple #[],.tuple #[],.tuple #[],.tuple #[],.tuple #[],.tuple #[],.tuple #[],.tuple #[],.tuple #[],.tuple #[],.tuple #[],.tuple #[],.tuple #[],.tuple #[],.tuple #[],.tuple #[],.tuple #[],.tuple #[],.tuple #[],.tuple #[],.tuple #[],.tuple #[],.tuple #[],.tuple #[],.tuple #[],.tuple #[],.tuple #[],.tuple #[],.tuple #[],.tuple #[],.tuple #[],.tuple #[],.tuple #[],.tuple #[],.tuple #[]],[pt h 0,.slice none 0 0,iv 0,iv 0,iv 0,iv 0,iv 0,.slice none 0 0,.slice none 0 0,.slice none 0 0,.slice none 0 0,.bool false,.bool false,.bool false,iv 0,iv 0,iv 0,iv 0,iv 0,iv 0,iv 0,.slice none 0 0,.slice none 0 0,.slice none 0 0,.slice none 0 0,.bool false,.bool false,.bool false,iv 0,iv 0,.slice none 0 0,.slice none 0 0,.slice none 0 0,.slice none 0 0,iv 0,iv 0,iv 0,iv 0,iv 0],[pt i 0,iv 0,iv 0,iv 0,iv 0,.slice none 0 0],((pt a 0)::G5 c 38)])))) (
 kN r4 <|
 c1 23 [ag (G5 l13 0)] fun l25 =>
 .br (g l25 0) (
 kN f <|
 kN a <|
 kN a <|
 kN r4 <|
 kN r5 <|
 cS 44 [g b 0,ag (G38 l10 2),g c 38,g c 39,ag (G5 l13 0),.agg #[iv 0,iv 0],g b 39] (.agg 38) fun l26 =>
 kN f <|
 pA (g l10 1) (iv 1) fun v27 =>
 .cont d C48 ((g l10 0)::(v27::G38 l26 0)) (Es [[g b 0],[g b 39],[pt f 0],[pt h 0],[pt i 0],[pt a 0],[g l8 0],[v9],[pt f 0,.tuple #[],.tuple #[],.tuple #[],.tuple #[],.tuple #[],.tuple #[],.tuple #[],.tuple #[],.tuple #[],.tuple #[],.tuple #[],.tuple #[],.tuple #[],.tuple #[],.tuple #[],.tuple #[],.tuple #[],.tuple #[],.tuple #[],.tuple #[],.tuple #[],.tuple #[],.tuple #[],.tuple #[],.tuple #[],.tuple #[],.tuple #[],.tuple #[],.tuple #[],.tuple #[],.tuple #[],.tuple #[],.tuple #[],.tuple #[],.tuple #[],.tuple #[],.tuple #[],.tuple #[]],[pt h 0,.slice none 0 0,iv 0,iv 0,iv 0,iv 0,iv 0,.slice none 0 0,.slice none 0 0,.slice none 0 0,.slice none 0 0,.bool false,.bool false,.bool false,iv 0,iv 0,iv 0,iv 0,iv 0,iv 0,iv 0,.slice none 0 0,.slice none 0 0,.slice none 0 0,.slice none 0 0,.bool false,.bool false,.bool false,iv 0,iv 0,.slice none 0 0,.slice none 0 0,.slice none 0 0,.slice none 0 0,iv 0,iv 0,iv 0,iv 0,iv 0],[pt i 0,iv 0,iv 0,iv 0,iv 0,.slice none 0 0],((pt a 0)::G5 c 38)])) (
 pA (g l10 1) (iv 1) fun v28 =>
 .cont d C48 ((g l10 0)::(v28::G38 l10 2)) (Es [[g b 0],[g b 39],[pt f 0],[pt h 0],[pt i 0],[pt a 0],[g l8 0],[v9],[pt f 0,.tuple #[],.tuple #[],.tuple #[],.tuple #[],.tuple #[],.tuple #[],.tuple #[],.tuple #[],.tuple #[],.tuple #[],.tuple #[],.tuple #[],.tuple #[],.tuple #[],.tuple #[],.tuple #[],.tuple #[],.tuple #[],.tuple #[],.tuple #[],.tuple #[],.tuple #[],.tuple #[],.tuple #[],.tuple #[],.tuple #[],.tuple #[],.tuple #[],.tuple #[],.tuple #[],.tuple #[],.tuple #[],.tuple #[],.tuple #[],.tuple #[],.tuple #[],.tuple #[],.tuple #[]],[pt h 0,.slice none 0 0,iv 0,iv 0,iv 0,iv 0,iv 0,.slice none 0 0,.slice none 0 0,.slice none 0 0,.slice none 0 0,.bool false,.bool false,.bool false,iv 0,iv 0,iv 0,iv 0,iv 0,iv 0,iv 0,.slice none 0 0,.slice none 0 0,.slice none 0 0,.slice none 0 0,.bool false,.bool false,.bool false,iv 0,iv 0,.slice none 0 0,.slice none 0 0,.slice none 0 0,.slice none 0 0,iv 0,iv 0,iv 0,iv 0,iv 0],[pt i 0,iv 0,iv 0,iv 0,iv 0,.slice none 0 0],((pt a 0)::G5 c 38)])))) (
 kN f <|
 kN a <|
 kN h <|
 kN i <|
 kN h <|
 kN i <|
 .ret (.tuple #[ag (G38 l10 2),ag (G5 c 38),iv 0]) [])
def mJ (v : List Value) : Tree :=
 .newbox fun r0 =>
 .newbox fun r1 =>
 .newbox fun r2 =>
 kN r0 <|
 c1 39 [g v 0,ag (G38 v 1)] fun l0 =>
 pN (g l0 0) (iv 0) fun v1 =>
 .br v1 (
 kN r1 <|
 kN r2 <|
 kN r1 <|
 kN r2 <|
 .ret (.tuple #[ag Z0,.agg #[iv 0,iv 0,iv 0,iv 0,.slice none 0 0],iv 8]) []) (
 kN r0 <|
 cS 40 [ag (G38 v 1)] (.tup [some 38,some 5,none]) fun l2 =>
 .newbox fun r3 =>
 kN r0 <|
 kN r3 <|
 pN (g l2 43) (iv 0) fun v3 =>
 .br v3 (
 kN r1 <|
 kN r2 <|
 kN r1 <|
 kN r2 <|
 .ret (.tuple #[ag Z0,.agg #[iv 0,iv 0,iv 0,iv 0,.slice none 0 0],g l2 43]) []) (
 kN r3 <|
 pL (g l2 41) (iv 0) fun v4 =>
 .br v4 (
 kN r3 <|
 cS 41 [g v 0,.agg #[iv 0,g l2 40,iv 0,iv 0,iv 0,iv 0,iv 0,iv 0,iv 0,.bool false,.bool false,.bool false]] (.agg 14) fun l5 =>
 pE (g l5 1) (iv 2) fun v6 =>
 .br v6 (
 kN r0 <|
 kN r3 <|
 cS 42 [ag (G38 l2 0),g l2 39,iv 2] (.tup [some 38,none]) fun l7 =>
 kN r0 <|
 fD r3 v l2 48 l7 r0 r1 r2) (
 fD r3 v l2 40 l2 r0 r1 r2)) (
 fD r3 v l2 40 l2 r0 r1 r2)))
theorem nJ : bI jy Tryz.f15 mJ := bJ Tryz.func15 [(76, [5, 6, 7, 8])] [(10, .inv [11, 57] [0, 2, 4, 6, 7, 9, 55, 56] [(4, [0, 1, 2, 3, 4, 5, 6, 7, 8, 9, 10, 11, 12, 13, 14, 15, 16, 17, 18, 19, 20, 21, 22, 23, 24, 25, 26, 27, 28, 29, 30, 31, 32, 33, 34, 35, 36, 37]), (6, []), (7, []), (9, [])])] [] fun _ => by kernel_rfl
abbrev gZ : FuncId := 18
def gV (v : List Value) : Tree :=
 .newbox fun r0 =>
 .newbox fun r1 =>
 kN r0 <|
 kN r1 <|
 pN (g v 0) (g v 5) fun v0 =>
 kN r0 <|
 kV v0 <|
 kN r1 <|
 kV v0 <|
 kV v0 <|
 kV v0 <|
 pN (g v 1) (g v 6) fun v1 =>
 kV v0 <|
 pK v0 (.bool true) v1 fun v2 =>
 kN r0 <|
 kV v2 <|
 kN r1 <|
 kV v2 <|
 kV v2 <|
 kV v2 <|
 pN (g v 2) (g v 7) fun v3 =>
 kV v2 <|
 pK v2 (.bool true) v3 fun v4 =>
 kN r0 <|
 kV v4 <|
 kN r1 <|
 kV v4 <|
 kV v4 <|
 kV v4 <|
 pN (g v 3) (g v 8) fun v5 =>
 kV v4 <|
 pK v4 (.bool true) v5 fun v6 =>
 kN r0 <|
 kV v6 <|
 kV v6 <|
 pZ (g v 4) fun v7 =>
 kN r1 <|
 kV v6 <|
 kV v6 <|
 pZ (g v 9) fun v8 =>
 kV v6 <|
 kV v6 <|
 pN v7 v8 fun v9 =>
 kV v6 <|
 pK v6 (.bool true) v9 fun v10 =>
 .br v10 (
 .ret (.bool false) []) (
 .loop 39 4 [iv 0] fun C39 l11 =>
 kN r0 <|
 pZ (g v 4) fun v12 =>
 pL (g l11 0) v12 fun v13 =>
 .br v13 (
 kN r0 <|
 pI 2 (g v 4) (g l11 0) fun v14 =>
 .load [] v14 2 fun l15 =>
 kN r1 <|
 pI 2 (g v 9) (g l11 0) fun v16 =>
 .load [] v16 2 fun l17 =>
 .raw [] (.eqv .neq 41 false) [.agg #[g l15 0,g l15 1],.agg #[g l17 0,g l17 1]] fun v18 =>
 .br v18 (
 .ret (.bool false) []) (
 pA (g l11 0) (iv 1) fun v19 =>
 .cont 39 C39 [v19] (Es [[pt r0 0],[pt r1 0],((pt r0 0)::G5 v 0),((pt r1 0)::G5 v 5)]))) (
 .ret (.bool true) []))
theorem kR : bI gZ Tryz.f18 gV := bJ Tryz.func18 [(76, [5, 6, 7, 8])] [(4, .inv [5] [2, 3] [(2, []), (3, [])])] [] fun _ => by kernel_rfl
abbrev kM : FuncId := 22
def fU (a : Nat) : Tree :=
 kN a <|
 kN a <|
 .ret (.tuple #[ag Z0,iv 2]) []
def kF (v : List Value) : Tree :=
 .newbox fun r0 =>
 .newbox fun r1 =>
 .newbox fun r2 =>
 kN r2 <|
 pL (g v 0) (iv 1) fun v0 =>
 kV v0 <|
 pG (g v 0) (iv 9999) fun v1 =>
 kV v0 <|
 pK v0 (.bool true) v1 fun v2 =>
 kN r0 <|
 kV v2 <|
 kV v2 <|
 pZ (g v 1) fun v3 =>
 kN r0 <|
 kV v2 <|
 kV v2 <|
 pZ (g v 2) fun v4 =>
 kV v2 <|
 kV v2 <|
 pA v3 v4 fun v5 =>
 kV v2 <|
 pG v5 (iv 500) fun v6 =>
 kV v2 <|
 pK v2 (.bool true) v6 fun v7 =>
 .br v7 (
 fU r1) (
 kN r2 <|
 .loop 32 9 [iv 0,.slice none 0 0,.slice none 0 0,.slice none 0 0] fun C32 l8 =>
 kN r0 <|
 pZ (g v 1) fun v9 =>
 pL (g l8 0) v9 fun v10 =>
 .br v10 (
 kN r0 <|
 pI 1 (g v 1) (g l8 0) fun v11 =>
 .load [] v11 1 fun l12 =>
 pL (g l12 0) (iv 0) fun v13 =>
 kV v13 <|
 kN r0 <|
 kV v13 <|
 kV v13 <|
 kV v13 <|
 .pure [(v13,false)] (.idx 1) [g v 1,g l8 0] fun v14 =>
 kV v13 <|
 .load [(v13,false)] v14 1 fun l15 =>
 kV v13 <|
 pG (g l15 0) (iv 399) fun v16 =>
 kV v13 <|
 pK v13 (.bool true) v16 fun v17 =>
 .br v17 (
 fU r1) (
 kN r2 <|
 pZ (g l8 1) fun v18 =>
 pA v18 (iv 1) fun v19 =>
 kN r2 <|
 kN r0 <|
 pI 1 (g v 1) (g l8 0) fun v20 =>
 .load [] v20 1 fun l21 =>
 .newbox fun r3 =>
 .prim (.bi .append #[23,23] 23) [g l8 1,.slice (some ⟨r3,0,none⟩) 1 1] [⟨r3,82,[v19,g l21 0,iv 0,iv 0,iv 0,iv 0,iv 0,iv 0,iv 0,.bool false,.bool false,.bool false]⟩] [] .one fun l22 _ =>
 kN r2 <|
 kN r2 <|
 .newbox fun r4 =>
 .prim (.bi .append #[26,26] 26) [g l8 2,.slice (some ⟨r4,0,none⟩) 1 1] [⟨r4,3,[v19]⟩] [] .one fun l23 _ =>
 kN r2 <|
 pA (g l8 0) (iv 1) fun v24 =>
 .cont 32 C32 [v24,g l22 0,g l23 0,g l8 3] (Es [[g v 0],[pt r0 0],[pt r1 0],[pt r2 0],[iv 0],[pt r0 0,g v 1,g v 2],[pt r1 0,.slice none 0 0,iv 0,iv 0,iv 0,iv 0,iv 0,.slice none 0 0,.slice none 0 0,.slice none 0 0,.slice none 0 0,.bool false,.bool false,.bool false,iv 0,iv 0,iv 0,iv 0,iv 0,iv 0,iv 0,.slice none 0 0,.slice none 0 0,.slice none 0 0,.slice none 0 0,.bool false,.bool false,.bool false,iv 0,iv 0,.slice none 0 0,.slice none 0 0,.slice none 0 0,.slice none 0 0,iv 0,iv 0,iv 0,iv 0,iv 0],[pt r2 0,.tuple #[],g v 0,iv 0,iv 0,iv 0,iv 0,.tuple #[],.slice none 0 0,.slice none 0 0,.slice none 0 0,.bool false,.bool false,.bool false,iv 0,iv 0,iv 0,iv 0,iv 0,iv 0,iv 0,.tuple #[],.slice none 0 0,.slice none 0 0,.slice none 0 0,.bool false,.bool false,.bool false,iv 0,iv 0,.slice none 0 0,.slice none 0 0,.slice none 0 0,.slice none 0 0,iv 0,iv 0,iv 0,iv (-1),iv 0]]))) (
 kN r2 <|
 .loop 51 9 [iv 0,g l8 1,g l8 2,g l8 3] fun C51 l25 =>
 kN r0 <|
 pZ (g v 2) fun v26 =>
 pL (g l25 0) v26 fun v27 =>
 .br v27 (
 kN r0 <|
 pI 1 (g v 2) (g l25 0) fun v28 =>
 .load [] v28 1 fun l29 =>
 pL (g l29 0) (iv 0) fun v30 =>
 kV v30 <|
 kN r0 <|
 kV v30 <|
 kV v30 <|
 kV v30 <|
 .pure [(v30,false)] (.idx 1) [g v 2,g l25 0] fun v31 =>
 kV v30 <|
 .load [(v30,false)] v31 1 fun l32 =>
 kV v30 <|
 pG (g l32 0) (iv 399) fun v33 =>
 kV v30 <|
 pK v30 (.bool true) v33 fun v34 =>
 .br v34 (
 fU r1) (
 kN r2 <|
 pZ (g l25 1) fun v35 =>
 pA v35 (iv 1) fun v36 =>
 kN r2 <|
 kN r0 <|
 pI 1 (g v 2) (g l25 0) fun v37 =>
 .load [] v37 1 fun l38 =>
 .newbox fun r5 =>
 .prim (.bi .append #[23,23] 23) [g l25 1,.slice (some ⟨r5,0,none⟩) 1 1] [⟨r5,82,[v36,g l38 0,iv 1,iv 0,iv 0,iv 0,iv 0,iv 0,iv 0,.bool false,.bool false,.bool false]⟩] [] .one fun l39 _ =>
 kN r2 <|
 kN r2 <|
 .newbox fun r6 =>
 .prim (.bi .append #[26,26] 26) [g l25 3,.slice (some ⟨r6,0,none⟩) 1 1] [⟨r6,3,[v36]⟩] [] .one fun l40 _ =>
 kN r2 <|
 pA (g l25 0) (iv 1) fun v41 =>
 .cont 51 C51 [v41,g l39 0,g l25 2,g l40 0] (Es [[g v 0],[pt r0 0],[pt r1 0],[pt r2 0],[iv 1],[pt r0 0,g v 1,g v 2],[pt r1 0,.slice none 0 0,iv 0,iv 0,iv 0,iv 0,iv 0,.slice none 0 0,.slice none 0 0,.slice none 0 0,.slice none 0 0,.bool false,.bool false,.bool false,iv 0,iv 0,iv 0,iv 0,iv 0,iv 0,iv 0,.slice none 0 0,.slice none 0 0,.slice none 0 0,.slice none 0 0,.bool false,.bool false,.bool false,iv 0,iv 0,.slice none 0 0,.slice none 0 0,.slice none 0 0,.slice none 0 0,iv 0,iv 0,iv 0,iv 0,iv 0],[pt r2 0,.tuple #[],g v 0,iv 0,iv 0,iv 0,iv 0,.tuple #[],.slice none 0 0,.slice none 0 0,.slice none 0 0,.bool false,.bool false,.bool false,iv 0,iv 0,g v 0,iv 0,iv 0,iv 0,iv 0,.tuple #[],.slice none 0 0,.slice none 0 0,.slice none 0 0,.bool false,.bool false,.bool false,iv 0,iv 0,.slice none 0 0,.slice none 0 0,.slice none 0 0,.slice none 0 0,iv 0,iv 0,iv 0,iv (-1),iv 0]]))) (
 kN r2 <|
 kN r1 <|
 kN r1 <|
 .ret (.tuple #[.agg #[g l25 1,g v 0,iv 0,iv 0,iv 0,iv 0,g l25 2,.slice none 0 0,.slice none 0 0,.slice none 0 0,.bool false,.bool false,.bool false,iv 0,iv 0,g v 0,iv 0,iv 0,iv 0,iv 0,g l25 3,.slice none 0 0,.slice none 0 0,.slice none 0 0,.bool false,.bool false,.bool false,iv 0,iv 0,.slice none 0 0,.slice none 0 0,.slice none 0 0,.slice none 0 0,iv 0,iv 0,iv 0,iv (-1),iv 0],iv 0]) [])))
theorem pB : bI kM Tryz.f22 kF := bJ Tryz.func22 [(76, [5, 6, 7, 8])] [(5, .unroll 3), (9, .inv [8] [0, 3, 4, 6, 7] [(3, []), (4, []), (6, [0, 6, 20])])] [] fun _ => by kernel_rfl
abbrev lh : FuncId := 23
def qi (v : List Value) : Tree :=
 .newbox fun r0 =>
 kN r0 <|
 c1 53 [g v 0] fun l0 =>
 .raw [] (.eqv .neq 113 true) [g l0 0,.nilIface] fun v1 =>
 .br v1 (
 kN r0 <|
 .callm false "zeitnot/effect.fits" (g l0 0) [ag (G5 v 0)] [] [] .one fun l2 _ =>
 .ret (g l2 0) []) (
 .ret (.bool false) [])
theorem u9 : bI lh Tryz.f23 qi := bJ Tryz.func23 [(76, [5, 6, 7, 8])] [] [] fun _ => by kernel_rfl
abbrev gq : FuncId := 24
def jX (v : List Value) : Tree :=
 .newbox fun r0 =>
 .newbox fun r1 =>
 kN r0 <|
 kN r0 <|
 c1 55 [ag (G38 v 0),g v 38] fun l0 =>
 pI 12 (g v 0) (g l0 0) fun v1 =>
 .load [] v1 12 fun l2 =>
 cS 54 [ag (G12 l2 0),g v 39] (.agg 12) fun l3 =>
 .newbox fun r2 =>
 kN r2 <|
 kN r0 <|
 kN r2 <|
 kN r2 <|
 cS 58 [ag (G38 v 0),g v 38] (.agg 38) fun l4 =>
 cS 57 [ag (G38 l4 0),ag (G12 l3 0)] (.agg 38) fun l5 =>
 cS 56 [ag (G38 l5 0),ag (G12 l3 0),g v 39] (.agg 38) fun l6 =>
 kN r1 <|
 kN r1 <|
 .ret (ag (G38 l6 0)) []
theorem nE : bI gq Tryz.f24 jX := bJ Tryz.func24 [(76, [5, 6, 7, 8])] [] [] fun _ => by kernel_rfl
abbrev kh : FuncId := 25
def jY (v : List Value) : Tree :=
 pZ (g v 0) fun v0 =>
 pZ (g v 1) fun v1 =>
 pN v0 v1 fun v2 =>
 .br v2 (
 .ret (.bool false) []) (
 .loop 7 4 [iv 0] fun C7 l3 =>
 pZ (g v 0) fun v4 =>
 pL (g l3 0) v4 fun v5 =>
 .br v5 (
 pI 1 (g v 0) (g l3 0) fun v6 =>
 .load [] v6 1 fun l7 =>
 pI 1 (g v 1) (g l3 0) fun v8 =>
 .load [] v8 1 fun l9 =>
 pN (g l7 0) (g l9 0) fun v10 =>
 .br v10 (
 .ret (.bool false) []) (
 pA (g l3 0) (iv 1) fun v11 =>
 .cont 7 C7 [v11] (Es [[g v 0],[g v 1]]))) (
 .ret (.bool true) []))
theorem nF : bI kh Tryz.f25 jY := bJ Tryz.func25 [(76, [5, 6, 7, 8])] [(4, .inv [5] [0, 1] [])] [] fun _ => by kernel_rfl
abbrev na : FuncId := 26
def gW (a : Nat) : Tree :=
 kN a <|
 kN a <|
 .ret (.tuple #[ag Z0,iv 2]) []
def mT (v : List Value) : Tree :=
 .newbox fun r0 =>
 .newbox fun r1 =>
 .newbox fun r2 =>
 .newbox fun r3 =>
 pL (g v 39) (iv 0) fun v0 =>
 kV v0 <|
 pG (g v 39) (iv 1) fun v1 =>
 kV v0 <|
 pK v0 (.bool true) v1 fun v2 =>
 .br v2 (
 gW r3) (
 kN r1 <|
 c1 23 [ag (G5 v 41)] fun l3 =>
 pO (g l3 0) fun v4 =>
 .br v4 (
 gW r3) (
 kN r0 <|
 c1 59 [ag (G38 v 1)] fun l5 =>
 pO (g l5 0) fun v6 =>
 .br v6 (
 gW r3) (
 kN r0 <|
 kN r1 <|
 kN r2 <|
 cS 60 [ag (G38 v 1)] (.agg 38) fun l7 =>
 cS 44 [g v 0,ag (G38 l7 0),g v 39,g v 40,ag (G5 v 41),.agg #[g v 46,g v 47],g v 48] (.agg 38) fun l8 =>
 kN r3 <|
 kN r3 <|
 .ret (.tuple #[ag (G38 l8 0),iv 0]) [])))
theorem rq : bI na Tryz.f26 mT := bJ Tryz.func26 [(76, [5, 6, 7, 8])] [] [] fun _ => by kernel_rfl
abbrev kg : FuncId := 28
def iG (a : Value) (b : List Value) (c : Nat) (d : List Value → Heap → Own → Prop) (e f : Nat) (h : List Value) : Tree :=
 .br a (
 .ret (.bool false) []) (
 pA (g b 0) (iv 1) fun v31 =>
 .cont c d [v31] (Es [[pt e 0],[pt f 0],((pt e 0)::G38 h 0),((pt f 0)::G38 h 38)]))
def jW (v : List Value) : Tree :=
 .newbox fun r0 =>
 .newbox fun r1 =>
 kN r0 <|
 pZ (g v 0) fun v0 =>
 kN r1 <|
 pZ (g v 38) fun v1 =>
 pN v0 v1 fun v2 =>
 .br v2 (
 .ret (.bool false) []) (
 kN r0 <|
 kN r1 <|
 c1 61 [g v 29,g v 67] fun l3 =>
 pO (g l3 0) fun v4 =>
 .br v4 (
 .ret (.bool false) []) (
 kN r0 <|
 kN r1 <|
 c1 61 [g v 30,g v 68] fun l5 =>
 pO (g l5 0) fun v6 =>
 .br v6 (
 .ret (.bool false) []) (
 kN r0 <|
 kN r1 <|
 c1 25 [g v 31,g v 69] fun l7 =>
 pO (g l7 0) fun v8 =>
 kN r0 <|
 kV v8 <|
 kV v8 <|
 pZ (g v 32) fun v9 =>
 kN r1 <|
 kV v8 <|
 kV v8 <|
 pZ (g v 70) fun v10 =>
 kV v8 <|
 kV v8 <|
 pN v9 v10 fun v11 =>
 kV v8 <|
 pK v8 (.bool true) v11 fun v12 =>
 kN r0 <|
 kV v12 <|
 kN r1 <|
 kV v12 <|
 kV v12 <|
 kV v12 <|
 pN (g v 33) (g v 71) fun v13 =>
 kV v12 <|
 pK v12 (.bool true) v13 fun v14 =>
 kN r0 <|
 kV v14 <|
 kN r1 <|
 kV v14 <|
 kV v14 <|
 kV v14 <|
 pN (g v 34) (g v 72) fun v15 =>
 kV v14 <|
 pK v14 (.bool true) v15 fun v16 =>
 kN r0 <|
 kV v16 <|
 kN r1 <|
 kV v16 <|
 kV v16 <|
 kV v16 <|
 pN (g v 35) (g v 73) fun v17 =>
 kV v16 <|
 pK v16 (.bool true) v17 fun v18 =>
 kN r0 <|
 kV v18 <|
 kN r1 <|
 kV v18 <|
 kV v18 <|
 kV v18 <|
 pN (g v 36) (g v 74) fun v19 =>
 kV v18 <|
 pK v18 (.bool true) v19 fun v20 =>
 kN r0 <|
 kV v20 <|
 kN r1 <|
 kV v20 <|
 kV v20 <|
 kV v20 <|
 pN (g v 37) (g v 75) fun v21 =>
 kV v20 <|
 pK v20 (.bool true) v21 fun v22 =>
 .br v22 (
 .ret (.bool false) []) (
 .loop 79 4 [iv 0] fun C79 l23 =>
 kN r0 <|
 pZ (g v 0) fun v24 =>
 pL (g l23 0) v24 fun v25 =>
 .br v25 (
 kN r0 <|
 pI 12 (g v 0) (g l23 0) fun v26 =>
 .load [] v26 12 fun l27 =>
 kN r1 <|
 pI 12 (g v 38) (g l23 0) fun v28 =>
 .load [] v28 12 fun l29 =>
 .raw [] (.eqv .neq 82 false) [ag (G12 l27 0),ag (G12 l29 0)] fun v30 =>
 iG v30 l23 79 C79 r0 r1 v) (
 .loop 86 9 [iv 0] fun C86 l32 =>
 kN r0 <|
 pZ (g v 32) fun v33 =>
 pL (g l32 0) v33 fun v34 =>
 .br v34 (
 kN r0 <|
 pI 2 (g v 32) (g l32 0) fun v35 =>
 .load [] v35 2 fun l36 =>
 kN r1 <|
 pI 2 (g v 70) (g l32 0) fun v37 =>
 .load [] v37 2 fun l38 =>
 .raw [] (.eqv .neq 122 false) [.agg #[g l36 0,g l36 1],.agg #[g l38 0,g l38 1]] fun v39 =>
 iG v39 l32 86 C86 r0 r1 v) (
 kN r0 <|
 kN r1 <|
 .newbox fun r2 =>
 .newbox fun r3 =>
 kN r2 <|
 kN r3 <|
 kN r2 <|
 kN r3 <|
 pN (g v 1) (g v 39) fun v41 =>
 kN r2 <|
 kV v41 <|
 kN r3 <|
 kV v41 <|
 kV v41 <|
 kV v41 <|
 .raw [(v41,false)] (.eqv .neq 25 false) [ag (G4 v 2),ag (G4 v 40)] fun v42 =>
 kV v41 <|
 pK v41 (.bool true) v42 fun v43 =>
 kN r2 <|
 kV v43 <|
 kN r3 <|
 kV v43 <|
 kV v43 <|
 kV v43 <|
 .pure [] (.bin .neq .bool) [g v 10,g v 48] fun v44 =>
 kV v43 <|
 pK v43 (.bool true) v44 fun v45 =>
 kN r2 <|
 kV v45 <|
 kN r3 <|
 kV v45 <|
 kV v45 <|
 kV v45 <|
 .pure [] (.bin .neq .bool) [g v 11,g v 49] fun v46 =>
 kV v45 <|
 pK v45 (.bool true) v46 fun v47 =>
 kN r2 <|
 kV v47 <|
 kN r3 <|
 kV v47 <|
 kV v47 <|
 kV v47 <|
 .pure [] (.bin .neq .bool) [g v 12,g v 50] fun v48 =>
 kV v47 <|
 pK v47 (.bool true) v48 fun v49 =>
 kN r2 <|
 kV v49 <|
 kN r3 <|
 kV v49 <|
 kV v49 <|
 kV v49 <|
 pN (g v 13) (g v 51) fun v50 =>
 kV v49 <|
 pK v49 (.bool true) v50 fun v51 =>
 kN r2 <|
 kV v51 <|
 kN r3 <|
 kV v51 <|
 kV v51 <|
 kV v51 <|
 pN (g v 14) (g v 52) fun v52 =>
 kV v51 <|
 pK v51 (.bool true) v52 fun v53 =>
 .br v53 (
 .ret (.bool false) []) (
 kN r2 <|
 kN r3 <|
 cS 29 [ag (G14 v 1)] (.agg 4) fun l54 =>
 cS 29 [ag (G14 v 39)] (.agg 4) fun l55 =>
 .newbox fun r4 =>
 .newbox fun r5 =>
 kN r4 <|
 kN r5 <|
 kN r4 <|
 kN r5 <|
 c1 25 [g l54 0,g l55 0] fun l56 =>
 pO (g l56 0) fun v57 =>
 .br v57 (
 .ret (.bool false) []) (
 kN r4 <|
 kN r5 <|
 c1 25 [g l54 1,g l55 1] fun l58 =>
 pO (g l58 0) fun v59 =>
 .br v59 (
 .ret (.bool false) []) (
 kN r4 <|
 kN r5 <|
 c1 25 [g l54 2,g l55 2] fun l60 =>
 pO (g l60 0) fun v61 =>
 .br v61 (
 .ret (.bool false) []) (
 kN r4 <|
 kN r5 <|
 c1 25 [g l54 3,g l55 3] fun l62 =>
 pO (g l62 0) fun v63 =>
 .br v63 (
 .ret (.bool false) []) (
 kN r0 <|
 kN r1 <|
 .newbox fun r6 =>
 .newbox fun r7 =>
 kN r6 <|
 kN r7 <|
 kN r6 <|
 kN r7 <|
 pN (g v 15) (g v 53) fun v64 =>
 kN r6 <|
 kV v64 <|
 kN r7 <|
 kV v64 <|
 kV v64 <|
 kV v64 <|
 .raw [(v64,false)] (.eqv .neq 25 false) [ag (G4 v 16),ag (G4 v 54)] fun v65 =>
 kV v64 <|
 pK v64 (.bool true) v65 fun v66 =>
 kN r6 <|
 kV v66 <|
 kN r7 <|
 kV v66 <|
 kV v66 <|
 kV v66 <|
 .pure [] (.bin .neq .bool) [g v 24,g v 62] fun v67 =>
 kV v66 <|
 pK v66 (.bool true) v67 fun v68 =>
 kN r6 <|
 kV v68 <|
 kN r7 <|
 kV v68 <|
 kV v68 <|
 kV v68 <|
 .pure [] (.bin .neq .bool) [g v 25,g v 63] fun v69 =>
 kV v68 <|
 pK v68 (.bool true) v69 fun v70 =>
 kN r6 <|
 kV v70 <|
 kN r7 <|
 kV v70 <|
 kV v70 <|
 kV v70 <|
 .pure [] (.bin .neq .bool) [g v 26,g v 64] fun v71 =>
 kV v70 <|
 pK v70 (.bool true) v71 fun v72 =>
 kN r6 <|
 kV v72 <|
 kN r7 <|
 kV v72 <|
 kV v72 <|
 kV v72 <|
 pN (g v 27) (g v 65) fun v73 =>
 kV v72 <|
 pK v72 (.bool true) v73 fun v74 =>
 kN r6 <|
 kV v74 <|
 kN r7 <|
 kV v74 <|
 kV v74 <|
 kV v74 <|
 pN (g v 28) (g v 66) fun v75 =>
 kV v74 <|
 pK v74 (.bool true) v75 fun v76 =>
 .br v76 (
 .ret (.bool false) []) (
 kN r6 <|
 kN r7 <|
 cS 29 [ag (G14 v 15)] (.agg 4) fun l77 =>
 cS 29 [ag (G14 v 53)] (.agg 4) fun l78 =>
 .newbox fun r8 =>
 .newbox fun r9 =>
 kN r8 <|
 kN r9 <|
 kN r8 <|
 kN r9 <|
 c1 25 [g l77 0,g l78 0] fun l79 =>
 pO (g l79 0) fun v80 =>
 .br v80 (
 .ret (.bool false) []) (
 kN r8 <|
 kN r9 <|
 c1 25 [g l77 1,g l78 1] fun l81 =>
 pO (g l81 0) fun v82 =>
 .br v82 (
 .ret (.bool false) []) (
 kN r8 <|
 kN r9 <|
 c1 25 [g l77 2,g l78 2] fun l83 =>
 pO (g l83 0) fun v84 =>
 .br v84 (
 .ret (.bool false) []) (
 kN r8 <|
 kN r9 <|
 c1 25 [g l77 3,g l78 3] fun l85 =>
 pO (g l85 0) fun v86 =>
 .br v86 (
 .ret (.bool false) []) (
 .ret (.bool true) []))))))))))))))))
theorem nD : bI kg Tryz.f28 jW := bJ Tryz.func28 [(76, [5, 6, 7, 8])] [(14, .unroll 3), (21, .unroll 5), (4, .inv [5] [2, 3] [(2, []), (3, [])]), (9, .inv [6] [2, 3] [(2, []), (3, [])])] [] fun _ => by kernel_rfl
abbrev jg : FuncId := 29
def iT (v : List Value) : Tree :=
 .newbox fun r0 =>
 .newbox fun r1 =>
 kN r0 <|
 kN r0 <|
 kN r0 <|
 kN r0 <|
 kN r1 <|
 kN r1 <|
 .ret (ag (G4 v 5)) []
theorem nj : bI jg Tryz.f29 iT := bJ Tryz.func29 [(76, [5, 6, 7, 8])] [] [] fun _ => by kernel_rfl
abbrev jj : FuncId := 30
def iZ (v : List Value) : Tree :=
 .newbox fun r0 =>
 .newbox fun r1 =>
 .newbox fun r2 =>
 kN r0 <|
 kN r1 <|
 c1 32 [] fun l0 =>
 cS 31 [] (.agg 38) fun l1 =>
 cS 26 [g l0 0,ag (G38 l1 0),g v 0,g v 1,ag (G5 v 2),.agg #[g v 7,g v 8],g v 9] (.tup [some 38,none]) fun l2 =>
 .newbox fun r3 =>
 kN r3 <|
 kN r3 <|
 pE (g l2 38) (iv 0) fun v3 =>
 kN r3 <|
 kV v3 <|
 kV v3 <|
 pZ (g l2 0) fun v4 =>
 kV v3 <|
 pH v4 (iv 3) fun v5 =>
 kV v3 <|
 pK v3 v5 (.bool false) fun v6 =>
 kN r2 <|
 kN r2 <|
 .ret (.tuple #[ag (G38 l2 0),v6]) []
theorem nn : bI jj Tryz.f30 iZ := bJ Tryz.func30 [(76, [5, 6, 7, 8])] [] [] fun _ => by kernel_rfl
abbrev ij : FuncId := 31
def ic (v : List Value) : Tree :=
 .newbox fun r0 =>
 .newbox fun r1 =>
 .newbox fun r2 =>
 .call false 22 [iv 20,.agg #[.slice (some ⟨r1,0,none⟩) 2 2,.slice (some ⟨r2,0,none⟩) 1 1]] [⟨r1,3,[iv 0,iv 0]⟩,⟨r2,3,[iv 0]⟩] [] (.tup [some 38,none]) fun l0 _ =>
 .newbox fun r3 =>
 kN r3 <|
 kN r3 <|
 cS 24 [ag (G38 l0 0),iv 1,iv 2] (.agg 38) fun l1 =>
 cS 24 [ag (G38 l1 0),iv 2,iv 1] (.agg 38) fun l2 =>
 cS 24 [ag (G38 l2 0),iv 3,iv 2] (.agg 38) fun l3 =>
 kN r0 <|
 kN r0 <|
 .ret (ag (G38 l3 0)) []
theorem ln : bI ij Tryz.f31 ic := bJ Tryz.func31 [(76, [5, 6, 7, 8])] [] [] fun _ => by kernel_rfl
abbrev kj : FuncId := 32
def kb (v : List Value) : Tree :=
 .newbox fun r0 =>
 .ret (.slice (some ⟨r0,0,none⟩) 1 1) [⟨r0,75,Z1⟩]
theorem nI : bI kj Tryz.f32 kb := bJ Tryz.func32 [(76, [5, 6, 7, 8])] [] [] fun _ => by kernel_rfl
end Go.Proofs.YtdhobpmnkfmcfaaGreatDoor
