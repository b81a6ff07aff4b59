/- The trees of the functions of this seat: printed by a tool of mine; each by the kernel's reckoning equal to the evaluator's. -/
import Derived.Test.YtdhobpmnkfmcfaaGreatDoorBT3
namespace Go.Proofs.YtdhobpmnkfmcfaaGreatDoor
open Go Go.Sx
set_option maxRecDepth 100000
abbrev iH : FuncId := 38
def iE (v : List Value) : Tree :=
 .loop 3 3 [.slice none 0 0,iv 0] fun C3 l0 =>
 pZ (g v 0) fun v1 =>
 pL (g l0 1) v1 fun v2 =>
 .br v2 (
 pI 5 (g v 0) (g l0 1) fun v3 =>
 .load [] v3 5 fun l4 =>
 .newbox fun r0 =>
 kN r0 <|
 kN r0 <|
 .prim (.bi .append #[51,51] 51) [.slice none 0 0,g l4 4] [] [] .one fun l5 _ =>
 kN r0 <|
 kN r0 <|
 .newbox fun r1 =>
 .prim (.bi .append #[30,30] 30) [g l0 0,.slice (some ⟨r1,0,none⟩) 1 1] [⟨r1,56,(G4 l4 0 ++ [g l5 0])⟩] [] .one fun l6 _ =>
 pA (g l0 1) (iv 1) fun v7 =>
 .cont 3 C3 [g l6 0,v7] (Es [[g v 0]])) (
 .ret (g l0 0) [])
theorem mf : bI iH Tryz.f38 iE := bJ Tryz.func38 [(76, [5, 6, 7, 8])] [(3, .inv [3, 4] [0] [])] [] fun _ => by kernel_rfl
abbrev oQ : FuncId := 39
def oy (v : List Value) : Tree :=
 .newbox fun r0 =>
 kN r0 <|
 pZ (g v 30) fun v0 =>
 pE v0 (iv 0) fun v1 =>
 .br v1 (
 .ret (iv 0) []) (
 kN r0 <|
 c1 59 [ag (G38 v 1)] fun l2 =>
 pO (g l2 0) fun v3 =>
 kN r0 <|
 kV v3 <|
 kV v3 <|
 pS v0 (iv 1) fun v4 =>
 kV v3 <|
 kV v3 <|
 .pure [(v3,false)] (.idx 5) [g v 30,v4] fun v5 =>
 .chk (.ptr [(v3,false)] v5) <|
 kV v3 <|
 kV v3 <|
 .load [(v3,false)] (bz v5 3) 1 fun l6 =>
 kV v3 <|
 pN (g l6 0) (iv (-1)) fun v7 =>
 kV v3 <|
 pK v3 (.bool true) v7 fun v8 =>
 .br v8 (
 .ret (iv 0) []) (
 kN r0 <|
 pS v0 (iv 1) fun v9 =>
 pI 5 (g v 30) v9 fun v10 =>
 .load [] v10 5 fun l11 =>
 .newbox fun r1 =>
 kN r1 <|
 kN r1 <|
 c1 43 [g v 0,ag (G5 l11 0)] fun l12 =>
 c1 69 [g l12 0] fun l13 =>
 kN r1 <|
 pZ (g l11 4) fun v14 =>
 pZ (g l13 0) fun v15 =>
 pL v14 v15 fun v16 =>
 kV v16 <|
 pL v14 (iv 4) fun v17 =>
 kV v16 <|
 pK v16 v17 (.bool false) fun v18 =>
 .br v18 (
 pI 1 (g l13 0) v14 fun v19 =>
 .load [] v19 1 fun l20 =>
 .ret (g l20 0) []) (
 .ret (iv 0) [])))
theorem pR : bI oQ Tryz.f39 oy := bJ Tryz.func39 [(76, [5, 6, 7, 8])] [] [] fun _ => by kernel_rfl
abbrev mM : FuncId := 40
def sA (a b : Nat) (c : Int) : Tree :=
 kN a <|
 kN b <|
 kN a <|
 kN b <|
 .ret (.tuple #[ag Z0,.agg #[iv 0,iv 0,iv 0,iv 0,.slice none 0 0],iv c]) []
def qW (v : List Value) : Tree :=
 .newbox fun r0 =>
 .newbox fun r1 =>
 .newbox fun r2 =>
 kN r0 <|
 c1 59 [ag (G38 v 0)] fun l0 =>
 pO (g l0 0) fun v1 =>
 .br v1 (
 sA r1 r2 2) (
 kN r0 <|
 pZ (g v 29) fun v2 =>
 pE v2 (iv 0) fun v3 =>
 .br v3 (
 sA r1 r2 9) (
 kN r0 <|
 cS 60 [ag (G38 v 0)] (.agg 38) fun l4 =>
 .newbox fun r3 =>
 kN r3 <|
 kN r3 <|
 pS v2 (iv 1) fun v5 =>
 pI 5 (g l4 29) v5 fun v6 =>
 .load [] v6 5 fun l7 =>
 .newbox fun r4 =>
 kN r4 <|
 kN r4 <|
 pE (g l7 3) (iv (-1)) fun v8 =>
 .br v8 (
 kN r0 <|
 kN r4 <|
 cS 42 [ag (G38 v 0),g l7 1,iv 3] (.tup [some 38,none]) fun l9 =>
 kN r3 <|
 kN r3 <|
 kN r4 <|
 kN r1 <|
 kN r2 <|
 kN r1 <|
 kN r2 <|
 .ret (.tuple #[ag (G38 l9 0),ag (G5 l7 0),iv 0]) []) (
 kN r3 <|
 pS v2 (iv 1) fun v10 =>
 .pure [] (.slc 5 false true false) [g l4 29,v10] fun v11 =>
 kN r3 <|
 kN r3 <|
 kN r4 <|
 kN r1 <|
 kN r2 <|
 kN r1 <|
 kN r2 <|
 .ret (.tuple #[ag (G29 l4 0 ++ (v11::G8 l4 30)),ag (G5 l7 0),iv 0]) [])))
theorem rm : bI mM Tryz.f40 qW := bJ Tryz.func40 [(76, [5, 6, 7, 8])] [] [] fun _ => by kernel_rfl
abbrev jA : FuncId := 41
def mL (v : List Value) : Tree :=
 .newbox fun r0 =>
 .newbox fun r1 =>
 kN r0 <|
 cS 71 [g v 0,ag (G12 v 1)] (.agg 14) fun l0 =>
 cS 70 [ag (G14 l0 0)] (.agg 14) fun l1 =>
 kN r1 <|
 kN r1 <|
 .ret (ag (G14 l1 0)) []
theorem nL : bI jA Tryz.f41 mL := bJ Tryz.func41 [(76, [5, 6, 7, 8])] [] [] fun _ => by kernel_rfl
abbrev uR : FuncId := 42
def qp (a : Nat) : Tree :=
 kN a <|
 kN a <|
 .ret (.tuple #[ag Z0,iv 2]) []
def dk (a b : Nat) (c d : List Value) (e : Nat) (f : List Value) (h : Nat) (i : List Value) (j : Nat) (k : List Value) (l : Nat) (m : List Value) (n : Nat) (o : List Value) (p : Nat) (q : List Value) (r : Nat) (s : List Value) (t : Nat) : Tree :=
 kN a <|
 kN a <|
 kN b <|
 kN b <|
 .ret (.tuple #[ag (G6 c 0 ++ ((g d e)::((g f h)::((g i j)::((g k l)::(G10 c 10 ++ ((g m n)::((g o p)::((g q r)::((g s t)::G14 c 24)))))))))),iv 0]) []
def uI (v : List Value) : Tree :=
 .newbox fun r0 =>
 .newbox fun r1 =>
 kN r0 <|
 cS 72 [ag (G38 v 0),g v 38] (.tup [none,none]) fun l0 =>
 pE (g l0 1) (iv 2) fun v1 =>
 .br v1 (
 qp r1) (
 c1 73 [g v 39,iv 0,iv 3] fun l2 =>
 pO (g l2 0) fun v3 =>
 .br v3 (
 qp r1) (
 pN (g l0 1) (iv 0) fun v4 =>
 .br v4 (
 kN r1 <|
 kN r1 <|
 .ret (.tuple #[ag Z0,g l0 1]) []) (
 kN r0 <|
 cS 74 [ag (G38 v 0),g v 38] (.agg 38) fun l5 =>
 kN r0 <|
 kN r0 <|
 pI 12 (g l5 0) (g l0 0) fun v6 =>
 .load [] v6 12 fun l7 =>
 cS 75 [ag (G12 l7 0),g v 39] (.agg 12) fun l8 =>
 .newbox fun r2 =>
 kN r2 <|
 kN r0 <|
 kN r2 <|
 pI 12 (g l5 0) (g l0 0) fun v9 =>
 kP v9 <|
 .store v9 (G12 l8 0) <|
 kN r2 <|
 .sw (g l8 2) 0 (
 cS 76 [pt r0 1] (.agg 4) fun l10 =>
 kW (g l10 0) r0 6 <|
 kW (g l10 1) r0 7 <|
 kW (g l10 2) r0 8 <|
 kW (g l10 3) r0 9 <|
 .sw (g v 39) 0 (
 kN r0 <|
 .newbox fun r3 =>
 .prim (.bi .append #[26,26] 26) [g l5 6,.slice (some ⟨r3,0,none⟩) 1 1] [⟨r3,3,[g v 38]⟩] [] .one fun l11 _ =>
 dk r0 r1 l5 l11 0 l5 7 l5 8 l5 9 l5 20 l5 21 l5 22 l5 23) (
 .sw (g v 39) 1 (
 kN r0 <|
 .newbox fun r4 =>
 .prim (.bi .append #[26,26] 26) [g l5 7,.slice (some ⟨r4,0,none⟩) 1 1] [⟨r4,3,[g v 38]⟩] [] .one fun l12 _ =>
 dk r0 r1 l5 l5 6 l12 0 l5 8 l5 9 l5 20 l5 21 l5 22 l5 23) (
 .sw (g v 39) 2 (
 kN r0 <|
 .newbox fun r5 =>
 .prim (.bi .append #[26,26] 26) [g l5 8,.slice (some ⟨r5,0,none⟩) 1 1] [⟨r5,3,[g v 38]⟩] [] .one fun l13 _ =>
 dk r0 r1 l5 l5 6 l5 7 l13 0 l5 9 l5 20 l5 21 l5 22 l5 23) (
 .sw (g v 39) 3 (
 kN r0 <|
 .newbox fun r6 =>
 .prim (.bi .append #[26,26] 26) [g l5 9,.slice (some ⟨r6,0,none⟩) 1 1] [⟨r6,3,[g v 38]⟩] [] .one fun l14 _ =>
 dk r0 r1 l5 l5 6 l5 7 l5 8 l14 0 l5 20 l5 21 l5 22 l5 23) (
 .stuck 901))))) (
 .sw (g l8 2) 1 (
 cS 76 [pt r0 15] (.agg 4) fun l15 =>
 kW (g l15 0) r0 20 <|
 kW (g l15 1) r0 21 <|
 kW (g l15 2) r0 22 <|
 kW (g l15 3) r0 23 <|
 .sw (g v 39) 0 (
 kN r0 <|
 .newbox fun r7 =>
 .prim (.bi .append #[26,26] 26) [g l5 20,.slice (some ⟨r7,0,none⟩) 1 1] [⟨r7,3,[g v 38]⟩] [] .one fun l16 _ =>
 dk r0 r1 l5 l5 6 l5 7 l5 8 l5 9 l16 0 l5 21 l5 22 l5 23) (
 .sw (g v 39) 1 (
 kN r0 <|
 .newbox fun r8 =>
 .prim (.bi .append #[26,26] 26) [g l5 21,.slice (some ⟨r8,0,none⟩) 1 1] [⟨r8,3,[g v 38]⟩] [] .one fun l17 _ =>
 dk r0 r1 l5 l5 6 l5 7 l5 8 l5 9 l5 20 l17 0 l5 22 l5 23) (
 .sw (g v 39) 2 (
 kN r0 <|
 .newbox fun r9 =>
 .prim (.bi .append #[26,26] 26) [g l5 22,.slice (some ⟨r9,0,none⟩) 1 1] [⟨r9,3,[g v 38]⟩] [] .one fun l18 _ =>
 dk r0 r1 l5 l5 6 l5 7 l5 8 l5 9 l5 20 l5 21 l18 0 l5 23) (
 .sw (g v 39) 3 (
 kN r0 <|
 .newbox fun r10 =>
 .prim (.bi .append #[26,26] 26) [g l5 23,.slice (some ⟨r10,0,none⟩) 1 1] [⟨r10,3,[g v 38]⟩] [] .one fun l19 _ =>
 dk r0 r1 l5 l5 6 l5 7 l5 8 l5 9 l5 20 l5 21 l5 22 l19 0) (
 .stuck 901))))) (
 .stuck 901)))))
theorem yn : bI uR Tryz.f42 uI := bJ Tryz.func42 [(76, [5, 6, 7, 8])] [] [] fun _ => by kernel_rfl
abbrev oR : FuncId := 43
def oz (v : List Value) : Tree :=
 .newbox fun r0 =>
 kN r0 <|
 cS 41 [g v 0,.agg #[iv 0,g v 3,iv 0,iv 0,iv 0,iv 0,iv 0,iv 0,iv 0,.bool false,.bool false,.bool false]] (.agg 14) fun l0 =>
 .newbox fun r1 =>
 kN r1 <|
 kN r0 <|
 pE (g v 4) (iv (-1)) fun v1 =>
 .br v1 (
 kN r1 <|
 .ret (g l0 11) []) (
 kN r0 <|
 pL (g v 4) (iv 0) fun v2 =>
 kN r0 <|
 kV v2 <|
 kN r1 <|
 kV v2 <|
 kV v2 <|
 pZ (g l0 12) fun v3 =>
 kV v2 <|
 kV v2 <|
 pH (g v 4) v3 fun v4 =>
 kV v2 <|
 pK v2 (.bool true) v4 fun v5 =>
 .br v5 (
 .ret (.slice none 0 0) []) (
 kN r1 <|
 kN r0 <|
 pI 2 (g l0 12) (g v 4) fun v6 =>
 kP v6 <|
 .load [] (bz v6 1) 1 fun l7 =>
 .ret (g l7 0) []))
theorem sY : bI oR Tryz.f43 oz := bJ Tryz.func43 [(76, [5, 6, 7, 8])] [] [] fun _ => by kernel_rfl
abbrev mY : FuncId := 44
def eD (a b : Nat) (c : List Value) (d : Nat) : Tree :=
 kN a <|
 kN b <|
 c1 81 [g c 16,g c 43,iv 9999] fun l30 =>
 kN a <|
 kN a <|
 kN d <|
 kN d <|
 .ret (ag (G15 c 1 ++ ((g l30 0)::G22 c 17))) []
def eW (a b : Nat) (c : List Value) (d : Nat) : Tree :=
 kN a <|
 kN b <|
 c1 81 [g c 2,g c 43,iv 9999] fun l6 =>
 kN a <|
 kN a <|
 kN d <|
 kN d <|
 .ret (ag ((g c 1)::((g l6 0)::G36 c 3))) []
def eX (a : Nat) (b : List Value) (c d : Nat) : Tree :=
 kN a <|
 cS 84 [ag (G38 b 1),g b c] (.tup [some 38,none]) fun l16 =>
 kN a <|
 kN a <|
 kN d <|
 kN d <|
 .ret (ag (G38 l16 0)) []
def eY (a : Nat) (b : List Value) (c d : Nat) : Tree :=
 kN a <|
 cS 42 [ag (G38 b 1),g b c,iv 1] (.tup [some 38,none]) fun l14 =>
 kN a <|
 kN a <|
 kN d <|
 kN d <|
 .ret (ag (G38 l14 0)) []
def eZ (a b : Nat) (c : List Value) (d e : Nat) : Tree :=
 kN a <|
 kN b <|
 cS 82 [ag (G38 c 1),g c d,g c 43] (.tup [some 38,none]) fun l8 =>
 kN a <|
 kN a <|
 kN e <|
 kN e <|
 .ret (ag (G38 l8 0)) []
def e9 (a : Nat) (b : List Value) (c d e : Nat) : Tree :=
 kN a <|
 .call false 78 [ag (G38 b 1),g b c,.func (.func 79) #[] #[pt d 0]] [] [⟨d,39,(G5 b 41)⟩] (.agg 38) fun l5 c5 =>
 kN e <|
 kN e <|
 .ret (ag (G38 l5 0)) []
def fc (a b : Nat) (c : List Value) (d : Nat) : Tree :=
 kN a <|
 kN b <|
 kN b <|
 cS 85 [ag (G38 c 1),g c 39,g c 43,g c 44,g c 48] (.tup [some 38,none,none]) fun l18 =>
 kN a <|
 kN a <|
 kN d <|
 kN d <|
 .ret (ag (G38 l18 0)) []
def fe (a : Nat) (b : List Value) (c d e : Nat) : Tree :=
 kN a <|
 c1 86 [g b 0,ag (G38 b 1),g b c] fun l24 =>
 pO (g l24 0) fun v25 =>
 .br v25 (
 kN a <|
 kN d <|
 kN d <|
 .ret (ag (G38 b 1)) []) (
 kN a <|
 .call false 78 [ag (G38 b 1),g b c,.func (.func 87) #[] #[pt e 0]] [] [⟨e,39,(G5 b 41)⟩] (.agg 38) fun l26 c26 =>
 kN d <|
 kN d <|
 .ret (ag (G38 l26 0)) [])
def aL (a : List Value) (b c : Nat) (d : List Value) (e : Nat) (f : List Value) (h i j k l m n : Nat) : Tree :=
 .sw (g a 45) 0 (
 kN b <|
 kN b <|
 kN c <|
 kN c <|
 .ret (ag ((g a 1)::((g a 2)::((g d e)::(G13 a 4 ++ ((g f h)::G21 a 18)))))) []) (
 .sw (g a 45) 1 (
 kN b <|
 kN b <|
 kN c <|
 kN c <|
 .ret (ag ((g a 1)::((g a 2)::((g a 3)::((g d i)::(G13 a 5 ++ ((g f j)::G20 a 19))))))) []) (
 .sw (g a 45) 2 (
 kN b <|
 kN b <|
 kN c <|
 kN c <|
 .ret (ag (G4 a 1 ++ ((g d k)::(G13 a 6 ++ ((g f l)::G19 a 20))))) []) (
 .sw (g a 45) 3 (
 kN b <|
 kN b <|
 kN c <|
 kN c <|
 .ret (ag (G5 a 1 ++ ((g d m)::(G13 a 7 ++ ((g f n)::G18 a 21))))) []) (
 .stuck 901))))
def bS (a : List Value) (b c d e f : Nat) : Tree :=
 .sw (g a b) 0 (
 kN c <|
 pE (g a 41) (iv 1) fun v3 =>
 .br v3 (
 pG (g a d) (iv 0) fun v4 =>
 .br v4 (
 e9 e a d c f) (
 eW e c a f)) (
 pE (g a 41) (iv 2) fun v7 =>
 .br v7 (
 eZ e c a b f) (
 pE (g a 41) (iv 3) fun v9 =>
 .br v9 (
 kN e <|
 kN c <|
 c1 83 [g a 2,g a 43,iv 9999] fun l10 =>
 kN e <|
 kN e <|
 kN f <|
 kN f <|
 .ret (ag ((g a 1)::((g l10 0)::G36 a 3))) []) (
 pE (g a 41) (iv 4) fun v11 =>
 .br v11 (
 eW e c a f) (
 pE (g a 41) (iv 6) fun v13 =>
 .br v13 (
 eY e a d f) (
 pE (g a 41) (iv 7) fun v15 =>
 .br v15 (
 eX e a d f) (
 pE (g a 41) (iv 10) fun v17 =>
 .br v17 (
 fc e c a f) (
 pE (g a 41) (iv 12) fun v19 =>
 .br v19 (
 kN c <|
 kN c <|
 .sw (g a 45) 0 (
 kN e <|
 kN c <|
 c1 83 [g a 3,g a 43,iv 99] fun l20 =>
 aL a e f l20 0 a 17 0 18 0 19 0 20) (
 .sw (g a 45) 1 (
 kN e <|
 kN c <|
 c1 83 [g a 4,g a 43,iv 99] fun l21 =>
 aL a e f l21 0 a 17 0 18 0 19 0 20) (
 .sw (g a 45) 2 (
 kN e <|
 kN c <|
 c1 83 [g a 5,g a 43,iv 99] fun l22 =>
 aL a e f l22 0 a 17 0 18 0 19 0 20) (
 .sw (g a 45) 3 (
 kN e <|
 kN c <|
 c1 83 [g a 6,g a 43,iv 99] fun l23 =>
 aL a e f l23 0 a 17 0 18 0 19 0 20) (
 .stuck 901))))) (
 fe e a d f c))))))))) (
 .sw (g a b) 1 (
 kN c <|
 pE (g a 41) (iv 1) fun v27 =>
 .br v27 (
 pG (g a d) (iv 0) fun v28 =>
 .br v28 (
 e9 e a d c f) (
 eD e c a f)) (
 pE (g a 41) (iv 2) fun v31 =>
 .br v31 (
 eZ e c a b f) (
 pE (g a 41) (iv 3) fun v33 =>
 .br v33 (
 kN e <|
 kN c <|
 c1 83 [g a 16,g a 43,iv 9999] fun l34 =>
 kN e <|
 kN e <|
 kN f <|
 kN f <|
 .ret (ag (G15 a 1 ++ ((g l34 0)::G22 a 17))) []) (
 pE (g a 41) (iv 4) fun v35 =>
 .br v35 (
 eD e c a f) (
 pE (g a 41) (iv 6) fun v37 =>
 .br v37 (
 eY e a d f) (
 pE (g a 41) (iv 7) fun v39 =>
 .br v39 (
 eX e a d f) (
 pE (g a 41) (iv 10) fun v41 =>
 .br v41 (
 fc e c a f) (
 pE (g a 41) (iv 12) fun v43 =>
 .br v43 (
 kN c <|
 kN c <|
 .sw (g a 45) 0 (
 kN e <|
 kN c <|
 c1 83 [g a 17,g a 43,iv 99] fun l44 =>
 aL a e f a 3 l44 0 4 0 5 0 6 0) (
 .sw (g a 45) 1 (
 kN e <|
 kN c <|
 c1 83 [g a 18,g a 43,iv 99] fun l45 =>
 aL a e f a 3 l45 0 4 0 5 0 6 0) (
 .sw (g a 45) 2 (
 kN e <|
 kN c <|
 c1 83 [g a 19,g a 43,iv 99] fun l46 =>
 aL a e f a 3 l46 0 4 0 5 0 6 0) (
 .sw (g a 45) 3 (
 kN e <|
 kN c <|
 c1 83 [g a 20,g a 43,iv 99] fun l47 =>
 aL a e f a 3 l47 0 4 0 5 0 6 0) (
 .stuck 901))))) (
 fe e a d f c))))))))) (
 .stuck 901))
def mR (v : List Value) : Tree :=
 .newbox fun r0 =>
 .newbox fun r1 =>
 .newbox fun r2 =>
 .newbox fun r3 =>
 kN r1 <|
 pN (g v 42) (iv 0) fun v0 =>
 .br v0 (
 kN r0 <|
 kN r1 <|
 kN r2 <|
 c1 77 [g v 0,ag (G38 v 1),g v 39,g v 42,.agg #[g v 46,g v 47]] fun l1 =>
 pO (g l1 0) fun v2 =>
 .br v2 (
 kN r0 <|
 kN r3 <|
 kN r3 <|
 .ret (ag (G38 v 1)) []) (
 kN r2 <|
 kN r2 <|
 bS v 47 r1 46 r0 r3)) (
 bS v 39 r1 40 r0 r3)
theorem rn : bI mY Tryz.f44 mR := bJ Tryz.func44 [(76, [5, 6, 7, 8])] [] [] fun _ => by kernel_rfl
abbrev yb : FuncId := 53
def gX (a : Value) (b : Nat) (c : List Value) (d : Nat) : Tree :=
 .br a (
 .prim (.mkIface 151 false) [.slice (some ⟨b,0,none⟩) 3 3] [⟨b,36,[iv 1,iv 2,iv 3]⟩] [] .one fun l8 _ =>
 .ret (g l8 0) []) (
 pE (g c 0) (iv 7) fun v9 =>
 .br v9 (
 .newbox fun r4 =>
 .prim (.mkIface 151 false) [.slice (some ⟨r4,0,none⟩) 1 1] [⟨r4,36,[iv 6]⟩] [] .one fun l10 _ =>
 .ret (g l10 0) []) (
 pE (g c 0) (iv 8) fun v11 =>
 .br v11 (
 .call false 92 [.slice (some ⟨b,0,none⟩) 3 3] [⟨b,36,[iv 1,iv 2,iv 3]⟩] [] .one fun l12 _ =>
 .newbox fun r5 =>
 .prim (.bi .append #[151,151] 151) [g l12 0,.slice (some ⟨r5,0,none⟩) 1 1] [⟨r5,36,[iv 0]⟩] [] .one fun l13 _ =>
 .ret (.iface 156 (.agg #[g l13 0,iv 0])) []) (
 pE (g c 0) (iv 9) fun v14 =>
 .br v14 (
 .call false 92 [.slice (some ⟨b,0,none⟩) 3 3] [⟨b,36,[iv 1,iv 2,iv 3]⟩] [] .one fun l15 _ =>
 .newbox fun r6 =>
 .prim (.bi .append #[151,151] 151) [g l15 0,.slice (some ⟨r6,0,none⟩) 1 1] [⟨r6,36,[iv 0]⟩] [] .one fun l16 _ =>
 .ret (.iface 154 (.agg #[g l16 0,iv 9])) []) (
 pE (g c 0) (iv 10) fun v17 =>
 .br v17 (
 .prim (.mkIface 156 true) [.slice (some ⟨d,0,none⟩) 1 1,iv 1] [⟨d,36,[iv 0]⟩] [] .one fun l18 _ =>
 .ret (g l18 0) []) (
 pE (g c 0) (iv 12) fun v19 =>
 .br v19 (
 .prim (.mkIface 158 true) [.slice (some ⟨d,0,none⟩) 1 1,iv 9] [⟨d,36,[iv 0]⟩] [] .one fun l20 _ =>
 .ret (g l20 0) []) (
 .ret .nilIface []))))))
def jx (a : Value) (b : Nat) (c : List Value) (d e : Nat) : Tree :=
 .br a (
 .prim (.mkIface 154 true) [.slice (some ⟨b,0,none⟩) 2 2,iv 99] [⟨b,36,[iv 0,iv 4]⟩] [] .one fun l6 _ =>
 .ret (g l6 0) []) (
 pE (g c 0) (iv 5) fun v7 =>
 .br v7 (
 gX v7 d c e) (
 pE (g c 0) (iv 6) fun v21 =>
 .br v21 (
 gX v21 d c e) (
 pE (g c 0) (iv 11) fun v35 =>
 gX v35 d c e)))
def xU (v : List Value) : Tree :=
 .newbox fun r0 =>
 .newbox fun r1 =>
 .newbox fun r2 =>
 pE (g v 0) (iv 1) fun v0 =>
 .br v0 (
 .call false 92 [.slice (some ⟨r2,0,none⟩) 3 3] [⟨r2,36,[iv 1,iv 2,iv 3]⟩] [] .one fun l1 _ =>
 .newbox fun r3 =>
 .prim (.bi .append #[151,151] 151) [g l1 0,.slice (some ⟨r3,0,none⟩) 2 2] [⟨r3,36,[iv 4,iv 5]⟩] [] .one fun l2 _ =>
 .ret (.iface 154 (.agg #[g l2 0,iv 99])) []) (
 pE (g v 0) (iv 2) fun v3 =>
 .br v3 (
 .prim (.mkIface 154 true) [.slice (some ⟨r1,0,none⟩) 2 2,iv 7] [⟨r1,36,[iv 0,iv 4]⟩] [] .one fun l4 _ =>
 .ret (g l4 0) []) (
 pE (g v 0) (iv 3) fun v5 =>
 .br v5 (
 jx v5 r1 v r2 r0) (
 pE (g v 0) (iv 4) fun v49 =>
 jx v49 r1 v r2 r0)))
theorem zx : bI yb Tryz.f53 xU := bJ Tryz.func53 [(76, [5, 6, 7, 8])] [] [] fun _ => by kernel_rfl
abbrev ji : FuncId := 54
def iW (v : List Value) : Tree :=
 .newbox fun r0 =>
 .newbox fun r1 =>
 kN r0 <|
 cS 93 [ag (G12 v 0)] (.agg 12) fun l0 =>
 kN r0 <|
 pE (g v 12) (iv 2) fun v1 =>
 kN r0 <|
 kN r0 <|
 kN r0 <|
 kN r0 <|
 kN r0 <|
 kN r1 <|
 kN r1 <|
 .ret (ag (G6 l0 0 ++ [iv 0,g l0 7,g l0 8,.bool false,v1,.bool false])) []
theorem nl : bI ji Tryz.f54 iW := bJ Tryz.func54 [(76, [5, 6, 7, 8])] [] [] fun _ => by kernel_rfl
abbrev jh : FuncId := 55
def iU (v : List Value) : Tree :=
 .newbox fun r0 =>
 .loop 3 2 [iv 0] fun C3 l0 =>
 kN r0 <|
 pZ (g v 0) fun v1 =>
 pL (g l0 0) v1 fun v2 =>
 .br v2 (
 kN r0 <|
 pI 12 (g v 0) (g l0 0) fun v3 =>
 kP v3 <|
 .load [] v3 1 fun l4 =>
 pE (g l4 0) (g v 38) fun v5 =>
 .br v5 (
 .ret (g l0 0) []) (
 pA (g l0 0) (iv 1) fun v6 =>
 .cont 3 C3 [v6] (Es [[g v 38],[pt r0 0],((pt r0 0)::G38 v 0)]))) (
 .ret (iv (-1)) [])
theorem nk : bI jh Tryz.f55 iU := bJ Tryz.func55 [(76, [5, 6, 7, 8])] [(2, .inv [5] [1, 2] [(2, [])])] [] fun _ => by kernel_rfl
abbrev kK : FuncId := 56
def jc (a b : Nat) (c : List Value) : Tree :=
 kN a <|
 kN b <|
 kN b <|
 .ret (ag (G38 c 0)) []
def kD (v : List Value) : Tree :=
 .newbox fun r0 =>
 .newbox fun r1 =>
 .newbox fun r2 =>
 kN r1 <|
 .sw (g v 40) 0 (
 pE (g v 50) (iv 0) fun v0 =>
 .br v0 (
 kN r0 <|
 kN r1 <|
 .prim (.bi .append #[26,26] 26) [.slice none 0 0,g v 6] [] [] .one fun l1 _ =>
 .newbox fun r3 =>
 .prim (.bi .append #[26,26] 26) [g l1 0,.slice (some ⟨r3,0,none⟩) 1 1] [⟨r3,3,[g v 38]⟩] [] .one fun l2 _ =>
 kN r0 <|
 kN r0 <|
 kN r2 <|
 kN r2 <|
 .ret (ag (G6 v 0 ++ ((g l2 0)::G31 v 7))) []) (
 pE (g v 50) (iv 1) fun v3 =>
 .br v3 (
 kN r0 <|
 kN r1 <|
 .prim (.bi .append #[26,26] 26) [.slice none 0 0,g v 7] [] [] .one fun l4 _ =>
 .newbox fun r4 =>
 .prim (.bi .append #[26,26] 26) [g l4 0,.slice (some ⟨r4,0,none⟩) 1 1] [⟨r4,3,[g v 38]⟩] [] .one fun l5 _ =>
 kN r0 <|
 kN r0 <|
 kN r2 <|
 kN r2 <|
 .ret (ag (G7 v 0 ++ ((g l5 0)::G30 v 8))) []) (
 pE (g v 50) (iv 2) fun v6 =>
 .br v6 (
 kN r0 <|
 kN r1 <|
 .prim (.bi .append #[26,26] 26) [.slice none 0 0,g v 8] [] [] .one fun l7 _ =>
 .newbox fun r5 =>
 .prim (.bi .append #[26,26] 26) [g l7 0,.slice (some ⟨r5,0,none⟩) 1 1] [⟨r5,3,[g v 38]⟩] [] .one fun l8 _ =>
 kN r0 <|
 kN r0 <|
 kN r2 <|
 kN r2 <|
 .ret (ag (G8 v 0 ++ ((g l8 0)::G29 v 9))) []) (
 pE (g v 50) (iv 3) fun v9 =>
 .br v9 (
 kN r0 <|
 kN r1 <|
 .prim (.bi .append #[26,26] 26) [.slice none 0 0,g v 9] [] [] .one fun l10 _ =>
 .newbox fun r6 =>
 .prim (.bi .append #[26,26] 26) [g l10 0,.slice (some ⟨r6,0,none⟩) 1 1] [⟨r6,3,[g v 38]⟩] [] .one fun l11 _ =>
 kN r0 <|
 kN r0 <|
 kN r2 <|
 kN r2 <|
 .ret (ag (G9 v 0 ++ ((g l11 0)::G28 v 10))) []) (
 jc r0 r2 v))))) (
 .sw (g v 40) 1 (
 pE (g v 50) (iv 0) fun v12 =>
 .br v12 (
 kN r0 <|
 kN r1 <|
 .prim (.bi .append #[26,26] 26) [.slice none 0 0,g v 20] [] [] .one fun l13 _ =>
 .newbox fun r7 =>
 .prim (.bi .append #[26,26] 26) [g l13 0,.slice (some ⟨r7,0,none⟩) 1 1] [⟨r7,3,[g v 38]⟩] [] .one fun l14 _ =>
 kN r0 <|
 kN r0 <|
 kN r2 <|
 kN r2 <|
 .ret (ag (G20 v 0 ++ ((g l14 0)::G17 v 21))) []) (
 pE (g v 50) (iv 1) fun v15 =>
 .br v15 (
 kN r0 <|
 kN r1 <|
 .prim (.bi .append #[26,26] 26) [.slice none 0 0,g v 21] [] [] .one fun l16 _ =>
 .newbox fun r8 =>
 .prim (.bi .append #[26,26] 26) [g l16 0,.slice (some ⟨r8,0,none⟩) 1 1] [⟨r8,3,[g v 38]⟩] [] .one fun l17 _ =>
 kN r0 <|
 kN r0 <|
 kN r2 <|
 kN r2 <|
 .ret (ag (G21 v 0 ++ ((g l17 0)::G16 v 22))) []) (
 pE (g v 50) (iv 2) fun v18 =>
 .br v18 (
 kN r0 <|
 kN r1 <|
 .prim (.bi .append #[26,26] 26) [.slice none 0 0,g v 22] [] [] .one fun l19 _ =>
 .newbox fun r9 =>
 .prim (.bi .append #[26,26] 26) [g l19 0,.slice (some ⟨r9,0,none⟩) 1 1] [⟨r9,3,[g v 38]⟩] [] .one fun l20 _ =>
 kN r0 <|
 kN r0 <|
 kN r2 <|
 kN r2 <|
 .ret (ag (G22 v 0 ++ ((g l20 0)::G15 v 23))) []) (
 pE (g v 50) (iv 3) fun v21 =>
 .br v21 (
 kN r0 <|
 kN r1 <|
 .prim (.bi .append #[26,26] 26) [.slice none 0 0,g v 23] [] [] .one fun l22 _ =>
 .newbox fun r10 =>
 .prim (.bi .append #[26,26] 26) [g l22 0,.slice (some ⟨r10,0,none⟩) 1 1] [⟨r10,3,[g v 38]⟩] [] .one fun l23 _ =>
 kN r0 <|
 kN r0 <|
 kN r2 <|
 kN r2 <|
 .ret (ag (G23 v 0 ++ ((g l23 0)::G14 v 24))) []) (
 jc r0 r2 v))))) (
 .stuck 901))
theorem py : bI kK Tryz.f56 kD := bJ Tryz.func56 [(76, [5, 6, 7, 8])] [] [] fun _ => by kernel_rfl
abbrev gY : FuncId := 57
def jb (a b : Nat) (c : List Value) : Tree :=
 kN a <|
 kN b <|
 kN b <|
 .ret (ag (G38 c 0)) []
def kC (v : List Value) : Tree :=
 .newbox fun r0 =>
 .newbox fun r1 =>
 .newbox fun r2 =>
 kN r0 <|
 cS 14 [ag (G38 v 0)] (.agg 38) fun l0 =>
 kN r0 <|
 kN r0 <|
 kN r1 <|
 c1 55 [ag (G38 l0 0),g v 38] fun l1 =>
 pH (g l1 0) (iv 0) fun v2 =>
 .br v2 (
 kN r0 <|
 kN r1 <|
 pI 12 (g l0 0) (g l1 0) fun v3 =>
 kP v3 <|
 .store v3 (G12 v 38) <|
 jb r0 r2 l0) (
 jb r0 r2 l0)
theorem pu : bI gY Tryz.f57 kC := bJ Tryz.func57 [(76, [5, 6, 7, 8])] [] [] fun _ => by kernel_rfl
end Go.Proofs.YtdhobpmnkfmcfaaGreatDoor
