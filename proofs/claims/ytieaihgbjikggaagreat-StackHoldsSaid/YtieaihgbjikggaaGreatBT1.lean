/- The trees of the functions of this seat: printed by a tool of mine; each by the kernel's reckoning equal to the evaluator's. -/
import Derived.Test.YtieaihgbjikggaaGreatFw2
import Derived.Test.YtieaihgbjikggaaGreatProg
import Derived.KernelRfl
namespace Go.Proofs.YtieaihgbjikggaaGreat
open Go Go.Sx
set_option maxRecDepth 100000
noncomputable abbrev PP : Program := Tryz.prog
theorem mixed : PP.follows .mixedOrders = true := by kernel_rfl
def okL : List Nat := [2, 3, 4, 5, 6, 7, 8, 9, 10, 11, 12, 13, 14, 15, 16, 17, 18, 19, 20, 21, 22, 23, 24, 25, 26, 27, 28, 29, 30, 31, 32, 33, 34, 35, 36, 37, 38, 39, 40, 41, 42, 43, 44, 45, 46, 47, 48, 49, 50, 51, 52, 53, 54, 55, 56, 57, 58, 59, 60, 61, 62, 63, 64, 65, 66, 67, 68, 69, 70, 71, 72, 73, 74, 75, 76, 77, 78, 79, 80, 81, 82, 83, 84, 85, 86, 87, 88, 89, 90, 91, 92, 93, 94, 95, 96, 97, 98, 99, 100, 101, 102, 103, 104, 105, 106, 107, 108, 109, 110, 111, 112, 113, 114, 115, 116, 117, 118, 119, 120, 121, 122, 123, 124, 125, 126, 127, 128, 129, 130, 131, 132, 133, 134, 135, 136, 137, 138, 139, 140, 141, 142, 143, 144, 145, 146, 147, 148, 149]
theorem aE : okL.all (Ie PP) = true := by kernel_rfl
abbrev be : TypeId := 3
abbrev DY : TypeId := 4
abbrev yo : TypeId := 25
abbrev bB : TypeId := 41
abbrev ar : TypeId := 43
abbrev dr : TypeId := 48
abbrev dO : TypeId := 56
abbrev dN : TypeId := 76
abbrev eW : TypeId := 89
abbrev bL : TypeId := 123
abbrev cz : TypeId := 150
abbrev cM : TypeId := 152
abbrev Z0 : List Value := [.slice none 0 0,iv 0,iv 0,iv 0,iv 0,iv 0,.slice none 0 0,.slice none 0 0,.slice none 0 0,.slice none 0 0,.bool false,.bool false,.bool false,iv 0,iv 0,iv 0,iv 0,iv 0,iv 0,iv 0,.slice none 0 0,.slice none 0 0,.slice none 0 0,.slice none 0 0,.bool false,.bool false,.bool false,iv 0,iv 0,.slice none 0 0,.slice none 0 0,.slice none 0 0,.slice none 0 0,iv 0,iv 0,iv 0,iv 0,iv 0]
abbrev Z1 : List Value := [.string ⟨#[]⟩,iv 0,iv 0,iv 0,iv 0,iv 0,iv 0,iv 0,iv 0,iv 0,iv 0,.slice none 0 0,.slice none 0 0,iv 0]
abbrev Z2 : List Value := [iv 0,iv 0,iv 0,iv 0,iv 0,iv 0,iv 0,iv 0,iv 0,.bool false,.bool false,.bool false]
abbrev cK : FuncId := 7
def fR (r1007 : Nat) (l1008 : List Value) (r1009 : Nat) (l1010 : List Value) (v1011 : Value) (n1012 : Nat) (v1013 : Value) (r1014 : Nat) (l1015 l1016 : List Value) (n1017 r1018 : Nat) : Tree :=
 kN r1007 <|
 pN (g l1008 43) (iv 0) fun v88 =>
 .br v88 (
 .ret (.bool false) []) (
 kN r1007 <|
 c1 10 [ag (G38 l1008 0)] fun l89 =>
 pO (g l89 0) fun v90 =>
 kN r1009 <|
 kV v90 <|
 kV v90 <|
 kV v90 <|
 pN (g l1008 39) (g l1010 0) fun v91 =>
 kV v90 <|
 pK v90 (.bool true) v91 fun v92 =>
 kN r1009 <|
 kV v92 <|
 kV v92 <|
 pN (g l1008 41) (iv (-1)) fun v93 =>
 kV v92 <|
 pK v92 (.bool true) v93 fun v94 =>
 kN r1009 <|
 kV v94 <|
 kV v94 <|
 pZ (g l1008 42) fun v95 =>
 kV v94 <|
 kV v94 <|
 pN v95 v1011 fun v96 =>
 kV v94 <|
 pK v94 (.bool true) v96 fun v97 =>
 kV v97 <|
 pZ (g l1008 n1012) fun v98 =>
 kV v97 <|
 pE v98 (iv 0) fun v99 =>
 kV v97 <|
 pK v97 (.bool true) v99 fun v100 =>
 kV v100 <|
 pZ (g l1008 n1012) fun v101 =>
 kV v100 <|
 pS v101 (iv 1) fun v102 =>
 kV v100 <|
 kV v100 <|
 .pure [(v100,false)] (.idx 1) [g l1008 n1012,v102] fun v103 =>
 kV v100 <|
 .load [(v100,false)] v103 1 fun l104 =>
 kV v100 <|
 kV v100 <|
 pN (g l104 0) (g l1010 0) fun v105 =>
 kV v100 <|
 pK v100 (.bool true) v105 fun v106 =>
 kN r1007 <|
 kV v106 <|
 kV v106 <|
 pZ (g l1008 29) fun v107 =>
 kV v106 <|
 kV v106 <|
 pN v107 v1013 fun v108 =>
 kV v106 <|
 pK v106 (.bool true) v108 fun v109 =>
 .br v109 (
 .ret (.bool false) []) (
 kN r1014 <|
 c1 13 [g l1015 0,ag (G38 l1016 1)] fun l110 =>
 pN (g l110 0) (iv 0) fun v111 =>
 .br v111 (
 .ret (.bool false) []) (
 .loop n1017 42 [iv 0] fun C215 l112 =>
 pL (g l112 0) v1013 fun v113 =>
 .br v113 (
 kN r1007 <|
 pI 5 (g l1008 29) (g l112 0) fun v114 =>
 .load [] v114 5 fun l115 =>
 kN r1018 <|
 pI 5 (g l1015 30) (g l112 0) fun v116 =>
 .load [] v116 5 fun l117 =>
 c1 24 [ag (G5 l115 0),ag (G5 l117 0)] fun l118 =>
 pO (g l118 0) fun v119 =>
 .br v119 (
 .ret (.bool false) []) (
 pA (g l112 0) (iv 1) fun v120 =>
 .cont n1017 C215 [v120] (Es [[pt r1018 0],[v1013],[pt r1007 0],((pt r1018 0)::G38 l1015 1),((pt r1007 0)::G38 l1008 0)]))) (
 c1 11 [] fun l121 =>
 .ret (g l121 0) []))))
def aV (r1001 : Nat) (l1002 : List Value) (n1003 n1004 n1005 n1006 : Nat) : Tree :=
 kN r1001 <|
 pZ (g l1002 n1003) fun v26 =>
 pE v26 (iv 0) fun v27 =>
 .br v27 (
 c1 11 [] fun l28 =>
 .ret (g l28 0) []) (
 .pure [] (.conv .i64) [g l1002 40] fun v29 =>
 pZ (g l1002 n1003) fun v30 =>
 .pure [] (.bin .rem .int) [v29,v30] fun v31 =>
 pI 1 (g l1002 n1003) v31 fun v32 =>
 .load [] v32 1 fun l33 =>
 kN r1001 <|
 cS 18 [ag (G38 l1002 1),g l33 0] (.tup [some 38,none]) fun l34 =>
 .newbox fun r5 =>
 kN r5 <|
 pE (g l34 38) (iv 8) fun v35 =>
 .br v35 (
 kN r1001 <|
 kN r1001 <|
 c1 28 [ag (G38 l1002 1),g l33 0] fun l36 =>
 pI 12 (g l1002 1) (g l36 0) fun v37 =>
 kP v37 <|
 .load [] (bc v37 1) 1 fun l38 =>
 pE (g l38 0) (iv (-1)) fun v39 =>
 .br v39 (
 c1 11 [] fun l40 =>
 .ret (g l40 0) []) (
 .ret (.bool false) [])) (
 kN r1001 <|
 pZ (g l1002 30) fun v41 =>
 pN (g l34 38) (iv 0) fun v42 =>
 .br v42 (
 .ret (.bool false) []) (
 kN r5 <|
 c1 10 [ag (G38 l34 0)] fun l43 =>
 pO (g l43 0) fun v44 =>
 kN r5 <|
 kV v44 <|
 kV v44 <|
 pZ (g l34 29) fun v45 =>
 kV v44 <|
 pA v41 (iv 1) fun v46 =>
 kV v44 <|
 kV v44 <|
 pN v45 v46 fun v47 =>
 kV v44 <|
 pK v44 (.bool true) v47 fun v48 =>
 .br v48 (
 .ret (.bool false) []) (
 kN r5 <|
 pI 5 (g l34 29) v41 fun v49 =>
 .load [] v49 5 fun l50 =>
 c1 15 [g l1002 0,ag (G5 l50 0)] fun l51 =>
 .loop n1004 21 [iv 0,iv 0] fun C131 l52 =>
 pZ (g l51 0) fun v53 =>
 pL (g l52 1) v53 fun v54 =>
 .br v54 (
 pI 5 (g l51 0) (g l52 1) fun v55 =>
 kP v55 <|
 .load [] (bc v55 1) 1 fun l56 =>
 pN (g l56 0) (iv 0) fun v57 =>
 .br v57 (
 pA (g l52 0) (iv 1) fun v58 =>
 pA (g l52 1) (iv 1) fun v59 =>
 .cont n1004 C131 [v58,v59] (Es [[g l1002 0],[g l1002 39],[pt r1001 0],[g l33 0],[pt r5 0],[v41],[g l51 0],((pt r1001 0)::G38 l1002 1),((pt r5 0)::G38 l34 0)])) (
 pA (g l52 1) (iv 1) fun v60 =>
 .cont n1004 C131 [g l52 0,v60] (Es [[g l1002 0],[g l1002 39],[pt r1001 0],[g l33 0],[pt r5 0],[v41],[g l51 0],((pt r1001 0)::G38 l1002 1),((pt r5 0)::G38 l34 0)]))) (
 .pure [] .min2 [g l52 0,iv 4] fun v61 =>
 .loop n1005 27 ((iv 0)::G38 l34 0) fun C140 l62 =>
 pL (g l62 0) v61 fun v63 =>
 .br v63 (
 kN r5 <|
 c1 13 [g l1002 0,ag (G38 l62 1)] fun l64 =>
 pE (g l64 0) (iv 0) fun v65 =>
 .br v65 (
 .ret (.bool false) []) (
 kN r5 <|
 c1 29 [g l1002 0,ag (G38 l62 1)] fun l66 =>
 pZ (g l66 0) fun v67 =>
 pE v67 (iv 0) fun v68 =>
 .br v68 (
 c1 11 [] fun l69 =>
 .ret (g l69 0) []) (
 kN r5 <|
 pI 2 (g l66 0) (iv 0) fun v70 =>
 .load [] v70 2 fun l71 =>
 cS 20 [g l1002 0,ag (G38 l62 1),.agg #[g l71 0,g l71 1]] (.tup [some 38,none]) fun l72 =>
 kN r5 <|
 pN (g l72 38) (iv 0) fun v73 =>
 .br v73 (
 .ret (.bool false) []) (
 kN r5 <|
 c1 10 [ag (G38 l72 0)] fun l74 =>
 pO (g l74 0) fun v75 =>
 kN r5 <|
 kV v75 <|
 kV v75 <|
 pZ (g l72 29) fun v76 =>
 kV v75 <|
 pA v41 (iv 1) fun v77 =>
 kV v75 <|
 kV v75 <|
 pN v76 v77 fun v78 =>
 kV v75 <|
 pK v75 (.bool true) v78 fun v79 =>
 kN r5 <|
 kV v79 <|
 kV v79 <|
 kV v79 <|
 .pure [(v79,false)] (.idx 5) [g l72 29,v41] fun v80 =>
 .chk (.ptr [(v79,false)] v80) <|
 kV v79 <|
 kV v79 <|
 .load [(v79,false)] (bc v80 4) 1 fun l81 =>
 kV v79 <|
 pZ (g l81 0) fun v82 =>
 kV v79 <|
 pA (g l62 0) (iv 1) fun v83 =>
 kV v79 <|
 kV v79 <|
 pN v82 v83 fun v84 =>
 kV v79 <|
 pK v79 (.bool true) v84 fun v85 =>
 .br v85 (
 .ret (.bool false) []) (
 pA (g l62 0) (iv 1) fun v86 =>
 .cont n1005 C140 (v86::G38 l72 0) (Es [[g l1002 0],[g l1002 39],[pt r1001 0],[g l33 0],[pt r5 0],[v41],[v61],((pt r1001 0)::G38 l1002 1),[pt r5 0,.tuple #[],.tuple #[],.tuple #[],.tuple #[],.tuple #[],.tuple #[],.tuple #[],.tuple #[],.tuple #[],.tuple #[],.tuple #[],.tuple #[],.tuple #[],.tuple #[],.tuple #[],.tuple #[],.tuple #[],.tuple #[],.tuple #[],.tuple #[],.tuple #[],.tuple #[],.tuple #[],.tuple #[],.tuple #[],.tuple #[],.tuple #[],.tuple #[],.tuple #[],.tuple #[],.tuple #[],.tuple #[],.tuple #[],.tuple #[],.tuple #[],.tuple #[],.tuple #[],.tuple #[]]])))))) (
 kN r5 <|
 cS 21 [ag (G38 l62 1)] (.tup [some 38,some 5,none]) fun l87 =>
 .newbox fun r6 =>
 .newbox fun r7 =>
 kN r6 <|
 kN r7 <|
 .sw (g l1002 39) 0 (
 fR r6 l87 r7 l33 v61 9 v41 r5 l1002 l62 n1006 r1001) (
 .sw (g l1002 39) 1 (
 fR r6 l87 r7 l33 v61 23 v41 r5 l1002 l62 n1006 r1001) (
 .stuck 901))))))))
def bW (v : List Value) : Tree :=
 .newbox fun r0 =>
 .newbox fun r1 =>
 c1 8 [g v 0] fun l0 =>
 pO (g l0 0) fun v1 =>
 .br v1 (
 c1 11 [] fun l2 =>
 .ret (g l2 0) []) (
 kN r0 <|
 c1 9 [ag (G38 v 1)] fun l3 =>
 pO (g l3 0) fun v4 =>
 .br v4 (
 c1 11 [] fun l5 =>
 .ret (g l5 0) []) (
 kN r0 <|
 c1 10 [ag (G38 v 1)] fun l6 =>
 pO (g l6 0) fun v7 =>
 kV v7 <|
 pG (g v 39) (.int .u8 1) fun v8 =>
 kV v7 <|
 pK v7 (.bool true) v8 fun v9 =>
 kN r1 <|
 kV v9 <|
 kV v9 <|
 pZ (g v 45) fun v10 =>
 kV v9 <|
 pG v10 (iv 6) fun v11 =>
 kV v9 <|
 pK v9 (.bool true) v11 fun v12 =>
 .br v12 (
 c1 11 [] fun l13 =>
 .ret (g l13 0) []) (
 kN r0 <|
 kN r1 <|
 cS 19 [ag (G38 v 1),ag (G5 v 41)] (.tup [some 38,none]) fun l14 =>
 .newbox fun r2 =>
 kN r2 <|
 pE (g l14 38) (iv 0) fun v15 =>
 .br v15 (
 kN r2 <|
 cS 21 [ag (G38 l14 0)] (.tup [some 38,some 5,none]) fun l16 =>
 .newbox fun r3 =>
 .newbox fun r4 =>
 kN r3 <|
 kN r4 <|
 pN (g l16 43) (iv 0) fun v17 =>
 .br v17 (
 .ret (.bool false) []) (
 kN r2 <|
 c1 10 [ag (G38 l14 0)] fun l18 =>
 pO (g l18 0) fun v19 =>
 .br v19 (
 .ret (.bool false) []) (
 kN r3 <|
 kN r0 <|
 c1 27 [ag (G38 l16 0),ag (G38 v 1)] fun l20 =>
 pO (g l20 0) fun v21 =>
 .br v21 (
 .ret (.bool false) []) (
 kN r1 <|
 kN r4 <|
 c1 24 [ag (G5 v 41),ag (G5 l16 38)] fun l22 =>
 pO (g l22 0) fun v23 =>
 .br v23 (
 .ret (.bool false) []) (
 kN r2 <|
 c1 13 [g v 0,ag (G38 l14 0)] fun l24 =>
 pN (g l24 0) (iv 0) fun v25 =>
 .br v25 (
 .ret (.bool false) []) (
 .sw (g v 39) 0 (
 aV r0 v 8 131 140 215) (
 .sw (g v 39) 1 (
 aV r0 v 22 131 140 215) (
 .stuck 901)))))))) (
 .sw (g v 39) 0 (
 aV r0 v 8 95 104 179) (
 .sw (g v 39) 1 (
 aV r0 v 22 95 104 179) (
 .stuck 901))))))
theorem kq (vs : List Value) : aW PP Tryz.f7 (aG okL [(81, [5, 6, 7, 8])] [(21, .inv [21, 23] [0, 2, 6, 17, 18, 20, 22] [(6, []), (18, [])]), (27, .inv [24] [0, 2, 6, 17, 18, 20, 21] [(6, []), (18, [0, 1, 2, 3, 4, 5, 6, 7, 8, 9, 10, 11, 12, 13, 14, 15, 16, 17, 18, 19, 20, 21, 22, 23, 24, 25, 26, 27, 28, 29, 30, 31, 32, 33, 34, 35, 36, 37])]), (42, .inv [29] [6, 20, 26] [(6, []), (26, [])])] []) vs = bW vs := by kernel_rfl
theorem du {args vs} (ha : an PP Tryz.f7 args = some vs) (ho : Ones vs) {H O Q} (h : (bW vs).den PP Q H O) : Triple PP cK args H O Q :=
 am mixed (ao aE _ _ _) Tryz.func7 kq ha ho h
abbrev kb : FuncId := 8
def gD (v : List Value) : Tree :=
 .loop 2 2 [iv 0] fun C2 l0 =>
 pZ (g v 0) fun v1 =>
 pL (g l0 0) v1 fun v2 =>
 kV v2 <|
 pL (g l0 0) (iv 13) fun v3 =>
 kV v2 <|
 pK v2 v3 (.bool false) fun v4 =>
 .br v4 (
 pI 14 (g v 0) (g l0 0) fun v5 =>
 kP v5 <|
 .load [] (bc v5 11) 1 fun l6 =>
 pZ (g l6 0) fun v7 =>
 pG v7 (iv 5) fun v8 =>
 kV v8 <|
 kV v8 <|
 .pure [(v8,false)] (.idx 14) [g v 0,g l0 0] fun v9 =>
 .chk (.ptr [(v8,false)] v9) <|
 kV v8 <|
 kV v8 <|
 .load [(v8,false)] (bc v9 12) 1 fun l10 =>
 kV v8 <|
 pZ (g l10 0) fun v11 =>
 kV v8 <|
 pG v11 (iv 3) fun v12 =>
 kV v8 <|
 pK v8 (.bool true) v12 fun v13 =>
 .br v13 (
 .ret (.bool false) []) (
 .loop 28 7 [iv 0] fun C28 l14 =>
 pI 14 (g v 0) (g l0 0) fun v15 =>
 kP v15 <|
 .load [] (bc v15 12) 1 fun l16 =>
 pZ (g l16 0) fun v17 =>
 pL (g l14 0) v17 fun v18 =>
 .br v18 (
 pI 14 (g v 0) (g l0 0) fun v19 =>
 kP v19 <|
 .load [] (bc v19 12) 1 fun l20 =>
 pI 2 (g l20 0) (g l14 0) fun v21 =>
 kP v21 <|
 .load [] (bc v21 1) 1 fun l22 =>
 pZ (g l22 0) fun v23 =>
 pG v23 (iv 5) fun v24 =>
 .br v24 (
 .ret (.bool false) []) (
 pA (g l14 0) (iv 1) fun v25 =>
 .cont 28 C28 [v25] (Es [[g v 0],[g l0 0]]))) (
 pA (g l0 0) (iv 1) fun v26 =>
 .cont 2 C2 [v26] (Es [[g v 0]])))) (
 pZ (g v 0) fun v27 =>
 pM v27 (iv 12) fun v28 =>
 .ret v28 [])
theorem oe (vs : List Value) : aW PP Tryz.f8 (aG okL [(81, [5, 6, 7, 8])] [(2, .inv [3] [0] []), (7, .inv [4] [0, 3] [])] []) vs = gD vs := by kernel_rfl
theorem oZ {args vs} (ha : an PP Tryz.f8 args = some vs) (ho : Ones vs) {H O Q} (h : (gD vs).den PP Q H O) : Triple PP kb args H O Q :=
 am mixed (ao aE _ _ _) Tryz.func8 oe ha ho h
abbrev jZ : FuncId := 9
def iU (l1001 : List Value) (n1002 : Nat) (l1003 : List Value) (n1004 : Nat) (C1005 : List Value → Heap → Own → Prop) (r1006 r1007 : Nat) (i1008 : Int) : Tree :=
 pI 5 (g l1001 n1002) (g l1003 0) fun v23 =>
 kP v23 <|
 .load [] (bc v23 4) 1 fun l24 =>
 pZ (g l24 0) fun v25 =>
 pG v25 (iv 6) fun v26 =>
 .br v26 (
 .ret (.bool false) []) (
 pA (g l1003 0) (iv 1) fun v27 =>
 .cont n1004 C1005 [v27] (Es [[pt r1006 0],[g l1001 n1002],[.slice (some ⟨r1007,0,none⟩) 2 2],[iv 2],[iv i1008],((pt r1006 0)::G38 l1001 0),[pt r1007 0,g l1001 29,g l1001 30]]))
def gC (v : List Value) : Tree :=
 .newbox fun r0 =>
 kN r0 <|
 cS 30 [ag (G14 v 1)] (.agg 4) fun l0 =>
 pZ (g l0 0) fun v1 =>
 pG v1 (iv 40) fun v2 =>
 .br v2 (
 .ret (.bool false) []) (
 pZ (g l0 1) fun v3 =>
 pG v3 (iv 40) fun v4 =>
 .br v4 (
 .ret (.bool false) []) (
 pZ (g l0 2) fun v5 =>
 pG v5 (iv 40) fun v6 =>
 .br v6 (
 .ret (.bool false) []) (
 pZ (g l0 3) fun v7 =>
 pG v7 (iv 40) fun v8 =>
 .br v8 (
 .ret (.bool false) []) (
 kN r0 <|
 cS 30 [ag (G14 v 15)] (.agg 4) fun l9 =>
 pZ (g l9 0) fun v10 =>
 pG v10 (iv 40) fun v11 =>
 .br v11 (
 .ret (.bool false) []) (
 pZ (g l9 1) fun v12 =>
 pG v12 (iv 40) fun v13 =>
 .br v13 (
 .ret (.bool false) []) (
 pZ (g l9 2) fun v14 =>
 pG v14 (iv 40) fun v15 =>
 .br v15 (
 .ret (.bool false) []) (
 pZ (g l9 3) fun v16 =>
 pG v16 (iv 40) fun v17 =>
 .br v17 (
 .ret (.bool false) []) (
 kN r0 <|
 kN r0 <|
 .newbox fun r1 =>
 kN r1 <|
 pZ (g v 29) fun v18 =>
 pG v18 (iv 20) fun v19 =>
 .br v19 (
 .ret (.bool false) []) (
 .loop 108 16 [iv 0] fun C108 l20 =>
 pZ (g v 29) fun v21 =>
 pL (g l20 0) v21 fun v22 =>
 .br v22 (
 iU v 29 l20 108 C108 r0 r1 0) (
 kN r1 <|
 pZ (g v 30) fun v28 =>
 pG v28 (iv 20) fun v29 =>
 .br v29 (
 .ret (.bool false) []) (
 .loop 123 16 [iv 0] fun C123 l30 =>
 pZ (g v 30) fun v31 =>
 pL (g l30 0) v31 fun v32 =>
 .br v32 (
 iU v 30 l30 123 C123 r0 r1 1) (
 kN r0 <|
 pZ (g v 0) fun v38 =>
 pM v38 (iv 30) fun v39 =>
 kN r0 <|
 kV v39 <|
 kV v39 <|
 pZ (g v 31) fun v40 =>
 kV v39 <|
 pM v40 (iv 30) fun v41 =>
 kV v39 <|
 pK v39 v41 (.bool false) fun v42 =>
 kN r0 <|
 kV v42 <|
 kV v42 <|
 pZ (g v 32) fun v43 =>
 kV v42 <|
 pM v43 (iv 30) fun v44 =>
 kV v42 <|
 pK v42 v44 (.bool false) fun v45 =>
 .ret v45 []))))))))))))
theorem od (vs : List Value) : aW PP Tryz.f9 (aG okL [(81, [5, 6, 7, 8])] [(2, .unroll 3), (5, .unroll 5), (11, .unroll 3), (16, .inv [8] [1, 7, 29, 30, 31] [(1, []), (29, [])])] []) vs = gC vs := by kernel_rfl
theorem oY {args vs} (ha : an PP Tryz.f9 args = some vs) (ho : Ones vs) {H O Q} (h : (gC vs).den PP Q H O) : Triple PP jZ args H O Q :=
 am mixed (ao aE _ _ _) Tryz.func9 od ha ho h
abbrev jU : FuncId := 10
def iT (l1001 l1002 : List Value) (n1003 : Nat) (C1004 : List Value → Heap → Own → Prop) (r1005 : Nat) (l1006 : List Value) : Tree :=
 pO (g l1001 0) fun v34 =>
 .br v34 (
 .ret (.bool false) []) (
 pA (g l1002 0) (iv 1) fun v35 =>
 .cont n1003 C1004 [v35] (Es [[pt r1005 0],((pt r1005 0)::G38 l1006 0)]))
def gx (v : List Value) : Tree :=
 .newbox fun r0 =>
 kN r0 <|
 pL (g v 34) (iv 0) fun v0 =>
 kN r0 <|
 kV v0 <|
 kV v0 <|
 pG (g v 34) (iv 1) fun v1 =>
 kV v0 <|
 pK v0 (.bool true) v1 fun v2 =>
 kN r0 <|
 kV v2 <|
 kV v2 <|
 pL (g v 33) (iv 0) fun v3 =>
 kV v2 <|
 pK v2 (.bool true) v3 fun v4 =>
 kN r0 <|
 kV v4 <|
 kV v4 <|
 pG (g v 33) (iv 1000) fun v5 =>
 kV v4 <|
 pK v4 (.bool true) v5 fun v6 =>
 kN r0 <|
 kV v6 <|
 kV v6 <|
 pL (g v 35) (iv 0) fun v7 =>
 kV v6 <|
 pK v6 (.bool true) v7 fun v8 =>
 kN r0 <|
 kV v8 <|
 kV v8 <|
 pG (g v 35) (iv 10) fun v9 =>
 kV v8 <|
 pK v8 (.bool true) v9 fun v10 =>
 kN r0 <|
 kV v10 <|
 kV v10 <|
 pL (g v 36) (iv (-1)) fun v11 =>
 kV v10 <|
 pK v10 (.bool true) v11 fun v12 =>
 kN r0 <|
 kV v12 <|
 kV v12 <|
 pG (g v 36) (iv 1) fun v13 =>
 kV v12 <|
 pK v12 (.bool true) v13 fun v14 =>
 kN r0 <|
 kV v14 <|
 kV v14 <|
 pL (g v 37) (iv 0) fun v15 =>
 kV v14 <|
 pK v14 (.bool true) v15 fun v16 =>
 kN r0 <|
 kV v16 <|
 kV v16 <|
 pG (g v 37) (iv 2) fun v17 =>
 kV v16 <|
 pK v16 (.bool true) v17 fun v18 =>
 kN r0 <|
 kV v18 <|
 kV v18 <|
 pZ (g v 0) fun v19 =>
 kV v18 <|
 pG v19 (iv 500) fun v20 =>
 kV v18 <|
 pK v18 (.bool true) v20 fun v21 =>
 kN r0 <|
 kV v21 <|
 kV v21 <|
 pZ (g v 29) fun v22 =>
 kV v21 <|
 pG v22 (iv 200) fun v23 =>
 kV v21 <|
 pK v21 (.bool true) v23 fun v24 =>
 kN r0 <|
 kV v24 <|
 kV v24 <|
 pZ (g v 30) fun v25 =>
 kV v24 <|
 pG v25 (iv 200) fun v26 =>
 kV v24 <|
 pK v24 (.bool true) v26 fun v27 =>
 .br v27 (
 .ret (.bool false) []) (
 .loop 69 4 [iv 0] fun C69 l28 =>
 kN r0 <|
 pZ (g v 29) fun v29 =>
 pL (g l28 0) v29 fun v30 =>
 .br v30 (
 kN r0 <|
 pI 5 (g v 29) (g l28 0) fun v31 =>
 .load [] v31 5 fun l32 =>
 c1 31 [ag (G5 l32 0),.bool false] fun l33 =>
 iT l33 l28 69 C69 r0 v) (
 .loop 76 9 [iv 0] fun C76 l36 =>
 kN r0 <|
 pZ (g v 30) fun v37 =>
 pL (g l36 0) v37 fun v38 =>
 .br v38 (
 kN r0 <|
 pI 5 (g v 30) (g l36 0) fun v39 =>
 .load [] v39 5 fun l40 =>
 c1 31 [ag (G5 l40 0),.bool true] fun l41 =>
 iT l41 l36 76 C76 r0 v) (
 kN r0 <|
 c1 32 [ag (G14 v 1)] fun l44 =>
 .br (g l44 0) (
 kN r0 <|
 c1 32 [ag (G14 v 15)] fun l45 =>
 .br (g l45 0) (
 kN r0 <|
 c1 33 [ag (G38 v 0)] fun l46 =>
 .br (g l46 0) (
 kN r0 <|
 c1 34 [ag (G38 v 0)] fun l47 =>
 .ret (g l47 0) []) (
 .ret (.bool false) [])) (
 .ret (.bool false) [])) (
 .ret (.bool false) []))))
theorem nW (vs : List Value) : aW PP Tryz.f10 (aG okL [(81, [5, 6, 7, 8])] [(4, .inv [3] [1] [(1, [])]), (9, .inv [4] [1] [(1, [])])] []) vs = gx vs := by kernel_rfl
theorem oT {args vs} (ha : an PP Tryz.f10 args = some vs) (ho : Ones vs) {H O Q} (h : (gx vs).den PP Q H O) : Triple PP jU args H O Q :=
 am mixed (ao aE _ _ _) Tryz.func10 nW ha ho h
abbrev cY : FuncId := 11
end Go.Proofs.YtieaihgbjikggaaGreat
