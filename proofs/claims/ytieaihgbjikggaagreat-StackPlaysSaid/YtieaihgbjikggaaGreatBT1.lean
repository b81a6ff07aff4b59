/- The trees of the functions of this seat: printed by a tool of mine; each by the kernel's reckoning equal to the evaluator's. -/
import Derived.Test.YtieaihgbjikggaaGreatFw2
import Derived.Test.YtieaihgbjikggaaGreatProg
import Derived.KernelRfl
namespace Go.Proofs.YtieaihgbjikggaaGreat
open Go Go.Sx
set_option maxRecDepth 100000
noncomputable abbrev PP : Program := Tryz.prog
theorem mixed : PP.follows .mixedOrders = true := by kernel_rfl
def okL : List Nat := [2, 3, 4, 5, 6, 7, 8, 9, 10, 11, 12, 13, 14, 15, 16, 17, 18, 19, 20, 21, 22, 23, 24, 25, 26, 27, 28, 29, 30, 31, 32, 33, 34, 35, 36, 37, 38, 39, 40, 41, 42, 43, 44, 45, 46, 47, 48, 49, 50, 51, 52, 53, 54, 55, 56, 57, 58, 59, 60, 61, 62, 63, 64, 65, 66, 67, 68, 69, 70, 71, 72, 73, 74, 75, 76, 77, 78, 79, 80, 81, 82, 83, 84, 85, 86, 87, 88, 89, 90, 91, 92, 93, 94, 95, 96, 97, 98, 99, 100, 101, 102, 103, 104, 105, 106, 107, 108, 109, 110, 111, 112, 113, 114, 115, 116, 117, 118, 119, 120, 121, 122, 123, 124, 125, 126, 127, 128, 129, 130, 131, 132, 133, 134, 135, 136, 137, 138, 139, 140, 141, 142, 143, 144, 145, 146, 147, 148, 149]
theorem aB : okL.all (KD PP) = true := by kernel_rfl
abbrev aK : TypeId := 3
abbrev FU : TypeId := 4
abbrev AA : TypeId := 25
abbrev aU : TypeId := 41
abbrev ar : TypeId := 43
abbrev dF : TypeId := 48
abbrev dW : TypeId := 56
abbrev cR : TypeId := 76
abbrev fh : TypeId := 89
abbrev bf : TypeId := 123
abbrev cE : TypeId := 150
abbrev cV : TypeId := 152
abbrev Z0 : List Value := [.slice none 0 0,iv 0,iv 0,iv 0,iv 0,iv 0,.slice none 0 0,.slice none 0 0,.slice none 0 0,.slice none 0 0,.bool false,.bool false,.bool false,iv 0,iv 0,iv 0,iv 0,iv 0,iv 0,iv 0,.slice none 0 0,.slice none 0 0,.slice none 0 0,.slice none 0 0,.bool false,.bool false,.bool false,iv 0,iv 0,.slice none 0 0,.slice none 0 0,.slice none 0 0,.slice none 0 0,iv 0,iv 0,iv 0,iv 0,iv 0]
abbrev Z1 : List Value := [.string ⟨#[]⟩,iv 0,iv 0,iv 0,iv 0,iv 0,iv 0,iv 0,iv 0,iv 0,iv 0,.slice none 0 0,.slice none 0 0,iv 0]
abbrev Z2 : List Value := [iv 0,iv 0,iv 0,iv 0,iv 0,iv 0,iv 0,iv 0,iv 0,.bool false,.bool false,.bool false]
abbrev ib : FuncId := 3
def dY (v : List Value) : Tree :=
 .newbox fun r0 =>
 c1 8 [g v 0] fun l0 =>
 pO (g l0 0) fun v1 =>
 .br v1 (
 c1 11 [] fun l2 =>
 .ret (g l2 0) []) (
 kN r0 <|
 c1 9 [ag (G38 v 1)] fun l3 =>
 pO (g l3 0) fun v4 =>
 .br v4 (
 c1 11 [] fun l5 =>
 .ret (g l5 0) []) (
 kN r0 <|
 c1 10 [ag (G38 v 1)] fun l6 =>
 pO (g l6 0) fun v7 =>
 kV v7 <|
 pZ (g v 39) fun v8 =>
 kV v7 <|
 pG v8 (iv 12) fun v9 =>
 kV v7 <|
 pK v7 (.bool true) v9 fun v10 =>
 .br v10 (
 c1 11 [] fun l11 =>
 .ret (g l11 0) []) (
 .loop 21 4 ((iv 0)::G38 v 1) fun C21 l12 =>
 pZ (g v 39) fun v13 =>
 pL (g l12 0) v13 fun v14 =>
 .br v14 (
 pI 9 (g v 39) (g l12 0) fun v15 =>
 kP v15 <|
 kP (aS v15 2) <|
 .load [] (aS (aS v15 2) 4) 1 fun l16 =>
 pZ (g l16 0) fun v17 =>
 pG v17 (iv 6) fun v18 =>
 .br v18 (
 c1 11 [] fun l19 =>
 .ret (g l19 0) []) (
 kN r0 <|
 pI 9 (g v 39) (g l12 0) fun v20 =>
 .load [] v20 9 fun l21 =>
 cS 12 [g v 0,ag (G38 l12 1),ag (G9 l21 0)] (.tup [some 38,none]) fun l22 =>
 .newbox fun r1 =>
 kN r1 <|
 pO (g l22 38) fun v23 =>
 .br v23 (
 .ret (.bool false) []) (
 kN r1 <|
 kN r1 <|
 c1 13 [g v 0,ag (G38 l22 0)] fun l24 =>
 c1 14 [g v 0,ag (G38 l22 0)] fun l25 =>
 pN (g l24 0) (g l25 0) fun v26 =>
 .br v26 (
 .ret (.bool false) []) (
 kN r1 <|
 kN r0 <|
 pA (g l12 0) (iv 1) fun v27 =>
 .cont 21 C21 (v27::G38 l22 0) (Es [[g v 0],[g v 39],[pt r0 0],[pt r0 0,.tuple #[],.tuple #[],.tuple #[],.tuple #[],.tuple #[],.tuple #[],.tuple #[],.tuple #[],.tuple #[],.tuple #[],.tuple #[],.tuple #[],.tuple #[],.tuple #[],.tuple #[],.tuple #[],.tuple #[],.tuple #[],.tuple #[],.tuple #[],.tuple #[],.tuple #[],.tuple #[],.tuple #[],.tuple #[],.tuple #[],.tuple #[],.tuple #[],.tuple #[],.tuple #[],.tuple #[],.tuple #[],.tuple #[],.tuple #[],.tuple #[],.tuple #[],.tuple #[],.tuple #[]]]))))) (
 c1 11 [] fun l28 =>
 .ret (g l28 0) []))))
theorem lP (vs : List Value) : aT PP Tryz.f3 (aE okL [(81, [5, 6, 7, 8])] [(4, .inv [7] [0, 2, 4] [(4, [0, 1, 2, 3, 4, 5, 6, 7, 8, 9, 10, 11, 12, 13, 14, 15, 16, 17, 18, 19, 20, 21, 22, 23, 24, 25, 26, 27, 28, 29, 30, 31, 32, 33, 34, 35, 36, 37])])] []) vs = dY vs := by kernel_rfl
theorem mb {args vs} (ha : an PP Tryz.f3 args = some vs) (ho : Ones vs) {H O Q} (h : (dY vs).den PP Q H O) : Triple PP ib args H O Q :=
 am mixed (ao aB _ _ _) Tryz.func3 lP ha ho h
abbrev lB : FuncId := 8
def gV (v : List Value) : Tree :=
 .loop 2 2 [iv 0] fun C2 l0 =>
 pZ (g v 0) fun v1 =>
 pL (g l0 0) v1 fun v2 =>
 kV v2 <|
 pL (g l0 0) (iv 13) fun v3 =>
 kV v2 <|
 pK v2 v3 (.bool false) fun v4 =>
 .br v4 (
 pI 14 (g v 0) (g l0 0) fun v5 =>
 kP v5 <|
 .load [] (aS v5 11) 1 fun l6 =>
 pZ (g l6 0) fun v7 =>
 pG v7 (iv 5) fun v8 =>
 kV v8 <|
 kV v8 <|
 .pure [(v8,false)] (.idx 14) [g v 0,g l0 0] fun v9 =>
 .chk (.ptr [(v8,false)] v9) <|
 kV v8 <|
 kV v8 <|
 .load [(v8,false)] (aS v9 12) 1 fun l10 =>
 kV v8 <|
 pZ (g l10 0) fun v11 =>
 kV v8 <|
 pG v11 (iv 3) fun v12 =>
 kV v8 <|
 pK v8 (.bool true) v12 fun v13 =>
 .br v13 (
 .ret (.bool false) []) (
 .loop 28 7 [iv 0] fun C28 l14 =>
 pI 14 (g v 0) (g l0 0) fun v15 =>
 kP v15 <|
 .load [] (aS v15 12) 1 fun l16 =>
 pZ (g l16 0) fun v17 =>
 pL (g l14 0) v17 fun v18 =>
 .br v18 (
 pI 14 (g v 0) (g l0 0) fun v19 =>
 kP v19 <|
 .load [] (aS v19 12) 1 fun l20 =>
 pI 2 (g l20 0) (g l14 0) fun v21 =>
 kP v21 <|
 .load [] (aS v21 1) 1 fun l22 =>
 pZ (g l22 0) fun v23 =>
 pG v23 (iv 5) fun v24 =>
 .br v24 (
 .ret (.bool false) []) (
 pA (g l14 0) (iv 1) fun v25 =>
 .cont 28 C28 [v25] (Es [[g v 0],[g l0 0]]))) (
 pA (g l0 0) (iv 1) fun v26 =>
 .cont 2 C2 [v26] (Es [[g v 0]])))) (
 pZ (g v 0) fun v27 =>
 pM v27 (iv 12) fun v28 =>
 .ret v28 [])
theorem qe (vs : List Value) : aT PP Tryz.f8 (aE okL [(81, [5, 6, 7, 8])] [(2, .inv [3] [0] []), (7, .inv [4] [0, 3] [])] []) vs = gV vs := by kernel_rfl
theorem qU {args vs} (ha : an PP Tryz.f8 args = some vs) (ho : Ones vs) {H O Q} (h : (gV vs).den PP Q H O) : Triple PP lB args H O Q :=
 am mixed (ao aB _ _ _) Tryz.func8 qe ha ho h
abbrev lw : FuncId := 9
def jK (l1001 : List Value) (n1002 : Nat) (l1003 : List Value) (n1004 : Nat) (C1005 : List Value → Heap → Own → Prop) (r1006 r1007 : Nat) (i1008 : Int) : Tree :=
 pI 5 (g l1001 n1002) (g l1003 0) fun v23 =>
 kP v23 <|
 .load [] (aS v23 4) 1 fun l24 =>
 pZ (g l24 0) fun v25 =>
 pG v25 (iv 6) fun v26 =>
 .br v26 (
 .ret (.bool false) []) (
 pA (g l1003 0) (iv 1) fun v27 =>
 .cont n1004 C1005 [v27] (Es [[pt r1006 0],[g l1001 n1002],[.slice (some ⟨r1007,0,none⟩) 2 2],[iv 2],[iv i1008],((pt r1006 0)::G38 l1001 0),[pt r1007 0,g l1001 29,g l1001 30]]))
def gU (v : List Value) : Tree :=
 .newbox fun r0 =>
 kN r0 <|
 cS 30 [ag (G14 v 1)] (.agg 4) fun l0 =>
 pZ (g l0 0) fun v1 =>
 pG v1 (iv 40) fun v2 =>
 .br v2 (
 .ret (.bool false) []) (
 pZ (g l0 1) fun v3 =>
 pG v3 (iv 40) fun v4 =>
 .br v4 (
 .ret (.bool false) []) (
 pZ (g l0 2) fun v5 =>
 pG v5 (iv 40) fun v6 =>
 .br v6 (
 .ret (.bool false) []) (
 pZ (g l0 3) fun v7 =>
 pG v7 (iv 40) fun v8 =>
 .br v8 (
 .ret (.bool false) []) (
 kN r0 <|
 cS 30 [ag (G14 v 15)] (.agg 4) fun l9 =>
 pZ (g l9 0) fun v10 =>
 pG v10 (iv 40) fun v11 =>
 .br v11 (
 .ret (.bool false) []) (
 pZ (g l9 1) fun v12 =>
 pG v12 (iv 40) fun v13 =>
 .br v13 (
 .ret (.bool false) []) (
 pZ (g l9 2) fun v14 =>
 pG v14 (iv 40) fun v15 =>
 .br v15 (
 .ret (.bool false) []) (
 pZ (g l9 3) fun v16 =>
 pG v16 (iv 40) fun v17 =>
 .br v17 (
 .ret (.bool false) []) (
 kN r0 <|
 kN r0 <|
 .newbox fun r1 =>
 kN r1 <|
 pZ (g v 29) fun v18 =>
 pG v18 (iv 20) fun v19 =>
 .br v19 (
 .ret (.bool false) []) (
 .loop 108 16 [iv 0] fun C108 l20 =>
 pZ (g v 29) fun v21 =>
 pL (g l20 0) v21 fun v22 =>
 .br v22 (
 jK v 29 l20 108 C108 r0 r1 0) (
 kN r1 <|
 pZ (g v 30) fun v28 =>
 pG v28 (iv 20) fun v29 =>
 .br v29 (
 .ret (.bool false) []) (
 .loop 123 16 [iv 0] fun C123 l30 =>
 pZ (g v 30) fun v31 =>
 pL (g l30 0) v31 fun v32 =>
 .br v32 (
 jK v 30 l30 123 C123 r0 r1 1) (
 kN r0 <|
 pZ (g v 0) fun v38 =>
 pM v38 (iv 30) fun v39 =>
 kN r0 <|
 kV v39 <|
 kV v39 <|
 pZ (g v 31) fun v40 =>
 kV v39 <|
 pM v40 (iv 30) fun v41 =>
 kV v39 <|
 pK v39 v41 (.bool false) fun v42 =>
 kN r0 <|
 kV v42 <|
 kV v42 <|
 pZ (g v 32) fun v43 =>
 kV v42 <|
 pM v43 (iv 30) fun v44 =>
 kV v42 <|
 pK v42 v44 (.bool false) fun v45 =>
 .ret v45 []))))))))))))
theorem qd (vs : List Value) : aT PP Tryz.f9 (aE okL [(81, [5, 6, 7, 8])] [(2, .unroll 3), (5, .unroll 5), (11, .unroll 3), (16, .inv [8] [1, 7, 29, 30, 31] [(1, []), (29, [])])] []) vs = gU vs := by kernel_rfl
theorem qT {args vs} (ha : an PP Tryz.f9 args = some vs) (ho : Ones vs) {H O Q} (h : (gU vs).den PP Q H O) : Triple PP lw args H O Q :=
 am mixed (ao aB _ _ _) Tryz.func9 qd ha ho h
abbrev lk : FuncId := 10
def jI (l1001 l1002 : List Value) (n1003 : Nat) (C1004 : List Value → Heap → Own → Prop) (r1005 : Nat) (l1006 : List Value) : Tree :=
 pO (g l1001 0) fun v34 =>
 .br v34 (
 .ret (.bool false) []) (
 pA (g l1002 0) (iv 1) fun v35 =>
 .cont n1003 C1004 [v35] (Es [[pt r1005 0],((pt r1005 0)::G38 l1006 0)]))
def gN (v : List Value) : Tree :=
 .newbox fun r0 =>
 kN r0 <|
 pL (g v 34) (iv 0) fun v0 =>
 kN r0 <|
 kV v0 <|
 kV v0 <|
 pG (g v 34) (iv 1) fun v1 =>
 kV v0 <|
 pK v0 (.bool true) v1 fun v2 =>
 kN r0 <|
 kV v2 <|
 kV v2 <|
 pL (g v 33) (iv 0) fun v3 =>
 kV v2 <|
 pK v2 (.bool true) v3 fun v4 =>
 kN r0 <|
 kV v4 <|
 kV v4 <|
 pG (g v 33) (iv 1000) fun v5 =>
 kV v4 <|
 pK v4 (.bool true) v5 fun v6 =>
 kN r0 <|
 kV v6 <|
 kV v6 <|
 pL (g v 35) (iv 0) fun v7 =>
 kV v6 <|
 pK v6 (.bool true) v7 fun v8 =>
 kN r0 <|
 kV v8 <|
 kV v8 <|
 pG (g v 35) (iv 10) fun v9 =>
 kV v8 <|
 pK v8 (.bool true) v9 fun v10 =>
 kN r0 <|
 kV v10 <|
 kV v10 <|
 pL (g v 36) (iv (-1)) fun v11 =>
 kV v10 <|
 pK v10 (.bool true) v11 fun v12 =>
 kN r0 <|
 kV v12 <|
 kV v12 <|
 pG (g v 36) (iv 1) fun v13 =>
 kV v12 <|
 pK v12 (.bool true) v13 fun v14 =>
 kN r0 <|
 kV v14 <|
 kV v14 <|
 pL (g v 37) (iv 0) fun v15 =>
 kV v14 <|
 pK v14 (.bool true) v15 fun v16 =>
 kN r0 <|
 kV v16 <|
 kV v16 <|
 pG (g v 37) (iv 2) fun v17 =>
 kV v16 <|
 pK v16 (.bool true) v17 fun v18 =>
 kN r0 <|
 kV v18 <|
 kV v18 <|
 pZ (g v 0) fun v19 =>
 kV v18 <|
 pG v19 (iv 500) fun v20 =>
 kV v18 <|
 pK v18 (.bool true) v20 fun v21 =>
 kN r0 <|
 kV v21 <|
 kV v21 <|
 pZ (g v 29) fun v22 =>
 kV v21 <|
 pG v22 (iv 200) fun v23 =>
 kV v21 <|
 pK v21 (.bool true) v23 fun v24 =>
 kN r0 <|
 kV v24 <|
 kV v24 <|
 pZ (g v 30) fun v25 =>
 kV v24 <|
 pG v25 (iv 200) fun v26 =>
 kV v24 <|
 pK v24 (.bool true) v26 fun v27 =>
 .br v27 (
 .ret (.bool false) []) (
 .loop 69 4 [iv 0] fun C69 l28 =>
 kN r0 <|
 pZ (g v 29) fun v29 =>
 pL (g l28 0) v29 fun v30 =>
 .br v30 (
 kN r0 <|
 pI 5 (g v 29) (g l28 0) fun v31 =>
 .load [] v31 5 fun l32 =>
 c1 31 [ag (G5 l32 0),.bool false] fun l33 =>
 jI l33 l28 69 C69 r0 v) (
 .loop 76 9 [iv 0] fun C76 l36 =>
 kN r0 <|
 pZ (g v 30) fun v37 =>
 pL (g l36 0) v37 fun v38 =>
 .br v38 (
 kN r0 <|
 pI 5 (g v 30) (g l36 0) fun v39 =>
 .load [] v39 5 fun l40 =>
 c1 31 [ag (G5 l40 0),.bool true] fun l41 =>
 jI l41 l36 76 C76 r0 v) (
 kN r0 <|
 c1 32 [ag (G14 v 1)] fun l44 =>
 .br (g l44 0) (
 kN r0 <|
 c1 32 [ag (G14 v 15)] fun l45 =>
 .br (g l45 0) (
 kN r0 <|
 c1 33 [ag (G38 v 0)] fun l46 =>
 .br (g l46 0) (
 kN r0 <|
 c1 34 [ag (G38 v 0)] fun l47 =>
 .ret (g l47 0) []) (
 .ret (.bool false) [])) (
 .ret (.bool false) [])) (
 .ret (.bool false) []))))
theorem pV (vs : List Value) : aT PP Tryz.f10 (aE okL [(81, [5, 6, 7, 8])] [(4, .inv [3] [1] [(1, [])]), (9, .inv [4] [1] [(1, [])])] []) vs = gN vs := by kernel_rfl
theorem qM {args vs} (ha : an PP Tryz.f10 args = some vs) (ho : Ones vs) {H O Q} (h : (gN vs).den PP Q H O) : Triple PP lk args H O Q :=
 am mixed (ao aB _ _ _) Tryz.func10 pV ha ho h
abbrev di : FuncId := 11
end Go.Proofs.YtieaihgbjikggaaGreat
