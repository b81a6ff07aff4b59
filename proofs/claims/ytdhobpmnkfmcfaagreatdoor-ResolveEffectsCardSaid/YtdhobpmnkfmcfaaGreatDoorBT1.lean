/- The trees of the functions of this seat: printed by a tool of mine; each by the kernel's reckoning equal to the evaluator's. -/
import Derived.Test.YtdhobpmnkfmcfaaGreatDoorFw2
import Derived.Test.YtdhobpmnkfmcfaaGreatDoorProg
import Derived.KernelRfl
namespace Go.Proofs.YtdhobpmnkfmcfaaGreatDoor
open Go Go.Sx
set_option maxRecDepth 100000
noncomputable abbrev PP:Program:=Tryz.prog
theorem mixed:PP.follows .mixedOrders=true:=by kernel_rfl
def okL:List Nat:=[2,3,4,5,6,7,8,9,10,11,12,13,14,15,16,17,18,19,20,21,22,23,24,25,26,27,28,29,30,31,32,33,34,35,36,37,38,39,40,41,42,43,44,45,46,47,48,49,50,51,52,53,54,55,56,57,58,59,60,61,62,63,64,65,66,67,68,69,70,71,72,73,74,75,76,77,78,79,80,81,82,83,84,85,86,87,88,89,90,91,92,93,94,95,96,97,98,99,100,101,102,103,104,105,106,107,108,109,110,111,112,113,114,115,116,117,118,119,120,121,122,123,124,125,126,127,128,129,130,131,132,133,134,135,136,137,138,139,140,141,142,143,144,145,146,147,148,149,150,151,152,153,155,156,157,158,159,160,161,162,163,164,165,166,167,168,169,170,171,172,173,174,175,176,177,178,179,180,181,182,183,184,200,201,202,203,204,205,206,212]
theorem aB:okL.all (Tj PP)=true:=by kernel_rfl
abbrev aO:TypeId:=3
abbrev I1:TypeId:=4
abbrev FM:TypeId:=25
abbrev eA:TypeId:=36
abbrev eW:TypeId:=39
abbrev aD:TypeId:=41
abbrev bg:TypeId:=56
abbrev aM:TypeId:=82
abbrev gn:TypeId:=91
abbrev bm:TypeId:=122
abbrev cQ:TypeId:=196
abbrev dB:TypeId:=198
abbrev bj:TypeId:=206
abbrev zF:TypeId:=208
abbrev Z0:List Value:=[.slice none 0 0,iv 0,iv 0,iv 0,iv 0,iv 0,.slice none 0 0,.slice none 0 0,.slice none 0 0,.slice none 0 0,.bool false,.bool false,.bool false,iv 0,iv 0,iv 0,iv 0,iv 0,iv 0,iv 0,.slice none 0 0,.slice none 0 0,.slice none 0 0,.slice none 0 0,.bool false,.bool false,.bool false,iv 0,iv 0,.slice none 0 0,.slice none 0 0,.slice none 0 0,.slice none 0 0,iv 0,iv 0,iv 0,iv 0,iv 0]
abbrev Z1:List Value:=[.string ⟨#[]⟩,iv 2,iv 0,iv 0,iv 0,iv 0,iv 0,iv 0,iv 2,iv 2,iv 0,.slice none 0 0,.slice none 0 0,iv 0]
abbrev Z2:List Value:=[.string ⟨#[]⟩,iv 0,iv 0,iv 0,iv 0,iv 0,iv 0,iv 0,iv 0,iv 0,iv 0,.slice none 0 0,.slice none 0 0,iv 0]
abbrev Z3:List Value:=[iv 0,iv 0,iv 0,iv 0,iv 0,iv 0,iv 0,iv 0,iv 0,.bool false,.bool false,.bool false]
abbrev gm:FuncId:=3
def dM (v:List Value):Tree :=
 .newbox fun r0 =>
 .newbox fun r1 =>
 .newbox fun r2 =>
 c1 8 [g v 0] fun l0 =>
 pO (g l0 0) fun v1 =>
 .br v1 (
 c1 10 [] fun l2 =>
 .ret (g l2 0) []) (
 kN r0 <|
 c1 9 [ag (G38 v 1)] fun l3 =>
 pO (g l3 0) fun v4 =>
 kN r1 <|
 kV v4 <|
 kV v4 <|
 pG (g v 43) (iv 1000) fun v5 =>
 kV v4 <|
 pK v4 (.bool true) v5 fun v6 =>
 .br v6 (
 c1 10 [] fun l7 =>
 .ret (g l7 0) []) (
 kN r0 <|
 kN r1 <|
 kN r2 <|
 cS 11 [g v 0,ag (G38 v 1),g v 39,g v 40,ag (G5 v 41),.agg #[g v 46,g v 47],g v 48] (.tup [some 38,none]) fun l8 =>
 .newbox fun r3 =>
 kN r3 <|
 .br (g l8 38) (
 c1 10 [] fun l9 =>
 .ret (g l9 0) []) (
 .ret (.bool false) [])))
theorem lO (vs:List Value):aR PP Tryz.f3 (aF okL [(76,[5,6,7,8])] [] []) vs=dM vs:=by kernel_rfl
theorem mc {args vs} (ha:am PP Tryz.f3 args=some vs) (ho:Ones vs) {H O Q} (h:(dM vs).den PP Q H O):Triple PP gm args H O Q :=
 al mixed (an aB _ _ _) Tryz.func3 lO ha ho h
abbrev je:FuncId:=4
def bP (r1001 r1002:Nat) (l1003 l1004 l1005 l1006:List Value) (n1007 n1008:Nat) (C1009:List Value→Heap→Own→Prop):Tree :=
 kN r1001 <|
 kN r1002 <|
 kN r1002 <|
 kN r1002 <|
 kN r1002 <|
 cS 11 [g l1003 0,ag (G38 l1004 1),g l1005 0,g l1005 1,ag (G5 l1005 2),.agg #[g l1006 n1007,g l1006 n1008],g l1003 40] (.tup [some 38,none]) fun l25 =>
 .newbox fun r2 =>
 kN r2 <|
 pO (g l25 38) fun v26 =>
 .br v26 (
 .ret (.bool false) []) (
 kN r2 <|
 kN r1001 <|
 pA (g l1004 0) (iv 1) fun v27 =>
 .cont 16 C1009 (v27::G38 l25 0) (Es [[g l1003 0],[g l1003 39],[g l1003 40],[pt r1001 0],[pt r1001 0,.tuple #[],.tuple #[],.tuple #[],.tuple #[],.tuple #[],.tuple #[],.tuple #[],.tuple #[],.tuple #[],.tuple #[],.tuple #[],.tuple #[],.tuple #[],.tuple #[],.tuple #[],.tuple #[],.tuple #[],.tuple #[],.tuple #[],.tuple #[],.tuple #[],.tuple #[],.tuple #[],.tuple #[],.tuple #[],.tuple #[],.tuple #[],.tuple #[],.tuple #[],.tuple #[],.tuple #[],.tuple #[],.tuple #[],.tuple #[],.tuple #[],.tuple #[],.tuple #[],.tuple #[]]]))
def eR (v:List Value):Tree :=
 .newbox fun r0 =>
 c1 8 [g v 0] fun l0 =>
 pO (g l0 0) fun v1 =>
 .br v1 (
 c1 10 [] fun l2 =>
 .ret (g l2 0) []) (
 kN r0 <|
 c1 9 [ag (G38 v 1)] fun l3 =>
 pO (g l3 0) fun v4 =>
 kV v4 <|
 pZ (g v 39) fun v5 =>
 kV v4 <|
 pG v5 (iv 12) fun v6 =>
 kV v4 <|
 pK v4 (.bool true) v6 fun v7 =>
 .br v7 (
 c1 10 [] fun l8 =>
 .ret (g l8 0) []) (
 .loop 16 4 ((iv 0)::G38 v 1) fun C16 l9 =>
 pZ (g v 39) fun v10 =>
 pL (g l9 0) v10 fun v11 =>
 .br v11 (
 pI 10 (g v 39) (g l9 0) fun v12 =>
 .load [] v12 10 fun l13 =>
 .newbox fun r1 =>
 kN r1 <|
 kN r1 <|
 pG (g l13 4) (iv 1000) fun v14 =>
 .br v14 (
 c1 10 [] fun l15 =>
 .ret (g l15 0) []) (
 kN r0 <|
 kN r1 <|
 kN r1 <|
 c1 12 [g v 0,ag (G38 l9 1),g l13 0,g l13 3] fun l16 =>
 kN r1 <|
 pH (g l13 9) (iv 0) fun v17 =>
 kV v17 <|
 pZ (g l16 0) fun v18 =>
 kV v17 <|
 pG v18 (iv 0) fun v19 =>
 kV v17 <|
 pK v17 v19 (.bool false) fun v20 =>
 .br v20 (
 kN r1 <|
 pZ (g l16 0) fun v21 =>
 .pure [] (.bin .rem .int) [g l13 9,v21] fun v22 =>
 pI 2 (g l16 0) v22 fun v23 =>
 .load [] v23 2 fun l24 =>
 kN r1 <|
 bP r0 r1 v l9 l13 l24 0 1 C16) (
 bP r0 r1 v l9 l13 l13 7 8 C16))) (
 c1 10 [] fun l31 =>
 .ret (g l31 0) [])))
theorem mV (vs:List Value):aR PP Tryz.f4 (aF okL [(76,[5,6,7,8])] [(4,.inv [9] [0,2,3,5] [(5,[0,1,2,3,4,5,6,7,8,9,10,11,12,13,14,15,16,17,18,19,20,21,22,23,24,25,26,27,28,29,30,31,32,33,34,35,36,37])])] []) vs=eR vs:=by kernel_rfl
theorem nL {args vs} (ha:am PP Tryz.f4 args=some vs) (ho:Ones vs) {H O Q} (h:(eR vs).den PP Q H O):Triple PP je args H O Q :=
 al mixed (an aB _ _ _) Tryz.func4 mV ha ho h
abbrev nI:FuncId:=8
def jz (v:List Value):Tree :=
 .loop 2 2 [iv 0] fun C2 l0 =>
 pZ (g v 0) fun v1 =>
 pL (g l0 0) v1 fun v2 =>
 kV v2 <|
 pL (g l0 0) (iv 13) fun v3 =>
 kV v2 <|
 pK v2 v3 (.bool false) fun v4 =>
 .br v4 (
 pI 14 (g v 0) (g l0 0) fun v5 =>
 kP v5 <|
 .load [] (aU v5 11) 1 fun l6 =>
 pZ (g l6 0) fun v7 =>
 pG v7 (iv 5) fun v8 =>
 kV v8 <|
 kV v8 <|
 .pure [(v8,false)] (.idx 14) [g v 0,g l0 0] fun v9 =>
 .chk (.ptr [(v8,false)] v9) <|
 kV v8 <|
 kV v8 <|
 .load [(v8,false)] (aU v9 12) 1 fun l10 =>
 kV v8 <|
 pZ (g l10 0) fun v11 =>
 kV v8 <|
 pG v11 (iv 3) fun v12 =>
 kV v8 <|
 pK v8 (.bool true) v12 fun v13 =>
 .br v13 (
 .ret (.bool false) []) (
 .loop 28 7 [iv 0] fun C28 l14 =>
 pI 14 (g v 0) (g l0 0) fun v15 =>
 kP v15 <|
 .load [] (aU v15 12) 1 fun l16 =>
 pZ (g l16 0) fun v17 =>
 pL (g l14 0) v17 fun v18 =>
 .br v18 (
 pI 14 (g v 0) (g l0 0) fun v19 =>
 kP v19 <|
 .load [] (aU v19 12) 1 fun l20 =>
 pI 2 (g l20 0) (g l14 0) fun v21 =>
 kP v21 <|
 .load [] (aU v21 1) 1 fun l22 =>
 pZ (g l22 0) fun v23 =>
 pG v23 (iv 5) fun v24 =>
 .br v24 (
 .ret (.bool false) []) (
 pA (g l14 0) (iv 1) fun v25 =>
 .cont 28 C28 [v25] (Es [[g v 0],[g l0 0]]))) (
 pA (g l0 0) (iv 1) fun v26 =>
 .cont 2 C2 [v26] (Es [[g v 0]])))) (
 pZ (g v 0) fun v27 =>
 pM v27 (iv 12) fun v28 =>
 .ret v28 [])
theorem s8 (vs:List Value):aR PP Tryz.f8 (aF okL [(76,[5,6,7,8])] [(2,.inv [3] [0] []),(7,.inv [4] [0,3] [])] []) vs=jz vs:=by kernel_rfl
theorem uy {args vs} (ha:am PP Tryz.f8 args=some vs) (ho:Ones vs) {H O Q} (h:(jz vs).den PP Q H O):Triple PP nI args H O Q :=
 al mixed (an aB _ _ _) Tryz.func8 s8 ha ho h
abbrev nH:FuncId:=9
def lT (l1001:List Value) (n1002:Nat) (l1003:List Value) (n1004:Nat) (C1005:List Value→Heap→Own→Prop) (r1006 r1007:Nat) (i1008:Int):Tree :=
 pI 5 (g l1001 n1002) (g l1003 0) fun v23 =>
 kP v23 <|
 .load [] (aU v23 4) 1 fun l24 =>
 pZ (g l24 0) fun v25 =>
 pG v25 (iv 6) fun v26 =>
 .br v26 (
 .ret (.bool false) []) (
 pA (g l1003 0) (iv 1) fun v27 =>
 .cont n1004 C1005 [v27] (Es [[pt r1006 0],[g l1001 n1002],[.slice (some ⟨r1007,0,none⟩) 2 2],[iv 2],[iv i1008],((pt r1006 0)::G38 l1001 0),[pt r1007 0,g l1001 29,g l1001 30]]))
def jy (v:List Value):Tree :=
 .newbox fun r0 =>
 kN r0 <|
 cS 29 [ag (G14 v 1)] (.agg 4) fun l0 =>
 pZ (g l0 0) fun v1 =>
 pG v1 (iv 40) fun v2 =>
 .br v2 (
 .ret (.bool false) []) (
 pZ (g l0 1) fun v3 =>
 pG v3 (iv 40) fun v4 =>
 .br v4 (
 .ret (.bool false) []) (
 pZ (g l0 2) fun v5 =>
 pG v5 (iv 40) fun v6 =>
 .br v6 (
 .ret (.bool false) []) (
 pZ (g l0 3) fun v7 =>
 pG v7 (iv 40) fun v8 =>
 .br v8 (
 .ret (.bool false) []) (
 kN r0 <|
 cS 29 [ag (G14 v 15)] (.agg 4) fun l9 =>
 pZ (g l9 0) fun v10 =>
 pG v10 (iv 40) fun v11 =>
 .br v11 (
 .ret (.bool false) []) (
 pZ (g l9 1) fun v12 =>
 pG v12 (iv 40) fun v13 =>
 .br v13 (
 .ret (.bool false) []) (
 pZ (g l9 2) fun v14 =>
 pG v14 (iv 40) fun v15 =>
 .br v15 (
 .ret (.bool false) []) (
 pZ (g l9 3) fun v16 =>
 pG v16 (iv 40) fun v17 =>
 .br v17 (
 .ret (.bool false) []) (
 kN r0 <|
 kN r0 <|
 .newbox fun r1 =>
 kN r1 <|
 pZ (g v 29) fun v18 =>
 pG v18 (iv 20) fun v19 =>
 .br v19 (
 .ret (.bool false) []) (
 .loop 108 16 [iv 0] fun C108 l20 =>
 pZ (g v 29) fun v21 =>
 pL (g l20 0) v21 fun v22 =>
 .br v22 (
 lT v 29 l20 108 C108 r0 r1 0) (
 kN r1 <|
 pZ (g v 30) fun v28 =>
 pG v28 (iv 20) fun v29 =>
 .br v29 (
 .ret (.bool false) []) (
 .loop 123 16 [iv 0] fun C123 l30 =>
 pZ (g v 30) fun v31 =>
 pL (g l30 0) v31 fun v32 =>
 .br v32 (
 lT v 30 l30 123 C123 r0 r1 1) (
 kN r0 <|
 pZ (g v 0) fun v38 =>
 pM v38 (iv 30) fun v39 =>
 kN r0 <|
 kV v39 <|
 kV v39 <|
 pZ (g v 31) fun v40 =>
 kV v39 <|
 pM v40 (iv 30) fun v41 =>
 kV v39 <|
 pK v39 v41 (.bool false) fun v42 =>
 kN r0 <|
 kV v42 <|
 kV v42 <|
 pZ (g v 32) fun v43 =>
 kV v42 <|
 pM v43 (iv 30) fun v44 =>
 kV v42 <|
 pK v42 v44 (.bool false) fun v45 =>
 .ret v45 []))))))))))))
theorem s7 (vs:List Value):aR PP Tryz.f9 (aF okL [(76,[5,6,7,8])] [(2,.unroll 3),(5,.unroll 5),(11,.unroll 3),(16,.inv [8] [1,7,29,30,31] [(1,[]),(29,[])])] []) vs=jy vs:=by kernel_rfl
theorem ux {args vs} (ha:am PP Tryz.f9 args=some vs) (ho:Ones vs) {H O Q} (h:(jy vs).den PP Q H O):Triple PP nH args H O Q :=
 al mixed (an aB _ _ _) Tryz.func9 s7 ha ho h
abbrev dR:FuncId:=10
def jA (v:List Value):Tree :=
 .newbox fun r0 =>
 kN r0 <|
 cS 30 [iv 0,iv 1,.agg #[iv 1,iv 1,iv 3,iv 0,iv 0],.agg #[iv 3,iv 0],iv 9] (.tup [some 38,none]) fun l0 =>
 .newbox fun r1 =>
 kN r1 <|
 pO (g l0 38) fun v1 =>
 kN r1 <|
 kV v1 <|
 kV v1 <|
 .pure [(v1,false)] (.idx 12) [g l0 0,iv 2] fun v2 =>
 .chk (.ptr [(v1,false)] v2) <|
 kV v1 <|
 kV v1 <|
 .load [(v1,false)] (aU v2 5) 1 fun l3 =>
 kV v1 <|
 pN (g l3 0) (iv 3) fun v4 =>
 kV v1 <|
 pK v1 (.bool true) v4 fun v5 =>
 .br v5 (
 .ret (.bool false) []) (
 cS 30 [iv 0,iv 1,.agg #[iv 1,iv 4,iv 20,iv 0,iv 0],.agg #[iv 0,iv 1],iv 9] (.tup [some 38,none]) fun l6 =>
 kN r1 <|
 kN r0 <|
 cS 30 [iv 1,iv 3,.agg #[iv 3,iv 0,iv 5,iv 0,iv 0],.agg #[iv 0,iv 0],iv 9] (.tup [some 38,none]) fun l7 =>
 .newbox fun r2 =>
 kN r2 <|
 pO (g l6 38) fun v8 =>
 kV v8 <|
 kV v8 <|
 kN r1 <|
 kV v8 <|
 kV v8 <|
 pN (g l6 15) (iv 0) fun v9 =>
 kV v8 <|
 pK v8 (.bool true) v9 fun v10 =>
 kV v10 <|
 pO (g l7 38) fun v11 =>
 kV v10 <|
 pK v10 (.bool true) v11 fun v12 =>
 kV v12 <|
 kV v12 <|
 kN r2 <|
 kV v12 <|
 kV v12 <|
 pN (g l7 15) (iv 25) fun v13 =>
 kV v12 <|
 pK v12 (.bool true) v13 fun v14 =>
 .br v14 (
 .ret (.bool false) []) (
 cS 30 [iv 0,iv 1,.agg #[iv 6,iv 3,iv 0,iv 0,iv 0],.agg #[iv 1,iv 0],iv 9] (.tup [some 38,none]) fun l15 =>
 kN r1 <|
 kN r0 <|
 cS 30 [iv 0,iv 1,.agg #[iv 9,iv 0,iv 2,iv 0,iv 0],.agg #[iv 0,iv 0],iv 9] (.tup [some 38,none]) fun l16 =>
 kN r2 <|
 pO (g l15 38) fun v17 =>
 .br v17 (
 .ret (.bool false) []) (
 kN r1 <|
 cS 31 [] (.agg 38) fun l18 =>
 c1 28 [ag (G38 l15 0),ag (G38 l18 0)] fun l19 =>
 pO (g l19 0) fun v20 =>
 kV v20 <|
 pO (g l16 38) fun v21 =>
 kV v20 <|
 pK v20 (.bool true) v21 fun v22 =>
 kN r2 <|
 kV v22 <|
 kV v22 <|
 .pure [(v22,false)] (.idx 12) [g l16 0,iv 0] fun v23 =>
 .chk (.ptr [(v22,false)] v23) <|
 kV v22 <|
 kV v22 <|
 .load [(v22,false)] (aU v23 6) 1 fun l24 =>
 kV v22 <|
 pN (g l24 0) (iv 2) fun v25 =>
 kV v22 <|
 pK v22 (.bool true) v25 fun v26 =>
 .br v26 (
 .ret (.bool false) []) (
 kN r0 <|
 cS 30 [iv 0,iv 2,.agg #[iv 9,iv 0,iv 2,iv 0,iv 0],.agg #[iv 0,iv 0],iv 9] (.tup [some 38,none]) fun l27 =>
 kN r1 <|
 kN r0 <|
 cS 30 [iv 1,iv 3,.agg #[iv 2,iv 0,iv 1,iv 0,iv 0],.agg #[iv 0,iv 0],iv 9] (.tup [some 38,none]) fun l28 =>
 kN r2 <|
 pO (g l27 38) fun v29 =>
 .br v29 (
 .ret (.bool false) []) (
 kN r1 <|
 cS 31 [] (.agg 38) fun l30 =>
 c1 28 [ag (G38 l27 0),ag (G38 l30 0)] fun l31 =>
 pO (g l31 0) fun v32 =>
 kV v32 <|
 pO (g l28 38) fun v33 =>
 kV v32 <|
 pK v32 (.bool true) v33 fun v34 =>
 kV v34 <|
 kV v34 <|
 kN r2 <|
 kV v34 <|
 kV v34 <|
 pO (g l28 24) fun v35 =>
 kV v34 <|
 pK v34 (.bool true) v35 fun v36 =>
 kV v36 <|
 kV v36 <|
 kN r2 <|
 kV v36 <|
 kV v36 <|
 pK v36 (.bool true) (g l28 10) fun v37 =>
 .br v37 (
 .ret (.bool false) []) (
 .newbox fun r3 =>
 kN r3 <|
 kN r3 <|
 kN r0 <|
 cS 30 [iv 0,iv 1,.agg #[iv 10,iv 0,iv 1,iv 1,iv 0],.agg #[iv 0,iv 0],iv 3] (.tup [some 38,none]) fun l38 =>
 kN r1 <|
 kN r3 <|
 kN r0 <|
 cS 30 [iv 0,iv 1,.agg #[iv 10,iv 0,iv 1,iv 1,iv 0],.agg #[iv 0,iv 0],iv 4] (.tup [some 38,none]) fun l39 =>
 kN r2 <|
 pO (g l38 38) fun v40 =>
 .br v40 (
 .ret (.bool false) []) (
 kN r1 <|
 cS 31 [] (.agg 38) fun l41 =>
 c1 28 [ag (G38 l38 0),ag (G38 l41 0)] fun l42 =>
 pO (g l42 0) fun v43 =>
 kV v43 <|
 pO (g l39 38) fun v44 =>
 kV v43 <|
 pK v43 (.bool true) v44 fun v45 =>
 kN r2 <|
 kV v45 <|
 kV v45 <|
 pZ (g l39 0) fun v46 =>
 kV v45 <|
 pN v46 (iv 4) fun v47 =>
 kV v45 <|
 pK v45 (.bool true) v47 fun v48 =>
 kN r2 <|
 kV v48 <|
 kV v48 <|
 .pure [(v48,false)] (.idx 12) [g l39 0,iv 3] fun v49 =>
 .chk (.ptr [(v48,false)] v49) <|
 kV v48 <|
 kV v48 <|
 .load [(v48,false)] v49 1 fun l50 =>
 kV v48 <|
 pN (g l50 0) (iv 4) fun v51 =>
 kV v48 <|
 pK v48 (.bool true) v51 fun v52 =>
 kN r2 <|
 kV v52 <|
 kV v52 <|
 .pure [(v52,false)] (.idx 12) [g l39 0,iv 3] fun v53 =>
 .chk (.ptr [(v52,false)] v53) <|
 kV v52 <|
 kV v52 <|
 .load [(v52,false)] (aU v53 1) 1 fun l54 =>
 kV v52 <|
 pN (g l54 0) (iv (-1)) fun v55 =>
 kV v52 <|
 pK v52 (.bool true) v55 fun v56 =>
 .br v56 (
 .ret (.bool false) []) (
 c1 32 [] fun l57 =>
 cS 31 [] (.agg 38) fun l58 =>
 cS 15 [g l57 0,ag (G38 l58 0),iv 9] (.tup [some 38,some 5,none]) fun l59 =>
 .newbox fun r4 =>
 .newbox fun r5 =>
 kN r4 <|
 kN r5 <|
 kN r0 <|
 c1 32 [] fun l60 =>
 cS 31 [] (.agg 38) fun l61 =>
 cS 26 [g l60 0,ag (G38 l61 0),iv 2,iv 1,.agg #[iv 2,iv 0,iv 1,iv 0,iv 0],.agg #[iv 0,iv 0],iv 9] (.tup [some 38,none]) fun l62 =>
 .newbox fun r6 =>
 kN r6 <|
 pE (g l59 43) (iv 9) fun v63 =>
 kV v63 <|
 pE (g l62 38) (iv 2) fun v64 =>
 kV v63 <|
 pK v63 v64 (.bool false) fun v65 =>
 .ret v65 []))))))))
theorem s9 (vs:List Value):aR PP Tryz.f10 (aF okL [(76,[5,6,7,8])] [] []) vs=jA vs:=by kernel_rfl
theorem uz {args vs} (ha:am PP Tryz.f10 args=some vs) (ho:Ones vs) {H O Q} (h:(jA vs).den PP Q H O):Triple PP dR args H O Q :=
 al mixed (an aB _ _ _) Tryz.func10 s9 ha ho h
abbrev pF:FuncId:=11
def mK (r1001 r1002 r1003:Nat) (l1004 l1005 l1006:List Value) (r1007:Nat):Tree :=
 kN r1001 <|
 kN r1002 <|
 kN r1001 <|
 kN r1003 <|
 c1 17 [ag (G38 l1004 0),g l1004 38,ag Z0,iv 2,ag (G38 l1005 1),ag (G38 l1006 0)] fun l8 =>
 kN r1007 <|
 kN r1007 <|
 .ret (.tuple #[ag (G38 l1005 1),g l8 0]) []
def kj (v:List Value):Tree :=
 .newbox fun r0 =>
 .newbox fun r1 =>
 .newbox fun r2 =>
 .newbox fun r3 =>
 kN r0 <|
 cS 14 [ag (G38 v 1)] (.agg 38) fun l0 =>
 .newbox fun r4 =>
 kN r4 <|
 kN r0 <|
 kN r1 <|
 kN r2 <|
 cS 26 [g v 0,ag (G38 v 1),g v 39,g v 40,ag (G5 v 41),.agg #[g v 46,g v 47],g v 48] (.tup [some 38,none]) fun l1 =>
 .newbox fun r5 =>
 kN r5 <|
 kN r0 <|
 c1 16 [ag (G38 v 1)] fun l2 =>
 pO (g l2 0) fun v3 =>
 kV v3 <|
 pL (g v 39) (iv 0) fun v4 =>
 kV v3 <|
 pK v3 (.bool true) v4 fun v5 =>
 kV v5 <|
 pG (g v 39) (iv 1) fun v6 =>
 kV v5 <|
 pK v5 (.bool true) v6 fun v7 =>
 .br v7 (
 mK r0 r5 r4 l1 v l0 r3) (
 kN r1 <|
 c1 23 [ag (G5 v 41)] fun l9 =>
 pO (g l9 0) fun v10 =>
 .br v10 (
 mK r0 r5 r4 l1 v l0 r3) (
 kN r0 <|
 kN r1 <|
 kN r2 <|
 cS 33 [g v 0,ag (G38 v 1),g v 39,g v 40,ag (G5 v 41),.agg #[g v 46,g v 47],g v 48] (.agg 38) fun l12 =>
 .newbox fun r6 =>
 kN r6 <|
 kN r6 <|
 kN r5 <|
 kN r6 <|
 kN r0 <|
 kN r4 <|
 c1 17 [ag (G38 l1 0),g l1 38,ag (G38 l12 0),iv 0,ag (G38 v 1),ag (G38 l0 0)] fun l13 =>
 kN r3 <|
 kN r3 <|
 .ret (.tuple #[ag (G38 l12 0),g l13 0]) []))
theorem uQ (vs:List Value):aR PP Tryz.f11 (aF okL [(76,[5,6,7,8])] [] []) vs=kj vs:=by kernel_rfl
theorem vo {args vs} (ha:am PP Tryz.f11 args=some vs) (ho:Ones vs) {H O Q} (h:(kj vs).den PP Q H O):Triple PP pF args H O Q :=
 al mixed (an aB _ _ _) Tryz.func11 uQ ha ho h
abbrev kp:FuncId:=12
def mH (l1001:List Value) (C1002:List Value→Heap→Own→Prop) (l1003 l1004:List Value) (r1005:Nat):Tree :=
 pS (g l1001 1) (iv 1) fun v33 =>
 .cont 57 C1002 [g l1003 0,v33] (Es [[g l1004 0],[pt r1005 0],((pt r1005 0)::G38 l1004 1)])
def jY (v:List Value):Tree :=
 .newbox fun r0 =>
 kN r0 <|
 c1 16 [ag (G38 v 1)] fun l0 =>
 pO (g l0 0) fun v1 =>
 kV v1 <|
 pL (g v 39) (iv 0) fun v2 =>
 kV v1 <|
 pK v1 (.bool true) v2 fun v3 =>
 kV v3 <|
 pG (g v 39) (iv 1) fun v4 =>
 kV v3 <|
 pK v3 (.bool true) v4 fun v5 =>
 .br v5 (
 .ret (.slice none 0 0) []) (
 kN r0 <|
 kN r0 <|
 pS (iv 1) (g v 39) fun v6 =>
 c1 34 [g v 0,ag (G38 v 1),g v 39] fun l7 =>
 c1 34 [g v 0,ag (G38 v 1),v6] fun l8 =>
 .prim (.bi .append #[26,26] 26) [.slice none 0 0,g l7 0] [] [] .one fun l9 _ =>
 .prim (.bi .append #[26,26] 26) [g l9 0,g l8 0] [] [] .one fun l10 _ =>
 c1 36 [g l10 0] fun l11 =>
 c1 35 [g l11 0] fun l12 =>
 pS (iv 1) (g v 39) fun v13 =>
 .newbox fun r1 =>
 pE (g v 40) (iv 1) fun v14 =>
 .br v14 (
 .ret (g l12 0) []) (
 pE (g v 40) (iv 2) fun v15 =>
 .br v15 (
 c1 35 [g l7 0] fun l16 =>
 .ret (g l16 0) []) (
 pE (g v 40) (iv 3) fun v17 =>
 .br v17 (
 c1 35 [g l8 0] fun l18 =>
 .ret (g l18 0) []) (
 pE (g v 40) (iv 4) fun v19 =>
 .br v19 (
 .ret (.slice (some ⟨r1,0,none⟩) 2 2) [⟨r1,41,[iv 0,v13,iv 0,g v 39]⟩]) (
 pE (g v 40) (iv 5) fun v20 =>
 .br v20 (
 .prim (.bi .append #[51,51] 51) [.slice (some ⟨r1,0,none⟩) 2 2,g l12 0] [⟨r1,41,[iv 0,v13,iv 0,g v 39]⟩] [] .one fun l21 _ =>
 .ret (g l21 0) []) (
 pE (g v 40) (iv 6) fun v22 =>
 .br v22 (
 kN r0 <|
 pZ (g v 30) fun v23 =>
 pS v23 (iv 1) fun v24 =>
 .loop 57 20 [.slice none 0 0,v24] fun C57 l25 =>
 pH (g l25 1) (iv 0) fun v26 =>
 .br v26 (
 kN r0 <|
 pI 5 (g v 30) (g l25 1) fun v27 =>
 .load [] v27 5 fun l28 =>
 c1 37 [g v 0,ag (G5 l28 0)] fun l29 =>
 .br (g l29 0) (
 kN r0 <|
 pI 5 (g v 30) (g l25 1) fun v30 =>
 kP v30 <|
 .load [] (aU v30 1) 1 fun l31 =>
 .newbox fun r2 =>
 .prim (.bi .append #[51,51] 51) [g l25 0,.slice (some ⟨r2,0,none⟩) 1 1] [⟨r2,41,[g l31 0,iv 0]⟩] [] .one fun l32 _ =>
 mH l25 C57 l32 v r0) (
 mH l25 C57 l25 v r0)) (
 .ret (g l25 0) [])) (
 .ret (.slice none 0 0) [])))))))
theorem uG (vs:List Value):aR PP Tryz.f12 (aF okL [(76,[5,6,7,8])] [(20,.inv [13,14] [0,5] [(5,[])])] []) vs=jY vs:=by kernel_rfl
theorem u7 {args vs} (ha:am PP Tryz.f12 args=some vs) (ho:Ones vs) {H O Q} (h:(jY vs).den PP Q H O):Triple PP kp args H O Q :=
 al mixed (an aB _ _ _) Tryz.func12 uG ha ho h
abbrev kr:FuncId:=14
def kh (v:List Value):Tree :=
 .newbox fun r0 =>
 .newbox fun r1 =>
 kN r0 <|
 .prim (.bi .append #[23,23] 23) [.slice none 0 0,g v 0] [] [] .one fun l0 _ =>
 kN r0 <|
 kN r0 <|
 .prim (.bi .append #[26,26] 26) [.slice none 0 0,g v 6] [] [] .one fun l1 _ =>
 kN r0 <|
 kN r0 <|
 .prim (.bi .append #[26,26] 26) [.slice none 0 0,g v 7] [] [] .one fun l2 _ =>
 kN r0 <|
 kN r0 <|
 .prim (.bi .append #[26,26] 26) [.slice none 0 0,g v 8] [] [] .one fun l3 _ =>
 kN r0 <|
 kN r0 <|
 .prim (.bi .append #[26,26] 26) [.slice none 0 0,g v 9] [] [] .one fun l4 _ =>
 kN r0 <|
 kN r0 <|
 .prim (.bi .append #[26,26] 26) [.slice none 0 0,g v 20] [] [] .one fun l5 _ =>
 kN r0 <|
 kN r0 <|
 .prim (.bi .append #[26,26] 26) [.slice none 0 0,g v 21] [] [] .one fun l6 _ =>
 kN r0 <|
 kN r0 <|
 .prim (.bi .append #[26,26] 26) [.slice none 0 0,g v 22] [] [] .one fun l7 _ =>
 kN r0 <|
 kN r0 <|
 .prim (.bi .append #[26,26] 26) [.slice none 0 0,g v 23] [] [] .one fun l8 _ =>
 kN r0 <|
 kN r0 <|
 kN r0 <|
 c1 38 [g v 29] fun l9 =>
 c1 38 [g v 30] fun l10 =>
 kN r0 <|
 kN r0 <|
 kN r0 <|
 .prim (.bi .append #[26,26] 26) [.slice none 0 0,g v 31] [] [] .one fun l11 _ =>
 kN r0 <|
 kN r0 <|
 .prim (.bi .append #[31,31] 31) [.slice none 0 0,g v 32] [] [] .one fun l12 _ =>
 kN r0 <|
 kN r0 <|
 kN r1 <|
 kN r1 <|
 .ret (ag ((g l0 0)::(G5 v 1++((g l1 0)::((g l2 0)::((g l3 0)::((g l4 0)::(G10 v 10++((g l5 0)::((g l6 0)::((g l7 0)::((g l8 0)::(G5 v 24++((g l9 0)::((g l10 0)::((g l11 0)::((g l12 0)::G5 v 33))))))))))))))))) []
theorem uN (vs:List Value):aR PP Tryz.f14 (aF okL [(76,[5,6,7,8])] [(3,.unroll 3)] []) vs=kh vs:=by kernel_rfl
theorem vm {args vs} (ha:am PP Tryz.f14 args=some vs) (ho:Ones vs) {H O Q} (h:(kh vs).den PP Q H O):Triple PP kr args H O Q :=
 al mixed (an aB _ _ _) Tryz.func14 uN ha ho h
end Go.Proofs.YtdhobpmnkfmcfaaGreatDoor
