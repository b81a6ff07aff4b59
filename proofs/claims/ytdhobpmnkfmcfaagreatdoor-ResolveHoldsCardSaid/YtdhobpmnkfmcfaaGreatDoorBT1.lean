/- The trees of the functions of this seat: printed by a tool of mine; each by the kernel's reckoning equal to the evaluator's. -/
import Derived.Test.YtdhobpmnkfmcfaaGreatDoorFw2
import Derived.Test.YtdhobpmnkfmcfaaGreatDoorProg
import Derived.KernelRfl
namespace Go.Proofs.YtdhobpmnkfmcfaaGreatDoor
open Go Go.Sx
set_option maxRecDepth 100000
noncomputable abbrev PP:Program:=Tryz.prog
theorem mixed:PP.follows .mixedOrders=true:=by kernel_rfl
def okL:List Nat:=[2,3,4,5,6,7,8,9,10,11,12,13,14,15,16,17,18,19,20,21,22,23,24,25,26,27,28,29,30,31,32,33,34,35,36,37,38,39,40,41,42,43,44,45,46,47,48,49,50,51,52,53,54,55,56,57,58,59,60,61,62,63,64,65,66,67,68,69,70,71,72,73,74,75,76,77,78,79,80,81,82,83,84,85,86,87,88,89,90,91,92,93,94,95,96,97,98,99,100,101,102,103,104,105,106,107,108,109,110,111,112,113,114,115,116,117,118,119,120,121,122,123,124,125,126,127,128,129,130,131,132,133,134,135,136,137,138,139,140,141,142,143,144,145,146,147,148,149,150,151,152,153,155,156,157,158,159,160,161,162,163,164,165,166,167,168,169,170,171,172,173,174,175,176,177,178,179,180,181,182,183,184,200,201,202,203,204,205,206,212]
theorem ay:okL.all (Re PP)=true:=by kernel_rfl
abbrev aM:TypeId:=3
abbrev Hi:TypeId:=4
abbrev D7:TypeId:=25
abbrev dP:TypeId:=36
abbrev eA:TypeId:=39
abbrev az:TypeId:=41
abbrev bB:TypeId:=56
abbrev aO:TypeId:=82
abbrev fN:TypeId:=91
abbrev bq:TypeId:=122
abbrev cE:TypeId:=196
abbrev dh:TypeId:=198
abbrev bg:TypeId:=206
abbrev ye:TypeId:=208
abbrev Z0:List Value:=[.slice none 0 0,iv 0,iv 0,iv 0,iv 0,iv 0,.slice none 0 0,.slice none 0 0,.slice none 0 0,.slice none 0 0,.bool false,.bool false,.bool false,iv 0,iv 0,iv 0,iv 0,iv 0,iv 0,iv 0,.slice none 0 0,.slice none 0 0,.slice none 0 0,.slice none 0 0,.bool false,.bool false,.bool false,iv 0,iv 0,.slice none 0 0,.slice none 0 0,.slice none 0 0,.slice none 0 0,iv 0,iv 0,iv 0,iv 0,iv 0]
abbrev Z1:List Value:=[.string ⟨#[]⟩,iv 2,iv 0,iv 0,iv 0,iv 0,iv 0,iv 0,iv 2,iv 2,iv 0,.slice none 0 0,.slice none 0 0,iv 0]
abbrev Z2:List Value:=[.string ⟨#[]⟩,iv 0,iv 0,iv 0,iv 0,iv 0,iv 0,iv 0,iv 0,iv 0,iv 0,.slice none 0 0,.slice none 0 0,iv 0]
abbrev Z3:List Value:=[iv 0,iv 0,iv 0,iv 0,iv 0,iv 0,iv 0,iv 0,iv 0,.bool false,.bool false,.bool false]
abbrev ig:FuncId:=7
def bj (r1001 r1002:Nat) (l1003 l1004:List Value) (n1005 n1006 n1007 n1008 n1009 n1010:Nat) (l1011:List Value) (C1012:List Value→Heap→Own→Prop) (r1013:Nat):Tree :=
 kN r1001 <|
 .newbox fun r4 =>
 .newbox fun r5 =>
 kN r4 <|
 kN r5 <|
 kN r1002 <|
 pN (g l1003 41) (iv 2) fun v29 =>
 kN r4 <|
 kV v29 <|
 kV v29 <|
 pZ (g l1004 n1005) fun v30 =>
 kN r5 <|
 kV v29 <|
 kV v29 <|
 pZ (g l1003 n1006) fun v31 =>
 kV v29 <|
 kV v29 <|
 pN v30 v31 fun v32 =>
 kV v29 <|
 kN r4 <|
 kV v32 <|
 kV v29 <|
 kN r5 <|
 kV v32 <|
 kV v29 <|
 kV v32 <|
 kV v29 <|
 kV v32 <|
 kV v29 <|
 .pure [] (.bin .neq .bool) [g l1004 n1007,g l1003 n1008] fun v33 =>
 kV v29 <|
 kV v32 <|
 kV v29 <|
 pK v32 (.bool true) v33 fun v34 =>
 kV v29 <|
 pK v29 v34 (.bool false) fun v35 =>
 kN r4 <|
 kV v35 <|
 kV v35 <|
 pZ (g l1004 n1005) fun v36 =>
 kN r5 <|
 kV v35 <|
 kV v35 <|
 pZ (g l1003 n1006) fun v37 =>
 kV v35 <|
 kV v35 <|
 pG v36 v37 fun v38 =>
 kV v35 <|
 pK v35 (.bool true) v38 fun v39 =>
 .br v39 (
 .ret (.bool false) []) (
 kN r4 <|
 kN r5 <|
 kN r4 <|
 pZ (g l1004 n1005) fun v40 =>
 .pure [] (.slc 1 false true false) [g l1003 n1006,v40] fun v41 =>
 c1 25 [g l1004 n1005,v41] fun l42 =>
 pO (g l42 0) fun v43 =>
 .br v43 (
 .ret (.bool false) []) (
 kN r4 <|
 kN r5 <|
 pG (g l1004 n1009) (g l1003 n1010) fun v44 =>
 kN r1002 <|
 kV v44 <|
 kV v44 <|
 pN (g l1003 41) (iv 3) fun v45 =>
 kV v44 <|
 pK v44 v45 (.bool false) fun v46 =>
 kN r4 <|
 kV v46 <|
 kN r5 <|
 kV v46 <|
 kV v46 <|
 kV v46 <|
 pL (g l1004 n1009) (g l1003 n1010) fun v47 =>
 kV v46 <|
 kN r1002 <|
 kV v47 <|
 kV v46 <|
 kV v47 <|
 kV v46 <|
 pN (g l1003 41) (iv 4) fun v48 =>
 kV v46 <|
 kV v47 <|
 kV v46 <|
 pK v47 v48 (.bool false) fun v49 =>
 kV v46 <|
 kN r1002 <|
 kV v49 <|
 kV v46 <|
 kV v49 <|
 kV v46 <|
 pN (g l1003 41) (iv 1) fun v50 =>
 kV v46 <|
 kV v49 <|
 kV v46 <|
 pK v49 v50 (.bool false) fun v51 =>
 kV v46 <|
 pK v46 (.bool true) v51 fun v52 =>
 .br v52 (
 .ret (.bool false) []) (
 pA (g l1011 0) (iv 1) fun v53 =>
 .cont 76 C1012 [v53] (Es [[g l1003 48],[pt r1001 0],[pt r1002 0],[pt r1013 0],((pt r1001 0)::G38 l1003 1),((pt r1002 0)::G5 l1003 41),((pt r1013 0)::G38 l1004 0)]))))
def bJ (r1014 r1015 r1016:Nat) (l1017 l1018:List Value):Tree :=
 .loop 76 9 [iv 0] fun C76 l27 =>
 pL (g l27 0) (iv 2) fun v28 =>
 .br v28 (
 .sw (g l27 0) 0 (
 kN r1014 <|
 .sw (g l27 0) 0 (
 bj r1015 r1016 l1017 l1018 6 7 10 11 1 2 l27 C76 r1014) (
 .sw (g l27 0) 1 (
 bj r1015 r1016 l1017 l1018 6 21 10 25 1 16 l27 C76 r1014) (
 .stuck 901))) (
 .sw (g l27 0) 1 (
 kN r1014 <|
 .sw (g l27 0) 0 (
 bj r1015 r1016 l1017 l1018 20 7 24 11 15 2 l27 C76 r1014) (
 .sw (g l27 0) 1 (
 bj r1015 r1016 l1017 l1018 20 21 24 25 15 16 l27 C76 r1014) (
 .stuck 901))) (
 .stuck 901))) (
 kN r1014 <|
 pZ (g l1018 0) fun v129 =>
 kN r1015 <|
 pZ (g l1017 1) fun v130 =>
 pN v129 v130 fun v131 =>
 kN r1016 <|
 kV v131 <|
 kV v131 <|
 pN (g l1017 41) (iv 10) fun v132 =>
 kV v131 <|
 kN r1014 <|
 kV v132 <|
 kV v131 <|
 kV v132 <|
 kV v131 <|
 pZ (g l1018 0) fun v133 =>
 kN r1015 <|
 kV v132 <|
 kV v131 <|
 kV v132 <|
 kV v131 <|
 pZ (g l1017 1) fun v134 =>
 kV v132 <|
 kV v131 <|
 pA v134 (iv 1) fun v135 =>
 kV v132 <|
 kV v131 <|
 kV v132 <|
 kV v131 <|
 pN v133 v135 fun v136 =>
 kV v131 <|
 kV v132 <|
 kV v131 <|
 pK v132 (.bool true) v136 fun v137 =>
 kV v131 <|
 kN r1015 <|
 kV v137 <|
 kV v131 <|
 kV v137 <|
 kV v131 <|
 pZ (g l1017 1) fun v138 =>
 kV v137 <|
 kV v131 <|
 kV v137 <|
 kV v131 <|
 pH v138 (g l1017 48) fun v139 =>
 kV v131 <|
 kV v137 <|
 kV v131 <|
 pK v137 (.bool true) v139 fun v140 =>
 kV v131 <|
 pK v131 v140 (.bool false) fun v141 =>
 .br v141 (
 .ret (.bool false) []) (
 kN r1014 <|
 pZ (g l1018 29) fun v142 =>
 kN r1015 <|
 pZ (g l1017 30) fun v143 =>
 pN v142 v143 fun v144 =>
 kN r1016 <|
 kV v144 <|
 kV v144 <|
 pN (g l1017 41) (iv 7) fun v145 =>
 kV v144 <|
 kN r1014 <|
 kV v145 <|
 kV v144 <|
 kV v145 <|
 kV v144 <|
 pZ (g l1018 29) fun v146 =>
 kN r1015 <|
 kV v145 <|
 kV v144 <|
 kV v145 <|
 kV v144 <|
 pZ (g l1017 30) fun v147 =>
 kV v145 <|
 kV v144 <|
 pS v147 (iv 1) fun v148 =>
 kV v145 <|
 kV v144 <|
 kV v145 <|
 kV v144 <|
 pN v146 v148 fun v149 =>
 kV v144 <|
 kV v145 <|
 kV v144 <|
 pK v145 (.bool true) v149 fun v150 =>
 kV v144 <|
 pK v144 v150 (.bool false) fun v151 =>
 .br v151 (
 .ret (.bool false) []) (
 c1 10 [] fun l152 =>
 .ret (g l152 0) [])))
def dV (v:List Value):Tree :=
 .newbox fun r0 =>
 .newbox fun r1 =>
 .newbox fun r2 =>
 c1 8 [g v 0] fun l0 =>
 pO (g l0 0) fun v1 =>
 .br v1 (
 c1 10 [] fun l2 =>
 .ret (g l2 0) []) (
 kN r0 <|
 c1 9 [ag (G38 v 1)] fun l3 =>
 pO (g l3 0) fun v4 =>
 .br v4 (
 c1 10 [] fun l5 =>
 .ret (g l5 0) []) (
 kN r0 <|
 c1 16 [ag (G38 v 1)] fun l6 =>
 pO (g l6 0) fun v7 =>
 kV v7 <|
 pL (g v 39) (iv 0) fun v8 =>
 kV v7 <|
 pK v7 (.bool true) v8 fun v9 =>
 kV v9 <|
 pG (g v 39) (iv 1) fun v10 =>
 kV v9 <|
 pK v9 (.bool true) v10 fun v11 =>
 .br v11 (
 c1 10 [] fun l12 =>
 .ret (g l12 0) []) (
 kN r1 <|
 c1 23 [ag (G5 v 41)] fun l13 =>
 pO (g l13 0) fun v14 =>
 kN r1 <|
 kV v14 <|
 kV v14 <|
 pG (g v 43) (iv 1000) fun v15 =>
 kV v14 <|
 pK v14 (.bool true) v15 fun v16 =>
 .br v16 (
 c1 10 [] fun l17 =>
 .ret (g l17 0) []) (
 kN r0 <|
 kN r1 <|
 kN r2 <|
 cS 26 [g v 0,ag (G38 v 1),g v 39,g v 40,ag (G5 v 41),.agg #[g v 46,g v 47],g v 48] (.tup [some 38,none]) fun l18 =>
 .newbox fun r3 =>
 kN r3 <|
 pN (g l18 38) (iv 0) fun v19 =>
 .br v19 (
 .ret (.bool false) []) (
 kN r3 <|
 c1 16 [ag (G38 l18 0)] fun l20 =>
 pO (g l20 0) fun v21 =>
 .br v21 (
 .ret (.bool false) []) (
 kN r1 <|
 pN (g v 42) (iv 0) fun v22 =>
 .br v22 (
 kN r0 <|
 kN r1 <|
 kN r2 <|
 c1 27 [g v 0,ag (G38 v 1),g v 39,g v 42,.agg #[g v 46,g v 47]] fun l23 =>
 pO (g l23 0) fun v24 =>
 .br v24 (
 kN r3 <|
 kN r0 <|
 c1 28 [ag (G38 l18 0),ag (G38 v 1)] fun l25 =>
 pO (g l25 0) fun v26 =>
 .br v26 (
 .ret (.bool false) []) (
 bJ r3 r0 r1 v l18)) (
 bJ r3 r0 r1 v l18)) (
 bJ r3 r0 r1 v l18)))))))
theorem lE (vs:List Value):aQ PP Tryz.f7 (aB okL [(76,[5,6,7,8])] [(9,.inv [17] [6,8,11,15] [(8,[]),(11,[]),(15,[])])] []) vs=dV vs:=by kernel_rfl
theorem lP {args vs} (ha:am PP Tryz.f7 args=some vs) (ho:Ones vs) {H O Q} (h:(dV vs).den PP Q H O):Triple PP ig args H O Q :=
 al mixed (an ay _ _ _) Tryz.func7 lE ha ho h
abbrev mC:FuncId:=8
def iR (v:List Value):Tree :=
 .loop 2 2 [iv 0] fun C2 l0 =>
 pZ (g v 0) fun v1 =>
 pL (g l0 0) v1 fun v2 =>
 kV v2 <|
 pL (g l0 0) (iv 13) fun v3 =>
 kV v2 <|
 pK v2 v3 (.bool false) fun v4 =>
 .br v4 (
 pI 14 (g v 0) (g l0 0) fun v5 =>
 kP v5 <|
 .load [] (be v5 11) 1 fun l6 =>
 pZ (g l6 0) fun v7 =>
 pG v7 (iv 5) fun v8 =>
 kV v8 <|
 kV v8 <|
 .pure [(v8,false)] (.idx 14) [g v 0,g l0 0] fun v9 =>
 .chk (.ptr [(v8,false)] v9) <|
 kV v8 <|
 kV v8 <|
 .load [(v8,false)] (be v9 12) 1 fun l10 =>
 kV v8 <|
 pZ (g l10 0) fun v11 =>
 kV v8 <|
 pG v11 (iv 3) fun v12 =>
 kV v8 <|
 pK v8 (.bool true) v12 fun v13 =>
 .br v13 (
 .ret (.bool false) []) (
 .loop 28 7 [iv 0] fun C28 l14 =>
 pI 14 (g v 0) (g l0 0) fun v15 =>
 kP v15 <|
 .load [] (be v15 12) 1 fun l16 =>
 pZ (g l16 0) fun v17 =>
 pL (g l14 0) v17 fun v18 =>
 .br v18 (
 pI 14 (g v 0) (g l0 0) fun v19 =>
 kP v19 <|
 .load [] (be v19 12) 1 fun l20 =>
 pI 2 (g l20 0) (g l14 0) fun v21 =>
 kP v21 <|
 .load [] (be v21 1) 1 fun l22 =>
 pZ (g l22 0) fun v23 =>
 pG v23 (iv 5) fun v24 =>
 .br v24 (
 .ret (.bool false) []) (
 pA (g l14 0) (iv 1) fun v25 =>
 .cont 28 C28 [v25] (Es [[g v 0],[g l0 0]]))) (
 pA (g l0 0) (iv 1) fun v26 =>
 .cont 2 C2 [v26] (Es [[g v 0]])))) (
 pZ (g v 0) fun v27 =>
 pM v27 (iv 12) fun v28 =>
 .ret v28 [])
theorem rz (vs:List Value):aQ PP Tryz.f8 (aB okL [(76,[5,6,7,8])] [(2,.inv [3] [0] []),(7,.inv [4] [0,3] [])] []) vs=iR vs:=by kernel_rfl
theorem sH {args vs} (ha:am PP Tryz.f8 args=some vs) (ho:Ones vs) {H O Q} (h:(iR vs).den PP Q H O):Triple PP mC args H O Q :=
 al mixed (an ay _ _ _) Tryz.func8 rz ha ho h
abbrev mB:FuncId:=9
def kL (l1001:List Value) (n1002:Nat) (l1003:List Value) (n1004:Nat) (C1005:List Value→Heap→Own→Prop) (r1006 r1007:Nat) (i1008:Int):Tree :=
 pI 5 (g l1001 n1002) (g l1003 0) fun v23 =>
 kP v23 <|
 .load [] (be v23 4) 1 fun l24 =>
 pZ (g l24 0) fun v25 =>
 pG v25 (iv 6) fun v26 =>
 .br v26 (
 .ret (.bool false) []) (
 pA (g l1003 0) (iv 1) fun v27 =>
 .cont n1004 C1005 [v27] (Es [[pt r1006 0],[g l1001 n1002],[.slice (some ⟨r1007,0,none⟩) 2 2],[iv 2],[iv i1008],((pt r1006 0)::G38 l1001 0),[pt r1007 0,g l1001 29,g l1001 30]]))
def iQ (v:List Value):Tree :=
 .newbox fun r0 =>
 kN r0 <|
 cS 29 [ag (G14 v 1)] (.agg 4) fun l0 =>
 pZ (g l0 0) fun v1 =>
 pG v1 (iv 40) fun v2 =>
 .br v2 (
 .ret (.bool false) []) (
 pZ (g l0 1) fun v3 =>
 pG v3 (iv 40) fun v4 =>
 .br v4 (
 .ret (.bool false) []) (
 pZ (g l0 2) fun v5 =>
 pG v5 (iv 40) fun v6 =>
 .br v6 (
 .ret (.bool false) []) (
 pZ (g l0 3) fun v7 =>
 pG v7 (iv 40) fun v8 =>
 .br v8 (
 .ret (.bool false) []) (
 kN r0 <|
 cS 29 [ag (G14 v 15)] (.agg 4) fun l9 =>
 pZ (g l9 0) fun v10 =>
 pG v10 (iv 40) fun v11 =>
 .br v11 (
 .ret (.bool false) []) (
 pZ (g l9 1) fun v12 =>
 pG v12 (iv 40) fun v13 =>
 .br v13 (
 .ret (.bool false) []) (
 pZ (g l9 2) fun v14 =>
 pG v14 (iv 40) fun v15 =>
 .br v15 (
 .ret (.bool false) []) (
 pZ (g l9 3) fun v16 =>
 pG v16 (iv 40) fun v17 =>
 .br v17 (
 .ret (.bool false) []) (
 kN r0 <|
 kN r0 <|
 .newbox fun r1 =>
 kN r1 <|
 pZ (g v 29) fun v18 =>
 pG v18 (iv 20) fun v19 =>
 .br v19 (
 .ret (.bool false) []) (
 .loop 108 16 [iv 0] fun C108 l20 =>
 pZ (g v 29) fun v21 =>
 pL (g l20 0) v21 fun v22 =>
 .br v22 (
 kL v 29 l20 108 C108 r0 r1 0) (
 kN r1 <|
 pZ (g v 30) fun v28 =>
 pG v28 (iv 20) fun v29 =>
 .br v29 (
 .ret (.bool false) []) (
 .loop 123 16 [iv 0] fun C123 l30 =>
 pZ (g v 30) fun v31 =>
 pL (g l30 0) v31 fun v32 =>
 .br v32 (
 kL v 30 l30 123 C123 r0 r1 1) (
 kN r0 <|
 pZ (g v 0) fun v38 =>
 pM v38 (iv 30) fun v39 =>
 kN r0 <|
 kV v39 <|
 kV v39 <|
 pZ (g v 31) fun v40 =>
 kV v39 <|
 pM v40 (iv 30) fun v41 =>
 kV v39 <|
 pK v39 v41 (.bool false) fun v42 =>
 kN r0 <|
 kV v42 <|
 kV v42 <|
 pZ (g v 32) fun v43 =>
 kV v42 <|
 pM v43 (iv 30) fun v44 =>
 kV v42 <|
 pK v42 v44 (.bool false) fun v45 =>
 .ret v45 []))))))))))))
theorem ry (vs:List Value):aQ PP Tryz.f9 (aB okL [(76,[5,6,7,8])] [(2,.unroll 3),(5,.unroll 5),(11,.unroll 3),(16,.inv [8] [1,7,29,30,31] [(1,[]),(29,[])])] []) vs=iQ vs:=by kernel_rfl
theorem sG {args vs} (ha:am PP Tryz.f9 args=some vs) (ho:Ones vs) {H O Q} (h:(iQ vs).den PP Q H O):Triple PP mB args H O Q :=
 al mixed (an ay _ _ _) Tryz.func9 ry ha ho h
abbrev iZ:FuncId:=10
def iS (v:List Value):Tree :=
 .newbox fun r0 =>
 kN r0 <|
 cS 30 [iv 0,iv 1,.agg #[iv 1,iv 1,iv 3,iv 0,iv 0],.agg #[iv 3,iv 0],iv 9] (.tup [some 38,none]) fun l0 =>
 .newbox fun r1 =>
 kN r1 <|
 pO (g l0 38) fun v1 =>
 kN r1 <|
 kV v1 <|
 kV v1 <|
 .pure [(v1,false)] (.idx 12) [g l0 0,iv 2] fun v2 =>
 .chk (.ptr [(v1,false)] v2) <|
 kV v1 <|
 kV v1 <|
 .load [(v1,false)] (be v2 5) 1 fun l3 =>
 kV v1 <|
 pN (g l3 0) (iv 3) fun v4 =>
 kV v1 <|
 pK v1 (.bool true) v4 fun v5 =>
 .br v5 (
 .ret (.bool false) []) (
 cS 30 [iv 0,iv 1,.agg #[iv 1,iv 4,iv 20,iv 0,iv 0],.agg #[iv 0,iv 1],iv 9] (.tup [some 38,none]) fun l6 =>
 kN r1 <|
 kN r0 <|
 cS 30 [iv 1,iv 3,.agg #[iv 3,iv 0,iv 5,iv 0,iv 0],.agg #[iv 0,iv 0],iv 9] (.tup [some 38,none]) fun l7 =>
 .newbox fun r2 =>
 kN r2 <|
 pO (g l6 38) fun v8 =>
 kV v8 <|
 kV v8 <|
 kN r1 <|
 kV v8 <|
 kV v8 <|
 pN (g l6 15) (iv 0) fun v9 =>
 kV v8 <|
 pK v8 (.bool true) v9 fun v10 =>
 kV v10 <|
 pO (g l7 38) fun v11 =>
 kV v10 <|
 pK v10 (.bool true) v11 fun v12 =>
 kV v12 <|
 kV v12 <|
 kN r2 <|
 kV v12 <|
 kV v12 <|
 pN (g l7 15) (iv 25) fun v13 =>
 kV v12 <|
 pK v12 (.bool true) v13 fun v14 =>
 .br v14 (
 .ret (.bool false) []) (
 cS 30 [iv 0,iv 1,.agg #[iv 6,iv 3,iv 0,iv 0,iv 0],.agg #[iv 1,iv 0],iv 9] (.tup [some 38,none]) fun l15 =>
 kN r1 <|
 kN r0 <|
 cS 30 [iv 0,iv 1,.agg #[iv 9,iv 0,iv 2,iv 0,iv 0],.agg #[iv 0,iv 0],iv 9] (.tup [some 38,none]) fun l16 =>
 kN r2 <|
 pO (g l15 38) fun v17 =>
 .br v17 (
 .ret (.bool false) []) (
 kN r1 <|
 cS 31 [] (.agg 38) fun l18 =>
 c1 28 [ag (G38 l15 0),ag (G38 l18 0)] fun l19 =>
 pO (g l19 0) fun v20 =>
 kV v20 <|
 pO (g l16 38) fun v21 =>
 kV v20 <|
 pK v20 (.bool true) v21 fun v22 =>
 kN r2 <|
 kV v22 <|
 kV v22 <|
 .pure [(v22,false)] (.idx 12) [g l16 0,iv 0] fun v23 =>
 .chk (.ptr [(v22,false)] v23) <|
 kV v22 <|
 kV v22 <|
 .load [(v22,false)] (be v23 6) 1 fun l24 =>
 kV v22 <|
 pN (g l24 0) (iv 2) fun v25 =>
 kV v22 <|
 pK v22 (.bool true) v25 fun v26 =>
 .br v26 (
 .ret (.bool false) []) (
 kN r0 <|
 cS 30 [iv 0,iv 2,.agg #[iv 9,iv 0,iv 2,iv 0,iv 0],.agg #[iv 0,iv 0],iv 9] (.tup [some 38,none]) fun l27 =>
 kN r1 <|
 kN r0 <|
 cS 30 [iv 1,iv 3,.agg #[iv 2,iv 0,iv 1,iv 0,iv 0],.agg #[iv 0,iv 0],iv 9] (.tup [some 38,none]) fun l28 =>
 kN r2 <|
 pO (g l27 38) fun v29 =>
 .br v29 (
 .ret (.bool false) []) (
 kN r1 <|
 cS 31 [] (.agg 38) fun l30 =>
 c1 28 [ag (G38 l27 0),ag (G38 l30 0)] fun l31 =>
 pO (g l31 0) fun v32 =>
 kV v32 <|
 pO (g l28 38) fun v33 =>
 kV v32 <|
 pK v32 (.bool true) v33 fun v34 =>
 kV v34 <|
 kV v34 <|
 kN r2 <|
 kV v34 <|
 kV v34 <|
 pO (g l28 24) fun v35 =>
 kV v34 <|
 pK v34 (.bool true) v35 fun v36 =>
 kV v36 <|
 kV v36 <|
 kN r2 <|
 kV v36 <|
 kV v36 <|
 pK v36 (.bool true) (g l28 10) fun v37 =>
 .br v37 (
 .ret (.bool false) []) (
 .newbox fun r3 =>
 kN r3 <|
 kN r3 <|
 kN r0 <|
 cS 30 [iv 0,iv 1,.agg #[iv 10,iv 0,iv 1,iv 1,iv 0],.agg #[iv 0,iv 0],iv 3] (.tup [some 38,none]) fun l38 =>
 kN r1 <|
 kN r3 <|
 kN r0 <|
 cS 30 [iv 0,iv 1,.agg #[iv 10,iv 0,iv 1,iv 1,iv 0],.agg #[iv 0,iv 0],iv 4] (.tup [some 38,none]) fun l39 =>
 kN r2 <|
 pO (g l38 38) fun v40 =>
 .br v40 (
 .ret (.bool false) []) (
 kN r1 <|
 cS 31 [] (.agg 38) fun l41 =>
 c1 28 [ag (G38 l38 0),ag (G38 l41 0)] fun l42 =>
 pO (g l42 0) fun v43 =>
 kV v43 <|
 pO (g l39 38) fun v44 =>
 kV v43 <|
 pK v43 (.bool true) v44 fun v45 =>
 kN r2 <|
 kV v45 <|
 kV v45 <|
 pZ (g l39 0) fun v46 =>
 kV v45 <|
 pN v46 (iv 4) fun v47 =>
 kV v45 <|
 pK v45 (.bool true) v47 fun v48 =>
 kN r2 <|
 kV v48 <|
 kV v48 <|
 .pure [(v48,false)] (.idx 12) [g l39 0,iv 3] fun v49 =>
 .chk (.ptr [(v48,false)] v49) <|
 kV v48 <|
 kV v48 <|
 .load [(v48,false)] v49 1 fun l50 =>
 kV v48 <|
 pN (g l50 0) (iv 4) fun v51 =>
 kV v48 <|
 pK v48 (.bool true) v51 fun v52 =>
 kN r2 <|
 kV v52 <|
 kV v52 <|
 .pure [(v52,false)] (.idx 12) [g l39 0,iv 3] fun v53 =>
 .chk (.ptr [(v52,false)] v53) <|
 kV v52 <|
 kV v52 <|
 .load [(v52,false)] (be v53 1) 1 fun l54 =>
 kV v52 <|
 pN (g l54 0) (iv (-1)) fun v55 =>
 kV v52 <|
 pK v52 (.bool true) v55 fun v56 =>
 .br v56 (
 .ret (.bool false) []) (
 c1 32 [] fun l57 =>
 cS 31 [] (.agg 38) fun l58 =>
 cS 15 [g l57 0,ag (G38 l58 0),iv 9] (.tup [some 38,some 5,none]) fun l59 =>
 .newbox fun r4 =>
 .newbox fun r5 =>
 kN r4 <|
 kN r5 <|
 kN r0 <|
 c1 32 [] fun l60 =>
 cS 31 [] (.agg 38) fun l61 =>
 cS 26 [g l60 0,ag (G38 l61 0),iv 2,iv 1,.agg #[iv 2,iv 0,iv 1,iv 0,iv 0],.agg #[iv 0,iv 0],iv 9] (.tup [some 38,none]) fun l62 =>
 .newbox fun r6 =>
 kN r6 <|
 pE (g l59 43) (iv 9) fun v63 =>
 kV v63 <|
 pE (g l62 38) (iv 2) fun v64 =>
 kV v63 <|
 pK v63 v64 (.bool false) fun v65 =>
 .ret v65 []))))))))
theorem rA (vs:List Value):aQ PP Tryz.f10 (aB okL [(76,[5,6,7,8])] [] []) vs=iS vs:=by kernel_rfl
theorem sJ {args vs} (ha:am PP Tryz.f10 args=some vs) (ho:Ones vs) {H O Q} (h:(iS vs).den PP Q H O):Triple PP iZ args H O Q :=
 al mixed (an ay _ _ _) Tryz.func10 rA ha ho h
abbrev jA:FuncId:=12
def lH (l1001:List Value) (C1002:List Value→Heap→Own→Prop) (l1003 l1004:List Value) (r1005:Nat):Tree :=
 pS (g l1001 1) (iv 1) fun v33 =>
 .cont 57 C1002 [g l1003 0,v33] (Es [[g l1004 0],[pt r1005 0],((pt r1005 0)::G38 l1004 1)])
def jq (v:List Value):Tree :=
 .newbox fun r0 =>
 kN r0 <|
 c1 16 [ag (G38 v 1)] fun l0 =>
 pO (g l0 0) fun v1 =>
 kV v1 <|
 pL (g v 39) (iv 0) fun v2 =>
 kV v1 <|
 pK v1 (.bool true) v2 fun v3 =>
 kV v3 <|
 pG (g v 39) (iv 1) fun v4 =>
 kV v3 <|
 pK v3 (.bool true) v4 fun v5 =>
 .br v5 (
 .ret (.slice none 0 0) []) (
 kN r0 <|
 kN r0 <|
 pS (iv 1) (g v 39) fun v6 =>
 c1 34 [g v 0,ag (G38 v 1),g v 39] fun l7 =>
 c1 34 [g v 0,ag (G38 v 1),v6] fun l8 =>
 .prim (.bi .append #[26,26] 26) [.slice none 0 0,g l7 0] [] [] .one fun l9 _ =>
 .prim (.bi .append #[26,26] 26) [g l9 0,g l8 0] [] [] .one fun l10 _ =>
 c1 36 [g l10 0] fun l11 =>
 c1 35 [g l11 0] fun l12 =>
 pS (iv 1) (g v 39) fun v13 =>
 .newbox fun r1 =>
 pE (g v 40) (iv 1) fun v14 =>
 .br v14 (
 .ret (g l12 0) []) (
 pE (g v 40) (iv 2) fun v15 =>
 .br v15 (
 c1 35 [g l7 0] fun l16 =>
 .ret (g l16 0) []) (
 pE (g v 40) (iv 3) fun v17 =>
 .br v17 (
 c1 35 [g l8 0] fun l18 =>
 .ret (g l18 0) []) (
 pE (g v 40) (iv 4) fun v19 =>
 .br v19 (
 .ret (.slice (some ⟨r1,0,none⟩) 2 2) [⟨r1,41,[iv 0,v13,iv 0,g v 39]⟩]) (
 pE (g v 40) (iv 5) fun v20 =>
 .br v20 (
 .prim (.bi .append #[51,51] 51) [.slice (some ⟨r1,0,none⟩) 2 2,g l12 0] [⟨r1,41,[iv 0,v13,iv 0,g v 39]⟩] [] .one fun l21 _ =>
 .ret (g l21 0) []) (
 pE (g v 40) (iv 6) fun v22 =>
 .br v22 (
 kN r0 <|
 pZ (g v 30) fun v23 =>
 pS v23 (iv 1) fun v24 =>
 .loop 57 20 [.slice none 0 0,v24] fun C57 l25 =>
 pH (g l25 1) (iv 0) fun v26 =>
 .br v26 (
 kN r0 <|
 pI 5 (g v 30) (g l25 1) fun v27 =>
 .load [] v27 5 fun l28 =>
 c1 37 [g v 0,ag (G5 l28 0)] fun l29 =>
 .br (g l29 0) (
 kN r0 <|
 pI 5 (g v 30) (g l25 1) fun v30 =>
 kP v30 <|
 .load [] (be v30 1) 1 fun l31 =>
 .newbox fun r2 =>
 .prim (.bi .append #[51,51] 51) [g l25 0,.slice (some ⟨r2,0,none⟩) 1 1] [⟨r2,41,[g l31 0,iv 0]⟩] [] .one fun l32 _ =>
 lH l25 C57 l32 v r0) (
 lH l25 C57 l25 v r0)) (
 .ret (g l25 0) [])) (
 .ret (.slice none 0 0) [])))))))
theorem sQ (vs:List Value):aQ PP Tryz.f12 (aB okL [(76,[5,6,7,8])] [(20,.inv [13,14] [0,5] [(5,[])])] []) vs=jq vs:=by kernel_rfl
theorem tq {args vs} (ha:am PP Tryz.f12 args=some vs) (ho:Ones vs) {H O Q} (h:(jq vs).den PP Q H O):Triple PP jA args H O Q :=
 al mixed (an ay _ _ _) Tryz.func12 sQ ha ho h
abbrev jC:FuncId:=14
def jw (v:List Value):Tree :=
 .newbox fun r0 =>
 .newbox fun r1 =>
 kN r0 <|
 .prim (.bi .append #[23,23] 23) [.slice none 0 0,g v 0] [] [] .one fun l0 _ =>
 kN r0 <|
 kN r0 <|
 .prim (.bi .append #[26,26] 26) [.slice none 0 0,g v 6] [] [] .one fun l1 _ =>
 kN r0 <|
 kN r0 <|
 .prim (.bi .append #[26,26] 26) [.slice none 0 0,g v 7] [] [] .one fun l2 _ =>
 kN r0 <|
 kN r0 <|
 .prim (.bi .append #[26,26] 26) [.slice none 0 0,g v 8] [] [] .one fun l3 _ =>
 kN r0 <|
 kN r0 <|
 .prim (.bi .append #[26,26] 26) [.slice none 0 0,g v 9] [] [] .one fun l4 _ =>
 kN r0 <|
 kN r0 <|
 .prim (.bi .append #[26,26] 26) [.slice none 0 0,g v 20] [] [] .one fun l5 _ =>
 kN r0 <|
 kN r0 <|
 .prim (.bi .append #[26,26] 26) [.slice none 0 0,g v 21] [] [] .one fun l6 _ =>
 kN r0 <|
 kN r0 <|
 .prim (.bi .append #[26,26] 26) [.slice none 0 0,g v 22] [] [] .one fun l7 _ =>
 kN r0 <|
 kN r0 <|
 .prim (.bi .append #[26,26] 26) [.slice none 0 0,g v 23] [] [] .one fun l8 _ =>
 kN r0 <|
 kN r0 <|
 kN r0 <|
 c1 38 [g v 29] fun l9 =>
 c1 38 [g v 30] fun l10 =>
 kN r0 <|
 kN r0 <|
 kN r0 <|
 .prim (.bi .append #[26,26] 26) [.slice none 0 0,g v 31] [] [] .one fun l11 _ =>
 kN r0 <|
 kN r0 <|
 .prim (.bi .append #[31,31] 31) [.slice none 0 0,g v 32] [] [] .one fun l12 _ =>
 kN r0 <|
 kN r0 <|
 kN r1 <|
 kN r1 <|
 .ret (ag ((g l0 0)::(G5 v 1++((g l1 0)::((g l2 0)::((g l3 0)::((g l4 0)::(G10 v 10++((g l5 0)::((g l6 0)::((g l7 0)::((g l8 0)::(G5 v 24++((g l9 0)::((g l10 0)::((g l11 0)::((g l12 0)::G5 v 33))))))))))))))))) []
theorem sW (vs:List Value):aQ PP Tryz.f14 (aB okL [(76,[5,6,7,8])] [(3,.unroll 3)] []) vs=jw vs:=by kernel_rfl
theorem tD {args vs} (ha:am PP Tryz.f14 args=some vs) (ho:Ones vs) {H O Q} (h:(jw vs).den PP Q H O):Triple PP jC args H O Q :=
 al mixed (an ay _ _ _) Tryz.func14 sW ha ho h
end Go.Proofs.YtdhobpmnkfmcfaaGreatDoor
