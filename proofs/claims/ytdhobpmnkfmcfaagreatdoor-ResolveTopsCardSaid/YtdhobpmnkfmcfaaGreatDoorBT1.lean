/- The trees of the functions of this seat: printed by a tool of mine; each by the kernel's reckoning equal to the evaluator's. -/
import Derived.Test.YtdhobpmnkfmcfaaGreatDoorFw2
import Derived.Test.YtdhobpmnkfmcfaaGreatDoorProg
import Derived.KernelRfl
namespace Go.Proofs.YtdhobpmnkfmcfaaGreatDoor
open Go Go.Sx
set_option maxRecDepth 100000
noncomputable abbrev PP:Program:=Tryz.prog
theorem mixed:PP.follows .mixedOrders=true:=by kernel_rfl
def okL:List Nat:=[2,3,4,5,6,7,8,9,10,11,12,13,14,15,16,17,18,19,20,21,22,23,24,25,26,27,28,29,30,31,32,33,34,35,36,37,38,39,40,41,42,43,44,45,46,47,48,49,50,51,52,53,54,55,56,57,58,59,60,61,62,63,64,65,66,67,68,69,70,71,72,73,74,75,76,77,78,79,80,81,82,83,84,85,86,87,88,89,90,91,92,93,94,95,96,97,98,99,100,101,102,103,104,105,106,107,108,109,110,111,112,113,114,115,116,117,118,119,120,121,122,123,124,125,126,127,128,129,130,131,132,133,134,135,136,137,138,139,140,141,142,143,144,145,146,147,148,149,150,151,152,153,155,156,157,158,159,160,161,162,163,164,165,166,167,168,169,170,171,172,173,174,175,176,177,178,179,180,181,182,183,184,200,201,202,203,204,205,206,212]
theorem lT:okL.all (RJ PP)=true:=by kernel_rfl
def bI (f:FuncId) (fn:Func) (T:List Value→Tree):Prop:=∀ {args vs:List Value},uk PP fn args=some vs→Ones vs→∀ {H:Heap} {O:Own} {Q:Value→Heap→Own→Prop},(T vs).den PP Q H O→Triple PP f args H O Q
theorem bJ {f:FuncId} {fn:Func} {T:List Value→Tree} (hf:PP.funcs[f]?=some fn) (a:_) (b:_) (c:_) (e:∀ vs,Ri PP fn (Pv okL a b c) vs=T vs):bI f fn T:=fun ha ho _ _ _ h=>L9 mixed (Iw lT _ _ _) hf e ha ho h
abbrev aK:TypeId:=3
abbrev wY:TypeId:=4
abbrev D9:TypeId:=25
abbrev eA:TypeId:=36
abbrev eU:TypeId:=39
abbrev aA:TypeId:=41
abbrev bc:TypeId:=56
abbrev aH:TypeId:=82
abbrev fZ:TypeId:=91
abbrev bj:TypeId:=122
abbrev cE:TypeId:=196
abbrev dt:TypeId:=198
abbrev be:TypeId:=206
abbrev yx:TypeId:=208
abbrev Z0:List Value:=[.slice none 0 0,iv 0,iv 0,iv 0,iv 0,iv 0,.slice none 0 0,.slice none 0 0,.slice none 0 0,.slice none 0 0,.bool false,.bool false,.bool false,iv 0,iv 0,iv 0,iv 0,iv 0,iv 0,iv 0,.slice none 0 0,.slice none 0 0,.slice none 0 0,.slice none 0 0,.bool false,.bool false,.bool false,iv 0,iv 0,.slice none 0 0,.slice none 0 0,.slice none 0 0,.slice none 0 0,iv 0,iv 0,iv 0,iv 0,iv 0]
abbrev Z1:List Value:=[.string ⟨#[]⟩,iv 2,iv 0,iv 0,iv 0,iv 0,iv 0,iv 0,iv 2,iv 2,iv 0,.slice none 0 0,.slice none 0 0,iv 0]
abbrev Z2:List Value:=[.string ⟨#[]⟩,iv 0,iv 0,iv 0,iv 0,iv 0,iv 0,iv 0,iv 0,iv 0,iv 0,.slice none 0 0,.slice none 0 0,iv 0]
abbrev Z3:List Value:=[iv 0,iv 0,iv 0,iv 0,iv 0,iv 0,iv 0,iv 0,iv 0,.bool false,.bool false,.bool false]
abbrev iu:FuncId:=5
def bM (a b c:List Value) (d:Nat) (e:List Value) (f h i:Nat) (j:List Value) (k:List Value→Heap→Own→Prop):Tree :=
 cS 20 [g a 0,ag (G38 b 1),g a 39,g c 0] (.tup [some 38,some 5,none]) fun l25 =>
 .newbox fun r4 =>
 .newbox fun r5 =>
 kN r4<|
 kN r5<|
 kN d<|
 kN r5<|
 c1 18 [ag (G5 e 38),ag (G5 l25 38)] fun l26 =>
 pO (g l26 0) fun v27 =>
 .br v27 (
 .ret (.bool false) []) (
 kN f<|
 kN r4<|
 kN h<|
 kN i<|
 c1 17 [ag (G38 e 0),g e 43,ag (G38 l25 0),g l25 43,ag (G38 b 1),ag (G38 j 0)] fun l28 =>
 pO (g l28 0) fun v29 =>
 .br v29 (
 .ret (.bool false) []) (
 pN (g l25 43) (iv 0) fun v30 =>
 .br v30 (
 c1 10 [] fun l31 =>
 .ret (g l31 0) []) (
 kN r4<|
 kN h<|
 pA (g b 0) (iv 1) fun v32 =>
 .cont 16 k (v32::G38 l25 0) (Es [[g a 0],[g a 39],[pt h 0],[pt h 0,.tuple #[],.tuple #[],.tuple #[],.tuple #[],.tuple #[],.tuple #[],.tuple #[],.tuple #[],.tuple #[],.tuple #[],.tuple #[],.tuple #[],.tuple #[],.tuple #[],.tuple #[],.tuple #[],.tuple #[],.tuple #[],.tuple #[],.tuple #[],.tuple #[],.tuple #[],.tuple #[],.tuple #[],.tuple #[],.tuple #[],.tuple #[],.tuple #[],.tuple #[],.tuple #[],.tuple #[],.tuple #[],.tuple #[],.tuple #[],.tuple #[],.tuple #[],.tuple #[],.tuple #[]]]))))
def io (v:List Value):Tree :=
 .newbox fun r0 =>
 c1 8 [g v 0] fun l0 =>
 pO (g l0 0) fun v1 =>
 .br v1 (
 c1 10 [] fun l2 =>
 .ret (g l2 0) []) (
 kN r0<|
 c1 9 [ag (G38 v 1)] fun l3 =>
 pO (g l3 0) fun v4 =>
 .br v4 (
 c1 10 [] fun l5 =>
 .ret (g l5 0) []) (
 c1 13 [g v 0] fun l6 =>
 pO (g l6 0) fun v7 =>
 .br v7 (
 c1 10 [] fun l8 =>
 .ret (g l8 0) []) (
 .loop 16 4 ((iv 0)::G38 v 1) fun C16 l9 =>
 pL (g l9 0) (iv 25) fun v10 =>
 .br v10 (
 kN r0<|
 cS 14 [ag (G38 l9 1)] (.agg 38) fun l11 =>
 .newbox fun r1 =>
 kN r1<|
 kN r0<|
 cS 15 [g v 0,ag (G38 l9 1),g v 39] (.tup [some 38,some 5,none]) fun l12 =>
 .newbox fun r2 =>
 .newbox fun r3 =>
 kN r2<|
 kN r3<|
 kN r0<|
 c1 16 [ag (G38 l9 1)] fun l13 =>
 pO (g l13 0) fun v14 =>
 .br v14 (
 kN r2<|
 kN r0<|
 kN r1<|
 c1 17 [ag (G38 l12 0),g l12 43,ag Z0,iv 2,ag (G38 l9 1),ag (G38 l11 0)] fun l15 =>
 .br (g l15 0) (
 kN r3<|
 c1 18 [ag (G5 l12 38),.agg #[iv 0,iv 0,iv 0,iv 0,.slice none 0 0]] fun l16 =>
 .br (g l16 0) (
 c1 10 [] fun l17 =>
 .ret (g l17 0) []) (
 .ret (.bool false) [])) (
 .ret (.bool false) [])) (
 kN r0<|
 pZ (g l9 30) fun v18 =>
 pG v18 (iv 0) fun v19 =>
 .br v19 (
 kN r0<|
 pS v18 (iv 1) fun v20 =>
 pI 5 (g l9 30) v20 fun v21 =>
 .load [] v21 5 fun l22 =>
 c1 19 [g v 0,ag (G5 l22 0)] fun l23 =>
 kN r0<|
 c1 21 [g l23 0] fun l24 =>
 bM v l9 l24 r3 l12 r2 r0 r1 l11 C16) (
 kN r0<|
 c1 21 [.slice none 0 0] fun l33 =>
 bM v l9 l33 r3 l12 r2 r0 r1 l11 C16))) (
 c1 10 [] fun l42 =>
 .ret (g l42 0) []))))
theorem mV:bI iu Tryz.f5 io:=bJ Tryz.func5 [(76,[5,6,7,8])] [(4,.inv [7] [0,2,4] [(4,[0,1,2,3,4,5,6,7,8,9,10,11,12,13,14,15,16,17,18,19,20,21,22,23,24,25,26,27,28,29,30,31,32,33,34,35,36,37])])] [] fun _=>by kernel_rfl
abbrev mR:FuncId:=8
def mn (v:List Value):Tree :=
 .loop 2 2 [iv 0] fun C2 l0 =>
 pZ (g v 0) fun v1 =>
 pL (g l0 0) v1 fun v2 =>
 kV v2<|
 pL (g l0 0) (iv 13) fun v3 =>
 kV v2<|
 pK v2 v3 (.bool false) fun v4 =>
 .br v4 (
 pI 14 (g v 0) (g l0 0) fun v5 =>
 kP v5<|
 .load [] (aO v5 11) 1 fun l6 =>
 pZ (g l6 0) fun v7 =>
 pG v7 (iv 5) fun v8 =>
 kV v8<|
 kV v8<|
 .pure [(v8,false)] (.idx 14) [g v 0,g l0 0] fun v9 =>
 .chk (.ptr [(v8,false)] v9)<|
 kV v8<|
 kV v8<|
 .load [(v8,false)] (aO v9 12) 1 fun l10 =>
 kV v8<|
 pZ (g l10 0) fun v11 =>
 kV v8<|
 pG v11 (iv 3) fun v12 =>
 kV v8<|
 pK v8 (.bool true) v12 fun v13 =>
 .br v13 (
 .ret (.bool false) []) (
 .loop 28 7 [iv 0] fun C28 l14 =>
 pI 14 (g v 0) (g l0 0) fun v15 =>
 kP v15<|
 .load [] (aO v15 12) 1 fun l16 =>
 pZ (g l16 0) fun v17 =>
 pL (g l14 0) v17 fun v18 =>
 .br v18 (
 pI 14 (g v 0) (g l0 0) fun v19 =>
 kP v19<|
 .load [] (aO v19 12) 1 fun l20 =>
 pI 2 (g l20 0) (g l14 0) fun v21 =>
 kP v21<|
 .load [] (aO v21 1) 1 fun l22 =>
 pZ (g l22 0) fun v23 =>
 pG v23 (iv 5) fun v24 =>
 .br v24 (
 .ret (.bool false) []) (
 pA (g l14 0) (iv 1) fun v25 =>
 .cont 28 C28 [v25] (Es [[g v 0],[g l0 0]]))) (
 pA (g l0 0) (iv 1) fun v26 =>
 .cont 2 C2 [v26] (Es [[g v 0]])))) (
 pZ (g v 0) fun v27 =>
 pM v27 (iv 12) fun v28 =>
 .ret v28 [])
theorem sL:bI mR Tryz.f8 mn:=bJ Tryz.func8 [(76,[5,6,7,8])] [(2,.inv [3] [0] []),(7,.inv [4] [0,3] [])] [] fun _=>by kernel_rfl
abbrev mQ:FuncId:=9
def kC (a:List Value) (b:Nat) (c:List Value) (d:Nat) (e:List Value→Heap→Own→Prop) (f h:Nat) (i:Int):Tree :=
 pI 5 (g a b) (g c 0) fun v23 =>
 kP v23<|
 .load [] (aO v23 4) 1 fun l24 =>
 pZ (g l24 0) fun v25 =>
 pG v25 (iv 6) fun v26 =>
 .br v26 (
 .ret (.bool false) []) (
 pA (g c 0) (iv 1) fun v27 =>
 .cont d e [v27] (Es [[pt f 0],[g a b],[.slice (some ⟨h,0,none⟩) 2 2],[iv 2],[iv i],((pt f 0)::G38 a 0),[pt h 0,g a 29,g a 30]]))
def ml (v:List Value):Tree :=
 .newbox fun r0 =>
 kN r0<|
 cS 29 [ag (G14 v 1)] (.agg 4) fun l0 =>
 pZ (g l0 0) fun v1 =>
 pG v1 (iv 40) fun v2 =>
 .br v2 (
 .ret (.bool false) []) (
 pZ (g l0 1) fun v3 =>
 pG v3 (iv 40) fun v4 =>
 .br v4 (
 .ret (.bool false) []) (
 pZ (g l0 2) fun v5 =>
 pG v5 (iv 40) fun v6 =>
 .br v6 (
 .ret (.bool false) []) (
 pZ (g l0 3) fun v7 =>
 pG v7 (iv 40) fun v8 =>
 .br v8 (
 .ret (.bool false) []) (
 kN r0<|
 cS 29 [ag (G14 v 15)] (.agg 4) fun l9 =>
 pZ (g l9 0) fun v10 =>
 pG v10 (iv 40) fun v11 =>
 .br v11 (
 .ret (.bool false) []) (
 pZ (g l9 1) fun v12 =>
 pG v12 (iv 40) fun v13 =>
 .br v13 (
 .ret (.bool false) []) (
 pZ (g l9 2) fun v14 =>
 pG v14 (iv 40) fun v15 =>
 .br v15 (
 .ret (.bool false) []) (
 pZ (g l9 3) fun v16 =>
 pG v16 (iv 40) fun v17 =>
 .br v17 (
 .ret (.bool false) []) (
 kN r0<|
 kN r0<|
 .newbox fun r1 =>
 kN r1<|
 pZ (g v 29) fun v18 =>
 pG v18 (iv 20) fun v19 =>
 .br v19 (
 .ret (.bool false) []) (
 .loop 108 16 [iv 0] fun C108 l20 =>
 pZ (g v 29) fun v21 =>
 pL (g l20 0) v21 fun v22 =>
 .br v22 (
 kC v 29 l20 108 C108 r0 r1 0) (
 kN r1<|
 pZ (g v 30) fun v28 =>
 pG v28 (iv 20) fun v29 =>
 .br v29 (
 .ret (.bool false) []) (
 .loop 123 16 [iv 0] fun C123 l30 =>
 pZ (g v 30) fun v31 =>
 pL (g l30 0) v31 fun v32 =>
 .br v32 (
 kC v 30 l30 123 C123 r0 r1 1) (
 kN r0<|
 pZ (g v 0) fun v38 =>
 pM v38 (iv 30) fun v39 =>
 kN r0<|
 kV v39<|
 kV v39<|
 pZ (g v 31) fun v40 =>
 kV v39<|
 pM v40 (iv 30) fun v41 =>
 kV v39<|
 pK v39 v41 (.bool false) fun v42 =>
 kN r0<|
 kV v42<|
 kV v42<|
 pZ (g v 32) fun v43 =>
 kV v42<|
 pM v43 (iv 30) fun v44 =>
 kV v42<|
 pK v42 v44 (.bool false) fun v45 =>
 .ret v45 []))))))))))))
theorem sK:bI mQ Tryz.f9 ml:=bJ Tryz.func9 [(76,[5,6,7,8])] [(2,.unroll 3),(5,.unroll 5),(11,.unroll 3),(16,.inv [8] [1,7,29,30,31] [(1,[]),(29,[])])] [] fun _=>by kernel_rfl
abbrev iE:FuncId:=10
def mo (v:List Value):Tree :=
 .newbox fun r0 =>
 kN r0<|
 cS 30 [iv 0,iv 1,.agg #[iv 1,iv 1,iv 3,iv 0,iv 0],.agg #[iv 3,iv 0],iv 9] (.tup [some 38,none]) fun l0 =>
 .newbox fun r1 =>
 kN r1<|
 pO (g l0 38) fun v1 =>
 kN r1<|
 kV v1<|
 kV v1<|
 .pure [(v1,false)] (.idx 12) [g l0 0,iv 2] fun v2 =>
 .chk (.ptr [(v1,false)] v2)<|
 kV v1<|
 kV v1<|
 .load [(v1,false)] (aO v2 5) 1 fun l3 =>
 kV v1<|
 pN (g l3 0) (iv 3) fun v4 =>
 kV v1<|
 pK v1 (.bool true) v4 fun v5 =>
 .br v5 (
 .ret (.bool false) []) (
 cS 30 [iv 0,iv 1,.agg #[iv 1,iv 4,iv 20,iv 0,iv 0],.agg #[iv 0,iv 1],iv 9] (.tup [some 38,none]) fun l6 =>
 kN r1<|
 kN r0<|
 cS 30 [iv 1,iv 3,.agg #[iv 3,iv 0,iv 5,iv 0,iv 0],.agg #[iv 0,iv 0],iv 9] (.tup [some 38,none]) fun l7 =>
 .newbox fun r2 =>
 kN r2<|
 pO (g l6 38) fun v8 =>
 kV v8<|
 kV v8<|
 kN r1<|
 kV v8<|
 kV v8<|
 pN (g l6 15) (iv 0) fun v9 =>
 kV v8<|
 pK v8 (.bool true) v9 fun v10 =>
 kV v10<|
 pO (g l7 38) fun v11 =>
 kV v10<|
 pK v10 (.bool true) v11 fun v12 =>
 kV v12<|
 kV v12<|
 kN r2<|
 kV v12<|
 kV v12<|
 pN (g l7 15) (iv 25) fun v13 =>
 kV v12<|
 pK v12 (.bool true) v13 fun v14 =>
 .br v14 (
 .ret (.bool false) []) (
 cS 30 [iv 0,iv 1,.agg #[iv 6,iv 3,iv 0,iv 0,iv 0],.agg #[iv 1,iv 0],iv 9] (.tup [some 38,none]) fun l15 =>
 kN r1<|
 kN r0<|
 cS 30 [iv 0,iv 1,.agg #[iv 9,iv 0,iv 2,iv 0,iv 0],.agg #[iv 0,iv 0],iv 9] (.tup [some 38,none]) fun l16 =>
 kN r2<|
 pO (g l15 38) fun v17 =>
 .br v17 (
 .ret (.bool false) []) (
 kN r1<|
 cS 31 [] (.agg 38) fun l18 =>
 c1 28 [ag (G38 l15 0),ag (G38 l18 0)] fun l19 =>
 pO (g l19 0) fun v20 =>
 kV v20<|
 pO (g l16 38) fun v21 =>
 kV v20<|
 pK v20 (.bool true) v21 fun v22 =>
 kN r2<|
 kV v22<|
 kV v22<|
 .pure [(v22,false)] (.idx 12) [g l16 0,iv 0] fun v23 =>
 .chk (.ptr [(v22,false)] v23)<|
 kV v22<|
 kV v22<|
 .load [(v22,false)] (aO v23 6) 1 fun l24 =>
 kV v22<|
 pN (g l24 0) (iv 2) fun v25 =>
 kV v22<|
 pK v22 (.bool true) v25 fun v26 =>
 .br v26 (
 .ret (.bool false) []) (
 kN r0<|
 cS 30 [iv 0,iv 2,.agg #[iv 9,iv 0,iv 2,iv 0,iv 0],.agg #[iv 0,iv 0],iv 9] (.tup [some 38,none]) fun l27 =>
 kN r1<|
 kN r0<|
 cS 30 [iv 1,iv 3,.agg #[iv 2,iv 0,iv 1,iv 0,iv 0],.agg #[iv 0,iv 0],iv 9] (.tup [some 38,none]) fun l28 =>
 kN r2<|
 pO (g l27 38) fun v29 =>
 .br v29 (
 .ret (.bool false) []) (
 kN r1<|
 cS 31 [] (.agg 38) fun l30 =>
 c1 28 [ag (G38 l27 0),ag (G38 l30 0)] fun l31 =>
 pO (g l31 0) fun v32 =>
 kV v32<|
 pO (g l28 38) fun v33 =>
 kV v32<|
 pK v32 (.bool true) v33 fun v34 =>
 kV v34<|
 kV v34<|
 kN r2<|
 kV v34<|
 kV v34<|
 pO (g l28 24) fun v35 =>
 kV v34<|
 pK v34 (.bool true) v35 fun v36 =>
 kV v36<|
 kV v36<|
 kN r2<|
 kV v36<|
 kV v36<|
 pK v36 (.bool true) (g l28 10) fun v37 =>
 .br v37 (
 .ret (.bool false) []) (
 .newbox fun r3 =>
 kN r3<|
 kN r3<|
 kN r0<|
 cS 30 [iv 0,iv 1,.agg #[iv 10,iv 0,iv 1,iv 1,iv 0],.agg #[iv 0,iv 0],iv 3] (.tup [some 38,none]) fun l38 =>
 kN r1<|
 kN r3<|
 kN r0<|
 cS 30 [iv 0,iv 1,.agg #[iv 10,iv 0,iv 1,iv 1,iv 0],.agg #[iv 0,iv 0],iv 4] (.tup [some 38,none]) fun l39 =>
 kN r2<|
 pO (g l38 38) fun v40 =>
 .br v40 (
 .ret (.bool false) []) (
 kN r1<|
 cS 31 [] (.agg 38) fun l41 =>
 c1 28 [ag (G38 l38 0),ag (G38 l41 0)] fun l42 =>
 pO (g l42 0) fun v43 =>
 kV v43<|
 pO (g l39 38) fun v44 =>
 kV v43<|
 pK v43 (.bool true) v44 fun v45 =>
 kN r2<|
 kV v45<|
 kV v45<|
 pZ (g l39 0) fun v46 =>
 kV v45<|
 pN v46 (iv 4) fun v47 =>
 kV v45<|
 pK v45 (.bool true) v47 fun v48 =>
 kN r2<|
 kV v48<|
 kV v48<|
 .pure [(v48,false)] (.idx 12) [g l39 0,iv 3] fun v49 =>
 .chk (.ptr [(v48,false)] v49)<|
 kV v48<|
 kV v48<|
 .load [(v48,false)] v49 1 fun l50 =>
 kV v48<|
 pN (g l50 0) (iv 4) fun v51 =>
 kV v48<|
 pK v48 (.bool true) v51 fun v52 =>
 kN r2<|
 kV v52<|
 kV v52<|
 .pure [(v52,false)] (.idx 12) [g l39 0,iv 3] fun v53 =>
 .chk (.ptr [(v52,false)] v53)<|
 kV v52<|
 kV v52<|
 .load [(v52,false)] (aO v53 1) 1 fun l54 =>
 kV v52<|
 pN (g l54 0) (iv (-1)) fun v55 =>
 kV v52<|
 pK v52 (.bool true) v55 fun v56 =>
 .br v56 (
 .ret (.bool false) []) (
 c1 32 [] fun l57 =>
 cS 31 [] (.agg 38) fun l58 =>
 cS 15 [g l57 0,ag (G38 l58 0),iv 9] (.tup [some 38,some 5,none]) fun l59 =>
 .newbox fun r4 =>
 .newbox fun r5 =>
 kN r4<|
 kN r5<|
 kN r0<|
 c1 32 [] fun l60 =>
 cS 31 [] (.agg 38) fun l61 =>
 cS 26 [g l60 0,ag (G38 l61 0),iv 2,iv 1,.agg #[iv 2,iv 0,iv 1,iv 0,iv 0],.agg #[iv 0,iv 0],iv 9] (.tup [some 38,none]) fun l62 =>
 .newbox fun r6 =>
 kN r6<|
 pE (g l59 43) (iv 9) fun v63 =>
 kV v63<|
 pE (g l62 38) (iv 2) fun v64 =>
 kV v63<|
 pK v63 v64 (.bool false) fun v65 =>
 .ret v65 []))))))))
theorem sM:bI iE Tryz.f10 mo:=bJ Tryz.func10 [(76,[5,6,7,8])] [] [] fun _=>by kernel_rfl
abbrev jb:FuncId:=12
def lD (a:List Value) (b:List Value→Heap→Own→Prop) (c d:List Value) (e:Nat):Tree :=
 pS (g a 1) (iv 1) fun v33 =>
 .cont 57 b [g c 0,v33] (Es [[g d 0],[pt e 0],((pt e 0)::G38 d 1)])
def oc (v:List Value):Tree :=
 .newbox fun r0 =>
 kN r0<|
 c1 16 [ag (G38 v 1)] fun l0 =>
 pO (g l0 0) fun v1 =>
 kV v1<|
 pL (g v 39) (iv 0) fun v2 =>
 kV v1<|
 pK v1 (.bool true) v2 fun v3 =>
 kV v3<|
 pG (g v 39) (iv 1) fun v4 =>
 kV v3<|
 pK v3 (.bool true) v4 fun v5 =>
 .br v5 (
 .ret (.slice none 0 0) []) (
 kN r0<|
 kN r0<|
 pS (iv 1) (g v 39) fun v6 =>
 c1 34 [g v 0,ag (G38 v 1),g v 39] fun l7 =>
 c1 34 [g v 0,ag (G38 v 1),v6] fun l8 =>
 .prim (.bi .append #[26,26] 26) [.slice none 0 0,g l7 0] [] [] .one fun l9 _ =>
 .prim (.bi .append #[26,26] 26) [g l9 0,g l8 0] [] [] .one fun l10 _ =>
 c1 36 [g l10 0] fun l11 =>
 c1 35 [g l11 0] fun l12 =>
 pS (iv 1) (g v 39) fun v13 =>
 .newbox fun r1 =>
 pE (g v 40) (iv 1) fun v14 =>
 .br v14 (
 .ret (g l12 0) []) (
 pE (g v 40) (iv 2) fun v15 =>
 .br v15 (
 c1 35 [g l7 0] fun l16 =>
 .ret (g l16 0) []) (
 pE (g v 40) (iv 3) fun v17 =>
 .br v17 (
 c1 35 [g l8 0] fun l18 =>
 .ret (g l18 0) []) (
 pE (g v 40) (iv 4) fun v19 =>
 .br v19 (
 .ret (.slice (some ⟨r1,0,none⟩) 2 2) [⟨r1,41,[iv 0,v13,iv 0,g v 39]⟩]) (
 pE (g v 40) (iv 5) fun v20 =>
 .br v20 (
 .prim (.bi .append #[51,51] 51) [.slice (some ⟨r1,0,none⟩) 2 2,g l12 0] [⟨r1,41,[iv 0,v13,iv 0,g v 39]⟩] [] .one fun l21 _ =>
 .ret (g l21 0) []) (
 pE (g v 40) (iv 6) fun v22 =>
 .br v22 (
 kN r0<|
 pZ (g v 30) fun v23 =>
 pS v23 (iv 1) fun v24 =>
 .loop 57 20 [.slice none 0 0,v24] fun C57 l25 =>
 pH (g l25 1) (iv 0) fun v26 =>
 .br v26 (
 kN r0<|
 pI 5 (g v 30) (g l25 1) fun v27 =>
 .load [] v27 5 fun l28 =>
 c1 37 [g v 0,ag (G5 l28 0)] fun l29 =>
 .br (g l29 0) (
 kN r0<|
 pI 5 (g v 30) (g l25 1) fun v30 =>
 kP v30<|
 .load [] (aO v30 1) 1 fun l31 =>
 .newbox fun r2 =>
 .prim (.bi .append #[51,51] 51) [g l25 0,.slice (some ⟨r2,0,none⟩) 1 1] [⟨r2,41,[g l31 0,iv 0]⟩] [] .one fun l32 _ =>
 lD l25 C57 l32 v r0) (
 lD l25 C57 l25 v r0)) (
 .ret (g l25 0) [])) (
 .ret (.slice none 0 0) [])))))))
theorem to:bI jb Tryz.f12 oc:=bJ Tryz.func12 [(76,[5,6,7,8])] [(20,.inv [13,14] [0,5] [(5,[])])] [] fun _=>by kernel_rfl
abbrev oK:FuncId:=13
def ou (v:List Value):Tree :=
 .loop 2 2 [iv 0] fun C2 l0 =>
 pZ (g v 0) fun v1 =>
 pL (g l0 0) v1 fun v2 =>
 .br v2 (
 .loop 8 5 [iv 0] fun C8 l3 =>
 pI 14 (g v 0) (g l0 0) fun v4 =>
 kP v4<|
 .load [] (aO v4 11) 1 fun l5 =>
 pZ (g l5 0) fun v6 =>
 pL (g l3 0) v6 fun v7 =>
 .br v7 (
 pI 14 (g v 0) (g l0 0) fun v8 =>
 kP v8<|
 .load [] (aO v8 11) 1 fun l9 =>
 pI 5 (g l9 0) (g l3 0) fun v10 =>
 kP v10<|
 .load [] (aO v10 2) 1 fun l11 =>
 pG (g l11 0) (iv 1000) fun v12 =>
 .br v12 (
 .ret (.bool false) []) (
 pA (g l3 0) (iv 1) fun v13 =>
 .cont 8 C8 [v13] (Es [[g v 0],[g l0 0]]))) (
 .loop 18 10 [iv 0] fun C18 l14 =>
 pI 14 (g v 0) (g l0 0) fun v15 =>
 kP v15<|
 .load [] (aO v15 12) 1 fun l16 =>
 pZ (g l16 0) fun v17 =>
 pL (g l14 0) v17 fun v18 =>
 .br v18 (
 .loop 28 13 [iv 0] fun C28 l19 =>
 pI 14 (g v 0) (g l0 0) fun v20 =>
 kP v20<|
 .load [] (aO v20 12) 1 fun l21 =>
 pI 2 (g l21 0) (g l14 0) fun v22 =>
 kP v22<|
 .load [] (aO v22 1) 1 fun l23 =>
 pZ (g l23 0) fun v24 =>
 pL (g l19 0) v24 fun v25 =>
 .br v25 (
 pI 14 (g v 0) (g l0 0) fun v26 =>
 kP v26<|
 .load [] (aO v26 12) 1 fun l27 =>
 pI 2 (g l27 0) (g l14 0) fun v28 =>
 kP v28<|
 .load [] (aO v28 1) 1 fun l29 =>
 pI 5 (g l29 0) (g l19 0) fun v30 =>
 kP v30<|
 .load [] (aO v30 2) 1 fun l31 =>
 pG (g l31 0) (iv 1000) fun v32 =>
 .br v32 (
 .ret (.bool false) []) (
 pA (g l19 0) (iv 1) fun v33 =>
 .cont 28 C28 [v33] (Es [[g v 0],[g l0 0],[g l14 0]]))) (
 pA (g l14 0) (iv 1) fun v34 =>
 .cont 18 C18 [v34] (Es [[g v 0],[g l0 0]]))) (
 pA (g l0 0) (iv 1) fun v35 =>
 .cont 2 C2 [v35] (Es [[g v 0]])))) (
 .ret (.bool true) [])
theorem tI:bI oK Tryz.f13 ou:=bJ Tryz.func13 [(76,[5,6,7,8])] [(2,.inv [3] [0] []),(5,.inv [4] [0,3] []),(10,.inv [5] [0,3] []),(13,.inv [6] [0,3,5] [])] [] fun _=>by kernel_rfl
abbrev jc:FuncId:=14
def oo (v:List Value):Tree :=
 .newbox fun r0 =>
 .newbox fun r1 =>
 kN r0<|
 .prim (.bi .append #[23,23] 23) [.slice none 0 0,g v 0] [] [] .one fun l0 _ =>
 kN r0<|
 kN r0<|
 .prim (.bi .append #[26,26] 26) [.slice none 0 0,g v 6] [] [] .one fun l1 _ =>
 kN r0<|
 kN r0<|
 .prim (.bi .append #[26,26] 26) [.slice none 0 0,g v 7] [] [] .one fun l2 _ =>
 kN r0<|
 kN r0<|
 .prim (.bi .append #[26,26] 26) [.slice none 0 0,g v 8] [] [] .one fun l3 _ =>
 kN r0<|
 kN r0<|
 .prim (.bi .append #[26,26] 26) [.slice none 0 0,g v 9] [] [] .one fun l4 _ =>
 kN r0<|
 kN r0<|
 .prim (.bi .append #[26,26] 26) [.slice none 0 0,g v 20] [] [] .one fun l5 _ =>
 kN r0<|
 kN r0<|
 .prim (.bi .append #[26,26] 26) [.slice none 0 0,g v 21] [] [] .one fun l6 _ =>
 kN r0<|
 kN r0<|
 .prim (.bi .append #[26,26] 26) [.slice none 0 0,g v 22] [] [] .one fun l7 _ =>
 kN r0<|
 kN r0<|
 .prim (.bi .append #[26,26] 26) [.slice none 0 0,g v 23] [] [] .one fun l8 _ =>
 kN r0<|
 kN r0<|
 kN r0<|
 c1 38 [g v 29] fun l9 =>
 c1 38 [g v 30] fun l10 =>
 kN r0<|
 kN r0<|
 kN r0<|
 .prim (.bi .append #[26,26] 26) [.slice none 0 0,g v 31] [] [] .one fun l11 _ =>
 kN r0<|
 kN r0<|
 .prim (.bi .append #[31,31] 31) [.slice none 0 0,g v 32] [] [] .one fun l12 _ =>
 kN r0<|
 kN r0<|
 kN r1<|
 kN r1<|
 .ret (ag ((g l0 0)::(G5 v 1++((g l1 0)::((g l2 0)::((g l3 0)::((g l4 0)::(G10 v 10++((g l5 0)::((g l6 0)::((g l7 0)::((g l8 0)::(G5 v 24++((g l9 0)::((g l10 0)::((g l11 0)::((g l12 0)::G5 v 33))))))))))))))))) []
theorem tD:bI jc Tryz.f14 oo:=bJ Tryz.func14 [(76,[5,6,7,8])] [(3,.unroll 3)] [] fun _=>by kernel_rfl
end Go.Proofs.YtdhobpmnkfmcfaaGreatDoor
