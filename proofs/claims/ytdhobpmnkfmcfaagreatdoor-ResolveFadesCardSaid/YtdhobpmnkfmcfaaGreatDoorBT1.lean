/- The trees of the functions of this seat: printed by a tool of mine; each by the kernel's reckoning equal to the evaluator's. -/
import Derived.Test.YtdhobpmnkfmcfaaGreatDoorFw2
import Derived.Test.YtdhobpmnkfmcfaaGreatDoorProg
import Derived.KernelRfl
namespace Go.Proofs.YtdhobpmnkfmcfaaGreatDoor
open Go Go.Sx
set_option maxRecDepth 100000
noncomputable abbrev PP : Program := Tryz.prog
theorem mixed : PP.follows .mixedOrders = true := by kernel_rfl
def okL : List Nat := [2, 3, 4, 5, 6, 7, 8, 9, 10, 11, 12, 13, 14, 15, 16, 17, 18, 19, 20, 21, 22, 23, 24, 25, 26, 27, 28, 29, 30, 31, 32, 33, 34, 35, 36, 37, 38, 39, 40, 41, 42, 43, 44, 45, 46, 47, 48, 49, 50, 51, 52, 53, 54, 55, 56, 57, 58, 59, 60, 61, 62, 63, 64, 65, 66, 67, 68, 69, 70, 71, 72, 73, 74, 75, 76, 77, 78, 79, 80, 81, 82, 83, 84, 85, 86, 87, 88, 89, 90, 91, 92, 93, 94, 95, 96, 97, 98, 99, 100, 101, 102, 103, 104, 105, 106, 107, 108, 109, 110, 111, 112, 113, 114, 115, 116, 117, 118, 119, 120, 121, 122, 123, 124, 125, 126, 127, 128, 129, 130, 131, 132, 133, 134, 135, 136, 137, 138, 139, 140, 141, 142, 143, 144, 145, 146, 147, 148, 149, 150, 151, 152, 153, 155, 156, 157, 158, 159, 160, 161, 162, 163, 164, 165, 166, 167, 168, 169, 170, 171, 172, 173, 174, 175, 176, 177, 178, 179, 180, 181, 182, 183, 184, 200, 201, 202, 203, 204, 205, 206, 212]
theorem iP : okL.all (J5 PP) = true := by kernel_rfl
def bI (f : FuncId) (fn : Func) (T : List Value → Tree) : Prop := ∀ {args vs : List Value}, ol PP fn args = some vs → Ones vs → ∀ {H : Heap} {O : Own} {Q : Value → Heap → Own → Prop}, (T vs).den PP Q H O → Triple PP f args H O Q
theorem bJ {f : FuncId} {fn : Func} {T : List Value → Tree} (hf : PP.funcs[f]? = some fn) (a : _) (b : _) (c : _) (e : ∀ vs, JO PP fn (If okL a b c) vs = T vs) : bI f fn T := fun ha ho _ _ _ h => Fj mixed (Bw iP _ _ _) hf e ha ho h
abbrev aG : TypeId := 3
abbrev Ap : TypeId := 4
abbrev xP : TypeId := 25
abbrev ir : TypeId := 36
abbrev dQ : TypeId := 39
abbrev az : TypeId := 41
abbrev bc : TypeId := 56
abbrev aE : TypeId := 82
abbrev eM : TypeId := 91
abbrev ba : TypeId := 122
abbrev bM : TypeId := 196
abbrev cC : TypeId := 198
abbrev aQ : TypeId := 206
abbrev rY : TypeId := 208
abbrev Z0 : List Value := [.slice none 0 0,iv 0,iv 0,iv 0,iv 0,iv 0,.slice none 0 0,.slice none 0 0,.slice none 0 0,.slice none 0 0,.bool false,.bool false,.bool false,iv 0,iv 0,iv 0,iv 0,iv 0,iv 0,iv 0,.slice none 0 0,.slice none 0 0,.slice none 0 0,.slice none 0 0,.bool false,.bool false,.bool false,iv 0,iv 0,.slice none 0 0,.slice none 0 0,.slice none 0 0,.slice none 0 0,iv 0,iv 0,iv 0,iv 0,iv 0]
abbrev Z1 : List Value := [.string ⟨#[]⟩,iv 2,iv 0,iv 0,iv 0,iv 0,iv 0,iv 0,iv 2,iv 2,iv 0,.slice none 0 0,.slice none 0 0,iv 0]
abbrev Z2 : List Value := [.string ⟨#[]⟩,iv 0,iv 0,iv 0,iv 0,iv 0,iv 0,iv 0,iv 0,iv 0,iv 0,.slice none 0 0,.slice none 0 0,iv 0]
abbrev Z3 : List Value := [iv 0,iv 0,iv 0,iv 0,iv 0,iv 0,iv 0,iv 0,iv 0,.bool false,.bool false,.bool false]
abbrev fE : FuncId := 6
abbrev fV : FuncId := 10
def iY (v : List Value) : Tree :=
 .newbox fun r0 =>
 kN r0 <|
 cS 30 [iv 0,iv 1,.agg #[iv 1,iv 1,iv 3,iv 0,iv 0],.agg #[iv 3,iv 0],iv 9] (.tup [some 38,none]) fun l0 =>
 .newbox fun r1 =>
 kN r1 <|
 pO (g l0 38) fun v1 =>
 kN r1 <|
 kV v1 <|
 kV v1 <|
 .pure [(v1,false)] (.idx 12) [g l0 0,iv 2] fun v2 =>
 .chk (.ptr [(v1,false)] v2) <|
 kV v1 <|
 kV v1 <|
 .load [(v1,false)] (bz v2 5) 1 fun l3 =>
 kV v1 <|
 pN (g l3 0) (iv 3) fun v4 =>
 kV v1 <|
 pK v1 (.bool true) v4 fun v5 =>
 .br v5 (
 .ret (.bool false) []) (
 cS 30 [iv 0,iv 1,.agg #[iv 1,iv 4,iv 20,iv 0,iv 0],.agg #[iv 0,iv 1],iv 9] (.tup [some 38,none]) fun l6 =>
 kN r1 <|
 kN r0 <|
 cS 30 [iv 1,iv 3,.agg #[iv 3,iv 0,iv 5,iv 0,iv 0],.agg #[iv 0,iv 0],iv 9] (.tup [some 38,none]) fun l7 =>
 .newbox fun r2 =>
 kN r2 <|
 pO (g l6 38) fun v8 =>
 kV v8 <|
 kV v8 <|
 kN r1 <|
 kV v8 <|
 kV v8 <|
 pN (g l6 15) (iv 0) fun v9 =>
 kV v8 <|
 pK v8 (.bool true) v9 fun v10 =>
 kV v10 <|
 pO (g l7 38) fun v11 =>
 kV v10 <|
 pK v10 (.bool true) v11 fun v12 =>
 kV v12 <|
 kV v12 <|
 kN r2 <|
 kV v12 <|
 kV v12 <|
 pN (g l7 15) (iv 25) fun v13 =>
 kV v12 <|
 pK v12 (.bool true) v13 fun v14 =>
 .br v14 (
 .ret (.bool false) []) (
 cS 30 [iv 0,iv 1,.agg #[iv 6,iv 3,iv 0,iv 0,iv 0],.agg #[iv 1,iv 0],iv 9] (.tup [some 38,none]) fun l15 =>
 kN r1 <|
 kN r0 <|
 cS 30 [iv 0,iv 1,.agg #[iv 9,iv 0,iv 2,iv 0,iv 0],.agg #[iv 0,iv 0],iv 9] (.tup [some 38,none]) fun l16 =>
 kN r2 <|
 pO (g l15 38) fun v17 =>
 .br v17 (
 .ret (.bool false) []) (
 kN r1 <|
 cS 31 [] (.agg 38) fun l18 =>
 c1 28 [ag (G38 l15 0),ag (G38 l18 0)] fun l19 =>
 pO (g l19 0) fun v20 =>
 kV v20 <|
 pO (g l16 38) fun v21 =>
 kV v20 <|
 pK v20 (.bool true) v21 fun v22 =>
 kN r2 <|
 kV v22 <|
 kV v22 <|
 .pure [(v22,false)] (.idx 12) [g l16 0,iv 0] fun v23 =>
 .chk (.ptr [(v22,false)] v23) <|
 kV v22 <|
 kV v22 <|
 .load [(v22,false)] (bz v23 6) 1 fun l24 =>
 kV v22 <|
 pN (g l24 0) (iv 2) fun v25 =>
 kV v22 <|
 pK v22 (.bool true) v25 fun v26 =>
 .br v26 (
 .ret (.bool false) []) (
 kN r0 <|
 cS 30 [iv 0,iv 2,.agg #[iv 9,iv 0,iv 2,iv 0,iv 0],.agg #[iv 0,iv 0],iv 9] (.tup [some 38,none]) fun l27 =>
 kN r1 <|
 kN r0 <|
 cS 30 [iv 1,iv 3,.agg #[iv 2,iv 0,iv 1,iv 0,iv 0],.agg #[iv 0,iv 0],iv 9] (.tup [some 38,none]) fun l28 =>
 kN r2 <|
 pO (g l27 38) fun v29 =>
 .br v29 (
 .ret (.bool false) []) (
 kN r1 <|
 cS 31 [] (.agg 38) fun l30 =>
 c1 28 [ag (G38 l27 0),ag (G38 l30 0)] fun l31 =>
 pO (g l31 0) fun v32 =>
 kV v32 <|
 pO (g l28 38) fun v33 =>
 kV v32 <|
 pK v32 (.bool true) v33 fun v34 =>
 kV v34 <|
 kV v34 <|
 kN r2 <|
 kV v34 <|
 kV v34 <|
 pO (g l28 24) fun v35 =>
 kV v34 <|
 pK v34 (.bool true) v35 fun v36 =>
 kV v36 <|
 kV v36 <|
 kN r2 <|
 kV v36 <|
 kV v36 <|
 pK v36 (.bool true) (g l28 10) fun v37 =>
 .br v37 (
 .ret (.bool false) []) (
 .newbox fun r3 =>
 kN r3 <|
 kN r3 <|
 kN r0 <|
 cS 30 [iv 0,iv 1,.agg #[iv 10,iv 0,iv 1,iv 1,iv 0],.agg #[iv 0,iv 0],iv 3] (.tup [some 38,none]) fun l38 =>
 kN r1 <|
 kN r3 <|
 kN r0 <|
 cS 30 [iv 0,iv 1,.agg #[iv 10,iv 0,iv 1,iv 1,iv 0],.agg #[iv 0,iv 0],iv 4] (.tup [some 38,none]) fun l39 =>
 kN r2 <|
 pO (g l38 38) fun v40 =>
 .br v40 (
 .ret (.bool false) []) (
 kN r1 <|
 cS 31 [] (.agg 38) fun l41 =>
 c1 28 [ag (G38 l38 0),ag (G38 l41 0)] fun l42 =>
 pO (g l42 0) fun v43 =>
 kV v43 <|
 pO (g l39 38) fun v44 =>
 kV v43 <|
 pK v43 (.bool true) v44 fun v45 =>
 kN r2 <|
 kV v45 <|
 kV v45 <|
 pZ (g l39 0) fun v46 =>
 kV v45 <|
 pN v46 (iv 4) fun v47 =>
 kV v45 <|
 pK v45 (.bool true) v47 fun v48 =>
 kN r2 <|
 kV v48 <|
 kV v48 <|
 .pure [(v48,false)] (.idx 12) [g l39 0,iv 3] fun v49 =>
 .chk (.ptr [(v48,false)] v49) <|
 kV v48 <|
 kV v48 <|
 .load [(v48,false)] v49 1 fun l50 =>
 kV v48 <|
 pN (g l50 0) (iv 4) fun v51 =>
 kV v48 <|
 pK v48 (.bool true) v51 fun v52 =>
 kN r2 <|
 kV v52 <|
 kV v52 <|
 .pure [(v52,false)] (.idx 12) [g l39 0,iv 3] fun v53 =>
 .chk (.ptr [(v52,false)] v53) <|
 kV v52 <|
 kV v52 <|
 .load [(v52,false)] (bz v53 1) 1 fun l54 =>
 kV v52 <|
 pN (g l54 0) (iv (-1)) fun v55 =>
 kV v52 <|
 pK v52 (.bool true) v55 fun v56 =>
 .br v56 (
 .ret (.bool false) []) (
 c1 32 [] fun l57 =>
 cS 31 [] (.agg 38) fun l58 =>
 cS 15 [g l57 0,ag (G38 l58 0),iv 9] (.tup [some 38,some 5,none]) fun l59 =>
 .newbox fun r4 =>
 .newbox fun r5 =>
 kN r4 <|
 kN r5 <|
 kN r0 <|
 c1 32 [] fun l60 =>
 cS 31 [] (.agg 38) fun l61 =>
 cS 26 [g l60 0,ag (G38 l61 0),iv 2,iv 1,.agg #[iv 2,iv 0,iv 1,iv 0,iv 0],.agg #[iv 0,iv 0],iv 9] (.tup [some 38,none]) fun l62 =>
 .newbox fun r6 =>
 kN r6 <|
 pE (g l59 43) (iv 9) fun v63 =>
 kV v63 <|
 pE (g l62 38) (iv 2) fun v64 =>
 kV v63 <|
 pK v63 v64 (.bool false) fun v65 =>
 .ret v65 []))))))))
theorem nm : bI fV Tryz.f10 iY := bJ Tryz.func10 [(76, [5, 6, 7, 8])] [] [] fun _ => by kernel_rfl
abbrev gu : FuncId := 14
def jZ (v : List Value) : Tree :=
 .newbox fun r0 =>
 .newbox fun r1 =>
 kN r0 <|
 .prim (.bi .append #[23,23] 23) [.slice none 0 0,g v 0] [] [] .one fun l0 _ =>
 kN r0 <|
 kN r0 <|
 .prim (.bi .append #[26,26] 26) [.slice none 0 0,g v 6] [] [] .one fun l1 _ =>
 kN r0 <|
 kN r0 <|
 .prim (.bi .append #[26,26] 26) [.slice none 0 0,g v 7] [] [] .one fun l2 _ =>
 kN r0 <|
 kN r0 <|
 .prim (.bi .append #[26,26] 26) [.slice none 0 0,g v 8] [] [] .one fun l3 _ =>
 kN r0 <|
 kN r0 <|
 .prim (.bi .append #[26,26] 26) [.slice none 0 0,g v 9] [] [] .one fun l4 _ =>
 kN r0 <|
 kN r0 <|
 .prim (.bi .append #[26,26] 26) [.slice none 0 0,g v 20] [] [] .one fun l5 _ =>
 kN r0 <|
 kN r0 <|
 .prim (.bi .append #[26,26] 26) [.slice none 0 0,g v 21] [] [] .one fun l6 _ =>
 kN r0 <|
 kN r0 <|
 .prim (.bi .append #[26,26] 26) [.slice none 0 0,g v 22] [] [] .one fun l7 _ =>
 kN r0 <|
 kN r0 <|
 .prim (.bi .append #[26,26] 26) [.slice none 0 0,g v 23] [] [] .one fun l8 _ =>
 kN r0 <|
 kN r0 <|
 kN r0 <|
 c1 38 [g v 29] fun l9 =>
 c1 38 [g v 30] fun l10 =>
 kN r0 <|
 kN r0 <|
 kN r0 <|
 .prim (.bi .append #[26,26] 26) [.slice none 0 0,g v 31] [] [] .one fun l11 _ =>
 kN r0 <|
 kN r0 <|
 .prim (.bi .append #[31,31] 31) [.slice none 0 0,g v 32] [] [] .one fun l12 _ =>
 kN r0 <|
 kN r0 <|
 kN r1 <|
 kN r1 <|
 .ret (ag ((g l0 0)::(G5 v 1 ++ ((g l1 0)::((g l2 0)::((g l3 0)::((g l4 0)::(G10 v 10 ++ ((g l5 0)::((g l6 0)::((g l7 0)::((g l8 0)::(G5 v 24 ++ ((g l9 0)::((g l10 0)::((g l11 0)::((g l12 0)::G5 v 33))))))))))))))))) []
theorem nG : bI gu Tryz.f14 jZ := bJ Tryz.func14 [(76, [5, 6, 7, 8])] [(3, .unroll 3)] [] fun _ => by kernel_rfl
end Go.Proofs.YtdhobpmnkfmcfaaGreatDoor
