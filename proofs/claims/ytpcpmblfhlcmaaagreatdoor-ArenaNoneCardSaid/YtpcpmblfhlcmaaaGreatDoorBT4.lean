/- The trees of the functions of this seat: printed by a tool of mine; each by the kernel's reckoning equal to the evaluator's. -/
import Derived.Test.YtpcpmblfhlcmaaaGreatDoorBT3
namespace Go.Proofs.YtpcpmblfhlcmaaaGreatDoor
open Go Go.Sx
set_option maxRecDepth 100000
abbrev gI : FuncId := 188
def gC (v : List Value) : Tree :=
 .newbox fun r0 =>
 .newbox fun r1 =>
 kN r0 <|
 pL (g v 2) (iv 0) fun v0 =>
 kN r0 <|
 kV v0 <|
 kV v0 <|
 pZ (g v 0) fun v1 =>
 kV v0 <|
 kV v0 <|
 pH (g v 2) v1 fun v2 =>
 kV v0 <|
 pK v0 (.bool true) v2 fun v3 =>
 .br v3 (
 kN r1 <|
 kN r1 <|
 .ret (ag Z6) []) (
 kN r0 <|
 pI 14 (g v 0) (g v 2) fun v4 =>
 .load [] v4 14 fun l5 =>
 kN r1 <|
 kN r1 <|
 .ret (ag (G14 l5 0)) [])
theorem gX : eB gI Tryz.f188 gC := eE Tryz.func188 [(91, [5, 6, 7, 8])] [] [] fun _ => by kernel_rfl
abbrev aH : FuncId := 193
def aG (v : List Value) : Tree :=
 pZ (g v 0) fun v0 =>
 .loop 8 3 [iv 0,v0] fun C8 l1 =>
 pL (g l1 0) (g l1 1) fun v2 =>
 .br v2 (
 pA (g l1 0) (g l1 1) fun v3 =>
 .pure [] (.conv .u64) [v3] fun v4 =>
 .pure [] (.bin .shr .int) [v4,.int .u64 1] fun v5 =>
 .pure [] (.conv .i64) [v5] fun v6 =>
 pI 12 (g v 0) v6 fun v7 =>
 .load [] v7 12 fun l8 =>
 .callv false (g v 2) [ag (G12 l8 0),g v 1] [] [] .one fun l9 _ =>
 pL (g l9 0) (iv 0) fun v10 =>
 .br v10 (
 pA v6 (iv 1) fun v11 =>
 .cont 8 C8 [v11,g l1 1] (Es [[g v 0],[g v 1],[g v 2],[v0]])) (
 .cont 8 C8 [g l1 0,v6] (Es [[g v 0],[g v 1],[g v 2],[v0]]))) (
 pL (g l1 0) v0 fun v12 =>
 .br v12 (
 pI 12 (g v 0) (g l1 0) fun v13 =>
 .load [] v13 12 fun l14 =>
 .callv false (g v 2) [ag (G12 l14 0),g v 1] [] [] .one fun l15 _ =>
 pE (g l15 0) (iv 0) fun v16 =>
 .ret (.tuple #[g l1 0,v16]) []) (
 .ret (.tuple #[g l1 0,.bool false]) []))
theorem bu : eB aH Tryz.f193 aG := eE Tryz.func193 [(91, [5, 6, 7, 8])] [(3, .inv [9, 10] [0, 1, 2, 8] [])] [] fun _ => by kernel_rfl
abbrev me : FuncId := 195
def lY (v : List Value) : Tree :=
 .newbox fun r0 =>
 kN r0 <|
 c1 274 [ag (G4 v 0),iv 99] fun l0 =>
 .ret (g l0 0) []
theorem oW : eB me Tryz.f195 lY := eE Tryz.func195 [(91, [5, 6, 7, 8])] [] [] fun _ => by kernel_rfl
abbrev bn : FuncId := 196
def bm (v : List Value) : Tree :=
 c1 272 [g v 0,g v 1] fun l0 =>
 pH (g l0 0) (iv 0) fun v1 =>
 .ret v1 []
theorem cj : eB bn Tryz.f196 bm := eE Tryz.func196 [(91, [5, 6, 7, 8])] [] [] fun _ => by kernel_rfl
abbrev iH : FuncId := 197
def iC (v : List Value) : Tree :=
 .newbox fun r0 =>
 kN r0 <|
 c1 198 [ag (G5 v 0),.bool false] fun l0 =>
 pO (g l0 0) fun v1 =>
 .ret v1 []
theorem lh : eB iH Tryz.f197 iC := eE Tryz.func197 [(91, [5, 6, 7, 8])] [] [] fun _ => by kernel_rfl
abbrev mf : FuncId := 198
def ma (v : List Value) : Tree :=
 .newbox fun r0 =>
 kN r0 <|
 c1 77 [g v 0,iv 0,iv 1] fun l0 =>
 .br (g l0 0) (
 kN r0 <|
 c1 77 [g v 1,iv 1,iv 500] fun l1 =>
 .br (g l1 0) (
 kN r0 <|
 c1 77 [g v 2,iv 0,iv 399] fun l2 =>
 .br (g l2 0) (
 kN r0 <|
 c1 77 [g v 3,iv (-1),iv 1] fun l3 =>
 pO (g l3 0) fun v4 =>
 kN r0 <|
 kV v4 <|
 kV v4 <|
 pZ (g v 4) fun v5 =>
 kV v4 <|
 pG v5 (iv 4) fun v6 =>
 kV v4 <|
 pK v4 (.bool true) v6 fun v7 =>
 kN r0 <|
 kV v7 <|
 kV v7 <|
 pH (g v 3) (iv 0) fun v8 =>
 kV v7 <|
 kN r0 <|
 kV v8 <|
 kV v7 <|
 kV v8 <|
 kV v7 <|
 pZ (g v 4) fun v9 =>
 kV v8 <|
 kV v7 <|
 pG v9 (iv 0) fun v10 =>
 kV v7 <|
 kV v8 <|
 kV v7 <|
 pK v8 v10 (.bool false) fun v11 =>
 kV v7 <|
 pK v7 (.bool true) v11 fun v12 =>
 kV v12 <|
 kN r0 <|
 kV (g v 5) <|
 kV v12 <|
 kV (g v 5) <|
 kV v12 <|
 pL (g v 3) (iv 0) fun v13 =>
 kV v12 <|
 kV (g v 5) <|
 kV v12 <|
 pK (g v 5) v13 (.bool false) fun v14 =>
 kV v12 <|
 pK v12 (.bool true) v14 fun v15 =>
 .br v15 (
 .ret (.bool false) []) (
 kN r0 <|
 c1 275 [g v 4,.func (.func 276) #[] #[]] fun l16 =>
 pO (g l16 0) fun v17 =>
 .ret v17 [])) (
 .ret (.bool false) [])) (
 .ret (.bool false) [])) (
 .ret (.bool false) [])
theorem oZ : eB mf Tryz.f198 ma := eE Tryz.func198 [(91, [5, 6, 7, 8])] [] [] fun _ => by kernel_rfl
abbrev iG : FuncId := 199
def iz (v : List Value) : Tree :=
 .newbox fun r0 =>
 kN r0 <|
 c1 198 [ag (G5 v 0),.bool true] fun l0 =>
 pO (g l0 0) fun v1 =>
 .ret v1 []
theorem lg : eB iG Tryz.f199 iz := eE Tryz.func199 [(91, [5, 6, 7, 8])] [] [] fun _ => by kernel_rfl
abbrev jl : FuncId := 200
def aY (a : List Value) (b : Nat) (c : List Value) (d : Int) (e f : Nat) (h : List Value → Heap → Go.Sx.Own → Prop) (i j k l m : Nat) (n : Int) (o : Value) : Tree :=
 pI 1 (g a b) (g c 0) fun v5 =>
 .load [] v5 1 fun l6 =>
 .call false 278 [g l6 0,iv d,pt e 0] [] [⟨e,369,[g c 1]⟩] .one fun l7 c7 =>
 pO (g l7 0) fun v8 =>
 .br v8 (
 .ret (.bool false) []) (
 pA (g c 0) (iv 1) fun v9 =>
 .cont f h [v9,g (gd c7 0) 0] (Es [[pt i 0],[pt e 0],[.func (.func 278) #[] #[pt e 0]],[iv d],[iv d],[pt i j,pt i k,pt i l,pt i m],[iv n],[g a b],[o],((pt i 0)::G38 a 0),[pt e 0,.tuple #[]]]))
def jg (v : List Value) : Tree :=
 .newbox fun r0 =>
 .prim (.makeMap 369 false) [] [] [] .one fun l0 _ =>
 .newbox fun r1 =>
 kN r1 <|
 cS 91 [pt r0 1] (.agg 4) fun l1 =>
 kW (g l1 0) r0 6 <|
 kW (g l1 1) r0 7 <|
 kW (g l1 2) r0 8 <|
 kW (g l1 3) r0 9 <|
 kN r0 <|
 pZ (g v 6) fun v2 =>
 .loop 24 10 [iv 0,g l0 0] fun C24 l3 =>
 pL (g l3 0) v2 fun v4 =>
 .br v4 (
 aY v 6 l3 0 r1 24 C24 r0 6 7 8 9 0 v2) (
 kN r0 <|
 pZ (g v 7) fun v10 =>
 .loop 36 10 [iv 0,g l3 1] fun C36 l11 =>
 pL (g l11 0) v10 fun v12 =>
 .br v12 (
 aY v 7 l11 0 r1 36 C36 r0 6 7 8 9 1 v10) (
 kN r0 <|
 pZ (g v 8) fun v18 =>
 .loop 48 10 [iv 0,g l11 1] fun C48 l19 =>
 pL (g l19 0) v18 fun v20 =>
 .br v20 (
 aY v 8 l19 0 r1 48 C48 r0 6 7 8 9 2 v18) (
 kN r0 <|
 pZ (g v 9) fun v26 =>
 .loop 60 10 [iv 0,g l19 1] fun C60 l27 =>
 pL (g l27 0) v26 fun v28 =>
 .br v28 (
 aY v 9 l27 0 r1 60 C60 r0 6 7 8 9 3 v26) (
 cS 91 [pt r0 15] (.agg 4) fun l34 =>
 kW (g l34 0) r0 20 <|
 kW (g l34 1) r0 21 <|
 kW (g l34 2) r0 22 <|
 kW (g l34 3) r0 23 <|
 kN r0 <|
 pZ (g v 20) fun v35 =>
 .loop 83 10 [iv 0,g l27 1] fun C83 l36 =>
 pL (g l36 0) v35 fun v37 =>
 .br v37 (
 aY v 20 l36 1 r1 83 C83 r0 20 21 22 23 0 v35) (
 kN r0 <|
 pZ (g v 21) fun v43 =>
 .loop 95 10 [iv 0,g l36 1] fun C95 l44 =>
 pL (g l44 0) v43 fun v45 =>
 .br v45 (
 aY v 21 l44 1 r1 95 C95 r0 20 21 22 23 1 v43) (
 kN r0 <|
 pZ (g v 22) fun v51 =>
 .loop 107 10 [iv 0,g l44 1] fun C107 l52 =>
 pL (g l52 0) v51 fun v53 =>
 .br v53 (
 aY v 22 l52 1 r1 107 C107 r0 20 21 22 23 2 v51) (
 kN r0 <|
 pZ (g v 23) fun v59 =>
 .loop 119 10 [iv 0,g l52 1] fun C119 l60 =>
 pL (g l60 0) v59 fun v61 =>
 .br v61 (
 aY v 23 l60 1 r1 119 C119 r0 20 21 22 23 3 v59) (
 .prim (.makeMap 369 false) [] [] [] .one fun l67 _ =>
 kN r0 <|
 pZ (g v 29) fun v68 =>
 .loop 133 19 [iv 0,g l60 1] fun C133 l69 =>
 pL (g l69 0) v68 fun v70 =>
 .br v70 (
 pI 5 (g v 29) (g l69 0) fun v71 =>
 .load [] v71 5 fun l72 =>
 .newbox fun r2 =>
 kN r2 <|
 kN r2 <|
 pL (g l72 3) (iv 0) fun v73 =>
 .br v73 (
 kN r2 <|
 kN r2 <|
 .call false 278 [g l72 1,g l72 0,pt r1 0] [] [⟨r1,369,[g l69 1]⟩] .one fun l74 c74 =>
 pO (g l74 0) fun v75 =>
 .br v75 (
 .ret (.bool false) []) (
 kN r2 <|
 kN r2 <|
 .prim (.mapUpdate 369) [g l67 0,g l72 1,g l72 2] [] [] .one fun l76 _ =>
 pA (g l69 0) (iv 1) fun v77 =>
 .cont 133 C133 [v77,g (gd c74 0) 0] (Es [[pt r0 0],[pt r1 0],[.func (.func 278) #[] #[pt r1 0]],[g l67 0],[g v 29],[v68],((pt r0 0)::G38 v 0),[pt r1 0,.tuple #[]]]))) (
 pA (g l69 0) (iv 1) fun v78 =>
 .cont 133 C133 [v78,g l69 1] (Es [[pt r0 0],[pt r1 0],[.func (.func 278) #[] #[pt r1 0]],[g l67 0],[g v 29],[v68],((pt r0 0)::G38 v 0),[pt r1 0,.tuple #[]]]))) (
 kN r0 <|
 pZ (g v 0) fun v79 =>
 .loop 139 27 [iv 0] fun C139 l80 =>
 pL (g l80 0) v79 fun v81 =>
 .br v81 (
 pI 12 (g v 0) (g l80 0) fun v82 =>
 .load [] v82 12 fun l83 =>
 .newbox fun r3 =>
 kN r3 <|
 kN r1 <|
 kN r3 <|
 .prim (.lookup 369 true) [g l69 1,g l83 0] [] [] (.tup [none,none]) fun l84 _ =>
 kN r3 <|
 .prim (.lookup 369 true) [g l67 0,g l83 0] [] [] (.tup [none,none]) fun l85 _ =>
 kN r3 <|
 c1 204 [ag (G12 l83 0)] fun l86 =>
 pO (g l86 0) fun v87 =>
 kV v87 <|
 pG (g l80 0) (iv 0) fun v88 =>
 kV v87 <|
 kN r0 <|
 kV v88 <|
 kV v87 <|
 kV v88 <|
 kV v87 <|
 pS (g l80 0) (iv 1) fun v89 =>
 kV v88 <|
 kV v87 <|
 kV v88 <|
 kV v87 <|
 .pure [(v88,true),(v87,false)] (.idx 12) [g v 0,v89] fun v90 =>
 .chk (.ptr [(v88,true),(v87,false)] v90) <|
 kV v88 <|
 kV v87 <|
 kV v88 <|
 kV v87 <|
 .load [(v88,true),(v87,false)] v90 1 fun l91 =>
 kN r3 <|
 kV v88 <|
 kV v87 <|
 kV v88 <|
 kV v87 <|
 kV v88 <|
 kV v87 <|
 pH (g l91 0) (g l83 0) fun v92 =>
 kV v87 <|
 kV v88 <|
 kV v87 <|
 pK v88 v92 (.bool false) fun v93 =>
 kV v87 <|
 pK v87 (.bool true) v93 fun v94 =>
 kV v94 <|
 pO (g l84 1) fun v95 =>
 kV v94 <|
 pK v94 (.bool true) v95 fun v96 =>
 kN r3 <|
 kV v96 <|
 kV v96 <|
 kV v96 <|
 pN (g l84 0) (g l83 2) fun v97 =>
 kV v96 <|
 pK v96 (.bool true) v97 fun v98 =>
 kV v98 <|
 kN r3 <|
 kV (g l85 1) <|
 kV v98 <|
 kV (g l85 1) <|
 kV v98 <|
 kV (g l85 1) <|
 kV v98 <|
 pN (g l85 0) (g l83 1) fun v99 =>
 kV v98 <|
 kV (g l85 1) <|
 kV v98 <|
 pK (g l85 1) v99 (.bool false) fun v100 =>
 kV v98 <|
 pK v98 (.bool true) v100 fun v101 =>
 .br v101 (
 .ret (.bool false) []) (
 pA (g l80 0) (iv 1) fun v102 =>
 .cont 139 C139 [v102] (Es [[pt r0 0],[pt r1 0],[g l67 0],[g v 0],[v79],((pt r0 0)::G38 v 0),[pt r1 0,g l69 1]]))) (
 kN r1 <|
 .prim (.bi .len #[369] 3) [g l69 1] [] [] .one fun l103 _ =>
 kN r0 <|
 pZ (g v 0) fun v104 =>
 pE (g l103 0) v104 fun v105 =>
 .ret v105 []))))))))))
theorem mi : eB jl Tryz.f200 jg := eE Tryz.func200 [(91, [5, 6, 7, 8])] [(4, .unroll 3), (7, .unroll 5), (10, .inv [35] [1, 3, 4, 5, 21, 27, 28, 33, 34] [(1, []), (3, [0])]), (19, .inv [51] [1, 3, 4, 10, 49, 50] [(1, []), (3, [0])]), (27, .inv [74] [1, 3, 10, 72, 73] [(1, []), (3, [])])] [] fun _ => by kernel_rfl
abbrev jn : FuncId := 201
def cZ (a : Nat) (b : List Value) (c d : Nat) : Tree :=
 kN a <|
 .prim (.makeMap 370 false) [] [] [] .one fun l1 _ =>
 kN a <|
 pZ (g b 31) fun v2 =>
 .loop 23 4 [iv 0] fun C23 l3 =>
 pL (g l3 0) v2 fun v4 =>
 .br v4 (
 pI 1 (g b 31) (g l3 0) fun v5 =>
 .load [] v5 1 fun l6 =>
 .prim (.lookup 370 false) [g l1 0,g l6 0] [] [] .one fun l7 _ =>
 .br (g l7 0) (
 .ret (.bool false) []) (
 c1 125 [g b c,g l6 0] fun l8 =>
 pO (g l8 0) fun v9 =>
 .br v9 (
 .ret (.bool false) []) (
 .prim (.mapUpdate 370) [g l1 0,g l6 0,.bool true] [] [] .one fun l10 _ =>
 pA (g l3 0) (iv 1) fun v11 =>
 .cont 23 C23 [v11] (Es [[pt a 0],[g b c],[g b d],[g l1 0],[g b 31],[v2],((pt a 0)::G38 b 0)])))) (
 kN a <|
 pZ (g b 32) fun v12 =>
 .loop 29 11 [iv 0] fun C29 l13 =>
 pL (g l13 0) v12 fun v14 =>
 .br v14 (
 pI 2 (g b 32) (g l13 0) fun v15 =>
 .load [] v15 2 fun l16 =>
 .newbox fun r1 =>
 kN r1 <|
 kN r1 <|
 .prim (.lookup 370 false) [g l1 0,g l16 1] [] [] .one fun l17 _ =>
 pO (g l17 0) fun v18 =>
 .br v18 (
 .ret (.bool false) []) (
 kN r1 <|
 .pure [] .neg [g l16 0] fun v19 =>
 .prim (.lookup 370 false) [g l1 0,v19] [] [] .one fun l20 _ =>
 .br (g l20 0) (
 .ret (.bool false) []) (
 kN a <|
 kN r1 <|
 c1 125 [g b 31,g l16 1] fun l21 =>
 pO (g l21 0) fun v22 =>
 .br v22 (
 .ret (.bool false) []) (
 kN r1 <|
 c1 125 [g b d,g l16 0] fun l23 =>
 pO (g l23 0) fun v24 =>
 .br v24 (
 .ret (.bool false) []) (
 kN r1 <|
 kN r1 <|
 .pure [] .neg [g l16 0] fun v25 =>
 .prim (.mapUpdate 370) [g l1 0,g l16 1,.bool false] [] [] .one fun l26 _ =>
 .prim (.mapUpdate 370) [g l1 0,v25,.bool true] [] [] .one fun l27 _ =>
 pA (g l13 0) (iv 1) fun v28 =>
 .cont 29 C29 [v28] (Es [[pt a 0],[g b d],[g l1 0],[g b 32],[v12],((pt a 0)::G38 b 0)])))))) (
 .ret (.bool true) []))
def ji (v : List Value) : Tree :=
 .newbox fun r0 =>
 kN r0 <|
 .sw (g v 34) 0 (
 kN r0 <|
 kN r0 <|
 pS (iv 1) (g v 34) fun v0 =>
 .sw v0 0 (
 cZ r0 v 8 8) (
 .sw v0 1 (
 cZ r0 v 8 22) (
 .stuck 901))) (
 .sw (g v 34) 1 (
 kN r0 <|
 kN r0 <|
 pS (iv 1) (g v 34) fun v57 =>
 .sw v57 0 (
 cZ r0 v 22 8) (
 .sw v57 1 (
 cZ r0 v 22 22) (
 .stuck 901))) (
 .stuck 901))
theorem ml : eB jn Tryz.f201 ji := eE Tryz.func201 [(91, [5, 6, 7, 8])] [(4, .inv [27] [1, 3, 4, 5, 25, 26] [(1, [])]), (11, .inv [46] [1, 4, 5, 44, 45] [(1, [])])] [] fun _ => by kernel_rfl
abbrev dK : FuncId := 203
def dJ (v : List Value) : Tree :=
 pZ (g v 0) fun v0 =>
 .loop 4 2 [iv 0] fun C4 l1 =>
 pL (g l1 0) v0 fun v2 =>
 .br v2 (
 pI 1 (g v 0) (g l1 0) fun v3 =>
 .load [] v3 1 fun l4 =>
 pE (g v 1) (g l4 0) fun v5 =>
 .br v5 (
 .ret (g l1 0) []) (
 pA (g l1 0) (iv 1) fun v6 =>
 .cont 4 C4 [v6] (Es [[g v 0],[g v 1],[v0]]))) (
 .ret (iv (-1)) [])
theorem fH : eB dK Tryz.f203 dJ := eE Tryz.func203 [(91, [5, 6, 7, 8])] [(2, .inv [8] [0, 1, 7] [])] [] fun _ => by kernel_rfl
abbrev jj : FuncId := 204
def je (v : List Value) : Tree :=
 .newbox fun r0 =>
 kN r0 <|
 kN r0 <|
 kN r0 <|
 kN r0 <|
 kN r0 <|
 kN r0 <|
 .loop 16 2 [iv 0] fun C16 l0 =>
 pL (g l0 0) (iv 6) fun v1 =>
 .br v1 (
 .pure [] .aidx ((g l0 0)::G6 v 3) fun v2 =>
 pL v2 (iv 0) fun v3 =>
 kV v3 <|
 pG v2 (iv 99) fun v4 =>
 kV v3 <|
 pK v3 (.bool true) v4 fun v5 =>
 .br v5 (
 .ret (.bool false) []) (
 pA (g l0 0) (iv 1) fun v6 =>
 .cont 16 C16 [v6] (Es [[pt r0 0],G6 v 3,((pt r0 0)::G12 v 0)]))) (
 kN r0 <|
 pE (g v 1) (iv (-1)) fun v7 =>
 kN r0 <|
 kV v7 <|
 kV v7 <|
 pE (g v 3) (iv 0) fun v8 =>
 kV v7 <|
 kN r0 <|
 kV v8 <|
 kV v7 <|
 kV v8 <|
 kV v7 <|
 pE (g v 4) (iv 0) fun v9 =>
 kV v7 <|
 kV v8 <|
 kV v7 <|
 pK v8 v9 (.bool false) fun v10 =>
 kV v7 <|
 pK v7 (.bool true) v10 fun v11 =>
 kN r0 <|
 kV v11 <|
 kV v11 <|
 pH (g v 0) (iv 1) fun v12 =>
 kV v11 <|
 pK v11 v12 (.bool false) fun v13 =>
 kN r0 <|
 kV v13 <|
 kV v13 <|
 pM (g v 0) (iv 500) fun v14 =>
 kV v13 <|
 pK v13 v14 (.bool false) fun v15 =>
 kN r0 <|
 kV v15 <|
 kV v15 <|
 pH (g v 1) (iv (-1)) fun v16 =>
 kV v15 <|
 pK v15 v16 (.bool false) fun v17 =>
 kN r0 <|
 kV v17 <|
 kV v17 <|
 pL (g v 1) (iv 400) fun v18 =>
 kV v17 <|
 pK v17 v18 (.bool false) fun v19 =>
 kN r0 <|
 kV v19 <|
 kV v19 <|
 pE (g v 2) (iv 0) fun v20 =>
 kV v19 <|
 kN r0 <|
 kV v20 <|
 kV v19 <|
 kV v20 <|
 kV v19 <|
 pE (g v 2) (iv 1) fun v21 =>
 kV v19 <|
 kV v20 <|
 kV v19 <|
 pK v20 (.bool true) v21 fun v22 =>
 kV v19 <|
 pK v19 v22 (.bool false) fun v23 =>
 .ret v23 [])
theorem mg : eB jj Tryz.f204 je := eE Tryz.func204 [(91, [5, 6, 7, 8])] [(2, .inv [19] [1, 18] [(1, [])])] [] fun _ => by kernel_rfl
abbrev dG : FuncId := 206
def iy (v : List Value) : Tree :=
 .newbox fun r0 =>
 kN r0 <|
 pS (g v 0) (g v 12) fun v0 =>
 .ret v0 []
theorem lc : eB dG Tryz.f206 iy := eE Tryz.func206 [(91, [5, 6, 7, 8])] [] [] fun _ => by kernel_rfl
abbrev fw : FuncId := 218
def lZ (v : List Value) : Tree :=
 .pure [] .slen [g v 0] fun v0 =>
 c1 219 [v0,iv 1,iv 32] fun l1 =>
 pO (g l1 0) fun v2 =>
 .br v2 (
 .ret (.bool false) []) (
 c1 281 [g v 0,.string ⟨#[32]⟩] fun l3 =>
 .pure [] (.bin .neq .str) [g l3 0,g v 0] fun v4 =>
 .br v4 (
 .ret (.bool false) []) (
 .prim (.convert 9 376) [g v 0] [] [] .one fun l5 _ =>
 pZ (g l5 0) fun v6 =>
 .loop 15 4 [iv 0] fun C15 l7 =>
 pL (g l7 0) v6 fun v8 =>
 .br v8 (
 pI 1 (g l5 0) (g l7 0) fun v9 =>
 .load [] v9 1 fun l10 =>
 pL (g l10 0) (.int .u8 32) fun v11 =>
 kV v11 <|
 pG (g l10 0) (.int .u8 126) fun v12 =>
 kV v11 <|
 pK v11 (.bool true) v12 fun v13 =>
 .br v13 (
 .ret (.bool false) []) (
 pA (g l7 0) (iv 1) fun v14 =>
 .cont 15 C15 [v14] (Es [[g l5 0],[v6]]))) (
 .ret (.bool true) [])))
theorem oY : eB fw Tryz.f218 lZ := eE Tryz.func218 [(91, [5, 6, 7, 8])] [(4, .inv [18] [16, 17] [])] [] fun _ => by kernel_rfl
abbrev kS : FuncId := 219
def kE (v : List Value) : Tree :=
 pH (g v 0) (g v 1) fun v0 =>
 kV v0 <|
 kV v0 <|
 pM (g v 0) (g v 2) fun v1 =>
 kV v0 <|
 pK v0 v1 (.bool false) fun v2 =>
 .ret v2 []
theorem mZ : eB kS Tryz.f219 kE := eE Tryz.func219 [(91, [5, 6, 7, 8])] [] [] fun _ => by kernel_rfl
abbrev qm : FuncId := 228
def iE (a : List Value) (b : List Value → Heap → Go.Sx.Own → Prop) (c d : List Value) (e : Nat) (f : Value) : Tree :=
 pA (g a 1) (iv 1) fun v8 =>
 .cont 7 b [g c 0,v8] (Es [[g d 38],[pt e 0],[g d 0],[f],((pt e 0)::G38 d 0)])
def iD (a b : Nat) (c : List Value) (d : Nat) (e f : List Value) (h : List Value → Heap → Go.Sx.Own → Prop) (i : Value) : Tree :=
 kN a <|
 kN b <|
 c1 125 [g c d,g e 0] fun l5 =>
 .callv false (g c 38) [ag (G12 e 0),g l5 0] [] [] .one fun l6 _ =>
 .br (g l6 0) (
 kN b <|
 .newbox fun r2 =>
 .prim (.bi .append #[27,27] 27) [g f 0,.slice (some ⟨r2,0,none⟩) 1 1] [⟨r2,3,[g e 0]⟩] [] .one fun l7 _ =>
 iE f h l7 c a i) (
 iE f h f c a i)
def qi (v : List Value) : Tree :=
 .newbox fun r0 =>
 kN r0 <|
 pZ (g v 0) fun v0 =>
 .loop 7 3 [.slice none 0 0,iv 0] fun C7 l1 =>
 pL (g l1 1) v0 fun v2 =>
 .br v2 (
 pI 12 (g v 0) (g l1 1) fun v3 =>
 .load [] v3 12 fun l4 =>
 .newbox fun r1 =>
 kN r1 <|
 kN r1 <|
 kN r1 <|
 .sw (g l4 2) 0 (
 iD r0 r1 v 8 l4 l1 C7 v0) (
 .sw (g l4 2) 1 (
 iD r0 r1 v 22 l4 l1 C7 v0) (
 .stuck 901))) (
 .ret (g l1 0) [])
theorem rP : eB qm Tryz.f228 qi := eE Tryz.func228 [(91, [5, 6, 7, 8])] [(3, .inv [5, 11] [1, 2, 9, 10] [(2, [])])] [] fun _ => by kernel_rfl
abbrev kK : FuncId := 229
def kw (v : List Value) : Tree :=
 .newbox fun r0 =>
 .br (g v 12) (
 .load [] (g v 13) 1 fun l0 =>
 kN r0 <|
 c1 230 [g l0 0,ag (G12 v 0)] fun l1 =>
 .ret (g l1 0) []) (
 .ret (.bool false) [])
theorem mR : eB kK Tryz.f229 kw := eE Tryz.func229 [(91, [5, 6, 7, 8])] [] [] fun _ => by kernel_rfl
abbrev kO : FuncId := 230
def kB (v : List Value) : Tree :=
 .newbox fun r0 =>
 kN r0 <|
 c1 243 [g v 0,ag (G12 v 1)] fun l0 =>
 pO (g l0 0) fun v1 =>
 .br v1 (
 .ret (.bool false) []) (
 kN r0 <|
 c1 253 [g v 0,ag (G12 v 1)] fun l2 =>
 kN r0 <|
 kV (g v 12) <|
 pE (g l2 0) (iv 0) fun v3 =>
 kV (g v 12) <|
 pK (g v 12) (.bool true) v3 fun v4 =>
 kN r0 <|
 kV v4 <|
 kV v4 <|
 kV v4 <|
 pH (g v 6) (g l2 0) fun v5 =>
 kV v4 <|
 pK v4 (.bool true) v5 fun v6 =>
 .ret v6 [])
theorem mV : eB kO Tryz.f230 kB := eE Tryz.func230 [(91, [5, 6, 7, 8])] [] [] fun _ => by kernel_rfl
abbrev mc : FuncId := 231
def lW (v : List Value) : Tree :=
 .newbox fun r0 =>
 kN r0 <|
 pL (g v 1) (iv 0) fun v0 =>
 kV v0 <|
 pO (g v 12) fun v1 =>
 kV v0 <|
 pK v0 v1 (.bool false) fun v2 =>
 .ret v2 []
theorem oU : eB mc Tryz.f231 lW := eE Tryz.func231 [(91, [5, 6, 7, 8])] [] [] fun _ => by kernel_rfl
end Go.Proofs.YtpcpmblfhlcmaaaGreatDoor
