/- The trees of the functions of this seat: printed by a tool of mine; each by the kernel's reckoning equal to the evaluator's. -/
import Derived.Test.YteakpllehopodaaGreatDoorBT3
namespace Go.Proofs.YteakpllehopodaaGreatDoor
open Go Go.Sx
set_option maxRecDepth 100000
abbrev nV:FuncId:=155
def jU (v:List Value):Tree :=
 .newbox fun r0 =>
 .newbox fun r1 =>
 kN r0<|
 pL (g v 2) (iv 0) fun v0 =>
 kN r0<|
 kV v0<|
 kV v0<|
 pZ (g v 0) fun v1 =>
 kV v0<|
 kV v0<|
 pH (g v 2) v1 fun v2 =>
 kV v0<|
 pK v0 (.bool true) v2 fun v3 =>
 .br v3 (
 kN r1<|
 kN r1<|
 .ret (ag Z7) []) (
 kN r0<|
 pI 14 (g v 0) (g v 2) fun v4 =>
 .load [] v4 14 fun l5 =>
 kN r1<|
 kN r1<|
 .ret (ag (G14 l5 0)) [])
theorem ki:aS nV Tryz.f155 jU:=aU Tryz.func155 [(25,[5,6,7,8])] [] [] fun _=>by kernel_rfl
abbrev Dj:FuncId:=156
def lH (a:Nat) (b:List Value) (c d e f h i:Nat):Tree :=
 kN a<|
 kN a<|
 c1 224 [g b 0,ag (G38 b 1),g b 39] fun l4 =>
 .newbox fun r3 =>
 kN c<|
 .loop 30 6 [.bool true,iv 0,g b d,g b e,g b f,g b h,g l4 0,.slice none 0 0] fun C30 l5 =>
 pL (g l5 1) (iv 4) fun v6 =>
 .br v6 (
 .pure [] .aidx ((g l5 1)::G4 b 40) fun v7 =>
 .br (g l5 0) (
 .call false 225 [pt r3 0,g l5 1,v7] [] [⟨r3,312,(G6 l5 2)⟩] .one fun l8 c8 =>
 pA (g l5 1) (iv 1) fun v9 =>
 .cont 30 C30 [g l8 0,v9,g (gd c8 0) 0,g (gd c8 0) 1,g (gd c8 0) 2,g (gd c8 0) 3,g (gd c8 0) 4,g (gd c8 0) 5] (Es [[pt c 0],[pt i 0],[pt r3 0],G4 b 40,((pt c 0)::G5 b 40),[pt i 0,iv 0,iv 0,iv 0,iv 0],[pt r3 0,.tuple #[],.tuple #[],.tuple #[],.tuple #[],.tuple #[],.tuple #[]]])) (
 pA (g l5 1) (iv 1) fun v10 =>
 .cont 30 C30 ((.bool false)::(v10::G6 l5 2)) (Es [[pt c 0],[pt i 0],[pt r3 0],G4 b 40,((pt c 0)::G5 b 40),[pt i 0,iv 0,iv 0,iv 0,iv 0],[pt r3 0,.tuple #[],.tuple #[],.tuple #[],.tuple #[],.tuple #[],.tuple #[]]]))) (
 kN c<|
 .loop 35 11 ((g l5 0)::((iv 0)::G6 l5 2)) fun C35 l11 =>
 pL (g l11 1) (g b 44) fun v12 =>
 .br v12 (
 .br (g l11 0) (
 .call false 226 [pt r3 0] [] [⟨r3,312,(G6 l11 2)⟩] .one fun l13 c13 =>
 pA (g l11 1) (iv 1) fun v14 =>
 .cont 35 C35 [g l13 0,v14,g (gd c13 0) 0,g (gd c13 0) 1,g (gd c13 0) 2,g (gd c13 0) 3,g (gd c13 0) 4,g (gd c13 0) 5] (Es [[pt i 0],[pt r3 0],[g b 44],[pt i 0,iv 0,iv 0,iv 0,iv 0],[pt r3 0,.tuple #[],.tuple #[],.tuple #[],.tuple #[],.tuple #[],.tuple #[]]])) (
 pA (g l11 1) (iv 1) fun v15 =>
 .cont 35 C35 ((.bool false)::(v15::G6 l11 2)) (Es [[pt i 0],[pt r3 0],[g b 44],[pt i 0,iv 0,iv 0,iv 0,iv 0],[pt r3 0,.tuple #[],.tuple #[],.tuple #[],.tuple #[],.tuple #[],.tuple #[]]]))) (
 pO (g l11 0) fun v16 =>
 .br v16 (
 kN i<|
 kN i<|
 .ret (.tuple #[.slice none 0 0,.agg #[iv 0,iv 0,iv 0,iv 0],iv 12]) []) (
 kN r3<|
 cS 143 [g l11 7] (.tup []) fun l17 =>
 kN r3<|
 kN r3<|
 kN i<|
 kN i<|
 .ret (.tuple #[g l11 7,ag (G4 l11 2),iv 0]) [])))
def Da (v:List Value):Tree :=
 .newbox fun r0 =>
 .newbox fun r1 =>
 .newbox fun r2 =>
 kN r1<|
 c1 222 [ag (G5 v 40)] fun l0 =>
 pO (g l0 0) fun v1 =>
 .br v1 (
 kN r2<|
 kN r2<|
 .ret (.tuple #[.slice none 0 0,.agg #[iv 0,iv 0,iv 0,iv 0],iv 2]) []) (
 kN r0<|
 c1 223 [ag (G38 v 1),g v 39] fun l2 =>
 pO (g l2 0) fun v3 =>
 .br v3 (
 kN r2<|
 kN r2<|
 .ret (.tuple #[.slice none 0 0,.agg #[iv 0,iv 0,iv 0,iv 0],iv 2]) []) (
 .sw (g v 39) 0 (
 lH r0 v r1 3 4 5 6 r2) (
 .sw (g v 39) 1 (
 lH r0 v r1 17 18 19 20 r2) (
 .stuck 901))))
theorem Fq:aS Dj Tryz.f156 Da:=aU Tryz.func156 [(25,[5,6,7,8])] [(6,.inv [12,38] [7,9,11,37] [(7,[]),(9,[]),(11,[0,1,2,3,4,5])]),(11,.inv [12,52] [9,11,51] [(9,[]),(11,[0,1,2,3,4,5])])] [] fun _=>by kernel_rfl
abbrev bh:FuncId:=160
def bf (v:List Value):Tree :=
 pZ (g v 0) fun v0 =>
 .loop 8 3 [iv 0,v0] fun C8 l1 =>
 pL (g l1 0) (g l1 1) fun v2 =>
 .br v2 (
 pA (g l1 0) (g l1 1) fun v3 =>
 .pure [] (.conv .u64) [v3] fun v4 =>
 .pure [] (.bin .shr .int) [v4,.int .u64 1] fun v5 =>
 .pure [] (.conv .i64) [v5] fun v6 =>
 pI 12 (g v 0) v6 fun v7 =>
 .load [] v7 12 fun l8 =>
 .callv false (g v 2) [ag (G12 l8 0),g v 1] [] [] .one fun l9 _ =>
 pL (g l9 0) (iv 0) fun v10 =>
 .br v10 (
 pA v6 (iv 1) fun v11 =>
 .cont 8 C8 [v11,g l1 1] (Es [[g v 0],[g v 1],[g v 2],[v0]])) (
 .cont 8 C8 [g l1 0,v6] (Es [[g v 0],[g v 1],[g v 2],[v0]]))) (
 pL (g l1 0) v0 fun v12 =>
 .br v12 (
 pI 12 (g v 0) (g l1 0) fun v13 =>
 .load [] v13 12 fun l14 =>
 .callv false (g v 2) [ag (G12 l14 0),g v 1] [] [] .one fun l15 _ =>
 pE (g l15 0) (iv 0) fun v16 =>
 .ret (.tuple #[g l1 0,v16]) []) (
 .ret (.tuple #[g l1 0,.bool false]) []))
theorem dh:aS bh Tryz.f160 bf:=aU Tryz.func160 [(25,[5,6,7,8])] [(3,.inv [9,10] [0,1,2,8] [])] [] fun _=>by kernel_rfl
abbrev xr:FuncId:=162
def wP (v:List Value):Tree :=
 .newbox fun r0 =>
 kN r0<|
 c1 231 [ag (G4 v 0),iv 99] fun l0 =>
 .ret (g l0 0) []
theorem A4:aS xr Tryz.f162 wP:=aU Tryz.func162 [(25,[5,6,7,8])] [] [] fun _=>by kernel_rfl
abbrev cQ:FuncId:=163
def cO (v:List Value):Tree :=
 c1 229 [g v 0,g v 1] fun l0 =>
 pH (g l0 0) (iv 0) fun v1 =>
 .ret v1 []
theorem fj:aS cQ Tryz.f163 cO:=aU Tryz.func163 [(25,[5,6,7,8])] [] [] fun _=>by kernel_rfl
abbrev qB:FuncId:=164
def qk (v:List Value):Tree :=
 .newbox fun r0 =>
 kN r0<|
 c1 165 [ag (G5 v 0),.bool false] fun l0 =>
 pO (g l0 0) fun v1 =>
 .ret v1 []
theorem vk:aS qB Tryz.f164 qk:=aU Tryz.func164 [(25,[5,6,7,8])] [] [] fun _=>by kernel_rfl
abbrev xA:FuncId:=165
def wX (v:List Value):Tree :=
 .newbox fun r0 =>
 kN r0<|
 c1 102 [g v 0,iv 0,iv 1] fun l0 =>
 .br (g l0 0) (
 kN r0<|
 c1 102 [g v 1,iv 1,iv 500] fun l1 =>
 .br (g l1 0) (
 kN r0<|
 c1 102 [g v 2,iv 0,iv 399] fun l2 =>
 .br (g l2 0) (
 kN r0<|
 c1 102 [g v 3,iv (-1),iv 1] fun l3 =>
 pO (g l3 0) fun v4 =>
 kN r0<|
 kV v4<|
 kV v4<|
 pZ (g v 4) fun v5 =>
 kV v4<|
 pG v5 (iv 4) fun v6 =>
 kV v4<|
 pK v4 (.bool true) v6 fun v7 =>
 kN r0<|
 kV v7<|
 kV v7<|
 pH (g v 3) (iv 0) fun v8 =>
 kV v7<|
 kN r0<|
 kV v8<|
 kV v7<|
 kV v8<|
 kV v7<|
 pZ (g v 4) fun v9 =>
 kV v8<|
 kV v7<|
 pG v9 (iv 0) fun v10 =>
 kV v7<|
 kV v8<|
 kV v7<|
 pK v8 v10 (.bool false) fun v11 =>
 kV v7<|
 pK v7 (.bool true) v11 fun v12 =>
 kV v12<|
 kN r0<|
 kV (g v 5)<|
 kV v12<|
 kV (g v 5)<|
 kV v12<|
 pL (g v 3) (iv 0) fun v13 =>
 kV v12<|
 kV (g v 5)<|
 kV v12<|
 pK (g v 5) v13 (.bool false) fun v14 =>
 kV v12<|
 pK v12 (.bool true) v14 fun v15 =>
 .br v15 (
 .ret (.bool false) []) (
 kN r0<|
 c1 232 [g v 4,.func (.func 233) #[] #[]] fun l16 =>
 pO (g l16 0) fun v17 =>
 .ret v17 [])) (
 .ret (.bool false) [])) (
 .ret (.bool false) [])) (
 .ret (.bool false) [])
theorem Be:aS xA Tryz.f165 wX:=aU Tryz.func165 [(25,[5,6,7,8])] [] [] fun _=>by kernel_rfl
abbrev qA:FuncId:=166
def qj (v:List Value):Tree :=
 .newbox fun r0 =>
 kN r0<|
 c1 165 [ag (G5 v 0),.bool true] fun l0 =>
 pO (g l0 0) fun v1 =>
 .ret v1 []
theorem vj:aS qA Tryz.f166 qj:=aU Tryz.func166 [(25,[5,6,7,8])] [] [] fun _=>by kernel_rfl
abbrev sd:FuncId:=167
def bY (a:List Value) (b:Nat) (c:List Value) (d:Int) (e f:Nat) (h:List Value→Heap→Go.Sx.Own→Prop) (i j k l m:Nat) (n:Int) (o:Value):Tree :=
 pI 1 (g a b) (g c 0) fun v5 =>
 .load [] v5 1 fun l6 =>
 .call false 235 [g l6 0,iv d,pt e 0] [] [⟨e,319,[g c 1]⟩] .one fun l7 c7 =>
 pO (g l7 0) fun v8 =>
 .br v8 (
 .ret (.bool false) []) (
 pA (g c 0) (iv 1) fun v9 =>
 .cont f h [v9,g (gd c7 0) 0] (Es [[pt i 0],[pt e 0],[.func (.func 235) #[] #[pt e 0]],[iv d],[iv d],[pt i j,pt i k,pt i l,pt i m],[iv n],[g a b],[o],((pt i 0)::G38 a 0),[pt e 0,.tuple #[]]]))
def rH (v:List Value):Tree :=
 .newbox fun r0 =>
 .prim (.makeMap 319 false) [] [] [] .one fun l0 _ =>
 .newbox fun r1 =>
 kN r1<|
 cS 25 [pt r0 1] (.agg 4) fun l1 =>
 kW (g l1 0) r0 6<|
 kW (g l1 1) r0 7<|
 kW (g l1 2) r0 8<|
 kW (g l1 3) r0 9<|
 kN r0<|
 pZ (g v 6) fun v2 =>
 .loop 24 10 [iv 0,g l0 0] fun C24 l3 =>
 pL (g l3 0) v2 fun v4 =>
 .br v4 (
 bY v 6 l3 0 r1 24 C24 r0 6 7 8 9 0 v2) (
 kN r0<|
 pZ (g v 7) fun v10 =>
 .loop 36 10 [iv 0,g l3 1] fun C36 l11 =>
 pL (g l11 0) v10 fun v12 =>
 .br v12 (
 bY v 7 l11 0 r1 36 C36 r0 6 7 8 9 1 v10) (
 kN r0<|
 pZ (g v 8) fun v18 =>
 .loop 48 10 [iv 0,g l11 1] fun C48 l19 =>
 pL (g l19 0) v18 fun v20 =>
 .br v20 (
 bY v 8 l19 0 r1 48 C48 r0 6 7 8 9 2 v18) (
 kN r0<|
 pZ (g v 9) fun v26 =>
 .loop 60 10 [iv 0,g l19 1] fun C60 l27 =>
 pL (g l27 0) v26 fun v28 =>
 .br v28 (
 bY v 9 l27 0 r1 60 C60 r0 6 7 8 9 3 v26) (
 cS 25 [pt r0 15] (.agg 4) fun l34 =>
 kW (g l34 0) r0 20<|
 kW (g l34 1) r0 21<|
 kW (g l34 2) r0 22<|
 kW (g l34 3) r0 23<|
 kN r0<|
 pZ (g v 20) fun v35 =>
 .loop 83 10 [iv 0,g l27 1] fun C83 l36 =>
 pL (g l36 0) v35 fun v37 =>
 .br v37 (
 bY v 20 l36 1 r1 83 C83 r0 20 21 22 23 0 v35) (
 kN r0<|
 pZ (g v 21) fun v43 =>
 .loop 95 10 [iv 0,g l36 1] fun C95 l44 =>
 pL (g l44 0) v43 fun v45 =>
 .br v45 (
 bY v 21 l44 1 r1 95 C95 r0 20 21 22 23 1 v43) (
 kN r0<|
 pZ (g v 22) fun v51 =>
 .loop 107 10 [iv 0,g l44 1] fun C107 l52 =>
 pL (g l52 0) v51 fun v53 =>
 .br v53 (
 bY v 22 l52 1 r1 107 C107 r0 20 21 22 23 2 v51) (
 kN r0<|
 pZ (g v 23) fun v59 =>
 .loop 119 10 [iv 0,g l52 1] fun C119 l60 =>
 pL (g l60 0) v59 fun v61 =>
 .br v61 (
 bY v 23 l60 1 r1 119 C119 r0 20 21 22 23 3 v59) (
 .prim (.makeMap 319 false) [] [] [] .one fun l67 _ =>
 kN r0<|
 pZ (g v 29) fun v68 =>
 .loop 133 19 [iv 0,g l60 1] fun C133 l69 =>
 pL (g l69 0) v68 fun v70 =>
 .br v70 (
 pI 5 (g v 29) (g l69 0) fun v71 =>
 .load [] v71 5 fun l72 =>
 .newbox fun r2 =>
 kN r2<|
 kN r2<|
 pL (g l72 3) (iv 0) fun v73 =>
 .br v73 (
 kN r2<|
 kN r2<|
 .call false 235 [g l72 1,g l72 0,pt r1 0] [] [⟨r1,319,[g l69 1]⟩] .one fun l74 c74 =>
 pO (g l74 0) fun v75 =>
 .br v75 (
 .ret (.bool false) []) (
 kN r2<|
 kN r2<|
 .prim (.mapUpdate 319) [g l67 0,g l72 1,g l72 2] [] [] .one fun l76 _ =>
 pA (g l69 0) (iv 1) fun v77 =>
 .cont 133 C133 [v77,g (gd c74 0) 0] (Es [[pt r0 0],[pt r1 0],[.func (.func 235) #[] #[pt r1 0]],[g l67 0],[g v 29],[v68],((pt r0 0)::G38 v 0),[pt r1 0,.tuple #[]]]))) (
 pA (g l69 0) (iv 1) fun v78 =>
 .cont 133 C133 [v78,g l69 1] (Es [[pt r0 0],[pt r1 0],[.func (.func 235) #[] #[pt r1 0]],[g l67 0],[g v 29],[v68],((pt r0 0)::G38 v 0),[pt r1 0,.tuple #[]]]))) (
 kN r0<|
 pZ (g v 0) fun v79 =>
 .loop 139 27 [iv 0] fun C139 l80 =>
 pL (g l80 0) v79 fun v81 =>
 .br v81 (
 pI 12 (g v 0) (g l80 0) fun v82 =>
 .load [] v82 12 fun l83 =>
 .newbox fun r3 =>
 kN r3<|
 kN r1<|
 kN r3<|
 .prim (.lookup 319 true) [g l69 1,g l83 0] [] [] (.tup [none,none]) fun l84 _ =>
 kN r3<|
 .prim (.lookup 319 true) [g l67 0,g l83 0] [] [] (.tup [none,none]) fun l85 _ =>
 kN r3<|
 c1 171 [ag (G12 l83 0)] fun l86 =>
 pO (g l86 0) fun v87 =>
 kV v87<|
 pG (g l80 0) (iv 0) fun v88 =>
 kV v87<|
 kN r0<|
 kV v88<|
 kV v87<|
 kV v88<|
 kV v87<|
 pS (g l80 0) (iv 1) fun v89 =>
 kV v88<|
 kV v87<|
 kV v88<|
 kV v87<|
 .pure [(v88,true),(v87,false)] (.idx 12) [g v 0,v89] fun v90 =>
 .chk (.ptr [(v88,true),(v87,false)] v90)<|
 kV v88<|
 kV v87<|
 kV v88<|
 kV v87<|
 .load [(v88,true),(v87,false)] v90 1 fun l91 =>
 kN r3<|
 kV v88<|
 kV v87<|
 kV v88<|
 kV v87<|
 kV v88<|
 kV v87<|
 pH (g l91 0) (g l83 0) fun v92 =>
 kV v87<|
 kV v88<|
 kV v87<|
 pK v88 v92 (.bool false) fun v93 =>
 kV v87<|
 pK v87 (.bool true) v93 fun v94 =>
 kV v94<|
 pO (g l84 1) fun v95 =>
 kV v94<|
 pK v94 (.bool true) v95 fun v96 =>
 kN r3<|
 kV v96<|
 kV v96<|
 kV v96<|
 pN (g l84 0) (g l83 2) fun v97 =>
 kV v96<|
 pK v96 (.bool true) v97 fun v98 =>
 kV v98<|
 kN r3<|
 kV (g l85 1)<|
 kV v98<|
 kV (g l85 1)<|
 kV v98<|
 kV (g l85 1)<|
 kV v98<|
 pN (g l85 0) (g l83 1) fun v99 =>
 kV v98<|
 kV (g l85 1)<|
 kV v98<|
 pK (g l85 1) v99 (.bool false) fun v100 =>
 kV v98<|
 pK v98 (.bool true) v100 fun v101 =>
 .br v101 (
 .ret (.bool false) []) (
 pA (g l80 0) (iv 1) fun v102 =>
 .cont 139 C139 [v102] (Es [[pt r0 0],[pt r1 0],[g l67 0],[g v 0],[v79],((pt r0 0)::G38 v 0),[pt r1 0,g l69 1]]))) (
 kN r1<|
 .prim (.bi .len #[319] 3) [g l69 1] [] [] .one fun l103 _ =>
 kN r0<|
 pZ (g v 0) fun v104 =>
 pE (g l103 0) v104 fun v105 =>
 .ret v105 []))))))))))
theorem xT:aS sd Tryz.f167 rH:=aU Tryz.func167 [(25,[5,6,7,8])] [(4,.unroll 3),(7,.unroll 5),(10,.inv [35] [1,3,4,5,21,27,28,33,34] [(1,[]),(3,[0])]),(19,.inv [51] [1,3,4,10,49,50] [(1,[]),(3,[0])]),(27,.inv [74] [1,3,10,72,73] [(1,[]),(3,[])])] [] fun _=>by kernel_rfl
abbrev sf:FuncId:=168
def gG (a:Nat) (b:List Value) (c d:Nat):Tree :=
 kN a<|
 .prim (.makeMap 320 false) [] [] [] .one fun l1 _ =>
 kN a<|
 pZ (g b 31) fun v2 =>
 .loop 23 4 [iv 0] fun C23 l3 =>
 pL (g l3 0) v2 fun v4 =>
 .br v4 (
 pI 1 (g b 31) (g l3 0) fun v5 =>
 .load [] v5 1 fun l6 =>
 .prim (.lookup 320 false) [g l1 0,g l6 0] [] [] .one fun l7 _ =>
 .br (g l7 0) (
 .ret (.bool false) []) (
 c1 96 [g b c,g l6 0] fun l8 =>
 pO (g l8 0) fun v9 =>
 .br v9 (
 .ret (.bool false) []) (
 .prim (.mapUpdate 320) [g l1 0,g l6 0,.bool true] [] [] .one fun l10 _ =>
 pA (g l3 0) (iv 1) fun v11 =>
 .cont 23 C23 [v11] (Es [[pt a 0],[g b c],[g b d],[g l1 0],[g b 31],[v2],((pt a 0)::G38 b 0)])))) (
 kN a<|
 pZ (g b 32) fun v12 =>
 .loop 29 11 [iv 0] fun C29 l13 =>
 pL (g l13 0) v12 fun v14 =>
 .br v14 (
 pI 2 (g b 32) (g l13 0) fun v15 =>
 .load [] v15 2 fun l16 =>
 .newbox fun r1 =>
 kN r1<|
 kN r1<|
 .prim (.lookup 320 false) [g l1 0,g l16 1] [] [] .one fun l17 _ =>
 pO (g l17 0) fun v18 =>
 .br v18 (
 .ret (.bool false) []) (
 kN r1<|
 .pure [] .neg [g l16 0] fun v19 =>
 .prim (.lookup 320 false) [g l1 0,v19] [] [] .one fun l20 _ =>
 .br (g l20 0) (
 .ret (.bool false) []) (
 kN a<|
 kN r1<|
 c1 96 [g b 31,g l16 1] fun l21 =>
 pO (g l21 0) fun v22 =>
 .br v22 (
 .ret (.bool false) []) (
 kN r1<|
 c1 96 [g b d,g l16 0] fun l23 =>
 pO (g l23 0) fun v24 =>
 .br v24 (
 .ret (.bool false) []) (
 kN r1<|
 kN r1<|
 .pure [] .neg [g l16 0] fun v25 =>
 .prim (.mapUpdate 320) [g l1 0,g l16 1,.bool false] [] [] .one fun l26 _ =>
 .prim (.mapUpdate 320) [g l1 0,v25,.bool true] [] [] .one fun l27 _ =>
 pA (g l13 0) (iv 1) fun v28 =>
 .cont 29 C29 [v28] (Es [[pt a 0],[g b d],[g l1 0],[g b 32],[v12],((pt a 0)::G38 b 0)])))))) (
 .ret (.bool true) []))
def rJ (v:List Value):Tree :=
 .newbox fun r0 =>
 kN r0<|
 .sw (g v 34) 0 (
 kN r0<|
 kN r0<|
 pS (iv 1) (g v 34) fun v0 =>
 .sw v0 0 (
 gG r0 v 8 8) (
 .sw v0 1 (
 gG r0 v 8 22) (
 .stuck 901))) (
 .sw (g v 34) 1 (
 kN r0<|
 kN r0<|
 pS (iv 1) (g v 34) fun v57 =>
 .sw v57 0 (
 gG r0 v 22 8) (
 .sw v57 1 (
 gG r0 v 22 22) (
 .stuck 901))) (
 .stuck 901))
theorem xW:aS sf Tryz.f168 rJ:=aU Tryz.func168 [(25,[5,6,7,8])] [(4,.inv [27] [1,3,4,5,25,26] [(1,[])]),(11,.inv [46] [1,4,5,44,45] [(1,[])])] [] fun _=>by kernel_rfl
abbrev iI:FuncId:=170
def iE (v:List Value):Tree :=
 pZ (g v 0) fun v0 =>
 .loop 4 2 [iv 0] fun C4 l1 =>
 pL (g l1 0) v0 fun v2 =>
 .br v2 (
 pI 1 (g v 0) (g l1 0) fun v3 =>
 .load [] v3 1 fun l4 =>
 pE (g v 1) (g l4 0) fun v5 =>
 .br v5 (
 .ret (g l1 0) []) (
 pA (g l1 0) (iv 1) fun v6 =>
 .cont 4 C4 [v6] (Es [[g v 0],[g v 1],[v0]]))) (
 .ret (iv (-1)) [])
theorem mq:aS iI Tryz.f170 iE:=aU Tryz.func170 [(25,[5,6,7,8])] [(2,.inv [8] [0,1,7] [])] [] fun _=>by kernel_rfl
abbrev rV:FuncId:=171
def rC (v:List Value):Tree :=
 .newbox fun r0 =>
 kN r0<|
 kN r0<|
 kN r0<|
 kN r0<|
 kN r0<|
 kN r0<|
 .loop 16 2 [iv 0] fun C16 l0 =>
 pL (g l0 0) (iv 6) fun v1 =>
 .br v1 (
 .pure [] .aidx ((g l0 0)::G6 v 3) fun v2 =>
 pL v2 (iv 0) fun v3 =>
 kV v3<|
 pG v2 (iv 99) fun v4 =>
 kV v3<|
 pK v3 (.bool true) v4 fun v5 =>
 .br v5 (
 .ret (.bool false) []) (
 pA (g l0 0) (iv 1) fun v6 =>
 .cont 16 C16 [v6] (Es [[pt r0 0],G6 v 3,((pt r0 0)::G12 v 0)]))) (
 kN r0<|
 pE (g v 1) (iv (-1)) fun v7 =>
 kN r0<|
 kV v7<|
 kV v7<|
 pE (g v 3) (iv 0) fun v8 =>
 kV v7<|
 kN r0<|
 kV v8<|
 kV v7<|
 kV v8<|
 kV v7<|
 pE (g v 4) (iv 0) fun v9 =>
 kV v7<|
 kV v8<|
 kV v7<|
 pK v8 v9 (.bool false) fun v10 =>
 kV v7<|
 pK v7 (.bool true) v10 fun v11 =>
 kN r0<|
 kV v11<|
 kV v11<|
 pH (g v 0) (iv 1) fun v12 =>
 kV v11<|
 pK v11 v12 (.bool false) fun v13 =>
 kN r0<|
 kV v13<|
 kV v13<|
 pM (g v 0) (iv 500) fun v14 =>
 kV v13<|
 pK v13 v14 (.bool false) fun v15 =>
 kN r0<|
 kV v15<|
 kV v15<|
 pH (g v 1) (iv (-1)) fun v16 =>
 kV v15<|
 pK v15 v16 (.bool false) fun v17 =>
 kN r0<|
 kV v17<|
 kV v17<|
 pL (g v 1) (iv 400) fun v18 =>
 kV v17<|
 pK v17 v18 (.bool false) fun v19 =>
 kN r0<|
 kV v19<|
 kV v19<|
 pE (g v 2) (iv 0) fun v20 =>
 kV v19<|
 kN r0<|
 kV v20<|
 kV v19<|
 kV v20<|
 kV v19<|
 pE (g v 2) (iv 1) fun v21 =>
 kV v19<|
 kV v20<|
 kV v19<|
 pK v20 (.bool true) v21 fun v22 =>
 kV v19<|
 pK v19 v22 (.bool false) fun v23 =>
 .ret v23 [])
theorem xN:aS rV Tryz.f171 rC:=aU Tryz.func171 [(25,[5,6,7,8])] [(2,.inv [19] [1,18] [(1,[])])] [] fun _=>by kernel_rfl
abbrev ix:FuncId:=173
def qi (v:List Value):Tree :=
 .newbox fun r0 =>
 kN r0<|
 pS (g v 0) (g v 12) fun v0 =>
 .ret v0 []
theorem vi:aS ix Tryz.f173 qi:=aU Tryz.func173 [(25,[5,6,7,8])] [] [] fun _=>by kernel_rfl
abbrev nW:FuncId:=179
def uv (v:List Value):Tree :=
 .newbox fun r0 =>
 .newbox fun r1 =>
 kN r0<|
 kN r0<|
 kN r0<|
 kN r0<|
 kN r1<|
 kN r1<|
 .ret (ag (G5 v 0++[iv 0,g v 6,iv 0,iv 0,g v 9,g v 10,g v 11])) []
theorem yL:aS nW Tryz.f179 uv:=aU Tryz.func179 [(25,[5,6,7,8])] [] [] fun _=>by kernel_rfl
abbrev xd:FuncId:=183
def rK (a:Nat) (b:Int):Tree :=
 kN a<|
 kN a<|
 .ret (.tuple #[ag Z5,iv b]) []
def fh (a b:Nat) (c:List (List Value)):Tree :=
 kN a<|
 kN b<|
 kN b<|
 .ret (.tuple #[.agg #[g (gd c 0) 0,g (gd c 0) 1,g (gd c 0) 2,g (gd c 0) 3,g (gd c 0) 4,g (gd c 0) 5,g (gd c 0) 6,g (gd c 0) 7,g (gd c 0) 8,g (gd c 0) 9,g (gd c 0) 10,g (gd c 0) 11,g (gd c 0) 12,g (gd c 0) 13,g (gd c 0) 14,g (gd c 0) 15,g (gd c 0) 16,g (gd c 0) 17,g (gd c 0) 18,g (gd c 0) 19,g (gd c 0) 20,g (gd c 0) 21,g (gd c 0) 22,g (gd c 0) 23,g (gd c 0) 24,g (gd c 0) 25,g (gd c 0) 26,g (gd c 0) 27,g (gd c 0) 28,g (gd c 0) 29,g (gd c 0) 30,g (gd c 0) 31,g (gd c 0) 32,g (gd c 0) 33,g (gd c 0) 34,g (gd c 0) 35,g (gd c 0) 36,g (gd c 0) 37],iv 0]) []
def wE (v:List Value):Tree :=
 .newbox fun r0 =>
 .newbox fun r1 =>
 kN r0<|
 c1 93 [ag (G38 v 0)] fun l0 =>
 pO (g l0 0) fun v1 =>
 .br v1 (
 rK r1 2) (
 kN r0<|
 pE (g v 33) (iv 1000) fun v2 =>
 .br v2 (
 rK r1 3) (
 kN r0<|
 cS 23 [ag (G38 v 0)] (.agg 38) fun l3 =>
 kN r0<|
 kN r0<|
 pS (iv 1) (g l3 34) fun v4 =>
 kN r0<|
 kN r0<|
 pE (g l3 33) (iv 0) fun v5 =>
 .br v5 (
 kN r0<|
 kN r0<|
 pA (g l3 33) (iv 1) fun v6 =>
 kN r0<|
 kN r0<|
 kN r0<|
 kN r0<|
 kN r0<|
 kN r0<|
 kN r0<|
 kN r0<|
 kN r0<|
 kN r0<|
 kN r0<|
 kN r0<|
 kN r0<|
 .call false 240 [pt r0 0,iv 0,.func (.func 241) #[] #[]] [] [⟨r0,43,((g l3 0)::((g l3 1)::((iv 0)::((iv 0)::((iv 0)::((iv 0)::(G5 l3 6++((.bool false)::((g l3 12)::((g l3 13)::((iv 0)::((g l3 15)::((iv 0)::((iv 0)::((iv 0)::((iv 0)::(G5 l3 20++[.bool false,g l3 26,g l3 27,iv 0,g l3 29,g l3 30,.slice none 0 0,.slice none 0 0,v6,iv 0,iv 1,iv (-1),iv 0])))))))))))))))))⟩] (.tup []) fun l7 c7 =>
 fh r0 r1 c7) (
 kN r0<|
 pA (g l3 33) (iv 1) fun v8 =>
 kN r0<|
 kN r0<|
 kN r0<|
 kN r0<|
 kN r0<|
 kN r0<|
 kN r0<|
 kN r0<|
 kN r0<|
 kN r0<|
 kN r0<|
 kN r0<|
 kN r0<|
 .call false 240 [pt r0 0,v4,.func (.func 241) #[] #[]] [] [⟨r0,43,((g l3 0)::((g l3 1)::((iv 0)::((iv 0)::((iv 0)::((iv 0)::(G5 l3 6++((.bool false)::((g l3 12)::((g l3 13)::((iv 0)::((g l3 15)::((iv 0)::((iv 0)::((iv 0)::((iv 0)::(G5 l3 20++[.bool false,g l3 26,g l3 27,iv 0,g l3 29,g l3 30,.slice none 0 0,.slice none 0 0,v8,v4,iv 1,iv (-1),iv 0])))))))))))))))))⟩] (.tup []) fun l9 c9 =>
 fh r0 r1 c9)))
theorem AP:aS xd Tryz.f183 wE:=aU Tryz.func183 [(25,[5,6,7,8])] [(13,.unroll 3)] [] fun _=>by kernel_rfl
abbrev jJ:FuncId:=184
def aT (a:List Value) (b:Int):Tree :=
 kP (an (g a 0) 7)<|
 kP (an (g a 0) 7)<|
 kP (an (an (g a 0) 7) 35)<|
 .store (an (an (g a 0) 7) 35) [iv b]<|
 .ret (.tuple #[]) []
def fq (a:Value) (b c:List Value):Tree :=
 .br a (
 kP (an (g b 0) 7)<|
 kP (an (g b 0) 7)<|
 kP (an (an (g b 0) 7) 35)<|
 .store (an (an (g b 0) 7) 35) [iv 7]<|
 cS 86 [g b 0] (.tup []) fun l15 =>
 .ret (.tuple #[]) []) (
 pE (g c 0) (iv 8) fun v16 =>
 .br v16 (
 kP (g b 0)<|
 kP (g b 0)<|
 .load [] (an (g b 0) 6) 1 fun l17 =>
 kP (an (g b 0) 7)<|
 .load [] (an (g b 0) 7) 38 fun l18 =>
 cS 242 [g l17 0,ag (G38 l18 0)] (.agg 38) fun l19 =>
 kP (g b 0)<|
 kP (g b 0)<|
 kP (an (g b 0) 7)<|
 .store (an (g b 0) 7) (G38 l19 0)<|
 kP (an (g b 0) 7)<|
 kP (an (g b 0) 7)<|
 kP (an (an (g b 0) 7) 35)<|
 .store (an (an (g b 0) 7) 35) [iv 9]<|
 .ret (.tuple #[]) []) (
 pE (g c 0) (iv 10) fun v20 =>
 .br v20 (
 kP (an (g b 0) 7)<|
 .load [] (an (g b 0) 7) 38 fun l21 =>
 cS 243 [ag (G38 l21 0)] (.agg 38) fun l22 =>
 kP (g b 0)<|
 kP (g b 0)<|
 kP (an (g b 0) 7)<|
 .store (an (g b 0) 7) (G38 l22 0)<|
 kP (an (g b 0) 7)<|
 kP (an (g b 0) 7)<|
 .load [] (an (an (g b 0) 7) 33) 1 fun l23 =>
 kP (g b 0)<|
 kP (g b 0)<|
 kP (g b 0)<|
 .load [] (an (g b 0) 5) 1 fun l24 =>
 pH (g l23 0) (g l24 0) fun v25 =>
 .br v25 (
 kP (g b 0)<|
 kP (g b 0)<|
 kP (an (g b 0) 48)<|
 .store (an (g b 0) 48) [iv 5]<|
 .ret (.tuple #[]) []) (
 kP (an (g b 0) 7)<|
 .load [] (an (g b 0) 7) 38 fun l26 =>
 cS 183 [ag (G38 l26 0)] (.tup [some 38,none]) fun l27 =>
 cS 38 [g b 0,ag (G38 l27 0),g l27 38] (.tup []) fun l28 =>
 .ret (.tuple #[]) [])) (
 .ret (.tuple #[]) [])))
def jD (v:List Value):Tree :=
 kP (g v 0)<|
 kP (g v 0)<|
 kP (an (g v 0) 7)<|
 kP (an (g v 0) 7)<|
 .load [] (an (an (g v 0) 7) 35) 1 fun l0 =>
 pE (g l0 0) (iv 1) fun v1 =>
 .br v1 (
 kP (an (g v 0) 7)<|
 kP (an (g v 0) 7)<|
 .load [] (an (an (g v 0) 7) 34) 1 fun l2 =>
 .newbox fun r0 =>
 .call false 151 [g v 0,.slice (some ⟨r0,0,none⟩) 1 1] [⟨r0,243,[iv 3,iv 0,g l2 0]⟩] [] (.tup []) fun l3 _ =>
 aT v 2) (
 pE (g l0 0) (iv 2) fun v4 =>
 .br v4 (
 kP (an (g v 0) 7)<|
 kP (an (g v 0) 7)<|
 .load [] (an (an (g v 0) 7) 33) 1 fun l5 =>
 pN (g l5 0) (iv 1) fun v6 =>
 .br v6 (
 kP (an (g v 0) 7)<|
 .load [] (an (g v 0) 7) 38 fun l7 =>
 kP (an (g v 0) 7)<|
 kP (an (g v 0) 7)<|
 .load [] (an (an (g v 0) 7) 34) 1 fun l8 =>
 cS 121 [ag (G38 l7 0),g l8 0,iv 1] (.tup [some 38,none]) fun l9 =>
 cS 38 [g v 0,ag (G38 l9 0),g l9 38] (.tup []) fun l10 =>
 aT v 3) (
 aT v 3)) (
 pE (g l0 0) (iv 3) fun v11 =>
 .br v11 (
 aT v 4) (
 pE (g l0 0) (iv 5) fun v12 =>
 .br v12 (
 cS 85 [g v 0] (.tup []) fun l13 =>
 .ret (.tuple #[]) []) (
 pE (g l0 0) (iv 6) fun v14 =>
 .br v14 (
 fq v14 v l0) (
 pE (g l0 0) (iv 7) fun v29 =>
 fq v29 v l0)))))
theorem oJ:aS jJ Tryz.f184 jD:=aU Tryz.func184 [(25,[5,6,7,8])] [] [] fun _=>by kernel_rfl
abbrev qx:FuncId:=185
def qf (v:List Value):Tree :=
 pN (g v 0) (g v 0) fun v0 =>
 .ret v0 []
theorem u9:aS qx Tryz.f185 qf:=aU Tryz.func185 [(25,[5,6,7,8])] [] [] fun _=>by kernel_rfl
end Go.Proofs.YteakpllehopodaaGreatDoor
