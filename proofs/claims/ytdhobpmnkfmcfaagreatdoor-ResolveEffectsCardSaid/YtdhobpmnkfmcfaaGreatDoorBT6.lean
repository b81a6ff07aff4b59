/- The trees of the functions of this seat: printed by a tool of mine; each by the kernel's reckoning equal to the evaluator's. -/
import Derived.Test.YtdhobpmnkfmcfaaGreatDoorBT5
namespace Go.Proofs.YtdhobpmnkfmcfaaGreatDoor
open Go Go.Sx
set_option maxRecDepth 100000
abbrev zX:FuncId:=136
def tu (v:List Value):Tree :=
 .newbox fun r0 =>
 kN r0 <|
 .loop 4 2 [iv 0] fun C4 l0 =>
 pL (g l0 0) (iv 4) fun v1 =>
 .br v1 (
 .pure [] .aidx ((g l0 0)::G4 v 0) fun v2 =>
 pL v2 (iv 0) fun v3 =>
 kV v3 <|
 kV v3 <|
 pG v2 (g v 4) fun v4 =>
 kV v3 <|
 pK v3 (.bool true) v4 fun v5 =>
 .br v5 (
 .ret (.bool false) []) (
 pA (g l0 0) (iv 1) fun v6 =>
 .cont 4 C4 [v6] (Es [[g v 4],G4 v 0]))) (
 .ret (.bool true) [])
theorem Dq (vs:List Value):aR PP Tryz.f136 (aF okL [(76,[5,6,7,8])] [(2,.inv [8] [1,7] [])] []) vs=tu vs:=by kernel_rfl
theorem Eh {args vs} (ha:am PP Tryz.f136 args=some vs) (ho:Ones vs) {H O Q} (h:(tu vs).den PP Q H O):Triple PP zX args H O Q :=
 al mixed (an aB _ _ _) Tryz.func136 Dq ha ho h
abbrev cJ:FuncId:=137
def bC (v:List Value):Tree :=
 pZ (g v 0) fun v0 =>
 .loop 4 2 [iv 0] fun C4 l1 =>
 pL (g l1 0) v0 fun v2 =>
 .br v2 (
 pI 5 (g v 0) (g l1 0) fun v3 =>
 .load [] v3 5 fun l4 =>
 .callv false (g v 1) [ag (G5 l4 0)] [] [] .one fun l5 _ =>
 .br (g l5 0) (
 .ret (g l1 0) []) (
 pA (g l1 0) (iv 1) fun v6 =>
 .cont 4 C4 [v6] (Es [[g v 0],[g v 1],[v0]]))) (
 .ret (iv (-1)) [])
theorem iJ (vs:List Value):aR PP Tryz.f137 (aF okL [(76,[5,6,7,8])] [(2,.inv [8] [0,1,7] [])] []) vs=bC vs:=by kernel_rfl
theorem dE {args vs} (ha:am PP Tryz.f137 args=some vs) (ho:Ones vs) {H O Q} (h:(bC vs).den PP Q H O):Triple PP cJ args H O Q :=
 al mixed (an aB _ _ _) Tryz.func137 iJ ha ho h
abbrev de:FuncId:=138
def bL (v:List Value):Tree :=
 c1 156 [g v 0,g v 1] fun l0 =>
 pH (g l0 0) (iv 0) fun v1 =>
 .ret v1 []
theorem fk (vs:List Value):aR PP Tryz.f138 (aF okL [(76,[5,6,7,8])] [] []) vs=bL vs:=by kernel_rfl
theorem fx {args vs} (ha:am PP Tryz.f138 args=some vs) (ho:Ones vs) {H O Q} (h:(bL vs).den PP Q H O):Triple PP de args H O Q :=
 al mixed (an aB _ _ _) Tryz.func138 fk ha ho h
abbrev yb:FuncId:=139
def qQ (v:List Value):Tree :=
 .newbox fun r0 =>
 kN r0 <|
 c1 140 [.agg #[g v 0,g v 1]] fun l0 =>
 pO (g l0 0) fun v1 =>
 .ret v1 []
theorem Bw (vs:List Value):aR PP Tryz.f139 (aF okL [(76,[5,6,7,8])] [] []) vs=qQ vs:=by kernel_rfl
theorem CW {args vs} (ha:am PP Tryz.f139 args=some vs) (ho:Ones vs) {H O Q} (h:(qQ vs).den PP Q H O):Triple PP yb args H O Q :=
 al mixed (an aB _ _ _) Tryz.func139 Bw ha ho h
abbrev Ab:FuncId:=140
def tK (v:List Value):Tree :=
 .newbox fun r0 =>
 kN r0 <|
 c1 73 [g v 0,iv 0,iv 500] fun l0 =>
 .br (g l0 0) (
 kN r0 <|
 c1 73 [g v 1,iv 0,iv 1] fun l1 =>
 kN r0 <|
 kV (g l1 0) <|
 kV (g l1 0) <|
 pE (g v 0) (iv 0) fun v2 =>
 kV (g l1 0) <|
 kN r0 <|
 kV v2 <|
 kV (g l1 0) <|
 kV v2 <|
 kV (g l1 0) <|
 pE (g v 1) (iv 0) fun v3 =>
 kV (g l1 0) <|
 kV v2 <|
 kV (g l1 0) <|
 pK v2 (.bool true) v3 fun v4 =>
 kV (g l1 0) <|
 pK (g l1 0) v4 (.bool false) fun v5 =>
 .ret v5 []) (
 .ret (.bool false) [])
theorem Dy (vs:List Value):aR PP Tryz.f140 (aF okL [(76,[5,6,7,8])] [] []) vs=tK vs:=by kernel_rfl
theorem Eu {args vs} (ha:am PP Tryz.f140 args=some vs) (ho:Ones vs) {H O Q} (h:(tK vs).den PP Q H O):Triple PP Ab args H O Q :=
 al mixed (an aB _ _ _) Tryz.func140 Dy ha ho h
abbrev nh:FuncId:=141
def ng (v:List Value):Tree :=
 .load [] (g v 2) 1 fun l0 =>
 .prim (.lookup 196 true) [g l0 0,g v 0] [] [] (.tup [none,none]) fun l1 _ =>
 .load [] (g v 2) 1 fun l2 =>
 .prim (.mapUpdate 196) [g l2 0,g v 0,g v 1] [] [] .one fun l3 _ =>
 pO (g l1 1) fun v4 =>
 .ret v4 []
theorem yI (vs:List Value):aR PP Tryz.f141 (aF okL [(76,[5,6,7,8])] [] []) vs=ng vs:=by kernel_rfl
theorem y6 {args vs} (ha:am PP Tryz.f141 args=some vs) (ho:Ones vs) {H O Q} (h:(ng vs).den PP Q H O):Triple PP nh args H O Q :=
 al mixed (an aB _ _ _) Tryz.func141 yI ha ho h
abbrev xU:FuncId:=142
def qI (v:List Value):Tree :=
 .newbox fun r0 =>
 kN r0 <|
 kN r0 <|
 kN r0 <|
 kN r0 <|
 kN r0 <|
 kN r0 <|
 .loop 16 2 [iv 0] fun C16 l0 =>
 pL (g l0 0) (iv 6) fun v1 =>
 .br v1 (
 .pure [] .aidx ((g l0 0)::G6 v 3) fun v2 =>
 pL v2 (iv 0) fun v3 =>
 kV v3 <|
 pG v2 (iv 99) fun v4 =>
 kV v3 <|
 pK v3 (.bool true) v4 fun v5 =>
 .br v5 (
 .ret (.bool false) []) (
 pA (g l0 0) (iv 1) fun v6 =>
 .cont 16 C16 [v6] (Es [[pt r0 0],G6 v 3,((pt r0 0)::G12 v 0)]))) (
 kN r0 <|
 pE (g v 1) (iv (-1)) fun v7 =>
 kN r0 <|
 kV v7 <|
 kV v7 <|
 pE (g v 3) (iv 0) fun v8 =>
 kV v7 <|
 kN r0 <|
 kV v8 <|
 kV v7 <|
 kV v8 <|
 kV v7 <|
 pE (g v 4) (iv 0) fun v9 =>
 kV v7 <|
 kV v8 <|
 kV v7 <|
 pK v8 v9 (.bool false) fun v10 =>
 kV v7 <|
 pK v7 (.bool true) v10 fun v11 =>
 kN r0 <|
 kV v11 <|
 kV v11 <|
 pH (g v 0) (iv 1) fun v12 =>
 kV v11 <|
 pK v11 v12 (.bool false) fun v13 =>
 kN r0 <|
 kV v13 <|
 kV v13 <|
 pM (g v 0) (iv 500) fun v14 =>
 kV v13 <|
 pK v13 v14 (.bool false) fun v15 =>
 kN r0 <|
 kV v15 <|
 kV v15 <|
 pH (g v 1) (iv (-1)) fun v16 =>
 kV v15 <|
 pK v15 v16 (.bool false) fun v17 =>
 kN r0 <|
 kV v17 <|
 kV v17 <|
 pL (g v 1) (iv 400) fun v18 =>
 kV v17 <|
 pK v17 v18 (.bool false) fun v19 =>
 kN r0 <|
 kV v19 <|
 kV v19 <|
 pE (g v 2) (iv 0) fun v20 =>
 kV v19 <|
 kN r0 <|
 kV v20 <|
 kV v19 <|
 kV v20 <|
 kV v19 <|
 pE (g v 2) (iv 1) fun v21 =>
 kV v19 <|
 kV v20 <|
 kV v19 <|
 pK v20 (.bool true) v21 fun v22 =>
 kV v19 <|
 pK v19 v22 (.bool false) fun v23 =>
 .ret v23 [])
theorem Bm (vs:List Value):aR PP Tryz.f142 (aF okL [(76,[5,6,7,8])] [(2,.inv [19] [1,18] [(1,[])])] []) vs=qI vs:=by kernel_rfl
theorem CM {args vs} (ha:am PP Tryz.f142 args=some vs) (ho:Ones vs) {H O Q} (h:(qI vs).den PP Q H O):Triple PP xU args H O Q :=
 al mixed (an aB _ _ _) Tryz.func142 Bm ha ho h
abbrev fi:FuncId:=143
def dk (v:List Value):Tree :=
 .pure [] (.bin .eql .slice) [g v 0,.slice none 0 0] fun v0 =>
 .br v0 (
 .ret (.slice none 0 0) []) (
 .newbox fun r0 =>
 .prim (.bi .append #[30,30] 30) [.slice (some ⟨r0,0,none⟩) 0 0,g v 0] [⟨r0,56,[]⟩] [] .one fun l1 _ =>
 .ret (g l1 0) [])
theorem km (vs:List Value):aR PP Tryz.f143 (aF okL [(76,[5,6,7,8])] [] []) vs=dk vs:=by kernel_rfl
theorem kH {args vs} (ha:am PP Tryz.f143 args=some vs) (ho:Ones vs) {H O Q} (h:(dk vs).den PP Q H O):Triple PP fi args H O Q :=
 al mixed (an aB _ _ _) Tryz.func143 km ha ho h
abbrev ek:FuncId:=144
def cG (v:List Value):Tree :=
 .pure [] (.bin .eql .slice) [g v 0,.slice none 0 0] fun v0 =>
 .br v0 (
 .ret (.slice none 0 0) []) (
 .newbox fun r0 =>
 .prim (.bi .append #[51,51] 51) [.slice (some ⟨r0,0,none⟩) 0 0,g v 0] [⟨r0,41,[]⟩] [] .one fun l1 _ =>
 .ret (g l1 0) [])
theorem iK (vs:List Value):aR PP Tryz.f144 (aF okL [(76,[5,6,7,8])] [] []) vs=cG vs:=by kernel_rfl
theorem iQ {args vs} (ha:am PP Tryz.f144 args=some vs) (ho:Ones vs) {H O Q} (h:(cG vs).den PP Q H O):Triple PP ek args H O Q :=
 al mixed (an aB _ _ _) Tryz.func144 iK ha ho h
abbrev jf:FuncId:=145
def eS (v:List Value):Tree :=
 pZ (g v 0) fun v0 =>
 .loop 4 2 [iv 0] fun C4 l1 =>
 pL (g l1 0) v0 fun v2 =>
 .br v2 (
 pI 1 (g v 0) (g l1 0) fun v3 =>
 .load [] v3 1 fun l4 =>
 .callv false (g v 1) [g l4 0] [] [] .one fun l5 _ =>
 .br (g l5 0) (
 .ret (g l1 0) []) (
 pA (g l1 0) (iv 1) fun v6 =>
 .cont 4 C4 [v6] (Es [[g v 0],[g v 1],[v0]]))) (
 .ret (iv (-1)) [])
theorem mW (vs:List Value):aR PP Tryz.f145 (aF okL [(76,[5,6,7,8])] [(2,.inv [8] [0,1,7] [])] []) vs=eS vs:=by kernel_rfl
theorem nM {args vs} (ha:am PP Tryz.f145 args=some vs) (ho:Ones vs) {H O Q} (h:(eS vs).den PP Q H O):Triple PP jf args H O Q :=
 al mixed (an aB _ _ _) Tryz.func145 mW ha ho h
abbrev dK:FuncId:=146
def cg (v:List Value):Tree :=
 pZ (g v 0) fun v0 =>
 .loop 4 2 [iv 0] fun C4 l1 =>
 pL (g l1 0) v0 fun v2 =>
 .br v2 (
 pI 2 (g v 0) (g l1 0) fun v3 =>
 .load [] v3 2 fun l4 =>
 .callv false (g v 1) [.agg #[g l4 0,g l4 1]] [] [] .one fun l5 _ =>
 .br (g l5 0) (
 .ret (g l1 0) []) (
 pA (g l1 0) (iv 1) fun v6 =>
 .cont 4 C4 [v6] (Es [[g v 0],[g v 1],[v0]]))) (
 .ret (iv (-1)) [])
theorem gI (vs:List Value):aR PP Tryz.f146 (aF okL [(76,[5,6,7,8])] [(2,.inv [8] [0,1,7] [])] []) vs=cg vs:=by kernel_rfl
theorem ib {args vs} (ha:am PP Tryz.f146 args=some vs) (ho:Ones vs) {H O Q} (h:(cg vs).den PP Q H O):Triple PP dK args H O Q :=
 al mixed (an aB _ _ _) Tryz.func146 gI ha ho h
abbrev ej:FuncId:=147
def cF (v:List Value):Tree :=
 .newbox fun r0 =>
 pZ (g v 0) fun v0 =>
 .loop 5 2 [iv 0] fun C5 l1 =>
 pL (g l1 0) v0 fun v2 =>
 .br v2 (
 kN r0 <|
 pI 2 (g v 0) (g l1 0) fun v3 =>
 .load [] v3 2 fun l4 =>
 .raw [] (.eqv .eql 41 false) [.agg #[g v 1,g v 2],.agg #[g l4 0,g l4 1]] fun v5 =>
 .br v5 (
 .ret (g l1 0) []) (
 pA (g l1 0) (iv 1) fun v6 =>
 .cont 5 C5 [v6] (Es [[g v 0],[pt r0 0],[v0],[pt r0 0,g v 1,g v 2]]))) (
 .ret (iv (-1)) [])
theorem iI (vs:List Value):aR PP Tryz.f147 (aF okL [(76,[5,6,7,8])] [(2,.inv [8] [0,3,7] [(3,[])])] []) vs=cF vs:=by kernel_rfl
theorem iP {args vs} (ha:am PP Tryz.f147 args=some vs) (ho:Ones vs) {H O Q} (h:(cF vs).den PP Q H O):Triple PP ej args H O Q :=
 al mixed (an aB _ _ _) Tryz.func147 iI ha ho h
abbrev eh:FuncId:=148
def wq (l1001:List Value) (C1002:List Value→Heap→Own→Prop) (l1003 l1004:List Value) (r1005:Nat):Tree :=
 pS (g l1001 1) (iv 1) fun v34 =>
 .cont 20 C1002 [g l1003 0,v34] (Es [[g l1004 0],[pt r1005 0],((pt r1005 0)::G38 l1004 1)])
def ed (v:List Value):Tree :=
 .newbox fun r0 =>
 pE (g v 40) (iv 1) fun v0 =>
 .br v0 (
 kN r0 <|
 kN r0 <|
 c1 148 [g v 0,ag (G38 v 1),g v 39,iv 2] fun l1 =>
 c1 148 [g v 0,ag (G38 v 1),g v 39,iv 3] fun l2 =>
 .prim (.bi .append #[51,51] 51) [g l1 0,g l2 0] [] [] .one fun l3 _ =>
 cS 157 [g l3 0,.func (.func 158) #[] #[]] (.tup []) fun l4 =>
 .ret (g l3 0) []) (
 pE (g v 40) (iv 3) fun v5 =>
 .br v5 (
 kN r0 <|
 pS (iv 1) (g v 39) fun v6 =>
 c1 148 [g v 0,ag (G38 v 1),v6,iv 2] fun l7 =>
 .ret (g l7 0) []) (
 pE (g v 40) (iv 2) fun v8 =>
 .br v8 (
 kN r0 <|
 c1 160 [g v 0,ag (G38 v 1),g v 39] fun l9 =>
 pZ (g l9 0) fun v10 =>
 .loop 15 9 [.slice none 0 0,iv 0] fun C15 l11 =>
 pL (g l11 1) v10 fun v12 =>
 .br v12 (
 pI 1 (g l9 0) (g l11 1) fun v13 =>
 .load [] v13 1 fun l14 =>
 .newbox fun r1 =>
 .prim (.bi .append #[51,51] 51) [g l11 0,.slice (some ⟨r1,0,none⟩) 1 1] [⟨r1,41,[g l14 0,iv 0]⟩] [] .one fun l15 _ =>
 pA (g l11 1) (iv 1) fun v16 =>
 .cont 15 C15 [g l15 0,v16] (Es [[g l9 0],[v10]])) (
 .ret (g l11 0) [])) (
 pE (g v 40) (iv 4) fun v17 =>
 .br v17 (
 pS (iv 1) (g v 39) fun v18 =>
 .newbox fun r2 =>
 .ret (.slice (some ⟨r2,0,none⟩) 2 2) [⟨r2,41,[iv 0,v18,iv 0,g v 39]⟩]) (
 pE (g v 40) (iv 5) fun v19 =>
 .br v19 (
 kN r0 <|
 kN r0 <|
 c1 148 [g v 0,ag (G38 v 1),g v 39,iv 4] fun l20 =>
 c1 148 [g v 0,ag (G38 v 1),g v 39,iv 1] fun l21 =>
 .prim (.bi .append #[51,51] 51) [g l20 0,g l21 0] [] [] .one fun l22 _ =>
 .ret (g l22 0) []) (
 pE (g v 40) (iv 6) fun v23 =>
 .br v23 (
 kN r0 <|
 pZ (g v 30) fun v24 =>
 pS v24 (iv 1) fun v25 =>
 .loop 20 19 [.slice none 0 0,v25] fun C20 l26 =>
 pH (g l26 1) (iv 0) fun v27 =>
 .br v27 (
 kN r0 <|
 pI 5 (g v 30) (g l26 1) fun v28 =>
 .load [] v28 5 fun l29 =>
 c1 161 [g v 0,ag (G5 l29 0)] fun l30 =>
 .br (g l30 0) (
 kN r0 <|
 pI 5 (g v 30) (g l26 1) fun v31 =>
 kP v31 <|
 .load [] (aU v31 1) 1 fun l32 =>
 .newbox fun r3 =>
 .prim (.bi .append #[51,51] 51) [g l26 0,.slice (some ⟨r3,0,none⟩) 1 1] [⟨r3,41,[g l32 0,iv 0]⟩] [] .one fun l33 _ =>
 wq l26 C20 l33 v r0) (
 wq l26 C20 l26 v r0)) (
 .ret (g l26 0) [])) (
 .ret (.slice none 0 0) []))))))
theorem Di (vs:List Value):aR PP Tryz.f148 (aF okL [(76,[5,6,7,8])] [(19,.inv [8,11] [0,5] [(5,[])]),(9,.inv [8,40] [38,39] [])] []) vs=ed vs:=by kernel_rfl
theorem eB {args vs} (ha:am PP Tryz.f148 args=some vs) (ho:Ones vs) {H O Q} (h:(ed vs).den PP Q H O):Triple PP eh args H O Q :=
 al mixed (an aB _ _ _) Tryz.func148 Di ha ho h
abbrev lY:FuncId:=149
def gG (v:List Value):Tree :=
 pZ (g v 0) fun v0 =>
 .loop 4 2 [iv 0] fun C4 l1 =>
 pL (g l1 0) v0 fun v2 =>
 .br v2 (
 pI 1 (g v 0) (g l1 0) fun v3 =>
 .load [] v3 1 fun l4 =>
 pE (g v 1) (g l4 0) fun v5 =>
 .br v5 (
 .ret (g l1 0) []) (
 pA (g l1 0) (iv 1) fun v6 =>
 .cont 4 C4 [v6] (Es [[g v 0],[g v 1],[v0]]))) (
 .ret (iv (-1)) [])
theorem qG (vs:List Value):aR PP Tryz.f149 (aF okL [(76,[5,6,7,8])] [(2,.inv [8] [0,1,7] [])] []) vs=gG vs:=by kernel_rfl
theorem rh {args vs} (ha:am PP Tryz.f149 args=some vs) (ho:Ones vs) {H O Q} (h:(gG vs).den PP Q H O):Triple PP lY args H O Q :=
 al mixed (an aB _ _ _) Tryz.func149 qG ha ho h
abbrev wL:FuncId:=150
def pe (v:List Value):Tree :=
 .newbox fun r0 =>
 kN r0 <|
 pL (g v 3) (iv 0) fun v0 =>
 kN r0 <|
 kV v0 <|
 .load [(v0,true)] (g v 5) 1 fun l1 =>
 kV v0 <|
 kV v0 <|
 pE (g v 1) (g l1 0) fun v2 =>
 kV v0 <|
 pK v0 v2 (.bool false) fun v3 =>
 .ret v3 []
theorem zM (vs:List Value):aR PP Tryz.f150 (aF okL [(76,[5,6,7,8])] [] []) vs=pe vs:=by kernel_rfl
theorem Az {args vs} (ha:am PP Tryz.f150 args=some vs) (ho:Ones vs) {H O Q} (h:(pe vs).den PP Q H O):Triple PP wL args H O Q :=
 al mixed (an aB _ _ _) Tryz.func150 zM ha ho h
abbrev rR:FuncId:=151
def ml (v:List Value):Tree :=
 c1 152 [g v 0] fun l0 =>
 .br (g l0 0) (
 .ret (.tuple #[.pointer none,.int .u64 0,iv 1]) []) (
 pL (g v 1) (iv 1) fun v1 =>
 .chk (.ptr [(v1,false)] (g v 0)) <|
 kV v1 <|
 .chk (.ptr [(v1,false)] (g v 0)) <|
 kV v1 <|
 kV v1 <|
 .load [(v1,false)] (g v 0) 1 fun l2 =>
 kV v1 <|
 kV v1 <|
 pG (g v 1) (g l2 0) fun v3 =>
 kV v1 <|
 pK v1 (.bool true) v3 fun v4 =>
 .br v4 (
 .ret (.tuple #[.pointer none,.int .u64 0,iv 2]) []) (
 cS 162 [g v 0,g v 1] (.tup [none,none]) fun l5 =>
 .ret (.tuple #[g l5 0,g l5 1,iv 0]) []))
theorem xm (vs:List Value):aR PP Tryz.f151 (aF okL [(76,[5,6,7,8])] [] []) vs=ml vs:=by kernel_rfl
theorem yf {args vs} (ha:am PP Tryz.f151 args=some vs) (ho:Ones vs) {H O Q} (h:(ml vs).den PP Q H O):Triple PP rR args H O Q :=
 al mixed (an aB _ _ _) Tryz.func151 xm ha ho h
abbrev uc:FuncId:=152
def na (v:List Value):Tree :=
 .pure [] (.bin .eql .ptr) [g v 0,.pointer none] fun v0 =>
 .chk (.ptr [(v0,false)] (g v 0)) <|
 kV v0 <|
 .chk (.ptr [(v0,false)] (g v 0)) <|
 kV v0 <|
 kV v0 <|
 .load [(v0,false)] (g v 0) 1 fun l1 =>
 kV v0 <|
 pE (g l1 0) (iv 0) fun v2 =>
 kV v0 <|
 pK v0 (.bool true) v2 fun v3 =>
 .ret v3 []
theorem yE (vs:List Value):aR PP Tryz.f152 (aF okL [(76,[5,6,7,8])] [] []) vs=na vs:=by kernel_rfl
theorem y2 {args vs} (ha:am PP Tryz.f152 args=some vs) (ho:Ones vs) {H O Q} (h:(na vs).den PP Q H O):Triple PP uc args H O Q :=
 al mixed (an aB _ _ _) Tryz.func152 yE ha ho h
abbrev eJ:FuncId:=153
def dc (v:List Value):Tree :=
 pE (g v 0) (.int .u64 0) fun v0 =>
 .br v0 (
 .ret (iv 64) []) (
 .pure [] .neg [g v 0] fun v1 =>
 .pure [] (.bin .and .int) [g v 0,v1] fun v2 =>
 .pure [] (.bin .mul .int) [v2,.int .u64 285870213051353865] fun v3 =>
 .pure [] (.bin .shr .int) [v3,.int .u64 58] fun v4 =>
 .pure [] (.pidx 64 1) [pt 0 0,v4] fun v5 =>
 .load [] v5 1 fun l6 =>
 .pure [] (.conv .i64) [g l6 0] fun v7 =>
 .ret v7 [])
theorem mG (vs:List Value):aR PP Tryz.f153 (aF okL [(76,[5,6,7,8])] [] []) vs=dc vs:=by kernel_rfl
theorem gf {args vs} (ha:am PP Tryz.f153 args=some vs) (ho:Ones vs) {H O Q} (h:(dc vs).den PP Q H O):Triple PP eJ args H O Q :=
 al mixed (an aB _ _ _) Tryz.func153 mG ha ho h
abbrev dp:FuncId:=156
def bQ (v:List Value):Tree :=
 pZ (g v 0) fun v0 =>
 .loop 4 2 [iv 0] fun C4 l1 =>
 pL (g l1 0) v0 fun v2 =>
 .br v2 (
 pI 2 (g v 0) (g l1 0) fun v3 =>
 .load [] v3 2 fun l4 =>
 .callv false (g v 1) [.agg #[g l4 0,g l4 1]] [] [] .one fun l5 _ =>
 .br (g l5 0) (
 .ret (g l1 0) []) (
 pA (g l1 0) (iv 1) fun v6 =>
 .cont 4 C4 [v6] (Es [[g v 0],[g v 1],[v0]]))) (
 .ret (iv (-1)) [])
theorem fW (vs:List Value):aR PP Tryz.f156 (aF okL [(76,[5,6,7,8])] [(2,.inv [8] [0,1,7] [])] []) vs=bQ vs:=by kernel_rfl
theorem ga {args vs} (ha:am PP Tryz.f156 args=some vs) (ho:Ones vs) {H O Q} (h:(bQ vs).den PP Q H O):Triple PP dp args H O Q :=
 al mixed (an aB _ _ _) Tryz.func156 fW ha ho h
abbrev mq:FuncId:=160
def fZ (l1001:List Value) (C1002:List Value→Heap→Own→Prop) (l1003 l1004:List Value) (r1005:Nat) (v1006:Value):Tree :=
 pA (g l1001 1) (iv 1) fun v13 =>
 .cont 15 C1002 [g l1003 0,v13] (Es [[g l1004 0],[g l1004 39],[pt r1005 0],[g l1004 1],[v1006],((pt r1005 0)::G38 l1004 1)])
def pn (r1007 r1008:Nat) (l1009:List Value) (n1010:Nat) (l1011 l1012:List Value) (C1013:List Value→Heap→Own→Prop) (v1014:Value):Tree :=
 kN r1007 <|
 kN r1008 <|
 c1 132 [g l1009 n1010,g l1011 0] fun l11 =>
 .br (g l11 0) (
 kN r1008 <|
 .newbox fun r2 =>
 .prim (.bi .append #[26,26] 26) [g l1012 0,.slice (some ⟨r2,0,none⟩) 1 1] [⟨r2,3,[g l1011 0]⟩] [] .one fun l12 _ =>
 fZ l1012 C1013 l12 l1009 r1007 v1014) (
 fZ l1012 C1013 l1012 l1009 r1007 v1014)
def mo (v:List Value):Tree :=
 .newbox fun r0 =>
 c1 73 [g v 39,iv 0,iv 1] fun l0 =>
 pO (g l0 0) fun v1 =>
 .br v1 (
 .ret (.slice none 0 0) []) (
 kN r0 <|
 c1 59 [ag (G38 v 1)] fun l2 =>
 pO (g l2 0) fun v3 =>
 .br v3 (
 .ret (.slice none 0 0) []) (
 kN r0 <|
 pZ (g v 1) fun v4 =>
 .loop 15 5 [.slice none 0 0,iv 0] fun C15 l5 =>
 pL (g l5 1) v4 fun v6 =>
 .br v6 (
 pI 12 (g v 1) (g l5 1) fun v7 =>
 .load [] v7 12 fun l8 =>
 .newbox fun r1 =>
 kN r1 <|
 kN r1 <|
 pE (g l8 2) (g v 39) fun v9 =>
 .br v9 (
 kN r1 <|
 c1 131 [g v 0,ag (G12 l8 0)] fun l10 =>
 .br (g l10 0) (
 .sw (g v 39) 0 (
 pn r0 r1 v 9 l8 l5 C15 v4) (
 .sw (g v 39) 1 (
 pn r0 r1 v 23 l8 l5 C15 v4) (
 .stuck 901))) (
 fZ l5 C15 l5 v r0 v4)) (
 fZ l5 C15 l5 v r0 v4)) (
 .ret (g l5 0) [])))
theorem xp (vs:List Value):aR PP Tryz.f160 (aF okL [(76,[5,6,7,8])] [(5,.inv [7,21] [0,2,4,19,20] [(4,[])])] []) vs=mo vs:=by kernel_rfl
theorem yh {args vs} (ha:am PP Tryz.f160 args=some vs) (ho:Ones vs) {H O Q} (h:(mo vs).den PP Q H O):Triple PP mq args H O Q :=
 al mixed (an aB _ _ _) Tryz.func160 xp ha ho h
abbrev xQ:FuncId:=161
def qD (v:List Value):Tree :=
 .newbox fun r0 =>
 kN r0 <|
 cS 41 [g v 0,.agg #[iv 0,g v 3,iv 0,iv 0,iv 0,iv 0,iv 0,iv 0,iv 0,.bool false,.bool false,.bool false]] (.agg 14) fun l0 =>
 .newbox fun r1 =>
 kN r1 <|
 kN r1 <|
 pE (g l0 1) (iv 3) fun v1 =>
 kN r1 <|
 kV v1 <|
 kV v1 <|
 pE (g l0 1) (iv 4) fun v2 =>
 kV v1 <|
 pK v1 (.bool true) v2 fun v3 =>
 kN r0 <|
 kV v3 <|
 kV v3 <|
 pL (g v 4) (iv 0) fun v4 =>
 kV v3 <|
 pK v3 v4 (.bool false) fun v5 =>
 .br v5 (
 kN r0 <|
 pZ (g v 5) fun v6 =>
 kN r1 <|
 c1 167 [g l0 11] fun l7 =>
 pH v6 (g l7 0) fun v8 =>
 .ret v8 []) (
 .ret (.bool false) [])
theorem Bh (vs:List Value):aR PP Tryz.f161 (aF okL [(76,[5,6,7,8])] [] []) vs=qD vs:=by kernel_rfl
theorem CH {args vs} (ha:am PP Tryz.f161 args=some vs) (ho:Ones vs) {H O Q} (h:(qD vs).den PP Q H O):Triple PP xQ args H O Q :=
 al mixed (an aB _ _ _) Tryz.func161 Bh ha ho h
abbrev wJ:FuncId:=162
def o8 (v:List Value):Tree :=
 kP (g v 0) <|
 kP (g v 0) <|
 .load [] (aU (g v 0) 1) 1 fun l0 =>
 pS (g v 1) (iv 1) fun v1 =>
 .pure [] (.bin .quo .int) [v1,iv 64] fun v2 =>
 pI 1 (g l0 0) v2 fun v3 =>
 pS (g v 1) (iv 1) fun v4 =>
 .pure [] (.bin .rem .int) [v4,iv 64] fun v5 =>
 .pure [] (.bin .shl .int) [.int .u64 1,v5] fun v6 =>
 .ret (.tuple #[v3,v6]) []
theorem zJ (vs:List Value):aR PP Tryz.f162 (aF okL [(76,[5,6,7,8])] [] []) vs=o8 vs:=by kernel_rfl
theorem Av {args vs} (ha:am PP Tryz.f162 args=some vs) (ho:Ones vs) {H O Q} (h:(o8 vs).den PP Q H O):Triple PP wJ args H O Q :=
 al mixed (an aB _ _ _) Tryz.func162 zJ ha ho h
abbrev ue:FuncId:=167
def nc (v:List Value):Tree :=
 pZ (g v 0) fun v0 =>
 .loop 5 3 [iv 0,iv 0] fun C5 l1 =>
 pL (g l1 1) v0 fun v2 =>
 .br v2 (
 pI 5 (g v 0) (g l1 1) fun v3 =>
 .load [] v3 5 fun l4 =>
 .newbox fun r0 =>
 kN r0 <|
 kN r0 <|
 pN (g l4 1) (iv 0) fun v5 =>
 .br v5 (
 pA (g l1 0) (iv 1) fun v6 =>
 pA (g l1 1) (iv 1) fun v7 =>
 .cont 5 C5 [v6,v7] (Es [[g v 0],[v0]])) (
 pA (g l1 1) (iv 1) fun v8 =>
 .cont 5 C5 [g l1 0,v8] (Es [[g v 0],[v0]]))) (
 .ret (g l1 0) [])
theorem yH (vs:List Value):aR PP Tryz.f167 (aF okL [(76,[5,6,7,8])] [(3,.inv [3,8] [6,7] [])] []) vs=nc vs:=by kernel_rfl
theorem y4 {args vs} (ha:am PP Tryz.f167 args=some vs) (ho:Ones vs) {H O Q} (h:(nc vs).den PP Q H O):Triple PP ue args H O Q :=
 al mixed (an aB _ _ _) Tryz.func167 yH ha ho h
abbrev lM:FuncId:=200
def lw (v:List Value):Tree :=
 .newbox fun r0 =>
 kN r0 <|
 c1 201 [g v 0,g v 2] fun l0 =>
 kN r0 <|
 kV (g l0 0) <|
 kV (g l0 0) <|
 pE (g v 3) (iv 0) fun v1 =>
 kV (g l0 0) <|
 pK (g l0 0) v1 (.bool false) fun v2 =>
 kN r0 <|
 kV v2 <|
 kV v2 <|
 pE (g v 4) (iv 0) fun v3 =>
 kV v2 <|
 pK v2 v3 (.bool false) fun v4 =>
 kN r0 <|
 kV v4 <|
 kV v4 <|
 pE (g v 5) (iv 0) fun v5 =>
 kV v4 <|
 pK v4 v5 (.bool false) fun v6 =>
 .ret v6 []
theorem wj (vs:List Value):aR PP Tryz.f200 (aF okL [(76,[5,6,7,8])] [] []) vs=lw vs:=by kernel_rfl
theorem xg {args vs} (ha:am PP Tryz.f200 args=some vs) (ho:Ones vs) {H O Q} (h:(lw vs).den PP Q H O):Triple PP lM args H O Q :=
 al mixed (an aB _ _ _) Tryz.func200 wj ha ho h
abbrev cN:FuncId:=201
def bE (v:List Value):Tree :=
 c1 202 [g v 0,g v 1] fun l0 =>
 pH (g l0 0) (iv 0) fun v1 =>
 .ret v1 []
theorem fh (vs:List Value):aR PP Tryz.f201 (aF okL [(76,[5,6,7,8])] [] []) vs=bE vs:=by kernel_rfl
theorem fj {args vs} (ha:am PP Tryz.f201 args=some vs) (ho:Ones vs) {H O Q} (h:(bE vs).den PP Q H O):Triple PP cN args H O Q :=
 al mixed (an aB _ _ _) Tryz.func201 fh ha ho h
abbrev dl:FuncId:=202
def bN (v:List Value):Tree :=
 pZ (g v 0) fun v0 =>
 .loop 4 2 [iv 0] fun C4 l1 =>
 pL (g l1 0) v0 fun v2 =>
 .br v2 (
 pI 1 (g v 0) (g l1 0) fun v3 =>
 .load [] v3 1 fun l4 =>
 pE (g v 1) (g l4 0) fun v5 =>
 .br v5 (
 .ret (g l1 0) []) (
 pA (g l1 0) (iv 1) fun v6 =>
 .cont 4 C4 [v6] (Es [[g v 0],[g v 1],[v0]]))) (
 .ret (iv (-1)) [])
theorem fF (vs:List Value):aR PP Tryz.f202 (aF okL [(76,[5,6,7,8])] [(2,.inv [8] [0,1,7] [])] []) vs=bN vs:=by kernel_rfl
theorem fK {args vs} (ha:am PP Tryz.f202 args=some vs) (ho:Ones vs) {H O Q} (h:(bN vs).den PP Q H O):Triple PP dl args H O Q :=
 al mixed (an aB _ _ _) Tryz.func202 fF ha ho h
abbrev iO:FuncId:=203
def iN (v:List Value):Tree :=
 .newbox fun r0 =>
 .newbox fun r1 =>
 kN r1 <|
 kN r1 <|
 kN r0 <|
 c1 204 [g v 4,iv 1,g v 1] fun l0 =>
 .br (g l0 0) (
 kN r0 <|
 kN r1 <|
 c1 200 [g v 0,.agg #[g v 2,g v 3,iv 0,g v 5,g v 6]] fun l1 =>
 .ret (g l1 0) []) (
 .ret (.bool false) [])
theorem rO (vs:List Value):aR PP Tryz.f203 (aF okL [(76,[5,6,7,8])] [] []) vs=iN vs:=by kernel_rfl
theorem si {args vs} (ha:am PP Tryz.f203 args=some vs) (ho:Ones vs) {H O Q} (h:(iN vs).den PP Q H O):Triple PP iO args H O Q :=
 al mixed (an aB _ _ _) Tryz.func203 rO ha ho h
abbrev wK:FuncId:=204
def o9 (v:List Value):Tree :=
 pH (g v 0) (g v 1) fun v0 =>
 .br v0 (
 c1 123 [g v 0,g v 2] fun l1 =>
 pE (g l1 0) (g v 0) fun v2 =>
 .ret v2 []) (
 .ret (.bool false) [])
theorem zK (vs:List Value):aR PP Tryz.f204 (aF okL [(76,[5,6,7,8])] [] []) vs=o9 vs:=by kernel_rfl
theorem Aw {args vs} (ha:am PP Tryz.f204 args=some vs) (ho:Ones vs) {H O Q} (h:(o9 vs).den PP Q H O):Triple PP wK args H O Q :=
 al mixed (an aB _ _ _) Tryz.func204 zK ha ho h
abbrev jG:FuncId:=205
def jE (v:List Value):Tree :=
 .newbox fun r0 =>
 .newbox fun r1 =>
 kN r1 <|
 kN r1 <|
 kN r1 <|
 kN r1 <|
 c1 204 [g v 4,iv 0,iv 9] fun l0 =>
 .br (g l0 0) (
 kN r0 <|
 c1 204 [g v 5,g v 1,iv 9] fun l1 =>
 kV (g l1 0) <|
 kV (g l1 0) <|
 pA (g v 4) (g v 5) fun v2 =>
 kV (g l1 0) <|
 pG v2 (iv 0) fun v3 =>
 kV (g l1 0) <|
 pK (g l1 0) v3 (.bool false) fun v4 =>
 .br v4 (
 kN r0 <|
 kN r1 <|
 c1 200 [g v 0,.agg #[g v 2,g v 3,iv 0,iv 0,g v 6]] fun l5 =>
 .ret (g l5 0) []) (
 .ret (.bool false) [])) (
 .ret (.bool false) [])
theorem tz (vs:List Value):aR PP Tryz.f205 (aF okL [(76,[5,6,7,8])] [] []) vs=jE vs:=by kernel_rfl
theorem uC {args vs} (ha:am PP Tryz.f205 args=some vs) (ho:Ones vs) {H O Q} (h:(jE vs).den PP Q H O):Triple PP jG args H O Q :=
 al mixed (an aB _ _ _) Tryz.func205 tz ha ho h
abbrev gU:FuncId:=206
def gP (v:List Value):Tree :=
 .newbox fun r0 =>
 .newbox fun r1 =>
 kN r1 <|
 kN r1 <|
 c1 204 [g v 6,iv 0,iv 3] fun l0 =>
 .br (g l0 0) (
 kN r0 <|
 kN r1 <|
 c1 203 [.agg #[g v 0,g v 1],ag (G4 v 2++[iv 0])] fun l1 =>
 .ret (g l1 0) []) (
 .ret (.bool false) [])
theorem qM (vs:List Value):aR PP Tryz.f206 (aF okL [(76,[5,6,7,8])] [] []) vs=gP vs:=by kernel_rfl
theorem rl {args vs} (ha:am PP Tryz.f206 args=some vs) (ho:Ones vs) {H O Q} (h:(gP vs).den PP Q H O):Triple PP gU args H O Q :=
 al mixed (an aB _ _ _) Tryz.func206 qM ha ho h

end Go.Proofs.YtdhobpmnkfmcfaaGreatDoor
