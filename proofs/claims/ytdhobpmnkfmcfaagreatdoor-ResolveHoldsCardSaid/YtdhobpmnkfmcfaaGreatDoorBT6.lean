/- The trees of the functions of this seat: printed by a tool of mine; each by the kernel's reckoning equal to the evaluator's. -/
import Derived.Test.YtdhobpmnkfmcfaaGreatDoorBT5
namespace Go.Proofs.YtdhobpmnkfmcfaaGreatDoor
open Go Go.Sx
set_option maxRecDepth 100000
abbrev yx:FuncId:=136
def rH (v:List Value):Tree :=
 .newbox fun r0 =>
 kN r0 <|
 .loop 4 2 [iv 0] fun C4 l0 =>
 pL (g l0 0) (iv 4) fun v1 =>
 .br v1 (
 .pure [] .aidx ((g l0 0)::G4 v 0) fun v2 =>
 pL v2 (iv 0) fun v3 =>
 kV v3 <|
 kV v3 <|
 pG v2 (g v 4) fun v4 =>
 kV v3 <|
 pK v3 (.bool true) v4 fun v5 =>
 .br v5 (
 .ret (.bool false) []) (
 pA (g l0 0) (iv 1) fun v6 =>
 .cont 4 C4 [v6] (Es [[g v 4],G4 v 0]))) (
 .ret (.bool true) [])
theorem Bh (vs:List Value):aQ PP Tryz.f136 (aB okL [(76,[5,6,7,8])] [(2,.inv [8] [1,7] [])] []) vs=rH vs:=by kernel_rfl
theorem B5 {args vs} (ha:am PP Tryz.f136 args=some vs) (ho:Ones vs) {H O Q} (h:(rH vs).den PP Q H O):Triple PP yx args H O Q :=
 al mixed (an ay _ _ _) Tryz.func136 Bh ha ho h
abbrev ct:FuncId:=137
def bC (v:List Value):Tree :=
 pZ (g v 0) fun v0 =>
 .loop 4 2 [iv 0] fun C4 l1 =>
 pL (g l1 0) v0 fun v2 =>
 .br v2 (
 pI 5 (g v 0) (g l1 0) fun v3 =>
 .load [] v3 5 fun l4 =>
 .callv false (g v 1) [ag (G5 l4 0)] [] [] .one fun l5 _ =>
 .br (g l5 0) (
 .ret (g l1 0) []) (
 pA (g l1 0) (iv 1) fun v6 =>
 .cont 4 C4 [v6] (Es [[g v 0],[g v 1],[v0]]))) (
 .ret (iv (-1)) [])
theorem hZ (vs:List Value):aQ PP Tryz.f137 (aB okL [(76,[5,6,7,8])] [(2,.inv [8] [0,1,7] [])] []) vs=bC vs:=by kernel_rfl
theorem dk {args vs} (ha:am PP Tryz.f137 args=some vs) (ho:Ones vs) {H O Q} (h:(bC vs).den PP Q H O):Triple PP ct args H O Q :=
 al mixed (an ay _ _ _) Tryz.func137 hZ ha ho h
abbrev cN:FuncId:=138
def bH (v:List Value):Tree :=
 c1 156 [g v 0,g v 1] fun l0 =>
 pH (g l0 0) (iv 0) fun v1 =>
 .ret v1 []
theorem eK (vs:List Value):aQ PP Tryz.f138 (aB okL [(76,[5,6,7,8])] [] []) vs=bH vs:=by kernel_rfl
theorem eM {args vs} (ha:am PP Tryz.f138 args=some vs) (ho:Ones vs) {H O Q} (h:(bH vs).den PP Q H O):Triple PP cN args H O Q :=
 al mixed (an ay _ _ _) Tryz.func138 eK ha ho h
abbrev vT:FuncId:=139
def pf (v:List Value):Tree :=
 .newbox fun r0 =>
 kN r0 <|
 c1 140 [.agg #[g v 0,g v 1]] fun l0 =>
 pO (g l0 0) fun v1 =>
 .ret v1 []
theorem zy (vs:List Value):aQ PP Tryz.f139 (aB okL [(76,[5,6,7,8])] [] []) vs=pf vs:=by kernel_rfl
theorem AM {args vs} (ha:am PP Tryz.f139 args=some vs) (ho:Ones vs) {H O Q} (h:(pf vs).den PP Q H O):Triple PP vT args H O Q :=
 al mixed (an ay _ _ _) Tryz.func139 zy ha ho h
abbrev yB:FuncId:=140
def rQ (v:List Value):Tree :=
 .newbox fun r0 =>
 kN r0 <|
 c1 73 [g v 0,iv 0,iv 500] fun l0 =>
 .br (g l0 0) (
 kN r0 <|
 c1 73 [g v 1,iv 0,iv 1] fun l1 =>
 kN r0 <|
 kV (g l1 0) <|
 kV (g l1 0) <|
 pE (g v 0) (iv 0) fun v2 =>
 kV (g l1 0) <|
 kN r0 <|
 kV v2 <|
 kV (g l1 0) <|
 kV v2 <|
 kV (g l1 0) <|
 pE (g v 1) (iv 0) fun v3 =>
 kV (g l1 0) <|
 kV v2 <|
 kV (g l1 0) <|
 pK v2 (.bool true) v3 fun v4 =>
 kV (g l1 0) <|
 pK (g l1 0) v4 (.bool false) fun v5 =>
 .ret v5 []) (
 .ret (.bool false) [])
theorem Br (vs:List Value):aQ PP Tryz.f140 (aB okL [(76,[5,6,7,8])] [] []) vs=rQ vs:=by kernel_rfl
theorem Cj {args vs} (ha:am PP Tryz.f140 args=some vs) (ho:Ones vs) {H O Q} (h:(rQ vs).den PP Q H O):Triple PP yB args H O Q :=
 al mixed (an ay _ _ _) Tryz.func140 Br ha ho h
abbrev mb:FuncId:=141
def ma (v:List Value):Tree :=
 .load [] (g v 2) 1 fun l0 =>
 .prim (.lookup 196 true) [g l0 0,g v 0] [] [] (.tup [none,none]) fun l1 _ =>
 .load [] (g v 2) 1 fun l2 =>
 .prim (.mapUpdate 196) [g l2 0,g v 0,g v 1] [] [] .one fun l3 _ =>
 pO (g l1 1) fun v4 =>
 .ret v4 []
theorem wO (vs:List Value):aQ PP Tryz.f141 (aB okL [(76,[5,6,7,8])] [] []) vs=ma vs:=by kernel_rfl
theorem xk {args vs} (ha:am PP Tryz.f141 args=some vs) (ho:Ones vs) {H O Q} (h:(ma vs).den PP Q H O):Triple PP mb args H O Q :=
 al mixed (an ay _ _ _) Tryz.func141 wO ha ho h
abbrev vM:FuncId:=142
def oZ (v:List Value):Tree :=
 .newbox fun r0 =>
 kN r0 <|
 kN r0 <|
 kN r0 <|
 kN r0 <|
 kN r0 <|
 kN r0 <|
 .loop 16 2 [iv 0] fun C16 l0 =>
 pL (g l0 0) (iv 6) fun v1 =>
 .br v1 (
 .pure [] .aidx ((g l0 0)::G6 v 3) fun v2 =>
 pL v2 (iv 0) fun v3 =>
 kV v3 <|
 pG v2 (iv 99) fun v4 =>
 kV v3 <|
 pK v3 (.bool true) v4 fun v5 =>
 .br v5 (
 .ret (.bool false) []) (
 pA (g l0 0) (iv 1) fun v6 =>
 .cont 16 C16 [v6] (Es [[pt r0 0],G6 v 3,((pt r0 0)::G12 v 0)]))) (
 kN r0 <|
 pE (g v 1) (iv (-1)) fun v7 =>
 kN r0 <|
 kV v7 <|
 kV v7 <|
 pE (g v 3) (iv 0) fun v8 =>
 kV v7 <|
 kN r0 <|
 kV v8 <|
 kV v7 <|
 kV v8 <|
 kV v7 <|
 pE (g v 4) (iv 0) fun v9 =>
 kV v7 <|
 kV v8 <|
 kV v7 <|
 pK v8 v9 (.bool false) fun v10 =>
 kV v7 <|
 pK v7 (.bool true) v10 fun v11 =>
 kN r0 <|
 kV v11 <|
 kV v11 <|
 pH (g v 0) (iv 1) fun v12 =>
 kV v11 <|
 pK v11 v12 (.bool false) fun v13 =>
 kN r0 <|
 kV v13 <|
 kV v13 <|
 pM (g v 0) (iv 500) fun v14 =>
 kV v13 <|
 pK v13 v14 (.bool false) fun v15 =>
 kN r0 <|
 kV v15 <|
 kV v15 <|
 pH (g v 1) (iv (-1)) fun v16 =>
 kV v15 <|
 pK v15 v16 (.bool false) fun v17 =>
 kN r0 <|
 kV v17 <|
 kV v17 <|
 pL (g v 1) (iv 400) fun v18 =>
 kV v17 <|
 pK v17 v18 (.bool false) fun v19 =>
 kN r0 <|
 kV v19 <|
 kV v19 <|
 pE (g v 2) (iv 0) fun v20 =>
 kV v19 <|
 kN r0 <|
 kV v20 <|
 kV v19 <|
 kV v20 <|
 kV v19 <|
 pE (g v 2) (iv 1) fun v21 =>
 kV v19 <|
 kV v20 <|
 kV v19 <|
 pK v20 (.bool true) v21 fun v22 =>
 kV v19 <|
 pK v19 v22 (.bool false) fun v23 =>
 .ret v23 [])
theorem zp (vs:List Value):aQ PP Tryz.f142 (aB okL [(76,[5,6,7,8])] [(2,.inv [19] [1,18] [(1,[])])] []) vs=oZ vs:=by kernel_rfl
theorem AD {args vs} (ha:am PP Tryz.f142 args=some vs) (ho:Ones vs) {H O Q} (h:(oZ vs).den PP Q H O):Triple PP vM args H O Q :=
 al mixed (an ay _ _ _) Tryz.func142 zp ha ho h
abbrev eI:FuncId:=143
def cR (v:List Value):Tree :=
 .pure [] (.bin .eql .slice) [g v 0,.slice none 0 0] fun v0 =>
 .br v0 (
 .ret (.slice none 0 0) []) (
 .newbox fun r0 =>
 .prim (.bi .append #[30,30] 30) [.slice (some ⟨r0,0,none⟩) 0 0,g v 0] [⟨r0,56,[]⟩] [] .one fun l1 _ =>
 .ret (g l1 0) [])
theorem jz (vs:List Value):aQ PP Tryz.f143 (aB okL [(76,[5,6,7,8])] [] []) vs=cR vs:=by kernel_rfl
theorem jM {args vs} (ha:am PP Tryz.f143 args=some vs) (ho:Ones vs) {H O Q} (h:(cR vs).den PP Q H O):Triple PP eI args H O Q :=
 al mixed (an ay _ _ _) Tryz.func143 jz ha ho h
abbrev dL:FuncId:=144
def cm (v:List Value):Tree :=
 .pure [] (.bin .eql .slice) [g v 0,.slice none 0 0] fun v0 =>
 .br v0 (
 .ret (.slice none 0 0) []) (
 .newbox fun r0 =>
 .prim (.bi .append #[51,51] 51) [.slice (some ⟨r0,0,none⟩) 0 0,g v 0] [⟨r0,41,[]⟩] [] .one fun l1 _ =>
 .ret (g l1 0) [])
theorem ia (vs:List Value):aQ PP Tryz.f144 (aB okL [(76,[5,6,7,8])] [] []) vs=cm vs:=by kernel_rfl
theorem ik {args vs} (ha:am PP Tryz.f144 args=some vs) (ho:Ones vs) {H O Q} (h:(cm vs).den PP Q H O):Triple PP dL args H O Q :=
 al mixed (an ay _ _ _) Tryz.func144 ia ha ho h
abbrev ix:FuncId:=145
def ej (v:List Value):Tree :=
 pZ (g v 0) fun v0 =>
 .loop 4 2 [iv 0] fun C4 l1 =>
 pL (g l1 0) v0 fun v2 =>
 .br v2 (
 pI 1 (g v 0) (g l1 0) fun v3 =>
 .load [] v3 1 fun l4 =>
 .callv false (g v 1) [g l4 0] [] [] .one fun l5 _ =>
 .br (g l5 0) (
 .ret (g l1 0) []) (
 pA (g l1 0) (iv 1) fun v6 =>
 .cont 4 C4 [v6] (Es [[g v 0],[g v 1],[v0]]))) (
 .ret (iv (-1)) [])
theorem lT (vs:List Value):aQ PP Tryz.f145 (aB okL [(76,[5,6,7,8])] [(2,.inv [8] [0,1,7] [])] []) vs=ej vs:=by kernel_rfl
theorem mE {args vs} (ha:am PP Tryz.f145 args=some vs) (ho:Ones vs) {H O Q} (h:(ej vs).den PP Q H O):Triple PP ix args H O Q :=
 al mixed (an ay _ _ _) Tryz.func145 lT ha ho h
abbrev dp:FuncId:=146
def bW (v:List Value):Tree :=
 pZ (g v 0) fun v0 =>
 .loop 4 2 [iv 0] fun C4 l1 =>
 pL (g l1 0) v0 fun v2 =>
 .br v2 (
 pI 2 (g v 0) (g l1 0) fun v3 =>
 .load [] v3 2 fun l4 =>
 .callv false (g v 1) [.agg #[g l4 0,g l4 1]] [] [] .one fun l5 _ =>
 .br (g l5 0) (
 .ret (g l1 0) []) (
 pA (g l1 0) (iv 1) fun v6 =>
 .cont 4 C4 [v6] (Es [[g v 0],[g v 1],[v0]]))) (
 .ret (iv (-1)) [])
theorem fZ (vs:List Value):aQ PP Tryz.f146 (aB okL [(76,[5,6,7,8])] [(2,.inv [8] [0,1,7] [])] []) vs=bW vs:=by kernel_rfl
theorem gx {args vs} (ha:am PP Tryz.f146 args=some vs) (ho:Ones vs) {H O Q} (h:(bW vs).den PP Q H O):Triple PP dp args H O Q :=
 al mixed (an ay _ _ _) Tryz.func146 fZ ha ho h
abbrev dK:FuncId:=147
def ck (v:List Value):Tree :=
 .newbox fun r0 =>
 pZ (g v 0) fun v0 =>
 .loop 5 2 [iv 0] fun C5 l1 =>
 pL (g l1 0) v0 fun v2 =>
 .br v2 (
 kN r0 <|
 pI 2 (g v 0) (g l1 0) fun v3 =>
 .load [] v3 2 fun l4 =>
 .raw [] (.eqv .eql 41 false) [.agg #[g v 1,g v 2],.agg #[g l4 0,g l4 1]] fun v5 =>
 .br v5 (
 .ret (g l1 0) []) (
 pA (g l1 0) (iv 1) fun v6 =>
 .cont 5 C5 [v6] (Es [[g v 0],[pt r0 0],[v0],[pt r0 0,g v 1,g v 2]]))) (
 .ret (iv (-1)) [])
theorem hY (vs:List Value):aQ PP Tryz.f147 (aB okL [(76,[5,6,7,8])] [(2,.inv [8] [0,3,7] [(3,[])])] []) vs=ck vs:=by kernel_rfl
theorem ij {args vs} (ha:am PP Tryz.f147 args=some vs) (ho:Ones vs) {H O Q} (h:(ck vs).den PP Q H O):Triple PP dK args H O Q :=
 al mixed (an ay _ _ _) Tryz.func147 hY ha ho h
abbrev dF:FuncId:=148
def uE (l1001:List Value) (C1002:List Value→Heap→Own→Prop) (l1003 l1004:List Value) (r1005:Nat):Tree :=
 pS (g l1001 1) (iv 1) fun v34 =>
 .cont 20 C1002 [g l1003 0,v34] (Es [[g l1004 0],[pt r1005 0],((pt r1005 0)::G38 l1004 1)])
def dE (v:List Value):Tree :=
 .newbox fun r0 =>
 pE (g v 40) (iv 1) fun v0 =>
 .br v0 (
 kN r0 <|
 kN r0 <|
 c1 148 [g v 0,ag (G38 v 1),g v 39,iv 2] fun l1 =>
 c1 148 [g v 0,ag (G38 v 1),g v 39,iv 3] fun l2 =>
 .prim (.bi .append #[51,51] 51) [g l1 0,g l2 0] [] [] .one fun l3 _ =>
 cS 157 [g l3 0,.func (.func 158) #[] #[]] (.tup []) fun l4 =>
 .ret (g l3 0) []) (
 pE (g v 40) (iv 3) fun v5 =>
 .br v5 (
 kN r0 <|
 pS (iv 1) (g v 39) fun v6 =>
 c1 148 [g v 0,ag (G38 v 1),v6,iv 2] fun l7 =>
 .ret (g l7 0) []) (
 pE (g v 40) (iv 2) fun v8 =>
 .br v8 (
 kN r0 <|
 c1 160 [g v 0,ag (G38 v 1),g v 39] fun l9 =>
 pZ (g l9 0) fun v10 =>
 .loop 15 9 [.slice none 0 0,iv 0] fun C15 l11 =>
 pL (g l11 1) v10 fun v12 =>
 .br v12 (
 pI 1 (g l9 0) (g l11 1) fun v13 =>
 .load [] v13 1 fun l14 =>
 .newbox fun r1 =>
 .prim (.bi .append #[51,51] 51) [g l11 0,.slice (some ⟨r1,0,none⟩) 1 1] [⟨r1,41,[g l14 0,iv 0]⟩] [] .one fun l15 _ =>
 pA (g l11 1) (iv 1) fun v16 =>
 .cont 15 C15 [g l15 0,v16] (Es [[g l9 0],[v10]])) (
 .ret (g l11 0) [])) (
 pE (g v 40) (iv 4) fun v17 =>
 .br v17 (
 pS (iv 1) (g v 39) fun v18 =>
 .newbox fun r2 =>
 .ret (.slice (some ⟨r2,0,none⟩) 2 2) [⟨r2,41,[iv 0,v18,iv 0,g v 39]⟩]) (
 pE (g v 40) (iv 5) fun v19 =>
 .br v19 (
 kN r0 <|
 kN r0 <|
 c1 148 [g v 0,ag (G38 v 1),g v 39,iv 4] fun l20 =>
 c1 148 [g v 0,ag (G38 v 1),g v 39,iv 1] fun l21 =>
 .prim (.bi .append #[51,51] 51) [g l20 0,g l21 0] [] [] .one fun l22 _ =>
 .ret (g l22 0) []) (
 pE (g v 40) (iv 6) fun v23 =>
 .br v23 (
 kN r0 <|
 pZ (g v 30) fun v24 =>
 pS v24 (iv 1) fun v25 =>
 .loop 20 19 [.slice none 0 0,v25] fun C20 l26 =>
 pH (g l26 1) (iv 0) fun v27 =>
 .br v27 (
 kN r0 <|
 pI 5 (g v 30) (g l26 1) fun v28 =>
 .load [] v28 5 fun l29 =>
 c1 161 [g v 0,ag (G5 l29 0)] fun l30 =>
 .br (g l30 0) (
 kN r0 <|
 pI 5 (g v 30) (g l26 1) fun v31 =>
 kP v31 <|
 .load [] (be v31 1) 1 fun l32 =>
 .newbox fun r3 =>
 .prim (.bi .append #[51,51] 51) [g l26 0,.slice (some ⟨r3,0,none⟩) 1 1] [⟨r3,41,[g l32 0,iv 0]⟩] [] .one fun l33 _ =>
 uE l26 C20 l33 v r0) (
 uE l26 C20 l26 v r0)) (
 .ret (g l26 0) [])) (
 .ret (.slice none 0 0) []))))))
theorem AX (vs:List Value):aQ PP Tryz.f148 (aB okL [(76,[5,6,7,8])] [(19,.inv [8,11] [0,5] [(5,[])]),(9,.inv [8,40] [38,39] [])] []) vs=dE vs:=by kernel_rfl
theorem dQ {args vs} (ha:am PP Tryz.f148 args=some vs) (ho:Ones vs) {H O Q} (h:(dE vs).den PP Q H O):Triple PP dF args H O Q :=
 al mixed (an ay _ _ _) Tryz.func148 AX ha ho h
abbrev kQ:FuncId:=149
def fY (v:List Value):Tree :=
 pZ (g v 0) fun v0 =>
 .loop 4 2 [iv 0] fun C4 l1 =>
 pL (g l1 0) v0 fun v2 =>
 .br v2 (
 pI 1 (g v 0) (g l1 0) fun v3 =>
 .load [] v3 1 fun l4 =>
 pE (g v 1) (g l4 0) fun v5 =>
 .br v5 (
 .ret (g l1 0) []) (
 pA (g l1 0) (iv 1) fun v6 =>
 .cont 4 C4 [v6] (Es [[g v 0],[g v 1],[v0]]))) (
 .ret (iv (-1)) [])
theorem oW (vs:List Value):aQ PP Tryz.f149 (aB okL [(76,[5,6,7,8])] [(2,.inv [8] [0,1,7] [])] []) vs=fY vs:=by kernel_rfl
theorem pC {args vs} (ha:am PP Tryz.f149 args=some vs) (ho:Ones vs) {H O Q} (h:(fY vs).den PP Q H O):Triple PP kQ args H O Q :=
 al mixed (an ay _ _ _) Tryz.func149 oW ha ho h
abbrev uN:FuncId:=150
def nH (v:List Value):Tree :=
 .newbox fun r0 =>
 kN r0 <|
 pL (g v 3) (iv 0) fun v0 =>
 kN r0 <|
 kV v0 <|
 .load [(v0,true)] (g v 5) 1 fun l1 =>
 kV v0 <|
 kV v0 <|
 pE (g v 1) (g l1 0) fun v2 =>
 kV v0 <|
 pK v0 v2 (.bool false) fun v3 =>
 .ret v3 []
theorem yl (vs:List Value):aQ PP Tryz.f150 (aB okL [(76,[5,6,7,8])] [] []) vs=nH vs:=by kernel_rfl
theorem yS {args vs} (ha:am PP Tryz.f150 args=some vs) (ho:Ones vs) {H O Q} (h:(nH vs).den PP Q H O):Triple PP uN args H O Q :=
 al mixed (an ay _ _ _) Tryz.func150 yl ha ho h
abbrev qp:FuncId:=151
def lj (v:List Value):Tree :=
 c1 152 [g v 0] fun l0 =>
 .br (g l0 0) (
 .ret (.tuple #[.pointer none,.int .u64 0,iv 1]) []) (
 pL (g v 1) (iv 1) fun v1 =>
 .chk (.ptr [(v1,false)] (g v 0)) <|
 kV v1 <|
 .chk (.ptr [(v1,false)] (g v 0)) <|
 kV v1 <|
 kV v1 <|
 .load [(v1,false)] (g v 0) 1 fun l2 =>
 kV v1 <|
 kV v1 <|
 pG (g v 1) (g l2 0) fun v3 =>
 kV v1 <|
 pK v1 (.bool true) v3 fun v4 =>
 .br v4 (
 .ret (.tuple #[.pointer none,.int .u64 0,iv 2]) []) (
 cS 162 [g v 0,g v 1] (.tup [none,none]) fun l5 =>
 .ret (.tuple #[g l5 0,g l5 1,iv 0]) []))
theorem vo (vs:List Value):aQ PP Tryz.f151 (aB okL [(76,[5,6,7,8])] [] []) vs=lj vs:=by kernel_rfl
theorem vY {args vs} (ha:am PP Tryz.f151 args=some vs) (ho:Ones vs) {H O Q} (h:(lj vs).den PP Q H O):Triple PP qp args H O Q :=
 al mixed (an ay _ _ _) Tryz.func151 vo ha ho h
abbrev sf:FuncId:=152
def lX (v:List Value):Tree :=
 .pure [] (.bin .eql .ptr) [g v 0,.pointer none] fun v0 =>
 .chk (.ptr [(v0,false)] (g v 0)) <|
 kV v0 <|
 .chk (.ptr [(v0,false)] (g v 0)) <|
 kV v0 <|
 kV v0 <|
 .load [(v0,false)] (g v 0) 1 fun l1 =>
 kV v0 <|
 pE (g l1 0) (iv 0) fun v2 =>
 kV v0 <|
 pK v0 (.bool true) v2 fun v3 =>
 .ret v3 []
theorem wK (vs:List Value):aQ PP Tryz.f152 (aB okL [(76,[5,6,7,8])] [] []) vs=lX vs:=by kernel_rfl
theorem xg {args vs} (ha:am PP Tryz.f152 args=some vs) (ho:Ones vs) {H O Q} (h:(lX vs).den PP Q H O):Triple PP sf args H O Q :=
 al mixed (an ay _ _ _) Tryz.func152 wK ha ho h
abbrev dY:FuncId:=153
def cL (v:List Value):Tree :=
 pE (g v 0) (.int .u64 0) fun v0 =>
 .br v0 (
 .ret (iv 64) []) (
 .pure [] .neg [g v 0] fun v1 =>
 .pure [] (.bin .and .int) [g v 0,v1] fun v2 =>
 .pure [] (.bin .mul .int) [v2,.int .u64 285870213051353865] fun v3 =>
 .pure [] (.bin .shr .int) [v3,.int .u64 58] fun v4 =>
 .pure [] (.pidx 64 1) [pt 0 0,v4] fun v5 =>
 .load [] v5 1 fun l6 =>
 .pure [] (.conv .i64) [g l6 0] fun v7 =>
 .ret v7 [])
theorem lG (vs:List Value):aQ PP Tryz.f153 (aB okL [(76,[5,6,7,8])] [] []) vs=cL vs:=by kernel_rfl
theorem fF {args vs} (ha:am PP Tryz.f153 args=some vs) (ho:Ones vs) {H O Q} (h:(cL vs).den PP Q H O):Triple PP dY args H O Q :=
 al mixed (an ay _ _ _) Tryz.func153 lG ha ho h
abbrev cV:FuncId:=156
def bO (v:List Value):Tree :=
 pZ (g v 0) fun v0 =>
 .loop 4 2 [iv 0] fun C4 l1 =>
 pL (g l1 0) v0 fun v2 =>
 .br v2 (
 pI 2 (g v 0) (g l1 0) fun v3 =>
 .load [] v3 2 fun l4 =>
 .callv false (g v 1) [.agg #[g l4 0,g l4 1]] [] [] .one fun l5 _ =>
 .br (g l5 0) (
 .ret (g l1 0) []) (
 pA (g l1 0) (iv 1) fun v6 =>
 .cont 4 C4 [v6] (Es [[g v 0],[g v 1],[v0]]))) (
 .ret (iv (-1)) [])
theorem fx (vs:List Value):aQ PP Tryz.f156 (aB okL [(76,[5,6,7,8])] [(2,.inv [8] [0,1,7] [])] []) vs=bO vs:=by kernel_rfl
theorem fD {args vs} (ha:am PP Tryz.f156 args=some vs) (ho:Ones vs) {H O Q} (h:(bO vs).den PP Q H O):Triple PP cV args H O Q :=
 al mixed (an ay _ _ _) Tryz.func156 fx ha ho h
abbrev lm:FuncId:=160
def fC (l1001:List Value) (C1002:List Value→Heap→Own→Prop) (l1003 l1004:List Value) (r1005:Nat) (v1006:Value):Tree :=
 pA (g l1001 1) (iv 1) fun v13 =>
 .cont 15 C1002 [g l1003 0,v13] (Es [[g l1004 0],[g l1004 39],[pt r1005 0],[g l1004 1],[v1006],((pt r1005 0)::G38 l1004 1)])
def nM (r1007 r1008:Nat) (l1009:List Value) (n1010:Nat) (l1011 l1012:List Value) (C1013:List Value→Heap→Own→Prop) (v1014:Value):Tree :=
 kN r1007 <|
 kN r1008 <|
 c1 132 [g l1009 n1010,g l1011 0] fun l11 =>
 .br (g l11 0) (
 kN r1008 <|
 .newbox fun r2 =>
 .prim (.bi .append #[26,26] 26) [g l1012 0,.slice (some ⟨r2,0,none⟩) 1 1] [⟨r2,3,[g l1011 0]⟩] [] .one fun l12 _ =>
 fC l1012 C1013 l12 l1009 r1007 v1014) (
 fC l1012 C1013 l1012 l1009 r1007 v1014)
def ll (v:List Value):Tree :=
 .newbox fun r0 =>
 c1 73 [g v 39,iv 0,iv 1] fun l0 =>
 pO (g l0 0) fun v1 =>
 .br v1 (
 .ret (.slice none 0 0) []) (
 kN r0 <|
 c1 59 [ag (G38 v 1)] fun l2 =>
 pO (g l2 0) fun v3 =>
 .br v3 (
 .ret (.slice none 0 0) []) (
 kN r0 <|
 pZ (g v 1) fun v4 =>
 .loop 15 5 [.slice none 0 0,iv 0] fun C15 l5 =>
 pL (g l5 1) v4 fun v6 =>
 .br v6 (
 pI 12 (g v 1) (g l5 1) fun v7 =>
 .load [] v7 12 fun l8 =>
 .newbox fun r1 =>
 kN r1 <|
 kN r1 <|
 pE (g l8 2) (g v 39) fun v9 =>
 .br v9 (
 kN r1 <|
 c1 131 [g v 0,ag (G12 l8 0)] fun l10 =>
 .br (g l10 0) (
 .sw (g v 39) 0 (
 nM r0 r1 v 9 l8 l5 C15 v4) (
 .sw (g v 39) 1 (
 nM r0 r1 v 23 l8 l5 C15 v4) (
 .stuck 901))) (
 fC l5 C15 l5 v r0 v4)) (
 fC l5 C15 l5 v r0 v4)) (
 .ret (g l5 0) [])))
theorem vq (vs:List Value):aQ PP Tryz.f160 (aB okL [(76,[5,6,7,8])] [(5,.inv [7,21] [0,2,4,19,20] [(4,[])])] []) vs=ll vs:=by kernel_rfl
theorem wa {args vs} (ha:am PP Tryz.f160 args=some vs) (ho:Ones vs) {H O Q} (h:(ll vs).den PP Q H O):Triple PP lm args H O Q :=
 al mixed (an ay _ _ _) Tryz.func160 vq ha ho h
abbrev vJ:FuncId:=161
def oS (v:List Value):Tree :=
 .newbox fun r0 =>
 kN r0 <|
 cS 41 [g v 0,.agg #[iv 0,g v 3,iv 0,iv 0,iv 0,iv 0,iv 0,iv 0,iv 0,.bool false,.bool false,.bool false]] (.agg 14) fun l0 =>
 .newbox fun r1 =>
 kN r1 <|
 kN r1 <|
 pE (g l0 1) (iv 3) fun v1 =>
 kN r1 <|
 kV v1 <|
 kV v1 <|
 pE (g l0 1) (iv 4) fun v2 =>
 kV v1 <|
 pK v1 (.bool true) v2 fun v3 =>
 kN r0 <|
 kV v3 <|
 kV v3 <|
 pL (g v 4) (iv 0) fun v4 =>
 kV v3 <|
 pK v3 v4 (.bool false) fun v5 =>
 .br v5 (
 kN r0 <|
 pZ (g v 5) fun v6 =>
 kN r1 <|
 c1 167 [g l0 11] fun l7 =>
 pH v6 (g l7 0) fun v8 =>
 .ret v8 []) (
 .ret (.bool false) [])
theorem zm (vs:List Value):aQ PP Tryz.f161 (aB okL [(76,[5,6,7,8])] [] []) vs=oS vs:=by kernel_rfl
theorem AA {args vs} (ha:am PP Tryz.f161 args=some vs) (ho:Ones vs) {H O Q} (h:(oS vs).den PP Q H O):Triple PP vJ args H O Q :=
 al mixed (an ay _ _ _) Tryz.func161 zm ha ho h
abbrev uL:FuncId:=162
def nE (v:List Value):Tree :=
 kP (g v 0) <|
 kP (g v 0) <|
 .load [] (be (g v 0) 1) 1 fun l0 =>
 pS (g v 1) (iv 1) fun v1 =>
 .pure [] (.bin .quo .int) [v1,iv 64] fun v2 =>
 pI 1 (g l0 0) v2 fun v3 =>
 pS (g v 1) (iv 1) fun v4 =>
 .pure [] (.bin .rem .int) [v4,iv 64] fun v5 =>
 .pure [] (.bin .shl .int) [.int .u64 1,v5] fun v6 =>
 .ret (.tuple #[v3,v6]) []
theorem yi (vs:List Value):aQ PP Tryz.f162 (aB okL [(76,[5,6,7,8])] [] []) vs=nE vs:=by kernel_rfl
theorem yP {args vs} (ha:am PP Tryz.f162 args=some vs) (ho:Ones vs) {H O Q} (h:(nE vs).den PP Q H O):Triple PP uL args H O Q :=
 al mixed (an ay _ _ _) Tryz.func162 yi ha ho h
abbrev si:FuncId:=167
def lZ (v:List Value):Tree :=
 pZ (g v 0) fun v0 =>
 .loop 5 3 [iv 0,iv 0] fun C5 l1 =>
 pL (g l1 1) v0 fun v2 =>
 .br v2 (
 pI 5 (g v 0) (g l1 1) fun v3 =>
 .load [] v3 5 fun l4 =>
 .newbox fun r0 =>
 kN r0 <|
 kN r0 <|
 pN (g l4 1) (iv 0) fun v5 =>
 .br v5 (
 pA (g l1 0) (iv 1) fun v6 =>
 pA (g l1 1) (iv 1) fun v7 =>
 .cont 5 C5 [v6,v7] (Es [[g v 0],[v0]])) (
 pA (g l1 1) (iv 1) fun v8 =>
 .cont 5 C5 [g l1 0,v8] (Es [[g v 0],[v0]]))) (
 .ret (g l1 0) [])
theorem wN (vs:List Value):aQ PP Tryz.f167 (aB okL [(76,[5,6,7,8])] [(3,.inv [3,8] [6,7] [])] []) vs=lZ vs:=by kernel_rfl
theorem xi {args vs} (ha:am PP Tryz.f167 args=some vs) (ho:Ones vs) {H O Q} (h:(lZ vs).den PP Q H O):Triple PP si args H O Q :=
 al mixed (an ay _ _ _) Tryz.func167 wN ha ho h
abbrev kF:FuncId:=200
def kp (v:List Value):Tree :=
 .newbox fun r0 =>
 kN r0 <|
 c1 201 [g v 0,g v 2] fun l0 =>
 kN r0 <|
 kV (g l0 0) <|
 kV (g l0 0) <|
 pE (g v 3) (iv 0) fun v1 =>
 kV (g l0 0) <|
 pK (g l0 0) v1 (.bool false) fun v2 =>
 kN r0 <|
 kV v2 <|
 kV v2 <|
 pE (g v 4) (iv 0) fun v3 =>
 kV v2 <|
 pK v2 v3 (.bool false) fun v4 =>
 kN r0 <|
 kV v4 <|
 kV v4 <|
 pE (g v 5) (iv 0) fun v5 =>
 kV v4 <|
 pK v4 v5 (.bool false) fun v6 =>
 .ret v6 []
theorem uy (vs:List Value):aQ PP Tryz.f200 (aB okL [(76,[5,6,7,8])] [] []) vs=kp vs:=by kernel_rfl
theorem vk {args vs} (ha:am PP Tryz.f200 args=some vs) (ho:Ones vs) {H O Q} (h:(kp vs).den PP Q H O):Triple PP kF args H O Q :=
 al mixed (an ay _ _ _) Tryz.func200 uy ha ho h
abbrev cD:FuncId:=201
def bE (v:List Value):Tree :=
 c1 202 [g v 0,g v 1] fun l0 =>
 pH (g l0 0) (iv 0) fun v1 =>
 .ret v1 []
theorem eH (vs:List Value):aQ PP Tryz.f201 (aB okL [(76,[5,6,7,8])] [] []) vs=bE vs:=by kernel_rfl
theorem eJ {args vs} (ha:am PP Tryz.f201 args=some vs) (ho:Ones vs) {H O Q} (h:(bE vs).den PP Q H O):Triple PP cD args H O Q :=
 al mixed (an ay _ _ _) Tryz.func201 eH ha ho h
abbrev cT:FuncId:=202
def bK (v:List Value):Tree :=
 pZ (g v 0) fun v0 =>
 .loop 4 2 [iv 0] fun C4 l1 =>
 pL (g l1 0) v0 fun v2 =>
 .br v2 (
 pI 1 (g v 0) (g l1 0) fun v3 =>
 .load [] v3 1 fun l4 =>
 pE (g v 1) (g l4 0) fun v5 =>
 .br v5 (
 .ret (g l1 0) []) (
 pA (g l1 0) (iv 1) fun v6 =>
 .cont 4 C4 [v6] (Es [[g v 0],[g v 1],[v0]]))) (
 .ret (iv (-1)) [])
theorem eW (vs:List Value):aQ PP Tryz.f202 (aB okL [(76,[5,6,7,8])] [(2,.inv [8] [0,1,7] [])] []) vs=bK vs:=by kernel_rfl
theorem eZ {args vs} (ha:am PP Tryz.f202 args=some vs) (ho:Ones vs) {H O Q} (h:(bK vs).den PP Q H O):Triple PP cT args H O Q :=
 al mixed (an ay _ _ _) Tryz.func202 eW ha ho h
abbrev ii:FuncId:=203
def ie (v:List Value):Tree :=
 .newbox fun r0 =>
 .newbox fun r1 =>
 kN r1 <|
 kN r1 <|
 kN r0 <|
 c1 204 [g v 4,iv 1,g v 1] fun l0 =>
 .br (g l0 0) (
 kN r0 <|
 kN r1 <|
 c1 200 [g v 0,.agg #[g v 2,g v 3,iv 0,g v 5,g v 6]] fun l1 =>
 .ret (g l1 0) []) (
 .ret (.bool false) [])
theorem qk (vs:List Value):aQ PP Tryz.f203 (aB okL [(76,[5,6,7,8])] [] []) vs=ie vs:=by kernel_rfl
theorem qG {args vs} (ha:am PP Tryz.f203 args=some vs) (ho:Ones vs) {H O Q} (h:(ie vs).den PP Q H O):Triple PP ii args H O Q :=
 al mixed (an ay _ _ _) Tryz.func203 qk ha ho h
abbrev uM:FuncId:=204
def nF (v:List Value):Tree :=
 pH (g v 0) (g v 1) fun v0 =>
 .br v0 (
 c1 123 [g v 0,g v 2] fun l1 =>
 pE (g l1 0) (g v 0) fun v2 =>
 .ret v2 []) (
 .ret (.bool false) [])
theorem yj (vs:List Value):aQ PP Tryz.f204 (aB okL [(76,[5,6,7,8])] [] []) vs=nF vs:=by kernel_rfl
theorem yQ {args vs} (ha:am PP Tryz.f204 args=some vs) (ho:Ones vs) {H O Q} (h:(nF vs).den PP Q H O):Triple PP uM args H O Q :=
 al mixed (an ay _ _ _) Tryz.func204 yj ha ho h
abbrev ja:FuncId:=205
def iW (v:List Value):Tree :=
 .newbox fun r0 =>
 .newbox fun r1 =>
 kN r1 <|
 kN r1 <|
 kN r1 <|
 kN r1 <|
 c1 204 [g v 4,iv 0,iv 9] fun l0 =>
 .br (g l0 0) (
 kN r0 <|
 c1 204 [g v 5,g v 1,iv 9] fun l1 =>
 kV (g l1 0) <|
 kV (g l1 0) <|
 pA (g v 4) (g v 5) fun v2 =>
 kV (g l1 0) <|
 pG v2 (iv 0) fun v3 =>
 kV (g l1 0) <|
 pK (g l1 0) v3 (.bool false) fun v4 =>
 .br v4 (
 kN r0 <|
 kN r1 <|
 c1 200 [g v 0,.agg #[g v 2,g v 3,iv 0,iv 0,g v 6]] fun l5 =>
 .ret (g l5 0) []) (
 .ret (.bool false) [])) (
 .ret (.bool false) [])
theorem rI (vs:List Value):aQ PP Tryz.f205 (aB okL [(76,[5,6,7,8])] [] []) vs=iW vs:=by kernel_rfl
theorem sL {args vs} (ha:am PP Tryz.f205 args=some vs) (ho:Ones vs) {H O Q} (h:(iW vs).den PP Q H O):Triple PP ja args H O Q :=
 al mixed (an ay _ _ _) Tryz.func205 rI ha ho h
abbrev gi:FuncId:=206
def gf (v:List Value):Tree :=
 .newbox fun r0 =>
 .newbox fun r1 =>
 kN r1 <|
 kN r1 <|
 c1 204 [g v 6,iv 0,iv 3] fun l0 =>
 .br (g l0 0) (
 kN r0 <|
 kN r1 <|
 c1 203 [.agg #[g v 0,g v 1],ag (G4 v 2++[iv 0])] fun l1 =>
 .ret (g l1 0) []) (
 .ret (.bool false) [])
theorem o8 (vs:List Value):aQ PP Tryz.f206 (aB okL [(76,[5,6,7,8])] [] []) vs=gf vs:=by kernel_rfl
theorem pJ {args vs} (ha:am PP Tryz.f206 args=some vs) (ho:Ones vs) {H O Q} (h:(gf vs).den PP Q H O):Triple PP gi args H O Q :=
 al mixed (an ay _ _ _) Tryz.func206 o8 ha ho h

end Go.Proofs.YtdhobpmnkfmcfaaGreatDoor
