/- The trees of the functions of this seat: printed by a tool of mine; each by the kernel's reckoning equal to the evaluator's. -/
import Derived.Test.YtdhobpmnkfmcfaaGreatDoorBT4
namespace Go.Proofs.YtdhobpmnkfmcfaaGreatDoor
open Go Go.Sx
set_option maxRecDepth 100000
abbrev qg:FuncId:=58
def nm (l1017:List Value) (C1018:List Value→Heap→Own→Prop) (l1019 l1020:List Value) (r1021 r1022:Nat) (l1023 l1024 l1025 l1026 l1027 l1028 l1029 l1030 l1031:List Value):Tree :=
 pA (g l1017 1) (iv 1) fun v18 =>
 .cont 108 C1018 [g l1019 0,v18] (Es [[g l1020 38],[pt r1021 0],[pt r1022 0],((pt r1021 0)::(G6 l1023 0++((g l1024 0)::((g l1025 0)::((g l1026 0)::((g l1027 0)::(G10 l1023 10++((g l1028 0)::((g l1029 0)::((g l1030 0)::((g l1031 0)::G14 l1023 24))))))))))),[pt r1022 0,.slice none 0 0,iv 0,iv 0,iv 0,iv 0,iv 0,.slice none 0 0,.slice none 0 0,.slice none 0 0,.slice none 0 0,.bool false,.bool false,.bool false,iv 0,iv 0,iv 0,iv 0,iv 0,iv 0,iv 0,.slice none 0 0,.slice none 0 0,.slice none 0 0,.slice none 0 0,.bool false,.bool false,.bool false,iv 0,iv 0,.slice none 0 0,.slice none 0 0,.slice none 0 0,.slice none 0 0,iv 0,iv 0,iv 0,iv 0,iv 0]])
def nn (l1001:List Value) (C1002:List Value→Heap→Own→Prop) (l1003 l1004:List Value) (r1005 r1006:Nat) (l1007 l1008 l1009 l1010 l1011 l1012 l1013 l1014 l1015 l1016:List Value):Tree :=
 pA (g l1001 1) (iv 1) fun v29 =>
 .cont 116 C1002 [g l1003 0,v29] (Es [[g l1004 38],[pt r1005 0],[pt r1006 0],[g l1007 0],((pt r1005 0)::(G6 l1008 0++((g l1009 0)::((g l1010 0)::((g l1011 0)::((g l1012 0)::(G10 l1008 10++((g l1013 0)::((g l1014 0)::((g l1015 0)::((g l1016 0)::G14 l1008 24))))))))))),[pt r1006 0,.slice none 0 0,iv 0,iv 0,iv 0,iv 0,iv 0,.slice none 0 0,.slice none 0 0,.slice none 0 0,.slice none 0 0,.bool false,.bool false,.bool false,iv 0,iv 0,iv 0,iv 0,iv 0,iv 0,iv 0,.slice none 0 0,.slice none 0 0,.slice none 0 0,.slice none 0 0,.bool false,.bool false,.bool false,iv 0,iv 0,.slice none 0 0,.slice none 0 0,.slice none 0 0,.slice none 0 0,iv 0,iv 0,iv 0,iv 0,iv 0]])
def lm (v:List Value):Tree :=
 .newbox fun r0 =>
 .newbox fun r1 =>
 kN r0 <|
 cS 14 [ag (G38 v 0)] (.agg 38) fun l0 =>
 kN r0 <|
 kN r0 <|
 kN r0 <|
 kN r0 <|
 kN r0 <|
 c1 94 [g l0 6,g v 38] fun l1 =>
 c1 94 [g l0 7,g v 38] fun l2 =>
 c1 94 [g l0 8,g v 38] fun l3 =>
 c1 94 [g l0 9,g v 38] fun l4 =>
 kN r0 <|
 kN r0 <|
 kN r0 <|
 kN r0 <|
 kN r0 <|
 kN r0 <|
 kN r0 <|
 kN r0 <|
 c1 94 [g l0 20,g v 38] fun l5 =>
 c1 94 [g l0 21,g v 38] fun l6 =>
 c1 94 [g l0 22,g v 38] fun l7 =>
 c1 94 [g l0 23,g v 38] fun l8 =>
 kN r0 <|
 kN r0 <|
 kN r0 <|
 kN r0 <|
 .loop 108 9 [.slice none 0 0,iv 0] fun C108 l9 =>
 kN r0 <|
 pZ (g l0 29) fun v10 =>
 pL (g l9 1) v10 fun v11 =>
 .br v11 (
 kN r0 <|
 pI 5 (g l0 29) (g l9 1) fun v12 =>
 .load [] v12 5 fun l13 =>
 .newbox fun r2 =>
 kN r2 <|
 kN r2 <|
 pN (g l13 3) (iv (-1)) fun v14 =>
 kN r2 <|
 kV v14 <|
 kV v14 <|
 kV v14 <|
 pN (g l13 1) (g v 38) fun v15 =>
 kV v14 <|
 pK v14 (.bool true) v15 fun v16 =>
 .br v16 (
 kN r2 <|
 .newbox fun r3 =>
 .prim (.bi .append #[30,30] 30) [g l9 0,.slice (some ⟨r3,0,none⟩) 1 1] [⟨r3,56,(G5 l13 0)⟩] [] .one fun l17 _ =>
 nm l9 C108 l17 v r0 r1 l0 l1 l2 l3 l4 l5 l6 l7 l8) (
 nm l9 C108 l9 v r0 r1 l0 l1 l2 l3 l4 l5 l6 l7 l8)) (
 .loop 116 16 [.slice none 0 0,iv 0] fun C116 l20 =>
 kN r0 <|
 pZ (g l0 32) fun v21 =>
 pL (g l20 1) v21 fun v22 =>
 .br v22 (
 kN r0 <|
 pI 2 (g l0 32) (g l20 1) fun v23 =>
 .load [] v23 2 fun l24 =>
 .newbox fun r4 =>
 kN r4 <|
 kN r4 <|
 pN (g l24 0) (g v 38) fun v25 =>
 kN r4 <|
 kV v25 <|
 kV v25 <|
 kV v25 <|
 pN (g l24 1) (g v 38) fun v26 =>
 kV v25 <|
 pK v25 v26 (.bool false) fun v27 =>
 .br v27 (
 kN r4 <|
 .newbox fun r5 =>
 .prim (.bi .append #[31,31] 31) [g l20 0,.slice (some ⟨r5,0,none⟩) 1 1] [⟨r5,122,[g l24 0,g l24 1]⟩] [] .one fun l28 _ =>
 nn l20 C116 l28 v r0 r1 l9 l0 l1 l2 l3 l4 l5 l6 l7 l8) (
 nn l20 C116 l20 v r0 r1 l9 l0 l1 l2 l3 l4 l5 l6 l7 l8)) (
 kN r0 <|
 c1 94 [g l0 31,g v 38] fun l31 =>
 kN r0 <|
 kN r0 <|
 kN r0 <|
 kN r0 <|
 kN r1 <|
 kN r1 <|
 .ret (ag (G6 l0 0++((g l1 0)::((g l2 0)::((g l3 0)::((g l4 0)::(G10 l0 10++((g l5 0)::((g l6 0)::((g l7 0)::((g l8 0)::(G5 l0 24++((g l9 0)::((g l0 30)::((g l31 0)::((g l20 0)::G5 l0 33)))))))))))))))) []))
theorem vY (vs:List Value):aR PP Tryz.f58 (aF okL [(76,[5,6,7,8])] [(3,.unroll 3),(9,.inv [7,8] [1,2,4] [(2,[]),(4,[])]),(16,.inv [10,11] [1,2,4,7] [(2,[]),(4,[])])] []) vs=lm vs:=by kernel_rfl
theorem xc {args vs} (ha:am PP Tryz.f58 args=some vs) (ho:Ones vs) {H O Q} (h:(lm vs).den PP Q H O):Triple PP qg args H O Q :=
 al mixed (an aB _ _ _) Tryz.func58 vY ha ho h
abbrev Ae:FuncId:=59
def tM (v:List Value):Tree :=
 .newbox fun r0 =>
 kN r0 <|
 c1 73 [g v 34,iv 0,iv 1] fun l0 =>
 pO (g l0 0) fun v1 =>
 .br v1 (
 .ret (.bool false) []) (
 kN r0 <|
 c1 73 [g v 33,iv 0,iv 1000] fun l2 =>
 pO (g l2 0) fun v3 =>
 .br v3 (
 .ret (.bool false) []) (
 kN r0 <|
 c1 73 [g v 35,iv 0,iv 10] fun l4 =>
 pO (g l4 0) fun v5 =>
 .br v5 (
 .ret (.bool false) []) (
 kN r0 <|
 c1 73 [g v 36,iv (-1),iv 1] fun l6 =>
 pO (g l6 0) fun v7 =>
 .br v7 (
 .ret (.bool false) []) (
 kN r0 <|
 c1 73 [g v 37,iv 0,iv 2] fun l8 =>
 pO (g l8 0) fun v9 =>
 kN r0 <|
 kV v9 <|
 kV v9 <|
 pZ (g v 0) fun v10 =>
 kV v9 <|
 pG v10 (iv 500) fun v11 =>
 kV v9 <|
 pK v9 (.bool true) v11 fun v12 =>
 kN r0 <|
 kV v12 <|
 kV v12 <|
 pZ (g v 29) fun v13 =>
 kV v12 <|
 pG v13 (iv 200) fun v14 =>
 kV v12 <|
 pK v12 (.bool true) v14 fun v15 =>
 kN r0 <|
 kV v15 <|
 kV v15 <|
 pZ (g v 30) fun v16 =>
 kV v15 <|
 pG v16 (iv 200) fun v17 =>
 kV v15 <|
 pK v15 (.bool true) v17 fun v18 =>
 .br v18 (
 .ret (.bool false) []) (
 kN r0 <|
 .newbox fun r1 =>
 kN r1 <|
 kN r1 <|
 c1 73 [g v 1,iv 0,iv 9999] fun l19 =>
 pO (g l19 0) fun v20 =>
 .br v20 (
 .ret (.bool false) []) (
 kN r1 <|
 c1 95 [ag (G4 v 2)] fun l21 =>
 pO (g l21 0) fun v22 =>
 .br v22 (
 .ret (.bool false) []) (
 kN r1 <|
 c1 73 [g v 13,iv 0,iv 7] fun l23 =>
 pO (g l23 0) fun v24 =>
 .br v24 (
 .ret (.bool false) []) (
 kN r1 <|
 c1 73 [g v 14,iv 0,iv 255] fun l25 =>
 pO (g l25 0) fun v26 =>
 .br v26 (
 .ret (.bool false) []) (
 .newbox fun r2 =>
 kN r2 <|
 kN r2 <|
 c1 73 [g v 15,iv 0,iv 9999] fun l27 =>
 pO (g l27 0) fun v28 =>
 .br v28 (
 .ret (.bool false) []) (
 kN r2 <|
 c1 95 [ag (G4 v 16)] fun l29 =>
 pO (g l29 0) fun v30 =>
 .br v30 (
 .ret (.bool false) []) (
 kN r2 <|
 c1 73 [g v 27,iv 0,iv 7] fun l31 =>
 pO (g l31 0) fun v32 =>
 .br v32 (
 .ret (.bool false) []) (
 kN r2 <|
 c1 73 [g v 28,iv 0,iv 255] fun l33 =>
 pO (g l33 0) fun v34 =>
 .br v34 (
 .ret (.bool false) []) (
 kN r0 <|
 c1 96 [g v 29,.func (.func 97) #[] #[]] fun l35 =>
 .br (g l35 0) (
 .ret (.bool false) []) (
 kN r0 <|
 c1 96 [g v 30,.func (.func 99) #[] #[]] fun l36 =>
 pO (g l36 0) fun v37 =>
 .br v37 (
 kN r0 <|
 c1 100 [ag (G38 v 0)] fun l38 =>
 .br (g l38 0) (
 kN r0 <|
 c1 101 [ag (G38 v 0)] fun l39 =>
 .ret (g l39 0) []) (
 .ret (.bool false) [])) (
 .ret (.bool false) [])))))))))))))))
theorem DC (vs:List Value):aR PP Tryz.f59 (aF okL [(76,[5,6,7,8])] [(4,.unroll 3)] []) vs=tM vs:=by kernel_rfl
theorem Ey {args vs} (ha:am PP Tryz.f59 args=some vs) (ho:Ones vs) {H O Q} (h:(tM vs).den PP Q H O):Triple PP Ae args H O Q :=
 al mixed (an aB _ _ _) Tryz.func59 DC ha ho h
abbrev wO:FuncId:=60
def wo (v:List Value):Tree :=
 .newbox fun r0 =>
 .newbox fun r1 =>
 kN r0 <|
 kN r0 <|
 kN r0 <|
 c1 102 [g v 0] fun l0 =>
 c1 103 [g v 31] fun l1 =>
 c1 104 [g v 32] fun l2 =>
 kN r0 <|
 kN r0 <|
 kN r0 <|
 kN r0 <|
 kN r0 <|
 c1 105 [g v 29] fun l3 =>
 c1 105 [g v 30] fun l4 =>
 kN r0 <|
 kN r0 <|
 cS 76 [pt r0 1] (.agg 4) fun l5 =>
 kW (g l5 0) r0 6 <|
 kW (g l5 1) r0 7 <|
 kW (g l5 2) r0 8 <|
 kW (g l5 3) r0 9 <|
 kN r0 <|
 c1 103 [g v 6] fun l6 =>
 kN r0 <|
 kN r0 <|
 c1 103 [g v 7] fun l7 =>
 kN r0 <|
 kN r0 <|
 c1 103 [g v 8] fun l8 =>
 kN r0 <|
 kN r0 <|
 c1 103 [g v 9] fun l9 =>
 kN r0 <|
 cS 76 [pt r0 15] (.agg 4) fun l10 =>
 kW (g l10 0) r0 20 <|
 kW (g l10 1) r0 21 <|
 kW (g l10 2) r0 22 <|
 kW (g l10 3) r0 23 <|
 kN r0 <|
 c1 103 [g v 20] fun l11 =>
 kN r0 <|
 kN r0 <|
 c1 103 [g v 21] fun l12 =>
 kN r0 <|
 kN r0 <|
 c1 103 [g v 22] fun l13 =>
 kN r0 <|
 kN r0 <|
 c1 103 [g v 23] fun l14 =>
 kN r0 <|
 kN r0 <|
 kN r1 <|
 kN r1 <|
 .ret (ag ((g l0 0)::(G5 v 1++((g l6 0)::((g l7 0)::((g l8 0)::((g l9 0)::(G10 v 10++((g l11 0)::((g l12 0)::((g l13 0)::((g l14 0)::(G5 v 24++((g l3 0)::((g l4 0)::((g l1 0)::((g l2 0)::G5 v 33))))))))))))))))) []
theorem FX (vs:List Value):aR PP Tryz.f60 (aF okL [(76,[5,6,7,8])] [(4,.unroll 3),(7,.unroll 5)] []) vs=wo vs:=by kernel_rfl
theorem Gn {args vs} (ha:am PP Tryz.f60 args=some vs) (ho:Ones vs) {H O Q} (h:(wo vs).den PP Q H O):Triple PP wO args H O Q :=
 al mixed (an aB _ _ _) Tryz.func60 FX ha ho h
abbrev nt:FuncId:=61
def jm (v:List Value):Tree :=
 pZ (g v 0) fun v0 =>
 pZ (g v 1) fun v1 =>
 pN v0 v1 fun v2 =>
 .br v2 (
 .ret (.bool false) []) (
 .loop 7 4 [iv 0] fun C7 l3 =>
 pZ (g v 0) fun v4 =>
 pL (g l3 0) v4 fun v5 =>
 .br v5 (
 pI 5 (g v 0) (g l3 0) fun v6 =>
 .load [] v6 5 fun l7 =>
 pI 5 (g v 1) (g l3 0) fun v8 =>
 .load [] v8 5 fun l9 =>
 c1 18 [ag (G5 l7 0),ag (G5 l9 0)] fun l10 =>
 pO (g l10 0) fun v11 =>
 .br v11 (
 .ret (.bool false) []) (
 pA (g l3 0) (iv 1) fun v12 =>
 .cont 7 C7 [v12] (Es [[g v 0],[g v 1]]))) (
 .ret (.bool true) []))
theorem sQ (vs:List Value):aR PP Tryz.f61 (aF okL [(76,[5,6,7,8])] [(4,.inv [5] [0,1] [])] []) vs=jm vs:=by kernel_rfl
theorem ui {args vs} (ha:am PP Tryz.f61 args=some vs) (ho:Ones vs) {H O Q} (h:(jm vs).den PP Q H O):Triple PP nt args H O Q :=
 al mixed (an aB _ _ _) Tryz.func61 sQ ha ho h
abbrev lU:FuncId:=62
def gy (v:List Value):Tree :=
 .newbox fun r0 =>
 kN r0 <|
 c1 55 [ag (G38 v 1),g v 39] fun l0 =>
 pL (g l0 0) (iv 0) fun v1 =>
 .br v1 (
 .ret (iv (-1)) []) (
 kN r0 <|
 pI 12 (g v 1) (g l0 0) fun v2 =>
 .load [] v2 12 fun l3 =>
 c1 67 [g v 0,ag (G12 l3 0)] fun l4 =>
 pO (g l4 0) fun v5 =>
 .br v5 (
 .ret (iv (-1)) []) (
 kN r0 <|
 pI 12 (g v 1) (g l0 0) fun v6 =>
 kP v6 <|
 .load [] (aU v6 2) 1 fun l7 =>
 .sw (g l7 0) 0 (
 kN r0 <|
 c1 91 [g v 9,g v 39] fun l8 =>
 pN (g l8 0) (iv 1) fun v9 =>
 .br v9 (
 .ret (iv (-1)) []) (
 .ret (g l0 0) [])) (
 .sw (g l7 0) 1 (
 kN r0 <|
 c1 91 [g v 23,g v 39] fun l10 =>
 pN (g l10 0) (iv 1) fun v11 =>
 .br v11 (
 .ret (iv (-1)) []) (
 .ret (g l0 0) [])) (
 .stuck 901))))
theorem qy (vs:List Value):aR PP Tryz.f62 (aF okL [(76,[5,6,7,8])] [] []) vs=gy vs:=by kernel_rfl
theorem qX {args vs} (ha:am PP Tryz.f62 args=some vs) (ho:Ones vs) {H O Q} (h:(gy vs).den PP Q H O):Triple PP lU args H O Q :=
 al mixed (an aB _ _ _) Tryz.func62 qy ha ho h
abbrev lK:FuncId:=63
def gX (v:List Value):Tree :=
 .pure [] .min2 [g v 0,iv 99] fun v0 =>
 .pure [] .max2 [iv 0,v0] fun v1 =>
 .pure [] .min2 [g v 1,iv 99] fun v2 =>
 .pure [] .max2 [iv 0,v2] fun v3 =>
 pA v1 v3 fun v4 =>
 .pure [] .min2 [iv 99,v4] fun v5 =>
 .ret v5 []
theorem wa (vs:List Value):aR PP Tryz.f63 (aF okL [(76,[5,6,7,8])] [] []) vs=gX vs:=by kernel_rfl
theorem ni {args vs} (ha:am PP Tryz.f63 args=some vs) (ho:Ones vs) {H O Q} (h:(gX vs).den PP Q H O):Triple PP lK args H O Q :=
 al mixed (an aB _ _ _) Tryz.func63 wa ha ho h
abbrev pC:FuncId:=64
def mJ (r1001:Nat) (l1002:List Value) (n1003:Nat) (l1004:List Value) (r1005:Nat) (C1006:List Value→Heap→Own→Prop):Tree :=
 kN r1001 <|
 pZ (g l1002 n1003) fun v3 =>
 pE v3 (iv 0) fun v4 =>
 .br v4 (
 .sw (g l1004 38) 0 (
 kN r1001 <|
 kN r1001 <|
 kN r1005 <|
 kN r1005 <|
 .ret (ag (G10 l1002 1++((.bool true)::G27 l1002 12))) []) (
 .sw (g l1004 38) 1 (
 kN r1001 <|
 kN r1001 <|
 kN r1005 <|
 kN r1005 <|
 .ret (ag (G24 l1002 1++((.bool true)::G13 l1002 26))) []) (
 .stuck 901))) (
 kN r1001 <|
 pZ (g l1002 n1003) fun v5 =>
 pS v5 (iv 1) fun v6 =>
 pI 1 (g l1002 n1003) v6 fun v7 =>
 .load [] v7 1 fun l8 =>
 cS 24 [ag (G38 l1002 1),g l8 0,iv 1] (.agg 38) fun l9 =>
 kN r1001 <|
 pA (g l1002 0) (iv 1) fun v10 =>
 .cont 6 C1006 (v10::G38 l9 0) (Es [[g l1004 38],[g l1004 39],[pt r1001 0],[pt r1005 0],[pt r1001 0,.tuple #[],.tuple #[],.tuple #[],.tuple #[],.tuple #[],.tuple #[],.tuple #[],.tuple #[],.tuple #[],.tuple #[],.tuple #[],.tuple #[],.tuple #[],.tuple #[],.tuple #[],.tuple #[],.tuple #[],.tuple #[],.tuple #[],.tuple #[],.tuple #[],.tuple #[],.tuple #[],.tuple #[],.tuple #[],.tuple #[],.tuple #[],.tuple #[],.tuple #[],.tuple #[],.tuple #[],.tuple #[],.tuple #[],.tuple #[],.tuple #[],.tuple #[],.tuple #[],.tuple #[]],[pt r1005 0,.slice none 0 0,iv 0,iv 0,iv 0,iv 0,iv 0,.slice none 0 0,.slice none 0 0,.slice none 0 0,.slice none 0 0,.bool false,.bool false,.bool false,iv 0,iv 0,iv 0,iv 0,iv 0,iv 0,iv 0,.slice none 0 0,.slice none 0 0,.slice none 0 0,.slice none 0 0,.bool false,.bool false,.bool false,iv 0,iv 0,.slice none 0 0,.slice none 0 0,.slice none 0 0,.slice none 0 0,iv 0,iv 0,iv 0,iv 0,iv 0]]))
def kg (v:List Value):Tree :=
 .newbox fun r0 =>
 .newbox fun r1 =>
 kN r0 <|
 cS 14 [ag (G38 v 0)] (.agg 38) fun l0 =>
 kN r0 <|
 .loop 6 3 ((iv 0)::G38 l0 0) fun C6 l1 =>
 pL (g l1 0) (g v 39) fun v2 =>
 .br v2 (
 .sw (g v 38) 0 (
 mJ r0 l1 7 v r1 C6) (
 .sw (g v 38) 1 (
 mJ r0 l1 21 v r1 C6) (
 .stuck 901))) (
 kN r0 <|
 kN r1 <|
 kN r1 <|
 .ret (ag (G38 l1 1)) [])
theorem uM (vs:List Value):aR PP Tryz.f64 (aF okL [(76,[5,6,7,8])] [(3,.inv [7] [1,2,3,6] [(3,[0,1,2,3,4,5,6,7,8,9,10,11,12,13,14,15,16,17,18,19,20,21,22,23,24,25,26,27,28,29,30,31,32,33,34,35,36,37]),(6,[])])] []) vs=kg vs:=by kernel_rfl
theorem vk {args vs} (ha:am PP Tryz.f64 args=some vs) (ho:Ones vs) {H O Q} (h:(kg vs).den PP Q H O):Triple PP pC args H O Q :=
 al mixed (an aB _ _ _) Tryz.func64 uM ha ho h
abbrev lV:FuncId:=65
def gz (v:List Value):Tree :=
 .newbox fun r0 =>
 .newbox fun r1 =>
 kN r0 <|
 cS 106 [ag (G38 v 0),g v 38] (.tup [some 3,none]) fun l0 =>
 .newbox fun r2 =>
 kN r2 <|
 pN (g l0 3) (iv 0) fun v1 =>
 kN r2 <|
 kV v1 <|
 kV v1 <|
 pN (g l0 1) (iv 4) fun v2 =>
 kV v1 <|
 pK v1 (.bool true) v2 fun v3 =>
 .br v3 (
 kN r1 <|
 kN r1 <|
 .ret (.tuple #[ag Z0,iv 9]) []) (
 kN r0 <|
 cS 24 [ag (G38 v 0),g v 38,iv 3] (.agg 38) fun l4 =>
 kN r1 <|
 kN r1 <|
 .ret (.tuple #[ag (G38 l4 0),iv 0]) [])
theorem qz (vs:List Value):aR PP Tryz.f65 (aF okL [(76,[5,6,7,8])] [] []) vs=gz vs:=by kernel_rfl
theorem qY {args vs} (ha:am PP Tryz.f65 args=some vs) (ho:Ones vs) {H O Q} (h:(gz vs).den PP Q H O):Triple PP lV args H O Q :=
 al mixed (an aB _ _ _) Tryz.func65 qz ha ho h
abbrev nA:FuncId:=66
def jr (v:List Value):Tree :=
 .newbox fun r0 =>
 .newbox fun r1 =>
 kN r0 <|
 cS 14 [ag (G38 v 0)] (.agg 38) fun l0 =>
 kN r0 <|
 .loop 7 3 [iv 1] fun C7 l1 =>
 kN r0 <|
 c1 55 [ag (G38 l0 0),g l1 0] fun l2 =>
 pH (g l2 0) (iv 0) fun v3 =>
 .br v3 (
 pA (g l1 0) (iv 1) fun v4 =>
 .cont 7 C7 [v4] (Es [[g v 38],[g v 39],[g v 40],[g v 41],[pt r0 0],[pt r1 0],((pt r0 0)::G38 l0 0),[pt r1 0,.slice none 0 0,iv 0,iv 0,iv 0,iv 0,iv 0,.slice none 0 0,.slice none 0 0,.slice none 0 0,.slice none 0 0,.bool false,.bool false,.bool false,iv 0,iv 0,iv 0,iv 0,iv 0,iv 0,iv 0,.slice none 0 0,.slice none 0 0,.slice none 0 0,.slice none 0 0,.bool false,.bool false,.bool false,iv 0,iv 0,.slice none 0 0,.slice none 0 0,.slice none 0 0,.slice none 0 0,iv 0,iv 0,iv 0,iv 0,iv 0]])) (
 kN r0 <|
 pZ (g l0 0) fun v5 =>
 pH v5 (g v 41) fun v6 =>
 kV v6 <|
 pG (g l1 0) (iv 500) fun v7 =>
 kV v6 <|
 pK v6 (.bool true) v7 fun v8 =>
 .br v8 (
 kN r0 <|
 kN r1 <|
 kN r1 <|
 .ret (.tuple #[ag (G38 l0 0),iv 0]) []) (
 c1 63 [iv 0,g v 39] fun l9 =>
 c1 63 [iv 0,g v 40] fun l10 =>
 .newbox fun r2 =>
 kN r2 <|
 kN r2 <|
 kN r0 <|
 pS (g l1 0) (iv 1) fun v11 =>
 .pure [] (.slc 12 true false false) [g l0 0,v11] fun v12 =>
 .newbox fun r3 =>
 .prim (.bi .append #[23,23] 23) [.slice (some ⟨r3,0,none⟩) 1 1,v12] [⟨r3,82,[g l1 0,iv (-1),g v 38,g l9 0,g l10 0,iv 0,iv 0,iv 0,iv 0,.bool false,.bool true,.bool false]⟩] [] .one fun l13 _ =>
 kN r0 <|
 pS (g l1 0) (iv 1) fun v14 =>
 .pure [] (.slc 12 false true false) [g l0 0,v14] fun v15 =>
 .prim (.bi .append #[23,23] 23) [.slice none 0 0,v15] [] [] .one fun l16 _ =>
 .prim (.bi .append #[23,23] 23) [g l16 0,g l13 0] [] [] .one fun l17 _ =>
 kN r0 <|
 kN r0 <|
 kN r2 <|
 cS 56 [ag ((g l17 0)::G37 l0 1),.agg #[g l1 0,iv (-1),g v 38,g l9 0,g l10 0,iv 0,iv 0,iv 0,iv 0,.bool false,.bool true,.bool false],iv 2] (.agg 38) fun l18 =>
 kN r1 <|
 kN r1 <|
 .ret (.tuple #[ag (G38 l18 0),g l1 0]) []))
theorem sV (vs:List Value):aR PP Tryz.f66 (aF okL [(76,[5,6,7,8])] [(3,.inv [12] [1,2,3,4,5,10] [(5,[]),(10,[])])] []) vs=jr vs:=by kernel_rfl
theorem un {args vs} (ha:am PP Tryz.f66 args=some vs) (ho:Ones vs) {H O Q} (h:(jr vs).den PP Q H O):Triple PP nA args H O Q :=
 al mixed (an aB _ _ _) Tryz.func66 sV ha ho h
abbrev lJ:FuncId:=67
def fU (v:List Value):Tree :=
 .newbox fun r0 =>
 kN r0 <|
 pE (g v 2) (iv (-1)) fun v0 =>
 .br v0 (
 .ret (.bool true) []) (
 kN r0 <|
 cS 50 [g v 0,ag (G12 v 1)] (.agg 14) fun l1 =>
 pE (g l1 1) (iv 2) fun v2 =>
 .ret v2 [])
theorem pT (vs:List Value):aR PP Tryz.f67 (aF okL [(76,[5,6,7,8])] [] []) vs=fU vs:=by kernel_rfl
theorem qo {args vs} (ha:am PP Tryz.f67 args=some vs) (ho:Ones vs) {H O Q} (h:(fU vs).den PP Q H O):Triple PP lJ args H O Q :=
 al mixed (an aB _ _ _) Tryz.func67 pT ha ho h
abbrev nq:FuncId:=68
def jk (v:List Value):Tree :=
 .loop 3 3 [.slice none 0 0,iv 0] fun C3 l0 =>
 pZ (g v 0) fun v1 =>
 pL (g l0 1) v1 fun v2 =>
 .br v2 (
 pI 5 (g v 0) (g l0 1) fun v3 =>
 kP v3 <|
 .load [] (aU v3 1) 1 fun l4 =>
 pN (g l4 0) (iv 0) fun v5 =>
 .br v5 (
 pI 5 (g v 0) (g l0 1) fun v6 =>
 kP v6 <|
 .load [] (aU v6 1) 1 fun l7 =>
 .newbox fun r0 =>
 .prim (.bi .append #[131,131] 131) [g l0 0,.slice (some ⟨r0,0,none⟩) 1 1] [⟨r0,36,[g l7 0]⟩] [] .one fun l8 _ =>
 pA (g l0 1) (iv 1) fun v9 =>
 .cont 3 C3 [g l8 0,v9] (Es [[g v 0]])) (
 pA (g l0 1) (iv 1) fun v10 =>
 .cont 3 C3 [g l0 0,v10] (Es [[g v 0]]))) (
 .ret (g l0 0) [])
theorem sO (vs:List Value):aR PP Tryz.f68 (aF okL [(76,[5,6,7,8])] [(3,.inv [3,4] [0] [])] []) vs=jk vs:=by kernel_rfl
theorem ug {args vs} (ha:am PP Tryz.f68 args=some vs) (ho:Ones vs) {H O Q} (h:(jk vs).den PP Q H O):Triple PP nq args H O Q :=
 al mixed (an aB _ _ _) Tryz.func68 sO ha ho h
abbrev xR:FuncId:=69
def qE (v:List Value):Tree :=
 pZ (g v 0) fun v0 =>
 .loop 5 3 [.slice none 0 0,iv 0] fun C5 l1 =>
 pL (g l1 1) v0 fun v2 =>
 .br v2 (
 pI 5 (g v 0) (g l1 1) fun v3 =>
 .load [] v3 5 fun l4 =>
 .newbox fun r0 =>
 kN r0 <|
 kN r0 <|
 pN (g l4 1) (iv 0) fun v5 =>
 .br v5 (
 kN r0 <|
 .newbox fun r1 =>
 .prim (.bi .append #[131,131] 131) [g l1 0,.slice (some ⟨r1,0,none⟩) 1 1] [⟨r1,36,[g l4 1]⟩] [] .one fun l6 _ =>
 pA (g l1 1) (iv 1) fun v7 =>
 .cont 5 C5 [g l6 0,v7] (Es [[g v 0],[v0]])) (
 pA (g l1 1) (iv 1) fun v8 =>
 .cont 5 C5 [g l1 0,v8] (Es [[g v 0],[v0]]))) (
 .ret (g l1 0) [])
theorem Bi (vs:List Value):aR PP Tryz.f69 (aF okL [(76,[5,6,7,8])] [(3,.inv [3,8] [6,7] [])] []) vs=qE vs:=by kernel_rfl
theorem CJ {args vs} (ha:am PP Tryz.f69 args=some vs) (ho:Ones vs) {H O Q} (h:(qE vs).den PP Q H O):Triple PP xR args H O Q :=
 al mixed (an aB _ _ _) Tryz.func69 Bi ha ho h
abbrev yM:FuncId:=70
def tA (v:List Value):Tree :=
 .newbox fun r0 =>
 .newbox fun r1 =>
 kN r0 <|
 kN r0 <|
 c1 107 [g v 11] fun l0 =>
 c1 108 [g v 12] fun l1 =>
 kN r0 <|
 kN r0 <|
 kN r0 <|
 pZ (g l1 0) fun v2 =>
 .loop 16 3 [iv 0] fun C16 l3 =>
 pL (g l3 0) v2 fun v4 =>
 .br v4 (
 pI 2 (g l1 0) (g l3 0) fun v5 =>
 .load [] v5 2 fun l6 =>
 .newbox fun r2 =>
 kN r2 <|
 kN r0 <|
 kN r2 <|
 c1 107 [g l6 1] fun l7 =>
 pI 2 (g l1 0) (g l3 0) fun v8 =>
 kP v8 <|
 kP (aU v8 1) <|
 .store (aU v8 1) [g l7 0] <|
 pA (g l3 0) (iv 1) fun v9 =>
 .cont 16 C16 [v9] (Es [[pt r0 0],[pt r1 0],[g l1 0],[v2],((pt r0 0)::(G11 v 0++[g l0 0,g l1 0,g v 13])),[pt r1 0,.string ⟨#[]⟩,iv 0,iv 0,iv 0,iv 0,iv 0,iv 0,iv 0,iv 0,iv 0,iv 0,.slice none 0 0,.slice none 0 0,iv 0]])) (
 kN r0 <|
 kN r1 <|
 kN r1 <|
 .ret (ag (G11 v 0++[g l0 0,g l1 0,g v 13])) [])
theorem GB (vs:List Value):aR PP Tryz.f70 (aF okL [(76,[5,6,7,8])] [(3,.inv [16] [1,2,14,15] [(1,[]),(2,[])])] []) vs=tA vs:=by kernel_rfl
theorem y5 {args vs} (ha:am PP Tryz.f70 args=some vs) (ho:Ones vs) {H O Q} (h:(tA vs).den PP Q H O):Triple PP yM args H O Q :=
 al mixed (an aB _ _ _) Tryz.func70 GB ha ho h
abbrev oo:FuncId:=71
def lu (v:List Value):Tree :=
 .newbox fun r0 =>
 .newbox fun r1 =>
 kN r0 <|
 pL (g v 2) (iv 0) fun v0 =>
 kN r0 <|
 kV v0 <|
 kV v0 <|
 pZ (g v 0) fun v1 =>
 kV v0 <|
 kV v0 <|
 pH (g v 2) v1 fun v2 =>
 kV v0 <|
 pK v0 (.bool true) v2 fun v3 =>
 .br v3 (
 kN r1 <|
 kN r1 <|
 .ret (ag Z2) []) (
 kN r0 <|
 pI 14 (g v 0) (g v 2) fun v4 =>
 .load [] v4 14 fun l5 =>
 kN r1 <|
 kN r1 <|
 .ret (ag (G14 l5 0)) [])
theorem Dm (vs:List Value):aR PP Tryz.f71 (aF okL [(76,[5,6,7,8])] [] []) vs=lu vs:=by kernel_rfl
theorem oH {args vs} (ha:am PP Tryz.f71 args=some vs) (ho:Ones vs) {H O Q} (h:(lu vs).den PP Q H O):Triple PP oo args H O Q :=
 al mixed (an aB _ _ _) Tryz.func71 Dm ha ho h
abbrev Aa:FuncId:=72
def tJ (v:List Value):Tree :=
 .newbox fun r0 =>
 kN r0 <|
 c1 59 [ag (G38 v 0)] fun l0 =>
 pO (g l0 0) fun v1 =>
 .br v1 (
 .ret (.tuple #[iv 0,iv 2]) []) (
 kN r0 <|
 cS 109 [g v 0,g v 38,.func (.func 110) #[] #[]] (.tup [none,none]) fun l2 =>
 pO (g l2 1) fun v3 =>
 .br v3 (
 .ret (.tuple #[iv 0,iv 9]) []) (
 .ret (.tuple #[g l2 0,iv 0]) []))
theorem Dx (vs:List Value):aR PP Tryz.f72 (aF okL [(76,[5,6,7,8])] [] []) vs=tJ vs:=by kernel_rfl
theorem Et {args vs} (ha:am PP Tryz.f72 args=some vs) (ho:Ones vs) {H O Q} (h:(tJ vs).den PP Q H O):Triple PP Aa args H O Q :=
 al mixed (an aB _ _ _) Tryz.func72 Dx ha ho h
abbrev xZ:FuncId:=73
def qO (v:List Value):Tree :=
 pH (g v 0) (g v 1) fun v0 =>
 kV v0 <|
 kV v0 <|
 pM (g v 0) (g v 2) fun v1 =>
 kV v0 <|
 pK v0 v1 (.bool false) fun v2 =>
 .ret v2 []
theorem Bt (vs:List Value):aR PP Tryz.f73 (aF okL [(76,[5,6,7,8])] [] []) vs=qO vs:=by kernel_rfl
theorem CU {args vs} (ha:am PP Tryz.f73 args=some vs) (ho:Ones vs) {H O Q} (h:(qO vs).den PP Q H O):Triple PP xZ args H O Q :=
 al mixed (an aB _ _ _) Tryz.func73 Bt ha ho h
abbrev F5:FuncId:=74
def yJ (v:List Value):Tree :=
 .newbox fun r0 =>
 .newbox fun r1 =>
 .newbox fun r2 =>
 kN r0 <|
 cS 60 [ag (G38 v 0)] (.agg 38) fun l0 =>
 kN r0 <|
 cS 76 [pt r0 1] (.agg 4) fun l1 =>
 kW (g l1 0) r0 6 <|
 kW (g l1 1) r0 7 <|
 kW (g l1 2) r0 8 <|
 kW (g l1 3) r0 9 <|
 kN r0 <|
 .call false 112 [g l0 6,.func (.func 111) #[] #[pt r1 0]] [] [⟨r1,3,[g v 38]⟩] .one fun l2 c2 =>
 kN r0 <|
 kN r0 <|
 .call false 112 [g l0 7,.func (.func 111) #[] #[pt r1 0]] [] [⟨r1,3,[g (gd c2 0) 0]⟩] .one fun l3 c3 =>
 kN r0 <|
 kN r0 <|
 .call false 112 [g l0 8,.func (.func 111) #[] #[pt r1 0]] [] [⟨r1,3,[g (gd c3 0) 0]⟩] .one fun l4 c4 =>
 kN r0 <|
 kN r0 <|
 .call false 112 [g l0 9,.func (.func 111) #[] #[pt r1 0]] [] [⟨r1,3,[g (gd c4 0) 0]⟩] .one fun l5 c5 =>
 kN r0 <|
 cS 76 [pt r0 15] (.agg 4) fun l6 =>
 kW (g l6 0) r0 20 <|
 kW (g l6 1) r0 21 <|
 kW (g l6 2) r0 22 <|
 kW (g l6 3) r0 23 <|
 kN r0 <|
 .call false 112 [g l0 20,.func (.func 111) #[] #[pt r1 0]] [] [⟨r1,3,[g (gd c5 0) 0]⟩] .one fun l7 c7 =>
 kN r0 <|
 kN r0 <|
 .call false 112 [g l0 21,.func (.func 111) #[] #[pt r1 0]] [] [⟨r1,3,[g (gd c7 0) 0]⟩] .one fun l8 c8 =>
 kN r0 <|
 kN r0 <|
 .call false 112 [g l0 22,.func (.func 111) #[] #[pt r1 0]] [] [⟨r1,3,[g (gd c8 0) 0]⟩] .one fun l9 c9 =>
 kN r0 <|
 kN r0 <|
 .call false 112 [g l0 23,.func (.func 111) #[] #[pt r1 0]] [] [⟨r1,3,[g (gd c9 0) 0]⟩] .one fun l10 c10 =>
 kN r0 <|
 kN r0 <|
 .call false 113 [g l0 29,.func (.func 114) #[] #[pt r1 0]] [] [⟨r1,3,[g (gd c10 0) 0]⟩] .one fun l11 c11 =>
 kN r0 <|
 kN r0 <|
 .call false 112 [g l0 31,.func (.func 111) #[] #[pt r1 0]] [] [⟨r1,3,[g (gd c11 0) 0]⟩] .one fun l12 c12 =>
 kN r0 <|
 kN r0 <|
 .call false 115 [g l0 32,.func (.func 116) #[] #[pt r1 0]] [] [⟨r1,3,[g (gd c12 0) 0]⟩] .one fun l13 c13 =>
 kN r0 <|
 kN r0 <|
 kN r2 <|
 kN r2 <|
 .ret (ag (G6 l0 0++((g l2 0)::((g l3 0)::((g l4 0)::((g l5 0)::(G10 l0 10++((g l7 0)::((g l8 0)::((g l9 0)::((g l10 0)::(G5 l0 24++((g l11 0)::((g l0 30)::((g l12 0)::((g l13 0)::G5 l0 33)))))))))))))))) []
theorem GE (vs:List Value):aR PP Tryz.f74 (aF okL [(76,[5,6,7,8])] [(4,.unroll 3),(7,.unroll 5)] []) vs=yJ vs:=by kernel_rfl
theorem Ii {args vs} (ha:am PP Tryz.f74 args=some vs) (ho:Ones vs) {H O Q} (h:(yJ vs).den PP Q H O):Triple PP F5 args H O Q :=
 al mixed (an aB _ _ _) Tryz.func74 GE ha ho h
abbrev xX:FuncId:=75
def qK (v:List Value):Tree :=
 .newbox fun r0 =>
 .newbox fun r1 =>
 kN r0 <|
 cS 117 [ag (G12 v 0)] (.agg 12) fun l0 =>
 .newbox fun r2 =>
 kN r2 <|
 pE (g v 12) (iv 2) fun v1 =>
 kN r2 <|
 kN r2 <|
 kN r2 <|
 kN r2 <|
 kN r2 <|
 kN r1 <|
 kN r1 <|
 .ret (ag (G6 l0 0++[iv 0,g l0 7,g l0 8,.bool false,v1,.bool false])) []
theorem Bo (vs:List Value):aR PP Tryz.f75 (aF okL [(76,[5,6,7,8])] [] []) vs=qK vs:=by kernel_rfl
theorem CO {args vs} (ha:am PP Tryz.f75 args=some vs) (ho:Ones vs) {H O Q} (h:(qK vs).den PP Q H O):Triple PP xX args H O Q :=
 al mixed (an aB _ _ _) Tryz.func75 Bo ha ho h
abbrev zY:FuncId:=76
def tH (v:List Value):Tree :=
 .newbox fun r0 =>
 kP (g v 0) <|
 kP (g v 0) <|
 kP (g v 0) <|
 kP (g v 0) <|
 kP (g v 0) <|
 kP (g v 0) <|
 kP (g v 0) <|
 kP (g v 0) <|
 kN r0 <|
 kN r0 <|
 .ret (.agg #[aU (g v 0) 5,aU (g v 0) 6,aU (g v 0) 7,aU (g v 0) 8]) []
theorem Dv (vs:List Value):aR PP Tryz.f76 (aF okL [(76,[5,6,7,8])] [] []) vs=tH vs:=by kernel_rfl
theorem Eo {args vs} (ha:am PP Tryz.f76 args=some vs) (ho:Ones vs) {H O Q} (h:(tH vs).den PP Q H O):Triple PP zY args H O Q :=
 al mixed (an aB _ _ _) Tryz.func76 Dv ha ho h
abbrev xT:FuncId:=77
def qF (v:List Value):Tree :=
 .newbox fun r0 =>
 .newbox fun r1 =>
 kN r0 <|
 kN r1 <|
 c1 119 [g v 0,ag (G38 v 1),g v 39,g v 40] fun l0 =>
 c1 118 [g l0 0,.agg #[g v 41,g v 42]] fun l1 =>
 .ret (g l1 0) []
theorem Bj (vs:List Value):aR PP Tryz.f77 (aF okL [(76,[5,6,7,8])] [] []) vs=qF vs:=by kernel_rfl
theorem CL {args vs} (ha:am PP Tryz.f77 args=some vs) (ho:Ones vs) {H O Q} (h:(qF vs).den PP Q H O):Triple PP xT args H O Q :=
 al mixed (an aB _ _ _) Tryz.func77 Bj ha ho h
abbrev t7:FuncId:=78
def mY (v:List Value):Tree :=
 .newbox fun r0 =>
 .newbox fun r1 =>
 kN r0 <|
 cS 120 [ag (G38 v 0),g v 38] (.tup [some 12,none]) fun l0 =>
 .newbox fun r2 =>
 kN r2 <|
 kN r0 <|
 kN r2 <|
 .callv false (g v 39) [ag (G12 l0 0)] [] [] (.agg 12) fun l1 _ =>
 cS 121 [ag (G38 v 0),ag (G12 l1 0)] (.tup [some 38,none]) fun l2 =>
 .newbox fun r3 =>
 kN r3 <|
 pN (g l2 38) (iv 0) fun v3 =>
 .br v3 (
 kN r0 <|
 kN r1 <|
 kN r1 <|
 .ret (ag (G38 v 0)) []) (
 kN r3 <|
 kN r1 <|
 kN r1 <|
 .ret (ag (G38 l2 0)) [])
theorem yB (vs:List Value):aR PP Tryz.f78 (aF okL [(76,[5,6,7,8])] [] []) vs=mY vs:=by kernel_rfl
theorem yZ {args vs} (ha:am PP Tryz.f78 args=some vs) (ho:Ones vs) {H O Q} (h:(mY vs).den PP Q H O):Triple PP t7 args H O Q :=
 al mixed (an aB _ _ _) Tryz.func78 yB ha ho h
abbrev lL:FuncId:=79
def lr (v:List Value):Tree :=
 .newbox fun r0 =>
 .newbox fun r1 =>
 kN r0 <|
 kP (g v 12) <|
 .load [] (aU (g v 12) 2) 1 fun l0 =>
 cS 80 [ag (G12 v 0),g l0 0] (.agg 12) fun l1 =>
 kN r1 <|
 kN r1 <|
 .ret (ag (G12 l1 0)) []
theorem we (vs:List Value):aR PP Tryz.f79 (aF okL [(76,[5,6,7,8])] [] []) vs=lr vs:=by kernel_rfl
theorem xf {args vs} (ha:am PP Tryz.f79 args=some vs) (ho:Ones vs) {H O Q} (h:(lr vs).den PP Q H O):Triple PP lL args H O Q :=
 al mixed (an aB _ _ _) Tryz.func79 we ha ho h
abbrev Ci:FuncId:=80
def wh (v:List Value):Tree :=
 .newbox fun r0 =>
 .newbox fun r1 =>
 kN r0 <|
 c1 122 [g v 5,g v 12] fun l0 =>
 kN r0 <|
 kN r0 <|
 kN r1 <|
 kN r1 <|
 .ret (ag (G5 v 0++((g l0 0)::G6 v 6))) []
theorem FR (vs:List Value):aR PP Tryz.f80 (aF okL [(76,[5,6,7,8])] [] []) vs=wh vs:=by kernel_rfl
theorem Gh {args vs} (ha:am PP Tryz.f80 args=some vs) (ho:Ones vs) {H O Q} (h:(wh vs).den PP Q H O):Triple PP Ci args H O Q :=
 al mixed (an aB _ _ _) Tryz.func80 FR ha ho h
abbrev KQ:FuncId:=81
def FO (v:List Value):Tree :=
 pE (g v 1) (iv (-9223372036854775808)) fun v0 =>
 .br v0 (
 c1 124 [g v 0,iv 1] fun l1 =>
 c1 124 [g l1 0,iv 9223372036854775807] fun l2 =>
 c1 123 [g l2 0,g v 2] fun l3 =>
 .ret (g l3 0) []) (
 .pure [] .neg [g v 1] fun v4 =>
 c1 83 [g v 0,v4,g v 2] fun l5 =>
 .ret (g l5 0) [])
theorem KJ (vs:List Value):aR PP Tryz.f81 (aF okL [(76,[5,6,7,8])] [] []) vs=FO vs:=by kernel_rfl
theorem Lc {args vs} (ha:am PP Tryz.f81 args=some vs) (ho:Ones vs) {H O Q} (h:(FO vs).den PP Q H O):Triple PP KQ args H O Q :=
 al mixed (an aB _ _ _) Tryz.func81 KJ ha ho h
abbrev CG:FuncId:=82
def xO (r1005:Nat):Tree :=
 kN r1005 <|
 kN r1005 <|
 .ret (.tuple #[ag Z0,iv 2]) []
def xP (r1001 r1002:Nat) (l1003 l1004:List Value):Tree :=
 kN r1001 <|
 kN r1002 <|
 kN r1002 <|
 .ret (.tuple #[ag (G6 l1003 0++((g l1004 1)::((g l1004 2)::(G12 l1003 8++((g l1004 3)::((g l1004 4)::G16 l1003 22)))))),iv 0]) []
def wn (v:List Value):Tree :=
 .newbox fun r0 =>
 .newbox fun r1 =>
 kN r0 <|
 c1 59 [ag (G38 v 0)] fun l0 =>
 pO (g l0 0) fun v1 =>
 .br v1 (
 xO r1) (
 c1 73 [g v 38,iv 0,iv 1] fun l2 =>
 pO (g l2 0) fun v3 =>
 kV v3 <|
 pL (g v 39) (iv 0) fun v4 =>
 kV v3 <|
 pK v3 (.bool true) v4 fun v5 =>
 .br v5 (
 xO r1) (
 kN r0 <|
 cS 60 [ag (G38 v 0)] (.agg 38) fun l6 =>
 kN r0 <|
 .sw (g v 38) 0 (
 .loop 22 5 [g v 39,g l6 6,g l6 7,g l6 20,g l6 21] fun C22 l7 =>
 pG (g l7 0) (iv 0) fun v8 =>
 .br v8 (
 kN r0 <|
 pZ (g l7 1) fun v9 =>
 pE v9 (iv 0) fun v10 =>
 .br v10 (
 kN r0 <|
 kN r0 <|
 kN r1 <|
 kN r1 <|
 .ret (.tuple #[ag (G6 l6 0++((g l7 1)::((g l7 2)::((g l6 8)::((g l6 9)::((.bool true)::(G9 l6 11++((g l7 3)::((g l7 4)::G16 l6 22))))))))),iv 0]) []) (
 kN r0 <|
 pS v9 (iv 1) fun v11 =>
 pI 1 (g l7 1) v11 fun v12 =>
 .load [] v12 1 fun l13 =>
 kN r0 <|
 pS v9 (iv 1) fun v14 =>
 .pure [] (.slc 1 false true false) [g l7 1,v14] fun v15 =>
 kN r0 <|
 .newbox fun r2 =>
 .prim (.bi .append #[26,26] 26) [g l7 2,.slice (some ⟨r2,0,none⟩) 1 1] [⟨r2,3,[g l13 0]⟩] [] .one fun l16 _ =>
 kN r0 <|
 kN r0 <|
 kN r0 <|
 cS 72 [ag (G6 l6 0++(v15::((g l16 0)::(G12 l6 8++((g l7 3)::((g l7 4)::G16 l6 22)))))),g l13 0] (.tup [none,none]) fun l17 =>
 kN r0 <|
 kN r0 <|
 pI 12 (g l6 0) (g l17 0) fun v18 =>
 .load [] v18 12 fun l19 =>
 cS 75 [ag (G12 l19 0),iv 1] (.agg 12) fun l20 =>
 pI 12 (g l6 0) (g l17 0) fun v21 =>
 kP v21 <|
 .store v21 (G12 l20 0) <|
 pS (g l7 0) (iv 1) fun v22 =>
 .cont 22 C22 [v22,v15,g l16 0,g l7 3,g l7 4] (Es [[pt r0 0],[pt r1 0],[pt r0 1],((pt r0 0)::(G6 l6 0++((.tuple #[])::((.tuple #[])::(G12 l6 8++((.tuple #[])::((.tuple #[])::G16 l6 22))))))),[pt r1 0,.slice none 0 0,iv 0,iv 0,iv 0,iv 0,iv 0,.slice none 0 0,.slice none 0 0,.slice none 0 0,.slice none 0 0,.bool false,.bool false,.bool false,iv 0,iv 0,iv 0,iv 0,iv 0,iv 0,iv 0,.slice none 0 0,.slice none 0 0,.slice none 0 0,.slice none 0 0,.bool false,.bool false,.bool false,iv 0,iv 0,.slice none 0 0,.slice none 0 0,.slice none 0 0,.slice none 0 0,iv 0,iv 0,iv 0,iv 0,iv 0]]))) (
 xP r0 r1 l6 l7)) (
 .sw (g v 38) 1 (
 .loop 22 5 [g v 39,g l6 6,g l6 7,g l6 20,g l6 21] fun C22 l23 =>
 pG (g l23 0) (iv 0) fun v24 =>
 .br v24 (
 kN r0 <|
 pZ (g l23 3) fun v25 =>
 pE v25 (iv 0) fun v26 =>
 .br v26 (
 kN r0 <|
 kN r0 <|
 kN r1 <|
 kN r1 <|
 .ret (.tuple #[ag (G6 l6 0++((g l23 1)::((g l23 2)::(G12 l6 8++((g l23 3)::((g l23 4)::((g l6 22)::((g l6 23)::((.bool true)::G13 l6 25))))))))),iv 0]) []) (
 kN r0 <|
 pS v25 (iv 1) fun v27 =>
 pI 1 (g l23 3) v27 fun v28 =>
 .load [] v28 1 fun l29 =>
 kN r0 <|
 pS v25 (iv 1) fun v30 =>
 .pure [] (.slc 1 false true false) [g l23 3,v30] fun v31 =>
 kN r0 <|
 .newbox fun r3 =>
 .prim (.bi .append #[26,26] 26) [g l23 4,.slice (some ⟨r3,0,none⟩) 1 1] [⟨r3,3,[g l29 0]⟩] [] .one fun l32 _ =>
 kN r0 <|
 kN r0 <|
 kN r0 <|
 cS 72 [ag (G6 l6 0++((g l23 1)::((g l23 2)::(G12 l6 8++(v31::((g l32 0)::G16 l6 22)))))),g l29 0] (.tup [none,none]) fun l33 =>
 kN r0 <|
 kN r0 <|
 pI 12 (g l6 0) (g l33 0) fun v34 =>
 .load [] v34 12 fun l35 =>
 cS 75 [ag (G12 l35 0),iv 1] (.agg 12) fun l36 =>
 pI 12 (g l6 0) (g l33 0) fun v37 =>
 kP v37 <|
 .store v37 (G12 l36 0) <|
 pS (g l23 0) (iv 1) fun v38 =>
 .cont 22 C22 [v38,g l23 1,g l23 2,v31,g l32 0] (Es [[pt r0 0],[pt r1 0],[pt r0 15],((pt r0 0)::(G6 l6 0++((.tuple #[])::((.tuple #[])::(G12 l6 8++((.tuple #[])::((.tuple #[])::G16 l6 22))))))),[pt r1 0,.slice none 0 0,iv 0,iv 0,iv 0,iv 0,iv 0,.slice none 0 0,.slice none 0 0,.slice none 0 0,.slice none 0 0,.bool false,.bool false,.bool false,iv 0,iv 0,iv 0,iv 0,iv 0,iv 0,iv 0,.slice none 0 0,.slice none 0 0,.slice none 0 0,.slice none 0 0,.bool false,.bool false,.bool false,iv 0,iv 0,.slice none 0 0,.slice none 0 0,.slice none 0 0,.slice none 0 0,iv 0,iv 0,iv 0,iv 0,iv 0]]))) (
 xP r0 r1 l6 l23)) (
 .stuck 901))))
theorem FW (vs:List Value):aR PP Tryz.f82 (aF okL [(76,[5,6,7,8])] [(5,.inv [2] [3,6,8] [(3,[6,7,20,21]),(6,[])])] []) vs=wn vs:=by kernel_rfl
theorem Gm {args vs} (ha:am PP Tryz.f82 args=some vs) (ho:Ones vs) {H O Q} (h:(wn vs).den PP Q H O):Triple PP CG args H O Q :=
 al mixed (an aB _ _ _) Tryz.func82 FW ha ho h
abbrev F2:FuncId:=83
def zI (v:List Value):Tree :=
 c1 124 [g v 0,g v 1] fun l0 =>
 c1 123 [g l0 0,g v 2] fun l1 =>
 .ret (g l1 0) []
theorem KL (vs:List Value):aR PP Tryz.f83 (aF okL [(76,[5,6,7,8])] [] []) vs=zI vs:=by kernel_rfl
theorem Ec {args vs} (ha:am PP Tryz.f83 args=some vs) (ho:Ones vs) {H O Q} (h:(zI vs).den PP Q H O):Triple PP F2 args H O Q :=
 al mixed (an aB _ _ _) Tryz.func83 KL ha ho h
abbrev wz:FuncId:=84
def o7 (v:List Value):Tree :=
 .newbox fun r0 =>
 .newbox fun r1 =>
 kN r0 <|
 cS 125 [ag (G38 v 0),g v 38] (.tup [some 3,none]) fun l0 =>
 .newbox fun r2 =>
 kN r2 <|
 pE (g l0 3) (iv 2) fun v1 =>
 .br v1 (
 kN r1 <|
 kN r1 <|
 .ret (.tuple #[ag Z0,g l0 3]) []) (
 pN (g l0 3) (iv 0) fun v2 =>
 kN r2 <|
 kV v2 <|
 kV v2 <|
 pN (g l0 1) (iv 4) fun v3 =>
 kV v2 <|
 pK v2 (.bool true) v3 fun v4 =>
 .br v4 (
 kN r1 <|
 kN r1 <|
 .ret (.tuple #[ag Z0,iv 9]) []) (
 kN r0 <|
 cS 42 [ag (G38 v 0),g v 38,iv 3] (.tup [some 38,none]) fun l5 =>
 kN r1 <|
 kN r1 <|
 .ret (.tuple #[ag (G38 l5 0),g l5 38]) []))
theorem zH (vs:List Value):aR PP Tryz.f84 (aF okL [(76,[5,6,7,8])] [] []) vs=o7 vs:=by kernel_rfl
theorem Au {args vs} (ha:am PP Tryz.f84 args=some vs) (ho:Ones vs) {H O Q} (h:(o7 vs).den PP Q H O):Triple PP wz args H O Q :=
 al mixed (an aB _ _ _) Tryz.func84 zH ha ho h
abbrev Af:FuncId:=85
def ww (r1001 r1002:Nat) (l1003 l1004 l1005:List Value) (n1006:Nat) (l1007:List Value) (n1008:Nat) (l1009:List Value):Tree :=
 kN r1001 <|
 kN r1001 <|
 kN r1002 <|
 kN r1002 <|
 .ret (.tuple #[ag ((g l1003 0)::(G7 l1004 1++((g l1005 n1006)::(G13 l1004 9++((g l1007 n1008)::G15 l1004 23))))),g l1009 0,iv 0]) []
def wt (r1014:Nat) (l1015:List Value) (n1016:Nat) (l1017 l1018:List Value) (r1019:Nat) (l1020:List Value):Tree :=
 kN r1014 <|
 .newbox fun r5 =>
 .prim (.bi .append #[26,26] 26) [g l1015 n1016,.slice (some ⟨r5,0,none⟩) 1 1] [⟨r5,3,[g l1017 0]⟩] [] .one fun l20 _ =>
 .sw (g l1018 38) 0 (
 ww r1014 r1019 l1020 l1015 l20 0 l1015 22 l1017) (
 .sw (g l1018 38) 1 (
 ww r1014 r1019 l1020 l1015 l1015 8 l20 0 l1017) (
 .stuck 901))
def wu (r1013:Nat):Tree :=
 kN r1013 <|
 kN r1013 <|
 .ret (.tuple #[ag Z0,iv 0,iv 2]) []
def wv (r1010 r1011:Nat) (l1012:List Value):Tree :=
 kN r1010 <|
 kN r1011 <|
 kN r1011 <|
 .ret (.tuple #[ag (G38 l1012 0),iv 0,iv 0]) []
def tN (v:List Value):Tree :=
 .newbox fun r0 =>
 .newbox fun r1 =>
 kN r0 <|
 c1 59 [ag (G38 v 0)] fun l0 =>
 pO (g l0 0) fun v1 =>
 .br v1 (
 wu r1) (
 c1 73 [g v 38,iv 0,iv 1] fun l2 =>
 pO (g l2 0) fun v3 =>
 .br v3 (
 wu r1) (
 kN r0 <|
 cS 60 [ag (G38 v 0)] (.agg 38) fun l4 =>
 kN r0 <|
 kN r0 <|
 pZ (g l4 0) fun v5 =>
 pH v5 (g v 41) fun v6 =>
 .br v6 (
 wv r0 r1 l4) (
 cS 126 [iv 500] (.tup [none,none]) fun l7 =>
 kN r0 <|
 pZ (g l4 0) fun v8 =>
 .loop 30 8 [iv 0] fun C30 l9 =>
 pL (g l9 0) v8 fun v10 =>
 .br v10 (
 pI 12 (g l4 0) (g l9 0) fun v11 =>
 .load [] v11 12 fun l12 =>
 .newbox fun r2 =>
 kN r2 <|
 kN r2 <|
 c1 127 [g l7 0,g l12 0] fun l13 =>
 pA (g l9 0) (iv 1) fun v14 =>
 .cont 30 C30 [v14] (Es [[g v 38],[g v 39],[g v 40],[pt r0 0],[pt r1 0],[g l7 0],[g l4 0],[v8],((pt r0 0)::G38 l4 0),[pt r1 0,.slice none 0 0,iv 0,iv 0,iv 0,iv 0,iv 0,.slice none 0 0,.slice none 0 0,.slice none 0 0,.slice none 0 0,.bool false,.bool false,.bool false,iv 0,iv 0,iv 0,iv 0,iv 0,iv 0,iv 0,.slice none 0 0,.slice none 0 0,.slice none 0 0,.slice none 0 0,.bool false,.bool false,.bool false,iv 0,iv 0,.slice none 0 0,.slice none 0 0,.slice none 0 0,.slice none 0 0,iv 0,iv 0,iv 0,iv 0,iv 0]])) (
 cS 128 [g l7 0] (.tup [none,none]) fun l15 =>
 pN (g l15 1) (iv 0) fun v16 =>
 .br v16 (
 wv r0 r1 l4) (
 cS 129 [g l15 0,g v 38,g v 39,g v 40] (.agg 12) fun l17 =>
 .newbox fun r3 =>
 kN r3 <|
 kN r3 <|
 kN r0 <|
 pS (g l15 0) (iv 1) fun v18 =>
 kN r3 <|
 .newbox fun r4 =>
 .call false 130 [g l4 0,v18,.slice (some ⟨r4,0,none⟩) 1 1] [⟨r4,82,(G10 l17 0++[.bool true,g l17 11])⟩] [] .one fun l19 _ =>
 kN r0 <|
 .sw (g v 38) 0 (
 wt r0 l4 8 l15 v r1 l19) (
 .sw (g v 38) 1 (
 wt r0 l4 22 l15 v r1 l19) (
 .stuck 901)))))))
theorem DD (vs:List Value):aR PP Tryz.f85 (aF okL [(76,[5,6,7,8])] [(8,.inv [44] [1,2,3,5,10,13,42,43] [(5,[]),(10,[])])] []) vs=tN vs:=by kernel_rfl
theorem Ez {args vs} (ha:am PP Tryz.f85 args=some vs) (ho:Ones vs) {H O Q} (h:(tN vs).den PP Q H O):Triple PP Af args H O Q :=
 al mixed (an aB _ _ _) Tryz.func85 DD ha ho h
abbrev Cf:FuncId:=86
def wc (v:List Value):Tree :=
 .newbox fun r0 =>
 kN r0 <|
 cS 120 [ag (G38 v 1),g v 39] (.tup [some 12,none]) fun l0 =>
 .newbox fun r1 =>
 kN r1 <|
 pE (g l0 12) (iv 0) fun v1 =>
 .br v1 (
 kN r1 <|
 c1 131 [g v 0,ag (G12 l0 0)] fun l2 =>
 .br (g l2 0) (
 kN r1 <|
 .sw (g l0 2) 0 (
 kN r0 <|
 c1 132 [g v 9,g v 39] fun l3 =>
 .ret (g l3 0) []) (
 .sw (g l0 2) 1 (
 kN r0 <|
 c1 132 [g v 23,g v 39] fun l4 =>
 .ret (g l4 0) []) (
 .stuck 901))) (
 .ret (.bool false) [])) (
 .ret (.bool false) [])
theorem FQ (vs:List Value):aR PP Tryz.f86 (aF okL [(76,[5,6,7,8])] [] []) vs=wc vs:=by kernel_rfl
theorem Gg {args vs} (ha:am PP Tryz.f86 args=some vs) (ho:Ones vs) {H O Q} (h:(wc vs).den PP Q H O):Triple PP Cf args H O Q :=
 al mixed (an aB _ _ _) Tryz.func86 FQ ha ho h
abbrev qi:FuncId:=87
def lp (v:List Value):Tree :=
 .newbox fun r0 =>
 .newbox fun r1 =>
 kN r0 <|
 .load [] (g v 12) 5 fun l0 =>
 cS 88 [ag (G12 v 0),ag (G5 l0 0)] (.agg 12) fun l1 =>
 kN r1 <|
 kN r1 <|
 .ret (ag (G12 l1 0)) []
theorem wd (vs:List Value):aR PP Tryz.f87 (aF okL [(76,[5,6,7,8])] [] []) vs=lp vs:=by kernel_rfl
theorem xe {args vs} (ha:am PP Tryz.f87 args=some vs) (ho:Ones vs) {H O Q} (h:(lp vs).den PP Q H O):Triple PP qi args H O Q :=
 al mixed (an aB _ _ _) Tryz.func87 wd ha ho h
abbrev rP:FuncId:=88
def pj (r1001:Nat) (l1002:List Value):Tree :=
 kN r1001 <|
 kN r1001 <|
 .ret (ag (G12 l1002 0)) []
def mi (v:List Value):Tree :=
 .newbox fun r0 =>
 .newbox fun r1 =>
 .newbox fun r2 =>
 kN r1 <|
 pE (g v 12) (iv 5) fun v0 =>
 .br v0 (
 kN r0 <|
 kN r0 <|
 kN r2 <|
 kN r2 <|
 .ret (ag (G11 v 0++[.bool true])) []) (
 pE (g v 12) (iv 11) fun v1 =>
 .br v1 (
 kN r0 <|
 kN r0 <|
 kN r2 <|
 kN r2 <|
 .ret (ag (G9 v 0++[.bool true,g v 10,g v 11])) []) (
 pE (g v 12) (iv 8) fun v2 =>
 .br v2 (
 kN r0 <|
 kN r1 <|
 kN r1 <|
 cS 133 [ag (G12 v 0),g v 14,g v 15] (.agg 12) fun l3 =>
 pj r2 l3) (
 pE (g v 12) (iv 9) fun v4 =>
 .br v4 (
 kN r0 <|
 kN r1 <|
 cS 134 [ag (G12 v 0),g v 14] (.agg 12) fun l5 =>
 pj r2 l5) (
 kN r0 <|
 kN r2 <|
 kN r2 <|
 .ret (ag (G12 v 0)) []))))
theorem xk (vs:List Value):aR PP Tryz.f88 (aF okL [(76,[5,6,7,8])] [] []) vs=mi vs:=by kernel_rfl
theorem yd {args vs} (ha:am PP Tryz.f88 args=some vs) (ho:Ones vs) {H O Q} (h:(mi vs).den PP Q H O):Triple PP rP args H O Q :=
 al mixed (an aB _ _ _) Tryz.func88 xk ha ho h
abbrev nD:FuncId:=89
def ju (v:List Value):Tree :=
 .newbox fun r0 =>
 kN r0 <|
 pL (g v 0) (iv 1) fun v0 =>
 kN r0 <|
 kV v0 <|
 kV v0 <|
 pG (g v 0) (iv 500) fun v1 =>
 kV v0 <|
 pK v0 (.bool true) v1 fun v2 =>
 kN r0 <|
 kV v2 <|
 kV v2 <|
 pL (g v 1) (iv (-1)) fun v3 =>
 kV v2 <|
 pK v2 (.bool true) v3 fun v4 =>
 kN r0 <|
 kV v4 <|
 kV v4 <|
 pG (g v 1) (iv 399) fun v5 =>
 kV v4 <|
 pK v4 (.bool true) v5 fun v6 =>
 kN r0 <|
 kV v6 <|
 kV v6 <|
 pL (g v 2) (iv 0) fun v7 =>
 kV v6 <|
 pK v6 (.bool true) v7 fun v8 =>
 kN r0 <|
 kV v8 <|
 kV v8 <|
 pG (g v 2) (iv 1) fun v9 =>
 kV v8 <|
 pK v8 (.bool true) v9 fun v10 =>
 .br v10 (
 .ret (.bool false) []) (
 kN r0 <|
 pH (g v 1) (iv 0) fun v11 =>
 kN r0 <|
 kV v11 <|
 kV v11 <|
 pN (g v 3) (iv 0) fun v12 =>
 kV v11 <|
 kN r0 <|
 kV v12 <|
 kV v11 <|
 kV v12 <|
 kV v11 <|
 pN (g v 4) (iv 0) fun v13 =>
 kV v11 <|
 kV v12 <|
 kV v11 <|
 pK v12 (.bool true) v13 fun v14 =>
 kV v11 <|
 pK v11 v14 (.bool false) fun v15 =>
 .br v15 (
 .ret (.bool false) []) (
 kN r0 <|
 c1 135 [g v 3] fun l16 =>
 .br (g l16 0) (
 kN r0 <|
 c1 135 [g v 4] fun l17 =>
 .br (g l17 0) (
 kN r0 <|
 c1 135 [g v 5] fun l18 =>
 .br (g l18 0) (
 kN r0 <|
 c1 135 [g v 6] fun l19 =>
 .br (g l19 0) (
 kN r0 <|
 c1 135 [g v 7] fun l20 =>
 .br (g l20 0) (
 kN r0 <|
 c1 135 [g v 8] fun l21 =>
 .ret (g l21 0) []) (
 .ret (.bool false) [])) (
 .ret (.bool false) [])) (
 .ret (.bool false) [])) (
 .ret (.bool false) [])) (
 .ret (.bool false) [])))
theorem sY (vs:List Value):aR PP Tryz.f89 (aF okL [(76,[5,6,7,8])] [] []) vs=ju vs:=by kernel_rfl
theorem ut {args vs} (ha:am PP Tryz.f89 args=some vs) (ho:Ones vs) {H O Q} (h:(ju vs).den PP Q H O):Triple PP nD args H O Q :=
 al mixed (an aB _ _ _) Tryz.func89 sY ha ho h
abbrev mM:FuncId:=90
def lB (r1001:Nat) (l1002:List Value) (n1003 n1004 n1005 n1006 n1007 n1008 n1009 n1010 n1011 n1012 n1013 n1014 n1015 n1016:Nat):Tree :=
 kN r1001 <|
 cS 29 [.agg #[g l1002 n1003,g l1002 n1004,g l1002 n1005,g l1002 n1006,g l1002 n1007,g l1002 n1008,g l1002 n1009,g l1002 n1010,g l1002 n1011,g l1002 n1012,g l1002 n1013,g l1002 n1014,g l1002 n1015,g l1002 n1016]] (.agg 4) fun l0 =>
 c1 91 [g l0 0,g l1002 39] fun l1 =>
 pA (iv 0) (g l1 0) fun v2 =>
 c1 91 [g l0 1,g l1002 39] fun l3 =>
 pA v2 (g l3 0) fun v4 =>
 c1 91 [g l0 2,g l1002 39] fun l5 =>
 pA v4 (g l5 0) fun v6 =>
 c1 91 [g l0 3,g l1002 39] fun l7 =>
 pA v6 (g l7 0) fun v8 =>
 .loop 55 8 [v8,iv 0] fun C55 l9 =>
 kN r1001 <|
 pZ (g l1002 29) fun v10 =>
 pL (g l9 1) v10 fun v11 =>
 .br v11 (
 kN r1001 <|
 pI 5 (g l1002 29) (g l9 1) fun v12 =>
 .load [] v12 5 fun l13 =>
 .newbox fun r1 =>
 kN r1 <|
 kN r1 <|
 pE (g l13 3) (iv (-1)) fun v14 =>
 kN r1 <|
 kV v14 <|
 kV v14 <|
 kV v14 <|
 pE (g l13 1) (g l1002 39) fun v15 =>
 kV v14 <|
 pK v14 v15 (.bool false) fun v16 =>
 kN r1 <|
 kV v16 <|
 kV v16 <|
 kV v16 <|
 pE (g l13 0) (g l1002 38) fun v17 =>
 kV v16 <|
 pK v16 v17 (.bool false) fun v18 =>
 .br v18 (
 pA (g l9 0) (iv 1) fun v19 =>
 pA (g l9 1) (iv 1) fun v20 =>
 .cont 55 C55 [v19,v20] (Es [[g l1002 38],[g l1002 39],[pt r1001 0],((pt r1001 0)::G38 l1002 0)])) (
 pA (g l9 1) (iv 1) fun v21 =>
 .cont 55 C55 [g l9 0,v21] (Es [[g l1002 38],[g l1002 39],[pt r1001 0],((pt r1001 0)::G38 l1002 0)]))) (
 .ret (g l9 0) [])
def iE (v:List Value):Tree :=
 .newbox fun r0 =>
 .sw (g v 38) 0 (
 lB r0 v 1 2 3 4 5 6 7 8 9 10 11 12 13 14) (
 .sw (g v 38) 1 (
 lB r0 v 15 16 17 18 19 20 21 22 23 24 25 26 27 28) (
 .stuck 901))
theorem rK (vs:List Value):aR PP Tryz.f90 (aF okL [(76,[5,6,7,8])] [(3,.unroll 5),(8,.inv [7,10] [1,2,3] [(3,[])])] []) vs=iE vs:=by kernel_rfl
theorem sd {args vs} (ha:am PP Tryz.f90 args=some vs) (ho:Ones vs) {H O Q} (h:(iE vs).den PP Q H O):Triple PP mM args H O Q :=
 al mixed (an aB _ _ _) Tryz.func90 rK ha ho h
abbrev nC:FuncId:=91
def jt (v:List Value):Tree :=
 .loop 3 3 [iv 0,iv 0] fun C3 l0 =>
 pZ (g v 0) fun v1 =>
 pL (g l0 1) v1 fun v2 =>
 .br v2 (
 pI 1 (g v 0) (g l0 1) fun v3 =>
 .load [] v3 1 fun l4 =>
 pE (g l4 0) (g v 1) fun v5 =>
 .br v5 (
 pA (g l0 0) (iv 1) fun v6 =>
 pA (g l0 1) (iv 1) fun v7 =>
 .cont 3 C3 [v6,v7] (Es [[g v 0],[g v 1]])) (
 pA (g l0 1) (iv 1) fun v8 =>
 .cont 3 C3 [g l0 0,v8] (Es [[g v 0],[g v 1]]))) (
 .ret (g l0 0) [])
theorem sX (vs:List Value):aR PP Tryz.f91 (aF okL [(76,[5,6,7,8])] [(3,.inv [5,6] [0,1] [])] []) vs=jt vs:=by kernel_rfl
theorem uq {args vs} (ha:am PP Tryz.f91 args=some vs) (ho:Ones vs) {H O Q} (h:(jt vs).den PP Q H O):Triple PP nC args H O Q :=
 al mixed (an aB _ _ _) Tryz.func91 sX ha ho h
abbrev dq:FuncId:=92
def bR (v:List Value):Tree :=
 pZ (g v 0) fun v0 =>
 pZ (g v 0) fun v1 =>
 .pure [] (.slc 1 false true true) [g v 0,v0,v1] fun v2 =>
 .ret v2 []
theorem fX (vs:List Value):aR PP Tryz.f92 (aF okL [(76,[5,6,7,8])] [] []) vs=bR vs:=by kernel_rfl
theorem ge {args vs} (ha:am PP Tryz.f92 args=some vs) (ho:Ones vs) {H O Q} (h:(bR vs).den PP Q H O):Triple PP dq args H O Q :=
 al mixed (an aB _ _ _) Tryz.func92 fX ha ho h
abbrev pD:FuncId:=93
def ki (v:List Value):Tree :=
 .newbox fun r0 =>
 .newbox fun r1 =>
 kN r0 <|
 kN r0 <|
 kN r0 <|
 kN r0 <|
 kN r1 <|
 kN r1 <|
 .ret (ag (G5 v 0++[iv 0,g v 6,iv 0,iv 0,g v 9,g v 10,g v 11])) []
theorem uO (vs:List Value):aR PP Tryz.f93 (aF okL [(76,[5,6,7,8])] [] []) vs=ki vs:=by kernel_rfl
theorem vn {args vs} (ha:am PP Tryz.f93 args=some vs) (ho:Ones vs) {H O Q} (h:(ki vs).den PP Q H O):Triple PP pD args H O Q :=
 al mixed (an aB _ _ _) Tryz.func93 uO ha ho h
abbrev gR:FuncId:=94
def gB (v:List Value):Tree :=
 .loop 3 3 [.slice none 0 0,iv 0] fun C3 l0 =>
 pZ (g v 0) fun v1 =>
 pL (g l0 1) v1 fun v2 =>
 .br v2 (
 pI 1 (g v 0) (g l0 1) fun v3 =>
 .load [] v3 1 fun l4 =>
 pN (g l4 0) (g v 1) fun v5 =>
 .br v5 (
 pI 1 (g v 0) (g l0 1) fun v6 =>
 .load [] v6 1 fun l7 =>
 .newbox fun r0 =>
 .prim (.bi .append #[26,26] 26) [g l0 0,.slice (some ⟨r0,0,none⟩) 1 1] [⟨r0,3,[g l7 0]⟩] [] .one fun l8 _ =>
 pA (g l0 1) (iv 1) fun v9 =>
 .cont 3 C3 [g l8 0,v9] (Es [[g v 0],[g v 1]])) (
 pA (g l0 1) (iv 1) fun v10 =>
 .cont 3 C3 [g l0 0,v10] (Es [[g v 0],[g v 1]]))) (
 .ret (g l0 0) [])
theorem qB (vs:List Value):aR PP Tryz.f94 (aF okL [(76,[5,6,7,8])] [(3,.inv [5,6] [0,1] [])] []) vs=gB vs:=by kernel_rfl
theorem re {args vs} (ha:am PP Tryz.f94 args=some vs) (ho:Ones vs) {H O Q} (h:(gB vs).den PP Q H O):Triple PP gR args H O Q :=
 al mixed (an aB _ _ _) Tryz.func94 qB ha ho h
abbrev Cj:FuncId:=95
def wi (v:List Value):Tree :=
 .newbox fun r0 =>
 kN r0 <|
 c1 136 [ag (G4 v 0),iv 99] fun l0 =>
 .ret (g l0 0) []
theorem fs0 (vs:List Value):aR PP Tryz.f95 (aF okL [(76,[5,6,7,8])] [] []) vs=wi vs:=by kernel_rfl
theorem Gi {args vs} (ha:am PP Tryz.f95 args=some vs) (ho:Ones vs) {H O Q} (h:(wi vs).den PP Q H O):Triple PP Cj args H O Q :=
 al mixed (an aB _ _ _) Tryz.func95 fs0 ha ho h
abbrev dD:FuncId:=96
def bY (v:List Value):Tree :=
 c1 137 [g v 0,g v 1] fun l0 =>
 pH (g l0 0) (iv 0) fun v1 =>
 .ret v1 []
theorem gk (vs:List Value):aR PP Tryz.f96 (aF okL [(76,[5,6,7,8])] [] []) vs=bY vs:=by kernel_rfl
theorem gu {args vs} (ha:am PP Tryz.f96 args=some vs) (ho:Ones vs) {H O Q} (h:(bY vs).den PP Q H O):Triple PP dD args H O Q :=
 al mixed (an aB _ _ _) Tryz.func96 gk ha ho h
abbrev wN:FuncId:=97
def pg (v:List Value):Tree :=
 .newbox fun r0 =>
 kN r0 <|
 c1 98 [ag (G5 v 0),.bool false] fun l0 =>
 pO (g l0 0) fun v1 =>
 .ret v1 []
theorem zP (vs:List Value):aR PP Tryz.f97 (aF okL [(76,[5,6,7,8])] [] []) vs=pg vs:=by kernel_rfl
theorem AB {args vs} (ha:am PP Tryz.f97 args=some vs) (ho:Ones vs) {H O Q} (h:(pg vs).den PP Q H O):Triple PP wN args H O Q :=
 al mixed (an aB _ _ _) Tryz.func97 zP ha ho h
abbrev Cm:FuncId:=98
def wk (v:List Value):Tree :=
 .newbox fun r0 =>
 kN r0 <|
 c1 73 [g v 0,iv 0,iv 1] fun l0 =>
 .br (g l0 0) (
 kN r0 <|
 c1 73 [g v 1,iv 1,iv 500] fun l1 =>
 .br (g l1 0) (
 kN r0 <|
 c1 73 [g v 2,iv 0,iv 399] fun l2 =>
 .br (g l2 0) (
 kN r0 <|
 c1 73 [g v 3,iv (-1),iv 1] fun l3 =>
 pO (g l3 0) fun v4 =>
 kN r0 <|
 kV v4 <|
 kV v4 <|
 pZ (g v 4) fun v5 =>
 kV v4 <|
 pG v5 (iv 4) fun v6 =>
 kV v4 <|
 pK v4 (.bool true) v6 fun v7 =>
 kN r0 <|
 kV v7 <|
 kV v7 <|
 pH (g v 3) (iv 0) fun v8 =>
 kV v7 <|
 kN r0 <|
 kV v8 <|
 kV v7 <|
 kV v8 <|
 kV v7 <|
 pZ (g v 4) fun v9 =>
 kV v8 <|
 kV v7 <|
 pG v9 (iv 0) fun v10 =>
 kV v7 <|
 kV v8 <|
 kV v7 <|
 pK v8 v10 (.bool false) fun v11 =>
 kV v7 <|
 pK v7 (.bool true) v11 fun v12 =>
 kV v12 <|
 kN r0 <|
 kV (g v 5) <|
 kV v12 <|
 kV (g v 5) <|
 kV v12 <|
 pL (g v 3) (iv 0) fun v13 =>
 kV v12 <|
 kV (g v 5) <|
 kV v12 <|
 pK (g v 5) v13 (.bool false) fun v14 =>
 kV v12 <|
 pK v12 (.bool true) v14 fun v15 =>
 .br v15 (
 .ret (.bool false) []) (
 kN r0 <|
 c1 138 [g v 4,.func (.func 139) #[] #[]] fun l16 =>
 pO (g l16 0) fun v17 =>
 .ret v17 [])) (
 .ret (.bool false) [])) (
 .ret (.bool false) [])) (
 .ret (.bool false) [])
theorem FT (vs:List Value):aR PP Tryz.f98 (aF okL [(76,[5,6,7,8])] [] []) vs=wk vs:=by kernel_rfl
theorem Gj {args vs} (ha:am PP Tryz.f98 args=some vs) (ho:Ones vs) {H O Q} (h:(wk vs).den PP Q H O):Triple PP Cm args H O Q :=
 al mixed (an aB _ _ _) Tryz.func98 FT ha ho h
abbrev wM:FuncId:=99
def pf (v:List Value):Tree :=
 .newbox fun r0 =>
 kN r0 <|
 c1 98 [ag (G5 v 0),.bool true] fun l0 =>
 pO (g l0 0) fun v1 =>
 .ret v1 []
theorem zN (vs:List Value):aR PP Tryz.f99 (aF okL [(76,[5,6,7,8])] [] []) vs=pf vs:=by kernel_rfl
theorem AA {args vs} (ha:am PP Tryz.f99 args=some vs) (ho:Ones vs) {H O Q} (h:(pf vs).den PP Q H O):Triple PP wM args H O Q :=
 al mixed (an aB _ _ _) Tryz.func99 zN ha ho h
abbrev ya:FuncId:=100
def dj (l1001:List Value) (n1002:Nat) (l1003:List Value) (i1004:Int) (r1005 n1006:Nat) (C1007:List Value→Heap→Own→Prop) (r1008 n1009 n1010 n1011 n1012:Nat) (i1013:Int) (v1014:Value):Tree :=
 pI 1 (g l1001 n1002) (g l1003 0) fun v5 =>
 .load [] v5 1 fun l6 =>
 .call false 141 [g l6 0,iv i1004,pt r1005 0] [] [⟨r1005,196,[g l1003 1]⟩] .one fun l7 c7 =>
 pO (g l7 0) fun v8 =>
 .br v8 (
 .ret (.bool false) []) (
 pA (g l1003 0) (iv 1) fun v9 =>
 .cont n1006 C1007 [v9,g (gd c7 0) 0] (Es [[pt r1008 0],[pt r1005 0],[.func (.func 141) #[] #[pt r1005 0]],[iv i1004],[iv i1004],[pt r1008 n1009,pt r1008 n1010,pt r1008 n1011,pt r1008 n1012],[iv i1013],[g l1001 n1002],[v1014],((pt r1008 0)::G38 l1001 0),[pt r1005 0,.tuple #[]]]))
def qP (v:List Value):Tree :=
 .newbox fun r0 =>
 .prim (.makeMap 196 false) [] [] [] .one fun l0 _ =>
 .newbox fun r1 =>
 kN r1 <|
 cS 76 [pt r0 1] (.agg 4) fun l1 =>
 kW (g l1 0) r0 6 <|
 kW (g l1 1) r0 7 <|
 kW (g l1 2) r0 8 <|
 kW (g l1 3) r0 9 <|
 kN r0 <|
 pZ (g v 6) fun v2 =>
 .loop 24 10 [iv 0,g l0 0] fun C24 l3 =>
 pL (g l3 0) v2 fun v4 =>
 .br v4 (
 dj v 6 l3 0 r1 24 C24 r0 6 7 8 9 0 v2) (
 kN r0 <|
 pZ (g v 7) fun v10 =>
 .loop 36 10 [iv 0,g l3 1] fun C36 l11 =>
 pL (g l11 0) v10 fun v12 =>
 .br v12 (
 dj v 7 l11 0 r1 36 C36 r0 6 7 8 9 1 v10) (
 kN r0 <|
 pZ (g v 8) fun v18 =>
 .loop 48 10 [iv 0,g l11 1] fun C48 l19 =>
 pL (g l19 0) v18 fun v20 =>
 .br v20 (
 dj v 8 l19 0 r1 48 C48 r0 6 7 8 9 2 v18) (
 kN r0 <|
 pZ (g v 9) fun v26 =>
 .loop 60 10 [iv 0,g l19 1] fun C60 l27 =>
 pL (g l27 0) v26 fun v28 =>
 .br v28 (
 dj v 9 l27 0 r1 60 C60 r0 6 7 8 9 3 v26) (
 cS 76 [pt r0 15] (.agg 4) fun l34 =>
 kW (g l34 0) r0 20 <|
 kW (g l34 1) r0 21 <|
 kW (g l34 2) r0 22 <|
 kW (g l34 3) r0 23 <|
 kN r0 <|
 pZ (g v 20) fun v35 =>
 .loop 83 10 [iv 0,g l27 1] fun C83 l36 =>
 pL (g l36 0) v35 fun v37 =>
 .br v37 (
 dj v 20 l36 1 r1 83 C83 r0 20 21 22 23 0 v35) (
 kN r0 <|
 pZ (g v 21) fun v43 =>
 .loop 95 10 [iv 0,g l36 1] fun C95 l44 =>
 pL (g l44 0) v43 fun v45 =>
 .br v45 (
 dj v 21 l44 1 r1 95 C95 r0 20 21 22 23 1 v43) (
 kN r0 <|
 pZ (g v 22) fun v51 =>
 .loop 107 10 [iv 0,g l44 1] fun C107 l52 =>
 pL (g l52 0) v51 fun v53 =>
 .br v53 (
 dj v 22 l52 1 r1 107 C107 r0 20 21 22 23 2 v51) (
 kN r0 <|
 pZ (g v 23) fun v59 =>
 .loop 119 10 [iv 0,g l52 1] fun C119 l60 =>
 pL (g l60 0) v59 fun v61 =>
 .br v61 (
 dj v 23 l60 1 r1 119 C119 r0 20 21 22 23 3 v59) (
 .prim (.makeMap 196 false) [] [] [] .one fun l67 _ =>
 kN r0 <|
 pZ (g v 29) fun v68 =>
 .loop 133 19 [iv 0,g l60 1] fun C133 l69 =>
 pL (g l69 0) v68 fun v70 =>
 .br v70 (
 pI 5 (g v 29) (g l69 0) fun v71 =>
 .load [] v71 5 fun l72 =>
 .newbox fun r2 =>
 kN r2 <|
 kN r2 <|
 pL (g l72 3) (iv 0) fun v73 =>
 .br v73 (
 kN r2 <|
 kN r2 <|
 .call false 141 [g l72 1,g l72 0,pt r1 0] [] [⟨r1,196,[g l69 1]⟩] .one fun l74 c74 =>
 pO (g l74 0) fun v75 =>
 .br v75 (
 .ret (.bool false) []) (
 kN r2 <|
 kN r2 <|
 .prim (.mapUpdate 196) [g l67 0,g l72 1,g l72 2] [] [] .one fun l76 _ =>
 pA (g l69 0) (iv 1) fun v77 =>
 .cont 133 C133 [v77,g (gd c74 0) 0] (Es [[pt r0 0],[pt r1 0],[.func (.func 141) #[] #[pt r1 0]],[g l67 0],[g v 29],[v68],((pt r0 0)::G38 v 0),[pt r1 0,.tuple #[]]]))) (
 pA (g l69 0) (iv 1) fun v78 =>
 .cont 133 C133 [v78,g l69 1] (Es [[pt r0 0],[pt r1 0],[.func (.func 141) #[] #[pt r1 0]],[g l67 0],[g v 29],[v68],((pt r0 0)::G38 v 0),[pt r1 0,.tuple #[]]]))) (
 kN r0 <|
 pZ (g v 0) fun v79 =>
 .loop 139 27 [iv 0] fun C139 l80 =>
 pL (g l80 0) v79 fun v81 =>
 .br v81 (
 pI 12 (g v 0) (g l80 0) fun v82 =>
 .load [] v82 12 fun l83 =>
 .newbox fun r3 =>
 kN r3 <|
 kN r1 <|
 kN r3 <|
 .prim (.lookup 196 true) [g l69 1,g l83 0] [] [] (.tup [none,none]) fun l84 _ =>
 kN r3 <|
 .prim (.lookup 196 true) [g l67 0,g l83 0] [] [] (.tup [none,none]) fun l85 _ =>
 kN r3 <|
 c1 142 [ag (G12 l83 0)] fun l86 =>
 pO (g l86 0) fun v87 =>
 kV v87 <|
 pG (g l80 0) (iv 0) fun v88 =>
 kV v87 <|
 kN r0 <|
 kV v88 <|
 kV v87 <|
 kV v88 <|
 kV v87 <|
 pS (g l80 0) (iv 1) fun v89 =>
 kV v88 <|
 kV v87 <|
 kV v88 <|
 kV v87 <|
 .pure [(v88,true),(v87,false)] (.idx 12) [g v 0,v89] fun v90 =>
 .chk (.ptr [(v88,true),(v87,false)] v90) <|
 kV v88 <|
 kV v87 <|
 kV v88 <|
 kV v87 <|
 .load [(v88,true),(v87,false)] v90 1 fun l91 =>
 kN r3 <|
 kV v88 <|
 kV v87 <|
 kV v88 <|
 kV v87 <|
 kV v88 <|
 kV v87 <|
 pH (g l91 0) (g l83 0) fun v92 =>
 kV v87 <|
 kV v88 <|
 kV v87 <|
 pK v88 v92 (.bool false) fun v93 =>
 kV v87 <|
 pK v87 (.bool true) v93 fun v94 =>
 kV v94 <|
 pO (g l84 1) fun v95 =>
 kV v94 <|
 pK v94 (.bool true) v95 fun v96 =>
 kN r3 <|
 kV v96 <|
 kV v96 <|
 kV v96 <|
 pN (g l84 0) (g l83 2) fun v97 =>
 kV v96 <|
 pK v96 (.bool true) v97 fun v98 =>
 kV v98 <|
 kN r3 <|
 kV (g l85 1) <|
 kV v98 <|
 kV (g l85 1) <|
 kV v98 <|
 kV (g l85 1) <|
 kV v98 <|
 pN (g l85 0) (g l83 1) fun v99 =>
 kV v98 <|
 kV (g l85 1) <|
 kV v98 <|
 pK (g l85 1) v99 (.bool false) fun v100 =>
 kV v98 <|
 pK v98 (.bool true) v100 fun v101 =>
 .br v101 (
 .ret (.bool false) []) (
 pA (g l80 0) (iv 1) fun v102 =>
 .cont 139 C139 [v102] (Es [[pt r0 0],[pt r1 0],[g l67 0],[g v 0],[v79],((pt r0 0)::G38 v 0),[pt r1 0,g l69 1]]))) (
 kN r1 <|
 .prim (.bi .len #[196] 3) [g l69 1] [] [] .one fun l103 _ =>
 kN r0 <|
 pZ (g v 0) fun v104 =>
 pE (g l103 0) v104 fun v105 =>
 .ret v105 []))))))))))
theorem Bv (vs:List Value):aR PP Tryz.f100 (aF okL [(76,[5,6,7,8])] [(4,.unroll 3),(7,.unroll 5),(10,.inv [35] [1,3,4,5,21,27,28,33,34] [(1,[]),(3,[0])]),(19,.inv [51] [1,3,4,10,49,50] [(1,[]),(3,[0])]),(27,.inv [74] [1,3,10,72,73] [(1,[]),(3,[])])] []) vs=qP vs:=by kernel_rfl
theorem CV {args vs} (ha:am PP Tryz.f100 args=some vs) (ho:Ones vs) {H O Q} (h:(qP vs).den PP Q H O):Triple PP ya args H O Q :=
 al mixed (an aB _ _ _) Tryz.func100 Bv ha ho h
abbrev yc:FuncId:=101
def jQ (r1001:Nat) (l1002:List Value) (n1003 n1004:Nat):Tree :=
 kN r1001 <|
 .prim (.makeMap 198 false) [] [] [] .one fun l1 _ =>
 kN r1001 <|
 pZ (g l1002 31) fun v2 =>
 .loop 23 4 [iv 0] fun C23 l3 =>
 pL (g l3 0) v2 fun v4 =>
 .br v4 (
 pI 1 (g l1002 31) (g l3 0) fun v5 =>
 .load [] v5 1 fun l6 =>
 .prim (.lookup 198 false) [g l1 0,g l6 0] [] [] .one fun l7 _ =>
 .br (g l7 0) (
 .ret (.bool false) []) (
 c1 132 [g l1002 n1003,g l6 0] fun l8 =>
 pO (g l8 0) fun v9 =>
 .br v9 (
 .ret (.bool false) []) (
 .prim (.mapUpdate 198) [g l1 0,g l6 0,.bool true] [] [] .one fun l10 _ =>
 pA (g l3 0) (iv 1) fun v11 =>
 .cont 23 C23 [v11] (Es [[pt r1001 0],[g l1002 n1003],[g l1002 n1004],[g l1 0],[g l1002 31],[v2],((pt r1001 0)::G38 l1002 0)])))) (
 kN r1001 <|
 pZ (g l1002 32) fun v12 =>
 .loop 29 11 [iv 0] fun C29 l13 =>
 pL (g l13 0) v12 fun v14 =>
 .br v14 (
 pI 2 (g l1002 32) (g l13 0) fun v15 =>
 .load [] v15 2 fun l16 =>
 .newbox fun r1 =>
 kN r1 <|
 kN r1 <|
 .prim (.lookup 198 false) [g l1 0,g l16 1] [] [] .one fun l17 _ =>
 pO (g l17 0) fun v18 =>
 .br v18 (
 .ret (.bool false) []) (
 kN r1 <|
 .pure [] .neg [g l16 0] fun v19 =>
 .prim (.lookup 198 false) [g l1 0,v19] [] [] .one fun l20 _ =>
 .br (g l20 0) (
 .ret (.bool false) []) (
 kN r1001 <|
 kN r1 <|
 c1 132 [g l1002 31,g l16 1] fun l21 =>
 pO (g l21 0) fun v22 =>
 .br v22 (
 .ret (.bool false) []) (
 kN r1 <|
 c1 132 [g l1002 n1004,g l16 0] fun l23 =>
 pO (g l23 0) fun v24 =>
 .br v24 (
 .ret (.bool false) []) (
 kN r1 <|
 kN r1 <|
 .pure [] .neg [g l16 0] fun v25 =>
 .prim (.mapUpdate 198) [g l1 0,g l16 1,.bool false] [] [] .one fun l26 _ =>
 .prim (.mapUpdate 198) [g l1 0,v25,.bool true] [] [] .one fun l27 _ =>
 pA (g l13 0) (iv 1) fun v28 =>
 .cont 29 C29 [v28] (Es [[pt r1001 0],[g l1002 n1004],[g l1 0],[g l1002 32],[v12],((pt r1001 0)::G38 l1002 0)])))))) (
 .ret (.bool true) []))
def qR (v:List Value):Tree :=
 .newbox fun r0 =>
 kN r0 <|
 .sw (g v 34) 0 (
 kN r0 <|
 kN r0 <|
 pS (iv 1) (g v 34) fun v0 =>
 .sw v0 0 (
 jQ r0 v 8 8) (
 .sw v0 1 (
 jQ r0 v 8 22) (
 .stuck 901))) (
 .sw (g v 34) 1 (
 kN r0 <|
 kN r0 <|
 pS (iv 1) (g v 34) fun v57 =>
 .sw v57 0 (
 jQ r0 v 22 8) (
 .sw v57 1 (
 jQ r0 v 22 22) (
 .stuck 901))) (
 .stuck 901))
theorem By (vs:List Value):aR PP Tryz.f101 (aF okL [(76,[5,6,7,8])] [(4,.inv [27] [1,3,4,5,25,26] [(1,[])]),(11,.inv [46] [1,4,5,44,45] [(1,[])])] []) vs=qR vs:=by kernel_rfl
theorem CX {args vs} (ha:am PP Tryz.f101 args=some vs) (ho:Ones vs) {H O Q} (h:(qR vs).den PP Q H O):Triple PP yc args H O Q :=
 al mixed (an aB _ _ _) Tryz.func101 By ha ho h
abbrev eo:FuncId:=102
def cH (v:List Value):Tree :=
 .pure [] (.bin .eql .slice) [g v 0,.slice none 0 0] fun v0 =>
 .br v0 (
 .ret (.slice none 0 0) []) (
 .newbox fun r0 =>
 .prim (.bi .append #[23,23] 23) [.slice (some ⟨r0,0,none⟩) 0 0,g v 0] [⟨r0,82,[]⟩] [] .one fun l1 _ =>
 .ret (g l1 0) [])
theorem iL (vs:List Value):aR PP Tryz.f102 (aF okL [(76,[5,6,7,8])] [] []) vs=cH vs:=by kernel_rfl
theorem iR {args vs} (ha:am PP Tryz.f102 args=some vs) (ho:Ones vs) {H O Q} (h:(cH vs).den PP Q H O):Triple PP eo args H O Q :=
 al mixed (an aB _ _ _) Tryz.func102 iL ha ho h
abbrev lZ:FuncId:=103
def gJ (v:List Value):Tree :=
 .pure [] (.bin .eql .slice) [g v 0,.slice none 0 0] fun v0 =>
 .br v0 (
 .ret (.slice none 0 0) []) (
 .newbox fun r0 =>
 .prim (.bi .append #[26,26] 26) [.slice (some ⟨r0,0,none⟩) 0 0,g v 0] [⟨r0,3,[]⟩] [] .one fun l1 _ =>
 .ret (g l1 0) [])
theorem qH (vs:List Value):aR PP Tryz.f103 (aF okL [(76,[5,6,7,8])] [] []) vs=gJ vs:=by kernel_rfl
theorem rj {args vs} (ha:am PP Tryz.f103 args=some vs) (ho:Ones vs) {H O Q} (h:(gJ vs).den PP Q H O):Triple PP lZ args H O Q :=
 al mixed (an aB _ _ _) Tryz.func103 qH ha ho h
abbrev eO:FuncId:=104
def cM (v:List Value):Tree :=
 .pure [] (.bin .eql .slice) [g v 0,.slice none 0 0] fun v0 =>
 .br v0 (
 .ret (.slice none 0 0) []) (
 .newbox fun r0 =>
 .prim (.bi .append #[31,31] 31) [.slice (some ⟨r0,0,none⟩) 0 0,g v 0] [⟨r0,122,[]⟩] [] .one fun l1 _ =>
 .ret (g l1 0) [])
theorem jD (vs:List Value):aR PP Tryz.f104 (aF okL [(76,[5,6,7,8])] [] []) vs=cM vs:=by kernel_rfl
theorem jH {args vs} (ha:am PP Tryz.f104 args=some vs) (ho:Ones vs) {H O Q} (h:(cM vs).den PP Q H O):Triple PP eO args H O Q :=
 al mixed (an aB _ _ _) Tryz.func104 jD ha ho h
abbrev zZ:FuncId:=105
def tI (v:List Value):Tree :=
 c1 143 [g v 0] fun l0 =>
 pZ (g l0 0) fun v1 =>
 .loop 7 3 [iv 0] fun C7 l2 =>
 pL (g l2 0) v1 fun v3 =>
 .br v3 (
 pI 5 (g l0 0) (g l2 0) fun v4 =>
 kP v4 <|
 .load [] (aU v4 4) 1 fun l5 =>
 c1 144 [g l5 0] fun l6 =>
 pI 5 (g l0 0) (g l2 0) fun v7 =>
 kP v7 <|
 kP (aU v7 4) <|
 .store (aU v7 4) [g l6 0] <|
 pA (g l2 0) (iv 1) fun v8 =>
 .cont 7 C7 [v8] (Es [[g l0 0],[v1]])) (
 .ret (g l0 0) [])
theorem Dw (vs:List Value):aR PP Tryz.f105 (aF okL [(76,[5,6,7,8])] [(3,.inv [9] [3,8] [])] []) vs=tI vs:=by kernel_rfl
theorem Ep {args vs} (ha:am PP Tryz.f105 args=some vs) (ho:Ones vs) {H O Q} (h:(tI vs).den PP Q H O):Triple PP zZ args H O Q :=
 al mixed (an aB _ _ _) Tryz.func105 Dw ha ho h
abbrev ny:FuncId:=106
def bu (l1001:List Value) (n1002:Nat) (l1003 l1004:List Value) (r1005:Nat) (i1006 i1007:Int) (n1008:Nat) (C1009:List Value→Heap→Own→Prop) (r1010:Nat):Tree :=
 pI 1 (g l1001 n1002) (g l1003 0) fun v4 =>
 .load [] v4 1 fun l5 =>
 pE (g l5 0) (g l1004 38) fun v6 =>
 .br v6 (
 kN r1005 <|
 kN r1005 <|
 .ret (.tuple #[.agg #[iv i1006,iv i1007,g l1003 0],iv 0]) []) (
 pA (g l1003 0) (iv 1) fun v7 =>
 .cont n1008 C1009 [v7] (Es [[g l1004 38],[pt r1010 0],[pt r1005 0],[iv i1006],[iv i1007],[g l1001 n1002],G4 l1001 0,[iv i1007],((pt r1010 0)::G38 l1004 0),[pt r1005 0,iv 0,iv 0,iv 0]]))
def jp (v:List Value):Tree :=
 .newbox fun r0 =>
 .newbox fun r1 =>
 kN r0 <|
 cS 29 [ag (G14 v 1)] (.agg 4) fun l0 =>
 .loop 18 8 [iv 0] fun C18 l1 =>
 pZ (g l0 0) fun v2 =>
 pL (g l1 0) v2 fun v3 =>
 .br v3 (
 bu l0 0 l1 v r1 0 0 18 C18 r0) (
 .loop 31 8 [iv 0] fun C31 l8 =>
 pZ (g l0 1) fun v9 =>
 pL (g l8 0) v9 fun v10 =>
 .br v10 (
 bu l0 1 l8 v r1 0 1 31 C31 r0) (
 .loop 44 8 [iv 0] fun C44 l15 =>
 pZ (g l0 2) fun v16 =>
 pL (g l15 0) v16 fun v17 =>
 .br v17 (
 bu l0 2 l15 v r1 0 2 44 C44 r0) (
 .loop 57 8 [iv 0] fun C57 l22 =>
 pZ (g l0 3) fun v23 =>
 pL (g l22 0) v23 fun v24 =>
 .br v24 (
 bu l0 3 l22 v r1 0 3 57 C57 r0) (
 kN r0 <|
 cS 29 [ag (G14 v 15)] (.agg 4) fun l29 =>
 .loop 82 8 [iv 0] fun C82 l30 =>
 pZ (g l29 0) fun v31 =>
 pL (g l30 0) v31 fun v32 =>
 .br v32 (
 bu l29 0 l30 v r1 1 0 82 C82 r0) (
 .loop 95 8 [iv 0] fun C95 l37 =>
 pZ (g l29 1) fun v38 =>
 pL (g l37 0) v38 fun v39 =>
 .br v39 (
 bu l29 1 l37 v r1 1 1 95 C95 r0) (
 .loop 108 8 [iv 0] fun C108 l44 =>
 pZ (g l29 2) fun v45 =>
 pL (g l44 0) v45 fun v46 =>
 .br v46 (
 bu l29 2 l44 v r1 1 2 108 C108 r0) (
 .loop 121 8 [iv 0] fun C121 l51 =>
 pZ (g l29 3) fun v52 =>
 pL (g l51 0) v52 fun v53 =>
 .br v53 (
 bu l29 3 l51 v r1 1 3 121 C121 r0) (
 .loop 135 14 [iv 0] fun C135 l58 =>
 kN r0 <|
 pZ (g v 29) fun v59 =>
 pL (g l58 0) v59 fun v60 =>
 .br v60 (
 kN r0 <|
 pI 5 (g v 29) (g l58 0) fun v61 =>
 .load [] v61 5 fun l62 =>
 .newbox fun r2 =>
 kN r2 <|
 kN r2 <|
 pE (g l62 3) (iv (-1)) fun v63 =>
 kN r2 <|
 kV v63 <|
 kV v63 <|
 kV v63 <|
 pE (g l62 1) (g v 38) fun v64 =>
 kV v63 <|
 pK v63 v64 (.bool false) fun v65 =>
 .br v65 (
 kN r2 <|
 kN r1 <|
 kN r1 <|
 .ret (.tuple #[.agg #[g l62 0,iv 4,g l58 0],iv 0]) []) (
 pA (g l58 0) (iv 1) fun v66 =>
 .cont 135 C135 [v66] (Es [[g v 38],[pt r0 0],[pt r1 0],((pt r0 0)::G38 v 0),[pt r1 0,iv 0,iv 0,iv 0]]))) (
 kN r1 <|
 kN r1 <|
 .ret (.tuple #[.agg #[iv 0,iv 0,iv 0],iv 9]) [])))))))))
theorem sT (vs:List Value):aR PP Tryz.f106 (aF okL [(76,[5,6,7,8])] [(2,.unroll 3),(5,.unroll 5),(8,.inv [9] [1,2,4,6,7,8,20,21] [(2,[]),(4,[])]),(14,.inv [10] [1,2,4] [(2,[]),(4,[])])] []) vs=jp vs:=by kernel_rfl
theorem ul {args vs} (ha:am PP Tryz.f106 args=some vs) (ho:Ones vs) {H O Q} (h:(jp vs).den PP Q H O):Triple PP ny args H O Q :=
 al mixed (an aB _ _ _) Tryz.func106 sT ha ho h
abbrev ep:FuncId:=107
def cI (v:List Value):Tree :=
 .pure [] (.bin .eql .slice) [g v 0,.slice none 0 0] fun v0 =>
 .br v0 (
 .ret (.slice none 0 0) []) (
 .newbox fun r0 =>
 .prim (.bi .append #[62,62] 62) [.slice (some ⟨r0,0,none⟩) 0 0,g v 0] [⟨r0,39,[]⟩] [] .one fun l1 _ =>
 .ret (g l1 0) [])
theorem iM (vs:List Value):aR PP Tryz.f107 (aF okL [(76,[5,6,7,8])] [] []) vs=cI vs:=by kernel_rfl
theorem iS {args vs} (ha:am PP Tryz.f107 args=some vs) (ho:Ones vs) {H O Q} (h:(cI vs).den PP Q H O):Triple PP ep args H O Q :=
 al mixed (an aB _ _ _) Tryz.func107 iM ha ho h
abbrev dL:FuncId:=108
def cj (v:List Value):Tree :=
 .pure [] (.bin .eql .slice) [g v 0,.slice none 0 0] fun v0 =>
 .br v0 (
 .ret (.slice none 0 0) []) (
 .newbox fun r0 =>
 .prim (.bi .append #[73,73] 73) [.slice (some ⟨r0,0,none⟩) 0 0,g v 0] [⟨r0,91,[]⟩] [] .one fun l1 _ =>
 .ret (g l1 0) [])
theorem gK (vs:List Value):aR PP Tryz.f108 (aF okL [(76,[5,6,7,8])] [] []) vs=cj vs:=by kernel_rfl
theorem ic {args vs} (ha:am PP Tryz.f108 args=some vs) (ho:Ones vs) {H O Q} (h:(cj vs).den PP Q H O):Triple PP dL args H O Q :=
 al mixed (an aB _ _ _) Tryz.func108 gK ha ho h
abbrev cd:FuncId:=109
def bh (v:List Value):Tree :=
 pZ (g v 0) fun v0 =>
 .loop 8 3 [iv 0,v0] fun C8 l1 =>
 pL (g l1 0) (g l1 1) fun v2 =>
 .br v2 (
 pA (g l1 0) (g l1 1) fun v3 =>
 .pure [] (.conv .u64) [v3] fun v4 =>
 .pure [] (.bin .shr .int) [v4,.int .u64 1] fun v5 =>
 .pure [] (.conv .i64) [v5] fun v6 =>
 pI 12 (g v 0) v6 fun v7 =>
 .load [] v7 12 fun l8 =>
 .callv false (g v 2) [ag (G12 l8 0),g v 1] [] [] .one fun l9 _ =>
 pL (g l9 0) (iv 0) fun v10 =>
 .br v10 (
 pA v6 (iv 1) fun v11 =>
 .cont 8 C8 [v11,g l1 1] (Es [[g v 0],[g v 1],[g v 2],[v0]])) (
 .cont 8 C8 [g l1 0,v6] (Es [[g v 0],[g v 1],[g v 2],[v0]]))) (
 pL (g l1 0) v0 fun v12 =>
 .br v12 (
 pI 12 (g v 0) (g l1 0) fun v13 =>
 .load [] v13 12 fun l14 =>
 .callv false (g v 2) [ag (G12 l14 0),g v 1] [] [] .one fun l15 _ =>
 pE (g l15 0) (iv 0) fun v16 =>
 .ret (.tuple #[g l1 0,v16]) []) (
 .ret (.tuple #[g l1 0,.bool false]) []))
theorem dQ (vs:List Value):aR PP Tryz.f109 (aF okL [(76,[5,6,7,8])] [(3,.inv [9,10] [0,1,2,8] [])] []) vs=bh vs:=by kernel_rfl
theorem dT {args vs} (ha:am PP Tryz.f109 args=some vs) (ho:Ones vs) {H O Q} (h:(bh vs).den PP Q H O):Triple PP cd args H O Q :=
 al mixed (an aB _ _ _) Tryz.func109 dQ ha ho h
abbrev lN:FuncId:=110
def pd (v:List Value):Tree :=
 .newbox fun r0 =>
 kN r0 <|
 pS (g v 0) (g v 12) fun v0 =>
 .ret v0 []
theorem zL (vs:List Value):aR PP Tryz.f110 (aF okL [(76,[5,6,7,8])] [] []) vs=pd vs:=by kernel_rfl
theorem Ax {args vs} (ha:am PP Tryz.f110 args=some vs) (ho:Ones vs) {H O Q} (h:(pd vs).den PP Q H O):Triple PP lN args H O Q :=
 al mixed (an aB _ _ _) Tryz.func110 zL ha ho h
abbrev ot:FuncId:=111
def tG (v:List Value):Tree :=
 .load [] (g v 1) 1 fun l0 =>
 pE (g v 0) (g l0 0) fun v1 =>
 .ret v1 []
theorem Du (vs:List Value):aR PP Tryz.f111 (aF okL [(76,[5,6,7,8])] [] []) vs=tG vs:=by kernel_rfl
theorem En {args vs} (ha:am PP Tryz.f111 args=some vs) (ho:Ones vs) {H O Q} (h:(tG vs).den PP Q H O):Triple PP ot args H O Q :=
 al mixed (an aB _ _ _) Tryz.func111 Du ha ho h
abbrev eI:FuncId:=112
def eH (v:List Value):Tree :=
 c1 145 [g v 0,g v 1] fun l0 =>
 pE (g l0 0) (iv (-1)) fun v1 =>
 .br v1 (
 .ret (g v 0) []) (
 pA (g l0 0) (iv 1) fun v2 =>
 .loop 10 5 [g l0 0,v2] fun C10 l3 =>
 pZ (g v 0) fun v4 =>
 pL (g l3 1) v4 fun v5 =>
 .br v5 (
 pI 1 (g v 0) (g l3 1) fun v6 =>
 .load [] v6 1 fun l7 =>
 .callv false (g v 1) [g l7 0] [] [] .one fun l8 _ =>
 pO (g l8 0) fun v9 =>
 .br v9 (
 pI 1 (g v 0) (g l3 0) fun v10 =>
 kP v10 <|
 .store v10 [g l7 0] <|
 pA (g l3 0) (iv 1) fun v11 =>
 pA (g l3 1) (iv 1) fun v12 =>
 .cont 10 C10 [v11,v12] (Es [[g v 0],[g v 1]])) (
 pA (g l3 1) (iv 1) fun v13 =>
 .cont 10 C10 [g l3 0,v13] (Es [[g v 0],[g v 1]]))) (
 .pure [] (.slc 1 true false false) [g v 0,g l3 0] fun v14 =>
 .prim (.bi .clear #[26] 0) [v14] [] [] (.tup []) fun l15 _ =>
 .pure [] (.slc 1 false true false) [g v 0,g l3 0] fun v16 =>
 .ret v16 []))
theorem mF (vs:List Value):aR PP Tryz.f112 (aF okL [(76,[5,6,7,8])] [(5,.inv [5,6] [0,1] [])] []) vs=eH vs:=by kernel_rfl
theorem mS {args vs} (ha:am PP Tryz.f112 args=some vs) (ho:Ones vs) {H O Q} (h:(eH vs).den PP Q H O):Triple PP eI args H O Q :=
 al mixed (an aB _ _ _) Tryz.func112 mF ha ho h
abbrev cA:FuncId:=113
def cz (v:List Value):Tree :=
 c1 137 [g v 0,g v 1] fun l0 =>
 pE (g l0 0) (iv (-1)) fun v1 =>
 .br v1 (
 .ret (g v 0) []) (
 pA (g l0 0) (iv 1) fun v2 =>
 .loop 10 5 [g l0 0,v2] fun C10 l3 =>
 pZ (g v 0) fun v4 =>
 pL (g l3 1) v4 fun v5 =>
 .br v5 (
 pI 5 (g v 0) (g l3 1) fun v6 =>
 .load [] v6 5 fun l7 =>
 .newbox fun r0 =>
 kN r0 <|
 kN r0 <|
 .callv false (g v 1) [ag (G5 l7 0)] [] [] .one fun l8 _ =>
 pO (g l8 0) fun v9 =>
 .br v9 (
 kN r0 <|
 pI 5 (g v 0) (g l3 0) fun v10 =>
 kP v10 <|
 .store v10 (G5 l7 0) <|
 pA (g l3 0) (iv 1) fun v11 =>
 pA (g l3 1) (iv 1) fun v12 =>
 .cont 10 C10 [v11,v12] (Es [[g v 0],[g v 1]])) (
 pA (g l3 1) (iv 1) fun v13 =>
 .cont 10 C10 [g l3 0,v13] (Es [[g v 0],[g v 1]]))) (
 .pure [] (.slc 5 true false false) [g v 0,g l3 0] fun v14 =>
 .prim (.bi .clear #[30] 0) [v14] [] [] (.tup []) fun l15 _ =>
 .pure [] (.slc 5 false true false) [g v 0,g l3 0] fun v16 =>
 .ret v16 []))
theorem ig (vs:List Value):aR PP Tryz.f113 (aF okL [(76,[5,6,7,8])] [(5,.inv [5,6] [0,1] [])] []) vs=cz vs:=by kernel_rfl
theorem ip {args vs} (ha:am PP Tryz.f113 args=some vs) (ho:Ones vs) {H O Q} (h:(cz vs).den PP Q H O):Triple PP cA args H O Q :=
 al mixed (an aB _ _ _) Tryz.func113 ig ha ho h
abbrev tQ:FuncId:=114
def tD (v:List Value):Tree :=
 .newbox fun r0 =>
 kN r0 <|
 pL (g v 3) (iv 0) fun v0 =>
 kN r0 <|
 kV v0 <|
 .load [(v0,true)] (g v 5) 1 fun l1 =>
 kV v0 <|
 kV v0 <|
 pE (g v 1) (g l1 0) fun v2 =>
 kV v0 <|
 pK v0 v2 (.bool false) fun v3 =>
 .ret v3 []
theorem Dt (vs:List Value):aR PP Tryz.f114 (aF okL [(76,[5,6,7,8])] [] []) vs=tD vs:=by kernel_rfl
theorem Em {args vs} (ha:am PP Tryz.f114 args=some vs) (ho:Ones vs) {H O Q} (h:(tD vs).den PP Q H O):Triple PP tQ args H O Q :=
 al mixed (an aB _ _ _) Tryz.func114 Dt ha ho h
abbrev bZ:FuncId:=115
def bW (v:List Value):Tree :=
 c1 146 [g v 0,g v 1] fun l0 =>
 pE (g l0 0) (iv (-1)) fun v1 =>
 .br v1 (
 .ret (g v 0) []) (
 pA (g l0 0) (iv 1) fun v2 =>
 .loop 10 5 [g l0 0,v2] fun C10 l3 =>
 pZ (g v 0) fun v4 =>
 pL (g l3 1) v4 fun v5 =>
 .br v5 (
 pI 2 (g v 0) (g l3 1) fun v6 =>
 .load [] v6 2 fun l7 =>
 .newbox fun r0 =>
 kN r0 <|
 kN r0 <|
 .callv false (g v 1) [.agg #[g l7 0,g l7 1]] [] [] .one fun l8 _ =>
 pO (g l8 0) fun v9 =>
 .br v9 (
 kN r0 <|
 pI 2 (g v 0) (g l3 0) fun v10 =>
 kP v10 <|
 .store v10 [g l7 0,g l7 1] <|
 pA (g l3 0) (iv 1) fun v11 =>
 pA (g l3 1) (iv 1) fun v12 =>
 .cont 10 C10 [v11,v12] (Es [[g v 0],[g v 1]])) (
 pA (g l3 1) (iv 1) fun v13 =>
 .cont 10 C10 [g l3 0,v13] (Es [[g v 0],[g v 1]]))) (
 .pure [] (.slc 2 true false false) [g v 0,g l3 0] fun v14 =>
 .prim (.bi .clear #[31] 0) [v14] [] [] (.tup []) fun l15 _ =>
 .pure [] (.slc 2 false true false) [g v 0,g l3 0] fun v16 =>
 .ret v16 []))
theorem gi (vs:List Value):aR PP Tryz.f115 (aF okL [(76,[5,6,7,8])] [(5,.inv [5,6] [0,1] [])] []) vs=bW vs:=by kernel_rfl
theorem gp {args vs} (ha:am PP Tryz.f115 args=some vs) (ho:Ones vs) {H O Q} (h:(bW vs).den PP Q H O):Triple PP bZ args H O Q :=
 al mixed (an aB _ _ _) Tryz.func115 gi ha ho h
abbrev oq:FuncId:=116
def tC (v:List Value):Tree :=
 .newbox fun r0 =>
 kN r0 <|
 .load [] (g v 2) 1 fun l0 =>
 pE (g v 0) (g l0 0) fun v1 =>
 kN r0 <|
 kV v1 <|
 .load [(v1,false)] (g v 2) 1 fun l2 =>
 kV v1 <|
 kV v1 <|
 pE (g v 1) (g l2 0) fun v3 =>
 kV v1 <|
 pK v1 (.bool true) v3 fun v4 =>
 .ret v4 []
theorem Ds (vs:List Value):aR PP Tryz.f116 (aF okL [(76,[5,6,7,8])] [] []) vs=tC vs:=by kernel_rfl
theorem Ek {args vs} (ha:am PP Tryz.f116 args=some vs) (ho:Ones vs) {H O Q} (h:(tC vs).den PP Q H O):Triple PP oq args H O Q :=
 al mixed (an aB _ _ _) Tryz.func116 Ds ha ho h
abbrev zV:FuncId:=117
def tp (v:List Value):Tree :=
 .newbox fun r0 =>
 .newbox fun r1 =>
 kN r0 <|
 kN r0 <|
 kN r0 <|
 kN r0 <|
 kN r1 <|
 kN r1 <|
 .ret (ag (G5 v 0++[iv 0,g v 6,iv 0,iv 0,g v 9,g v 10,g v 11])) []
theorem Dn (vs:List Value):aR PP Tryz.f117 (aF okL [(76,[5,6,7,8])] [] []) vs=tp vs:=by kernel_rfl
theorem Ee {args vs} (ha:am PP Tryz.f117 args=some vs) (ho:Ones vs) {H O Q} (h:(tp vs).den PP Q H O):Triple PP zV args H O Q :=
 al mixed (an aB _ _ _) Tryz.func117 Dn ha ho h
abbrev dC:FuncId:=118
def bX (v:List Value):Tree :=
 .newbox fun r0 =>
 kN r0 <|
 c1 147 [g v 0,.agg #[g v 1,g v 2]] fun l0 =>
 pH (g l0 0) (iv 0) fun v1 =>
 .ret v1 []
theorem gj (vs:List Value):aR PP Tryz.f118 (aF okL [(76,[5,6,7,8])] [] []) vs=bX vs:=by kernel_rfl
theorem gq {args vs} (ha:am PP Tryz.f118 args=some vs) (ho:Ones vs) {H O Q} (h:(bX vs).den PP Q H O):Triple PP dC args H O Q :=
 al mixed (an aB _ _ _) Tryz.func118 gj ha ho h
abbrev zT:FuncId:=119
def tf (v:List Value):Tree :=
 .newbox fun r0 =>
 pL (g v 39) (iv 0) fun v0 =>
 kV v0 <|
 pG (g v 39) (iv 1) fun v1 =>
 kV v0 <|
 pK v0 (.bool true) v1 fun v2 =>
 .br v2 (
 .ret (.slice none 0 0) []) (
 kN r0 <|
 c1 59 [ag (G38 v 1)] fun l3 =>
 pO (g l3 0) fun v4 =>
 .br v4 (
 .ret (.slice none 0 0) []) (
 kN r0 <|
 c1 148 [g v 0,ag (G38 v 1),g v 39,g v 40] fun l5 =>
 .ret (g l5 0) []))
theorem Dj (vs:List Value):aR PP Tryz.f119 (aF okL [(76,[5,6,7,8])] [] []) vs=tf vs:=by kernel_rfl
theorem Eb {args vs} (ha:am PP Tryz.f119 args=some vs) (ho:Ones vs) {H O Q} (h:(tf vs).den PP Q H O):Triple PP zT args H O Q :=
 al mixed (an aB _ _ _) Tryz.func119 Dj ha ho h
abbrev CE:FuncId:=120
def wm (v:List Value):Tree :=
 .newbox fun r0 =>
 .newbox fun r1 =>
 kN r0 <|
 cS 72 [ag (G38 v 0),g v 38] (.tup [none,none]) fun l0 =>
 pN (g l0 1) (iv 0) fun v1 =>
 .br v1 (
 kN r1 <|
 kN r1 <|
 .ret (.tuple #[ag Z3,g l0 1]) []) (
 kN r0 <|
 pI 12 (g v 0) (g l0 0) fun v2 =>
 .load [] v2 12 fun l3 =>
 kN r1 <|
 kN r1 <|
 .ret (.tuple #[ag (G12 l3 0),iv 0]) [])
theorem FV (vs:List Value):aR PP Tryz.f120 (aF okL [(76,[5,6,7,8])] [] []) vs=wm vs:=by kernel_rfl
theorem Gl {args vs} (ha:am PP Tryz.f120 args=some vs) (ho:Ones vs) {H O Q} (h:(wm vs).den PP Q H O):Triple PP CE args H O Q :=
 al mixed (an aB _ _ _) Tryz.func120 FV ha ho h
abbrev F6:FuncId:=121
def zS (r1001:Nat) (i1002:Int):Tree :=
 kN r1001 <|
 kN r1001 <|
 .ret (.tuple #[ag Z0,iv i1002]) []
def yK (v:List Value):Tree :=
 .newbox fun r0 =>
 .newbox fun r1 =>
 .newbox fun r2 =>
 kN r1 <|
 c1 142 [ag (G12 v 38)] fun l0 =>
 pO (g l0 0) fun v1 =>
 .br v1 (
 zS r2 2) (
 kN r0 <|
 kN r1 <|
 cS 72 [ag (G38 v 0),g v 38] (.tup [none,none]) fun l2 =>
 pN (g l2 1) (iv 0) fun v3 =>
 .br v3 (
 kN r2 <|
 kN r2 <|
 .ret (.tuple #[ag Z0,g l2 1]) []) (
 kN r0 <|
 pI 12 (g v 0) (g l2 0) fun v4 =>
 .load [] v4 12 fun l5 =>
 .newbox fun r3 =>
 kN r3 <|
 kN r3 <|
 kN r1 <|
 pN (g l5 1) (g v 39) fun v6 =>
 kN r3 <|
 kV v6 <|
 kN r1 <|
 kV v6 <|
 kV v6 <|
 kV v6 <|
 pN (g l5 2) (g v 40) fun v7 =>
 kV v6 <|
 pK v6 (.bool true) v7 fun v8 =>
 .br v8 (
 zS r2 8) (
 kN r0 <|
 cS 60 [ag (G38 v 0)] (.agg 38) fun l9 =>
 kN r0 <|
 kN r0 <|
 kN r1 <|
 pI 12 (g l9 0) (g l2 0) fun v10 =>
 kP v10 <|
 .store v10 (G12 v 38) <|
 kN r0 <|
 kN r2 <|
 kN r2 <|
 .ret (.tuple #[ag (G38 l9 0),iv 0]) [])))
theorem GF (vs:List Value):aR PP Tryz.f121 (aF okL [(76,[5,6,7,8])] [] []) vs=yK vs:=by kernel_rfl
theorem Ij {args vs} (ha:am PP Tryz.f121 args=some vs) (ho:Ones vs) {H O Q} (h:(yK vs).den PP Q H O):Triple PP F6 args H O Q :=
 al mixed (an aB _ _ _) Tryz.func121 GF ha ho h
abbrev tO:FuncId:=122
def oh (v:List Value):Tree :=
 .pure [] .max2 [iv 0,g v 0] fun v0 =>
 .pure [] .max2 [iv 0,g v 1] fun v1 =>
 c1 83 [v0,v1,iv 99] fun l2 =>
 .ret (g l2 0) []
theorem Dl (vs:List Value):aR PP Tryz.f122 (aF okL [(76,[5,6,7,8])] [] []) vs=oh vs:=by kernel_rfl
theorem vq {args vs} (ha:am PP Tryz.f122 args=some vs) (ho:Ones vs) {H O Q} (h:(oh vs).den PP Q H O):Triple PP tO args H O Q :=
 al mixed (an aB _ _ _) Tryz.func122 Dl ha ho h
abbrev FZ:FuncId:=123
def yz (v:List Value):Tree :=
 .pure [] .min2 [g v 0,g v 1] fun v0 =>
 .pure [] .max2 [iv 0,v0] fun v1 =>
 .ret v1 []
theorem Gy (vs:List Value):aR PP Tryz.f123 (aF okL [(76,[5,6,7,8])] [] []) vs=yz vs:=by kernel_rfl
theorem Ie {args vs} (ha:am PP Tryz.f123 args=some vs) (ho:Ones vs) {H O Q} (h:(yz vs).den PP Q H O):Triple PP FZ args H O Q :=
 al mixed (an aB _ _ _) Tryz.func123 Gy ha ho h
abbrev Bz:FuncId:=124
def wY (v:List Value):Tree :=
 pA (g v 0) (g v 1) fun v0 =>
 pG (g v 0) (iv 0) fun v1 =>
 kV v1 <|
 pG (g v 1) (iv 0) fun v2 =>
 kV v1 <|
 pK v1 v2 (.bool false) fun v3 =>
 kV v3 <|
 pM v0 (iv 0) fun v4 =>
 kV v3 <|
 pK v3 v4 (.bool false) fun v5 =>
 .br v5 (
 .ret (iv 9223372036854775807) []) (
 pL (g v 0) (iv 0) fun v6 =>
 kV v6 <|
 pL (g v 1) (iv 0) fun v7 =>
 kV v6 <|
 pK v6 v7 (.bool false) fun v8 =>
 kV v8 <|
 pH v0 (iv 0) fun v9 =>
 kV v8 <|
 pK v8 v9 (.bool false) fun v10 =>
 .br v10 (
 .ret (iv (-9223372036854775808)) []) (
 .ret v0 []))
theorem I2 (vs:List Value):aR PP Tryz.f124 (aF okL [(76,[5,6,7,8])] [] []) vs=wY vs:=by kernel_rfl
theorem BG {args vs} (ha:am PP Tryz.f124 args=some vs) (ho:Ones vs) {H O Q} (h:(wY vs).den PP Q H O):Triple PP Bz args H O Q :=
 al mixed (an aB _ _ _) Tryz.func124 I2 ha ho h
abbrev Ad:FuncId:=125
def tL (v:List Value):Tree :=
 .newbox fun r0 =>
 .newbox fun r1 =>
 .newbox fun r2 =>
 kN r0 <|
 kN r1 <|
 cS 72 [ag (G38 v 0),g v 38] (.tup [none,none]) fun l0 =>
 pN (g l0 1) (iv 0) fun v1 =>
 .br v1 (
 kN r2 <|
 kN r2 <|
 .ret (.tuple #[.agg #[iv 0,iv 0,iv 0],g l0 1]) []) (
 cS 76 [pt r0 1] (.agg 4) fun l2 =>
 kW (g l2 0) r0 6 <|
 kW (g l2 1) r0 7 <|
 kW (g l2 2) r0 8 <|
 kW (g l2 3) r0 9 <|
 kN r0 <|
 kN r1 <|
 c1 149 [g v 6,g v 38] fun l3 =>
 pH (g l3 0) (iv 0) fun v4 =>
 .br v4 (
 kN r2 <|
 kN r2 <|
 .ret (.tuple #[.agg #[iv 0,iv 0,g l3 0],iv 0]) []) (
 kN r0 <|
 kN r1 <|
 c1 149 [g v 7,g v 38] fun l5 =>
 pH (g l5 0) (iv 0) fun v6 =>
 .br v6 (
 kN r2 <|
 kN r2 <|
 .ret (.tuple #[.agg #[iv 0,iv 1,g l5 0],iv 0]) []) (
 kN r0 <|
 kN r1 <|
 c1 149 [g v 8,g v 38] fun l7 =>
 pH (g l7 0) (iv 0) fun v8 =>
 .br v8 (
 kN r2 <|
 kN r2 <|
 .ret (.tuple #[.agg #[iv 0,iv 2,g l7 0],iv 0]) []) (
 kN r0 <|
 kN r1 <|
 c1 149 [g v 9,g v 38] fun l9 =>
 pH (g l9 0) (iv 0) fun v10 =>
 .br v10 (
 kN r2 <|
 kN r2 <|
 .ret (.tuple #[.agg #[iv 0,iv 3,g l9 0],iv 0]) []) (
 cS 76 [pt r0 15] (.agg 4) fun l11 =>
 kW (g l11 0) r0 20 <|
 kW (g l11 1) r0 21 <|
 kW (g l11 2) r0 22 <|
 kW (g l11 3) r0 23 <|
 kN r0 <|
 kN r1 <|
 c1 149 [g v 20,g v 38] fun l12 =>
 pH (g l12 0) (iv 0) fun v13 =>
 .br v13 (
 kN r2 <|
 kN r2 <|
 .ret (.tuple #[.agg #[iv 1,iv 0,g l12 0],iv 0]) []) (
 kN r0 <|
 kN r1 <|
 c1 149 [g v 21,g v 38] fun l14 =>
 pH (g l14 0) (iv 0) fun v15 =>
 .br v15 (
 kN r2 <|
 kN r2 <|
 .ret (.tuple #[.agg #[iv 1,iv 1,g l14 0],iv 0]) []) (
 kN r0 <|
 kN r1 <|
 c1 149 [g v 22,g v 38] fun l16 =>
 pH (g l16 0) (iv 0) fun v17 =>
 .br v17 (
 kN r2 <|
 kN r2 <|
 .ret (.tuple #[.agg #[iv 1,iv 2,g l16 0],iv 0]) []) (
 kN r0 <|
 kN r1 <|
 c1 149 [g v 23,g v 38] fun l18 =>
 pH (g l18 0) (iv 0) fun v19 =>
 .br v19 (
 kN r2 <|
 kN r2 <|
 .ret (.tuple #[.agg #[iv 1,iv 3,g l18 0],iv 0]) []) (
 kN r0 <|
 .call false 137 [g v 29,.func (.func 150) #[] #[pt r1 0]] [] [⟨r1,3,[g v 38]⟩] .one fun l20 c20 =>
 kN r0 <|
 pI 5 (g v 29) (g l20 0) fun v21 =>
 kP v21 <|
 .load [] v21 1 fun l22 =>
 kN r2 <|
 kN r2 <|
 .ret (.tuple #[.agg #[g l22 0,iv 4,g l20 0],iv 0]) [])))))))))
theorem Dz (vs:List Value):aR PP Tryz.f125 (aF okL [(76,[5,6,7,8])] [(5,.unroll 3),(8,.unroll 5)] []) vs=tL vs:=by kernel_rfl
theorem Ew {args vs} (ha:am PP Tryz.f125 args=some vs) (ho:Ones vs) {H O Q} (h:(tL vs).den PP Q H O):Triple PP Ad args H O Q :=
 al mixed (an aB _ _ _) Tryz.func125 Dz ha ho h
abbrev F3:FuncId:=126
def yD (v:List Value):Tree :=
 pL (g v 0) (iv 1) fun v0 =>
 kV v0 <|
 pG (g v 0) (iv 4096) fun v1 =>
 kV v0 <|
 pK v0 (.bool true) v1 fun v2 =>
 .br v2 (
 .ret (.tuple #[.pointer none,iv 2]) []) (
 pA (g v 0) (iv 64) fun v3 =>
 pS v3 (iv 1) fun v4 =>
 .pure [] (.bin .quo .int) [v4,iv 64] fun v5 =>
 .prim (.makeSlice 204) [v5,v5] [] [] .one fun l6 _ =>
 .newbox fun r0 =>
 .ret (.tuple #[pt r0 0,iv 0]) [⟨r0,206,[g v 0,g l6 0]⟩])
theorem Gz (vs:List Value):aR PP Tryz.f126 (aF okL [(76,[5,6,7,8])] [] []) vs=yD vs:=by kernel_rfl
theorem If {args vs} (ha:am PP Tryz.f126 args=some vs) (ho:Ones vs) {H O Q} (h:(yD vs).den PP Q H O):Triple PP F3 args H O Q :=
 al mixed (an aB _ _ _) Tryz.func126 Gz ha ho h
abbrev rS:FuncId:=127
def mn (v:List Value):Tree :=
 cS 151 [g v 0,g v 1] (.tup [none,none,none]) fun l0 =>
 pN (g l0 2) (iv 0) fun v1 =>
 .br v1 (
 .ret (g l0 2) []) (
 kP (g l0 0) <|
 .load [] (g l0 0) 1 fun l2 =>
 .pure [] (.bin .and .int) [g l2 0,g l0 1] fun v3 =>
 pN v3 (.int .u64 0) fun v4 =>
 .br v4 (
 .ret (iv 11) []) (
 kP (g l0 0) <|
 .load [] (g l0 0) 1 fun l5 =>
 .pure [] (.bin .or .int) [g l5 0,g l0 1] fun v6 =>
 kP (g l0 0) <|
 kP (g l0 0) <|
 .store (g l0 0) [v6] <|
 .ret (iv 0) []))
theorem xn (vs:List Value):aR PP Tryz.f127 (aF okL [(76,[5,6,7,8])] [] []) vs=mn vs:=by kernel_rfl
theorem yg {args vs} (ha:am PP Tryz.f127 args=some vs) (ho:Ones vs) {H O Q} (h:(mn vs).den PP Q H O):Triple PP rS args H O Q :=
 al mixed (an aB _ _ _) Tryz.func127 xn ha ho h
abbrev ud:FuncId:=128
def nb (v:List Value):Tree :=
 c1 152 [g v 0] fun l0 =>
 .br (g l0 0) (
 .ret (.tuple #[iv 0,iv 1]) []) (
 kP (g v 0) <|
 kP (g v 0) <|
 .load [] (aU (g v 0) 1) 1 fun l1 =>
 pZ (g l1 0) fun v2 =>
 .loop 10 4 [iv 0] fun C10 l3 =>
 pL (g l3 0) v2 fun v4 =>
 .br v4 (
 pI 1 (g l1 0) (g l3 0) fun v5 =>
 .load [] v5 1 fun l6 =>
 .pure [] (.bin .mul .int) [iv 64,g l3 0] fun v7 =>
 .pure [] .compl [g l6 0] fun v8 =>
 c1 153 [v8] fun l9 =>
 pA v7 (g l9 0) fun v10 =>
 pA v10 (iv 1) fun v11 =>
 .pure [] .compl [g l6 0] fun v12 =>
 pN v12 (.int .u64 0) fun v13 =>
 .chk (.ptr [(v13,true)] (g v 0)) <|
 kV v13 <|
 .chk (.ptr [(v13,true)] (g v 0)) <|
 kV v13 <|
 kV v13 <|
 .load [(v13,true)] (g v 0) 1 fun l14 =>
 kV v13 <|
 kV v13 <|
 pM v11 (g l14 0) fun v15 =>
 kV v13 <|
 pK v13 v15 (.bool false) fun v16 =>
 .br v16 (
 kP (g v 0) <|
 kP (g v 0) <|
 .load [] (aU (g v 0) 1) 1 fun l17 =>
 pI 1 (g l17 0) (g l3 0) fun v18 =>
 .load [] v18 1 fun l19 =>
 pA (g l6 0) (.int .u64 1) fun v20 =>
 .pure [] (.bin .or .int) [g l19 0,v20] fun v21 =>
 pI 1 (g l17 0) (g l3 0) fun v22 =>
 kP v22 <|
 .store v22 [v21] <|
 .ret (.tuple #[v11,iv 0]) []) (
 pA (g l3 0) (iv 1) fun v23 =>
 .cont 10 C10 [v23] (Es [[g v 0],[g l1 0],[v2]]))) (
 .ret (.tuple #[iv 0,iv 7]) []))
theorem yF (vs:List Value):aR PP Tryz.f128 (aF okL [(76,[5,6,7,8])] [(4,.inv [14] [0,12,13] [])] []) vs=nb vs:=by kernel_rfl
theorem y3 {args vs} (ha:am PP Tryz.f128 args=some vs) (ho:Ones vs) {H O Q} (h:(nb vs).den PP Q H O):Triple PP ud args H O Q :=
 al mixed (an aB _ _ _) Tryz.func128 yF ha ho h
abbrev xW:FuncId:=129
def qJ (v:List Value):Tree :=
 .newbox fun r0 =>
 c1 122 [iv 0,g v 2] fun l0 =>
 c1 122 [iv 0,g v 3] fun l1 =>
 kN r0 <|
 kN r0 <|
 .ret (.agg #[g v 0,iv (-1),g v 1,g l0 0,g l1 0,iv 0,iv 0,iv 0,iv 0,.bool false,.bool false,.bool false]) []
theorem Bn (vs:List Value):aR PP Tryz.f129 (aF okL [(76,[5,6,7,8])] [] []) vs=qJ vs:=by kernel_rfl
theorem CN {args vs} (ha:am PP Tryz.f129 args=some vs) (ho:Ones vs) {H O Q} (h:(qJ vs).den PP Q H O):Triple PP xW args H O Q :=
 al mixed (an aB _ _ _) Tryz.func129 Bn ha ho h
abbrev dS:FuncId:=130
def cw (v:List Value):Tree :=
 .pure [] (.slc 12 true false false) [g v 0,g v 1] fun v0 =>
 pZ (g v 2) fun v1 =>
 pE v1 (iv 0) fun v2 =>
 .br v2 (
 .ret (g v 0) []) (
 pZ (g v 0) fun v3 =>
 pE (g v 1) v3 fun v4 =>
 .br v4 (
 .prim (.bi .append #[23,23] 23) [g v 0,g v 2] [] [] .one fun l5 _ =>
 .ret (g l5 0) []) (
 pA v3 v1 fun v6 =>
 .pure [] .cap [g v 0] fun v7 =>
 pG v6 v7 fun v8 =>
 .br v8 (
 .pure [] (.slc 12 false true false) [g v 0,g v 1] fun v9 =>
 pA v3 v1 fun v10 =>
 pS v10 (g v 1) fun v11 =>
 .prim (.bi .append #[23,3] 23) [v9,v11] [] [] .one fun l12 _ =>
 .pure [] (.slc 12 true false false) [g l12 0,g v 1] fun v13 =>
 .prim (.bi .copy #[23,23] 3) [v13,g v 2] [] [] .one fun l14 _ =>
 pA (g v 1) v1 fun v15 =>
 .pure [] (.slc 12 true false false) [g l12 0,v15] fun v16 =>
 .pure [] (.slc 12 true false false) [g v 0,g v 1] fun v17 =>
 .prim (.bi .copy #[23,23] 3) [v16,v17] [] [] .one fun l18 _ =>
 .ret (g l12 0) []) (
 pA v3 v1 fun v19 =>
 .pure [] (.slc 12 false true false) [g v 0,v19] fun v20 =>
 pA (g v 1) v1 fun v21 =>
 .pure [] (.slc 12 true false false) [v20,v21] fun v22 =>
 .prim (.intr 154) [g v 2,v22] [] [] .one fun l23 _ =>
 pO (g l23 0) fun v24 =>
 .br v24 (
 pA (g v 1) v1 fun v25 =>
 .pure [] (.slc 12 true false false) [v20,v25] fun v26 =>
 .pure [] (.slc 12 true false false) [v20,g v 1] fun v27 =>
 .prim (.bi .copy #[23,23] 3) [v26,v27] [] [] .one fun l28 _ =>
 .pure [] (.slc 12 true false false) [v20,g v 1] fun v29 =>
 .prim (.bi .copy #[23,23] 3) [v29,g v 2] [] [] .one fun l30 _ =>
 .ret v20 []) (
 .pure [] (.slc 12 true false false) [v20,v3] fun v31 =>
 .prim (.bi .copy #[23,23] 3) [v31,g v 2] [] [] .one fun l32 _ =>
 .pure [] (.slc 12 true false false) [v20,g v 1] fun v33 =>
 cS 155 [v33,v1] (.tup []) fun l34 =>
 .ret v20 []))))
theorem ie (vs:List Value):aR PP Tryz.f130 (aF okL [(76,[5,6,7,8])] [] []) vs=cw vs:=by kernel_rfl
theorem io {args vs} (ha:am PP Tryz.f130 args=some vs) (ho:Ones vs) {H O Q} (h:(cw vs).den PP Q H O):Triple PP dS args H O Q :=
 al mixed (an aB _ _ _) Tryz.func130 ie ha ho h
abbrev rQ:FuncId:=131
def mj (v:List Value):Tree :=
 .newbox fun r0 =>
 kN r0 <|
 pE (g v 2) (iv (-1)) fun v0 =>
 .br v0 (
 .ret (.bool true) []) (
 kN r0 <|
 cS 71 [g v 0,ag (G12 v 1)] (.agg 14) fun l1 =>
 pE (g l1 1) (iv 2) fun v2 =>
 .ret v2 [])
theorem xl (vs:List Value):aR PP Tryz.f131 (aF okL [(76,[5,6,7,8])] [] []) vs=mj vs:=by kernel_rfl
theorem ye {args vs} (ha:am PP Tryz.f131 args=some vs) (ho:Ones vs) {H O Q} (h:(mj vs).den PP Q H O):Triple PP rQ args H O Q :=
 al mixed (an aB _ _ _) Tryz.func131 xl ha ho h
abbrev cK:FuncId:=132
def fg (v:List Value):Tree :=
 c1 149 [g v 0,g v 1] fun l0 =>
 pH (g l0 0) (iv 0) fun v1 =>
 .ret v1 []
theorem og (vs:List Value):aR PP Tryz.f132 (aF okL [(76,[5,6,7,8])] [] []) vs=fg vs:=by kernel_rfl
theorem oG {args vs} (ha:am PP Tryz.f132 args=some vs) (ho:Ones vs) {H O Q} (h:(fg vs).den PP Q H O):Triple PP cK args H O Q :=
 al mixed (an aB _ _ _) Tryz.func132 og ha ho h
abbrev zW:FuncId:=133
def tq (v:List Value):Tree :=
 .newbox fun r0 =>
 .newbox fun r1 =>
 kN r0 <|
 kN r0 <|
 c1 122 [g v 7,g v 12] fun l0 =>
 c1 122 [g v 8,g v 13] fun l1 =>
 kN r0 <|
 kN r0 <|
 kN r0 <|
 kN r1 <|
 kN r1 <|
 .ret (ag (G7 v 0++[g l0 0,g l1 0,g v 9,g v 10,g v 11])) []
theorem Do (vs:List Value):aR PP Tryz.f133 (aF okL [(76,[5,6,7,8])] [] []) vs=tq vs:=by kernel_rfl
theorem Eg {args vs} (ha:am PP Tryz.f133 args=some vs) (ho:Ones vs) {H O Q} (h:(tq vs).den PP Q H O):Triple PP zW args H O Q :=
 al mixed (an aB _ _ _) Tryz.func133 Do ha ho h
abbrev xY:FuncId:=134
def qL (v:List Value):Tree :=
 .newbox fun r0 =>
 .newbox fun r1 =>
 kN r0 <|
 c1 122 [g v 6,g v 12] fun l0 =>
 kN r0 <|
 kN r0 <|
 kN r1 <|
 kN r1 <|
 .ret (ag (G6 v 0++((g l0 0)::G5 v 7))) []
theorem Bq (vs:List Value):aR PP Tryz.f134 (aF okL [(76,[5,6,7,8])] [] []) vs=qL vs:=by kernel_rfl
theorem CP {args vs} (ha:am PP Tryz.f134 args=some vs) (ho:Ones vs) {H O Q} (h:(qL vs).den PP Q H O):Triple PP xY args H O Q :=
 al mixed (an aB _ _ _) Tryz.func134 Bq ha ho h
abbrev nE:FuncId:=135
def jv (v:List Value):Tree :=
 pH (g v 0) (iv 0) fun v0 =>
 kV v0 <|
 pM (g v 0) (iv 99) fun v1 =>
 kV v0 <|
 pK v0 v1 (.bool false) fun v2 =>
 .ret v2 []
theorem sZ (vs:List Value):aR PP Tryz.f135 (aF okL [(76,[5,6,7,8])] [] []) vs=jv vs:=by kernel_rfl
theorem uu {args vs} (ha:am PP Tryz.f135 args=some vs) (ho:Ones vs) {H O Q} (h:(jv vs).den PP Q H O):Triple PP nE args H O Q :=
 al mixed (an aB _ _ _) Tryz.func135 sZ ha ho h
end Go.Proofs.YtdhobpmnkfmcfaaGreatDoor
