/- The trees of the functions of this seat: printed by a tool of mine; each by the kernel's reckoning equal to the evaluator's. -/
import Derived.Test.YtdhobpmnkfmcfaaGreatDoorBT4
namespace Go.Proofs.YtdhobpmnkfmcfaaGreatDoor
open Go Go.Sx
set_option maxRecDepth 100000
abbrev ot:FuncId:=58
def mg (l1017:List Value) (C1018:List Value→Heap→Own→Prop) (l1019 l1020:List Value) (r1021 r1022:Nat) (l1023 l1024 l1025 l1026 l1027 l1028 l1029 l1030 l1031:List Value):Tree :=
 pA (g l1017 1) (iv 1) fun v18 =>
 .cont 108 C1018 [g l1019 0,v18] (Es [[g l1020 38],[pt r1021 0],[pt r1022 0],((pt r1021 0)::(G6 l1023 0++((g l1024 0)::((g l1025 0)::((g l1026 0)::((g l1027 0)::(G10 l1023 10++((g l1028 0)::((g l1029 0)::((g l1030 0)::((g l1031 0)::G14 l1023 24))))))))))),[pt r1022 0,.slice none 0 0,iv 0,iv 0,iv 0,iv 0,iv 0,.slice none 0 0,.slice none 0 0,.slice none 0 0,.slice none 0 0,.bool false,.bool false,.bool false,iv 0,iv 0,iv 0,iv 0,iv 0,iv 0,iv 0,.slice none 0 0,.slice none 0 0,.slice none 0 0,.slice none 0 0,.bool false,.bool false,.bool false,iv 0,iv 0,.slice none 0 0,.slice none 0 0,.slice none 0 0,.slice none 0 0,iv 0,iv 0,iv 0,iv 0,iv 0]])
def mh (l1001:List Value) (C1002:List Value→Heap→Own→Prop) (l1003 l1004:List Value) (r1005 r1006:Nat) (l1007 l1008 l1009 l1010 l1011 l1012 l1013 l1014 l1015 l1016:List Value):Tree :=
 pA (g l1001 1) (iv 1) fun v29 =>
 .cont 116 C1002 [g l1003 0,v29] (Es [[g l1004 38],[pt r1005 0],[pt r1006 0],[g l1007 0],((pt r1005 0)::(G6 l1008 0++((g l1009 0)::((g l1010 0)::((g l1011 0)::((g l1012 0)::(G10 l1008 10++((g l1013 0)::((g l1014 0)::((g l1015 0)::((g l1016 0)::G14 l1008 24))))))))))),[pt r1006 0,.slice none 0 0,iv 0,iv 0,iv 0,iv 0,iv 0,.slice none 0 0,.slice none 0 0,.slice none 0 0,.slice none 0 0,.bool false,.bool false,.bool false,iv 0,iv 0,iv 0,iv 0,iv 0,iv 0,iv 0,.slice none 0 0,.slice none 0 0,.slice none 0 0,.slice none 0 0,.bool false,.bool false,.bool false,iv 0,iv 0,.slice none 0 0,.slice none 0 0,.slice none 0 0,.slice none 0 0,iv 0,iv 0,iv 0,iv 0,iv 0]])
def kh (v:List Value):Tree :=
 .newbox fun r0 =>
 .newbox fun r1 =>
 kN r0 <|
 cS 14 [ag (G38 v 0)] (.agg 38) fun l0 =>
 kN r0 <|
 kN r0 <|
 kN r0 <|
 kN r0 <|
 kN r0 <|
 c1 94 [g l0 6,g v 38] fun l1 =>
 c1 94 [g l0 7,g v 38] fun l2 =>
 c1 94 [g l0 8,g v 38] fun l3 =>
 c1 94 [g l0 9,g v 38] fun l4 =>
 kN r0 <|
 kN r0 <|
 kN r0 <|
 kN r0 <|
 kN r0 <|
 kN r0 <|
 kN r0 <|
 kN r0 <|
 c1 94 [g l0 20,g v 38] fun l5 =>
 c1 94 [g l0 21,g v 38] fun l6 =>
 c1 94 [g l0 22,g v 38] fun l7 =>
 c1 94 [g l0 23,g v 38] fun l8 =>
 kN r0 <|
 kN r0 <|
 kN r0 <|
 kN r0 <|
 .loop 108 9 [.slice none 0 0,iv 0] fun C108 l9 =>
 kN r0 <|
 pZ (g l0 29) fun v10 =>
 pL (g l9 1) v10 fun v11 =>
 .br v11 (
 kN r0 <|
 pI 5 (g l0 29) (g l9 1) fun v12 =>
 .load [] v12 5 fun l13 =>
 .newbox fun r2 =>
 kN r2 <|
 kN r2 <|
 pN (g l13 3) (iv (-1)) fun v14 =>
 kN r2 <|
 kV v14 <|
 kV v14 <|
 kV v14 <|
 pN (g l13 1) (g v 38) fun v15 =>
 kV v14 <|
 pK v14 (.bool true) v15 fun v16 =>
 .br v16 (
 kN r2 <|
 .newbox fun r3 =>
 .prim (.bi .append #[30,30] 30) [g l9 0,.slice (some ⟨r3,0,none⟩) 1 1] [⟨r3,56,(G5 l13 0)⟩] [] .one fun l17 _ =>
 mg l9 C108 l17 v r0 r1 l0 l1 l2 l3 l4 l5 l6 l7 l8) (
 mg l9 C108 l9 v r0 r1 l0 l1 l2 l3 l4 l5 l6 l7 l8)) (
 .loop 116 16 [.slice none 0 0,iv 0] fun C116 l20 =>
 kN r0 <|
 pZ (g l0 32) fun v21 =>
 pL (g l20 1) v21 fun v22 =>
 .br v22 (
 kN r0 <|
 pI 2 (g l0 32) (g l20 1) fun v23 =>
 .load [] v23 2 fun l24 =>
 .newbox fun r4 =>
 kN r4 <|
 kN r4 <|
 pN (g l24 0) (g v 38) fun v25 =>
 kN r4 <|
 kV v25 <|
 kV v25 <|
 kV v25 <|
 pN (g l24 1) (g v 38) fun v26 =>
 kV v25 <|
 pK v25 v26 (.bool false) fun v27 =>
 .br v27 (
 kN r4 <|
 .newbox fun r5 =>
 .prim (.bi .append #[31,31] 31) [g l20 0,.slice (some ⟨r5,0,none⟩) 1 1] [⟨r5,122,[g l24 0,g l24 1]⟩] [] .one fun l28 _ =>
 mh l20 C116 l28 v r0 r1 l9 l0 l1 l2 l3 l4 l5 l6 l7 l8) (
 mh l20 C116 l20 v r0 r1 l9 l0 l1 l2 l3 l4 l5 l6 l7 l8)) (
 kN r0 <|
 c1 94 [g l0 31,g v 38] fun l31 =>
 kN r0 <|
 kN r0 <|
 kN r0 <|
 kN r0 <|
 kN r1 <|
 kN r1 <|
 .ret (ag (G6 l0 0++((g l1 0)::((g l2 0)::((g l3 0)::((g l4 0)::(G10 l0 10++((g l5 0)::((g l6 0)::((g l7 0)::((g l8 0)::(G5 l0 24++((g l9 0)::((g l0 30)::((g l31 0)::((g l20 0)::G5 l0 33)))))))))))))))) []))
theorem un (vs:List Value):aQ PP Tryz.f58 (aB okL [(76,[5,6,7,8])] [(3,.unroll 3),(9,.inv [7,8] [1,2,4] [(2,[]),(4,[])]),(16,.inv [10,11] [1,2,4,7] [(2,[]),(4,[])])] []) vs=kh vs:=by kernel_rfl
theorem vd {args vs} (ha:am PP Tryz.f58 args=some vs) (ho:Ones vs) {H O Q} (h:(kh vs).den PP Q H O):Triple PP ot args H O Q :=
 al mixed (an ay _ _ _) Tryz.func58 un ha ho h
abbrev yD:FuncId:=59
def rS (v:List Value):Tree :=
 .newbox fun r0 =>
 kN r0 <|
 c1 73 [g v 34,iv 0,iv 1] fun l0 =>
 pO (g l0 0) fun v1 =>
 .br v1 (
 .ret (.bool false) []) (
 kN r0 <|
 c1 73 [g v 33,iv 0,iv 1000] fun l2 =>
 pO (g l2 0) fun v3 =>
 .br v3 (
 .ret (.bool false) []) (
 kN r0 <|
 c1 73 [g v 35,iv 0,iv 10] fun l4 =>
 pO (g l4 0) fun v5 =>
 .br v5 (
 .ret (.bool false) []) (
 kN r0 <|
 c1 73 [g v 36,iv (-1),iv 1] fun l6 =>
 pO (g l6 0) fun v7 =>
 .br v7 (
 .ret (.bool false) []) (
 kN r0 <|
 c1 73 [g v 37,iv 0,iv 2] fun l8 =>
 pO (g l8 0) fun v9 =>
 kN r0 <|
 kV v9 <|
 kV v9 <|
 pZ (g v 0) fun v10 =>
 kV v9 <|
 pG v10 (iv 500) fun v11 =>
 kV v9 <|
 pK v9 (.bool true) v11 fun v12 =>
 kN r0 <|
 kV v12 <|
 kV v12 <|
 pZ (g v 29) fun v13 =>
 kV v12 <|
 pG v13 (iv 200) fun v14 =>
 kV v12 <|
 pK v12 (.bool true) v14 fun v15 =>
 kN r0 <|
 kV v15 <|
 kV v15 <|
 pZ (g v 30) fun v16 =>
 kV v15 <|
 pG v16 (iv 200) fun v17 =>
 kV v15 <|
 pK v15 (.bool true) v17 fun v18 =>
 .br v18 (
 .ret (.bool false) []) (
 kN r0 <|
 .newbox fun r1 =>
 kN r1 <|
 kN r1 <|
 c1 73 [g v 1,iv 0,iv 9999] fun l19 =>
 pO (g l19 0) fun v20 =>
 .br v20 (
 .ret (.bool false) []) (
 kN r1 <|
 c1 95 [ag (G4 v 2)] fun l21 =>
 pO (g l21 0) fun v22 =>
 .br v22 (
 .ret (.bool false) []) (
 kN r1 <|
 c1 73 [g v 13,iv 0,iv 7] fun l23 =>
 pO (g l23 0) fun v24 =>
 .br v24 (
 .ret (.bool false) []) (
 kN r1 <|
 c1 73 [g v 14,iv 0,iv 255] fun l25 =>
 pO (g l25 0) fun v26 =>
 .br v26 (
 .ret (.bool false) []) (
 .newbox fun r2 =>
 kN r2 <|
 kN r2 <|
 c1 73 [g v 15,iv 0,iv 9999] fun l27 =>
 pO (g l27 0) fun v28 =>
 .br v28 (
 .ret (.bool false) []) (
 kN r2 <|
 c1 95 [ag (G4 v 16)] fun l29 =>
 pO (g l29 0) fun v30 =>
 .br v30 (
 .ret (.bool false) []) (
 kN r2 <|
 c1 73 [g v 27,iv 0,iv 7] fun l31 =>
 pO (g l31 0) fun v32 =>
 .br v32 (
 .ret (.bool false) []) (
 kN r2 <|
 c1 73 [g v 28,iv 0,iv 255] fun l33 =>
 pO (g l33 0) fun v34 =>
 .br v34 (
 .ret (.bool false) []) (
 kN r0 <|
 c1 96 [g v 29,.func (.func 97) #[] #[]] fun l35 =>
 .br (g l35 0) (
 .ret (.bool false) []) (
 kN r0 <|
 c1 96 [g v 30,.func (.func 99) #[] #[]] fun l36 =>
 pO (g l36 0) fun v37 =>
 .br v37 (
 kN r0 <|
 c1 100 [ag (G38 v 0)] fun l38 =>
 .br (g l38 0) (
 kN r0 <|
 c1 101 [ag (G38 v 0)] fun l39 =>
 .ret (g l39 0) []) (
 .ret (.bool false) [])) (
 .ret (.bool false) [])))))))))))))))
theorem Bv (vs:List Value):aQ PP Tryz.f59 (aB okL [(76,[5,6,7,8])] [(4,.unroll 3)] []) vs=rS vs:=by kernel_rfl
theorem CB {args vs} (ha:am PP Tryz.f59 args=some vs) (ho:Ones vs) {H O Q} (h:(rS vs).den PP Q H O):Triple PP yD args H O Q :=
 al mixed (an ay _ _ _) Tryz.func59 Bv ha ho h
abbrev uQ:FuncId:=60
def uD (v:List Value):Tree :=
 .newbox fun r0 =>
 .newbox fun r1 =>
 kN r0 <|
 kN r0 <|
 kN r0 <|
 c1 102 [g v 0] fun l0 =>
 c1 103 [g v 31] fun l1 =>
 c1 104 [g v 32] fun l2 =>
 kN r0 <|
 kN r0 <|
 kN r0 <|
 kN r0 <|
 kN r0 <|
 c1 105 [g v 29] fun l3 =>
 c1 105 [g v 30] fun l4 =>
 kN r0 <|
 kN r0 <|
 cS 76 [pt r0 1] (.agg 4) fun l5 =>
 kW (g l5 0) r0 6 <|
 kW (g l5 1) r0 7 <|
 kW (g l5 2) r0 8 <|
 kW (g l5 3) r0 9 <|
 kN r0 <|
 c1 103 [g v 6] fun l6 =>
 kN r0 <|
 kN r0 <|
 c1 103 [g v 7] fun l7 =>
 kN r0 <|
 kN r0 <|
 c1 103 [g v 8] fun l8 =>
 kN r0 <|
 kN r0 <|
 c1 103 [g v 9] fun l9 =>
 kN r0 <|
 cS 76 [pt r0 15] (.agg 4) fun l10 =>
 kW (g l10 0) r0 20 <|
 kW (g l10 1) r0 21 <|
 kW (g l10 2) r0 22 <|
 kW (g l10 3) r0 23 <|
 kN r0 <|
 c1 103 [g v 20] fun l11 =>
 kN r0 <|
 kN r0 <|
 c1 103 [g v 21] fun l12 =>
 kN r0 <|
 kN r0 <|
 c1 103 [g v 22] fun l13 =>
 kN r0 <|
 kN r0 <|
 c1 103 [g v 23] fun l14 =>
 kN r0 <|
 kN r0 <|
 kN r1 <|
 kN r1 <|
 .ret (ag ((g l0 0)::(G5 v 1++((g l6 0)::((g l7 0)::((g l8 0)::((g l9 0)::(G10 v 10++((g l11 0)::((g l12 0)::((g l13 0)::((g l14 0)::(G5 v 24++((g l3 0)::((g l4 0)::((g l1 0)::((g l2 0)::G5 v 33))))))))))))))))) []
theorem Ej (vs:List Value):aQ PP Tryz.f60 (aB okL [(76,[5,6,7,8])] [(4,.unroll 3),(7,.unroll 5)] []) vs=uD vs:=by kernel_rfl
theorem EJ {args vs} (ha:am PP Tryz.f60 args=some vs) (ho:Ones vs) {H O Q} (h:(uD vs).den PP Q H O):Triple PP uQ args H O Q :=
 al mixed (an ay _ _ _) Tryz.func60 Ej ha ho h
abbrev mn:FuncId:=61
def iH (v:List Value):Tree :=
 pZ (g v 0) fun v0 =>
 pZ (g v 1) fun v1 =>
 pN v0 v1 fun v2 =>
 .br v2 (
 .ret (.bool false) []) (
 .loop 7 4 [iv 0] fun C7 l3 =>
 pZ (g v 0) fun v4 =>
 pL (g l3 0) v4 fun v5 =>
 .br v5 (
 pI 5 (g v 0) (g l3 0) fun v6 =>
 .load [] v6 5 fun l7 =>
 pI 5 (g v 1) (g l3 0) fun v8 =>
 .load [] v8 5 fun l9 =>
 c1 18 [ag (G5 l7 0),ag (G5 l9 0)] fun l10 =>
 pO (g l10 0) fun v11 =>
 .br v11 (
 .ret (.bool false) []) (
 pA (g l3 0) (iv 1) fun v12 =>
 .cont 7 C7 [v12] (Es [[g v 0],[g v 1]]))) (
 .ret (.bool true) []))
theorem rj (vs:List Value):aQ PP Tryz.f61 (aB okL [(76,[5,6,7,8])] [(4,.inv [5] [0,1] [])] []) vs=iH vs:=by kernel_rfl
theorem sq {args vs} (ha:am PP Tryz.f61 args=some vs) (ho:Ones vs) {H O Q} (h:(iH vs).den PP Q H O):Triple PP mn args H O Q :=
 al mixed (an ay _ _ _) Tryz.func61 rj ha ho h
abbrev kD:FuncId:=67
def fu (v:List Value):Tree :=
 .newbox fun r0 =>
 kN r0 <|
 pE (g v 2) (iv (-1)) fun v0 =>
 .br v0 (
 .ret (.bool true) []) (
 kN r0 <|
 cS 50 [g v 0,ag (G12 v 1)] (.agg 14) fun l1 =>
 pE (g l1 1) (iv 2) fun v2 =>
 .ret v2 [])
theorem nV (vs:List Value):aQ PP Tryz.f67 (aB okL [(76,[5,6,7,8])] [] []) vs=fu vs:=by kernel_rfl
theorem oz {args vs} (ha:am PP Tryz.f67 args=some vs) (ho:Ones vs) {H O Q} (h:(fu vs).den PP Q H O):Triple PP kD args H O Q :=
 al mixed (an ay _ _ _) Tryz.func67 nV ha ho h
abbrev mj:FuncId:=68
def iF (v:List Value):Tree :=
 .loop 3 3 [.slice none 0 0,iv 0] fun C3 l0 =>
 pZ (g v 0) fun v1 =>
 pL (g l0 1) v1 fun v2 =>
 .br v2 (
 pI 5 (g v 0) (g l0 1) fun v3 =>
 kP v3 <|
 .load [] (be v3 1) 1 fun l4 =>
 pN (g l4 0) (iv 0) fun v5 =>
 .br v5 (
 pI 5 (g v 0) (g l0 1) fun v6 =>
 kP v6 <|
 .load [] (be v6 1) 1 fun l7 =>
 .newbox fun r0 =>
 .prim (.bi .append #[131,131] 131) [g l0 0,.slice (some ⟨r0,0,none⟩) 1 1] [⟨r0,36,[g l7 0]⟩] [] .one fun l8 _ =>
 pA (g l0 1) (iv 1) fun v9 =>
 .cont 3 C3 [g l8 0,v9] (Es [[g v 0]])) (
 pA (g l0 1) (iv 1) fun v10 =>
 .cont 3 C3 [g l0 0,v10] (Es [[g v 0]]))) (
 .ret (g l0 0) [])
theorem rf (vs:List Value):aQ PP Tryz.f68 (aB okL [(76,[5,6,7,8])] [(3,.inv [3,4] [0] [])] []) vs=iF vs:=by kernel_rfl
theorem sn {args vs} (ha:am PP Tryz.f68 args=some vs) (ho:Ones vs) {H O Q} (h:(iF vs).den PP Q H O):Triple PP mj args H O Q :=
 al mixed (an ay _ _ _) Tryz.func68 rf ha ho h
abbrev vK:FuncId:=69
def oU (v:List Value):Tree :=
 pZ (g v 0) fun v0 =>
 .loop 5 3 [.slice none 0 0,iv 0] fun C5 l1 =>
 pL (g l1 1) v0 fun v2 =>
 .br v2 (
 pI 5 (g v 0) (g l1 1) fun v3 =>
 .load [] v3 5 fun l4 =>
 .newbox fun r0 =>
 kN r0 <|
 kN r0 <|
 pN (g l4 1) (iv 0) fun v5 =>
 .br v5 (
 kN r0 <|
 .newbox fun r1 =>
 .prim (.bi .append #[131,131] 131) [g l1 0,.slice (some ⟨r1,0,none⟩) 1 1] [⟨r1,36,[g l4 1]⟩] [] .one fun l6 _ =>
 pA (g l1 1) (iv 1) fun v7 =>
 .cont 5 C5 [g l6 0,v7] (Es [[g v 0],[v0]])) (
 pA (g l1 1) (iv 1) fun v8 =>
 .cont 5 C5 [g l1 0,v8] (Es [[g v 0],[v0]]))) (
 .ret (g l1 0) [])
theorem zn (vs:List Value):aQ PP Tryz.f69 (aB okL [(76,[5,6,7,8])] [(3,.inv [3,8] [6,7] [])] []) vs=oU vs:=by kernel_rfl
theorem AB {args vs} (ha:am PP Tryz.f69 args=some vs) (ho:Ones vs) {H O Q} (h:(oU vs).den PP Q H O):Triple PP vK args H O Q :=
 al mixed (an ay _ _ _) Tryz.func69 zn ha ho h
abbrev wS:FuncId:=70
def rJ (v:List Value):Tree :=
 .newbox fun r0 =>
 .newbox fun r1 =>
 kN r0 <|
 kN r0 <|
 c1 107 [g v 11] fun l0 =>
 c1 108 [g v 12] fun l1 =>
 kN r0 <|
 kN r0 <|
 kN r0 <|
 pZ (g l1 0) fun v2 =>
 .loop 16 3 [iv 0] fun C16 l3 =>
 pL (g l3 0) v2 fun v4 =>
 .br v4 (
 pI 2 (g l1 0) (g l3 0) fun v5 =>
 .load [] v5 2 fun l6 =>
 .newbox fun r2 =>
 kN r2 <|
 kN r0 <|
 kN r2 <|
 c1 107 [g l6 1] fun l7 =>
 pI 2 (g l1 0) (g l3 0) fun v8 =>
 kP v8 <|
 kP (be v8 1) <|
 .store (be v8 1) [g l7 0] <|
 pA (g l3 0) (iv 1) fun v9 =>
 .cont 16 C16 [v9] (Es [[pt r0 0],[pt r1 0],[g l1 0],[v2],((pt r0 0)::(G11 v 0++[g l0 0,g l1 0,g v 13])),[pt r1 0,.string ⟨#[]⟩,iv 0,iv 0,iv 0,iv 0,iv 0,iv 0,iv 0,iv 0,iv 0,iv 0,.slice none 0 0,.slice none 0 0,iv 0]])) (
 kN r0 <|
 kN r1 <|
 kN r1 <|
 .ret (ag (G11 v 0++[g l0 0,g l1 0,g v 13])) [])
theorem EV (vs:List Value):aQ PP Tryz.f70 (aB okL [(76,[5,6,7,8])] [(3,.inv [16] [1,2,14,15] [(1,[]),(2,[])])] []) vs=rJ vs:=by kernel_rfl
theorem xj {args vs} (ha:am PP Tryz.f70 args=some vs) (ho:Ones vs) {H O Q} (h:(rJ vs).den PP Q H O):Triple PP wS args H O Q :=
 al mixed (an ay _ _ _) Tryz.func70 EV ha ho h
abbrev mU:FuncId:=71
def km (v:List Value):Tree :=
 .newbox fun r0 =>
 .newbox fun r1 =>
 kN r0 <|
 pL (g v 2) (iv 0) fun v0 =>
 kN r0 <|
 kV v0 <|
 kV v0 <|
 pZ (g v 0) fun v1 =>
 kV v0 <|
 kV v0 <|
 pH (g v 2) v1 fun v2 =>
 kV v0 <|
 pK v0 (.bool true) v2 fun v3 =>
 .br v3 (
 kN r1 <|
 kN r1 <|
 .ret (ag Z2) []) (
 kN r0 <|
 pI 14 (g v 0) (g v 2) fun v4 =>
 .load [] v4 14 fun l5 =>
 kN r1 <|
 kN r1 <|
 .ret (ag (G14 l5 0)) [])
theorem Bc (vs:List Value):aQ PP Tryz.f71 (aB okL [(76,[5,6,7,8])] [] []) vs=km vs:=by kernel_rfl
theorem nh {args vs} (ha:am PP Tryz.f71 args=some vs) (ho:Ones vs) {H O Q} (h:(km vs).den PP Q H O):Triple PP mU args H O Q :=
 al mixed (an ay _ _ _) Tryz.func71 Bc ha ho h
abbrev yA:FuncId:=72
def rP (v:List Value):Tree :=
 .newbox fun r0 =>
 kN r0 <|
 c1 59 [ag (G38 v 0)] fun l0 =>
 pO (g l0 0) fun v1 =>
 .br v1 (
 .ret (.tuple #[iv 0,iv 2]) []) (
 kN r0 <|
 cS 109 [g v 0,g v 38,.func (.func 110) #[] #[]] (.tup [none,none]) fun l2 =>
 pO (g l2 1) fun v3 =>
 .br v3 (
 .ret (.tuple #[iv 0,iv 9]) []) (
 .ret (.tuple #[g l2 0,iv 0]) []))
theorem Bq (vs:List Value):aQ PP Tryz.f72 (aB okL [(76,[5,6,7,8])] [] []) vs=rP vs:=by kernel_rfl
theorem Ci {args vs} (ha:am PP Tryz.f72 args=some vs) (ho:Ones vs) {H O Q} (h:(rP vs).den PP Q H O):Triple PP yA args H O Q :=
 al mixed (an ay _ _ _) Tryz.func72 Bq ha ho h
abbrev vR:FuncId:=73
def pd (v:List Value):Tree :=
 pH (g v 0) (g v 1) fun v0 =>
 kV v0 <|
 kV v0 <|
 pM (g v 0) (g v 2) fun v1 =>
 kV v0 <|
 pK v0 v1 (.bool false) fun v2 =>
 .ret v2 []
theorem zw (vs:List Value):aQ PP Tryz.f73 (aB okL [(76,[5,6,7,8])] [] []) vs=pd vs:=by kernel_rfl
theorem AK {args vs} (ha:am PP Tryz.f73 args=some vs) (ho:Ones vs) {H O Q} (h:(pd vs).den PP Q H O):Triple PP vR args H O Q :=
 al mixed (an ay _ _ _) Tryz.func73 zw ha ho h
abbrev Et:FuncId:=74
def wP (v:List Value):Tree :=
 .newbox fun r0 =>
 .newbox fun r1 =>
 .newbox fun r2 =>
 kN r0 <|
 cS 60 [ag (G38 v 0)] (.agg 38) fun l0 =>
 kN r0 <|
 cS 76 [pt r0 1] (.agg 4) fun l1 =>
 kW (g l1 0) r0 6 <|
 kW (g l1 1) r0 7 <|
 kW (g l1 2) r0 8 <|
 kW (g l1 3) r0 9 <|
 kN r0 <|
 .call false 112 [g l0 6,.func (.func 111) #[] #[pt r1 0]] [] [⟨r1,3,[g v 38]⟩] .one fun l2 c2 =>
 kN r0 <|
 kN r0 <|
 .call false 112 [g l0 7,.func (.func 111) #[] #[pt r1 0]] [] [⟨r1,3,[g (gd c2 0) 0]⟩] .one fun l3 c3 =>
 kN r0 <|
 kN r0 <|
 .call false 112 [g l0 8,.func (.func 111) #[] #[pt r1 0]] [] [⟨r1,3,[g (gd c3 0) 0]⟩] .one fun l4 c4 =>
 kN r0 <|
 kN r0 <|
 .call false 112 [g l0 9,.func (.func 111) #[] #[pt r1 0]] [] [⟨r1,3,[g (gd c4 0) 0]⟩] .one fun l5 c5 =>
 kN r0 <|
 cS 76 [pt r0 15] (.agg 4) fun l6 =>
 kW (g l6 0) r0 20 <|
 kW (g l6 1) r0 21 <|
 kW (g l6 2) r0 22 <|
 kW (g l6 3) r0 23 <|
 kN r0 <|
 .call false 112 [g l0 20,.func (.func 111) #[] #[pt r1 0]] [] [⟨r1,3,[g (gd c5 0) 0]⟩] .one fun l7 c7 =>
 kN r0 <|
 kN r0 <|
 .call false 112 [g l0 21,.func (.func 111) #[] #[pt r1 0]] [] [⟨r1,3,[g (gd c7 0) 0]⟩] .one fun l8 c8 =>
 kN r0 <|
 kN r0 <|
 .call false 112 [g l0 22,.func (.func 111) #[] #[pt r1 0]] [] [⟨r1,3,[g (gd c8 0) 0]⟩] .one fun l9 c9 =>
 kN r0 <|
 kN r0 <|
 .call false 112 [g l0 23,.func (.func 111) #[] #[pt r1 0]] [] [⟨r1,3,[g (gd c9 0) 0]⟩] .one fun l10 c10 =>
 kN r0 <|
 kN r0 <|
 .call false 113 [g l0 29,.func (.func 114) #[] #[pt r1 0]] [] [⟨r1,3,[g (gd c10 0) 0]⟩] .one fun l11 c11 =>
 kN r0 <|
 kN r0 <|
 .call false 112 [g l0 31,.func (.func 111) #[] #[pt r1 0]] [] [⟨r1,3,[g (gd c11 0) 0]⟩] .one fun l12 c12 =>
 kN r0 <|
 kN r0 <|
 .call false 115 [g l0 32,.func (.func 116) #[] #[pt r1 0]] [] [⟨r1,3,[g (gd c12 0) 0]⟩] .one fun l13 c13 =>
 kN r0 <|
 kN r0 <|
 kN r2 <|
 kN r2 <|
 .ret (ag (G6 l0 0++((g l2 0)::((g l3 0)::((g l4 0)::((g l5 0)::(G10 l0 10++((g l7 0)::((g l8 0)::((g l9 0)::((g l10 0)::(G5 l0 24++((g l11 0)::((g l0 30)::((g l12 0)::((g l13 0)::G5 l0 33)))))))))))))))) []
theorem EW (vs:List Value):aQ PP Tryz.f74 (aB okL [(76,[5,6,7,8])] [(4,.unroll 3),(7,.unroll 5)] []) vs=wP vs:=by kernel_rfl
theorem Gm {args vs} (ha:am PP Tryz.f74 args=some vs) (ho:Ones vs) {H O Q} (h:(wP vs).den PP Q H O):Triple PP Et args H O Q :=
 al mixed (an ay _ _ _) Tryz.func74 EW ha ho h
abbrev vO:FuncId:=75
def o6 (v:List Value):Tree :=
 .newbox fun r0 =>
 .newbox fun r1 =>
 kN r0 <|
 cS 117 [ag (G12 v 0)] (.agg 12) fun l0 =>
 .newbox fun r2 =>
 kN r2 <|
 pE (g v 12) (iv 2) fun v1 =>
 kN r2 <|
 kN r2 <|
 kN r2 <|
 kN r2 <|
 kN r2 <|
 kN r1 <|
 kN r1 <|
 .ret (ag (G6 l0 0++[iv 0,g l0 7,g l0 8,.bool false,v1,.bool false])) []
theorem zr (vs:List Value):aQ PP Tryz.f75 (aB okL [(76,[5,6,7,8])] [] []) vs=o6 vs:=by kernel_rfl
theorem AG {args vs} (ha:am PP Tryz.f75 args=some vs) (ho:Ones vs) {H O Q} (h:(o6 vs).den PP Q H O):Triple PP vO args H O Q :=
 al mixed (an ay _ _ _) Tryz.func75 zr ha ho h
abbrev yy:FuncId:=76
def rN (v:List Value):Tree :=
 .newbox fun r0 =>
 kP (g v 0) <|
 kP (g v 0) <|
 kP (g v 0) <|
 kP (g v 0) <|
 kP (g v 0) <|
 kP (g v 0) <|
 kP (g v 0) <|
 kP (g v 0) <|
 kN r0 <|
 kN r0 <|
 .ret (.agg #[be (g v 0) 5,be (g v 0) 6,be (g v 0) 7,be (g v 0) 8]) []
theorem Bn (vs:List Value):aQ PP Tryz.f76 (aB okL [(76,[5,6,7,8])] [] []) vs=rN vs:=by kernel_rfl
theorem Ce {args vs} (ha:am PP Tryz.f76 args=some vs) (ho:Ones vs) {H O Q} (h:(rN vs).den PP Q H O):Triple PP yy args H O Q :=
 al mixed (an ay _ _ _) Tryz.func76 Bn ha ho h
abbrev vL:FuncId:=77
def oV (v:List Value):Tree :=
 .newbox fun r0 =>
 .newbox fun r1 =>
 kN r0 <|
 kN r1 <|
 c1 119 [g v 0,ag (G38 v 1),g v 39,g v 40] fun l0 =>
 c1 118 [g l0 0,.agg #[g v 41,g v 42]] fun l1 =>
 .ret (g l1 0) []
theorem zo (vs:List Value):aQ PP Tryz.f77 (aB okL [(76,[5,6,7,8])] [] []) vs=oV vs:=by kernel_rfl
theorem AC {args vs} (ha:am PP Tryz.f77 args=some vs) (ho:Ones vs) {H O Q} (h:(oV vs).den PP Q H O):Triple PP vL args H O Q :=
 al mixed (an ay _ _ _) Tryz.func77 zo ha ho h
abbrev sd:FuncId:=78
def lV (v:List Value):Tree :=
 .newbox fun r0 =>
 .newbox fun r1 =>
 kN r0 <|
 cS 120 [ag (G38 v 0),g v 38] (.tup [some 12,none]) fun l0 =>
 .newbox fun r2 =>
 kN r2 <|
 kN r0 <|
 kN r2 <|
 .callv false (g v 39) [ag (G12 l0 0)] [] [] (.agg 12) fun l1 _ =>
 cS 121 [ag (G38 v 0),ag (G12 l1 0)] (.tup [some 38,none]) fun l2 =>
 .newbox fun r3 =>
 kN r3 <|
 pN (g l2 38) (iv 0) fun v3 =>
 .br v3 (
 kN r0 <|
 kN r1 <|
 kN r1 <|
 .ret (ag (G38 v 0)) []) (
 kN r3 <|
 kN r1 <|
 kN r1 <|
 .ret (ag (G38 l2 0)) [])
theorem wy (vs:List Value):aQ PP Tryz.f78 (aB okL [(76,[5,6,7,8])] [] []) vs=lV vs:=by kernel_rfl
theorem xe {args vs} (ha:am PP Tryz.f78 args=some vs) (ho:Ones vs) {H O Q} (h:(lV vs).den PP Q H O):Triple PP sd args H O Q :=
 al mixed (an ay _ _ _) Tryz.func78 wy ha ho h
abbrev kE:FuncId:=79
def kl (v:List Value):Tree :=
 .newbox fun r0 =>
 .newbox fun r1 =>
 kN r0 <|
 kP (g v 12) <|
 .load [] (be (g v 12) 2) 1 fun l0 =>
 cS 80 [ag (G12 v 0),g l0 0] (.agg 12) fun l1 =>
 kN r1 <|
 kN r1 <|
 .ret (ag (G12 l1 0)) []
theorem uv (vs:List Value):aQ PP Tryz.f79 (aB okL [(76,[5,6,7,8])] [] []) vs=kl vs:=by kernel_rfl
theorem vj {args vs} (ha:am PP Tryz.f79 args=some vs) (ho:Ones vs) {H O Q} (h:(kl vs).den PP Q H O):Triple PP kE args H O Q :=
 al mixed (an ay _ _ _) Tryz.func79 uv ha ho h
abbrev Aq:FuncId:=80
def uw (v:List Value):Tree :=
 .newbox fun r0 =>
 .newbox fun r1 =>
 kN r0 <|
 c1 122 [g v 5,g v 12] fun l0 =>
 kN r0 <|
 kN r0 <|
 kN r1 <|
 kN r1 <|
 .ret (ag (G5 v 0++((g l0 0)::G6 v 6))) []
theorem Ec (vs:List Value):aQ PP Tryz.f80 (aB okL [(76,[5,6,7,8])] [] []) vs=uw vs:=by kernel_rfl
theorem ED {args vs} (ha:am PP Tryz.f80 args=some vs) (ho:Ones vs) {H O Q} (h:(uw vs).den PP Q H O):Triple PP Aq args H O Q :=
 al mixed (an ay _ _ _) Tryz.func80 Ec ha ho h
abbrev Jg:FuncId:=81
def D9 (v:List Value):Tree :=
 pE (g v 1) (iv (-9223372036854775808)) fun v0 =>
 .br v0 (
 c1 124 [g v 0,iv 1] fun l1 =>
 c1 124 [g l1 0,iv 9223372036854775807] fun l2 =>
 c1 123 [g l2 0,g v 2] fun l3 =>
 .ret (g l3 0) []) (
 .pure [] .neg [g v 1] fun v4 =>
 c1 83 [g v 0,v4,g v 2] fun l5 =>
 .ret (g l5 0) [])
theorem Jc (vs:List Value):aQ PP Tryz.f81 (aB okL [(76,[5,6,7,8])] [] []) vs=D9 vs:=by kernel_rfl
theorem Jq {args vs} (ha:am PP Tryz.f81 args=some vs) (ho:Ones vs) {H O Q} (h:(D9 vs).den PP Q H O):Triple PP Jg args H O Q :=
 al mixed (an ay _ _ _) Tryz.func81 Jc ha ho h
abbrev Az:FuncId:=82
def vH (r1005:Nat):Tree :=
 kN r1005 <|
 kN r1005 <|
 .ret (.tuple #[ag Z0,iv 2]) []
def vI (r1001 r1002:Nat) (l1003 l1004:List Value):Tree :=
 kN r1001 <|
 kN r1002 <|
 kN r1002 <|
 .ret (.tuple #[ag (G6 l1003 0++((g l1004 1)::((g l1004 2)::(G12 l1003 8++((g l1004 3)::((g l1004 4)::G16 l1003 22)))))),iv 0]) []
def uC (v:List Value):Tree :=
 .newbox fun r0 =>
 .newbox fun r1 =>
 kN r0 <|
 c1 59 [ag (G38 v 0)] fun l0 =>
 pO (g l0 0) fun v1 =>
 .br v1 (
 vH r1) (
 c1 73 [g v 38,iv 0,iv 1] fun l2 =>
 pO (g l2 0) fun v3 =>
 kV v3 <|
 pL (g v 39) (iv 0) fun v4 =>
 kV v3 <|
 pK v3 (.bool true) v4 fun v5 =>
 .br v5 (
 vH r1) (
 kN r0 <|
 cS 60 [ag (G38 v 0)] (.agg 38) fun l6 =>
 kN r0 <|
 .sw (g v 38) 0 (
 .loop 22 5 [g v 39,g l6 6,g l6 7,g l6 20,g l6 21] fun C22 l7 =>
 pG (g l7 0) (iv 0) fun v8 =>
 .br v8 (
 kN r0 <|
 pZ (g l7 1) fun v9 =>
 pE v9 (iv 0) fun v10 =>
 .br v10 (
 kN r0 <|
 kN r0 <|
 kN r1 <|
 kN r1 <|
 .ret (.tuple #[ag (G6 l6 0++((g l7 1)::((g l7 2)::((g l6 8)::((g l6 9)::((.bool true)::(G9 l6 11++((g l7 3)::((g l7 4)::G16 l6 22))))))))),iv 0]) []) (
 kN r0 <|
 pS v9 (iv 1) fun v11 =>
 pI 1 (g l7 1) v11 fun v12 =>
 .load [] v12 1 fun l13 =>
 kN r0 <|
 pS v9 (iv 1) fun v14 =>
 .pure [] (.slc 1 false true false) [g l7 1,v14] fun v15 =>
 kN r0 <|
 .newbox fun r2 =>
 .prim (.bi .append #[26,26] 26) [g l7 2,.slice (some ⟨r2,0,none⟩) 1 1] [⟨r2,3,[g l13 0]⟩] [] .one fun l16 _ =>
 kN r0 <|
 kN r0 <|
 kN r0 <|
 cS 72 [ag (G6 l6 0++(v15::((g l16 0)::(G12 l6 8++((g l7 3)::((g l7 4)::G16 l6 22)))))),g l13 0] (.tup [none,none]) fun l17 =>
 kN r0 <|
 kN r0 <|
 pI 12 (g l6 0) (g l17 0) fun v18 =>
 .load [] v18 12 fun l19 =>
 cS 75 [ag (G12 l19 0),iv 1] (.agg 12) fun l20 =>
 pI 12 (g l6 0) (g l17 0) fun v21 =>
 kP v21 <|
 .store v21 (G12 l20 0) <|
 pS (g l7 0) (iv 1) fun v22 =>
 .cont 22 C22 [v22,v15,g l16 0,g l7 3,g l7 4] (Es [[pt r0 0],[pt r1 0],[pt r0 1],((pt r0 0)::(G6 l6 0++((.tuple #[])::((.tuple #[])::(G12 l6 8++((.tuple #[])::((.tuple #[])::G16 l6 22))))))),[pt r1 0,.slice none 0 0,iv 0,iv 0,iv 0,iv 0,iv 0,.slice none 0 0,.slice none 0 0,.slice none 0 0,.slice none 0 0,.bool false,.bool false,.bool false,iv 0,iv 0,iv 0,iv 0,iv 0,iv 0,iv 0,.slice none 0 0,.slice none 0 0,.slice none 0 0,.slice none 0 0,.bool false,.bool false,.bool false,iv 0,iv 0,.slice none 0 0,.slice none 0 0,.slice none 0 0,.slice none 0 0,iv 0,iv 0,iv 0,iv 0,iv 0]]))) (
 vI r0 r1 l6 l7)) (
 .sw (g v 38) 1 (
 .loop 22 5 [g v 39,g l6 6,g l6 7,g l6 20,g l6 21] fun C22 l23 =>
 pG (g l23 0) (iv 0) fun v24 =>
 .br v24 (
 kN r0 <|
 pZ (g l23 3) fun v25 =>
 pE v25 (iv 0) fun v26 =>
 .br v26 (
 kN r0 <|
 kN r0 <|
 kN r1 <|
 kN r1 <|
 .ret (.tuple #[ag (G6 l6 0++((g l23 1)::((g l23 2)::(G12 l6 8++((g l23 3)::((g l23 4)::((g l6 22)::((g l6 23)::((.bool true)::G13 l6 25))))))))),iv 0]) []) (
 kN r0 <|
 pS v25 (iv 1) fun v27 =>
 pI 1 (g l23 3) v27 fun v28 =>
 .load [] v28 1 fun l29 =>
 kN r0 <|
 pS v25 (iv 1) fun v30 =>
 .pure [] (.slc 1 false true false) [g l23 3,v30] fun v31 =>
 kN r0 <|
 .newbox fun r3 =>
 .prim (.bi .append #[26,26] 26) [g l23 4,.slice (some ⟨r3,0,none⟩) 1 1] [⟨r3,3,[g l29 0]⟩] [] .one fun l32 _ =>
 kN r0 <|
 kN r0 <|
 kN r0 <|
 cS 72 [ag (G6 l6 0++((g l23 1)::((g l23 2)::(G12 l6 8++(v31::((g l32 0)::G16 l6 22)))))),g l29 0] (.tup [none,none]) fun l33 =>
 kN r0 <|
 kN r0 <|
 pI 12 (g l6 0) (g l33 0) fun v34 =>
 .load [] v34 12 fun l35 =>
 cS 75 [ag (G12 l35 0),iv 1] (.agg 12) fun l36 =>
 pI 12 (g l6 0) (g l33 0) fun v37 =>
 kP v37 <|
 .store v37 (G12 l36 0) <|
 pS (g l23 0) (iv 1) fun v38 =>
 .cont 22 C22 [v38,g l23 1,g l23 2,v31,g l32 0] (Es [[pt r0 0],[pt r1 0],[pt r0 15],((pt r0 0)::(G6 l6 0++((.tuple #[])::((.tuple #[])::(G12 l6 8++((.tuple #[])::((.tuple #[])::G16 l6 22))))))),[pt r1 0,.slice none 0 0,iv 0,iv 0,iv 0,iv 0,iv 0,.slice none 0 0,.slice none 0 0,.slice none 0 0,.slice none 0 0,.bool false,.bool false,.bool false,iv 0,iv 0,iv 0,iv 0,iv 0,iv 0,iv 0,.slice none 0 0,.slice none 0 0,.slice none 0 0,.slice none 0 0,.bool false,.bool false,.bool false,iv 0,iv 0,.slice none 0 0,.slice none 0 0,.slice none 0 0,.slice none 0 0,iv 0,iv 0,iv 0,iv 0,iv 0]]))) (
 vI r0 r1 l6 l23)) (
 .stuck 901))))
theorem Ei (vs:List Value):aQ PP Tryz.f82 (aB okL [(76,[5,6,7,8])] [(5,.inv [2] [3,6,8] [(3,[6,7,20,21]),(6,[])])] []) vs=uC vs:=by kernel_rfl
theorem EI {args vs} (ha:am PP Tryz.f82 args=some vs) (ho:Ones vs) {H O Q} (h:(uC vs).den PP Q H O):Triple PP Az args H O Q :=
 al mixed (an ay _ _ _) Tryz.func82 Ei ha ho h
abbrev En:FuncId:=83
def yh (v:List Value):Tree :=
 c1 124 [g v 0,g v 1] fun l0 =>
 c1 123 [g l0 0,g v 2] fun l1 =>
 .ret (g l1 0) []
theorem Jd (vs:List Value):aQ PP Tryz.f83 (aB okL [(76,[5,6,7,8])] [] []) vs=yh vs:=by kernel_rfl
theorem BX {args vs} (ha:am PP Tryz.f83 args=some vs) (ho:Ones vs) {H O Q} (h:(yh vs).den PP Q H O):Triple PP En args H O Q :=
 al mixed (an ay _ _ _) Tryz.func83 Jd ha ho h
abbrev uK:FuncId:=84
def nD (v:List Value):Tree :=
 .newbox fun r0 =>
 .newbox fun r1 =>
 kN r0 <|
 cS 125 [ag (G38 v 0),g v 38] (.tup [some 3,none]) fun l0 =>
 .newbox fun r2 =>
 kN r2 <|
 pE (g l0 3) (iv 2) fun v1 =>
 .br v1 (
 kN r1 <|
 kN r1 <|
 .ret (.tuple #[ag Z0,g l0 3]) []) (
 pN (g l0 3) (iv 0) fun v2 =>
 kN r2 <|
 kV v2 <|
 kV v2 <|
 pN (g l0 1) (iv 4) fun v3 =>
 kV v2 <|
 pK v2 (.bool true) v3 fun v4 =>
 .br v4 (
 kN r1 <|
 kN r1 <|
 .ret (.tuple #[ag Z0,iv 9]) []) (
 kN r0 <|
 cS 42 [ag (G38 v 0),g v 38,iv 3] (.tup [some 38,none]) fun l5 =>
 kN r1 <|
 kN r1 <|
 .ret (.tuple #[ag (G38 l5 0),g l5 38]) []))
theorem yg (vs:List Value):aQ PP Tryz.f84 (aB okL [(76,[5,6,7,8])] [] []) vs=nD vs:=by kernel_rfl
theorem yO {args vs} (ha:am PP Tryz.f84 args=some vs) (ho:Ones vs) {H O Q} (h:(nD vs).den PP Q H O):Triple PP uK args H O Q :=
 al mixed (an ay _ _ _) Tryz.func84 yg ha ho h
abbrev yE:FuncId:=85
def uI (r1001 r1002:Nat) (l1003 l1004 l1005:List Value) (n1006:Nat) (l1007:List Value) (n1008:Nat) (l1009:List Value):Tree :=
 kN r1001 <|
 kN r1001 <|
 kN r1002 <|
 kN r1002 <|
 .ret (.tuple #[ag ((g l1003 0)::(G7 l1004 1++((g l1005 n1006)::(G13 l1004 9++((g l1007 n1008)::G15 l1004 23))))),g l1009 0,iv 0]) []
def uF (r1014:Nat) (l1015:List Value) (n1016:Nat) (l1017 l1018:List Value) (r1019:Nat) (l1020:List Value):Tree :=
 kN r1014 <|
 .newbox fun r5 =>
 .prim (.bi .append #[26,26] 26) [g l1015 n1016,.slice (some ⟨r5,0,none⟩) 1 1] [⟨r5,3,[g l1017 0]⟩] [] .one fun l20 _ =>
 .sw (g l1018 38) 0 (
 uI r1014 r1019 l1020 l1015 l20 0 l1015 22 l1017) (
 .sw (g l1018 38) 1 (
 uI r1014 r1019 l1020 l1015 l1015 8 l20 0 l1017) (
 .stuck 901))
def uG (r1013:Nat):Tree :=
 kN r1013 <|
 kN r1013 <|
 .ret (.tuple #[ag Z0,iv 0,iv 2]) []
def uH (r1010 r1011:Nat) (l1012:List Value):Tree :=
 kN r1010 <|
 kN r1011 <|
 kN r1011 <|
 .ret (.tuple #[ag (G38 l1012 0),iv 0,iv 0]) []
def rT (v:List Value):Tree :=
 .newbox fun r0 =>
 .newbox fun r1 =>
 kN r0 <|
 c1 59 [ag (G38 v 0)] fun l0 =>
 pO (g l0 0) fun v1 =>
 .br v1 (
 uG r1) (
 c1 73 [g v 38,iv 0,iv 1] fun l2 =>
 pO (g l2 0) fun v3 =>
 .br v3 (
 uG r1) (
 kN r0 <|
 cS 60 [ag (G38 v 0)] (.agg 38) fun l4 =>
 kN r0 <|
 kN r0 <|
 pZ (g l4 0) fun v5 =>
 pH v5 (g v 41) fun v6 =>
 .br v6 (
 uH r0 r1 l4) (
 cS 126 [iv 500] (.tup [none,none]) fun l7 =>
 kN r0 <|
 pZ (g l4 0) fun v8 =>
 .loop 30 8 [iv 0] fun C30 l9 =>
 pL (g l9 0) v8 fun v10 =>
 .br v10 (
 pI 12 (g l4 0) (g l9 0) fun v11 =>
 .load [] v11 12 fun l12 =>
 .newbox fun r2 =>
 kN r2 <|
 kN r2 <|
 c1 127 [g l7 0,g l12 0] fun l13 =>
 pA (g l9 0) (iv 1) fun v14 =>
 .cont 30 C30 [v14] (Es [[g v 38],[g v 39],[g v 40],[pt r0 0],[pt r1 0],[g l7 0],[g l4 0],[v8],((pt r0 0)::G38 l4 0),[pt r1 0,.slice none 0 0,iv 0,iv 0,iv 0,iv 0,iv 0,.slice none 0 0,.slice none 0 0,.slice none 0 0,.slice none 0 0,.bool false,.bool false,.bool false,iv 0,iv 0,iv 0,iv 0,iv 0,iv 0,iv 0,.slice none 0 0,.slice none 0 0,.slice none 0 0,.slice none 0 0,.bool false,.bool false,.bool false,iv 0,iv 0,.slice none 0 0,.slice none 0 0,.slice none 0 0,.slice none 0 0,iv 0,iv 0,iv 0,iv 0,iv 0]])) (
 cS 128 [g l7 0] (.tup [none,none]) fun l15 =>
 pN (g l15 1) (iv 0) fun v16 =>
 .br v16 (
 uH r0 r1 l4) (
 cS 129 [g l15 0,g v 38,g v 39,g v 40] (.agg 12) fun l17 =>
 .newbox fun r3 =>
 kN r3 <|
 kN r3 <|
 kN r0 <|
 pS (g l15 0) (iv 1) fun v18 =>
 kN r3 <|
 .newbox fun r4 =>
 .call false 130 [g l4 0,v18,.slice (some ⟨r4,0,none⟩) 1 1] [⟨r4,82,(G10 l17 0++[.bool true,g l17 11])⟩] [] .one fun l19 _ =>
 kN r0 <|
 .sw (g v 38) 0 (
 uF r0 l4 8 l15 v r1 l19) (
 .sw (g v 38) 1 (
 uF r0 l4 22 l15 v r1 l19) (
 .stuck 901)))))))
theorem Bw (vs:List Value):aQ PP Tryz.f85 (aB okL [(76,[5,6,7,8])] [(8,.inv [44] [1,2,3,5,10,13,42,43] [(5,[]),(10,[])])] []) vs=rT vs:=by kernel_rfl
theorem CE {args vs} (ha:am PP Tryz.f85 args=some vs) (ho:Ones vs) {H O Q} (h:(rT vs).den PP Q H O):Triple PP yE args H O Q :=
 al mixed (an ay _ _ _) Tryz.func85 Bw ha ho h
abbrev Ap:FuncId:=86
def ut (v:List Value):Tree :=
 .newbox fun r0 =>
 kN r0 <|
 cS 120 [ag (G38 v 1),g v 39] (.tup [some 12,none]) fun l0 =>
 .newbox fun r1 =>
 kN r1 <|
 pE (g l0 12) (iv 0) fun v1 =>
 .br v1 (
 kN r1 <|
 c1 131 [g v 0,ag (G12 l0 0)] fun l2 =>
 .br (g l2 0) (
 kN r1 <|
 .sw (g l0 2) 0 (
 kN r0 <|
 c1 132 [g v 9,g v 39] fun l3 =>
 .ret (g l3 0) []) (
 .sw (g l0 2) 1 (
 kN r0 <|
 c1 132 [g v 23,g v 39] fun l4 =>
 .ret (g l4 0) []) (
 .stuck 901))) (
 .ret (.bool false) [])) (
 .ret (.bool false) [])
theorem Eb (vs:List Value):aQ PP Tryz.f86 (aB okL [(76,[5,6,7,8])] [] []) vs=ut vs:=by kernel_rfl
theorem EC {args vs} (ha:am PP Tryz.f86 args=some vs) (ho:Ones vs) {H O Q} (h:(ut vs).den PP Q H O):Triple PP Ap args H O Q :=
 al mixed (an ay _ _ _) Tryz.func86 Eb ha ho h
abbrev ov:FuncId:=87
def kj (v:List Value):Tree :=
 .newbox fun r0 =>
 .newbox fun r1 =>
 kN r0 <|
 .load [] (g v 12) 5 fun l0 =>
 cS 88 [ag (G12 v 0),ag (G5 l0 0)] (.agg 12) fun l1 =>
 kN r1 <|
 kN r1 <|
 .ret (ag (G12 l1 0)) []
theorem uu (vs:List Value):aQ PP Tryz.f87 (aB okL [(76,[5,6,7,8])] [] []) vs=kj vs:=by kernel_rfl
theorem vi {args vs} (ha:am PP Tryz.f87 args=some vs) (ho:Ones vs) {H O Q} (h:(kj vs).den PP Q H O):Triple PP ov args H O Q :=
 al mixed (an ay _ _ _) Tryz.func87 uu ha ho h
abbrev ql:FuncId:=88
def nK (r1001:Nat) (l1002:List Value):Tree :=
 kN r1001 <|
 kN r1001 <|
 .ret (ag (G12 l1002 0)) []
def lh (v:List Value):Tree :=
 .newbox fun r0 =>
 .newbox fun r1 =>
 .newbox fun r2 =>
 kN r1 <|
 pE (g v 12) (iv 5) fun v0 =>
 .br v0 (
 kN r0 <|
 kN r0 <|
 kN r2 <|
 kN r2 <|
 .ret (ag (G11 v 0++[.bool true])) []) (
 pE (g v 12) (iv 11) fun v1 =>
 .br v1 (
 kN r0 <|
 kN r0 <|
 kN r2 <|
 kN r2 <|
 .ret (ag (G9 v 0++[.bool true,g v 10,g v 11])) []) (
 pE (g v 12) (iv 8) fun v2 =>
 .br v2 (
 kN r0 <|
 kN r1 <|
 kN r1 <|
 cS 133 [ag (G12 v 0),g v 14,g v 15] (.agg 12) fun l3 =>
 nK r2 l3) (
 pE (g v 12) (iv 9) fun v4 =>
 .br v4 (
 kN r0 <|
 kN r1 <|
 cS 134 [ag (G12 v 0),g v 14] (.agg 12) fun l5 =>
 nK r2 l5) (
 kN r0 <|
 kN r2 <|
 kN r2 <|
 .ret (ag (G12 v 0)) []))))
theorem vm (vs:List Value):aQ PP Tryz.f88 (aB okL [(76,[5,6,7,8])] [] []) vs=lh vs:=by kernel_rfl
theorem vW {args vs} (ha:am PP Tryz.f88 args=some vs) (ho:Ones vs) {H O Q} (h:(lh vs).den PP Q H O):Triple PP ql args H O Q :=
 al mixed (an ay _ _ _) Tryz.func88 vm ha ho h
abbrev my:FuncId:=89
def iN (v:List Value):Tree :=
 .newbox fun r0 =>
 kN r0 <|
 pL (g v 0) (iv 1) fun v0 =>
 kN r0 <|
 kV v0 <|
 kV v0 <|
 pG (g v 0) (iv 500) fun v1 =>
 kV v0 <|
 pK v0 (.bool true) v1 fun v2 =>
 kN r0 <|
 kV v2 <|
 kV v2 <|
 pL (g v 1) (iv (-1)) fun v3 =>
 kV v2 <|
 pK v2 (.bool true) v3 fun v4 =>
 kN r0 <|
 kV v4 <|
 kV v4 <|
 pG (g v 1) (iv 399) fun v5 =>
 kV v4 <|
 pK v4 (.bool true) v5 fun v6 =>
 kN r0 <|
 kV v6 <|
 kV v6 <|
 pL (g v 2) (iv 0) fun v7 =>
 kV v6 <|
 pK v6 (.bool true) v7 fun v8 =>
 kN r0 <|
 kV v8 <|
 kV v8 <|
 pG (g v 2) (iv 1) fun v9 =>
 kV v8 <|
 pK v8 (.bool true) v9 fun v10 =>
 .br v10 (
 .ret (.bool false) []) (
 kN r0 <|
 pH (g v 1) (iv 0) fun v11 =>
 kN r0 <|
 kV v11 <|
 kV v11 <|
 pN (g v 3) (iv 0) fun v12 =>
 kV v11 <|
 kN r0 <|
 kV v12 <|
 kV v11 <|
 kV v12 <|
 kV v11 <|
 pN (g v 4) (iv 0) fun v13 =>
 kV v11 <|
 kV v12 <|
 kV v11 <|
 pK v12 (.bool true) v13 fun v14 =>
 kV v11 <|
 pK v11 v14 (.bool false) fun v15 =>
 .br v15 (
 .ret (.bool false) []) (
 kN r0 <|
 c1 135 [g v 3] fun l16 =>
 .br (g l16 0) (
 kN r0 <|
 c1 135 [g v 4] fun l17 =>
 .br (g l17 0) (
 kN r0 <|
 c1 135 [g v 5] fun l18 =>
 .br (g l18 0) (
 kN r0 <|
 c1 135 [g v 6] fun l19 =>
 .br (g l19 0) (
 kN r0 <|
 c1 135 [g v 7] fun l20 =>
 .br (g l20 0) (
 kN r0 <|
 c1 135 [g v 8] fun l21 =>
 .ret (g l21 0) []) (
 .ret (.bool false) [])) (
 .ret (.bool false) [])) (
 .ret (.bool false) [])) (
 .ret (.bool false) [])) (
 .ret (.bool false) [])))
theorem rq (vs:List Value):aQ PP Tryz.f89 (aB okL [(76,[5,6,7,8])] [] []) vs=iN vs:=by kernel_rfl
theorem sD {args vs} (ha:am PP Tryz.f89 args=some vs) (ho:Ones vs) {H O Q} (h:(iN vs).den PP Q H O):Triple PP my args H O Q :=
 al mixed (an ay _ _ _) Tryz.func89 rq ha ho h
abbrev lJ:FuncId:=90
def kq (r1001:Nat) (l1002:List Value) (n1003 n1004 n1005 n1006 n1007 n1008 n1009 n1010 n1011 n1012 n1013 n1014 n1015 n1016:Nat):Tree :=
 kN r1001 <|
 cS 29 [.agg #[g l1002 n1003,g l1002 n1004,g l1002 n1005,g l1002 n1006,g l1002 n1007,g l1002 n1008,g l1002 n1009,g l1002 n1010,g l1002 n1011,g l1002 n1012,g l1002 n1013,g l1002 n1014,g l1002 n1015,g l1002 n1016]] (.agg 4) fun l0 =>
 c1 91 [g l0 0,g l1002 39] fun l1 =>
 pA (iv 0) (g l1 0) fun v2 =>
 c1 91 [g l0 1,g l1002 39] fun l3 =>
 pA v2 (g l3 0) fun v4 =>
 c1 91 [g l0 2,g l1002 39] fun l5 =>
 pA v4 (g l5 0) fun v6 =>
 c1 91 [g l0 3,g l1002 39] fun l7 =>
 pA v6 (g l7 0) fun v8 =>
 .loop 55 8 [v8,iv 0] fun C55 l9 =>
 kN r1001 <|
 pZ (g l1002 29) fun v10 =>
 pL (g l9 1) v10 fun v11 =>
 .br v11 (
 kN r1001 <|
 pI 5 (g l1002 29) (g l9 1) fun v12 =>
 .load [] v12 5 fun l13 =>
 .newbox fun r1 =>
 kN r1 <|
 kN r1 <|
 pE (g l13 3) (iv (-1)) fun v14 =>
 kN r1 <|
 kV v14 <|
 kV v14 <|
 kV v14 <|
 pE (g l13 1) (g l1002 39) fun v15 =>
 kV v14 <|
 pK v14 v15 (.bool false) fun v16 =>
 kN r1 <|
 kV v16 <|
 kV v16 <|
 kV v16 <|
 pE (g l13 0) (g l1002 38) fun v17 =>
 kV v16 <|
 pK v16 v17 (.bool false) fun v18 =>
 .br v18 (
 pA (g l9 0) (iv 1) fun v19 =>
 pA (g l9 1) (iv 1) fun v20 =>
 .cont 55 C55 [v19,v20] (Es [[g l1002 38],[g l1002 39],[pt r1001 0],((pt r1001 0)::G38 l1002 0)])) (
 pA (g l9 1) (iv 1) fun v21 =>
 .cont 55 C55 [g l9 0,v21] (Es [[g l1002 38],[g l1002 39],[pt r1001 0],((pt r1001 0)::G38 l1002 0)]))) (
 .ret (g l9 0) [])
def gY (v:List Value):Tree :=
 .newbox fun r0 =>
 .sw (g v 38) 0 (
 kq r0 v 1 2 3 4 5 6 7 8 9 10 11 12 13 14) (
 .sw (g v 38) 1 (
 kq r0 v 15 16 17 18 19 20 21 22 23 24 25 26 27 28) (
 .stuck 901))
theorem qg (vs:List Value):aQ PP Tryz.f90 (aB okL [(76,[5,6,7,8])] [(3,.unroll 5),(8,.inv [7,10] [1,2,3] [(3,[])])] []) vs=gY vs:=by kernel_rfl
theorem qC {args vs} (ha:am PP Tryz.f90 args=some vs) (ho:Ones vs) {H O Q} (h:(gY vs).den PP Q H O):Triple PP lJ args H O Q :=
 al mixed (an ay _ _ _) Tryz.func90 qg ha ho h
abbrev mw:FuncId:=91
def iM (v:List Value):Tree :=
 .loop 3 3 [iv 0,iv 0] fun C3 l0 =>
 pZ (g v 0) fun v1 =>
 pL (g l0 1) v1 fun v2 =>
 .br v2 (
 pI 1 (g v 0) (g l0 1) fun v3 =>
 .load [] v3 1 fun l4 =>
 pE (g l4 0) (g v 1) fun v5 =>
 .br v5 (
 pA (g l0 0) (iv 1) fun v6 =>
 pA (g l0 1) (iv 1) fun v7 =>
 .cont 3 C3 [v6,v7] (Es [[g v 0],[g v 1]])) (
 pA (g l0 1) (iv 1) fun v8 =>
 .cont 3 C3 [g l0 0,v8] (Es [[g v 0],[g v 1]]))) (
 .ret (g l0 0) [])
theorem rp (vs:List Value):aQ PP Tryz.f91 (aB okL [(76,[5,6,7,8])] [(3,.inv [5,6] [0,1] [])] []) vs=iM vs:=by kernel_rfl
theorem sC {args vs} (ha:am PP Tryz.f91 args=some vs) (ho:Ones vs) {H O Q} (h:(iM vs).den PP Q H O):Triple PP mw args H O Q :=
 al mixed (an ay _ _ _) Tryz.func91 rp ha ho h
abbrev cX:FuncId:=92
def bP (v:List Value):Tree :=
 pZ (g v 0) fun v0 =>
 pZ (g v 0) fun v1 =>
 .pure [] (.slc 1 false true true) [g v 0,v0,v1] fun v2 =>
 .ret v2 []
theorem fA (vs:List Value):aQ PP Tryz.f92 (aB okL [(76,[5,6,7,8])] [] []) vs=bP vs:=by kernel_rfl
theorem fE {args vs} (ha:am PP Tryz.f92 args=some vs) (ho:Ones vs) {H O Q} (h:(bP vs).den PP Q H O):Triple PP cX args H O Q :=
 al mixed (an ay _ _ _) Tryz.func92 fA ha ho h
abbrev nR:FuncId:=93
def jx (v:List Value):Tree :=
 .newbox fun r0 =>
 .newbox fun r1 =>
 kN r0 <|
 kN r0 <|
 kN r0 <|
 kN r0 <|
 kN r1 <|
 kN r1 <|
 .ret (ag (G5 v 0++[iv 0,g v 6,iv 0,iv 0,g v 9,g v 10,g v 11])) []
theorem sX (vs:List Value):aQ PP Tryz.f93 (aB okL [(76,[5,6,7,8])] [] []) vs=jx vs:=by kernel_rfl
theorem tG {args vs} (ha:am PP Tryz.f93 args=some vs) (ho:Ones vs) {H O Q} (h:(jx vs).den PP Q H O):Triple PP nR args H O Q :=
 al mixed (an ay _ _ _) Tryz.func93 sX ha ho h
abbrev gh:FuncId:=94
def fW (v:List Value):Tree :=
 .loop 3 3 [.slice none 0 0,iv 0] fun C3 l0 =>
 pZ (g v 0) fun v1 =>
 pL (g l0 1) v1 fun v2 =>
 .br v2 (
 pI 1 (g v 0) (g l0 1) fun v3 =>
 .load [] v3 1 fun l4 =>
 pN (g l4 0) (g v 1) fun v5 =>
 .br v5 (
 pI 1 (g v 0) (g l0 1) fun v6 =>
 .load [] v6 1 fun l7 =>
 .newbox fun r0 =>
 .prim (.bi .append #[26,26] 26) [g l0 0,.slice (some ⟨r0,0,none⟩) 1 1] [⟨r0,3,[g l7 0]⟩] [] .one fun l8 _ =>
 pA (g l0 1) (iv 1) fun v9 =>
 .cont 3 C3 [g l8 0,v9] (Es [[g v 0],[g v 1]])) (
 pA (g l0 1) (iv 1) fun v10 =>
 .cont 3 C3 [g l0 0,v10] (Es [[g v 0],[g v 1]]))) (
 .ret (g l0 0) [])
theorem oQ (vs:List Value):aQ PP Tryz.f94 (aB okL [(76,[5,6,7,8])] [(3,.inv [5,6] [0,1] [])] []) vs=fW vs:=by kernel_rfl
theorem pz {args vs} (ha:am PP Tryz.f94 args=some vs) (ho:Ones vs) {H O Q} (h:(fW vs).den PP Q H O):Triple PP gh args H O Q :=
 al mixed (an ay _ _ _) Tryz.func94 oQ ha ho h
abbrev Au:FuncId:=95
def ux (v:List Value):Tree :=
 .newbox fun r0 =>
 kN r0 <|
 c1 136 [ag (G4 v 0),iv 99] fun l0 =>
 .ret (g l0 0) []
theorem Ed (vs:List Value):aQ PP Tryz.f95 (aB okL [(76,[5,6,7,8])] [] []) vs=ux vs:=by kernel_rfl
theorem EE {args vs} (ha:am PP Tryz.f95 args=some vs) (ho:Ones vs) {H O Q} (h:(ux vs).den PP Q H O):Triple PP Au args H O Q :=
 al mixed (an ay _ _ _) Tryz.func95 Ed ha ho h
abbrev dj:FuncId:=96
def bT (v:List Value):Tree :=
 c1 137 [g v 0,g v 1] fun l0 =>
 pH (g l0 0) (iv 0) fun v1 =>
 .ret v1 []
theorem fL (vs:List Value):aQ PP Tryz.f96 (aB okL [(76,[5,6,7,8])] [] []) vs=bT vs:=by kernel_rfl
theorem fR {args vs} (ha:am PP Tryz.f96 args=some vs) (ho:Ones vs) {H O Q} (h:(bT vs).den PP Q H O):Triple PP dj args H O Q :=
 al mixed (an ay _ _ _) Tryz.func96 fL ha ho h
abbrev uP:FuncId:=97
def nJ (v:List Value):Tree :=
 .newbox fun r0 =>
 kN r0 <|
 c1 98 [ag (G5 v 0),.bool false] fun l0 =>
 pO (g l0 0) fun v1 =>
 .ret v1 []
theorem yn (vs:List Value):aQ PP Tryz.f97 (aB okL [(76,[5,6,7,8])] [] []) vs=nJ vs:=by kernel_rfl
theorem yU {args vs} (ha:am PP Tryz.f97 args=some vs) (ho:Ones vs) {H O Q} (h:(nJ vs).den PP Q H O):Triple PP uP args H O Q :=
 al mixed (an ay _ _ _) Tryz.func97 yn ha ho h
abbrev Av:FuncId:=98
def uz (v:List Value):Tree :=
 .newbox fun r0 =>
 kN r0 <|
 c1 73 [g v 0,iv 0,iv 1] fun l0 =>
 .br (g l0 0) (
 kN r0 <|
 c1 73 [g v 1,iv 1,iv 500] fun l1 =>
 .br (g l1 0) (
 kN r0 <|
 c1 73 [g v 2,iv 0,iv 399] fun l2 =>
 .br (g l2 0) (
 kN r0 <|
 c1 73 [g v 3,iv (-1),iv 1] fun l3 =>
 pO (g l3 0) fun v4 =>
 kN r0 <|
 kV v4 <|
 kV v4 <|
 pZ (g v 4) fun v5 =>
 kV v4 <|
 pG v5 (iv 4) fun v6 =>
 kV v4 <|
 pK v4 (.bool true) v6 fun v7 =>
 kN r0 <|
 kV v7 <|
 kV v7 <|
 pH (g v 3) (iv 0) fun v8 =>
 kV v7 <|
 kN r0 <|
 kV v8 <|
 kV v7 <|
 kV v8 <|
 kV v7 <|
 pZ (g v 4) fun v9 =>
 kV v8 <|
 kV v7 <|
 pG v9 (iv 0) fun v10 =>
 kV v7 <|
 kV v8 <|
 kV v7 <|
 pK v8 v10 (.bool false) fun v11 =>
 kV v7 <|
 pK v7 (.bool true) v11 fun v12 =>
 kV v12 <|
 kN r0 <|
 kV (g v 5) <|
 kV v12 <|
 kV (g v 5) <|
 kV v12 <|
 pL (g v 3) (iv 0) fun v13 =>
 kV v12 <|
 kV (g v 5) <|
 kV v12 <|
 pK (g v 5) v13 (.bool false) fun v14 =>
 kV v12 <|
 pK v12 (.bool true) v14 fun v15 =>
 .br v15 (
 .ret (.bool false) []) (
 kN r0 <|
 c1 138 [g v 4,.func (.func 139) #[] #[]] fun l16 =>
 pO (g l16 0) fun v17 =>
 .ret v17 [])) (
 .ret (.bool false) [])) (
 .ret (.bool false) [])) (
 .ret (.bool false) [])
theorem Ee (vs:List Value):aQ PP Tryz.f98 (aB okL [(76,[5,6,7,8])] [] []) vs=uz vs:=by kernel_rfl
theorem EF {args vs} (ha:am PP Tryz.f98 args=some vs) (ho:Ones vs) {H O Q} (h:(uz vs).den PP Q H O):Triple PP Av args H O Q :=
 al mixed (an ay _ _ _) Tryz.func98 Ee ha ho h
abbrev uO:FuncId:=99
def nI (v:List Value):Tree :=
 .newbox fun r0 =>
 kN r0 <|
 c1 98 [ag (G5 v 0),.bool true] fun l0 =>
 pO (g l0 0) fun v1 =>
 .ret v1 []
theorem ym (vs:List Value):aQ PP Tryz.f99 (aB okL [(76,[5,6,7,8])] [] []) vs=nI vs:=by kernel_rfl
theorem yT {args vs} (ha:am PP Tryz.f99 args=some vs) (ho:Ones vs) {H O Q} (h:(nI vs).den PP Q H O):Triple PP uO args H O Q :=
 al mixed (an ay _ _ _) Tryz.func99 ym ha ho h
abbrev vS:FuncId:=100
def cP (l1001:List Value) (n1002:Nat) (l1003:List Value) (i1004:Int) (r1005 n1006:Nat) (C1007:List Value→Heap→Own→Prop) (r1008 n1009 n1010 n1011 n1012:Nat) (i1013:Int) (v1014:Value):Tree :=
 pI 1 (g l1001 n1002) (g l1003 0) fun v5 =>
 .load [] v5 1 fun l6 =>
 .call false 141 [g l6 0,iv i1004,pt r1005 0] [] [⟨r1005,196,[g l1003 1]⟩] .one fun l7 c7 =>
 pO (g l7 0) fun v8 =>
 .br v8 (
 .ret (.bool false) []) (
 pA (g l1003 0) (iv 1) fun v9 =>
 .cont n1006 C1007 [v9,g (gd c7 0) 0] (Es [[pt r1008 0],[pt r1005 0],[.func (.func 141) #[] #[pt r1005 0]],[iv i1004],[iv i1004],[pt r1008 n1009,pt r1008 n1010,pt r1008 n1011,pt r1008 n1012],[iv i1013],[g l1001 n1002],[v1014],((pt r1008 0)::G38 l1001 0),[pt r1005 0,.tuple #[]]]))
def pe (v:List Value):Tree :=
 .newbox fun r0 =>
 .prim (.makeMap 196 false) [] [] [] .one fun l0 _ =>
 .newbox fun r1 =>
 kN r1 <|
 cS 76 [pt r0 1] (.agg 4) fun l1 =>
 kW (g l1 0) r0 6 <|
 kW (g l1 1) r0 7 <|
 kW (g l1 2) r0 8 <|
 kW (g l1 3) r0 9 <|
 kN r0 <|
 pZ (g v 6) fun v2 =>
 .loop 24 10 [iv 0,g l0 0] fun C24 l3 =>
 pL (g l3 0) v2 fun v4 =>
 .br v4 (
 cP v 6 l3 0 r1 24 C24 r0 6 7 8 9 0 v2) (
 kN r0 <|
 pZ (g v 7) fun v10 =>
 .loop 36 10 [iv 0,g l3 1] fun C36 l11 =>
 pL (g l11 0) v10 fun v12 =>
 .br v12 (
 cP v 7 l11 0 r1 36 C36 r0 6 7 8 9 1 v10) (
 kN r0 <|
 pZ (g v 8) fun v18 =>
 .loop 48 10 [iv 0,g l11 1] fun C48 l19 =>
 pL (g l19 0) v18 fun v20 =>
 .br v20 (
 cP v 8 l19 0 r1 48 C48 r0 6 7 8 9 2 v18) (
 kN r0 <|
 pZ (g v 9) fun v26 =>
 .loop 60 10 [iv 0,g l19 1] fun C60 l27 =>
 pL (g l27 0) v26 fun v28 =>
 .br v28 (
 cP v 9 l27 0 r1 60 C60 r0 6 7 8 9 3 v26) (
 cS 76 [pt r0 15] (.agg 4) fun l34 =>
 kW (g l34 0) r0 20 <|
 kW (g l34 1) r0 21 <|
 kW (g l34 2) r0 22 <|
 kW (g l34 3) r0 23 <|
 kN r0 <|
 pZ (g v 20) fun v35 =>
 .loop 83 10 [iv 0,g l27 1] fun C83 l36 =>
 pL (g l36 0) v35 fun v37 =>
 .br v37 (
 cP v 20 l36 1 r1 83 C83 r0 20 21 22 23 0 v35) (
 kN r0 <|
 pZ (g v 21) fun v43 =>
 .loop 95 10 [iv 0,g l36 1] fun C95 l44 =>
 pL (g l44 0) v43 fun v45 =>
 .br v45 (
 cP v 21 l44 1 r1 95 C95 r0 20 21 22 23 1 v43) (
 kN r0 <|
 pZ (g v 22) fun v51 =>
 .loop 107 10 [iv 0,g l44 1] fun C107 l52 =>
 pL (g l52 0) v51 fun v53 =>
 .br v53 (
 cP v 22 l52 1 r1 107 C107 r0 20 21 22 23 2 v51) (
 kN r0 <|
 pZ (g v 23) fun v59 =>
 .loop 119 10 [iv 0,g l52 1] fun C119 l60 =>
 pL (g l60 0) v59 fun v61 =>
 .br v61 (
 cP v 23 l60 1 r1 119 C119 r0 20 21 22 23 3 v59) (
 .prim (.makeMap 196 false) [] [] [] .one fun l67 _ =>
 kN r0 <|
 pZ (g v 29) fun v68 =>
 .loop 133 19 [iv 0,g l60 1] fun C133 l69 =>
 pL (g l69 0) v68 fun v70 =>
 .br v70 (
 pI 5 (g v 29) (g l69 0) fun v71 =>
 .load [] v71 5 fun l72 =>
 .newbox fun r2 =>
 kN r2 <|
 kN r2 <|
 pL (g l72 3) (iv 0) fun v73 =>
 .br v73 (
 kN r2 <|
 kN r2 <|
 .call false 141 [g l72 1,g l72 0,pt r1 0] [] [⟨r1,196,[g l69 1]⟩] .one fun l74 c74 =>
 pO (g l74 0) fun v75 =>
 .br v75 (
 .ret (.bool false) []) (
 kN r2 <|
 kN r2 <|
 .prim (.mapUpdate 196) [g l67 0,g l72 1,g l72 2] [] [] .one fun l76 _ =>
 pA (g l69 0) (iv 1) fun v77 =>
 .cont 133 C133 [v77,g (gd c74 0) 0] (Es [[pt r0 0],[pt r1 0],[.func (.func 141) #[] #[pt r1 0]],[g l67 0],[g v 29],[v68],((pt r0 0)::G38 v 0),[pt r1 0,.tuple #[]]]))) (
 pA (g l69 0) (iv 1) fun v78 =>
 .cont 133 C133 [v78,g l69 1] (Es [[pt r0 0],[pt r1 0],[.func (.func 141) #[] #[pt r1 0]],[g l67 0],[g v 29],[v68],((pt r0 0)::G38 v 0),[pt r1 0,.tuple #[]]]))) (
 kN r0 <|
 pZ (g v 0) fun v79 =>
 .loop 139 27 [iv 0] fun C139 l80 =>
 pL (g l80 0) v79 fun v81 =>
 .br v81 (
 pI 12 (g v 0) (g l80 0) fun v82 =>
 .load [] v82 12 fun l83 =>
 .newbox fun r3 =>
 kN r3 <|
 kN r1 <|
 kN r3 <|
 .prim (.lookup 196 true) [g l69 1,g l83 0] [] [] (.tup [none,none]) fun l84 _ =>
 kN r3 <|
 .prim (.lookup 196 true) [g l67 0,g l83 0] [] [] (.tup [none,none]) fun l85 _ =>
 kN r3 <|
 c1 142 [ag (G12 l83 0)] fun l86 =>
 pO (g l86 0) fun v87 =>
 kV v87 <|
 pG (g l80 0) (iv 0) fun v88 =>
 kV v87 <|
 kN r0 <|
 kV v88 <|
 kV v87 <|
 kV v88 <|
 kV v87 <|
 pS (g l80 0) (iv 1) fun v89 =>
 kV v88 <|
 kV v87 <|
 kV v88 <|
 kV v87 <|
 .pure [(v88,true),(v87,false)] (.idx 12) [g v 0,v89] fun v90 =>
 .chk (.ptr [(v88,true),(v87,false)] v90) <|
 kV v88 <|
 kV v87 <|
 kV v88 <|
 kV v87 <|
 .load [(v88,true),(v87,false)] v90 1 fun l91 =>
 kN r3 <|
 kV v88 <|
 kV v87 <|
 kV v88 <|
 kV v87 <|
 kV v88 <|
 kV v87 <|
 pH (g l91 0) (g l83 0) fun v92 =>
 kV v87 <|
 kV v88 <|
 kV v87 <|
 pK v88 v92 (.bool false) fun v93 =>
 kV v87 <|
 pK v87 (.bool true) v93 fun v94 =>
 kV v94 <|
 pO (g l84 1) fun v95 =>
 kV v94 <|
 pK v94 (.bool true) v95 fun v96 =>
 kN r3 <|
 kV v96 <|
 kV v96 <|
 kV v96 <|
 pN (g l84 0) (g l83 2) fun v97 =>
 kV v96 <|
 pK v96 (.bool true) v97 fun v98 =>
 kV v98 <|
 kN r3 <|
 kV (g l85 1) <|
 kV v98 <|
 kV (g l85 1) <|
 kV v98 <|
 kV (g l85 1) <|
 kV v98 <|
 pN (g l85 0) (g l83 1) fun v99 =>
 kV v98 <|
 kV (g l85 1) <|
 kV v98 <|
 pK (g l85 1) v99 (.bool false) fun v100 =>
 kV v98 <|
 pK v98 (.bool true) v100 fun v101 =>
 .br v101 (
 .ret (.bool false) []) (
 pA (g l80 0) (iv 1) fun v102 =>
 .cont 139 C139 [v102] (Es [[pt r0 0],[pt r1 0],[g l67 0],[g v 0],[v79],((pt r0 0)::G38 v 0),[pt r1 0,g l69 1]]))) (
 kN r1 <|
 .prim (.bi .len #[196] 3) [g l69 1] [] [] .one fun l103 _ =>
 kN r0 <|
 pZ (g v 0) fun v104 =>
 pE (g l103 0) v104 fun v105 =>
 .ret v105 []))))))))))
theorem zx (vs:List Value):aQ PP Tryz.f100 (aB okL [(76,[5,6,7,8])] [(4,.unroll 3),(7,.unroll 5),(10,.inv [35] [1,3,4,5,21,27,28,33,34] [(1,[]),(3,[0])]),(19,.inv [51] [1,3,4,10,49,50] [(1,[]),(3,[0])]),(27,.inv [74] [1,3,10,72,73] [(1,[]),(3,[])])] []) vs=pe vs:=by kernel_rfl
theorem AL {args vs} (ha:am PP Tryz.f100 args=some vs) (ho:Ones vs) {H O Q} (h:(pe vs).den PP Q H O):Triple PP vS args H O Q :=
 al mixed (an ay _ _ _) Tryz.func100 zx ha ho h
abbrev vU:FuncId:=101
def jk (r1001:Nat) (l1002:List Value) (n1003 n1004:Nat):Tree :=
 kN r1001 <|
 .prim (.makeMap 198 false) [] [] [] .one fun l1 _ =>
 kN r1001 <|
 pZ (g l1002 31) fun v2 =>
 .loop 23 4 [iv 0] fun C23 l3 =>
 pL (g l3 0) v2 fun v4 =>
 .br v4 (
 pI 1 (g l1002 31) (g l3 0) fun v5 =>
 .load [] v5 1 fun l6 =>
 .prim (.lookup 198 false) [g l1 0,g l6 0] [] [] .one fun l7 _ =>
 .br (g l7 0) (
 .ret (.bool false) []) (
 c1 132 [g l1002 n1003,g l6 0] fun l8 =>
 pO (g l8 0) fun v9 =>
 .br v9 (
 .ret (.bool false) []) (
 .prim (.mapUpdate 198) [g l1 0,g l6 0,.bool true] [] [] .one fun l10 _ =>
 pA (g l3 0) (iv 1) fun v11 =>
 .cont 23 C23 [v11] (Es [[pt r1001 0],[g l1002 n1003],[g l1002 n1004],[g l1 0],[g l1002 31],[v2],((pt r1001 0)::G38 l1002 0)])))) (
 kN r1001 <|
 pZ (g l1002 32) fun v12 =>
 .loop 29 11 [iv 0] fun C29 l13 =>
 pL (g l13 0) v12 fun v14 =>
 .br v14 (
 pI 2 (g l1002 32) (g l13 0) fun v15 =>
 .load [] v15 2 fun l16 =>
 .newbox fun r1 =>
 kN r1 <|
 kN r1 <|
 .prim (.lookup 198 false) [g l1 0,g l16 1] [] [] .one fun l17 _ =>
 pO (g l17 0) fun v18 =>
 .br v18 (
 .ret (.bool false) []) (
 kN r1 <|
 .pure [] .neg [g l16 0] fun v19 =>
 .prim (.lookup 198 false) [g l1 0,v19] [] [] .one fun l20 _ =>
 .br (g l20 0) (
 .ret (.bool false) []) (
 kN r1001 <|
 kN r1 <|
 c1 132 [g l1002 31,g l16 1] fun l21 =>
 pO (g l21 0) fun v22 =>
 .br v22 (
 .ret (.bool false) []) (
 kN r1 <|
 c1 132 [g l1002 n1004,g l16 0] fun l23 =>
 pO (g l23 0) fun v24 =>
 .br v24 (
 .ret (.bool false) []) (
 kN r1 <|
 kN r1 <|
 .pure [] .neg [g l16 0] fun v25 =>
 .prim (.mapUpdate 198) [g l1 0,g l16 1,.bool false] [] [] .one fun l26 _ =>
 .prim (.mapUpdate 198) [g l1 0,v25,.bool true] [] [] .one fun l27 _ =>
 pA (g l13 0) (iv 1) fun v28 =>
 .cont 29 C29 [v28] (Es [[pt r1001 0],[g l1002 n1004],[g l1 0],[g l1002 32],[v12],((pt r1001 0)::G38 l1002 0)])))))) (
 .ret (.bool true) []))
def pg (v:List Value):Tree :=
 .newbox fun r0 =>
 kN r0 <|
 .sw (g v 34) 0 (
 kN r0 <|
 kN r0 <|
 pS (iv 1) (g v 34) fun v0 =>
 .sw v0 0 (
 jk r0 v 8 8) (
 .sw v0 1 (
 jk r0 v 8 22) (
 .stuck 901))) (
 .sw (g v 34) 1 (
 kN r0 <|
 kN r0 <|
 pS (iv 1) (g v 34) fun v57 =>
 .sw v57 0 (
 jk r0 v 22 8) (
 .sw v57 1 (
 jk r0 v 22 22) (
 .stuck 901))) (
 .stuck 901))
theorem zz (vs:List Value):aQ PP Tryz.f101 (aB okL [(76,[5,6,7,8])] [(4,.inv [27] [1,3,4,5,25,26] [(1,[])]),(11,.inv [46] [1,4,5,44,45] [(1,[])])] []) vs=pg vs:=by kernel_rfl
theorem AN {args vs} (ha:am PP Tryz.f101 args=some vs) (ho:Ones vs) {H O Q} (h:(pg vs).den PP Q H O):Triple PP vU args H O Q :=
 al mixed (an ay _ _ _) Tryz.func101 zz ha ho h
abbrev dM:FuncId:=102
def cn (v:List Value):Tree :=
 .pure [] (.bin .eql .slice) [g v 0,.slice none 0 0] fun v0 =>
 .br v0 (
 .ret (.slice none 0 0) []) (
 .newbox fun r0 =>
 .prim (.bi .append #[23,23] 23) [.slice (some ⟨r0,0,none⟩) 0 0,g v 0] [⟨r0,82,[]⟩] [] .one fun l1 _ =>
 .ret (g l1 0) [])
theorem ib (vs:List Value):aQ PP Tryz.f102 (aB okL [(76,[5,6,7,8])] [] []) vs=cn vs:=by kernel_rfl
theorem il {args vs} (ha:am PP Tryz.f102 args=some vs) (ho:Ones vs) {H O Q} (h:(cn vs).den PP Q H O):Triple PP dM args H O Q :=
 al mixed (an ay _ _ _) Tryz.func102 ib ha ho h
abbrev kR:FuncId:=103
def ga (v:List Value):Tree :=
 .pure [] (.bin .eql .slice) [g v 0,.slice none 0 0] fun v0 =>
 .br v0 (
 .ret (.slice none 0 0) []) (
 .newbox fun r0 =>
 .prim (.bi .append #[26,26] 26) [.slice (some ⟨r0,0,none⟩) 0 0,g v 0] [⟨r0,3,[]⟩] [] .one fun l1 _ =>
 .ret (g l1 0) [])
theorem oY (vs:List Value):aQ PP Tryz.f103 (aB okL [(76,[5,6,7,8])] [] []) vs=ga vs:=by kernel_rfl
theorem pD {args vs} (ha:am PP Tryz.f103 args=some vs) (ho:Ones vs) {H O Q} (h:(ga vs).den PP Q H O):Triple PP kR args H O Q :=
 al mixed (an ay _ _ _) Tryz.func103 oY ha ho h
abbrev eh:FuncId:=104
def cC (v:List Value):Tree :=
 .pure [] (.bin .eql .slice) [g v 0,.slice none 0 0] fun v0 =>
 .br v0 (
 .ret (.slice none 0 0) []) (
 .newbox fun r0 =>
 .prim (.bi .append #[31,31] 31) [.slice (some ⟨r0,0,none⟩) 0 0,g v 0] [⟨r0,122,[]⟩] [] .one fun l1 _ =>
 .ret (g l1 0) [])
theorem iU (vs:List Value):aQ PP Tryz.f104 (aB okL [(76,[5,6,7,8])] [] []) vs=cC vs:=by kernel_rfl
theorem jb {args vs} (ha:am PP Tryz.f104 args=some vs) (ho:Ones vs) {H O Q} (h:(cC vs).den PP Q H O):Triple PP eh args H O Q :=
 al mixed (an ay _ _ _) Tryz.func104 iU ha ho h
abbrev yz:FuncId:=105
def rO (v:List Value):Tree :=
 c1 143 [g v 0] fun l0 =>
 pZ (g l0 0) fun v1 =>
 .loop 7 3 [iv 0] fun C7 l2 =>
 pL (g l2 0) v1 fun v3 =>
 .br v3 (
 pI 5 (g l0 0) (g l2 0) fun v4 =>
 kP v4 <|
 .load [] (be v4 4) 1 fun l5 =>
 c1 144 [g l5 0] fun l6 =>
 pI 5 (g l0 0) (g l2 0) fun v7 =>
 kP v7 <|
 kP (be v7 4) <|
 .store (be v7 4) [g l6 0] <|
 pA (g l2 0) (iv 1) fun v8 =>
 .cont 7 C7 [v8] (Es [[g l0 0],[v1]])) (
 .ret (g l0 0) [])
theorem Bo (vs:List Value):aQ PP Tryz.f105 (aB okL [(76,[5,6,7,8])] [(3,.inv [9] [3,8] [])] []) vs=rO vs:=by kernel_rfl
theorem Cf {args vs} (ha:am PP Tryz.f105 args=some vs) (ho:Ones vs) {H O Q} (h:(rO vs).den PP Q H O):Triple PP yz args H O Q :=
 al mixed (an ay _ _ _) Tryz.func105 Bo ha ho h
abbrev dN:FuncId:=107
def cq (v:List Value):Tree :=
 .pure [] (.bin .eql .slice) [g v 0,.slice none 0 0] fun v0 =>
 .br v0 (
 .ret (.slice none 0 0) []) (
 .newbox fun r0 =>
 .prim (.bi .append #[62,62] 62) [.slice (some ⟨r0,0,none⟩) 0 0,g v 0] [⟨r0,39,[]⟩] [] .one fun l1 _ =>
 .ret (g l1 0) [])
theorem ic (vs:List Value):aQ PP Tryz.f107 (aB okL [(76,[5,6,7,8])] [] []) vs=cq vs:=by kernel_rfl
theorem im {args vs} (ha:am PP Tryz.f107 args=some vs) (ho:Ones vs) {H O Q} (h:(cq vs).den PP Q H O):Triple PP dN args H O Q :=
 al mixed (an ay _ _ _) Tryz.func107 ic ha ho h
abbrev dq:FuncId:=108
def bX (v:List Value):Tree :=
 .pure [] (.bin .eql .slice) [g v 0,.slice none 0 0] fun v0 =>
 .br v0 (
 .ret (.slice none 0 0) []) (
 .newbox fun r0 =>
 .prim (.bi .append #[73,73] 73) [.slice (some ⟨r0,0,none⟩) 0 0,g v 0] [⟨r0,91,[]⟩] [] .one fun l1 _ =>
 .ret (g l1 0) [])
theorem ge (vs:List Value):aQ PP Tryz.f108 (aB okL [(76,[5,6,7,8])] [] []) vs=bX vs:=by kernel_rfl
theorem gy {args vs} (ha:am PP Tryz.f108 args=some vs) (ho:Ones vs) {H O Q} (h:(bX vs).den PP Q H O):Triple PP dq args H O Q :=
 al mixed (an ay _ _ _) Tryz.func108 ge ha ho h
abbrev bV:FuncId:=109
def bf (v:List Value):Tree :=
 pZ (g v 0) fun v0 =>
 .loop 8 3 [iv 0,v0] fun C8 l1 =>
 pL (g l1 0) (g l1 1) fun v2 =>
 .br v2 (
 pA (g l1 0) (g l1 1) fun v3 =>
 .pure [] (.conv .u64) [v3] fun v4 =>
 .pure [] (.bin .shr .int) [v4,.int .u64 1] fun v5 =>
 .pure [] (.conv .i64) [v5] fun v6 =>
 pI 12 (g v 0) v6 fun v7 =>
 .load [] v7 12 fun l8 =>
 .callv false (g v 2) [ag (G12 l8 0),g v 1] [] [] .one fun l9 _ =>
 pL (g l9 0) (iv 0) fun v10 =>
 .br v10 (
 pA v6 (iv 1) fun v11 =>
 .cont 8 C8 [v11,g l1 1] (Es [[g v 0],[g v 1],[g v 2],[v0]])) (
 .cont 8 C8 [g l1 0,v6] (Es [[g v 0],[g v 1],[g v 2],[v0]]))) (
 pL (g l1 0) v0 fun v12 =>
 .br v12 (
 pI 12 (g v 0) (g l1 0) fun v13 =>
 .load [] v13 12 fun l14 =>
 .callv false (g v 2) [ag (G12 l14 0),g v 1] [] [] .one fun l15 _ =>
 pE (g l15 0) (iv 0) fun v16 =>
 .ret (.tuple #[g l1 0,v16]) []) (
 .ret (.tuple #[g l1 0,.bool false]) []))
theorem du (vs:List Value):aQ PP Tryz.f109 (aB okL [(76,[5,6,7,8])] [(3,.inv [9,10] [0,1,2,8] [])] []) vs=bf vs:=by kernel_rfl
theorem dz {args vs} (ha:am PP Tryz.f109 args=some vs) (ho:Ones vs) {H O Q} (h:(bf vs).den PP Q H O):Triple PP bV args H O Q :=
 al mixed (an ay _ _ _) Tryz.func109 du ha ho h
abbrev kG:FuncId:=110
def nG (v:List Value):Tree :=
 .newbox fun r0 =>
 kN r0 <|
 pS (g v 0) (g v 12) fun v0 =>
 .ret v0 []
theorem yk (vs:List Value):aQ PP Tryz.f110 (aB okL [(76,[5,6,7,8])] [] []) vs=nG vs:=by kernel_rfl
theorem yR {args vs} (ha:am PP Tryz.f110 args=some vs) (ho:Ones vs) {H O Q} (h:(nG vs).den PP Q H O):Triple PP kG args H O Q :=
 al mixed (an ay _ _ _) Tryz.func110 yk ha ho h
abbrev mW:FuncId:=111
def rM (v:List Value):Tree :=
 .load [] (g v 1) 1 fun l0 =>
 pE (g v 0) (g l0 0) fun v1 =>
 .ret v1 []
theorem Bm (vs:List Value):aQ PP Tryz.f111 (aB okL [(76,[5,6,7,8])] [] []) vs=rM vs:=by kernel_rfl
theorem Cc {args vs} (ha:am PP Tryz.f111 args=some vs) (ho:Ones vs) {H O Q} (h:(rM vs).den PP Q H O):Triple PP mW args H O Q :=
 al mixed (an ay _ _ _) Tryz.func111 Bm ha ho h
abbrev dX:FuncId:=112
def dW (v:List Value):Tree :=
 c1 145 [g v 0,g v 1] fun l0 =>
 pE (g l0 0) (iv (-1)) fun v1 =>
 .br v1 (
 .ret (g v 0) []) (
 pA (g l0 0) (iv 1) fun v2 =>
 .loop 10 5 [g l0 0,v2] fun C10 l3 =>
 pZ (g v 0) fun v4 =>
 pL (g l3 1) v4 fun v5 =>
 .br v5 (
 pI 1 (g v 0) (g l3 1) fun v6 =>
 .load [] v6 1 fun l7 =>
 .callv false (g v 1) [g l7 0] [] [] .one fun l8 _ =>
 pO (g l8 0) fun v9 =>
 .br v9 (
 pI 1 (g v 0) (g l3 0) fun v10 =>
 kP v10 <|
 .store v10 [g l7 0] <|
 pA (g l3 0) (iv 1) fun v11 =>
 pA (g l3 1) (iv 1) fun v12 =>
 .cont 10 C10 [v11,v12] (Es [[g v 0],[g v 1]])) (
 pA (g l3 1) (iv 1) fun v13 =>
 .cont 10 C10 [g l3 0,v13] (Es [[g v 0],[g v 1]]))) (
 .pure [] (.slc 1 true false false) [g v 0,g l3 0] fun v14 =>
 .prim (.bi .clear #[26] 0) [v14] [] [] (.tup []) fun l15 _ =>
 .pure [] (.slc 1 false true false) [g v 0,g l3 0] fun v16 =>
 .ret v16 []))
theorem lF (vs:List Value):aQ PP Tryz.f112 (aB okL [(76,[5,6,7,8])] [(5,.inv [5,6] [0,1] [])] []) vs=dW vs:=by kernel_rfl
theorem lQ {args vs} (ha:am PP Tryz.f112 args=some vs) (ho:Ones vs) {H O Q} (h:(dW vs).den PP Q H O):Triple PP dX args H O Q :=
 al mixed (an ay _ _ _) Tryz.func112 lF ha ho h
abbrev cg:FuncId:=113
def ce (v:List Value):Tree :=
 c1 137 [g v 0,g v 1] fun l0 =>
 pE (g l0 0) (iv (-1)) fun v1 =>
 .br v1 (
 .ret (g v 0) []) (
 pA (g l0 0) (iv 1) fun v2 =>
 .loop 10 5 [g l0 0,v2] fun C10 l3 =>
 pZ (g v 0) fun v4 =>
 pL (g l3 1) v4 fun v5 =>
 .br v5 (
 pI 5 (g v 0) (g l3 1) fun v6 =>
 .load [] v6 5 fun l7 =>
 .newbox fun r0 =>
 kN r0 <|
 kN r0 <|
 .callv false (g v 1) [ag (G5 l7 0)] [] [] .one fun l8 _ =>
 pO (g l8 0) fun v9 =>
 .br v9 (
 kN r0 <|
 pI 5 (g v 0) (g l3 0) fun v10 =>
 kP v10 <|
 .store v10 (G5 l7 0) <|
 pA (g l3 0) (iv 1) fun v11 =>
 pA (g l3 1) (iv 1) fun v12 =>
 .cont 10 C10 [v11,v12] (Es [[g v 0],[g v 1]])) (
 pA (g l3 1) (iv 1) fun v13 =>
 .cont 10 C10 [g l3 0,v13] (Es [[g v 0],[g v 1]]))) (
 .pure [] (.slc 5 true false false) [g v 0,g l3 0] fun v14 =>
 .prim (.bi .clear #[30] 0) [v14] [] [] (.tup []) fun l15 _ =>
 .pure [] (.slc 5 false true false) [g v 0,g l3 0] fun v16 =>
 .ret v16 []))
theorem gB (vs:List Value):aQ PP Tryz.f113 (aB okL [(76,[5,6,7,8])] [(5,.inv [5,6] [0,1] [])] []) vs=ce vs:=by kernel_rfl
theorem gP {args vs} (ha:am PP Tryz.f113 args=some vs) (ho:Ones vs) {H O Q} (h:(ce vs).den PP Q H O):Triple PP cg args H O Q :=
 al mixed (an ay _ _ _) Tryz.func113 gB ha ho h
abbrev rW:FuncId:=114
def rL (v:List Value):Tree :=
 .newbox fun r0 =>
 kN r0 <|
 pL (g v 3) (iv 0) fun v0 =>
 kN r0 <|
 kV v0 <|
 .load [(v0,true)] (g v 5) 1 fun l1 =>
 kV v0 <|
 kV v0 <|
 pE (g v 1) (g l1 0) fun v2 =>
 kV v0 <|
 pK v0 v2 (.bool false) fun v3 =>
 .ret v3 []
theorem Bj (vs:List Value):aQ PP Tryz.f114 (aB okL [(76,[5,6,7,8])] [] []) vs=rL vs:=by kernel_rfl
theorem B9 {args vs} (ha:am PP Tryz.f114 args=some vs) (ho:Ones vs) {H O Q} (h:(rL vs).den PP Q H O):Triple PP rW args H O Q :=
 al mixed (an ay _ _ _) Tryz.func114 Bj ha ho h
abbrev bU:FuncId:=115
def bR (v:List Value):Tree :=
 c1 146 [g v 0,g v 1] fun l0 =>
 pE (g l0 0) (iv (-1)) fun v1 =>
 .br v1 (
 .ret (g v 0) []) (
 pA (g l0 0) (iv 1) fun v2 =>
 .loop 10 5 [g l0 0,v2] fun C10 l3 =>
 pZ (g v 0) fun v4 =>
 pL (g l3 1) v4 fun v5 =>
 .br v5 (
 pI 2 (g v 0) (g l3 1) fun v6 =>
 .load [] v6 2 fun l7 =>
 .newbox fun r0 =>
 kN r0 <|
 kN r0 <|
 .callv false (g v 1) [.agg #[g l7 0,g l7 1]] [] [] .one fun l8 _ =>
 pO (g l8 0) fun v9 =>
 .br v9 (
 kN r0 <|
 pI 2 (g v 0) (g l3 0) fun v10 =>
 kP v10 <|
 .store v10 [g l7 0,g l7 1] <|
 pA (g l3 0) (iv 1) fun v11 =>
 pA (g l3 1) (iv 1) fun v12 =>
 .cont 10 C10 [v11,v12] (Es [[g v 0],[g v 1]])) (
 pA (g l3 1) (iv 1) fun v13 =>
 .cont 10 C10 [g l3 0,v13] (Es [[g v 0],[g v 1]]))) (
 .pure [] (.slc 2 true false false) [g v 0,g l3 0] fun v14 =>
 .prim (.bi .clear #[31] 0) [v14] [] [] (.tup []) fun l15 _ =>
 .pure [] (.slc 2 false true false) [g v 0,g l3 0] fun v16 =>
 .ret v16 []))
theorem fJ (vs:List Value):aQ PP Tryz.f115 (aB okL [(76,[5,6,7,8])] [(5,.inv [5,6] [0,1] [])] []) vs=bR vs:=by kernel_rfl
theorem fP {args vs} (ha:am PP Tryz.f115 args=some vs) (ho:Ones vs) {H O Q} (h:(bR vs).den PP Q H O):Triple PP bU args H O Q :=
 al mixed (an ay _ _ _) Tryz.func115 fJ ha ho h
abbrev mV:FuncId:=116
def rK (v:List Value):Tree :=
 .newbox fun r0 =>
 kN r0 <|
 .load [] (g v 2) 1 fun l0 =>
 pE (g v 0) (g l0 0) fun v1 =>
 kN r0 <|
 kV v1 <|
 .load [(v1,false)] (g v 2) 1 fun l2 =>
 kV v1 <|
 kV v1 <|
 pE (g v 1) (g l2 0) fun v3 =>
 kV v1 <|
 pK v1 (.bool true) v3 fun v4 =>
 .ret v4 []
theorem Bi (vs:List Value):aQ PP Tryz.f116 (aB okL [(76,[5,6,7,8])] [] []) vs=rK vs:=by kernel_rfl
theorem B8 {args vs} (ha:am PP Tryz.f116 args=some vs) (ho:Ones vs) {H O Q} (h:(rK vs).den PP Q H O):Triple PP mV args H O Q :=
 al mixed (an ay _ _ _) Tryz.func116 Bi ha ho h
abbrev yv:FuncId:=117
def rF (v:List Value):Tree :=
 .newbox fun r0 =>
 .newbox fun r1 =>
 kN r0 <|
 kN r0 <|
 kN r0 <|
 kN r0 <|
 kN r1 <|
 kN r1 <|
 .ret (ag (G5 v 0++[iv 0,g v 6,iv 0,iv 0,g v 9,g v 10,g v 11])) []
theorem Be (vs:List Value):aQ PP Tryz.f117 (aB okL [(76,[5,6,7,8])] [] []) vs=rF vs:=by kernel_rfl
theorem BZ {args vs} (ha:am PP Tryz.f117 args=some vs) (ho:Ones vs) {H O Q} (h:(rF vs).den PP Q H O):Triple PP yv args H O Q :=
 al mixed (an ay _ _ _) Tryz.func117 Be ha ho h
abbrev di:FuncId:=118
def bS (v:List Value):Tree :=
 .newbox fun r0 =>
 kN r0 <|
 c1 147 [g v 0,.agg #[g v 1,g v 2]] fun l0 =>
 pH (g l0 0) (iv 0) fun v1 =>
 .ret v1 []
theorem fK (vs:List Value):aQ PP Tryz.f118 (aB okL [(76,[5,6,7,8])] [] []) vs=bS vs:=by kernel_rfl
theorem fQ {args vs} (ha:am PP Tryz.f118 args=some vs) (ho:Ones vs) {H O Q} (h:(bS vs).den PP Q H O):Triple PP di args H O Q :=
 al mixed (an ay _ _ _) Tryz.func118 fK ha ho h
abbrev yr:FuncId:=119
def rC (v:List Value):Tree :=
 .newbox fun r0 =>
 pL (g v 39) (iv 0) fun v0 =>
 kV v0 <|
 pG (g v 39) (iv 1) fun v1 =>
 kV v0 <|
 pK v0 (.bool true) v1 fun v2 =>
 .br v2 (
 .ret (.slice none 0 0) []) (
 kN r0 <|
 c1 59 [ag (G38 v 1)] fun l3 =>
 pO (g l3 0) fun v4 =>
 .br v4 (
 .ret (.slice none 0 0) []) (
 kN r0 <|
 c1 148 [g v 0,ag (G38 v 1),g v 39,g v 40] fun l5 =>
 .ret (g l5 0) []))
theorem AY (vs:List Value):aQ PP Tryz.f119 (aB okL [(76,[5,6,7,8])] [] []) vs=rC vs:=by kernel_rfl
theorem BW {args vs} (ha:am PP Tryz.f119 args=some vs) (ho:Ones vs) {H O Q} (h:(rC vs).den PP Q H O):Triple PP yr args H O Q :=
 al mixed (an ay _ _ _) Tryz.func119 AY ha ho h
abbrev Ax:FuncId:=120
def uB (v:List Value):Tree :=
 .newbox fun r0 =>
 .newbox fun r1 =>
 kN r0 <|
 cS 72 [ag (G38 v 0),g v 38] (.tup [none,none]) fun l0 =>
 pN (g l0 1) (iv 0) fun v1 =>
 .br v1 (
 kN r1 <|
 kN r1 <|
 .ret (.tuple #[ag Z3,g l0 1]) []) (
 kN r0 <|
 pI 12 (g v 0) (g l0 0) fun v2 =>
 .load [] v2 12 fun l3 =>
 kN r1 <|
 kN r1 <|
 .ret (.tuple #[ag (G12 l3 0),iv 0]) [])
theorem Eh (vs:List Value):aQ PP Tryz.f120 (aB okL [(76,[5,6,7,8])] [] []) vs=uB vs:=by kernel_rfl
theorem EH {args vs} (ha:am PP Tryz.f120 args=some vs) (ho:Ones vs) {H O Q} (h:(uB vs).den PP Q H O):Triple PP Ax args H O Q :=
 al mixed (an ay _ _ _) Tryz.func120 Eh ha ho h
abbrev Eu:FuncId:=121
def yq (r1001:Nat) (i1002:Int):Tree :=
 kN r1001 <|
 kN r1001 <|
 .ret (.tuple #[ag Z0,iv i1002]) []
def wQ (v:List Value):Tree :=
 .newbox fun r0 =>
 .newbox fun r1 =>
 .newbox fun r2 =>
 kN r1 <|
 c1 142 [ag (G12 v 38)] fun l0 =>
 pO (g l0 0) fun v1 =>
 .br v1 (
 yq r2 2) (
 kN r0 <|
 kN r1 <|
 cS 72 [ag (G38 v 0),g v 38] (.tup [none,none]) fun l2 =>
 pN (g l2 1) (iv 0) fun v3 =>
 .br v3 (
 kN r2 <|
 kN r2 <|
 .ret (.tuple #[ag Z0,g l2 1]) []) (
 kN r0 <|
 pI 12 (g v 0) (g l2 0) fun v4 =>
 .load [] v4 12 fun l5 =>
 .newbox fun r3 =>
 kN r3 <|
 kN r3 <|
 kN r1 <|
 pN (g l5 1) (g v 39) fun v6 =>
 kN r3 <|
 kV v6 <|
 kN r1 <|
 kV v6 <|
 kV v6 <|
 kV v6 <|
 pN (g l5 2) (g v 40) fun v7 =>
 kV v6 <|
 pK v6 (.bool true) v7 fun v8 =>
 .br v8 (
 yq r2 8) (
 kN r0 <|
 cS 60 [ag (G38 v 0)] (.agg 38) fun l9 =>
 kN r0 <|
 kN r0 <|
 kN r1 <|
 pI 12 (g l9 0) (g l2 0) fun v10 =>
 kP v10 <|
 .store v10 (G12 v 38) <|
 kN r0 <|
 kN r2 <|
 kN r2 <|
 .ret (.tuple #[ag (G38 l9 0),iv 0]) [])))
theorem EX (vs:List Value):aQ PP Tryz.f121 (aB okL [(76,[5,6,7,8])] [] []) vs=wQ vs:=by kernel_rfl
theorem Gn {args vs} (ha:am PP Tryz.f121 args=some vs) (ho:Ones vs) {H O Q} (h:(wQ vs).den PP Q H O):Triple PP Eu args H O Q :=
 al mixed (an ay _ _ _) Tryz.func121 EX ha ho h
abbrev rU:FuncId:=122
def mR (v:List Value):Tree :=
 .pure [] .max2 [iv 0,g v 0] fun v0 =>
 .pure [] .max2 [iv 0,g v 1] fun v1 =>
 c1 83 [v0,v1,iv 99] fun l2 =>
 .ret (g l2 0) []
theorem Ba (vs:List Value):aQ PP Tryz.f122 (aB okL [(76,[5,6,7,8])] [] []) vs=mR vs:=by kernel_rfl
theorem tI {args vs} (ha:am PP Tryz.f122 args=some vs) (ho:Ones vs) {H O Q} (h:(mR vs).den PP Q H O):Triple PP rU args H O Q :=
 al mixed (an ay _ _ _) Tryz.func122 Ba ha ho h
abbrev Em:FuncId:=123
def ww (v:List Value):Tree :=
 .pure [] .min2 [g v 0,g v 1] fun v0 =>
 .pure [] .max2 [iv 0,v0] fun v1 =>
 .ret v1 []
theorem ES (vs:List Value):aQ PP Tryz.f123 (aB okL [(76,[5,6,7,8])] [] []) vs=ww vs:=by kernel_rfl
theorem Gi {args vs} (ha:am PP Tryz.f123 args=some vs) (ho:Ones vs) {H O Q} (h:(ww vs).den PP Q H O):Triple PP Em args H O Q :=
 al mixed (an ay _ _ _) Tryz.func123 ES ha ho h
abbrev zC:FuncId:=124
def u6 (v:List Value):Tree :=
 pA (g v 0) (g v 1) fun v0 =>
 pG (g v 0) (iv 0) fun v1 =>
 kV v1 <|
 pG (g v 1) (iv 0) fun v2 =>
 kV v1 <|
 pK v1 v2 (.bool false) fun v3 =>
 kV v3 <|
 pM v0 (iv 0) fun v4 =>
 kV v3 <|
 pK v3 v4 (.bool false) fun v5 =>
 .br v5 (
 .ret (iv 9223372036854775807) []) (
 pL (g v 0) (iv 0) fun v6 =>
 kV v6 <|
 pL (g v 1) (iv 0) fun v7 =>
 kV v6 <|
 pK v6 v7 (.bool false) fun v8 =>
 kV v8 <|
 pH v0 (iv 0) fun v9 =>
 kV v8 <|
 pK v8 v9 (.bool false) fun v10 =>
 .br v10 (
 .ret (iv (-9223372036854775808)) []) (
 .ret v0 []))
theorem Hj (vs:List Value):aQ PP Tryz.f124 (aB okL [(76,[5,6,7,8])] [] []) vs=u6 vs:=by kernel_rfl
theorem zL {args vs} (ha:am PP Tryz.f124 args=some vs) (ho:Ones vs) {H O Q} (h:(u6 vs).den PP Q H O):Triple PP zC args H O Q :=
 al mixed (an ay _ _ _) Tryz.func124 Hj ha ho h
abbrev yC:FuncId:=125
def rR (v:List Value):Tree :=
 .newbox fun r0 =>
 .newbox fun r1 =>
 .newbox fun r2 =>
 kN r0 <|
 kN r1 <|
 cS 72 [ag (G38 v 0),g v 38] (.tup [none,none]) fun l0 =>
 pN (g l0 1) (iv 0) fun v1 =>
 .br v1 (
 kN r2 <|
 kN r2 <|
 .ret (.tuple #[.agg #[iv 0,iv 0,iv 0],g l0 1]) []) (
 cS 76 [pt r0 1] (.agg 4) fun l2 =>
 kW (g l2 0) r0 6 <|
 kW (g l2 1) r0 7 <|
 kW (g l2 2) r0 8 <|
 kW (g l2 3) r0 9 <|
 kN r0 <|
 kN r1 <|
 c1 149 [g v 6,g v 38] fun l3 =>
 pH (g l3 0) (iv 0) fun v4 =>
 .br v4 (
 kN r2 <|
 kN r2 <|
 .ret (.tuple #[.agg #[iv 0,iv 0,g l3 0],iv 0]) []) (
 kN r0 <|
 kN r1 <|
 c1 149 [g v 7,g v 38] fun l5 =>
 pH (g l5 0) (iv 0) fun v6 =>
 .br v6 (
 kN r2 <|
 kN r2 <|
 .ret (.tuple #[.agg #[iv 0,iv 1,g l5 0],iv 0]) []) (
 kN r0 <|
 kN r1 <|
 c1 149 [g v 8,g v 38] fun l7 =>
 pH (g l7 0) (iv 0) fun v8 =>
 .br v8 (
 kN r2 <|
 kN r2 <|
 .ret (.tuple #[.agg #[iv 0,iv 2,g l7 0],iv 0]) []) (
 kN r0 <|
 kN r1 <|
 c1 149 [g v 9,g v 38] fun l9 =>
 pH (g l9 0) (iv 0) fun v10 =>
 .br v10 (
 kN r2 <|
 kN r2 <|
 .ret (.tuple #[.agg #[iv 0,iv 3,g l9 0],iv 0]) []) (
 cS 76 [pt r0 15] (.agg 4) fun l11 =>
 kW (g l11 0) r0 20 <|
 kW (g l11 1) r0 21 <|
 kW (g l11 2) r0 22 <|
 kW (g l11 3) r0 23 <|
 kN r0 <|
 kN r1 <|
 c1 149 [g v 20,g v 38] fun l12 =>
 pH (g l12 0) (iv 0) fun v13 =>
 .br v13 (
 kN r2 <|
 kN r2 <|
 .ret (.tuple #[.agg #[iv 1,iv 0,g l12 0],iv 0]) []) (
 kN r0 <|
 kN r1 <|
 c1 149 [g v 21,g v 38] fun l14 =>
 pH (g l14 0) (iv 0) fun v15 =>
 .br v15 (
 kN r2 <|
 kN r2 <|
 .ret (.tuple #[.agg #[iv 1,iv 1,g l14 0],iv 0]) []) (
 kN r0 <|
 kN r1 <|
 c1 149 [g v 22,g v 38] fun l16 =>
 pH (g l16 0) (iv 0) fun v17 =>
 .br v17 (
 kN r2 <|
 kN r2 <|
 .ret (.tuple #[.agg #[iv 1,iv 2,g l16 0],iv 0]) []) (
 kN r0 <|
 kN r1 <|
 c1 149 [g v 23,g v 38] fun l18 =>
 pH (g l18 0) (iv 0) fun v19 =>
 .br v19 (
 kN r2 <|
 kN r2 <|
 .ret (.tuple #[.agg #[iv 1,iv 3,g l18 0],iv 0]) []) (
 kN r0 <|
 .call false 137 [g v 29,.func (.func 150) #[] #[pt r1 0]] [] [⟨r1,3,[g v 38]⟩] .one fun l20 c20 =>
 kN r0 <|
 pI 5 (g v 29) (g l20 0) fun v21 =>
 kP v21 <|
 .load [] v21 1 fun l22 =>
 kN r2 <|
 kN r2 <|
 .ret (.tuple #[.agg #[g l22 0,iv 4,g l20 0],iv 0]) [])))))))))
theorem Bt (vs:List Value):aQ PP Tryz.f125 (aB okL [(76,[5,6,7,8])] [(5,.unroll 3),(8,.unroll 5)] []) vs=rR vs:=by kernel_rfl
theorem Cm {args vs} (ha:am PP Tryz.f125 args=some vs) (ho:Ones vs) {H O Q} (h:(rR vs).den PP Q H O):Triple PP yC args H O Q :=
 al mixed (an ay _ _ _) Tryz.func125 Bt ha ho h
abbrev Eo:FuncId:=126
def wJ (v:List Value):Tree :=
 pL (g v 0) (iv 1) fun v0 =>
 kV v0 <|
 pG (g v 0) (iv 4096) fun v1 =>
 kV v0 <|
 pK v0 (.bool true) v1 fun v2 =>
 .br v2 (
 .ret (.tuple #[.pointer none,iv 2]) []) (
 pA (g v 0) (iv 64) fun v3 =>
 pS v3 (iv 1) fun v4 =>
 .pure [] (.bin .quo .int) [v4,iv 64] fun v5 =>
 .prim (.makeSlice 204) [v5,v5] [] [] .one fun l6 _ =>
 .newbox fun r0 =>
 .ret (.tuple #[pt r0 0,iv 0]) [⟨r0,206,[g v 0,g l6 0]⟩])
theorem ET (vs:List Value):aQ PP Tryz.f126 (aB okL [(76,[5,6,7,8])] [] []) vs=wJ vs:=by kernel_rfl
theorem Gj {args vs} (ha:am PP Tryz.f126 args=some vs) (ho:Ones vs) {H O Q} (h:(wJ vs).den PP Q H O):Triple PP Eo args H O Q :=
 al mixed (an ay _ _ _) Tryz.func126 ET ha ho h
abbrev qq:FuncId:=127
def lk (v:List Value):Tree :=
 cS 151 [g v 0,g v 1] (.tup [none,none,none]) fun l0 =>
 pN (g l0 2) (iv 0) fun v1 =>
 .br v1 (
 .ret (g l0 2) []) (
 kP (g l0 0) <|
 .load [] (g l0 0) 1 fun l2 =>
 .pure [] (.bin .and .int) [g l2 0,g l0 1] fun v3 =>
 pN v3 (.int .u64 0) fun v4 =>
 .br v4 (
 .ret (iv 11) []) (
 kP (g l0 0) <|
 .load [] (g l0 0) 1 fun l5 =>
 .pure [] (.bin .or .int) [g l5 0,g l0 1] fun v6 =>
 kP (g l0 0) <|
 kP (g l0 0) <|
 .store (g l0 0) [v6] <|
 .ret (iv 0) []))
theorem vp (vs:List Value):aQ PP Tryz.f127 (aB okL [(76,[5,6,7,8])] [] []) vs=lk vs:=by kernel_rfl
theorem vZ {args vs} (ha:am PP Tryz.f127 args=some vs) (ho:Ones vs) {H O Q} (h:(lk vs).den PP Q H O):Triple PP qq args H O Q :=
 al mixed (an ay _ _ _) Tryz.func127 vp ha ho h
abbrev sg:FuncId:=128
def lY (v:List Value):Tree :=
 c1 152 [g v 0] fun l0 =>
 .br (g l0 0) (
 .ret (.tuple #[iv 0,iv 1]) []) (
 kP (g v 0) <|
 kP (g v 0) <|
 .load [] (be (g v 0) 1) 1 fun l1 =>
 pZ (g l1 0) fun v2 =>
 .loop 10 4 [iv 0] fun C10 l3 =>
 pL (g l3 0) v2 fun v4 =>
 .br v4 (
 pI 1 (g l1 0) (g l3 0) fun v5 =>
 .load [] v5 1 fun l6 =>
 .pure [] (.bin .mul .int) [iv 64,g l3 0] fun v7 =>
 .pure [] .compl [g l6 0] fun v8 =>
 c1 153 [v8] fun l9 =>
 pA v7 (g l9 0) fun v10 =>
 pA v10 (iv 1) fun v11 =>
 .pure [] .compl [g l6 0] fun v12 =>
 pN v12 (.int .u64 0) fun v13 =>
 .chk (.ptr [(v13,true)] (g v 0)) <|
 kV v13 <|
 .chk (.ptr [(v13,true)] (g v 0)) <|
 kV v13 <|
 kV v13 <|
 .load [(v13,true)] (g v 0) 1 fun l14 =>
 kV v13 <|
 kV v13 <|
 pM v11 (g l14 0) fun v15 =>
 kV v13 <|
 pK v13 v15 (.bool false) fun v16 =>
 .br v16 (
 kP (g v 0) <|
 kP (g v 0) <|
 .load [] (be (g v 0) 1) 1 fun l17 =>
 pI 1 (g l17 0) (g l3 0) fun v18 =>
 .load [] v18 1 fun l19 =>
 pA (g l6 0) (.int .u64 1) fun v20 =>
 .pure [] (.bin .or .int) [g l19 0,v20] fun v21 =>
 pI 1 (g l17 0) (g l3 0) fun v22 =>
 kP v22 <|
 .store v22 [v21] <|
 .ret (.tuple #[v11,iv 0]) []) (
 pA (g l3 0) (iv 1) fun v23 =>
 .cont 10 C10 [v23] (Es [[g v 0],[g l1 0],[v2]]))) (
 .ret (.tuple #[iv 0,iv 7]) []))
theorem wL (vs:List Value):aQ PP Tryz.f128 (aB okL [(76,[5,6,7,8])] [(4,.inv [14] [0,12,13] [])] []) vs=lY vs:=by kernel_rfl
theorem xh {args vs} (ha:am PP Tryz.f128 args=some vs) (ho:Ones vs) {H O Q} (h:(lY vs).den PP Q H O):Triple PP sg args H O Q :=
 al mixed (an ay _ _ _) Tryz.func128 wL ha ho h
abbrev vN:FuncId:=129
def o5 (v:List Value):Tree :=
 .newbox fun r0 =>
 c1 122 [iv 0,g v 2] fun l0 =>
 c1 122 [iv 0,g v 3] fun l1 =>
 kN r0 <|
 kN r0 <|
 .ret (.agg #[g v 0,iv (-1),g v 1,g l0 0,g l1 0,iv 0,iv 0,iv 0,iv 0,.bool false,.bool false,.bool false]) []
theorem zq (vs:List Value):aQ PP Tryz.f129 (aB okL [(76,[5,6,7,8])] [] []) vs=o5 vs:=by kernel_rfl
theorem AE {args vs} (ha:am PP Tryz.f129 args=some vs) (ho:Ones vs) {H O Q} (h:(o5 vs).den PP Q H O):Triple PP vN args H O Q :=
 al mixed (an ay _ _ _) Tryz.func129 zq ha ho h
abbrev dw:FuncId:=130
def cd (v:List Value):Tree :=
 .pure [] (.slc 12 true false false) [g v 0,g v 1] fun v0 =>
 pZ (g v 2) fun v1 =>
 pE v1 (iv 0) fun v2 =>
 .br v2 (
 .ret (g v 0) []) (
 pZ (g v 0) fun v3 =>
 pE (g v 1) v3 fun v4 =>
 .br v4 (
 .prim (.bi .append #[23,23] 23) [g v 0,g v 2] [] [] .one fun l5 _ =>
 .ret (g l5 0) []) (
 pA v3 v1 fun v6 =>
 .pure [] .cap [g v 0] fun v7 =>
 pG v6 v7 fun v8 =>
 .br v8 (
 .pure [] (.slc 12 false true false) [g v 0,g v 1] fun v9 =>
 pA v3 v1 fun v10 =>
 pS v10 (g v 1) fun v11 =>
 .prim (.bi .append #[23,3] 23) [v9,v11] [] [] .one fun l12 _ =>
 .pure [] (.slc 12 true false false) [g l12 0,g v 1] fun v13 =>
 .prim (.bi .copy #[23,23] 3) [v13,g v 2] [] [] .one fun l14 _ =>
 pA (g v 1) v1 fun v15 =>
 .pure [] (.slc 12 true false false) [g l12 0,v15] fun v16 =>
 .pure [] (.slc 12 true false false) [g v 0,g v 1] fun v17 =>
 .prim (.bi .copy #[23,23] 3) [v16,v17] [] [] .one fun l18 _ =>
 .ret (g l12 0) []) (
 pA v3 v1 fun v19 =>
 .pure [] (.slc 12 false true false) [g v 0,v19] fun v20 =>
 pA (g v 1) v1 fun v21 =>
 .pure [] (.slc 12 true false false) [v20,v21] fun v22 =>
 .prim (.intr 154) [g v 2,v22] [] [] .one fun l23 _ =>
 pO (g l23 0) fun v24 =>
 .br v24 (
 pA (g v 1) v1 fun v25 =>
 .pure [] (.slc 12 true false false) [v20,v25] fun v26 =>
 .pure [] (.slc 12 true false false) [v20,g v 1] fun v27 =>
 .prim (.bi .copy #[23,23] 3) [v26,v27] [] [] .one fun l28 _ =>
 .pure [] (.slc 12 true false false) [v20,g v 1] fun v29 =>
 .prim (.bi .copy #[23,23] 3) [v29,g v 2] [] [] .one fun l30 _ =>
 .ret v20 []) (
 .pure [] (.slc 12 true false false) [v20,v3] fun v31 =>
 .prim (.bi .copy #[23,23] 3) [v31,g v 2] [] [] .one fun l32 _ =>
 .pure [] (.slc 12 true false false) [v20,g v 1] fun v33 =>
 cS 155 [v33,v1] (.tup []) fun l34 =>
 .ret v20 []))))
theorem gA (vs:List Value):aQ PP Tryz.f130 (aB okL [(76,[5,6,7,8])] [] []) vs=cd vs:=by kernel_rfl
theorem gK {args vs} (ha:am PP Tryz.f130 args=some vs) (ho:Ones vs) {H O Q} (h:(cd vs).den PP Q H O):Triple PP dw args H O Q :=
 al mixed (an ay _ _ _) Tryz.func130 gA ha ho h
abbrev qo:FuncId:=131
def li (v:List Value):Tree :=
 .newbox fun r0 =>
 kN r0 <|
 pE (g v 2) (iv (-1)) fun v0 =>
 .br v0 (
 .ret (.bool true) []) (
 kN r0 <|
 cS 71 [g v 0,ag (G12 v 1)] (.agg 14) fun l1 =>
 pE (g l1 1) (iv 2) fun v2 =>
 .ret v2 [])
theorem vn (vs:List Value):aQ PP Tryz.f131 (aB okL [(76,[5,6,7,8])] [] []) vs=li vs:=by kernel_rfl
theorem vX {args vs} (ha:am PP Tryz.f131 args=some vs) (ho:Ones vs) {H O Q} (h:(li vs).den PP Q H O):Triple PP qo args H O Q :=
 al mixed (an ay _ _ _) Tryz.func131 vn ha ho h
abbrev cu:FuncId:=132
def eG (v:List Value):Tree :=
 c1 149 [g v 0,g v 1] fun l0 =>
 pH (g l0 0) (iv 0) fun v1 =>
 .ret v1 []
theorem mQ (vs:List Value):aQ PP Tryz.f132 (aB okL [(76,[5,6,7,8])] [] []) vs=eG vs:=by kernel_rfl
theorem ng {args vs} (ha:am PP Tryz.f132 args=some vs) (ho:Ones vs) {H O Q} (h:(eG vs).den PP Q H O):Triple PP cu args H O Q :=
 al mixed (an ay _ _ _) Tryz.func132 mQ ha ho h
abbrev yw:FuncId:=133
def rG (v:List Value):Tree :=
 .newbox fun r0 =>
 .newbox fun r1 =>
 kN r0 <|
 kN r0 <|
 c1 122 [g v 7,g v 12] fun l0 =>
 c1 122 [g v 8,g v 13] fun l1 =>
 kN r0 <|
 kN r0 <|
 kN r0 <|
 kN r1 <|
 kN r1 <|
 .ret (ag (G7 v 0++[g l0 0,g l1 0,g v 9,g v 10,g v 11])) []
theorem Bf (vs:List Value):aQ PP Tryz.f133 (aB okL [(76,[5,6,7,8])] [] []) vs=rG vs:=by kernel_rfl
theorem B2 {args vs} (ha:am PP Tryz.f133 args=some vs) (ho:Ones vs) {H O Q} (h:(rG vs).den PP Q H O):Triple PP yw args H O Q :=
 al mixed (an ay _ _ _) Tryz.func133 Bf ha ho h
abbrev vP:FuncId:=134
def o7 (v:List Value):Tree :=
 .newbox fun r0 =>
 .newbox fun r1 =>
 kN r0 <|
 c1 122 [g v 6,g v 12] fun l0 =>
 kN r0 <|
 kN r0 <|
 kN r1 <|
 kN r1 <|
 .ret (ag (G6 v 0++((g l0 0)::G5 v 7))) []
theorem zt (vs:List Value):aQ PP Tryz.f134 (aB okL [(76,[5,6,7,8])] [] []) vs=o7 vs:=by kernel_rfl
theorem AH {args vs} (ha:am PP Tryz.f134 args=some vs) (ho:Ones vs) {H O Q} (h:(o7 vs).den PP Q H O):Triple PP vP args H O Q :=
 al mixed (an ay _ _ _) Tryz.func134 zt ha ho h
abbrev mz:FuncId:=135
def iO (v:List Value):Tree :=
 pH (g v 0) (iv 0) fun v0 =>
 kV v0 <|
 pM (g v 0) (iv 99) fun v1 =>
 kV v0 <|
 pK v0 v1 (.bool false) fun v2 =>
 .ret v2 []
theorem ru (vs:List Value):aQ PP Tryz.f135 (aB okL [(76,[5,6,7,8])] [] []) vs=iO vs:=by kernel_rfl
theorem sE {args vs} (ha:am PP Tryz.f135 args=some vs) (ho:Ones vs) {H O Q} (h:(iO vs).den PP Q H O):Triple PP mz args H O Q :=
 al mixed (an ay _ _ _) Tryz.func135 ru ha ho h
end Go.Proofs.YtdhobpmnkfmcfaaGreatDoor
