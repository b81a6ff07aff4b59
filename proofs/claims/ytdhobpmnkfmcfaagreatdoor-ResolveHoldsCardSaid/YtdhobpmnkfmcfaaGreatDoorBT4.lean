/- The trees of the functions of this seat: printed by a tool of mine; each by the kernel's reckoning equal to the evaluator's. -/
import Derived.Test.YtdhobpmnkfmcfaaGreatDoorBT3
namespace Go.Proofs.YtdhobpmnkfmcfaaGreatDoor
open Go Go.Sx
set_option maxRecDepth 100000
abbrev jL:FuncId:=34
def iu (l1004:List Value) (C1005:List Value→Heap→Own→Prop) (l1006 l1007:List Value) (r1008 n1009:Nat) (v1010:Value):Tree :=
 pA (g l1004 1) (iv 1) fun v10 =>
 .cont 10 C1005 [g l1006 0,v10] (Es [[g l1007 0],[pt r1008 0],[g l1007 n1009],[v1010],((pt r1008 0)::G38 l1007 1)])
def iw (r1001:Nat) (l1002:List Value) (n1003:Nat):Tree :=
 kN r1001 <|
 pZ (g l1002 n1003) fun v0 =>
 .loop 10 3 [.slice none 0 0,iv 0] fun C10 l1 =>
 pL (g l1 1) v0 fun v2 =>
 .br v2 (
 pI 1 (g l1002 n1003) (g l1 1) fun v3 =>
 .load [] v3 1 fun l4 =>
 kN r1001 <|
 kN r1001 <|
 c1 55 [ag (G38 l1002 1),g l4 0] fun l5 =>
 pI 12 (g l1002 1) (g l5 0) fun v6 =>
 .load [] v6 12 fun l7 =>
 c1 67 [g l1002 0,ag (G12 l7 0)] fun l8 =>
 .br (g l8 0) (
 .newbox fun r1 =>
 .prim (.bi .append #[26,26] 26) [g l1 0,.slice (some ⟨r1,0,none⟩) 1 1] [⟨r1,3,[g l4 0]⟩] [] .one fun l9 _ =>
 iu l1 C10 l9 l1002 r1001 n1003 v0) (
 iu l1 C10 l1 l1002 r1001 n1003 v0)) (
 c1 36 [g l1 0] fun l12 =>
 .ret (g l12 0) [])
def eV (v:List Value):Tree :=
 .newbox fun r0 =>
 .sw (g v 39) 0 (
 iw r0 v 9) (
 .sw (g v 39) 1 (
 iw r0 v 23) (
 .stuck 901))
theorem nB (vs:List Value):aQ PP Tryz.f34 (aB okL [(76,[5,6,7,8])] [(3,.inv [7,16] [0,4,14,15] [(4,[])])] []) vs=eV vs:=by kernel_rfl
theorem nT {args vs} (ha:am PP Tryz.f34 args=some vs) (ho:Ones vs) {H O Q} (h:(eV vs).den PP Q H O):Triple PP jL args H O Q :=
 al mixed (an ay _ _ _) Tryz.func34 nB ha ho h
abbrev kM:FuncId:=35
def fV (v:List Value):Tree :=
 .loop 3 3 [.slice none 0 0,iv 0] fun C3 l0 =>
 pZ (g v 0) fun v1 =>
 pL (g l0 1) v1 fun v2 =>
 .br v2 (
 pI 1 (g v 0) (g l0 1) fun v3 =>
 .load [] v3 1 fun l4 =>
 .newbox fun r0 =>
 .prim (.bi .append #[51,51] 51) [g l0 0,.slice (some ⟨r0,0,none⟩) 1 1] [⟨r0,41,[g l4 0,iv 0]⟩] [] .one fun l5 _ =>
 pA (g l0 1) (iv 1) fun v6 =>
 .cont 3 C3 [g l5 0,v6] (Es [[g v 0]])) (
 .ret (g l0 0) [])
theorem oP (vs:List Value):aQ PP Tryz.f35 (aB okL [(76,[5,6,7,8])] [(3,.inv [3,4] [0] [])] []) vs=fV vs:=by kernel_rfl
theorem py {args vs} (ha:am PP Tryz.f35 args=some vs) (ho:Ones vs) {H O Q} (h:(fV vs).den PP Q H O):Triple PP kM args H O Q :=
 al mixed (an ay _ _ _) Tryz.func35 oP ha ho h
abbrev lM:FuncId:=36
def hU (v:List Value):Tree :=
 .loop 3 3 [.slice none 0 0,iv 0] fun C3 l0 =>
 pZ (g v 0) fun v1 =>
 pL (g l0 1) v1 fun v2 =>
 .br v2 (
 .loop 9 6 [iv 0] fun C9 l3 =>
 pZ (g l0 0) fun v4 =>
 pL (g l3 0) v4 fun v5 =>
 kV v5 <|
 kV v5 <|
 .pure [(v5,true)] (.idx 1) [g l0 0,g l3 0] fun v6 =>
 kV v5 <|
 .load [(v5,true)] v6 1 fun l7 =>
 kV v5 <|
 kV v5 <|
 .pure [(v5,true)] (.idx 1) [g v 0,g l0 1] fun v8 =>
 kV v5 <|
 .load [(v5,true)] v8 1 fun l9 =>
 kV v5 <|
 kV v5 <|
 pL (g l7 0) (g l9 0) fun v10 =>
 kV v5 <|
 pK v5 v10 (.bool false) fun v11 =>
 .br v11 (
 pA (g l3 0) (iv 1) fun v12 =>
 .cont 9 C9 [v12] (Es [[g v 0],[g l0 0],[g l0 1]])) (
 pI 1 (g v 0) (g l0 1) fun v13 =>
 .load [] v13 1 fun l14 =>
 .pure [] (.slc 1 true false false) [g l0 0,g l3 0] fun v15 =>
 .newbox fun r0 =>
 .prim (.bi .append #[26,26] 26) [.slice (some ⟨r0,0,none⟩) 1 1,v15] [⟨r0,3,[g l14 0]⟩] [] .one fun l16 _ =>
 .pure [] (.slc 1 false true false) [g l0 0,g l3 0] fun v17 =>
 .prim (.bi .append #[26,26] 26) [.slice none 0 0,v17] [] [] .one fun l18 _ =>
 .prim (.bi .append #[26,26] 26) [g l18 0,g l16 0] [] [] .one fun l19 _ =>
 pA (g l0 1) (iv 1) fun v20 =>
 .cont 3 C3 [g l19 0,v20] (Es [[g v 0]]))) (
 .ret (g l0 0) [])
theorem qj (vs:List Value):aQ PP Tryz.f36 (aB okL [(76,[5,6,7,8])] [(3,.inv [3,4] [0] []),(6,.inv [5] [0,3,4] [])] []) vs=hU vs:=by kernel_rfl
theorem qF {args vs} (ha:am PP Tryz.f36 args=some vs) (ho:Ones vs) {H O Q} (h:(hU vs).den PP Q H O):Triple PP lM args H O Q :=
 al mixed (an ay _ _ _) Tryz.func36 qj ha ho h
abbrev mi:FuncId:=37
def iE (v:List Value):Tree :=
 .newbox fun r0 =>
 kN r0 <|
 cS 50 [g v 0,.agg #[iv 0,g v 3,iv 0,iv 0,iv 0,iv 0,iv 0,iv 0,iv 0,.bool false,.bool false,.bool false]] (.agg 14) fun l0 =>
 .newbox fun r1 =>
 kN r1 <|
 kN r0 <|
 pE (g v 4) (iv (-1)) fun v1 =>
 kN r1 <|
 kV v1 <|
 kV v1 <|
 pE (g l0 1) (iv 3) fun v2 =>
 kV v1 <|
 kN r1 <|
 kV v2 <|
 kV v1 <|
 kV v2 <|
 kV v1 <|
 pE (g l0 1) (iv 4) fun v3 =>
 kV v1 <|
 kV v2 <|
 kV v1 <|
 pK v2 (.bool true) v3 fun v4 =>
 kV v1 <|
 pK v1 v4 (.bool false) fun v5 =>
 .br v5 (
 kN r0 <|
 pZ (g v 5) fun v6 =>
 kN r1 <|
 c1 68 [g l0 11] fun l7 =>
 pZ (g l7 0) fun v8 =>
 pH v6 v8 fun v9 =>
 .ret v9 []) (
 .ret (.bool false) [])
theorem re (vs:List Value):aQ PP Tryz.f37 (aB okL [(76,[5,6,7,8])] [] []) vs=iE vs:=by kernel_rfl
theorem sk {args vs} (ha:am PP Tryz.f37 args=some vs) (ho:Ones vs) {H O Q} (h:(iE vs).den PP Q H O):Triple PP mi args H O Q :=
 al mixed (an ay _ _ _) Tryz.func37 re ha ho h
abbrev lL:FuncId:=38
def hJ (v:List Value):Tree :=
 .loop 3 3 [.slice none 0 0,iv 0] fun C3 l0 =>
 pZ (g v 0) fun v1 =>
 pL (g l0 1) v1 fun v2 =>
 .br v2 (
 pI 5 (g v 0) (g l0 1) fun v3 =>
 .load [] v3 5 fun l4 =>
 .newbox fun r0 =>
 kN r0 <|
 kN r0 <|
 .prim (.bi .append #[51,51] 51) [.slice none 0 0,g l4 4] [] [] .one fun l5 _ =>
 kN r0 <|
 kN r0 <|
 .newbox fun r1 =>
 .prim (.bi .append #[30,30] 30) [g l0 0,.slice (some ⟨r1,0,none⟩) 1 1] [⟨r1,56,(G4 l4 0++[g l5 0])⟩] [] .one fun l6 _ =>
 pA (g l0 1) (iv 1) fun v7 =>
 .cont 3 C3 [g l6 0,v7] (Es [[g v 0]])) (
 .ret (g l0 0) [])
theorem qi (vs:List Value):aQ PP Tryz.f38 (aB okL [(76,[5,6,7,8])] [(3,.inv [3,4] [0] [])] []) vs=hJ vs:=by kernel_rfl
theorem qE {args vs} (ha:am PP Tryz.f38 args=some vs) (ho:Ones vs) {H O Q} (h:(hJ vs).den PP Q H O):Triple PP lL args H O Q :=
 al mixed (an ay _ _ _) Tryz.func38 qi ha ho h
abbrev An:FuncId:=39
def uq (v:List Value):Tree :=
 .newbox fun r0 =>
 kN r0 <|
 pZ (g v 30) fun v0 =>
 pE v0 (iv 0) fun v1 =>
 .br v1 (
 .ret (iv 0) []) (
 kN r0 <|
 c1 59 [ag (G38 v 1)] fun l2 =>
 pO (g l2 0) fun v3 =>
 kN r0 <|
 kV v3 <|
 kV v3 <|
 pS v0 (iv 1) fun v4 =>
 kV v3 <|
 kV v3 <|
 .pure [(v3,false)] (.idx 5) [g v 30,v4] fun v5 =>
 .chk (.ptr [(v3,false)] v5) <|
 kV v3 <|
 kV v3 <|
 .load [(v3,false)] (be v5 3) 1 fun l6 =>
 kV v3 <|
 pN (g l6 0) (iv (-1)) fun v7 =>
 kV v3 <|
 pK v3 (.bool true) v7 fun v8 =>
 .br v8 (
 .ret (iv 0) []) (
 kN r0 <|
 pS v0 (iv 1) fun v9 =>
 pI 5 (g v 30) v9 fun v10 =>
 .load [] v10 5 fun l11 =>
 .newbox fun r1 =>
 kN r1 <|
 kN r1 <|
 c1 43 [g v 0,ag (G5 l11 0)] fun l12 =>
 c1 69 [g l12 0] fun l13 =>
 kN r1 <|
 pZ (g l11 4) fun v14 =>
 pZ (g l13 0) fun v15 =>
 pL v14 v15 fun v16 =>
 kV v16 <|
 pL v14 (iv 4) fun v17 =>
 kV v16 <|
 pK v16 v17 (.bool false) fun v18 =>
 .br v18 (
 pI 1 (g l13 0) v14 fun v19 =>
 .load [] v19 1 fun l20 =>
 .ret (g l20 0) []) (
 .ret (iv 0) [])))
theorem D8 (vs:List Value):aQ PP Tryz.f39 (aB okL [(76,[5,6,7,8])] [] []) vs=uq vs:=by kernel_rfl
theorem EB {args vs} (ha:am PP Tryz.f39 args=some vs) (ho:Ones vs) {H O Q} (h:(uq vs).den PP Q H O):Triple PP An args H O Q :=
 al mixed (an ay _ _ _) Tryz.func39 D8 ha ho h
abbrev wR:FuncId:=40
def yp (r1001 r1002:Nat) (i1003:Int):Tree :=
 kN r1001 <|
 kN r1002 <|
 kN r1001 <|
 kN r1002 <|
 .ret (.tuple #[ag Z0,.agg #[iv 0,iv 0,iv 0,iv 0,.slice none 0 0],iv i1003]) []
def rD (v:List Value):Tree :=
 .newbox fun r0 =>
 .newbox fun r1 =>
 .newbox fun r2 =>
 kN r0 <|
 c1 59 [ag (G38 v 0)] fun l0 =>
 pO (g l0 0) fun v1 =>
 .br v1 (
 yp r1 r2 2) (
 kN r0 <|
 pZ (g v 29) fun v2 =>
 pE v2 (iv 0) fun v3 =>
 .br v3 (
 yp r1 r2 9) (
 kN r0 <|
 cS 60 [ag (G38 v 0)] (.agg 38) fun l4 =>
 .newbox fun r3 =>
 kN r3 <|
 kN r3 <|
 pS v2 (iv 1) fun v5 =>
 pI 5 (g l4 29) v5 fun v6 =>
 .load [] v6 5 fun l7 =>
 .newbox fun r4 =>
 kN r4 <|
 kN r4 <|
 pE (g l7 3) (iv (-1)) fun v8 =>
 .br v8 (
 kN r0 <|
 kN r4 <|
 cS 42 [ag (G38 v 0),g l7 1,iv 3] (.tup [some 38,none]) fun l9 =>
 kN r3 <|
 kN r3 <|
 kN r4 <|
 kN r1 <|
 kN r2 <|
 kN r1 <|
 kN r2 <|
 .ret (.tuple #[ag (G38 l9 0),ag (G5 l7 0),iv 0]) []) (
 kN r3 <|
 pS v2 (iv 1) fun v10 =>
 .pure [] (.slc 5 false true false) [g l4 29,v10] fun v11 =>
 kN r3 <|
 kN r3 <|
 kN r4 <|
 kN r1 <|
 kN r2 <|
 kN r1 <|
 kN r2 <|
 .ret (.tuple #[ag (G29 l4 0++(v11::G8 l4 30)),ag (G5 l7 0),iv 0]) [])))
theorem ER (vs:List Value):aQ PP Tryz.f40 (aB okL [(76,[5,6,7,8])] [] []) vs=rD vs:=by kernel_rfl
theorem xc {args vs} (ha:am PP Tryz.f40 args=some vs) (ho:Ones vs) {H O Q} (h:(rD vs).den PP Q H O):Triple PP wR args H O Q :=
 al mixed (an ay _ _ _) Tryz.func40 ER ha ho h
abbrev rV:FuncId:=41
def mS (v:List Value):Tree :=
 .newbox fun r0 =>
 .newbox fun r1 =>
 kN r0 <|
 cS 71 [g v 0,ag (G12 v 1)] (.agg 14) fun l0 =>
 cS 70 [ag (G14 l0 0)] (.agg 14) fun l1 =>
 kN r1 <|
 kN r1 <|
 .ret (ag (G14 l1 0)) []
theorem Bg (vs:List Value):aQ PP Tryz.f41 (aB okL [(76,[5,6,7,8])] [] []) vs=mS vs:=by kernel_rfl
theorem tJ {args vs} (ha:am PP Tryz.f41 args=some vs) (ho:Ones vs) {H O Q} (h:(mS vs).den PP Q H O):Triple PP rV args H O Q :=
 al mixed (an ay _ _ _) Tryz.func41 Bg ha ho h
abbrev Aw:FuncId:=42
def vG (r1020:Nat):Tree :=
 kN r1020 <|
 kN r1020 <|
 .ret (.tuple #[ag Z0,iv 2]) []
def dJ (r1001 r1002:Nat) (l1003 l1004:List Value) (n1005:Nat) (l1006:List Value) (n1007:Nat) (l1008:List Value) (n1009:Nat) (l1010:List Value) (n1011:Nat) (l1012:List Value) (n1013:Nat) (l1014:List Value) (n1015:Nat) (l1016:List Value) (n1017:Nat) (l1018:List Value) (n1019:Nat):Tree :=
 kN r1001 <|
 kN r1001 <|
 kN r1002 <|
 kN r1002 <|
 .ret (.tuple #[ag (G6 l1003 0++((g l1004 n1005)::((g l1006 n1007)::((g l1008 n1009)::((g l1010 n1011)::(G10 l1003 10++((g l1012 n1013)::((g l1014 n1015)::((g l1016 n1017)::((g l1018 n1019)::G14 l1003 24)))))))))),iv 0]) []
def uA (v:List Value):Tree :=
 .newbox fun r0 =>
 .newbox fun r1 =>
 kN r0 <|
 cS 72 [ag (G38 v 0),g v 38] (.tup [none,none]) fun l0 =>
 pE (g l0 1) (iv 2) fun v1 =>
 .br v1 (
 vG r1) (
 c1 73 [g v 39,iv 0,iv 3] fun l2 =>
 pO (g l2 0) fun v3 =>
 .br v3 (
 vG r1) (
 pN (g l0 1) (iv 0) fun v4 =>
 .br v4 (
 kN r1 <|
 kN r1 <|
 .ret (.tuple #[ag Z0,g l0 1]) []) (
 kN r0 <|
 cS 74 [ag (G38 v 0),g v 38] (.agg 38) fun l5 =>
 kN r0 <|
 kN r0 <|
 pI 12 (g l5 0) (g l0 0) fun v6 =>
 .load [] v6 12 fun l7 =>
 cS 75 [ag (G12 l7 0),g v 39] (.agg 12) fun l8 =>
 .newbox fun r2 =>
 kN r2 <|
 kN r0 <|
 kN r2 <|
 pI 12 (g l5 0) (g l0 0) fun v9 =>
 kP v9 <|
 .store v9 (G12 l8 0) <|
 kN r2 <|
 .sw (g l8 2) 0 (
 cS 76 [pt r0 1] (.agg 4) fun l10 =>
 kW (g l10 0) r0 6 <|
 kW (g l10 1) r0 7 <|
 kW (g l10 2) r0 8 <|
 kW (g l10 3) r0 9 <|
 .sw (g v 39) 0 (
 kN r0 <|
 .newbox fun r3 =>
 .prim (.bi .append #[26,26] 26) [g l5 6,.slice (some ⟨r3,0,none⟩) 1 1] [⟨r3,3,[g v 38]⟩] [] .one fun l11 _ =>
 dJ r0 r1 l5 l11 0 l5 7 l5 8 l5 9 l5 20 l5 21 l5 22 l5 23) (
 .sw (g v 39) 1 (
 kN r0 <|
 .newbox fun r4 =>
 .prim (.bi .append #[26,26] 26) [g l5 7,.slice (some ⟨r4,0,none⟩) 1 1] [⟨r4,3,[g v 38]⟩] [] .one fun l12 _ =>
 dJ r0 r1 l5 l5 6 l12 0 l5 8 l5 9 l5 20 l5 21 l5 22 l5 23) (
 .sw (g v 39) 2 (
 kN r0 <|
 .newbox fun r5 =>
 .prim (.bi .append #[26,26] 26) [g l5 8,.slice (some ⟨r5,0,none⟩) 1 1] [⟨r5,3,[g v 38]⟩] [] .one fun l13 _ =>
 dJ r0 r1 l5 l5 6 l5 7 l13 0 l5 9 l5 20 l5 21 l5 22 l5 23) (
 .sw (g v 39) 3 (
 kN r0 <|
 .newbox fun r6 =>
 .prim (.bi .append #[26,26] 26) [g l5 9,.slice (some ⟨r6,0,none⟩) 1 1] [⟨r6,3,[g v 38]⟩] [] .one fun l14 _ =>
 dJ r0 r1 l5 l5 6 l5 7 l5 8 l14 0 l5 20 l5 21 l5 22 l5 23) (
 .stuck 901))))) (
 .sw (g l8 2) 1 (
 cS 76 [pt r0 15] (.agg 4) fun l15 =>
 kW (g l15 0) r0 20 <|
 kW (g l15 1) r0 21 <|
 kW (g l15 2) r0 22 <|
 kW (g l15 3) r0 23 <|
 .sw (g v 39) 0 (
 kN r0 <|
 .newbox fun r7 =>
 .prim (.bi .append #[26,26] 26) [g l5 20,.slice (some ⟨r7,0,none⟩) 1 1] [⟨r7,3,[g v 38]⟩] [] .one fun l16 _ =>
 dJ r0 r1 l5 l5 6 l5 7 l5 8 l5 9 l16 0 l5 21 l5 22 l5 23) (
 .sw (g v 39) 1 (
 kN r0 <|
 .newbox fun r8 =>
 .prim (.bi .append #[26,26] 26) [g l5 21,.slice (some ⟨r8,0,none⟩) 1 1] [⟨r8,3,[g v 38]⟩] [] .one fun l17 _ =>
 dJ r0 r1 l5 l5 6 l5 7 l5 8 l5 9 l5 20 l17 0 l5 22 l5 23) (
 .sw (g v 39) 2 (
 kN r0 <|
 .newbox fun r9 =>
 .prim (.bi .append #[26,26] 26) [g l5 22,.slice (some ⟨r9,0,none⟩) 1 1] [⟨r9,3,[g v 38]⟩] [] .one fun l18 _ =>
 dJ r0 r1 l5 l5 6 l5 7 l5 8 l5 9 l5 20 l5 21 l18 0 l5 23) (
 .sw (g v 39) 3 (
 kN r0 <|
 .newbox fun r10 =>
 .prim (.bi .append #[26,26] 26) [g l5 23,.slice (some ⟨r10,0,none⟩) 1 1] [⟨r10,3,[g v 38]⟩] [] .one fun l19 _ =>
 dJ r0 r1 l5 l5 6 l5 7 l5 8 l5 9 l5 20 l5 21 l5 22 l19 0) (
 .stuck 901))))) (
 .stuck 901)))))
theorem Eg (vs:List Value):aQ PP Tryz.f42 (aB okL [(76,[5,6,7,8])] [] []) vs=uA vs:=by kernel_rfl
theorem EG {args vs} (ha:am PP Tryz.f42 args=some vs) (ho:Ones vs) {H O Q} (h:(uA vs).den PP Q H O):Triple PP Aw args H O Q :=
 al mixed (an ay _ _ _) Tryz.func42 Eg ha ho h
abbrev uJ:FuncId:=43
def nC (v:List Value):Tree :=
 .newbox fun r0 =>
 kN r0 <|
 cS 41 [g v 0,.agg #[iv 0,g v 3,iv 0,iv 0,iv 0,iv 0,iv 0,iv 0,iv 0,.bool false,.bool false,.bool false]] (.agg 14) fun l0 =>
 .newbox fun r1 =>
 kN r1 <|
 kN r0 <|
 pE (g v 4) (iv (-1)) fun v1 =>
 .br v1 (
 kN r1 <|
 .ret (g l0 11) []) (
 kN r0 <|
 pL (g v 4) (iv 0) fun v2 =>
 kN r0 <|
 kV v2 <|
 kN r1 <|
 kV v2 <|
 kV v2 <|
 pZ (g l0 12) fun v3 =>
 kV v2 <|
 kV v2 <|
 pH (g v 4) v3 fun v4 =>
 kV v2 <|
 pK v2 (.bool true) v4 fun v5 =>
 .br v5 (
 .ret (.slice none 0 0) []) (
 kN r1 <|
 kN r0 <|
 pI 2 (g l0 12) (g v 4) fun v6 =>
 kP v6 <|
 .load [] (be v6 1) 1 fun l7 =>
 .ret (g l7 0) []))
theorem yf (vs:List Value):aQ PP Tryz.f43 (aB okL [(76,[5,6,7,8])] [] []) vs=nC vs:=by kernel_rfl
theorem yN {args vs} (ha:am PP Tryz.f43 args=some vs) (ho:Ones vs) {H O Q} (h:(nC vs).den PP Q H O):Triple PP uJ args H O Q :=
 al mixed (an ay _ _ _) Tryz.func43 yf ha ho h
abbrev sc:FuncId:=44
def fB (r1051 r1052:Nat) (l1053:List Value) (r1054:Nat):Tree :=
 kN r1051 <|
 kN r1052 <|
 c1 81 [g l1053 16,g l1053 43,iv 9999] fun l30 =>
 kN r1051 <|
 kN r1051 <|
 kN r1054 <|
 kN r1054 <|
 .ret (ag (G15 l1053 1++((g l30 0)::G22 l1053 17))) []
def gm (r1047 r1048:Nat) (l1049:List Value) (r1050:Nat):Tree :=
 kN r1047 <|
 kN r1048 <|
 c1 81 [g l1049 2,g l1049 43,iv 9999] fun l6 =>
 kN r1047 <|
 kN r1047 <|
 kN r1050 <|
 kN r1050 <|
 .ret (ag ((g l1049 1)::((g l6 0)::G36 l1049 3))) []
def gn (r1043:Nat) (l1044:List Value) (n1045 r1046:Nat):Tree :=
 kN r1043 <|
 cS 84 [ag (G38 l1044 1),g l1044 n1045] (.tup [some 38,none]) fun l16 =>
 kN r1043 <|
 kN r1043 <|
 kN r1046 <|
 kN r1046 <|
 .ret (ag (G38 l16 0)) []
def gp (r1039:Nat) (l1040:List Value) (n1041 r1042:Nat):Tree :=
 kN r1039 <|
 cS 42 [ag (G38 l1040 1),g l1040 n1041,iv 1] (.tup [some 38,none]) fun l14 =>
 kN r1039 <|
 kN r1039 <|
 kN r1042 <|
 kN r1042 <|
 .ret (ag (G38 l14 0)) []
def gq (r1034 r1035:Nat) (l1036:List Value) (n1037 r1038:Nat):Tree :=
 kN r1034 <|
 kN r1035 <|
 cS 82 [ag (G38 l1036 1),g l1036 n1037,g l1036 43] (.tup [some 38,none]) fun l8 =>
 kN r1034 <|
 kN r1034 <|
 kN r1038 <|
 kN r1038 <|
 .ret (ag (G38 l8 0)) []
def gu (r1029:Nat) (l1030:List Value) (n1031 r1032 r1033:Nat):Tree :=
 kN r1029 <|
 .call false 78 [ag (G38 l1030 1),g l1030 n1031,.func (.func 79) #[] #[pt r1032 0]] [] [⟨r1032,39,(G5 l1030 41)⟩] (.agg 38) fun l5 c5 =>
 kN r1033 <|
 kN r1033 <|
 .ret (ag (G38 l5 0)) []
def gv (r1025 r1026:Nat) (l1027:List Value) (r1028:Nat):Tree :=
 kN r1025 <|
 kN r1026 <|
 kN r1026 <|
 cS 85 [ag (G38 l1027 1),g l1027 39,g l1027 43,g l1027 44,g l1027 48] (.tup [some 38,none,none]) fun l18 =>
 kN r1025 <|
 kN r1025 <|
 kN r1028 <|
 kN r1028 <|
 .ret (ag (G38 l18 0)) []
def gw (r1020:Nat) (l1021:List Value) (n1022 r1023 r1024:Nat):Tree :=
 kN r1020 <|
 c1 86 [g l1021 0,ag (G38 l1021 1),g l1021 n1022] fun l24 =>
 pO (g l24 0) fun v25 =>
 .br v25 (
 kN r1020 <|
 kN r1023 <|
 kN r1023 <|
 .ret (ag (G38 l1021 1)) []) (
 kN r1020 <|
 .call false 78 [ag (G38 l1021 1),g l1021 n1022,.func (.func 87) #[] #[pt r1024 0]] [] [⟨r1024,39,(G5 l1021 41)⟩] (.agg 38) fun l26 c26 =>
 kN r1023 <|
 kN r1023 <|
 .ret (ag (G38 l26 0)) [])
def aW (l1007:List Value) (r1008 r1009:Nat) (l1010:List Value) (n1011:Nat) (l1012:List Value) (n1013 n1014 n1015 n1016 n1017 n1018 n1019:Nat):Tree :=
 .sw (g l1007 45) 0 (
 kN r1008 <|
 kN r1008 <|
 kN r1009 <|
 kN r1009 <|
 .ret (ag ((g l1007 1)::((g l1007 2)::((g l1010 n1011)::(G13 l1007 4++((g l1012 n1013)::G21 l1007 18)))))) []) (
 .sw (g l1007 45) 1 (
 kN r1008 <|
 kN r1008 <|
 kN r1009 <|
 kN r1009 <|
 .ret (ag ((g l1007 1)::((g l1007 2)::((g l1007 3)::((g l1010 n1014)::(G13 l1007 5++((g l1012 n1015)::G20 l1007 19))))))) []) (
 .sw (g l1007 45) 2 (
 kN r1008 <|
 kN r1008 <|
 kN r1009 <|
 kN r1009 <|
 .ret (ag (G4 l1007 1++((g l1010 n1016)::(G13 l1007 6++((g l1012 n1017)::G19 l1007 20))))) []) (
 .sw (g l1007 45) 3 (
 kN r1008 <|
 kN r1008 <|
 kN r1009 <|
 kN r1009 <|
 .ret (ag (G5 l1007 1++((g l1010 n1018)::(G13 l1007 7++((g l1012 n1019)::G18 l1007 21))))) []) (
 .stuck 901))))
def cM (l1001:List Value) (n1002 r1003 n1004 r1005 r1006:Nat):Tree :=
 .sw (g l1001 n1002) 0 (
 kN r1003 <|
 pE (g l1001 41) (iv 1) fun v3 =>
 .br v3 (
 pG (g l1001 n1004) (iv 0) fun v4 =>
 .br v4 (
 gu r1005 l1001 n1004 r1003 r1006) (
 gm r1005 r1003 l1001 r1006)) (
 pE (g l1001 41) (iv 2) fun v7 =>
 .br v7 (
 gq r1005 r1003 l1001 n1002 r1006) (
 pE (g l1001 41) (iv 3) fun v9 =>
 .br v9 (
 kN r1005 <|
 kN r1003 <|
 c1 83 [g l1001 2,g l1001 43,iv 9999] fun l10 =>
 kN r1005 <|
 kN r1005 <|
 kN r1006 <|
 kN r1006 <|
 .ret (ag ((g l1001 1)::((g l10 0)::G36 l1001 3))) []) (
 pE (g l1001 41) (iv 4) fun v11 =>
 .br v11 (
 gm r1005 r1003 l1001 r1006) (
 pE (g l1001 41) (iv 6) fun v13 =>
 .br v13 (
 gp r1005 l1001 n1004 r1006) (
 pE (g l1001 41) (iv 7) fun v15 =>
 .br v15 (
 gn r1005 l1001 n1004 r1006) (
 pE (g l1001 41) (iv 10) fun v17 =>
 .br v17 (
 gv r1005 r1003 l1001 r1006) (
 pE (g l1001 41) (iv 12) fun v19 =>
 .br v19 (
 kN r1003 <|
 kN r1003 <|
 .sw (g l1001 45) 0 (
 kN r1005 <|
 kN r1003 <|
 c1 83 [g l1001 3,g l1001 43,iv 99] fun l20 =>
 aW l1001 r1005 r1006 l20 0 l1001 17 0 18 0 19 0 20) (
 .sw (g l1001 45) 1 (
 kN r1005 <|
 kN r1003 <|
 c1 83 [g l1001 4,g l1001 43,iv 99] fun l21 =>
 aW l1001 r1005 r1006 l21 0 l1001 17 0 18 0 19 0 20) (
 .sw (g l1001 45) 2 (
 kN r1005 <|
 kN r1003 <|
 c1 83 [g l1001 5,g l1001 43,iv 99] fun l22 =>
 aW l1001 r1005 r1006 l22 0 l1001 17 0 18 0 19 0 20) (
 .sw (g l1001 45) 3 (
 kN r1005 <|
 kN r1003 <|
 c1 83 [g l1001 6,g l1001 43,iv 99] fun l23 =>
 aW l1001 r1005 r1006 l23 0 l1001 17 0 18 0 19 0 20) (
 .stuck 901))))) (
 gw r1005 l1001 n1004 r1006 r1003))))))))) (
 .sw (g l1001 n1002) 1 (
 kN r1003 <|
 pE (g l1001 41) (iv 1) fun v27 =>
 .br v27 (
 pG (g l1001 n1004) (iv 0) fun v28 =>
 .br v28 (
 gu r1005 l1001 n1004 r1003 r1006) (
 fB r1005 r1003 l1001 r1006)) (
 pE (g l1001 41) (iv 2) fun v31 =>
 .br v31 (
 gq r1005 r1003 l1001 n1002 r1006) (
 pE (g l1001 41) (iv 3) fun v33 =>
 .br v33 (
 kN r1005 <|
 kN r1003 <|
 c1 83 [g l1001 16,g l1001 43,iv 9999] fun l34 =>
 kN r1005 <|
 kN r1005 <|
 kN r1006 <|
 kN r1006 <|
 .ret (ag (G15 l1001 1++((g l34 0)::G22 l1001 17))) []) (
 pE (g l1001 41) (iv 4) fun v35 =>
 .br v35 (
 fB r1005 r1003 l1001 r1006) (
 pE (g l1001 41) (iv 6) fun v37 =>
 .br v37 (
 gp r1005 l1001 n1004 r1006) (
 pE (g l1001 41) (iv 7) fun v39 =>
 .br v39 (
 gn r1005 l1001 n1004 r1006) (
 pE (g l1001 41) (iv 10) fun v41 =>
 .br v41 (
 gv r1005 r1003 l1001 r1006) (
 pE (g l1001 41) (iv 12) fun v43 =>
 .br v43 (
 kN r1003 <|
 kN r1003 <|
 .sw (g l1001 45) 0 (
 kN r1005 <|
 kN r1003 <|
 c1 83 [g l1001 17,g l1001 43,iv 99] fun l44 =>
 aW l1001 r1005 r1006 l1001 3 l44 0 4 0 5 0 6 0) (
 .sw (g l1001 45) 1 (
 kN r1005 <|
 kN r1003 <|
 c1 83 [g l1001 18,g l1001 43,iv 99] fun l45 =>
 aW l1001 r1005 r1006 l1001 3 l45 0 4 0 5 0 6 0) (
 .sw (g l1001 45) 2 (
 kN r1005 <|
 kN r1003 <|
 c1 83 [g l1001 19,g l1001 43,iv 99] fun l46 =>
 aW l1001 r1005 r1006 l1001 3 l46 0 4 0 5 0 6 0) (
 .sw (g l1001 45) 3 (
 kN r1005 <|
 kN r1003 <|
 c1 83 [g l1001 20,g l1001 43,iv 99] fun l47 =>
 aW l1001 r1005 r1006 l1001 3 l47 0 4 0 5 0 6 0) (
 .stuck 901))))) (
 gw r1005 l1001 n1004 r1006 r1003))))))))) (
 .stuck 901))
def lU (v:List Value):Tree :=
 .newbox fun r0 =>
 .newbox fun r1 =>
 .newbox fun r2 =>
 .newbox fun r3 =>
 kN r1 <|
 pN (g v 42) (iv 0) fun v0 =>
 .br v0 (
 kN r0 <|
 kN r1 <|
 kN r2 <|
 c1 77 [g v 0,ag (G38 v 1),g v 39,g v 42,.agg #[g v 46,g v 47]] fun l1 =>
 pO (g l1 0) fun v2 =>
 .br v2 (
 kN r0 <|
 kN r3 <|
 kN r3 <|
 .ret (ag (G38 v 1)) []) (
 kN r2 <|
 kN r2 <|
 cM v 47 r1 46 r0 r3)) (
 cM v 39 r1 40 r0 r3)
theorem wx (vs:List Value):aQ PP Tryz.f44 (aB okL [(76,[5,6,7,8])] [] []) vs=lU vs:=by kernel_rfl
theorem xd {args vs} (ha:am PP Tryz.f44 args=some vs) (ho:Ones vs) {H O Q} (h:(lU vs).den PP Q H O):Triple PP sc args H O Q :=
 al mixed (an ay _ _ _) Tryz.func44 wx ha ho h
abbrev nP:FuncId:=45
def ju (v:List Value):Tree :=
 .newbox fun r0 =>
 kN r0 <|
 pL (g v 0) (iv 0) fun v0 =>
 kN r0 <|
 kV v0 <|
 kV v0 <|
 pG (g v 0) (iv 1) fun v1 =>
 kV v0 <|
 pK v0 (.bool true) v1 fun v2 =>
 kN r0 <|
 kV v2 <|
 kV v2 <|
 pL (g v 1) (iv 1) fun v3 =>
 kV v2 <|
 pK v2 (.bool true) v3 fun v4 =>
 kN r0 <|
 kV v4 <|
 kV v4 <|
 pG (g v 1) (iv 500) fun v5 =>
 kV v4 <|
 pK v4 (.bool true) v5 fun v6 =>
 kN r0 <|
 kV v6 <|
 kV v6 <|
 pL (g v 2) (iv 0) fun v7 =>
 kV v6 <|
 pK v6 (.bool true) v7 fun v8 =>
 kN r0 <|
 kV v8 <|
 kV v8 <|
 pG (g v 2) (iv 399) fun v9 =>
 kV v8 <|
 pK v8 (.bool true) v9 fun v10 =>
 kN r0 <|
 kV v10 <|
 kV v10 <|
 pL (g v 3) (iv (-1)) fun v11 =>
 kV v10 <|
 pK v10 (.bool true) v11 fun v12 =>
 kN r0 <|
 kV v12 <|
 kV v12 <|
 pG (g v 3) (iv 1) fun v13 =>
 kV v12 <|
 pK v12 (.bool true) v13 fun v14 =>
 kN r0 <|
 kV v14 <|
 kV v14 <|
 pZ (g v 4) fun v15 =>
 kV v14 <|
 pG v15 (iv 4) fun v16 =>
 kV v14 <|
 pK v14 (.bool true) v16 fun v17 =>
 .br v17 (
 .ret (.bool false) []) (
 kN r0 <|
 pH (g v 3) (iv 0) fun v18 =>
 kN r0 <|
 kV v18 <|
 kV v18 <|
 pZ (g v 4) fun v19 =>
 kV v18 <|
 pG v19 (iv 0) fun v20 =>
 kV v18 <|
 pK v18 v20 (.bool false) fun v21 =>
 kV v21 <|
 kN r0 <|
 kV (g v 5) <|
 kV v21 <|
 kV (g v 5) <|
 kV v21 <|
 pL (g v 3) (iv 0) fun v22 =>
 kV v21 <|
 kV (g v 5) <|
 kV v21 <|
 pK (g v 5) v22 (.bool false) fun v23 =>
 kV v21 <|
 pK v21 (.bool true) v23 fun v24 =>
 .br v24 (
 .ret (.bool false) []) (
 .loop 64 6 [iv 0] fun C64 l25 =>
 kN r0 <|
 pZ (g v 4) fun v26 =>
 pL (g l25 0) v26 fun v27 =>
 .br v27 (
 kN r0 <|
 pI 2 (g v 4) (g l25 0) fun v28 =>
 .load [] v28 2 fun l29 =>
 .newbox fun r1 =>
 kN r1 <|
 kN r1 <|
 pL (g l29 0) (iv 0) fun v30 =>
 kN r1 <|
 kV v30 <|
 kV v30 <|
 pG (g l29 0) (iv 500) fun v31 =>
 kV v30 <|
 pK v30 (.bool true) v31 fun v32 =>
 kN r1 <|
 kV v32 <|
 kV v32 <|
 pL (g l29 1) (iv 0) fun v33 =>
 kV v32 <|
 pK v32 (.bool true) v33 fun v34 =>
 kN r1 <|
 kV v34 <|
 kV v34 <|
 pG (g l29 1) (iv 1) fun v35 =>
 kV v34 <|
 pK v34 (.bool true) v35 fun v36 =>
 kN r1 <|
 kV v36 <|
 kV v36 <|
 pG (g l29 0) (iv 0) fun v37 =>
 kV v36 <|
 kN r1 <|
 kV v37 <|
 kV v36 <|
 kV v37 <|
 kV v36 <|
 pN (g l29 1) (iv 0) fun v38 =>
 kV v36 <|
 kV v37 <|
 kV v36 <|
 pK v37 v38 (.bool false) fun v39 =>
 kV v36 <|
 pK v36 (.bool true) v39 fun v40 =>
 .br v40 (
 .ret (.bool false) []) (
 pA (g l25 0) (iv 1) fun v41 =>
 .cont 64 C64 [v41] (Es [[pt r0 0],((pt r0 0)::G5 v 0)]))) (
 .ret (.bool true) [])))
theorem sU (vs:List Value):aQ PP Tryz.f45 (aB okL [(76,[5,6,7,8])] [(6,.inv [5] [2] [(2,[])])] []) vs=ju vs:=by kernel_rfl
theorem tB {args vs} (ha:am PP Tryz.f45 args=some vs) (ho:Ones vs) {H O Q} (h:(ju vs).den PP Q H O):Triple PP nP args H O Q :=
 al mixed (an ay _ _ _) Tryz.func45 sU ha ho h
abbrev nN:FuncId:=46
def jr (v:List Value):Tree :=
 .newbox fun r0 =>
 kN r0 <|
 pL (g v 1) (iv 0) fun v0 =>
 kV v0 <|
 pG (g v 1) (iv 99) fun v1 =>
 kV v0 <|
 pK v0 (.bool true) v1 fun v2 =>
 .br v2 (
 .ret (.bool false) []) (
 pL (g v 2) (iv 0) fun v3 =>
 kV v3 <|
 pG (g v 2) (iv 99) fun v4 =>
 kV v3 <|
 pK v3 (.bool true) v4 fun v5 =>
 .br v5 (
 .ret (.bool false) []) (
 pL (g v 3) (iv 0) fun v6 =>
 kV v6 <|
 pG (g v 3) (iv 99) fun v7 =>
 kV v6 <|
 pK v6 (.bool true) v7 fun v8 =>
 .br v8 (
 .ret (.bool false) []) (
 pL (g v 4) (iv 0) fun v9 =>
 kV v9 <|
 pG (g v 4) (iv 99) fun v10 =>
 kV v9 <|
 pK v9 (.bool true) v10 fun v11 =>
 .br v11 (
 .ret (.bool false) []) (
 kN r0 <|
 pH (g v 0) (iv 0) fun v12 =>
 kN r0 <|
 kV v12 <|
 kV v12 <|
 pM (g v 0) (iv 9999) fun v13 =>
 kV v12 <|
 pK v12 v13 (.bool false) fun v14 =>
 kN r0 <|
 kV v14 <|
 kV v14 <|
 pH (g v 12) (iv 0) fun v15 =>
 kV v14 <|
 pK v14 v15 (.bool false) fun v16 =>
 kN r0 <|
 kV v16 <|
 kV v16 <|
 pM (g v 12) (iv 7) fun v17 =>
 kV v16 <|
 pK v16 v17 (.bool false) fun v18 =>
 kN r0 <|
 kV v18 <|
 kV v18 <|
 pH (g v 13) (iv 0) fun v19 =>
 kV v18 <|
 pK v18 v19 (.bool false) fun v20 =>
 kN r0 <|
 kV v20 <|
 kV v20 <|
 pM (g v 13) (iv 255) fun v21 =>
 kV v20 <|
 pK v20 v21 (.bool false) fun v22 =>
 .ret v22 []))))
theorem sR (vs:List Value):aQ PP Tryz.f46 (aB okL [(76,[5,6,7,8])] [(2,.unroll 5)] []) vs=jr vs:=by kernel_rfl
theorem tu {args vs} (ha:am PP Tryz.f46 args=some vs) (ho:Ones vs) {H O Q} (h:(jr vs).den PP Q H O):Triple PP nN args H O Q :=
 al mixed (an ay _ _ _) Tryz.func46 sR ha ho h
abbrev mo:FuncId:=47
def iI (v:List Value):Tree :=
 .newbox fun r0 =>
 kN r0 <|
 cS 29 [ag (G14 v 1)] (.agg 4) fun l0 =>
 pZ (g l0 0) fun v1 =>
 pA (iv 0) v1 fun v2 =>
 pZ (g l0 1) fun v3 =>
 pA v2 v3 fun v4 =>
 pZ (g l0 2) fun v5 =>
 pA v4 v5 fun v6 =>
 pZ (g l0 3) fun v7 =>
 pA v6 v7 fun v8 =>
 kN r0 <|
 cS 29 [ag (G14 v 15)] (.agg 4) fun l9 =>
 pZ (g l9 0) fun v10 =>
 pA v8 v10 fun v11 =>
 pZ (g l9 1) fun v12 =>
 pA v11 v12 fun v13 =>
 pZ (g l9 2) fun v14 =>
 pA v13 v14 fun v15 =>
 pZ (g l9 3) fun v16 =>
 pA v15 v16 fun v17 =>
 .loop 111 11 [v17,iv 0] fun C111 l18 =>
 kN r0 <|
 pZ (g v 29) fun v19 =>
 pL (g l18 1) v19 fun v20 =>
 .br v20 (
 kN r0 <|
 pI 5 (g v 29) (g l18 1) fun v21 =>
 .load [] v21 5 fun l22 =>
 .newbox fun r1 =>
 kN r1 <|
 kN r1 <|
 pH (g l22 3) (iv 0) fun v23 =>
 .br v23 (
 pA (g l18 1) (iv 1) fun v24 =>
 .cont 111 C111 [g l18 0,v24] (Es [[pt r0 0],((pt r0 0)::G38 v 0)])) (
 pA (g l18 0) (iv 1) fun v25 =>
 kN r0 <|
 kN r1 <|
 c1 55 [ag (G38 v 0),g l22 1] fun l26 =>
 pL (g l26 0) (iv 0) fun v27 =>
 kN r0 <|
 kV v27 <|
 kV v27 <|
 kV v27 <|
 .pure [(v27,false)] (.idx 12) [g v 0,g l26 0] fun v28 =>
 .chk (.ptr [(v27,false)] v28) <|
 kV v27 <|
 kV v27 <|
 .load [(v27,false)] (be v28 1) 1 fun l29 =>
 kN r1 <|
 kV v27 <|
 kV v27 <|
 kV v27 <|
 pN (g l29 0) (g l22 2) fun v30 =>
 kV v27 <|
 pK v27 (.bool true) v30 fun v31 =>
 .br v31 (
 .ret (.bool false) []) (
 pA (g l18 1) (iv 1) fun v32 =>
 .cont 111 C111 [v25,v32] (Es [[pt r0 0],((pt r0 0)::G38 v 0)])))) (
 .loop 118 20 [iv 0] fun C118 l33 =>
 kN r0 <|
 pZ (g v 0) fun v34 =>
 pL (g l33 0) v34 fun v35 =>
 .br v35 (
 kN r0 <|
 pI 12 (g v 0) (g l33 0) fun v36 =>
 .load [] v36 12 fun l37 =>
 .newbox fun r2 =>
 kN r2 <|
 kN r2 <|
 c1 89 [ag (G12 l37 0)] fun l38 =>
 pO (g l38 0) fun v39 =>
 kV v39 <|
 pG (g l33 0) (iv 0) fun v40 =>
 kV v39 <|
 kN r0 <|
 kV v40 <|
 kV v39 <|
 kV v40 <|
 kV v39 <|
 pS (g l33 0) (iv 1) fun v41 =>
 kV v40 <|
 kV v39 <|
 kV v40 <|
 kV v39 <|
 .pure [(v40,true),(v39,false)] (.idx 12) [g v 0,v41] fun v42 =>
 .chk (.ptr [(v40,true),(v39,false)] v42) <|
 kV v40 <|
 kV v39 <|
 kV v40 <|
 kV v39 <|
 .load [(v40,true),(v39,false)] v42 1 fun l43 =>
 kN r2 <|
 kV v40 <|
 kV v39 <|
 kV v40 <|
 kV v39 <|
 kV v40 <|
 kV v39 <|
 pH (g l43 0) (g l37 0) fun v44 =>
 kV v39 <|
 kV v40 <|
 kV v39 <|
 pK v40 v44 (.bool false) fun v45 =>
 kV v39 <|
 pK v39 (.bool true) v45 fun v46 =>
 .br v46 (
 .ret (.bool false) []) (
 kN r0 <|
 kN r2 <|
 kN r2 <|
 c1 90 [ag (G38 v 0),g l37 2,g l37 0] fun l47 =>
 pN (g l47 0) (iv 1) fun v48 =>
 .br v48 (
 .ret (.bool false) []) (
 pA (g l33 0) (iv 1) fun v49 =>
 .cont 118 C118 [v49] (Es [[pt r0 0],[g l18 0],((pt r0 0)::G38 v 0)])))) (
 kN r0 <|
 pZ (g v 0) fun v50 =>
 pE (g l18 0) v50 fun v51 =>
 .ret v51 []))
theorem rk (vs:List Value):aQ PP Tryz.f47 (aB okL [(76,[5,6,7,8])] [(3,.unroll 3),(6,.unroll 5),(11,.inv [3,7] [1] [(1,[])]),(20,.inv [10] [1,3] [(1,[])])] []) vs=iI vs:=by kernel_rfl
theorem sr {args vs} (ha:am PP Tryz.f47 args=some vs) (ho:Ones vs) {H O Q} (h:(iI vs).den PP Q H O):Triple PP mo args H O Q :=
 al mixed (an ay _ _ _) Tryz.func47 rk ha ho h
abbrev lK:FuncId:=48
def kr (l1013:List Value) (n1014:Nat) (C1015:List Value→Heap→Own→Prop) (r1016:Nat) (l1017:List Value):Tree :=
 pA (g l1013 0) (iv 1) fun v11 =>
 .cont n1014 C1015 [v11] (Es [[pt r1016 0],((pt r1016 0)::G38 l1017 0)])
def ku (r1008:Nat) (l1009 l1010:List Value) (n1011:Nat) (C1012:List Value→Heap→Own→Prop):Tree :=
 kN r1008 <|
 kN r1008 <|
 pI 1 (g l1009 31) (g l1010 0) fun v7 =>
 .load [] v7 1 fun l8 =>
 c1 91 [g l1009 n1011,g l8 0] fun l9 =>
 pN (g l9 0) (iv 1) fun v10 =>
 .br v10 (
 .ret (.bool false) []) (
 kr l1010 3 C1012 r1008 l1009)
def kw (r1001 r1002:Nat) (l1003:List Value) (n1004:Nat) (l1005 l1006:List Value) (C1007:List Value→Heap→Own→Prop):Tree :=
 kN r1001 <|
 kN r1002 <|
 c1 91 [g l1003 n1004,g l1005 0] fun l25 =>
 pN (g l25 0) (iv 1) fun v26 =>
 .br v26 (
 .ret (.bool false) []) (
 .loop 43 13 [iv 0] fun C43 l27 =>
 pL (g l27 0) (g l1006 0) fun v28 =>
 .br v28 (
 kN r1001 <|
 pI 2 (g l1003 32) (g l27 0) fun v29 =>
 kP v29 <|
 .load [] (be v29 1) 1 fun l30 =>
 kN r1002 <|
 pE (g l30 0) (g l1005 1) fun v31 =>
 kN r1001 <|
 kV v31 <|
 kV v31 <|
 kV v31 <|
 .pure [(v31,false)] (.idx 2) [g l1003 32,g l27 0] fun v32 =>
 .chk (.ptr [(v31,false)] v32) <|
 kV v31 <|
 kV v31 <|
 .load [(v31,false)] v32 1 fun l33 =>
 kN r1002 <|
 kV v31 <|
 kV v31 <|
 kV v31 <|
 pE (g l33 0) (g l1005 0) fun v34 =>
 kV v31 <|
 pK v31 (.bool true) v34 fun v35 =>
 .br v35 (
 .ret (.bool false) []) (
 pA (g l27 0) (iv 1) fun v36 =>
 .cont 43 C43 [v36] (Es [[pt r1001 0],[g l1006 0],[pt r1002 0],((pt r1001 0)::G38 l1003 0),[pt r1002 0,g l1005 0,g l1005 1]]))) (
 kr l1006 10 C1007 r1001 l1003))
def gZ (v:List Value):Tree :=
 .newbox fun r0 =>
 .loop 3 2 [iv 0] fun C3 l0 =>
 kN r0 <|
 pZ (g v 31) fun v1 =>
 pL (g l0 0) v1 fun v2 =>
 .br v2 (
 kN r0 <|
 kN r0 <|
 pI 1 (g v 31) (g l0 0) fun v3 =>
 .load [] v3 1 fun l4 =>
 c1 91 [g v 31,g l4 0] fun l5 =>
 pN (g l5 0) (iv 1) fun v6 =>
 .br v6 (
 .ret (.bool false) []) (
 kN r0 <|
 .sw (g v 34) 0 (
 ku r0 v l0 8 C3) (
 .sw (g v 34) 1 (
 ku r0 v l0 22 C3) (
 .stuck 901)))) (
 .loop 10 7 [iv 0] fun C10 l17 =>
 kN r0 <|
 pZ (g v 32) fun v18 =>
 pL (g l17 0) v18 fun v19 =>
 .br v19 (
 kN r0 <|
 pI 2 (g v 32) (g l17 0) fun v20 =>
 .load [] v20 2 fun l21 =>
 .newbox fun r1 =>
 kN r1 <|
 kN r0 <|
 kN r1 <|
 c1 91 [g v 31,g l21 1] fun l22 =>
 pN (g l22 0) (iv 1) fun v23 =>
 .br v23 (
 .ret (.bool false) []) (
 kN r0 <|
 pS (iv 1) (g v 34) fun v24 =>
 .sw v24 0 (
 kw r0 r1 v 8 l21 l17 C10) (
 .sw v24 1 (
 kw r0 r1 v 22 l21 l17 C10) (
 .stuck 901)))) (
 .ret (.bool true) []))
theorem qh (vs:List Value):aQ PP Tryz.f48 (aB okL [(76,[5,6,7,8])] [(2,.inv [3] [1] [(1,[])]),(7,.inv [4] [1] [(1,[])]),(13,.inv [6] [1,4,5] [(1,[]),(5,[])])] []) vs=gZ vs:=by kernel_rfl
theorem qD {args vs} (ha:am PP Tryz.f48 args=some vs) (ho:Ones vs) {H O Q} (h:(gZ vs).den PP Q H O):Triple PP lK args H O Q :=
 al mixed (an ay _ _ _) Tryz.func48 qh ha ho h
abbrev jD:FuncId:=50
def fw (v:List Value):Tree :=
 .newbox fun r0 =>
 .newbox fun r1 =>
 kN r0 <|
 pL (g v 2) (iv 0) fun v0 =>
 kN r0 <|
 kV v0 <|
 kV v0 <|
 pZ (g v 0) fun v1 =>
 kV v0 <|
 kV v0 <|
 pH (g v 2) v1 fun v2 =>
 kV v0 <|
 pK v0 (.bool true) v2 fun v3 =>
 .br v3 (
 kN r1 <|
 kN r1 <|
 .ret (ag Z2) []) (
 kN r0 <|
 pI 14 (g v 0) (g v 2) fun v4 =>
 .load [] v4 14 fun l5 =>
 kN r1 <|
 kN r1 <|
 .ret (ag (G14 l5 0)) [])
theorem sY (vs:List Value):aQ PP Tryz.f50 (aB okL [(76,[5,6,7,8])] [] []) vs=fw vs:=by kernel_rfl
theorem lw {args vs} (ha:am PP Tryz.f50 args=some vs) (ho:Ones vs) {H O Q} (h:(fw vs).den PP Q H O):Triple PP jD args H O Q :=
 al mixed (an ay _ _ _) Tryz.func50 sY ha ho h
abbrev Ep:FuncId:=53
def kA (v1001:Value) (r1002:Nat) (l1003:List Value) (r1004:Nat):Tree :=
 .br v1001 (
 .prim (.mkIface 151 false) [.slice (some ⟨r1002,0,none⟩) 3 3] [⟨r1002,36,[iv 1,iv 2,iv 3]⟩] [] .one fun l8 _ =>
 .ret (g l8 0) []) (
 pE (g l1003 0) (iv 7) fun v9 =>
 .br v9 (
 .newbox fun r4 =>
 .prim (.mkIface 151 false) [.slice (some ⟨r4,0,none⟩) 1 1] [⟨r4,36,[iv 6]⟩] [] .one fun l10 _ =>
 .ret (g l10 0) []) (
 pE (g l1003 0) (iv 8) fun v11 =>
 .br v11 (
 .call false 92 [.slice (some ⟨r1002,0,none⟩) 3 3] [⟨r1002,36,[iv 1,iv 2,iv 3]⟩] [] .one fun l12 _ =>
 .newbox fun r5 =>
 .prim (.bi .append #[151,151] 151) [g l12 0,.slice (some ⟨r5,0,none⟩) 1 1] [⟨r5,36,[iv 0]⟩] [] .one fun l13 _ =>
 .ret (.iface 156 (.agg #[g l13 0,iv 0])) []) (
 pE (g l1003 0) (iv 9) fun v14 =>
 .br v14 (
 .call false 92 [.slice (some ⟨r1002,0,none⟩) 3 3] [⟨r1002,36,[iv 1,iv 2,iv 3]⟩] [] .one fun l15 _ =>
 .newbox fun r6 =>
 .prim (.bi .append #[151,151] 151) [g l15 0,.slice (some ⟨r6,0,none⟩) 1 1] [⟨r6,36,[iv 0]⟩] [] .one fun l16 _ =>
 .ret (.iface 154 (.agg #[g l16 0,iv 9])) []) (
 pE (g l1003 0) (iv 10) fun v17 =>
 .br v17 (
 .prim (.mkIface 156 true) [.slice (some ⟨r1004,0,none⟩) 1 1,iv 1] [⟨r1004,36,[iv 0]⟩] [] .one fun l18 _ =>
 .ret (g l18 0) []) (
 pE (g l1003 0) (iv 12) fun v19 =>
 .br v19 (
 .prim (.mkIface 158 true) [.slice (some ⟨r1004,0,none⟩) 1 1,iv 9] [⟨r1004,36,[iv 0]⟩] [] .one fun l20 _ =>
 .ret (g l20 0) []) (
 .ret .nilIface []))))))
def mT (v1005:Value) (r1006:Nat) (l1007:List Value) (r1008 r1009:Nat):Tree :=
 .br v1005 (
 .prim (.mkIface 154 true) [.slice (some ⟨r1006,0,none⟩) 2 2,iv 99] [⟨r1006,36,[iv 0,iv 4]⟩] [] .one fun l6 _ =>
 .ret (g l6 0) []) (
 pE (g l1007 0) (iv 5) fun v7 =>
 .br v7 (
 kA v7 r1008 l1007 r1009) (
 pE (g l1007 0) (iv 6) fun v21 =>
 .br v21 (
 kA v21 r1008 l1007 r1009) (
 pE (g l1007 0) (iv 11) fun v35 =>
 kA v35 r1008 l1007 r1009)))
def wM (v:List Value):Tree :=
 .newbox fun r0 =>
 .newbox fun r1 =>
 .newbox fun r2 =>
 pE (g v 0) (iv 1) fun v0 =>
 .br v0 (
 .call false 92 [.slice (some ⟨r2,0,none⟩) 3 3] [⟨r2,36,[iv 1,iv 2,iv 3]⟩] [] .one fun l1 _ =>
 .newbox fun r3 =>
 .prim (.bi .append #[151,151] 151) [g l1 0,.slice (some ⟨r3,0,none⟩) 2 2] [⟨r3,36,[iv 4,iv 5]⟩] [] .one fun l2 _ =>
 .ret (.iface 154 (.agg #[g l2 0,iv 99])) []) (
 pE (g v 0) (iv 2) fun v3 =>
 .br v3 (
 .prim (.mkIface 154 true) [.slice (some ⟨r1,0,none⟩) 2 2,iv 7] [⟨r1,36,[iv 0,iv 4]⟩] [] .one fun l4 _ =>
 .ret (g l4 0) []) (
 pE (g v 0) (iv 3) fun v5 =>
 .br v5 (
 mT v5 r1 v r2 r0) (
 pE (g v 0) (iv 4) fun v49 =>
 mT v49 r1 v r2 r0)))
theorem EU (vs:List Value):aQ PP Tryz.f53 (aB okL [(76,[5,6,7,8])] [] []) vs=wM vs:=by kernel_rfl
theorem Gl {args vs} (ha:am PP Tryz.f53 args=some vs) (ho:Ones vs) {H O Q} (h:(wM vs).den PP Q H O):Triple PP Ep args H O Q :=
 al mixed (an ay _ _ _) Tryz.func53 EU ha ho h
abbrev mA:FuncId:=54
def iP (v:List Value):Tree :=
 .newbox fun r0 =>
 .newbox fun r1 =>
 kN r0 <|
 cS 93 [ag (G12 v 0)] (.agg 12) fun l0 =>
 kN r0 <|
 pE (g v 12) (iv 2) fun v1 =>
 kN r0 <|
 kN r0 <|
 kN r0 <|
 kN r0 <|
 kN r0 <|
 kN r1 <|
 kN r1 <|
 .ret (ag (G6 l0 0++[iv 0,g l0 7,g l0 8,.bool false,v1,.bool false])) []
theorem rx (vs:List Value):aQ PP Tryz.f54 (aB okL [(76,[5,6,7,8])] [] []) vs=iP vs:=by kernel_rfl
theorem sF {args vs} (ha:am PP Tryz.f54 args=some vs) (ho:Ones vs) {H O Q} (h:(iP vs).den PP Q H O):Triple PP mA args H O Q :=
 al mixed (an ay _ _ _) Tryz.func54 rx ha ho h
abbrev mt:FuncId:=55
def iL (v:List Value):Tree :=
 .newbox fun r0 =>
 .loop 3 2 [iv 0] fun C3 l0 =>
 kN r0 <|
 pZ (g v 0) fun v1 =>
 pL (g l0 0) v1 fun v2 =>
 .br v2 (
 kN r0 <|
 pI 12 (g v 0) (g l0 0) fun v3 =>
 kP v3 <|
 .load [] v3 1 fun l4 =>
 pE (g l4 0) (g v 38) fun v5 =>
 .br v5 (
 .ret (g l0 0) []) (
 pA (g l0 0) (iv 1) fun v6 =>
 .cont 3 C3 [v6] (Es [[g v 38],[pt r0 0],((pt r0 0)::G38 v 0)]))) (
 .ret (iv (-1)) [])
theorem rn (vs:List Value):aQ PP Tryz.f55 (aB okL [(76,[5,6,7,8])] [(2,.inv [5] [1,2] [(2,[])])] []) vs=iL vs:=by kernel_rfl
theorem sB {args vs} (ha:am PP Tryz.f55 args=some vs) (ho:Ones vs) {H O Q} (h:(iL vs).den PP Q H O):Triple PP mt args H O Q :=
 al mixed (an ay _ _ _) Tryz.func55 rn ha ho h
abbrev oq:FuncId:=56
def mf (r1001 r1002:Nat) (l1003:List Value):Tree :=
 kN r1001 <|
 kN r1002 <|
 kN r1002 <|
 .ret (ag (G38 l1003 0)) []
def kg (v:List Value):Tree :=
 .newbox fun r0 =>
 .newbox fun r1 =>
 .newbox fun r2 =>
 kN r1 <|
 .sw (g v 40) 0 (
 pE (g v 50) (iv 0) fun v0 =>
 .br v0 (
 kN r0 <|
 kN r1 <|
 .prim (.bi .append #[26,26] 26) [.slice none 0 0,g v 6] [] [] .one fun l1 _ =>
 .newbox fun r3 =>
 .prim (.bi .append #[26,26] 26) [g l1 0,.slice (some ⟨r3,0,none⟩) 1 1] [⟨r3,3,[g v 38]⟩] [] .one fun l2 _ =>
 kN r0 <|
 kN r0 <|
 kN r2 <|
 kN r2 <|
 .ret (ag (G6 v 0++((g l2 0)::G31 v 7))) []) (
 pE (g v 50) (iv 1) fun v3 =>
 .br v3 (
 kN r0 <|
 kN r1 <|
 .prim (.bi .append #[26,26] 26) [.slice none 0 0,g v 7] [] [] .one fun l4 _ =>
 .newbox fun r4 =>
 .prim (.bi .append #[26,26] 26) [g l4 0,.slice (some ⟨r4,0,none⟩) 1 1] [⟨r4,3,[g v 38]⟩] [] .one fun l5 _ =>
 kN r0 <|
 kN r0 <|
 kN r2 <|
 kN r2 <|
 .ret (ag (G7 v 0++((g l5 0)::G30 v 8))) []) (
 pE (g v 50) (iv 2) fun v6 =>
 .br v6 (
 kN r0 <|
 kN r1 <|
 .prim (.bi .append #[26,26] 26) [.slice none 0 0,g v 8] [] [] .one fun l7 _ =>
 .newbox fun r5 =>
 .prim (.bi .append #[26,26] 26) [g l7 0,.slice (some ⟨r5,0,none⟩) 1 1] [⟨r5,3,[g v 38]⟩] [] .one fun l8 _ =>
 kN r0 <|
 kN r0 <|
 kN r2 <|
 kN r2 <|
 .ret (ag (G8 v 0++((g l8 0)::G29 v 9))) []) (
 pE (g v 50) (iv 3) fun v9 =>
 .br v9 (
 kN r0 <|
 kN r1 <|
 .prim (.bi .append #[26,26] 26) [.slice none 0 0,g v 9] [] [] .one fun l10 _ =>
 .newbox fun r6 =>
 .prim (.bi .append #[26,26] 26) [g l10 0,.slice (some ⟨r6,0,none⟩) 1 1] [⟨r6,3,[g v 38]⟩] [] .one fun l11 _ =>
 kN r0 <|
 kN r0 <|
 kN r2 <|
 kN r2 <|
 .ret (ag (G9 v 0++((g l11 0)::G28 v 10))) []) (
 mf r0 r2 v))))) (
 .sw (g v 40) 1 (
 pE (g v 50) (iv 0) fun v12 =>
 .br v12 (
 kN r0 <|
 kN r1 <|
 .prim (.bi .append #[26,26] 26) [.slice none 0 0,g v 20] [] [] .one fun l13 _ =>
 .newbox fun r7 =>
 .prim (.bi .append #[26,26] 26) [g l13 0,.slice (some ⟨r7,0,none⟩) 1 1] [⟨r7,3,[g v 38]⟩] [] .one fun l14 _ =>
 kN r0 <|
 kN r0 <|
 kN r2 <|
 kN r2 <|
 .ret (ag (G20 v 0++((g l14 0)::G17 v 21))) []) (
 pE (g v 50) (iv 1) fun v15 =>
 .br v15 (
 kN r0 <|
 kN r1 <|
 .prim (.bi .append #[26,26] 26) [.slice none 0 0,g v 21] [] [] .one fun l16 _ =>
 .newbox fun r8 =>
 .prim (.bi .append #[26,26] 26) [g l16 0,.slice (some ⟨r8,0,none⟩) 1 1] [⟨r8,3,[g v 38]⟩] [] .one fun l17 _ =>
 kN r0 <|
 kN r0 <|
 kN r2 <|
 kN r2 <|
 .ret (ag (G21 v 0++((g l17 0)::G16 v 22))) []) (
 pE (g v 50) (iv 2) fun v18 =>
 .br v18 (
 kN r0 <|
 kN r1 <|
 .prim (.bi .append #[26,26] 26) [.slice none 0 0,g v 22] [] [] .one fun l19 _ =>
 .newbox fun r9 =>
 .prim (.bi .append #[26,26] 26) [g l19 0,.slice (some ⟨r9,0,none⟩) 1 1] [⟨r9,3,[g v 38]⟩] [] .one fun l20 _ =>
 kN r0 <|
 kN r0 <|
 kN r2 <|
 kN r2 <|
 .ret (ag (G22 v 0++((g l20 0)::G15 v 23))) []) (
 pE (g v 50) (iv 3) fun v21 =>
 .br v21 (
 kN r0 <|
 kN r1 <|
 .prim (.bi .append #[26,26] 26) [.slice none 0 0,g v 23] [] [] .one fun l22 _ =>
 .newbox fun r10 =>
 .prim (.bi .append #[26,26] 26) [g l22 0,.slice (some ⟨r10,0,none⟩) 1 1] [⟨r10,3,[g v 38]⟩] [] .one fun l23 _ =>
 kN r0 <|
 kN r0 <|
 kN r2 <|
 kN r2 <|
 .ret (ag (G23 v 0++((g l23 0)::G14 v 24))) []) (
 mf r0 r2 v))))) (
 .stuck 901))
theorem um (vs:List Value):aQ PP Tryz.f56 (aB okL [(76,[5,6,7,8])] [] []) vs=kg vs:=by kernel_rfl
theorem u9 {args vs} (ha:am PP Tryz.f56 args=some vs) (ho:Ones vs) {H O Q} (h:(kg vs).den PP Q H O):Triple PP oq args H O Q :=
 al mixed (an ay _ _ _) Tryz.func56 um ha ho h
abbrev kB:FuncId:=57
def me (r1001 r1002:Nat) (l1003:List Value):Tree :=
 kN r1001 <|
 kN r1002 <|
 kN r1002 <|
 .ret (ag (G38 l1003 0)) []
def ke (v:List Value):Tree :=
 .newbox fun r0 =>
 .newbox fun r1 =>
 .newbox fun r2 =>
 kN r0 <|
 cS 14 [ag (G38 v 0)] (.agg 38) fun l0 =>
 kN r0 <|
 kN r0 <|
 kN r1 <|
 c1 55 [ag (G38 l0 0),g v 38] fun l1 =>
 pH (g l1 0) (iv 0) fun v2 =>
 .br v2 (
 kN r0 <|
 kN r1 <|
 pI 12 (g l0 0) (g l1 0) fun v3 =>
 kP v3 <|
 .store v3 (G12 v 38) <|
 me r0 r2 l0) (
 me r0 r2 l0)
theorem ul (vs:List Value):aQ PP Tryz.f57 (aB okL [(76,[5,6,7,8])] [] []) vs=ke vs:=by kernel_rfl
theorem u7 {args vs} (ha:am PP Tryz.f57 args=some vs) (ho:Ones vs) {H O Q} (h:(ke vs).den PP Q H O):Triple PP kB args H O Q :=
 al mixed (an ay _ _ _) Tryz.func57 ul ha ho h
end Go.Proofs.YtdhobpmnkfmcfaaGreatDoor
