/- The trees of the functions of this seat: printed by a tool of mine; each by the kernel's reckoning equal to the evaluator's. -/
import Derived.Test.YtieaihgbjikggaaGreatBT2
namespace Go.Proofs.YtieaihgbjikggaaGreat
open Go Go.Sx
set_option maxRecDepth 100000
abbrev wh : FuncId := 48
def qs (v : List Value) : Tree :=
 .newbox fun r0 =>
 .newbox fun r1 =>
 .newbox fun r2 =>
 kN r0 <|
 kN r1 <|
 cS 80 [ag (G38 v 0),g v 38] (.tup [none,none]) fun l0 =>
 pN (g l0 1) (iv 0) fun v1 =>
 .br v1 (
 kN r2 <|
 kN r2 <|
 .ret (.tuple #[.agg #[iv 0,iv 0,iv 0],g l0 1]) []) (
 cS 81 [pt r0 1] (.agg 4) fun l2 =>
 kW (g l2 0) r0 6 <|
 kW (g l2 1) r0 7 <|
 kW (g l2 2) r0 8 <|
 kW (g l2 3) r0 9 <|
 kN r0 <|
 kN r1 <|
 c1 82 [g v 6,g v 38] fun l3 =>
 pH (g l3 0) (iv 0) fun v4 =>
 .br v4 (
 kN r2 <|
 kN r2 <|
 .ret (.tuple #[.agg #[iv 0,iv 0,g l3 0],iv 0]) []) (
 kN r0 <|
 kN r1 <|
 c1 82 [g v 7,g v 38] fun l5 =>
 pH (g l5 0) (iv 0) fun v6 =>
 .br v6 (
 kN r2 <|
 kN r2 <|
 .ret (.tuple #[.agg #[iv 0,iv 1,g l5 0],iv 0]) []) (
 kN r0 <|
 kN r1 <|
 c1 82 [g v 8,g v 38] fun l7 =>
 pH (g l7 0) (iv 0) fun v8 =>
 .br v8 (
 kN r2 <|
 kN r2 <|
 .ret (.tuple #[.agg #[iv 0,iv 2,g l7 0],iv 0]) []) (
 kN r0 <|
 kN r1 <|
 c1 82 [g v 9,g v 38] fun l9 =>
 pH (g l9 0) (iv 0) fun v10 =>
 .br v10 (
 kN r2 <|
 kN r2 <|
 .ret (.tuple #[.agg #[iv 0,iv 3,g l9 0],iv 0]) []) (
 cS 81 [pt r0 15] (.agg 4) fun l11 =>
 kW (g l11 0) r0 20 <|
 kW (g l11 1) r0 21 <|
 kW (g l11 2) r0 22 <|
 kW (g l11 3) r0 23 <|
 kN r0 <|
 kN r1 <|
 c1 82 [g v 20,g v 38] fun l12 =>
 pH (g l12 0) (iv 0) fun v13 =>
 .br v13 (
 kN r2 <|
 kN r2 <|
 .ret (.tuple #[.agg #[iv 1,iv 0,g l12 0],iv 0]) []) (
 kN r0 <|
 kN r1 <|
 c1 82 [g v 21,g v 38] fun l14 =>
 pH (g l14 0) (iv 0) fun v15 =>
 .br v15 (
 kN r2 <|
 kN r2 <|
 .ret (.tuple #[.agg #[iv 1,iv 1,g l14 0],iv 0]) []) (
 kN r0 <|
 kN r1 <|
 c1 82 [g v 22,g v 38] fun l16 =>
 pH (g l16 0) (iv 0) fun v17 =>
 .br v17 (
 kN r2 <|
 kN r2 <|
 .ret (.tuple #[.agg #[iv 1,iv 2,g l16 0],iv 0]) []) (
 kN r0 <|
 kN r1 <|
 c1 82 [g v 23,g v 38] fun l18 =>
 pH (g l18 0) (iv 0) fun v19 =>
 .br v19 (
 kN r2 <|
 kN r2 <|
 .ret (.tuple #[.agg #[iv 1,iv 3,g l18 0],iv 0]) []) (
 kN r0 <|
 .call false 83 [g v 29,.func (.func 84) #[] #[pt r1 0]] [] [⟨r1,3,[g v 38]⟩] .one fun l20 c20 =>
 kN r0 <|
 pI 5 (g v 29) (g l20 0) fun v21 =>
 kP v21 <|
 .load [] v21 1 fun l22 =>
 kN r2 <|
 kN r2 <|
 .ret (.tuple #[.agg #[g l22 0,iv 4,g l20 0],iv 0]) [])))))))))
theorem yy (vs : List Value) : aT PP Tryz.f48 (aE okL [(81, [5, 6, 7, 8])] [(5, .unroll 3), (8, .unroll 5)] []) vs = qs vs := by kernel_rfl
theorem zg {args vs} (ha : an PP Tryz.f48 args = some vs) (ho : Ones vs) {H O Q} (h : (qs vs).den PP Q H O) : Triple PP wh args H O Q :=
 am mixed (ao aB _ _ _) Tryz.func48 yy ha ho h
abbrev xO : FuncId := 49
def sO (v : List Value) : Tree :=
 .newbox fun r0 =>
 .newbox fun r1 =>
 kN r0 <|
 cS 80 [ag (G38 v 0),g v 38] (.tup [none,none]) fun l0 =>
 pN (g l0 1) (iv 0) fun v1 =>
 .br v1 (
 kN r1 <|
 kN r1 <|
 .ret (.tuple #[ag Z2,g l0 1]) []) (
 kN r0 <|
 pI 12 (g v 0) (g l0 0) fun v2 =>
 .load [] v2 12 fun l3 =>
 kN r1 <|
 kN r1 <|
 .ret (.tuple #[ag (G12 l3 0),iv 0]) [])
theorem AH (vs : List Value) : aT PP Tryz.f49 (aE okL [(81, [5, 6, 7, 8])] [] []) vs = sO vs := by kernel_rfl
theorem AU {args vs} (ha : an PP Tryz.f49 args = some vs) (ho : Ones vs) {H O Q} (h : (sO vs).den PP Q H O) : Triple PP xO args H O Q :=
 am mixed (ao aB _ _ _) Tryz.func49 AH ha ho h
abbrev sX : FuncId := 50
def sP (v : List Value) : Tree :=
 .newbox fun r0 =>
 .newbox fun r1 =>
 kN r0 <|
 kN r0 <|
 kN r0 <|
 c1 85 [g v 0] fun l0 =>
 c1 86 [g v 31] fun l1 =>
 c1 87 [g v 32] fun l2 =>
 kN r0 <|
 kN r0 <|
 kN r0 <|
 kN r0 <|
 kN r0 <|
 c1 88 [g v 29] fun l3 =>
 c1 88 [g v 30] fun l4 =>
 kN r0 <|
 kN r0 <|
 cS 81 [pt r0 1] (.agg 4) fun l5 =>
 kW (g l5 0) r0 6 <|
 kW (g l5 1) r0 7 <|
 kW (g l5 2) r0 8 <|
 kW (g l5 3) r0 9 <|
 kN r0 <|
 c1 86 [g v 6] fun l6 =>
 kN r0 <|
 kN r0 <|
 c1 86 [g v 7] fun l7 =>
 kN r0 <|
 kN r0 <|
 c1 86 [g v 8] fun l8 =>
 kN r0 <|
 kN r0 <|
 c1 86 [g v 9] fun l9 =>
 kN r0 <|
 cS 81 [pt r0 15] (.agg 4) fun l10 =>
 kW (g l10 0) r0 20 <|
 kW (g l10 1) r0 21 <|
 kW (g l10 2) r0 22 <|
 kW (g l10 3) r0 23 <|
 kN r0 <|
 c1 86 [g v 20] fun l11 =>
 kN r0 <|
 kN r0 <|
 c1 86 [g v 21] fun l12 =>
 kN r0 <|
 kN r0 <|
 c1 86 [g v 22] fun l13 =>
 kN r0 <|
 kN r0 <|
 c1 86 [g v 23] fun l14 =>
 kN r0 <|
 kN r0 <|
 kN r1 <|
 kN r1 <|
 .ret (ag ((g l0 0)::(G5 v 1 ++ ((g l6 0)::((g l7 0)::((g l8 0)::((g l9 0)::(G10 v 10 ++ ((g l11 0)::((g l12 0)::((g l13 0)::((g l14 0)::(G5 v 24 ++ ((g l3 0)::((g l4 0)::((g l1 0)::((g l2 0)::G5 v 33))))))))))))))))) []
theorem AI (vs : List Value) : aT PP Tryz.f50 (aE okL [(81, [5, 6, 7, 8])] [(4, .unroll 3), (7, .unroll 5)] []) vs = sP vs := by kernel_rfl
theorem AV {args vs} (ha : an PP Tryz.f50 args = some vs) (ho : Ones vs) {H O Q} (h : (sP vs).den PP Q H O) : Triple PP sX args H O Q :=
 am mixed (ao aB _ _ _) Tryz.func50 AI ha ho h
abbrev jC : FuncId := 51
def eS (v : List Value) : Tree :=
 pZ (g v 0) fun v0 =>
 .pure [] (.slc 1 true true true) [g v 0,g v 1,g v 2,v0] fun v1 =>
 pE (g v 1) (g v 2) fun v2 =>
 .br v2 (
 .ret (g v 0) []) (
 pZ (g v 0) fun v3 =>
 .pure [] (.slc 1 false true false) [g v 0,g v 1] fun v4 =>
 .pure [] (.slc 1 true false false) [g v 0,g v 2] fun v5 =>
 .prim (.bi .append #[26,26] 26) [v4,v5] [] [] .one fun l6 _ =>
 pZ (g l6 0) fun v7 =>
 .pure [] (.slc 1 true true false) [g l6 0,v7,v3] fun v8 =>
 .prim (.bi .clear #[26] 0) [v8] [] [] (.tup []) fun l9 _ =>
 .ret (g l6 0) [])
theorem mT (vs : List Value) : aT PP Tryz.f51 (aE okL [(81, [5, 6, 7, 8])] [] []) vs = eS vs := by kernel_rfl
theorem nB {args vs} (ha : an PP Tryz.f51 args = some vs) (ho : Ones vs) {H O Q} (h : (eS vs).den PP Q H O) : Triple PP jC args H O Q :=
 am mixed (ao aB _ _ _) Tryz.func51 mT ha ho h
abbrev bc : FuncId := 52
def aV (v : List Value) : Tree :=
 pZ (g v 0) fun v0 =>
 .loop 8 3 [iv 0,v0] fun C8 l1 =>
 pL (g l1 0) (g l1 1) fun v2 =>
 .br v2 (
 pA (g l1 0) (g l1 1) fun v3 =>
 .pure [] (.conv .u64) [v3] fun v4 =>
 .pure [] (.bin .shr .int) [v4,.int .u64 1] fun v5 =>
 .pure [] (.conv .i64) [v5] fun v6 =>
 pI 12 (g v 0) v6 fun v7 =>
 .load [] v7 12 fun l8 =>
 .callv false (g v 2) [ag (G12 l8 0),g v 1] [] [] .one fun l9 _ =>
 pL (g l9 0) (iv 0) fun v10 =>
 .br v10 (
 pA v6 (iv 1) fun v11 =>
 .cont 8 C8 [v11,g l1 1] (Es [[g v 0],[g v 1],[g v 2],[v0]])) (
 .cont 8 C8 [g l1 0,v6] (Es [[g v 0],[g v 1],[g v 2],[v0]]))) (
 pL (g l1 0) v0 fun v12 =>
 .br v12 (
 pI 12 (g v 0) (g l1 0) fun v13 =>
 .load [] v13 12 fun l14 =>
 .callv false (g v 2) [ag (G12 l14 0),g v 1] [] [] .one fun l15 _ =>
 pE (g l15 0) (iv 0) fun v16 =>
 .ret (.tuple #[g l1 0,v16]) []) (
 .ret (.tuple #[g l1 0,.bool false]) []))
theorem dh (vs : List Value) : aT PP Tryz.f52 (aE okL [(81, [5, 6, 7, 8])] [(3, .inv [9, 10] [0, 1, 2, 8] [])] []) vs = aV vs := by kernel_rfl
theorem bH {args vs} (ha : an PP Tryz.f52 args = some vs) (ho : Ones vs) {H O Q} (h : (aV vs).den PP Q H O) : Triple PP bc args H O Q :=
 am mixed (ao aB _ _ _) Tryz.func52 dh ha ho h
abbrev kg : FuncId := 53
def nS (v : List Value) : Tree :=
 .newbox fun r0 =>
 kN r0 <|
 pS (g v 0) (g v 12) fun v0 =>
 .ret v0 []
theorem w7 (vs : List Value) : aT PP Tryz.f53 (aE okL [(81, [5, 6, 7, 8])] [] []) vs = nS vs := by kernel_rfl
theorem xU {args vs} (ha : an PP Tryz.f53 args = some vs) (ho : Ones vs) {H O Q} (h : (nS vs).den PP Q H O) : Triple PP kg args H O Q :=
 am mixed (ao aB _ _ _) Tryz.func53 w7 ha ho h
abbrev t8 : FuncId := 54
def nW (v : List Value) : Tree :=
 .newbox fun r0 =>
 .newbox fun r1 =>
 kN r0 <|
 cS 89 [ag (G12 v 0)] (.agg 12) fun l0 =>
 .newbox fun r2 =>
 kN r2 <|
 pE (g v 12) (iv 2) fun v1 =>
 kN r2 <|
 kN r2 <|
 kN r2 <|
 kN r2 <|
 kN r2 <|
 kN r1 <|
 kN r1 <|
 .ret (ag (G6 l0 0 ++ [iv 0,g l0 7,g l0 8,.bool false,v1,.bool false])) []
theorem w9 (vs : List Value) : aT PP Tryz.f54 (aE okL [(81, [5, 6, 7, 8])] [] []) vs = nW vs := by kernel_rfl
theorem xW {args vs} (ha : an PP Tryz.f54 args = some vs) (ho : Ones vs) {H O Q} (h : (nW vs).den PP Q H O) : Triple PP t8 args H O Q :=
 am mixed (ao aB _ _ _) Tryz.func54 w9 ha ho h
abbrev t6 : FuncId := 55
def nR (v : List Value) : Tree :=
 pH (g v 0) (g v 1) fun v0 =>
 kV v0 <|
 kV v0 <|
 pM (g v 0) (g v 2) fun v1 =>
 kV v0 <|
 pK v0 v1 (.bool false) fun v2 =>
 .ret v2 []
theorem w6 (vs : List Value) : aT PP Tryz.f55 (aE okL [(81, [5, 6, 7, 8])] [] []) vs = nR vs := by kernel_rfl
theorem xT {args vs} (ha : an PP Tryz.f55 args = some vs) (ho : Ones vs) {H O Q} (h : (nR vs).den PP Q H O) : Triple PP t6 args H O Q :=
 am mixed (ao aB _ _ _) Tryz.func55 w6 ha ho h
abbrev tZ : FuncId := 56
def nQ (v : List Value) : Tree :=
 .newbox fun r0 =>
 .newbox fun r1 =>
 kN r0 <|
 kN r1 <|
 c1 91 [g v 0,ag (G38 v 1),g v 39,g v 40] fun l0 =>
 c1 90 [g l0 0,.agg #[g v 41,g v 42]] fun l1 =>
 .ret (g l1 0) []
theorem w4 (vs : List Value) : aT PP Tryz.f56 (aE okL [(81, [5, 6, 7, 8])] [] []) vs = nQ vs := by kernel_rfl
theorem xS {args vs} (ha : an PP Tryz.f56 args = some vs) (ho : Ones vs) {H O Q} (h : (nQ vs).den PP Q H O) : Triple PP tZ args H O Q :=
 am mixed (ao aB _ _ _) Tryz.func56 w4 ha ho h
abbrev xN : FuncId := 57
def tW (r1020 : Nat) : Tree :=
 kN r1020 <|
 kN r1020 <|
 .ret (.tuple #[ag Z0,iv 2]) []
def dv (r1001 r1002 : Nat) (l1003 l1004 : List Value) (n1005 : Nat) (l1006 : List Value) (n1007 : Nat) (l1008 : List Value) (n1009 : Nat) (l1010 : List Value) (n1011 : Nat) (l1012 : List Value) (n1013 : Nat) (l1014 : List Value) (n1015 : Nat) (l1016 : List Value) (n1017 : Nat) (l1018 : List Value) (n1019 : Nat) : Tree :=
 kN r1001 <|
 kN r1001 <|
 kN r1002 <|
 kN r1002 <|
 .ret (.tuple #[ag (G6 l1003 0 ++ ((g l1004 n1005)::((g l1006 n1007)::((g l1008 n1009)::((g l1010 n1011)::(G10 l1003 10 ++ ((g l1012 n1013)::((g l1014 n1015)::((g l1016 n1017)::((g l1018 n1019)::G14 l1003 24)))))))))),iv 0]) []
def sN (v : List Value) : Tree :=
 .newbox fun r0 =>
 .newbox fun r1 =>
 kN r0 <|
 cS 80 [ag (G38 v 0),g v 38] (.tup [none,none]) fun l0 =>
 pE (g l0 1) (iv 2) fun v1 =>
 .br v1 (
 tW r1) (
 c1 70 [g v 39,iv 0,iv 3] fun l2 =>
 pO (g l2 0) fun v3 =>
 .br v3 (
 tW r1) (
 pN (g l0 1) (iv 0) fun v4 =>
 .br v4 (
 kN r1 <|
 kN r1 <|
 .ret (.tuple #[ag Z0,g l0 1]) []) (
 kN r0 <|
 cS 92 [ag (G38 v 0),g v 38] (.agg 38) fun l5 =>
 kN r0 <|
 kN r0 <|
 pI 12 (g l5 0) (g l0 0) fun v6 =>
 .load [] v6 12 fun l7 =>
 cS 54 [ag (G12 l7 0),g v 39] (.agg 12) fun l8 =>
 .newbox fun r2 =>
 kN r2 <|
 kN r0 <|
 kN r2 <|
 pI 12 (g l5 0) (g l0 0) fun v9 =>
 kP v9 <|
 .store v9 (G12 l8 0) <|
 kN r2 <|
 .sw (g l8 2) 0 (
 cS 81 [pt r0 1] (.agg 4) fun l10 =>
 kW (g l10 0) r0 6 <|
 kW (g l10 1) r0 7 <|
 kW (g l10 2) r0 8 <|
 kW (g l10 3) r0 9 <|
 .sw (g v 39) 0 (
 kN r0 <|
 .newbox fun r3 =>
 .prim (.bi .append #[26,26] 26) [g l5 6,.slice (some ⟨r3,0,none⟩) 1 1] [⟨r3,3,[g v 38]⟩] [] .one fun l11 _ =>
 dv r0 r1 l5 l11 0 l5 7 l5 8 l5 9 l5 20 l5 21 l5 22 l5 23) (
 .sw (g v 39) 1 (
 kN r0 <|
 .newbox fun r4 =>
 .prim (.bi .append #[26,26] 26) [g l5 7,.slice (some ⟨r4,0,none⟩) 1 1] [⟨r4,3,[g v 38]⟩] [] .one fun l12 _ =>
 dv r0 r1 l5 l5 6 l12 0 l5 8 l5 9 l5 20 l5 21 l5 22 l5 23) (
 .sw (g v 39) 2 (
 kN r0 <|
 .newbox fun r5 =>
 .prim (.bi .append #[26,26] 26) [g l5 8,.slice (some ⟨r5,0,none⟩) 1 1] [⟨r5,3,[g v 38]⟩] [] .one fun l13 _ =>
 dv r0 r1 l5 l5 6 l5 7 l13 0 l5 9 l5 20 l5 21 l5 22 l5 23) (
 .sw (g v 39) 3 (
 kN r0 <|
 .newbox fun r6 =>
 .prim (.bi .append #[26,26] 26) [g l5 9,.slice (some ⟨r6,0,none⟩) 1 1] [⟨r6,3,[g v 38]⟩] [] .one fun l14 _ =>
 dv r0 r1 l5 l5 6 l5 7 l5 8 l14 0 l5 20 l5 21 l5 22 l5 23) (
 .stuck 901))))) (
 .sw (g l8 2) 1 (
 cS 81 [pt r0 15] (.agg 4) fun l15 =>
 kW (g l15 0) r0 20 <|
 kW (g l15 1) r0 21 <|
 kW (g l15 2) r0 22 <|
 kW (g l15 3) r0 23 <|
 .sw (g v 39) 0 (
 kN r0 <|
 .newbox fun r7 =>
 .prim (.bi .append #[26,26] 26) [g l5 20,.slice (some ⟨r7,0,none⟩) 1 1] [⟨r7,3,[g v 38]⟩] [] .one fun l16 _ =>
 dv r0 r1 l5 l5 6 l5 7 l5 8 l5 9 l16 0 l5 21 l5 22 l5 23) (
 .sw (g v 39) 1 (
 kN r0 <|
 .newbox fun r8 =>
 .prim (.bi .append #[26,26] 26) [g l5 21,.slice (some ⟨r8,0,none⟩) 1 1] [⟨r8,3,[g v 38]⟩] [] .one fun l17 _ =>
 dv r0 r1 l5 l5 6 l5 7 l5 8 l5 9 l5 20 l17 0 l5 22 l5 23) (
 .sw (g v 39) 2 (
 kN r0 <|
 .newbox fun r9 =>
 .prim (.bi .append #[26,26] 26) [g l5 22,.slice (some ⟨r9,0,none⟩) 1 1] [⟨r9,3,[g v 38]⟩] [] .one fun l18 _ =>
 dv r0 r1 l5 l5 6 l5 7 l5 8 l5 9 l5 20 l5 21 l18 0 l5 23) (
 .sw (g v 39) 3 (
 kN r0 <|
 .newbox fun r10 =>
 .prim (.bi .append #[26,26] 26) [g l5 23,.slice (some ⟨r10,0,none⟩) 1 1] [⟨r10,3,[g v 38]⟩] [] .one fun l19 _ =>
 dv r0 r1 l5 l5 6 l5 7 l5 8 l5 9 l5 20 l5 21 l5 22 l19 0) (
 .stuck 901))))) (
 .stuck 901)))))
theorem AG (vs : List Value) : aT PP Tryz.f57 (aE okL [(81, [5, 6, 7, 8])] [] []) vs = sN vs := by kernel_rfl
theorem AT {args vs} (ha : an PP Tryz.f57 args = some vs) (ho : Ones vs) {H O Q} (h : (sN vs).den PP Q H O) : Triple PP xN args H O Q :=
 am mixed (ao aB _ _ _) Tryz.func57 AG ha ho h
abbrev lu : FuncId := 58
def fG (l1019 : List Value) (n1020 : Nat) (C1021 : List Value → Heap → Own → Prop) (r1022 : Nat) (l1023 : List Value) : Tree :=
 pA (g l1019 0) (iv 1) fun v7 =>
 .cont n1020 C1021 [v7] (Es [[pt r1022 0],((pt r1022 0)::G38 l1023 0)])
def jJ (l1010 : List Value) (n1011 : Nat) (l1012 : List Value) (n1013 r1014 r1015 : Nat) (i1016 : Int) (n1017 : Nat) (C1018 : List Value → Heap → Own → Prop) : Tree :=
 pI 5 (g l1010 n1011) (g l1012 0) fun v77 =>
 kP v77 <|
 .load [] (aS v77 2) 1 fun l78 =>
 pA (g l78 0) (iv 1) fun v79 =>
 pI 5 (g l1010 n1011) (g l1012 0) fun v80 =>
 kP v80 <|
 kP (aS v80 2) <|
 .store (aS v80 2) [v79] <|
 .loop n1013 24 [iv 0] fun C150 l81 =>
 pI 5 (g l1010 n1011) (g l1012 0) fun v82 =>
 kP v82 <|
 .load [] (aS v82 4) 1 fun l83 =>
 pZ (g l83 0) fun v84 =>
 pL (g l81 0) v84 fun v85 =>
 .br v85 (
 pI 5 (g l1010 n1011) (g l1012 0) fun v86 =>
 kP v86 <|
 .load [] (aS v86 4) 1 fun l87 =>
 pI 2 (g l87 0) (g l81 0) fun v88 =>
 kP v88 <|
 .load [] v88 1 fun l89 =>
 pA (g l89 0) (iv 1) fun v90 =>
 pI 2 (g l87 0) (g l81 0) fun v91 =>
 kP v91 <|
 kP v91 <|
 .store v91 [v90] <|
 pA (g l81 0) (iv 1) fun v92 =>
 .cont n1013 C150 [v92] (Es [[pt r1014 0],[g l1010 n1011],[g l1012 0],[.slice (some ⟨r1015,0,none⟩) 2 2],[iv 2],[iv i1016],((pt r1014 0)::G38 l1010 0),[pt r1015 0,g l1010 29,g l1010 30]])) (
 pA (g l1012 0) (iv 1) fun v93 =>
 .cont n1017 C1018 [v93] (Es [[pt r1014 0],[g l1010 n1011],[.slice (some ⟨r1015,0,none⟩) 2 2],[iv 2],[iv i1016],((pt r1014 0)::G38 l1010 0),[pt r1015 0,g l1010 29,g l1010 30]]))
def bm (l1001 : List Value) (n1002 : Nat) (l1003 : List Value) (n1004 : Nat) (C1005 : List Value → Heap → Own → Prop) (r1006 : Nat) (i1007 i1008 : Int) (l1009 : List Value) : Tree :=
 pI 1 (g l1001 n1002) (g l1003 0) fun v12 =>
 .load [] v12 1 fun l13 =>
 pA (g l13 0) (iv 1) fun v14 =>
 pI 1 (g l1001 n1002) (g l1003 0) fun v15 =>
 kP v15 <|
 .store v15 [v14] <|
 pA (g l1003 0) (iv 1) fun v16 =>
 .cont n1004 C1005 [v16] (Es [[pt r1006 0],[iv i1007],[g l1001 n1002],G4 l1001 0,[iv i1008],((pt r1006 0)::G38 l1009 0)])
def gT (v : List Value) : Tree :=
 .newbox fun r0 =>
 .loop 2 2 [iv 0] fun C2 l0 =>
 kN r0 <|
 pZ (g v 0) fun v1 =>
 pL (g l0 0) v1 fun v2 =>
 .br v2 (
 kN r0 <|
 pI 12 (g v 0) (g l0 0) fun v3 =>
 kP v3 <|
 .load [] (aS v3 5) 1 fun l4 =>
 pA (g l4 0) (iv 1) fun v5 =>
 pI 12 (g v 0) (g l0 0) fun v6 =>
 kP v6 <|
 kP (aS v6 5) <|
 .store (aS v6 5) [v5] <|
 fG l0 2 C2 r0 v) (
 kN r0 <|
 cS 30 [ag (G14 v 1)] (.agg 4) fun l8 =>
 .loop 21 12 [iv 0] fun C21 l9 =>
 pZ (g l8 0) fun v10 =>
 pL (g l9 0) v10 fun v11 =>
 .br v11 (
 bm l8 0 l9 21 C21 r0 0 0 v) (
 .loop 32 12 [iv 0] fun C32 l17 =>
 pZ (g l8 1) fun v18 =>
 pL (g l17 0) v18 fun v19 =>
 .br v19 (
 bm l8 1 l17 32 C32 r0 0 1 v) (
 .loop 43 12 [iv 0] fun C43 l25 =>
 pZ (g l8 2) fun v26 =>
 pL (g l25 0) v26 fun v27 =>
 .br v27 (
 bm l8 2 l25 43 C43 r0 0 2 v) (
 .loop 54 12 [iv 0] fun C54 l33 =>
 pZ (g l8 3) fun v34 =>
 pL (g l33 0) v34 fun v35 =>
 .br v35 (
 bm l8 3 l33 54 C54 r0 0 3 v) (
 kN r0 <|
 cS 30 [ag (G14 v 15)] (.agg 4) fun l41 =>
 .loop 77 12 [iv 0] fun C77 l42 =>
 pZ (g l41 0) fun v43 =>
 pL (g l42 0) v43 fun v44 =>
 .br v44 (
 bm l41 0 l42 77 C77 r0 1 0 v) (
 .loop 88 12 [iv 0] fun C88 l50 =>
 pZ (g l41 1) fun v51 =>
 pL (g l50 0) v51 fun v52 =>
 .br v52 (
 bm l41 1 l50 88 C88 r0 1 1 v) (
 .loop 99 12 [iv 0] fun C99 l58 =>
 pZ (g l41 2) fun v59 =>
 pL (g l58 0) v59 fun v60 =>
 .br v60 (
 bm l41 2 l58 99 C99 r0 1 2 v) (
 .loop 110 12 [iv 0] fun C110 l66 =>
 pZ (g l41 3) fun v67 =>
 pL (g l66 0) v67 fun v68 =>
 .br v68 (
 bm l41 3 l66 110 C110 r0 1 3 v) (
 kN r0 <|
 kN r0 <|
 .newbox fun r1 =>
 kN r1 <|
 .loop 135 20 [iv 0] fun C135 l74 =>
 pZ (g v 29) fun v75 =>
 pL (g l74 0) v75 fun v76 =>
 .br v76 (
 jJ v 29 l74 150 r0 r1 0 135 C135) (
 kN r1 <|
 .loop 147 20 [iv 0] fun C147 l94 =>
 pZ (g v 30) fun v95 =>
 pL (g l94 0) v95 fun v96 =>
 .br v96 (
 jJ v 30 l94 162 r0 r1 1 147 C147) (
 .loop 156 29 [iv 0] fun C156 l114 =>
 kN r0 <|
 pZ (g v 31) fun v115 =>
 pL (g l114 0) v115 fun v116 =>
 .br v116 (
 kN r0 <|
 pI 1 (g v 31) (g l114 0) fun v117 =>
 .load [] v117 1 fun l118 =>
 pA (g l118 0) (iv 1) fun v119 =>
 pI 1 (g v 31) (g l114 0) fun v120 =>
 kP v120 <|
 .store v120 [v119] <|
 fG l114 156 C156 r0 v) (
 .loop 163 33 [iv 0] fun C163 l122 =>
 kN r0 <|
 pZ (g v 32) fun v123 =>
 pL (g l122 0) v123 fun v124 =>
 .br v124 (
 kN r0 <|
 pI 2 (g v 32) (g l122 0) fun v125 =>
 kP v125 <|
 .load [] v125 1 fun l126 =>
 pA (g l126 0) (iv 1) fun v127 =>
 pI 2 (g v 32) (g l122 0) fun v128 =>
 kP v128 <|
 kP v128 <|
 .store v128 [v127] <|
 fG l122 163 C163 r0 v) (
 .ret (.tuple #[]) [])))))))))))))
theorem qc (vs : List Value) : aT PP Tryz.f58 (aE okL [(81, [5, 6, 7, 8])] [(6, .unroll 3), (9, .unroll 5), (17, .unroll 3), (2, .inv [2] [1] [(1, [])]), (12, .inv [6] [1, 3, 5, 37, 38] [(1, [])]), (20, .inv [9] [1, 8, 58, 59, 60] [(1, []), (58, [])]), (24, .inv [10] [1, 8, 9, 58, 59, 60] [(1, []), (58, [])]), (29, .inv [11] [1] [(1, [])]), (33, .inv [12] [1] [(1, [])])] []) vs = gT vs := by kernel_rfl
theorem qS {args vs} (ha : an PP Tryz.f58 args = some vs) (ho : Ones vs) {H O Q} (h : (gT vs).den PP Q H O) : Triple PP lu args H O Q :=
 am mixed (ao aB _ _ _) Tryz.func58 qc ha ho h
abbrev lr : FuncId := 59
def gS (v : List Value) : Tree :=
 .newbox fun r0 =>
 .newbox fun r1 =>
 kN r0 <|
 cS 93 [ag (G12 v 0)] (.agg 12) fun l0 =>
 kN r0 <|
 pE (g v 12) (iv 2) fun v1 =>
 kN r0 <|
 kN r0 <|
 kN r0 <|
 kN r0 <|
 kN r0 <|
 kN r1 <|
 kN r1 <|
 .ret (ag (G6 l0 0 ++ [iv 0,g l0 7,g l0 8,.bool false,v1,.bool false])) []
theorem qb (vs : List Value) : aT PP Tryz.f59 (aE okL [(81, [5, 6, 7, 8])] [] []) vs = gS vs := by kernel_rfl
theorem qR {args vs} (ha : an PP Tryz.f59 args = some vs) (ho : Ones vs) {H O Q} (h : (gS vs).den PP Q H O) : Triple PP lr args H O Q :=
 am mixed (ao aB _ _ _) Tryz.func59 qb ha ho h
abbrev nu : FuncId := 60
def kT (r1001 r1002 : Nat) (l1003 : List Value) : Tree :=
 kN r1001 <|
 kN r1002 <|
 kN r1002 <|
 .ret (ag (G38 l1003 0)) []
def js (v : List Value) : Tree :=
 .newbox fun r0 =>
 .newbox fun r1 =>
 .newbox fun r2 =>
 kN r1 <|
 .sw (g v 40) 0 (
 pE (g v 50) (iv 0) fun v0 =>
 .br v0 (
 kN r0 <|
 kN r1 <|
 .prim (.bi .append #[26,26] 26) [.slice none 0 0,g v 6] [] [] .one fun l1 _ =>
 .newbox fun r3 =>
 .prim (.bi .append #[26,26] 26) [g l1 0,.slice (some ⟨r3,0,none⟩) 1 1] [⟨r3,3,[g v 38]⟩] [] .one fun l2 _ =>
 kN r0 <|
 kN r0 <|
 kN r2 <|
 kN r2 <|
 .ret (ag (G6 v 0 ++ ((g l2 0)::G31 v 7))) []) (
 pE (g v 50) (iv 1) fun v3 =>
 .br v3 (
 kN r0 <|
 kN r1 <|
 .prim (.bi .append #[26,26] 26) [.slice none 0 0,g v 7] [] [] .one fun l4 _ =>
 .newbox fun r4 =>
 .prim (.bi .append #[26,26] 26) [g l4 0,.slice (some ⟨r4,0,none⟩) 1 1] [⟨r4,3,[g v 38]⟩] [] .one fun l5 _ =>
 kN r0 <|
 kN r0 <|
 kN r2 <|
 kN r2 <|
 .ret (ag (G7 v 0 ++ ((g l5 0)::G30 v 8))) []) (
 pE (g v 50) (iv 2) fun v6 =>
 .br v6 (
 kN r0 <|
 kN r1 <|
 .prim (.bi .append #[26,26] 26) [.slice none 0 0,g v 8] [] [] .one fun l7 _ =>
 .newbox fun r5 =>
 .prim (.bi .append #[26,26] 26) [g l7 0,.slice (some ⟨r5,0,none⟩) 1 1] [⟨r5,3,[g v 38]⟩] [] .one fun l8 _ =>
 kN r0 <|
 kN r0 <|
 kN r2 <|
 kN r2 <|
 .ret (ag (G8 v 0 ++ ((g l8 0)::G29 v 9))) []) (
 pE (g v 50) (iv 3) fun v9 =>
 .br v9 (
 kN r0 <|
 kN r1 <|
 .prim (.bi .append #[26,26] 26) [.slice none 0 0,g v 9] [] [] .one fun l10 _ =>
 .newbox fun r6 =>
 .prim (.bi .append #[26,26] 26) [g l10 0,.slice (some ⟨r6,0,none⟩) 1 1] [⟨r6,3,[g v 38]⟩] [] .one fun l11 _ =>
 kN r0 <|
 kN r0 <|
 kN r2 <|
 kN r2 <|
 .ret (ag (G9 v 0 ++ ((g l11 0)::G28 v 10))) []) (
 kT r0 r2 v))))) (
 .sw (g v 40) 1 (
 pE (g v 50) (iv 0) fun v12 =>
 .br v12 (
 kN r0 <|
 kN r1 <|
 .prim (.bi .append #[26,26] 26) [.slice none 0 0,g v 20] [] [] .one fun l13 _ =>
 .newbox fun r7 =>
 .prim (.bi .append #[26,26] 26) [g l13 0,.slice (some ⟨r7,0,none⟩) 1 1] [⟨r7,3,[g v 38]⟩] [] .one fun l14 _ =>
 kN r0 <|
 kN r0 <|
 kN r2 <|
 kN r2 <|
 .ret (ag (G20 v 0 ++ ((g l14 0)::G17 v 21))) []) (
 pE (g v 50) (iv 1) fun v15 =>
 .br v15 (
 kN r0 <|
 kN r1 <|
 .prim (.bi .append #[26,26] 26) [.slice none 0 0,g v 21] [] [] .one fun l16 _ =>
 .newbox fun r8 =>
 .prim (.bi .append #[26,26] 26) [g l16 0,.slice (some ⟨r8,0,none⟩) 1 1] [⟨r8,3,[g v 38]⟩] [] .one fun l17 _ =>
 kN r0 <|
 kN r0 <|
 kN r2 <|
 kN r2 <|
 .ret (ag (G21 v 0 ++ ((g l17 0)::G16 v 22))) []) (
 pE (g v 50) (iv 2) fun v18 =>
 .br v18 (
 kN r0 <|
 kN r1 <|
 .prim (.bi .append #[26,26] 26) [.slice none 0 0,g v 22] [] [] .one fun l19 _ =>
 .newbox fun r9 =>
 .prim (.bi .append #[26,26] 26) [g l19 0,.slice (some ⟨r9,0,none⟩) 1 1] [⟨r9,3,[g v 38]⟩] [] .one fun l20 _ =>
 kN r0 <|
 kN r0 <|
 kN r2 <|
 kN r2 <|
 .ret (ag (G22 v 0 ++ ((g l20 0)::G15 v 23))) []) (
 pE (g v 50) (iv 3) fun v21 =>
 .br v21 (
 kN r0 <|
 kN r1 <|
 .prim (.bi .append #[26,26] 26) [.slice none 0 0,g v 23] [] [] .one fun l22 _ =>
 .newbox fun r10 =>
 .prim (.bi .append #[26,26] 26) [g l22 0,.slice (some ⟨r10,0,none⟩) 1 1] [⟨r10,3,[g v 38]⟩] [] .one fun l23 _ =>
 kN r0 <|
 kN r0 <|
 kN r2 <|
 kN r2 <|
 .ret (ag (G23 v 0 ++ ((g l23 0)::G14 v 24))) []) (
 kT r0 r2 v))))) (
 .stuck 901))
theorem sH (vs : List Value) : aT PP Tryz.f60 (aE okL [(81, [5, 6, 7, 8])] [] []) vs = js vs := by kernel_rfl
theorem tD {args vs} (ha : an PP Tryz.f60 args = some vs) (ho : Ones vs) {H O Q} (h : (js vs).den PP Q H O) : Triple PP nu args H O Q :=
 am mixed (ao aB _ _ _) Tryz.func60 sH ha ho h
abbrev jz : FuncId := 61
def kS (r1001 r1002 : Nat) (l1003 : List Value) : Tree :=
 kN r1001 <|
 kN r1002 <|
 kN r1002 <|
 .ret (ag (G38 l1003 0)) []
def jr (v : List Value) : Tree :=
 .newbox fun r0 =>
 .newbox fun r1 =>
 .newbox fun r2 =>
 kN r0 <|
 cS 17 [ag (G38 v 0)] (.agg 38) fun l0 =>
 kN r0 <|
 kN r0 <|
 kN r1 <|
 c1 28 [ag (G38 l0 0),g v 38] fun l1 =>
 pH (g l1 0) (iv 0) fun v2 =>
 .br v2 (
 kN r0 <|
 kN r1 <|
 pI 12 (g l0 0) (g l1 0) fun v3 =>
 kP v3 <|
 .store v3 (G12 v 38) <|
 kS r0 r2 l0) (
 kS r0 r2 l0)
theorem sG (vs : List Value) : aT PP Tryz.f61 (aE okL [(81, [5, 6, 7, 8])] [] []) vs = jr vs := by kernel_rfl
theorem tC {args vs} (ha : an PP Tryz.f61 args = some vs) (ho : Ones vs) {H O Q} (h : (jr vs).den PP Q H O) : Triple PP jz args H O Q :=
 am mixed (ao aB _ _ _) Tryz.func61 sG ha ho h
abbrev nw : FuncId := 62
def kU (l1017 : List Value) (C1018 : List Value → Heap → Own → Prop) (l1019 l1020 : List Value) (r1021 r1022 : Nat) (l1023 l1024 l1025 l1026 l1027 l1028 l1029 l1030 l1031 : List Value) : Tree :=
 pA (g l1017 1) (iv 1) fun v18 =>
 .cont 108 C1018 [g l1019 0,v18] (Es [[g l1020 38],[pt r1021 0],[pt r1022 0],((pt r1021 0)::(G6 l1023 0 ++ ((g l1024 0)::((g l1025 0)::((g l1026 0)::((g l1027 0)::(G10 l1023 10 ++ ((g l1028 0)::((g l1029 0)::((g l1030 0)::((g l1031 0)::G14 l1023 24))))))))))),[pt r1022 0,.slice none 0 0,iv 0,iv 0,iv 0,iv 0,iv 0,.slice none 0 0,.slice none 0 0,.slice none 0 0,.slice none 0 0,.bool false,.bool false,.bool false,iv 0,iv 0,iv 0,iv 0,iv 0,iv 0,iv 0,.slice none 0 0,.slice none 0 0,.slice none 0 0,.slice none 0 0,.bool false,.bool false,.bool false,iv 0,iv 0,.slice none 0 0,.slice none 0 0,.slice none 0 0,.slice none 0 0,iv 0,iv 0,iv 0,iv 0,iv 0]])
def kX (l1001 : List Value) (C1002 : List Value → Heap → Own → Prop) (l1003 l1004 : List Value) (r1005 r1006 : Nat) (l1007 l1008 l1009 l1010 l1011 l1012 l1013 l1014 l1015 l1016 : List Value) : Tree :=
 pA (g l1001 1) (iv 1) fun v29 =>
 .cont 116 C1002 [g l1003 0,v29] (Es [[g l1004 38],[pt r1005 0],[pt r1006 0],[g l1007 0],((pt r1005 0)::(G6 l1008 0 ++ ((g l1009 0)::((g l1010 0)::((g l1011 0)::((g l1012 0)::(G10 l1008 10 ++ ((g l1013 0)::((g l1014 0)::((g l1015 0)::((g l1016 0)::G14 l1008 24))))))))))),[pt r1006 0,.slice none 0 0,iv 0,iv 0,iv 0,iv 0,iv 0,.slice none 0 0,.slice none 0 0,.slice none 0 0,.slice none 0 0,.bool false,.bool false,.bool false,iv 0,iv 0,iv 0,iv 0,iv 0,iv 0,iv 0,.slice none 0 0,.slice none 0 0,.slice none 0 0,.slice none 0 0,.bool false,.bool false,.bool false,iv 0,iv 0,.slice none 0 0,.slice none 0 0,.slice none 0 0,.slice none 0 0,iv 0,iv 0,iv 0,iv 0,iv 0]])
def jt (v : List Value) : Tree :=
 .newbox fun r0 =>
 .newbox fun r1 =>
 kN r0 <|
 cS 17 [ag (G38 v 0)] (.agg 38) fun l0 =>
 kN r0 <|
 kN r0 <|
 kN r0 <|
 kN r0 <|
 kN r0 <|
 c1 94 [g l0 6,g v 38] fun l1 =>
 c1 94 [g l0 7,g v 38] fun l2 =>
 c1 94 [g l0 8,g v 38] fun l3 =>
 c1 94 [g l0 9,g v 38] fun l4 =>
 kN r0 <|
 kN r0 <|
 kN r0 <|
 kN r0 <|
 kN r0 <|
 kN r0 <|
 kN r0 <|
 kN r0 <|
 c1 94 [g l0 20,g v 38] fun l5 =>
 c1 94 [g l0 21,g v 38] fun l6 =>
 c1 94 [g l0 22,g v 38] fun l7 =>
 c1 94 [g l0 23,g v 38] fun l8 =>
 kN r0 <|
 kN r0 <|
 kN r0 <|
 kN r0 <|
 .loop 108 9 [.slice none 0 0,iv 0] fun C108 l9 =>
 kN r0 <|
 pZ (g l0 29) fun v10 =>
 pL (g l9 1) v10 fun v11 =>
 .br v11 (
 kN r0 <|
 pI 5 (g l0 29) (g l9 1) fun v12 =>
 .load [] v12 5 fun l13 =>
 .newbox fun r2 =>
 kN r2 <|
 kN r2 <|
 pN (g l13 3) (iv (-1)) fun v14 =>
 kN r2 <|
 kV v14 <|
 kV v14 <|
 kV v14 <|
 pN (g l13 1) (g v 38) fun v15 =>
 kV v14 <|
 pK v14 (.bool true) v15 fun v16 =>
 .br v16 (
 kN r2 <|
 .newbox fun r3 =>
 .prim (.bi .append #[30,30] 30) [g l9 0,.slice (some ⟨r3,0,none⟩) 1 1] [⟨r3,41,(G5 l13 0)⟩] [] .one fun l17 _ =>
 kU l9 C108 l17 v r0 r1 l0 l1 l2 l3 l4 l5 l6 l7 l8) (
 kU l9 C108 l9 v r0 r1 l0 l1 l2 l3 l4 l5 l6 l7 l8)) (
 .loop 116 16 [.slice none 0 0,iv 0] fun C116 l20 =>
 kN r0 <|
 pZ (g l0 32) fun v21 =>
 pL (g l20 1) v21 fun v22 =>
 .br v22 (
 kN r0 <|
 pI 2 (g l0 32) (g l20 1) fun v23 =>
 .load [] v23 2 fun l24 =>
 .newbox fun r4 =>
 kN r4 <|
 kN r4 <|
 pN (g l24 0) (g v 38) fun v25 =>
 kN r4 <|
 kV v25 <|
 kV v25 <|
 kV v25 <|
 pN (g l24 1) (g v 38) fun v26 =>
 kV v25 <|
 pK v25 v26 (.bool false) fun v27 =>
 .br v27 (
 kN r4 <|
 .newbox fun r5 =>
 .prim (.bi .append #[31,31] 31) [g l20 0,.slice (some ⟨r5,0,none⟩) 1 1] [⟨r5,123,[g l24 0,g l24 1]⟩] [] .one fun l28 _ =>
 kX l20 C116 l28 v r0 r1 l9 l0 l1 l2 l3 l4 l5 l6 l7 l8) (
 kX l20 C116 l20 v r0 r1 l9 l0 l1 l2 l3 l4 l5 l6 l7 l8)) (
 kN r0 <|
 c1 94 [g l0 31,g v 38] fun l31 =>
 kN r0 <|
 kN r0 <|
 kN r0 <|
 kN r0 <|
 kN r1 <|
 kN r1 <|
 .ret (ag (G6 l0 0 ++ ((g l1 0)::((g l2 0)::((g l3 0)::((g l4 0)::(G10 l0 10 ++ ((g l5 0)::((g l6 0)::((g l7 0)::((g l8 0)::(G5 l0 24 ++ ((g l9 0)::((g l0 30)::((g l31 0)::((g l20 0)::G5 l0 33)))))))))))))))) []))
theorem sI (vs : List Value) : aT PP Tryz.f62 (aE okL [(81, [5, 6, 7, 8])] [(3, .unroll 3), (9, .inv [7, 8] [1, 2, 4] [(2, []), (4, [])]), (16, .inv [10, 11] [1, 2, 4, 7] [(2, []), (4, [])])] []) vs = jt vs := by kernel_rfl
theorem tE {args vs} (ha : an PP Tryz.f62 args = some vs) (ho : Ones vs) {H O Q} (h : (jt vs).den PP Q H O) : Triple PP nw args H O Q :=
 am mixed (ao aB _ _ _) Tryz.func62 sI ha ho h
abbrev ld : FuncId := 63
def gJ (v : List Value) : Tree :=
 pZ (g v 0) fun v0 =>
 pZ (g v 1) fun v1 =>
 pN v0 v1 fun v2 =>
 .br v2 (
 .ret (.bool false) []) (
 .loop 7 4 [iv 0] fun C7 l3 =>
 pZ (g v 0) fun v4 =>
 pL (g l3 0) v4 fun v5 =>
 .br v5 (
 pI 5 (g v 0) (g l3 0) fun v6 =>
 .load [] v6 5 fun l7 =>
 pI 5 (g v 1) (g l3 0) fun v8 =>
 .load [] v8 5 fun l9 =>
 c1 24 [ag (G5 l7 0),ag (G5 l9 0)] fun l10 =>
 pO (g l10 0) fun v11 =>
 .br v11 (
 .ret (.bool false) []) (
 pA (g l3 0) (iv 1) fun v12 =>
 .cont 7 C7 [v12] (Es [[g v 0],[g v 1]]))) (
 .ret (.bool true) []))
theorem pQ (vs : List Value) : aT PP Tryz.f63 (aE okL [(81, [5, 6, 7, 8])] [(4, .inv [5] [0, 1] [])] []) vs = gJ vs := by kernel_rfl
theorem qI {args vs} (ha : an PP Tryz.f63 args = some vs) (ho : Ones vs) {H O Q} (h : (gJ vs).den PP Q H O) : Triple PP ld args H O Q :=
 am mixed (ao aB _ _ _) Tryz.func63 pQ ha ho h
abbrev iD : FuncId := 64
def ku (l1001 : List Value) (C1002 : List Value → Heap → Own → Prop) (l1003 l1004 : List Value) (r1005 : Nat) : Tree :=
 pS (g l1001 1) (iv 1) fun v33 =>
 .cont 57 C1002 [g l1003 0,v33] (Es [[g l1004 0],[pt r1005 0],((pt r1005 0)::G38 l1004 1)])
def iq (v : List Value) : Tree :=
 .newbox fun r0 =>
 kN r0 <|
 c1 10 [ag (G38 v 1)] fun l0 =>
 pO (g l0 0) fun v1 =>
 kV v1 <|
 pL (g v 39) (iv 0) fun v2 =>
 kV v1 <|
 pK v1 (.bool true) v2 fun v3 =>
 kV v3 <|
 pG (g v 39) (iv 1) fun v4 =>
 kV v3 <|
 pK v3 (.bool true) v4 fun v5 =>
 .br v5 (
 .ret (.slice none 0 0) []) (
 kN r0 <|
 kN r0 <|
 pS (iv 1) (g v 39) fun v6 =>
 c1 95 [g v 0,ag (G38 v 1),g v 39] fun l7 =>
 c1 95 [g v 0,ag (G38 v 1),v6] fun l8 =>
 .prim (.bi .append #[26,26] 26) [.slice none 0 0,g l7 0] [] [] .one fun l9 _ =>
 .prim (.bi .append #[26,26] 26) [g l9 0,g l8 0] [] [] .one fun l10 _ =>
 c1 97 [g l10 0] fun l11 =>
 c1 96 [g l11 0] fun l12 =>
 pS (iv 1) (g v 39) fun v13 =>
 .newbox fun r1 =>
 pE (g v 40) (iv 1) fun v14 =>
 .br v14 (
 .ret (g l12 0) []) (
 pE (g v 40) (iv 2) fun v15 =>
 .br v15 (
 c1 96 [g l7 0] fun l16 =>
 .ret (g l16 0) []) (
 pE (g v 40) (iv 3) fun v17 =>
 .br v17 (
 c1 96 [g l8 0] fun l18 =>
 .ret (g l18 0) []) (
 pE (g v 40) (iv 4) fun v19 =>
 .br v19 (
 .ret (.slice (some ⟨r1,0,none⟩) 2 2) [⟨r1,43,[iv 0,v13,iv 0,g v 39]⟩]) (
 pE (g v 40) (iv 5) fun v20 =>
 .br v20 (
 .prim (.bi .append #[39,39] 39) [.slice (some ⟨r1,0,none⟩) 2 2,g l12 0] [⟨r1,43,[iv 0,v13,iv 0,g v 39]⟩] [] .one fun l21 _ =>
 .ret (g l21 0) []) (
 pE (g v 40) (iv 6) fun v22 =>
 .br v22 (
 kN r0 <|
 pZ (g v 30) fun v23 =>
 pS v23 (iv 1) fun v24 =>
 .loop 57 20 [.slice none 0 0,v24] fun C57 l25 =>
 pH (g l25 1) (iv 0) fun v26 =>
 .br v26 (
 kN r0 <|
 pI 5 (g v 30) (g l25 1) fun v27 =>
 .load [] v27 5 fun l28 =>
 c1 98 [g v 0,ag (G5 l28 0)] fun l29 =>
 .br (g l29 0) (
 kN r0 <|
 pI 5 (g v 30) (g l25 1) fun v30 =>
 kP v30 <|
 .load [] (aS v30 1) 1 fun l31 =>
 .newbox fun r2 =>
 .prim (.bi .append #[39,39] 39) [g l25 0,.slice (some ⟨r2,0,none⟩) 1 1] [⟨r2,43,[g l31 0,iv 0]⟩] [] .one fun l32 _ =>
 ku l25 C57 l32 v r0) (
 ku l25 C57 l25 v r0)) (
 .ret (g l25 0) [])) (
 .ret (.slice none 0 0) [])))))))
theorem rg (vs : List Value) : aT PP Tryz.f64 (aE okL [(81, [5, 6, 7, 8])] [(20, .inv [13, 14] [0, 5] [(5, [])])] []) vs = iq vs := by kernel_rfl
theorem rH {args vs} (ha : an PP Tryz.f64 args = some vs) (ho : Ones vs) {H O Q} (h : (iq vs).den PP Q H O) : Triple PP iD args H O Q :=
 am mixed (ao aB _ _ _) Tryz.func64 rg ha ho h
abbrev ln : FuncId := 65
def gQ (v : List Value) : Tree :=
 .newbox fun r0 =>
 kN r0 <|
 pL (g v 0) (iv 1) fun v0 =>
 kN r0 <|
 kV v0 <|
 kV v0 <|
 pG (g v 0) (iv 500) fun v1 =>
 kV v0 <|
 pK v0 (.bool true) v1 fun v2 =>
 kN r0 <|
 kV v2 <|
 kV v2 <|
 pL (g v 1) (iv (-1)) fun v3 =>
 kV v2 <|
 pK v2 (.bool true) v3 fun v4 =>
 kN r0 <|
 kV v4 <|
 kV v4 <|
 pG (g v 1) (iv 399) fun v5 =>
 kV v4 <|
 pK v4 (.bool true) v5 fun v6 =>
 kN r0 <|
 kV v6 <|
 kV v6 <|
 pL (g v 2) (iv 0) fun v7 =>
 kV v6 <|
 pK v6 (.bool true) v7 fun v8 =>
 kN r0 <|
 kV v8 <|
 kV v8 <|
 pG (g v 2) (iv 1) fun v9 =>
 kV v8 <|
 pK v8 (.bool true) v9 fun v10 =>
 .br v10 (
 .ret (.bool false) []) (
 kN r0 <|
 pH (g v 1) (iv 0) fun v11 =>
 kN r0 <|
 kV v11 <|
 kV v11 <|
 pN (g v 3) (iv 0) fun v12 =>
 kV v11 <|
 kN r0 <|
 kV v12 <|
 kV v11 <|
 kV v12 <|
 kV v11 <|
 pN (g v 4) (iv 0) fun v13 =>
 kV v11 <|
 kV v12 <|
 kV v11 <|
 pK v12 (.bool true) v13 fun v14 =>
 kV v11 <|
 pK v11 v14 (.bool false) fun v15 =>
 .br v15 (
 .ret (.bool false) []) (
 kN r0 <|
 c1 99 [g v 3] fun l16 =>
 .br (g l16 0) (
 kN r0 <|
 c1 99 [g v 4] fun l17 =>
 .br (g l17 0) (
 kN r0 <|
 c1 99 [g v 5] fun l18 =>
 .br (g l18 0) (
 kN r0 <|
 c1 99 [g v 6] fun l19 =>
 .br (g l19 0) (
 kN r0 <|
 c1 99 [g v 7] fun l20 =>
 .br (g l20 0) (
 kN r0 <|
 c1 99 [g v 8] fun l21 =>
 .ret (g l21 0) []) (
 .ret (.bool false) [])) (
 .ret (.bool false) [])) (
 .ret (.bool false) [])) (
 .ret (.bool false) [])) (
 .ret (.bool false) [])))
theorem pY (vs : List Value) : aT PP Tryz.f65 (aE okL [(81, [5, 6, 7, 8])] [] []) vs = gQ vs := by kernel_rfl
theorem qP {args vs} (ha : an PP Tryz.f65 args = some vs) (ho : Ones vs) {H O Q} (h : (gQ vs).den PP Q H O) : Triple PP ln args H O Q :=
 am mixed (ao aB _ _ _) Tryz.func65 pY ha ho h
abbrev kA : FuncId := 66
def jv (r1001 : Nat) (l1002 : List Value) (n1003 n1004 n1005 n1006 n1007 n1008 n1009 n1010 n1011 n1012 n1013 n1014 n1015 n1016 : Nat) : Tree :=
 kN r1001 <|
 cS 30 [.agg #[g l1002 n1003,g l1002 n1004,g l1002 n1005,g l1002 n1006,g l1002 n1007,g l1002 n1008,g l1002 n1009,g l1002 n1010,g l1002 n1011,g l1002 n1012,g l1002 n1013,g l1002 n1014,g l1002 n1015,g l1002 n1016]] (.agg 4) fun l0 =>
 c1 67 [g l0 0,g l1002 39] fun l1 =>
 pA (iv 0) (g l1 0) fun v2 =>
 c1 67 [g l0 1,g l1002 39] fun l3 =>
 pA v2 (g l3 0) fun v4 =>
 c1 67 [g l0 2,g l1002 39] fun l5 =>
 pA v4 (g l5 0) fun v6 =>
 c1 67 [g l0 3,g l1002 39] fun l7 =>
 pA v6 (g l7 0) fun v8 =>
 .loop 55 8 [v8,iv 0] fun C55 l9 =>
 kN r1001 <|
 pZ (g l1002 29) fun v10 =>
 pL (g l9 1) v10 fun v11 =>
 .br v11 (
 kN r1001 <|
 pI 5 (g l1002 29) (g l9 1) fun v12 =>
 .load [] v12 5 fun l13 =>
 .newbox fun r1 =>
 kN r1 <|
 kN r1 <|
 pE (g l13 3) (iv (-1)) fun v14 =>
 kN r1 <|
 kV v14 <|
 kV v14 <|
 kV v14 <|
 pE (g l13 1) (g l1002 39) fun v15 =>
 kV v14 <|
 pK v14 v15 (.bool false) fun v16 =>
 kN r1 <|
 kV v16 <|
 kV v16 <|
 kV v16 <|
 pE (g l13 0) (g l1002 38) fun v17 =>
 kV v16 <|
 pK v16 v17 (.bool false) fun v18 =>
 .br v18 (
 pA (g l9 0) (iv 1) fun v19 =>
 pA (g l9 1) (iv 1) fun v20 =>
 .cont 55 C55 [v19,v20] (Es [[g l1002 38],[g l1002 39],[pt r1001 0],((pt r1001 0)::G38 l1002 0)])) (
 pA (g l9 1) (iv 1) fun v21 =>
 .cont 55 C55 [g l9 0,v21] (Es [[g l1002 38],[g l1002 39],[pt r1001 0],((pt r1001 0)::G38 l1002 0)]))) (
 .ret (g l9 0) [])
def fX (v : List Value) : Tree :=
 .newbox fun r0 =>
 .sw (g v 38) 0 (
 jv r0 v 1 2 3 4 5 6 7 8 9 10 11 12 13 14) (
 .sw (g v 38) 1 (
 jv r0 v 15 16 17 18 19 20 21 22 23 24 25 26 27 28) (
 .stuck 901))
theorem oN (vs : List Value) : aT PP Tryz.f66 (aE okL [(81, [5, 6, 7, 8])] [(3, .unroll 5), (8, .inv [7, 10] [1, 2, 3] [(3, [])])] []) vs = fX vs := by kernel_rfl
theorem o5 {args vs} (ha : an PP Tryz.f66 args = some vs) (ho : Ones vs) {H O Q} (h : (fX vs).den PP Q H O) : Triple PP kA args H O Q :=
 am mixed (ao aB _ _ _) Tryz.func66 oN ha ho h
abbrev lm : FuncId := 67
def gP (v : List Value) : Tree :=
 .loop 3 3 [iv 0,iv 0] fun C3 l0 =>
 pZ (g v 0) fun v1 =>
 pL (g l0 1) v1 fun v2 =>
 .br v2 (
 pI 1 (g v 0) (g l0 1) fun v3 =>
 .load [] v3 1 fun l4 =>
 pE (g l4 0) (g v 1) fun v5 =>
 .br v5 (
 pA (g l0 0) (iv 1) fun v6 =>
 pA (g l0 1) (iv 1) fun v7 =>
 .cont 3 C3 [v6,v7] (Es [[g v 0],[g v 1]])) (
 pA (g l0 1) (iv 1) fun v8 =>
 .cont 3 C3 [g l0 0,v8] (Es [[g v 0],[g v 1]]))) (
 .ret (g l0 0) [])
theorem pX (vs : List Value) : aT PP Tryz.f67 (aE okL [(81, [5, 6, 7, 8])] [(3, .inv [5, 6] [0, 1] [])] []) vs = gP vs := by kernel_rfl
theorem qO {args vs} (ha : an PP Tryz.f67 args = some vs) (ho : Ones vs) {H O Q} (h : (gP vs).den PP Q H O) : Triple PP lm args H O Q :=
 am mixed (ao aB _ _ _) Tryz.func67 pX ha ho h
abbrev lj : FuncId := 68
def bj (l1001 : List Value) (n1002 : Nat) (l1003 l1004 : List Value) (r1005 : Nat) (i1006 i1007 : Int) (n1008 : Nat) (C1009 : List Value → Heap → Own → Prop) (r1010 : Nat) : Tree :=
 pI 1 (g l1001 n1002) (g l1003 0) fun v4 =>
 .load [] v4 1 fun l5 =>
 pE (g l5 0) (g l1004 38) fun v6 =>
 .br v6 (
 kN r1005 <|
 kN r1005 <|
 .ret (.tuple #[.agg #[iv i1006,iv i1007,g l1003 0],iv 0]) []) (
 pA (g l1003 0) (iv 1) fun v7 =>
 .cont n1008 C1009 [v7] (Es [[g l1004 38],[pt r1010 0],[pt r1005 0],[iv i1006],[iv i1007],[g l1001 n1002],G4 l1001 0,[iv i1007],((pt r1010 0)::G38 l1004 0),[pt r1005 0,iv 0,iv 0,iv 0]]))
def gM (v : List Value) : Tree :=
 .newbox fun r0 =>
 .newbox fun r1 =>
 kN r0 <|
 cS 30 [ag (G14 v 1)] (.agg 4) fun l0 =>
 .loop 18 8 [iv 0] fun C18 l1 =>
 pZ (g l0 0) fun v2 =>
 pL (g l1 0) v2 fun v3 =>
 .br v3 (
 bj l0 0 l1 v r1 0 0 18 C18 r0) (
 .loop 31 8 [iv 0] fun C31 l8 =>
 pZ (g l0 1) fun v9 =>
 pL (g l8 0) v9 fun v10 =>
 .br v10 (
 bj l0 1 l8 v r1 0 1 31 C31 r0) (
 .loop 44 8 [iv 0] fun C44 l15 =>
 pZ (g l0 2) fun v16 =>
 pL (g l15 0) v16 fun v17 =>
 .br v17 (
 bj l0 2 l15 v r1 0 2 44 C44 r0) (
 .loop 57 8 [iv 0] fun C57 l22 =>
 pZ (g l0 3) fun v23 =>
 pL (g l22 0) v23 fun v24 =>
 .br v24 (
 bj l0 3 l22 v r1 0 3 57 C57 r0) (
 kN r0 <|
 cS 30 [ag (G14 v 15)] (.agg 4) fun l29 =>
 .loop 82 8 [iv 0] fun C82 l30 =>
 pZ (g l29 0) fun v31 =>
 pL (g l30 0) v31 fun v32 =>
 .br v32 (
 bj l29 0 l30 v r1 1 0 82 C82 r0) (
 .loop 95 8 [iv 0] fun C95 l37 =>
 pZ (g l29 1) fun v38 =>
 pL (g l37 0) v38 fun v39 =>
 .br v39 (
 bj l29 1 l37 v r1 1 1 95 C95 r0) (
 .loop 108 8 [iv 0] fun C108 l44 =>
 pZ (g l29 2) fun v45 =>
 pL (g l44 0) v45 fun v46 =>
 .br v46 (
 bj l29 2 l44 v r1 1 2 108 C108 r0) (
 .loop 121 8 [iv 0] fun C121 l51 =>
 pZ (g l29 3) fun v52 =>
 pL (g l51 0) v52 fun v53 =>
 .br v53 (
 bj l29 3 l51 v r1 1 3 121 C121 r0) (
 .loop 135 14 [iv 0] fun C135 l58 =>
 kN r0 <|
 pZ (g v 29) fun v59 =>
 pL (g l58 0) v59 fun v60 =>
 .br v60 (
 kN r0 <|
 pI 5 (g v 29) (g l58 0) fun v61 =>
 .load [] v61 5 fun l62 =>
 .newbox fun r2 =>
 kN r2 <|
 kN r2 <|
 pE (g l62 3) (iv (-1)) fun v63 =>
 kN r2 <|
 kV v63 <|
 kV v63 <|
 kV v63 <|
 pE (g l62 1) (g v 38) fun v64 =>
 kV v63 <|
 pK v63 v64 (.bool false) fun v65 =>
 .br v65 (
 kN r2 <|
 kN r1 <|
 kN r1 <|
 .ret (.tuple #[.agg #[g l62 0,iv 4,g l58 0],iv 0]) []) (
 pA (g l58 0) (iv 1) fun v66 =>
 .cont 135 C135 [v66] (Es [[g v 38],[pt r0 0],[pt r1 0],((pt r0 0)::G38 v 0),[pt r1 0,iv 0,iv 0,iv 0]]))) (
 kN r1 <|
 kN r1 <|
 .ret (.tuple #[.agg #[iv 0,iv 0,iv 0],iv 9]) [])))))))))
theorem pU (vs : List Value) : aT PP Tryz.f68 (aE okL [(81, [5, 6, 7, 8])] [(2, .unroll 3), (5, .unroll 5), (8, .inv [9] [1, 2, 4, 6, 7, 8, 20, 21] [(2, []), (4, [])]), (14, .inv [10] [1, 2, 4] [(2, []), (4, [])])] []) vs = gM vs := by kernel_rfl
theorem qL {args vs} (ha : an PP Tryz.f68 args = some vs) (ho : Ones vs) {H O Q} (h : (gM vs).den PP Q H O) : Triple PP lj args H O Q :=
 am mixed (ao aB _ _ _) Tryz.func68 pU ha ho h
abbrev lc : FuncId := 69
def gI (v : List Value) : Tree :=
 .newbox fun r0 =>
 .newbox fun r1 =>
 kN r0 <|
 c1 64 [g v 0,ag (G38 v 1),g v 39,g v 40] fun l0 =>
 .loop 10 3 [iv 0] fun C10 l1 =>
 pZ (g l0 0) fun v2 =>
 pL (g l1 0) v2 fun v3 =>
 .br v3 (
 pI 2 (g l0 0) (g l1 0) fun v4 =>
 .load [] v4 2 fun l5 =>
 kN r1 <|
 .raw [] (.eqv .eql 43 false) [.agg #[g l5 0,g l5 1],.agg #[g v 41,g v 42]] fun v6 =>
 .br v6 (
 .ret (.bool true) []) (
 pA (g l1 0) (iv 1) fun v7 =>
 .cont 10 C10 [v7] (Es [[pt r1 0],[g l0 0],[pt r1 0,g v 41,g v 42]]))) (
 .ret (.bool false) [])
theorem pP (vs : List Value) : aT PP Tryz.f69 (aE okL [(81, [5, 6, 7, 8])] [(3, .inv [12] [9, 11] [(9, [])])] []) vs = gI vs := by kernel_rfl
theorem qH {args vs} (ha : an PP Tryz.f69 args = some vs) (ho : Ones vs) {H O Q} (h : (gI vs).den PP Q H O) : Triple PP lc args H O Q :=
 am mixed (ao aB _ _ _) Tryz.func69 pP ha ho h
abbrev uc : FuncId := 70
def nX (v : List Value) : Tree :=
 pH (g v 0) (g v 1) fun v0 =>
 kV v0 <|
 kV v0 <|
 pM (g v 0) (g v 2) fun v1 =>
 kV v0 <|
 pK v0 v1 (.bool false) fun v2 =>
 .ret v2 []
theorem xc (vs : List Value) : aT PP Tryz.f70 (aE okL [(81, [5, 6, 7, 8])] [] []) vs = nX vs := by kernel_rfl
theorem xX {args vs} (ha : an PP Tryz.f70 args = some vs) (ho : Ones vs) {H O Q} (h : (nX vs).den PP Q H O) : Triple PP uc args H O Q :=
 am mixed (ao aB _ _ _) Tryz.func70 xc ha ho h
abbrev xL : FuncId := 71
def sL (v : List Value) : Tree :=
 .newbox fun r0 =>
 kN r0 <|
 c1 100 [ag (G4 v 0),iv 99] fun l0 =>
 .ret (g l0 0) []
theorem AE (vs : List Value) : aT PP Tryz.f71 (aE okL [(81, [5, 6, 7, 8])] [] []) vs = sL vs := by kernel_rfl
theorem AR {args vs} (ha : an PP Tryz.f71 args = some vs) (ho : Ones vs) {H O Q} (h : (sL vs).den PP Q H O) : Triple PP xL args H O Q :=
 am mixed (ao aB _ _ _) Tryz.func71 AE ha ho h
abbrev cX : FuncId := 72
def bP (v : List Value) : Tree :=
 c1 83 [g v 0,g v 1] fun l0 =>
 pH (g l0 0) (iv 0) fun v1 =>
 .ret v1 []
theorem ff (vs : List Value) : aT PP Tryz.f72 (aE okL [(81, [5, 6, 7, 8])] [] []) vs = bP vs := by kernel_rfl
theorem fk {args vs} (ha : an PP Tryz.f72 args = some vs) (ho : Ones vs) {H O Q} (h : (bP vs).den PP Q H O) : Triple PP cX args H O Q :=
 am mixed (ao aB _ _ _) Tryz.func72 ff ha ho h
abbrev sW : FuncId := 73
def mD (v : List Value) : Tree :=
 .newbox fun r0 =>
 kN r0 <|
 c1 74 [ag (G5 v 0),.bool false] fun l0 =>
 pO (g l0 0) fun v1 =>
 .ret v1 []
theorem vX (vs : List Value) : aT PP Tryz.f73 (aE okL [(81, [5, 6, 7, 8])] [] []) vs = mD vs := by kernel_rfl
theorem wv {args vs} (ha : an PP Tryz.f73 args = some vs) (ho : Ones vs) {H O Q} (h : (mD vs).den PP Q H O) : Triple PP sW args H O Q :=
 am mixed (ao aB _ _ _) Tryz.func73 vX ha ho h
abbrev xM : FuncId := 74
def sM (v : List Value) : Tree :=
 .newbox fun r0 =>
 kN r0 <|
 c1 70 [g v 0,iv 0,iv 1] fun l0 =>
 .br (g l0 0) (
 kN r0 <|
 c1 70 [g v 1,iv 1,iv 500] fun l1 =>
 .br (g l1 0) (
 kN r0 <|
 c1 70 [g v 2,iv 0,iv 399] fun l2 =>
 .br (g l2 0) (
 kN r0 <|
 c1 70 [g v 3,iv (-1),iv 1] fun l3 =>
 pO (g l3 0) fun v4 =>
 kN r0 <|
 kV v4 <|
 kV v4 <|
 pZ (g v 4) fun v5 =>
 kV v4 <|
 pG v5 (iv 4) fun v6 =>
 kV v4 <|
 pK v4 (.bool true) v6 fun v7 =>
 kN r0 <|
 kV v7 <|
 kV v7 <|
 pH (g v 3) (iv 0) fun v8 =>
 kV v7 <|
 kN r0 <|
 kV v8 <|
 kV v7 <|
 kV v8 <|
 kV v7 <|
 pZ (g v 4) fun v9 =>
 kV v8 <|
 kV v7 <|
 pG v9 (iv 0) fun v10 =>
 kV v7 <|
 kV v8 <|
 kV v7 <|
 pK v8 v10 (.bool false) fun v11 =>
 kV v7 <|
 pK v7 (.bool true) v11 fun v12 =>
 kV v12 <|
 kN r0 <|
 kV (g v 5) <|
 kV v12 <|
 kV (g v 5) <|
 kV v12 <|
 pL (g v 3) (iv 0) fun v13 =>
 kV v12 <|
 kV (g v 5) <|
 kV v12 <|
 pK (g v 5) v13 (.bool false) fun v14 =>
 kV v12 <|
 pK v12 (.bool true) v14 fun v15 =>
 .br v15 (
 .ret (.bool false) []) (
 kN r0 <|
 c1 101 [g v 4,.func (.func 102) #[] #[]] fun l16 =>
 pO (g l16 0) fun v17 =>
 .ret v17 [])) (
 .ret (.bool false) [])) (
 .ret (.bool false) [])) (
 .ret (.bool false) [])
theorem AF (vs : List Value) : aT PP Tryz.f74 (aE okL [(81, [5, 6, 7, 8])] [] []) vs = sM vs := by kernel_rfl
theorem AS {args vs} (ha : an PP Tryz.f74 args = some vs) (ho : Ones vs) {H O Q} (h : (sM vs).den PP Q H O) : Triple PP xM args H O Q :=
 am mixed (ao aB _ _ _) Tryz.func74 AF ha ho h
abbrev sV : FuncId := 75
def mC (v : List Value) : Tree :=
 .newbox fun r0 =>
 kN r0 <|
 c1 74 [ag (G5 v 0),.bool true] fun l0 =>
 pO (g l0 0) fun v1 =>
 .ret v1 []
theorem vW (vs : List Value) : aT PP Tryz.f75 (aE okL [(81, [5, 6, 7, 8])] [] []) vs = mC vs := by kernel_rfl
theorem wu {args vs} (ha : an PP Tryz.f75 args = some vs) (ho : Ones vs) {H O Q} (h : (mC vs).den PP Q H O) : Triple PP sV args H O Q :=
 am mixed (ao aB _ _ _) Tryz.func75 vW ha ho h
abbrev ud : FuncId := 76
def cK (l1001 : List Value) (n1002 : Nat) (l1003 : List Value) (i1004 : Int) (r1005 n1006 : Nat) (C1007 : List Value → Heap → Own → Prop) (r1008 n1009 n1010 n1011 n1012 : Nat) (i1013 : Int) (v1014 : Value) : Tree :=
 pI 1 (g l1001 n1002) (g l1003 0) fun v5 =>
 .load [] v5 1 fun l6 =>
 .call false 104 [g l6 0,iv i1004,pt r1005 0] [] [⟨r1005,150,[g l1003 1]⟩] .one fun l7 c7 =>
 pO (g l7 0) fun v8 =>
 .br v8 (
 .ret (.bool false) []) (
 pA (g l1003 0) (iv 1) fun v9 =>
 .cont n1006 C1007 [v9,g (gd c7 0) 0] (Es [[pt r1008 0],[pt r1005 0],[.func (.func 104) #[] #[pt r1005 0]],[iv i1004],[iv i1004],[pt r1008 n1009,pt r1008 n1010,pt r1008 n1011,pt r1008 n1012],[iv i1013],[g l1001 n1002],[v1014],((pt r1008 0)::G38 l1001 0),[pt r1005 0,.tuple #[]]]))
def nY (v : List Value) : Tree :=
 .newbox fun r0 =>
 .prim (.makeMap 150 false) [] [] [] .one fun l0 _ =>
 .newbox fun r1 =>
 kN r1 <|
 cS 81 [pt r0 1] (.agg 4) fun l1 =>
 kW (g l1 0) r0 6 <|
 kW (g l1 1) r0 7 <|
 kW (g l1 2) r0 8 <|
 kW (g l1 3) r0 9 <|
 kN r0 <|
 pZ (g v 6) fun v2 =>
 .loop 24 10 [iv 0,g l0 0] fun C24 l3 =>
 pL (g l3 0) v2 fun v4 =>
 .br v4 (
 cK v 6 l3 0 r1 24 C24 r0 6 7 8 9 0 v2) (
 kN r0 <|
 pZ (g v 7) fun v10 =>
 .loop 36 10 [iv 0,g l3 1] fun C36 l11 =>
 pL (g l11 0) v10 fun v12 =>
 .br v12 (
 cK v 7 l11 0 r1 36 C36 r0 6 7 8 9 1 v10) (
 kN r0 <|
 pZ (g v 8) fun v18 =>
 .loop 48 10 [iv 0,g l11 1] fun C48 l19 =>
 pL (g l19 0) v18 fun v20 =>
 .br v20 (
 cK v 8 l19 0 r1 48 C48 r0 6 7 8 9 2 v18) (
 kN r0 <|
 pZ (g v 9) fun v26 =>
 .loop 60 10 [iv 0,g l19 1] fun C60 l27 =>
 pL (g l27 0) v26 fun v28 =>
 .br v28 (
 cK v 9 l27 0 r1 60 C60 r0 6 7 8 9 3 v26) (
 cS 81 [pt r0 15] (.agg 4) fun l34 =>
 kW (g l34 0) r0 20 <|
 kW (g l34 1) r0 21 <|
 kW (g l34 2) r0 22 <|
 kW (g l34 3) r0 23 <|
 kN r0 <|
 pZ (g v 20) fun v35 =>
 .loop 83 10 [iv 0,g l27 1] fun C83 l36 =>
 pL (g l36 0) v35 fun v37 =>
 .br v37 (
 cK v 20 l36 1 r1 83 C83 r0 20 21 22 23 0 v35) (
 kN r0 <|
 pZ (g v 21) fun v43 =>
 .loop 95 10 [iv 0,g l36 1] fun C95 l44 =>
 pL (g l44 0) v43 fun v45 =>
 .br v45 (
 cK v 21 l44 1 r1 95 C95 r0 20 21 22 23 1 v43) (
 kN r0 <|
 pZ (g v 22) fun v51 =>
 .loop 107 10 [iv 0,g l44 1] fun C107 l52 =>
 pL (g l52 0) v51 fun v53 =>
 .br v53 (
 cK v 22 l52 1 r1 107 C107 r0 20 21 22 23 2 v51) (
 kN r0 <|
 pZ (g v 23) fun v59 =>
 .loop 119 10 [iv 0,g l52 1] fun C119 l60 =>
 pL (g l60 0) v59 fun v61 =>
 .br v61 (
 cK v 23 l60 1 r1 119 C119 r0 20 21 22 23 3 v59) (
 .prim (.makeMap 150 false) [] [] [] .one fun l67 _ =>
 kN r0 <|
 pZ (g v 29) fun v68 =>
 .loop 133 19 [iv 0,g l60 1] fun C133 l69 =>
 pL (g l69 0) v68 fun v70 =>
 .br v70 (
 pI 5 (g v 29) (g l69 0) fun v71 =>
 .load [] v71 5 fun l72 =>
 .newbox fun r2 =>
 kN r2 <|
 kN r2 <|
 pL (g l72 3) (iv 0) fun v73 =>
 .br v73 (
 kN r2 <|
 kN r2 <|
 .call false 104 [g l72 1,g l72 0,pt r1 0] [] [⟨r1,150,[g l69 1]⟩] .one fun l74 c74 =>
 pO (g l74 0) fun v75 =>
 .br v75 (
 .ret (.bool false) []) (
 kN r2 <|
 kN r2 <|
 .prim (.mapUpdate 150) [g l67 0,g l72 1,g l72 2] [] [] .one fun l76 _ =>
 pA (g l69 0) (iv 1) fun v77 =>
 .cont 133 C133 [v77,g (gd c74 0) 0] (Es [[pt r0 0],[pt r1 0],[.func (.func 104) #[] #[pt r1 0]],[g l67 0],[g v 29],[v68],((pt r0 0)::G38 v 0),[pt r1 0,.tuple #[]]]))) (
 pA (g l69 0) (iv 1) fun v78 =>
 .cont 133 C133 [v78,g l69 1] (Es [[pt r0 0],[pt r1 0],[.func (.func 104) #[] #[pt r1 0]],[g l67 0],[g v 29],[v68],((pt r0 0)::G38 v 0),[pt r1 0,.tuple #[]]]))) (
 kN r0 <|
 pZ (g v 0) fun v79 =>
 .loop 139 27 [iv 0] fun C139 l80 =>
 pL (g l80 0) v79 fun v81 =>
 .br v81 (
 pI 12 (g v 0) (g l80 0) fun v82 =>
 .load [] v82 12 fun l83 =>
 .newbox fun r3 =>
 kN r3 <|
 kN r1 <|
 kN r3 <|
 .prim (.lookup 150 true) [g l69 1,g l83 0] [] [] (.tup [none,none]) fun l84 _ =>
 kN r3 <|
 .prim (.lookup 150 true) [g l67 0,g l83 0] [] [] (.tup [none,none]) fun l85 _ =>
 kN r3 <|
 c1 105 [ag (G12 l83 0)] fun l86 =>
 pO (g l86 0) fun v87 =>
 kV v87 <|
 pG (g l80 0) (iv 0) fun v88 =>
 kV v87 <|
 kN r0 <|
 kV v88 <|
 kV v87 <|
 kV v88 <|
 kV v87 <|
 pS (g l80 0) (iv 1) fun v89 =>
 kV v88 <|
 kV v87 <|
 kV v88 <|
 kV v87 <|
 .pure [(v88,true),(v87,false)] (.idx 12) [g v 0,v89] fun v90 =>
 .chk (.ptr [(v88,true),(v87,false)] v90) <|
 kV v88 <|
 kV v87 <|
 kV v88 <|
 kV v87 <|
 .load [(v88,true),(v87,false)] v90 1 fun l91 =>
 kN r3 <|
 kV v88 <|
 kV v87 <|
 kV v88 <|
 kV v87 <|
 kV v88 <|
 kV v87 <|
 pH (g l91 0) (g l83 0) fun v92 =>
 kV v87 <|
 kV v88 <|
 kV v87 <|
 pK v88 v92 (.bool false) fun v93 =>
 kV v87 <|
 pK v87 (.bool true) v93 fun v94 =>
 kV v94 <|
 pO (g l84 1) fun v95 =>
 kV v94 <|
 pK v94 (.bool true) v95 fun v96 =>
 kN r3 <|
 kV v96 <|
 kV v96 <|
 kV v96 <|
 pN (g l84 0) (g l83 2) fun v97 =>
 kV v96 <|
 pK v96 (.bool true) v97 fun v98 =>
 kV v98 <|
 kN r3 <|
 kV (g l85 1) <|
 kV v98 <|
 kV (g l85 1) <|
 kV v98 <|
 kV (g l85 1) <|
 kV v98 <|
 pN (g l85 0) (g l83 1) fun v99 =>
 kV v98 <|
 kV (g l85 1) <|
 kV v98 <|
 pK (g l85 1) v99 (.bool false) fun v100 =>
 kV v98 <|
 pK v98 (.bool true) v100 fun v101 =>
 .br v101 (
 .ret (.bool false) []) (
 pA (g l80 0) (iv 1) fun v102 =>
 .cont 139 C139 [v102] (Es [[pt r0 0],[pt r1 0],[g l67 0],[g v 0],[v79],((pt r0 0)::G38 v 0),[pt r1 0,g l69 1]]))) (
 kN r1 <|
 .prim (.bi .len #[150] 3) [g l69 1] [] [] .one fun l103 _ =>
 kN r0 <|
 pZ (g v 0) fun v104 =>
 pE (g l103 0) v104 fun v105 =>
 .ret v105 []))))))))))
theorem xd (vs : List Value) : aT PP Tryz.f76 (aE okL [(81, [5, 6, 7, 8])] [(4, .unroll 3), (7, .unroll 5), (10, .inv [35] [1, 3, 4, 5, 21, 27, 28, 33, 34] [(1, []), (3, [0])]), (19, .inv [51] [1, 3, 4, 10, 49, 50] [(1, []), (3, [0])]), (27, .inv [74] [1, 3, 10, 72, 73] [(1, []), (3, [])])] []) vs = nY vs := by kernel_rfl
theorem xY {args vs} (ha : an PP Tryz.f76 args = some vs) (ho : Ones vs) {H O Q} (h : (nY vs).den PP Q H O) : Triple PP ud args H O Q :=
 am mixed (ao aB _ _ _) Tryz.func76 xd ha ho h
abbrev uf : FuncId := 77
def ie (r1001 : Nat) (l1002 : List Value) (n1003 n1004 : Nat) : Tree :=
 kN r1001 <|
 .prim (.makeMap 152 false) [] [] [] .one fun l1 _ =>
 kN r1001 <|
 pZ (g l1002 31) fun v2 =>
 .loop 23 4 [iv 0] fun C23 l3 =>
 pL (g l3 0) v2 fun v4 =>
 .br v4 (
 pI 1 (g l1002 31) (g l3 0) fun v5 =>
 .load [] v5 1 fun l6 =>
 .prim (.lookup 152 false) [g l1 0,g l6 0] [] [] .one fun l7 _ =>
 .br (g l7 0) (
 .ret (.bool false) []) (
 c1 106 [g l1002 n1003,g l6 0] fun l8 =>
 pO (g l8 0) fun v9 =>
 .br v9 (
 .ret (.bool false) []) (
 .prim (.mapUpdate 152) [g l1 0,g l6 0,.bool true] [] [] .one fun l10 _ =>
 pA (g l3 0) (iv 1) fun v11 =>
 .cont 23 C23 [v11] (Es [[pt r1001 0],[g l1002 n1003],[g l1002 n1004],[g l1 0],[g l1002 31],[v2],((pt r1001 0)::G38 l1002 0)])))) (
 kN r1001 <|
 pZ (g l1002 32) fun v12 =>
 .loop 29 11 [iv 0] fun C29 l13 =>
 pL (g l13 0) v12 fun v14 =>
 .br v14 (
 pI 2 (g l1002 32) (g l13 0) fun v15 =>
 .load [] v15 2 fun l16 =>
 .newbox fun r1 =>
 kN r1 <|
 kN r1 <|
 .prim (.lookup 152 false) [g l1 0,g l16 1] [] [] .one fun l17 _ =>
 pO (g l17 0) fun v18 =>
 .br v18 (
 .ret (.bool false) []) (
 kN r1 <|
 .pure [] .neg [g l16 0] fun v19 =>
 .prim (.lookup 152 false) [g l1 0,v19] [] [] .one fun l20 _ =>
 .br (g l20 0) (
 .ret (.bool false) []) (
 kN r1001 <|
 kN r1 <|
 c1 106 [g l1002 31,g l16 1] fun l21 =>
 pO (g l21 0) fun v22 =>
 .br v22 (
 .ret (.bool false) []) (
 kN r1 <|
 c1 106 [g l1002 n1004,g l16 0] fun l23 =>
 pO (g l23 0) fun v24 =>
 .br v24 (
 .ret (.bool false) []) (
 kN r1 <|
 kN r1 <|
 .pure [] .neg [g l16 0] fun v25 =>
 .prim (.mapUpdate 152) [g l1 0,g l16 1,.bool false] [] [] .one fun l26 _ =>
 .prim (.mapUpdate 152) [g l1 0,v25,.bool true] [] [] .one fun l27 _ =>
 pA (g l13 0) (iv 1) fun v28 =>
 .cont 29 C29 [v28] (Es [[pt r1001 0],[g l1002 n1004],[g l1 0],[g l1002 32],[v12],((pt r1001 0)::G38 l1002 0)])))))) (
 .ret (.bool true) []))
def oc (v : List Value) : Tree :=
 .newbox fun r0 =>
 kN r0 <|
 .sw (g v 34) 0 (
 kN r0 <|
 kN r0 <|
 pS (iv 1) (g v 34) fun v0 =>
 .sw v0 0 (
 ie r0 v 8 8) (
 .sw v0 1 (
 ie r0 v 8 22) (
 .stuck 901))) (
 .sw (g v 34) 1 (
 kN r0 <|
 kN r0 <|
 pS (iv 1) (g v 34) fun v57 =>
 .sw v57 0 (
 ie r0 v 22 8) (
 .sw v57 1 (
 ie r0 v 22 22) (
 .stuck 901))) (
 .stuck 901))
theorem xf (vs : List Value) : aT PP Tryz.f77 (aE okL [(81, [5, 6, 7, 8])] [(4, .inv [27] [1, 3, 4, 5, 25, 26] [(1, [])]), (11, .inv [46] [1, 4, 5, 44, 45] [(1, [])])] []) vs = oc vs := by kernel_rfl
theorem yb {args vs} (ha : an PP Tryz.f77 args = some vs) (ho : Ones vs) {H O Q} (h : (oc vs).den PP Q H O) : Triple PP uf args H O Q :=
 am mixed (ao aB _ _ _) Tryz.func77 xf ha ho h
abbrev uM : FuncId := 78
def qk (v : List Value) : Tree :=
 .newbox fun r0 =>
 .newbox fun r1 =>
 kN r0 <|
 kN r0 <|
 c1 107 [g v 11] fun l0 =>
 c1 108 [g v 12] fun l1 =>
 kN r0 <|
 kN r0 <|
 kN r0 <|
 pZ (g l1 0) fun v2 =>
 .loop 16 3 [iv 0] fun C16 l3 =>
 pL (g l3 0) v2 fun v4 =>
 .br v4 (
 pI 2 (g l1 0) (g l3 0) fun v5 =>
 .load [] v5 2 fun l6 =>
 .newbox fun r2 =>
 kN r2 <|
 kN r0 <|
 kN r2 <|
 c1 107 [g l6 1] fun l7 =>
 pI 2 (g l1 0) (g l3 0) fun v8 =>
 kP v8 <|
 kP (aS v8 1) <|
 .store (aS v8 1) [g l7 0] <|
 pA (g l3 0) (iv 1) fun v9 =>
 .cont 16 C16 [v9] (Es [[pt r0 0],[pt r1 0],[g l1 0],[v2],((pt r0 0)::(G11 v 0 ++ [g l0 0,g l1 0,g v 13])),[pt r1 0,.string ⟨#[]⟩,iv 0,iv 0,iv 0,iv 0,iv 0,iv 0,iv 0,iv 0,iv 0,iv 0,.slice none 0 0,.slice none 0 0,iv 0]])) (
 kN r0 <|
 kN r1 <|
 kN r1 <|
 .ret (ag (G11 v 0 ++ [g l0 0,g l1 0,g v 13])) [])
theorem Bp (vs : List Value) : aT PP Tryz.f78 (aE okL [(81, [5, 6, 7, 8])] [(3, .inv [16] [1, 2, 14, 15] [(1, []), (2, [])])] []) vs = qk vs := by kernel_rfl
theorem u6 {args vs} (ha : an PP Tryz.f78 args = some vs) (ho : Ones vs) {H O Q} (h : (qk vs).den PP Q H O) : Triple PP uM args H O Q :=
 am mixed (ao aB _ _ _) Tryz.func78 Bp ha ho h
abbrev lS : FuncId := 79
def ju (v : List Value) : Tree :=
 .newbox fun r0 =>
 .newbox fun r1 =>
 kN r0 <|
 pL (g v 2) (iv 0) fun v0 =>
 kN r0 <|
 kV v0 <|
 kV v0 <|
 pZ (g v 0) fun v1 =>
 kV v0 <|
 kV v0 <|
 pH (g v 2) v1 fun v2 =>
 kV v0 <|
 pK v0 (.bool true) v2 fun v3 =>
 .br v3 (
 kN r1 <|
 kN r1 <|
 .ret (ag Z1) []) (
 kN r0 <|
 pI 14 (g v 0) (g v 2) fun v4 =>
 .load [] v4 14 fun l5 =>
 kN r1 <|
 kN r1 <|
 .ret (ag (G14 l5 0)) [])
theorem yl (vs : List Value) : aT PP Tryz.f79 (aE okL [(81, [5, 6, 7, 8])] [] []) vs = ju vs := by kernel_rfl
theorem md {args vs} (ha : an PP Tryz.f79 args = some vs) (ho : Ones vs) {H O Q} (h : (ju vs).den PP Q H O) : Triple PP lS args H O Q :=
 am mixed (ao aB _ _ _) Tryz.func79 yl ha ho h
abbrev we : FuncId := 80
def qq (v : List Value) : Tree :=
 .newbox fun r0 =>
 kN r0 <|
 c1 42 [ag (G38 v 0)] fun l0 =>
 pO (g l0 0) fun v1 =>
 .br v1 (
 .ret (.tuple #[iv 0,iv 2]) []) (
 kN r0 <|
 cS 52 [g v 0,g v 38,.func (.func 109) #[] #[]] (.tup [none,none]) fun l2 =>
 pO (g l2 1) fun v3 =>
 .br v3 (
 .ret (.tuple #[iv 0,iv 9]) []) (
 .ret (.tuple #[g l2 0,iv 0]) []))
theorem yw (vs : List Value) : aT PP Tryz.f80 (aE okL [(81, [5, 6, 7, 8])] [] []) vs = qq vs := by kernel_rfl
theorem ze {args vs} (ha : an PP Tryz.f80 args = some vs) (ho : Ones vs) {H O Q} (h : (qq vs).den PP Q H O) : Triple PP we args H O Q :=
 am mixed (ao aB _ _ _) Tryz.func80 yw ha ho h
abbrev wc : FuncId := 81
def qo (v : List Value) : Tree :=
 .newbox fun r0 =>
 kP (g v 0) <|
 kP (g v 0) <|
 kP (g v 0) <|
 kP (g v 0) <|
 kP (g v 0) <|
 kP (g v 0) <|
 kP (g v 0) <|
 kP (g v 0) <|
 kN r0 <|
 kN r0 <|
 .ret (.agg #[aS (g v 0) 5,aS (g v 0) 6,aS (g v 0) 7,aS (g v 0) 8]) []
theorem yu (vs : List Value) : aT PP Tryz.f81 (aE okL [(81, [5, 6, 7, 8])] [] []) vs = qo vs := by kernel_rfl
theorem zb {args vs} (ha : an PP Tryz.f81 args = some vs) (ho : Ones vs) {H O Q} (h : (qo vs).den PP Q H O) : Triple PP wc args H O Q :=
 am mixed (ao aB _ _ _) Tryz.func81 yu ha ho h
abbrev jP : FuncId := 82
def fC (v : List Value) : Tree :=
 pZ (g v 0) fun v0 =>
 .loop 4 2 [iv 0] fun C4 l1 =>
 pL (g l1 0) v0 fun v2 =>
 .br v2 (
 pI 1 (g v 0) (g l1 0) fun v3 =>
 .load [] v3 1 fun l4 =>
 pE (g v 1) (g l4 0) fun v5 =>
 .br v5 (
 .ret (g l1 0) []) (
 pA (g l1 0) (iv 1) fun v6 =>
 .cont 4 C4 [v6] (Es [[g v 0],[g v 1],[v0]]))) (
 .ret (iv (-1)) [])
theorem nT (vs : List Value) : aT PP Tryz.f82 (aE okL [(81, [5, 6, 7, 8])] [(2, .inv [8] [0, 1, 7] [])] []) vs = fC vs := by kernel_rfl
theorem ov {args vs} (ha : an PP Tryz.f82 args = some vs) (ho : Ones vs) {H O Q} (h : (fC vs).den PP Q H O) : Triple PP jP args H O Q :=
 am mixed (ao aB _ _ _) Tryz.func82 nT ha ho h
abbrev co : FuncId := 83
def bu (v : List Value) : Tree :=
 pZ (g v 0) fun v0 =>
 .loop 4 2 [iv 0] fun C4 l1 =>
 pL (g l1 0) v0 fun v2 =>
 .br v2 (
 pI 5 (g v 0) (g l1 0) fun v3 =>
 .load [] v3 5 fun l4 =>
 .callv false (g v 1) [ag (G5 l4 0)] [] [] .one fun l5 _ =>
 .br (g l5 0) (
 .ret (g l1 0) []) (
 pA (g l1 0) (iv 1) fun v6 =>
 .cont 4 C4 [v6] (Es [[g v 0],[g v 1],[v0]]))) (
 .ret (iv (-1)) [])
theorem ge (vs : List Value) : aT PP Tryz.f83 (aE okL [(81, [5, 6, 7, 8])] [(2, .inv [8] [0, 1, 7] [])] []) vs = bu vs := by kernel_rfl
theorem cY {args vs} (ha : an PP Tryz.f83 args = some vs) (ho : Ones vs) {H O Q} (h : (bu vs).den PP Q H O) : Triple PP co args H O Q :=
 am mixed (ao aB _ _ _) Tryz.func83 ge ha ho h
abbrev sU : FuncId := 84
def mB (v : List Value) : Tree :=
 .newbox fun r0 =>
 kN r0 <|
 pL (g v 3) (iv 0) fun v0 =>
 kN r0 <|
 kV v0 <|
 .load [(v0,true)] (g v 5) 1 fun l1 =>
 kV v0 <|
 kV v0 <|
 pE (g v 1) (g l1 0) fun v2 =>
 kV v0 <|
 pK v0 v2 (.bool false) fun v3 =>
 .ret v3 []
theorem vV (vs : List Value) : aT PP Tryz.f84 (aE okL [(81, [5, 6, 7, 8])] [] []) vs = mB vs := by kernel_rfl
theorem wt {args vs} (ha : an PP Tryz.f84 args = some vs) (ho : Ones vs) {H O Q} (h : (mB vs).den PP Q H O) : Triple PP sU args H O Q :=
 am mixed (ao aB _ _ _) Tryz.func84 vV ha ho h
abbrev dA : FuncId := 85
def cj (v : List Value) : Tree :=
 .pure [] (.bin .eql .slice) [g v 0,.slice none 0 0] fun v0 =>
 .br v0 (
 .ret (.slice none 0 0) []) (
 .newbox fun r0 =>
 .prim (.bi .append #[23,23] 23) [.slice (some ⟨r0,0,none⟩) 0 0,g v 0] [⟨r0,76,[]⟩] [] .one fun l1 _ =>
 .ret (g l1 0) [])
theorem gh (vs : List Value) : aT PP Tryz.f85 (aE okL [(81, [5, 6, 7, 8])] [] []) vs = cj vs := by kernel_rfl
theorem gm {args vs} (ha : an PP Tryz.f85 args = some vs) (ho : Ones vs) {H O Q} (h : (cj vs).den PP Q H O) : Triple PP dA args H O Q :=
 am mixed (ao aB _ _ _) Tryz.func85 gh ha ho h
abbrev jQ : FuncId := 86
def fE (v : List Value) : Tree :=
 .pure [] (.bin .eql .slice) [g v 0,.slice none 0 0] fun v0 =>
 .br v0 (
 .ret (.slice none 0 0) []) (
 .newbox fun r0 =>
 .prim (.bi .append #[26,26] 26) [.slice (some ⟨r0,0,none⟩) 0 0,g v 0] [⟨r0,3,[]⟩] [] .one fun l1 _ =>
 .ret (g l1 0) [])
theorem nU (vs : List Value) : aT PP Tryz.f86 (aE okL [(81, [5, 6, 7, 8])] [] []) vs = fE vs := by kernel_rfl
theorem ox {args vs} (ha : an PP Tryz.f86 args = some vs) (ho : Ones vs) {H O Q} (h : (fE vs).den PP Q H O) : Triple PP jQ args H O Q :=
 am mixed (ao aB _ _ _) Tryz.func86 nU ha ho h
abbrev dO : FuncId := 87
def cD (v : List Value) : Tree :=
 .pure [] (.bin .eql .slice) [g v 0,.slice none 0 0] fun v0 =>
 .br v0 (
 .ret (.slice none 0 0) []) (
 .newbox fun r0 =>
 .prim (.bi .append #[31,31] 31) [.slice (some ⟨r0,0,none⟩) 0 0,g v 0] [⟨r0,123,[]⟩] [] .one fun l1 _ =>
 .ret (g l1 0) [])
theorem gX (vs : List Value) : aT PP Tryz.f87 (aE okL [(81, [5, 6, 7, 8])] [] []) vs = cD vs := by kernel_rfl
theorem gY {args vs} (ha : an PP Tryz.f87 args = some vs) (ho : Ones vs) {H O Q} (h : (cD vs).den PP Q H O) : Triple PP dO args H O Q :=
 am mixed (ao aB _ _ _) Tryz.func87 gX ha ho h
abbrev wd : FuncId := 88
def qp (v : List Value) : Tree :=
 c1 110 [g v 0] fun l0 =>
 pZ (g l0 0) fun v1 =>
 .loop 7 3 [iv 0] fun C7 l2 =>
 pL (g l2 0) v1 fun v3 =>
 .br v3 (
 pI 5 (g l0 0) (g l2 0) fun v4 =>
 kP v4 <|
 .load [] (aS v4 4) 1 fun l5 =>
 c1 111 [g l5 0] fun l6 =>
 pI 5 (g l0 0) (g l2 0) fun v7 =>
 kP v7 <|
 kP (aS v7 4) <|
 .store (aS v7 4) [g l6 0] <|
 pA (g l2 0) (iv 1) fun v8 =>
 .cont 7 C7 [v8] (Es [[g l0 0],[v1]])) (
 .ret (g l0 0) [])
theorem yv (vs : List Value) : aT PP Tryz.f88 (aE okL [(81, [5, 6, 7, 8])] [(3, .inv [9] [3, 8] [])] []) vs = qp vs := by kernel_rfl
theorem zd {args vs} (ha : an PP Tryz.f88 args = some vs) (ho : Ones vs) {H O Q} (h : (qp vs).den PP Q H O) : Triple PP wd args H O Q :=
 am mixed (ao aB _ _ _) Tryz.func88 yv ha ho h
abbrev wa : FuncId := 89
def qi (v : List Value) : Tree :=
 .newbox fun r0 =>
 .newbox fun r1 =>
 kN r0 <|
 kN r0 <|
 kN r0 <|
 kN r0 <|
 kN r1 <|
 kN r1 <|
 .ret (ag (G5 v 0 ++ [iv 0,g v 6,iv 0,iv 0,g v 9,g v 10,g v 11])) []
theorem ym (vs : List Value) : aT PP Tryz.f89 (aE okL [(81, [5, 6, 7, 8])] [] []) vs = qi vs := by kernel_rfl
theorem y5 {args vs} (ha : an PP Tryz.f89 args = some vs) (ho : Ones vs) {H O Q} (h : (qi vs).den PP Q H O) : Triple PP wa args H O Q :=
 am mixed (ao aB _ _ _) Tryz.func89 ym ha ho h
abbrev cW : FuncId := 90
def bO (v : List Value) : Tree :=
 .newbox fun r0 =>
 kN r0 <|
 c1 112 [g v 0,.agg #[g v 1,g v 2]] fun l0 =>
 pH (g l0 0) (iv 0) fun v1 =>
 .ret v1 []
theorem fe (vs : List Value) : aT PP Tryz.f90 (aE okL [(81, [5, 6, 7, 8])] [] []) vs = bO vs := by kernel_rfl
theorem fj {args vs} (ha : an PP Tryz.f90 args = some vs) (ho : Ones vs) {H O Q} (h : (bO vs).den PP Q H O) : Triple PP cW args H O Q :=
 am mixed (ao aB _ _ _) Tryz.func90 fe ha ho h
abbrev vZ : FuncId := 91
def qg (v : List Value) : Tree :=
 .newbox fun r0 =>
 pL (g v 39) (iv 0) fun v0 =>
 kV v0 <|
 pG (g v 39) (iv 1) fun v1 =>
 kV v0 <|
 pK v0 (.bool true) v1 fun v2 =>
 .br v2 (
 .ret (.slice none 0 0) []) (
 kN r0 <|
 c1 42 [ag (G38 v 1)] fun l3 =>
 pO (g l3 0) fun v4 =>
 .br v4 (
 .ret (.slice none 0 0) []) (
 kN r0 <|
 c1 113 [g v 0,ag (G38 v 1),g v 39,g v 40] fun l5 =>
 .ret (g l5 0) []))
theorem yk (vs : List Value) : aT PP Tryz.f91 (aE okL [(81, [5, 6, 7, 8])] [] []) vs = qg vs := by kernel_rfl
theorem y4 {args vs} (ha : an PP Tryz.f91 args = some vs) (ho : Ones vs) {H O Q} (h : (qg vs).den PP Q H O) : Triple PP vZ args H O Q :=
 am mixed (ao aB _ _ _) Tryz.func91 yk ha ho h
abbrev AL : FuncId := 92
def uJ (v : List Value) : Tree :=
 .newbox fun r0 =>
 .newbox fun r1 =>
 .newbox fun r2 =>
 kN r0 <|
 cS 50 [ag (G38 v 0)] (.agg 38) fun l0 =>
 kN r0 <|
 cS 81 [pt r0 1] (.agg 4) fun l1 =>
 kW (g l1 0) r0 6 <|
 kW (g l1 1) r0 7 <|
 kW (g l1 2) r0 8 <|
 kW (g l1 3) r0 9 <|
 kN r0 <|
 .call false 115 [g l0 6,.func (.func 114) #[] #[pt r1 0]] [] [⟨r1,3,[g v 38]⟩] .one fun l2 c2 =>
 kN r0 <|
 kN r0 <|
 .call false 115 [g l0 7,.func (.func 114) #[] #[pt r1 0]] [] [⟨r1,3,[g (gd c2 0) 0]⟩] .one fun l3 c3 =>
 kN r0 <|
 kN r0 <|
 .call false 115 [g l0 8,.func (.func 114) #[] #[pt r1 0]] [] [⟨r1,3,[g (gd c3 0) 0]⟩] .one fun l4 c4 =>
 kN r0 <|
 kN r0 <|
 .call false 115 [g l0 9,.func (.func 114) #[] #[pt r1 0]] [] [⟨r1,3,[g (gd c4 0) 0]⟩] .one fun l5 c5 =>
 kN r0 <|
 cS 81 [pt r0 15] (.agg 4) fun l6 =>
 kW (g l6 0) r0 20 <|
 kW (g l6 1) r0 21 <|
 kW (g l6 2) r0 22 <|
 kW (g l6 3) r0 23 <|
 kN r0 <|
 .call false 115 [g l0 20,.func (.func 114) #[] #[pt r1 0]] [] [⟨r1,3,[g (gd c5 0) 0]⟩] .one fun l7 c7 =>
 kN r0 <|
 kN r0 <|
 .call false 115 [g l0 21,.func (.func 114) #[] #[pt r1 0]] [] [⟨r1,3,[g (gd c7 0) 0]⟩] .one fun l8 c8 =>
 kN r0 <|
 kN r0 <|
 .call false 115 [g l0 22,.func (.func 114) #[] #[pt r1 0]] [] [⟨r1,3,[g (gd c8 0) 0]⟩] .one fun l9 c9 =>
 kN r0 <|
 kN r0 <|
 .call false 115 [g l0 23,.func (.func 114) #[] #[pt r1 0]] [] [⟨r1,3,[g (gd c9 0) 0]⟩] .one fun l10 c10 =>
 kN r0 <|
 kN r0 <|
 .call false 116 [g l0 29,.func (.func 117) #[] #[pt r1 0]] [] [⟨r1,3,[g (gd c10 0) 0]⟩] .one fun l11 c11 =>
 kN r0 <|
 kN r0 <|
 .call false 115 [g l0 31,.func (.func 114) #[] #[pt r1 0]] [] [⟨r1,3,[g (gd c11 0) 0]⟩] .one fun l12 c12 =>
 kN r0 <|
 kN r0 <|
 .call false 118 [g l0 32,.func (.func 119) #[] #[pt r1 0]] [] [⟨r1,3,[g (gd c12 0) 0]⟩] .one fun l13 c13 =>
 kN r0 <|
 kN r0 <|
 kN r2 <|
 kN r2 <|
 .ret (ag (G6 l0 0 ++ ((g l2 0)::((g l3 0)::((g l4 0)::((g l5 0)::(G10 l0 10 ++ ((g l7 0)::((g l8 0)::((g l9 0)::((g l10 0)::(G5 l0 24 ++ ((g l11 0)::((g l0 30)::((g l12 0)::((g l13 0)::G5 l0 33)))))))))))))))) []
theorem Bq (vs : List Value) : aT PP Tryz.f92 (aE okL [(81, [5, 6, 7, 8])] [(4, .unroll 3), (7, .unroll 5)] []) vs = uJ vs := by kernel_rfl
theorem CE {args vs} (ha : an PP Tryz.f92 args = some vs) (ho : Ones vs) {H O Q} (h : (uJ vs).den PP Q H O) : Triple PP AL args H O Q :=
 am mixed (ao aB _ _ _) Tryz.func92 Bq ha ho h
abbrev mM : FuncId := 93
def iA (v : List Value) : Tree :=
 .newbox fun r0 =>
 .newbox fun r1 =>
 kN r0 <|
 kN r0 <|
 kN r0 <|
 kN r0 <|
 kN r1 <|
 kN r1 <|
 .ret (ag (G5 v 0 ++ [iv 0,g v 6,iv 0,iv 0,g v 9,g v 10,g v 11])) []
theorem rp (vs : List Value) : aT PP Tryz.f93 (aE okL [(81, [5, 6, 7, 8])] [] []) vs = iA vs := by kernel_rfl
theorem rO {args vs} (ha : an PP Tryz.f93 args = some vs) (ho : Ones vs) {H O Q} (h : (iA vs).den PP Q H O) : Triple PP mM args H O Q :=
 am mixed (ao aB _ _ _) Tryz.func93 rp ha ho h
abbrev fH : FuncId := 94
def fB (v : List Value) : Tree :=
 .loop 3 3 [.slice none 0 0,iv 0] fun C3 l0 =>
 pZ (g v 0) fun v1 =>
 pL (g l0 1) v1 fun v2 =>
 .br v2 (
 pI 1 (g v 0) (g l0 1) fun v3 =>
 .load [] v3 1 fun l4 =>
 pN (g l4 0) (g v 1) fun v5 =>
 .br v5 (
 pI 1 (g v 0) (g l0 1) fun v6 =>
 .load [] v6 1 fun l7 =>
 .newbox fun r0 =>
 .prim (.bi .append #[26,26] 26) [g l0 0,.slice (some ⟨r0,0,none⟩) 1 1] [⟨r0,3,[g l7 0]⟩] [] .one fun l8 _ =>
 pA (g l0 1) (iv 1) fun v9 =>
 .cont 3 C3 [g l8 0,v9] (Es [[g v 0],[g v 1]])) (
 pA (g l0 1) (iv 1) fun v10 =>
 .cont 3 C3 [g l0 0,v10] (Es [[g v 0],[g v 1]]))) (
 .ret (g l0 0) [])
theorem nN (vs : List Value) : aT PP Tryz.f94 (aE okL [(81, [5, 6, 7, 8])] [(3, .inv [5, 6] [0, 1] [])] []) vs = fB vs := by kernel_rfl
theorem ou {args vs} (ha : an PP Tryz.f94 args = some vs) (ho : Ones vs) {H O Q} (h : (fB vs).den PP Q H O) : Triple PP fH args H O Q :=
 am mixed (ao aB _ _ _) Tryz.func94 nN ha ho h
abbrev iQ : FuncId := 95
def gv (l1004 : List Value) (C1005 : List Value → Heap → Own → Prop) (l1006 l1007 : List Value) (r1008 n1009 : Nat) (v1010 : Value) : Tree :=
 pA (g l1004 1) (iv 1) fun v10 =>
 .cont 10 C1005 [g l1006 0,v10] (Es [[g l1007 0],[pt r1008 0],[g l1007 n1009],[v1010],((pt r1008 0)::G38 l1007 1)])
def gw (r1001 : Nat) (l1002 : List Value) (n1003 : Nat) : Tree :=
 kN r1001 <|
 pZ (g l1002 n1003) fun v0 =>
 .loop 10 3 [.slice none 0 0,iv 0] fun C10 l1 =>
 pL (g l1 1) v0 fun v2 =>
 .br v2 (
 pI 1 (g l1002 n1003) (g l1 1) fun v3 =>
 .load [] v3 1 fun l4 =>
 kN r1001 <|
 kN r1001 <|
 c1 28 [ag (G38 l1002 1),g l4 0] fun l5 =>
 pI 12 (g l1002 1) (g l5 0) fun v6 =>
 .load [] v6 12 fun l7 =>
 c1 120 [g l1002 0,ag (G12 l7 0)] fun l8 =>
 .br (g l8 0) (
 .newbox fun r1 =>
 .prim (.bi .append #[26,26] 26) [g l1 0,.slice (some ⟨r1,0,none⟩) 1 1] [⟨r1,3,[g l4 0]⟩] [] .one fun l9 _ =>
 gv l1 C10 l9 l1002 r1001 n1003 v0) (
 gv l1 C10 l1 l1002 r1001 n1003 v0)) (
 c1 97 [g l1 0] fun l12 =>
 .ret (g l12 0) [])
def eo (v : List Value) : Tree :=
 .newbox fun r0 =>
 .sw (g v 39) 0 (
 gw r0 v 9) (
 .sw (g v 39) 1 (
 gw r0 v 23) (
 .stuck 901))
theorem mw (vs : List Value) : aT PP Tryz.f95 (aE okL [(81, [5, 6, 7, 8])] [(3, .inv [7, 16] [0, 4, 14, 15] [(4, [])])] []) vs = eo vs := by kernel_rfl
theorem mP {args vs} (ha : an PP Tryz.f95 args = some vs) (ho : Ones vs) {H O Q} (h : (eo vs).den PP Q H O) : Triple PP iQ args H O Q :=
 am mixed (ao aB _ _ _) Tryz.func95 mw ha ho h
abbrev jO : FuncId := 96
def fA (v : List Value) : Tree :=
 .loop 3 3 [.slice none 0 0,iv 0] fun C3 l0 =>
 pZ (g v 0) fun v1 =>
 pL (g l0 1) v1 fun v2 =>
 .br v2 (
 pI 1 (g v 0) (g l0 1) fun v3 =>
 .load [] v3 1 fun l4 =>
 .newbox fun r0 =>
 .prim (.bi .append #[39,39] 39) [g l0 0,.slice (some ⟨r0,0,none⟩) 1 1] [⟨r0,43,[g l4 0,iv 0]⟩] [] .one fun l5 _ =>
 pA (g l0 1) (iv 1) fun v6 =>
 .cont 3 C3 [g l5 0,v6] (Es [[g v 0]])) (
 .ret (g l0 0) [])
theorem nM (vs : List Value) : aT PP Tryz.f96 (aE okL [(81, [5, 6, 7, 8])] [(3, .inv [3, 4] [0] [])] []) vs = fA vs := by kernel_rfl
theorem ot {args vs} (ha : an PP Tryz.f96 args = some vs) (ho : Ones vs) {H O Q} (h : (fA vs).den PP Q H O) : Triple PP jO args H O Q :=
 am mixed (ao aB _ _ _) Tryz.func96 nM ha ho h
abbrev kD : FuncId := 97
def ga (v : List Value) : Tree :=
 .loop 3 3 [.slice none 0 0,iv 0] fun C3 l0 =>
 pZ (g v 0) fun v1 =>
 pL (g l0 1) v1 fun v2 =>
 .br v2 (
 .loop 9 6 [iv 0] fun C9 l3 =>
 pZ (g l0 0) fun v4 =>
 pL (g l3 0) v4 fun v5 =>
 kV v5 <|
 kV v5 <|
 .pure [(v5,true)] (.idx 1) [g l0 0,g l3 0] fun v6 =>
 kV v5 <|
 .load [(v5,true)] v6 1 fun l7 =>
 kV v5 <|
 kV v5 <|
 .pure [(v5,true)] (.idx 1) [g v 0,g l0 1] fun v8 =>
 kV v5 <|
 .load [(v5,true)] v8 1 fun l9 =>
 kV v5 <|
 kV v5 <|
 pL (g l7 0) (g l9 0) fun v10 =>
 kV v5 <|
 pK v5 v10 (.bool false) fun v11 =>
 .br v11 (
 pA (g l3 0) (iv 1) fun v12 =>
 .cont 9 C9 [v12] (Es [[g v 0],[g l0 0],[g l0 1]])) (
 pI 1 (g v 0) (g l0 1) fun v13 =>
 .load [] v13 1 fun l14 =>
 .pure [] (.slc 1 true false false) [g l0 0,g l3 0] fun v15 =>
 .newbox fun r0 =>
 .prim (.bi .append #[26,26] 26) [.slice (some ⟨r0,0,none⟩) 1 1,v15] [⟨r0,3,[g l14 0]⟩] [] .one fun l16 _ =>
 .pure [] (.slc 1 false true false) [g l0 0,g l3 0] fun v17 =>
 .prim (.bi .append #[26,26] 26) [.slice none 0 0,v17] [] [] .one fun l18 _ =>
 .prim (.bi .append #[26,26] 26) [g l18 0,g l16 0] [] [] .one fun l19 _ =>
 pA (g l0 1) (iv 1) fun v20 =>
 .cont 3 C3 [g l19 0,v20] (Es [[g v 0]]))) (
 .ret (g l0 0) [])
theorem oQ (vs : List Value) : aT PP Tryz.f97 (aE okL [(81, [5, 6, 7, 8])] [(3, .inv [3, 4] [0] []), (6, .inv [5] [0, 3, 4] [])] []) vs = ga vs := by kernel_rfl
theorem o8 {args vs} (ha : an PP Tryz.f97 args = some vs) (ho : Ones vs) {H O Q} (h : (ga vs).den PP Q H O) : Triple PP kD args H O Q :=
 am mixed (ao aB _ _ _) Tryz.func97 oQ ha ho h
abbrev kY : FuncId := 98
def gG (v : List Value) : Tree :=
 .newbox fun r0 =>
 kN r0 <|
 cS 46 [g v 0,.agg #[iv 0,g v 3,iv 0,iv 0,iv 0,iv 0,iv 0,iv 0,iv 0,.bool false,.bool false,.bool false]] (.agg 14) fun l0 =>
 .newbox fun r1 =>
 kN r1 <|
 kN r0 <|
 pE (g v 4) (iv (-1)) fun v1 =>
 kN r1 <|
 kV v1 <|
 kV v1 <|
 pE (g l0 1) (iv 3) fun v2 =>
 kV v1 <|
 kN r1 <|
 kV v2 <|
 kV v1 <|
 kV v2 <|
 kV v1 <|
 pE (g l0 1) (iv 4) fun v3 =>
 kV v1 <|
 kV v2 <|
 kV v1 <|
 pK v2 (.bool true) v3 fun v4 =>
 kV v1 <|
 pK v1 v4 (.bool false) fun v5 =>
 .br v5 (
 kN r0 <|
 pZ (g v 5) fun v6 =>
 kN r1 <|
 c1 44 [g l0 11] fun l7 =>
 pZ (g l7 0) fun v8 =>
 pH v6 v8 fun v9 =>
 .ret v9 []) (
 .ret (.bool false) [])
theorem pF (vs : List Value) : aT PP Tryz.f98 (aE okL [(81, [5, 6, 7, 8])] [] []) vs = gG vs := by kernel_rfl
theorem qF {args vs} (ha : an PP Tryz.f98 args = some vs) (ho : Ones vs) {H O Q} (h : (gG vs).den PP Q H O) : Triple PP kY args H O Q :=
 am mixed (ao aB _ _ _) Tryz.func98 pF ha ho h
abbrev lp : FuncId := 99
def gR (v : List Value) : Tree :=
 pH (g v 0) (iv 0) fun v0 =>
 kV v0 <|
 pM (g v 0) (iv 99) fun v1 =>
 kV v0 <|
 pK v0 v1 (.bool false) fun v2 =>
 .ret v2 []
theorem qa (vs : List Value) : aT PP Tryz.f99 (aE okL [(81, [5, 6, 7, 8])] [] []) vs = gR vs := by kernel_rfl
theorem qQ {args vs} (ha : an PP Tryz.f99 args = some vs) (ho : Ones vs) {H O Q} (h : (gR vs).den PP Q H O) : Triple PP lp args H O Q :=
 am mixed (ao aB _ _ _) Tryz.func99 qa ha ho h
abbrev wb : FuncId := 100
def qj (v : List Value) : Tree :=
 .newbox fun r0 =>
 kN r0 <|
 .loop 4 2 [iv 0] fun C4 l0 =>
 pL (g l0 0) (iv 4) fun v1 =>
 .br v1 (
 .pure [] .aidx ((g l0 0)::G4 v 0) fun v2 =>
 pL v2 (iv 0) fun v3 =>
 kV v3 <|
 kV v3 <|
 pG v2 (g v 4) fun v4 =>
 kV v3 <|
 pK v3 (.bool true) v4 fun v5 =>
 .br v5 (
 .ret (.bool false) []) (
 pA (g l0 0) (iv 1) fun v6 =>
 .cont 4 C4 [v6] (Es [[g v 4],G4 v 0]))) (
 .ret (.bool true) [])
theorem yo (vs : List Value) : aT PP Tryz.f100 (aE okL [(81, [5, 6, 7, 8])] [(2, .inv [8] [1, 7] [])] []) vs = qj vs := by kernel_rfl
theorem y6 {args vs} (ha : an PP Tryz.f100 args = some vs) (ho : Ones vs) {H O Q} (h : (qj vs).den PP Q H O) : Triple PP wb args H O Q :=
 am mixed (ao aB _ _ _) Tryz.func100 yo ha ho h
abbrev cJ : FuncId := 101
def bC (v : List Value) : Tree :=
 c1 121 [g v 0,g v 1] fun l0 =>
 pH (g l0 0) (iv 0) fun v1 =>
 .ret v1 []
theorem d6 (vs : List Value) : aT PP Tryz.f101 (aE okL [(81, [5, 6, 7, 8])] [] []) vs = bC vs := by kernel_rfl
theorem ee {args vs} (ha : an PP Tryz.f101 args = some vs) (ho : Ones vs) {H O Q} (h : (bC vs).den PP Q H O) : Triple PP cJ args H O Q :=
 am mixed (ao aB _ _ _) Tryz.func101 d6 ha ho h
abbrev ue : FuncId := 102
def nZ (v : List Value) : Tree :=
 .newbox fun r0 =>
 kN r0 <|
 c1 103 [.agg #[g v 0,g v 1]] fun l0 =>
 pO (g l0 0) fun v1 =>
 .ret v1 []
theorem xe (vs : List Value) : aT PP Tryz.f102 (aE okL [(81, [5, 6, 7, 8])] [] []) vs = nZ vs := by kernel_rfl
theorem xZ {args vs} (ha : an PP Tryz.f102 args = some vs) (ho : Ones vs) {H O Q} (h : (nZ vs).den PP Q H O) : Triple PP ue args H O Q :=
 am mixed (ao aB _ _ _) Tryz.func102 xe ha ho h
abbrev wg : FuncId := 103
def qr (v : List Value) : Tree :=
 .newbox fun r0 =>
 kN r0 <|
 c1 70 [g v 0,iv 0,iv 500] fun l0 =>
 .br (g l0 0) (
 kN r0 <|
 c1 70 [g v 1,iv 0,iv 1] fun l1 =>
 kN r0 <|
 kV (g l1 0) <|
 kV (g l1 0) <|
 pE (g v 0) (iv 0) fun v2 =>
 kV (g l1 0) <|
 kN r0 <|
 kV v2 <|
 kV (g l1 0) <|
 kV v2 <|
 kV (g l1 0) <|
 pE (g v 1) (iv 0) fun v3 =>
 kV (g l1 0) <|
 kV v2 <|
 kV (g l1 0) <|
 pK v2 (.bool true) v3 fun v4 =>
 kV (g l1 0) <|
 pK (g l1 0) v4 (.bool false) fun v5 =>
 .ret v5 []) (
 .ret (.bool false) [])
theorem yx (vs : List Value) : aT PP Tryz.f103 (aE okL [(81, [5, 6, 7, 8])] [] []) vs = qr vs := by kernel_rfl
theorem zf {args vs} (ha : an PP Tryz.f103 args = some vs) (ho : Ones vs) {H O Q} (h : (qr vs).den PP Q H O) : Triple PP wg args H O Q :=
 am mixed (ao aB _ _ _) Tryz.func103 yx ha ho h
abbrev kQ : FuncId := 104
def kO (v : List Value) : Tree :=
 .load [] (g v 2) 1 fun l0 =>
 .prim (.lookup 150 true) [g l0 0,g v 0] [] [] (.tup [none,none]) fun l1 _ =>
 .load [] (g v 2) 1 fun l2 =>
 .prim (.mapUpdate 150) [g l2 0,g v 0,g v 1] [] [] .one fun l3 _ =>
 pO (g l1 1) fun v4 =>
 .ret v4 []
theorem uI (vs : List Value) : aT PP Tryz.f104 (aE okL [(81, [5, 6, 7, 8])] [] []) vs = kO vs := by kernel_rfl
theorem u7 {args vs} (ha : an PP Tryz.f104 args = some vs) (ho : Ones vs) {H O Q} (h : (kO vs).den PP Q H O) : Triple PP kQ args H O Q :=
 am mixed (ao aB _ _ _) Tryz.func104 uI ha ho h
abbrev t7 : FuncId := 105
def nV (v : List Value) : Tree :=
 .newbox fun r0 =>
 kN r0 <|
 kN r0 <|
 kN r0 <|
 kN r0 <|
 kN r0 <|
 kN r0 <|
 .loop 16 2 [iv 0] fun C16 l0 =>
 pL (g l0 0) (iv 6) fun v1 =>
 .br v1 (
 .pure [] .aidx ((g l0 0)::G6 v 3) fun v2 =>
 pL v2 (iv 0) fun v3 =>
 kV v3 <|
 pG v2 (iv 99) fun v4 =>
 kV v3 <|
 pK v3 (.bool true) v4 fun v5 =>
 .br v5 (
 .ret (.bool false) []) (
 pA (g l0 0) (iv 1) fun v6 =>
 .cont 16 C16 [v6] (Es [[pt r0 0],G6 v 3,((pt r0 0)::G12 v 0)]))) (
 kN r0 <|
 pE (g v 1) (iv (-1)) fun v7 =>
 kN r0 <|
 kV v7 <|
 kV v7 <|
 pE (g v 3) (iv 0) fun v8 =>
 kV v7 <|
 kN r0 <|
 kV v8 <|
 kV v7 <|
 kV v8 <|
 kV v7 <|
 pE (g v 4) (iv 0) fun v9 =>
 kV v7 <|
 kV v8 <|
 kV v7 <|
 pK v8 v9 (.bool false) fun v10 =>
 kV v7 <|
 pK v7 (.bool true) v10 fun v11 =>
 kN r0 <|
 kV v11 <|
 kV v11 <|
 pH (g v 0) (iv 1) fun v12 =>
 kV v11 <|
 pK v11 v12 (.bool false) fun v13 =>
 kN r0 <|
 kV v13 <|
 kV v13 <|
 pM (g v 0) (iv 500) fun v14 =>
 kV v13 <|
 pK v13 v14 (.bool false) fun v15 =>
 kN r0 <|
 kV v15 <|
 kV v15 <|
 pH (g v 1) (iv (-1)) fun v16 =>
 kV v15 <|
 pK v15 v16 (.bool false) fun v17 =>
 kN r0 <|
 kV v17 <|
 kV v17 <|
 pL (g v 1) (iv 400) fun v18 =>
 kV v17 <|
 pK v17 v18 (.bool false) fun v19 =>
 kN r0 <|
 kV v19 <|
 kV v19 <|
 pE (g v 2) (iv 0) fun v20 =>
 kV v19 <|
 kN r0 <|
 kV v20 <|
 kV v19 <|
 kV v20 <|
 kV v19 <|
 pE (g v 2) (iv 1) fun v21 =>
 kV v19 <|
 kV v20 <|
 kV v19 <|
 pK v20 (.bool true) v21 fun v22 =>
 kV v19 <|
 pK v19 v22 (.bool false) fun v23 =>
 .ret v23 [])
theorem w8 (vs : List Value) : aT PP Tryz.f105 (aE okL [(81, [5, 6, 7, 8])] [(2, .inv [19] [1, 18] [(1, [])])] []) vs = nV vs := by kernel_rfl
theorem xV {args vs} (ha : an PP Tryz.f105 args = some vs) (ho : Ones vs) {H O Q} (h : (nV vs).den PP Q H O) : Triple PP t7 args H O Q :=
 am mixed (ao aB _ _ _) Tryz.func105 w8 ha ho h
abbrev cq : FuncId := 106
def dZ (v : List Value) : Tree :=
 c1 82 [g v 0,g v 1] fun l0 =>
 pH (g l0 0) (iv 0) fun v1 =>
 .ret v1 []
theorem lQ (vs : List Value) : aT PP Tryz.f106 (aE okL [(81, [5, 6, 7, 8])] [] []) vs = dZ vs := by kernel_rfl
theorem mc {args vs} (ha : an PP Tryz.f106 args = some vs) (ho : Ones vs) {H O Q} (h : (dZ vs).den PP Q H O) : Triple PP cq args H O Q :=
 am mixed (ao aB _ _ _) Tryz.func106 lQ ha ho h
abbrev dC : FuncId := 107
def cn (v : List Value) : Tree :=
 .pure [] (.bin .eql .slice) [g v 0,.slice none 0 0] fun v0 =>
 .br v0 (
 .ret (.slice none 0 0) []) (
 .newbox fun r0 =>
 .prim (.bi .append #[51,51] 51) [.slice (some ⟨r0,0,none⟩) 0 0,g v 0] [⟨r0,56,[]⟩] [] .one fun l1 _ =>
 .ret (g l1 0) [])
theorem gi (vs : List Value) : aT PP Tryz.f107 (aE okL [(81, [5, 6, 7, 8])] [] []) vs = cn vs := by kernel_rfl
theorem gn {args vs} (ha : an PP Tryz.f107 args = some vs) (ho : Ones vs) {H O Q} (h : (cn vs).den PP Q H O) : Triple PP dC args H O Q :=
 am mixed (ao aB _ _ _) Tryz.func107 gi ha ho h
abbrev de : FuncId := 108
def bV (v : List Value) : Tree :=
 .pure [] (.bin .eql .slice) [g v 0,.slice none 0 0] fun v0 =>
 .br v0 (
 .ret (.slice none 0 0) []) (
 .newbox fun r0 =>
 .prim (.bi .append #[84,84] 84) [.slice (some ⟨r0,0,none⟩) 0 0,g v 0] [⟨r0,89,[]⟩] [] .one fun l1 _ =>
 .ret (g l1 0) [])
theorem fF (vs : List Value) : aT PP Tryz.f108 (aE okL [(81, [5, 6, 7, 8])] [] []) vs = bV vs := by kernel_rfl
theorem fK {args vs} (ha : an PP Tryz.f108 args = some vs) (ho : Ones vs) {H O Q} (h : (bV vs).den PP Q H O) : Triple PP de args H O Q :=
 am mixed (ao aB _ _ _) Tryz.func108 fF ha ho h
abbrev jD : FuncId := 109
def mA (v : List Value) : Tree :=
 .newbox fun r0 =>
 kN r0 <|
 pS (g v 0) (g v 12) fun v0 =>
 .ret v0 []
theorem vU (vs : List Value) : aT PP Tryz.f109 (aE okL [(81, [5, 6, 7, 8])] [] []) vs = mA vs := by kernel_rfl
theorem wq {args vs} (ha : an PP Tryz.f109 args = some vs) (ho : Ones vs) {H O Q} (h : (mA vs).den PP Q H O) : Triple PP jD args H O Q :=
 am mixed (ao aB _ _ _) Tryz.func109 vU ha ho h
abbrev d5 : FuncId := 110
def cL (v : List Value) : Tree :=
 .pure [] (.bin .eql .slice) [g v 0,.slice none 0 0] fun v0 =>
 .br v0 (
 .ret (.slice none 0 0) []) (
 .newbox fun r0 =>
 .prim (.bi .append #[30,30] 30) [.slice (some ⟨r0,0,none⟩) 0 0,g v 0] [⟨r0,41,[]⟩] [] .one fun l1 _ =>
 .ret (g l1 0) [])
theorem iC (vs : List Value) : aT PP Tryz.f110 (aE okL [(81, [5, 6, 7, 8])] [] []) vs = cL vs := by kernel_rfl
theorem iS {args vs} (ha : an PP Tryz.f110 args = some vs) (ho : Ones vs) {H O Q} (h : (cL vs).den PP Q H O) : Triple PP d5 args H O Q :=
 am mixed (ao aB _ _ _) Tryz.func110 iC ha ho h
abbrev dz : FuncId := 111
def cg (v : List Value) : Tree :=
 .pure [] (.bin .eql .slice) [g v 0,.slice none 0 0] fun v0 =>
 .br v0 (
 .ret (.slice none 0 0) []) (
 .newbox fun r0 =>
 .prim (.bi .append #[39,39] 39) [.slice (some ⟨r0,0,none⟩) 0 0,g v 0] [⟨r0,43,[]⟩] [] .one fun l1 _ =>
 .ret (g l1 0) [])
theorem gf (vs : List Value) : aT PP Tryz.f111 (aE okL [(81, [5, 6, 7, 8])] [] []) vs = cg vs := by kernel_rfl
theorem gk {args vs} (ha : an PP Tryz.f111 args = some vs) (ho : Ones vs) {H O Q} (h : (cg vs).den PP Q H O) : Triple PP dz args H O Q :=
 am mixed (ao aB _ _ _) Tryz.func111 gf ha ho h
abbrev dw : FuncId := 112
def ce (v : List Value) : Tree :=
 .newbox fun r0 =>
 pZ (g v 0) fun v0 =>
 .loop 5 2 [iv 0] fun C5 l1 =>
 pL (g l1 0) v0 fun v2 =>
 .br v2 (
 kN r0 <|
 pI 2 (g v 0) (g l1 0) fun v3 =>
 .load [] v3 2 fun l4 =>
 .raw [] (.eqv .eql 43 false) [.agg #[g v 1,g v 2],.agg #[g l4 0,g l4 1]] fun v5 =>
 .br v5 (
 .ret (g l1 0) []) (
 pA (g l1 0) (iv 1) fun v6 =>
 .cont 5 C5 [v6] (Es [[g v 0],[pt r0 0],[v0],[pt r0 0,g v 1,g v 2]]))) (
 .ret (iv (-1)) [])
theorem gc (vs : List Value) : aT PP Tryz.f112 (aE okL [(81, [5, 6, 7, 8])] [(2, .inv [8] [0, 3, 7] [(3, [])])] []) vs = ce vs := by kernel_rfl
theorem gj {args vs} (ha : an PP Tryz.f112 args = some vs) (ho : Ones vs) {H O Q} (h : (ce vs).den PP Q H O) : Triple PP dw args H O Q :=
 am mixed (ao aB _ _ _) Tryz.func112 gc ha ho h
abbrev dr : FuncId := 113
def sQ (l1001 : List Value) (C1002 : List Value → Heap → Own → Prop) (l1003 l1004 : List Value) (r1005 : Nat) : Tree :=
 pS (g l1001 1) (iv 1) fun v34 =>
 .cont 20 C1002 [g l1003 0,v34] (Es [[g l1004 0],[pt r1005 0],((pt r1005 0)::G38 l1004 1)])
def dp (v : List Value) : Tree :=
 .newbox fun r0 =>
 pE (g v 40) (iv 1) fun v0 =>
 .br v0 (
 kN r0 <|
 kN r0 <|
 c1 113 [g v 0,ag (G38 v 1),g v 39,iv 2] fun l1 =>
 c1 113 [g v 0,ag (G38 v 1),g v 39,iv 3] fun l2 =>
 .prim (.bi .append #[39,39] 39) [g l1 0,g l2 0] [] [] .one fun l3 _ =>
 cS 122 [g l3 0,.func (.func 123) #[] #[]] (.tup []) fun l4 =>
 .ret (g l3 0) []) (
 pE (g v 40) (iv 3) fun v5 =>
 .br v5 (
 kN r0 <|
 pS (iv 1) (g v 39) fun v6 =>
 c1 113 [g v 0,ag (G38 v 1),v6,iv 2] fun l7 =>
 .ret (g l7 0) []) (
 pE (g v 40) (iv 2) fun v8 =>
 .br v8 (
 kN r0 <|
 c1 125 [g v 0,ag (G38 v 1),g v 39] fun l9 =>
 pZ (g l9 0) fun v10 =>
 .loop 15 9 [.slice none 0 0,iv 0] fun C15 l11 =>
 pL (g l11 1) v10 fun v12 =>
 .br v12 (
 pI 1 (g l9 0) (g l11 1) fun v13 =>
 .load [] v13 1 fun l14 =>
 .newbox fun r1 =>
 .prim (.bi .append #[39,39] 39) [g l11 0,.slice (some ⟨r1,0,none⟩) 1 1] [⟨r1,43,[g l14 0,iv 0]⟩] [] .one fun l15 _ =>
 pA (g l11 1) (iv 1) fun v16 =>
 .cont 15 C15 [g l15 0,v16] (Es [[g l9 0],[v10]])) (
 .ret (g l11 0) [])) (
 pE (g v 40) (iv 4) fun v17 =>
 .br v17 (
 pS (iv 1) (g v 39) fun v18 =>
 .newbox fun r2 =>
 .ret (.slice (some ⟨r2,0,none⟩) 2 2) [⟨r2,43,[iv 0,v18,iv 0,g v 39]⟩]) (
 pE (g v 40) (iv 5) fun v19 =>
 .br v19 (
 kN r0 <|
 kN r0 <|
 c1 113 [g v 0,ag (G38 v 1),g v 39,iv 4] fun l20 =>
 c1 113 [g v 0,ag (G38 v 1),g v 39,iv 1] fun l21 =>
 .prim (.bi .append #[39,39] 39) [g l20 0,g l21 0] [] [] .one fun l22 _ =>
 .ret (g l22 0) []) (
 pE (g v 40) (iv 6) fun v23 =>
 .br v23 (
 kN r0 <|
 pZ (g v 30) fun v24 =>
 pS v24 (iv 1) fun v25 =>
 .loop 20 19 [.slice none 0 0,v25] fun C20 l26 =>
 pH (g l26 1) (iv 0) fun v27 =>
 .br v27 (
 kN r0 <|
 pI 5 (g v 30) (g l26 1) fun v28 =>
 .load [] v28 5 fun l29 =>
 c1 126 [g v 0,ag (G5 l29 0)] fun l30 =>
 .br (g l30 0) (
 kN r0 <|
 pI 5 (g v 30) (g l26 1) fun v31 =>
 kP v31 <|
 .load [] (aS v31 1) 1 fun l32 =>
 .newbox fun r3 =>
 .prim (.bi .append #[39,39] 39) [g l26 0,.slice (some ⟨r3,0,none⟩) 1 1] [⟨r3,43,[g l32 0,iv 0]⟩] [] .one fun l33 _ =>
 sQ l26 C20 l33 v r0) (
 sQ l26 C20 l26 v r0)) (
 .ret (g l26 0) [])) (
 .ret (.slice none 0 0) []))))))
theorem yj (vs : List Value) : aT PP Tryz.f113 (aE okL [(81, [5, 6, 7, 8])] [(19, .inv [8, 11] [0, 5] [(5, [])]), (9, .inv [8, 40] [38, 39] [])] []) vs = dp vs := by kernel_rfl
theorem dH {args vs} (ha : an PP Tryz.f113 args = some vs) (ho : Ones vs) {H O Q} (h : (dp vs).den PP Q H O) : Triple PP dr args H O Q :=
 am mixed (ao aB _ _ _) Tryz.func113 yj ha ho h
abbrev lU : FuncId := 114
def qn (v : List Value) : Tree :=
 .load [] (g v 1) 1 fun l0 =>
 pE (g v 0) (g l0 0) fun v1 =>
 .ret v1 []
theorem yr (vs : List Value) : aT PP Tryz.f114 (aE okL [(81, [5, 6, 7, 8])] [] []) vs = qn vs := by kernel_rfl
theorem za {args vs} (ha : an PP Tryz.f114 args = some vs) (ho : Ones vs) {H O Q} (h : (qn vs).den PP Q H O) : Triple PP lU args H O Q :=
 am mixed (ao aB _ _ _) Tryz.func114 yr ha ho h
abbrev dM : FuncId := 115
def dL (v : List Value) : Tree :=
 c1 127 [g v 0,g v 1] fun l0 =>
 pE (g l0 0) (iv (-1)) fun v1 =>
 .br v1 (
 .ret (g v 0) []) (
 pA (g l0 0) (iv 1) fun v2 =>
 .loop 10 5 [g l0 0,v2] fun C10 l3 =>
 pZ (g v 0) fun v4 =>
 pL (g l3 1) v4 fun v5 =>
 .br v5 (
 pI 1 (g v 0) (g l3 1) fun v6 =>
 .load [] v6 1 fun l7 =>
 .callv false (g v 1) [g l7 0] [] [] .one fun l8 _ =>
 pO (g l8 0) fun v9 =>
 .br v9 (
 pI 1 (g v 0) (g l3 0) fun v10 =>
 kP v10 <|
 .store v10 [g l7 0] <|
 pA (g l3 0) (iv 1) fun v11 =>
 pA (g l3 1) (iv 1) fun v12 =>
 .cont 10 C10 [v11,v12] (Es [[g v 0],[g v 1]])) (
 pA (g l3 1) (iv 1) fun v13 =>
 .cont 10 C10 [g l3 0,v13] (Es [[g v 0],[g v 1]]))) (
 .pure [] (.slc 1 true false false) [g v 0,g l3 0] fun v14 =>
 .prim (.bi .clear #[26] 0) [v14] [] [] (.tup []) fun l15 _ =>
 .pure [] (.slc 1 false true false) [g v 0,g l3 0] fun v16 =>
 .ret v16 []))
theorem kp (vs : List Value) : aT PP Tryz.f115 (aE okL [(81, [5, 6, 7, 8])] [(5, .inv [5, 6] [0, 1] [])] []) vs = dL vs := by kernel_rfl
theorem kH {args vs} (ha : an PP Tryz.f115 args = some vs) (ho : Ones vs) {H O Q} (h : (dL vs).den PP Q H O) : Triple PP dM args H O Q :=
 am mixed (ao aB _ _ _) Tryz.func115 kp ha ho h
abbrev bY : FuncId := 116
def bX (v : List Value) : Tree :=
 c1 83 [g v 0,g v 1] fun l0 =>
 pE (g l0 0) (iv (-1)) fun v1 =>
 .br v1 (
 .ret (g v 0) []) (
 pA (g l0 0) (iv 1) fun v2 =>
 .loop 10 5 [g l0 0,v2] fun C10 l3 =>
 pZ (g v 0) fun v4 =>
 pL (g l3 1) v4 fun v5 =>
 .br v5 (
 pI 5 (g v 0) (g l3 1) fun v6 =>
 .load [] v6 5 fun l7 =>
 .newbox fun r0 =>
 kN r0 <|
 kN r0 <|
 .callv false (g v 1) [ag (G5 l7 0)] [] [] .one fun l8 _ =>
 pO (g l8 0) fun v9 =>
 .br v9 (
 kN r0 <|
 pI 5 (g v 0) (g l3 0) fun v10 =>
 kP v10 <|
 .store v10 (G5 l7 0) <|
 pA (g l3 0) (iv 1) fun v11 =>
 pA (g l3 1) (iv 1) fun v12 =>
 .cont 10 C10 [v11,v12] (Es [[g v 0],[g v 1]])) (
 pA (g l3 1) (iv 1) fun v13 =>
 .cont 10 C10 [g l3 0,v13] (Es [[g v 0],[g v 1]]))) (
 .pure [] (.slc 5 true false false) [g v 0,g l3 0] fun v14 =>
 .prim (.bi .clear #[30] 0) [v14] [] [] (.tup []) fun l15 _ =>
 .pure [] (.slc 5 false true false) [g v 0,g l3 0] fun v16 =>
 .ret v16 []))
theorem fM (vs : List Value) : aT PP Tryz.f116 (aE okL [(81, [5, 6, 7, 8])] [(5, .inv [5, 6] [0, 1] [])] []) vs = bX vs := by kernel_rfl
theorem fR {args vs} (ha : an PP Tryz.f116 args = some vs) (ho : Ones vs) {H O Q} (h : (bX vs).den PP Q H O) : Triple PP bY args H O Q :=
 am mixed (ao aB _ _ _) Tryz.func116 fM ha ho h
abbrev qx : FuncId := 117
def qm (v : List Value) : Tree :=
 .newbox fun r0 =>
 kN r0 <|
 pL (g v 3) (iv 0) fun v0 =>
 kN r0 <|
 kV v0 <|
 .load [(v0,true)] (g v 5) 1 fun l1 =>
 kV v0 <|
 kV v0 <|
 pE (g v 1) (g l1 0) fun v2 =>
 kV v0 <|
 pK v0 v2 (.bool false) fun v3 =>
 .ret v3 []
theorem yq (vs : List Value) : aT PP Tryz.f117 (aE okL [(81, [5, 6, 7, 8])] [] []) vs = qm vs := by kernel_rfl
theorem y9 {args vs} (ha : an PP Tryz.f117 args = some vs) (ho : Ones vs) {H O Q} (h : (qm vs).den PP Q H O) : Triple PP qx args H O Q :=
 am mixed (ao aB _ _ _) Tryz.func117 yq ha ho h
end Go.Proofs.YtieaihgbjikggaaGreat
