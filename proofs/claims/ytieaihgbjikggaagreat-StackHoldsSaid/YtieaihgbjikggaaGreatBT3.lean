/- The trees of the functions of this seat: printed by a tool of mine; each by the kernel's reckoning equal to the evaluator's. -/
import Derived.Test.YtieaihgbjikggaaGreatBT2
namespace Go.Proofs.YtieaihgbjikggaaGreat
open Go Go.Sx
set_option maxRecDepth 100000
abbrev tR : FuncId := 48
def oz (v : List Value) : Tree :=
 .newbox fun r0 =>
 .newbox fun r1 =>
 .newbox fun r2 =>
 kN r0 <|
 kN r1 <|
 cS 80 [ag (G38 v 0),g v 38] (.tup [none,none]) fun l0 =>
 pN (g l0 1) (iv 0) fun v1 =>
 .br v1 (
 kN r2 <|
 kN r2 <|
 .ret (.tuple #[.agg #[iv 0,iv 0,iv 0],g l0 1]) []) (
 cS 81 [pt r0 1] (.agg 4) fun l2 =>
 kW (g l2 0) r0 6 <|
 kW (g l2 1) r0 7 <|
 kW (g l2 2) r0 8 <|
 kW (g l2 3) r0 9 <|
 kN r0 <|
 kN r1 <|
 c1 82 [g v 6,g v 38] fun l3 =>
 pH (g l3 0) (iv 0) fun v4 =>
 .br v4 (
 kN r2 <|
 kN r2 <|
 .ret (.tuple #[.agg #[iv 0,iv 0,g l3 0],iv 0]) []) (
 kN r0 <|
 kN r1 <|
 c1 82 [g v 7,g v 38] fun l5 =>
 pH (g l5 0) (iv 0) fun v6 =>
 .br v6 (
 kN r2 <|
 kN r2 <|
 .ret (.tuple #[.agg #[iv 0,iv 1,g l5 0],iv 0]) []) (
 kN r0 <|
 kN r1 <|
 c1 82 [g v 8,g v 38] fun l7 =>
 pH (g l7 0) (iv 0) fun v8 =>
 .br v8 (
 kN r2 <|
 kN r2 <|
 .ret (.tuple #[.agg #[iv 0,iv 2,g l7 0],iv 0]) []) (
 kN r0 <|
 kN r1 <|
 c1 82 [g v 9,g v 38] fun l9 =>
 pH (g l9 0) (iv 0) fun v10 =>
 .br v10 (
 kN r2 <|
 kN r2 <|
 .ret (.tuple #[.agg #[iv 0,iv 3,g l9 0],iv 0]) []) (
 cS 81 [pt r0 15] (.agg 4) fun l11 =>
 kW (g l11 0) r0 20 <|
 kW (g l11 1) r0 21 <|
 kW (g l11 2) r0 22 <|
 kW (g l11 3) r0 23 <|
 kN r0 <|
 kN r1 <|
 c1 82 [g v 20,g v 38] fun l12 =>
 pH (g l12 0) (iv 0) fun v13 =>
 .br v13 (
 kN r2 <|
 kN r2 <|
 .ret (.tuple #[.agg #[iv 1,iv 0,g l12 0],iv 0]) []) (
 kN r0 <|
 kN r1 <|
 c1 82 [g v 21,g v 38] fun l14 =>
 pH (g l14 0) (iv 0) fun v15 =>
 .br v15 (
 kN r2 <|
 kN r2 <|
 .ret (.tuple #[.agg #[iv 1,iv 1,g l14 0],iv 0]) []) (
 kN r0 <|
 kN r1 <|
 c1 82 [g v 22,g v 38] fun l16 =>
 pH (g l16 0) (iv 0) fun v17 =>
 .br v17 (
 kN r2 <|
 kN r2 <|
 .ret (.tuple #[.agg #[iv 1,iv 2,g l16 0],iv 0]) []) (
 kN r0 <|
 kN r1 <|
 c1 82 [g v 23,g v 38] fun l18 =>
 pH (g l18 0) (iv 0) fun v19 =>
 .br v19 (
 kN r2 <|
 kN r2 <|
 .ret (.tuple #[.agg #[iv 1,iv 3,g l18 0],iv 0]) []) (
 kN r0 <|
 .call false 83 [g v 29,.func (.func 84) #[] #[pt r1 0]] [] [⟨r1,3,[g v 38]⟩] .one fun l20 c20 =>
 kN r0 <|
 pI 5 (g v 29) (g l20 0) fun v21 =>
 kP v21 <|
 .load [] v21 1 fun l22 =>
 kN r2 <|
 kN r2 <|
 .ret (.tuple #[.agg #[g l22 0,iv 4,g l20 0],iv 0]) [])))))))))
theorem wb (vs : List Value) : aW PP Tryz.f48 (aG okL [(81, [5, 6, 7, 8])] [(5, .unroll 3), (8, .unroll 5)] []) vs = oz vs := by kernel_rfl
theorem wV {args vs} (ha : an PP Tryz.f48 args = some vs) (ho : Ones vs) {H O Q} (h : (oz vs).den PP Q H O) : Triple PP tR args H O Q :=
 am mixed (ao aE _ _ _) Tryz.func48 wb ha ho h
abbrev vv : FuncId := 49
def qG (v : List Value) : Tree :=
 .newbox fun r0 =>
 .newbox fun r1 =>
 kN r0 <|
 cS 80 [ag (G38 v 0),g v 38] (.tup [none,none]) fun l0 =>
 pN (g l0 1) (iv 0) fun v1 =>
 .br v1 (
 kN r1 <|
 kN r1 <|
 .ret (.tuple #[ag Z2,g l0 1]) []) (
 kN r0 <|
 pI 12 (g v 0) (g l0 0) fun v2 =>
 .load [] v2 12 fun l3 =>
 kN r1 <|
 kN r1 <|
 .ret (.tuple #[ag (G12 l3 0),iv 0]) [])
theorem yx (vs : List Value) : aW PP Tryz.f49 (aG okL [(81, [5, 6, 7, 8])] [] []) vs = qG vs := by kernel_rfl
theorem yJ {args vs} (ha : an PP Tryz.f49 args = some vs) (ho : Ones vs) {H O Q} (h : (qG vs).den PP Q H O) : Triple PP vv args H O Q :=
 am mixed (ao aE _ _ _) Tryz.func49 yx ha ho h
abbrev qO : FuncId := 50
def qH (v : List Value) : Tree :=
 .newbox fun r0 =>
 .newbox fun r1 =>
 kN r0 <|
 kN r0 <|
 kN r0 <|
 c1 85 [g v 0] fun l0 =>
 c1 86 [g v 31] fun l1 =>
 c1 87 [g v 32] fun l2 =>
 kN r0 <|
 kN r0 <|
 kN r0 <|
 kN r0 <|
 kN r0 <|
 c1 88 [g v 29] fun l3 =>
 c1 88 [g v 30] fun l4 =>
 kN r0 <|
 kN r0 <|
 cS 81 [pt r0 1] (.agg 4) fun l5 =>
 kW (g l5 0) r0 6 <|
 kW (g l5 1) r0 7 <|
 kW (g l5 2) r0 8 <|
 kW (g l5 3) r0 9 <|
 kN r0 <|
 c1 86 [g v 6] fun l6 =>
 kN r0 <|
 kN r0 <|
 c1 86 [g v 7] fun l7 =>
 kN r0 <|
 kN r0 <|
 c1 86 [g v 8] fun l8 =>
 kN r0 <|
 kN r0 <|
 c1 86 [g v 9] fun l9 =>
 kN r0 <|
 cS 81 [pt r0 15] (.agg 4) fun l10 =>
 kW (g l10 0) r0 20 <|
 kW (g l10 1) r0 21 <|
 kW (g l10 2) r0 22 <|
 kW (g l10 3) r0 23 <|
 kN r0 <|
 c1 86 [g v 20] fun l11 =>
 kN r0 <|
 kN r0 <|
 c1 86 [g v 21] fun l12 =>
 kN r0 <|
 kN r0 <|
 c1 86 [g v 22] fun l13 =>
 kN r0 <|
 kN r0 <|
 c1 86 [g v 23] fun l14 =>
 kN r0 <|
 kN r0 <|
 kN r1 <|
 kN r1 <|
 .ret (ag ((g l0 0)::(G5 v 1 ++ ((g l6 0)::((g l7 0)::((g l8 0)::((g l9 0)::(G10 v 10 ++ ((g l11 0)::((g l12 0)::((g l13 0)::((g l14 0)::(G5 v 24 ++ ((g l3 0)::((g l4 0)::((g l1 0)::((g l2 0)::G5 v 33))))))))))))))))) []
theorem yy (vs : List Value) : aW PP Tryz.f50 (aG okL [(81, [5, 6, 7, 8])] [(4, .unroll 3), (7, .unroll 5)] []) vs = qH vs := by kernel_rfl
theorem yK {args vs} (ha : an PP Tryz.f50 args = some vs) (ho : Ones vs) {H O Q} (h : (qH vs).den PP Q H O) : Triple PP qO args H O Q :=
 am mixed (ao aE _ _ _) Tryz.func50 yy ha ho h
abbrev iO : FuncId := 51
def eI (v : List Value) : Tree :=
 pZ (g v 0) fun v0 =>
 .pure [] (.slc 1 true true true) [g v 0,g v 1,g v 2,v0] fun v1 =>
 pE (g v 1) (g v 2) fun v2 =>
 .br v2 (
 .ret (g v 0) []) (
 pZ (g v 0) fun v3 =>
 .pure [] (.slc 1 false true false) [g v 0,g v 1] fun v4 =>
 .pure [] (.slc 1 true false false) [g v 0,g v 2] fun v5 =>
 .prim (.bi .append #[26,26] 26) [v4,v5] [] [] .one fun l6 _ =>
 pZ (g l6 0) fun v7 =>
 .pure [] (.slc 1 true true false) [g l6 0,v7,v3] fun v8 =>
 .prim (.bi .clear #[26] 0) [v8] [] [] (.tup []) fun l9 _ =>
 .ret (g l6 0) [])
theorem lF (vs : List Value) : aW PP Tryz.f51 (aG okL [(81, [5, 6, 7, 8])] [] []) vs = eI vs := by kernel_rfl
theorem mc {args vs} (ha : an PP Tryz.f51 args = some vs) (ho : Ones vs) {H O Q} (h : (eI vs).den PP Q H O) : Triple PP iO args H O Q :=
 am mixed (ao aE _ _ _) Tryz.func51 lF ha ho h
abbrev bd : FuncId := 52
def aQ (v : List Value) : Tree :=
 pZ (g v 0) fun v0 =>
 .loop 8 3 [iv 0,v0] fun C8 l1 =>
 pL (g l1 0) (g l1 1) fun v2 =>
 .br v2 (
 pA (g l1 0) (g l1 1) fun v3 =>
 .pure [] (.conv .u64) [v3] fun v4 =>
 .pure [] (.bin .shr .int) [v4,.int .u64 1] fun v5 =>
 .pure [] (.conv .i64) [v5] fun v6 =>
 pI 12 (g v 0) v6 fun v7 =>
 .load [] v7 12 fun l8 =>
 .callv false (g v 2) [ag (G12 l8 0),g v 1] [] [] .one fun l9 _ =>
 pL (g l9 0) (iv 0) fun v10 =>
 .br v10 (
 pA v6 (iv 1) fun v11 =>
 .cont 8 C8 [v11,g l1 1] (Es [[g v 0],[g v 1],[g v 2],[v0]])) (
 .cont 8 C8 [g l1 0,v6] (Es [[g v 0],[g v 1],[g v 2],[v0]]))) (
 pL (g l1 0) v0 fun v12 =>
 .br v12 (
 pI 12 (g v 0) (g l1 0) fun v13 =>
 .load [] v13 12 fun l14 =>
 .callv false (g v 2) [ag (G12 l14 0),g v 1] [] [] .one fun l15 _ =>
 pE (g l15 0) (iv 0) fun v16 =>
 .ret (.tuple #[g l1 0,v16]) []) (
 .ret (.tuple #[g l1 0,.bool false]) []))
theorem cX (vs : List Value) : aW PP Tryz.f52 (aG okL [(81, [5, 6, 7, 8])] [(3, .inv [9, 10] [0, 1, 2, 8] [])] []) vs = aQ vs := by kernel_rfl
theorem bC {args vs} (ha : an PP Tryz.f52 args = some vs) (ho : Ones vs) {H O Q} (h : (aQ vs).den PP Q H O) : Triple PP bd args H O Q :=
 am mixed (ao aE _ _ _) Tryz.func52 cX ha ho h
abbrev jo : FuncId := 53
def my (v : List Value) : Tree :=
 .newbox fun r0 =>
 kN r0 <|
 pS (g v 0) (g v 12) fun v0 =>
 .ret v0 []
theorem uF (vs : List Value) : aW PP Tryz.f53 (aG okL [(81, [5, 6, 7, 8])] [] []) vs = my vs := by kernel_rfl
theorem vA {args vs} (ha : an PP Tryz.f53 args = some vs) (ho : Ones vs) {H O Q} (h : (my vs).den PP Q H O) : Triple PP jo args H O Q :=
 am mixed (ao aE _ _ _) Tryz.func53 uF ha ho h
abbrev rP : FuncId := 54
def mC (v : List Value) : Tree :=
 .newbox fun r0 =>
 .newbox fun r1 =>
 kN r0 <|
 cS 89 [ag (G12 v 0)] (.agg 12) fun l0 =>
 .newbox fun r2 =>
 kN r2 <|
 pE (g v 12) (iv 2) fun v1 =>
 kN r2 <|
 kN r2 <|
 kN r2 <|
 kN r2 <|
 kN r2 <|
 kN r1 <|
 kN r1 <|
 .ret (ag (G6 l0 0 ++ [iv 0,g l0 7,g l0 8,.bool false,v1,.bool false])) []
theorem uH (vs : List Value) : aW PP Tryz.f54 (aG okL [(81, [5, 6, 7, 8])] [] []) vs = mC vs := by kernel_rfl
theorem vC {args vs} (ha : an PP Tryz.f54 args = some vs) (ho : Ones vs) {H O Q} (h : (mC vs).den PP Q H O) : Triple PP rP args H O Q :=
 am mixed (ao aE _ _ _) Tryz.func54 uH ha ho h
abbrev rN : FuncId := 55
def mw (v : List Value) : Tree :=
 pH (g v 0) (g v 1) fun v0 =>
 kV v0 <|
 kV v0 <|
 pM (g v 0) (g v 2) fun v1 =>
 kV v0 <|
 pK v0 v1 (.bool false) fun v2 =>
 .ret v2 []
theorem uE (vs : List Value) : aW PP Tryz.f55 (aG okL [(81, [5, 6, 7, 8])] [] []) vs = mw vs := by kernel_rfl
theorem vz {args vs} (ha : an PP Tryz.f55 args = some vs) (ho : Ones vs) {H O Q} (h : (mw vs).den PP Q H O) : Triple PP rN args H O Q :=
 am mixed (ao aE _ _ _) Tryz.func55 uE ha ho h
abbrev rM : FuncId := 56
def mu (v : List Value) : Tree :=
 .newbox fun r0 =>
 .newbox fun r1 =>
 kN r0 <|
 kN r1 <|
 c1 91 [g v 0,ag (G38 v 1),g v 39,g v 40] fun l0 =>
 c1 90 [g l0 0,.agg #[g v 41,g v 42]] fun l1 =>
 .ret (g l1 0) []
theorem uD (vs : List Value) : aW PP Tryz.f56 (aG okL [(81, [5, 6, 7, 8])] [] []) vs = mu vs := by kernel_rfl
theorem vy {args vs} (ha : an PP Tryz.f56 args = some vs) (ho : Ones vs) {H O Q} (h : (mu vs).den PP Q H O) : Triple PP rM args H O Q :=
 am mixed (ao aE _ _ _) Tryz.func56 uD ha ho h
abbrev vu : FuncId := 57
def rJ (r1020 : Nat) : Tree :=
 kN r1020 <|
 kN r1020 <|
 .ret (.tuple #[ag Z0,iv 2]) []
def di (r1001 r1002 : Nat) (l1003 l1004 : List Value) (n1005 : Nat) (l1006 : List Value) (n1007 : Nat) (l1008 : List Value) (n1009 : Nat) (l1010 : List Value) (n1011 : Nat) (l1012 : List Value) (n1013 : Nat) (l1014 : List Value) (n1015 : Nat) (l1016 : List Value) (n1017 : Nat) (l1018 : List Value) (n1019 : Nat) : Tree :=
 kN r1001 <|
 kN r1001 <|
 kN r1002 <|
 kN r1002 <|
 .ret (.tuple #[ag (G6 l1003 0 ++ ((g l1004 n1005)::((g l1006 n1007)::((g l1008 n1009)::((g l1010 n1011)::(G10 l1003 10 ++ ((g l1012 n1013)::((g l1014 n1015)::((g l1016 n1017)::((g l1018 n1019)::G14 l1003 24)))))))))),iv 0]) []
def qF (v : List Value) : Tree :=
 .newbox fun r0 =>
 .newbox fun r1 =>
 kN r0 <|
 cS 80 [ag (G38 v 0),g v 38] (.tup [none,none]) fun l0 =>
 pE (g l0 1) (iv 2) fun v1 =>
 .br v1 (
 rJ r1) (
 c1 70 [g v 39,iv 0,iv 3] fun l2 =>
 pO (g l2 0) fun v3 =>
 .br v3 (
 rJ r1) (
 pN (g l0 1) (iv 0) fun v4 =>
 .br v4 (
 kN r1 <|
 kN r1 <|
 .ret (.tuple #[ag Z0,g l0 1]) []) (
 kN r0 <|
 cS 92 [ag (G38 v 0),g v 38] (.agg 38) fun l5 =>
 kN r0 <|
 kN r0 <|
 pI 12 (g l5 0) (g l0 0) fun v6 =>
 .load [] v6 12 fun l7 =>
 cS 54 [ag (G12 l7 0),g v 39] (.agg 12) fun l8 =>
 .newbox fun r2 =>
 kN r2 <|
 kN r0 <|
 kN r2 <|
 pI 12 (g l5 0) (g l0 0) fun v9 =>
 kP v9 <|
 .store v9 (G12 l8 0) <|
 kN r2 <|
 .sw (g l8 2) 0 (
 cS 81 [pt r0 1] (.agg 4) fun l10 =>
 kW (g l10 0) r0 6 <|
 kW (g l10 1) r0 7 <|
 kW (g l10 2) r0 8 <|
 kW (g l10 3) r0 9 <|
 .sw (g v 39) 0 (
 kN r0 <|
 .newbox fun r3 =>
 .prim (.bi .append #[26,26] 26) [g l5 6,.slice (some ⟨r3,0,none⟩) 1 1] [⟨r3,3,[g v 38]⟩] [] .one fun l11 _ =>
 di r0 r1 l5 l11 0 l5 7 l5 8 l5 9 l5 20 l5 21 l5 22 l5 23) (
 .sw (g v 39) 1 (
 kN r0 <|
 .newbox fun r4 =>
 .prim (.bi .append #[26,26] 26) [g l5 7,.slice (some ⟨r4,0,none⟩) 1 1] [⟨r4,3,[g v 38]⟩] [] .one fun l12 _ =>
 di r0 r1 l5 l5 6 l12 0 l5 8 l5 9 l5 20 l5 21 l5 22 l5 23) (
 .sw (g v 39) 2 (
 kN r0 <|
 .newbox fun r5 =>
 .prim (.bi .append #[26,26] 26) [g l5 8,.slice (some ⟨r5,0,none⟩) 1 1] [⟨r5,3,[g v 38]⟩] [] .one fun l13 _ =>
 di r0 r1 l5 l5 6 l5 7 l13 0 l5 9 l5 20 l5 21 l5 22 l5 23) (
 .sw (g v 39) 3 (
 kN r0 <|
 .newbox fun r6 =>
 .prim (.bi .append #[26,26] 26) [g l5 9,.slice (some ⟨r6,0,none⟩) 1 1] [⟨r6,3,[g v 38]⟩] [] .one fun l14 _ =>
 di r0 r1 l5 l5 6 l5 7 l5 8 l14 0 l5 20 l5 21 l5 22 l5 23) (
 .stuck 901))))) (
 .sw (g l8 2) 1 (
 cS 81 [pt r0 15] (.agg 4) fun l15 =>
 kW (g l15 0) r0 20 <|
 kW (g l15 1) r0 21 <|
 kW (g l15 2) r0 22 <|
 kW (g l15 3) r0 23 <|
 .sw (g v 39) 0 (
 kN r0 <|
 .newbox fun r7 =>
 .prim (.bi .append #[26,26] 26) [g l5 20,.slice (some ⟨r7,0,none⟩) 1 1] [⟨r7,3,[g v 38]⟩] [] .one fun l16 _ =>
 di r0 r1 l5 l5 6 l5 7 l5 8 l5 9 l16 0 l5 21 l5 22 l5 23) (
 .sw (g v 39) 1 (
 kN r0 <|
 .newbox fun r8 =>
 .prim (.bi .append #[26,26] 26) [g l5 21,.slice (some ⟨r8,0,none⟩) 1 1] [⟨r8,3,[g v 38]⟩] [] .one fun l17 _ =>
 di r0 r1 l5 l5 6 l5 7 l5 8 l5 9 l5 20 l17 0 l5 22 l5 23) (
 .sw (g v 39) 2 (
 kN r0 <|
 .newbox fun r9 =>
 .prim (.bi .append #[26,26] 26) [g l5 22,.slice (some ⟨r9,0,none⟩) 1 1] [⟨r9,3,[g v 38]⟩] [] .one fun l18 _ =>
 di r0 r1 l5 l5 6 l5 7 l5 8 l5 9 l5 20 l5 21 l18 0 l5 23) (
 .sw (g v 39) 3 (
 kN r0 <|
 .newbox fun r10 =>
 .prim (.bi .append #[26,26] 26) [g l5 23,.slice (some ⟨r10,0,none⟩) 1 1] [⟨r10,3,[g v 38]⟩] [] .one fun l19 _ =>
 di r0 r1 l5 l5 6 l5 7 l5 8 l5 9 l5 20 l5 21 l5 22 l19 0) (
 .stuck 901))))) (
 .stuck 901)))))
theorem yw (vs : List Value) : aW PP Tryz.f57 (aG okL [(81, [5, 6, 7, 8])] [] []) vs = qF vs := by kernel_rfl
theorem yI {args vs} (ha : an PP Tryz.f57 args = some vs) (ho : Ones vs) {H O Q} (h : (qF vs).den PP Q H O) : Triple PP vu args H O Q :=
 am mixed (ao aE _ _ _) Tryz.func57 yw ha ho h
abbrev jR : FuncId := 63
def gu (v : List Value) : Tree :=
 pZ (g v 0) fun v0 =>
 pZ (g v 1) fun v1 =>
 pN v0 v1 fun v2 =>
 .br v2 (
 .ret (.bool false) []) (
 .loop 7 4 [iv 0] fun C7 l3 =>
 pZ (g v 0) fun v4 =>
 pL (g l3 0) v4 fun v5 =>
 .br v5 (
 pI 5 (g v 0) (g l3 0) fun v6 =>
 .load [] v6 5 fun l7 =>
 pI 5 (g v 1) (g l3 0) fun v8 =>
 .load [] v8 5 fun l9 =>
 c1 24 [ag (G5 l7 0),ag (G5 l9 0)] fun l10 =>
 pO (g l10 0) fun v11 =>
 .br v11 (
 .ret (.bool false) []) (
 pA (g l3 0) (iv 1) fun v12 =>
 .cont 7 C7 [v12] (Es [[g v 0],[g v 1]]))) (
 .ret (.bool true) []))
theorem nT (vs : List Value) : aW PP Tryz.f63 (aG okL [(81, [5, 6, 7, 8])] [(4, .inv [5] [0, 1] [])] []) vs = gu vs := by kernel_rfl
theorem oQ {args vs} (ha : an PP Tryz.f63 args = some vs) (ho : Ones vs) {H O Q} (h : (gu vs).den PP Q H O) : Triple PP jR args H O Q :=
 am mixed (ao aE _ _ _) Tryz.func63 nT ha ho h
abbrev hJ : FuncId := 64
def jv (l1001 : List Value) (C1002 : List Value → Heap → Own → Prop) (l1003 l1004 : List Value) (r1005 : Nat) : Tree :=
 pS (g l1001 1) (iv 1) fun v33 =>
 .cont 57 C1002 [g l1003 0,v33] (Es [[g l1004 0],[pt r1005 0],((pt r1005 0)::G38 l1004 1)])
def gV (v : List Value) : Tree :=
 .newbox fun r0 =>
 kN r0 <|
 c1 10 [ag (G38 v 1)] fun l0 =>
 pO (g l0 0) fun v1 =>
 kV v1 <|
 pL (g v 39) (iv 0) fun v2 =>
 kV v1 <|
 pK v1 (.bool true) v2 fun v3 =>
 kV v3 <|
 pG (g v 39) (iv 1) fun v4 =>
 kV v3 <|
 pK v3 (.bool true) v4 fun v5 =>
 .br v5 (
 .ret (.slice none 0 0) []) (
 kN r0 <|
 kN r0 <|
 pS (iv 1) (g v 39) fun v6 =>
 c1 95 [g v 0,ag (G38 v 1),g v 39] fun l7 =>
 c1 95 [g v 0,ag (G38 v 1),v6] fun l8 =>
 .prim (.bi .append #[26,26] 26) [.slice none 0 0,g l7 0] [] [] .one fun l9 _ =>
 .prim (.bi .append #[26,26] 26) [g l9 0,g l8 0] [] [] .one fun l10 _ =>
 c1 97 [g l10 0] fun l11 =>
 c1 96 [g l11 0] fun l12 =>
 pS (iv 1) (g v 39) fun v13 =>
 .newbox fun r1 =>
 pE (g v 40) (iv 1) fun v14 =>
 .br v14 (
 .ret (g l12 0) []) (
 pE (g v 40) (iv 2) fun v15 =>
 .br v15 (
 c1 96 [g l7 0] fun l16 =>
 .ret (g l16 0) []) (
 pE (g v 40) (iv 3) fun v17 =>
 .br v17 (
 c1 96 [g l8 0] fun l18 =>
 .ret (g l18 0) []) (
 pE (g v 40) (iv 4) fun v19 =>
 .br v19 (
 .ret (.slice (some ⟨r1,0,none⟩) 2 2) [⟨r1,43,[iv 0,v13,iv 0,g v 39]⟩]) (
 pE (g v 40) (iv 5) fun v20 =>
 .br v20 (
 .prim (.bi .append #[39,39] 39) [.slice (some ⟨r1,0,none⟩) 2 2,g l12 0] [⟨r1,43,[iv 0,v13,iv 0,g v 39]⟩] [] .one fun l21 _ =>
 .ret (g l21 0) []) (
 pE (g v 40) (iv 6) fun v22 =>
 .br v22 (
 kN r0 <|
 pZ (g v 30) fun v23 =>
 pS v23 (iv 1) fun v24 =>
 .loop 57 20 [.slice none 0 0,v24] fun C57 l25 =>
 pH (g l25 1) (iv 0) fun v26 =>
 .br v26 (
 kN r0 <|
 pI 5 (g v 30) (g l25 1) fun v27 =>
 .load [] v27 5 fun l28 =>
 c1 98 [g v 0,ag (G5 l28 0)] fun l29 =>
 .br (g l29 0) (
 kN r0 <|
 pI 5 (g v 30) (g l25 1) fun v30 =>
 kP v30 <|
 .load [] (bc v30 1) 1 fun l31 =>
 .newbox fun r2 =>
 .prim (.bi .append #[39,39] 39) [g l25 0,.slice (some ⟨r2,0,none⟩) 1 1] [⟨r2,43,[g l31 0,iv 0]⟩] [] .one fun l32 _ =>
 jv l25 C57 l32 v r0) (
 jv l25 C57 l25 v r0)) (
 .ret (g l25 0) [])) (
 .ret (.slice none 0 0) [])))))))
theorem pc (vs : List Value) : aW PP Tryz.f64 (aG okL [(81, [5, 6, 7, 8])] [(20, .inv [13, 14] [0, 5] [(5, [])])] []) vs = gV vs := by kernel_rfl
theorem pD {args vs} (ha : an PP Tryz.f64 args = some vs) (ho : Ones vs) {H O Q} (h : (gV vs).den PP Q H O) : Triple PP hJ args H O Q :=
 am mixed (ao aE _ _ _) Tryz.func64 pc ha ho h
abbrev jX : FuncId := 65
def gA (v : List Value) : Tree :=
 .newbox fun r0 =>
 kN r0 <|
 pL (g v 0) (iv 1) fun v0 =>
 kN r0 <|
 kV v0 <|
 kV v0 <|
 pG (g v 0) (iv 500) fun v1 =>
 kV v0 <|
 pK v0 (.bool true) v1 fun v2 =>
 kN r0 <|
 kV v2 <|
 kV v2 <|
 pL (g v 1) (iv (-1)) fun v3 =>
 kV v2 <|
 pK v2 (.bool true) v3 fun v4 =>
 kN r0 <|
 kV v4 <|
 kV v4 <|
 pG (g v 1) (iv 399) fun v5 =>
 kV v4 <|
 pK v4 (.bool true) v5 fun v6 =>
 kN r0 <|
 kV v6 <|
 kV v6 <|
 pL (g v 2) (iv 0) fun v7 =>
 kV v6 <|
 pK v6 (.bool true) v7 fun v8 =>
 kN r0 <|
 kV v8 <|
 kV v8 <|
 pG (g v 2) (iv 1) fun v9 =>
 kV v8 <|
 pK v8 (.bool true) v9 fun v10 =>
 .br v10 (
 .ret (.bool false) []) (
 kN r0 <|
 pH (g v 1) (iv 0) fun v11 =>
 kN r0 <|
 kV v11 <|
 kV v11 <|
 pN (g v 3) (iv 0) fun v12 =>
 kV v11 <|
 kN r0 <|
 kV v12 <|
 kV v11 <|
 kV v12 <|
 kV v11 <|
 pN (g v 4) (iv 0) fun v13 =>
 kV v11 <|
 kV v12 <|
 kV v11 <|
 pK v12 (.bool true) v13 fun v14 =>
 kV v11 <|
 pK v11 v14 (.bool false) fun v15 =>
 .br v15 (
 .ret (.bool false) []) (
 kN r0 <|
 c1 99 [g v 3] fun l16 =>
 .br (g l16 0) (
 kN r0 <|
 c1 99 [g v 4] fun l17 =>
 .br (g l17 0) (
 kN r0 <|
 c1 99 [g v 5] fun l18 =>
 .br (g l18 0) (
 kN r0 <|
 c1 99 [g v 6] fun l19 =>
 .br (g l19 0) (
 kN r0 <|
 c1 99 [g v 7] fun l20 =>
 .br (g l20 0) (
 kN r0 <|
 c1 99 [g v 8] fun l21 =>
 .ret (g l21 0) []) (
 .ret (.bool false) [])) (
 .ret (.bool false) [])) (
 .ret (.bool false) [])) (
 .ret (.bool false) [])) (
 .ret (.bool false) [])))
theorem nZ (vs : List Value) : aW PP Tryz.f65 (aG okL [(81, [5, 6, 7, 8])] [] []) vs = gA vs := by kernel_rfl
theorem oW {args vs} (ha : an PP Tryz.f65 args = some vs) (ho : Ones vs) {H O Q} (h : (gA vs).den PP Q H O) : Triple PP jX args H O Q :=
 am mixed (ao aE _ _ _) Tryz.func65 nZ ha ho h
abbrev jx : FuncId := 66
def iI (r1001 : Nat) (l1002 : List Value) (n1003 n1004 n1005 n1006 n1007 n1008 n1009 n1010 n1011 n1012 n1013 n1014 n1015 n1016 : Nat) : Tree :=
 kN r1001 <|
 cS 30 [.agg #[g l1002 n1003,g l1002 n1004,g l1002 n1005,g l1002 n1006,g l1002 n1007,g l1002 n1008,g l1002 n1009,g l1002 n1010,g l1002 n1011,g l1002 n1012,g l1002 n1013,g l1002 n1014,g l1002 n1015,g l1002 n1016]] (.agg 4) fun l0 =>
 c1 67 [g l0 0,g l1002 39] fun l1 =>
 pA (iv 0) (g l1 0) fun v2 =>
 c1 67 [g l0 1,g l1002 39] fun l3 =>
 pA v2 (g l3 0) fun v4 =>
 c1 67 [g l0 2,g l1002 39] fun l5 =>
 pA v4 (g l5 0) fun v6 =>
 c1 67 [g l0 3,g l1002 39] fun l7 =>
 pA v6 (g l7 0) fun v8 =>
 .loop 55 8 [v8,iv 0] fun C55 l9 =>
 kN r1001 <|
 pZ (g l1002 29) fun v10 =>
 pL (g l9 1) v10 fun v11 =>
 .br v11 (
 kN r1001 <|
 pI 5 (g l1002 29) (g l9 1) fun v12 =>
 .load [] v12 5 fun l13 =>
 .newbox fun r1 =>
 kN r1 <|
 kN r1 <|
 pE (g l13 3) (iv (-1)) fun v14 =>
 kN r1 <|
 kV v14 <|
 kV v14 <|
 kV v14 <|
 pE (g l13 1) (g l1002 39) fun v15 =>
 kV v14 <|
 pK v14 v15 (.bool false) fun v16 =>
 kN r1 <|
 kV v16 <|
 kV v16 <|
 kV v16 <|
 pE (g l13 0) (g l1002 38) fun v17 =>
 kV v16 <|
 pK v16 v17 (.bool false) fun v18 =>
 .br v18 (
 pA (g l9 0) (iv 1) fun v19 =>
 pA (g l9 1) (iv 1) fun v20 =>
 .cont 55 C55 [v19,v20] (Es [[g l1002 38],[g l1002 39],[pt r1001 0],((pt r1001 0)::G38 l1002 0)])) (
 pA (g l9 1) (iv 1) fun v21 =>
 .cont 55 C55 [g l9 0,v21] (Es [[g l1002 38],[g l1002 39],[pt r1001 0],((pt r1001 0)::G38 l1002 0)]))) (
 .ret (g l9 0) [])
def fJ (v : List Value) : Tree :=
 .newbox fun r0 =>
 .sw (g v 38) 0 (
 iI r0 v 1 2 3 4 5 6 7 8 9 10 11 12 13 14) (
 .sw (g v 38) 1 (
 iI r0 v 15 16 17 18 19 20 21 22 23 24 25 26 27 28) (
 .stuck 901))
theorem nk (vs : List Value) : aW PP Tryz.f66 (aG okL [(81, [5, 6, 7, 8])] [(3, .unroll 5), (8, .inv [7, 10] [1, 2, 3] [(3, [])])] []) vs = fJ vs := by kernel_rfl
theorem nw {args vs} (ha : an PP Tryz.f66 args = some vs) (ho : Ones vs) {H O Q} (h : (fJ vs).den PP Q H O) : Triple PP jx args H O Q :=
 am mixed (ao aE _ _ _) Tryz.func66 nk ha ho h
abbrev jW : FuncId := 67
def gz (v : List Value) : Tree :=
 .loop 3 3 [iv 0,iv 0] fun C3 l0 =>
 pZ (g v 0) fun v1 =>
 pL (g l0 1) v1 fun v2 =>
 .br v2 (
 pI 1 (g v 0) (g l0 1) fun v3 =>
 .load [] v3 1 fun l4 =>
 pE (g l4 0) (g v 1) fun v5 =>
 .br v5 (
 pA (g l0 0) (iv 1) fun v6 =>
 pA (g l0 1) (iv 1) fun v7 =>
 .cont 3 C3 [v6,v7] (Es [[g v 0],[g v 1]])) (
 pA (g l0 1) (iv 1) fun v8 =>
 .cont 3 C3 [g l0 0,v8] (Es [[g v 0],[g v 1]]))) (
 .ret (g l0 0) [])
theorem nY (vs : List Value) : aW PP Tryz.f67 (aG okL [(81, [5, 6, 7, 8])] [(3, .inv [5, 6] [0, 1] [])] []) vs = gz vs := by kernel_rfl
theorem oV {args vs} (ha : an PP Tryz.f67 args = some vs) (ho : Ones vs) {H O Q} (h : (gz vs).den PP Q H O) : Triple PP jW args H O Q :=
 am mixed (ao aE _ _ _) Tryz.func67 nY ha ho h
abbrev rQ : FuncId := 70
def mD (v : List Value) : Tree :=
 pH (g v 0) (g v 1) fun v0 =>
 kV v0 <|
 kV v0 <|
 pM (g v 0) (g v 2) fun v1 =>
 kV v0 <|
 pK v0 v1 (.bool false) fun v2 =>
 .ret v2 []
theorem uI (vs : List Value) : aW PP Tryz.f70 (aG okL [(81, [5, 6, 7, 8])] [] []) vs = mD vs := by kernel_rfl
theorem vD {args vs} (ha : an PP Tryz.f70 args = some vs) (ho : Ones vs) {H O Q} (h : (mD vs).den PP Q H O) : Triple PP rQ args H O Q :=
 am mixed (ao aE _ _ _) Tryz.func70 uI ha ho h
abbrev vr : FuncId := 71
def qD (v : List Value) : Tree :=
 .newbox fun r0 =>
 kN r0 <|
 c1 100 [ag (G4 v 0),iv 99] fun l0 =>
 .ret (g l0 0) []
theorem yu (vs : List Value) : aW PP Tryz.f71 (aG okL [(81, [5, 6, 7, 8])] [] []) vs = qD vs := by kernel_rfl
theorem yG {args vs} (ha : an PP Tryz.f71 args = some vs) (ho : Ones vs) {H O Q} (h : (qD vs).den PP Q H O) : Triple PP vr args H O Q :=
 am mixed (ao aE _ _ _) Tryz.func71 yu ha ho h
abbrev cP : FuncId := 72
def bO (v : List Value) : Tree :=
 c1 83 [g v 0,g v 1] fun l0 =>
 pH (g l0 0) (iv 0) fun v1 =>
 .ret v1 []
theorem eU (vs : List Value) : aW PP Tryz.f72 (aG okL [(81, [5, 6, 7, 8])] [] []) vs = bO vs := by kernel_rfl
theorem eZ {args vs} (ha : an PP Tryz.f72 args = some vs) (ho : Ones vs) {H O Q} (h : (bO vs).den PP Q H O) : Triple PP cP args H O Q :=
 am mixed (ao aE _ _ _) Tryz.func72 eU ha ho h
abbrev qN : FuncId := 73
def ll (v : List Value) : Tree :=
 .newbox fun r0 =>
 kN r0 <|
 c1 74 [ag (G5 v 0),.bool false] fun l0 =>
 pO (g l0 0) fun v1 =>
 .ret v1 []
theorem tH (vs : List Value) : aW PP Tryz.f73 (aG okL [(81, [5, 6, 7, 8])] [] []) vs = ll vs := by kernel_rfl
theorem t7 {args vs} (ha : an PP Tryz.f73 args = some vs) (ho : Ones vs) {H O Q} (h : (ll vs).den PP Q H O) : Triple PP qN args H O Q :=
 am mixed (ao aE _ _ _) Tryz.func73 tH ha ho h
abbrev vt : FuncId := 74
def qE (v : List Value) : Tree :=
 .newbox fun r0 =>
 kN r0 <|
 c1 70 [g v 0,iv 0,iv 1] fun l0 =>
 .br (g l0 0) (
 kN r0 <|
 c1 70 [g v 1,iv 1,iv 500] fun l1 =>
 .br (g l1 0) (
 kN r0 <|
 c1 70 [g v 2,iv 0,iv 399] fun l2 =>
 .br (g l2 0) (
 kN r0 <|
 c1 70 [g v 3,iv (-1),iv 1] fun l3 =>
 pO (g l3 0) fun v4 =>
 kN r0 <|
 kV v4 <|
 kV v4 <|
 pZ (g v 4) fun v5 =>
 kV v4 <|
 pG v5 (iv 4) fun v6 =>
 kV v4 <|
 pK v4 (.bool true) v6 fun v7 =>
 kN r0 <|
 kV v7 <|
 kV v7 <|
 pH (g v 3) (iv 0) fun v8 =>
 kV v7 <|
 kN r0 <|
 kV v8 <|
 kV v7 <|
 kV v8 <|
 kV v7 <|
 pZ (g v 4) fun v9 =>
 kV v8 <|
 kV v7 <|
 pG v9 (iv 0) fun v10 =>
 kV v7 <|
 kV v8 <|
 kV v7 <|
 pK v8 v10 (.bool false) fun v11 =>
 kV v7 <|
 pK v7 (.bool true) v11 fun v12 =>
 kV v12 <|
 kN r0 <|
 kV (g v 5) <|
 kV v12 <|
 kV (g v 5) <|
 kV v12 <|
 pL (g v 3) (iv 0) fun v13 =>
 kV v12 <|
 kV (g v 5) <|
 kV v12 <|
 pK (g v 5) v13 (.bool false) fun v14 =>
 kV v12 <|
 pK v12 (.bool true) v14 fun v15 =>
 .br v15 (
 .ret (.bool false) []) (
 kN r0 <|
 c1 101 [g v 4,.func (.func 102) #[] #[]] fun l16 =>
 pO (g l16 0) fun v17 =>
 .ret v17 [])) (
 .ret (.bool false) [])) (
 .ret (.bool false) [])) (
 .ret (.bool false) [])
theorem yv (vs : List Value) : aW PP Tryz.f74 (aG okL [(81, [5, 6, 7, 8])] [] []) vs = qE vs := by kernel_rfl
theorem yH {args vs} (ha : an PP Tryz.f74 args = some vs) (ho : Ones vs) {H O Q} (h : (qE vs).den PP Q H O) : Triple PP vt args H O Q :=
 am mixed (ao aE _ _ _) Tryz.func74 yv ha ho h
abbrev qM : FuncId := 75
def lk (v : List Value) : Tree :=
 .newbox fun r0 =>
 kN r0 <|
 c1 74 [ag (G5 v 0),.bool true] fun l0 =>
 pO (g l0 0) fun v1 =>
 .ret v1 []
theorem tG (vs : List Value) : aW PP Tryz.f75 (aG okL [(81, [5, 6, 7, 8])] [] []) vs = lk vs := by kernel_rfl
theorem t6 {args vs} (ha : an PP Tryz.f75 args = some vs) (ho : Ones vs) {H O Q} (h : (lk vs).den PP Q H O) : Triple PP qM args H O Q :=
 am mixed (ao aE _ _ _) Tryz.func75 tG ha ho h
abbrev rR : FuncId := 76
def cD (l1001 : List Value) (n1002 : Nat) (l1003 : List Value) (i1004 : Int) (r1005 n1006 : Nat) (C1007 : List Value → Heap → Own → Prop) (r1008 n1009 n1010 n1011 n1012 : Nat) (i1013 : Int) (v1014 : Value) : Tree :=
 pI 1 (g l1001 n1002) (g l1003 0) fun v5 =>
 .load [] v5 1 fun l6 =>
 .call false 104 [g l6 0,iv i1004,pt r1005 0] [] [⟨r1005,150,[g l1003 1]⟩] .one fun l7 c7 =>
 pO (g l7 0) fun v8 =>
 .br v8 (
 .ret (.bool false) []) (
 pA (g l1003 0) (iv 1) fun v9 =>
 .cont n1006 C1007 [v9,g (gd c7 0) 0] (Es [[pt r1008 0],[pt r1005 0],[.func (.func 104) #[] #[pt r1005 0]],[iv i1004],[iv i1004],[pt r1008 n1009,pt r1008 n1010,pt r1008 n1011,pt r1008 n1012],[iv i1013],[g l1001 n1002],[v1014],((pt r1008 0)::G38 l1001 0),[pt r1005 0,.tuple #[]]]))
def mE (v : List Value) : Tree :=
 .newbox fun r0 =>
 .prim (.makeMap 150 false) [] [] [] .one fun l0 _ =>
 .newbox fun r1 =>
 kN r1 <|
 cS 81 [pt r0 1] (.agg 4) fun l1 =>
 kW (g l1 0) r0 6 <|
 kW (g l1 1) r0 7 <|
 kW (g l1 2) r0 8 <|
 kW (g l1 3) r0 9 <|
 kN r0 <|
 pZ (g v 6) fun v2 =>
 .loop 24 10 [iv 0,g l0 0] fun C24 l3 =>
 pL (g l3 0) v2 fun v4 =>
 .br v4 (
 cD v 6 l3 0 r1 24 C24 r0 6 7 8 9 0 v2) (
 kN r0 <|
 pZ (g v 7) fun v10 =>
 .loop 36 10 [iv 0,g l3 1] fun C36 l11 =>
 pL (g l11 0) v10 fun v12 =>
 .br v12 (
 cD v 7 l11 0 r1 36 C36 r0 6 7 8 9 1 v10) (
 kN r0 <|
 pZ (g v 8) fun v18 =>
 .loop 48 10 [iv 0,g l11 1] fun C48 l19 =>
 pL (g l19 0) v18 fun v20 =>
 .br v20 (
 cD v 8 l19 0 r1 48 C48 r0 6 7 8 9 2 v18) (
 kN r0 <|
 pZ (g v 9) fun v26 =>
 .loop 60 10 [iv 0,g l19 1] fun C60 l27 =>
 pL (g l27 0) v26 fun v28 =>
 .br v28 (
 cD v 9 l27 0 r1 60 C60 r0 6 7 8 9 3 v26) (
 cS 81 [pt r0 15] (.agg 4) fun l34 =>
 kW (g l34 0) r0 20 <|
 kW (g l34 1) r0 21 <|
 kW (g l34 2) r0 22 <|
 kW (g l34 3) r0 23 <|
 kN r0 <|
 pZ (g v 20) fun v35 =>
 .loop 83 10 [iv 0,g l27 1] fun C83 l36 =>
 pL (g l36 0) v35 fun v37 =>
 .br v37 (
 cD v 20 l36 1 r1 83 C83 r0 20 21 22 23 0 v35) (
 kN r0 <|
 pZ (g v 21) fun v43 =>
 .loop 95 10 [iv 0,g l36 1] fun C95 l44 =>
 pL (g l44 0) v43 fun v45 =>
 .br v45 (
 cD v 21 l44 1 r1 95 C95 r0 20 21 22 23 1 v43) (
 kN r0 <|
 pZ (g v 22) fun v51 =>
 .loop 107 10 [iv 0,g l44 1] fun C107 l52 =>
 pL (g l52 0) v51 fun v53 =>
 .br v53 (
 cD v 22 l52 1 r1 107 C107 r0 20 21 22 23 2 v51) (
 kN r0 <|
 pZ (g v 23) fun v59 =>
 .loop 119 10 [iv 0,g l52 1] fun C119 l60 =>
 pL (g l60 0) v59 fun v61 =>
 .br v61 (
 cD v 23 l60 1 r1 119 C119 r0 20 21 22 23 3 v59) (
 .prim (.makeMap 150 false) [] [] [] .one fun l67 _ =>
 kN r0 <|
 pZ (g v 29) fun v68 =>
 .loop 133 19 [iv 0,g l60 1] fun C133 l69 =>
 pL (g l69 0) v68 fun v70 =>
 .br v70 (
 pI 5 (g v 29) (g l69 0) fun v71 =>
 .load [] v71 5 fun l72 =>
 .newbox fun r2 =>
 kN r2 <|
 kN r2 <|
 pL (g l72 3) (iv 0) fun v73 =>
 .br v73 (
 kN r2 <|
 kN r2 <|
 .call false 104 [g l72 1,g l72 0,pt r1 0] [] [⟨r1,150,[g l69 1]⟩] .one fun l74 c74 =>
 pO (g l74 0) fun v75 =>
 .br v75 (
 .ret (.bool false) []) (
 kN r2 <|
 kN r2 <|
 .prim (.mapUpdate 150) [g l67 0,g l72 1,g l72 2] [] [] .one fun l76 _ =>
 pA (g l69 0) (iv 1) fun v77 =>
 .cont 133 C133 [v77,g (gd c74 0) 0] (Es [[pt r0 0],[pt r1 0],[.func (.func 104) #[] #[pt r1 0]],[g l67 0],[g v 29],[v68],((pt r0 0)::G38 v 0),[pt r1 0,.tuple #[]]]))) (
 pA (g l69 0) (iv 1) fun v78 =>
 .cont 133 C133 [v78,g l69 1] (Es [[pt r0 0],[pt r1 0],[.func (.func 104) #[] #[pt r1 0]],[g l67 0],[g v 29],[v68],((pt r0 0)::G38 v 0),[pt r1 0,.tuple #[]]]))) (
 kN r0 <|
 pZ (g v 0) fun v79 =>
 .loop 139 27 [iv 0] fun C139 l80 =>
 pL (g l80 0) v79 fun v81 =>
 .br v81 (
 pI 12 (g v 0) (g l80 0) fun v82 =>
 .load [] v82 12 fun l83 =>
 .newbox fun r3 =>
 kN r3 <|
 kN r1 <|
 kN r3 <|
 .prim (.lookup 150 true) [g l69 1,g l83 0] [] [] (.tup [none,none]) fun l84 _ =>
 kN r3 <|
 .prim (.lookup 150 true) [g l67 0,g l83 0] [] [] (.tup [none,none]) fun l85 _ =>
 kN r3 <|
 c1 105 [ag (G12 l83 0)] fun l86 =>
 pO (g l86 0) fun v87 =>
 kV v87 <|
 pG (g l80 0) (iv 0) fun v88 =>
 kV v87 <|
 kN r0 <|
 kV v88 <|
 kV v87 <|
 kV v88 <|
 kV v87 <|
 pS (g l80 0) (iv 1) fun v89 =>
 kV v88 <|
 kV v87 <|
 kV v88 <|
 kV v87 <|
 .pure [(v88,true),(v87,false)] (.idx 12) [g v 0,v89] fun v90 =>
 .chk (.ptr [(v88,true),(v87,false)] v90) <|
 kV v88 <|
 kV v87 <|
 kV v88 <|
 kV v87 <|
 .load [(v88,true),(v87,false)] v90 1 fun l91 =>
 kN r3 <|
 kV v88 <|
 kV v87 <|
 kV v88 <|
 kV v87 <|
 kV v88 <|
 kV v87 <|
 pH (g l91 0) (g l83 0) fun v92 =>
 kV v87 <|
 kV v88 <|
 kV v87 <|
 pK v88 v92 (.bool false) fun v93 =>
 kV v87 <|
 pK v87 (.bool true) v93 fun v94 =>
 kV v94 <|
 pO (g l84 1) fun v95 =>
 kV v94 <|
 pK v94 (.bool true) v95 fun v96 =>
 kN r3 <|
 kV v96 <|
 kV v96 <|
 kV v96 <|
 pN (g l84 0) (g l83 2) fun v97 =>
 kV v96 <|
 pK v96 (.bool true) v97 fun v98 =>
 kV v98 <|
 kN r3 <|
 kV (g l85 1) <|
 kV v98 <|
 kV (g l85 1) <|
 kV v98 <|
 kV (g l85 1) <|
 kV v98 <|
 pN (g l85 0) (g l83 1) fun v99 =>
 kV v98 <|
 kV (g l85 1) <|
 kV v98 <|
 pK (g l85 1) v99 (.bool false) fun v100 =>
 kV v98 <|
 pK v98 (.bool true) v100 fun v101 =>
 .br v101 (
 .ret (.bool false) []) (
 pA (g l80 0) (iv 1) fun v102 =>
 .cont 139 C139 [v102] (Es [[pt r0 0],[pt r1 0],[g l67 0],[g v 0],[v79],((pt r0 0)::G38 v 0),[pt r1 0,g l69 1]]))) (
 kN r1 <|
 .prim (.bi .len #[150] 3) [g l69 1] [] [] .one fun l103 _ =>
 kN r0 <|
 pZ (g v 0) fun v104 =>
 pE (g l103 0) v104 fun v105 =>
 .ret v105 []))))))))))
theorem uJ (vs : List Value) : aW PP Tryz.f76 (aG okL [(81, [5, 6, 7, 8])] [(4, .unroll 3), (7, .unroll 5), (10, .inv [35] [1, 3, 4, 5, 21, 27, 28, 33, 34] [(1, []), (3, [0])]), (19, .inv [51] [1, 3, 4, 10, 49, 50] [(1, []), (3, [0])]), (27, .inv [74] [1, 3, 10, 72, 73] [(1, []), (3, [])])] []) vs = mE vs := by kernel_rfl
theorem vE {args vs} (ha : an PP Tryz.f76 args = some vs) (ho : Ones vs) {H O Q} (h : (mE vs).den PP Q H O) : Triple PP rR args H O Q :=
 am mixed (ao aE _ _ _) Tryz.func76 uJ ha ho h
abbrev rT : FuncId := 77
def gM (r1001 : Nat) (l1002 : List Value) (n1003 n1004 : Nat) : Tree :=
 kN r1001 <|
 .prim (.makeMap 152 false) [] [] [] .one fun l1 _ =>
 kN r1001 <|
 pZ (g l1002 31) fun v2 =>
 .loop 23 4 [iv 0] fun C23 l3 =>
 pL (g l3 0) v2 fun v4 =>
 .br v4 (
 pI 1 (g l1002 31) (g l3 0) fun v5 =>
 .load [] v5 1 fun l6 =>
 .prim (.lookup 152 false) [g l1 0,g l6 0] [] [] .one fun l7 _ =>
 .br (g l7 0) (
 .ret (.bool false) []) (
 c1 106 [g l1002 n1003,g l6 0] fun l8 =>
 pO (g l8 0) fun v9 =>
 .br v9 (
 .ret (.bool false) []) (
 .prim (.mapUpdate 152) [g l1 0,g l6 0,.bool true] [] [] .one fun l10 _ =>
 pA (g l3 0) (iv 1) fun v11 =>
 .cont 23 C23 [v11] (Es [[pt r1001 0],[g l1002 n1003],[g l1002 n1004],[g l1 0],[g l1002 31],[v2],((pt r1001 0)::G38 l1002 0)])))) (
 kN r1001 <|
 pZ (g l1002 32) fun v12 =>
 .loop 29 11 [iv 0] fun C29 l13 =>
 pL (g l13 0) v12 fun v14 =>
 .br v14 (
 pI 2 (g l1002 32) (g l13 0) fun v15 =>
 .load [] v15 2 fun l16 =>
 .newbox fun r1 =>
 kN r1 <|
 kN r1 <|
 .prim (.lookup 152 false) [g l1 0,g l16 1] [] [] .one fun l17 _ =>
 pO (g l17 0) fun v18 =>
 .br v18 (
 .ret (.bool false) []) (
 kN r1 <|
 .pure [] .neg [g l16 0] fun v19 =>
 .prim (.lookup 152 false) [g l1 0,v19] [] [] .one fun l20 _ =>
 .br (g l20 0) (
 .ret (.bool false) []) (
 kN r1001 <|
 kN r1 <|
 c1 106 [g l1002 31,g l16 1] fun l21 =>
 pO (g l21 0) fun v22 =>
 .br v22 (
 .ret (.bool false) []) (
 kN r1 <|
 c1 106 [g l1002 n1004,g l16 0] fun l23 =>
 pO (g l23 0) fun v24 =>
 .br v24 (
 .ret (.bool false) []) (
 kN r1 <|
 kN r1 <|
 .pure [] .neg [g l16 0] fun v25 =>
 .prim (.mapUpdate 152) [g l1 0,g l16 1,.bool false] [] [] .one fun l26 _ =>
 .prim (.mapUpdate 152) [g l1 0,v25,.bool true] [] [] .one fun l27 _ =>
 pA (g l13 0) (iv 1) fun v28 =>
 .cont 29 C29 [v28] (Es [[pt r1001 0],[g l1002 n1004],[g l1 0],[g l1002 32],[v12],((pt r1001 0)::G38 l1002 0)])))))) (
 .ret (.bool true) []))
def mG (v : List Value) : Tree :=
 .newbox fun r0 =>
 kN r0 <|
 .sw (g v 34) 0 (
 kN r0 <|
 kN r0 <|
 pS (iv 1) (g v 34) fun v0 =>
 .sw v0 0 (
 gM r0 v 8 8) (
 .sw v0 1 (
 gM r0 v 8 22) (
 .stuck 901))) (
 .sw (g v 34) 1 (
 kN r0 <|
 kN r0 <|
 pS (iv 1) (g v 34) fun v57 =>
 .sw v57 0 (
 gM r0 v 22 8) (
 .sw v57 1 (
 gM r0 v 22 22) (
 .stuck 901))) (
 .stuck 901))
theorem uL (vs : List Value) : aW PP Tryz.f77 (aG okL [(81, [5, 6, 7, 8])] [(4, .inv [27] [1, 3, 4, 5, 25, 26] [(1, [])]), (11, .inv [46] [1, 4, 5, 44, 45] [(1, [])])] []) vs = mG vs := by kernel_rfl
theorem vG {args vs} (ha : an PP Tryz.f77 args = some vs) (ho : Ones vs) {H O Q} (h : (mG vs).den PP Q H O) : Triple PP rT args H O Q :=
 am mixed (ao aE _ _ _) Tryz.func77 uL ha ho h
abbrev sD : FuncId := 78
def om (v : List Value) : Tree :=
 .newbox fun r0 =>
 .newbox fun r1 =>
 kN r0 <|
 kN r0 <|
 c1 107 [g v 11] fun l0 =>
 c1 108 [g v 12] fun l1 =>
 kN r0 <|
 kN r0 <|
 kN r0 <|
 pZ (g l1 0) fun v2 =>
 .loop 16 3 [iv 0] fun C16 l3 =>
 pL (g l3 0) v2 fun v4 =>
 .br v4 (
 pI 2 (g l1 0) (g l3 0) fun v5 =>
 .load [] v5 2 fun l6 =>
 .newbox fun r2 =>
 kN r2 <|
 kN r0 <|
 kN r2 <|
 c1 107 [g l6 1] fun l7 =>
 pI 2 (g l1 0) (g l3 0) fun v8 =>
 kP v8 <|
 kP (bc v8 1) <|
 .store (bc v8 1) [g l7 0] <|
 pA (g l3 0) (iv 1) fun v9 =>
 .cont 16 C16 [v9] (Es [[pt r0 0],[pt r1 0],[g l1 0],[v2],((pt r0 0)::(G11 v 0 ++ [g l0 0,g l1 0,g v 13])),[pt r1 0,.string ⟨#[]⟩,iv 0,iv 0,iv 0,iv 0,iv 0,iv 0,iv 0,iv 0,iv 0,iv 0,.slice none 0 0,.slice none 0 0,iv 0]])) (
 kN r0 <|
 kN r1 <|
 kN r1 <|
 .ret (ag (G11 v 0 ++ [g l0 0,g l1 0,g v 13])) [])
theorem y6 (vs : List Value) : aW PP Tryz.f78 (aG okL [(81, [5, 6, 7, 8])] [(3, .inv [16] [1, 2, 14, 15] [(1, []), (2, [])])] []) vs = om vs := by kernel_rfl
theorem sQ {args vs} (ha : an PP Tryz.f78 args = some vs) (ho : Ones vs) {H O Q} (h : (om vs).den PP Q H O) : Triple PP sD args H O Q :=
 am mixed (ao aE _ _ _) Tryz.func78 y6 ha ho h
abbrev kw : FuncId := 79
def iH (v : List Value) : Tree :=
 .newbox fun r0 =>
 .newbox fun r1 =>
 kN r0 <|
 pL (g v 2) (iv 0) fun v0 =>
 kN r0 <|
 kV v0 <|
 kV v0 <|
 pZ (g v 0) fun v1 =>
 kV v0 <|
 kV v0 <|
 pH (g v 2) v1 fun v2 =>
 kV v0 <|
 pK v0 (.bool true) v2 fun v3 =>
 .br v3 (
 kN r1 <|
 kN r1 <|
 .ret (ag Z1) []) (
 kN r0 <|
 pI 14 (g v 0) (g v 2) fun v4 =>
 .load [] v4 14 fun l5 =>
 kN r1 <|
 kN r1 <|
 .ret (ag (G14 l5 0)) [])
theorem vQ (vs : List Value) : aW PP Tryz.f79 (aG okL [(81, [5, 6, 7, 8])] [] []) vs = iH vs := by kernel_rfl
theorem kI {args vs} (ha : an PP Tryz.f79 args = some vs) (ho : Ones vs) {H O Q} (h : (iH vs).den PP Q H O) : Triple PP kw args H O Q :=
 am mixed (ao aE _ _ _) Tryz.func79 vQ ha ho h
abbrev tP : FuncId := 80
def ox (v : List Value) : Tree :=
 .newbox fun r0 =>
 kN r0 <|
 c1 42 [ag (G38 v 0)] fun l0 =>
 pO (g l0 0) fun v1 =>
 .br v1 (
 .ret (.tuple #[iv 0,iv 2]) []) (
 kN r0 <|
 cS 52 [g v 0,g v 38,.func (.func 109) #[] #[]] (.tup [none,none]) fun l2 =>
 pO (g l2 1) fun v3 =>
 .br v3 (
 .ret (.tuple #[iv 0,iv 9]) []) (
 .ret (.tuple #[g l2 0,iv 0]) []))
theorem vZ (vs : List Value) : aW PP Tryz.f80 (aG okL [(81, [5, 6, 7, 8])] [] []) vs = ox vs := by kernel_rfl
theorem wT {args vs} (ha : an PP Tryz.f80 args = some vs) (ho : Ones vs) {H O Q} (h : (ox vs).den PP Q H O) : Triple PP tP args H O Q :=
 am mixed (ao aE _ _ _) Tryz.func80 vZ ha ho h
abbrev tN : FuncId := 81
def ou (v : List Value) : Tree :=
 .newbox fun r0 =>
 kP (g v 0) <|
 kP (g v 0) <|
 kP (g v 0) <|
 kP (g v 0) <|
 kP (g v 0) <|
 kP (g v 0) <|
 kP (g v 0) <|
 kP (g v 0) <|
 kN r0 <|
 kN r0 <|
 .ret (.agg #[bc (g v 0) 5,bc (g v 0) 6,bc (g v 0) 7,bc (g v 0) 8]) []
theorem vX (vs : List Value) : aW PP Tryz.f81 (aG okL [(81, [5, 6, 7, 8])] [] []) vs = ou vs := by kernel_rfl
theorem wR {args vs} (ha : an PP Tryz.f81 args = some vs) (ho : Ones vs) {H O Q} (h : (ou vs).den PP Q H O) : Triple PP tN args H O Q :=
 am mixed (ao aE _ _ _) Tryz.func81 vX ha ho h
abbrev iZ : FuncId := 82
def fi (v : List Value) : Tree :=
 pZ (g v 0) fun v0 =>
 .loop 4 2 [iv 0] fun C4 l1 =>
 pL (g l1 0) v0 fun v2 =>
 .br v2 (
 pI 1 (g v 0) (g l1 0) fun v3 =>
 .load [] v3 1 fun l4 =>
 pE (g v 1) (g l4 0) fun v5 =>
 .br v5 (
 .ret (g l1 0) []) (
 pA (g l1 0) (iv 1) fun v6 =>
 .cont 4 C4 [v6] (Es [[g v 0],[g v 1],[v0]]))) (
 .ret (iv (-1)) [])
theorem mz (vs : List Value) : aW PP Tryz.f82 (aG okL [(81, [5, 6, 7, 8])] [(2, .inv [8] [0, 1, 7] [])] []) vs = fi vs := by kernel_rfl
theorem mR {args vs} (ha : an PP Tryz.f82 args = some vs) (ho : Ones vs) {H O Q} (h : (fi vs).den PP Q H O) : Triple PP iZ args H O Q :=
 am mixed (ao aE _ _ _) Tryz.func82 mz ha ho h
abbrev ce : FuncId := 83
def bj (v : List Value) : Tree :=
 pZ (g v 0) fun v0 =>
 .loop 4 2 [iv 0] fun C4 l1 =>
 pL (g l1 0) v0 fun v2 =>
 .br v2 (
 pI 5 (g v 0) (g l1 0) fun v3 =>
 .load [] v3 5 fun l4 =>
 .callv false (g v 1) [ag (G5 l4 0)] [] [] .one fun l5 _ =>
 .br (g l5 0) (
 .ret (g l1 0) []) (
 pA (g l1 0) (iv 1) fun v6 =>
 .cont 4 C4 [v6] (Es [[g v 0],[g v 1],[v0]]))) (
 .ret (iv (-1)) [])
theorem fN (vs : List Value) : aW PP Tryz.f83 (aG okL [(81, [5, 6, 7, 8])] [(2, .inv [8] [0, 1, 7] [])] []) vs = bj vs := by kernel_rfl
theorem cQ {args vs} (ha : an PP Tryz.f83 args = some vs) (ho : Ones vs) {H O Q} (h : (bj vs).den PP Q H O) : Triple PP ce args H O Q :=
 am mixed (ao aE _ _ _) Tryz.func83 fN ha ho h
abbrev qL : FuncId := 84
def lj (v : List Value) : Tree :=
 .newbox fun r0 =>
 kN r0 <|
 pL (g v 3) (iv 0) fun v0 =>
 kN r0 <|
 kV v0 <|
 .load [(v0,true)] (g v 5) 1 fun l1 =>
 kV v0 <|
 kV v0 <|
 pE (g v 1) (g l1 0) fun v2 =>
 kV v0 <|
 pK v0 v2 (.bool false) fun v3 =>
 .ret v3 []
theorem tF (vs : List Value) : aW PP Tryz.f84 (aG okL [(81, [5, 6, 7, 8])] [] []) vs = lj vs := by kernel_rfl
theorem tZ {args vs} (ha : an PP Tryz.f84 args = some vs) (ho : Ones vs) {H O Q} (h : (lj vs).den PP Q H O) : Triple PP qL args H O Q :=
 am mixed (ao aE _ _ _) Tryz.func84 tF ha ho h
abbrev dl : FuncId := 85
def bZ (v : List Value) : Tree :=
 .pure [] (.bin .eql .slice) [g v 0,.slice none 0 0] fun v0 =>
 .br v0 (
 .ret (.slice none 0 0) []) (
 .newbox fun r0 =>
 .prim (.bi .append #[23,23] 23) [.slice (some ⟨r0,0,none⟩) 0 0,g v 0] [⟨r0,76,[]⟩] [] .one fun l1 _ =>
 .ret (g l1 0) [])
theorem fP (vs : List Value) : aW PP Tryz.f85 (aG okL [(81, [5, 6, 7, 8])] [] []) vs = bZ vs := by kernel_rfl
theorem fU {args vs} (ha : an PP Tryz.f85 args = some vs) (ho : Ones vs) {H O Q} (h : (bZ vs).den PP Q H O) : Triple PP dl args H O Q :=
 am mixed (ao aE _ _ _) Tryz.func85 fP ha ho h
abbrev ja : FuncId := 86
def fk (v : List Value) : Tree :=
 .pure [] (.bin .eql .slice) [g v 0,.slice none 0 0] fun v0 =>
 .br v0 (
 .ret (.slice none 0 0) []) (
 .newbox fun r0 =>
 .prim (.bi .append #[26,26] 26) [.slice (some ⟨r0,0,none⟩) 0 0,g v 0] [⟨r0,3,[]⟩] [] .one fun l1 _ =>
 .ret (g l1 0) [])
theorem mA (vs : List Value) : aW PP Tryz.f86 (aG okL [(81, [5, 6, 7, 8])] [] []) vs = fk vs := by kernel_rfl
theorem mS {args vs} (ha : an PP Tryz.f86 args = some vs) (ho : Ones vs) {H O Q} (h : (fk vs).den PP Q H O) : Triple PP ja args H O Q :=
 am mixed (ao aE _ _ _) Tryz.func86 mA ha ho h
abbrev dE : FuncId := 87
def cw (v : List Value) : Tree :=
 .pure [] (.bin .eql .slice) [g v 0,.slice none 0 0] fun v0 =>
 .br v0 (
 .ret (.slice none 0 0) []) (
 .newbox fun r0 =>
 .prim (.bi .append #[31,31] 31) [.slice (some ⟨r0,0,none⟩) 0 0,g v 0] [⟨r0,123,[]⟩] [] .one fun l1 _ =>
 .ret (g l1 0) [])
theorem gE (vs : List Value) : aW PP Tryz.f87 (aG okL [(81, [5, 6, 7, 8])] [] []) vs = cw vs := by kernel_rfl
theorem gF {args vs} (ha : an PP Tryz.f87 args = some vs) (ho : Ones vs) {H O Q} (h : (cw vs).den PP Q H O) : Triple PP dE args H O Q :=
 am mixed (ao aE _ _ _) Tryz.func87 gE ha ho h
abbrev tO : FuncId := 88
def ov (v : List Value) : Tree :=
 c1 110 [g v 0] fun l0 =>
 pZ (g l0 0) fun v1 =>
 .loop 7 3 [iv 0] fun C7 l2 =>
 pL (g l2 0) v1 fun v3 =>
 .br v3 (
 pI 5 (g l0 0) (g l2 0) fun v4 =>
 kP v4 <|
 .load [] (bc v4 4) 1 fun l5 =>
 c1 111 [g l5 0] fun l6 =>
 pI 5 (g l0 0) (g l2 0) fun v7 =>
 kP v7 <|
 kP (bc v7 4) <|
 .store (bc v7 4) [g l6 0] <|
 pA (g l2 0) (iv 1) fun v8 =>
 .cont 7 C7 [v8] (Es [[g l0 0],[v1]])) (
 .ret (g l0 0) [])
theorem vY (vs : List Value) : aW PP Tryz.f88 (aG okL [(81, [5, 6, 7, 8])] [(3, .inv [9] [3, 8] [])] []) vs = ov vs := by kernel_rfl
theorem wS {args vs} (ha : an PP Tryz.f88 args = some vs) (ho : Ones vs) {H O Q} (h : (ov vs).den PP Q H O) : Triple PP tO args H O Q :=
 am mixed (ao aE _ _ _) Tryz.func88 vY ha ho h
abbrev tL : FuncId := 89
def oh (v : List Value) : Tree :=
 .newbox fun r0 =>
 .newbox fun r1 =>
 kN r0 <|
 kN r0 <|
 kN r0 <|
 kN r0 <|
 kN r1 <|
 kN r1 <|
 .ret (ag (G5 v 0 ++ [iv 0,g v 6,iv 0,iv 0,g v 9,g v 10,g v 11])) []
theorem vR (vs : List Value) : aW PP Tryz.f89 (aG okL [(81, [5, 6, 7, 8])] [] []) vs = oh vs := by kernel_rfl
theorem wL {args vs} (ha : an PP Tryz.f89 args = some vs) (ho : Ones vs) {H O Q} (h : (oh vs).den PP Q H O) : Triple PP tL args H O Q :=
 am mixed (ao aE _ _ _) Tryz.func89 vR ha ho h
abbrev cO : FuncId := 90
def bN (v : List Value) : Tree :=
 .newbox fun r0 =>
 kN r0 <|
 c1 112 [g v 0,.agg #[g v 1,g v 2]] fun l0 =>
 pH (g l0 0) (iv 0) fun v1 =>
 .ret v1 []
theorem eS (vs : List Value) : aW PP Tryz.f90 (aG okL [(81, [5, 6, 7, 8])] [] []) vs = bN vs := by kernel_rfl
theorem eY {args vs} (ha : an PP Tryz.f90 args = some vs) (ho : Ones vs) {H O Q} (h : (bN vs).den PP Q H O) : Triple PP cO args H O Q :=
 am mixed (ao aE _ _ _) Tryz.func90 eS ha ho h
abbrev tK : FuncId := 91
def of (v : List Value) : Tree :=
 .newbox fun r0 =>
 pL (g v 39) (iv 0) fun v0 =>
 kV v0 <|
 pG (g v 39) (iv 1) fun v1 =>
 kV v0 <|
 pK v0 (.bool true) v1 fun v2 =>
 .br v2 (
 .ret (.slice none 0 0) []) (
 kN r0 <|
 c1 42 [ag (G38 v 1)] fun l3 =>
 pO (g l3 0) fun v4 =>
 .br v4 (
 .ret (.slice none 0 0) []) (
 kN r0 <|
 c1 113 [g v 0,ag (G38 v 1),g v 39,g v 40] fun l5 =>
 .ret (g l5 0) []))
theorem vP (vs : List Value) : aW PP Tryz.f91 (aG okL [(81, [5, 6, 7, 8])] [] []) vs = of vs := by kernel_rfl
theorem wK {args vs} (ha : an PP Tryz.f91 args = some vs) (ho : Ones vs) {H O Q} (h : (of vs).den PP Q H O) : Triple PP tK args H O Q :=
 am mixed (ao aE _ _ _) Tryz.func91 vP ha ho h
abbrev yB : FuncId := 92
def sC (v : List Value) : Tree :=
 .newbox fun r0 =>
 .newbox fun r1 =>
 .newbox fun r2 =>
 kN r0 <|
 cS 50 [ag (G38 v 0)] (.agg 38) fun l0 =>
 kN r0 <|
 cS 81 [pt r0 1] (.agg 4) fun l1 =>
 kW (g l1 0) r0 6 <|
 kW (g l1 1) r0 7 <|
 kW (g l1 2) r0 8 <|
 kW (g l1 3) r0 9 <|
 kN r0 <|
 .call false 115 [g l0 6,.func (.func 114) #[] #[pt r1 0]] [] [⟨r1,3,[g v 38]⟩] .one fun l2 c2 =>
 kN r0 <|
 kN r0 <|
 .call false 115 [g l0 7,.func (.func 114) #[] #[pt r1 0]] [] [⟨r1,3,[g (gd c2 0) 0]⟩] .one fun l3 c3 =>
 kN r0 <|
 kN r0 <|
 .call false 115 [g l0 8,.func (.func 114) #[] #[pt r1 0]] [] [⟨r1,3,[g (gd c3 0) 0]⟩] .one fun l4 c4 =>
 kN r0 <|
 kN r0 <|
 .call false 115 [g l0 9,.func (.func 114) #[] #[pt r1 0]] [] [⟨r1,3,[g (gd c4 0) 0]⟩] .one fun l5 c5 =>
 kN r0 <|
 cS 81 [pt r0 15] (.agg 4) fun l6 =>
 kW (g l6 0) r0 20 <|
 kW (g l6 1) r0 21 <|
 kW (g l6 2) r0 22 <|
 kW (g l6 3) r0 23 <|
 kN r0 <|
 .call false 115 [g l0 20,.func (.func 114) #[] #[pt r1 0]] [] [⟨r1,3,[g (gd c5 0) 0]⟩] .one fun l7 c7 =>
 kN r0 <|
 kN r0 <|
 .call false 115 [g l0 21,.func (.func 114) #[] #[pt r1 0]] [] [⟨r1,3,[g (gd c7 0) 0]⟩] .one fun l8 c8 =>
 kN r0 <|
 kN r0 <|
 .call false 115 [g l0 22,.func (.func 114) #[] #[pt r1 0]] [] [⟨r1,3,[g (gd c8 0) 0]⟩] .one fun l9 c9 =>
 kN r0 <|
 kN r0 <|
 .call false 115 [g l0 23,.func (.func 114) #[] #[pt r1 0]] [] [⟨r1,3,[g (gd c9 0) 0]⟩] .one fun l10 c10 =>
 kN r0 <|
 kN r0 <|
 .call false 116 [g l0 29,.func (.func 117) #[] #[pt r1 0]] [] [⟨r1,3,[g (gd c10 0) 0]⟩] .one fun l11 c11 =>
 kN r0 <|
 kN r0 <|
 .call false 115 [g l0 31,.func (.func 114) #[] #[pt r1 0]] [] [⟨r1,3,[g (gd c11 0) 0]⟩] .one fun l12 c12 =>
 kN r0 <|
 kN r0 <|
 .call false 118 [g l0 32,.func (.func 119) #[] #[pt r1 0]] [] [⟨r1,3,[g (gd c12 0) 0]⟩] .one fun l13 c13 =>
 kN r0 <|
 kN r0 <|
 kN r2 <|
 kN r2 <|
 .ret (ag (G6 l0 0 ++ ((g l2 0)::((g l3 0)::((g l4 0)::((g l5 0)::(G10 l0 10 ++ ((g l7 0)::((g l8 0)::((g l9 0)::((g l10 0)::(G5 l0 24 ++ ((g l11 0)::((g l0 30)::((g l12 0)::((g l13 0)::G5 l0 33)))))))))))))))) []
theorem y7 (vs : List Value) : aW PP Tryz.f92 (aG okL [(81, [5, 6, 7, 8])] [(4, .unroll 3), (7, .unroll 5)] []) vs = sC vs := by kernel_rfl
theorem Au {args vs} (ha : an PP Tryz.f92 args = some vs) (ho : Ones vs) {H O Q} (h : (sC vs).den PP Q H O) : Triple PP yB args H O Q :=
 am mixed (ao aE _ _ _) Tryz.func92 y7 ha ho h
abbrev ij : FuncId := 95
def ga (l1004 : List Value) (C1005 : List Value → Heap → Own → Prop) (l1006 l1007 : List Value) (r1008 n1009 : Nat) (v1010 : Value) : Tree :=
 pA (g l1004 1) (iv 1) fun v10 =>
 .cont 10 C1005 [g l1006 0,v10] (Es [[g l1007 0],[pt r1008 0],[g l1007 n1009],[v1010],((pt r1008 0)::G38 l1007 1)])
def gc (r1001 : Nat) (l1002 : List Value) (n1003 : Nat) : Tree :=
 kN r1001 <|
 pZ (g l1002 n1003) fun v0 =>
 .loop 10 3 [.slice none 0 0,iv 0] fun C10 l1 =>
 pL (g l1 1) v0 fun v2 =>
 .br v2 (
 pI 1 (g l1002 n1003) (g l1 1) fun v3 =>
 .load [] v3 1 fun l4 =>
 kN r1001 <|
 kN r1001 <|
 c1 28 [ag (G38 l1002 1),g l4 0] fun l5 =>
 pI 12 (g l1002 1) (g l5 0) fun v6 =>
 .load [] v6 12 fun l7 =>
 c1 120 [g l1002 0,ag (G12 l7 0)] fun l8 =>
 .br (g l8 0) (
 .newbox fun r1 =>
 .prim (.bi .append #[26,26] 26) [g l1 0,.slice (some ⟨r1,0,none⟩) 1 1] [⟨r1,3,[g l4 0]⟩] [] .one fun l9 _ =>
 ga l1 C10 l9 l1002 r1001 n1003 v0) (
 ga l1 C10 l1 l1002 r1001 n1003 v0)) (
 c1 97 [g l1 0] fun l12 =>
 .ret (g l12 0) [])
def d7 (v : List Value) : Tree :=
 .newbox fun r0 =>
 .sw (g v 39) 0 (
 gc r0 v 9) (
 .sw (g v 39) 1 (
 gc r0 v 23) (
 .stuck 901))
theorem lg (vs : List Value) : aW PP Tryz.f95 (aG okL [(81, [5, 6, 7, 8])] [(3, .inv [7, 16] [0, 4, 14, 15] [(4, [])])] []) vs = d7 vs := by kernel_rfl
theorem lC {args vs} (ha : an PP Tryz.f95 args = some vs) (ho : Ones vs) {H O Q} (h : (d7 vs).den PP Q H O) : Triple PP ij args H O Q :=
 am mixed (ao aE _ _ _) Tryz.func95 lg ha ho h
abbrev iY : FuncId := 96
def fh (v : List Value) : Tree :=
 .loop 3 3 [.slice none 0 0,iv 0] fun C3 l0 =>
 pZ (g v 0) fun v1 =>
 pL (g l0 1) v1 fun v2 =>
 .br v2 (
 pI 1 (g v 0) (g l0 1) fun v3 =>
 .load [] v3 1 fun l4 =>
 .newbox fun r0 =>
 .prim (.bi .append #[39,39] 39) [g l0 0,.slice (some ⟨r0,0,none⟩) 1 1] [⟨r0,43,[g l4 0,iv 0]⟩] [] .one fun l5 _ =>
 pA (g l0 1) (iv 1) fun v6 =>
 .cont 3 C3 [g l5 0,v6] (Es [[g v 0]])) (
 .ret (g l0 0) [])
theorem mq (vs : List Value) : aW PP Tryz.f96 (aG okL [(81, [5, 6, 7, 8])] [(3, .inv [3, 4] [0] [])] []) vs = fh vs := by kernel_rfl
theorem mQ {args vs} (ha : an PP Tryz.f96 args = some vs) (ho : Ones vs) {H O Q} (h : (fh vs).den PP Q H O) : Triple PP iY args H O Q :=
 am mixed (ao aE _ _ _) Tryz.func96 mq ha ho h
abbrev jz : FuncId := 97
def fL (v : List Value) : Tree :=
 .loop 3 3 [.slice none 0 0,iv 0] fun C3 l0 =>
 pZ (g v 0) fun v1 =>
 pL (g l0 1) v1 fun v2 =>
 .br v2 (
 .loop 9 6 [iv 0] fun C9 l3 =>
 pZ (g l0 0) fun v4 =>
 pL (g l3 0) v4 fun v5 =>
 kV v5 <|
 kV v5 <|
 .pure [(v5,true)] (.idx 1) [g l0 0,g l3 0] fun v6 =>
 kV v5 <|
 .load [(v5,true)] v6 1 fun l7 =>
 kV v5 <|
 kV v5 <|
 .pure [(v5,true)] (.idx 1) [g v 0,g l0 1] fun v8 =>
 kV v5 <|
 .load [(v5,true)] v8 1 fun l9 =>
 kV v5 <|
 kV v5 <|
 pL (g l7 0) (g l9 0) fun v10 =>
 kV v5 <|
 pK v5 v10 (.bool false) fun v11 =>
 .br v11 (
 pA (g l3 0) (iv 1) fun v12 =>
 .cont 9 C9 [v12] (Es [[g v 0],[g l0 0],[g l0 1]])) (
 pI 1 (g v 0) (g l0 1) fun v13 =>
 .load [] v13 1 fun l14 =>
 .pure [] (.slc 1 true false false) [g l0 0,g l3 0] fun v15 =>
 .newbox fun r0 =>
 .prim (.bi .append #[26,26] 26) [.slice (some ⟨r0,0,none⟩) 1 1,v15] [⟨r0,3,[g l14 0]⟩] [] .one fun l16 _ =>
 .pure [] (.slc 1 false true false) [g l0 0,g l3 0] fun v17 =>
 .prim (.bi .append #[26,26] 26) [.slice none 0 0,v17] [] [] .one fun l18 _ =>
 .prim (.bi .append #[26,26] 26) [g l18 0,g l16 0] [] [] .one fun l19 _ =>
 pA (g l0 1) (iv 1) fun v20 =>
 .cont 3 C3 [g l19 0,v20] (Es [[g v 0]]))) (
 .ret (g l0 0) [])
theorem nm (vs : List Value) : aW PP Tryz.f97 (aG okL [(81, [5, 6, 7, 8])] [(3, .inv [3, 4] [0] []), (6, .inv [5] [0, 3, 4] [])] []) vs = fL vs := by kernel_rfl
theorem nz {args vs} (ha : an PP Tryz.f97 args = some vs) (ho : Ones vs) {H O Q} (h : (fL vs).den PP Q H O) : Triple PP jz args H O Q :=
 am mixed (ao aE _ _ _) Tryz.func97 nm ha ho h
abbrev jP : FuncId := 98
def gq (v : List Value) : Tree :=
 .newbox fun r0 =>
 kN r0 <|
 cS 46 [g v 0,.agg #[iv 0,g v 3,iv 0,iv 0,iv 0,iv 0,iv 0,iv 0,iv 0,.bool false,.bool false,.bool false]] (.agg 14) fun l0 =>
 .newbox fun r1 =>
 kN r1 <|
 kN r0 <|
 pE (g v 4) (iv (-1)) fun v1 =>
 kN r1 <|
 kV v1 <|
 kV v1 <|
 pE (g l0 1) (iv 3) fun v2 =>
 kV v1 <|
 kN r1 <|
 kV v2 <|
 kV v1 <|
 kV v2 <|
 kV v1 <|
 pE (g l0 1) (iv 4) fun v3 =>
 kV v1 <|
 kV v2 <|
 kV v1 <|
 pK v2 (.bool true) v3 fun v4 =>
 kV v1 <|
 pK v1 v4 (.bool false) fun v5 =>
 .br v5 (
 kN r0 <|
 pZ (g v 5) fun v6 =>
 kN r1 <|
 c1 44 [g l0 11] fun l7 =>
 pZ (g l7 0) fun v8 =>
 pH v6 v8 fun v9 =>
 .ret v9 []) (
 .ret (.bool false) [])
theorem nR (vs : List Value) : aW PP Tryz.f98 (aG okL [(81, [5, 6, 7, 8])] [] []) vs = gq vs := by kernel_rfl
theorem oO {args vs} (ha : an PP Tryz.f98 args = some vs) (ho : Ones vs) {H O Q} (h : (gq vs).den PP Q H O) : Triple PP jP args H O Q :=
 am mixed (ao aE _ _ _) Tryz.func98 nR ha ho h
abbrev jY : FuncId := 99
def gB (v : List Value) : Tree :=
 pH (g v 0) (iv 0) fun v0 =>
 kV v0 <|
 pM (g v 0) (iv 99) fun v1 =>
 kV v0 <|
 pK v0 v1 (.bool false) fun v2 =>
 .ret v2 []
theorem oc (vs : List Value) : aW PP Tryz.f99 (aG okL [(81, [5, 6, 7, 8])] [] []) vs = gB vs := by kernel_rfl
theorem oX {args vs} (ha : an PP Tryz.f99 args = some vs) (ho : Ones vs) {H O Q} (h : (gB vs).den PP Q H O) : Triple PP jY args H O Q :=
 am mixed (ao aE _ _ _) Tryz.func99 oc ha ho h
abbrev tM : FuncId := 100
def oi (v : List Value) : Tree :=
 .newbox fun r0 =>
 kN r0 <|
 .loop 4 2 [iv 0] fun C4 l0 =>
 pL (g l0 0) (iv 4) fun v1 =>
 .br v1 (
 .pure [] .aidx ((g l0 0)::G4 v 0) fun v2 =>
 pL v2 (iv 0) fun v3 =>
 kV v3 <|
 kV v3 <|
 pG v2 (g v 4) fun v4 =>
 kV v3 <|
 pK v3 (.bool true) v4 fun v5 =>
 .br v5 (
 .ret (.bool false) []) (
 pA (g l0 0) (iv 1) fun v6 =>
 .cont 4 C4 [v6] (Es [[g v 4],G4 v 0]))) (
 .ret (.bool true) [])
theorem vT (vs : List Value) : aW PP Tryz.f100 (aG okL [(81, [5, 6, 7, 8])] [(2, .inv [8] [1, 7] [])] []) vs = oi vs := by kernel_rfl
theorem wM {args vs} (ha : an PP Tryz.f100 args = some vs) (ho : Ones vs) {H O Q} (h : (oi vs).den PP Q H O) : Triple PP tM args H O Q :=
 am mixed (ao aE _ _ _) Tryz.func100 vT ha ho h
abbrev cC : FuncId := 101
def bt (v : List Value) : Tree :=
 c1 121 [g v 0,g v 1] fun l0 =>
 pH (g l0 0) (iv 0) fun v1 =>
 .ret v1 []
theorem dU (vs : List Value) : aW PP Tryz.f101 (aG okL [(81, [5, 6, 7, 8])] [] []) vs = bt vs := by kernel_rfl
theorem dW {args vs} (ha : an PP Tryz.f101 args = some vs) (ho : Ones vs) {H O Q} (h : (bt vs).den PP Q H O) : Triple PP cC args H O Q :=
 am mixed (ao aE _ _ _) Tryz.func101 dU ha ho h
abbrev rS : FuncId := 102
def mF (v : List Value) : Tree :=
 .newbox fun r0 =>
 kN r0 <|
 c1 103 [.agg #[g v 0,g v 1]] fun l0 =>
 pO (g l0 0) fun v1 =>
 .ret v1 []
theorem uK (vs : List Value) : aW PP Tryz.f102 (aG okL [(81, [5, 6, 7, 8])] [] []) vs = mF vs := by kernel_rfl
theorem vF {args vs} (ha : an PP Tryz.f102 args = some vs) (ho : Ones vs) {H O Q} (h : (mF vs).den PP Q H O) : Triple PP rS args H O Q :=
 am mixed (ao aE _ _ _) Tryz.func102 uK ha ho h
abbrev tQ : FuncId := 103
def oy (v : List Value) : Tree :=
 .newbox fun r0 =>
 kN r0 <|
 c1 70 [g v 0,iv 0,iv 500] fun l0 =>
 .br (g l0 0) (
 kN r0 <|
 c1 70 [g v 1,iv 0,iv 1] fun l1 =>
 kN r0 <|
 kV (g l1 0) <|
 kV (g l1 0) <|
 pE (g v 0) (iv 0) fun v2 =>
 kV (g l1 0) <|
 kN r0 <|
 kV v2 <|
 kV (g l1 0) <|
 kV v2 <|
 kV (g l1 0) <|
 pE (g v 1) (iv 0) fun v3 =>
 kV (g l1 0) <|
 kV v2 <|
 kV (g l1 0) <|
 pK v2 (.bool true) v3 fun v4 =>
 kV (g l1 0) <|
 pK (g l1 0) v4 (.bool false) fun v5 =>
 .ret v5 []) (
 .ret (.bool false) [])
theorem wa (vs : List Value) : aW PP Tryz.f103 (aG okL [(81, [5, 6, 7, 8])] [] []) vs = oy vs := by kernel_rfl
theorem wU {args vs} (ha : an PP Tryz.f103 args = some vs) (ho : Ones vs) {H O Q} (h : (oy vs).den PP Q H O) : Triple PP tQ args H O Q :=
 am mixed (ao aE _ _ _) Tryz.func103 wa ha ho h
abbrev jM : FuncId := 104
def jL (v : List Value) : Tree :=
 .load [] (g v 2) 1 fun l0 =>
 .prim (.lookup 150 true) [g l0 0,g v 0] [] [] (.tup [none,none]) fun l1 _ =>
 .load [] (g v 2) 1 fun l2 =>
 .prim (.mapUpdate 150) [g l2 0,g v 0,g v 1] [] [] .one fun l3 _ =>
 pO (g l1 1) fun v4 =>
 .ret v4 []
theorem sB (vs : List Value) : aW PP Tryz.f104 (aG okL [(81, [5, 6, 7, 8])] [] []) vs = jL vs := by kernel_rfl
theorem sR {args vs} (ha : an PP Tryz.f104 args = some vs) (ho : Ones vs) {H O Q} (h : (jL vs).den PP Q H O) : Triple PP jM args H O Q :=
 am mixed (ao aE _ _ _) Tryz.func104 sB ha ho h
abbrev rO : FuncId := 105
def mB (v : List Value) : Tree :=
 .newbox fun r0 =>
 kN r0 <|
 kN r0 <|
 kN r0 <|
 kN r0 <|
 kN r0 <|
 kN r0 <|
 .loop 16 2 [iv 0] fun C16 l0 =>
 pL (g l0 0) (iv 6) fun v1 =>
 .br v1 (
 .pure [] .aidx ((g l0 0)::G6 v 3) fun v2 =>
 pL v2 (iv 0) fun v3 =>
 kV v3 <|
 pG v2 (iv 99) fun v4 =>
 kV v3 <|
 pK v3 (.bool true) v4 fun v5 =>
 .br v5 (
 .ret (.bool false) []) (
 pA (g l0 0) (iv 1) fun v6 =>
 .cont 16 C16 [v6] (Es [[pt r0 0],G6 v 3,((pt r0 0)::G12 v 0)]))) (
 kN r0 <|
 pE (g v 1) (iv (-1)) fun v7 =>
 kN r0 <|
 kV v7 <|
 kV v7 <|
 pE (g v 3) (iv 0) fun v8 =>
 kV v7 <|
 kN r0 <|
 kV v8 <|
 kV v7 <|
 kV v8 <|
 kV v7 <|
 pE (g v 4) (iv 0) fun v9 =>
 kV v7 <|
 kV v8 <|
 kV v7 <|
 pK v8 v9 (.bool false) fun v10 =>
 kV v7 <|
 pK v7 (.bool true) v10 fun v11 =>
 kN r0 <|
 kV v11 <|
 kV v11 <|
 pH (g v 0) (iv 1) fun v12 =>
 kV v11 <|
 pK v11 v12 (.bool false) fun v13 =>
 kN r0 <|
 kV v13 <|
 kV v13 <|
 pM (g v 0) (iv 500) fun v14 =>
 kV v13 <|
 pK v13 v14 (.bool false) fun v15 =>
 kN r0 <|
 kV v15 <|
 kV v15 <|
 pH (g v 1) (iv (-1)) fun v16 =>
 kV v15 <|
 pK v15 v16 (.bool false) fun v17 =>
 kN r0 <|
 kV v17 <|
 kV v17 <|
 pL (g v 1) (iv 400) fun v18 =>
 kV v17 <|
 pK v17 v18 (.bool false) fun v19 =>
 kN r0 <|
 kV v19 <|
 kV v19 <|
 pE (g v 2) (iv 0) fun v20 =>
 kV v19 <|
 kN r0 <|
 kV v20 <|
 kV v19 <|
 kV v20 <|
 kV v19 <|
 pE (g v 2) (iv 1) fun v21 =>
 kV v19 <|
 kV v20 <|
 kV v19 <|
 pK v20 (.bool true) v21 fun v22 =>
 kV v19 <|
 pK v19 v22 (.bool false) fun v23 =>
 .ret v23 [])
theorem uG (vs : List Value) : aW PP Tryz.f105 (aG okL [(81, [5, 6, 7, 8])] [(2, .inv [19] [1, 18] [(1, [])])] []) vs = mB vs := by kernel_rfl
theorem vB {args vs} (ha : an PP Tryz.f105 args = some vs) (ho : Ones vs) {H O Q} (h : (mB vs).den PP Q H O) : Triple PP rO args H O Q :=
 am mixed (ao aE _ _ _) Tryz.func105 uG ha ho h
abbrev cg : FuncId := 106
def dQ (v : List Value) : Tree :=
 c1 82 [g v 0,g v 1] fun l0 =>
 pH (g l0 0) (iv 0) fun v1 =>
 .ret v1 []
theorem kr (vs : List Value) : aW PP Tryz.f106 (aG okL [(81, [5, 6, 7, 8])] [] []) vs = dQ vs := by kernel_rfl
theorem kH {args vs} (ha : an PP Tryz.f106 args = some vs) (ho : Ones vs) {H O Q} (h : (dQ vs).den PP Q H O) : Triple PP cg args H O Q :=
 am mixed (ao aE _ _ _) Tryz.func106 kr ha ho h
abbrev dm : FuncId := 107
def cd (v : List Value) : Tree :=
 .pure [] (.bin .eql .slice) [g v 0,.slice none 0 0] fun v0 =>
 .br v0 (
 .ret (.slice none 0 0) []) (
 .newbox fun r0 =>
 .prim (.bi .append #[51,51] 51) [.slice (some ⟨r0,0,none⟩) 0 0,g v 0] [⟨r0,56,[]⟩] [] .one fun l1 _ =>
 .ret (g l1 0) [])
theorem fQ (vs : List Value) : aW PP Tryz.f107 (aG okL [(81, [5, 6, 7, 8])] [] []) vs = cd vs := by kernel_rfl
theorem fV {args vs} (ha : an PP Tryz.f107 args = some vs) (ho : Ones vs) {H O Q} (h : (cd vs).den PP Q H O) : Triple PP dm args H O Q :=
 am mixed (ao aE _ _ _) Tryz.func107 fQ ha ho h
abbrev cU : FuncId := 108
def bR (v : List Value) : Tree :=
 .pure [] (.bin .eql .slice) [g v 0,.slice none 0 0] fun v0 =>
 .br v0 (
 .ret (.slice none 0 0) []) (
 .newbox fun r0 =>
 .prim (.bi .append #[84,84] 84) [.slice (some ⟨r0,0,none⟩) 0 0,g v 0] [⟨r0,89,[]⟩] [] .one fun l1 _ =>
 .ret (g l1 0) [])
theorem fm (vs : List Value) : aW PP Tryz.f108 (aG okL [(81, [5, 6, 7, 8])] [] []) vs = bR vs := by kernel_rfl
theorem fw {args vs} (ha : an PP Tryz.f108 args = some vs) (ho : Ones vs) {H O Q} (h : (bR vs).den PP Q H O) : Triple PP cU args H O Q :=
 am mixed (ao aE _ _ _) Tryz.func108 fm ha ho h
abbrev iP : FuncId := 109
def li (v : List Value) : Tree :=
 .newbox fun r0 =>
 kN r0 <|
 pS (g v 0) (g v 12) fun v0 =>
 .ret v0 []
theorem tE (vs : List Value) : aW PP Tryz.f109 (aG okL [(81, [5, 6, 7, 8])] [] []) vs = li vs := by kernel_rfl
theorem tY {args vs} (ha : an PP Tryz.f109 args = some vs) (ho : Ones vs) {H O Q} (h : (li vs).den PP Q H O) : Triple PP iP args H O Q :=
 am mixed (ao aE _ _ _) Tryz.func109 tE ha ho h
abbrev dT : FuncId := 110
def cE (v : List Value) : Tree :=
 .pure [] (.bin .eql .slice) [g v 0,.slice none 0 0] fun v0 =>
 .br v0 (
 .ret (.slice none 0 0) []) (
 .newbox fun r0 =>
 .prim (.bi .append #[30,30] 30) [.slice (some ⟨r0,0,none⟩) 0 0,g v 0] [⟨r0,41,[]⟩] [] .one fun l1 _ =>
 .ret (g l1 0) [])
theorem hD (vs : List Value) : aW PP Tryz.f110 (aG okL [(81, [5, 6, 7, 8])] [] []) vs = cE vs := by kernel_rfl
theorem ik {args vs} (ha : an PP Tryz.f110 args = some vs) (ho : Ones vs) {H O Q} (h : (cE vs).den PP Q H O) : Triple PP dT args H O Q :=
 am mixed (ao aE _ _ _) Tryz.func110 hD ha ho h
abbrev dk : FuncId := 111
def bY (v : List Value) : Tree :=
 .pure [] (.bin .eql .slice) [g v 0,.slice none 0 0] fun v0 =>
 .br v0 (
 .ret (.slice none 0 0) []) (
 .newbox fun r0 =>
 .prim (.bi .append #[39,39] 39) [.slice (some ⟨r0,0,none⟩) 0 0,g v 0] [⟨r0,43,[]⟩] [] .one fun l1 _ =>
 .ret (g l1 0) [])
theorem fO (vs : List Value) : aW PP Tryz.f111 (aG okL [(81, [5, 6, 7, 8])] [] []) vs = bY vs := by kernel_rfl
theorem fT {args vs} (ha : an PP Tryz.f111 args = some vs) (ho : Ones vs) {H O Q} (h : (bY vs).den PP Q H O) : Triple PP dk args H O Q :=
 am mixed (ao aE _ _ _) Tryz.func111 fO ha ho h
abbrev dj : FuncId := 112
def bX (v : List Value) : Tree :=
 .newbox fun r0 =>
 pZ (g v 0) fun v0 =>
 .loop 5 2 [iv 0] fun C5 l1 =>
 pL (g l1 0) v0 fun v2 =>
 .br v2 (
 kN r0 <|
 pI 2 (g v 0) (g l1 0) fun v3 =>
 .load [] v3 2 fun l4 =>
 .raw [] (.eqv .eql 43 false) [.agg #[g v 1,g v 2],.agg #[g l4 0,g l4 1]] fun v5 =>
 .br v5 (
 .ret (g l1 0) []) (
 pA (g l1 0) (iv 1) fun v6 =>
 .cont 5 C5 [v6] (Es [[g v 0],[pt r0 0],[v0],[pt r0 0,g v 1,g v 2]]))) (
 .ret (iv (-1)) [])
theorem fM (vs : List Value) : aW PP Tryz.f112 (aG okL [(81, [5, 6, 7, 8])] [(2, .inv [8] [0, 3, 7] [(3, [])])] []) vs = bX vs := by kernel_rfl
theorem fS {args vs} (ha : an PP Tryz.f112 args = some vs) (ho : Ones vs) {H O Q} (h : (bX vs).den PP Q H O) : Triple PP dj args H O Q :=
 am mixed (ao aE _ _ _) Tryz.func112 fM ha ho h
abbrev dh : FuncId := 113
def qI (l1001 : List Value) (C1002 : List Value → Heap → Own → Prop) (l1003 l1004 : List Value) (r1005 : Nat) : Tree :=
 pS (g l1001 1) (iv 1) fun v34 =>
 .cont 20 C1002 [g l1003 0,v34] (Es [[g l1004 0],[pt r1005 0],((pt r1005 0)::G38 l1004 1)])
def de (v : List Value) : Tree :=
 .newbox fun r0 =>
 pE (g v 40) (iv 1) fun v0 =>
 .br v0 (
 kN r0 <|
 kN r0 <|
 c1 113 [g v 0,ag (G38 v 1),g v 39,iv 2] fun l1 =>
 c1 113 [g v 0,ag (G38 v 1),g v 39,iv 3] fun l2 =>
 .prim (.bi .append #[39,39] 39) [g l1 0,g l2 0] [] [] .one fun l3 _ =>
 cS 122 [g l3 0,.func (.func 123) #[] #[]] (.tup []) fun l4 =>
 .ret (g l3 0) []) (
 pE (g v 40) (iv 3) fun v5 =>
 .br v5 (
 kN r0 <|
 pS (iv 1) (g v 39) fun v6 =>
 c1 113 [g v 0,ag (G38 v 1),v6,iv 2] fun l7 =>
 .ret (g l7 0) []) (
 pE (g v 40) (iv 2) fun v8 =>
 .br v8 (
 kN r0 <|
 c1 125 [g v 0,ag (G38 v 1),g v 39] fun l9 =>
 pZ (g l9 0) fun v10 =>
 .loop 15 9 [.slice none 0 0,iv 0] fun C15 l11 =>
 pL (g l11 1) v10 fun v12 =>
 .br v12 (
 pI 1 (g l9 0) (g l11 1) fun v13 =>
 .load [] v13 1 fun l14 =>
 .newbox fun r1 =>
 .prim (.bi .append #[39,39] 39) [g l11 0,.slice (some ⟨r1,0,none⟩) 1 1] [⟨r1,43,[g l14 0,iv 0]⟩] [] .one fun l15 _ =>
 pA (g l11 1) (iv 1) fun v16 =>
 .cont 15 C15 [g l15 0,v16] (Es [[g l9 0],[v10]])) (
 .ret (g l11 0) [])) (
 pE (g v 40) (iv 4) fun v17 =>
 .br v17 (
 pS (iv 1) (g v 39) fun v18 =>
 .newbox fun r2 =>
 .ret (.slice (some ⟨r2,0,none⟩) 2 2) [⟨r2,43,[iv 0,v18,iv 0,g v 39]⟩]) (
 pE (g v 40) (iv 5) fun v19 =>
 .br v19 (
 kN r0 <|
 kN r0 <|
 c1 113 [g v 0,ag (G38 v 1),g v 39,iv 4] fun l20 =>
 c1 113 [g v 0,ag (G38 v 1),g v 39,iv 1] fun l21 =>
 .prim (.bi .append #[39,39] 39) [g l20 0,g l21 0] [] [] .one fun l22 _ =>
 .ret (g l22 0) []) (
 pE (g v 40) (iv 6) fun v23 =>
 .br v23 (
 kN r0 <|
 pZ (g v 30) fun v24 =>
 pS v24 (iv 1) fun v25 =>
 .loop 20 19 [.slice none 0 0,v25] fun C20 l26 =>
 pH (g l26 1) (iv 0) fun v27 =>
 .br v27 (
 kN r0 <|
 pI 5 (g v 30) (g l26 1) fun v28 =>
 .load [] v28 5 fun l29 =>
 c1 126 [g v 0,ag (G5 l29 0)] fun l30 =>
 .br (g l30 0) (
 kN r0 <|
 pI 5 (g v 30) (g l26 1) fun v31 =>
 kP v31 <|
 .load [] (bc v31 1) 1 fun l32 =>
 .newbox fun r3 =>
 .prim (.bi .append #[39,39] 39) [g l26 0,.slice (some ⟨r3,0,none⟩) 1 1] [⟨r3,43,[g l32 0,iv 0]⟩] [] .one fun l33 _ =>
 qI l26 C20 l33 v r0) (
 qI l26 C20 l26 v r0)) (
 .ret (g l26 0) [])) (
 .ret (.slice none 0 0) []))))))
theorem vO (vs : List Value) : aW PP Tryz.f113 (aG okL [(81, [5, 6, 7, 8])] [(19, .inv [8, 11] [0, 5] [(5, [])]), (9, .inv [8, 40] [38, 39] [])] []) vs = de vs := by kernel_rfl
theorem dv {args vs} (ha : an PP Tryz.f113 args = some vs) (ho : Ones vs) {H O Q} (h : (de vs).den PP Q H O) : Triple PP dh args H O Q :=
 am mixed (ao aE _ _ _) Tryz.func113 vO ha ho h
abbrev kA : FuncId := 114
def ot (v : List Value) : Tree :=
 .load [] (g v 1) 1 fun l0 =>
 pE (g v 0) (g l0 0) fun v1 =>
 .ret v1 []
theorem vW (vs : List Value) : aW PP Tryz.f114 (aG okL [(81, [5, 6, 7, 8])] [] []) vs = ot vs := by kernel_rfl
theorem wQ {args vs} (ha : an PP Tryz.f114 args = some vs) (ho : Ones vs) {H O Q} (h : (ot vs).den PP Q H O) : Triple PP kA args H O Q :=
 am mixed (ao aE _ _ _) Tryz.func114 vW ha ho h
abbrev dC : FuncId := 115
def dA (v : List Value) : Tree :=
 c1 127 [g v 0,g v 1] fun l0 =>
 pE (g l0 0) (iv (-1)) fun v1 =>
 .br v1 (
 .ret (g v 0) []) (
 pA (g l0 0) (iv 1) fun v2 =>
 .loop 10 5 [g l0 0,v2] fun C10 l3 =>
 pZ (g v 0) fun v4 =>
 pL (g l3 1) v4 fun v5 =>
 .br v5 (
 pI 1 (g v 0) (g l3 1) fun v6 =>
 .load [] v6 1 fun l7 =>
 .callv false (g v 1) [g l7 0] [] [] .one fun l8 _ =>
 pO (g l8 0) fun v9 =>
 .br v9 (
 pI 1 (g v 0) (g l3 0) fun v10 =>
 kP v10 <|
 .store v10 [g l7 0] <|
 pA (g l3 0) (iv 1) fun v11 =>
 pA (g l3 1) (iv 1) fun v12 =>
 .cont 10 C10 [v11,v12] (Es [[g v 0],[g v 1]])) (
 pA (g l3 1) (iv 1) fun v13 =>
 .cont 10 C10 [g l3 0,v13] (Es [[g v 0],[g v 1]]))) (
 .pure [] (.slc 1 true false false) [g v 0,g l3 0] fun v14 =>
 .prim (.bi .clear #[26] 0) [v14] [] [] (.tup []) fun l15 _ =>
 .pure [] (.slc 1 false true false) [g v 0,g l3 0] fun v16 =>
 .ret v16 []))
theorem ju (vs : List Value) : aW PP Tryz.f115 (aG okL [(81, [5, 6, 7, 8])] [(5, .inv [5, 6] [0, 1] [])] []) vs = dA vs := by kernel_rfl
theorem jD {args vs} (ha : an PP Tryz.f115 args = some vs) (ho : Ones vs) {H O Q} (h : (dA vs).den PP Q H O) : Triple PP dC args H O Q :=
 am mixed (ao aE _ _ _) Tryz.func115 ju ha ho h
abbrev bU : FuncId := 116
def bT (v : List Value) : Tree :=
 c1 83 [g v 0,g v 1] fun l0 =>
 pE (g l0 0) (iv (-1)) fun v1 =>
 .br v1 (
 .ret (g v 0) []) (
 pA (g l0 0) (iv 1) fun v2 =>
 .loop 10 5 [g l0 0,v2] fun C10 l3 =>
 pZ (g v 0) fun v4 =>
 pL (g l3 1) v4 fun v5 =>
 .br v5 (
 pI 5 (g v 0) (g l3 1) fun v6 =>
 .load [] v6 5 fun l7 =>
 .newbox fun r0 =>
 kN r0 <|
 kN r0 <|
 .callv false (g v 1) [ag (G5 l7 0)] [] [] .one fun l8 _ =>
 pO (g l8 0) fun v9 =>
 .br v9 (
 kN r0 <|
 pI 5 (g v 0) (g l3 0) fun v10 =>
 kP v10 <|
 .store v10 (G5 l7 0) <|
 pA (g l3 0) (iv 1) fun v11 =>
 pA (g l3 1) (iv 1) fun v12 =>
 .cont 10 C10 [v11,v12] (Es [[g v 0],[g v 1]])) (
 pA (g l3 1) (iv 1) fun v13 =>
 .cont 10 C10 [g l3 0,v13] (Es [[g v 0],[g v 1]]))) (
 .pure [] (.slc 5 true false false) [g v 0,g l3 0] fun v14 =>
 .prim (.bi .clear #[30] 0) [v14] [] [] (.tup []) fun l15 _ =>
 .pure [] (.slc 5 false true false) [g v 0,g l3 0] fun v16 =>
 .ret v16 []))
theorem fx (vs : List Value) : aW PP Tryz.f116 (aG okL [(81, [5, 6, 7, 8])] [(5, .inv [5, 6] [0, 1] [])] []) vs = bT vs := by kernel_rfl
theorem fD {args vs} (ha : an PP Tryz.f116 args = some vs) (ho : Ones vs) {H O Q} (h : (bT vs).den PP Q H O) : Triple PP bU args H O Q :=
 am mixed (ao aE _ _ _) Tryz.func116 fx ha ho h
abbrev oE : FuncId := 117
def oq (v : List Value) : Tree :=
 .newbox fun r0 =>
 kN r0 <|
 pL (g v 3) (iv 0) fun v0 =>
 kN r0 <|
 kV v0 <|
 .load [(v0,true)] (g v 5) 1 fun l1 =>
 kV v0 <|
 kV v0 <|
 pE (g v 1) (g l1 0) fun v2 =>
 kV v0 <|
 pK v0 v2 (.bool false) fun v3 =>
 .ret v3 []
theorem vV (vs : List Value) : aW PP Tryz.f117 (aG okL [(81, [5, 6, 7, 8])] [] []) vs = oq vs := by kernel_rfl
theorem wP {args vs} (ha : an PP Tryz.f117 args = some vs) (ho : Ones vs) {H O Q} (h : (oq vs).den PP Q H O) : Triple PP oE args H O Q :=
 am mixed (ao aE _ _ _) Tryz.func117 vV ha ho h
end Go.Proofs.YtieaihgbjikggaaGreat
