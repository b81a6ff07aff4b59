/- The trees of the functions of this seat: printed by a tool of mine; each by the kernel's reckoning equal to the evaluator's. -/
import Derived.Test.YtieaihgbjikggaaGreatBT1
namespace Go.Proofs.YtieaihgbjikggaaGreat
open Go Go.Sx
set_option maxRecDepth 100000
abbrev mN : FuncId := 12
def ky (r1032 r1033 : Nat) (l1034 : List Value) : Tree :=
 kN r1032 <|
 kN r1033 <|
 kN r1033 <|
 .ret (.tuple #[ag (G38 l1034 1),.bool false]) []
def bQ (r1001 r1002 r1003 r1004 : Nat) (l1005 : List Value) (n1006 : Nat) (l1007 l1008 l1009 : List Value) (r1010 : Nat) : Tree :=
 kN r1001 <|
 kN r1002 <|
 kN r1001 <|
 kN r1003 <|
 kN r1004 <|
 c1 23 [ag (G38 l1005 0),g l1005 n1006,ag (G38 l1007 0),g l1007 n1006,ag (G38 l1008 1),ag (G38 l1009 0)] fun l4 =>
 pO (g l4 0) fun v5 =>
 .br v5 (
 ky r1003 r1010 l1008) (
 pN (g l1007 n1006) (iv 0) fun v6 =>
 .br v6 (
 kN r1003 <|
 kN r1010 <|
 kN r1010 <|
 .ret (.tuple #[ag (G38 l1008 1),.bool true]) []) (
 kN r1001 <|
 kN r1010 <|
 kN r1010 <|
 .ret (.tuple #[ag (G38 l1007 0),.bool true]) []))
def dX (r1021 r1022 : Nat) (l1023 l1024 : List Value) (n1025 n1026 r1027 r1028 r1029 : Nat) (l1030 : List Value) (r1031 : Nat) : Tree :=
 kN r1021 <|
 kN r1022 <|
 cS 20 [g l1023 0,ag (G38 l1023 1),.agg #[g l1024 n1025,g l1024 n1026]] (.tup [some 38,none]) fun l25 =>
 kN r1027 <|
 kN r1021 <|
 kN r1022 <|
 cS 39 [g l1023 0,ag (G38 l1023 1),.agg #[g l1024 n1025,g l1024 n1026]] (.tup [some 38,none]) fun l26 =>
 bQ r1028 r1027 r1021 r1029 l25 38 l26 l1023 l1030 r1031
def cA (v1011 : Value) (r1012 r1013 : Nat) (l1014 : List Value) (r1015 r1016 r1017 : Nat) (l1018 : List Value) (r1019 n1020 : Nat) : Tree :=
 .br v1011 (
 kN r1012 <|
 .newbox fun r6 =>
 kN r6 <|
 kN r1013 <|
 c1 29 [g l1014 0,ag (G38 l1014 1)] fun l14 =>
 kN r1012 <|
 pE (g l1014 39) (iv 3) fun v15 =>
 kV v15 <|
 pZ (g l14 0) fun v16 =>
 kV v15 <|
 pG v16 (iv 0) fun v17 =>
 kV v15 <|
 pK v15 v17 (.bool false) fun v18 =>
 kN r1012 <|
 kV v18 <|
 kV v18 <|
 pH (g l1014 40) (iv 0) fun v19 =>
 kV v18 <|
 pK v18 v19 (.bool false) fun v20 =>
 .br v20 (
 kN r1012 <|
 pZ (g l14 0) fun v21 =>
 .pure [] (.bin .rem .int) [g l1014 40,v21] fun v22 =>
 pI 2 (g l14 0) v22 fun v23 =>
 .load [] v23 2 fun l24 =>
 kN r6 <|
 dX r1013 r6 l1014 l24 0 1 r1015 r1016 r1017 l1018 r1019) (
 dX r1013 r6 l1014 l1014 46 47 r1015 r1016 r1017 l1018 r1019)) (
 pE (g l1014 39) (iv 4) fun v35 =>
 .br v35 (
 kN r1013 <|
 cS 21 [ag (G38 l1014 1)] (.tup [some 38,some 5,none]) fun l36 =>
 .newbox fun r7 =>
 .newbox fun r8 =>
 kN r7 <|
 kN r8 <|
 kN r1013 <|
 cS 40 [ag (G38 l1014 1)] (.tup [some 38,some 5,none]) fun l37 =>
 .newbox fun r9 =>
 .newbox fun r10 =>
 kN r9 <|
 kN r10 <|
 kN r8 <|
 kN r10 <|
 c1 24 [ag (G5 l36 38),ag (G5 l37 38)] fun l38 =>
 pO (g l38 0) fun v39 =>
 .br v39 (
 ky r1013 r1019 l1014) (
 .loop n1020 27 [iv 0] fun C49 l40 =>
 kN r8 <|
 pZ (g l36 42) fun v41 =>
 pL (g l40 0) v41 fun v42 =>
 .br v42 (
 kN r8 <|
 pI 2 (g l36 42) (g l40 0) fun v43 =>
 kP v43 <|
 .load [] v43 1 fun l44 =>
 pA (g l44 0) (iv 1) fun v45 =>
 pI 2 (g l36 42) (g l40 0) fun v46 =>
 kP v46 <|
 kP v46 <|
 .store v46 [v45] <|
 pA (g l40 0) (iv 1) fun v47 =>
 .cont n1020 C49 [v47] (Es [[pt r1013 0],[pt r1019 0],[pt r1017 0],[pt r1015 0],[pt r1016 0],[pt r7 0],[pt r8 0],[g l36 43],[pt r9 0],[g l37 43],((pt r1013 0)::G38 l1014 1),[pt r1019 0,.slice none 0 0,iv 0,iv 0,iv 0,iv 0,iv 0,.slice none 0 0,.slice none 0 0,.slice none 0 0,.slice none 0 0,.bool false,.bool false,.bool false,iv 0,iv 0,iv 0,iv 0,iv 0,iv 0,iv 0,.slice none 0 0,.slice none 0 0,.slice none 0 0,.slice none 0 0,.bool false,.bool false,.bool false,iv 0,iv 0,.slice none 0 0,.slice none 0 0,.slice none 0 0,.slice none 0 0,iv 0,iv 0,iv 0,iv 0,iv 0],((pt r1017 0)::G38 l1018 0),[pt r1015 0,.slice none 0 0,iv 0,iv 0,iv 0,iv 0,iv 0,.slice none 0 0,.slice none 0 0,.slice none 0 0,.slice none 0 0,.bool false,.bool false,.bool false,iv 0,iv 0,iv 0,iv 0,iv 0,iv 0,iv 0,.slice none 0 0,.slice none 0 0,.slice none 0 0,.slice none 0 0,.bool false,.bool false,.bool false,iv 0,iv 0,.slice none 0 0,.slice none 0 0,.slice none 0 0,.slice none 0 0,iv 0,iv 0,iv 0,iv 0,iv 0],[pt r1016 0,.slice none 0 0,iv 0,iv 0,iv 0,iv 0,iv 0,.slice none 0 0,.slice none 0 0,.slice none 0 0,.slice none 0 0,.bool false,.bool false,.bool false,iv 0,iv 0,iv 0,iv 0,iv 0,iv 0,iv 0,.slice none 0 0,.slice none 0 0,.slice none 0 0,.slice none 0 0,.bool false,.bool false,.bool false,iv 0,iv 0,.slice none 0 0,.slice none 0 0,.slice none 0 0,.slice none 0 0,iv 0,iv 0,iv 0,iv 0,iv 0],((pt r7 0)::G38 l36 0),((pt r8 0)::G5 l36 38),((pt r9 0)::G38 l37 0)])) (
 kN r7 <|
 kN r9 <|
 kN r1015 <|
 bQ r1016 r1015 r1013 r1017 l36 43 l37 l1014 l1018 r1019))) (
 kN r1013 <|
 kN r1012 <|
 cS 22 [ag (G38 l1014 1),g l1014 40] (.tup [some 38,none]) fun l51 =>
 kN r1015 <|
 kN r1013 <|
 kN r1012 <|
 cS 41 [ag (G38 l1014 1),g l1014 40] (.tup [some 38,none]) fun l52 =>
 bQ r1016 r1015 r1013 r1017 l51 38 l52 l1014 l1018 r1019))
def iB (v : List Value) : Tree :=
 .newbox fun r0 =>
 .newbox fun r1 =>
 .newbox fun r2 =>
 kN r0 <|
 cS 17 [ag (G38 v 1)] (.agg 38) fun l0 =>
 .newbox fun r3 =>
 kN r3 <|
 .newbox fun r4 =>
 .newbox fun r5 =>
 kN r1 <|
 pE (g v 39) (iv 0) fun v1 =>
 .br v1 (
 kN r0 <|
 kN r1 <|
 cS 18 [ag (G38 v 1),g v 40] (.tup [some 38,none]) fun l2 =>
 kN r4 <|
 kN r0 <|
 kN r1 <|
 cS 37 [ag (G38 v 1),g v 40] (.tup [some 38,none]) fun l3 =>
 bQ r5 r4 r0 r3 l2 38 l3 v l0 r2) (
 pE (g v 39) (iv 1) fun v7 =>
 .br v7 (
 kN r0 <|
 kN r1 <|
 cS 19 [ag (G38 v 1),ag (G5 v 41)] (.tup [some 38,none]) fun l8 =>
 kN r4 <|
 kN r0 <|
 kN r1 <|
 cS 38 [ag (G38 v 1),ag (G5 v 41)] (.tup [some 38,none]) fun l9 =>
 bQ r5 r4 r0 r3 l8 38 l9 v l0 r2) (
 pE (g v 39) (iv 2) fun v13 =>
 .br v13 (
 cA v13 r1 r0 v r4 r5 r3 l0 r2 49) (
 pE (g v 39) (iv 3) fun v56 =>
 cA v56 r1 r0 v r4 r5 r3 l0 r2 51)))
theorem rt (vs : List Value) : aT PP Tryz.f12 (aE okL [(81, [5, 6, 7, 8])] [(27, .inv [21] [4, 6, 8, 9, 10, 15, 16, 17, 18, 20] [(4, []), (6, []), (8, []), (9, []), (10, []), (15, []), (16, []), (18, [])])] []) vs = iB vs := by kernel_rfl
theorem rP {args vs} (ha : an PP Tryz.f12 args = some vs) (ho : Ones vs) {H O Q} (h : (iB vs).den PP Q H O) : Triple PP mN args H O Q :=
 am mixed (ao aB _ _ _) Tryz.func12 rt ha ho h
abbrev xJ : FuncId := 13
def sJ (v : List Value) : Tree :=
 .newbox fun r0 =>
 kN r0 <|
 pZ (g v 30) fun v0 =>
 pE v0 (iv 0) fun v1 =>
 .br v1 (
 .ret (iv 0) []) (
 kN r0 <|
 c1 42 [ag (G38 v 1)] fun l2 =>
 pO (g l2 0) fun v3 =>
 kN r0 <|
 kV v3 <|
 kV v3 <|
 pS v0 (iv 1) fun v4 =>
 kV v3 <|
 kV v3 <|
 .pure [(v3,false)] (.idx 5) [g v 30,v4] fun v5 =>
 .chk (.ptr [(v3,false)] v5) <|
 kV v3 <|
 kV v3 <|
 .load [(v3,false)] (aS v5 3) 1 fun l6 =>
 kV v3 <|
 pN (g l6 0) (iv (-1)) fun v7 =>
 kV v3 <|
 pK v3 (.bool true) v7 fun v8 =>
 .br v8 (
 .ret (iv 0) []) (
 kN r0 <|
 pS v0 (iv 1) fun v9 =>
 pI 5 (g v 30) v9 fun v10 =>
 .load [] v10 5 fun l11 =>
 .newbox fun r1 =>
 kN r1 <|
 kN r1 <|
 c1 15 [g v 0,ag (G5 l11 0)] fun l12 =>
 c1 43 [g l12 0] fun l13 =>
 kN r1 <|
 pZ (g l11 4) fun v14 =>
 pZ (g l13 0) fun v15 =>
 pL v14 v15 fun v16 =>
 kV v16 <|
 pL v14 (iv 4) fun v17 =>
 kV v16 <|
 pK v16 v17 (.bool false) fun v18 =>
 .br v18 (
 pI 1 (g l13 0) v14 fun v19 =>
 .load [] v19 1 fun l20 =>
 .ret (g l20 0) []) (
 .ret (iv 0) [])))
theorem AC (vs : List Value) : aT PP Tryz.f13 (aE okL [(81, [5, 6, 7, 8])] [] []) vs = sJ vs := by kernel_rfl
theorem AP {args vs} (ha : an PP Tryz.f13 args = some vs) (ho : Ones vs) {H O Q} (h : (sJ vs).den PP Q H O) : Triple PP xJ args H O Q :=
 am mixed (ao aB _ _ _) Tryz.func13 AC ha ho h
abbrev mG : FuncId := 14
def io (v : List Value) : Tree :=
 .newbox fun r0 =>
 kN r0 <|
 pZ (g v 30) fun v0 =>
 pE v0 (iv 0) fun v1 =>
 .br v1 (
 .ret (iv 0) []) (
 kN r0 <|
 kN r0 <|
 pZ (g v 30) fun v2 =>
 pS v2 (iv 1) fun v3 =>
 pI 5 (g v 30) v3 fun v4 =>
 .load [] v4 5 fun l5 =>
 .newbox fun r1 =>
 kN r1 <|
 kN r1 <|
 c1 16 [g v 0,ag (G5 l5 0)] fun l6 =>
 c1 44 [g l6 0] fun l7 =>
 kN r1 <|
 pN (g l5 3) (iv (-1)) fun v8 =>
 kN r1 <|
 kV v8 <|
 kV v8 <|
 pZ (g l5 4) fun v9 =>
 kV v8 <|
 pZ (g l7 0) fun v10 =>
 kV v8 <|
 .pure [] .min2 [iv 4,v10] fun v11 =>
 kV v8 <|
 kV v8 <|
 pH v9 v11 fun v12 =>
 kV v8 <|
 pK v8 (.bool true) v12 fun v13 =>
 .br v13 (
 .ret (iv 0) []) (
 kN r1 <|
 pZ (g l5 4) fun v14 =>
 pI 1 (g l7 0) v14 fun v15 =>
 .load [] v15 1 fun l16 =>
 .ret (g l16 0) []))
theorem re (vs : List Value) : aT PP Tryz.f14 (aE okL [(81, [5, 6, 7, 8])] [] []) vs = io vs := by kernel_rfl
theorem rF {args vs} (ha : an PP Tryz.f14 args = some vs) (ho : Ones vs) {H O Q} (h : (io vs).den PP Q H O) : Triple PP mG args H O Q :=
 am mixed (ao aB _ _ _) Tryz.func14 re ha ho h
abbrev sS : FuncId := 15
def my (v : List Value) : Tree :=
 .newbox fun r0 =>
 kN r0 <|
 cS 45 [g v 0,.agg #[iv 0,g v 3,iv 0,iv 0,iv 0,iv 0,iv 0,iv 0,iv 0,.bool false,.bool false,.bool false]] (.agg 14) fun l0 =>
 .newbox fun r1 =>
 kN r1 <|
 kN r0 <|
 pE (g v 4) (iv (-1)) fun v1 =>
 .br v1 (
 kN r1 <|
 .ret (g l0 11) []) (
 kN r0 <|
 pL (g v 4) (iv 0) fun v2 =>
 kN r0 <|
 kV v2 <|
 kN r1 <|
 kV v2 <|
 kV v2 <|
 pZ (g l0 12) fun v3 =>
 kV v2 <|
 kV v2 <|
 pH (g v 4) v3 fun v4 =>
 kV v2 <|
 pK v2 (.bool true) v4 fun v5 =>
 .br v5 (
 .ret (.slice none 0 0) []) (
 kN r1 <|
 kN r0 <|
 pI 2 (g l0 12) (g v 4) fun v6 =>
 kP v6 <|
 .load [] (aS v6 1) 1 fun l7 =>
 .ret (g l7 0) []))
theorem vS (vs : List Value) : aT PP Tryz.f15 (aE okL [(81, [5, 6, 7, 8])] [] []) vs = my vs := by kernel_rfl
theorem wn {args vs} (ha : an PP Tryz.f15 args = some vs) (ho : Ones vs) {H O Q} (h : (my vs).den PP Q H O) : Triple PP sS args H O Q :=
 am mixed (ao aB _ _ _) Tryz.func15 vS ha ho h
abbrev jM : FuncId := 16
def fw (v : List Value) : Tree :=
 .newbox fun r0 =>
 kN r0 <|
 cS 46 [g v 0,.agg #[iv 0,g v 3,iv 0,iv 0,iv 0,iv 0,iv 0,iv 0,iv 0,.bool false,.bool false,.bool false]] (.agg 14) fun l0 =>
 .newbox fun r1 =>
 kN r1 <|
 kN r0 <|
 pE (g v 4) (iv (-1)) fun v1 =>
 .br v1 (
 kN r1 <|
 .ret (g l0 11) []) (
 kN r0 <|
 pL (g v 4) (iv 0) fun v2 =>
 kN r0 <|
 kV v2 <|
 kN r1 <|
 kV v2 <|
 kV v2 <|
 pZ (g l0 12) fun v3 =>
 kV v2 <|
 kV v2 <|
 pH (g v 4) v3 fun v4 =>
 kV v2 <|
 pK v2 (.bool true) v4 fun v5 =>
 .br v5 (
 .ret (.slice none 0 0) []) (
 kN r1 <|
 kN r0 <|
 pI 2 (g l0 12) (g v 4) fun v6 =>
 kP v6 <|
 .load [] (aS v6 1) 1 fun l7 =>
 .ret (g l7 0) []))
theorem nK (vs : List Value) : aT PP Tryz.f16 (aE okL [(81, [5, 6, 7, 8])] [] []) vs = fw vs := by kernel_rfl
theorem oo {args vs} (ha : an PP Tryz.f16 args = some vs) (ho : Ones vs) {H O Q} (h : (fw vs).den PP Q H O) : Triple PP jM args H O Q :=
 am mixed (ao aB _ _ _) Tryz.func16 nK ha ho h
abbrev iF : FuncId := 17
def iz (v : List Value) : Tree :=
 .newbox fun r0 =>
 .newbox fun r1 =>
 kN r0 <|
 .prim (.bi .append #[23,23] 23) [.slice none 0 0,g v 0] [] [] .one fun l0 _ =>
 kN r0 <|
 kN r0 <|
 .prim (.bi .append #[26,26] 26) [.slice none 0 0,g v 6] [] [] .one fun l1 _ =>
 kN r0 <|
 kN r0 <|
 .prim (.bi .append #[26,26] 26) [.slice none 0 0,g v 7] [] [] .one fun l2 _ =>
 kN r0 <|
 kN r0 <|
 .prim (.bi .append #[26,26] 26) [.slice none 0 0,g v 8] [] [] .one fun l3 _ =>
 kN r0 <|
 kN r0 <|
 .prim (.bi .append #[26,26] 26) [.slice none 0 0,g v 9] [] [] .one fun l4 _ =>
 kN r0 <|
 kN r0 <|
 .prim (.bi .append #[26,26] 26) [.slice none 0 0,g v 20] [] [] .one fun l5 _ =>
 kN r0 <|
 kN r0 <|
 .prim (.bi .append #[26,26] 26) [.slice none 0 0,g v 21] [] [] .one fun l6 _ =>
 kN r0 <|
 kN r0 <|
 .prim (.bi .append #[26,26] 26) [.slice none 0 0,g v 22] [] [] .one fun l7 _ =>
 kN r0 <|
 kN r0 <|
 .prim (.bi .append #[26,26] 26) [.slice none 0 0,g v 23] [] [] .one fun l8 _ =>
 kN r0 <|
 kN r0 <|
 kN r0 <|
 c1 47 [g v 29] fun l9 =>
 c1 47 [g v 30] fun l10 =>
 kN r0 <|
 kN r0 <|
 kN r0 <|
 .prim (.bi .append #[26,26] 26) [.slice none 0 0,g v 31] [] [] .one fun l11 _ =>
 kN r0 <|
 kN r0 <|
 .prim (.bi .append #[31,31] 31) [.slice none 0 0,g v 32] [] [] .one fun l12 _ =>
 kN r0 <|
 kN r0 <|
 kN r1 <|
 kN r1 <|
 .ret (ag ((g l0 0)::(G5 v 1 ++ ((g l1 0)::((g l2 0)::((g l3 0)::((g l4 0)::(G10 v 10 ++ ((g l5 0)::((g l6 0)::((g l7 0)::((g l8 0)::(G5 v 24 ++ ((g l9 0)::((g l10 0)::((g l11 0)::((g l12 0)::G5 v 33))))))))))))))))) []
theorem rn (vs : List Value) : aT PP Tryz.f17 (aE okL [(81, [5, 6, 7, 8])] [(3, .unroll 3)] []) vs = iz vs := by kernel_rfl
theorem rN {args vs} (ha : an PP Tryz.f17 args = some vs) (ho : Ones vs) {H O Q} (h : (iz vs).den PP Q H O) : Triple PP iF args H O Q :=
 am mixed (ao aB _ _ _) Tryz.func17 rn ha ho h
abbrev xK : FuncId := 18
def tU (r1011 : Nat) (i1012 : Int) : Tree :=
 kN r1011 <|
 kN r1011 <|
 .ret (.tuple #[ag Z0,iv i1012]) []
def tV (r1001 : Nat) (l1002 l1003 : List Value) (r1004 : Nat) (l1005 : List Value) (r1006 : Nat) (l1007 : List Value) (n1008 : Nat) (l1009 : List Value) (n1010 : Nat) : Tree :=
 kN r1001 <|
 kN r1001 <|
 cS 52 [g l1002 0,g l1003 38,.func (.func 53) #[] #[]] (.tup [none,none]) fun l11 =>
 kN r1001 <|
 kN r1004 <|
 cS 54 [ag (G12 l1005 0),iv 4] (.agg 12) fun l12 =>
 pI 12 (g l1002 0) (g l11 0) fun v13 =>
 kP v13 <|
 .store v13 (G12 l12 0) <|
 kN r1001 <|
 kN r1004 <|
 kN r1004 <|
 .newbox fun r5 =>
 .prim (.bi .append #[30,30] 30) [g l1002 29,.slice (some ⟨r5,0,none⟩) 1 1] [⟨r5,41,[g l1005 2,g l1003 38,g l1005 1,iv (-1),.slice none 0 0]⟩] [] .one fun l14 _ =>
 kN r1001 <|
 kN r1001 <|
 kN r1006 <|
 kN r1006 <|
 .ret (.tuple #[ag (G7 l1002 0 ++ ((g l1007 n1008)::(G13 l1002 8 ++ ((g l1009 n1010)::(G7 l1002 22 ++ ((g l14 0)::G8 l1002 30)))))),iv 0]) []
def sK (v : List Value) : Tree :=
 .newbox fun r0 =>
 .newbox fun r1 =>
 kN r0 <|
 cS 48 [ag (G38 v 0),g v 38] (.tup [some 3,none]) fun l0 =>
 .newbox fun r2 =>
 kN r2 <|
 pN (g l0 3) (iv 0) fun v1 =>
 .br v1 (
 kN r1 <|
 kN r1 <|
 .ret (.tuple #[ag Z0,g l0 3]) []) (
 kN r0 <|
 cS 49 [ag (G38 v 0),g v 38] (.tup [some 12,none]) fun l2 =>
 .newbox fun r3 =>
 kN r3 <|
 kN r2 <|
 pN (g l0 1) (iv 1) fun v3 =>
 kN r3 <|
 kV v3 <|
 kV v3 <|
 pL (g l2 1) (iv 0) fun v4 =>
 kV v3 <|
 pK v3 (.bool true) v4 fun v5 =>
 .br v5 (
 tU r1 8) (
 kN r0 <|
 pZ (g v 29) fun v6 =>
 pH v6 (iv 200) fun v7 =>
 .br v7 (
 tU r1 7) (
 kN r0 <|
 cS 50 [ag (G38 v 0)] (.agg 38) fun l8 =>
 .newbox fun r4 =>
 kN r4 <|
 kN r3 <|
 .sw (g l2 2) 0 (
 kN r4 <|
 kN r2 <|
 kN r2 <|
 pA (g l0 2) (iv 1) fun v9 =>
 c1 51 [g l8 7,g l0 2,v9] fun l10 =>
 tV r4 l8 v r3 l2 r1 l10 0 l8 21) (
 .sw (g l2 2) 1 (
 kN r4 <|
 kN r2 <|
 kN r2 <|
 pA (g l0 2) (iv 1) fun v15 =>
 c1 51 [g l8 21,g l0 2,v15] fun l16 =>
 tV r4 l8 v r3 l2 r1 l8 7 l16 0) (
 .stuck 901)))))
theorem AD (vs : List Value) : aT PP Tryz.f18 (aE okL [(81, [5, 6, 7, 8])] [] []) vs = sK vs := by kernel_rfl
theorem AQ {args vs} (ha : an PP Tryz.f18 args = some vs) (ho : Ones vs) {H O Q} (h : (sK vs).den PP Q H O) : Triple PP xK args H O Q :=
 am mixed (ao aB _ _ _) Tryz.func18 AD ha ho h
abbrev sR : FuncId := 19
def tS (r1010 : Nat) (i1011 : Int) : Tree :=
 kN r1010 <|
 kN r1010 <|
 .ret (.tuple #[ag Z0,iv i1011]) []
def tT (r1001 : Nat) (v1002 : Value) (l1003 : List Value) (r1004 r1005 : Nat) : Tree :=
 kN r1001 <|
 kV v1002 <|
 kV v1002 <|
 pZ (g l1003 42) fun v8 =>
 kV v1002 <|
 pG v8 (iv 0) fun v9 =>
 kV v1002 <|
 pK v1002 (.bool true) v9 fun v10 =>
 .br v10 (
 tS r1004 2) (
 kN r1005 <|
 pZ (g l1003 29) fun v11 =>
 pH v11 (iv 200) fun v12 =>
 .br v12 (
 tS r1004 7) (
 kN r1005 <|
 cS 50 [ag (G38 l1003 0)] (.agg 38) fun l13 =>
 .newbox fun r3 =>
 kN r3 <|
 kN r3 <|
 kN r1001 <|
 .newbox fun r4 =>
 .prim (.bi .append #[30,30] 30) [g l13 29,.slice (some ⟨r4,0,none⟩) 1 1] [⟨r4,41,(G5 l1003 38)⟩] [] .one fun l14 _ =>
 kN r3 <|
 kN r3 <|
 kN r1004 <|
 kN r1004 <|
 .ret (.tuple #[ag (G29 l13 0 ++ ((g l14 0)::G8 l13 30)),iv 0]) []))
def od (r1006 : Nat) (l1007 : List Value) (r1008 r1009 : Nat) : Tree :=
 kN r1006 <|
 c1 42 [ag (G38 l1007 0)] fun l15 =>
 pO (g l15 0) fun v16 =>
 kV v16 <|
 kV v16 <|
 pK v16 (.bool true) (.bool true) fun v17 =>
 tT r1008 v17 l1007 r1009 r1006
def nq (v : List Value) : Tree :=
 .newbox fun r0 =>
 .newbox fun r1 =>
 .newbox fun r2 =>
 kN r1 <|
 c1 55 [g v 38,iv 0,iv 1] fun l0 =>
 .br (g l0 0) (
 kN r1 <|
 c1 55 [g v 39,iv 1,iv 500] fun l1 =>
 .br (g l1 0) (
 kN r1 <|
 c1 55 [g v 40,iv 0,iv 399] fun l2 =>
 .br (g l2 0) (
 kN r1 <|
 c1 55 [g v 41,iv 0,iv 1] fun l3 =>
 kN r0 <|
 c1 42 [ag (G38 v 0)] fun l4 =>
 pO (g l4 0) fun v5 =>
 kV v5 <|
 pO (g l3 0) fun v6 =>
 kV v5 <|
 pK v5 (.bool true) v6 fun v7 =>
 tT r1 v7 v r2 r0) (
 od r0 v r1 r2)) (
 od r0 v r1 r2)) (
 od r0 v r1 r2)
theorem AB (vs : List Value) : aT PP Tryz.f19 (aE okL [(81, [5, 6, 7, 8])] [] []) vs = nq vs := by kernel_rfl
theorem tL {args vs} (ha : an PP Tryz.f19 args = some vs) (ho : Ones vs) {H O Q} (h : (nq vs).den PP Q H O) : Triple PP sR args H O Q :=
 am mixed (ao aB _ _ _) Tryz.func19 AB ha ho h
abbrev AK : FuncId := 20
def qv (r1001 : Nat) (i1002 : Int) : Tree :=
 kN r1001 <|
 kN r1001 <|
 .ret (.tuple #[ag Z0,iv i1002]) []
def uG (v : List Value) : Tree :=
 .newbox fun r0 =>
 .newbox fun r1 =>
 .newbox fun r2 =>
 kN r0 <|
 c1 42 [ag (G38 v 1)] fun l0 =>
 pO (g l0 0) fun v1 =>
 .br v1 (
 qv r2 2) (
 kN r0 <|
 c1 13 [g v 0,ag (G38 v 1)] fun l2 =>
 pE (g l2 0) (iv 0) fun v3 =>
 .br v3 (
 qv r2 8) (
 kN r0 <|
 kN r0 <|
 kN r0 <|
 pZ (g v 30) fun v4 =>
 pS v4 (iv 1) fun v5 =>
 pI 5 (g v 30) v5 fun v6 =>
 kP v6 <|
 .load [] v6 1 fun l7 =>
 kN r1 <|
 c1 56 [g v 0,ag (G38 v 1),g l7 0,g l2 0,.agg #[g v 39,g v 40]] fun l8 =>
 pO (g l8 0) fun v9 =>
 .br v9 (
 qv r2 14) (
 kN r0 <|
 cS 50 [ag (G38 v 1)] (.agg 38) fun l10 =>
 .newbox fun r3 =>
 kN r3 <|
 kN r3 <|
 kN r3 <|
 pZ (g l10 29) fun v11 =>
 pS v11 (iv 1) fun v12 =>
 pI 5 (g l10 29) v12 fun v13 =>
 kP v13 <|
 kP v13 <|
 .load [] (aS v13 4) 1 fun l14 =>
 kN r1 <|
 .newbox fun r4 =>
 .prim (.bi .append #[39,39] 39) [g l14 0,.slice (some ⟨r4,0,none⟩) 1 1] [⟨r4,43,[g v 39,g v 40]⟩] [] .one fun l15 _ =>
 kP v13 <|
 kP v13 <|
 kP (aS v13 4) <|
 .store (aS v13 4) [g l15 0] <|
 kN r3 <|
 kN r2 <|
 kN r2 <|
 .ret (.tuple #[ag (G38 l10 0),iv 0]) [])))
theorem Bo (vs : List Value) : aT PP Tryz.f20 (aE okL [(81, [5, 6, 7, 8])] [] []) vs = uG vs := by kernel_rfl
theorem CA {args vs} (ha : an PP Tryz.f20 args = some vs) (ho : Ones vs) {H O Q} (h : (uG vs).den PP Q H O) : Triple PP AK args H O Q :=
 am mixed (ao aB _ _ _) Tryz.func20 Bo ha ho h
abbrev uL : FuncId := 21
def vY (r1001 r1002 : Nat) (i1003 : Int) : Tree :=
 kN r1001 <|
 kN r1002 <|
 kN r1001 <|
 kN r1002 <|
 .ret (.tuple #[ag Z0,.agg #[iv 0,iv 0,iv 0,iv 0,.slice none 0 0],iv i1003]) []
def qh (v : List Value) : Tree :=
 .newbox fun r0 =>
 .newbox fun r1 =>
 .newbox fun r2 =>
 kN r0 <|
 c1 42 [ag (G38 v 0)] fun l0 =>
 pO (g l0 0) fun v1 =>
 .br v1 (
 vY r1 r2 2) (
 kN r0 <|
 pZ (g v 29) fun v2 =>
 pE v2 (iv 0) fun v3 =>
 .br v3 (
 vY r1 r2 9) (
 kN r0 <|
 cS 50 [ag (G38 v 0)] (.agg 38) fun l4 =>
 .newbox fun r3 =>
 kN r3 <|
 kN r3 <|
 pS v2 (iv 1) fun v5 =>
 pI 5 (g l4 29) v5 fun v6 =>
 .load [] v6 5 fun l7 =>
 .newbox fun r4 =>
 kN r4 <|
 kN r4 <|
 pE (g l7 3) (iv (-1)) fun v8 =>
 .br v8 (
 kN r0 <|
 kN r4 <|
 cS 57 [ag (G38 v 0),g l7 1,iv 3] (.tup [some 38,none]) fun l9 =>
 kN r3 <|
 kN r3 <|
 kN r4 <|
 kN r1 <|
 kN r2 <|
 kN r1 <|
 kN r2 <|
 .ret (.tuple #[ag (G38 l9 0),ag (G5 l7 0),iv 0]) []) (
 kN r3 <|
 pS v2 (iv 1) fun v10 =>
 .pure [] (.slc 5 false true false) [g l4 29,v10] fun v11 =>
 kN r3 <|
 kN r3 <|
 kN r4 <|
 kN r1 <|
 kN r2 <|
 kN r1 <|
 kN r2 <|
 .ret (.tuple #[ag (G29 l4 0 ++ (v11::G8 l4 30)),ag (G5 l7 0),iv 0]) [])))
theorem Bn (vs : List Value) : aT PP Tryz.f21 (aE okL [(81, [5, 6, 7, 8])] [] []) vs = qh vs := by kernel_rfl
theorem u3 {args vs} (ha : an PP Tryz.f21 args = some vs) (ho : Ones vs) {H O Q} (h : (qh vs).den PP Q H O) : Triple PP uL args H O Q :=
 am mixed (ao aB _ _ _) Tryz.func21 Bn ha ho h
abbrev sT : FuncId := 22
def mz (v : List Value) : Tree :=
 .newbox fun r0 =>
 .newbox fun r1 =>
 kN r0 <|
 cS 48 [ag (G38 v 0),g v 38] (.tup [some 3,none]) fun l0 =>
 .newbox fun r2 =>
 kN r2 <|
 pE (g l0 3) (iv 2) fun v1 =>
 .br v1 (
 kN r1 <|
 kN r1 <|
 .ret (.tuple #[ag Z0,g l0 3]) []) (
 pN (g l0 3) (iv 0) fun v2 =>
 kN r2 <|
 kV v2 <|
 kV v2 <|
 pN (g l0 1) (iv 4) fun v3 =>
 kV v2 <|
 pK v2 (.bool true) v3 fun v4 =>
 .br v4 (
 kN r1 <|
 kN r1 <|
 .ret (.tuple #[ag Z0,iv 9]) []) (
 kN r0 <|
 cS 57 [ag (G38 v 0),g v 38,iv 3] (.tup [some 38,none]) fun l5 =>
 kN r1 <|
 kN r1 <|
 .ret (.tuple #[ag (G38 l5 0),g l5 38]) []))
theorem vT (vs : List Value) : aT PP Tryz.f22 (aE okL [(81, [5, 6, 7, 8])] [] []) vs = mz vs := by kernel_rfl
theorem wo {args vs} (ha : an PP Tryz.f22 args = some vs) (ho : Ones vs) {H O Q} (h : (mz vs).den PP Q H O) : Triple PP sT args H O Q :=
 am mixed (ao aB _ _ _) Tryz.func22 vT ha ho h
abbrev lC : FuncId := 23
def gW (v : List Value) : Tree :=
 .newbox fun r0 =>
 .newbox fun r1 =>
 .newbox fun r2 =>
 .newbox fun r3 =>
 kN r0 <|
 kN r1 <|
 c1 27 [ag (G38 v 0),ag (G38 v 39)] fun l0 =>
 kV (g l0 0) <|
 kV (g l0 0) <|
 pE (g v 38) (g v 77) fun v1 =>
 kV (g l0 0) <|
 pK (g l0 0) v1 (.bool false) fun v2 =>
 .br v2 (
 kN r2 <|
 kN r3 <|
 c1 27 [ag (G38 v 78),ag (G38 v 116)] fun l3 =>
 kN r0 <|
 cS 58 [ag (G38 v 0)] (.tup []) fun l4 =>
 .br (g l3 0) (
 kN r2 <|
 kN r3 <|
 c1 27 [ag (G38 v 78),ag (G38 v 116)] fun l5 =>
 .ret (g l5 0) []) (
 .ret (.bool false) [])) (
 kN r0 <|
 cS 58 [ag (G38 v 0)] (.tup []) fun l6 =>
 .ret (.bool false) [])
theorem qf (vs : List Value) : aT PP Tryz.f23 (aE okL [(81, [5, 6, 7, 8])] [] []) vs = gW vs := by kernel_rfl
theorem qV {args vs} (ha : an PP Tryz.f23 args = some vs) (ho : Ones vs) {H O Q} (h : (gW vs).den PP Q H O) : Triple PP lC args H O Q :=
 am mixed (ao aB _ _ _) Tryz.func23 qf ha ho h
abbrev jA : FuncId := 24
def eP (v : List Value) : Tree :=
 .newbox fun r0 =>
 .newbox fun r1 =>
 kN r0 <|
 kN r1 <|
 pN (g v 0) (g v 5) fun v0 =>
 kN r0 <|
 kV v0 <|
 kN r1 <|
 kV v0 <|
 kV v0 <|
 kV v0 <|
 pN (g v 1) (g v 6) fun v1 =>
 kV v0 <|
 pK v0 (.bool true) v1 fun v2 =>
 kN r0 <|
 kV v2 <|
 kN r1 <|
 kV v2 <|
 kV v2 <|
 kV v2 <|
 pN (g v 2) (g v 7) fun v3 =>
 kV v2 <|
 pK v2 (.bool true) v3 fun v4 =>
 kN r0 <|
 kV v4 <|
 kN r1 <|
 kV v4 <|
 kV v4 <|
 kV v4 <|
 pN (g v 3) (g v 8) fun v5 =>
 kV v4 <|
 pK v4 (.bool true) v5 fun v6 =>
 kN r0 <|
 kV v6 <|
 kV v6 <|
 pZ (g v 4) fun v7 =>
 kN r1 <|
 kV v6 <|
 kV v6 <|
 pZ (g v 9) fun v8 =>
 kV v6 <|
 kV v6 <|
 pN v7 v8 fun v9 =>
 kV v6 <|
 pK v6 (.bool true) v9 fun v10 =>
 .br v10 (
 .ret (.bool false) []) (
 .loop 39 4 [iv 0] fun C39 l11 =>
 kN r0 <|
 pZ (g v 4) fun v12 =>
 pL (g l11 0) v12 fun v13 =>
 .br v13 (
 kN r0 <|
 pI 2 (g v 4) (g l11 0) fun v14 =>
 .load [] v14 2 fun l15 =>
 kN r1 <|
 pI 2 (g v 9) (g l11 0) fun v16 =>
 .load [] v16 2 fun l17 =>
 .raw [] (.eqv .neq 43 false) [.agg #[g l15 0,g l15 1],.agg #[g l17 0,g l17 1]] fun v18 =>
 .br v18 (
 .ret (.bool false) []) (
 pA (g l11 0) (iv 1) fun v19 =>
 .cont 39 C39 [v19] (Es [[pt r0 0],[pt r1 0],((pt r0 0)::G5 v 0),((pt r1 0)::G5 v 5)]))) (
 .ret (.bool true) []))
theorem mR (vs : List Value) : aT PP Tryz.f24 (aE okL [(81, [5, 6, 7, 8])] [(4, .inv [5] [2, 3] [(2, []), (3, [])])] []) vs = eP vs := by kernel_rfl
theorem nz {args vs} (ha : an PP Tryz.f24 args = some vs) (ho : Ones vs) {H O Q} (h : (eP vs).den PP Q H O) : Triple PP jA args H O Q :=
 am mixed (ao aB _ _ _) Tryz.func24 mR ha ho h
abbrev iE : FuncId := 26
def iw (v : List Value) : Tree :=
 .newbox fun r0 =>
 .newbox fun r1 =>
 kN r0 <|
 kN r0 <|
 c1 28 [ag (G38 v 0),g v 38] fun l0 =>
 pI 12 (g v 0) (g l0 0) fun v1 =>
 .load [] v1 12 fun l2 =>
 cS 59 [ag (G12 l2 0),g v 39] (.agg 12) fun l3 =>
 .newbox fun r2 =>
 kN r2 <|
 kN r0 <|
 kN r2 <|
 kN r2 <|
 cS 62 [ag (G38 v 0),g v 38] (.agg 38) fun l4 =>
 cS 61 [ag (G38 l4 0),ag (G12 l3 0)] (.agg 38) fun l5 =>
 cS 60 [ag (G38 l5 0),ag (G12 l3 0),g v 39] (.agg 38) fun l6 =>
 kN r1 <|
 kN r1 <|
 .ret (ag (G38 l6 0)) []
theorem rk (vs : List Value) : aT PP Tryz.f26 (aE okL [(81, [5, 6, 7, 8])] [] []) vs = iw vs := by kernel_rfl
theorem rK {args vs} (ha : an PP Tryz.f26 args = some vs) (ho : Ones vs) {H O Q} (h : (iw vs).den PP Q H O) : Triple PP iE args H O Q :=
 am mixed (ao aB _ _ _) Tryz.func26 rk ha ho h
abbrev mJ : FuncId := 27
def kw (v1001 : Value) (l1002 : List Value) (n1003 : Nat) (C1004 : List Value → Heap → Own → Prop) (r1005 r1006 : Nat) (l1007 : List Value) : Tree :=
 .br v1001 (
 .ret (.bool false) []) (
 pA (g l1002 0) (iv 1) fun v31 =>
 .cont n1003 C1004 [v31] (Es [[pt r1005 0],[pt r1006 0],((pt r1005 0)::G38 l1007 0),((pt r1006 0)::G38 l1007 38)]))
def iu (v : List Value) : Tree :=
 .newbox fun r0 =>
 .newbox fun r1 =>
 kN r0 <|
 pZ (g v 0) fun v0 =>
 kN r1 <|
 pZ (g v 38) fun v1 =>
 pN v0 v1 fun v2 =>
 .br v2 (
 .ret (.bool false) []) (
 kN r0 <|
 kN r1 <|
 c1 63 [g v 29,g v 67] fun l3 =>
 pO (g l3 0) fun v4 =>
 .br v4 (
 .ret (.bool false) []) (
 kN r0 <|
 kN r1 <|
 c1 63 [g v 30,g v 68] fun l5 =>
 pO (g l5 0) fun v6 =>
 .br v6 (
 .ret (.bool false) []) (
 kN r0 <|
 kN r1 <|
 c1 36 [g v 31,g v 69] fun l7 =>
 pO (g l7 0) fun v8 =>
 kN r0 <|
 kV v8 <|
 kV v8 <|
 pZ (g v 32) fun v9 =>
 kN r1 <|
 kV v8 <|
 kV v8 <|
 pZ (g v 70) fun v10 =>
 kV v8 <|
 kV v8 <|
 pN v9 v10 fun v11 =>
 kV v8 <|
 pK v8 (.bool true) v11 fun v12 =>
 kN r0 <|
 kV v12 <|
 kN r1 <|
 kV v12 <|
 kV v12 <|
 kV v12 <|
 pN (g v 33) (g v 71) fun v13 =>
 kV v12 <|
 pK v12 (.bool true) v13 fun v14 =>
 kN r0 <|
 kV v14 <|
 kN r1 <|
 kV v14 <|
 kV v14 <|
 kV v14 <|
 pN (g v 34) (g v 72) fun v15 =>
 kV v14 <|
 pK v14 (.bool true) v15 fun v16 =>
 kN r0 <|
 kV v16 <|
 kN r1 <|
 kV v16 <|
 kV v16 <|
 kV v16 <|
 pN (g v 35) (g v 73) fun v17 =>
 kV v16 <|
 pK v16 (.bool true) v17 fun v18 =>
 kN r0 <|
 kV v18 <|
 kN r1 <|
 kV v18 <|
 kV v18 <|
 kV v18 <|
 pN (g v 36) (g v 74) fun v19 =>
 kV v18 <|
 pK v18 (.bool true) v19 fun v20 =>
 kN r0 <|
 kV v20 <|
 kN r1 <|
 kV v20 <|
 kV v20 <|
 kV v20 <|
 pN (g v 37) (g v 75) fun v21 =>
 kV v20 <|
 pK v20 (.bool true) v21 fun v22 =>
 .br v22 (
 .ret (.bool false) []) (
 .loop 79 4 [iv 0] fun C79 l23 =>
 kN r0 <|
 pZ (g v 0) fun v24 =>
 pL (g l23 0) v24 fun v25 =>
 .br v25 (
 kN r0 <|
 pI 12 (g v 0) (g l23 0) fun v26 =>
 .load [] v26 12 fun l27 =>
 kN r1 <|
 pI 12 (g v 38) (g l23 0) fun v28 =>
 .load [] v28 12 fun l29 =>
 .raw [] (.eqv .neq 76 false) [ag (G12 l27 0),ag (G12 l29 0)] fun v30 =>
 kw v30 l23 79 C79 r0 r1 v) (
 .loop 86 9 [iv 0] fun C86 l32 =>
 kN r0 <|
 pZ (g v 32) fun v33 =>
 pL (g l32 0) v33 fun v34 =>
 .br v34 (
 kN r0 <|
 pI 2 (g v 32) (g l32 0) fun v35 =>
 .load [] v35 2 fun l36 =>
 kN r1 <|
 pI 2 (g v 70) (g l32 0) fun v37 =>
 .load [] v37 2 fun l38 =>
 .raw [] (.eqv .neq 123 false) [.agg #[g l36 0,g l36 1],.agg #[g l38 0,g l38 1]] fun v39 =>
 kw v39 l32 86 C86 r0 r1 v) (
 kN r0 <|
 kN r1 <|
 .newbox fun r2 =>
 .newbox fun r3 =>
 kN r2 <|
 kN r3 <|
 kN r2 <|
 kN r3 <|
 pN (g v 1) (g v 39) fun v41 =>
 kN r2 <|
 kV v41 <|
 kN r3 <|
 kV v41 <|
 kV v41 <|
 kV v41 <|
 .raw [(v41,false)] (.eqv .neq 25 false) [ag (G4 v 2),ag (G4 v 40)] fun v42 =>
 kV v41 <|
 pK v41 (.bool true) v42 fun v43 =>
 kN r2 <|
 kV v43 <|
 kN r3 <|
 kV v43 <|
 kV v43 <|
 kV v43 <|
 .pure [] (.bin .neq .bool) [g v 10,g v 48] fun v44 =>
 kV v43 <|
 pK v43 (.bool true) v44 fun v45 =>
 kN r2 <|
 kV v45 <|
 kN r3 <|
 kV v45 <|
 kV v45 <|
 kV v45 <|
 .pure [] (.bin .neq .bool) [g v 11,g v 49] fun v46 =>
 kV v45 <|
 pK v45 (.bool true) v46 fun v47 =>
 kN r2 <|
 kV v47 <|
 kN r3 <|
 kV v47 <|
 kV v47 <|
 kV v47 <|
 .pure [] (.bin .neq .bool) [g v 12,g v 50] fun v48 =>
 kV v47 <|
 pK v47 (.bool true) v48 fun v49 =>
 kN r2 <|
 kV v49 <|
 kN r3 <|
 kV v49 <|
 kV v49 <|
 kV v49 <|
 pN (g v 13) (g v 51) fun v50 =>
 kV v49 <|
 pK v49 (.bool true) v50 fun v51 =>
 kN r2 <|
 kV v51 <|
 kN r3 <|
 kV v51 <|
 kV v51 <|
 kV v51 <|
 pN (g v 14) (g v 52) fun v52 =>
 kV v51 <|
 pK v51 (.bool true) v52 fun v53 =>
 .br v53 (
 .ret (.bool false) []) (
 kN r2 <|
 kN r3 <|
 cS 30 [ag (G14 v 1)] (.agg 4) fun l54 =>
 cS 30 [ag (G14 v 39)] (.agg 4) fun l55 =>
 .newbox fun r4 =>
 .newbox fun r5 =>
 kN r4 <|
 kN r5 <|
 kN r4 <|
 kN r5 <|
 c1 36 [g l54 0,g l55 0] fun l56 =>
 pO (g l56 0) fun v57 =>
 .br v57 (
 .ret (.bool false) []) (
 kN r4 <|
 kN r5 <|
 c1 36 [g l54 1,g l55 1] fun l58 =>
 pO (g l58 0) fun v59 =>
 .br v59 (
 .ret (.bool false) []) (
 kN r4 <|
 kN r5 <|
 c1 36 [g l54 2,g l55 2] fun l60 =>
 pO (g l60 0) fun v61 =>
 .br v61 (
 .ret (.bool false) []) (
 kN r4 <|
 kN r5 <|
 c1 36 [g l54 3,g l55 3] fun l62 =>
 pO (g l62 0) fun v63 =>
 .br v63 (
 .ret (.bool false) []) (
 kN r0 <|
 kN r1 <|
 .newbox fun r6 =>
 .newbox fun r7 =>
 kN r6 <|
 kN r7 <|
 kN r6 <|
 kN r7 <|
 pN (g v 15) (g v 53) fun v64 =>
 kN r6 <|
 kV v64 <|
 kN r7 <|
 kV v64 <|
 kV v64 <|
 kV v64 <|
 .raw [(v64,false)] (.eqv .neq 25 false) [ag (G4 v 16),ag (G4 v 54)] fun v65 =>
 kV v64 <|
 pK v64 (.bool true) v65 fun v66 =>
 kN r6 <|
 kV v66 <|
 kN r7 <|
 kV v66 <|
 kV v66 <|
 kV v66 <|
 .pure [] (.bin .neq .bool) [g v 24,g v 62] fun v67 =>
 kV v66 <|
 pK v66 (.bool true) v67 fun v68 =>
 kN r6 <|
 kV v68 <|
 kN r7 <|
 kV v68 <|
 kV v68 <|
 kV v68 <|
 .pure [] (.bin .neq .bool) [g v 25,g v 63] fun v69 =>
 kV v68 <|
 pK v68 (.bool true) v69 fun v70 =>
 kN r6 <|
 kV v70 <|
 kN r7 <|
 kV v70 <|
 kV v70 <|
 kV v70 <|
 .pure [] (.bin .neq .bool) [g v 26,g v 64] fun v71 =>
 kV v70 <|
 pK v70 (.bool true) v71 fun v72 =>
 kN r6 <|
 kV v72 <|
 kN r7 <|
 kV v72 <|
 kV v72 <|
 kV v72 <|
 pN (g v 27) (g v 65) fun v73 =>
 kV v72 <|
 pK v72 (.bool true) v73 fun v74 =>
 kN r6 <|
 kV v74 <|
 kN r7 <|
 kV v74 <|
 kV v74 <|
 kV v74 <|
 pN (g v 28) (g v 66) fun v75 =>
 kV v74 <|
 pK v74 (.bool true) v75 fun v76 =>
 .br v76 (
 .ret (.bool false) []) (
 kN r6 <|
 kN r7 <|
 cS 30 [ag (G14 v 15)] (.agg 4) fun l77 =>
 cS 30 [ag (G14 v 53)] (.agg 4) fun l78 =>
 .newbox fun r8 =>
 .newbox fun r9 =>
 kN r8 <|
 kN r9 <|
 kN r8 <|
 kN r9 <|
 c1 36 [g l77 0,g l78 0] fun l79 =>
 pO (g l79 0) fun v80 =>
 .br v80 (
 .ret (.bool false) []) (
 kN r8 <|
 kN r9 <|
 c1 36 [g l77 1,g l78 1] fun l81 =>
 pO (g l81 0) fun v82 =>
 .br v82 (
 .ret (.bool false) []) (
 kN r8 <|
 kN r9 <|
 c1 36 [g l77 2,g l78 2] fun l83 =>
 pO (g l83 0) fun v84 =>
 .br v84 (
 .ret (.bool false) []) (
 kN r8 <|
 kN r9 <|
 c1 36 [g l77 3,g l78 3] fun l85 =>
 pO (g l85 0) fun v86 =>
 .br v86 (
 .ret (.bool false) []) (
 .ret (.bool true) []))))))))))))))))
theorem rj (vs : List Value) : aT PP Tryz.f27 (aE okL [(81, [5, 6, 7, 8])] [(14, .unroll 3), (21, .unroll 5), (4, .inv [5] [2, 3] [(2, []), (3, [])]), (9, .inv [6] [2, 3] [(2, []), (3, [])])] []) vs = iu vs := by kernel_rfl
theorem rJ {args vs} (ha : an PP Tryz.f27 args = some vs) (ho : Ones vs) {H O Q} (h : (iu vs).den PP Q H O) : Triple PP mJ args H O Q :=
 am mixed (ao aB _ _ _) Tryz.func27 rj ha ho h
abbrev ll : FuncId := 28
def gO (v : List Value) : Tree :=
 .newbox fun r0 =>
 .loop 3 2 [iv 0] fun C3 l0 =>
 kN r0 <|
 pZ (g v 0) fun v1 =>
 pL (g l0 0) v1 fun v2 =>
 .br v2 (
 kN r0 <|
 pI 12 (g v 0) (g l0 0) fun v3 =>
 kP v3 <|
 .load [] v3 1 fun l4 =>
 pE (g l4 0) (g v 38) fun v5 =>
 .br v5 (
 .ret (g l0 0) []) (
 pA (g l0 0) (iv 1) fun v6 =>
 .cont 3 C3 [v6] (Es [[g v 38],[pt r0 0],((pt r0 0)::G38 v 0)]))) (
 .ret (iv (-1)) [])
theorem pW (vs : List Value) : aT PP Tryz.f28 (aE okL [(81, [5, 6, 7, 8])] [(2, .inv [5] [1, 2] [(2, [])])] []) vs = gO vs := by kernel_rfl
theorem qN {args vs} (ha : an PP Tryz.f28 args = some vs) (ho : Ones vs) {H O Q} (h : (gO vs).den PP Q H O) : Triple PP ll args H O Q :=
 am mixed (ao aB _ _ _) Tryz.func28 pW ha ho h
abbrev jL : FuncId := 29
def fu (v : List Value) : Tree :=
 .newbox fun r0 =>
 kN r0 <|
 c1 14 [g v 0,ag (G38 v 1)] fun l0 =>
 pE (g l0 0) (iv 0) fun v1 =>
 .br v1 (
 .ret (.slice none 0 0) []) (
 kN r0 <|
 kN r0 <|
 kN r0 <|
 pZ (g v 30) fun v2 =>
 pS v2 (iv 1) fun v3 =>
 pI 5 (g v 30) v3 fun v4 =>
 kP v4 <|
 .load [] v4 1 fun l5 =>
 c1 64 [g v 0,ag (G38 v 1),g l5 0,g l0 0] fun l6 =>
 .ret (g l6 0) [])
theorem nJ (vs : List Value) : aT PP Tryz.f29 (aE okL [(81, [5, 6, 7, 8])] [] []) vs = fu vs := by kernel_rfl
theorem om {args vs} (ha : an PP Tryz.f29 args = some vs) (ho : Ones vs) {H O Q} (h : (fu vs).den PP Q H O) : Triple PP jL args H O Q :=
 am mixed (ao aB _ _ _) Tryz.func29 nJ ha ho h
abbrev li : FuncId := 30
def gL (v : List Value) : Tree :=
 .newbox fun r0 =>
 .newbox fun r1 =>
 kN r0 <|
 kN r0 <|
 kN r0 <|
 kN r0 <|
 kN r1 <|
 kN r1 <|
 .ret (ag (G4 v 5)) []
theorem pT (vs : List Value) : aT PP Tryz.f30 (aE okL [(81, [5, 6, 7, 8])] [] []) vs = gL vs := by kernel_rfl
theorem qK {args vs} (ha : an PP Tryz.f30 args = some vs) (ho : Ones vs) {H O Q} (h : (gL vs).den PP Q H O) : Triple PP li args H O Q :=
 am mixed (ao aB _ _ _) Tryz.func30 pT ha ho h
abbrev mK : FuncId := 31
def ix (v : List Value) : Tree :=
 .newbox fun r0 =>
 kN r0 <|
 pL (g v 0) (iv 0) fun v0 =>
 kN r0 <|
 kV v0 <|
 kV v0 <|
 pG (g v 0) (iv 1) fun v1 =>
 kV v0 <|
 pK v0 (.bool true) v1 fun v2 =>
 kN r0 <|
 kV v2 <|
 kV v2 <|
 pL (g v 1) (iv 1) fun v3 =>
 kV v2 <|
 pK v2 (.bool true) v3 fun v4 =>
 kN r0 <|
 kV v4 <|
 kV v4 <|
 pG (g v 1) (iv 500) fun v5 =>
 kV v4 <|
 pK v4 (.bool true) v5 fun v6 =>
 kN r0 <|
 kV v6 <|
 kV v6 <|
 pL (g v 2) (iv 0) fun v7 =>
 kV v6 <|
 pK v6 (.bool true) v7 fun v8 =>
 kN r0 <|
 kV v8 <|
 kV v8 <|
 pG (g v 2) (iv 399) fun v9 =>
 kV v8 <|
 pK v8 (.bool true) v9 fun v10 =>
 kN r0 <|
 kV v10 <|
 kV v10 <|
 pL (g v 3) (iv (-1)) fun v11 =>
 kV v10 <|
 pK v10 (.bool true) v11 fun v12 =>
 kN r0 <|
 kV v12 <|
 kV v12 <|
 pG (g v 3) (iv 1) fun v13 =>
 kV v12 <|
 pK v12 (.bool true) v13 fun v14 =>
 kN r0 <|
 kV v14 <|
 kV v14 <|
 pZ (g v 4) fun v15 =>
 kV v14 <|
 pG v15 (iv 4) fun v16 =>
 kV v14 <|
 pK v14 (.bool true) v16 fun v17 =>
 .br v17 (
 .ret (.bool false) []) (
 kN r0 <|
 pH (g v 3) (iv 0) fun v18 =>
 kN r0 <|
 kV v18 <|
 kV v18 <|
 pZ (g v 4) fun v19 =>
 kV v18 <|
 pG v19 (iv 0) fun v20 =>
 kV v18 <|
 pK v18 v20 (.bool false) fun v21 =>
 kV v21 <|
 kN r0 <|
 kV (g v 5) <|
 kV v21 <|
 kV (g v 5) <|
 kV v21 <|
 pL (g v 3) (iv 0) fun v22 =>
 kV v21 <|
 kV (g v 5) <|
 kV v21 <|
 pK (g v 5) v22 (.bool false) fun v23 =>
 kV v21 <|
 pK v21 (.bool true) v23 fun v24 =>
 .br v24 (
 .ret (.bool false) []) (
 .loop 64 6 [iv 0] fun C64 l25 =>
 kN r0 <|
 pZ (g v 4) fun v26 =>
 pL (g l25 0) v26 fun v27 =>
 .br v27 (
 kN r0 <|
 pI 2 (g v 4) (g l25 0) fun v28 =>
 .load [] v28 2 fun l29 =>
 .newbox fun r1 =>
 kN r1 <|
 kN r1 <|
 pL (g l29 0) (iv 0) fun v30 =>
 kN r1 <|
 kV v30 <|
 kV v30 <|
 pG (g l29 0) (iv 500) fun v31 =>
 kV v30 <|
 pK v30 (.bool true) v31 fun v32 =>
 kN r1 <|
 kV v32 <|
 kV v32 <|
 pL (g l29 1) (iv 0) fun v33 =>
 kV v32 <|
 pK v32 (.bool true) v33 fun v34 =>
 kN r1 <|
 kV v34 <|
 kV v34 <|
 pG (g l29 1) (iv 1) fun v35 =>
 kV v34 <|
 pK v34 (.bool true) v35 fun v36 =>
 kN r1 <|
 kV v36 <|
 kV v36 <|
 pG (g l29 0) (iv 0) fun v37 =>
 kV v36 <|
 kN r1 <|
 kV v37 <|
 kV v36 <|
 kV v37 <|
 kV v36 <|
 pN (g l29 1) (iv 0) fun v38 =>
 kV v36 <|
 kV v37 <|
 kV v36 <|
 pK v37 v38 (.bool false) fun v39 =>
 kV v36 <|
 pK v36 (.bool true) v39 fun v40 =>
 .br v40 (
 .ret (.bool false) []) (
 pA (g l25 0) (iv 1) fun v41 =>
 .cont 64 C64 [v41] (Es [[pt r0 0],((pt r0 0)::G5 v 0)]))) (
 .ret (.bool true) [])))
theorem rl (vs : List Value) : aT PP Tryz.f31 (aE okL [(81, [5, 6, 7, 8])] [(6, .inv [5] [2] [(2, [])])] []) vs = ix vs := by kernel_rfl
theorem rL {args vs} (ha : an PP Tryz.f31 args = some vs) (ho : Ones vs) {H O Q} (h : (ix vs).den PP Q H O) : Triple PP mK args H O Q :=
 am mixed (ao aB _ _ _) Tryz.func31 rl ha ho h
abbrev mI : FuncId := 32
def ir (v : List Value) : Tree :=
 .newbox fun r0 =>
 kN r0 <|
 pL (g v 1) (iv 0) fun v0 =>
 kV v0 <|
 pG (g v 1) (iv 99) fun v1 =>
 kV v0 <|
 pK v0 (.bool true) v1 fun v2 =>
 .br v2 (
 .ret (.bool false) []) (
 pL (g v 2) (iv 0) fun v3 =>
 kV v3 <|
 pG (g v 2) (iv 99) fun v4 =>
 kV v3 <|
 pK v3 (.bool true) v4 fun v5 =>
 .br v5 (
 .ret (.bool false) []) (
 pL (g v 3) (iv 0) fun v6 =>
 kV v6 <|
 pG (g v 3) (iv 99) fun v7 =>
 kV v6 <|
 pK v6 (.bool true) v7 fun v8 =>
 .br v8 (
 .ret (.bool false) []) (
 pL (g v 4) (iv 0) fun v9 =>
 kV v9 <|
 pG (g v 4) (iv 99) fun v10 =>
 kV v9 <|
 pK v9 (.bool true) v10 fun v11 =>
 .br v11 (
 .ret (.bool false) []) (
 kN r0 <|
 pH (g v 0) (iv 0) fun v12 =>
 kN r0 <|
 kV v12 <|
 kV v12 <|
 pM (g v 0) (iv 9999) fun v13 =>
 kV v12 <|
 pK v12 v13 (.bool false) fun v14 =>
 kN r0 <|
 kV v14 <|
 kV v14 <|
 pH (g v 12) (iv 0) fun v15 =>
 kV v14 <|
 pK v14 v15 (.bool false) fun v16 =>
 kN r0 <|
 kV v16 <|
 kV v16 <|
 pM (g v 12) (iv 7) fun v17 =>
 kV v16 <|
 pK v16 v17 (.bool false) fun v18 =>
 kN r0 <|
 kV v18 <|
 kV v18 <|
 pH (g v 13) (iv 0) fun v19 =>
 kV v18 <|
 pK v18 v19 (.bool false) fun v20 =>
 kN r0 <|
 kV v20 <|
 kV v20 <|
 pM (g v 13) (iv 255) fun v21 =>
 kV v20 <|
 pK v20 v21 (.bool false) fun v22 =>
 .ret v22 []))))
theorem rh (vs : List Value) : aT PP Tryz.f32 (aE okL [(81, [5, 6, 7, 8])] [(2, .unroll 5)] []) vs = ir vs := by kernel_rfl
theorem rI {args vs} (ha : an PP Tryz.f32 args = some vs) (ho : Ones vs) {H O Q} (h : (ir vs).den PP Q H O) : Triple PP mI args H O Q :=
 am mixed (ao aB _ _ _) Tryz.func32 rh ha ho h
abbrev lh : FuncId := 33
def gK (v : List Value) : Tree :=
 .newbox fun r0 =>
 kN r0 <|
 cS 30 [ag (G14 v 1)] (.agg 4) fun l0 =>
 pZ (g l0 0) fun v1 =>
 pA (iv 0) v1 fun v2 =>
 pZ (g l0 1) fun v3 =>
 pA v2 v3 fun v4 =>
 pZ (g l0 2) fun v5 =>
 pA v4 v5 fun v6 =>
 pZ (g l0 3) fun v7 =>
 pA v6 v7 fun v8 =>
 kN r0 <|
 cS 30 [ag (G14 v 15)] (.agg 4) fun l9 =>
 pZ (g l9 0) fun v10 =>
 pA v8 v10 fun v11 =>
 pZ (g l9 1) fun v12 =>
 pA v11 v12 fun v13 =>
 pZ (g l9 2) fun v14 =>
 pA v13 v14 fun v15 =>
 pZ (g l9 3) fun v16 =>
 pA v15 v16 fun v17 =>
 .loop 111 11 [v17,iv 0] fun C111 l18 =>
 kN r0 <|
 pZ (g v 29) fun v19 =>
 pL (g l18 1) v19 fun v20 =>
 .br v20 (
 kN r0 <|
 pI 5 (g v 29) (g l18 1) fun v21 =>
 .load [] v21 5 fun l22 =>
 .newbox fun r1 =>
 kN r1 <|
 kN r1 <|
 pH (g l22 3) (iv 0) fun v23 =>
 .br v23 (
 pA (g l18 1) (iv 1) fun v24 =>
 .cont 111 C111 [g l18 0,v24] (Es [[pt r0 0],((pt r0 0)::G38 v 0)])) (
 pA (g l18 0) (iv 1) fun v25 =>
 kN r0 <|
 kN r1 <|
 c1 28 [ag (G38 v 0),g l22 1] fun l26 =>
 pL (g l26 0) (iv 0) fun v27 =>
 kN r0 <|
 kV v27 <|
 kV v27 <|
 kV v27 <|
 .pure [(v27,false)] (.idx 12) [g v 0,g l26 0] fun v28 =>
 .chk (.ptr [(v27,false)] v28) <|
 kV v27 <|
 kV v27 <|
 .load [(v27,false)] (aS v28 1) 1 fun l29 =>
 kN r1 <|
 kV v27 <|
 kV v27 <|
 kV v27 <|
 pN (g l29 0) (g l22 2) fun v30 =>
 kV v27 <|
 pK v27 (.bool true) v30 fun v31 =>
 .br v31 (
 .ret (.bool false) []) (
 pA (g l18 1) (iv 1) fun v32 =>
 .cont 111 C111 [v25,v32] (Es [[pt r0 0],((pt r0 0)::G38 v 0)])))) (
 .loop 118 20 [iv 0] fun C118 l33 =>
 kN r0 <|
 pZ (g v 0) fun v34 =>
 pL (g l33 0) v34 fun v35 =>
 .br v35 (
 kN r0 <|
 pI 12 (g v 0) (g l33 0) fun v36 =>
 .load [] v36 12 fun l37 =>
 .newbox fun r2 =>
 kN r2 <|
 kN r2 <|
 c1 65 [ag (G12 l37 0)] fun l38 =>
 pO (g l38 0) fun v39 =>
 kV v39 <|
 pG (g l33 0) (iv 0) fun v40 =>
 kV v39 <|
 kN r0 <|
 kV v40 <|
 kV v39 <|
 kV v40 <|
 kV v39 <|
 pS (g l33 0) (iv 1) fun v41 =>
 kV v40 <|
 kV v39 <|
 kV v40 <|
 kV v39 <|
 .pure [(v40,true),(v39,false)] (.idx 12) [g v 0,v41] fun v42 =>
 .chk (.ptr [(v40,true),(v39,false)] v42) <|
 kV v40 <|
 kV v39 <|
 kV v40 <|
 kV v39 <|
 .load [(v40,true),(v39,false)] v42 1 fun l43 =>
 kN r2 <|
 kV v40 <|
 kV v39 <|
 kV v40 <|
 kV v39 <|
 kV v40 <|
 kV v39 <|
 pH (g l43 0) (g l37 0) fun v44 =>
 kV v39 <|
 kV v40 <|
 kV v39 <|
 pK v40 v44 (.bool false) fun v45 =>
 kV v39 <|
 pK v39 (.bool true) v45 fun v46 =>
 .br v46 (
 .ret (.bool false) []) (
 kN r0 <|
 kN r2 <|
 kN r2 <|
 c1 66 [ag (G38 v 0),g l37 2,g l37 0] fun l47 =>
 pN (g l47 0) (iv 1) fun v48 =>
 .br v48 (
 .ret (.bool false) []) (
 pA (g l33 0) (iv 1) fun v49 =>
 .cont 118 C118 [v49] (Es [[pt r0 0],[g l18 0],((pt r0 0)::G38 v 0)])))) (
 kN r0 <|
 pZ (g v 0) fun v50 =>
 pE (g l18 0) v50 fun v51 =>
 .ret v51 []))
theorem pR (vs : List Value) : aT PP Tryz.f33 (aE okL [(81, [5, 6, 7, 8])] [(3, .unroll 3), (6, .unroll 5), (11, .inv [3, 7] [1] [(1, [])]), (20, .inv [10] [1, 3] [(1, [])])] []) vs = gK vs := by kernel_rfl
theorem qJ {args vs} (ha : an PP Tryz.f33 args = some vs) (ho : Ones vs) {H O Q} (h : (gK vs).den PP Q H O) : Triple PP lh args H O Q :=
 am mixed (ao aB _ _ _) Tryz.func33 pR ha ho h
abbrev kB : FuncId := 34
def jw (l1013 : List Value) (n1014 : Nat) (C1015 : List Value → Heap → Own → Prop) (r1016 : Nat) (l1017 : List Value) : Tree :=
 pA (g l1013 0) (iv 1) fun v11 =>
 .cont n1014 C1015 [v11] (Es [[pt r1016 0],((pt r1016 0)::G38 l1017 0)])
def jx (r1008 : Nat) (l1009 l1010 : List Value) (n1011 : Nat) (C1012 : List Value → Heap → Own → Prop) : Tree :=
 kN r1008 <|
 kN r1008 <|
 pI 1 (g l1009 31) (g l1010 0) fun v7 =>
 .load [] v7 1 fun l8 =>
 c1 67 [g l1009 n1011,g l8 0] fun l9 =>
 pN (g l9 0) (iv 1) fun v10 =>
 .br v10 (
 .ret (.bool false) []) (
 jw l1010 3 C1012 r1008 l1009)
def jy (r1001 r1002 : Nat) (l1003 : List Value) (n1004 : Nat) (l1005 l1006 : List Value) (C1007 : List Value → Heap → Own → Prop) : Tree :=
 kN r1001 <|
 kN r1002 <|
 c1 67 [g l1003 n1004,g l1005 0] fun l25 =>
 pN (g l25 0) (iv 1) fun v26 =>
 .br v26 (
 .ret (.bool false) []) (
 .loop 43 13 [iv 0] fun C43 l27 =>
 pL (g l27 0) (g l1006 0) fun v28 =>
 .br v28 (
 kN r1001 <|
 pI 2 (g l1003 32) (g l27 0) fun v29 =>
 kP v29 <|
 .load [] (aS v29 1) 1 fun l30 =>
 kN r1002 <|
 pE (g l30 0) (g l1005 1) fun v31 =>
 kN r1001 <|
 kV v31 <|
 kV v31 <|
 kV v31 <|
 .pure [(v31,false)] (.idx 2) [g l1003 32,g l27 0] fun v32 =>
 .chk (.ptr [(v31,false)] v32) <|
 kV v31 <|
 kV v31 <|
 .load [(v31,false)] v32 1 fun l33 =>
 kN r1002 <|
 kV v31 <|
 kV v31 <|
 kV v31 <|
 pE (g l33 0) (g l1005 0) fun v34 =>
 kV v31 <|
 pK v31 (.bool true) v34 fun v35 =>
 .br v35 (
 .ret (.bool false) []) (
 pA (g l27 0) (iv 1) fun v36 =>
 .cont 43 C43 [v36] (Es [[pt r1001 0],[g l1006 0],[pt r1002 0],((pt r1001 0)::G38 l1003 0),[pt r1002 0,g l1005 0,g l1005 1]]))) (
 jw l1006 10 C1007 r1001 l1003))
def fY (v : List Value) : Tree :=
 .newbox fun r0 =>
 .loop 3 2 [iv 0] fun C3 l0 =>
 kN r0 <|
 pZ (g v 31) fun v1 =>
 pL (g l0 0) v1 fun v2 =>
 .br v2 (
 kN r0 <|
 kN r0 <|
 pI 1 (g v 31) (g l0 0) fun v3 =>
 .load [] v3 1 fun l4 =>
 c1 67 [g v 31,g l4 0] fun l5 =>
 pN (g l5 0) (iv 1) fun v6 =>
 .br v6 (
 .ret (.bool false) []) (
 kN r0 <|
 .sw (g v 34) 0 (
 jx r0 v l0 8 C3) (
 .sw (g v 34) 1 (
 jx r0 v l0 22 C3) (
 .stuck 901)))) (
 .loop 10 7 [iv 0] fun C10 l17 =>
 kN r0 <|
 pZ (g v 32) fun v18 =>
 pL (g l17 0) v18 fun v19 =>
 .br v19 (
 kN r0 <|
 pI 2 (g v 32) (g l17 0) fun v20 =>
 .load [] v20 2 fun l21 =>
 .newbox fun r1 =>
 kN r1 <|
 kN r0 <|
 kN r1 <|
 c1 67 [g v 31,g l21 1] fun l22 =>
 pN (g l22 0) (iv 1) fun v23 =>
 .br v23 (
 .ret (.bool false) []) (
 kN r0 <|
 pS (iv 1) (g v 34) fun v24 =>
 .sw v24 0 (
 jy r0 r1 v 8 l21 l17 C10) (
 .sw v24 1 (
 jy r0 r1 v 22 l21 l17 C10) (
 .stuck 901)))) (
 .ret (.bool true) []))
theorem oO (vs : List Value) : aT PP Tryz.f34 (aE okL [(81, [5, 6, 7, 8])] [(2, .inv [3] [1] [(1, [])]), (7, .inv [4] [1] [(1, [])]), (13, .inv [6] [1, 4, 5] [(1, []), (5, [])])] []) vs = fY vs := by kernel_rfl
theorem o6 {args vs} (ha : an PP Tryz.f34 args = some vs) (ho : Ones vs) {H O Q} (h : (fY vs).den PP Q H O) : Triple PP kB args H O Q :=
 am mixed (ao aB _ _ _) Tryz.func34 oO ha ho h
abbrev mL : FuncId := 36
def iy (v : List Value) : Tree :=
 pZ (g v 0) fun v0 =>
 pZ (g v 1) fun v1 =>
 pN v0 v1 fun v2 =>
 .br v2 (
 .ret (.bool false) []) (
 .loop 7 4 [iv 0] fun C7 l3 =>
 pZ (g v 0) fun v4 =>
 pL (g l3 0) v4 fun v5 =>
 .br v5 (
 pI 1 (g v 0) (g l3 0) fun v6 =>
 .load [] v6 1 fun l7 =>
 pI 1 (g v 1) (g l3 0) fun v8 =>
 .load [] v8 1 fun l9 =>
 pN (g l7 0) (g l9 0) fun v10 =>
 .br v10 (
 .ret (.bool false) []) (
 pA (g l3 0) (iv 1) fun v11 =>
 .cont 7 C7 [v11] (Es [[g v 0],[g v 1]]))) (
 .ret (.bool true) []))
theorem rm (vs : List Value) : aT PP Tryz.f36 (aE okL [(81, [5, 6, 7, 8])] [(4, .inv [5] [0, 1] [])] []) vs = iy vs := by kernel_rfl
theorem rM {args vs} (ha : an PP Tryz.f36 args = some vs) (ho : Ones vs) {H O Q} (h : (iy vs).den PP Q H O) : Triple PP mL args H O Q :=
 am mixed (ao aB _ _ _) Tryz.func36 rm ha ho h
abbrev mH : FuncId := 37
def kr (r1001 : Nat) (i1002 : Int) : Tree :=
 kN r1001 <|
 kN r1001 <|
 .ret (.tuple #[ag Z0,iv i1002]) []
def ip (v : List Value) : Tree :=
 .newbox fun r0 =>
 .newbox fun r1 =>
 kN r0 <|
 cS 68 [ag (G38 v 0),g v 38] (.tup [some 3,none]) fun l0 =>
 .newbox fun r2 =>
 kN r2 <|
 pN (g l0 3) (iv 0) fun v1 =>
 .br v1 (
 kN r1 <|
 kN r1 <|
 .ret (.tuple #[ag Z0,g l0 3]) []) (
 kN r0 <|
 kN r0 <|
 c1 28 [ag (G38 v 0),g v 38] fun l2 =>
 pI 12 (g v 0) (g l2 0) fun v3 =>
 .load [] v3 12 fun l4 =>
 .newbox fun r3 =>
 kN r3 <|
 kN r2 <|
 pN (g l0 1) (iv 1) fun v5 =>
 kN r3 <|
 kV v5 <|
 kV v5 <|
 pE (g l4 1) (iv (-1)) fun v6 =>
 kV v5 <|
 pK v5 (.bool true) v6 fun v7 =>
 .br v7 (
 kr r1 8) (
 kN r0 <|
 pZ (g v 29) fun v8 =>
 pH v8 (iv 200) fun v9 =>
 .br v9 (
 kr r1 7) (
 kN r0 <|
 kN r3 <|
 cS 62 [ag (G38 v 0),g v 38] (.agg 38) fun l10 =>
 cS 59 [ag (G12 l4 0),iv 4] (.agg 12) fun l11 =>
 cS 61 [ag (G38 l10 0),ag (G12 l11 0)] (.agg 38) fun l12 =>
 kN r0 <|
 kN r0 <|
 kN r3 <|
 kN r3 <|
 .prim (.bi .append #[30,30] 30) [.slice none 0 0,g l12 29] [] [] .one fun l13 _ =>
 .newbox fun r4 =>
 .prim (.bi .append #[30,30] 30) [g l13 0,.slice (some ⟨r4,0,none⟩) 1 1] [⟨r4,41,[g l4 2,g v 38,g l4 1,iv (-1),.slice none 0 0]⟩] [] .one fun l14 _ =>
 kN r0 <|
 kN r0 <|
 kN r1 <|
 kN r1 <|
 .ret (.tuple #[ag (G29 l12 0 ++ ((g l14 0)::G8 l12 30)),iv 0]) [])))
theorem rf (vs : List Value) : aT PP Tryz.f37 (aE okL [(81, [5, 6, 7, 8])] [] []) vs = ip vs := by kernel_rfl
theorem rG {args vs} (ha : an PP Tryz.f37 args = some vs) (ho : Ones vs) {H O Q} (h : (ip vs).den PP Q H O) : Triple PP mH args H O Q :=
 am mixed (ao aB _ _ _) Tryz.func37 rf ha ho h
abbrev mF : FuncId := 38
def kq (r1001 : Nat) (i1002 : Int) : Tree :=
 kN r1001 <|
 kN r1001 <|
 .ret (.tuple #[ag Z0,iv i1002]) []
def im (v : List Value) : Tree :=
 .newbox fun r0 =>
 .newbox fun r1 =>
 .newbox fun r2 =>
 kN r1 <|
 c1 31 [ag (G5 v 38),.bool true] fun l0 =>
 pO (g l0 0) fun v1 =>
 .br v1 (
 kq r2 2) (
 kN r0 <|
 pZ (g v 29) fun v2 =>
 pH v2 (iv 200) fun v3 =>
 .br v3 (
 kq r2 7) (
 kN r0 <|
 cS 17 [ag (G38 v 0)] (.agg 38) fun l4 =>
 kN r0 <|
 kN r0 <|
 kN r1 <|
 .newbox fun r3 =>
 .prim (.bi .append #[30,30] 30) [g l4 29,.slice (some ⟨r3,0,none⟩) 1 1] [⟨r3,41,(G5 v 38)⟩] [] .one fun l5 _ =>
 kN r0 <|
 kN r0 <|
 kN r2 <|
 kN r2 <|
 .ret (.tuple #[ag (G29 l4 0 ++ ((g l5 0)::G8 l4 30)),iv 0]) []))
theorem qZ (vs : List Value) : aT PP Tryz.f38 (aE okL [(81, [5, 6, 7, 8])] [] []) vs = im vs := by kernel_rfl
theorem rE {args vs} (ha : an PP Tryz.f38 args = some vs) (ho : Ones vs) {H O Q} (h : (im vs).den PP Q H O) : Triple PP mF args H O Q :=
 am mixed (ao aB _ _ _) Tryz.func38 qZ ha ho h
abbrev nt : FuncId := 39
def kR (r1001 : Nat) (i1002 : Int) : Tree :=
 kN r1001 <|
 kN r1001 <|
 .ret (.tuple #[ag Z0,iv i1002]) []
def jq (v : List Value) : Tree :=
 .newbox fun r0 =>
 .newbox fun r1 =>
 .newbox fun r2 =>
 kN r0 <|
 c1 14 [g v 0,ag (G38 v 1)] fun l0 =>
 pE (g l0 0) (iv 0) fun v1 =>
 .br v1 (
 kR r2 8) (
 kN r0 <|
 pZ (g v 30) fun v2 =>
 pS v2 (iv 1) fun v3 =>
 kN r0 <|
 kN r0 <|
 pI 5 (g v 30) v3 fun v4 =>
 kP v4 <|
 .load [] v4 1 fun l5 =>
 kN r1 <|
 c1 69 [g v 0,ag (G38 v 1),g l5 0,g l0 0,.agg #[g v 39,g v 40]] fun l6 =>
 pO (g l6 0) fun v7 =>
 .br v7 (
 kR r2 14) (
 kN r0 <|
 cS 17 [ag (G38 v 1)] (.agg 38) fun l8 =>
 kN r0 <|
 kN r0 <|
 kN r0 <|
 pI 5 (g l8 29) v3 fun v9 =>
 kP v9 <|
 .load [] (aS v9 4) 1 fun l10 =>
 kN r1 <|
 .newbox fun r3 =>
 .prim (.bi .append #[39,39] 39) [g l10 0,.slice (some ⟨r3,0,none⟩) 1 1] [⟨r3,43,[g v 39,g v 40]⟩] [] .one fun l11 _ =>
 pI 5 (g l8 29) v3 fun v12 =>
 kP v12 <|
 kP (aS v12 4) <|
 .store (aS v12 4) [g l11 0] <|
 kN r0 <|
 kN r2 <|
 kN r2 <|
 .ret (.tuple #[ag (G38 l8 0),iv 0]) []))
theorem sF (vs : List Value) : aT PP Tryz.f39 (aE okL [(81, [5, 6, 7, 8])] [] []) vs = jq vs := by kernel_rfl
theorem tA {args vs} (ha : an PP Tryz.f39 args = some vs) (ho : Ones vs) {H O Q} (h : (jq vs).den PP Q H O) : Triple PP nt args H O Q :=
 am mixed (ao aB _ _ _) Tryz.func39 sF ha ho h
abbrev nr : FuncId := 40
def jp (v : List Value) : Tree :=
 .newbox fun r0 =>
 .newbox fun r1 =>
 .newbox fun r2 =>
 kN r0 <|
 pZ (g v 29) fun v0 =>
 pE v0 (iv 0) fun v1 =>
 .br v1 (
 kN r1 <|
 kN r2 <|
 kN r1 <|
 kN r2 <|
 .ret (.tuple #[ag Z0,.agg #[iv 0,iv 0,iv 0,iv 0,.slice none 0 0],iv 9]) []) (
 kN r0 <|
 pZ (g v 29) fun v2 =>
 pS v2 (iv 1) fun v3 =>
 kN r0 <|
 cS 17 [ag (G38 v 0)] (.agg 38) fun l4 =>
 pI 5 (g l4 29) v3 fun v5 =>
 .load [] v5 5 fun l6 =>
 .newbox fun r3 =>
 kN r3 <|
 kN r3 <|
 pE (g l6 3) (iv (-1)) fun v7 =>
 .br v7 (
 kN r0 <|
 kN r3 <|
 kN r3 <|
 cS 26 [ag (G38 v 0),g l6 1,iv 3] (.agg 38) fun l8 =>
 kN r1 <|
 kN r2 <|
 kN r1 <|
 kN r2 <|
 .ret (.tuple #[ag (G38 l8 0),ag (G5 l6 0),iv 0]) []) (
 kN r0 <|
 cS 17 [ag (G38 v 0)] (.agg 38) fun l9 =>
 kN r0 <|
 kN r0 <|
 .pure [] (.slc 5 false true false) [g l9 29,v3] fun v10 =>
 kN r0 <|
 kN r0 <|
 kN r3 <|
 kN r1 <|
 kN r2 <|
 kN r1 <|
 kN r2 <|
 .ret (.tuple #[ag (G29 l9 0 ++ (v10::G8 l9 30)),ag (G5 l6 0),iv 0]) []))
theorem sE (vs : List Value) : aT PP Tryz.f40 (aE okL [(81, [5, 6, 7, 8])] [] []) vs = jp vs := by kernel_rfl
theorem tz {args vs} (ha : an PP Tryz.f40 args = some vs) (ho : Ones vs) {H O Q} (h : (jp vs).den PP Q H O) : Triple PP nr args H O Q :=
 am mixed (ao aB _ _ _) Tryz.func40 sE ha ho h
abbrev jN : FuncId := 41
def fx (v : List Value) : Tree :=
 .newbox fun r0 =>
 .newbox fun r1 =>
 kN r0 <|
 cS 68 [ag (G38 v 0),g v 38] (.tup [some 3,none]) fun l0 =>
 .newbox fun r2 =>
 kN r2 <|
 pN (g l0 3) (iv 0) fun v1 =>
 kN r2 <|
 kV v1 <|
 kV v1 <|
 pN (g l0 1) (iv 4) fun v2 =>
 kV v1 <|
 pK v1 (.bool true) v2 fun v3 =>
 .br v3 (
 kN r1 <|
 kN r1 <|
 .ret (.tuple #[ag Z0,iv 9]) []) (
 kN r0 <|
 cS 26 [ag (G38 v 0),g v 38,iv 3] (.agg 38) fun l4 =>
 kN r1 <|
 kN r1 <|
 .ret (.tuple #[ag (G38 l4 0),iv 0]) [])
theorem nL (vs : List Value) : aT PP Tryz.f41 (aE okL [(81, [5, 6, 7, 8])] [] []) vs = fx vs := by kernel_rfl
theorem oq {args vs} (ha : an PP Tryz.f41 args = some vs) (ho : Ones vs) {H O Q} (h : (fx vs).den PP Q H O) : Triple PP jN args H O Q :=
 am mixed (ao aB _ _ _) Tryz.func41 nL ha ho h
abbrev qy : FuncId := 42
def qt (v : List Value) : Tree :=
 .newbox fun r0 =>
 kN r0 <|
 c1 70 [g v 34,iv 0,iv 1] fun l0 =>
 pO (g l0 0) fun v1 =>
 .br v1 (
 .ret (.bool false) []) (
 kN r0 <|
 c1 70 [g v 33,iv 0,iv 1000] fun l2 =>
 pO (g l2 0) fun v3 =>
 .br v3 (
 .ret (.bool false) []) (
 kN r0 <|
 c1 70 [g v 35,iv 0,iv 10] fun l4 =>
 pO (g l4 0) fun v5 =>
 .br v5 (
 .ret (.bool false) []) (
 kN r0 <|
 c1 70 [g v 36,iv (-1),iv 1] fun l6 =>
 pO (g l6 0) fun v7 =>
 .br v7 (
 .ret (.bool false) []) (
 kN r0 <|
 c1 70 [g v 37,iv 0,iv 2] fun l8 =>
 pO (g l8 0) fun v9 =>
 kN r0 <|
 kV v9 <|
 kV v9 <|
 pZ (g v 0) fun v10 =>
 kV v9 <|
 pG v10 (iv 500) fun v11 =>
 kV v9 <|
 pK v9 (.bool true) v11 fun v12 =>
 kN r0 <|
 kV v12 <|
 kV v12 <|
 pZ (g v 29) fun v13 =>
 kV v12 <|
 pG v13 (iv 200) fun v14 =>
 kV v12 <|
 pK v12 (.bool true) v14 fun v15 =>
 kN r0 <|
 kV v15 <|
 kV v15 <|
 pZ (g v 30) fun v16 =>
 kV v15 <|
 pG v16 (iv 200) fun v17 =>
 kV v15 <|
 pK v15 (.bool true) v17 fun v18 =>
 .br v18 (
 .ret (.bool false) []) (
 kN r0 <|
 .newbox fun r1 =>
 kN r1 <|
 kN r1 <|
 c1 70 [g v 1,iv 0,iv 9999] fun l19 =>
 pO (g l19 0) fun v20 =>
 .br v20 (
 .ret (.bool false) []) (
 kN r1 <|
 c1 71 [ag (G4 v 2)] fun l21 =>
 pO (g l21 0) fun v22 =>
 .br v22 (
 .ret (.bool false) []) (
 kN r1 <|
 c1 70 [g v 13,iv 0,iv 7] fun l23 =>
 pO (g l23 0) fun v24 =>
 .br v24 (
 .ret (.bool false) []) (
 kN r1 <|
 c1 70 [g v 14,iv 0,iv 255] fun l25 =>
 pO (g l25 0) fun v26 =>
 .br v26 (
 .ret (.bool false) []) (
 .newbox fun r2 =>
 kN r2 <|
 kN r2 <|
 c1 70 [g v 15,iv 0,iv 9999] fun l27 =>
 pO (g l27 0) fun v28 =>
 .br v28 (
 .ret (.bool false) []) (
 kN r2 <|
 c1 71 [ag (G4 v 16)] fun l29 =>
 pO (g l29 0) fun v30 =>
 .br v30 (
 .ret (.bool false) []) (
 kN r2 <|
 c1 70 [g v 27,iv 0,iv 7] fun l31 =>
 pO (g l31 0) fun v32 =>
 .br v32 (
 .ret (.bool false) []) (
 kN r2 <|
 c1 70 [g v 28,iv 0,iv 255] fun l33 =>
 pO (g l33 0) fun v34 =>
 .br v34 (
 .ret (.bool false) []) (
 kN r0 <|
 c1 72 [g v 29,.func (.func 73) #[] #[]] fun l35 =>
 .br (g l35 0) (
 .ret (.bool false) []) (
 kN r0 <|
 c1 72 [g v 30,.func (.func 75) #[] #[]] fun l36 =>
 pO (g l36 0) fun v37 =>
 .br v37 (
 kN r0 <|
 c1 76 [ag (G38 v 0)] fun l38 =>
 .br (g l38 0) (
 kN r0 <|
 c1 77 [ag (G38 v 0)] fun l39 =>
 .ret (g l39 0) []) (
 .ret (.bool false) [])) (
 .ret (.bool false) [])))))))))))))))
theorem yz (vs : List Value) : aT PP Tryz.f42 (aE okL [(81, [5, 6, 7, 8])] [(4, .unroll 3)] []) vs = qt vs := by kernel_rfl
theorem zh {args vs} (ha : an PP Tryz.f42 args = some vs) (ho : Ones vs) {H O Q} (h : (qt vs).den PP Q H O) : Triple PP qy args H O Q :=
 am mixed (ao aB _ _ _) Tryz.func42 yz ha ho h
abbrev tY : FuncId := 43
def nP (v : List Value) : Tree :=
 pZ (g v 0) fun v0 =>
 .loop 5 3 [.slice none 0 0,iv 0] fun C5 l1 =>
 pL (g l1 1) v0 fun v2 =>
 .br v2 (
 pI 5 (g v 0) (g l1 1) fun v3 =>
 .load [] v3 5 fun l4 =>
 .newbox fun r0 =>
 kN r0 <|
 kN r0 <|
 pN (g l4 1) (iv 0) fun v5 =>
 .br v5 (
 kN r0 <|
 .newbox fun r1 =>
 .prim (.bi .append #[97,97] 97) [g l1 0,.slice (some ⟨r1,0,none⟩) 1 1] [⟨r1,48,[g l4 1]⟩] [] .one fun l6 _ =>
 pA (g l1 1) (iv 1) fun v7 =>
 .cont 5 C5 [g l6 0,v7] (Es [[g v 0],[v0]])) (
 pA (g l1 1) (iv 1) fun v8 =>
 .cont 5 C5 [g l1 0,v8] (Es [[g v 0],[v0]]))) (
 .ret (g l1 0) [])
theorem w0 (vs : List Value) : aT PP Tryz.f43 (aE okL [(81, [5, 6, 7, 8])] [(3, .inv [3, 8] [6, 7] [])] []) vs = nP vs := by kernel_rfl
theorem xR {args vs} (ha : an PP Tryz.f43 args = some vs) (ho : Ones vs) {H O Q} (h : (nP vs).den PP Q H O) : Triple PP tY args H O Q :=
 am mixed (ao aB _ _ _) Tryz.func43 w0 ha ho h
abbrev kZ : FuncId := 44
def gH (v : List Value) : Tree :=
 .loop 3 3 [.slice none 0 0,iv 0] fun C3 l0 =>
 pZ (g v 0) fun v1 =>
 pL (g l0 1) v1 fun v2 =>
 .br v2 (
 pI 5 (g v 0) (g l0 1) fun v3 =>
 kP v3 <|
 .load [] (aS v3 1) 1 fun l4 =>
 pN (g l4 0) (iv 0) fun v5 =>
 .br v5 (
 pI 5 (g v 0) (g l0 1) fun v6 =>
 kP v6 <|
 .load [] (aS v6 1) 1 fun l7 =>
 .newbox fun r0 =>
 .prim (.bi .append #[97,97] 97) [g l0 0,.slice (some ⟨r0,0,none⟩) 1 1] [⟨r0,48,[g l7 0]⟩] [] .one fun l8 _ =>
 pA (g l0 1) (iv 1) fun v9 =>
 .cont 3 C3 [g l8 0,v9] (Es [[g v 0]])) (
 pA (g l0 1) (iv 1) fun v10 =>
 .cont 3 C3 [g l0 0,v10] (Es [[g v 0]]))) (
 .ret (g l0 0) [])
theorem pJ (vs : List Value) : aT PP Tryz.f44 (aE okL [(81, [5, 6, 7, 8])] [(3, .inv [3, 4] [0] [])] []) vs = gH vs := by kernel_rfl
theorem qG {args vs} (ha : an PP Tryz.f44 args = some vs) (ho : Ones vs) {H O Q} (h : (gH vs).den PP Q H O) : Triple PP kZ args H O Q :=
 am mixed (ao aB _ _ _) Tryz.func44 pJ ha ho h
abbrev qw : FuncId := 45
def lR (v : List Value) : Tree :=
 .newbox fun r0 =>
 .newbox fun r1 =>
 kN r0 <|
 cS 79 [g v 0,ag (G12 v 1)] (.agg 14) fun l0 =>
 cS 78 [ag (G14 l0 0)] (.agg 14) fun l1 =>
 kN r1 <|
 kN r1 <|
 .ret (ag (G14 l1 0)) []
theorem yn (vs : List Value) : aT PP Tryz.f45 (aE okL [(81, [5, 6, 7, 8])] [] []) vs = lR vs := by kernel_rfl
theorem rQ {args vs} (ha : an PP Tryz.f45 args = some vs) (ho : Ones vs) {H O Q} (h : (lR vs).den PP Q H O) : Triple PP qw args H O Q :=
 am mixed (ao aB _ _ _) Tryz.func45 yn ha ho h
abbrev eV : FuncId := 46
def dK (v : List Value) : Tree :=
 .newbox fun r0 =>
 .newbox fun r1 =>
 kN r0 <|
 pL (g v 2) (iv 0) fun v0 =>
 kN r0 <|
 kV v0 <|
 kV v0 <|
 pZ (g v 0) fun v1 =>
 kV v0 <|
 kV v0 <|
 pH (g v 2) v1 fun v2 =>
 kV v0 <|
 pK v0 (.bool true) v2 fun v3 =>
 .br v3 (
 kN r1 <|
 kN r1 <|
 .ret (ag Z1) []) (
 kN r0 <|
 pI 14 (g v 0) (g v 2) fun v4 =>
 .load [] v4 14 fun l5 =>
 kN r1 <|
 kN r1 <|
 .ret (ag (G14 l5 0)) [])
theorem rq (vs : List Value) : aT PP Tryz.f46 (aE okL [(81, [5, 6, 7, 8])] [] []) vs = dK vs := by kernel_rfl
theorem fQ {args vs} (ha : an PP Tryz.f46 args = some vs) (ho : Ones vs) {H O Q} (h : (dK vs).den PP Q H O) : Triple PP eV args H O Q :=
 am mixed (ao aB _ _ _) Tryz.func46 rq ha ho h
abbrev kC : FuncId := 47
def fZ (v : List Value) : Tree :=
 .loop 3 3 [.slice none 0 0,iv 0] fun C3 l0 =>
 pZ (g v 0) fun v1 =>
 pL (g l0 1) v1 fun v2 =>
 .br v2 (
 pI 5 (g v 0) (g l0 1) fun v3 =>
 .load [] v3 5 fun l4 =>
 .newbox fun r0 =>
 kN r0 <|
 kN r0 <|
 .prim (.bi .append #[39,39] 39) [.slice none 0 0,g l4 4] [] [] .one fun l5 _ =>
 kN r0 <|
 kN r0 <|
 .newbox fun r1 =>
 .prim (.bi .append #[30,30] 30) [g l0 0,.slice (some ⟨r1,0,none⟩) 1 1] [⟨r1,41,(G4 l4 0 ++ [g l5 0])⟩] [] .one fun l6 _ =>
 pA (g l0 1) (iv 1) fun v7 =>
 .cont 3 C3 [g l6 0,v7] (Es [[g v 0]])) (
 .ret (g l0 0) [])
theorem oP (vs : List Value) : aT PP Tryz.f47 (aE okL [(81, [5, 6, 7, 8])] [(3, .inv [3, 4] [0] [])] []) vs = fZ vs := by kernel_rfl
theorem o7 {args vs} (ha : an PP Tryz.f47 args = some vs) (ho : Ones vs) {H O Q} (h : (fZ vs).den PP Q H O) : Triple PP kC args H O Q :=
 am mixed (ao aB _ _ _) Tryz.func47 oP ha ho h
end Go.Proofs.YtieaihgbjikggaaGreat
