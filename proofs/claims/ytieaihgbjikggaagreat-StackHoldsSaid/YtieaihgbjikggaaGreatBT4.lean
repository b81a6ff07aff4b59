/- The trees of the functions of this seat: printed by a tool of mine; each by the kernel's reckoning equal to the evaluator's. -/
import Derived.Test.YtieaihgbjikggaaGreatBT3
namespace Go.Proofs.YtieaihgbjikggaaGreat
open Go Go.Sx
set_option maxRecDepth 100000
abbrev bQ : FuncId := 118
def bN (v : List Value) : Tree :=
 c1 128 [g v 0,g v 1] fun l0 =>
 pE (g l0 0) (iv (-1)) fun v1 =>
 .br v1 (
 .ret (g v 0) []) (
 pA (g l0 0) (iv 1) fun v2 =>
 .loop 10 5 [g l0 0,v2] fun C10 l3 =>
 pZ (g v 0) fun v4 =>
 pL (g l3 1) v4 fun v5 =>
 .br v5 (
 pI 2 (g v 0) (g l3 1) fun v6 =>
 .load [] v6 2 fun l7 =>
 .newbox fun r0 =>
 kN r0 <|
 kN r0 <|
 .callv false (g v 1) [.agg #[g l7 0,g l7 1]] [] [] .one fun l8 _ =>
 pO (g l8 0) fun v9 =>
 .br v9 (
 kN r0 <|
 pI 2 (g v 0) (g l3 0) fun v10 =>
 kP v10 <|
 .store v10 [g l7 0,g l7 1] <|
 pA (g l3 0) (iv 1) fun v11 =>
 pA (g l3 1) (iv 1) fun v12 =>
 .cont 10 C10 [v11,v12] (Es [[g v 0],[g v 1]])) (
 pA (g l3 1) (iv 1) fun v13 =>
 .cont 10 C10 [g l3 0,v13] (Es [[g v 0],[g v 1]]))) (
 .pure [] (.slc 2 true false false) [g v 0,g l3 0] fun v14 =>
 .prim (.bi .clear #[31] 0) [v14] [] [] (.tup []) fun l15 _ =>
 .pure [] (.slc 2 false true false) [g v 0,g l3 0] fun v16 =>
 .ret v16 []))
theorem eS (vs : List Value) : aW PP Tryz.f118 (aG okL [(81, [5, 6, 7, 8])] [(5, .inv [5, 6] [0, 1] [])] []) vs = bN vs := by kernel_rfl
theorem eY {args vs} (ha : an PP Tryz.f118 args = some vs) (ho : Ones vs) {H O Q} (h : (bN vs).den PP Q H O) : Triple PP bQ args H O Q :=
 am aY (ao aE _ _ _) Tryz.func118 eS ha ho h
abbrev kA : FuncId := 119
def oq (v : List Value) : Tree :=
 .newbox fun r0 =>
 kN r0 <|
 .load [] (g v 2) 1 fun l0 =>
 pE (g v 0) (g l0 0) fun v1 =>
 kN r0 <|
 kV v1 <|
 .load [(v1,false)] (g v 2) 1 fun l2 =>
 kV v1 <|
 kV v1 <|
 pE (g v 1) (g l2 0) fun v3 =>
 kV v1 <|
 pK v1 (.bool true) v3 fun v4 =>
 .ret v4 []
theorem vV (vs : List Value) : aW PP Tryz.f119 (aG okL [(81, [5, 6, 7, 8])] [] []) vs = oq vs := by kernel_rfl
theorem wP {args vs} (ha : an PP Tryz.f119 args = some vs) (ho : Ones vs) {H O Q} (h : (oq vs).den PP Q H O) : Triple PP kA args H O Q :=
 am aY (ao aE _ _ _) Tryz.func119 vV ha ho h
abbrev iO : FuncId := 120
def eH (v : List Value) : Tree :=
 .newbox fun r0 =>
 kN r0 <|
 pE (g v 2) (iv (-1)) fun v0 =>
 .br v0 (
 .ret (.bool true) []) (
 kN r0 <|
 cS 46 [g v 0,ag (G12 v 1)] (.agg 14) fun l1 =>
 pE (g l1 1) (iv 2) fun v2 =>
 .ret v2 [])
theorem lF (vs : List Value) : aW PP Tryz.f120 (aG okL [(81, [5, 6, 7, 8])] [] []) vs = eH vs := by kernel_rfl
theorem mc {args vs} (ha : an PP Tryz.f120 args = some vs) (ho : Ones vs) {H O Q} (h : (eH vs).den PP Q H O) : Triple PP iO args H O Q :=
 am aY (ao aE _ _ _) Tryz.func120 lF ha ho h
abbrev cH : FuncId := 121
def bJ (v : List Value) : Tree :=
 pZ (g v 0) fun v0 =>
 .loop 4 2 [iv 0] fun C4 l1 =>
 pL (g l1 0) v0 fun v2 =>
 .br v2 (
 pI 2 (g v 0) (g l1 0) fun v3 =>
 .load [] v3 2 fun l4 =>
 .callv false (g v 1) [.agg #[g l4 0,g l4 1]] [] [] .one fun l5 _ =>
 .br (g l5 0) (
 .ret (g l1 0) []) (
 pA (g l1 0) (iv 1) fun v6 =>
 .cont 4 C4 [v6] (Es [[g v 0],[g v 1],[v0]]))) (
 .ret (iv (-1)) [])
theorem eI (vs : List Value) : aW PP Tryz.f121 (aG okL [(81, [5, 6, 7, 8])] [(2, .inv [8] [0, 1, 7] [])] []) vs = bJ vs := by kernel_rfl
theorem eO {args vs} (ha : an PP Tryz.f121 args = some vs) (ho : Ones vs) {H O Q} (h : (bJ vs).den PP Q H O) : Triple PP cH args H O Q :=
 am aY (ao aE _ _ _) Tryz.func121 eI ha ho h
abbrev jl : FuncId := 125
def eK (l1001 : List Value) (C1002 : List Value → Heap → Own → Prop) (l1003 l1004 : List Value) (r1005 : Nat) (v1006 : Value) : Tree :=
 pA (g l1001 1) (iv 1) fun v13 =>
 .cont 15 C1002 [g l1003 0,v13] (Es [[g l1004 0],[g l1004 39],[pt r1005 0],[g l1004 1],[v1006],((pt r1005 0)::G38 l1004 1)])
def ln (r1007 r1008 : Nat) (l1009 : List Value) (n1010 : Nat) (l1011 l1012 : List Value) (C1013 : List Value → Heap → Own → Prop) (v1014 : Value) : Tree :=
 kN r1007 <|
 kN r1008 <|
 c1 106 [g l1009 n1010,g l1011 0] fun l11 =>
 .br (g l11 0) (
 kN r1008 <|
 .newbox fun r2 =>
 .prim (.bi .append #[26,26] 26) [g l1012 0,.slice (some ⟨r2,0,none⟩) 1 1] [⟨r2,3,[g l1011 0]⟩] [] .one fun l12 _ =>
 eK l1012 C1013 l12 l1009 r1007 v1014) (
 eK l1012 C1013 l1012 l1009 r1007 v1014)
def jk (v : List Value) : Tree :=
 .newbox fun r0 =>
 c1 70 [g v 39,iv 0,iv 1] fun l0 =>
 pO (g l0 0) fun v1 =>
 .br v1 (
 .ret (.slice none 0 0) []) (
 kN r0 <|
 c1 42 [ag (G38 v 1)] fun l2 =>
 pO (g l2 0) fun v3 =>
 .br v3 (
 .ret (.slice none 0 0) []) (
 kN r0 <|
 pZ (g v 1) fun v4 =>
 .loop 15 5 [.slice none 0 0,iv 0] fun C15 l5 =>
 pL (g l5 1) v4 fun v6 =>
 .br v6 (
 pI 12 (g v 1) (g l5 1) fun v7 =>
 .load [] v7 12 fun l8 =>
 .newbox fun r1 =>
 kN r1 <|
 kN r1 <|
 pE (g l8 2) (g v 39) fun v9 =>
 .br v9 (
 kN r1 <|
 c1 132 [g v 0,ag (G12 l8 0)] fun l10 =>
 .br (g l10 0) (
 .sw (g v 39) 0 (
 ln r0 r1 v 9 l8 l5 C15 v4) (
 .sw (g v 39) 1 (
 ln r0 r1 v 23 l8 l5 C15 v4) (
 .stuck 901))) (
 eK l5 C15 l5 v r0 v4)) (
 eK l5 C15 l5 v r0 v4)) (
 .ret (g l5 0) [])))
theorem ry (vs : List Value) : aW PP Tryz.f125 (aG okL [(81, [5, 6, 7, 8])] [(5, .inv [7, 21] [0, 2, 4, 19, 20] [(4, [])])] []) vs = jk vs := by kernel_rfl
theorem rX {args vs} (ha : an PP Tryz.f125 args = some vs) (ho : Ones vs) {H O Q} (h : (jk vs).den PP Q H O) : Triple PP jl args H O Q :=
 am aY (ao aE _ _ _) Tryz.func125 ry ha ho h
abbrev rL : FuncId := 126
def mt (v : List Value) : Tree :=
 .newbox fun r0 =>
 kN r0 <|
 cS 45 [g v 0,.agg #[iv 0,g v 3,iv 0,iv 0,iv 0,iv 0,iv 0,iv 0,iv 0,.bool false,.bool false,.bool false]] (.agg 14) fun l0 =>
 .newbox fun r1 =>
 kN r1 <|
 kN r1 <|
 pE (g l0 1) (iv 3) fun v1 =>
 kN r1 <|
 kV v1 <|
 kV v1 <|
 pE (g l0 1) (iv 4) fun v2 =>
 kV v1 <|
 pK v1 (.bool true) v2 fun v3 =>
 kN r0 <|
 kV v3 <|
 kV v3 <|
 pL (g v 4) (iv 0) fun v4 =>
 kV v3 <|
 pK v3 v4 (.bool false) fun v5 =>
 .br v5 (
 kN r0 <|
 pZ (g v 5) fun v6 =>
 kN r1 <|
 c1 133 [g l0 11] fun l7 =>
 pH v6 (g l7 0) fun v8 =>
 .ret v8 []) (
 .ret (.bool false) [])
theorem uC (vs : List Value) : aW PP Tryz.f126 (aG okL [(81, [5, 6, 7, 8])] [] []) vs = mt vs := by kernel_rfl
theorem vx {args vs} (ha : an PP Tryz.f126 args = some vs) (ho : Ones vs) {H O Q} (h : (mt vs).den PP Q H O) : Triple PP rL args H O Q :=
 am aY (ao aE _ _ _) Tryz.func126 uC ha ho h
abbrev gf : FuncId := 127
def dG (v : List Value) : Tree :=
 pZ (g v 0) fun v0 =>
 .loop 4 2 [iv 0] fun C4 l1 =>
 pL (g l1 0) v0 fun v2 =>
 .br v2 (
 pI 1 (g v 0) (g l1 0) fun v3 =>
 .load [] v3 1 fun l4 =>
 .callv false (g v 1) [g l4 0] [] [] .one fun l5 _ =>
 .br (g l5 0) (
 .ret (g l1 0) []) (
 pA (g l1 0) (iv 1) fun v6 =>
 .cont 4 C4 [v6] (Es [[g v 0],[g v 1],[v0]]))) (
 .ret (iv (-1)) [])
theorem jK (vs : List Value) : aW PP Tryz.f127 (aG okL [(81, [5, 6, 7, 8])] [(2, .inv [8] [0, 1, 7] [])] []) vs = dG vs := by kernel_rfl
theorem ke {args vs} (ha : an PP Tryz.f127 args = some vs) (ho : Ones vs) {H O Q} (h : (dG vs).den PP Q H O) : Triple PP gf args H O Q :=
 am aY (ao aE _ _ _) Tryz.func127 jK ha ho h
abbrev cU : FuncId := 128
def bR (v : List Value) : Tree :=
 pZ (g v 0) fun v0 =>
 .loop 4 2 [iv 0] fun C4 l1 =>
 pL (g l1 0) v0 fun v2 =>
 .br v2 (
 pI 2 (g v 0) (g l1 0) fun v3 =>
 .load [] v3 2 fun l4 =>
 .callv false (g v 1) [.agg #[g l4 0,g l4 1]] [] [] .one fun l5 _ =>
 .br (g l5 0) (
 .ret (g l1 0) []) (
 pA (g l1 0) (iv 1) fun v6 =>
 .cont 4 C4 [v6] (Es [[g v 0],[g v 1],[v0]]))) (
 .ret (iv (-1)) [])
theorem fk (vs : List Value) : aW PP Tryz.f128 (aG okL [(81, [5, 6, 7, 8])] [(2, .inv [8] [0, 1, 7] [])] []) vs = bR vs := by kernel_rfl
theorem fw {args vs} (ha : an PP Tryz.f128 args = some vs) (ho : Ones vs) {H O Q} (h : (bR vs).den PP Q H O) : Triple PP cU args H O Q :=
 am aY (ao aE _ _ _) Tryz.func128 fk ha ho h
abbrev no : FuncId := 132
def jj (v : List Value) : Tree :=
 .newbox fun r0 =>
 kN r0 <|
 pE (g v 2) (iv (-1)) fun v0 =>
 .br v0 (
 .ret (.bool true) []) (
 kN r0 <|
 cS 79 [g v 0,ag (G12 v 1)] (.agg 14) fun l1 =>
 pE (g l1 1) (iv 2) fun v2 =>
 .ret v2 [])
theorem rx (vs : List Value) : aW PP Tryz.f132 (aG okL [(81, [5, 6, 7, 8])] [] []) vs = jj vs := by kernel_rfl
theorem rW {args vs} (ha : an PP Tryz.f132 args = some vs) (ho : Ones vs) {H O Q} (h : (jj vs).den PP Q H O) : Triple PP no args H O Q :=
 am aY (ao aE _ _ _) Tryz.func132 rx ha ho h
abbrev oN : FuncId := 133
def jL (v : List Value) : Tree :=
 pZ (g v 0) fun v0 =>
 .loop 5 3 [iv 0,iv 0] fun C5 l1 =>
 pL (g l1 1) v0 fun v2 =>
 .br v2 (
 pI 5 (g v 0) (g l1 1) fun v3 =>
 .load [] v3 5 fun l4 =>
 .newbox fun r0 =>
 kN r0 <|
 kN r0 <|
 pN (g l4 1) (iv 0) fun v5 =>
 .br v5 (
 pA (g l1 0) (iv 1) fun v6 =>
 pA (g l1 1) (iv 1) fun v7 =>
 .cont 5 C5 [v6,v7] (Es [[g v 0],[v0]])) (
 pA (g l1 1) (iv 1) fun v8 =>
 .cont 5 C5 [g l1 0,v8] (Es [[g v 0],[v0]]))) (
 .ret (g l1 0) [])
theorem sB (vs : List Value) : aW PP Tryz.f133 (aG okL [(81, [5, 6, 7, 8])] [(3, .inv [3, 8] [6, 7] [])] []) vs = jL vs := by kernel_rfl
theorem sQ {args vs} (ha : an PP Tryz.f133 args = some vs) (ho : Ones vs) {H O Q} (h : (jL vs).den PP Q H O) : Triple PP oN args H O Q :=
 am aY (ao aE _ _ _) Tryz.func133 sB ha ho h
end Go.Proofs.YtieaihgbjikggaaGreat
