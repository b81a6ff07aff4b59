/- The trees of the functions of this seat: printed by a tool of mine; each by the kernel's reckoning equal to the evaluator's. -/
import Derived.Test.YtieaihgbjikggaaGreatBT3
namespace Go.Proofs.YtieaihgbjikggaaGreat
open Go Go.Sx
set_option maxRecDepth 100000
abbrev bR : FuncId := 118
def bN (v : List Value) : Tree :=
 c1 128 [g v 0,g v 1] fun l0 =>
 pE (g l0 0) (iv (-1)) fun v1 =>
 .br v1 (
 .ret (g v 0) []) (
 pA (g l0 0) (iv 1) fun v2 =>
 .loop 10 5 [g l0 0,v2] fun C10 l3 =>
 pZ (g v 0) fun v4 =>
 pL (g l3 1) v4 fun v5 =>
 .br v5 (
 pI 2 (g v 0) (g l3 1) fun v6 =>
 .load [] v6 2 fun l7 =>
 .newbox fun r0 =>
 kN r0 <|
 kN r0 <|
 .callv false (g v 1) [.agg #[g l7 0,g l7 1]] [] [] .one fun l8 _ =>
 pO (g l8 0) fun v9 =>
 .br v9 (
 kN r0 <|
 pI 2 (g v 0) (g l3 0) fun v10 =>
 kP v10 <|
 .store v10 [g l7 0,g l7 1] <|
 pA (g l3 0) (iv 1) fun v11 =>
 pA (g l3 1) (iv 1) fun v12 =>
 .cont 10 C10 [v11,v12] (Es [[g v 0],[g v 1]])) (
 pA (g l3 1) (iv 1) fun v13 =>
 .cont 10 C10 [g l3 0,v13] (Es [[g v 0],[g v 1]]))) (
 .pure [] (.slc 2 true false false) [g v 0,g l3 0] fun v14 =>
 .prim (.bi .clear #[31] 0) [v14] [] [] (.tup []) fun l15 _ =>
 .pure [] (.slc 2 false true false) [g v 0,g l3 0] fun v16 =>
 .ret v16 []))
theorem fc (vs : List Value) : aT PP Tryz.f118 (aE okL [(81, [5, 6, 7, 8])] [(5, .inv [5, 6] [0, 1] [])] []) vs = bN vs := by kernel_rfl
theorem fi {args vs} (ha : an PP Tryz.f118 args = some vs) (ho : Ones vs) {H O Q} (h : (bN vs).den PP Q H O) : Triple PP bR args H O Q :=
 am mixed (ao aB _ _ _) Tryz.func118 fc ha ho h
abbrev lT : FuncId := 119
def ql (v : List Value) : Tree :=
 .newbox fun r0 =>
 kN r0 <|
 .load [] (g v 2) 1 fun l0 =>
 pE (g v 0) (g l0 0) fun v1 =>
 kN r0 <|
 kV v1 <|
 .load [(v1,false)] (g v 2) 1 fun l2 =>
 kV v1 <|
 kV v1 <|
 pE (g v 1) (g l2 0) fun v3 =>
 kV v1 <|
 pK v1 (.bool true) v3 fun v4 =>
 .ret v4 []
theorem yp (vs : List Value) : aT PP Tryz.f119 (aE okL [(81, [5, 6, 7, 8])] [] []) vs = ql vs := by kernel_rfl
theorem y8 {args vs} (ha : an PP Tryz.f119 args = some vs) (ho : Ones vs) {H O Q} (h : (ql vs).den PP Q H O) : Triple PP lT args H O Q :=
 am mixed (ao aB _ _ _) Tryz.func119 yp ha ho h
abbrev jB : FuncId := 120
def eQ (v : List Value) : Tree :=
 .newbox fun r0 =>
 kN r0 <|
 pE (g v 2) (iv (-1)) fun v0 =>
 .br v0 (
 .ret (.bool true) []) (
 kN r0 <|
 cS 46 [g v 0,ag (G12 v 1)] (.agg 14) fun l1 =>
 pE (g l1 1) (iv 2) fun v2 =>
 .ret v2 [])
theorem mS (vs : List Value) : aT PP Tryz.f120 (aE okL [(81, [5, 6, 7, 8])] [] []) vs = eQ vs := by kernel_rfl
theorem nA {args vs} (ha : an PP Tryz.f120 args = some vs) (ho : Ones vs) {H O Q} (h : (eQ vs).den PP Q H O) : Triple PP jB args H O Q :=
 am mixed (ao aB _ _ _) Tryz.func120 mS ha ho h
abbrev cP : FuncId := 121
def bJ (v : List Value) : Tree :=
 pZ (g v 0) fun v0 =>
 .loop 4 2 [iv 0] fun C4 l1 =>
 pL (g l1 0) v0 fun v2 =>
 .br v2 (
 pI 2 (g v 0) (g l1 0) fun v3 =>
 .load [] v3 2 fun l4 =>
 .callv false (g v 1) [.agg #[g l4 0,g l4 1]] [] [] .one fun l5 _ =>
 .br (g l5 0) (
 .ret (g l1 0) []) (
 pA (g l1 0) (iv 1) fun v6 =>
 .cont 4 C4 [v6] (Es [[g v 0],[g v 1],[v0]]))) (
 .ret (iv (-1)) [])
theorem eR (vs : List Value) : aT PP Tryz.f121 (aE okL [(81, [5, 6, 7, 8])] [(2, .inv [8] [0, 1, 7] [])] []) vs = bJ vs := by kernel_rfl
theorem eW {args vs} (ha : an PP Tryz.f121 args = some vs) (ho : Ones vs) {H O Q} (h : (bJ vs).den PP Q H O) : Triple PP cP args H O Q :=
 am mixed (ao aB _ _ _) Tryz.func121 eR ha ho h
abbrev jZ : FuncId := 125
def eU (l1001 : List Value) (C1002 : List Value → Heap → Own → Prop) (l1003 l1004 : List Value) (r1005 : Nat) (v1006 : Value) : Tree :=
 pA (g l1001 1) (iv 1) fun v13 =>
 .cont 15 C1002 [g l1003 0,v13] (Es [[g l1004 0],[g l1004 39],[pt r1005 0],[g l1004 1],[v1006],((pt r1005 0)::G38 l1004 1)])
def mE (r1007 r1008 : Nat) (l1009 : List Value) (n1010 : Nat) (l1011 l1012 : List Value) (C1013 : List Value → Heap → Own → Prop) (v1014 : Value) : Tree :=
 kN r1007 <|
 kN r1008 <|
 c1 106 [g l1009 n1010,g l1011 0] fun l11 =>
 .br (g l11 0) (
 kN r1008 <|
 .newbox fun r2 =>
 .prim (.bi .append #[26,26] 26) [g l1012 0,.slice (some ⟨r2,0,none⟩) 1 1] [⟨r2,3,[g l1011 0]⟩] [] .one fun l12 _ =>
 eU l1012 C1013 l12 l1009 r1007 v1014) (
 eU l1012 C1013 l1012 l1009 r1007 v1014)
def jY (v : List Value) : Tree :=
 .newbox fun r0 =>
 c1 70 [g v 39,iv 0,iv 1] fun l0 =>
 pO (g l0 0) fun v1 =>
 .br v1 (
 .ret (.slice none 0 0) []) (
 kN r0 <|
 c1 42 [ag (G38 v 1)] fun l2 =>
 pO (g l2 0) fun v3 =>
 .br v3 (
 .ret (.slice none 0 0) []) (
 kN r0 <|
 pZ (g v 1) fun v4 =>
 .loop 15 5 [.slice none 0 0,iv 0] fun C15 l5 =>
 pL (g l5 1) v4 fun v6 =>
 .br v6 (
 pI 12 (g v 1) (g l5 1) fun v7 =>
 .load [] v7 12 fun l8 =>
 .newbox fun r1 =>
 kN r1 <|
 kN r1 <|
 pE (g l8 2) (g v 39) fun v9 =>
 .br v9 (
 kN r1 <|
 c1 132 [g v 0,ag (G12 l8 0)] fun l10 =>
 .br (g l10 0) (
 .sw (g v 39) 0 (
 mE r0 r1 v 9 l8 l5 C15 v4) (
 .sw (g v 39) 1 (
 mE r0 r1 v 23 l8 l5 C15 v4) (
 .stuck 901))) (
 eU l5 C15 l5 v r0 v4)) (
 eU l5 C15 l5 v r0 v4)) (
 .ret (g l5 0) [])))
theorem tJ (vs : List Value) : aT PP Tryz.f125 (aE okL [(81, [5, 6, 7, 8])] [(5, .inv [7, 21] [0, 2, 4, 19, 20] [(4, [])])] []) vs = jY vs := by kernel_rfl
theorem uj {args vs} (ha : an PP Tryz.f125 args = some vs) (ho : Ones vs) {H O Q} (h : (jY vs).den PP Q H O) : Triple PP jZ args H O Q :=
 am mixed (ao aB _ _ _) Tryz.func125 tJ ha ho h
abbrev tX : FuncId := 126
def nO (v : List Value) : Tree :=
 .newbox fun r0 =>
 kN r0 <|
 cS 45 [g v 0,.agg #[iv 0,g v 3,iv 0,iv 0,iv 0,iv 0,iv 0,iv 0,iv 0,.bool false,.bool false,.bool false]] (.agg 14) fun l0 =>
 .newbox fun r1 =>
 kN r1 <|
 kN r1 <|
 pE (g l0 1) (iv 3) fun v1 =>
 kN r1 <|
 kV v1 <|
 kV v1 <|
 pE (g l0 1) (iv 4) fun v2 =>
 kV v1 <|
 pK v1 (.bool true) v2 fun v3 =>
 kN r0 <|
 kV v3 <|
 kV v3 <|
 pL (g v 4) (iv 0) fun v4 =>
 kV v3 <|
 pK v3 v4 (.bool false) fun v5 =>
 .br v5 (
 kN r0 <|
 pZ (g v 5) fun v6 =>
 kN r1 <|
 c1 133 [g l0 11] fun l7 =>
 pH v6 (g l7 0) fun v8 =>
 .ret v8 []) (
 .ret (.bool false) [])
theorem wZ (vs : List Value) : aT PP Tryz.f126 (aE okL [(81, [5, 6, 7, 8])] [] []) vs = nO vs := by kernel_rfl
theorem xQ {args vs} (ha : an PP Tryz.f126 args = some vs) (ho : Ones vs) {H O Q} (h : (nO vs).den PP Q H O) : Triple PP tX args H O Q :=
 am mixed (ao aB _ _ _) Tryz.func126 wZ ha ho h
abbrev gx : FuncId := 127
def dP (v : List Value) : Tree :=
 pZ (g v 0) fun v0 =>
 .loop 4 2 [iv 0] fun C4 l1 =>
 pL (g l1 0) v0 fun v2 =>
 .br v2 (
 pI 1 (g v 0) (g l1 0) fun v3 =>
 .load [] v3 1 fun l4 =>
 .callv false (g v 1) [g l4 0] [] [] .one fun l5 _ =>
 .br (g l5 0) (
 .ret (g l1 0) []) (
 pA (g l1 0) (iv 1) fun v6 =>
 .cont 4 C4 [v6] (Es [[g v 0],[g v 1],[v0]]))) (
 .ret (iv (-1)) [])
theorem kL (vs : List Value) : aT PP Tryz.f127 (aE okL [(81, [5, 6, 7, 8])] [(2, .inv [8] [0, 1, 7] [])] []) vs = dP vs := by kernel_rfl
theorem lE {args vs} (ha : an PP Tryz.f127 args = some vs) (ho : Ones vs) {H O Q} (h : (dP vs).den PP Q H O) : Triple PP gx args H O Q :=
 am mixed (ao aB _ _ _) Tryz.func127 kL ha ho h
abbrev dd : FuncId := 128
def bU (v : List Value) : Tree :=
 pZ (g v 0) fun v0 =>
 .loop 4 2 [iv 0] fun C4 l1 =>
 pL (g l1 0) v0 fun v2 =>
 .br v2 (
 pI 2 (g v 0) (g l1 0) fun v3 =>
 .load [] v3 2 fun l4 =>
 .callv false (g v 1) [.agg #[g l4 0,g l4 1]] [] [] .one fun l5 _ =>
 .br (g l5 0) (
 .ret (g l1 0) []) (
 pA (g l1 0) (iv 1) fun v6 =>
 .cont 4 C4 [v6] (Es [[g v 0],[g v 1],[v0]]))) (
 .ret (iv (-1)) [])
theorem fD (vs : List Value) : aT PP Tryz.f128 (aE okL [(81, [5, 6, 7, 8])] [(2, .inv [8] [0, 1, 7] [])] []) vs = bU vs := by kernel_rfl
theorem fJ {args vs} (ha : an PP Tryz.f128 args = some vs) (ho : Ones vs) {H O Q} (h : (bU vs).den PP Q H O) : Triple PP dd args H O Q :=
 am mixed (ao aB _ _ _) Tryz.func128 fD ha ho h
abbrev oR : FuncId := 132
def jX (v : List Value) : Tree :=
 .newbox fun r0 =>
 kN r0 <|
 pE (g v 2) (iv (-1)) fun v0 =>
 .br v0 (
 .ret (.bool true) []) (
 kN r0 <|
 cS 79 [g v 0,ag (G12 v 1)] (.agg 14) fun l1 =>
 pE (g l1 1) (iv 2) fun v2 =>
 .ret v2 [])
theorem tI (vs : List Value) : aT PP Tryz.f132 (aE okL [(81, [5, 6, 7, 8])] [] []) vs = jX vs := by kernel_rfl
theorem ui {args vs} (ha : an PP Tryz.f132 args = some vs) (ho : Ones vs) {H O Q} (h : (jX vs).den PP Q H O) : Triple PP oR args H O Q :=
 am mixed (ao aB _ _ _) Tryz.func132 tI ha ho h
abbrev qE : FuncId := 133
def kM (v : List Value) : Tree :=
 pZ (g v 0) fun v0 =>
 .loop 5 3 [iv 0,iv 0] fun C5 l1 =>
 pL (g l1 1) v0 fun v2 =>
 .br v2 (
 pI 5 (g v 0) (g l1 1) fun v3 =>
 .load [] v3 5 fun l4 =>
 .newbox fun r0 =>
 kN r0 <|
 kN r0 <|
 pN (g l4 1) (iv 0) fun v5 =>
 .br v5 (
 pA (g l1 0) (iv 1) fun v6 =>
 pA (g l1 1) (iv 1) fun v7 =>
 .cont 5 C5 [v6,v7] (Es [[g v 0],[v0]])) (
 pA (g l1 1) (iv 1) fun v8 =>
 .cont 5 C5 [g l1 0,v8] (Es [[g v 0],[v0]]))) (
 .ret (g l1 0) [])
theorem uH (vs : List Value) : aT PP Tryz.f133 (aE okL [(81, [5, 6, 7, 8])] [(3, .inv [3, 8] [6, 7] [])] []) vs = kM vs := by kernel_rfl
theorem u4 {args vs} (ha : an PP Tryz.f133 args = some vs) (ho : Ones vs) {H O Q} (h : (kM vs).den PP Q H O) : Triple PP qE args H O Q :=
 am mixed (ao aB _ _ _) Tryz.func133 uH ha ho h
end Go.Proofs.YtieaihgbjikggaaGreat
