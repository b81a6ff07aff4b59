/- The trees of the functions of this seat: printed by a tool of mine; each by the kernel's reckoning equal to the evaluator's. -/
import Derived.Test.YtieaihgbjikggaaGreatFw2
import Derived.Test.YtieaihgbjikggaaGreatProg
import Derived.KernelRfl
namespace Go.Proofs.YtieaihgbjikggaaGreat
open Go Go.Sx
set_option maxRecDepth 100000
noncomputable abbrev PP : Program := Tryz.prog
theorem mixed : PP.follows .mixedOrders = true := by kernel_rfl
def okL : List Nat := [2, 3, 4, 5, 6, 7, 8, 9, 10, 11, 12, 13, 14, 15, 16, 17, 18, 19, 20, 21, 22, 23, 24, 25, 26, 27, 28, 29, 30, 31, 32, 33, 34, 35, 36, 37, 38, 39, 40, 41, 42, 43, 44, 45, 46, 47, 48, 49, 50, 51, 52, 53, 54, 55, 56, 57, 58, 59, 60, 61, 62, 63, 64, 65, 66, 67, 68, 69, 70, 71, 72, 73, 74, 75, 76, 77, 78, 79, 80, 81, 82, 83, 84, 85, 86, 87, 88, 89, 90, 91, 92, 93, 94, 95, 96, 97, 98, 99, 100, 101, 102, 103, 104, 105, 106, 107, 108, 109, 110, 111, 112, 113, 114, 115, 116, 117, 118, 119, 120, 121, 122, 123, 124, 125, 126, 127, 128, 129, 130, 131, 132, 133, 134, 135, 136, 137, 138, 139, 140, 141, 142, 143, 144, 145, 146, 147, 148, 149]
theorem okL_ok : okL.all (okFnB PP) = true := by kernel_rfl
abbrev Ty_int : TypeId := 3
abbrev Ty_bool : TypeId := 4
abbrev Ty_api_Item : TypeId := 41
abbrev Ty_api_Target : TypeId := 43
abbrev Ty_api_Effect : TypeId := 56
abbrev Ty_api_Trigger : TypeId := 89
abbrev Ty_map_int_int : TypeId := 150
abbrev Ty_map_int_bool : TypeId := 152
abbrev F_zeitnotlaw18_StackEffects : FuncId := 4
/- zeitnot/zeitnotlaw18.StackEffects -/
def T_zeitnotlaw18_StackEffects (v : List Value) : Tree :=
 .newbox fun r0 =>
 .call false 8 [g v 0] [] [] .one fun l0 _ =>
 .pure [] .not [g l0 0] fun v1 =>
 .chk (.eqN r0 r0) <|
 .chk (.eqV v1 v1) <|
 .chk (.eqV v1 v1) <|
 .pure [] .len [g v 5] fun v2 =>
 .chk (.eqV v1 v1) <|
 .pure [] (.bin .gtr .int) [v2,(.int .i64 6)] fun v3 =>
 .chk (.eqV v1 v1) <|
 .pure [] .pick [v1,(.bool true),v3] fun v4 =>
 .br v4 (
 .call false 11 [] [] [] .one fun l5 _ =>
 .ret (g l5 0) []) (
 .chk (.eqN r0 r0) <|
 .chk (.eqN r0 r0) <|
 .call false 15 [g v 0,(.agg #[g v 1,g v 2,g v 3,g v 4,g v 5])] [] [] .one fun l6 _ =>
 .call false 16 [g v 0,(.agg #[g v 1,g v 2,g v 3,g v 4,g v 5])] [] [] .one fun l7 _ =>
 .pure [] .len [g l6 0] fun v8 =>
 .pure [] .len [g l7 0] fun v9 =>
 .pure [] (.bin .neq .int) [v8,v9] fun v10 =>
 .br v10 (
 .ret (.bool false) []) (
 .loop 25 7 [(.int .i64 0)] fun C25 l11 =>
 .pure [] .len [g l6 0] fun v12 =>
 .pure [] (.bin .lss .int) [g l11 0,v12] fun v13 =>
 .br v13 (
 .pure [] (.idx 5) [g l6 0,g l11 0] fun v14 =>
 .load [] v14 5 fun l15 =>
 .pure [] (.idx 5) [g l7 0,g l11 0] fun v16 =>
 .load [] v16 5 fun l17 =>
 .raw [] (.eqv .neq 56 false) [(.agg #[g l15 0,g l15 1,g l15 2,g l15 3,g l15 4]),(.agg #[g l17 0,g l17 1,g l17 2,g l17 3,g l17 4])] fun v18 =>
 .br v18 (
 .ret (.bool false) []) (
 .pure [] (.idx 5) [g l6 0,g l11 0] fun v19 =>
 .chk (.ptr [] v19) <|
 .load [] (ptrAdd v19 2) 1 fun l20 =>
 .pure [] (.bin .add .int) [g l20 0,(.int .i64 1)] fun v21 =>
 .pure [] (.idx 5) [g l6 0,g l11 0] fun v22 =>
 .chk (.ptr [] v22) <|
 .chk (.ptr [] (ptrAdd v22 2)) <|
 .store (ptrAdd v22 2) [v21] <|
 .pure [] (.idx 5) [g l7 0,g l11 0] fun v23 =>
 .load [] v23 5 fun l24 =>
 .pure [] (.idx 5) [g l6 0,g l11 0] fun v25 =>
 .load [] v25 5 fun l26 =>
 .raw [] (.eqv .eql 56 false) [(.agg #[g l24 0,g l24 1,g l24 2,g l24 3,g l24 4]),(.agg #[g l26 0,g l26 1,g l26 2,g l26 3,g l26 4])] fun v27 =>
 .br v27 (
 .ret (.bool false) []) (
 .pure [] (.bin .add .int) [g l11 0,(.int .i64 1)] fun v28 =>
 .cont 25 C25 [v28] [E [g l6 0],E [g l7 0]]))) (
 .call false 11 [] [] [] .one fun l29 _ =>
 .ret (g l29 0) [])))
theorem T_zeitnotlaw18_StackEffects_eq (vs : List Value) : sxFun PP Tryz.f4 (mkOpts okL [(81, [5, 6, 7, 8])] [(7, .inv [7] [5, 6] [])] []) vs = T_zeitnotlaw18_StackEffects vs := by kernel_rfl
theorem run_zeitnotlaw18_StackEffects {args vs} (ha : entryArgs PP Tryz.f4 args = some vs) (ho : Ones vs) {H O Q} (h : (T_zeitnotlaw18_StackEffects vs).den PP Q H O) : Triple PP F_zeitnotlaw18_StackEffects args H O Q :=
 triple_run mixed (mkOpts_ok okL_ok _ _ _) Tryz.func4 T_zeitnotlaw18_StackEffects_eq ha ho h
abbrev F_zeitnotlaw18_light : FuncId := 8
/- zeitnot/zeitnotlaw18.light -/
def T_zeitnotlaw18_light (v : List Value) : Tree :=
 .loop 2 2 [(.int .i64 0)] fun C2 l0 =>
 .pure [] .len [g v 0] fun v1 =>
 .pure [] (.bin .lss .int) [g l0 0,v1] fun v2 =>
 .chk (.eqV v2 v2) <|
 .pure [] (.bin .lss .int) [g l0 0,(.int .i64 13)] fun v3 =>
 .chk (.eqV v2 v2) <|
 .pure [] .pick [v2,v3,(.bool false)] fun v4 =>
 .br v4 (
 .pure [] (.idx 14) [g v 0,g l0 0] fun v5 =>
 .chk (.ptr [] v5) <|
 .load [] (ptrAdd v5 11) 1 fun l6 =>
 .pure [] .len [g l6 0] fun v7 =>
 .pure [] (.bin .gtr .int) [v7,(.int .i64 5)] fun v8 =>
 .chk (.eqV v8 v8) <|
 .chk (.eqV v8 v8) <|
 .pure [(v8,false)] (.idx 14) [g v 0,g l0 0] fun v9 =>
 .chk (.ptr [(v8,false)] v9) <|
 .chk (.eqV v8 v8) <|
 .chk (.eqV v8 v8) <|
 .load [(v8,false)] (ptrAdd v9 12) 1 fun l10 =>
 .chk (.eqV v8 v8) <|
 .pure [] .len [g l10 0] fun v11 =>
 .chk (.eqV v8 v8) <|
 .pure [] (.bin .gtr .int) [v11,(.int .i64 3)] fun v12 =>
 .chk (.eqV v8 v8) <|
 .pure [] .pick [v8,(.bool true),v12] fun v13 =>
 .br v13 (
 .ret (.bool false) []) (
 .loop 28 7 [(.int .i64 0)] fun C28 l14 =>
 .pure [] (.idx 14) [g v 0,g l0 0] fun v15 =>
 .chk (.ptr [] v15) <|
 .load [] (ptrAdd v15 12) 1 fun l16 =>
 .pure [] .len [g l16 0] fun v17 =>
 .pure [] (.bin .lss .int) [g l14 0,v17] fun v18 =>
 .br v18 (
 .pure [] (.idx 14) [g v 0,g l0 0] fun v19 =>
 .chk (.ptr [] v19) <|
 .load [] (ptrAdd v19 12) 1 fun l20 =>
 .pure [] (.idx 2) [g l20 0,g l14 0] fun v21 =>
 .chk (.ptr [] v21) <|
 .load [] (ptrAdd v21 1) 1 fun l22 =>
 .pure [] .len [g l22 0] fun v23 =>
 .pure [] (.bin .gtr .int) [v23,(.int .i64 5)] fun v24 =>
 .br v24 (
 .ret (.bool false) []) (
 .pure [] (.bin .add .int) [g l14 0,(.int .i64 1)] fun v25 =>
 .cont 28 C28 [v25] [E [g v 0],E [g l0 0]])) (
 .pure [] (.bin .add .int) [g l0 0,(.int .i64 1)] fun v26 =>
 .cont 2 C2 [v26] [E [g v 0]]))) (
 .pure [] .len [g v 0] fun v27 =>
 .pure [] (.bin .leq .int) [v27,(.int .i64 12)] fun v28 =>
 .ret v28 [])
theorem T_zeitnotlaw18_light_eq (vs : List Value) : sxFun PP Tryz.f8 (mkOpts okL [(81, [5, 6, 7, 8])] [(2, .inv [3] [0] []), (7, .inv [4] [0, 3] [])] []) vs = T_zeitnotlaw18_light vs := by kernel_rfl
theorem run_zeitnotlaw18_light {args vs} (ha : entryArgs PP Tryz.f8 args = some vs) (ho : Ones vs) {H O Q} (h : (T_zeitnotlaw18_light vs).den PP Q H O) : Triple PP F_zeitnotlaw18_light args H O Q :=
 triple_run mixed (mkOpts_ok okL_ok _ _ _) Tryz.func8 T_zeitnotlaw18_light_eq ha ho h
abbrev F_zeitnotlaw18_known : FuncId := 11
end Go.Proofs.YtieaihgbjikggaaGreat
