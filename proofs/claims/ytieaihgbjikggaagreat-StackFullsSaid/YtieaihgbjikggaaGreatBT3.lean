/- The trees of the functions of this seat: printed by a tool of mine; each by the kernel's reckoning equal to the evaluator's. -/
import Derived.Test.YtieaihgbjikggaaGreatBT2
namespace Go.Proofs.YtieaihgbjikggaaGreat
open Go Go.Sx
set_option maxRecDepth 100000
abbrev F_board_Where : FuncId := 48
/- zeitnot/board.Where -/
def T_board_Where (v : List Value) : Tree :=
 .newbox fun r0 =>
 .newbox fun r1 =>
 .newbox fun r2 =>
 .chk (.eqN r0 r0) <|
 .chk (.eqN r1 r1) <|
 .call false 80 [(.agg #[g v 0,g v 1,g v 2,g v 3,g v 4,g v 5,g v 6,g v 7,g v 8,g v 9,g v 10,g v 11,g v 12,g v 13,g v 14,g v 15,g v 16,g v 17,g v 18,g v 19,g v 20,g v 21,g v 22,g v 23,g v 24,g v 25,g v 26,g v 27,g v 28,g v 29,g v 30,g v 31,g v 32,g v 33,g v 34,g v 35,g v 36,g v 37]),g v 38] [] [] (.tup [none,none]) fun l0 _ =>
 .pure [] (.bin .neq .int) [g l0 1,(.int .i64 0)] fun v1 =>
 .br v1 (
 .chk (.eqN r2 r2) <|
 .chk (.eqN r2 r2) <|
 .ret (.tuple #[(.agg #[(.int .i64 0),(.int .i64 0),(.int .i64 0)]),g l0 1]) []) (
 .call false 81 [(.pointer (some ⟨r0,1,none⟩))] [] [] (.agg 4) fun l2 _ =>
 .chk (.eqV (g l2 0) (.pointer (some ⟨r0,6,none⟩))) <|
 .chk (.eqV (g l2 1) (.pointer (some ⟨r0,7,none⟩))) <|
 .chk (.eqV (g l2 2) (.pointer (some ⟨r0,8,none⟩))) <|
 .chk (.eqV (g l2 3) (.pointer (some ⟨r0,9,none⟩))) <|
 .chk (.eqN r0 r0) <|
 .chk (.eqN r1 r1) <|
 .call false 82 [g v 6,g v 38] [] [] .one fun l3 _ =>
 .pure [] (.bin .geq .int) [g l3 0,(.int .i64 0)] fun v4 =>
 .br v4 (
 .chk (.eqN r2 r2) <|
 .chk (.eqN r2 r2) <|
 .ret (.tuple #[(.agg #[(.int .i64 0),(.int .i64 0),g l3 0]),(.int .i64 0)]) []) (
 .chk (.eqN r0 r0) <|
 .chk (.eqN r1 r1) <|
 .call false 82 [g v 7,g v 38] [] [] .one fun l5 _ =>
 .pure [] (.bin .geq .int) [g l5 0,(.int .i64 0)] fun v6 =>
 .br v6 (
 .chk (.eqN r2 r2) <|
 .chk (.eqN r2 r2) <|
 .ret (.tuple #[(.agg #[(.int .i64 0),(.int .i64 1),g l5 0]),(.int .i64 0)]) []) (
 .chk (.eqN r0 r0) <|
 .chk (.eqN r1 r1) <|
 .call false 82 [g v 8,g v 38] [] [] .one fun l7 _ =>
 .pure [] (.bin .geq .int) [g l7 0,(.int .i64 0)] fun v8 =>
 .br v8 (
 .chk (.eqN r2 r2) <|
 .chk (.eqN r2 r2) <|
 .ret (.tuple #[(.agg #[(.int .i64 0),(.int .i64 2),g l7 0]),(.int .i64 0)]) []) (
 .chk (.eqN r0 r0) <|
 .chk (.eqN r1 r1) <|
 .call false 82 [g v 9,g v 38] [] [] .one fun l9 _ =>
 .pure [] (.bin .geq .int) [g l9 0,(.int .i64 0)] fun v10 =>
 .br v10 (
 .chk (.eqN r2 r2) <|
 .chk (.eqN r2 r2) <|
 .ret (.tuple #[(.agg #[(.int .i64 0),(.int .i64 3),g l9 0]),(.int .i64 0)]) []) (
 .call false 81 [(.pointer (some ⟨r0,15,none⟩))] [] [] (.agg 4) fun l11 _ =>
 .chk (.eqV (g l11 0) (.pointer (some ⟨r0,20,none⟩))) <|
 .chk (.eqV (g l11 1) (.pointer (some ⟨r0,21,none⟩))) <|
 .chk (.eqV (g l11 2) (.pointer (some ⟨r0,22,none⟩))) <|
 .chk (.eqV (g l11 3) (.pointer (some ⟨r0,23,none⟩))) <|
 .chk (.eqN r0 r0) <|
 .chk (.eqN r1 r1) <|
 .call false 82 [g v 20,g v 38] [] [] .one fun l12 _ =>
 .pure [] (.bin .geq .int) [g l12 0,(.int .i64 0)] fun v13 =>
 .br v13 (
 .chk (.eqN r2 r2) <|
 .chk (.eqN r2 r2) <|
 .ret (.tuple #[(.agg #[(.int .i64 1),(.int .i64 0),g l12 0]),(.int .i64 0)]) []) (
 .chk (.eqN r0 r0) <|
 .chk (.eqN r1 r1) <|
 .call false 82 [g v 21,g v 38] [] [] .one fun l14 _ =>
 .pure [] (.bin .geq .int) [g l14 0,(.int .i64 0)] fun v15 =>
 .br v15 (
 .chk (.eqN r2 r2) <|
 .chk (.eqN r2 r2) <|
 .ret (.tuple #[(.agg #[(.int .i64 1),(.int .i64 1),g l14 0]),(.int .i64 0)]) []) (
 .chk (.eqN r0 r0) <|
 .chk (.eqN r1 r1) <|
 .call false 82 [g v 22,g v 38] [] [] .one fun l16 _ =>
 .pure [] (.bin .geq .int) [g l16 0,(.int .i64 0)] fun v17 =>
 .br v17 (
 .chk (.eqN r2 r2) <|
 .chk (.eqN r2 r2) <|
 .ret (.tuple #[(.agg #[(.int .i64 1),(.int .i64 2),g l16 0]),(.int .i64 0)]) []) (
 .chk (.eqN r0 r0) <|
 .chk (.eqN r1 r1) <|
 .call false 82 [g v 23,g v 38] [] [] .one fun l18 _ =>
 .pure [] (.bin .geq .int) [g l18 0,(.int .i64 0)] fun v19 =>
 .br v19 (
 .chk (.eqN r2 r2) <|
 .chk (.eqN r2 r2) <|
 .ret (.tuple #[(.agg #[(.int .i64 1),(.int .i64 3),g l18 0]),(.int .i64 0)]) []) (
 .chk (.eqN r0 r0) <|
 .call false 83 [g v 29,(.func (.func 84) #[] #[(.pointer (some ⟨r1,0,none⟩))])] [] [⟨r1,3,[g v 38]⟩] .one fun l20 c20 =>
 .chk (.eqN r0 r0) <|
 .pure [] (.idx 5) [g v 29,g l20 0] fun v21 =>
 .chk (.ptr [] v21) <|
 .load [] v21 1 fun l22 =>
 .chk (.eqN r2 r2) <|
 .chk (.eqN r2 r2) <|
 .ret (.tuple #[(.agg #[g l22 0,(.int .i64 4),g l20 0]),(.int .i64 0)]) [])))))))))
theorem T_board_Where_eq (vs : List Value) : sxFun PP Tryz.f48 (mkOpts okL [(81, [5, 6, 7, 8])] [(5, .unroll 3), (8, .unroll 5)] []) vs = T_board_Where vs := by kernel_rfl
theorem run_board_Where {args vs} (ha : entryArgs PP Tryz.f48 args = some vs) (ho : Ones vs) {H O Q} (h : (T_board_Where vs).den PP Q H O) : Triple PP F_board_Where args H O Q :=
 triple_run mixed (mkOpts_ok okL_ok _ _ _) Tryz.func48 T_board_Where_eq ha ho h
abbrev F_board_Find : FuncId := 49
/- zeitnot/board.Find -/
def T_board_Find (v : List Value) : Tree :=
 .newbox fun r0 =>
 .newbox fun r1 =>
 .chk (.eqN r0 r0) <|
 .call false 80 [(.agg #[g v 0,g v 1,g v 2,g v 3,g v 4,g v 5,g v 6,g v 7,g v 8,g v 9,g v 10,g v 11,g v 12,g v 13,g v 14,g v 15,g v 16,g v 17,g v 18,g v 19,g v 20,g v 21,g v 22,g v 23,g v 24,g v 25,g v 26,g v 27,g v 28,g v 29,g v 30,g v 31,g v 32,g v 33,g v 34,g v 35,g v 36,g v 37]),g v 38] [] [] (.tup [none,none]) fun l0 _ =>
 .pure [] (.bin .neq .int) [g l0 1,(.int .i64 0)] fun v1 =>
 .br v1 (
 .chk (.eqN r1 r1) <|
 .chk (.eqN r1 r1) <|
 .ret (.tuple #[(.agg #[(.int .i64 0),(.int .i64 0),(.int .i64 0),(.int .i64 0),(.int .i64 0),(.int .i64 0),(.int .i64 0),(.int .i64 0),(.int .i64 0),(.bool false),(.bool false),(.bool false)]),g l0 1]) []) (
 .chk (.eqN r0 r0) <|
 .pure [] (.idx 12) [g v 0,g l0 0] fun v2 =>
 .load [] v2 12 fun l3 =>
 .chk (.eqN r1 r1) <|
 .chk (.eqN r1 r1) <|
 .ret (.tuple #[(.agg #[g l3 0,g l3 1,g l3 2,g l3 3,g l3 4,g l3 5,g l3 6,g l3 7,g l3 8,g l3 9,g l3 10,g l3 11]),(.int .i64 0)]) [])
theorem T_board_Find_eq (vs : List Value) : sxFun PP Tryz.f49 (mkOpts okL [(81, [5, 6, 7, 8])] [] []) vs = T_board_Find vs := by kernel_rfl
theorem run_board_Find {args vs} (ha : entryArgs PP Tryz.f49 args = some vs) (ho : Ones vs) {H O Q} (h : (T_board_Find vs).den PP Q H O) : Triple PP F_board_Find args H O Q :=
 triple_run mixed (mkOpts_ok okL_ok _ _ _) Tryz.func49 T_board_Find_eq ha ho h
abbrev F_board_Copy : FuncId := 50
/- zeitnot/board.Copy -/
def T_board_Copy (v : List Value) : Tree :=
 .newbox fun r0 =>
 .newbox fun r1 =>
 .chk (.eqN r0 r0) <|
 .chk (.eqN r0 r0) <|
 .chk (.eqN r0 r0) <|
 .call false 85 [g v 0] [] [] .one fun l0 _ =>
 .call false 86 [g v 31] [] [] .one fun l1 _ =>
 .call false 87 [g v 32] [] [] .one fun l2 _ =>
 .chk (.eqN r0 r0) <|
 .chk (.eqN r0 r0) <|
 .chk (.eqN r0 r0) <|
 .chk (.eqN r0 r0) <|
 .chk (.eqN r0 r0) <|
 .call false 88 [g v 29] [] [] .one fun l3 _ =>
 .call false 88 [g v 30] [] [] .one fun l4 _ =>
 .chk (.eqN r0 r0) <|
 .chk (.eqN r0 r0) <|
 .call false 81 [(.pointer (some ⟨r0,1,none⟩))] [] [] (.agg 4) fun l5 _ =>
 .chk (.eqV (g l5 0) (.pointer (some ⟨r0,6,none⟩))) <|
 .chk (.eqV (g l5 1) (.pointer (some ⟨r0,7,none⟩))) <|
 .chk (.eqV (g l5 2) (.pointer (some ⟨r0,8,none⟩))) <|
 .chk (.eqV (g l5 3) (.pointer (some ⟨r0,9,none⟩))) <|
 .chk (.eqN r0 r0) <|
 .call false 86 [g v 6] [] [] .one fun l6 _ =>
 .chk (.eqN r0 r0) <|
 .chk (.eqN r0 r0) <|
 .call false 86 [g v 7] [] [] .one fun l7 _ =>
 .chk (.eqN r0 r0) <|
 .chk (.eqN r0 r0) <|
 .call false 86 [g v 8] [] [] .one fun l8 _ =>
 .chk (.eqN r0 r0) <|
 .chk (.eqN r0 r0) <|
 .call false 86 [g v 9] [] [] .one fun l9 _ =>
 .chk (.eqN r0 r0) <|
 .call false 81 [(.pointer (some ⟨r0,15,none⟩))] [] [] (.agg 4) fun l10 _ =>
 .chk (.eqV (g l10 0) (.pointer (some ⟨r0,20,none⟩))) <|
 .chk (.eqV (g l10 1) (.pointer (some ⟨r0,21,none⟩))) <|
 .chk (.eqV (g l10 2) (.pointer (some ⟨r0,22,none⟩))) <|
 .chk (.eqV (g l10 3) (.pointer (some ⟨r0,23,none⟩))) <|
 .chk (.eqN r0 r0) <|
 .call false 86 [g v 20] [] [] .one fun l11 _ =>
 .chk (.eqN r0 r0) <|
 .chk (.eqN r0 r0) <|
 .call false 86 [g v 21] [] [] .one fun l12 _ =>
 .chk (.eqN r0 r0) <|
 .chk (.eqN r0 r0) <|
 .call false 86 [g v 22] [] [] .one fun l13 _ =>
 .chk (.eqN r0 r0) <|
 .chk (.eqN r0 r0) <|
 .call false 86 [g v 23] [] [] .one fun l14 _ =>
 .chk (.eqN r0 r0) <|
 .chk (.eqN r0 r0) <|
 .chk (.eqN r1 r1) <|
 .chk (.eqN r1 r1) <|
 .ret (.agg #[g l0 0,g v 1,g v 2,g v 3,g v 4,g v 5,g l6 0,g l7 0,g l8 0,g l9 0,g v 10,g v 11,g v 12,g v 13,g v 14,g v 15,g v 16,g v 17,g v 18,g v 19,g l11 0,g l12 0,g l13 0,g l14 0,g v 24,g v 25,g v 26,g v 27,g v 28,g l3 0,g l4 0,g l1 0,g l2 0,g v 33,g v 34,g v 35,g v 36,g v 37]) []
theorem T_board_Copy_eq (vs : List Value) : sxFun PP Tryz.f50 (mkOpts okL [(81, [5, 6, 7, 8])] [(4, .unroll 3), (7, .unroll 5)] []) vs = T_board_Copy vs := by kernel_rfl
theorem run_board_Copy {args vs} (ha : entryArgs PP Tryz.f50 args = some vs) (ho : Ones vs) {H O Q} (h : (T_board_Copy vs).den PP Q H O) : Triple PP F_board_Copy args H O Q :=
 triple_run mixed (mkOpts_ok okL_ok _ _ _) Tryz.func50 T_board_Copy_eq ha ho h
abbrev F_slices_Delete_int_int : FuncId := 51
/- slices.Delete[[]int,int] -/
def T_slices_Delete_int_int (v : List Value) : Tree :=
 .pure [] .len [g v 0] fun v0 =>
 .pure [] (.slc 1 true true true) [g v 0,g v 1,g v 2,v0] fun v1 =>
 .pure [] (.bin .eql .int) [g v 1,g v 2] fun v2 =>
 .br v2 (
 .ret (g v 0) []) (
 .pure [] .len [g v 0] fun v3 =>
 .pure [] (.slc 1 false true false) [g v 0,g v 1] fun v4 =>
 .pure [] (.slc 1 true false false) [g v 0,g v 2] fun v5 =>
 .prim (.bi .append #[26,26] 26) [v4,v5] [] [] .one fun l6 _ =>
 .pure [] .len [g l6 0] fun v7 =>
 .pure [] (.slc 1 true true false) [g l6 0,v7,v3] fun v8 =>
 .prim (.bi .clear #[26] 0) [v8] [] [] (.tup []) fun l9 _ =>
 .ret (g l6 0) [])
theorem T_slices_Delete_int_int_eq (vs : List Value) : sxFun PP Tryz.f51 (mkOpts okL [(81, [5, 6, 7, 8])] [] []) vs = T_slices_Delete_int_int vs := by kernel_rfl
theorem run_slices_Delete_int_int {args vs} (ha : entryArgs PP Tryz.f51 args = some vs) (ho : Ones vs) {H O Q} (h : (T_slices_Delete_int_int vs).den PP Q H O) : Triple PP F_slices_Delete_int_int args H O Q :=
 triple_run mixed (mkOpts_ok okL_ok _ _ _) Tryz.func51 T_slices_Delete_int_int_eq ha ho h
abbrev F_slices_BinarySearchFunc_api_Object_api_Object_int : FuncId := 52
/- slices.BinarySearchFunc[[]zeitnot/api.Object,zeitnot/api.Object,int] -/
def T_slices_BinarySearchFunc_api_Object_api_Object_int (v : List Value) : Tree :=
 .pure [] .len [g v 0] fun v0 =>
 .loop 8 3 [(.int .i64 0),v0] fun C8 l1 =>
 .pure [] (.bin .lss .int) [g l1 0,g l1 1] fun v2 =>
 .br v2 (
 .pure [] (.bin .add .int) [g l1 0,g l1 1] fun v3 =>
 .pure [] (.conv .u64) [v3] fun v4 =>
 .pure [] (.bin .shr .int) [v4,(.int .u64 1)] fun v5 =>
 .pure [] (.conv .i64) [v5] fun v6 =>
 .pure [] (.idx 12) [g v 0,v6] fun v7 =>
 .load [] v7 12 fun l8 =>
 .callv false (g v 2) [(.agg #[g l8 0,g l8 1,g l8 2,g l8 3,g l8 4,g l8 5,g l8 6,g l8 7,g l8 8,g l8 9,g l8 10,g l8 11]),g v 1] [] [] .one fun l9 _ =>
 .pure [] (.bin .lss .int) [g l9 0,(.int .i64 0)] fun v10 =>
 .br v10 (
 .pure [] (.bin .add .int) [v6,(.int .i64 1)] fun v11 =>
 .cont 8 C8 [v11,g l1 1] [E [g v 0],E [g v 1],E [g v 2],E [v0]]) (
 .cont 8 C8 [g l1 0,v6] [E [g v 0],E [g v 1],E [g v 2],E [v0]])) (
 .pure [] (.bin .lss .int) [g l1 0,v0] fun v12 =>
 .br v12 (
 .pure [] (.idx 12) [g v 0,g l1 0] fun v13 =>
 .load [] v13 12 fun l14 =>
 .callv false (g v 2) [(.agg #[g l14 0,g l14 1,g l14 2,g l14 3,g l14 4,g l14 5,g l14 6,g l14 7,g l14 8,g l14 9,g l14 10,g l14 11]),g v 1] [] [] .one fun l15 _ =>
 .pure [] (.bin .eql .int) [g l15 0,(.int .i64 0)] fun v16 =>
 .ret (.tuple #[g l1 0,v16]) []) (
 .ret (.tuple #[g l1 0,(.bool false)]) []))
theorem T_slices_BinarySearchFunc_api_Object_api_Object_int_eq (vs : List Value) : sxFun PP Tryz.f52 (mkOpts okL [(81, [5, 6, 7, 8])] [(3, .inv [9, 10] [0, 1, 2, 8] [])] []) vs = T_slices_BinarySearchFunc_api_Object_api_Object_int vs := by kernel_rfl
theorem run_slices_BinarySearchFunc_api_Object_api_Object_int {args vs} (ha : entryArgs PP Tryz.f52 args = some vs) (ho : Ones vs) {H O Q} (h : (T_slices_BinarySearchFunc_api_Object_api_Object_int vs).den PP Q H O) : Triple PP F_slices_BinarySearchFunc_api_Object_api_Object_int args H O Q :=
 triple_run mixed (mkOpts_ok okL_ok _ _ _) Tryz.func52 T_slices_BinarySearchFunc_api_Object_api_Object_int_eq ha ho h
abbrev F_stack_Cast_1 : FuncId := 53
/- zeitnot/stack.Cast$1 -/
def T_stack_Cast_1 (v : List Value) : Tree :=
 .newbox fun r0 =>
 .chk (.eqN r0 r0) <|
 .pure [] (.bin .sub .int) [g v 0,g v 12] fun v0 =>
 .ret v0 []
theorem T_stack_Cast_1_eq (vs : List Value) : sxFun PP Tryz.f53 (mkOpts okL [(81, [5, 6, 7, 8])] [] []) vs = T_stack_Cast_1 vs := by kernel_rfl
theorem run_stack_Cast_1 {args vs} (ha : entryArgs PP Tryz.f53 args = some vs) (ho : Ones vs) {H O Q} (h : (T_stack_Cast_1 vs).den PP Q H O) : Triple PP F_stack_Cast_1 args H O Q :=
 triple_run mixed (mkOpts_ok okL_ok _ _ _) Tryz.func53 T_stack_Cast_1_eq ha ho h
abbrev F_object_Reset : FuncId := 54
/- zeitnot/object.Reset -/
def T_object_Reset (v : List Value) : Tree :=
 .newbox fun r0 =>
 .newbox fun r1 =>
 .chk (.eqN r0 r0) <|
 .call false 89 [(.agg #[g v 0,g v 1,g v 2,g v 3,g v 4,g v 5,g v 6,g v 7,g v 8,g v 9,g v 10,g v 11])] [] [] (.agg 12) fun l0 _ =>
 .newbox fun r2 =>
 .chk (.eqN r2 r2) <|
 .pure [] (.bin .eql .int) [g v 12,(.int .i64 2)] fun v1 =>
 .chk (.eqN r2 r2) <|
 .chk (.eqN r2 r2) <|
 .chk (.eqN r2 r2) <|
 .chk (.eqN r2 r2) <|
 .chk (.eqN r2 r2) <|
 .chk (.eqN r1 r1) <|
 .chk (.eqN r1 r1) <|
 .ret (.agg #[g l0 0,g l0 1,g l0 2,g l0 3,g l0 4,g l0 5,(.int .i64 0),g l0 7,g l0 8,(.bool false),v1,(.bool false)]) []
theorem T_object_Reset_eq (vs : List Value) : sxFun PP Tryz.f54 (mkOpts okL [(81, [5, 6, 7, 8])] [] []) vs = T_object_Reset vs := by kernel_rfl
theorem run_object_Reset {args vs} (ha : entryArgs PP Tryz.f54 args = some vs) (ho : Ones vs) {H O Q} (h : (T_object_Reset vs).den PP Q H O) : Triple PP F_object_Reset args H O Q :=
 triple_run mixed (mkOpts_ok okL_ok _ _ _) Tryz.func54 T_object_Reset_eq ha ho h
abbrev F_stack_Push_1 : FuncId := 55
/- zeitnot/stack.Push$1 -/
def T_stack_Push_1 (v : List Value) : Tree :=
 .pure [] (.bin .geq .int) [g v 0,g v 1] fun v0 =>
 .chk (.eqV v0 v0) <|
 .chk (.eqV v0 v0) <|
 .pure [] (.bin .leq .int) [g v 0,g v 2] fun v1 =>
 .chk (.eqV v0 v0) <|
 .pure [] .pick [v0,v1,(.bool false)] fun v2 =>
 .ret v2 []
theorem T_stack_Push_1_eq (vs : List Value) : sxFun PP Tryz.f55 (mkOpts okL [(81, [5, 6, 7, 8])] [] []) vs = T_stack_Push_1 vs := by kernel_rfl
theorem run_stack_Push_1 {args vs} (ha : entryArgs PP Tryz.f55 args = some vs) (ho : Ones vs) {H O Q} (h : (T_stack_Push_1 vs).den PP Q H O) : Triple PP F_stack_Push_1 args H O Q :=
 triple_run mixed (mkOpts_ok okL_ok _ _ _) Tryz.func55 T_stack_Push_1_eq ha ho h
abbrev F_zeitnotref14_Reset : FuncId := 59
/- zeitnot/zeitnotref14.Reset -/
def T_zeitnotref14_Reset (v : List Value) : Tree :=
 .newbox fun r0 =>
 .newbox fun r1 =>
 .chk (.eqN r0 r0) <|
 .call false 93 [(.agg #[g v 0,g v 1,g v 2,g v 3,g v 4,g v 5,g v 6,g v 7,g v 8,g v 9,g v 10,g v 11])] [] [] (.agg 12) fun l0 _ =>
 .chk (.eqN r0 r0) <|
 .pure [] (.bin .eql .int) [g v 12,(.int .i64 2)] fun v1 =>
 .chk (.eqN r0 r0) <|
 .chk (.eqN r0 r0) <|
 .chk (.eqN r0 r0) <|
 .chk (.eqN r0 r0) <|
 .chk (.eqN r0 r0) <|
 .chk (.eqN r1 r1) <|
 .chk (.eqN r1 r1) <|
 .ret (.agg #[g l0 0,g l0 1,g l0 2,g l0 3,g l0 4,g l0 5,(.int .i64 0),g l0 7,g l0 8,(.bool false),v1,(.bool false)]) []
theorem T_zeitnotref14_Reset_eq (vs : List Value) : sxFun PP Tryz.f59 (mkOpts okL [(81, [5, 6, 7, 8])] [] []) vs = T_zeitnotref14_Reset vs := by kernel_rfl
theorem run_zeitnotref14_Reset {args vs} (ha : entryArgs PP Tryz.f59 args = some vs) (ho : Ones vs) {H O Q} (h : (T_zeitnotref14_Reset vs).den PP Q H O) : Triple PP F_zeitnotref14_Reset args H O Q :=
 triple_run mixed (mkOpts_ok okL_ok _ _ _) Tryz.func59 T_zeitnotref14_Reset_eq ha ho h
abbrev F_zeitnotref15_Put : FuncId := 60
/- zeitnot/zeitnotref15.Put -/
def T_zeitnotref15_Put (v : List Value) : Tree :=
 .newbox fun r0 =>
 .newbox fun r1 =>
 .newbox fun r2 =>
 .chk (.eqN r1 r1) <|
 .sw (g v 40) 0 (
 .pure [] (.bin .eql .int) [g v 50,(.int .i64 0)] fun v0 =>
 .br v0 (
 .chk (.eqN r0 r0) <|
 .chk (.eqN r1 r1) <|
 .prim (.bi .append #[26,26] 26) [(.slice none 0 0),g v 6] [] [] .one fun l1 _ =>
 .newbox fun r3 =>
 .prim (.bi .append #[26,26] 26) [g l1 0,(.slice (some ⟨r3,0,none⟩) 1 1)] [⟨r3,3,[g v 38]⟩] [] .one fun l2 _ =>
 .chk (.eqN r0 r0) <|
 .chk (.eqN r0 r0) <|
 .chk (.eqN r2 r2) <|
 .chk (.eqN r2 r2) <|
 .ret (.agg #[g v 0,g v 1,g v 2,g v 3,g v 4,g v 5,g l2 0,g v 7,g v 8,g v 9,g v 10,g v 11,g v 12,g v 13,g v 14,g v 15,g v 16,g v 17,g v 18,g v 19,g v 20,g v 21,g v 22,g v 23,g v 24,g v 25,g v 26,g v 27,g v 28,g v 29,g v 30,g v 31,g v 32,g v 33,g v 34,g v 35,g v 36,g v 37]) []) (
 .pure [] (.bin .eql .int) [g v 50,(.int .i64 1)] fun v3 =>
 .br v3 (
 .chk (.eqN r0 r0) <|
 .chk (.eqN r1 r1) <|
 .prim (.bi .append #[26,26] 26) [(.slice none 0 0),g v 7] [] [] .one fun l4 _ =>
 .newbox fun r4 =>
 .prim (.bi .append #[26,26] 26) [g l4 0,(.slice (some ⟨r4,0,none⟩) 1 1)] [⟨r4,3,[g v 38]⟩] [] .one fun l5 _ =>
 .chk (.eqN r0 r0) <|
 .chk (.eqN r0 r0) <|
 .chk (.eqN r2 r2) <|
 .chk (.eqN r2 r2) <|
 .ret (.agg #[g v 0,g v 1,g v 2,g v 3,g v 4,g v 5,g v 6,g l5 0,g v 8,g v 9,g v 10,g v 11,g v 12,g v 13,g v 14,g v 15,g v 16,g v 17,g v 18,g v 19,g v 20,g v 21,g v 22,g v 23,g v 24,g v 25,g v 26,g v 27,g v 28,g v 29,g v 30,g v 31,g v 32,g v 33,g v 34,g v 35,g v 36,g v 37]) []) (
 .pure [] (.bin .eql .int) [g v 50,(.int .i64 2)] fun v6 =>
 .br v6 (
 .chk (.eqN r0 r0) <|
 .chk (.eqN r1 r1) <|
 .prim (.bi .append #[26,26] 26) [(.slice none 0 0),g v 8] [] [] .one fun l7 _ =>
 .newbox fun r5 =>
 .prim (.bi .append #[26,26] 26) [g l7 0,(.slice (some ⟨r5,0,none⟩) 1 1)] [⟨r5,3,[g v 38]⟩] [] .one fun l8 _ =>
 .chk (.eqN r0 r0) <|
 .chk (.eqN r0 r0) <|
 .chk (.eqN r2 r2) <|
 .chk (.eqN r2 r2) <|
 .ret (.agg #[g v 0,g v 1,g v 2,g v 3,g v 4,g v 5,g v 6,g v 7,g l8 0,g v 9,g v 10,g v 11,g v 12,g v 13,g v 14,g v 15,g v 16,g v 17,g v 18,g v 19,g v 20,g v 21,g v 22,g v 23,g v 24,g v 25,g v 26,g v 27,g v 28,g v 29,g v 30,g v 31,g v 32,g v 33,g v 34,g v 35,g v 36,g v 37]) []) (
 .pure [] (.bin .eql .int) [g v 50,(.int .i64 3)] fun v9 =>
 .br v9 (
 .chk (.eqN r0 r0) <|
 .chk (.eqN r1 r1) <|
 .prim (.bi .append #[26,26] 26) [(.slice none 0 0),g v 9] [] [] .one fun l10 _ =>
 .newbox fun r6 =>
 .prim (.bi .append #[26,26] 26) [g l10 0,(.slice (some ⟨r6,0,none⟩) 1 1)] [⟨r6,3,[g v 38]⟩] [] .one fun l11 _ =>
 .chk (.eqN r0 r0) <|
 .chk (.eqN r0 r0) <|
 .chk (.eqN r2 r2) <|
 .chk (.eqN r2 r2) <|
 .ret (.agg #[g v 0,g v 1,g v 2,g v 3,g v 4,g v 5,g v 6,g v 7,g v 8,g l11 0,g v 10,g v 11,g v 12,g v 13,g v 14,g v 15,g v 16,g v 17,g v 18,g v 19,g v 20,g v 21,g v 22,g v 23,g v 24,g v 25,g v 26,g v 27,g v 28,g v 29,g v 30,g v 31,g v 32,g v 33,g v 34,g v 35,g v 36,g v 37]) []) (
 .chk (.eqN r0 r0) <|
 .chk (.eqN r2 r2) <|
 .chk (.eqN r2 r2) <|
 .ret (.agg #[g v 0,g v 1,g v 2,g v 3,g v 4,g v 5,g v 6,g v 7,g v 8,g v 9,g v 10,g v 11,g v 12,g v 13,g v 14,g v 15,g v 16,g v 17,g v 18,g v 19,g v 20,g v 21,g v 22,g v 23,g v 24,g v 25,g v 26,g v 27,g v 28,g v 29,g v 30,g v 31,g v 32,g v 33,g v 34,g v 35,g v 36,g v 37]) []))))) (
 .sw (g v 40) 1 (
 .pure [] (.bin .eql .int) [g v 50,(.int .i64 0)] fun v12 =>
 .br v12 (
 .chk (.eqN r0 r0) <|
 .chk (.eqN r1 r1) <|
 .prim (.bi .append #[26,26] 26) [(.slice none 0 0),g v 20] [] [] .one fun l13 _ =>
 .newbox fun r7 =>
 .prim (.bi .append #[26,26] 26) [g l13 0,(.slice (some ⟨r7,0,none⟩) 1 1)] [⟨r7,3,[g v 38]⟩] [] .one fun l14 _ =>
 .chk (.eqN r0 r0) <|
 .chk (.eqN r0 r0) <|
 .chk (.eqN r2 r2) <|
 .chk (.eqN r2 r2) <|
 .ret (.agg #[g v 0,g v 1,g v 2,g v 3,g v 4,g v 5,g v 6,g v 7,g v 8,g v 9,g v 10,g v 11,g v 12,g v 13,g v 14,g v 15,g v 16,g v 17,g v 18,g v 19,g l14 0,g v 21,g v 22,g v 23,g v 24,g v 25,g v 26,g v 27,g v 28,g v 29,g v 30,g v 31,g v 32,g v 33,g v 34,g v 35,g v 36,g v 37]) []) (
 .pure [] (.bin .eql .int) [g v 50,(.int .i64 1)] fun v15 =>
 .br v15 (
 .chk (.eqN r0 r0) <|
 .chk (.eqN r1 r1) <|
 .prim (.bi .append #[26,26] 26) [(.slice none 0 0),g v 21] [] [] .one fun l16 _ =>
 .newbox fun r8 =>
 .prim (.bi .append #[26,26] 26) [g l16 0,(.slice (some ⟨r8,0,none⟩) 1 1)] [⟨r8,3,[g v 38]⟩] [] .one fun l17 _ =>
 .chk (.eqN r0 r0) <|
 .chk (.eqN r0 r0) <|
 .chk (.eqN r2 r2) <|
 .chk (.eqN r2 r2) <|
 .ret (.agg #[g v 0,g v 1,g v 2,g v 3,g v 4,g v 5,g v 6,g v 7,g v 8,g v 9,g v 10,g v 11,g v 12,g v 13,g v 14,g v 15,g v 16,g v 17,g v 18,g v 19,g v 20,g l17 0,g v 22,g v 23,g v 24,g v 25,g v 26,g v 27,g v 28,g v 29,g v 30,g v 31,g v 32,g v 33,g v 34,g v 35,g v 36,g v 37]) []) (
 .pure [] (.bin .eql .int) [g v 50,(.int .i64 2)] fun v18 =>
 .br v18 (
 .chk (.eqN r0 r0) <|
 .chk (.eqN r1 r1) <|
 .prim (.bi .append #[26,26] 26) [(.slice none 0 0),g v 22] [] [] .one fun l19 _ =>
 .newbox fun r9 =>
 .prim (.bi .append #[26,26] 26) [g l19 0,(.slice (some ⟨r9,0,none⟩) 1 1)] [⟨r9,3,[g v 38]⟩] [] .one fun l20 _ =>
 .chk (.eqN r0 r0) <|
 .chk (.eqN r0 r0) <|
 .chk (.eqN r2 r2) <|
 .chk (.eqN r2 r2) <|
 .ret (.agg #[g v 0,g v 1,g v 2,g v 3,g v 4,g v 5,g v 6,g v 7,g v 8,g v 9,g v 10,g v 11,g v 12,g v 13,g v 14,g v 15,g v 16,g v 17,g v 18,g v 19,g v 20,g v 21,g l20 0,g v 23,g v 24,g v 25,g v 26,g v 27,g v 28,g v 29,g v 30,g v 31,g v 32,g v 33,g v 34,g v 35,g v 36,g v 37]) []) (
 .pure [] (.bin .eql .int) [g v 50,(.int .i64 3)] fun v21 =>
 .br v21 (
 .chk (.eqN r0 r0) <|
 .chk (.eqN r1 r1) <|
 .prim (.bi .append #[26,26] 26) [(.slice none 0 0),g v 23] [] [] .one fun l22 _ =>
 .newbox fun r10 =>
 .prim (.bi .append #[26,26] 26) [g l22 0,(.slice (some ⟨r10,0,none⟩) 1 1)] [⟨r10,3,[g v 38]⟩] [] .one fun l23 _ =>
 .chk (.eqN r0 r0) <|
 .chk (.eqN r0 r0) <|
 .chk (.eqN r2 r2) <|
 .chk (.eqN r2 r2) <|
 .ret (.agg #[g v 0,g v 1,g v 2,g v 3,g v 4,g v 5,g v 6,g v 7,g v 8,g v 9,g v 10,g v 11,g v 12,g v 13,g v 14,g v 15,g v 16,g v 17,g v 18,g v 19,g v 20,g v 21,g v 22,g l23 0,g v 24,g v 25,g v 26,g v 27,g v 28,g v 29,g v 30,g v 31,g v 32,g v 33,g v 34,g v 35,g v 36,g v 37]) []) (
 .chk (.eqN r0 r0) <|
 .chk (.eqN r2 r2) <|
 .chk (.eqN r2 r2) <|
 .ret (.agg #[g v 0,g v 1,g v 2,g v 3,g v 4,g v 5,g v 6,g v 7,g v 8,g v 9,g v 10,g v 11,g v 12,g v 13,g v 14,g v 15,g v 16,g v 17,g v 18,g v 19,g v 20,g v 21,g v 22,g v 23,g v 24,g v 25,g v 26,g v 27,g v 28,g v 29,g v 30,g v 31,g v 32,g v 33,g v 34,g v 35,g v 36,g v 37]) []))))) (
 .stuck 901))
theorem T_zeitnotref15_Put_eq (vs : List Value) : sxFun PP Tryz.f60 (mkOpts okL [(81, [5, 6, 7, 8])] [] []) vs = T_zeitnotref15_Put vs := by kernel_rfl
theorem run_zeitnotref15_Put {args vs} (ha : entryArgs PP Tryz.f60 args = some vs) (ho : Ones vs) {H O Q} (h : (T_zeitnotref15_Put vs).den PP Q H O) : Triple PP F_zeitnotref15_Put args H O Q :=
 triple_run mixed (mkOpts_ok okL_ok _ _ _) Tryz.func60 T_zeitnotref15_Put_eq ha ho h
abbrev F_zeitnotref15_Set : FuncId := 61
/- zeitnot/zeitnotref15.Set -/
def T_zeitnotref15_Set (v : List Value) : Tree :=
 .newbox fun r0 =>
 .newbox fun r1 =>
 .newbox fun r2 =>
 .chk (.eqN r0 r0) <|
 .call false 17 [(.agg #[g v 0,g v 1,g v 2,g v 3,g v 4,g v 5,g v 6,g v 7,g v 8,g v 9,g v 10,g v 11,g v 12,g v 13,g v 14,g v 15,g v 16,g v 17,g v 18,g v 19,g v 20,g v 21,g v 22,g v 23,g v 24,g v 25,g v 26,g v 27,g v 28,g v 29,g v 30,g v 31,g v 32,g v 33,g v 34,g v 35,g v 36,g v 37])] [] [] (.agg 38) fun l0 _ =>
 .chk (.eqN r0 r0) <|
 .chk (.eqN r0 r0) <|
 .chk (.eqN r1 r1) <|
 .call false 28 [(.agg #[g l0 0,g l0 1,g l0 2,g l0 3,g l0 4,g l0 5,g l0 6,g l0 7,g l0 8,g l0 9,g l0 10,g l0 11,g l0 12,g l0 13,g l0 14,g l0 15,g l0 16,g l0 17,g l0 18,g l0 19,g l0 20,g l0 21,g l0 22,g l0 23,g l0 24,g l0 25,g l0 26,g l0 27,g l0 28,g l0 29,g l0 30,g l0 31,g l0 32,g l0 33,g l0 34,g l0 35,g l0 36,g l0 37]),g v 38] [] [] .one fun l1 _ =>
 .pure [] (.bin .geq .int) [g l1 0,(.int .i64 0)] fun v2 =>
 .br v2 (
 .chk (.eqN r0 r0) <|
 .chk (.eqN r1 r1) <|
 .pure [] (.idx 12) [g l0 0,g l1 0] fun v3 =>
 .chk (.ptr [] v3) <|
 .store v3 [g v 38,g v 39,g v 40,g v 41,g v 42,g v 43,g v 44,g v 45,g v 46,g v 47,g v 48,g v 49] <|
 .chk (.eqN r0 r0) <|
 .chk (.eqN r2 r2) <|
 .chk (.eqN r2 r2) <|
 .ret (.agg #[g l0 0,g l0 1,g l0 2,g l0 3,g l0 4,g l0 5,g l0 6,g l0 7,g l0 8,g l0 9,g l0 10,g l0 11,g l0 12,g l0 13,g l0 14,g l0 15,g l0 16,g l0 17,g l0 18,g l0 19,g l0 20,g l0 21,g l0 22,g l0 23,g l0 24,g l0 25,g l0 26,g l0 27,g l0 28,g l0 29,g l0 30,g l0 31,g l0 32,g l0 33,g l0 34,g l0 35,g l0 36,g l0 37]) []) (
 .chk (.eqN r0 r0) <|
 .chk (.eqN r2 r2) <|
 .chk (.eqN r2 r2) <|
 .ret (.agg #[g l0 0,g l0 1,g l0 2,g l0 3,g l0 4,g l0 5,g l0 6,g l0 7,g l0 8,g l0 9,g l0 10,g l0 11,g l0 12,g l0 13,g l0 14,g l0 15,g l0 16,g l0 17,g l0 18,g l0 19,g l0 20,g l0 21,g l0 22,g l0 23,g l0 24,g l0 25,g l0 26,g l0 27,g l0 28,g l0 29,g l0 30,g l0 31,g l0 32,g l0 33,g l0 34,g l0 35,g l0 36,g l0 37]) [])
theorem T_zeitnotref15_Set_eq (vs : List Value) : sxFun PP Tryz.f61 (mkOpts okL [(81, [5, 6, 7, 8])] [] []) vs = T_zeitnotref15_Set vs := by kernel_rfl
theorem run_zeitnotref15_Set {args vs} (ha : entryArgs PP Tryz.f61 args = some vs) (ho : Ones vs) {H O Q} (h : (T_zeitnotref15_Set vs).den PP Q H O) : Triple PP F_zeitnotref15_Set args H O Q :=
 triple_run mixed (mkOpts_ok okL_ok _ _ _) Tryz.func61 T_zeitnotref15_Set_eq ha ho h
abbrev F_zeitnotref15_Out : FuncId := 62
/- zeitnot/zeitnotref15.Out -/
def T_zeitnotref15_Out (v : List Value) : Tree :=
 .newbox fun r0 =>
 .newbox fun r1 =>
 .chk (.eqN r0 r0) <|
 .call false 17 [(.agg #[g v 0,g v 1,g v 2,g v 3,g v 4,g v 5,g v 6,g v 7,g v 8,g v 9,g v 10,g v 11,g v 12,g v 13,g v 14,g v 15,g v 16,g v 17,g v 18,g v 19,g v 20,g v 21,g v 22,g v 23,g v 24,g v 25,g v 26,g v 27,g v 28,g v 29,g v 30,g v 31,g v 32,g v 33,g v 34,g v 35,g v 36,g v 37])] [] [] (.agg 38) fun l0 _ =>
 .chk (.eqN r0 r0) <|
 .chk (.eqN r0 r0) <|
 .chk (.eqN r0 r0) <|
 .chk (.eqN r0 r0) <|
 .chk (.eqN r0 r0) <|
 .call false 94 [g l0 6,g v 38] [] [] .one fun l1 _ =>
 .call false 94 [g l0 7,g v 38] [] [] .one fun l2 _ =>
 .call false 94 [g l0 8,g v 38] [] [] .one fun l3 _ =>
 .call false 94 [g l0 9,g v 38] [] [] .one fun l4 _ =>
 .chk (.eqN r0 r0) <|
 .chk (.eqN r0 r0) <|
 .chk (.eqN r0 r0) <|
 .chk (.eqN r0 r0) <|
 .chk (.eqN r0 r0) <|
 .chk (.eqN r0 r0) <|
 .chk (.eqN r0 r0) <|
 .chk (.eqN r0 r0) <|
 .call false 94 [g l0 20,g v 38] [] [] .one fun l5 _ =>
 .call false 94 [g l0 21,g v 38] [] [] .one fun l6 _ =>
 .call false 94 [g l0 22,g v 38] [] [] .one fun l7 _ =>
 .call false 94 [g l0 23,g v 38] [] [] .one fun l8 _ =>
 .chk (.eqN r0 r0) <|
 .chk (.eqN r0 r0) <|
 .chk (.eqN r0 r0) <|
 .chk (.eqN r0 r0) <|
 .loop 108 9 [(.slice none 0 0),(.int .i64 0)] fun C108 l9 =>
 .chk (.eqN r0 r0) <|
 .pure [] .len [g l0 29] fun v10 =>
 .pure [] (.bin .lss .int) [g l9 1,v10] fun v11 =>
 .br v11 (
 .chk (.eqN r0 r0) <|
 .pure [] (.idx 5) [g l0 29,g l9 1] fun v12 =>
 .load [] v12 5 fun l13 =>
 .newbox fun r2 =>
 .chk (.eqN r2 r2) <|
 .chk (.eqN r2 r2) <|
 .pure [] (.bin .neq .int) [g l13 3,(.int .i64 (-1))] fun v14 =>
 .chk (.eqN r2 r2) <|
 .chk (.eqV v14 v14) <|
 .chk (.eqV v14 v14) <|
 .chk (.eqV v14 v14) <|
 .pure [] (.bin .neq .int) [g l13 1,g v 38] fun v15 =>
 .chk (.eqV v14 v14) <|
 .pure [] .pick [v14,(.bool true),v15] fun v16 =>
 .br v16 (
 .chk (.eqN r2 r2) <|
 .newbox fun r3 =>
 .prim (.bi .append #[30,30] 30) [g l9 0,(.slice (some ⟨r3,0,none⟩) 1 1)] [⟨r3,41,[g l13 0,g l13 1,g l13 2,g l13 3,g l13 4]⟩] [] .one fun l17 _ =>
 .pure [] (.bin .add .int) [g l9 1,(.int .i64 1)] fun v18 =>
 .cont 108 C108 [g l17 0,v18] [E [g v 38],E [(.pointer (some ⟨r0,0,none⟩))],E [(.pointer (some ⟨r1,0,none⟩))],E [(.pointer (some ⟨r0,0,none⟩)),g l0 0,g l0 1,g l0 2,g l0 3,g l0 4,g l0 5,g l1 0,g l2 0,g l3 0,g l4 0,g l0 10,g l0 11,g l0 12,g l0 13,g l0 14,g l0 15,g l0 16,g l0 17,g l0 18,g l0 19,g l5 0,g l6 0,g l7 0,g l8 0,g l0 24,g l0 25,g l0 26,g l0 27,g l0 28,g l0 29,g l0 30,g l0 31,g l0 32,g l0 33,g l0 34,g l0 35,g l0 36,g l0 37],E [(.pointer (some ⟨r1,0,none⟩)),(.slice none 0 0),(.int .i64 0),(.int .i64 0),(.int .i64 0),(.int .i64 0),(.int .i64 0),(.slice none 0 0),(.slice none 0 0),(.slice none 0 0),(.slice none 0 0),(.bool false),(.bool false),(.bool false),(.int .i64 0),(.int .i64 0),(.int .i64 0),(.int .i64 0),(.int .i64 0),(.int .i64 0),(.int .i64 0),(.slice none 0 0),(.slice none 0 0),(.slice none 0 0),(.slice none 0 0),(.bool false),(.bool false),(.bool false),(.int .i64 0),(.int .i64 0),(.slice none 0 0),(.slice none 0 0),(.slice none 0 0),(.slice none 0 0),(.int .i64 0),(.int .i64 0),(.int .i64 0),(.int .i64 0),(.int .i64 0)]]) (
 .pure [] (.bin .add .int) [g l9 1,(.int .i64 1)] fun v19 =>
 .cont 108 C108 [g l9 0,v19] [E [g v 38],E [(.pointer (some ⟨r0,0,none⟩))],E [(.pointer (some ⟨r1,0,none⟩))],E [(.pointer (some ⟨r0,0,none⟩)),g l0 0,g l0 1,g l0 2,g l0 3,g l0 4,g l0 5,g l1 0,g l2 0,g l3 0,g l4 0,g l0 10,g l0 11,g l0 12,g l0 13,g l0 14,g l0 15,g l0 16,g l0 17,g l0 18,g l0 19,g l5 0,g l6 0,g l7 0,g l8 0,g l0 24,g l0 25,g l0 26,g l0 27,g l0 28,g l0 29,g l0 30,g l0 31,g l0 32,g l0 33,g l0 34,g l0 35,g l0 36,g l0 37],E [(.pointer (some ⟨r1,0,none⟩)),(.slice none 0 0),(.int .i64 0),(.int .i64 0),(.int .i64 0),(.int .i64 0),(.int .i64 0),(.slice none 0 0),(.slice none 0 0),(.slice none 0 0),(.slice none 0 0),(.bool false),(.bool false),(.bool false),(.int .i64 0),(.int .i64 0),(.int .i64 0),(.int .i64 0),(.int .i64 0),(.int .i64 0),(.int .i64 0),(.slice none 0 0),(.slice none 0 0),(.slice none 0 0),(.slice none 0 0),(.bool false),(.bool false),(.bool false),(.int .i64 0),(.int .i64 0),(.slice none 0 0),(.slice none 0 0),(.slice none 0 0),(.slice none 0 0),(.int .i64 0),(.int .i64 0),(.int .i64 0),(.int .i64 0),(.int .i64 0)]])) (
 .loop 116 16 [(.slice none 0 0),(.int .i64 0)] fun C116 l20 =>
 .chk (.eqN r0 r0) <|
 .pure [] .len [g l0 32] fun v21 =>
 .pure [] (.bin .lss .int) [g l20 1,v21] fun v22 =>
 .br v22 (
 .chk (.eqN r0 r0) <|
 .pure [] (.idx 2) [g l0 32,g l20 1] fun v23 =>
 .load [] v23 2 fun l24 =>
 .newbox fun r4 =>
 .chk (.eqN r4 r4) <|
 .chk (.eqN r4 r4) <|
 .pure [] (.bin .neq .int) [g l24 0,g v 38] fun v25 =>
 .chk (.eqN r4 r4) <|
 .chk (.eqV v25 v25) <|
 .chk (.eqV v25 v25) <|
 .chk (.eqV v25 v25) <|
 .pure [] (.bin .neq .int) [g l24 1,g v 38] fun v26 =>
 .chk (.eqV v25 v25) <|
 .pure [] .pick [v25,v26,(.bool false)] fun v27 =>
 .br v27 (
 .chk (.eqN r4 r4) <|
 .newbox fun r5 =>
 .prim (.bi .append #[31,31] 31) [g l20 0,(.slice (some ⟨r5,0,none⟩) 1 1)] [⟨r5,123,[g l24 0,g l24 1]⟩] [] .one fun l28 _ =>
 .pure [] (.bin .add .int) [g l20 1,(.int .i64 1)] fun v29 =>
 .cont 116 C116 [g l28 0,v29] [E [g v 38],E [(.pointer (some ⟨r0,0,none⟩))],E [(.pointer (some ⟨r1,0,none⟩))],E [g l9 0],E [(.pointer (some ⟨r0,0,none⟩)),g l0 0,g l0 1,g l0 2,g l0 3,g l0 4,g l0 5,g l1 0,g l2 0,g l3 0,g l4 0,g l0 10,g l0 11,g l0 12,g l0 13,g l0 14,g l0 15,g l0 16,g l0 17,g l0 18,g l0 19,g l5 0,g l6 0,g l7 0,g l8 0,g l0 24,g l0 25,g l0 26,g l0 27,g l0 28,g l0 29,g l0 30,g l0 31,g l0 32,g l0 33,g l0 34,g l0 35,g l0 36,g l0 37],E [(.pointer (some ⟨r1,0,none⟩)),(.slice none 0 0),(.int .i64 0),(.int .i64 0),(.int .i64 0),(.int .i64 0),(.int .i64 0),(.slice none 0 0),(.slice none 0 0),(.slice none 0 0),(.slice none 0 0),(.bool false),(.bool false),(.bool false),(.int .i64 0),(.int .i64 0),(.int .i64 0),(.int .i64 0),(.int .i64 0),(.int .i64 0),(.int .i64 0),(.slice none 0 0),(.slice none 0 0),(.slice none 0 0),(.slice none 0 0),(.bool false),(.bool false),(.bool false),(.int .i64 0),(.int .i64 0),(.slice none 0 0),(.slice none 0 0),(.slice none 0 0),(.slice none 0 0),(.int .i64 0),(.int .i64 0),(.int .i64 0),(.int .i64 0),(.int .i64 0)]]) (
 .pure [] (.bin .add .int) [g l20 1,(.int .i64 1)] fun v30 =>
 .cont 116 C116 [g l20 0,v30] [E [g v 38],E [(.pointer (some ⟨r0,0,none⟩))],E [(.pointer (some ⟨r1,0,none⟩))],E [g l9 0],E [(.pointer (some ⟨r0,0,none⟩)),g l0 0,g l0 1,g l0 2,g l0 3,g l0 4,g l0 5,g l1 0,g l2 0,g l3 0,g l4 0,g l0 10,g l0 11,g l0 12,g l0 13,g l0 14,g l0 15,g l0 16,g l0 17,g l0 18,g l0 19,g l5 0,g l6 0,g l7 0,g l8 0,g l0 24,g l0 25,g l0 26,g l0 27,g l0 28,g l0 29,g l0 30,g l0 31,g l0 32,g l0 33,g l0 34,g l0 35,g l0 36,g l0 37],E [(.pointer (some ⟨r1,0,none⟩)),(.slice none 0 0),(.int .i64 0),(.int .i64 0),(.int .i64 0),(.int .i64 0),(.int .i64 0),(.slice none 0 0),(.slice none 0 0),(.slice none 0 0),(.slice none 0 0),(.bool false),(.bool false),(.bool false),(.int .i64 0),(.int .i64 0),(.int .i64 0),(.int .i64 0),(.int .i64 0),(.int .i64 0),(.int .i64 0),(.slice none 0 0),(.slice none 0 0),(.slice none 0 0),(.slice none 0 0),(.bool false),(.bool false),(.bool false),(.int .i64 0),(.int .i64 0),(.slice none 0 0),(.slice none 0 0),(.slice none 0 0),(.slice none 0 0),(.int .i64 0),(.int .i64 0),(.int .i64 0),(.int .i64 0),(.int .i64 0)]])) (
 .chk (.eqN r0 r0) <|
 .call false 94 [g l0 31,g v 38] [] [] .one fun l31 _ =>
 .chk (.eqN r0 r0) <|
 .chk (.eqN r0 r0) <|
 .chk (.eqN r0 r0) <|
 .chk (.eqN r0 r0) <|
 .chk (.eqN r1 r1) <|
 .chk (.eqN r1 r1) <|
 .ret (.agg #[g l0 0,g l0 1,g l0 2,g l0 3,g l0 4,g l0 5,g l1 0,g l2 0,g l3 0,g l4 0,g l0 10,g l0 11,g l0 12,g l0 13,g l0 14,g l0 15,g l0 16,g l0 17,g l0 18,g l0 19,g l5 0,g l6 0,g l7 0,g l8 0,g l0 24,g l0 25,g l0 26,g l0 27,g l0 28,g l9 0,g l0 30,g l31 0,g l20 0,g l0 33,g l0 34,g l0 35,g l0 36,g l0 37]) []))
theorem T_zeitnotref15_Out_eq (vs : List Value) : sxFun PP Tryz.f62 (mkOpts okL [(81, [5, 6, 7, 8])] [(3, .unroll 3), (9, .inv [7, 8] [1, 2, 4] [(2, []), (4, [])]), (16, .inv [10, 11] [1, 2, 4, 7] [(2, []), (4, [])])] []) vs = T_zeitnotref15_Out vs := by kernel_rfl
theorem run_zeitnotref15_Out {args vs} (ha : entryArgs PP Tryz.f62 args = some vs) (ho : Ones vs) {H O Q} (h : (T_zeitnotref15_Out vs).den PP Q H O) : Triple PP F_zeitnotref15_Out args H O Q :=
 triple_run mixed (mkOpts_ok okL_ok _ _ _) Tryz.func62 T_zeitnotref15_Out_eq ha ho h
abbrev F_board_within : FuncId := 70
/- zeitnot/board.within -/
def T_board_within (v : List Value) : Tree :=
 .pure [] (.bin .geq .int) [g v 0,g v 1] fun v0 =>
 .chk (.eqV v0 v0) <|
 .chk (.eqV v0 v0) <|
 .pure [] (.bin .leq .int) [g v 0,g v 2] fun v1 =>
 .chk (.eqV v0 v0) <|
 .pure [] .pick [v0,v1,(.bool false)] fun v2 =>
 .ret v2 []
theorem T_board_within_eq (vs : List Value) : sxFun PP Tryz.f70 (mkOpts okL [(81, [5, 6, 7, 8])] [] []) vs = T_board_within vs := by kernel_rfl
theorem run_board_within {args vs} (ha : entryArgs PP Tryz.f70 args = some vs) (ho : Ones vs) {H O Q} (h : (T_board_within vs).den PP Q H O) : Triple PP F_board_within args H O Q :=
 triple_run mixed (mkOpts_ok okL_ok _ _ _) Tryz.func70 T_board_within_eq ha ho h
abbrev F_mana_Valid : FuncId := 71
/- zeitnot/mana.Valid -/
def T_mana_Valid (v : List Value) : Tree :=
 .newbox fun r0 =>
 .chk (.eqN r0 r0) <|
 .call false 100 [(.agg #[g v 0,g v 1,g v 2,g v 3]),(.int .i64 99)] [] [] .one fun l0 _ =>
 .ret (g l0 0) []
theorem T_mana_Valid_eq (vs : List Value) : sxFun PP Tryz.f71 (mkOpts okL [(81, [5, 6, 7, 8])] [] []) vs = T_mana_Valid vs := by kernel_rfl
theorem run_mana_Valid {args vs} (ha : entryArgs PP Tryz.f71 args = some vs) (ho : Ones vs) {H O Q} (h : (T_mana_Valid vs).den PP Q H O) : Triple PP F_mana_Valid args H O Q :=
 triple_run mixed (mkOpts_ok okL_ok _ _ _) Tryz.func71 T_mana_Valid_eq ha ho h
abbrev F_slices_ContainsFunc_api_Item_api_Item : FuncId := 72
/- slices.ContainsFunc[[]zeitnot/api.Item,zeitnot/api.Item] -/
def T_slices_ContainsFunc_api_Item_api_Item (v : List Value) : Tree :=
 .call false 83 [g v 0,g v 1] [] [] .one fun l0 _ =>
 .pure [] (.bin .geq .int) [g l0 0,(.int .i64 0)] fun v1 =>
 .ret v1 []
theorem T_slices_ContainsFunc_api_Item_api_Item_eq (vs : List Value) : sxFun PP Tryz.f72 (mkOpts okL [(81, [5, 6, 7, 8])] [] []) vs = T_slices_ContainsFunc_api_Item_api_Item vs := by kernel_rfl
theorem run_slices_ContainsFunc_api_Item_api_Item {args vs} (ha : entryArgs PP Tryz.f72 args = some vs) (ho : Ones vs) {H O Q} (h : (T_slices_ContainsFunc_api_Item_api_Item vs).den PP Q H O) : Triple PP F_slices_ContainsFunc_api_Item_api_Item args H O Q :=
 triple_run mixed (mkOpts_ok okL_ok _ _ _) Tryz.func72 T_slices_ContainsFunc_api_Item_api_Item_eq ha ho h
abbrev F_board_Valid_1 : FuncId := 73
/- zeitnot/board.Valid$1 -/
def T_board_Valid_1 (v : List Value) : Tree :=
 .newbox fun r0 =>
 .chk (.eqN r0 r0) <|
 .call false 74 [(.agg #[g v 0,g v 1,g v 2,g v 3,g v 4]),(.bool false)] [] [] .one fun l0 _ =>
 .pure [] .not [g l0 0] fun v1 =>
 .ret v1 []
theorem T_board_Valid_1_eq (vs : List Value) : sxFun PP Tryz.f73 (mkOpts okL [(81, [5, 6, 7, 8])] [] []) vs = T_board_Valid_1 vs := by kernel_rfl
theorem run_board_Valid_1 {args vs} (ha : entryArgs PP Tryz.f73 args = some vs) (ho : Ones vs) {H O Q} (h : (T_board_Valid_1 vs).den PP Q H O) : Triple PP F_board_Valid_1 args H O Q :=
 triple_run mixed (mkOpts_ok okL_ok _ _ _) Tryz.func73 T_board_Valid_1_eq ha ho h
abbrev F_board_fine : FuncId := 74
/- zeitnot/board.fine -/
def T_board_fine (v : List Value) : Tree :=
 .newbox fun r0 =>
 .chk (.eqN r0 r0) <|
 .call false 70 [g v 0,(.int .i64 0),(.int .i64 1)] [] [] .one fun l0 _ =>
 .br (g l0 0) (
 .chk (.eqN r0 r0) <|
 .call false 70 [g v 1,(.int .i64 1),(.int .i64 500)] [] [] .one fun l1 _ =>
 .br (g l1 0) (
 .chk (.eqN r0 r0) <|
 .call false 70 [g v 2,(.int .i64 0),(.int .i64 399)] [] [] .one fun l2 _ =>
 .br (g l2 0) (
 .chk (.eqN r0 r0) <|
 .call false 70 [g v 3,(.int .i64 (-1)),(.int .i64 1)] [] [] .one fun l3 _ =>
 .pure [] .not [g l3 0] fun v4 =>
 .chk (.eqN r0 r0) <|
 .chk (.eqV v4 v4) <|
 .chk (.eqV v4 v4) <|
 .pure [] .len [g v 4] fun v5 =>
 .chk (.eqV v4 v4) <|
 .pure [] (.bin .gtr .int) [v5,(.int .i64 4)] fun v6 =>
 .chk (.eqV v4 v4) <|
 .pure [] .pick [v4,(.bool true),v6] fun v7 =>
 .chk (.eqN r0 r0) <|
 .chk (.eqV v7 v7) <|
 .chk (.eqV v7 v7) <|
 .pure [] (.bin .geq .int) [g v 3,(.int .i64 0)] fun v8 =>
 .chk (.eqV v7 v7) <|
 .chk (.eqN r0 r0) <|
 .chk (.eqV v8 v8) <|
 .chk (.eqV v7 v7) <|
 .chk (.eqV v8 v8) <|
 .chk (.eqV v7 v7) <|
 .pure [] .len [g v 4] fun v9 =>
 .chk (.eqV v8 v8) <|
 .chk (.eqV v7 v7) <|
 .pure [] (.bin .gtr .int) [v9,(.int .i64 0)] fun v10 =>
 .chk (.eqV v7 v7) <|
 .chk (.eqV v8 v8) <|
 .chk (.eqV v7 v7) <|
 .pure [] .pick [v8,v10,(.bool false)] fun v11 =>
 .chk (.eqV v7 v7) <|
 .pure [] .pick [v7,(.bool true),v11] fun v12 =>
 .chk (.eqV v12 v12) <|
 .chk (.eqN r0 r0) <|
 .chk (.eqV (g v 5) (g v 5)) <|
 .chk (.eqV v12 v12) <|
 .chk (.eqV (g v 5) (g v 5)) <|
 .chk (.eqV v12 v12) <|
 .pure [] (.bin .lss .int) [g v 3,(.int .i64 0)] fun v13 =>
 .chk (.eqV v12 v12) <|
 .chk (.eqV (g v 5) (g v 5)) <|
 .chk (.eqV v12 v12) <|
 .pure [] .pick [g v 5,v13,(.bool false)] fun v14 =>
 .chk (.eqV v12 v12) <|
 .pure [] .pick [v12,(.bool true),v14] fun v15 =>
 .br v15 (
 .ret (.bool false) []) (
 .chk (.eqN r0 r0) <|
 .call false 101 [g v 4,(.func (.func 102) #[] #[])] [] [] .one fun l16 _ =>
 .pure [] .not [g l16 0] fun v17 =>
 .ret v17 [])) (
 .ret (.bool false) [])) (
 .ret (.bool false) [])) (
 .ret (.bool false) [])
theorem T_board_fine_eq (vs : List Value) : sxFun PP Tryz.f74 (mkOpts okL [(81, [5, 6, 7, 8])] [] []) vs = T_board_fine vs := by kernel_rfl
theorem run_board_fine {args vs} (ha : entryArgs PP Tryz.f74 args = some vs) (ho : Ones vs) {H O Q} (h : (T_board_fine vs).den PP Q H O) : Triple PP F_board_fine args H O Q :=
 triple_run mixed (mkOpts_ok okL_ok _ _ _) Tryz.func74 T_board_fine_eq ha ho h
abbrev F_board_Valid_2 : FuncId := 75
/- zeitnot/board.Valid$2 -/
def T_board_Valid_2 (v : List Value) : Tree :=
 .newbox fun r0 =>
 .chk (.eqN r0 r0) <|
 .call false 74 [(.agg #[g v 0,g v 1,g v 2,g v 3,g v 4]),(.bool true)] [] [] .one fun l0 _ =>
 .pure [] .not [g l0 0] fun v1 =>
 .ret v1 []
theorem T_board_Valid_2_eq (vs : List Value) : sxFun PP Tryz.f75 (mkOpts okL [(81, [5, 6, 7, 8])] [] []) vs = T_board_Valid_2 vs := by kernel_rfl
theorem run_board_Valid_2 {args vs} (ha : entryArgs PP Tryz.f75 args = some vs) (ho : Ones vs) {H O Q} (h : (T_board_Valid_2 vs).den PP Q H O) : Triple PP F_board_Valid_2 args H O Q :=
 triple_run mixed (mkOpts_ok okL_ok _ _ _) Tryz.func75 T_board_Valid_2_eq ha ho h
abbrev F_board_placed : FuncId := 76
/- zeitnot/board.placed -/
def T_board_placed (v : List Value) : Tree :=
 .newbox fun r0 =>
 .prim (.makeMap 150 false) [] [] [] .one fun l0 _ =>
 .newbox fun r1 =>
 .chk (.eqN r1 r1) <|
 .call false 81 [(.pointer (some ⟨r0,1,none⟩))] [] [] (.agg 4) fun l1 _ =>
 .chk (.eqV (g l1 0) (.pointer (some ⟨r0,6,none⟩))) <|
 .chk (.eqV (g l1 1) (.pointer (some ⟨r0,7,none⟩))) <|
 .chk (.eqV (g l1 2) (.pointer (some ⟨r0,8,none⟩))) <|
 .chk (.eqV (g l1 3) (.pointer (some ⟨r0,9,none⟩))) <|
 .chk (.eqN r0 r0) <|
 .pure [] .len [g v 6] fun v2 =>
 .loop 24 10 [(.int .i64 0),g l0 0] fun C24 l3 =>
 .pure [] (.bin .lss .int) [g l3 0,v2] fun v4 =>
 .br v4 (
 .pure [] (.idx 1) [g v 6,g l3 0] fun v5 =>
 .load [] v5 1 fun l6 =>
 .call false 104 [g l6 0,(.int .i64 0),(.pointer (some ⟨r1,0,none⟩))] [] [⟨r1,150,[g l3 1]⟩] .one fun l7 c7 =>
 .pure [] .not [g l7 0] fun v8 =>
 .br v8 (
 .ret (.bool false) []) (
 .pure [] (.bin .add .int) [g l3 0,(.int .i64 1)] fun v9 =>
 .cont 24 C24 [v9,(g (c7.getD 0 []) 0)] [E [(.pointer (some ⟨r0,0,none⟩))],E [(.pointer (some ⟨r1,0,none⟩))],E [(.func (.func 104) #[] #[(.pointer (some ⟨r1,0,none⟩))])],E [(.int .i64 0)],E [(.int .i64 0)],E [(.pointer (some ⟨r0,6,none⟩)),(.pointer (some ⟨r0,7,none⟩)),(.pointer (some ⟨r0,8,none⟩)),(.pointer (some ⟨r0,9,none⟩))],E [(.int .i64 0)],E [g v 6],E [v2],E [(.pointer (some ⟨r0,0,none⟩)),g v 0,g v 1,g v 2,g v 3,g v 4,g v 5,g v 6,g v 7,g v 8,g v 9,g v 10,g v 11,g v 12,g v 13,g v 14,g v 15,g v 16,g v 17,g v 18,g v 19,g v 20,g v 21,g v 22,g v 23,g v 24,g v 25,g v 26,g v 27,g v 28,g v 29,g v 30,g v 31,g v 32,g v 33,g v 34,g v 35,g v 36,g v 37],E [(.pointer (some ⟨r1,0,none⟩)),(.tuple #[])]])) (
 .chk (.eqN r0 r0) <|
 .pure [] .len [g v 7] fun v10 =>
 .loop 36 10 [(.int .i64 0),g l3 1] fun C36 l11 =>
 .pure [] (.bin .lss .int) [g l11 0,v10] fun v12 =>
 .br v12 (
 .pure [] (.idx 1) [g v 7,g l11 0] fun v13 =>
 .load [] v13 1 fun l14 =>
 .call false 104 [g l14 0,(.int .i64 0),(.pointer (some ⟨r1,0,none⟩))] [] [⟨r1,150,[g l11 1]⟩] .one fun l15 c15 =>
 .pure [] .not [g l15 0] fun v16 =>
 .br v16 (
 .ret (.bool false) []) (
 .pure [] (.bin .add .int) [g l11 0,(.int .i64 1)] fun v17 =>
 .cont 36 C36 [v17,(g (c15.getD 0 []) 0)] [E [(.pointer (some ⟨r0,0,none⟩))],E [(.pointer (some ⟨r1,0,none⟩))],E [(.func (.func 104) #[] #[(.pointer (some ⟨r1,0,none⟩))])],E [(.int .i64 0)],E [(.int .i64 0)],E [(.pointer (some ⟨r0,6,none⟩)),(.pointer (some ⟨r0,7,none⟩)),(.pointer (some ⟨r0,8,none⟩)),(.pointer (some ⟨r0,9,none⟩))],E [(.int .i64 1)],E [g v 7],E [v10],E [(.pointer (some ⟨r0,0,none⟩)),g v 0,g v 1,g v 2,g v 3,g v 4,g v 5,g v 6,g v 7,g v 8,g v 9,g v 10,g v 11,g v 12,g v 13,g v 14,g v 15,g v 16,g v 17,g v 18,g v 19,g v 20,g v 21,g v 22,g v 23,g v 24,g v 25,g v 26,g v 27,g v 28,g v 29,g v 30,g v 31,g v 32,g v 33,g v 34,g v 35,g v 36,g v 37],E [(.pointer (some ⟨r1,0,none⟩)),(.tuple #[])]])) (
 .chk (.eqN r0 r0) <|
 .pure [] .len [g v 8] fun v18 =>
 .loop 48 10 [(.int .i64 0),g l11 1] fun C48 l19 =>
 .pure [] (.bin .lss .int) [g l19 0,v18] fun v20 =>
 .br v20 (
 .pure [] (.idx 1) [g v 8,g l19 0] fun v21 =>
 .load [] v21 1 fun l22 =>
 .call false 104 [g l22 0,(.int .i64 0),(.pointer (some ⟨r1,0,none⟩))] [] [⟨r1,150,[g l19 1]⟩] .one fun l23 c23 =>
 .pure [] .not [g l23 0] fun v24 =>
 .br v24 (
 .ret (.bool false) []) (
 .pure [] (.bin .add .int) [g l19 0,(.int .i64 1)] fun v25 =>
 .cont 48 C48 [v25,(g (c23.getD 0 []) 0)] [E [(.pointer (some ⟨r0,0,none⟩))],E [(.pointer (some ⟨r1,0,none⟩))],E [(.func (.func 104) #[] #[(.pointer (some ⟨r1,0,none⟩))])],E [(.int .i64 0)],E [(.int .i64 0)],E [(.pointer (some ⟨r0,6,none⟩)),(.pointer (some ⟨r0,7,none⟩)),(.pointer (some ⟨r0,8,none⟩)),(.pointer (some ⟨r0,9,none⟩))],E [(.int .i64 2)],E [g v 8],E [v18],E [(.pointer (some ⟨r0,0,none⟩)),g v 0,g v 1,g v 2,g v 3,g v 4,g v 5,g v 6,g v 7,g v 8,g v 9,g v 10,g v 11,g v 12,g v 13,g v 14,g v 15,g v 16,g v 17,g v 18,g v 19,g v 20,g v 21,g v 22,g v 23,g v 24,g v 25,g v 26,g v 27,g v 28,g v 29,g v 30,g v 31,g v 32,g v 33,g v 34,g v 35,g v 36,g v 37],E [(.pointer (some ⟨r1,0,none⟩)),(.tuple #[])]])) (
 .chk (.eqN r0 r0) <|
 .pure [] .len [g v 9] fun v26 =>
 .loop 60 10 [(.int .i64 0),g l19 1] fun C60 l27 =>
 .pure [] (.bin .lss .int) [g l27 0,v26] fun v28 =>
 .br v28 (
 .pure [] (.idx 1) [g v 9,g l27 0] fun v29 =>
 .load [] v29 1 fun l30 =>
 .call false 104 [g l30 0,(.int .i64 0),(.pointer (some ⟨r1,0,none⟩))] [] [⟨r1,150,[g l27 1]⟩] .one fun l31 c31 =>
 .pure [] .not [g l31 0] fun v32 =>
 .br v32 (
 .ret (.bool false) []) (
 .pure [] (.bin .add .int) [g l27 0,(.int .i64 1)] fun v33 =>
 .cont 60 C60 [v33,(g (c31.getD 0 []) 0)] [E [(.pointer (some ⟨r0,0,none⟩))],E [(.pointer (some ⟨r1,0,none⟩))],E [(.func (.func 104) #[] #[(.pointer (some ⟨r1,0,none⟩))])],E [(.int .i64 0)],E [(.int .i64 0)],E [(.pointer (some ⟨r0,6,none⟩)),(.pointer (some ⟨r0,7,none⟩)),(.pointer (some ⟨r0,8,none⟩)),(.pointer (some ⟨r0,9,none⟩))],E [(.int .i64 3)],E [g v 9],E [v26],E [(.pointer (some ⟨r0,0,none⟩)),g v 0,g v 1,g v 2,g v 3,g v 4,g v 5,g v 6,g v 7,g v 8,g v 9,g v 10,g v 11,g v 12,g v 13,g v 14,g v 15,g v 16,g v 17,g v 18,g v 19,g v 20,g v 21,g v 22,g v 23,g v 24,g v 25,g v 26,g v 27,g v 28,g v 29,g v 30,g v 31,g v 32,g v 33,g v 34,g v 35,g v 36,g v 37],E [(.pointer (some ⟨r1,0,none⟩)),(.tuple #[])]])) (
 .call false 81 [(.pointer (some ⟨r0,15,none⟩))] [] [] (.agg 4) fun l34 _ =>
 .chk (.eqV (g l34 0) (.pointer (some ⟨r0,20,none⟩))) <|
 .chk (.eqV (g l34 1) (.pointer (some ⟨r0,21,none⟩))) <|
 .chk (.eqV (g l34 2) (.pointer (some ⟨r0,22,none⟩))) <|
 .chk (.eqV (g l34 3) (.pointer (some ⟨r0,23,none⟩))) <|
 .chk (.eqN r0 r0) <|
 .pure [] .len [g v 20] fun v35 =>
 .loop 83 10 [(.int .i64 0),g l27 1] fun C83 l36 =>
 .pure [] (.bin .lss .int) [g l36 0,v35] fun v37 =>
 .br v37 (
 .pure [] (.idx 1) [g v 20,g l36 0] fun v38 =>
 .load [] v38 1 fun l39 =>
 .call false 104 [g l39 0,(.int .i64 1),(.pointer (some ⟨r1,0,none⟩))] [] [⟨r1,150,[g l36 1]⟩] .one fun l40 c40 =>
 .pure [] .not [g l40 0] fun v41 =>
 .br v41 (
 .ret (.bool false) []) (
 .pure [] (.bin .add .int) [g l36 0,(.int .i64 1)] fun v42 =>
 .cont 83 C83 [v42,(g (c40.getD 0 []) 0)] [E [(.pointer (some ⟨r0,0,none⟩))],E [(.pointer (some ⟨r1,0,none⟩))],E [(.func (.func 104) #[] #[(.pointer (some ⟨r1,0,none⟩))])],E [(.int .i64 1)],E [(.int .i64 1)],E [(.pointer (some ⟨r0,20,none⟩)),(.pointer (some ⟨r0,21,none⟩)),(.pointer (some ⟨r0,22,none⟩)),(.pointer (some ⟨r0,23,none⟩))],E [(.int .i64 0)],E [g v 20],E [v35],E [(.pointer (some ⟨r0,0,none⟩)),g v 0,g v 1,g v 2,g v 3,g v 4,g v 5,g v 6,g v 7,g v 8,g v 9,g v 10,g v 11,g v 12,g v 13,g v 14,g v 15,g v 16,g v 17,g v 18,g v 19,g v 20,g v 21,g v 22,g v 23,g v 24,g v 25,g v 26,g v 27,g v 28,g v 29,g v 30,g v 31,g v 32,g v 33,g v 34,g v 35,g v 36,g v 37],E [(.pointer (some ⟨r1,0,none⟩)),(.tuple #[])]])) (
 .chk (.eqN r0 r0) <|
 .pure [] .len [g v 21] fun v43 =>
 .loop 95 10 [(.int .i64 0),g l36 1] fun C95 l44 =>
 .pure [] (.bin .lss .int) [g l44 0,v43] fun v45 =>
 .br v45 (
 .pure [] (.idx 1) [g v 21,g l44 0] fun v46 =>
 .load [] v46 1 fun l47 =>
 .call false 104 [g l47 0,(.int .i64 1),(.pointer (some ⟨r1,0,none⟩))] [] [⟨r1,150,[g l44 1]⟩] .one fun l48 c48 =>
 .pure [] .not [g l48 0] fun v49 =>
 .br v49 (
 .ret (.bool false) []) (
 .pure [] (.bin .add .int) [g l44 0,(.int .i64 1)] fun v50 =>
 .cont 95 C95 [v50,(g (c48.getD 0 []) 0)] [E [(.pointer (some ⟨r0,0,none⟩))],E [(.pointer (some ⟨r1,0,none⟩))],E [(.func (.func 104) #[] #[(.pointer (some ⟨r1,0,none⟩))])],E [(.int .i64 1)],E [(.int .i64 1)],E [(.pointer (some ⟨r0,20,none⟩)),(.pointer (some ⟨r0,21,none⟩)),(.pointer (some ⟨r0,22,none⟩)),(.pointer (some ⟨r0,23,none⟩))],E [(.int .i64 1)],E [g v 21],E [v43],E [(.pointer (some ⟨r0,0,none⟩)),g v 0,g v 1,g v 2,g v 3,g v 4,g v 5,g v 6,g v 7,g v 8,g v 9,g v 10,g v 11,g v 12,g v 13,g v 14,g v 15,g v 16,g v 17,g v 18,g v 19,g v 20,g v 21,g v 22,g v 23,g v 24,g v 25,g v 26,g v 27,g v 28,g v 29,g v 30,g v 31,g v 32,g v 33,g v 34,g v 35,g v 36,g v 37],E [(.pointer (some ⟨r1,0,none⟩)),(.tuple #[])]])) (
 .chk (.eqN r0 r0) <|
 .pure [] .len [g v 22] fun v51 =>
 .loop 107 10 [(.int .i64 0),g l44 1] fun C107 l52 =>
 .pure [] (.bin .lss .int) [g l52 0,v51] fun v53 =>
 .br v53 (
 .pure [] (.idx 1) [g v 22,g l52 0] fun v54 =>
 .load [] v54 1 fun l55 =>
 .call false 104 [g l55 0,(.int .i64 1),(.pointer (some ⟨r1,0,none⟩))] [] [⟨r1,150,[g l52 1]⟩] .one fun l56 c56 =>
 .pure [] .not [g l56 0] fun v57 =>
 .br v57 (
 .ret (.bool false) []) (
 .pure [] (.bin .add .int) [g l52 0,(.int .i64 1)] fun v58 =>
 .cont 107 C107 [v58,(g (c56.getD 0 []) 0)] [E [(.pointer (some ⟨r0,0,none⟩))],E [(.pointer (some ⟨r1,0,none⟩))],E [(.func (.func 104) #[] #[(.pointer (some ⟨r1,0,none⟩))])],E [(.int .i64 1)],E [(.int .i64 1)],E [(.pointer (some ⟨r0,20,none⟩)),(.pointer (some ⟨r0,21,none⟩)),(.pointer (some ⟨r0,22,none⟩)),(.pointer (some ⟨r0,23,none⟩))],E [(.int .i64 2)],E [g v 22],E [v51],E [(.pointer (some ⟨r0,0,none⟩)),g v 0,g v 1,g v 2,g v 3,g v 4,g v 5,g v 6,g v 7,g v 8,g v 9,g v 10,g v 11,g v 12,g v 13,g v 14,g v 15,g v 16,g v 17,g v 18,g v 19,g v 20,g v 21,g v 22,g v 23,g v 24,g v 25,g v 26,g v 27,g v 28,g v 29,g v 30,g v 31,g v 32,g v 33,g v 34,g v 35,g v 36,g v 37],E [(.pointer (some ⟨r1,0,none⟩)),(.tuple #[])]])) (
 .chk (.eqN r0 r0) <|
 .pure [] .len [g v 23] fun v59 =>
 .loop 119 10 [(.int .i64 0),g l52 1] fun C119 l60 =>
 .pure [] (.bin .lss .int) [g l60 0,v59] fun v61 =>
 .br v61 (
 .pure [] (.idx 1) [g v 23,g l60 0] fun v62 =>
 .load [] v62 1 fun l63 =>
 .call false 104 [g l63 0,(.int .i64 1),(.pointer (some ⟨r1,0,none⟩))] [] [⟨r1,150,[g l60 1]⟩] .one fun l64 c64 =>
 .pure [] .not [g l64 0] fun v65 =>
 .br v65 (
 .ret (.bool false) []) (
 .pure [] (.bin .add .int) [g l60 0,(.int .i64 1)] fun v66 =>
 .cont 119 C119 [v66,(g (c64.getD 0 []) 0)] [E [(.pointer (some ⟨r0,0,none⟩))],E [(.pointer (some ⟨r1,0,none⟩))],E [(.func (.func 104) #[] #[(.pointer (some ⟨r1,0,none⟩))])],E [(.int .i64 1)],E [(.int .i64 1)],E [(.pointer (some ⟨r0,20,none⟩)),(.pointer (some ⟨r0,21,none⟩)),(.pointer (some ⟨r0,22,none⟩)),(.pointer (some ⟨r0,23,none⟩))],E [(.int .i64 3)],E [g v 23],E [v59],E [(.pointer (some ⟨r0,0,none⟩)),g v 0,g v 1,g v 2,g v 3,g v 4,g v 5,g v 6,g v 7,g v 8,g v 9,g v 10,g v 11,g v 12,g v 13,g v 14,g v 15,g v 16,g v 17,g v 18,g v 19,g v 20,g v 21,g v 22,g v 23,g v 24,g v 25,g v 26,g v 27,g v 28,g v 29,g v 30,g v 31,g v 32,g v 33,g v 34,g v 35,g v 36,g v 37],E [(.pointer (some ⟨r1,0,none⟩)),(.tuple #[])]])) (
 .prim (.makeMap 150 false) [] [] [] .one fun l67 _ =>
 .chk (.eqN r0 r0) <|
 .pure [] .len [g v 29] fun v68 =>
 .loop 133 19 [(.int .i64 0),g l60 1] fun C133 l69 =>
 .pure [] (.bin .lss .int) [g l69 0,v68] fun v70 =>
 .br v70 (
 .pure [] (.idx 5) [g v 29,g l69 0] fun v71 =>
 .load [] v71 5 fun l72 =>
 .newbox fun r2 =>
 .chk (.eqN r2 r2) <|
 .chk (.eqN r2 r2) <|
 .pure [] (.bin .lss .int) [g l72 3,(.int .i64 0)] fun v73 =>
 .br v73 (
 .chk (.eqN r2 r2) <|
 .chk (.eqN r2 r2) <|
 .call false 104 [g l72 1,g l72 0,(.pointer (some ⟨r1,0,none⟩))] [] [⟨r1,150,[g l69 1]⟩] .one fun l74 c74 =>
 .pure [] .not [g l74 0] fun v75 =>
 .br v75 (
 .ret (.bool false) []) (
 .chk (.eqN r2 r2) <|
 .chk (.eqN r2 r2) <|
 .prim (.mapUpdate 150) [g l67 0,g l72 1,g l72 2] [] [] .one fun l76 _ =>
 .pure [] (.bin .add .int) [g l69 0,(.int .i64 1)] fun v77 =>
 .cont 133 C133 [v77,(g (c74.getD 0 []) 0)] [E [(.pointer (some ⟨r0,0,none⟩))],E [(.pointer (some ⟨r1,0,none⟩))],E [(.func (.func 104) #[] #[(.pointer (some ⟨r1,0,none⟩))])],E [g l67 0],E [g v 29],E [v68],E [(.pointer (some ⟨r0,0,none⟩)),g v 0,g v 1,g v 2,g v 3,g v 4,g v 5,g v 6,g v 7,g v 8,g v 9,g v 10,g v 11,g v 12,g v 13,g v 14,g v 15,g v 16,g v 17,g v 18,g v 19,g v 20,g v 21,g v 22,g v 23,g v 24,g v 25,g v 26,g v 27,g v 28,g v 29,g v 30,g v 31,g v 32,g v 33,g v 34,g v 35,g v 36,g v 37],E [(.pointer (some ⟨r1,0,none⟩)),(.tuple #[])]])) (
 .pure [] (.bin .add .int) [g l69 0,(.int .i64 1)] fun v78 =>
 .cont 133 C133 [v78,g l69 1] [E [(.pointer (some ⟨r0,0,none⟩))],E [(.pointer (some ⟨r1,0,none⟩))],E [(.func (.func 104) #[] #[(.pointer (some ⟨r1,0,none⟩))])],E [g l67 0],E [g v 29],E [v68],E [(.pointer (some ⟨r0,0,none⟩)),g v 0,g v 1,g v 2,g v 3,g v 4,g v 5,g v 6,g v 7,g v 8,g v 9,g v 10,g v 11,g v 12,g v 13,g v 14,g v 15,g v 16,g v 17,g v 18,g v 19,g v 20,g v 21,g v 22,g v 23,g v 24,g v 25,g v 26,g v 27,g v 28,g v 29,g v 30,g v 31,g v 32,g v 33,g v 34,g v 35,g v 36,g v 37],E [(.pointer (some ⟨r1,0,none⟩)),(.tuple #[])]])) (
 .chk (.eqN r0 r0) <|
 .pure [] .len [g v 0] fun v79 =>
 .loop 139 27 [(.int .i64 0)] fun C139 l80 =>
 .pure [] (.bin .lss .int) [g l80 0,v79] fun v81 =>
 .br v81 (
 .pure [] (.idx 12) [g v 0,g l80 0] fun v82 =>
 .load [] v82 12 fun l83 =>
 .newbox fun r3 =>
 .chk (.eqN r3 r3) <|
 .chk (.eqN r1 r1) <|
 .chk (.eqN r3 r3) <|
 .prim (.lookup 150 true) [g l69 1,g l83 0] [] [] (.tup [none,none]) fun l84 _ =>
 .chk (.eqN r3 r3) <|
 .prim (.lookup 150 true) [g l67 0,g l83 0] [] [] (.tup [none,none]) fun l85 _ =>
 .chk (.eqN r3 r3) <|
 .call false 105 [(.agg #[g l83 0,g l83 1,g l83 2,g l83 3,g l83 4,g l83 5,g l83 6,g l83 7,g l83 8,g l83 9,g l83 10,g l83 11])] [] [] .one fun l86 _ =>
 .pure [] .not [g l86 0] fun v87 =>
 .chk (.eqV v87 v87) <|
 .pure [] (.bin .gtr .int) [g l80 0,(.int .i64 0)] fun v88 =>
 .chk (.eqV v87 v87) <|
 .chk (.eqN r0 r0) <|
 .chk (.eqV v88 v88) <|
 .chk (.eqV v87 v87) <|
 .chk (.eqV v88 v88) <|
 .chk (.eqV v87 v87) <|
 .pure [] (.bin .sub .int) [g l80 0,(.int .i64 1)] fun v89 =>
 .chk (.eqV v88 v88) <|
 .chk (.eqV v87 v87) <|
 .chk (.eqV v88 v88) <|
 .chk (.eqV v87 v87) <|
 .pure [(v88,true),(v87,false)] (.idx 12) [g v 0,v89] fun v90 =>
 .chk (.ptr [(v88,true),(v87,false)] v90) <|
 .chk (.eqV v88 v88) <|
 .chk (.eqV v87 v87) <|
 .chk (.eqV v88 v88) <|
 .chk (.eqV v87 v87) <|
 .load [(v88,true),(v87,false)] v90 1 fun l91 =>
 .chk (.eqN r3 r3) <|
 .chk (.eqV v88 v88) <|
 .chk (.eqV v87 v87) <|
 .chk (.eqV v88 v88) <|
 .chk (.eqV v87 v87) <|
 .chk (.eqV v88 v88) <|
 .chk (.eqV v87 v87) <|
 .pure [] (.bin .geq .int) [g l91 0,g l83 0] fun v92 =>
 .chk (.eqV v87 v87) <|
 .chk (.eqV v88 v88) <|
 .chk (.eqV v87 v87) <|
 .pure [] .pick [v88,v92,(.bool false)] fun v93 =>
 .chk (.eqV v87 v87) <|
 .pure [] .pick [v87,(.bool true),v93] fun v94 =>
 .chk (.eqV v94 v94) <|
 .pure [] .not [g l84 1] fun v95 =>
 .chk (.eqV v94 v94) <|
 .pure [] .pick [v94,(.bool true),v95] fun v96 =>
 .chk (.eqN r3 r3) <|
 .chk (.eqV v96 v96) <|
 .chk (.eqV v96 v96) <|
 .chk (.eqV v96 v96) <|
 .pure [] (.bin .neq .int) [g l84 0,g l83 2] fun v97 =>
 .chk (.eqV v96 v96) <|
 .pure [] .pick [v96,(.bool true),v97] fun v98 =>
 .chk (.eqV v98 v98) <|
 .chk (.eqN r3 r3) <|
 .chk (.eqV (g l85 1) (g l85 1)) <|
 .chk (.eqV v98 v98) <|
 .chk (.eqV (g l85 1) (g l85 1)) <|
 .chk (.eqV v98 v98) <|
 .chk (.eqV (g l85 1) (g l85 1)) <|
 .chk (.eqV v98 v98) <|
 .pure [] (.bin .neq .int) [g l85 0,g l83 1] fun v99 =>
 .chk (.eqV v98 v98) <|
 .chk (.eqV (g l85 1) (g l85 1)) <|
 .chk (.eqV v98 v98) <|
 .pure [] .pick [g l85 1,v99,(.bool false)] fun v100 =>
 .chk (.eqV v98 v98) <|
 .pure [] .pick [v98,(.bool true),v100] fun v101 =>
 .br v101 (
 .ret (.bool false) []) (
 .pure [] (.bin .add .int) [g l80 0,(.int .i64 1)] fun v102 =>
 .cont 139 C139 [v102] [E [(.pointer (some ⟨r0,0,none⟩))],E [(.pointer (some ⟨r1,0,none⟩))],E [g l67 0],E [g v 0],E [v79],E [(.pointer (some ⟨r0,0,none⟩)),g v 0,g v 1,g v 2,g v 3,g v 4,g v 5,g v 6,g v 7,g v 8,g v 9,g v 10,g v 11,g v 12,g v 13,g v 14,g v 15,g v 16,g v 17,g v 18,g v 19,g v 20,g v 21,g v 22,g v 23,g v 24,g v 25,g v 26,g v 27,g v 28,g v 29,g v 30,g v 31,g v 32,g v 33,g v 34,g v 35,g v 36,g v 37],E [(.pointer (some ⟨r1,0,none⟩)),g l69 1]])) (
 .chk (.eqN r1 r1) <|
 .prim (.bi .len #[150] 3) [g l69 1] [] [] .one fun l103 _ =>
 .chk (.eqN r0 r0) <|
 .pure [] .len [g v 0] fun v104 =>
 .pure [] (.bin .eql .int) [g l103 0,v104] fun v105 =>
 .ret v105 []))))))))))
theorem T_board_placed_eq (vs : List Value) : sxFun PP Tryz.f76 (mkOpts okL [(81, [5, 6, 7, 8])] [(4, .unroll 3), (7, .unroll 5), (10, .inv [35] [1, 3, 4, 5, 21, 27, 28, 33, 34] [(1, []), (3, [0])]), (19, .inv [51] [1, 3, 4, 10, 49, 50] [(1, []), (3, [0])]), (27, .inv [74] [1, 3, 10, 72, 73] [(1, []), (3, [])])] []) vs = T_board_placed vs := by kernel_rfl
theorem run_board_placed {args vs} (ha : entryArgs PP Tryz.f76 args = some vs) (ho : Ones vs) {H O Q} (h : (T_board_placed vs).den PP Q H O) : Triple PP F_board_placed args H O Q :=
 triple_run mixed (mkOpts_ok okL_ok _ _ _) Tryz.func76 T_board_placed_eq ha ho h
abbrev F_board_fights : FuncId := 77
/- zeitnot/board.fights -/
def T_board_fights (v : List Value) : Tree :=
 .newbox fun r0 =>
 .chk (.eqN r0 r0) <|
 .sw (g v 34) 0 (
 .chk (.eqN r0 r0) <|
 .chk (.eqN r0 r0) <|
 .pure [] (.bin .sub .int) [(.int .i64 1),g v 34] fun v0 =>
 .sw v0 0 (
 .chk (.eqN r0 r0) <|
 .prim (.makeMap 152 false) [] [] [] .one fun l1 _ =>
 .chk (.eqN r0 r0) <|
 .pure [] .len [g v 31] fun v2 =>
 .loop 23 4 [(.int .i64 0)] fun C23 l3 =>
 .pure [] (.bin .lss .int) [g l3 0,v2] fun v4 =>
 .br v4 (
 .pure [] (.idx 1) [g v 31,g l3 0] fun v5 =>
 .load [] v5 1 fun l6 =>
 .prim (.lookup 152 false) [g l1 0,g l6 0] [] [] .one fun l7 _ =>
 .br (g l7 0) (
 .ret (.bool false) []) (
 .call false 106 [g v 8,g l6 0] [] [] .one fun l8 _ =>
 .pure [] .not [g l8 0] fun v9 =>
 .br v9 (
 .ret (.bool false) []) (
 .prim (.mapUpdate 152) [g l1 0,g l6 0,(.bool true)] [] [] .one fun l10 _ =>
 .pure [] (.bin .add .int) [g l3 0,(.int .i64 1)] fun v11 =>
 .cont 23 C23 [v11] [E [(.pointer (some ⟨r0,0,none⟩))],E [g v 8],E [g v 8],E [g l1 0],E [g v 31],E [v2],E [(.pointer (some ⟨r0,0,none⟩)),g v 0,g v 1,g v 2,g v 3,g v 4,g v 5,g v 6,g v 7,g v 8,g v 9,g v 10,g v 11,g v 12,g v 13,g v 14,g v 15,g v 16,g v 17,g v 18,g v 19,g v 20,g v 21,g v 22,g v 23,g v 24,g v 25,g v 26,g v 27,g v 28,g v 29,g v 30,g v 31,g v 32,g v 33,g v 34,g v 35,g v 36,g v 37]]))) (
 .chk (.eqN r0 r0) <|
 .pure [] .len [g v 32] fun v12 =>
 .loop 29 11 [(.int .i64 0)] fun C29 l13 =>
 .pure [] (.bin .lss .int) [g l13 0,v12] fun v14 =>
 .br v14 (
 .pure [] (.idx 2) [g v 32,g l13 0] fun v15 =>
 .load [] v15 2 fun l16 =>
 .newbox fun r1 =>
 .chk (.eqN r1 r1) <|
 .chk (.eqN r1 r1) <|
 .prim (.lookup 152 false) [g l1 0,g l16 1] [] [] .one fun l17 _ =>
 .pure [] .not [g l17 0] fun v18 =>
 .br v18 (
 .ret (.bool false) []) (
 .chk (.eqN r1 r1) <|
 .pure [] .neg [g l16 0] fun v19 =>
 .prim (.lookup 152 false) [g l1 0,v19] [] [] .one fun l20 _ =>
 .br (g l20 0) (
 .ret (.bool false) []) (
 .chk (.eqN r0 r0) <|
 .chk (.eqN r1 r1) <|
 .call false 106 [g v 31,g l16 1] [] [] .one fun l21 _ =>
 .pure [] .not [g l21 0] fun v22 =>
 .br v22 (
 .ret (.bool false) []) (
 .chk (.eqN r1 r1) <|
 .call false 106 [g v 8,g l16 0] [] [] .one fun l23 _ =>
 .pure [] .not [g l23 0] fun v24 =>
 .br v24 (
 .ret (.bool false) []) (
 .chk (.eqN r1 r1) <|
 .chk (.eqN r1 r1) <|
 .pure [] .neg [g l16 0] fun v25 =>
 .prim (.mapUpdate 152) [g l1 0,g l16 1,(.bool false)] [] [] .one fun l26 _ =>
 .prim (.mapUpdate 152) [g l1 0,v25,(.bool true)] [] [] .one fun l27 _ =>
 .pure [] (.bin .add .int) [g l13 0,(.int .i64 1)] fun v28 =>
 .cont 29 C29 [v28] [E [(.pointer (some ⟨r0,0,none⟩))],E [g v 8],E [g l1 0],E [g v 32],E [v12],E [(.pointer (some ⟨r0,0,none⟩)),g v 0,g v 1,g v 2,g v 3,g v 4,g v 5,g v 6,g v 7,g v 8,g v 9,g v 10,g v 11,g v 12,g v 13,g v 14,g v 15,g v 16,g v 17,g v 18,g v 19,g v 20,g v 21,g v 22,g v 23,g v 24,g v 25,g v 26,g v 27,g v 28,g v 29,g v 30,g v 31,g v 32,g v 33,g v 34,g v 35,g v 36,g v 37]]))))) (
 .ret (.bool true) []))) (
 .sw v0 1 (
 .chk (.eqN r0 r0) <|
 .prim (.makeMap 152 false) [] [] [] .one fun l29 _ =>
 .chk (.eqN r0 r0) <|
 .pure [] .len [g v 31] fun v30 =>
 .loop 23 4 [(.int .i64 0)] fun C23 l31 =>
 .pure [] (.bin .lss .int) [g l31 0,v30] fun v32 =>
 .br v32 (
 .pure [] (.idx 1) [g v 31,g l31 0] fun v33 =>
 .load [] v33 1 fun l34 =>
 .prim (.lookup 152 false) [g l29 0,g l34 0] [] [] .one fun l35 _ =>
 .br (g l35 0) (
 .ret (.bool false) []) (
 .call false 106 [g v 8,g l34 0] [] [] .one fun l36 _ =>
 .pure [] .not [g l36 0] fun v37 =>
 .br v37 (
 .ret (.bool false) []) (
 .prim (.mapUpdate 152) [g l29 0,g l34 0,(.bool true)] [] [] .one fun l38 _ =>
 .pure [] (.bin .add .int) [g l31 0,(.int .i64 1)] fun v39 =>
 .cont 23 C23 [v39] [E [(.pointer (some ⟨r0,0,none⟩))],E [g v 8],E [g v 22],E [g l29 0],E [g v 31],E [v30],E [(.pointer (some ⟨r0,0,none⟩)),g v 0,g v 1,g v 2,g v 3,g v 4,g v 5,g v 6,g v 7,g v 8,g v 9,g v 10,g v 11,g v 12,g v 13,g v 14,g v 15,g v 16,g v 17,g v 18,g v 19,g v 20,g v 21,g v 22,g v 23,g v 24,g v 25,g v 26,g v 27,g v 28,g v 29,g v 30,g v 31,g v 32,g v 33,g v 34,g v 35,g v 36,g v 37]]))) (
 .chk (.eqN r0 r0) <|
 .pure [] .len [g v 32] fun v40 =>
 .loop 29 11 [(.int .i64 0)] fun C29 l41 =>
 .pure [] (.bin .lss .int) [g l41 0,v40] fun v42 =>
 .br v42 (
 .pure [] (.idx 2) [g v 32,g l41 0] fun v43 =>
 .load [] v43 2 fun l44 =>
 .newbox fun r2 =>
 .chk (.eqN r2 r2) <|
 .chk (.eqN r2 r2) <|
 .prim (.lookup 152 false) [g l29 0,g l44 1] [] [] .one fun l45 _ =>
 .pure [] .not [g l45 0] fun v46 =>
 .br v46 (
 .ret (.bool false) []) (
 .chk (.eqN r2 r2) <|
 .pure [] .neg [g l44 0] fun v47 =>
 .prim (.lookup 152 false) [g l29 0,v47] [] [] .one fun l48 _ =>
 .br (g l48 0) (
 .ret (.bool false) []) (
 .chk (.eqN r0 r0) <|
 .chk (.eqN r2 r2) <|
 .call false 106 [g v 31,g l44 1] [] [] .one fun l49 _ =>
 .pure [] .not [g l49 0] fun v50 =>
 .br v50 (
 .ret (.bool false) []) (
 .chk (.eqN r2 r2) <|
 .call false 106 [g v 22,g l44 0] [] [] .one fun l51 _ =>
 .pure [] .not [g l51 0] fun v52 =>
 .br v52 (
 .ret (.bool false) []) (
 .chk (.eqN r2 r2) <|
 .chk (.eqN r2 r2) <|
 .pure [] .neg [g l44 0] fun v53 =>
 .prim (.mapUpdate 152) [g l29 0,g l44 1,(.bool false)] [] [] .one fun l54 _ =>
 .prim (.mapUpdate 152) [g l29 0,v53,(.bool true)] [] [] .one fun l55 _ =>
 .pure [] (.bin .add .int) [g l41 0,(.int .i64 1)] fun v56 =>
 .cont 29 C29 [v56] [E [(.pointer (some ⟨r0,0,none⟩))],E [g v 22],E [g l29 0],E [g v 32],E [v40],E [(.pointer (some ⟨r0,0,none⟩)),g v 0,g v 1,g v 2,g v 3,g v 4,g v 5,g v 6,g v 7,g v 8,g v 9,g v 10,g v 11,g v 12,g v 13,g v 14,g v 15,g v 16,g v 17,g v 18,g v 19,g v 20,g v 21,g v 22,g v 23,g v 24,g v 25,g v 26,g v 27,g v 28,g v 29,g v 30,g v 31,g v 32,g v 33,g v 34,g v 35,g v 36,g v 37]]))))) (
 .ret (.bool true) []))) (
 .stuck 901))) (
 .sw (g v 34) 1 (
 .chk (.eqN r0 r0) <|
 .chk (.eqN r0 r0) <|
 .pure [] (.bin .sub .int) [(.int .i64 1),g v 34] fun v57 =>
 .sw v57 0 (
 .chk (.eqN r0 r0) <|
 .prim (.makeMap 152 false) [] [] [] .one fun l58 _ =>
 .chk (.eqN r0 r0) <|
 .pure [] .len [g v 31] fun v59 =>
 .loop 23 4 [(.int .i64 0)] fun C23 l60 =>
 .pure [] (.bin .lss .int) [g l60 0,v59] fun v61 =>
 .br v61 (
 .pure [] (.idx 1) [g v 31,g l60 0] fun v62 =>
 .load [] v62 1 fun l63 =>
 .prim (.lookup 152 false) [g l58 0,g l63 0] [] [] .one fun l64 _ =>
 .br (g l64 0) (
 .ret (.bool false) []) (
 .call false 106 [g v 22,g l63 0] [] [] .one fun l65 _ =>
 .pure [] .not [g l65 0] fun v66 =>
 .br v66 (
 .ret (.bool false) []) (
 .prim (.mapUpdate 152) [g l58 0,g l63 0,(.bool true)] [] [] .one fun l67 _ =>
 .pure [] (.bin .add .int) [g l60 0,(.int .i64 1)] fun v68 =>
 .cont 23 C23 [v68] [E [(.pointer (some ⟨r0,0,none⟩))],E [g v 22],E [g v 8],E [g l58 0],E [g v 31],E [v59],E [(.pointer (some ⟨r0,0,none⟩)),g v 0,g v 1,g v 2,g v 3,g v 4,g v 5,g v 6,g v 7,g v 8,g v 9,g v 10,g v 11,g v 12,g v 13,g v 14,g v 15,g v 16,g v 17,g v 18,g v 19,g v 20,g v 21,g v 22,g v 23,g v 24,g v 25,g v 26,g v 27,g v 28,g v 29,g v 30,g v 31,g v 32,g v 33,g v 34,g v 35,g v 36,g v 37]]))) (
 .chk (.eqN r0 r0) <|
 .pure [] .len [g v 32] fun v69 =>
 .loop 29 11 [(.int .i64 0)] fun C29 l70 =>
 .pure [] (.bin .lss .int) [g l70 0,v69] fun v71 =>
 .br v71 (
 .pure [] (.idx 2) [g v 32,g l70 0] fun v72 =>
 .load [] v72 2 fun l73 =>
 .newbox fun r3 =>
 .chk (.eqN r3 r3) <|
 .chk (.eqN r3 r3) <|
 .prim (.lookup 152 false) [g l58 0,g l73 1] [] [] .one fun l74 _ =>
 .pure [] .not [g l74 0] fun v75 =>
 .br v75 (
 .ret (.bool false) []) (
 .chk (.eqN r3 r3) <|
 .pure [] .neg [g l73 0] fun v76 =>
 .prim (.lookup 152 false) [g l58 0,v76] [] [] .one fun l77 _ =>
 .br (g l77 0) (
 .ret (.bool false) []) (
 .chk (.eqN r0 r0) <|
 .chk (.eqN r3 r3) <|
 .call false 106 [g v 31,g l73 1] [] [] .one fun l78 _ =>
 .pure [] .not [g l78 0] fun v79 =>
 .br v79 (
 .ret (.bool false) []) (
 .chk (.eqN r3 r3) <|
 .call false 106 [g v 8,g l73 0] [] [] .one fun l80 _ =>
 .pure [] .not [g l80 0] fun v81 =>
 .br v81 (
 .ret (.bool false) []) (
 .chk (.eqN r3 r3) <|
 .chk (.eqN r3 r3) <|
 .pure [] .neg [g l73 0] fun v82 =>
 .prim (.mapUpdate 152) [g l58 0,g l73 1,(.bool false)] [] [] .one fun l83 _ =>
 .prim (.mapUpdate 152) [g l58 0,v82,(.bool true)] [] [] .one fun l84 _ =>
 .pure [] (.bin .add .int) [g l70 0,(.int .i64 1)] fun v85 =>
 .cont 29 C29 [v85] [E [(.pointer (some ⟨r0,0,none⟩))],E [g v 8],E [g l58 0],E [g v 32],E [v69],E [(.pointer (some ⟨r0,0,none⟩)),g v 0,g v 1,g v 2,g v 3,g v 4,g v 5,g v 6,g v 7,g v 8,g v 9,g v 10,g v 11,g v 12,g v 13,g v 14,g v 15,g v 16,g v 17,g v 18,g v 19,g v 20,g v 21,g v 22,g v 23,g v 24,g v 25,g v 26,g v 27,g v 28,g v 29,g v 30,g v 31,g v 32,g v 33,g v 34,g v 35,g v 36,g v 37]]))))) (
 .ret (.bool true) []))) (
 .sw v57 1 (
 .chk (.eqN r0 r0) <|
 .prim (.makeMap 152 false) [] [] [] .one fun l86 _ =>
 .chk (.eqN r0 r0) <|
 .pure [] .len [g v 31] fun v87 =>
 .loop 23 4 [(.int .i64 0)] fun C23 l88 =>
 .pure [] (.bin .lss .int) [g l88 0,v87] fun v89 =>
 .br v89 (
 .pure [] (.idx 1) [g v 31,g l88 0] fun v90 =>
 .load [] v90 1 fun l91 =>
 .prim (.lookup 152 false) [g l86 0,g l91 0] [] [] .one fun l92 _ =>
 .br (g l92 0) (
 .ret (.bool false) []) (
 .call false 106 [g v 22,g l91 0] [] [] .one fun l93 _ =>
 .pure [] .not [g l93 0] fun v94 =>
 .br v94 (
 .ret (.bool false) []) (
 .prim (.mapUpdate 152) [g l86 0,g l91 0,(.bool true)] [] [] .one fun l95 _ =>
 .pure [] (.bin .add .int) [g l88 0,(.int .i64 1)] fun v96 =>
 .cont 23 C23 [v96] [E [(.pointer (some ⟨r0,0,none⟩))],E [g v 22],E [g v 22],E [g l86 0],E [g v 31],E [v87],E [(.pointer (some ⟨r0,0,none⟩)),g v 0,g v 1,g v 2,g v 3,g v 4,g v 5,g v 6,g v 7,g v 8,g v 9,g v 10,g v 11,g v 12,g v 13,g v 14,g v 15,g v 16,g v 17,g v 18,g v 19,g v 20,g v 21,g v 22,g v 23,g v 24,g v 25,g v 26,g v 27,g v 28,g v 29,g v 30,g v 31,g v 32,g v 33,g v 34,g v 35,g v 36,g v 37]]))) (
 .chk (.eqN r0 r0) <|
 .pure [] .len [g v 32] fun v97 =>
 .loop 29 11 [(.int .i64 0)] fun C29 l98 =>
 .pure [] (.bin .lss .int) [g l98 0,v97] fun v99 =>
 .br v99 (
 .pure [] (.idx 2) [g v 32,g l98 0] fun v100 =>
 .load [] v100 2 fun l101 =>
 .newbox fun r4 =>
 .chk (.eqN r4 r4) <|
 .chk (.eqN r4 r4) <|
 .prim (.lookup 152 false) [g l86 0,g l101 1] [] [] .one fun l102 _ =>
 .pure [] .not [g l102 0] fun v103 =>
 .br v103 (
 .ret (.bool false) []) (
 .chk (.eqN r4 r4) <|
 .pure [] .neg [g l101 0] fun v104 =>
 .prim (.lookup 152 false) [g l86 0,v104] [] [] .one fun l105 _ =>
 .br (g l105 0) (
 .ret (.bool false) []) (
 .chk (.eqN r0 r0) <|
 .chk (.eqN r4 r4) <|
 .call false 106 [g v 31,g l101 1] [] [] .one fun l106 _ =>
 .pure [] .not [g l106 0] fun v107 =>
 .br v107 (
 .ret (.bool false) []) (
 .chk (.eqN r4 r4) <|
 .call false 106 [g v 22,g l101 0] [] [] .one fun l108 _ =>
 .pure [] .not [g l108 0] fun v109 =>
 .br v109 (
 .ret (.bool false) []) (
 .chk (.eqN r4 r4) <|
 .chk (.eqN r4 r4) <|
 .pure [] .neg [g l101 0] fun v110 =>
 .prim (.mapUpdate 152) [g l86 0,g l101 1,(.bool false)] [] [] .one fun l111 _ =>
 .prim (.mapUpdate 152) [g l86 0,v110,(.bool true)] [] [] .one fun l112 _ =>
 .pure [] (.bin .add .int) [g l98 0,(.int .i64 1)] fun v113 =>
 .cont 29 C29 [v113] [E [(.pointer (some ⟨r0,0,none⟩))],E [g v 22],E [g l86 0],E [g v 32],E [v97],E [(.pointer (some ⟨r0,0,none⟩)),g v 0,g v 1,g v 2,g v 3,g v 4,g v 5,g v 6,g v 7,g v 8,g v 9,g v 10,g v 11,g v 12,g v 13,g v 14,g v 15,g v 16,g v 17,g v 18,g v 19,g v 20,g v 21,g v 22,g v 23,g v 24,g v 25,g v 26,g v 27,g v 28,g v 29,g v 30,g v 31,g v 32,g v 33,g v 34,g v 35,g v 36,g v 37]]))))) (
 .ret (.bool true) []))) (
 .stuck 901))) (
 .stuck 901))
theorem T_board_fights_eq (vs : List Value) : sxFun PP Tryz.f77 (mkOpts okL [(81, [5, 6, 7, 8])] [(4, .inv [27] [1, 3, 4, 5, 25, 26] [(1, [])]), (11, .inv [46] [1, 4, 5, 44, 45] [(1, [])])] []) vs = T_board_fights vs := by kernel_rfl
theorem run_board_fights {args vs} (ha : entryArgs PP Tryz.f77 args = some vs) (ho : Ones vs) {H O Q} (h : (T_board_fights vs).den PP Q H O) : Triple PP F_board_fights args H O Q :=
 triple_run mixed (mkOpts_ok okL_ok _ _ _) Tryz.func77 T_board_fights_eq ha ho h
abbrev F_board_index : FuncId := 80
/- zeitnot/board.index -/
def T_board_index (v : List Value) : Tree :=
 .newbox fun r0 =>
 .chk (.eqN r0 r0) <|
 .call false 42 [(.agg #[g v 0,g v 1,g v 2,g v 3,g v 4,g v 5,g v 6,g v 7,g v 8,g v 9,g v 10,g v 11,g v 12,g v 13,g v 14,g v 15,g v 16,g v 17,g v 18,g v 19,g v 20,g v 21,g v 22,g v 23,g v 24,g v 25,g v 26,g v 27,g v 28,g v 29,g v 30,g v 31,g v 32,g v 33,g v 34,g v 35,g v 36,g v 37])] [] [] .one fun l0 _ =>
 .pure [] .not [g l0 0] fun v1 =>
 .br v1 (
 .ret (.tuple #[(.int .i64 0),(.int .i64 2)]) []) (
 .chk (.eqN r0 r0) <|
 .call false 52 [g v 0,g v 38,(.func (.func 109) #[] #[])] [] [] (.tup [none,none]) fun l2 _ =>
 .pure [] .not [g l2 1] fun v3 =>
 .br v3 (
 .ret (.tuple #[(.int .i64 0),(.int .i64 9)]) []) (
 .ret (.tuple #[g l2 0,(.int .i64 0)]) []))
theorem T_board_index_eq (vs : List Value) : sxFun PP Tryz.f80 (mkOpts okL [(81, [5, 6, 7, 8])] [] []) vs = T_board_index vs := by kernel_rfl
theorem run_board_index {args vs} (ha : entryArgs PP Tryz.f80 args = some vs) (ho : Ones vs) {H O Q} (h : (T_board_index vs).den PP Q H O) : Triple PP F_board_index args H O Q :=
 triple_run mixed (mkOpts_ok okL_ok _ _ _) Tryz.func80 T_board_index_eq ha ho h
abbrev F_board_lists : FuncId := 81
/- zeitnot/board.lists -/
def T_board_lists (v : List Value) : Tree :=
 .newbox fun r0 =>
 .chk (.ptr [] (g v 0)) <|
 .chk (.ptr [] (g v 0)) <|
 .chk (.ptr [] (g v 0)) <|
 .chk (.ptr [] (g v 0)) <|
 .chk (.ptr [] (g v 0)) <|
 .chk (.ptr [] (g v 0)) <|
 .chk (.ptr [] (g v 0)) <|
 .chk (.ptr [] (g v 0)) <|
 .chk (.eqN r0 r0) <|
 .chk (.eqN r0 r0) <|
 .ret (.agg #[(ptrAdd (g v 0) 5),(ptrAdd (g v 0) 6),(ptrAdd (g v 0) 7),(ptrAdd (g v 0) 8)]) []
theorem T_board_lists_eq (vs : List Value) : sxFun PP Tryz.f81 (mkOpts okL [(81, [5, 6, 7, 8])] [] []) vs = T_board_lists vs := by kernel_rfl
theorem run_board_lists {args vs} (ha : entryArgs PP Tryz.f81 args = some vs) (ho : Ones vs) {H O Q} (h : (T_board_lists vs).den PP Q H O) : Triple PP F_board_lists args H O Q :=
 triple_run mixed (mkOpts_ok okL_ok _ _ _) Tryz.func81 T_board_lists_eq ha ho h
abbrev F_slices_Index_int_int : FuncId := 82
/- slices.Index[[]int,int] -/
def T_slices_Index_int_int (v : List Value) : Tree :=
 .pure [] .len [g v 0] fun v0 =>
 .loop 4 2 [(.int .i64 0)] fun C4 l1 =>
 .pure [] (.bin .lss .int) [g l1 0,v0] fun v2 =>
 .br v2 (
 .pure [] (.idx 1) [g v 0,g l1 0] fun v3 =>
 .load [] v3 1 fun l4 =>
 .pure [] (.bin .eql .int) [g v 1,g l4 0] fun v5 =>
 .br v5 (
 .ret (g l1 0) []) (
 .pure [] (.bin .add .int) [g l1 0,(.int .i64 1)] fun v6 =>
 .cont 4 C4 [v6] [E [g v 0],E [g v 1],E [v0]])) (
 .ret (.int .i64 (-1)) [])
theorem T_slices_Index_int_int_eq (vs : List Value) : sxFun PP Tryz.f82 (mkOpts okL [(81, [5, 6, 7, 8])] [(2, .inv [8] [0, 1, 7] [])] []) vs = T_slices_Index_int_int vs := by kernel_rfl
theorem run_slices_Index_int_int {args vs} (ha : entryArgs PP Tryz.f82 args = some vs) (ho : Ones vs) {H O Q} (h : (T_slices_Index_int_int vs).den PP Q H O) : Triple PP F_slices_Index_int_int args H O Q :=
 triple_run mixed (mkOpts_ok okL_ok _ _ _) Tryz.func82 T_slices_Index_int_int_eq ha ho h
abbrev F_slices_IndexFunc_api_Item_api_Item : FuncId := 83
/- slices.IndexFunc[[]zeitnot/api.Item,zeitnot/api.Item] -/
def T_slices_IndexFunc_api_Item_api_Item (v : List Value) : Tree :=
 .pure [] .len [g v 0] fun v0 =>
 .loop 4 2 [(.int .i64 0)] fun C4 l1 =>
 .pure [] (.bin .lss .int) [g l1 0,v0] fun v2 =>
 .br v2 (
 .pure [] (.idx 5) [g v 0,g l1 0] fun v3 =>
 .load [] v3 5 fun l4 =>
 .callv false (g v 1) [(.agg #[g l4 0,g l4 1,g l4 2,g l4 3,g l4 4])] [] [] .one fun l5 _ =>
 .br (g l5 0) (
 .ret (g l1 0) []) (
 .pure [] (.bin .add .int) [g l1 0,(.int .i64 1)] fun v6 =>
 .cont 4 C4 [v6] [E [g v 0],E [g v 1],E [v0]])) (
 .ret (.int .i64 (-1)) [])
theorem T_slices_IndexFunc_api_Item_api_Item_eq (vs : List Value) : sxFun PP Tryz.f83 (mkOpts okL [(81, [5, 6, 7, 8])] [(2, .inv [8] [0, 1, 7] [])] []) vs = T_slices_IndexFunc_api_Item_api_Item vs := by kernel_rfl
theorem run_slices_IndexFunc_api_Item_api_Item {args vs} (ha : entryArgs PP Tryz.f83 args = some vs) (ho : Ones vs) {H O Q} (h : (T_slices_IndexFunc_api_Item_api_Item vs).den PP Q H O) : Triple PP F_slices_IndexFunc_api_Item_api_Item args H O Q :=
 triple_run mixed (mkOpts_ok okL_ok _ _ _) Tryz.func83 T_slices_IndexFunc_api_Item_api_Item_eq ha ho h
abbrev F_board_Where_1 : FuncId := 84
/- zeitnot/board.Where$1 -/
def T_board_Where_1 (v : List Value) : Tree :=
 .newbox fun r0 =>
 .chk (.eqN r0 r0) <|
 .pure [] (.bin .lss .int) [g v 3,(.int .i64 0)] fun v0 =>
 .chk (.eqN r0 r0) <|
 .chk (.eqV v0 v0) <|
 .load [(v0,true)] (g v 5) 1 fun l1 =>
 .chk (.eqV v0 v0) <|
 .chk (.eqV v0 v0) <|
 .pure [] (.bin .eql .int) [g v 1,g l1 0] fun v2 =>
 .chk (.eqV v0 v0) <|
 .pure [] .pick [v0,v2,(.bool false)] fun v3 =>
 .ret v3 []
theorem T_board_Where_1_eq (vs : List Value) : sxFun PP Tryz.f84 (mkOpts okL [(81, [5, 6, 7, 8])] [] []) vs = T_board_Where_1 vs := by kernel_rfl
theorem run_board_Where_1 {args vs} (ha : entryArgs PP Tryz.f84 args = some vs) (ho : Ones vs) {H O Q} (h : (T_board_Where_1 vs).den PP Q H O) : Triple PP F_board_Where_1 args H O Q :=
 triple_run mixed (mkOpts_ok okL_ok _ _ _) Tryz.func84 T_board_Where_1_eq ha ho h
abbrev F_slices_Clone_api_Object_api_Object : FuncId := 85
/- slices.Clone[[]zeitnot/api.Object,zeitnot/api.Object] -/
def T_slices_Clone_api_Object_api_Object (v : List Value) : Tree :=
 .pure [] (.bin .eql .slice) [g v 0,(.slice none 0 0)] fun v0 =>
 .br v0 (
 .ret (.slice none 0 0) []) (
 .newbox fun r0 =>
 .prim (.bi .append #[23,23] 23) [(.slice (some ⟨r0,0,none⟩) 0 0),g v 0] [⟨r0,76,[]⟩] [] .one fun l1 _ =>
 .ret (g l1 0) [])
theorem T_slices_Clone_api_Object_api_Object_eq (vs : List Value) : sxFun PP Tryz.f85 (mkOpts okL [(81, [5, 6, 7, 8])] [] []) vs = T_slices_Clone_api_Object_api_Object vs := by kernel_rfl
theorem run_slices_Clone_api_Object_api_Object {args vs} (ha : entryArgs PP Tryz.f85 args = some vs) (ho : Ones vs) {H O Q} (h : (T_slices_Clone_api_Object_api_Object vs).den PP Q H O) : Triple PP F_slices_Clone_api_Object_api_Object args H O Q :=
 triple_run mixed (mkOpts_ok okL_ok _ _ _) Tryz.func85 T_slices_Clone_api_Object_api_Object_eq ha ho h
abbrev F_slices_Clone_int_int : FuncId := 86
/- slices.Clone[[]int,int] -/
def T_slices_Clone_int_int (v : List Value) : Tree :=
 .pure [] (.bin .eql .slice) [g v 0,(.slice none 0 0)] fun v0 =>
 .br v0 (
 .ret (.slice none 0 0) []) (
 .newbox fun r0 =>
 .prim (.bi .append #[26,26] 26) [(.slice (some ⟨r0,0,none⟩) 0 0),g v 0] [⟨r0,3,[]⟩] [] .one fun l1 _ =>
 .ret (g l1 0) [])
theorem T_slices_Clone_int_int_eq (vs : List Value) : sxFun PP Tryz.f86 (mkOpts okL [(81, [5, 6, 7, 8])] [] []) vs = T_slices_Clone_int_int vs := by kernel_rfl
theorem run_slices_Clone_int_int {args vs} (ha : entryArgs PP Tryz.f86 args = some vs) (ho : Ones vs) {H O Q} (h : (T_slices_Clone_int_int vs).den PP Q H O) : Triple PP F_slices_Clone_int_int args H O Q :=
 triple_run mixed (mkOpts_ok okL_ok _ _ _) Tryz.func86 T_slices_Clone_int_int_eq ha ho h
abbrev F_slices_Clone_api_Block_api_Block : FuncId := 87
/- slices.Clone[[]zeitnot/api.Block,zeitnot/api.Block] -/
def T_slices_Clone_api_Block_api_Block (v : List Value) : Tree :=
 .pure [] (.bin .eql .slice) [g v 0,(.slice none 0 0)] fun v0 =>
 .br v0 (
 .ret (.slice none 0 0) []) (
 .newbox fun r0 =>
 .prim (.bi .append #[31,31] 31) [(.slice (some ⟨r0,0,none⟩) 0 0),g v 0] [⟨r0,123,[]⟩] [] .one fun l1 _ =>
 .ret (g l1 0) [])
theorem T_slices_Clone_api_Block_api_Block_eq (vs : List Value) : sxFun PP Tryz.f87 (mkOpts okL [(81, [5, 6, 7, 8])] [] []) vs = T_slices_Clone_api_Block_api_Block vs := by kernel_rfl
theorem run_slices_Clone_api_Block_api_Block {args vs} (ha : entryArgs PP Tryz.f87 args = some vs) (ho : Ones vs) {H O Q} (h : (T_slices_Clone_api_Block_api_Block vs).den PP Q H O) : Triple PP F_slices_Clone_api_Block_api_Block args H O Q :=
 triple_run mixed (mkOpts_ok okL_ok _ _ _) Tryz.func87 T_slices_Clone_api_Block_api_Block_eq ha ho h
abbrev F_board_items : FuncId := 88
/- zeitnot/board.items -/
def T_board_items (v : List Value) : Tree :=
 .call false 110 [g v 0] [] [] .one fun l0 _ =>
 .pure [] .len [g l0 0] fun v1 =>
 .loop 7 3 [(.int .i64 0)] fun C7 l2 =>
 .pure [] (.bin .lss .int) [g l2 0,v1] fun v3 =>
 .br v3 (
 .pure [] (.idx 5) [g l0 0,g l2 0] fun v4 =>
 .chk (.ptr [] v4) <|
 .load [] (ptrAdd v4 4) 1 fun l5 =>
 .call false 111 [g l5 0] [] [] .one fun l6 _ =>
 .pure [] (.idx 5) [g l0 0,g l2 0] fun v7 =>
 .chk (.ptr [] v7) <|
 .chk (.ptr [] (ptrAdd v7 4)) <|
 .store (ptrAdd v7 4) [g l6 0] <|
 .pure [] (.bin .add .int) [g l2 0,(.int .i64 1)] fun v8 =>
 .cont 7 C7 [v8] [E [g l0 0],E [v1]]) (
 .ret (g l0 0) [])
theorem T_board_items_eq (vs : List Value) : sxFun PP Tryz.f88 (mkOpts okL [(81, [5, 6, 7, 8])] [(3, .inv [9] [3, 8] [])] []) vs = T_board_items vs := by kernel_rfl
theorem run_board_items {args vs} (ha : entryArgs PP Tryz.f88 args = some vs) (ho : Ones vs) {H O Q} (h : (T_board_items vs).den PP Q H O) : Triple PP F_board_items args H O Q :=
 triple_run mixed (mkOpts_ok okL_ok _ _ _) Tryz.func88 T_board_items_eq ha ho h
abbrev F_object_Rest : FuncId := 89
/- zeitnot/object.Rest -/
def T_object_Rest (v : List Value) : Tree :=
 .newbox fun r0 =>
 .newbox fun r1 =>
 .chk (.eqN r0 r0) <|
 .chk (.eqN r0 r0) <|
 .chk (.eqN r0 r0) <|
 .chk (.eqN r0 r0) <|
 .chk (.eqN r1 r1) <|
 .chk (.eqN r1 r1) <|
 .ret (.agg #[g v 0,g v 1,g v 2,g v 3,g v 4,(.int .i64 0),g v 6,(.int .i64 0),(.int .i64 0),g v 9,g v 10,g v 11]) []
theorem T_object_Rest_eq (vs : List Value) : sxFun PP Tryz.f89 (mkOpts okL [(81, [5, 6, 7, 8])] [] []) vs = T_object_Rest vs := by kernel_rfl
theorem run_object_Rest {args vs} (ha : entryArgs PP Tryz.f89 args = some vs) (ho : Ones vs) {H O Q} (h : (T_object_Rest vs).den PP Q H O) : Triple PP F_object_Rest args H O Q :=
 triple_run mixed (mkOpts_ok okL_ok _ _ _) Tryz.func89 T_object_Rest_eq ha ho h
abbrev F_zeitnotref14_Rest : FuncId := 93
/- zeitnot/zeitnotref14.Rest -/
def T_zeitnotref14_Rest (v : List Value) : Tree :=
 .newbox fun r0 =>
 .newbox fun r1 =>
 .chk (.eqN r0 r0) <|
 .chk (.eqN r0 r0) <|
 .chk (.eqN r0 r0) <|
 .chk (.eqN r0 r0) <|
 .chk (.eqN r1 r1) <|
 .chk (.eqN r1 r1) <|
 .ret (.agg #[g v 0,g v 1,g v 2,g v 3,g v 4,(.int .i64 0),g v 6,(.int .i64 0),(.int .i64 0),g v 9,g v 10,g v 11]) []
theorem T_zeitnotref14_Rest_eq (vs : List Value) : sxFun PP Tryz.f93 (mkOpts okL [(81, [5, 6, 7, 8])] [] []) vs = T_zeitnotref14_Rest vs := by kernel_rfl
theorem run_zeitnotref14_Rest {args vs} (ha : entryArgs PP Tryz.f93 args = some vs) (ho : Ones vs) {H O Q} (h : (T_zeitnotref14_Rest vs).den PP Q H O) : Triple PP F_zeitnotref14_Rest args H O Q :=
 triple_run mixed (mkOpts_ok okL_ok _ _ _) Tryz.func93 T_zeitnotref14_Rest_eq ha ho h
abbrev F_zeitnotref15_Without : FuncId := 94
/- zeitnot/zeitnotref15.Without -/
def T_zeitnotref15_Without (v : List Value) : Tree :=
 .loop 3 3 [(.slice none 0 0),(.int .i64 0)] fun C3 l0 =>
 .pure [] .len [g v 0] fun v1 =>
 .pure [] (.bin .lss .int) [g l0 1,v1] fun v2 =>
 .br v2 (
 .pure [] (.idx 1) [g v 0,g l0 1] fun v3 =>
 .load [] v3 1 fun l4 =>
 .pure [] (.bin .neq .int) [g l4 0,g v 1] fun v5 =>
 .br v5 (
 .pure [] (.idx 1) [g v 0,g l0 1] fun v6 =>
 .load [] v6 1 fun l7 =>
 .newbox fun r0 =>
 .prim (.bi .append #[26,26] 26) [g l0 0,(.slice (some ⟨r0,0,none⟩) 1 1)] [⟨r0,3,[g l7 0]⟩] [] .one fun l8 _ =>
 .pure [] (.bin .add .int) [g l0 1,(.int .i64 1)] fun v9 =>
 .cont 3 C3 [g l8 0,v9] [E [g v 0],E [g v 1]]) (
 .pure [] (.bin .add .int) [g l0 1,(.int .i64 1)] fun v10 =>
 .cont 3 C3 [g l0 0,v10] [E [g v 0],E [g v 1]])) (
 .ret (g l0 0) [])
theorem T_zeitnotref15_Without_eq (vs : List Value) : sxFun PP Tryz.f94 (mkOpts okL [(81, [5, 6, 7, 8])] [(3, .inv [5, 6] [0, 1] [])] []) vs = T_zeitnotref15_Without vs := by kernel_rfl
theorem run_zeitnotref15_Without {args vs} (ha : entryArgs PP Tryz.f94 args = some vs) (ho : Ones vs) {H O Q} (h : (T_zeitnotref15_Without vs).den PP Q H O) : Triple PP F_zeitnotref15_Without args H O Q :=
 triple_run mixed (mkOpts_ok okL_ok _ _ _) Tryz.func94 T_zeitnotref15_Without_eq ha ho h
abbrev F_mana_within : FuncId := 100
/- zeitnot/mana.within -/
def T_mana_within (v : List Value) : Tree :=
 .newbox fun r0 =>
 .chk (.eqN r0 r0) <|
 .loop 4 2 [(.int .i64 0)] fun C4 l0 =>
 .pure [] (.bin .lss .int) [g l0 0,(.int .i64 4)] fun v1 =>
 .br v1 (
 .pure [] .aidx [g l0 0,g v 0,g v 1,g v 2,g v 3] fun v2 =>
 .pure [] (.bin .lss .int) [v2,(.int .i64 0)] fun v3 =>
 .chk (.eqV v3 v3) <|
 .chk (.eqV v3 v3) <|
 .pure [] (.bin .gtr .int) [v2,g v 4] fun v4 =>
 .chk (.eqV v3 v3) <|
 .pure [] .pick [v3,(.bool true),v4] fun v5 =>
 .br v5 (
 .ret (.bool false) []) (
 .pure [] (.bin .add .int) [g l0 0,(.int .i64 1)] fun v6 =>
 .cont 4 C4 [v6] [E [g v 4],E [g v 0,g v 1,g v 2,g v 3]])) (
 .ret (.bool true) [])
theorem T_mana_within_eq (vs : List Value) : sxFun PP Tryz.f100 (mkOpts okL [(81, [5, 6, 7, 8])] [(2, .inv [8] [1, 7] [])] []) vs = T_mana_within vs := by kernel_rfl
theorem run_mana_within {args vs} (ha : entryArgs PP Tryz.f100 args = some vs) (ho : Ones vs) {H O Q} (h : (T_mana_within vs).den PP Q H O) : Triple PP F_mana_within args H O Q :=
 triple_run mixed (mkOpts_ok okL_ok _ _ _) Tryz.func100 T_mana_within_eq ha ho h
abbrev F_slices_ContainsFunc_api_Target_api_Target : FuncId := 101
/- slices.ContainsFunc[[]zeitnot/api.Target,zeitnot/api.Target] -/
def T_slices_ContainsFunc_api_Target_api_Target (v : List Value) : Tree :=
 .call false 121 [g v 0,g v 1] [] [] .one fun l0 _ =>
 .pure [] (.bin .geq .int) [g l0 0,(.int .i64 0)] fun v1 =>
 .ret v1 []
theorem T_slices_ContainsFunc_api_Target_api_Target_eq (vs : List Value) : sxFun PP Tryz.f101 (mkOpts okL [(81, [5, 6, 7, 8])] [] []) vs = T_slices_ContainsFunc_api_Target_api_Target vs := by kernel_rfl
theorem run_slices_ContainsFunc_api_Target_api_Target {args vs} (ha : entryArgs PP Tryz.f101 args = some vs) (ho : Ones vs) {H O Q} (h : (T_slices_ContainsFunc_api_Target_api_Target vs).den PP Q H O) : Triple PP F_slices_ContainsFunc_api_Target_api_Target args H O Q :=
 triple_run mixed (mkOpts_ok okL_ok _ _ _) Tryz.func101 T_slices_ContainsFunc_api_Target_api_Target_eq ha ho h
abbrev F_board_fine_1 : FuncId := 102
/- zeitnot/board.fine$1 -/
def T_board_fine_1 (v : List Value) : Tree :=
 .newbox fun r0 =>
 .chk (.eqN r0 r0) <|
 .call false 103 [(.agg #[g v 0,g v 1])] [] [] .one fun l0 _ =>
 .pure [] .not [g l0 0] fun v1 =>
 .ret v1 []
theorem T_board_fine_1_eq (vs : List Value) : sxFun PP Tryz.f102 (mkOpts okL [(81, [5, 6, 7, 8])] [] []) vs = T_board_fine_1 vs := by kernel_rfl
theorem run_board_fine_1 {args vs} (ha : entryArgs PP Tryz.f102 args = some vs) (ho : Ones vs) {H O Q} (h : (T_board_fine_1 vs).den PP Q H O) : Triple PP F_board_fine_1 args H O Q :=
 triple_run mixed (mkOpts_ok okL_ok _ _ _) Tryz.func102 T_board_fine_1_eq ha ho h
abbrev F_board_aimed : FuncId := 103
/- zeitnot/board.aimed -/
def T_board_aimed (v : List Value) : Tree :=
 .newbox fun r0 =>
 .chk (.eqN r0 r0) <|
 .call false 70 [g v 0,(.int .i64 0),(.int .i64 500)] [] [] .one fun l0 _ =>
 .br (g l0 0) (
 .chk (.eqN r0 r0) <|
 .call false 70 [g v 1,(.int .i64 0),(.int .i64 1)] [] [] .one fun l1 _ =>
 .chk (.eqN r0 r0) <|
 .chk (.eqV (g l1 0) (g l1 0)) <|
 .chk (.eqV (g l1 0) (g l1 0)) <|
 .pure [] (.bin .eql .int) [g v 0,(.int .i64 0)] fun v2 =>
 .chk (.eqV (g l1 0) (g l1 0)) <|
 .chk (.eqN r0 r0) <|
 .chk (.eqV v2 v2) <|
 .chk (.eqV (g l1 0) (g l1 0)) <|
 .chk (.eqV v2 v2) <|
 .chk (.eqV (g l1 0) (g l1 0)) <|
 .pure [] (.bin .eql .int) [g v 1,(.int .i64 0)] fun v3 =>
 .chk (.eqV (g l1 0) (g l1 0)) <|
 .chk (.eqV v2 v2) <|
 .chk (.eqV (g l1 0) (g l1 0)) <|
 .pure [] .pick [v2,(.bool true),v3] fun v4 =>
 .chk (.eqV (g l1 0) (g l1 0)) <|
 .pure [] .pick [g l1 0,v4,(.bool false)] fun v5 =>
 .ret v5 []) (
 .ret (.bool false) [])
theorem T_board_aimed_eq (vs : List Value) : sxFun PP Tryz.f103 (mkOpts okL [(81, [5, 6, 7, 8])] [] []) vs = T_board_aimed vs := by kernel_rfl
theorem run_board_aimed {args vs} (ha : entryArgs PP Tryz.f103 args = some vs) (ho : Ones vs) {H O Q} (h : (T_board_aimed vs).den PP Q H O) : Triple PP F_board_aimed args H O Q :=
 triple_run mixed (mkOpts_ok okL_ok _ _ _) Tryz.func103 T_board_aimed_eq ha ho h
abbrev F_board_placed_1 : FuncId := 104
/- zeitnot/board.placed$1 -/
def T_board_placed_1 (v : List Value) : Tree :=
 .load [] (g v 2) 1 fun l0 =>
 .prim (.lookup 150 true) [g l0 0,g v 0] [] [] (.tup [none,none]) fun l1 _ =>
 .load [] (g v 2) 1 fun l2 =>
 .prim (.mapUpdate 150) [g l2 0,g v 0,g v 1] [] [] .one fun l3 _ =>
 .pure [] .not [g l1 1] fun v4 =>
 .ret v4 []
theorem T_board_placed_1_eq (vs : List Value) : sxFun PP Tryz.f104 (mkOpts okL [(81, [5, 6, 7, 8])] [] []) vs = T_board_placed_1 vs := by kernel_rfl
theorem run_board_placed_1 {args vs} (ha : entryArgs PP Tryz.f104 args = some vs) (ho : Ones vs) {H O Q} (h : (T_board_placed_1 vs).den PP Q H O) : Triple PP F_board_placed_1 args H O Q :=
 triple_run mixed (mkOpts_ok okL_ok _ _ _) Tryz.func104 T_board_placed_1_eq ha ho h
abbrev F_object_Valid : FuncId := 105
/- zeitnot/object.Valid -/
def T_object_Valid (v : List Value) : Tree :=
 .newbox fun r0 =>
 .chk (.eqN r0 r0) <|
 .chk (.eqN r0 r0) <|
 .chk (.eqN r0 r0) <|
 .chk (.eqN r0 r0) <|
 .chk (.eqN r0 r0) <|
 .chk (.eqN r0 r0) <|
 .loop 16 2 [(.int .i64 0)] fun C16 l0 =>
 .pure [] (.bin .lss .int) [g l0 0,(.int .i64 6)] fun v1 =>
 .br v1 (
 .pure [] .aidx [g l0 0,g v 3,g v 4,g v 5,g v 6,g v 7,g v 8] fun v2 =>
 .pure [] (.bin .lss .int) [v2,(.int .i64 0)] fun v3 =>
 .chk (.eqV v3 v3) <|
 .pure [] (.bin .gtr .int) [v2,(.int .i64 99)] fun v4 =>
 .chk (.eqV v3 v3) <|
 .pure [] .pick [v3,(.bool true),v4] fun v5 =>
 .br v5 (
 .ret (.bool false) []) (
 .pure [] (.bin .add .int) [g l0 0,(.int .i64 1)] fun v6 =>
 .cont 16 C16 [v6] [E [(.pointer (some ⟨r0,0,none⟩))],E [g v 3,g v 4,g v 5,g v 6,g v 7,g v 8],E [(.pointer (some ⟨r0,0,none⟩)),g v 0,g v 1,g v 2,g v 3,g v 4,g v 5,g v 6,g v 7,g v 8,g v 9,g v 10,g v 11]])) (
 .chk (.eqN r0 r0) <|
 .pure [] (.bin .eql .int) [g v 1,(.int .i64 (-1))] fun v7 =>
 .chk (.eqN r0 r0) <|
 .chk (.eqV v7 v7) <|
 .chk (.eqV v7 v7) <|
 .pure [] (.bin .eql .int) [g v 3,(.int .i64 0)] fun v8 =>
 .chk (.eqV v7 v7) <|
 .chk (.eqN r0 r0) <|
 .chk (.eqV v8 v8) <|
 .chk (.eqV v7 v7) <|
 .chk (.eqV v8 v8) <|
 .chk (.eqV v7 v7) <|
 .pure [] (.bin .eql .int) [g v 4,(.int .i64 0)] fun v9 =>
 .chk (.eqV v7 v7) <|
 .chk (.eqV v8 v8) <|
 .chk (.eqV v7 v7) <|
 .pure [] .pick [v8,v9,(.bool false)] fun v10 =>
 .chk (.eqV v7 v7) <|
 .pure [] .pick [v7,(.bool true),v10] fun v11 =>
 .chk (.eqN r0 r0) <|
 .chk (.eqV v11 v11) <|
 .chk (.eqV v11 v11) <|
 .pure [] (.bin .geq .int) [g v 0,(.int .i64 1)] fun v12 =>
 .chk (.eqV v11 v11) <|
 .pure [] .pick [v11,v12,(.bool false)] fun v13 =>
 .chk (.eqN r0 r0) <|
 .chk (.eqV v13 v13) <|
 .chk (.eqV v13 v13) <|
 .pure [] (.bin .leq .int) [g v 0,(.int .i64 500)] fun v14 =>
 .chk (.eqV v13 v13) <|
 .pure [] .pick [v13,v14,(.bool false)] fun v15 =>
 .chk (.eqN r0 r0) <|
 .chk (.eqV v15 v15) <|
 .chk (.eqV v15 v15) <|
 .pure [] (.bin .geq .int) [g v 1,(.int .i64 (-1))] fun v16 =>
 .chk (.eqV v15 v15) <|
 .pure [] .pick [v15,v16,(.bool false)] fun v17 =>
 .chk (.eqN r0 r0) <|
 .chk (.eqV v17 v17) <|
 .chk (.eqV v17 v17) <|
 .pure [] (.bin .lss .int) [g v 1,(.int .i64 400)] fun v18 =>
 .chk (.eqV v17 v17) <|
 .pure [] .pick [v17,v18,(.bool false)] fun v19 =>
 .chk (.eqN r0 r0) <|
 .chk (.eqV v19 v19) <|
 .chk (.eqV v19 v19) <|
 .pure [] (.bin .eql .int) [g v 2,(.int .i64 0)] fun v20 =>
 .chk (.eqV v19 v19) <|
 .chk (.eqN r0 r0) <|
 .chk (.eqV v20 v20) <|
 .chk (.eqV v19 v19) <|
 .chk (.eqV v20 v20) <|
 .chk (.eqV v19 v19) <|
 .pure [] (.bin .eql .int) [g v 2,(.int .i64 1)] fun v21 =>
 .chk (.eqV v19 v19) <|
 .chk (.eqV v20 v20) <|
 .chk (.eqV v19 v19) <|
 .pure [] .pick [v20,(.bool true),v21] fun v22 =>
 .chk (.eqV v19 v19) <|
 .pure [] .pick [v19,v22,(.bool false)] fun v23 =>
 .ret v23 [])
theorem T_object_Valid_eq (vs : List Value) : sxFun PP Tryz.f105 (mkOpts okL [(81, [5, 6, 7, 8])] [(2, .inv [19] [1, 18] [(1, [])])] []) vs = T_object_Valid vs := by kernel_rfl
theorem run_object_Valid {args vs} (ha : entryArgs PP Tryz.f105 args = some vs) (ho : Ones vs) {H O Q} (h : (T_object_Valid vs).den PP Q H O) : Triple PP F_object_Valid args H O Q :=
 triple_run mixed (mkOpts_ok okL_ok _ _ _) Tryz.func105 T_object_Valid_eq ha ho h
abbrev F_slices_Contains_int_int : FuncId := 106
/- slices.Contains[[]int,int] -/
def T_slices_Contains_int_int (v : List Value) : Tree :=
 .call false 82 [g v 0,g v 1] [] [] .one fun l0 _ =>
 .pure [] (.bin .geq .int) [g l0 0,(.int .i64 0)] fun v1 =>
 .ret v1 []
theorem T_slices_Contains_int_int_eq (vs : List Value) : sxFun PP Tryz.f106 (mkOpts okL [(81, [5, 6, 7, 8])] [] []) vs = T_slices_Contains_int_int vs := by kernel_rfl
theorem run_slices_Contains_int_int {args vs} (ha : entryArgs PP Tryz.f106 args = some vs) (ho : Ones vs) {H O Q} (h : (T_slices_Contains_int_int vs).den PP Q H O) : Triple PP F_slices_Contains_int_int args H O Q :=
 triple_run mixed (mkOpts_ok okL_ok _ _ _) Tryz.func106 T_slices_Contains_int_int_eq ha ho h
abbrev F_board_index_1 : FuncId := 109
/- zeitnot/board.index$1 -/
def T_board_index_1 (v : List Value) : Tree :=
 .newbox fun r0 =>
 .chk (.eqN r0 r0) <|
 .pure [] (.bin .sub .int) [g v 0,g v 12] fun v0 =>
 .ret v0 []
theorem T_board_index_1_eq (vs : List Value) : sxFun PP Tryz.f109 (mkOpts okL [(81, [5, 6, 7, 8])] [] []) vs = T_board_index_1 vs := by kernel_rfl
theorem run_board_index_1 {args vs} (ha : entryArgs PP Tryz.f109 args = some vs) (ho : Ones vs) {H O Q} (h : (T_board_index_1 vs).den PP Q H O) : Triple PP F_board_index_1 args H O Q :=
 triple_run mixed (mkOpts_ok okL_ok _ _ _) Tryz.func109 T_board_index_1_eq ha ho h
abbrev F_slices_Clone_api_Item_api_Item : FuncId := 110
/- slices.Clone[[]zeitnot/api.Item,zeitnot/api.Item] -/
def T_slices_Clone_api_Item_api_Item (v : List Value) : Tree :=
 .pure [] (.bin .eql .slice) [g v 0,(.slice none 0 0)] fun v0 =>
 .br v0 (
 .ret (.slice none 0 0) []) (
 .newbox fun r0 =>
 .prim (.bi .append #[30,30] 30) [(.slice (some ⟨r0,0,none⟩) 0 0),g v 0] [⟨r0,41,[]⟩] [] .one fun l1 _ =>
 .ret (g l1 0) [])
theorem T_slices_Clone_api_Item_api_Item_eq (vs : List Value) : sxFun PP Tryz.f110 (mkOpts okL [(81, [5, 6, 7, 8])] [] []) vs = T_slices_Clone_api_Item_api_Item vs := by kernel_rfl
theorem run_slices_Clone_api_Item_api_Item {args vs} (ha : entryArgs PP Tryz.f110 args = some vs) (ho : Ones vs) {H O Q} (h : (T_slices_Clone_api_Item_api_Item vs).den PP Q H O) : Triple PP F_slices_Clone_api_Item_api_Item args H O Q :=
 triple_run mixed (mkOpts_ok okL_ok _ _ _) Tryz.func110 T_slices_Clone_api_Item_api_Item_eq ha ho h
abbrev F_slices_Clone_api_Target_api_Target : FuncId := 111
/- slices.Clone[[]zeitnot/api.Target,zeitnot/api.Target] -/
def T_slices_Clone_api_Target_api_Target (v : List Value) : Tree :=
 .pure [] (.bin .eql .slice) [g v 0,(.slice none 0 0)] fun v0 =>
 .br v0 (
 .ret (.slice none 0 0) []) (
 .newbox fun r0 =>
 .prim (.bi .append #[39,39] 39) [(.slice (some ⟨r0,0,none⟩) 0 0),g v 0] [⟨r0,43,[]⟩] [] .one fun l1 _ =>
 .ret (g l1 0) [])
theorem T_slices_Clone_api_Target_api_Target_eq (vs : List Value) : sxFun PP Tryz.f111 (mkOpts okL [(81, [5, 6, 7, 8])] [] []) vs = T_slices_Clone_api_Target_api_Target vs := by kernel_rfl
theorem run_slices_Clone_api_Target_api_Target {args vs} (ha : entryArgs PP Tryz.f111 args = some vs) (ho : Ones vs) {H O Q} (h : (T_slices_Clone_api_Target_api_Target vs).den PP Q H O) : Triple PP F_slices_Clone_api_Target_api_Target args H O Q :=
 triple_run mixed (mkOpts_ok okL_ok _ _ _) Tryz.func111 T_slices_Clone_api_Target_api_Target_eq ha ho h
end Go.Proofs.YtieaihgbjikggaaGreat
