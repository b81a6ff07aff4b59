/- The trees of the functions of this seat: printed by a tool of mine; each by the kernel's reckoning equal to the evaluator's. -/
import Derived.Test.YtieaihgbjikggaaGreatBT1
namespace Go.Proofs.YtieaihgbjikggaaGreat
open Go Go.Sx
set_option maxRecDepth 100000
abbrev F_stack_Effects : FuncId := 15
/- zeitnot/stack.Effects -/
def T_stack_Effects (v : List Value) : Tree :=
 .newbox fun r0 =>
 .chk (.eqN r0 r0) <|
 .call false 45 [g v 0,(.agg #[(.int .i64 0),g v 3,(.int .i64 0),(.int .i64 0),(.int .i64 0),(.int .i64 0),(.int .i64 0),(.int .i64 0),(.int .i64 0),(.bool false),(.bool false),(.bool false)])] [] [] (.agg 14) fun l0 _ =>
 .newbox fun r1 =>
 .chk (.eqN r1 r1) <|
 .chk (.eqN r0 r0) <|
 .pure [] (.bin .eql .int) [g v 4,(.int .i64 (-1))] fun v1 =>
 .br v1 (
 .chk (.eqN r1 r1) <|
 .ret (g l0 11) []) (
 .chk (.eqN r0 r0) <|
 .pure [] (.bin .lss .int) [g v 4,(.int .i64 0)] fun v2 =>
 .chk (.eqN r0 r0) <|
 .chk (.eqV v2 v2) <|
 .chk (.eqN r1 r1) <|
 .chk (.eqV v2 v2) <|
 .chk (.eqV v2 v2) <|
 .pure [] .len [g l0 12] fun v3 =>
 .chk (.eqV v2 v2) <|
 .chk (.eqV v2 v2) <|
 .pure [] (.bin .geq .int) [g v 4,v3] fun v4 =>
 .chk (.eqV v2 v2) <|
 .pure [] .pick [v2,(.bool true),v4] fun v5 =>
 .br v5 (
 .ret (.slice none 0 0) []) (
 .chk (.eqN r1 r1) <|
 .chk (.eqN r0 r0) <|
 .pure [] (.idx 2) [g l0 12,g v 4] fun v6 =>
 .chk (.ptr [] v6) <|
 .load [] (ptrAdd v6 1) 1 fun l7 =>
 .ret (g l7 0) []))
theorem T_stack_Effects_eq (vs : List Value) : sxFun PP Tryz.f15 (mkOpts okL [(81, [5, 6, 7, 8])] [] []) vs = T_stack_Effects vs := by kernel_rfl
theorem run_stack_Effects {args vs} (ha : entryArgs PP Tryz.f15 args = some vs) (ho : Ones vs) {H O Q} (h : (T_stack_Effects vs).den PP Q H O) : Triple PP F_stack_Effects args H O Q :=
 triple_run mixed (mkOpts_ok okL_ok _ _ _) Tryz.func15 T_stack_Effects_eq ha ho h
abbrev F_zeitnotref18_Effects : FuncId := 16
/- zeitnot/zeitnotref18.Effects -/
def T_zeitnotref18_Effects (v : List Value) : Tree :=
 .newbox fun r0 =>
 .chk (.eqN r0 r0) <|
 .call false 46 [g v 0,(.agg #[(.int .i64 0),g v 3,(.int .i64 0),(.int .i64 0),(.int .i64 0),(.int .i64 0),(.int .i64 0),(.int .i64 0),(.int .i64 0),(.bool false),(.bool false),(.bool false)])] [] [] (.agg 14) fun l0 _ =>
 .newbox fun r1 =>
 .chk (.eqN r1 r1) <|
 .chk (.eqN r0 r0) <|
 .pure [] (.bin .eql .int) [g v 4,(.int .i64 (-1))] fun v1 =>
 .br v1 (
 .chk (.eqN r1 r1) <|
 .ret (g l0 11) []) (
 .chk (.eqN r0 r0) <|
 .pure [] (.bin .lss .int) [g v 4,(.int .i64 0)] fun v2 =>
 .chk (.eqN r0 r0) <|
 .chk (.eqV v2 v2) <|
 .chk (.eqN r1 r1) <|
 .chk (.eqV v2 v2) <|
 .chk (.eqV v2 v2) <|
 .pure [] .len [g l0 12] fun v3 =>
 .chk (.eqV v2 v2) <|
 .chk (.eqV v2 v2) <|
 .pure [] (.bin .geq .int) [g v 4,v3] fun v4 =>
 .chk (.eqV v2 v2) <|
 .pure [] .pick [v2,(.bool true),v4] fun v5 =>
 .br v5 (
 .ret (.slice none 0 0) []) (
 .chk (.eqN r1 r1) <|
 .chk (.eqN r0 r0) <|
 .pure [] (.idx 2) [g l0 12,g v 4] fun v6 =>
 .chk (.ptr [] v6) <|
 .load [] (ptrAdd v6 1) 1 fun l7 =>
 .ret (g l7 0) []))
theorem T_zeitnotref18_Effects_eq (vs : List Value) : sxFun PP Tryz.f16 (mkOpts okL [(81, [5, 6, 7, 8])] [] []) vs = T_zeitnotref18_Effects vs := by kernel_rfl
theorem run_zeitnotref18_Effects {args vs} (ha : entryArgs PP Tryz.f16 args = some vs) (ho : Ones vs) {H O Q} (h : (T_zeitnotref18_Effects vs).den PP Q H O) : Triple PP F_zeitnotref18_Effects args H O Q :=
 triple_run mixed (mkOpts_ok okL_ok _ _ _) Tryz.func16 T_zeitnotref18_Effects_eq ha ho h
abbrev F_board_Valid : FuncId := 42
/- zeitnot/board.Valid -/
def T_board_Valid (v : List Value) : Tree :=
 .newbox fun r0 =>
 .chk (.eqN r0 r0) <|
 .call false 70 [g v 34,(.int .i64 0),(.int .i64 1)] [] [] .one fun l0 _ =>
 .pure [] .not [g l0 0] fun v1 =>
 .br v1 (
 .ret (.bool false) []) (
 .chk (.eqN r0 r0) <|
 .call false 70 [g v 33,(.int .i64 0),(.int .i64 1000)] [] [] .one fun l2 _ =>
 .pure [] .not [g l2 0] fun v3 =>
 .br v3 (
 .ret (.bool false) []) (
 .chk (.eqN r0 r0) <|
 .call false 70 [g v 35,(.int .i64 0),(.int .i64 10)] [] [] .one fun l4 _ =>
 .pure [] .not [g l4 0] fun v5 =>
 .br v5 (
 .ret (.bool false) []) (
 .chk (.eqN r0 r0) <|
 .call false 70 [g v 36,(.int .i64 (-1)),(.int .i64 1)] [] [] .one fun l6 _ =>
 .pure [] .not [g l6 0] fun v7 =>
 .br v7 (
 .ret (.bool false) []) (
 .chk (.eqN r0 r0) <|
 .call false 70 [g v 37,(.int .i64 0),(.int .i64 2)] [] [] .one fun l8 _ =>
 .pure [] .not [g l8 0] fun v9 =>
 .chk (.eqN r0 r0) <|
 .chk (.eqV v9 v9) <|
 .chk (.eqV v9 v9) <|
 .pure [] .len [g v 0] fun v10 =>
 .chk (.eqV v9 v9) <|
 .pure [] (.bin .gtr .int) [v10,(.int .i64 500)] fun v11 =>
 .chk (.eqV v9 v9) <|
 .pure [] .pick [v9,(.bool true),v11] fun v12 =>
 .chk (.eqN r0 r0) <|
 .chk (.eqV v12 v12) <|
 .chk (.eqV v12 v12) <|
 .pure [] .len [g v 29] fun v13 =>
 .chk (.eqV v12 v12) <|
 .pure [] (.bin .gtr .int) [v13,(.int .i64 200)] fun v14 =>
 .chk (.eqV v12 v12) <|
 .pure [] .pick [v12,(.bool true),v14] fun v15 =>
 .chk (.eqN r0 r0) <|
 .chk (.eqV v15 v15) <|
 .chk (.eqV v15 v15) <|
 .pure [] .len [g v 30] fun v16 =>
 .chk (.eqV v15 v15) <|
 .pure [] (.bin .gtr .int) [v16,(.int .i64 200)] fun v17 =>
 .chk (.eqV v15 v15) <|
 .pure [] .pick [v15,(.bool true),v17] fun v18 =>
 .br v18 (
 .ret (.bool false) []) (
 .chk (.eqN r0 r0) <|
 .newbox fun r1 =>
 .chk (.eqN r1 r1) <|
 .chk (.eqN r1 r1) <|
 .call false 70 [g v 1,(.int .i64 0),(.int .i64 9999)] [] [] .one fun l19 _ =>
 .pure [] .not [g l19 0] fun v20 =>
 .br v20 (
 .ret (.bool false) []) (
 .chk (.eqN r1 r1) <|
 .call false 71 [(.agg #[g v 2,g v 3,g v 4,g v 5])] [] [] .one fun l21 _ =>
 .pure [] .not [g l21 0] fun v22 =>
 .br v22 (
 .ret (.bool false) []) (
 .chk (.eqN r1 r1) <|
 .call false 70 [g v 13,(.int .i64 0),(.int .i64 7)] [] [] .one fun l23 _ =>
 .pure [] .not [g l23 0] fun v24 =>
 .br v24 (
 .ret (.bool false) []) (
 .chk (.eqN r1 r1) <|
 .call false 70 [g v 14,(.int .i64 0),(.int .i64 255)] [] [] .one fun l25 _ =>
 .pure [] .not [g l25 0] fun v26 =>
 .br v26 (
 .ret (.bool false) []) (
 .newbox fun r2 =>
 .chk (.eqN r2 r2) <|
 .chk (.eqN r2 r2) <|
 .call false 70 [g v 15,(.int .i64 0),(.int .i64 9999)] [] [] .one fun l27 _ =>
 .pure [] .not [g l27 0] fun v28 =>
 .br v28 (
 .ret (.bool false) []) (
 .chk (.eqN r2 r2) <|
 .call false 71 [(.agg #[g v 16,g v 17,g v 18,g v 19])] [] [] .one fun l29 _ =>
 .pure [] .not [g l29 0] fun v30 =>
 .br v30 (
 .ret (.bool false) []) (
 .chk (.eqN r2 r2) <|
 .call false 70 [g v 27,(.int .i64 0),(.int .i64 7)] [] [] .one fun l31 _ =>
 .pure [] .not [g l31 0] fun v32 =>
 .br v32 (
 .ret (.bool false) []) (
 .chk (.eqN r2 r2) <|
 .call false 70 [g v 28,(.int .i64 0),(.int .i64 255)] [] [] .one fun l33 _ =>
 .pure [] .not [g l33 0] fun v34 =>
 .br v34 (
 .ret (.bool false) []) (
 .chk (.eqN r0 r0) <|
 .call false 72 [g v 29,(.func (.func 73) #[] #[])] [] [] .one fun l35 _ =>
 .br (g l35 0) (
 .ret (.bool false) []) (
 .chk (.eqN r0 r0) <|
 .call false 72 [g v 30,(.func (.func 75) #[] #[])] [] [] .one fun l36 _ =>
 .pure [] .not [g l36 0] fun v37 =>
 .br v37 (
 .chk (.eqN r0 r0) <|
 .call false 76 [(.agg #[g v 0,g v 1,g v 2,g v 3,g v 4,g v 5,g v 6,g v 7,g v 8,g v 9,g v 10,g v 11,g v 12,g v 13,g v 14,g v 15,g v 16,g v 17,g v 18,g v 19,g v 20,g v 21,g v 22,g v 23,g v 24,g v 25,g v 26,g v 27,g v 28,g v 29,g v 30,g v 31,g v 32,g v 33,g v 34,g v 35,g v 36,g v 37])] [] [] .one fun l38 _ =>
 .br (g l38 0) (
 .chk (.eqN r0 r0) <|
 .call false 77 [(.agg #[g v 0,g v 1,g v 2,g v 3,g v 4,g v 5,g v 6,g v 7,g v 8,g v 9,g v 10,g v 11,g v 12,g v 13,g v 14,g v 15,g v 16,g v 17,g v 18,g v 19,g v 20,g v 21,g v 22,g v 23,g v 24,g v 25,g v 26,g v 27,g v 28,g v 29,g v 30,g v 31,g v 32,g v 33,g v 34,g v 35,g v 36,g v 37])] [] [] .one fun l39 _ =>
 .ret (g l39 0) []) (
 .ret (.bool false) [])) (
 .ret (.bool false) [])))))))))))))))
theorem T_board_Valid_eq (vs : List Value) : sxFun PP Tryz.f42 (mkOpts okL [(81, [5, 6, 7, 8])] [(4, .unroll 3)] []) vs = T_board_Valid vs := by kernel_rfl
theorem run_board_Valid {args vs} (ha : entryArgs PP Tryz.f42 args = some vs) (ho : Ones vs) {H O Q} (h : (T_board_Valid vs).den PP Q H O) : Triple PP F_board_Valid args H O Q :=
 triple_run mixed (mkOpts_ok okL_ok _ _ _) Tryz.func42 T_board_Valid_eq ha ho h
abbrev F_object_Card : FuncId := 45
/- zeitnot/object.Card -/
def T_object_Card (v : List Value) : Tree :=
 .newbox fun r0 =>
 .newbox fun r1 =>
 .chk (.eqN r0 r0) <|
 .call false 79 [g v 0,(.agg #[g v 1,g v 2,g v 3,g v 4,g v 5,g v 6,g v 7,g v 8,g v 9,g v 10,g v 11,g v 12])] [] [] (.agg 14) fun l0 _ =>
 .call false 78 [(.agg #[g l0 0,g l0 1,g l0 2,g l0 3,g l0 4,g l0 5,g l0 6,g l0 7,g l0 8,g l0 9,g l0 10,g l0 11,g l0 12,g l0 13])] [] [] (.agg 14) fun l1 _ =>
 .chk (.eqN r1 r1) <|
 .chk (.eqN r1 r1) <|
 .ret (.agg #[g l1 0,g l1 1,g l1 2,g l1 3,g l1 4,g l1 5,g l1 6,g l1 7,g l1 8,g l1 9,g l1 10,g l1 11,g l1 12,g l1 13]) []
theorem T_object_Card_eq (vs : List Value) : sxFun PP Tryz.f45 (mkOpts okL [(81, [5, 6, 7, 8])] [] []) vs = T_object_Card vs := by kernel_rfl
theorem run_object_Card {args vs} (ha : entryArgs PP Tryz.f45 args = some vs) (ho : Ones vs) {H O Q} (h : (T_object_Card vs).den PP Q H O) : Triple PP F_object_Card args H O Q :=
 triple_run mixed (mkOpts_ok okL_ok _ _ _) Tryz.func45 T_object_Card_eq ha ho h
abbrev F_zeitnotref14_Card : FuncId := 46
/- zeitnot/zeitnotref14.Card -/
def T_zeitnotref14_Card (v : List Value) : Tree :=
 .newbox fun r0 =>
 .newbox fun r1 =>
 .chk (.eqN r0 r0) <|
 .pure [] (.bin .lss .int) [g v 2,(.int .i64 0)] fun v0 =>
 .chk (.eqN r0 r0) <|
 .chk (.eqV v0 v0) <|
 .chk (.eqV v0 v0) <|
 .pure [] .len [g v 0] fun v1 =>
 .chk (.eqV v0 v0) <|
 .chk (.eqV v0 v0) <|
 .pure [] (.bin .geq .int) [g v 2,v1] fun v2 =>
 .chk (.eqV v0 v0) <|
 .pure [] .pick [v0,(.bool true),v2] fun v3 =>
 .br v3 (
 .chk (.eqN r1 r1) <|
 .chk (.eqN r1 r1) <|
 .ret (.agg #[(.string ⟨#[]⟩),(.int .i64 0),(.int .i64 0),(.int .i64 0),(.int .i64 0),(.int .i64 0),(.int .i64 0),(.int .i64 0),(.int .i64 0),(.int .i64 0),(.int .i64 0),(.slice none 0 0),(.slice none 0 0),(.int .i64 0)]) []) (
 .chk (.eqN r0 r0) <|
 .pure [] (.idx 14) [g v 0,g v 2] fun v4 =>
 .load [] v4 14 fun l5 =>
 .chk (.eqN r1 r1) <|
 .chk (.eqN r1 r1) <|
 .ret (.agg #[g l5 0,g l5 1,g l5 2,g l5 3,g l5 4,g l5 5,g l5 6,g l5 7,g l5 8,g l5 9,g l5 10,g l5 11,g l5 12,g l5 13]) [])
theorem T_zeitnotref14_Card_eq (vs : List Value) : sxFun PP Tryz.f46 (mkOpts okL [(81, [5, 6, 7, 8])] [] []) vs = T_zeitnotref14_Card vs := by kernel_rfl
theorem run_zeitnotref14_Card {args vs} (ha : entryArgs PP Tryz.f46 args = some vs) (ho : Ones vs) {H O Q} (h : (T_zeitnotref14_Card vs).den PP Q H O) : Triple PP F_zeitnotref14_Card args H O Q :=
 triple_run mixed (mkOpts_ok okL_ok _ _ _) Tryz.func46 T_zeitnotref14_Card_eq ha ho h
end Go.Proofs.YtieaihgbjikggaaGreat
