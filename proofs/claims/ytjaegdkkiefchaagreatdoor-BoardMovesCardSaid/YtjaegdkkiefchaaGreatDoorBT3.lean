/- The trees of the functions of this seat: printed by a tool of mine; each by the kernel's reckoning equal to the evaluator's. -/
import Derived.Test.YtjaegdkkiefchaaGreatDoorBT2
namespace Go.Proofs.YtjaegdkkiefchaaGreatDoor
open Go Go.Sx
set_option maxRecDepth 100000
abbrev F_zeitnotref15_fights : FuncId := 55
/- zeitnot/zeitnotref15.fights -/
def T_zeitnotref15_fights (v : List Value) : Tree :=
 .newbox fun r0 =>
 .loop 3 2 [(.int .i64 0)] fun C3 l0 =>
 .chk (.eqN r0 r0) <|
 .pure [] .len [g v 31] fun v1 =>
 .pure [] (.bin .lss .int) [g l0 0,v1] fun v2 =>
 .br v2 (
 .chk (.eqN r0 r0) <|
 .chk (.eqN r0 r0) <|
 .pure [] (.idx 1) [g v 31,g l0 0] fun v3 =>
 .load [] v3 1 fun l4 =>
 .call false 93 [g v 31,g l4 0] [] [] .one fun l5 _ =>
 .pure [] (.bin .neq .int) [g l5 0,(.int .i64 1)] fun v6 =>
 .br v6 (
 .ret (.bool false) []) (
 .chk (.eqN r0 r0) <|
 .sw (g v 34) 0 (
 .chk (.eqN r0 r0) <|
 .chk (.eqN r0 r0) <|
 .pure [] (.idx 1) [g v 31,g l0 0] fun v7 =>
 .load [] v7 1 fun l8 =>
 .call false 93 [g v 8,g l8 0] [] [] .one fun l9 _ =>
 .pure [] (.bin .neq .int) [g l9 0,(.int .i64 1)] fun v10 =>
 .br v10 (
 .ret (.bool false) []) (
 .pure [] (.bin .add .int) [g l0 0,(.int .i64 1)] fun v11 =>
 .cont 3 C3 [v11] [E [(.pointer (some ⟨r0,0,none⟩))],E [(.pointer (some ⟨r0,0,none⟩)),g v 0,g v 1,g v 2,g v 3,g v 4,g v 5,g v 6,g v 7,g v 8,g v 9,g v 10,g v 11,g v 12,g v 13,g v 14,g v 15,g v 16,g v 17,g v 18,g v 19,g v 20,g v 21,g v 22,g v 23,g v 24,g v 25,g v 26,g v 27,g v 28,g v 29,g v 30,g v 31,g v 32,g v 33,g v 34,g v 35,g v 36,g v 37]])) (
 .sw (g v 34) 1 (
 .chk (.eqN r0 r0) <|
 .chk (.eqN r0 r0) <|
 .pure [] (.idx 1) [g v 31,g l0 0] fun v12 =>
 .load [] v12 1 fun l13 =>
 .call false 93 [g v 22,g l13 0] [] [] .one fun l14 _ =>
 .pure [] (.bin .neq .int) [g l14 0,(.int .i64 1)] fun v15 =>
 .br v15 (
 .ret (.bool false) []) (
 .pure [] (.bin .add .int) [g l0 0,(.int .i64 1)] fun v16 =>
 .cont 3 C3 [v16] [E [(.pointer (some ⟨r0,0,none⟩))],E [(.pointer (some ⟨r0,0,none⟩)),g v 0,g v 1,g v 2,g v 3,g v 4,g v 5,g v 6,g v 7,g v 8,g v 9,g v 10,g v 11,g v 12,g v 13,g v 14,g v 15,g v 16,g v 17,g v 18,g v 19,g v 20,g v 21,g v 22,g v 23,g v 24,g v 25,g v 26,g v 27,g v 28,g v 29,g v 30,g v 31,g v 32,g v 33,g v 34,g v 35,g v 36,g v 37]])) (
 .stuck 901)))) (
 .loop 10 7 [(.int .i64 0)] fun C10 l17 =>
 .chk (.eqN r0 r0) <|
 .pure [] .len [g v 32] fun v18 =>
 .pure [] (.bin .lss .int) [g l17 0,v18] fun v19 =>
 .br v19 (
 .chk (.eqN r0 r0) <|
 .pure [] (.idx 2) [g v 32,g l17 0] fun v20 =>
 .load [] v20 2 fun l21 =>
 .newbox fun r1 =>
 .chk (.eqN r1 r1) <|
 .chk (.eqN r0 r0) <|
 .chk (.eqN r1 r1) <|
 .call false 93 [g v 31,g l21 1] [] [] .one fun l22 _ =>
 .pure [] (.bin .neq .int) [g l22 0,(.int .i64 1)] fun v23 =>
 .br v23 (
 .ret (.bool false) []) (
 .chk (.eqN r0 r0) <|
 .pure [] (.bin .sub .int) [(.int .i64 1),g v 34] fun v24 =>
 .sw v24 0 (
 .chk (.eqN r0 r0) <|
 .chk (.eqN r1 r1) <|
 .call false 93 [g v 8,g l21 0] [] [] .one fun l25 _ =>
 .pure [] (.bin .neq .int) [g l25 0,(.int .i64 1)] fun v26 =>
 .br v26 (
 .ret (.bool false) []) (
 .loop 43 13 [(.int .i64 0)] fun C43 l27 =>
 .pure [] (.bin .lss .int) [g l27 0,g l17 0] fun v28 =>
 .br v28 (
 .chk (.eqN r0 r0) <|
 .pure [] (.idx 2) [g v 32,g l27 0] fun v29 =>
 .chk (.ptr [] v29) <|
 .load [] (ptrAdd v29 1) 1 fun l30 =>
 .chk (.eqN r1 r1) <|
 .pure [] (.bin .eql .int) [g l30 0,g l21 1] fun v31 =>
 .chk (.eqN r0 r0) <|
 .chk (.eqV v31 v31) <|
 .chk (.eqV v31 v31) <|
 .chk (.eqV v31 v31) <|
 .pure [(v31,false)] (.idx 2) [g v 32,g l27 0] fun v32 =>
 .chk (.ptr [(v31,false)] v32) <|
 .chk (.eqV v31 v31) <|
 .chk (.eqV v31 v31) <|
 .load [(v31,false)] v32 1 fun l33 =>
 .chk (.eqN r1 r1) <|
 .chk (.eqV v31 v31) <|
 .chk (.eqV v31 v31) <|
 .chk (.eqV v31 v31) <|
 .pure [] (.bin .eql .int) [g l33 0,g l21 0] fun v34 =>
 .chk (.eqV v31 v31) <|
 .pure [] .pick [v31,(.bool true),v34] fun v35 =>
 .br v35 (
 .ret (.bool false) []) (
 .pure [] (.bin .add .int) [g l27 0,(.int .i64 1)] fun v36 =>
 .cont 43 C43 [v36] [E [(.pointer (some ⟨r0,0,none⟩))],E [g l17 0],E [(.pointer (some ⟨r1,0,none⟩))],E [(.pointer (some ⟨r0,0,none⟩)),g v 0,g v 1,g v 2,g v 3,g v 4,g v 5,g v 6,g v 7,g v 8,g v 9,g v 10,g v 11,g v 12,g v 13,g v 14,g v 15,g v 16,g v 17,g v 18,g v 19,g v 20,g v 21,g v 22,g v 23,g v 24,g v 25,g v 26,g v 27,g v 28,g v 29,g v 30,g v 31,g v 32,g v 33,g v 34,g v 35,g v 36,g v 37],E [(.pointer (some ⟨r1,0,none⟩)),g l21 0,g l21 1]])) (
 .pure [] (.bin .add .int) [g l17 0,(.int .i64 1)] fun v37 =>
 .cont 10 C10 [v37] [E [(.pointer (some ⟨r0,0,none⟩))],E [(.pointer (some ⟨r0,0,none⟩)),g v 0,g v 1,g v 2,g v 3,g v 4,g v 5,g v 6,g v 7,g v 8,g v 9,g v 10,g v 11,g v 12,g v 13,g v 14,g v 15,g v 16,g v 17,g v 18,g v 19,g v 20,g v 21,g v 22,g v 23,g v 24,g v 25,g v 26,g v 27,g v 28,g v 29,g v 30,g v 31,g v 32,g v 33,g v 34,g v 35,g v 36,g v 37]]))) (
 .sw v24 1 (
 .chk (.eqN r0 r0) <|
 .chk (.eqN r1 r1) <|
 .call false 93 [g v 22,g l21 0] [] [] .one fun l38 _ =>
 .pure [] (.bin .neq .int) [g l38 0,(.int .i64 1)] fun v39 =>
 .br v39 (
 .ret (.bool false) []) (
 .loop 43 13 [(.int .i64 0)] fun C43 l40 =>
 .pure [] (.bin .lss .int) [g l40 0,g l17 0] fun v41 =>
 .br v41 (
 .chk (.eqN r0 r0) <|
 .pure [] (.idx 2) [g v 32,g l40 0] fun v42 =>
 .chk (.ptr [] v42) <|
 .load [] (ptrAdd v42 1) 1 fun l43 =>
 .chk (.eqN r1 r1) <|
 .pure [] (.bin .eql .int) [g l43 0,g l21 1] fun v44 =>
 .chk (.eqN r0 r0) <|
 .chk (.eqV v44 v44) <|
 .chk (.eqV v44 v44) <|
 .chk (.eqV v44 v44) <|
 .pure [(v44,false)] (.idx 2) [g v 32,g l40 0] fun v45 =>
 .chk (.ptr [(v44,false)] v45) <|
 .chk (.eqV v44 v44) <|
 .chk (.eqV v44 v44) <|
 .load [(v44,false)] v45 1 fun l46 =>
 .chk (.eqN r1 r1) <|
 .chk (.eqV v44 v44) <|
 .chk (.eqV v44 v44) <|
 .chk (.eqV v44 v44) <|
 .pure [] (.bin .eql .int) [g l46 0,g l21 0] fun v47 =>
 .chk (.eqV v44 v44) <|
 .pure [] .pick [v44,(.bool true),v47] fun v48 =>
 .br v48 (
 .ret (.bool false) []) (
 .pure [] (.bin .add .int) [g l40 0,(.int .i64 1)] fun v49 =>
 .cont 43 C43 [v49] [E [(.pointer (some ⟨r0,0,none⟩))],E [g l17 0],E [(.pointer (some ⟨r1,0,none⟩))],E [(.pointer (some ⟨r0,0,none⟩)),g v 0,g v 1,g v 2,g v 3,g v 4,g v 5,g v 6,g v 7,g v 8,g v 9,g v 10,g v 11,g v 12,g v 13,g v 14,g v 15,g v 16,g v 17,g v 18,g v 19,g v 20,g v 21,g v 22,g v 23,g v 24,g v 25,g v 26,g v 27,g v 28,g v 29,g v 30,g v 31,g v 32,g v 33,g v 34,g v 35,g v 36,g v 37],E [(.pointer (some ⟨r1,0,none⟩)),g l21 0,g l21 1]])) (
 .pure [] (.bin .add .int) [g l17 0,(.int .i64 1)] fun v50 =>
 .cont 10 C10 [v50] [E [(.pointer (some ⟨r0,0,none⟩))],E [(.pointer (some ⟨r0,0,none⟩)),g v 0,g v 1,g v 2,g v 3,g v 4,g v 5,g v 6,g v 7,g v 8,g v 9,g v 10,g v 11,g v 12,g v 13,g v 14,g v 15,g v 16,g v 17,g v 18,g v 19,g v 20,g v 21,g v 22,g v 23,g v 24,g v 25,g v 26,g v 27,g v 28,g v 29,g v 30,g v 31,g v 32,g v 33,g v 34,g v 35,g v 36,g v 37]]))) (
 .stuck 901)))) (
 .ret (.bool true) []))
theorem T_zeitnotref15_fights_eq (vs : List Value) : sxFun PP Tryz.f55 (mkOpts okL [(43, [5, 6, 7, 8])] [(2, .inv [3] [1] [(1, [])]), (7, .inv [4] [1] [(1, [])]), (13, .inv [6] [1, 4, 5] [(1, []), (5, [])])] []) vs = T_zeitnotref15_fights vs := by kernel_rfl
theorem run_zeitnotref15_fights {args vs} (ha : entryArgs PP Tryz.f55 args = some vs) (ho : Ones vs) {H O Q} (h : (T_zeitnotref15_fights vs).den PP Q H O) : Triple PP F_zeitnotref15_fights args H O Q :=
 triple_run mixed (mkOpts_ok okL_ok _ _ _) Tryz.func55 T_zeitnotref15_fights_eq ha ho h
abbrev F_zeitnotref15_items : FuncId := 61
/- zeitnot/zeitnotref15.items -/
def T_zeitnotref15_items (v : List Value) : Tree :=
 .pure [] .len [g v 0] fun v0 =>
 .pure [] .len [g v 1] fun v1 =>
 .pure [] (.bin .neq .int) [v0,v1] fun v2 =>
 .br v2 (
 .ret (.bool false) []) (
 .loop 7 4 [(.int .i64 0)] fun C7 l3 =>
 .pure [] .len [g v 0] fun v4 =>
 .pure [] (.bin .lss .int) [g l3 0,v4] fun v5 =>
 .br v5 (
 .pure [] (.idx 5) [g v 0,g l3 0] fun v6 =>
 .load [] v6 5 fun l7 =>
 .pure [] (.idx 5) [g v 1,g l3 0] fun v8 =>
 .load [] v8 5 fun l9 =>
 .call false 95 [(.agg #[g l7 0,g l7 1,g l7 2,g l7 3,g l7 4]),(.agg #[g l9 0,g l9 1,g l9 2,g l9 3,g l9 4])] [] [] .one fun l10 _ =>
 .pure [] .not [g l10 0] fun v11 =>
 .br v11 (
 .ret (.bool false) []) (
 .pure [] (.bin .add .int) [g l3 0,(.int .i64 1)] fun v12 =>
 .cont 7 C7 [v12] [E [g v 0],E [g v 1]])) (
 .ret (.bool true) []))
theorem T_zeitnotref15_items_eq (vs : List Value) : sxFun PP Tryz.f61 (mkOpts okL [(43, [5, 6, 7, 8])] [(4, .inv [5] [0, 1] [])] []) vs = T_zeitnotref15_items vs := by kernel_rfl
theorem run_zeitnotref15_items {args vs} (ha : entryArgs PP Tryz.f61 args = some vs) (ho : Ones vs) {H O Q} (h : (T_zeitnotref15_items vs).den PP Q H O) : Triple PP F_zeitnotref15_items args H O Q :=
 triple_run mixed (mkOpts_ok okL_ok _ _ _) Tryz.func61 T_zeitnotref15_items_eq ha ho h
abbrev F_board_index : FuncId := 62
/- zeitnot/board.index -/
def T_board_index (v : List Value) : Tree :=
 .newbox fun r0 =>
 .chk (.eqN r0 r0) <|
 .call false 11 [(.agg #[g v 0,g v 1,g v 2,g v 3,g v 4,g v 5,g v 6,g v 7,g v 8,g v 9,g v 10,g v 11,g v 12,g v 13,g v 14,g v 15,g v 16,g v 17,g v 18,g v 19,g v 20,g v 21,g v 22,g v 23,g v 24,g v 25,g v 26,g v 27,g v 28,g v 29,g v 30,g v 31,g v 32,g v 33,g v 34,g v 35,g v 36,g v 37])] [] [] .one fun l0 _ =>
 .pure [] .not [g l0 0] fun v1 =>
 .br v1 (
 .ret (.tuple #[(.int .i64 0),(.int .i64 2)]) []) (
 .chk (.eqN r0 r0) <|
 .call false 96 [g v 0,g v 38,(.func (.func 97) #[] #[])] [] [] (.tup [none,none]) fun l2 _ =>
 .pure [] .not [g l2 1] fun v3 =>
 .br v3 (
 .ret (.tuple #[(.int .i64 0),(.int .i64 9)]) []) (
 .ret (.tuple #[g l2 0,(.int .i64 0)]) []))
theorem T_board_index_eq (vs : List Value) : sxFun PP Tryz.f62 (mkOpts okL [(43, [5, 6, 7, 8])] [] []) vs = T_board_index vs := by kernel_rfl
theorem run_board_index {args vs} (ha : entryArgs PP Tryz.f62 args = some vs) (ho : Ones vs) {H O Q} (h : (T_board_index vs).den PP Q H O) : Triple PP F_board_index args H O Q :=
 triple_run mixed (mkOpts_ok okL_ok _ _ _) Tryz.func62 T_board_index_eq ha ho h
abbrev F_object_Valid : FuncId := 63
/- zeitnot/object.Valid -/
def T_object_Valid (v : List Value) : Tree :=
 .newbox fun r0 =>
 .chk (.eqN r0 r0) <|
 .chk (.eqN r0 r0) <|
 .chk (.eqN r0 r0) <|
 .chk (.eqN r0 r0) <|
 .chk (.eqN r0 r0) <|
 .chk (.eqN r0 r0) <|
 .loop 16 2 [(.int .i64 0)] fun C16 l0 =>
 .pure [] (.bin .lss .int) [g l0 0,(.int .i64 6)] fun v1 =>
 .br v1 (
 .pure [] .aidx [g l0 0,g v 3,g v 4,g v 5,g v 6,g v 7,g v 8] fun v2 =>
 .pure [] (.bin .lss .int) [v2,(.int .i64 0)] fun v3 =>
 .chk (.eqV v3 v3) <|
 .pure [] (.bin .gtr .int) [v2,(.int .i64 99)] fun v4 =>
 .chk (.eqV v3 v3) <|
 .pure [] .pick [v3,(.bool true),v4] fun v5 =>
 .br v5 (
 .ret (.bool false) []) (
 .pure [] (.bin .add .int) [g l0 0,(.int .i64 1)] fun v6 =>
 .cont 16 C16 [v6] [E [(.pointer (some ⟨r0,0,none⟩))],E [g v 3,g v 4,g v 5,g v 6,g v 7,g v 8],E [(.pointer (some ⟨r0,0,none⟩)),g v 0,g v 1,g v 2,g v 3,g v 4,g v 5,g v 6,g v 7,g v 8,g v 9,g v 10,g v 11]])) (
 .chk (.eqN r0 r0) <|
 .pure [] (.bin .eql .int) [g v 1,(.int .i64 (-1))] fun v7 =>
 .chk (.eqN r0 r0) <|
 .chk (.eqV v7 v7) <|
 .chk (.eqV v7 v7) <|
 .pure [] (.bin .eql .int) [g v 3,(.int .i64 0)] fun v8 =>
 .chk (.eqV v7 v7) <|
 .chk (.eqN r0 r0) <|
 .chk (.eqV v8 v8) <|
 .chk (.eqV v7 v7) <|
 .chk (.eqV v8 v8) <|
 .chk (.eqV v7 v7) <|
 .pure [] (.bin .eql .int) [g v 4,(.int .i64 0)] fun v9 =>
 .chk (.eqV v7 v7) <|
 .chk (.eqV v8 v8) <|
 .chk (.eqV v7 v7) <|
 .pure [] .pick [v8,v9,(.bool false)] fun v10 =>
 .chk (.eqV v7 v7) <|
 .pure [] .pick [v7,(.bool true),v10] fun v11 =>
 .chk (.eqN r0 r0) <|
 .chk (.eqV v11 v11) <|
 .chk (.eqV v11 v11) <|
 .pure [] (.bin .geq .int) [g v 0,(.int .i64 1)] fun v12 =>
 .chk (.eqV v11 v11) <|
 .pure [] .pick [v11,v12,(.bool false)] fun v13 =>
 .chk (.eqN r0 r0) <|
 .chk (.eqV v13 v13) <|
 .chk (.eqV v13 v13) <|
 .pure [] (.bin .leq .int) [g v 0,(.int .i64 500)] fun v14 =>
 .chk (.eqV v13 v13) <|
 .pure [] .pick [v13,v14,(.bool false)] fun v15 =>
 .chk (.eqN r0 r0) <|
 .chk (.eqV v15 v15) <|
 .chk (.eqV v15 v15) <|
 .pure [] (.bin .geq .int) [g v 1,(.int .i64 (-1))] fun v16 =>
 .chk (.eqV v15 v15) <|
 .pure [] .pick [v15,v16,(.bool false)] fun v17 =>
 .chk (.eqN r0 r0) <|
 .chk (.eqV v17 v17) <|
 .chk (.eqV v17 v17) <|
 .pure [] (.bin .lss .int) [g v 1,(.int .i64 400)] fun v18 =>
 .chk (.eqV v17 v17) <|
 .pure [] .pick [v17,v18,(.bool false)] fun v19 =>
 .chk (.eqN r0 r0) <|
 .chk (.eqV v19 v19) <|
 .chk (.eqV v19 v19) <|
 .pure [] (.bin .eql .int) [g v 2,(.int .i64 0)] fun v20 =>
 .chk (.eqV v19 v19) <|
 .chk (.eqN r0 r0) <|
 .chk (.eqV v20 v20) <|
 .chk (.eqV v19 v19) <|
 .chk (.eqV v20 v20) <|
 .chk (.eqV v19 v19) <|
 .pure [] (.bin .eql .int) [g v 2,(.int .i64 1)] fun v21 =>
 .chk (.eqV v19 v19) <|
 .chk (.eqV v20 v20) <|
 .chk (.eqV v19 v19) <|
 .pure [] .pick [v20,(.bool true),v21] fun v22 =>
 .chk (.eqV v19 v19) <|
 .pure [] .pick [v19,v22,(.bool false)] fun v23 =>
 .ret v23 [])
theorem T_object_Valid_eq (vs : List Value) : sxFun PP Tryz.f63 (mkOpts okL [(43, [5, 6, 7, 8])] [(2, .inv [19] [1, 18] [(1, [])])] []) vs = T_object_Valid vs := by kernel_rfl
theorem run_object_Valid {args vs} (ha : entryArgs PP Tryz.f63 args = some vs) (ho : Ones vs) {H O Q} (h : (T_object_Valid vs).den PP Q H O) : Triple PP F_object_Valid args H O Q :=
 triple_run mixed (mkOpts_ok okL_ok _ _ _) Tryz.func63 T_object_Valid_eq ha ho h
abbrev F_zeitnotref14_Small : FuncId := 65
/- zeitnot/zeitnotref14.Small -/
def T_zeitnotref14_Small (v : List Value) : Tree :=
 .pure [] (.bin .geq .int) [g v 0,(.int .i64 0)] fun v0 =>
 .chk (.eqV v0 v0) <|
 .pure [] (.bin .leq .int) [g v 0,(.int .i64 99)] fun v1 =>
 .chk (.eqV v0 v0) <|
 .pure [] .pick [v0,v1,(.bool false)] fun v2 =>
 .ret v2 []
theorem T_zeitnotref14_Small_eq (vs : List Value) : sxFun PP Tryz.f65 (mkOpts okL [(43, [5, 6, 7, 8])] [] []) vs = T_zeitnotref14_Small vs := by kernel_rfl
theorem run_zeitnotref14_Small {args vs} (ha : entryArgs PP Tryz.f65 args = some vs) (ho : Ones vs) {H O Q} (h : (T_zeitnotref14_Small vs).den PP Q H O) : Triple PP F_zeitnotref14_Small args H O Q :=
 triple_run mixed (mkOpts_ok okL_ok _ _ _) Tryz.func65 T_zeitnotref14_Small_eq ha ho h
abbrev F_slices_Contains_int_int : FuncId := 69
/- slices.Contains[[]int,int] -/
def T_slices_Contains_int_int (v : List Value) : Tree :=
 .call false 98 [g v 0,g v 1] [] [] .one fun l0 _ =>
 .pure [] (.bin .geq .int) [g l0 0,(.int .i64 0)] fun v1 =>
 .ret v1 []
theorem T_slices_Contains_int_int_eq (vs : List Value) : sxFun PP Tryz.f69 (mkOpts okL [(43, [5, 6, 7, 8])] [] []) vs = T_slices_Contains_int_int vs := by kernel_rfl
theorem run_slices_Contains_int_int {args vs} (ha : entryArgs PP Tryz.f69 args = some vs) (ho : Ones vs) {H O Q} (h : (T_slices_Contains_int_int vs).den PP Q H O) : Triple PP F_slices_Contains_int_int args H O Q :=
 triple_run mixed (mkOpts_ok okL_ok _ _ _) Tryz.func69 T_slices_Contains_int_int_eq ha ho h
abbrev F_zeitnotref15_Put : FuncId := 76
/- zeitnot/zeitnotref15.Put -/
def T_zeitnotref15_Put (v : List Value) : Tree :=
 .newbox fun r0 =>
 .newbox fun r1 =>
 .newbox fun r2 =>
 .chk (.eqN r1 r1) <|
 .sw (g v 40) 0 (
 .pure [] (.bin .eql .int) [g v 50,(.int .i64 0)] fun v0 =>
 .br v0 (
 .chk (.eqN r0 r0) <|
 .chk (.eqN r1 r1) <|
 .prim (.bi .append #[25,25] 25) [(.slice none 0 0),g v 6] [] [] .one fun l1 _ =>
 .newbox fun r3 =>
 .prim (.bi .append #[25,25] 25) [g l1 0,(.slice (some ⟨r3,0,none⟩) 1 1)] [⟨r3,3,[g v 38]⟩] [] .one fun l2 _ =>
 .chk (.eqN r0 r0) <|
 .chk (.eqN r0 r0) <|
 .chk (.eqN r2 r2) <|
 .chk (.eqN r2 r2) <|
 .ret (.agg #[g v 0,g v 1,g v 2,g v 3,g v 4,g v 5,g l2 0,g v 7,g v 8,g v 9,g v 10,g v 11,g v 12,g v 13,g v 14,g v 15,g v 16,g v 17,g v 18,g v 19,g v 20,g v 21,g v 22,g v 23,g v 24,g v 25,g v 26,g v 27,g v 28,g v 29,g v 30,g v 31,g v 32,g v 33,g v 34,g v 35,g v 36,g v 37]) []) (
 .pure [] (.bin .eql .int) [g v 50,(.int .i64 1)] fun v3 =>
 .br v3 (
 .chk (.eqN r0 r0) <|
 .chk (.eqN r1 r1) <|
 .prim (.bi .append #[25,25] 25) [(.slice none 0 0),g v 7] [] [] .one fun l4 _ =>
 .newbox fun r4 =>
 .prim (.bi .append #[25,25] 25) [g l4 0,(.slice (some ⟨r4,0,none⟩) 1 1)] [⟨r4,3,[g v 38]⟩] [] .one fun l5 _ =>
 .chk (.eqN r0 r0) <|
 .chk (.eqN r0 r0) <|
 .chk (.eqN r2 r2) <|
 .chk (.eqN r2 r2) <|
 .ret (.agg #[g v 0,g v 1,g v 2,g v 3,g v 4,g v 5,g v 6,g l5 0,g v 8,g v 9,g v 10,g v 11,g v 12,g v 13,g v 14,g v 15,g v 16,g v 17,g v 18,g v 19,g v 20,g v 21,g v 22,g v 23,g v 24,g v 25,g v 26,g v 27,g v 28,g v 29,g v 30,g v 31,g v 32,g v 33,g v 34,g v 35,g v 36,g v 37]) []) (
 .pure [] (.bin .eql .int) [g v 50,(.int .i64 2)] fun v6 =>
 .br v6 (
 .chk (.eqN r0 r0) <|
 .chk (.eqN r1 r1) <|
 .prim (.bi .append #[25,25] 25) [(.slice none 0 0),g v 8] [] [] .one fun l7 _ =>
 .newbox fun r5 =>
 .prim (.bi .append #[25,25] 25) [g l7 0,(.slice (some ⟨r5,0,none⟩) 1 1)] [⟨r5,3,[g v 38]⟩] [] .one fun l8 _ =>
 .chk (.eqN r0 r0) <|
 .chk (.eqN r0 r0) <|
 .chk (.eqN r2 r2) <|
 .chk (.eqN r2 r2) <|
 .ret (.agg #[g v 0,g v 1,g v 2,g v 3,g v 4,g v 5,g v 6,g v 7,g l8 0,g v 9,g v 10,g v 11,g v 12,g v 13,g v 14,g v 15,g v 16,g v 17,g v 18,g v 19,g v 20,g v 21,g v 22,g v 23,g v 24,g v 25,g v 26,g v 27,g v 28,g v 29,g v 30,g v 31,g v 32,g v 33,g v 34,g v 35,g v 36,g v 37]) []) (
 .pure [] (.bin .eql .int) [g v 50,(.int .i64 3)] fun v9 =>
 .br v9 (
 .chk (.eqN r0 r0) <|
 .chk (.eqN r1 r1) <|
 .prim (.bi .append #[25,25] 25) [(.slice none 0 0),g v 9] [] [] .one fun l10 _ =>
 .newbox fun r6 =>
 .prim (.bi .append #[25,25] 25) [g l10 0,(.slice (some ⟨r6,0,none⟩) 1 1)] [⟨r6,3,[g v 38]⟩] [] .one fun l11 _ =>
 .chk (.eqN r0 r0) <|
 .chk (.eqN r0 r0) <|
 .chk (.eqN r2 r2) <|
 .chk (.eqN r2 r2) <|
 .ret (.agg #[g v 0,g v 1,g v 2,g v 3,g v 4,g v 5,g v 6,g v 7,g v 8,g l11 0,g v 10,g v 11,g v 12,g v 13,g v 14,g v 15,g v 16,g v 17,g v 18,g v 19,g v 20,g v 21,g v 22,g v 23,g v 24,g v 25,g v 26,g v 27,g v 28,g v 29,g v 30,g v 31,g v 32,g v 33,g v 34,g v 35,g v 36,g v 37]) []) (
 .chk (.eqN r0 r0) <|
 .chk (.eqN r2 r2) <|
 .chk (.eqN r2 r2) <|
 .ret (.agg #[g v 0,g v 1,g v 2,g v 3,g v 4,g v 5,g v 6,g v 7,g v 8,g v 9,g v 10,g v 11,g v 12,g v 13,g v 14,g v 15,g v 16,g v 17,g v 18,g v 19,g v 20,g v 21,g v 22,g v 23,g v 24,g v 25,g v 26,g v 27,g v 28,g v 29,g v 30,g v 31,g v 32,g v 33,g v 34,g v 35,g v 36,g v 37]) []))))) (
 .sw (g v 40) 1 (
 .pure [] (.bin .eql .int) [g v 50,(.int .i64 0)] fun v12 =>
 .br v12 (
 .chk (.eqN r0 r0) <|
 .chk (.eqN r1 r1) <|
 .prim (.bi .append #[25,25] 25) [(.slice none 0 0),g v 20] [] [] .one fun l13 _ =>
 .newbox fun r7 =>
 .prim (.bi .append #[25,25] 25) [g l13 0,(.slice (some ⟨r7,0,none⟩) 1 1)] [⟨r7,3,[g v 38]⟩] [] .one fun l14 _ =>
 .chk (.eqN r0 r0) <|
 .chk (.eqN r0 r0) <|
 .chk (.eqN r2 r2) <|
 .chk (.eqN r2 r2) <|
 .ret (.agg #[g v 0,g v 1,g v 2,g v 3,g v 4,g v 5,g v 6,g v 7,g v 8,g v 9,g v 10,g v 11,g v 12,g v 13,g v 14,g v 15,g v 16,g v 17,g v 18,g v 19,g l14 0,g v 21,g v 22,g v 23,g v 24,g v 25,g v 26,g v 27,g v 28,g v 29,g v 30,g v 31,g v 32,g v 33,g v 34,g v 35,g v 36,g v 37]) []) (
 .pure [] (.bin .eql .int) [g v 50,(.int .i64 1)] fun v15 =>
 .br v15 (
 .chk (.eqN r0 r0) <|
 .chk (.eqN r1 r1) <|
 .prim (.bi .append #[25,25] 25) [(.slice none 0 0),g v 21] [] [] .one fun l16 _ =>
 .newbox fun r8 =>
 .prim (.bi .append #[25,25] 25) [g l16 0,(.slice (some ⟨r8,0,none⟩) 1 1)] [⟨r8,3,[g v 38]⟩] [] .one fun l17 _ =>
 .chk (.eqN r0 r0) <|
 .chk (.eqN r0 r0) <|
 .chk (.eqN r2 r2) <|
 .chk (.eqN r2 r2) <|
 .ret (.agg #[g v 0,g v 1,g v 2,g v 3,g v 4,g v 5,g v 6,g v 7,g v 8,g v 9,g v 10,g v 11,g v 12,g v 13,g v 14,g v 15,g v 16,g v 17,g v 18,g v 19,g v 20,g l17 0,g v 22,g v 23,g v 24,g v 25,g v 26,g v 27,g v 28,g v 29,g v 30,g v 31,g v 32,g v 33,g v 34,g v 35,g v 36,g v 37]) []) (
 .pure [] (.bin .eql .int) [g v 50,(.int .i64 2)] fun v18 =>
 .br v18 (
 .chk (.eqN r0 r0) <|
 .chk (.eqN r1 r1) <|
 .prim (.bi .append #[25,25] 25) [(.slice none 0 0),g v 22] [] [] .one fun l19 _ =>
 .newbox fun r9 =>
 .prim (.bi .append #[25,25] 25) [g l19 0,(.slice (some ⟨r9,0,none⟩) 1 1)] [⟨r9,3,[g v 38]⟩] [] .one fun l20 _ =>
 .chk (.eqN r0 r0) <|
 .chk (.eqN r0 r0) <|
 .chk (.eqN r2 r2) <|
 .chk (.eqN r2 r2) <|
 .ret (.agg #[g v 0,g v 1,g v 2,g v 3,g v 4,g v 5,g v 6,g v 7,g v 8,g v 9,g v 10,g v 11,g v 12,g v 13,g v 14,g v 15,g v 16,g v 17,g v 18,g v 19,g v 20,g v 21,g l20 0,g v 23,g v 24,g v 25,g v 26,g v 27,g v 28,g v 29,g v 30,g v 31,g v 32,g v 33,g v 34,g v 35,g v 36,g v 37]) []) (
 .pure [] (.bin .eql .int) [g v 50,(.int .i64 3)] fun v21 =>
 .br v21 (
 .chk (.eqN r0 r0) <|
 .chk (.eqN r1 r1) <|
 .prim (.bi .append #[25,25] 25) [(.slice none 0 0),g v 23] [] [] .one fun l22 _ =>
 .newbox fun r10 =>
 .prim (.bi .append #[25,25] 25) [g l22 0,(.slice (some ⟨r10,0,none⟩) 1 1)] [⟨r10,3,[g v 38]⟩] [] .one fun l23 _ =>
 .chk (.eqN r0 r0) <|
 .chk (.eqN r0 r0) <|
 .chk (.eqN r2 r2) <|
 .chk (.eqN r2 r2) <|
 .ret (.agg #[g v 0,g v 1,g v 2,g v 3,g v 4,g v 5,g v 6,g v 7,g v 8,g v 9,g v 10,g v 11,g v 12,g v 13,g v 14,g v 15,g v 16,g v 17,g v 18,g v 19,g v 20,g v 21,g v 22,g l23 0,g v 24,g v 25,g v 26,g v 27,g v 28,g v 29,g v 30,g v 31,g v 32,g v 33,g v 34,g v 35,g v 36,g v 37]) []) (
 .chk (.eqN r0 r0) <|
 .chk (.eqN r2 r2) <|
 .chk (.eqN r2 r2) <|
 .ret (.agg #[g v 0,g v 1,g v 2,g v 3,g v 4,g v 5,g v 6,g v 7,g v 8,g v 9,g v 10,g v 11,g v 12,g v 13,g v 14,g v 15,g v 16,g v 17,g v 18,g v 19,g v 20,g v 21,g v 22,g v 23,g v 24,g v 25,g v 26,g v 27,g v 28,g v 29,g v 30,g v 31,g v 32,g v 33,g v 34,g v 35,g v 36,g v 37]) []))))) (
 .stuck 901))
theorem T_zeitnotref15_Put_eq (vs : List Value) : sxFun PP Tryz.f76 (mkOpts okL [(43, [5, 6, 7, 8])] [] []) vs = T_zeitnotref15_Put vs := by kernel_rfl
theorem run_zeitnotref15_Put {args vs} (ha : entryArgs PP Tryz.f76 args = some vs) (ho : Ones vs) {H O Q} (h : (T_zeitnotref15_Put vs).den PP Q H O) : Triple PP F_zeitnotref15_Put args H O Q :=
 triple_run mixed (mkOpts_ok okL_ok _ _ _) Tryz.func76 T_zeitnotref15_Put_eq ha ho h
abbrev F_board_out : FuncId := 77
/- zeitnot/board.out -/
def T_board_out (v : List Value) : Tree :=
 .newbox fun r0 =>
 .newbox fun r1 =>
 .newbox fun r2 =>
 .chk (.eqN r0 r0) <|
 .call false 10 [(.agg #[g v 0,g v 1,g v 2,g v 3,g v 4,g v 5,g v 6,g v 7,g v 8,g v 9,g v 10,g v 11,g v 12,g v 13,g v 14,g v 15,g v 16,g v 17,g v 18,g v 19,g v 20,g v 21,g v 22,g v 23,g v 24,g v 25,g v 26,g v 27,g v 28,g v 29,g v 30,g v 31,g v 32,g v 33,g v 34,g v 35,g v 36,g v 37])] [] [] (.agg 38) fun l0 _ =>
 .chk (.eqN r0 r0) <|
 .call false 43 [(.pointer (some ⟨r0,1,none⟩))] [] [] (.agg 4) fun l1 _ =>
 .chk (.eqV (g l1 0) (.pointer (some ⟨r0,6,none⟩))) <|
 .chk (.eqV (g l1 1) (.pointer (some ⟨r0,7,none⟩))) <|
 .chk (.eqV (g l1 2) (.pointer (some ⟨r0,8,none⟩))) <|
 .chk (.eqV (g l1 3) (.pointer (some ⟨r0,9,none⟩))) <|
 .chk (.eqN r0 r0) <|
 .call false 109 [g l0 6,(.func (.func 108) #[] #[(.pointer (some ⟨r1,0,none⟩))])] [] [⟨r1,3,[g v 38]⟩] .one fun l2 c2 =>
 .chk (.eqN r0 r0) <|
 .chk (.eqN r0 r0) <|
 .call false 109 [g l0 7,(.func (.func 108) #[] #[(.pointer (some ⟨r1,0,none⟩))])] [] [⟨r1,3,[(g (c2.getD 0 []) 0)]⟩] .one fun l3 c3 =>
 .chk (.eqN r0 r0) <|
 .chk (.eqN r0 r0) <|
 .call false 109 [g l0 8,(.func (.func 108) #[] #[(.pointer (some ⟨r1,0,none⟩))])] [] [⟨r1,3,[(g (c3.getD 0 []) 0)]⟩] .one fun l4 c4 =>
 .chk (.eqN r0 r0) <|
 .chk (.eqN r0 r0) <|
 .call false 109 [g l0 9,(.func (.func 108) #[] #[(.pointer (some ⟨r1,0,none⟩))])] [] [⟨r1,3,[(g (c4.getD 0 []) 0)]⟩] .one fun l5 c5 =>
 .chk (.eqN r0 r0) <|
 .call false 43 [(.pointer (some ⟨r0,15,none⟩))] [] [] (.agg 4) fun l6 _ =>
 .chk (.eqV (g l6 0) (.pointer (some ⟨r0,20,none⟩))) <|
 .chk (.eqV (g l6 1) (.pointer (some ⟨r0,21,none⟩))) <|
 .chk (.eqV (g l6 2) (.pointer (some ⟨r0,22,none⟩))) <|
 .chk (.eqV (g l6 3) (.pointer (some ⟨r0,23,none⟩))) <|
 .chk (.eqN r0 r0) <|
 .call false 109 [g l0 20,(.func (.func 108) #[] #[(.pointer (some ⟨r1,0,none⟩))])] [] [⟨r1,3,[(g (c5.getD 0 []) 0)]⟩] .one fun l7 c7 =>
 .chk (.eqN r0 r0) <|
 .chk (.eqN r0 r0) <|
 .call false 109 [g l0 21,(.func (.func 108) #[] #[(.pointer (some ⟨r1,0,none⟩))])] [] [⟨r1,3,[(g (c7.getD 0 []) 0)]⟩] .one fun l8 c8 =>
 .chk (.eqN r0 r0) <|
 .chk (.eqN r0 r0) <|
 .call false 109 [g l0 22,(.func (.func 108) #[] #[(.pointer (some ⟨r1,0,none⟩))])] [] [⟨r1,3,[(g (c8.getD 0 []) 0)]⟩] .one fun l9 c9 =>
 .chk (.eqN r0 r0) <|
 .chk (.eqN r0 r0) <|
 .call false 109 [g l0 23,(.func (.func 108) #[] #[(.pointer (some ⟨r1,0,none⟩))])] [] [⟨r1,3,[(g (c9.getD 0 []) 0)]⟩] .one fun l10 c10 =>
 .chk (.eqN r0 r0) <|
 .chk (.eqN r0 r0) <|
 .call false 110 [g l0 29,(.func (.func 111) #[] #[(.pointer (some ⟨r1,0,none⟩))])] [] [⟨r1,3,[(g (c10.getD 0 []) 0)]⟩] .one fun l11 c11 =>
 .chk (.eqN r0 r0) <|
 .chk (.eqN r0 r0) <|
 .call false 109 [g l0 31,(.func (.func 108) #[] #[(.pointer (some ⟨r1,0,none⟩))])] [] [⟨r1,3,[(g (c11.getD 0 []) 0)]⟩] .one fun l12 c12 =>
 .chk (.eqN r0 r0) <|
 .chk (.eqN r0 r0) <|
 .call false 112 [g l0 32,(.func (.func 113) #[] #[(.pointer (some ⟨r1,0,none⟩))])] [] [⟨r1,3,[(g (c12.getD 0 []) 0)]⟩] .one fun l13 c13 =>
 .chk (.eqN r0 r0) <|
 .chk (.eqN r0 r0) <|
 .chk (.eqN r2 r2) <|
 .chk (.eqN r2 r2) <|
 .ret (.agg #[g l0 0,g l0 1,g l0 2,g l0 3,g l0 4,g l0 5,g l2 0,g l3 0,g l4 0,g l5 0,g l0 10,g l0 11,g l0 12,g l0 13,g l0 14,g l0 15,g l0 16,g l0 17,g l0 18,g l0 19,g l7 0,g l8 0,g l9 0,g l10 0,g l0 24,g l0 25,g l0 26,g l0 27,g l0 28,g l11 0,g l0 30,g l12 0,g l13 0,g l0 33,g l0 34,g l0 35,g l0 36,g l0 37]) []
theorem T_board_out_eq (vs : List Value) : sxFun PP Tryz.f77 (mkOpts okL [(43, [5, 6, 7, 8])] [(4, .unroll 3), (7, .unroll 5)] []) vs = T_board_out vs := by kernel_rfl
theorem run_board_out {args vs} (ha : entryArgs PP Tryz.f77 args = some vs) (ho : Ones vs) {H O Q} (h : (T_board_out vs).den PP Q H O) : Triple PP F_board_out args H O Q :=
 triple_run mixed (mkOpts_ok okL_ok _ _ _) Tryz.func77 T_board_out_eq ha ho h
abbrev F_object_Reset : FuncId := 78
/- zeitnot/object.Reset -/
def T_object_Reset (v : List Value) : Tree :=
 .newbox fun r0 =>
 .newbox fun r1 =>
 .chk (.eqN r0 r0) <|
 .call false 114 [(.agg #[g v 0,g v 1,g v 2,g v 3,g v 4,g v 5,g v 6,g v 7,g v 8,g v 9,g v 10,g v 11])] [] [] (.agg 12) fun l0 _ =>
 .newbox fun r2 =>
 .chk (.eqN r2 r2) <|
 .pure [] (.bin .eql .int) [g v 12,(.int .i64 2)] fun v1 =>
 .chk (.eqN r2 r2) <|
 .chk (.eqN r2 r2) <|
 .chk (.eqN r2 r2) <|
 .chk (.eqN r2 r2) <|
 .chk (.eqN r2 r2) <|
 .chk (.eqN r1 r1) <|
 .chk (.eqN r1 r1) <|
 .ret (.agg #[g l0 0,g l0 1,g l0 2,g l0 3,g l0 4,g l0 5,(.int .i64 0),g l0 7,g l0 8,(.bool false),v1,(.bool false)]) []
theorem T_object_Reset_eq (vs : List Value) : sxFun PP Tryz.f78 (mkOpts okL [(43, [5, 6, 7, 8])] [] []) vs = T_object_Reset vs := by kernel_rfl
theorem run_object_Reset {args vs} (ha : entryArgs PP Tryz.f78 args = some vs) (ho : Ones vs) {H O Q} (h : (T_object_Reset vs).den PP Q H O) : Triple PP F_object_Reset args H O Q :=
 triple_run mixed (mkOpts_ok okL_ok _ _ _) Tryz.func78 T_object_Reset_eq ha ho h
abbrev F_slices_Delete_api_Object_api_Object : FuncId := 79
/- slices.Delete[[]zeitnot/api.Object,zeitnot/api.Object] -/
def T_slices_Delete_api_Object_api_Object (v : List Value) : Tree :=
 .pure [] .len [g v 0] fun v0 =>
 .pure [] (.slc 12 true true true) [g v 0,g v 1,g v 2,v0] fun v1 =>
 .pure [] (.bin .eql .int) [g v 1,g v 2] fun v2 =>
 .br v2 (
 .ret (g v 0) []) (
 .pure [] .len [g v 0] fun v3 =>
 .pure [] (.slc 12 false true false) [g v 0,g v 1] fun v4 =>
 .pure [] (.slc 12 true false false) [g v 0,g v 2] fun v5 =>
 .prim (.bi .append #[22,22] 22) [v4,v5] [] [] .one fun l6 _ =>
 .pure [] .len [g l6 0] fun v7 =>
 .pure [] (.slc 12 true true false) [g l6 0,v7,v3] fun v8 =>
 .prim (.bi .clear #[22] 0) [v8] [] [] (.tup []) fun l9 _ =>
 .ret (g l6 0) [])
theorem T_slices_Delete_api_Object_api_Object_eq (vs : List Value) : sxFun PP Tryz.f79 (mkOpts okL [(43, [5, 6, 7, 8])] [] []) vs = T_slices_Delete_api_Object_api_Object vs := by kernel_rfl
theorem run_slices_Delete_api_Object_api_Object {args vs} (ha : entryArgs PP Tryz.f79 args = some vs) (ho : Ones vs) {H O Q} (h : (T_slices_Delete_api_Object_api_Object vs).den PP Q H O) : Triple PP F_slices_Delete_api_Object_api_Object args H O Q :=
 triple_run mixed (mkOpts_ok okL_ok _ _ _) Tryz.func79 T_slices_Delete_api_Object_api_Object_eq ha ho h
abbrev F_zeitnotref14_Reset : FuncId := 80
/- zeitnot/zeitnotref14.Reset -/
def T_zeitnotref14_Reset (v : List Value) : Tree :=
 .newbox fun r0 =>
 .newbox fun r1 =>
 .chk (.eqN r0 r0) <|
 .call false 115 [(.agg #[g v 0,g v 1,g v 2,g v 3,g v 4,g v 5,g v 6,g v 7,g v 8,g v 9,g v 10,g v 11])] [] [] (.agg 12) fun l0 _ =>
 .chk (.eqN r0 r0) <|
 .pure [] (.bin .eql .int) [g v 12,(.int .i64 2)] fun v1 =>
 .chk (.eqN r0 r0) <|
 .chk (.eqN r0 r0) <|
 .chk (.eqN r0 r0) <|
 .chk (.eqN r0 r0) <|
 .chk (.eqN r0 r0) <|
 .chk (.eqN r1 r1) <|
 .chk (.eqN r1 r1) <|
 .ret (.agg #[g l0 0,g l0 1,g l0 2,g l0 3,g l0 4,g l0 5,(.int .i64 0),g l0 7,g l0 8,(.bool false),v1,(.bool false)]) []
theorem T_zeitnotref14_Reset_eq (vs : List Value) : sxFun PP Tryz.f80 (mkOpts okL [(43, [5, 6, 7, 8])] [] []) vs = T_zeitnotref14_Reset vs := by kernel_rfl
theorem run_zeitnotref14_Reset {args vs} (ha : entryArgs PP Tryz.f80 args = some vs) (ho : Ones vs) {H O Q} (h : (T_zeitnotref14_Reset vs).den PP Q H O) : Triple PP F_zeitnotref14_Reset args H O Q :=
 triple_run mixed (mkOpts_ok okL_ok _ _ _) Tryz.func80 T_zeitnotref14_Reset_eq ha ho h
abbrev F_zeitnotref15_Out : FuncId := 81
/- zeitnot/zeitnotref15.Out -/
def T_zeitnotref15_Out (v : List Value) : Tree :=
 .newbox fun r0 =>
 .newbox fun r1 =>
 .chk (.eqN r0 r0) <|
 .call false 9 [(.agg #[g v 0,g v 1,g v 2,g v 3,g v 4,g v 5,g v 6,g v 7,g v 8,g v 9,g v 10,g v 11,g v 12,g v 13,g v 14,g v 15,g v 16,g v 17,g v 18,g v 19,g v 20,g v 21,g v 22,g v 23,g v 24,g v 25,g v 26,g v 27,g v 28,g v 29,g v 30,g v 31,g v 32,g v 33,g v 34,g v 35,g v 36,g v 37])] [] [] (.agg 38) fun l0 _ =>
 .chk (.eqN r0 r0) <|
 .chk (.eqN r0 r0) <|
 .chk (.eqN r0 r0) <|
 .chk (.eqN r0 r0) <|
 .chk (.eqN r0 r0) <|
 .call false 116 [g l0 6,g v 38] [] [] .one fun l1 _ =>
 .call false 116 [g l0 7,g v 38] [] [] .one fun l2 _ =>
 .call false 116 [g l0 8,g v 38] [] [] .one fun l3 _ =>
 .call false 116 [g l0 9,g v 38] [] [] .one fun l4 _ =>
 .chk (.eqN r0 r0) <|
 .chk (.eqN r0 r0) <|
 .chk (.eqN r0 r0) <|
 .chk (.eqN r0 r0) <|
 .chk (.eqN r0 r0) <|
 .chk (.eqN r0 r0) <|
 .chk (.eqN r0 r0) <|
 .chk (.eqN r0 r0) <|
 .call false 116 [g l0 20,g v 38] [] [] .one fun l5 _ =>
 .call false 116 [g l0 21,g v 38] [] [] .one fun l6 _ =>
 .call false 116 [g l0 22,g v 38] [] [] .one fun l7 _ =>
 .call false 116 [g l0 23,g v 38] [] [] .one fun l8 _ =>
 .chk (.eqN r0 r0) <|
 .chk (.eqN r0 r0) <|
 .chk (.eqN r0 r0) <|
 .chk (.eqN r0 r0) <|
 .loop 108 9 [(.slice none 0 0),(.int .i64 0)] fun C108 l9 =>
 .chk (.eqN r0 r0) <|
 .pure [] .len [g l0 29] fun v10 =>
 .pure [] (.bin .lss .int) [g l9 1,v10] fun v11 =>
 .br v11 (
 .chk (.eqN r0 r0) <|
 .pure [] (.idx 5) [g l0 29,g l9 1] fun v12 =>
 .load [] v12 5 fun l13 =>
 .newbox fun r2 =>
 .chk (.eqN r2 r2) <|
 .chk (.eqN r2 r2) <|
 .pure [] (.bin .neq .int) [g l13 3,(.int .i64 (-1))] fun v14 =>
 .chk (.eqN r2 r2) <|
 .chk (.eqV v14 v14) <|
 .chk (.eqV v14 v14) <|
 .chk (.eqV v14 v14) <|
 .pure [] (.bin .neq .int) [g l13 1,g v 38] fun v15 =>
 .chk (.eqV v14 v14) <|
 .pure [] .pick [v14,(.bool true),v15] fun v16 =>
 .br v16 (
 .chk (.eqN r2 r2) <|
 .newbox fun r3 =>
 .prim (.bi .append #[29,29] 29) [g l9 0,(.slice (some ⟨r3,0,none⟩) 1 1)] [⟨r3,77,[g l13 0,g l13 1,g l13 2,g l13 3,g l13 4]⟩] [] .one fun l17 _ =>
 .pure [] (.bin .add .int) [g l9 1,(.int .i64 1)] fun v18 =>
 .cont 108 C108 [g l17 0,v18] [E [g v 38],E [(.pointer (some ⟨r0,0,none⟩))],E [(.pointer (some ⟨r1,0,none⟩))],E [(.pointer (some ⟨r0,0,none⟩)),g l0 0,g l0 1,g l0 2,g l0 3,g l0 4,g l0 5,g l1 0,g l2 0,g l3 0,g l4 0,g l0 10,g l0 11,g l0 12,g l0 13,g l0 14,g l0 15,g l0 16,g l0 17,g l0 18,g l0 19,g l5 0,g l6 0,g l7 0,g l8 0,g l0 24,g l0 25,g l0 26,g l0 27,g l0 28,g l0 29,g l0 30,g l0 31,g l0 32,g l0 33,g l0 34,g l0 35,g l0 36,g l0 37],E [(.pointer (some ⟨r1,0,none⟩)),(.slice none 0 0),(.int .i64 0),(.int .i64 0),(.int .i64 0),(.int .i64 0),(.int .i64 0),(.slice none 0 0),(.slice none 0 0),(.slice none 0 0),(.slice none 0 0),(.bool false),(.bool false),(.bool false),(.int .i64 0),(.int .i64 0),(.int .i64 0),(.int .i64 0),(.int .i64 0),(.int .i64 0),(.int .i64 0),(.slice none 0 0),(.slice none 0 0),(.slice none 0 0),(.slice none 0 0),(.bool false),(.bool false),(.bool false),(.int .i64 0),(.int .i64 0),(.slice none 0 0),(.slice none 0 0),(.slice none 0 0),(.slice none 0 0),(.int .i64 0),(.int .i64 0),(.int .i64 0),(.int .i64 0),(.int .i64 0)]]) (
 .pure [] (.bin .add .int) [g l9 1,(.int .i64 1)] fun v19 =>
 .cont 108 C108 [g l9 0,v19] [E [g v 38],E [(.pointer (some ⟨r0,0,none⟩))],E [(.pointer (some ⟨r1,0,none⟩))],E [(.pointer (some ⟨r0,0,none⟩)),g l0 0,g l0 1,g l0 2,g l0 3,g l0 4,g l0 5,g l1 0,g l2 0,g l3 0,g l4 0,g l0 10,g l0 11,g l0 12,g l0 13,g l0 14,g l0 15,g l0 16,g l0 17,g l0 18,g l0 19,g l5 0,g l6 0,g l7 0,g l8 0,g l0 24,g l0 25,g l0 26,g l0 27,g l0 28,g l0 29,g l0 30,g l0 31,g l0 32,g l0 33,g l0 34,g l0 35,g l0 36,g l0 37],E [(.pointer (some ⟨r1,0,none⟩)),(.slice none 0 0),(.int .i64 0),(.int .i64 0),(.int .i64 0),(.int .i64 0),(.int .i64 0),(.slice none 0 0),(.slice none 0 0),(.slice none 0 0),(.slice none 0 0),(.bool false),(.bool false),(.bool false),(.int .i64 0),(.int .i64 0),(.int .i64 0),(.int .i64 0),(.int .i64 0),(.int .i64 0),(.int .i64 0),(.slice none 0 0),(.slice none 0 0),(.slice none 0 0),(.slice none 0 0),(.bool false),(.bool false),(.bool false),(.int .i64 0),(.int .i64 0),(.slice none 0 0),(.slice none 0 0),(.slice none 0 0),(.slice none 0 0),(.int .i64 0),(.int .i64 0),(.int .i64 0),(.int .i64 0),(.int .i64 0)]])) (
 .loop 116 16 [(.slice none 0 0),(.int .i64 0)] fun C116 l20 =>
 .chk (.eqN r0 r0) <|
 .pure [] .len [g l0 32] fun v21 =>
 .pure [] (.bin .lss .int) [g l20 1,v21] fun v22 =>
 .br v22 (
 .chk (.eqN r0 r0) <|
 .pure [] (.idx 2) [g l0 32,g l20 1] fun v23 =>
 .load [] v23 2 fun l24 =>
 .newbox fun r4 =>
 .chk (.eqN r4 r4) <|
 .chk (.eqN r4 r4) <|
 .pure [] (.bin .neq .int) [g l24 0,g v 38] fun v25 =>
 .chk (.eqN r4 r4) <|
 .chk (.eqV v25 v25) <|
 .chk (.eqV v25 v25) <|
 .chk (.eqV v25 v25) <|
 .pure [] (.bin .neq .int) [g l24 1,g v 38] fun v26 =>
 .chk (.eqV v25 v25) <|
 .pure [] .pick [v25,v26,(.bool false)] fun v27 =>
 .br v27 (
 .chk (.eqN r4 r4) <|
 .newbox fun r5 =>
 .prim (.bi .append #[30,30] 30) [g l20 0,(.slice (some ⟨r5,0,none⟩) 1 1)] [⟨r5,89,[g l24 0,g l24 1]⟩] [] .one fun l28 _ =>
 .pure [] (.bin .add .int) [g l20 1,(.int .i64 1)] fun v29 =>
 .cont 116 C116 [g l28 0,v29] [E [g v 38],E [(.pointer (some ⟨r0,0,none⟩))],E [(.pointer (some ⟨r1,0,none⟩))],E [g l9 0],E [(.pointer (some ⟨r0,0,none⟩)),g l0 0,g l0 1,g l0 2,g l0 3,g l0 4,g l0 5,g l1 0,g l2 0,g l3 0,g l4 0,g l0 10,g l0 11,g l0 12,g l0 13,g l0 14,g l0 15,g l0 16,g l0 17,g l0 18,g l0 19,g l5 0,g l6 0,g l7 0,g l8 0,g l0 24,g l0 25,g l0 26,g l0 27,g l0 28,g l0 29,g l0 30,g l0 31,g l0 32,g l0 33,g l0 34,g l0 35,g l0 36,g l0 37],E [(.pointer (some ⟨r1,0,none⟩)),(.slice none 0 0),(.int .i64 0),(.int .i64 0),(.int .i64 0),(.int .i64 0),(.int .i64 0),(.slice none 0 0),(.slice none 0 0),(.slice none 0 0),(.slice none 0 0),(.bool false),(.bool false),(.bool false),(.int .i64 0),(.int .i64 0),(.int .i64 0),(.int .i64 0),(.int .i64 0),(.int .i64 0),(.int .i64 0),(.slice none 0 0),(.slice none 0 0),(.slice none 0 0),(.slice none 0 0),(.bool false),(.bool false),(.bool false),(.int .i64 0),(.int .i64 0),(.slice none 0 0),(.slice none 0 0),(.slice none 0 0),(.slice none 0 0),(.int .i64 0),(.int .i64 0),(.int .i64 0),(.int .i64 0),(.int .i64 0)]]) (
 .pure [] (.bin .add .int) [g l20 1,(.int .i64 1)] fun v30 =>
 .cont 116 C116 [g l20 0,v30] [E [g v 38],E [(.pointer (some ⟨r0,0,none⟩))],E [(.pointer (some ⟨r1,0,none⟩))],E [g l9 0],E [(.pointer (some ⟨r0,0,none⟩)),g l0 0,g l0 1,g l0 2,g l0 3,g l0 4,g l0 5,g l1 0,g l2 0,g l3 0,g l4 0,g l0 10,g l0 11,g l0 12,g l0 13,g l0 14,g l0 15,g l0 16,g l0 17,g l0 18,g l0 19,g l5 0,g l6 0,g l7 0,g l8 0,g l0 24,g l0 25,g l0 26,g l0 27,g l0 28,g l0 29,g l0 30,g l0 31,g l0 32,g l0 33,g l0 34,g l0 35,g l0 36,g l0 37],E [(.pointer (some ⟨r1,0,none⟩)),(.slice none 0 0),(.int .i64 0),(.int .i64 0),(.int .i64 0),(.int .i64 0),(.int .i64 0),(.slice none 0 0),(.slice none 0 0),(.slice none 0 0),(.slice none 0 0),(.bool false),(.bool false),(.bool false),(.int .i64 0),(.int .i64 0),(.int .i64 0),(.int .i64 0),(.int .i64 0),(.int .i64 0),(.int .i64 0),(.slice none 0 0),(.slice none 0 0),(.slice none 0 0),(.slice none 0 0),(.bool false),(.bool false),(.bool false),(.int .i64 0),(.int .i64 0),(.slice none 0 0),(.slice none 0 0),(.slice none 0 0),(.slice none 0 0),(.int .i64 0),(.int .i64 0),(.int .i64 0),(.int .i64 0),(.int .i64 0)]])) (
 .chk (.eqN r0 r0) <|
 .call false 116 [g l0 31,g v 38] [] [] .one fun l31 _ =>
 .chk (.eqN r0 r0) <|
 .chk (.eqN r0 r0) <|
 .chk (.eqN r0 r0) <|
 .chk (.eqN r0 r0) <|
 .chk (.eqN r1 r1) <|
 .chk (.eqN r1 r1) <|
 .ret (.agg #[g l0 0,g l0 1,g l0 2,g l0 3,g l0 4,g l0 5,g l1 0,g l2 0,g l3 0,g l4 0,g l0 10,g l0 11,g l0 12,g l0 13,g l0 14,g l0 15,g l0 16,g l0 17,g l0 18,g l0 19,g l5 0,g l6 0,g l7 0,g l8 0,g l0 24,g l0 25,g l0 26,g l0 27,g l0 28,g l9 0,g l0 30,g l31 0,g l20 0,g l0 33,g l0 34,g l0 35,g l0 36,g l0 37]) []))
theorem T_zeitnotref15_Out_eq (vs : List Value) : sxFun PP Tryz.f81 (mkOpts okL [(43, [5, 6, 7, 8])] [(3, .unroll 3), (9, .inv [7, 8] [1, 2, 4] [(2, []), (4, [])]), (16, .inv [10, 11] [1, 2, 4, 7] [(2, []), (4, [])])] []) vs = T_zeitnotref15_Out vs := by kernel_rfl
theorem run_zeitnotref15_Out {args vs} (ha : entryArgs PP Tryz.f81 args = some vs) (ho : Ones vs) {H O Q} (h : (T_zeitnotref15_Out vs).den PP Q H O) : Triple PP F_zeitnotref15_Out args H O Q :=
 triple_run mixed (mkOpts_ok okL_ok _ _ _) Tryz.func81 T_zeitnotref15_Out_eq ha ho h
abbrev F_slices_Clone_api_Item_api_Item : FuncId := 84
/- slices.Clone[[]zeitnot/api.Item,zeitnot/api.Item] -/
def T_slices_Clone_api_Item_api_Item (v : List Value) : Tree :=
 .pure [] (.bin .eql .slice) [g v 0,(.slice none 0 0)] fun v0 =>
 .br v0 (
 .ret (.slice none 0 0) []) (
 .newbox fun r0 =>
 .prim (.bi .append #[29,29] 29) [(.slice (some ⟨r0,0,none⟩) 0 0),g v 0] [⟨r0,77,[]⟩] [] .one fun l1 _ =>
 .ret (g l1 0) [])
theorem T_slices_Clone_api_Item_api_Item_eq (vs : List Value) : sxFun PP Tryz.f84 (mkOpts okL [(43, [5, 6, 7, 8])] [] []) vs = T_slices_Clone_api_Item_api_Item vs := by kernel_rfl
theorem run_slices_Clone_api_Item_api_Item {args vs} (ha : entryArgs PP Tryz.f84 args = some vs) (ho : Ones vs) {H O Q} (h : (T_slices_Clone_api_Item_api_Item vs).den PP Q H O) : Triple PP F_slices_Clone_api_Item_api_Item args H O Q :=
 triple_run mixed (mkOpts_ok okL_ok _ _ _) Tryz.func84 T_slices_Clone_api_Item_api_Item_eq ha ho h
abbrev F_slices_Clone_api_Target_api_Target : FuncId := 85
/- slices.Clone[[]zeitnot/api.Target,zeitnot/api.Target] -/
def T_slices_Clone_api_Target_api_Target (v : List Value) : Tree :=
 .pure [] (.bin .eql .slice) [g v 0,(.slice none 0 0)] fun v0 =>
 .br v0 (
 .ret (.slice none 0 0) []) (
 .newbox fun r0 =>
 .prim (.bi .append #[75,75] 75) [(.slice (some ⟨r0,0,none⟩) 0 0),g v 0] [⟨r0,105,[]⟩] [] .one fun l1 _ =>
 .ret (g l1 0) [])
theorem T_slices_Clone_api_Target_api_Target_eq (vs : List Value) : sxFun PP Tryz.f85 (mkOpts okL [(43, [5, 6, 7, 8])] [] []) vs = T_slices_Clone_api_Target_api_Target vs := by kernel_rfl
theorem run_slices_Clone_api_Target_api_Target {args vs} (ha : entryArgs PP Tryz.f85 args = some vs) (ho : Ones vs) {H O Q} (h : (T_slices_Clone_api_Target_api_Target vs).den PP Q H O) : Triple PP F_slices_Clone_api_Target_api_Target args H O Q :=
 triple_run mixed (mkOpts_ok okL_ok _ _ _) Tryz.func85 T_slices_Clone_api_Target_api_Target_eq ha ho h
abbrev F_mana_within : FuncId := 86
/- zeitnot/mana.within -/
def T_mana_within (v : List Value) : Tree :=
 .newbox fun r0 =>
 .chk (.eqN r0 r0) <|
 .loop 4 2 [(.int .i64 0)] fun C4 l0 =>
 .pure [] (.bin .lss .int) [g l0 0,(.int .i64 4)] fun v1 =>
 .br v1 (
 .pure [] .aidx [g l0 0,g v 0,g v 1,g v 2,g v 3] fun v2 =>
 .pure [] (.bin .lss .int) [v2,(.int .i64 0)] fun v3 =>
 .chk (.eqV v3 v3) <|
 .chk (.eqV v3 v3) <|
 .pure [] (.bin .gtr .int) [v2,g v 4] fun v4 =>
 .chk (.eqV v3 v3) <|
 .pure [] .pick [v3,(.bool true),v4] fun v5 =>
 .br v5 (
 .ret (.bool false) []) (
 .pure [] (.bin .add .int) [g l0 0,(.int .i64 1)] fun v6 =>
 .cont 4 C4 [v6] [E [g v 4],E [g v 0,g v 1,g v 2,g v 3]])) (
 .ret (.bool true) [])
theorem T_mana_within_eq (vs : List Value) : sxFun PP Tryz.f86 (mkOpts okL [(43, [5, 6, 7, 8])] [(2, .inv [8] [1, 7] [])] []) vs = T_mana_within vs := by kernel_rfl
theorem run_mana_within {args vs} (ha : entryArgs PP Tryz.f86 args = some vs) (ho : Ones vs) {H O Q} (h : (T_mana_within vs).den PP Q H O) : Triple PP F_mana_within args H O Q :=
 triple_run mixed (mkOpts_ok okL_ok _ _ _) Tryz.func86 T_mana_within_eq ha ho h
abbrev F_slices_IndexFunc_api_Item_api_Item : FuncId := 87
/- slices.IndexFunc[[]zeitnot/api.Item,zeitnot/api.Item] -/
def T_slices_IndexFunc_api_Item_api_Item (v : List Value) : Tree :=
 .pure [] .len [g v 0] fun v0 =>
 .loop 4 2 [(.int .i64 0)] fun C4 l1 =>
 .pure [] (.bin .lss .int) [g l1 0,v0] fun v2 =>
 .br v2 (
 .pure [] (.idx 5) [g v 0,g l1 0] fun v3 =>
 .load [] v3 5 fun l4 =>
 .callv false (g v 1) [(.agg #[g l4 0,g l4 1,g l4 2,g l4 3,g l4 4])] [] [] .one fun l5 _ =>
 .br (g l5 0) (
 .ret (g l1 0) []) (
 .pure [] (.bin .add .int) [g l1 0,(.int .i64 1)] fun v6 =>
 .cont 4 C4 [v6] [E [g v 0],E [g v 1],E [v0]])) (
 .ret (.int .i64 (-1)) [])
theorem T_slices_IndexFunc_api_Item_api_Item_eq (vs : List Value) : sxFun PP Tryz.f87 (mkOpts okL [(43, [5, 6, 7, 8])] [(2, .inv [8] [0, 1, 7] [])] []) vs = T_slices_IndexFunc_api_Item_api_Item vs := by kernel_rfl
theorem run_slices_IndexFunc_api_Item_api_Item {args vs} (ha : entryArgs PP Tryz.f87 args = some vs) (ho : Ones vs) {H O Q} (h : (T_slices_IndexFunc_api_Item_api_Item vs).den PP Q H O) : Triple PP F_slices_IndexFunc_api_Item_api_Item args H O Q :=
 triple_run mixed (mkOpts_ok okL_ok _ _ _) Tryz.func87 T_slices_IndexFunc_api_Item_api_Item_eq ha ho h
abbrev F_slices_ContainsFunc_api_Target_api_Target : FuncId := 88
/- slices.ContainsFunc[[]zeitnot/api.Target,zeitnot/api.Target] -/
def T_slices_ContainsFunc_api_Target_api_Target (v : List Value) : Tree :=
 .call false 123 [g v 0,g v 1] [] [] .one fun l0 _ =>
 .pure [] (.bin .geq .int) [g l0 0,(.int .i64 0)] fun v1 =>
 .ret v1 []
theorem T_slices_ContainsFunc_api_Target_api_Target_eq (vs : List Value) : sxFun PP Tryz.f88 (mkOpts okL [(43, [5, 6, 7, 8])] [] []) vs = T_slices_ContainsFunc_api_Target_api_Target vs := by kernel_rfl
theorem run_slices_ContainsFunc_api_Target_api_Target {args vs} (ha : entryArgs PP Tryz.f88 args = some vs) (ho : Ones vs) {H O Q} (h : (T_slices_ContainsFunc_api_Target_api_Target vs).den PP Q H O) : Triple PP F_slices_ContainsFunc_api_Target_api_Target args H O Q :=
 triple_run mixed (mkOpts_ok okL_ok _ _ _) Tryz.func88 T_slices_ContainsFunc_api_Target_api_Target_eq ha ho h
abbrev F_board_fine_1 : FuncId := 89
/- zeitnot/board.fine$1 -/
def T_board_fine_1 (v : List Value) : Tree :=
 .newbox fun r0 =>
 .chk (.eqN r0 r0) <|
 .call false 90 [(.agg #[g v 0,g v 1])] [] [] .one fun l0 _ =>
 .pure [] .not [g l0 0] fun v1 =>
 .ret v1 []
theorem T_board_fine_1_eq (vs : List Value) : sxFun PP Tryz.f89 (mkOpts okL [(43, [5, 6, 7, 8])] [] []) vs = T_board_fine_1 vs := by kernel_rfl
theorem run_board_fine_1 {args vs} (ha : entryArgs PP Tryz.f89 args = some vs) (ho : Ones vs) {H O Q} (h : (T_board_fine_1 vs).den PP Q H O) : Triple PP F_board_fine_1 args H O Q :=
 triple_run mixed (mkOpts_ok okL_ok _ _ _) Tryz.func89 T_board_fine_1_eq ha ho h
abbrev F_board_aimed : FuncId := 90
/- zeitnot/board.aimed -/
def T_board_aimed (v : List Value) : Tree :=
 .newbox fun r0 =>
 .chk (.eqN r0 r0) <|
 .call false 44 [g v 0,(.int .i64 0),(.int .i64 500)] [] [] .one fun l0 _ =>
 .br (g l0 0) (
 .chk (.eqN r0 r0) <|
 .call false 44 [g v 1,(.int .i64 0),(.int .i64 1)] [] [] .one fun l1 _ =>
 .chk (.eqN r0 r0) <|
 .chk (.eqV (g l1 0) (g l1 0)) <|
 .chk (.eqV (g l1 0) (g l1 0)) <|
 .pure [] (.bin .eql .int) [g v 0,(.int .i64 0)] fun v2 =>
 .chk (.eqV (g l1 0) (g l1 0)) <|
 .chk (.eqN r0 r0) <|
 .chk (.eqV v2 v2) <|
 .chk (.eqV (g l1 0) (g l1 0)) <|
 .chk (.eqV v2 v2) <|
 .chk (.eqV (g l1 0) (g l1 0)) <|
 .pure [] (.bin .eql .int) [g v 1,(.int .i64 0)] fun v3 =>
 .chk (.eqV (g l1 0) (g l1 0)) <|
 .chk (.eqV v2 v2) <|
 .chk (.eqV (g l1 0) (g l1 0)) <|
 .pure [] .pick [v2,(.bool true),v3] fun v4 =>
 .chk (.eqV (g l1 0) (g l1 0)) <|
 .pure [] .pick [g l1 0,v4,(.bool false)] fun v5 =>
 .ret v5 []) (
 .ret (.bool false) [])
theorem T_board_aimed_eq (vs : List Value) : sxFun PP Tryz.f90 (mkOpts okL [(43, [5, 6, 7, 8])] [] []) vs = T_board_aimed vs := by kernel_rfl
theorem run_board_aimed {args vs} (ha : entryArgs PP Tryz.f90 args = some vs) (ho : Ones vs) {H O Q} (h : (T_board_aimed vs).den PP Q H O) : Triple PP F_board_aimed args H O Q :=
 triple_run mixed (mkOpts_ok okL_ok _ _ _) Tryz.func90 T_board_aimed_eq ha ho h
abbrev F_board_placed_1 : FuncId := 91
/- zeitnot/board.placed$1 -/
def T_board_placed_1 (v : List Value) : Tree :=
 .load [] (g v 2) 1 fun l0 =>
 .prim (.lookup 129 true) [g l0 0,g v 0] [] [] (.tup [none,none]) fun l1 _ =>
 .load [] (g v 2) 1 fun l2 =>
 .prim (.mapUpdate 129) [g l2 0,g v 0,g v 1] [] [] .one fun l3 _ =>
 .pure [] .not [g l1 1] fun v4 =>
 .ret v4 []
theorem T_board_placed_1_eq (vs : List Value) : sxFun PP Tryz.f91 (mkOpts okL [(43, [5, 6, 7, 8])] [] []) vs = T_board_placed_1 vs := by kernel_rfl
theorem run_board_placed_1 {args vs} (ha : entryArgs PP Tryz.f91 args = some vs) (ho : Ones vs) {H O Q} (h : (T_board_placed_1 vs).den PP Q H O) : Triple PP F_board_placed_1 args H O Q :=
 triple_run mixed (mkOpts_ok okL_ok _ _ _) Tryz.func91 T_board_placed_1_eq ha ho h
abbrev F_zeitnotref15_places : FuncId := 92
/- zeitnot/zeitnotref15.places -/
def T_zeitnotref15_places (v : List Value) : Tree :=
 .newbox fun r0 =>
 .sw (g v 38) 0 (
 .chk (.eqN r0 r0) <|
 .call false 35 [(.agg #[g v 1,g v 2,g v 3,g v 4,g v 5,g v 6,g v 7,g v 8,g v 9,g v 10,g v 11,g v 12,g v 13,g v 14])] [] [] (.agg 4) fun l0 _ =>
 .call false 93 [g l0 0,g v 39] [] [] .one fun l1 _ =>
 .pure [] (.bin .add .int) [(.int .i64 0),g l1 0] fun v2 =>
 .call false 93 [g l0 1,g v 39] [] [] .one fun l3 _ =>
 .pure [] (.bin .add .int) [v2,g l3 0] fun v4 =>
 .call false 93 [g l0 2,g v 39] [] [] .one fun l5 _ =>
 .pure [] (.bin .add .int) [v4,g l5 0] fun v6 =>
 .call false 93 [g l0 3,g v 39] [] [] .one fun l7 _ =>
 .pure [] (.bin .add .int) [v6,g l7 0] fun v8 =>
 .loop 55 8 [v8,(.int .i64 0)] fun C55 l9 =>
 .chk (.eqN r0 r0) <|
 .pure [] .len [g v 29] fun v10 =>
 .pure [] (.bin .lss .int) [g l9 1,v10] fun v11 =>
 .br v11 (
 .chk (.eqN r0 r0) <|
 .pure [] (.idx 5) [g v 29,g l9 1] fun v12 =>
 .load [] v12 5 fun l13 =>
 .newbox fun r1 =>
 .chk (.eqN r1 r1) <|
 .chk (.eqN r1 r1) <|
 .pure [] (.bin .eql .int) [g l13 3,(.int .i64 (-1))] fun v14 =>
 .chk (.eqN r1 r1) <|
 .chk (.eqV v14 v14) <|
 .chk (.eqV v14 v14) <|
 .chk (.eqV v14 v14) <|
 .pure [] (.bin .eql .int) [g l13 1,g v 39] fun v15 =>
 .chk (.eqV v14 v14) <|
 .pure [] .pick [v14,v15,(.bool false)] fun v16 =>
 .chk (.eqN r1 r1) <|
 .chk (.eqV v16 v16) <|
 .chk (.eqV v16 v16) <|
 .chk (.eqV v16 v16) <|
 .pure [] (.bin .eql .int) [g l13 0,g v 38] fun v17 =>
 .chk (.eqV v16 v16) <|
 .pure [] .pick [v16,v17,(.bool false)] fun v18 =>
 .br v18 (
 .pure [] (.bin .add .int) [g l9 0,(.int .i64 1)] fun v19 =>
 .pure [] (.bin .add .int) [g l9 1,(.int .i64 1)] fun v20 =>
 .cont 55 C55 [v19,v20] [E [g v 38],E [g v 39],E [(.pointer (some ⟨r0,0,none⟩))],E [(.pointer (some ⟨r0,0,none⟩)),g v 0,g v 1,g v 2,g v 3,g v 4,g v 5,g v 6,g v 7,g v 8,g v 9,g v 10,g v 11,g v 12,g v 13,g v 14,g v 15,g v 16,g v 17,g v 18,g v 19,g v 20,g v 21,g v 22,g v 23,g v 24,g v 25,g v 26,g v 27,g v 28,g v 29,g v 30,g v 31,g v 32,g v 33,g v 34,g v 35,g v 36,g v 37]]) (
 .pure [] (.bin .add .int) [g l9 1,(.int .i64 1)] fun v21 =>
 .cont 55 C55 [g l9 0,v21] [E [g v 38],E [g v 39],E [(.pointer (some ⟨r0,0,none⟩))],E [(.pointer (some ⟨r0,0,none⟩)),g v 0,g v 1,g v 2,g v 3,g v 4,g v 5,g v 6,g v 7,g v 8,g v 9,g v 10,g v 11,g v 12,g v 13,g v 14,g v 15,g v 16,g v 17,g v 18,g v 19,g v 20,g v 21,g v 22,g v 23,g v 24,g v 25,g v 26,g v 27,g v 28,g v 29,g v 30,g v 31,g v 32,g v 33,g v 34,g v 35,g v 36,g v 37]])) (
 .ret (g l9 0) [])) (
 .sw (g v 38) 1 (
 .chk (.eqN r0 r0) <|
 .call false 35 [(.agg #[g v 15,g v 16,g v 17,g v 18,g v 19,g v 20,g v 21,g v 22,g v 23,g v 24,g v 25,g v 26,g v 27,g v 28])] [] [] (.agg 4) fun l22 _ =>
 .call false 93 [g l22 0,g v 39] [] [] .one fun l23 _ =>
 .pure [] (.bin .add .int) [(.int .i64 0),g l23 0] fun v24 =>
 .call false 93 [g l22 1,g v 39] [] [] .one fun l25 _ =>
 .pure [] (.bin .add .int) [v24,g l25 0] fun v26 =>
 .call false 93 [g l22 2,g v 39] [] [] .one fun l27 _ =>
 .pure [] (.bin .add .int) [v26,g l27 0] fun v28 =>
 .call false 93 [g l22 3,g v 39] [] [] .one fun l29 _ =>
 .pure [] (.bin .add .int) [v28,g l29 0] fun v30 =>
 .loop 55 8 [v30,(.int .i64 0)] fun C55 l31 =>
 .chk (.eqN r0 r0) <|
 .pure [] .len [g v 29] fun v32 =>
 .pure [] (.bin .lss .int) [g l31 1,v32] fun v33 =>
 .br v33 (
 .chk (.eqN r0 r0) <|
 .pure [] (.idx 5) [g v 29,g l31 1] fun v34 =>
 .load [] v34 5 fun l35 =>
 .newbox fun r2 =>
 .chk (.eqN r2 r2) <|
 .chk (.eqN r2 r2) <|
 .pure [] (.bin .eql .int) [g l35 3,(.int .i64 (-1))] fun v36 =>
 .chk (.eqN r2 r2) <|
 .chk (.eqV v36 v36) <|
 .chk (.eqV v36 v36) <|
 .chk (.eqV v36 v36) <|
 .pure [] (.bin .eql .int) [g l35 1,g v 39] fun v37 =>
 .chk (.eqV v36 v36) <|
 .pure [] .pick [v36,v37,(.bool false)] fun v38 =>
 .chk (.eqN r2 r2) <|
 .chk (.eqV v38 v38) <|
 .chk (.eqV v38 v38) <|
 .chk (.eqV v38 v38) <|
 .pure [] (.bin .eql .int) [g l35 0,g v 38] fun v39 =>
 .chk (.eqV v38 v38) <|
 .pure [] .pick [v38,v39,(.bool false)] fun v40 =>
 .br v40 (
 .pure [] (.bin .add .int) [g l31 0,(.int .i64 1)] fun v41 =>
 .pure [] (.bin .add .int) [g l31 1,(.int .i64 1)] fun v42 =>
 .cont 55 C55 [v41,v42] [E [g v 38],E [g v 39],E [(.pointer (some ⟨r0,0,none⟩))],E [(.pointer (some ⟨r0,0,none⟩)),g v 0,g v 1,g v 2,g v 3,g v 4,g v 5,g v 6,g v 7,g v 8,g v 9,g v 10,g v 11,g v 12,g v 13,g v 14,g v 15,g v 16,g v 17,g v 18,g v 19,g v 20,g v 21,g v 22,g v 23,g v 24,g v 25,g v 26,g v 27,g v 28,g v 29,g v 30,g v 31,g v 32,g v 33,g v 34,g v 35,g v 36,g v 37]]) (
 .pure [] (.bin .add .int) [g l31 1,(.int .i64 1)] fun v43 =>
 .cont 55 C55 [g l31 0,v43] [E [g v 38],E [g v 39],E [(.pointer (some ⟨r0,0,none⟩))],E [(.pointer (some ⟨r0,0,none⟩)),g v 0,g v 1,g v 2,g v 3,g v 4,g v 5,g v 6,g v 7,g v 8,g v 9,g v 10,g v 11,g v 12,g v 13,g v 14,g v 15,g v 16,g v 17,g v 18,g v 19,g v 20,g v 21,g v 22,g v 23,g v 24,g v 25,g v 26,g v 27,g v 28,g v 29,g v 30,g v 31,g v 32,g v 33,g v 34,g v 35,g v 36,g v 37]])) (
 .ret (g l31 0) [])) (
 .stuck 901))
theorem T_zeitnotref15_places_eq (vs : List Value) : sxFun PP Tryz.f92 (mkOpts okL [(43, [5, 6, 7, 8])] [(3, .unroll 5), (8, .inv [7, 10] [1, 2, 3] [(3, [])])] []) vs = T_zeitnotref15_places vs := by kernel_rfl
theorem run_zeitnotref15_places {args vs} (ha : entryArgs PP Tryz.f92 args = some vs) (ho : Ones vs) {H O Q} (h : (T_zeitnotref15_places vs).den PP Q H O) : Triple PP F_zeitnotref15_places args H O Q :=
 triple_run mixed (mkOpts_ok okL_ok _ _ _) Tryz.func92 T_zeitnotref15_places_eq ha ho h
abbrev F_zeitnotref15_Count : FuncId := 93
/- zeitnot/zeitnotref15.Count -/
def T_zeitnotref15_Count (v : List Value) : Tree :=
 .loop 3 3 [(.int .i64 0),(.int .i64 0)] fun C3 l0 =>
 .pure [] .len [g v 0] fun v1 =>
 .pure [] (.bin .lss .int) [g l0 1,v1] fun v2 =>
 .br v2 (
 .pure [] (.idx 1) [g v 0,g l0 1] fun v3 =>
 .load [] v3 1 fun l4 =>
 .pure [] (.bin .eql .int) [g l4 0,g v 1] fun v5 =>
 .br v5 (
 .pure [] (.bin .add .int) [g l0 0,(.int .i64 1)] fun v6 =>
 .pure [] (.bin .add .int) [g l0 1,(.int .i64 1)] fun v7 =>
 .cont 3 C3 [v6,v7] [E [g v 0],E [g v 1]]) (
 .pure [] (.bin .add .int) [g l0 1,(.int .i64 1)] fun v8 =>
 .cont 3 C3 [g l0 0,v8] [E [g v 0],E [g v 1]])) (
 .ret (g l0 0) [])
theorem T_zeitnotref15_Count_eq (vs : List Value) : sxFun PP Tryz.f93 (mkOpts okL [(43, [5, 6, 7, 8])] [(3, .inv [5, 6] [0, 1] [])] []) vs = T_zeitnotref15_Count vs := by kernel_rfl
theorem run_zeitnotref15_Count {args vs} (ha : entryArgs PP Tryz.f93 args = some vs) (ho : Ones vs) {H O Q} (h : (T_zeitnotref15_Count vs).den PP Q H O) : Triple PP F_zeitnotref15_Count args H O Q :=
 triple_run mixed (mkOpts_ok okL_ok _ _ _) Tryz.func93 T_zeitnotref15_Count_eq ha ho h
abbrev F_zeitnotref15_SameItem : FuncId := 95
/- zeitnot/zeitnotref15.SameItem -/
def T_zeitnotref15_SameItem (v : List Value) : Tree :=
 .newbox fun r0 =>
 .newbox fun r1 =>
 .chk (.eqN r0 r0) <|
 .chk (.eqN r1 r1) <|
 .pure [] (.bin .neq .int) [g v 0,g v 5] fun v0 =>
 .chk (.eqN r0 r0) <|
 .chk (.eqV v0 v0) <|
 .chk (.eqN r1 r1) <|
 .chk (.eqV v0 v0) <|
 .chk (.eqV v0 v0) <|
 .chk (.eqV v0 v0) <|
 .pure [] (.bin .neq .int) [g v 1,g v 6] fun v1 =>
 .chk (.eqV v0 v0) <|
 .pure [] .pick [v0,(.bool true),v1] fun v2 =>
 .chk (.eqN r0 r0) <|
 .chk (.eqV v2 v2) <|
 .chk (.eqN r1 r1) <|
 .chk (.eqV v2 v2) <|
 .chk (.eqV v2 v2) <|
 .chk (.eqV v2 v2) <|
 .pure [] (.bin .neq .int) [g v 2,g v 7] fun v3 =>
 .chk (.eqV v2 v2) <|
 .pure [] .pick [v2,(.bool true),v3] fun v4 =>
 .chk (.eqN r0 r0) <|
 .chk (.eqV v4 v4) <|
 .chk (.eqN r1 r1) <|
 .chk (.eqV v4 v4) <|
 .chk (.eqV v4 v4) <|
 .chk (.eqV v4 v4) <|
 .pure [] (.bin .neq .int) [g v 3,g v 8] fun v5 =>
 .chk (.eqV v4 v4) <|
 .pure [] .pick [v4,(.bool true),v5] fun v6 =>
 .chk (.eqN r0 r0) <|
 .chk (.eqV v6 v6) <|
 .chk (.eqV v6 v6) <|
 .pure [] .len [g v 4] fun v7 =>
 .chk (.eqN r1 r1) <|
 .chk (.eqV v6 v6) <|
 .chk (.eqV v6 v6) <|
 .pure [] .len [g v 9] fun v8 =>
 .chk (.eqV v6 v6) <|
 .chk (.eqV v6 v6) <|
 .pure [] (.bin .neq .int) [v7,v8] fun v9 =>
 .chk (.eqV v6 v6) <|
 .pure [] .pick [v6,(.bool true),v9] fun v10 =>
 .br v10 (
 .ret (.bool false) []) (
 .loop 39 4 [(.int .i64 0)] fun C39 l11 =>
 .chk (.eqN r0 r0) <|
 .pure [] .len [g v 4] fun v12 =>
 .pure [] (.bin .lss .int) [g l11 0,v12] fun v13 =>
 .br v13 (
 .chk (.eqN r0 r0) <|
 .pure [] (.idx 2) [g v 4,g l11 0] fun v14 =>
 .load [] v14 2 fun l15 =>
 .chk (.eqN r1 r1) <|
 .pure [] (.idx 2) [g v 9,g l11 0] fun v16 =>
 .load [] v16 2 fun l17 =>
 .raw [] (.eqv .neq 105 false) [(.agg #[g l15 0,g l15 1]),(.agg #[g l17 0,g l17 1])] fun v18 =>
 .br v18 (
 .ret (.bool false) []) (
 .pure [] (.bin .add .int) [g l11 0,(.int .i64 1)] fun v19 =>
 .cont 39 C39 [v19] [E [(.pointer (some ⟨r0,0,none⟩))],E [(.pointer (some ⟨r1,0,none⟩))],E [(.pointer (some ⟨r0,0,none⟩)),g v 0,g v 1,g v 2,g v 3,g v 4],E [(.pointer (some ⟨r1,0,none⟩)),g v 5,g v 6,g v 7,g v 8,g v 9]])) (
 .ret (.bool true) []))
theorem T_zeitnotref15_SameItem_eq (vs : List Value) : sxFun PP Tryz.f95 (mkOpts okL [(43, [5, 6, 7, 8])] [(4, .inv [5] [2, 3] [(2, []), (3, [])])] []) vs = T_zeitnotref15_SameItem vs := by kernel_rfl
theorem run_zeitnotref15_SameItem {args vs} (ha : entryArgs PP Tryz.f95 args = some vs) (ho : Ones vs) {H O Q} (h : (T_zeitnotref15_SameItem vs).den PP Q H O) : Triple PP F_zeitnotref15_SameItem args H O Q :=
 triple_run mixed (mkOpts_ok okL_ok _ _ _) Tryz.func95 T_zeitnotref15_SameItem_eq ha ho h
abbrev F_slices_BinarySearchFunc_api_Object_api_Object_int : FuncId := 96
/- slices.BinarySearchFunc[[]zeitnot/api.Object,zeitnot/api.Object,int] -/
def T_slices_BinarySearchFunc_api_Object_api_Object_int (v : List Value) : Tree :=
 .pure [] .len [g v 0] fun v0 =>
 .loop 8 3 [(.int .i64 0),v0] fun C8 l1 =>
 .pure [] (.bin .lss .int) [g l1 0,g l1 1] fun v2 =>
 .br v2 (
 .pure [] (.bin .add .int) [g l1 0,g l1 1] fun v3 =>
 .pure [] (.conv .u64) [v3] fun v4 =>
 .pure [] (.bin .shr .int) [v4,(.int .u64 1)] fun v5 =>
 .pure [] (.conv .i64) [v5] fun v6 =>
 .pure [] (.idx 12) [g v 0,v6] fun v7 =>
 .load [] v7 12 fun l8 =>
 .callv false (g v 2) [(.agg #[g l8 0,g l8 1,g l8 2,g l8 3,g l8 4,g l8 5,g l8 6,g l8 7,g l8 8,g l8 9,g l8 10,g l8 11]),g v 1] [] [] .one fun l9 _ =>
 .pure [] (.bin .lss .int) [g l9 0,(.int .i64 0)] fun v10 =>
 .br v10 (
 .pure [] (.bin .add .int) [v6,(.int .i64 1)] fun v11 =>
 .cont 8 C8 [v11,g l1 1] [E [g v 0],E [g v 1],E [g v 2],E [v0]]) (
 .cont 8 C8 [g l1 0,v6] [E [g v 0],E [g v 1],E [g v 2],E [v0]])) (
 .pure [] (.bin .lss .int) [g l1 0,v0] fun v12 =>
 .br v12 (
 .pure [] (.idx 12) [g v 0,g l1 0] fun v13 =>
 .load [] v13 12 fun l14 =>
 .callv false (g v 2) [(.agg #[g l14 0,g l14 1,g l14 2,g l14 3,g l14 4,g l14 5,g l14 6,g l14 7,g l14 8,g l14 9,g l14 10,g l14 11]),g v 1] [] [] .one fun l15 _ =>
 .pure [] (.bin .eql .int) [g l15 0,(.int .i64 0)] fun v16 =>
 .ret (.tuple #[g l1 0,v16]) []) (
 .ret (.tuple #[g l1 0,(.bool false)]) []))
theorem T_slices_BinarySearchFunc_api_Object_api_Object_int_eq (vs : List Value) : sxFun PP Tryz.f96 (mkOpts okL [(43, [5, 6, 7, 8])] [(3, .inv [9, 10] [0, 1, 2, 8] [])] []) vs = T_slices_BinarySearchFunc_api_Object_api_Object_int vs := by kernel_rfl
theorem run_slices_BinarySearchFunc_api_Object_api_Object_int {args vs} (ha : entryArgs PP Tryz.f96 args = some vs) (ho : Ones vs) {H O Q} (h : (T_slices_BinarySearchFunc_api_Object_api_Object_int vs).den PP Q H O) : Triple PP F_slices_BinarySearchFunc_api_Object_api_Object_int args H O Q :=
 triple_run mixed (mkOpts_ok okL_ok _ _ _) Tryz.func96 T_slices_BinarySearchFunc_api_Object_api_Object_int_eq ha ho h
abbrev F_board_index_1 : FuncId := 97
/- zeitnot/board.index$1 -/
def T_board_index_1 (v : List Value) : Tree :=
 .newbox fun r0 =>
 .chk (.eqN r0 r0) <|
 .pure [] (.bin .sub .int) [g v 0,g v 12] fun v0 =>
 .ret v0 []
theorem T_board_index_1_eq (vs : List Value) : sxFun PP Tryz.f97 (mkOpts okL [(43, [5, 6, 7, 8])] [] []) vs = T_board_index_1 vs := by kernel_rfl
theorem run_board_index_1 {args vs} (ha : entryArgs PP Tryz.f97 args = some vs) (ho : Ones vs) {H O Q} (h : (T_board_index_1 vs).den PP Q H O) : Triple PP F_board_index_1 args H O Q :=
 triple_run mixed (mkOpts_ok okL_ok _ _ _) Tryz.func97 T_board_index_1_eq ha ho h
abbrev F_slices_Index_int_int : FuncId := 98
/- slices.Index[[]int,int] -/
def T_slices_Index_int_int (v : List Value) : Tree :=
 .pure [] .len [g v 0] fun v0 =>
 .loop 4 2 [(.int .i64 0)] fun C4 l1 =>
 .pure [] (.bin .lss .int) [g l1 0,v0] fun v2 =>
 .br v2 (
 .pure [] (.idx 1) [g v 0,g l1 0] fun v3 =>
 .load [] v3 1 fun l4 =>
 .pure [] (.bin .eql .int) [g v 1,g l4 0] fun v5 =>
 .br v5 (
 .ret (g l1 0) []) (
 .pure [] (.bin .add .int) [g l1 0,(.int .i64 1)] fun v6 =>
 .cont 4 C4 [v6] [E [g v 0],E [g v 1],E [v0]])) (
 .ret (.int .i64 (-1)) [])
theorem T_slices_Index_int_int_eq (vs : List Value) : sxFun PP Tryz.f98 (mkOpts okL [(43, [5, 6, 7, 8])] [(2, .inv [8] [0, 1, 7] [])] []) vs = T_slices_Index_int_int vs := by kernel_rfl
theorem run_slices_Index_int_int {args vs} (ha : entryArgs PP Tryz.f98 args = some vs) (ho : Ones vs) {H O Q} (h : (T_slices_Index_int_int vs).den PP Q H O) : Triple PP F_slices_Index_int_int args H O Q :=
 triple_run mixed (mkOpts_ok okL_ok _ _ _) Tryz.func98 T_slices_Index_int_int_eq ha ho h
abbrev F_board_out_1 : FuncId := 108
/- zeitnot/board.out$1 -/
def T_board_out_1 (v : List Value) : Tree :=
 .load [] (g v 1) 1 fun l0 =>
 .pure [] (.bin .eql .int) [g v 0,g l0 0] fun v1 =>
 .ret v1 []
theorem T_board_out_1_eq (vs : List Value) : sxFun PP Tryz.f108 (mkOpts okL [(43, [5, 6, 7, 8])] [] []) vs = T_board_out_1 vs := by kernel_rfl
theorem run_board_out_1 {args vs} (ha : entryArgs PP Tryz.f108 args = some vs) (ho : Ones vs) {H O Q} (h : (T_board_out_1 vs).den PP Q H O) : Triple PP F_board_out_1 args H O Q :=
 triple_run mixed (mkOpts_ok okL_ok _ _ _) Tryz.func108 T_board_out_1_eq ha ho h
abbrev F_slices_DeleteFunc_int_int : FuncId := 109
/- slices.DeleteFunc[[]int,int] -/
def T_slices_DeleteFunc_int_int (v : List Value) : Tree :=
 .call false 127 [g v 0,g v 1] [] [] .one fun l0 _ =>
 .pure [] (.bin .eql .int) [g l0 0,(.int .i64 (-1))] fun v1 =>
 .br v1 (
 .ret (g v 0) []) (
 .pure [] (.bin .add .int) [g l0 0,(.int .i64 1)] fun v2 =>
 .loop 10 5 [g l0 0,v2] fun C10 l3 =>
 .pure [] .len [g v 0] fun v4 =>
 .pure [] (.bin .lss .int) [g l3 1,v4] fun v5 =>
 .br v5 (
 .pure [] (.idx 1) [g v 0,g l3 1] fun v6 =>
 .load [] v6 1 fun l7 =>
 .callv false (g v 1) [g l7 0] [] [] .one fun l8 _ =>
 .pure [] .not [g l8 0] fun v9 =>
 .br v9 (
 .pure [] (.idx 1) [g v 0,g l3 0] fun v10 =>
 .chk (.ptr [] v10) <|
 .store v10 [g l7 0] <|
 .pure [] (.bin .add .int) [g l3 0,(.int .i64 1)] fun v11 =>
 .pure [] (.bin .add .int) [g l3 1,(.int .i64 1)] fun v12 =>
 .cont 10 C10 [v11,v12] [E [g v 0],E [g v 1]]) (
 .pure [] (.bin .add .int) [g l3 1,(.int .i64 1)] fun v13 =>
 .cont 10 C10 [g l3 0,v13] [E [g v 0],E [g v 1]])) (
 .pure [] (.slc 1 true false false) [g v 0,g l3 0] fun v14 =>
 .prim (.bi .clear #[25] 0) [v14] [] [] (.tup []) fun l15 _ =>
 .pure [] (.slc 1 false true false) [g v 0,g l3 0] fun v16 =>
 .ret v16 []))
theorem T_slices_DeleteFunc_int_int_eq (vs : List Value) : sxFun PP Tryz.f109 (mkOpts okL [(43, [5, 6, 7, 8])] [(5, .inv [5, 6] [0, 1] [])] []) vs = T_slices_DeleteFunc_int_int vs := by kernel_rfl
theorem run_slices_DeleteFunc_int_int {args vs} (ha : entryArgs PP Tryz.f109 args = some vs) (ho : Ones vs) {H O Q} (h : (T_slices_DeleteFunc_int_int vs).den PP Q H O) : Triple PP F_slices_DeleteFunc_int_int args H O Q :=
 triple_run mixed (mkOpts_ok okL_ok _ _ _) Tryz.func109 T_slices_DeleteFunc_int_int_eq ha ho h
abbrev F_slices_DeleteFunc_api_Item_api_Item : FuncId := 110
/- slices.DeleteFunc[[]zeitnot/api.Item,zeitnot/api.Item] -/
def T_slices_DeleteFunc_api_Item_api_Item (v : List Value) : Tree :=
 .call false 87 [g v 0,g v 1] [] [] .one fun l0 _ =>
 .pure [] (.bin .eql .int) [g l0 0,(.int .i64 (-1))] fun v1 =>
 .br v1 (
 .ret (g v 0) []) (
 .pure [] (.bin .add .int) [g l0 0,(.int .i64 1)] fun v2 =>
 .loop 10 5 [g l0 0,v2] fun C10 l3 =>
 .pure [] .len [g v 0] fun v4 =>
 .pure [] (.bin .lss .int) [g l3 1,v4] fun v5 =>
 .br v5 (
 .pure [] (.idx 5) [g v 0,g l3 1] fun v6 =>
 .load [] v6 5 fun l7 =>
 .newbox fun r0 =>
 .chk (.eqN r0 r0) <|
 .chk (.eqN r0 r0) <|
 .callv false (g v 1) [(.agg #[g l7 0,g l7 1,g l7 2,g l7 3,g l7 4])] [] [] .one fun l8 _ =>
 .pure [] .not [g l8 0] fun v9 =>
 .br v9 (
 .chk (.eqN r0 r0) <|
 .pure [] (.idx 5) [g v 0,g l3 0] fun v10 =>
 .chk (.ptr [] v10) <|
 .store v10 [g l7 0,g l7 1,g l7 2,g l7 3,g l7 4] <|
 .pure [] (.bin .add .int) [g l3 0,(.int .i64 1)] fun v11 =>
 .pure [] (.bin .add .int) [g l3 1,(.int .i64 1)] fun v12 =>
 .cont 10 C10 [v11,v12] [E [g v 0],E [g v 1]]) (
 .pure [] (.bin .add .int) [g l3 1,(.int .i64 1)] fun v13 =>
 .cont 10 C10 [g l3 0,v13] [E [g v 0],E [g v 1]])) (
 .pure [] (.slc 5 true false false) [g v 0,g l3 0] fun v14 =>
 .prim (.bi .clear #[29] 0) [v14] [] [] (.tup []) fun l15 _ =>
 .pure [] (.slc 5 false true false) [g v 0,g l3 0] fun v16 =>
 .ret v16 []))
theorem T_slices_DeleteFunc_api_Item_api_Item_eq (vs : List Value) : sxFun PP Tryz.f110 (mkOpts okL [(43, [5, 6, 7, 8])] [(5, .inv [5, 6] [0, 1] [])] []) vs = T_slices_DeleteFunc_api_Item_api_Item vs := by kernel_rfl
theorem run_slices_DeleteFunc_api_Item_api_Item {args vs} (ha : entryArgs PP Tryz.f110 args = some vs) (ho : Ones vs) {H O Q} (h : (T_slices_DeleteFunc_api_Item_api_Item vs).den PP Q H O) : Triple PP F_slices_DeleteFunc_api_Item_api_Item args H O Q :=
 triple_run mixed (mkOpts_ok okL_ok _ _ _) Tryz.func110 T_slices_DeleteFunc_api_Item_api_Item_eq ha ho h
abbrev F_board_out_2 : FuncId := 111
/- zeitnot/board.out$2 -/
def T_board_out_2 (v : List Value) : Tree :=
 .newbox fun r0 =>
 .chk (.eqN r0 r0) <|
 .pure [] (.bin .lss .int) [g v 3,(.int .i64 0)] fun v0 =>
 .chk (.eqN r0 r0) <|
 .chk (.eqV v0 v0) <|
 .load [(v0,true)] (g v 5) 1 fun l1 =>
 .chk (.eqV v0 v0) <|
 .chk (.eqV v0 v0) <|
 .pure [] (.bin .eql .int) [g v 1,g l1 0] fun v2 =>
 .chk (.eqV v0 v0) <|
 .pure [] .pick [v0,v2,(.bool false)] fun v3 =>
 .ret v3 []
theorem T_board_out_2_eq (vs : List Value) : sxFun PP Tryz.f111 (mkOpts okL [(43, [5, 6, 7, 8])] [] []) vs = T_board_out_2 vs := by kernel_rfl
theorem run_board_out_2 {args vs} (ha : entryArgs PP Tryz.f111 args = some vs) (ho : Ones vs) {H O Q} (h : (T_board_out_2 vs).den PP Q H O) : Triple PP F_board_out_2 args H O Q :=
 triple_run mixed (mkOpts_ok okL_ok _ _ _) Tryz.func111 T_board_out_2_eq ha ho h
abbrev F_slices_DeleteFunc_api_Block_api_Block : FuncId := 112
/- slices.DeleteFunc[[]zeitnot/api.Block,zeitnot/api.Block] -/
def T_slices_DeleteFunc_api_Block_api_Block (v : List Value) : Tree :=
 .call false 128 [g v 0,g v 1] [] [] .one fun l0 _ =>
 .pure [] (.bin .eql .int) [g l0 0,(.int .i64 (-1))] fun v1 =>
 .br v1 (
 .ret (g v 0) []) (
 .pure [] (.bin .add .int) [g l0 0,(.int .i64 1)] fun v2 =>
 .loop 10 5 [g l0 0,v2] fun C10 l3 =>
 .pure [] .len [g v 0] fun v4 =>
 .pure [] (.bin .lss .int) [g l3 1,v4] fun v5 =>
 .br v5 (
 .pure [] (.idx 2) [g v 0,g l3 1] fun v6 =>
 .load [] v6 2 fun l7 =>
 .newbox fun r0 =>
 .chk (.eqN r0 r0) <|
 .chk (.eqN r0 r0) <|
 .callv false (g v 1) [(.agg #[g l7 0,g l7 1])] [] [] .one fun l8 _ =>
 .pure [] .not [g l8 0] fun v9 =>
 .br v9 (
 .chk (.eqN r0 r0) <|
 .pure [] (.idx 2) [g v 0,g l3 0] fun v10 =>
 .chk (.ptr [] v10) <|
 .store v10 [g l7 0,g l7 1] <|
 .pure [] (.bin .add .int) [g l3 0,(.int .i64 1)] fun v11 =>
 .pure [] (.bin .add .int) [g l3 1,(.int .i64 1)] fun v12 =>
 .cont 10 C10 [v11,v12] [E [g v 0],E [g v 1]]) (
 .pure [] (.bin .add .int) [g l3 1,(.int .i64 1)] fun v13 =>
 .cont 10 C10 [g l3 0,v13] [E [g v 0],E [g v 1]])) (
 .pure [] (.slc 2 true false false) [g v 0,g l3 0] fun v14 =>
 .prim (.bi .clear #[30] 0) [v14] [] [] (.tup []) fun l15 _ =>
 .pure [] (.slc 2 false true false) [g v 0,g l3 0] fun v16 =>
 .ret v16 []))
theorem T_slices_DeleteFunc_api_Block_api_Block_eq (vs : List Value) : sxFun PP Tryz.f112 (mkOpts okL [(43, [5, 6, 7, 8])] [(5, .inv [5, 6] [0, 1] [])] []) vs = T_slices_DeleteFunc_api_Block_api_Block vs := by kernel_rfl
theorem run_slices_DeleteFunc_api_Block_api_Block {args vs} (ha : entryArgs PP Tryz.f112 args = some vs) (ho : Ones vs) {H O Q} (h : (T_slices_DeleteFunc_api_Block_api_Block vs).den PP Q H O) : Triple PP F_slices_DeleteFunc_api_Block_api_Block args H O Q :=
 triple_run mixed (mkOpts_ok okL_ok _ _ _) Tryz.func112 T_slices_DeleteFunc_api_Block_api_Block_eq ha ho h
abbrev F_board_out_3 : FuncId := 113
/- zeitnot/board.out$3 -/
def T_board_out_3 (v : List Value) : Tree :=
 .newbox fun r0 =>
 .chk (.eqN r0 r0) <|
 .load [] (g v 2) 1 fun l0 =>
 .pure [] (.bin .eql .int) [g v 0,g l0 0] fun v1 =>
 .chk (.eqN r0 r0) <|
 .chk (.eqV v1 v1) <|
 .load [(v1,false)] (g v 2) 1 fun l2 =>
 .chk (.eqV v1 v1) <|
 .chk (.eqV v1 v1) <|
 .pure [] (.bin .eql .int) [g v 1,g l2 0] fun v3 =>
 .chk (.eqV v1 v1) <|
 .pure [] .pick [v1,(.bool true),v3] fun v4 =>
 .ret v4 []
theorem T_board_out_3_eq (vs : List Value) : sxFun PP Tryz.f113 (mkOpts okL [(43, [5, 6, 7, 8])] [] []) vs = T_board_out_3 vs := by kernel_rfl
theorem run_board_out_3 {args vs} (ha : entryArgs PP Tryz.f113 args = some vs) (ho : Ones vs) {H O Q} (h : (T_board_out_3 vs).den PP Q H O) : Triple PP F_board_out_3 args H O Q :=
 triple_run mixed (mkOpts_ok okL_ok _ _ _) Tryz.func113 T_board_out_3_eq ha ho h
abbrev F_object_Rest : FuncId := 114
/- zeitnot/object.Rest -/
def T_object_Rest (v : List Value) : Tree :=
 .newbox fun r0 =>
 .newbox fun r1 =>
 .chk (.eqN r0 r0) <|
 .chk (.eqN r0 r0) <|
 .chk (.eqN r0 r0) <|
 .chk (.eqN r0 r0) <|
 .chk (.eqN r1 r1) <|
 .chk (.eqN r1 r1) <|
 .ret (.agg #[g v 0,g v 1,g v 2,g v 3,g v 4,(.int .i64 0),g v 6,(.int .i64 0),(.int .i64 0),g v 9,g v 10,g v 11]) []
theorem T_object_Rest_eq (vs : List Value) : sxFun PP Tryz.f114 (mkOpts okL [(43, [5, 6, 7, 8])] [] []) vs = T_object_Rest vs := by kernel_rfl
theorem run_object_Rest {args vs} (ha : entryArgs PP Tryz.f114 args = some vs) (ho : Ones vs) {H O Q} (h : (T_object_Rest vs).den PP Q H O) : Triple PP F_object_Rest args H O Q :=
 triple_run mixed (mkOpts_ok okL_ok _ _ _) Tryz.func114 T_object_Rest_eq ha ho h
abbrev F_zeitnotref14_Rest : FuncId := 115
/- zeitnot/zeitnotref14.Rest -/
def T_zeitnotref14_Rest (v : List Value) : Tree :=
 .newbox fun r0 =>
 .newbox fun r1 =>
 .chk (.eqN r0 r0) <|
 .chk (.eqN r0 r0) <|
 .chk (.eqN r0 r0) <|
 .chk (.eqN r0 r0) <|
 .chk (.eqN r1 r1) <|
 .chk (.eqN r1 r1) <|
 .ret (.agg #[g v 0,g v 1,g v 2,g v 3,g v 4,(.int .i64 0),g v 6,(.int .i64 0),(.int .i64 0),g v 9,g v 10,g v 11]) []
theorem T_zeitnotref14_Rest_eq (vs : List Value) : sxFun PP Tryz.f115 (mkOpts okL [(43, [5, 6, 7, 8])] [] []) vs = T_zeitnotref14_Rest vs := by kernel_rfl
theorem run_zeitnotref14_Rest {args vs} (ha : entryArgs PP Tryz.f115 args = some vs) (ho : Ones vs) {H O Q} (h : (T_zeitnotref14_Rest vs).den PP Q H O) : Triple PP F_zeitnotref14_Rest args H O Q :=
 triple_run mixed (mkOpts_ok okL_ok _ _ _) Tryz.func115 T_zeitnotref14_Rest_eq ha ho h
abbrev F_zeitnotref15_Without : FuncId := 116
/- zeitnot/zeitnotref15.Without -/
def T_zeitnotref15_Without (v : List Value) : Tree :=
 .loop 3 3 [(.slice none 0 0),(.int .i64 0)] fun C3 l0 =>
 .pure [] .len [g v 0] fun v1 =>
 .pure [] (.bin .lss .int) [g l0 1,v1] fun v2 =>
 .br v2 (
 .pure [] (.idx 1) [g v 0,g l0 1] fun v3 =>
 .load [] v3 1 fun l4 =>
 .pure [] (.bin .neq .int) [g l4 0,g v 1] fun v5 =>
 .br v5 (
 .pure [] (.idx 1) [g v 0,g l0 1] fun v6 =>
 .load [] v6 1 fun l7 =>
 .newbox fun r0 =>
 .prim (.bi .append #[25,25] 25) [g l0 0,(.slice (some ⟨r0,0,none⟩) 1 1)] [⟨r0,3,[g l7 0]⟩] [] .one fun l8 _ =>
 .pure [] (.bin .add .int) [g l0 1,(.int .i64 1)] fun v9 =>
 .cont 3 C3 [g l8 0,v9] [E [g v 0],E [g v 1]]) (
 .pure [] (.bin .add .int) [g l0 1,(.int .i64 1)] fun v10 =>
 .cont 3 C3 [g l0 0,v10] [E [g v 0],E [g v 1]])) (
 .ret (g l0 0) [])
theorem T_zeitnotref15_Without_eq (vs : List Value) : sxFun PP Tryz.f116 (mkOpts okL [(43, [5, 6, 7, 8])] [(3, .inv [5, 6] [0, 1] [])] []) vs = T_zeitnotref15_Without vs := by kernel_rfl
theorem run_zeitnotref15_Without {args vs} (ha : entryArgs PP Tryz.f116 args = some vs) (ho : Ones vs) {H O Q} (h : (T_zeitnotref15_Without vs).den PP Q H O) : Triple PP F_zeitnotref15_Without args H O Q :=
 triple_run mixed (mkOpts_ok okL_ok _ _ _) Tryz.func116 T_zeitnotref15_Without_eq ha ho h
abbrev F_slices_IndexFunc_api_Target_api_Target : FuncId := 123
/- slices.IndexFunc[[]zeitnot/api.Target,zeitnot/api.Target] -/
def T_slices_IndexFunc_api_Target_api_Target (v : List Value) : Tree :=
 .pure [] .len [g v 0] fun v0 =>
 .loop 4 2 [(.int .i64 0)] fun C4 l1 =>
 .pure [] (.bin .lss .int) [g l1 0,v0] fun v2 =>
 .br v2 (
 .pure [] (.idx 2) [g v 0,g l1 0] fun v3 =>
 .load [] v3 2 fun l4 =>
 .callv false (g v 1) [(.agg #[g l4 0,g l4 1])] [] [] .one fun l5 _ =>
 .br (g l5 0) (
 .ret (g l1 0) []) (
 .pure [] (.bin .add .int) [g l1 0,(.int .i64 1)] fun v6 =>
 .cont 4 C4 [v6] [E [g v 0],E [g v 1],E [v0]])) (
 .ret (.int .i64 (-1)) [])
theorem T_slices_IndexFunc_api_Target_api_Target_eq (vs : List Value) : sxFun PP Tryz.f123 (mkOpts okL [(43, [5, 6, 7, 8])] [(2, .inv [8] [0, 1, 7] [])] []) vs = T_slices_IndexFunc_api_Target_api_Target vs := by kernel_rfl
theorem run_slices_IndexFunc_api_Target_api_Target {args vs} (ha : entryArgs PP Tryz.f123 args = some vs) (ho : Ones vs) {H O Q} (h : (T_slices_IndexFunc_api_Target_api_Target vs).den PP Q H O) : Triple PP F_slices_IndexFunc_api_Target_api_Target args H O Q :=
 triple_run mixed (mkOpts_ok okL_ok _ _ _) Tryz.func123 T_slices_IndexFunc_api_Target_api_Target_eq ha ho h
abbrev F_slices_IndexFunc_int_int : FuncId := 127
/- slices.IndexFunc[[]int,int] -/
def T_slices_IndexFunc_int_int (v : List Value) : Tree :=
 .pure [] .len [g v 0] fun v0 =>
 .loop 4 2 [(.int .i64 0)] fun C4 l1 =>
 .pure [] (.bin .lss .int) [g l1 0,v0] fun v2 =>
 .br v2 (
 .pure [] (.idx 1) [g v 0,g l1 0] fun v3 =>
 .load [] v3 1 fun l4 =>
 .callv false (g v 1) [g l4 0] [] [] .one fun l5 _ =>
 .br (g l5 0) (
 .ret (g l1 0) []) (
 .pure [] (.bin .add .int) [g l1 0,(.int .i64 1)] fun v6 =>
 .cont 4 C4 [v6] [E [g v 0],E [g v 1],E [v0]])) (
 .ret (.int .i64 (-1)) [])
theorem T_slices_IndexFunc_int_int_eq (vs : List Value) : sxFun PP Tryz.f127 (mkOpts okL [(43, [5, 6, 7, 8])] [(2, .inv [8] [0, 1, 7] [])] []) vs = T_slices_IndexFunc_int_int vs := by kernel_rfl
theorem run_slices_IndexFunc_int_int {args vs} (ha : entryArgs PP Tryz.f127 args = some vs) (ho : Ones vs) {H O Q} (h : (T_slices_IndexFunc_int_int vs).den PP Q H O) : Triple PP F_slices_IndexFunc_int_int args H O Q :=
 triple_run mixed (mkOpts_ok okL_ok _ _ _) Tryz.func127 T_slices_IndexFunc_int_int_eq ha ho h
abbrev F_slices_IndexFunc_api_Block_api_Block : FuncId := 128
/- slices.IndexFunc[[]zeitnot/api.Block,zeitnot/api.Block] -/
def T_slices_IndexFunc_api_Block_api_Block (v : List Value) : Tree :=
 .pure [] .len [g v 0] fun v0 =>
 .loop 4 2 [(.int .i64 0)] fun C4 l1 =>
 .pure [] (.bin .lss .int) [g l1 0,v0] fun v2 =>
 .br v2 (
 .pure [] (.idx 2) [g v 0,g l1 0] fun v3 =>
 .load [] v3 2 fun l4 =>
 .callv false (g v 1) [(.agg #[g l4 0,g l4 1])] [] [] .one fun l5 _ =>
 .br (g l5 0) (
 .ret (g l1 0) []) (
 .pure [] (.bin .add .int) [g l1 0,(.int .i64 1)] fun v6 =>
 .cont 4 C4 [v6] [E [g v 0],E [g v 1],E [v0]])) (
 .ret (.int .i64 (-1)) [])
theorem T_slices_IndexFunc_api_Block_api_Block_eq (vs : List Value) : sxFun PP Tryz.f128 (mkOpts okL [(43, [5, 6, 7, 8])] [(2, .inv [8] [0, 1, 7] [])] []) vs = T_slices_IndexFunc_api_Block_api_Block vs := by kernel_rfl
theorem run_slices_IndexFunc_api_Block_api_Block {args vs} (ha : entryArgs PP Tryz.f128 args = some vs) (ho : Ones vs) {H O Q} (h : (T_slices_IndexFunc_api_Block_api_Block vs).den PP Q H O) : Triple PP F_slices_IndexFunc_api_Block_api_Block args H O Q :=
 triple_run mixed (mkOpts_ok okL_ok _ _ _) Tryz.func128 T_slices_IndexFunc_api_Block_api_Block_eq ha ho h
end Go.Proofs.YtjaegdkkiefchaaGreatDoor
