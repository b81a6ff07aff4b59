/- The trees of the functions of this seat: printed by a tool of mine; each by the kernel's reckoning equal to the evaluator's. -/
import Derived.Test.YtjaegdkkiefchaaGreatDoorBT2
namespace Go.Proofs.YtjaegdkkiefchaaGreatDoor
open Go Go.Sx
set_option maxRecDepth 100000
abbrev F_zeitnotref15_fights : FuncId := 55
/- zeitnot/zeitnotref15.fights -/
def T_zeitnotref15_fights (v : List Value) : Tree :=
 .newbox fun r0 =>
 .loop 3 2 [(.int .i64 0)] fun C3 l0 =>
 .chk (.eqN r0 r0) <|
 .pure [] .len [g v 31] fun v1 =>
 .pure [] (.bin .lss .int) [g l0 0,v1] fun v2 =>
 .br v2 (
 .chk (.eqN r0 r0) <|
 .chk (.eqN r0 r0) <|
 .pure [] (.idx 1) [g v 31,g l0 0] fun v3 =>
 .load [] v3 1 fun l4 =>
 .call false 93 [g v 31,g l4 0] [] [] .one fun l5 _ =>
 .pure [] (.bin .neq .int) [g l5 0,(.int .i64 1)] fun v6 =>
 .br v6 (
 .ret (.bool false) []) (
 .chk (.eqN r0 r0) <|
 .sw (g v 34) 0 (
 .chk (.eqN r0 r0) <|
 .chk (.eqN r0 r0) <|
 .pure [] (.idx 1) [g v 31,g l0 0] fun v7 =>
 .load [] v7 1 fun l8 =>
 .call false 93 [g v 8,g l8 0] [] [] .one fun l9 _ =>
 .pure [] (.bin .neq .int) [g l9 0,(.int .i64 1)] fun v10 =>
 .br v10 (
 .ret (.bool false) []) (
 .pure [] (.bin .add .int) [g l0 0,(.int .i64 1)] fun v11 =>
 .cont 3 C3 [v11] [E [(.pointer (some ⟨r0,0,none⟩))],E [(.pointer (some ⟨r0,0,none⟩)),g v 0,g v 1,g v 2,g v 3,g v 4,g v 5,g v 6,g v 7,g v 8,g v 9,g v 10,g v 11,g v 12,g v 13,g v 14,g v 15,g v 16,g v 17,g v 18,g v 19,g v 20,g v 21,g v 22,g v 23,g v 24,g v 25,g v 26,g v 27,g v 28,g v 29,g v 30,g v 31,g v 32,g v 33,g v 34,g v 35,g v 36,g v 37]])) (
 .sw (g v 34) 1 (
 .chk (.eqN r0 r0) <|
 .chk (.eqN r0 r0) <|
 .pure [] (.idx 1) [g v 31,g l0 0] fun v12 =>
 .load [] v12 1 fun l13 =>
 .call false 93 [g v 22,g l13 0] [] [] .one fun l14 _ =>
 .pure [] (.bin .neq .int) [g l14 0,(.int .i64 1)] fun v15 =>
 .br v15 (
 .ret (.bool false) []) (
 .pure [] (.bin .add .int) [g l0 0,(.int .i64 1)] fun v16 =>
 .cont 3 C3 [v16] [E [(.pointer (some ⟨r0,0,none⟩))],E [(.pointer (some ⟨r0,0,none⟩)),g v 0,g v 1,g v 2,g v 3,g v 4,g v 5,g v 6,g v 7,g v 8,g v 9,g v 10,g v 11,g v 12,g v 13,g v 14,g v 15,g v 16,g v 17,g v 18,g v 19,g v 20,g v 21,g v 22,g v 23,g v 24,g v 25,g v 26,g v 27,g v 28,g v 29,g v 30,g v 31,g v 32,g v 33,g v 34,g v 35,g v 36,g v 37]])) (
 .stuck 901)))) (
 .loop 10 7 [(.int .i64 0)] fun C10 l17 =>
 .chk (.eqN r0 r0) <|
 .pure [] .len [g v 32] fun v18 =>
 .pure [] (.bin .lss .int) [g l17 0,v18] fun v19 =>
 .br v19 (
 .chk (.eqN r0 r0) <|
 .pure [] (.idx 2) [g v 32,g l17 0] fun v20 =>
 .load [] v20 2 fun l21 =>
 .newbox fun r1 =>
 .chk (.eqN r1 r1) <|
 .chk (.eqN r0 r0) <|
 .chk (.eqN r1 r1) <|
 .call false 93 [g v 31,g l21 1] [] [] .one fun l22 _ =>
 .pure [] (.bin .neq .int) [g l22 0,(.int .i64 1)] fun v23 =>
 .br v23 (
 .ret (.bool false) []) (
 .chk (.eqN r0 r0) <|
 .pure [] (.bin .sub .int) [(.int .i64 1),g v 34] fun v24 =>
 .sw v24 0 (
 .chk (.eqN r0 r0) <|
 .chk (.eqN r1 r1) <|
 .call false 93 [g v 8,g l21 0] [] [] .one fun l25 _ =>
 .pure [] (.bin .neq .int) [g l25 0,(.int .i64 1)] fun v26 =>
 .br v26 (
 .ret (.bool false) []) (
 .loop 43 13 [(.int .i64 0)] fun C43 l27 =>
 .pure [] (.bin .lss .int) [g l27 0,g l17 0] fun v28 =>
 .br v28 (
 .chk (.eqN r0 r0) <|
 .pure [] (.idx 2) [g v 32,g l27 0] fun v29 =>
 .chk (.ptr [] v29) <|
 .load [] (ptrAdd v29 1) 1 fun l30 =>
 .chk (.eqN r1 r1) <|
 .pure [] (.bin .eql .int) [g l30 0,g l21 1] fun v31 =>
 .chk (.eqN r0 r0) <|
 .chk (.eqV v31 v31) <|
 .chk (.eqV v31 v31) <|
 .chk (.eqV v31 v31) <|
 .pure [(v31,false)] (.idx 2) [g v 32,g l27 0] fun v32 =>
 .chk (.ptr [(v31,false)] v32) <|
 .chk (.eqV v31 v31) <|
 .chk (.eqV v31 v31) <|
 .load [(v31,false)] v32 1 fun l33 =>
 .chk (.eqN r1 r1) <|
 .chk (.eqV v31 v31) <|
 .chk (.eqV v31 v31) <|
 .chk (.eqV v31 v31) <|
 .pure [] (.bin .eql .int) [g l33 0,g l21 0] fun v34 =>
 .chk (.eqV v31 v31) <|
 .pure [] .pick [v31,(.bool true),v34] fun v35 =>
 .br v35 (
 .ret (.bool false) []) (
 .pure [] (.bin .add .int) [g l27 0,(.int .i64 1)] fun v36 =>
 .cont 43 C43 [v36] [E [(.pointer (some ⟨r0,0,none⟩))],E [g l17 0],E [(.pointer (some ⟨r1,0,none⟩))],E [(.pointer (some ⟨r0,0,none⟩)),g v 0,g v 1,g v 2,g v 3,g v 4,g v 5,g v 6,g v 7,g v 8,g v 9,g v 10,g v 11,g v 12,g v 13,g v 14,g v 15,g v 16,g v 17,g v 18,g v 19,g v 20,g v 21,g v 22,g v 23,g v 24,g v 25,g v 26,g v 27,g v 28,g v 29,g v 30,g v 31,g v 32,g v 33,g v 34,g v 35,g v 36,g v 37],E [(.pointer (some ⟨r1,0,none⟩)),g l21 0,g l21 1]])) (
 .pure [] (.bin .add .int) [g l17 0,(.int .i64 1)] fun v37 =>
 .cont 10 C10 [v37] [E [(.pointer (some ⟨r0,0,none⟩))],E [(.pointer (some ⟨r0,0,none⟩)),g v 0,g v 1,g v 2,g v 3,g v 4,g v 5,g v 6,g v 7,g v 8,g v 9,g v 10,g v 11,g v 12,g v 13,g v 14,g v 15,g v 16,g v 17,g v 18,g v 19,g v 20,g v 21,g v 22,g v 23,g v 24,g v 25,g v 26,g v 27,g v 28,g v 29,g v 30,g v 31,g v 32,g v 33,g v 34,g v 35,g v 36,g v 37]]))) (
 .sw v24 1 (
 .chk (.eqN r0 r0) <|
 .chk (.eqN r1 r1) <|
 .call false 93 [g v 22,g l21 0] [] [] .one fun l38 _ =>
 .pure [] (.bin .neq .int) [g l38 0,(.int .i64 1)] fun v39 =>
 .br v39 (
 .ret (.bool false) []) (
 .loop 43 13 [(.int .i64 0)] fun C43 l40 =>
 .pure [] (.bin .lss .int) [g l40 0,g l17 0] fun v41 =>
 .br v41 (
 .chk (.eqN r0 r0) <|
 .pure [] (.idx 2) [g v 32,g l40 0] fun v42 =>
 .chk (.ptr [] v42) <|
 .load [] (ptrAdd v42 1) 1 fun l43 =>
 .chk (.eqN r1 r1) <|
 .pure [] (.bin .eql .int) [g l43 0,g l21 1] fun v44 =>
 .chk (.eqN r0 r0) <|
 .chk (.eqV v44 v44) <|
 .chk (.eqV v44 v44) <|
 .chk (.eqV v44 v44) <|
 .pure [(v44,false)] (.idx 2) [g v 32,g l40 0] fun v45 =>
 .chk (.ptr [(v44,false)] v45) <|
 .chk (.eqV v44 v44) <|
 .chk (.eqV v44 v44) <|
 .load [(v44,false)] v45 1 fun l46 =>
 .chk (.eqN r1 r1) <|
 .chk (.eqV v44 v44) <|
 .chk (.eqV v44 v44) <|
 .chk (.eqV v44 v44) <|
 .pure [] (.bin .eql .int) [g l46 0,g l21 0] fun v47 =>
 .chk (.eqV v44 v44) <|
 .pure [] .pick [v44,(.bool true),v47] fun v48 =>
 .br v48 (
 .ret (.bool false) []) (
 .pure [] (.bin .add .int) [g l40 0,(.int .i64 1)] fun v49 =>
 .cont 43 C43 [v49] [E [(.pointer (some ⟨r0,0,none⟩))],E [g l17 0],E [(.pointer (some ⟨r1,0,none⟩))],E [(.pointer (some ⟨r0,0,none⟩)),g v 0,g v 1,g v 2,g v 3,g v 4,g v 5,g v 6,g v 7,g v 8,g v 9,g v 10,g v 11,g v 12,g v 13,g v 14,g v 15,g v 16,g v 17,g v 18,g v 19,g v 20,g v 21,g v 22,g v 23,g v 24,g v 25,g v 26,g v 27,g v 28,g v 29,g v 30,g v 31,g v 32,g v 33,g v 34,g v 35,g v 36,g v 37],E [(.pointer (some ⟨r1,0,none⟩)),g l21 0,g l21 1]])) (
 .pure [] (.bin .add .int) [g l17 0,(.int .i64 1)] fun v50 =>
 .cont 10 C10 [v50] [E [(.pointer (some ⟨r0,0,none⟩))],E [(.pointer (some ⟨r0,0,none⟩)),g v 0,g v 1,g v 2,g v 3,g v 4,g v 5,g v 6,g v 7,g v 8,g v 9,g v 10,g v 11,g v 12,g v 13,g v 14,g v 15,g v 16,g v 17,g v 18,g v 19,g v 20,g v 21,g v 22,g v 23,g v 24,g v 25,g v 26,g v 27,g v 28,g v 29,g v 30,g v 31,g v 32,g v 33,g v 34,g v 35,g v 36,g v 37]]))) (
 .stuck 901)))) (
 .ret (.bool true) []))
theorem T_zeitnotref15_fights_eq (vs : List Value) : sxFun PP Tryz.f55 (mkOpts okL [(43, [5, 6, 7, 8])] [(2, .inv [3] [1] [(1, [])]), (7, .inv [4] [1] [(1, [])]), (13, .inv [6] [1, 4, 5] [(1, []), (5, [])])] []) vs = T_zeitnotref15_fights vs := by kernel_rfl
theorem run_zeitnotref15_fights {args vs} (ha : entryArgs PP Tryz.f55 args = some vs) (ho : Ones vs) {H O Q} (h : (T_zeitnotref15_fights vs).den PP Q H O) : Triple PP F_zeitnotref15_fights args H O Q :=
 triple_run mixed (mkOpts_ok okL_ok _ _ _) Tryz.func55 T_zeitnotref15_fights_eq ha ho h
abbrev F_zeitnotref15_items : FuncId := 61
/- zeitnot/zeitnotref15.items -/
def T_zeitnotref15_items (v : List Value) : Tree :=
 .pure [] .len [g v 0] fun v0 =>
 .pure [] .len [g v 1] fun v1 =>
 .pure [] (.bin .neq .int) [v0,v1] fun v2 =>
 .br v2 (
 .ret (.bool false) []) (
 .loop 7 4 [(.int .i64 0)] fun C7 l3 =>
 .pure [] .len [g v 0] fun v4 =>
 .pure [] (.bin .lss .int) [g l3 0,v4] fun v5 =>
 .br v5 (
 .pure [] (.idx 5) [g v 0,g l3 0] fun v6 =>
 .load [] v6 5 fun l7 =>
 .pure [] (.idx 5) [g v 1,g l3 0] fun v8 =>
 .load [] v8 5 fun l9 =>
 .call false 95 [(.agg #[g l7 0,g l7 1,g l7 2,g l7 3,g l7 4]),(.agg #[g l9 0,g l9 1,g l9 2,g l9 3,g l9 4])] [] [] .one fun l10 _ =>
 .pure [] .not [g l10 0] fun v11 =>
 .br v11 (
 .ret (.bool false) []) (
 .pure [] (.bin .add .int) [g l3 0,(.int .i64 1)] fun v12 =>
 .cont 7 C7 [v12] [E [g v 0],E [g v 1]])) (
 .ret (.bool true) []))
theorem T_zeitnotref15_items_eq (vs : List Value) : sxFun PP Tryz.f61 (mkOpts okL [(43, [5, 6, 7, 8])] [(4, .inv [5] [0, 1] [])] []) vs = T_zeitnotref15_items vs := by kernel_rfl
theorem run_zeitnotref15_items {args vs} (ha : entryArgs PP Tryz.f61 args = some vs) (ho : Ones vs) {H O Q} (h : (T_zeitnotref15_items vs).den PP Q H O) : Triple PP F_zeitnotref15_items args H O Q :=
 triple_run mixed (mkOpts_ok okL_ok _ _ _) Tryz.func61 T_zeitnotref15_items_eq ha ho h
abbrev F_object_Valid : FuncId := 63
/- zeitnot/object.Valid -/
def T_object_Valid (v : List Value) : Tree :=
 .newbox fun r0 =>
 .chk (.eqN r0 r0) <|
 .chk (.eqN r0 r0) <|
 .chk (.eqN r0 r0) <|
 .chk (.eqN r0 r0) <|
 .chk (.eqN r0 r0) <|
 .chk (.eqN r0 r0) <|
 .loop 16 2 [(.int .i64 0)] fun C16 l0 =>
 .pure [] (.bin .lss .int) [g l0 0,(.int .i64 6)] fun v1 =>
 .br v1 (
 .pure [] .aidx [g l0 0,g v 3,g v 4,g v 5,g v 6,g v 7,g v 8] fun v2 =>
 .pure [] (.bin .lss .int) [v2,(.int .i64 0)] fun v3 =>
 .chk (.eqV v3 v3) <|
 .pure [] (.bin .gtr .int) [v2,(.int .i64 99)] fun v4 =>
 .chk (.eqV v3 v3) <|
 .pure [] .pick [v3,(.bool true),v4] fun v5 =>
 .br v5 (
 .ret (.bool false) []) (
 .pure [] (.bin .add .int) [g l0 0,(.int .i64 1)] fun v6 =>
 .cont 16 C16 [v6] [E [(.pointer (some ⟨r0,0,none⟩))],E [g v 3,g v 4,g v 5,g v 6,g v 7,g v 8],E [(.pointer (some ⟨r0,0,none⟩)),g v 0,g v 1,g v 2,g v 3,g v 4,g v 5,g v 6,g v 7,g v 8,g v 9,g v 10,g v 11]])) (
 .chk (.eqN r0 r0) <|
 .pure [] (.bin .eql .int) [g v 1,(.int .i64 (-1))] fun v7 =>
 .chk (.eqN r0 r0) <|
 .chk (.eqV v7 v7) <|
 .chk (.eqV v7 v7) <|
 .pure [] (.bin .eql .int) [g v 3,(.int .i64 0)] fun v8 =>
 .chk (.eqV v7 v7) <|
 .chk (.eqN r0 r0) <|
 .chk (.eqV v8 v8) <|
 .chk (.eqV v7 v7) <|
 .chk (.eqV v8 v8) <|
 .chk (.eqV v7 v7) <|
 .pure [] (.bin .eql .int) [g v 4,(.int .i64 0)] fun v9 =>
 .chk (.eqV v7 v7) <|
 .chk (.eqV v8 v8) <|
 .chk (.eqV v7 v7) <|
 .pure [] .pick [v8,v9,(.bool false)] fun v10 =>
 .chk (.eqV v7 v7) <|
 .pure [] .pick [v7,(.bool true),v10] fun v11 =>
 .chk (.eqN r0 r0) <|
 .chk (.eqV v11 v11) <|
 .chk (.eqV v11 v11) <|
 .pure [] (.bin .geq .int) [g v 0,(.int .i64 1)] fun v12 =>
 .chk (.eqV v11 v11) <|
 .pure [] .pick [v11,v12,(.bool false)] fun v13 =>
 .chk (.eqN r0 r0) <|
 .chk (.eqV v13 v13) <|
 .chk (.eqV v13 v13) <|
 .pure [] (.bin .leq .int) [g v 0,(.int .i64 500)] fun v14 =>
 .chk (.eqV v13 v13) <|
 .pure [] .pick [v13,v14,(.bool false)] fun v15 =>
 .chk (.eqN r0 r0) <|
 .chk (.eqV v15 v15) <|
 .chk (.eqV v15 v15) <|
 .pure [] (.bin .geq .int) [g v 1,(.int .i64 (-1))] fun v16 =>
 .chk (.eqV v15 v15) <|
 .pure [] .pick [v15,v16,(.bool false)] fun v17 =>
 .chk (.eqN r0 r0) <|
 .chk (.eqV v17 v17) <|
 .chk (.eqV v17 v17) <|
 .pure [] (.bin .lss .int) [g v 1,(.int .i64 400)] fun v18 =>
 .chk (.eqV v17 v17) <|
 .pure [] .pick [v17,v18,(.bool false)] fun v19 =>
 .chk (.eqN r0 r0) <|
 .chk (.eqV v19 v19) <|
 .chk (.eqV v19 v19) <|
 .pure [] (.bin .eql .int) [g v 2,(.int .i64 0)] fun v20 =>
 .chk (.eqV v19 v19) <|
 .chk (.eqN r0 r0) <|
 .chk (.eqV v20 v20) <|
 .chk (.eqV v19 v19) <|
 .chk (.eqV v20 v20) <|
 .chk (.eqV v19 v19) <|
 .pure [] (.bin .eql .int) [g v 2,(.int .i64 1)] fun v21 =>
 .chk (.eqV v19 v19) <|
 .chk (.eqV v20 v20) <|
 .chk (.eqV v19 v19) <|
 .pure [] .pick [v20,(.bool true),v21] fun v22 =>
 .chk (.eqV v19 v19) <|
 .pure [] .pick [v19,v22,(.bool false)] fun v23 =>
 .ret v23 [])
theorem T_object_Valid_eq (vs : List Value) : sxFun PP Tryz.f63 (mkOpts okL [(43, [5, 6, 7, 8])] [(2, .inv [19] [1, 18] [(1, [])])] []) vs = T_object_Valid vs := by kernel_rfl
theorem run_object_Valid {args vs} (ha : entryArgs PP Tryz.f63 args = some vs) (ho : Ones vs) {H O Q} (h : (T_object_Valid vs).den PP Q H O) : Triple PP F_object_Valid args H O Q :=
 triple_run mixed (mkOpts_ok okL_ok _ _ _) Tryz.func63 T_object_Valid_eq ha ho h
abbrev F_zeitnotref14_Small : FuncId := 65
/- zeitnot/zeitnotref14.Small -/
def T_zeitnotref14_Small (v : List Value) : Tree :=
 .pure [] (.bin .geq .int) [g v 0,(.int .i64 0)] fun v0 =>
 .chk (.eqV v0 v0) <|
 .pure [] (.bin .leq .int) [g v 0,(.int .i64 99)] fun v1 =>
 .chk (.eqV v0 v0) <|
 .pure [] .pick [v0,v1,(.bool false)] fun v2 =>
 .ret v2 []
theorem T_zeitnotref14_Small_eq (vs : List Value) : sxFun PP Tryz.f65 (mkOpts okL [(43, [5, 6, 7, 8])] [] []) vs = T_zeitnotref14_Small vs := by kernel_rfl
theorem run_zeitnotref14_Small {args vs} (ha : entryArgs PP Tryz.f65 args = some vs) (ho : Ones vs) {H O Q} (h : (T_zeitnotref14_Small vs).den PP Q H O) : Triple PP F_zeitnotref14_Small args H O Q :=
 triple_run mixed (mkOpts_ok okL_ok _ _ _) Tryz.func65 T_zeitnotref14_Small_eq ha ho h
abbrev F_zeitnotref14_Creature : FuncId := 66
/- zeitnot/zeitnotref14.Creature -/
def T_zeitnotref14_Creature (v : List Value) : Tree :=
 .newbox fun r0 =>
 .chk (.eqN r0 r0) <|
 .pure [] (.bin .eql .int) [g v 2,(.int .i64 (-1))] fun v0 =>
 .br v0 (
 .ret (.bool true) []) (
 .chk (.eqN r0 r0) <|
 .call false 100 [g v 0,(.agg #[g v 1,g v 2,g v 3,g v 4,g v 5,g v 6,g v 7,g v 8,g v 9,g v 10,g v 11,g v 12])] [] [] (.agg 14) fun l1 _ =>
 .pure [] (.bin .eql .int) [g l1 1,(.int .i64 2)] fun v2 =>
 .ret v2 [])
theorem T_zeitnotref14_Creature_eq (vs : List Value) : sxFun PP Tryz.f66 (mkOpts okL [(43, [5, 6, 7, 8])] [] []) vs = T_zeitnotref14_Creature vs := by kernel_rfl
theorem run_zeitnotref14_Creature {args vs} (ha : entryArgs PP Tryz.f66 args = some vs) (ho : Ones vs) {H O Q} (h : (T_zeitnotref14_Creature vs).den PP Q H O) : Triple PP F_zeitnotref14_Creature args H O Q :=
 triple_run mixed (mkOpts_ok okL_ok _ _ _) Tryz.func66 T_zeitnotref14_Creature_eq ha ho h
abbrev F_zeitnotref15_Sorted : FuncId := 67
/- zeitnot/zeitnotref15.Sorted -/
def T_zeitnotref15_Sorted (v : List Value) : Tree :=
 .loop 3 3 [(.slice none 0 0),(.int .i64 0)] fun C3 l0 =>
 .pure [] .len [g v 0] fun v1 =>
 .pure [] (.bin .lss .int) [g l0 1,v1] fun v2 =>
 .br v2 (
 .loop 9 6 [(.int .i64 0)] fun C9 l3 =>
 .pure [] .len [g l0 0] fun v4 =>
 .pure [] (.bin .lss .int) [g l3 0,v4] fun v5 =>
 .chk (.eqV v5 v5) <|
 .chk (.eqV v5 v5) <|
 .pure [(v5,true)] (.idx 1) [g l0 0,g l3 0] fun v6 =>
 .chk (.eqV v5 v5) <|
 .load [(v5,true)] v6 1 fun l7 =>
 .chk (.eqV v5 v5) <|
 .chk (.eqV v5 v5) <|
 .pure [(v5,true)] (.idx 1) [g v 0,g l0 1] fun v8 =>
 .chk (.eqV v5 v5) <|
 .load [(v5,true)] v8 1 fun l9 =>
 .chk (.eqV v5 v5) <|
 .chk (.eqV v5 v5) <|
 .pure [] (.bin .lss .int) [g l7 0,g l9 0] fun v10 =>
 .chk (.eqV v5 v5) <|
 .pure [] .pick [v5,v10,(.bool false)] fun v11 =>
 .br v11 (
 .pure [] (.bin .add .int) [g l3 0,(.int .i64 1)] fun v12 =>
 .cont 9 C9 [v12] [E [g v 0],E [g l0 0],E [g l0 1]]) (
 .pure [] (.idx 1) [g v 0,g l0 1] fun v13 =>
 .load [] v13 1 fun l14 =>
 .pure [] (.slc 1 true false false) [g l0 0,g l3 0] fun v15 =>
 .newbox fun r0 =>
 .prim (.bi .append #[25,25] 25) [(.slice (some ⟨r0,0,none⟩) 1 1),v15] [⟨r0,3,[g l14 0]⟩] [] .one fun l16 _ =>
 .pure [] (.slc 1 false true false) [g l0 0,g l3 0] fun v17 =>
 .prim (.bi .append #[25,25] 25) [(.slice none 0 0),v17] [] [] .one fun l18 _ =>
 .prim (.bi .append #[25,25] 25) [g l18 0,g l16 0] [] [] .one fun l19 _ =>
 .pure [] (.bin .add .int) [g l0 1,(.int .i64 1)] fun v20 =>
 .cont 3 C3 [g l19 0,v20] [E [g v 0]])) (
 .ret (g l0 0) [])
theorem T_zeitnotref15_Sorted_eq (vs : List Value) : sxFun PP Tryz.f67 (mkOpts okL [(43, [5, 6, 7, 8])] [(3, .inv [3, 4] [0] []), (6, .inv [5] [0, 3, 4] [])] []) vs = T_zeitnotref15_Sorted vs := by kernel_rfl
theorem run_zeitnotref15_Sorted {args vs} (ha : entryArgs PP Tryz.f67 args = some vs) (ho : Ones vs) {H O Q} (h : (T_zeitnotref15_Sorted vs).den PP Q H O) : Triple PP F_zeitnotref15_Sorted args H O Q :=
 triple_run mixed (mkOpts_ok okL_ok _ _ _) Tryz.func67 T_zeitnotref15_Sorted_eq ha ho h
abbrev F_object_Creature : FuncId := 68
/- zeitnot/object.Creature -/
def T_object_Creature (v : List Value) : Tree :=
 .newbox fun r0 =>
 .chk (.eqN r0 r0) <|
 .pure [] (.bin .eql .int) [g v 2,(.int .i64 (-1))] fun v0 =>
 .br v0 (
 .ret (.bool true) []) (
 .chk (.eqN r0 r0) <|
 .call false 101 [g v 0,(.agg #[g v 1,g v 2,g v 3,g v 4,g v 5,g v 6,g v 7,g v 8,g v 9,g v 10,g v 11,g v 12])] [] [] (.agg 14) fun l1 _ =>
 .pure [] (.bin .eql .int) [g l1 1,(.int .i64 2)] fun v2 =>
 .ret v2 [])
theorem T_object_Creature_eq (vs : List Value) : sxFun PP Tryz.f68 (mkOpts okL [(43, [5, 6, 7, 8])] [] []) vs = T_object_Creature vs := by kernel_rfl
theorem run_object_Creature {args vs} (ha : entryArgs PP Tryz.f68 args = some vs) (ho : Ones vs) {H O Q} (h : (T_object_Creature vs).den PP Q H O) : Triple PP F_object_Creature args H O Q :=
 triple_run mixed (mkOpts_ok okL_ok _ _ _) Tryz.func68 T_object_Creature_eq ha ho h
abbrev F_slices_Contains_int_int : FuncId := 69
/- slices.Contains[[]int,int] -/
def T_slices_Contains_int_int (v : List Value) : Tree :=
 .call false 98 [g v 0,g v 1] [] [] .one fun l0 _ =>
 .pure [] (.bin .geq .int) [g l0 0,(.int .i64 0)] fun v1 =>
 .ret v1 []
theorem T_slices_Contains_int_int_eq (vs : List Value) : sxFun PP Tryz.f69 (mkOpts okL [(43, [5, 6, 7, 8])] [] []) vs = T_slices_Contains_int_int vs := by kernel_rfl
theorem run_slices_Contains_int_int {args vs} (ha : entryArgs PP Tryz.f69 args = some vs) (ho : Ones vs) {H O Q} (h : (T_slices_Contains_int_int vs).den PP Q H O) : Triple PP F_slices_Contains_int_int args H O Q :=
 triple_run mixed (mkOpts_ok okL_ok _ _ _) Tryz.func69 T_slices_Contains_int_int_eq ha ho h
abbrev F_ident_New : FuncId := 70
/- zeitnot/ident.New -/
def T_ident_New (v : List Value) : Tree :=
 .pure [] (.bin .lss .int) [g v 0,(.int .i64 1)] fun v0 =>
 .chk (.eqV v0 v0) <|
 .pure [] (.bin .gtr .int) [g v 0,(.int .i64 4096)] fun v1 =>
 .chk (.eqV v0 v0) <|
 .pure [] .pick [v0,(.bool true),v1] fun v2 =>
 .br v2 (
 .ret (.tuple #[(.pointer none),(.int .i64 2)]) []) (
 .pure [] (.bin .add .int) [g v 0,(.int .i64 64)] fun v3 =>
 .pure [] (.bin .sub .int) [v3,(.int .i64 1)] fun v4 =>
 .pure [] (.bin .quo .int) [v4,(.int .i64 64)] fun v5 =>
 .prim (.makeSlice 149) [v5,v5] [] [] .one fun l6 _ =>
 .newbox fun r0 =>
 .ret (.tuple #[(.pointer (some ⟨r0,0,none⟩)),(.int .i64 0)]) [⟨r0,151,[g v 0,g l6 0]⟩])
theorem T_ident_New_eq (vs : List Value) : sxFun PP Tryz.f70 (mkOpts okL [(43, [5, 6, 7, 8])] [] []) vs = T_ident_New vs := by kernel_rfl
theorem run_ident_New {args vs} (ha : entryArgs PP Tryz.f70 args = some vs) (ho : Ones vs) {H O Q} (h : (T_ident_New vs).den PP Q H O) : Triple PP F_ident_New args H O Q :=
 triple_run mixed (mkOpts_ok okL_ok _ _ _) Tryz.func70 T_ident_New_eq ha ho h
abbrev F_ident_Ids_Claim : FuncId := 71
/- (*zeitnot/ident.Ids).Claim -/
def T_ident_Ids_Claim (v : List Value) : Tree :=
 .call false 102 [g v 0,g v 1] [] [] (.tup [none,none,none]) fun l0 _ =>
 .pure [] (.bin .neq .int) [g l0 2,(.int .i64 0)] fun v1 =>
 .br v1 (
 .ret (g l0 2) []) (
 .chk (.ptr [] (g l0 0)) <|
 .load [] (g l0 0) 1 fun l2 =>
 .pure [] (.bin .and .int) [g l2 0,g l0 1] fun v3 =>
 .pure [] (.bin .neq .int) [v3,(.int .u64 0)] fun v4 =>
 .br v4 (
 .ret (.int .i64 11) []) (
 .chk (.ptr [] (g l0 0)) <|
 .load [] (g l0 0) 1 fun l5 =>
 .pure [] (.bin .or .int) [g l5 0,g l0 1] fun v6 =>
 .chk (.ptr [] (g l0 0)) <|
 .chk (.ptr [] (g l0 0)) <|
 .store (g l0 0) [v6] <|
 .ret (.int .i64 0) []))
theorem T_ident_Ids_Claim_eq (vs : List Value) : sxFun PP Tryz.f71 (mkOpts okL [(43, [5, 6, 7, 8])] [] []) vs = T_ident_Ids_Claim vs := by kernel_rfl
theorem run_ident_Ids_Claim {args vs} (ha : entryArgs PP Tryz.f71 args = some vs) (ho : Ones vs) {H O Q} (h : (T_ident_Ids_Claim vs).den PP Q H O) : Triple PP F_ident_Ids_Claim args H O Q :=
 triple_run mixed (mkOpts_ok okL_ok _ _ _) Tryz.func71 T_ident_Ids_Claim_eq ha ho h
abbrev F_ident_Ids_Take : FuncId := 72
/- (*zeitnot/ident.Ids).Take -/
def T_ident_Ids_Take (v : List Value) : Tree :=
 .call false 103 [g v 0] [] [] .one fun l0 _ =>
 .br (g l0 0) (
 .ret (.tuple #[(.int .i64 0),(.int .i64 1)]) []) (
 .chk (.ptr [] (g v 0)) <|
 .chk (.ptr [] (g v 0)) <|
 .load [] (ptrAdd (g v 0) 1) 1 fun l1 =>
 .pure [] .len [g l1 0] fun v2 =>
 .loop 10 4 [(.int .i64 0)] fun C10 l3 =>
 .pure [] (.bin .lss .int) [g l3 0,v2] fun v4 =>
 .br v4 (
 .pure [] (.idx 1) [g l1 0,g l3 0] fun v5 =>
 .load [] v5 1 fun l6 =>
 .pure [] (.bin .mul .int) [(.int .i64 64),g l3 0] fun v7 =>
 .pure [] .compl [g l6 0] fun v8 =>
 .call false 104 [v8] [] [] .one fun l9 _ =>
 .pure [] (.bin .add .int) [v7,g l9 0] fun v10 =>
 .pure [] (.bin .add .int) [v10,(.int .i64 1)] fun v11 =>
 .pure [] .compl [g l6 0] fun v12 =>
 .pure [] (.bin .neq .int) [v12,(.int .u64 0)] fun v13 =>
 .chk (.ptr [(v13,true)] (g v 0)) <|
 .chk (.eqV v13 v13) <|
 .chk (.ptr [(v13,true)] (g v 0)) <|
 .chk (.eqV v13 v13) <|
 .chk (.eqV v13 v13) <|
 .load [(v13,true)] (g v 0) 1 fun l14 =>
 .chk (.eqV v13 v13) <|
 .chk (.eqV v13 v13) <|
 .pure [] (.bin .leq .int) [v11,g l14 0] fun v15 =>
 .chk (.eqV v13 v13) <|
 .pure [] .pick [v13,v15,(.bool false)] fun v16 =>
 .br v16 (
 .chk (.ptr [] (g v 0)) <|
 .chk (.ptr [] (g v 0)) <|
 .load [] (ptrAdd (g v 0) 1) 1 fun l17 =>
 .pure [] (.idx 1) [g l17 0,g l3 0] fun v18 =>
 .load [] v18 1 fun l19 =>
 .pure [] (.bin .add .int) [g l6 0,(.int .u64 1)] fun v20 =>
 .pure [] (.bin .or .int) [g l19 0,v20] fun v21 =>
 .pure [] (.idx 1) [g l17 0,g l3 0] fun v22 =>
 .chk (.ptr [] v22) <|
 .store v22 [v21] <|
 .ret (.tuple #[v11,(.int .i64 0)]) []) (
 .pure [] (.bin .add .int) [g l3 0,(.int .i64 1)] fun v23 =>
 .cont 10 C10 [v23] [E [g v 0],E [g l1 0],E [v2]])) (
 .ret (.tuple #[(.int .i64 0),(.int .i64 7)]) []))
theorem T_ident_Ids_Take_eq (vs : List Value) : sxFun PP Tryz.f72 (mkOpts okL [(43, [5, 6, 7, 8])] [(4, .inv [14] [0, 12, 13] [])] []) vs = T_ident_Ids_Take vs := by kernel_rfl
theorem run_ident_Ids_Take {args vs} (ha : entryArgs PP Tryz.f72 args = some vs) (ho : Ones vs) {H O Q} (h : (T_ident_Ids_Take vs).den PP Q H O) : Triple PP F_ident_Ids_Take args H O Q :=
 triple_run mixed (mkOpts_ok okL_ok _ _ _) Tryz.func72 T_ident_Ids_Take_eq ha ho h
abbrev F_object_Token : FuncId := 73
/- zeitnot/object.Token -/
def T_object_Token (v : List Value) : Tree :=
 .newbox fun r0 =>
 .call false 105 [(.int .i64 0),g v 2] [] [] .one fun l0 _ =>
 .call false 105 [(.int .i64 0),g v 3] [] [] .one fun l1 _ =>
 .chk (.eqN r0 r0) <|
 .chk (.eqN r0 r0) <|
 .ret (.agg #[g v 0,(.int .i64 (-1)),g v 1,g l0 0,g l1 0,(.int .i64 0),(.int .i64 0),(.int .i64 0),(.int .i64 0),(.bool false),(.bool false),(.bool false)]) []
theorem T_object_Token_eq (vs : List Value) : sxFun PP Tryz.f73 (mkOpts okL [(43, [5, 6, 7, 8])] [] []) vs = T_object_Token vs := by kernel_rfl
theorem run_object_Token {args vs} (ha : entryArgs PP Tryz.f73 args = some vs) (ho : Ones vs) {H O Q} (h : (T_object_Token vs).den PP Q H O) : Triple PP F_object_Token args H O Q :=
 triple_run mixed (mkOpts_ok okL_ok _ _ _) Tryz.func73 T_object_Token_eq ha ho h
abbrev F_slices_Insert_api_Object_api_Object : FuncId := 74
/- slices.Insert[[]zeitnot/api.Object,zeitnot/api.Object] -/
def T_slices_Insert_api_Object_api_Object (v : List Value) : Tree :=
 .pure [] (.slc 12 true false false) [g v 0,g v 1] fun v0 =>
 .pure [] .len [g v 2] fun v1 =>
 .pure [] (.bin .eql .int) [v1,(.int .i64 0)] fun v2 =>
 .br v2 (
 .ret (g v 0) []) (
 .pure [] .len [g v 0] fun v3 =>
 .pure [] (.bin .eql .int) [g v 1,v3] fun v4 =>
 .br v4 (
 .prim (.bi .append #[22,22] 22) [g v 0,g v 2] [] [] .one fun l5 _ =>
 .ret (g l5 0) []) (
 .pure [] (.bin .add .int) [v3,v1] fun v6 =>
 .pure [] .cap [g v 0] fun v7 =>
 .pure [] (.bin .gtr .int) [v6,v7] fun v8 =>
 .br v8 (
 .pure [] (.slc 12 false true false) [g v 0,g v 1] fun v9 =>
 .pure [] (.bin .add .int) [v3,v1] fun v10 =>
 .pure [] (.bin .sub .int) [v10,g v 1] fun v11 =>
 .prim (.bi .append #[22,3] 22) [v9,v11] [] [] .one fun l12 _ =>
 .pure [] (.slc 12 true false false) [g l12 0,g v 1] fun v13 =>
 .prim (.bi .copy #[22,22] 3) [v13,g v 2] [] [] .one fun l14 _ =>
 .pure [] (.bin .add .int) [g v 1,v1] fun v15 =>
 .pure [] (.slc 12 true false false) [g l12 0,v15] fun v16 =>
 .pure [] (.slc 12 true false false) [g v 0,g v 1] fun v17 =>
 .prim (.bi .copy #[22,22] 3) [v16,v17] [] [] .one fun l18 _ =>
 .ret (g l12 0) []) (
 .pure [] (.bin .add .int) [v3,v1] fun v19 =>
 .pure [] (.slc 12 false true false) [g v 0,v19] fun v20 =>
 .pure [] (.bin .add .int) [g v 1,v1] fun v21 =>
 .pure [] (.slc 12 true false false) [v20,v21] fun v22 =>
 .prim (.intr 106) [g v 2,v22] [] [] .one fun l23 _ =>
 .pure [] .not [g l23 0] fun v24 =>
 .br v24 (
 .pure [] (.bin .add .int) [g v 1,v1] fun v25 =>
 .pure [] (.slc 12 true false false) [v20,v25] fun v26 =>
 .pure [] (.slc 12 true false false) [v20,g v 1] fun v27 =>
 .prim (.bi .copy #[22,22] 3) [v26,v27] [] [] .one fun l28 _ =>
 .pure [] (.slc 12 true false false) [v20,g v 1] fun v29 =>
 .prim (.bi .copy #[22,22] 3) [v29,g v 2] [] [] .one fun l30 _ =>
 .ret v20 []) (
 .pure [] (.slc 12 true false false) [v20,v3] fun v31 =>
 .prim (.bi .copy #[22,22] 3) [v31,g v 2] [] [] .one fun l32 _ =>
 .pure [] (.slc 12 true false false) [v20,g v 1] fun v33 =>
 .call false 107 [v33,v1] [] [] (.tup []) fun l34 _ =>
 .ret v20 []))))
theorem T_slices_Insert_api_Object_api_Object_eq (vs : List Value) : sxFun PP Tryz.f74 (mkOpts okL [(43, [5, 6, 7, 8])] [] []) vs = T_slices_Insert_api_Object_api_Object vs := by kernel_rfl
theorem run_slices_Insert_api_Object_api_Object {args vs} (ha : entryArgs PP Tryz.f74 args = some vs) (ho : Ones vs) {H O Q} (h : (T_slices_Insert_api_Object_api_Object vs).den PP Q H O) : Triple PP F_slices_Insert_api_Object_api_Object args H O Q :=
 triple_run mixed (mkOpts_ok okL_ok _ _ _) Tryz.func74 T_slices_Insert_api_Object_api_Object_eq ha ho h
abbrev F_zeitnotref14_Add : FuncId := 75
/- zeitnot/zeitnotref14.Add -/
def T_zeitnotref14_Add (v : List Value) : Tree :=
 .pure [] .min2 [g v 0,(.int .i64 99)] fun v0 =>
 .pure [] .max2 [(.int .i64 0),v0] fun v1 =>
 .pure [] .min2 [g v 1,(.int .i64 99)] fun v2 =>
 .pure [] .max2 [(.int .i64 0),v2] fun v3 =>
 .pure [] (.bin .add .int) [v1,v3] fun v4 =>
 .pure [] .min2 [(.int .i64 99),v4] fun v5 =>
 .ret v5 []
theorem T_zeitnotref14_Add_eq (vs : List Value) : sxFun PP Tryz.f75 (mkOpts okL [(43, [5, 6, 7, 8])] [] []) vs = T_zeitnotref14_Add vs := by kernel_rfl
theorem run_zeitnotref14_Add {args vs} (ha : entryArgs PP Tryz.f75 args = some vs) (ho : Ones vs) {H O Q} (h : (T_zeitnotref14_Add vs).den PP Q H O) : Triple PP F_zeitnotref14_Add args H O Q :=
 triple_run mixed (mkOpts_ok okL_ok _ _ _) Tryz.func75 T_zeitnotref14_Add_eq ha ho h
abbrev F_zeitnotref15_Put : FuncId := 76
/- zeitnot/zeitnotref15.Put -/
def T_zeitnotref15_Put (v : List Value) : Tree :=
 .newbox fun r0 =>
 .newbox fun r1 =>
 .newbox fun r2 =>
 .chk (.eqN r1 r1) <|
 .sw (g v 40) 0 (
 .pure [] (.bin .eql .int) [g v 50,(.int .i64 0)] fun v0 =>
 .br v0 (
 .chk (.eqN r0 r0) <|
 .chk (.eqN r1 r1) <|
 .prim (.bi .append #[25,25] 25) [(.slice none 0 0),g v 6] [] [] .one fun l1 _ =>
 .newbox fun r3 =>
 .prim (.bi .append #[25,25] 25) [g l1 0,(.slice (some ⟨r3,0,none⟩) 1 1)] [⟨r3,3,[g v 38]⟩] [] .one fun l2 _ =>
 .chk (.eqN r0 r0) <|
 .chk (.eqN r0 r0) <|
 .chk (.eqN r2 r2) <|
 .chk (.eqN r2 r2) <|
 .ret (.agg #[g v 0,g v 1,g v 2,g v 3,g v 4,g v 5,g l2 0,g v 7,g v 8,g v 9,g v 10,g v 11,g v 12,g v 13,g v 14,g v 15,g v 16,g v 17,g v 18,g v 19,g v 20,g v 21,g v 22,g v 23,g v 24,g v 25,g v 26,g v 27,g v 28,g v 29,g v 30,g v 31,g v 32,g v 33,g v 34,g v 35,g v 36,g v 37]) []) (
 .pure [] (.bin .eql .int) [g v 50,(.int .i64 1)] fun v3 =>
 .br v3 (
 .chk (.eqN r0 r0) <|
 .chk (.eqN r1 r1) <|
 .prim (.bi .append #[25,25] 25) [(.slice none 0 0),g v 7] [] [] .one fun l4 _ =>
 .newbox fun r4 =>
 .prim (.bi .append #[25,25] 25) [g l4 0,(.slice (some ⟨r4,0,none⟩) 1 1)] [⟨r4,3,[g v 38]⟩] [] .one fun l5 _ =>
 .chk (.eqN r0 r0) <|
 .chk (.eqN r0 r0) <|
 .chk (.eqN r2 r2) <|
 .chk (.eqN r2 r2) <|
 .ret (.agg #[g v 0,g v 1,g v 2,g v 3,g v 4,g v 5,g v 6,g l5 0,g v 8,g v 9,g v 10,g v 11,g v 12,g v 13,g v 14,g v 15,g v 16,g v 17,g v 18,g v 19,g v 20,g v 21,g v 22,g v 23,g v 24,g v 25,g v 26,g v 27,g v 28,g v 29,g v 30,g v 31,g v 32,g v 33,g v 34,g v 35,g v 36,g v 37]) []) (
 .pure [] (.bin .eql .int) [g v 50,(.int .i64 2)] fun v6 =>
 .br v6 (
 .chk (.eqN r0 r0) <|
 .chk (.eqN r1 r1) <|
 .prim (.bi .append #[25,25] 25) [(.slice none 0 0),g v 8] [] [] .one fun l7 _ =>
 .newbox fun r5 =>
 .prim (.bi .append #[25,25] 25) [g l7 0,(.slice (some ⟨r5,0,none⟩) 1 1)] [⟨r5,3,[g v 38]⟩] [] .one fun l8 _ =>
 .chk (.eqN r0 r0) <|
 .chk (.eqN r0 r0) <|
 .chk (.eqN r2 r2) <|
 .chk (.eqN r2 r2) <|
 .ret (.agg #[g v 0,g v 1,g v 2,g v 3,g v 4,g v 5,g v 6,g v 7,g l8 0,g v 9,g v 10,g v 11,g v 12,g v 13,g v 14,g v 15,g v 16,g v 17,g v 18,g v 19,g v 20,g v 21,g v 22,g v 23,g v 24,g v 25,g v 26,g v 27,g v 28,g v 29,g v 30,g v 31,g v 32,g v 33,g v 34,g v 35,g v 36,g v 37]) []) (
 .pure [] (.bin .eql .int) [g v 50,(.int .i64 3)] fun v9 =>
 .br v9 (
 .chk (.eqN r0 r0) <|
 .chk (.eqN r1 r1) <|
 .prim (.bi .append #[25,25] 25) [(.slice none 0 0),g v 9] [] [] .one fun l10 _ =>
 .newbox fun r6 =>
 .prim (.bi .append #[25,25] 25) [g l10 0,(.slice (some ⟨r6,0,none⟩) 1 1)] [⟨r6,3,[g v 38]⟩] [] .one fun l11 _ =>
 .chk (.eqN r0 r0) <|
 .chk (.eqN r0 r0) <|
 .chk (.eqN r2 r2) <|
 .chk (.eqN r2 r2) <|
 .ret (.agg #[g v 0,g v 1,g v 2,g v 3,g v 4,g v 5,g v 6,g v 7,g v 8,g l11 0,g v 10,g v 11,g v 12,g v 13,g v 14,g v 15,g v 16,g v 17,g v 18,g v 19,g v 20,g v 21,g v 22,g v 23,g v 24,g v 25,g v 26,g v 27,g v 28,g v 29,g v 30,g v 31,g v 32,g v 33,g v 34,g v 35,g v 36,g v 37]) []) (
 .chk (.eqN r0 r0) <|
 .chk (.eqN r2 r2) <|
 .chk (.eqN r2 r2) <|
 .ret (.agg #[g v 0,g v 1,g v 2,g v 3,g v 4,g v 5,g v 6,g v 7,g v 8,g v 9,g v 10,g v 11,g v 12,g v 13,g v 14,g v 15,g v 16,g v 17,g v 18,g v 19,g v 20,g v 21,g v 22,g v 23,g v 24,g v 25,g v 26,g v 27,g v 28,g v 29,g v 30,g v 31,g v 32,g v 33,g v 34,g v 35,g v 36,g v 37]) []))))) (
 .sw (g v 40) 1 (
 .pure [] (.bin .eql .int) [g v 50,(.int .i64 0)] fun v12 =>
 .br v12 (
 .chk (.eqN r0 r0) <|
 .chk (.eqN r1 r1) <|
 .prim (.bi .append #[25,25] 25) [(.slice none 0 0),g v 20] [] [] .one fun l13 _ =>
 .newbox fun r7 =>
 .prim (.bi .append #[25,25] 25) [g l13 0,(.slice (some ⟨r7,0,none⟩) 1 1)] [⟨r7,3,[g v 38]⟩] [] .one fun l14 _ =>
 .chk (.eqN r0 r0) <|
 .chk (.eqN r0 r0) <|
 .chk (.eqN r2 r2) <|
 .chk (.eqN r2 r2) <|
 .ret (.agg #[g v 0,g v 1,g v 2,g v 3,g v 4,g v 5,g v 6,g v 7,g v 8,g v 9,g v 10,g v 11,g v 12,g v 13,g v 14,g v 15,g v 16,g v 17,g v 18,g v 19,g l14 0,g v 21,g v 22,g v 23,g v 24,g v 25,g v 26,g v 27,g v 28,g v 29,g v 30,g v 31,g v 32,g v 33,g v 34,g v 35,g v 36,g v 37]) []) (
 .pure [] (.bin .eql .int) [g v 50,(.int .i64 1)] fun v15 =>
 .br v15 (
 .chk (.eqN r0 r0) <|
 .chk (.eqN r1 r1) <|
 .prim (.bi .append #[25,25] 25) [(.slice none 0 0),g v 21] [] [] .one fun l16 _ =>
 .newbox fun r8 =>
 .prim (.bi .append #[25,25] 25) [g l16 0,(.slice (some ⟨r8,0,none⟩) 1 1)] [⟨r8,3,[g v 38]⟩] [] .one fun l17 _ =>
 .chk (.eqN r0 r0) <|
 .chk (.eqN r0 r0) <|
 .chk (.eqN r2 r2) <|
 .chk (.eqN r2 r2) <|
 .ret (.agg #[g v 0,g v 1,g v 2,g v 3,g v 4,g v 5,g v 6,g v 7,g v 8,g v 9,g v 10,g v 11,g v 12,g v 13,g v 14,g v 15,g v 16,g v 17,g v 18,g v 19,g v 20,g l17 0,g v 22,g v 23,g v 24,g v 25,g v 26,g v 27,g v 28,g v 29,g v 30,g v 31,g v 32,g v 33,g v 34,g v 35,g v 36,g v 37]) []) (
 .pure [] (.bin .eql .int) [g v 50,(.int .i64 2)] fun v18 =>
 .br v18 (
 .chk (.eqN r0 r0) <|
 .chk (.eqN r1 r1) <|
 .prim (.bi .append #[25,25] 25) [(.slice none 0 0),g v 22] [] [] .one fun l19 _ =>
 .newbox fun r9 =>
 .prim (.bi .append #[25,25] 25) [g l19 0,(.slice (some ⟨r9,0,none⟩) 1 1)] [⟨r9,3,[g v 38]⟩] [] .one fun l20 _ =>
 .chk (.eqN r0 r0) <|
 .chk (.eqN r0 r0) <|
 .chk (.eqN r2 r2) <|
 .chk (.eqN r2 r2) <|
 .ret (.agg #[g v 0,g v 1,g v 2,g v 3,g v 4,g v 5,g v 6,g v 7,g v 8,g v 9,g v 10,g v 11,g v 12,g v 13,g v 14,g v 15,g v 16,g v 17,g v 18,g v 19,g v 20,g v 21,g l20 0,g v 23,g v 24,g v 25,g v 26,g v 27,g v 28,g v 29,g v 30,g v 31,g v 32,g v 33,g v 34,g v 35,g v 36,g v 37]) []) (
 .pure [] (.bin .eql .int) [g v 50,(.int .i64 3)] fun v21 =>
 .br v21 (
 .chk (.eqN r0 r0) <|
 .chk (.eqN r1 r1) <|
 .prim (.bi .append #[25,25] 25) [(.slice none 0 0),g v 23] [] [] .one fun l22 _ =>
 .newbox fun r10 =>
 .prim (.bi .append #[25,25] 25) [g l22 0,(.slice (some ⟨r10,0,none⟩) 1 1)] [⟨r10,3,[g v 38]⟩] [] .one fun l23 _ =>
 .chk (.eqN r0 r0) <|
 .chk (.eqN r0 r0) <|
 .chk (.eqN r2 r2) <|
 .chk (.eqN r2 r2) <|
 .ret (.agg #[g v 0,g v 1,g v 2,g v 3,g v 4,g v 5,g v 6,g v 7,g v 8,g v 9,g v 10,g v 11,g v 12,g v 13,g v 14,g v 15,g v 16,g v 17,g v 18,g v 19,g v 20,g v 21,g v 22,g l23 0,g v 24,g v 25,g v 26,g v 27,g v 28,g v 29,g v 30,g v 31,g v 32,g v 33,g v 34,g v 35,g v 36,g v 37]) []) (
 .chk (.eqN r0 r0) <|
 .chk (.eqN r2 r2) <|
 .chk (.eqN r2 r2) <|
 .ret (.agg #[g v 0,g v 1,g v 2,g v 3,g v 4,g v 5,g v 6,g v 7,g v 8,g v 9,g v 10,g v 11,g v 12,g v 13,g v 14,g v 15,g v 16,g v 17,g v 18,g v 19,g v 20,g v 21,g v 22,g v 23,g v 24,g v 25,g v 26,g v 27,g v 28,g v 29,g v 30,g v 31,g v 32,g v 33,g v 34,g v 35,g v 36,g v 37]) []))))) (
 .stuck 901))
theorem T_zeitnotref15_Put_eq (vs : List Value) : sxFun PP Tryz.f76 (mkOpts okL [(43, [5, 6, 7, 8])] [] []) vs = T_zeitnotref15_Put vs := by kernel_rfl
theorem run_zeitnotref15_Put {args vs} (ha : entryArgs PP Tryz.f76 args = some vs) (ho : Ones vs) {H O Q} (h : (T_zeitnotref15_Put vs).den PP Q H O) : Triple PP F_zeitnotref15_Put args H O Q :=
 triple_run mixed (mkOpts_ok okL_ok _ _ _) Tryz.func76 T_zeitnotref15_Put_eq ha ho h
abbrev F_slices_Clone_api_Item_api_Item : FuncId := 84
/- slices.Clone[[]zeitnot/api.Item,zeitnot/api.Item] -/
def T_slices_Clone_api_Item_api_Item (v : List Value) : Tree :=
 .pure [] (.bin .eql .slice) [g v 0,(.slice none 0 0)] fun v0 =>
 .br v0 (
 .ret (.slice none 0 0) []) (
 .newbox fun r0 =>
 .prim (.bi .append #[29,29] 29) [(.slice (some ⟨r0,0,none⟩) 0 0),g v 0] [⟨r0,77,[]⟩] [] .one fun l1 _ =>
 .ret (g l1 0) [])
theorem T_slices_Clone_api_Item_api_Item_eq (vs : List Value) : sxFun PP Tryz.f84 (mkOpts okL [(43, [5, 6, 7, 8])] [] []) vs = T_slices_Clone_api_Item_api_Item vs := by kernel_rfl
theorem run_slices_Clone_api_Item_api_Item {args vs} (ha : entryArgs PP Tryz.f84 args = some vs) (ho : Ones vs) {H O Q} (h : (T_slices_Clone_api_Item_api_Item vs).den PP Q H O) : Triple PP F_slices_Clone_api_Item_api_Item args H O Q :=
 triple_run mixed (mkOpts_ok okL_ok _ _ _) Tryz.func84 T_slices_Clone_api_Item_api_Item_eq ha ho h
abbrev F_slices_Clone_api_Target_api_Target : FuncId := 85
/- slices.Clone[[]zeitnot/api.Target,zeitnot/api.Target] -/
def T_slices_Clone_api_Target_api_Target (v : List Value) : Tree :=
 .pure [] (.bin .eql .slice) [g v 0,(.slice none 0 0)] fun v0 =>
 .br v0 (
 .ret (.slice none 0 0) []) (
 .newbox fun r0 =>
 .prim (.bi .append #[75,75] 75) [(.slice (some ⟨r0,0,none⟩) 0 0),g v 0] [⟨r0,105,[]⟩] [] .one fun l1 _ =>
 .ret (g l1 0) [])
theorem T_slices_Clone_api_Target_api_Target_eq (vs : List Value) : sxFun PP Tryz.f85 (mkOpts okL [(43, [5, 6, 7, 8])] [] []) vs = T_slices_Clone_api_Target_api_Target vs := by kernel_rfl
theorem run_slices_Clone_api_Target_api_Target {args vs} (ha : entryArgs PP Tryz.f85 args = some vs) (ho : Ones vs) {H O Q} (h : (T_slices_Clone_api_Target_api_Target vs).den PP Q H O) : Triple PP F_slices_Clone_api_Target_api_Target args H O Q :=
 triple_run mixed (mkOpts_ok okL_ok _ _ _) Tryz.func85 T_slices_Clone_api_Target_api_Target_eq ha ho h
abbrev F_mana_within : FuncId := 86
/- zeitnot/mana.within -/
def T_mana_within (v : List Value) : Tree :=
 .newbox fun r0 =>
 .chk (.eqN r0 r0) <|
 .loop 4 2 [(.int .i64 0)] fun C4 l0 =>
 .pure [] (.bin .lss .int) [g l0 0,(.int .i64 4)] fun v1 =>
 .br v1 (
 .pure [] .aidx [g l0 0,g v 0,g v 1,g v 2,g v 3] fun v2 =>
 .pure [] (.bin .lss .int) [v2,(.int .i64 0)] fun v3 =>
 .chk (.eqV v3 v3) <|
 .chk (.eqV v3 v3) <|
 .pure [] (.bin .gtr .int) [v2,g v 4] fun v4 =>
 .chk (.eqV v3 v3) <|
 .pure [] .pick [v3,(.bool true),v4] fun v5 =>
 .br v5 (
 .ret (.bool false) []) (
 .pure [] (.bin .add .int) [g l0 0,(.int .i64 1)] fun v6 =>
 .cont 4 C4 [v6] [E [g v 4],E [g v 0,g v 1,g v 2,g v 3]])) (
 .ret (.bool true) [])
theorem T_mana_within_eq (vs : List Value) : sxFun PP Tryz.f86 (mkOpts okL [(43, [5, 6, 7, 8])] [(2, .inv [8] [1, 7] [])] []) vs = T_mana_within vs := by kernel_rfl
theorem run_mana_within {args vs} (ha : entryArgs PP Tryz.f86 args = some vs) (ho : Ones vs) {H O Q} (h : (T_mana_within vs).den PP Q H O) : Triple PP F_mana_within args H O Q :=
 triple_run mixed (mkOpts_ok okL_ok _ _ _) Tryz.func86 T_mana_within_eq ha ho h
abbrev F_slices_IndexFunc_api_Item_api_Item : FuncId := 87
/- slices.IndexFunc[[]zeitnot/api.Item,zeitnot/api.Item] -/
def T_slices_IndexFunc_api_Item_api_Item (v : List Value) : Tree :=
 .pure [] .len [g v 0] fun v0 =>
 .loop 4 2 [(.int .i64 0)] fun C4 l1 =>
 .pure [] (.bin .lss .int) [g l1 0,v0] fun v2 =>
 .br v2 (
 .pure [] (.idx 5) [g v 0,g l1 0] fun v3 =>
 .load [] v3 5 fun l4 =>
 .callv false (g v 1) [(.agg #[g l4 0,g l4 1,g l4 2,g l4 3,g l4 4])] [] [] .one fun l5 _ =>
 .br (g l5 0) (
 .ret (g l1 0) []) (
 .pure [] (.bin .add .int) [g l1 0,(.int .i64 1)] fun v6 =>
 .cont 4 C4 [v6] [E [g v 0],E [g v 1],E [v0]])) (
 .ret (.int .i64 (-1)) [])
theorem T_slices_IndexFunc_api_Item_api_Item_eq (vs : List Value) : sxFun PP Tryz.f87 (mkOpts okL [(43, [5, 6, 7, 8])] [(2, .inv [8] [0, 1, 7] [])] []) vs = T_slices_IndexFunc_api_Item_api_Item vs := by kernel_rfl
theorem run_slices_IndexFunc_api_Item_api_Item {args vs} (ha : entryArgs PP Tryz.f87 args = some vs) (ho : Ones vs) {H O Q} (h : (T_slices_IndexFunc_api_Item_api_Item vs).den PP Q H O) : Triple PP F_slices_IndexFunc_api_Item_api_Item args H O Q :=
 triple_run mixed (mkOpts_ok okL_ok _ _ _) Tryz.func87 T_slices_IndexFunc_api_Item_api_Item_eq ha ho h
abbrev F_slices_ContainsFunc_api_Target_api_Target : FuncId := 88
/- slices.ContainsFunc[[]zeitnot/api.Target,zeitnot/api.Target] -/
def T_slices_ContainsFunc_api_Target_api_Target (v : List Value) : Tree :=
 .call false 123 [g v 0,g v 1] [] [] .one fun l0 _ =>
 .pure [] (.bin .geq .int) [g l0 0,(.int .i64 0)] fun v1 =>
 .ret v1 []
theorem T_slices_ContainsFunc_api_Target_api_Target_eq (vs : List Value) : sxFun PP Tryz.f88 (mkOpts okL [(43, [5, 6, 7, 8])] [] []) vs = T_slices_ContainsFunc_api_Target_api_Target vs := by kernel_rfl
theorem run_slices_ContainsFunc_api_Target_api_Target {args vs} (ha : entryArgs PP Tryz.f88 args = some vs) (ho : Ones vs) {H O Q} (h : (T_slices_ContainsFunc_api_Target_api_Target vs).den PP Q H O) : Triple PP F_slices_ContainsFunc_api_Target_api_Target args H O Q :=
 triple_run mixed (mkOpts_ok okL_ok _ _ _) Tryz.func88 T_slices_ContainsFunc_api_Target_api_Target_eq ha ho h
abbrev F_board_fine_1 : FuncId := 89
/- zeitnot/board.fine$1 -/
def T_board_fine_1 (v : List Value) : Tree :=
 .newbox fun r0 =>
 .chk (.eqN r0 r0) <|
 .call false 90 [(.agg #[g v 0,g v 1])] [] [] .one fun l0 _ =>
 .pure [] .not [g l0 0] fun v1 =>
 .ret v1 []
theorem T_board_fine_1_eq (vs : List Value) : sxFun PP Tryz.f89 (mkOpts okL [(43, [5, 6, 7, 8])] [] []) vs = T_board_fine_1 vs := by kernel_rfl
theorem run_board_fine_1 {args vs} (ha : entryArgs PP Tryz.f89 args = some vs) (ho : Ones vs) {H O Q} (h : (T_board_fine_1 vs).den PP Q H O) : Triple PP F_board_fine_1 args H O Q :=
 triple_run mixed (mkOpts_ok okL_ok _ _ _) Tryz.func89 T_board_fine_1_eq ha ho h
abbrev F_board_aimed : FuncId := 90
/- zeitnot/board.aimed -/
def T_board_aimed (v : List Value) : Tree :=
 .newbox fun r0 =>
 .chk (.eqN r0 r0) <|
 .call false 44 [g v 0,(.int .i64 0),(.int .i64 500)] [] [] .one fun l0 _ =>
 .br (g l0 0) (
 .chk (.eqN r0 r0) <|
 .call false 44 [g v 1,(.int .i64 0),(.int .i64 1)] [] [] .one fun l1 _ =>
 .chk (.eqN r0 r0) <|
 .chk (.eqV (g l1 0) (g l1 0)) <|
 .chk (.eqV (g l1 0) (g l1 0)) <|
 .pure [] (.bin .eql .int) [g v 0,(.int .i64 0)] fun v2 =>
 .chk (.eqV (g l1 0) (g l1 0)) <|
 .chk (.eqN r0 r0) <|
 .chk (.eqV v2 v2) <|
 .chk (.eqV (g l1 0) (g l1 0)) <|
 .chk (.eqV v2 v2) <|
 .chk (.eqV (g l1 0) (g l1 0)) <|
 .pure [] (.bin .eql .int) [g v 1,(.int .i64 0)] fun v3 =>
 .chk (.eqV (g l1 0) (g l1 0)) <|
 .chk (.eqV v2 v2) <|
 .chk (.eqV (g l1 0) (g l1 0)) <|
 .pure [] .pick [v2,(.bool true),v3] fun v4 =>
 .chk (.eqV (g l1 0) (g l1 0)) <|
 .pure [] .pick [g l1 0,v4,(.bool false)] fun v5 =>
 .ret v5 []) (
 .ret (.bool false) [])
theorem T_board_aimed_eq (vs : List Value) : sxFun PP Tryz.f90 (mkOpts okL [(43, [5, 6, 7, 8])] [] []) vs = T_board_aimed vs := by kernel_rfl
theorem run_board_aimed {args vs} (ha : entryArgs PP Tryz.f90 args = some vs) (ho : Ones vs) {H O Q} (h : (T_board_aimed vs).den PP Q H O) : Triple PP F_board_aimed args H O Q :=
 triple_run mixed (mkOpts_ok okL_ok _ _ _) Tryz.func90 T_board_aimed_eq ha ho h
abbrev F_board_placed_1 : FuncId := 91
/- zeitnot/board.placed$1 -/
def T_board_placed_1 (v : List Value) : Tree :=
 .load [] (g v 2) 1 fun l0 =>
 .prim (.lookup 129 true) [g l0 0,g v 0] [] [] (.tup [none,none]) fun l1 _ =>
 .load [] (g v 2) 1 fun l2 =>
 .prim (.mapUpdate 129) [g l2 0,g v 0,g v 1] [] [] .one fun l3 _ =>
 .pure [] .not [g l1 1] fun v4 =>
 .ret v4 []
theorem T_board_placed_1_eq (vs : List Value) : sxFun PP Tryz.f91 (mkOpts okL [(43, [5, 6, 7, 8])] [] []) vs = T_board_placed_1 vs := by kernel_rfl
theorem run_board_placed_1 {args vs} (ha : entryArgs PP Tryz.f91 args = some vs) (ho : Ones vs) {H O Q} (h : (T_board_placed_1 vs).den PP Q H O) : Triple PP F_board_placed_1 args H O Q :=
 triple_run mixed (mkOpts_ok okL_ok _ _ _) Tryz.func91 T_board_placed_1_eq ha ho h
abbrev F_zeitnotref15_places : FuncId := 92
/- zeitnot/zeitnotref15.places -/
def T_zeitnotref15_places (v : List Value) : Tree :=
 .newbox fun r0 =>
 .sw (g v 38) 0 (
 .chk (.eqN r0 r0) <|
 .call false 35 [(.agg #[g v 1,g v 2,g v 3,g v 4,g v 5,g v 6,g v 7,g v 8,g v 9,g v 10,g v 11,g v 12,g v 13,g v 14])] [] [] (.agg 4) fun l0 _ =>
 .call false 93 [g l0 0,g v 39] [] [] .one fun l1 _ =>
 .pure [] (.bin .add .int) [(.int .i64 0),g l1 0] fun v2 =>
 .call false 93 [g l0 1,g v 39] [] [] .one fun l3 _ =>
 .pure [] (.bin .add .int) [v2,g l3 0] fun v4 =>
 .call false 93 [g l0 2,g v 39] [] [] .one fun l5 _ =>
 .pure [] (.bin .add .int) [v4,g l5 0] fun v6 =>
 .call false 93 [g l0 3,g v 39] [] [] .one fun l7 _ =>
 .pure [] (.bin .add .int) [v6,g l7 0] fun v8 =>
 .loop 55 8 [v8,(.int .i64 0)] fun C55 l9 =>
 .chk (.eqN r0 r0) <|
 .pure [] .len [g v 29] fun v10 =>
 .pure [] (.bin .lss .int) [g l9 1,v10] fun v11 =>
 .br v11 (
 .chk (.eqN r0 r0) <|
 .pure [] (.idx 5) [g v 29,g l9 1] fun v12 =>
 .load [] v12 5 fun l13 =>
 .newbox fun r1 =>
 .chk (.eqN r1 r1) <|
 .chk (.eqN r1 r1) <|
 .pure [] (.bin .eql .int) [g l13 3,(.int .i64 (-1))] fun v14 =>
 .chk (.eqN r1 r1) <|
 .chk (.eqV v14 v14) <|
 .chk (.eqV v14 v14) <|
 .chk (.eqV v14 v14) <|
 .pure [] (.bin .eql .int) [g l13 1,g v 39] fun v15 =>
 .chk (.eqV v14 v14) <|
 .pure [] .pick [v14,v15,(.bool false)] fun v16 =>
 .chk (.eqN r1 r1) <|
 .chk (.eqV v16 v16) <|
 .chk (.eqV v16 v16) <|
 .chk (.eqV v16 v16) <|
 .pure [] (.bin .eql .int) [g l13 0,g v 38] fun v17 =>
 .chk (.eqV v16 v16) <|
 .pure [] .pick [v16,v17,(.bool false)] fun v18 =>
 .br v18 (
 .pure [] (.bin .add .int) [g l9 0,(.int .i64 1)] fun v19 =>
 .pure [] (.bin .add .int) [g l9 1,(.int .i64 1)] fun v20 =>
 .cont 55 C55 [v19,v20] [E [g v 38],E [g v 39],E [(.pointer (some ⟨r0,0,none⟩))],E [(.pointer (some ⟨r0,0,none⟩)),g v 0,g v 1,g v 2,g v 3,g v 4,g v 5,g v 6,g v 7,g v 8,g v 9,g v 10,g v 11,g v 12,g v 13,g v 14,g v 15,g v 16,g v 17,g v 18,g v 19,g v 20,g v 21,g v 22,g v 23,g v 24,g v 25,g v 26,g v 27,g v 28,g v 29,g v 30,g v 31,g v 32,g v 33,g v 34,g v 35,g v 36,g v 37]]) (
 .pure [] (.bin .add .int) [g l9 1,(.int .i64 1)] fun v21 =>
 .cont 55 C55 [g l9 0,v21] [E [g v 38],E [g v 39],E [(.pointer (some ⟨r0,0,none⟩))],E [(.pointer (some ⟨r0,0,none⟩)),g v 0,g v 1,g v 2,g v 3,g v 4,g v 5,g v 6,g v 7,g v 8,g v 9,g v 10,g v 11,g v 12,g v 13,g v 14,g v 15,g v 16,g v 17,g v 18,g v 19,g v 20,g v 21,g v 22,g v 23,g v 24,g v 25,g v 26,g v 27,g v 28,g v 29,g v 30,g v 31,g v 32,g v 33,g v 34,g v 35,g v 36,g v 37]])) (
 .ret (g l9 0) [])) (
 .sw (g v 38) 1 (
 .chk (.eqN r0 r0) <|
 .call false 35 [(.agg #[g v 15,g v 16,g v 17,g v 18,g v 19,g v 20,g v 21,g v 22,g v 23,g v 24,g v 25,g v 26,g v 27,g v 28])] [] [] (.agg 4) fun l22 _ =>
 .call false 93 [g l22 0,g v 39] [] [] .one fun l23 _ =>
 .pure [] (.bin .add .int) [(.int .i64 0),g l23 0] fun v24 =>
 .call false 93 [g l22 1,g v 39] [] [] .one fun l25 _ =>
 .pure [] (.bin .add .int) [v24,g l25 0] fun v26 =>
 .call false 93 [g l22 2,g v 39] [] [] .one fun l27 _ =>
 .pure [] (.bin .add .int) [v26,g l27 0] fun v28 =>
 .call false 93 [g l22 3,g v 39] [] [] .one fun l29 _ =>
 .pure [] (.bin .add .int) [v28,g l29 0] fun v30 =>
 .loop 55 8 [v30,(.int .i64 0)] fun C55 l31 =>
 .chk (.eqN r0 r0) <|
 .pure [] .len [g v 29] fun v32 =>
 .pure [] (.bin .lss .int) [g l31 1,v32] fun v33 =>
 .br v33 (
 .chk (.eqN r0 r0) <|
 .pure [] (.idx 5) [g v 29,g l31 1] fun v34 =>
 .load [] v34 5 fun l35 =>
 .newbox fun r2 =>
 .chk (.eqN r2 r2) <|
 .chk (.eqN r2 r2) <|
 .pure [] (.bin .eql .int) [g l35 3,(.int .i64 (-1))] fun v36 =>
 .chk (.eqN r2 r2) <|
 .chk (.eqV v36 v36) <|
 .chk (.eqV v36 v36) <|
 .chk (.eqV v36 v36) <|
 .pure [] (.bin .eql .int) [g l35 1,g v 39] fun v37 =>
 .chk (.eqV v36 v36) <|
 .pure [] .pick [v36,v37,(.bool false)] fun v38 =>
 .chk (.eqN r2 r2) <|
 .chk (.eqV v38 v38) <|
 .chk (.eqV v38 v38) <|
 .chk (.eqV v38 v38) <|
 .pure [] (.bin .eql .int) [g l35 0,g v 38] fun v39 =>
 .chk (.eqV v38 v38) <|
 .pure [] .pick [v38,v39,(.bool false)] fun v40 =>
 .br v40 (
 .pure [] (.bin .add .int) [g l31 0,(.int .i64 1)] fun v41 =>
 .pure [] (.bin .add .int) [g l31 1,(.int .i64 1)] fun v42 =>
 .cont 55 C55 [v41,v42] [E [g v 38],E [g v 39],E [(.pointer (some ⟨r0,0,none⟩))],E [(.pointer (some ⟨r0,0,none⟩)),g v 0,g v 1,g v 2,g v 3,g v 4,g v 5,g v 6,g v 7,g v 8,g v 9,g v 10,g v 11,g v 12,g v 13,g v 14,g v 15,g v 16,g v 17,g v 18,g v 19,g v 20,g v 21,g v 22,g v 23,g v 24,g v 25,g v 26,g v 27,g v 28,g v 29,g v 30,g v 31,g v 32,g v 33,g v 34,g v 35,g v 36,g v 37]]) (
 .pure [] (.bin .add .int) [g l31 1,(.int .i64 1)] fun v43 =>
 .cont 55 C55 [g l31 0,v43] [E [g v 38],E [g v 39],E [(.pointer (some ⟨r0,0,none⟩))],E [(.pointer (some ⟨r0,0,none⟩)),g v 0,g v 1,g v 2,g v 3,g v 4,g v 5,g v 6,g v 7,g v 8,g v 9,g v 10,g v 11,g v 12,g v 13,g v 14,g v 15,g v 16,g v 17,g v 18,g v 19,g v 20,g v 21,g v 22,g v 23,g v 24,g v 25,g v 26,g v 27,g v 28,g v 29,g v 30,g v 31,g v 32,g v 33,g v 34,g v 35,g v 36,g v 37]])) (
 .ret (g l31 0) [])) (
 .stuck 901))
theorem T_zeitnotref15_places_eq (vs : List Value) : sxFun PP Tryz.f92 (mkOpts okL [(43, [5, 6, 7, 8])] [(3, .unroll 5), (8, .inv [7, 10] [1, 2, 3] [(3, [])])] []) vs = T_zeitnotref15_places vs := by kernel_rfl
theorem run_zeitnotref15_places {args vs} (ha : entryArgs PP Tryz.f92 args = some vs) (ho : Ones vs) {H O Q} (h : (T_zeitnotref15_places vs).den PP Q H O) : Triple PP F_zeitnotref15_places args H O Q :=
 triple_run mixed (mkOpts_ok okL_ok _ _ _) Tryz.func92 T_zeitnotref15_places_eq ha ho h
abbrev F_zeitnotref15_Count : FuncId := 93
/- zeitnot/zeitnotref15.Count -/
def T_zeitnotref15_Count (v : List Value) : Tree :=
 .loop 3 3 [(.int .i64 0),(.int .i64 0)] fun C3 l0 =>
 .pure [] .len [g v 0] fun v1 =>
 .pure [] (.bin .lss .int) [g l0 1,v1] fun v2 =>
 .br v2 (
 .pure [] (.idx 1) [g v 0,g l0 1] fun v3 =>
 .load [] v3 1 fun l4 =>
 .pure [] (.bin .eql .int) [g l4 0,g v 1] fun v5 =>
 .br v5 (
 .pure [] (.bin .add .int) [g l0 0,(.int .i64 1)] fun v6 =>
 .pure [] (.bin .add .int) [g l0 1,(.int .i64 1)] fun v7 =>
 .cont 3 C3 [v6,v7] [E [g v 0],E [g v 1]]) (
 .pure [] (.bin .add .int) [g l0 1,(.int .i64 1)] fun v8 =>
 .cont 3 C3 [g l0 0,v8] [E [g v 0],E [g v 1]])) (
 .ret (g l0 0) [])
theorem T_zeitnotref15_Count_eq (vs : List Value) : sxFun PP Tryz.f93 (mkOpts okL [(43, [5, 6, 7, 8])] [(3, .inv [5, 6] [0, 1] [])] []) vs = T_zeitnotref15_Count vs := by kernel_rfl
theorem run_zeitnotref15_Count {args vs} (ha : entryArgs PP Tryz.f93 args = some vs) (ho : Ones vs) {H O Q} (h : (T_zeitnotref15_Count vs).den PP Q H O) : Triple PP F_zeitnotref15_Count args H O Q :=
 triple_run mixed (mkOpts_ok okL_ok _ _ _) Tryz.func93 T_zeitnotref15_Count_eq ha ho h
abbrev F_zeitnotref15_SameItem : FuncId := 95
/- zeitnot/zeitnotref15.SameItem -/
def T_zeitnotref15_SameItem (v : List Value) : Tree :=
 .newbox fun r0 =>
 .newbox fun r1 =>
 .chk (.eqN r0 r0) <|
 .chk (.eqN r1 r1) <|
 .pure [] (.bin .neq .int) [g v 0,g v 5] fun v0 =>
 .chk (.eqN r0 r0) <|
 .chk (.eqV v0 v0) <|
 .chk (.eqN r1 r1) <|
 .chk (.eqV v0 v0) <|
 .chk (.eqV v0 v0) <|
 .chk (.eqV v0 v0) <|
 .pure [] (.bin .neq .int) [g v 1,g v 6] fun v1 =>
 .chk (.eqV v0 v0) <|
 .pure [] .pick [v0,(.bool true),v1] fun v2 =>
 .chk (.eqN r0 r0) <|
 .chk (.eqV v2 v2) <|
 .chk (.eqN r1 r1) <|
 .chk (.eqV v2 v2) <|
 .chk (.eqV v2 v2) <|
 .chk (.eqV v2 v2) <|
 .pure [] (.bin .neq .int) [g v 2,g v 7] fun v3 =>
 .chk (.eqV v2 v2) <|
 .pure [] .pick [v2,(.bool true),v3] fun v4 =>
 .chk (.eqN r0 r0) <|
 .chk (.eqV v4 v4) <|
 .chk (.eqN r1 r1) <|
 .chk (.eqV v4 v4) <|
 .chk (.eqV v4 v4) <|
 .chk (.eqV v4 v4) <|
 .pure [] (.bin .neq .int) [g v 3,g v 8] fun v5 =>
 .chk (.eqV v4 v4) <|
 .pure [] .pick [v4,(.bool true),v5] fun v6 =>
 .chk (.eqN r0 r0) <|
 .chk (.eqV v6 v6) <|
 .chk (.eqV v6 v6) <|
 .pure [] .len [g v 4] fun v7 =>
 .chk (.eqN r1 r1) <|
 .chk (.eqV v6 v6) <|
 .chk (.eqV v6 v6) <|
 .pure [] .len [g v 9] fun v8 =>
 .chk (.eqV v6 v6) <|
 .chk (.eqV v6 v6) <|
 .pure [] (.bin .neq .int) [v7,v8] fun v9 =>
 .chk (.eqV v6 v6) <|
 .pure [] .pick [v6,(.bool true),v9] fun v10 =>
 .br v10 (
 .ret (.bool false) []) (
 .loop 39 4 [(.int .i64 0)] fun C39 l11 =>
 .chk (.eqN r0 r0) <|
 .pure [] .len [g v 4] fun v12 =>
 .pure [] (.bin .lss .int) [g l11 0,v12] fun v13 =>
 .br v13 (
 .chk (.eqN r0 r0) <|
 .pure [] (.idx 2) [g v 4,g l11 0] fun v14 =>
 .load [] v14 2 fun l15 =>
 .chk (.eqN r1 r1) <|
 .pure [] (.idx 2) [g v 9,g l11 0] fun v16 =>
 .load [] v16 2 fun l17 =>
 .raw [] (.eqv .neq 105 false) [(.agg #[g l15 0,g l15 1]),(.agg #[g l17 0,g l17 1])] fun v18 =>
 .br v18 (
 .ret (.bool false) []) (
 .pure [] (.bin .add .int) [g l11 0,(.int .i64 1)] fun v19 =>
 .cont 39 C39 [v19] [E [(.pointer (some ⟨r0,0,none⟩))],E [(.pointer (some ⟨r1,0,none⟩))],E [(.pointer (some ⟨r0,0,none⟩)),g v 0,g v 1,g v 2,g v 3,g v 4],E [(.pointer (some ⟨r1,0,none⟩)),g v 5,g v 6,g v 7,g v 8,g v 9]])) (
 .ret (.bool true) []))
theorem T_zeitnotref15_SameItem_eq (vs : List Value) : sxFun PP Tryz.f95 (mkOpts okL [(43, [5, 6, 7, 8])] [(4, .inv [5] [2, 3] [(2, []), (3, [])])] []) vs = T_zeitnotref15_SameItem vs := by kernel_rfl
theorem run_zeitnotref15_SameItem {args vs} (ha : entryArgs PP Tryz.f95 args = some vs) (ho : Ones vs) {H O Q} (h : (T_zeitnotref15_SameItem vs).den PP Q H O) : Triple PP F_zeitnotref15_SameItem args H O Q :=
 triple_run mixed (mkOpts_ok okL_ok _ _ _) Tryz.func95 T_zeitnotref15_SameItem_eq ha ho h
abbrev F_slices_Index_int_int : FuncId := 98
/- slices.Index[[]int,int] -/
def T_slices_Index_int_int (v : List Value) : Tree :=
 .pure [] .len [g v 0] fun v0 =>
 .loop 4 2 [(.int .i64 0)] fun C4 l1 =>
 .pure [] (.bin .lss .int) [g l1 0,v0] fun v2 =>
 .br v2 (
 .pure [] (.idx 1) [g v 0,g l1 0] fun v3 =>
 .load [] v3 1 fun l4 =>
 .pure [] (.bin .eql .int) [g v 1,g l4 0] fun v5 =>
 .br v5 (
 .ret (g l1 0) []) (
 .pure [] (.bin .add .int) [g l1 0,(.int .i64 1)] fun v6 =>
 .cont 4 C4 [v6] [E [g v 0],E [g v 1],E [v0]])) (
 .ret (.int .i64 (-1)) [])
theorem T_slices_Index_int_int_eq (vs : List Value) : sxFun PP Tryz.f98 (mkOpts okL [(43, [5, 6, 7, 8])] [(2, .inv [8] [0, 1, 7] [])] []) vs = T_slices_Index_int_int vs := by kernel_rfl
theorem run_slices_Index_int_int {args vs} (ha : entryArgs PP Tryz.f98 args = some vs) (ho : Ones vs) {H O Q} (h : (T_slices_Index_int_int vs).den PP Q H O) : Triple PP F_slices_Index_int_int args H O Q :=
 triple_run mixed (mkOpts_ok okL_ok _ _ _) Tryz.func98 T_slices_Index_int_int_eq ha ho h
abbrev F_zeitnotref14_Card : FuncId := 100
/- zeitnot/zeitnotref14.Card -/
def T_zeitnotref14_Card (v : List Value) : Tree :=
 .newbox fun r0 =>
 .newbox fun r1 =>
 .chk (.eqN r0 r0) <|
 .pure [] (.bin .lss .int) [g v 2,(.int .i64 0)] fun v0 =>
 .chk (.eqN r0 r0) <|
 .chk (.eqV v0 v0) <|
 .chk (.eqV v0 v0) <|
 .pure [] .len [g v 0] fun v1 =>
 .chk (.eqV v0 v0) <|
 .chk (.eqV v0 v0) <|
 .pure [] (.bin .geq .int) [g v 2,v1] fun v2 =>
 .chk (.eqV v0 v0) <|
 .pure [] .pick [v0,(.bool true),v2] fun v3 =>
 .br v3 (
 .chk (.eqN r1 r1) <|
 .chk (.eqN r1 r1) <|
 .ret (.agg #[(.string ⟨#[]⟩),(.int .i64 0),(.int .i64 0),(.int .i64 0),(.int .i64 0),(.int .i64 0),(.int .i64 0),(.int .i64 0),(.int .i64 0),(.int .i64 0),(.int .i64 0),(.slice none 0 0),(.slice none 0 0),(.int .i64 0)]) []) (
 .chk (.eqN r0 r0) <|
 .pure [] (.idx 14) [g v 0,g v 2] fun v4 =>
 .load [] v4 14 fun l5 =>
 .chk (.eqN r1 r1) <|
 .chk (.eqN r1 r1) <|
 .ret (.agg #[g l5 0,g l5 1,g l5 2,g l5 3,g l5 4,g l5 5,g l5 6,g l5 7,g l5 8,g l5 9,g l5 10,g l5 11,g l5 12,g l5 13]) [])
theorem T_zeitnotref14_Card_eq (vs : List Value) : sxFun PP Tryz.f100 (mkOpts okL [(43, [5, 6, 7, 8])] [] []) vs = T_zeitnotref14_Card vs := by kernel_rfl
theorem run_zeitnotref14_Card {args vs} (ha : entryArgs PP Tryz.f100 args = some vs) (ho : Ones vs) {H O Q} (h : (T_zeitnotref14_Card vs).den PP Q H O) : Triple PP F_zeitnotref14_Card args H O Q :=
 triple_run mixed (mkOpts_ok okL_ok _ _ _) Tryz.func100 T_zeitnotref14_Card_eq ha ho h
abbrev F_object_look : FuncId := 101
/- zeitnot/object.look -/
def T_object_look (v : List Value) : Tree :=
 .newbox fun r0 =>
 .newbox fun r1 =>
 .chk (.eqN r0 r0) <|
 .pure [] (.bin .lss .int) [g v 2,(.int .i64 0)] fun v0 =>
 .chk (.eqN r0 r0) <|
 .chk (.eqV v0 v0) <|
 .chk (.eqV v0 v0) <|
 .pure [] .len [g v 0] fun v1 =>
 .chk (.eqV v0 v0) <|
 .chk (.eqV v0 v0) <|
 .pure [] (.bin .geq .int) [g v 2,v1] fun v2 =>
 .chk (.eqV v0 v0) <|
 .pure [] .pick [v0,(.bool true),v2] fun v3 =>
 .br v3 (
 .chk (.eqN r1 r1) <|
 .chk (.eqN r1 r1) <|
 .ret (.agg #[(.string ⟨#[]⟩),(.int .i64 0),(.int .i64 0),(.int .i64 0),(.int .i64 0),(.int .i64 0),(.int .i64 0),(.int .i64 0),(.int .i64 0),(.int .i64 0),(.int .i64 0),(.slice none 0 0),(.slice none 0 0),(.int .i64 0)]) []) (
 .chk (.eqN r0 r0) <|
 .pure [] (.idx 14) [g v 0,g v 2] fun v4 =>
 .load [] v4 14 fun l5 =>
 .chk (.eqN r1 r1) <|
 .chk (.eqN r1 r1) <|
 .ret (.agg #[g l5 0,g l5 1,g l5 2,g l5 3,g l5 4,g l5 5,g l5 6,g l5 7,g l5 8,g l5 9,g l5 10,g l5 11,g l5 12,g l5 13]) [])
theorem T_object_look_eq (vs : List Value) : sxFun PP Tryz.f101 (mkOpts okL [(43, [5, 6, 7, 8])] [] []) vs = T_object_look vs := by kernel_rfl
theorem run_object_look {args vs} (ha : entryArgs PP Tryz.f101 args = some vs) (ho : Ones vs) {H O Q} (h : (T_object_look vs).den PP Q H O) : Triple PP F_object_look args H O Q :=
 triple_run mixed (mkOpts_ok okL_ok _ _ _) Tryz.func101 T_object_look_eq ha ho h
abbrev F_ident_Ids_check : FuncId := 102
/- (*zeitnot/ident.Ids).check -/
def T_ident_Ids_check (v : List Value) : Tree :=
 .call false 103 [g v 0] [] [] .one fun l0 _ =>
 .br (g l0 0) (
 .ret (.tuple #[(.pointer none),(.int .u64 0),(.int .i64 1)]) []) (
 .pure [] (.bin .lss .int) [g v 1,(.int .i64 1)] fun v1 =>
 .chk (.ptr [(v1,false)] (g v 0)) <|
 .chk (.eqV v1 v1) <|
 .chk (.ptr [(v1,false)] (g v 0)) <|
 .chk (.eqV v1 v1) <|
 .chk (.eqV v1 v1) <|
 .load [(v1,false)] (g v 0) 1 fun l2 =>
 .chk (.eqV v1 v1) <|
 .chk (.eqV v1 v1) <|
 .pure [] (.bin .gtr .int) [g v 1,g l2 0] fun v3 =>
 .chk (.eqV v1 v1) <|
 .pure [] .pick [v1,(.bool true),v3] fun v4 =>
 .br v4 (
 .ret (.tuple #[(.pointer none),(.int .u64 0),(.int .i64 2)]) []) (
 .call false 124 [g v 0,g v 1] [] [] (.tup [none,none]) fun l5 _ =>
 .ret (.tuple #[g l5 0,g l5 1,(.int .i64 0)]) []))
theorem T_ident_Ids_check_eq (vs : List Value) : sxFun PP Tryz.f102 (mkOpts okL [(43, [5, 6, 7, 8])] [] []) vs = T_ident_Ids_check vs := by kernel_rfl
theorem run_ident_Ids_check {args vs} (ha : entryArgs PP Tryz.f102 args = some vs) (ho : Ones vs) {H O Q} (h : (T_ident_Ids_check vs).den PP Q H O) : Triple PP F_ident_Ids_check args H O Q :=
 triple_run mixed (mkOpts_ok okL_ok _ _ _) Tryz.func102 T_ident_Ids_check_eq ha ho h
abbrev F_ident_Ids_zero : FuncId := 103
/- (*zeitnot/ident.Ids).zero -/
def T_ident_Ids_zero (v : List Value) : Tree :=
 .pure [] (.bin .eql .ptr) [g v 0,(.pointer none)] fun v0 =>
 .chk (.ptr [(v0,false)] (g v 0)) <|
 .chk (.eqV v0 v0) <|
 .chk (.ptr [(v0,false)] (g v 0)) <|
 .chk (.eqV v0 v0) <|
 .chk (.eqV v0 v0) <|
 .load [(v0,false)] (g v 0) 1 fun l1 =>
 .chk (.eqV v0 v0) <|
 .pure [] (.bin .eql .int) [g l1 0,(.int .i64 0)] fun v2 =>
 .chk (.eqV v0 v0) <|
 .pure [] .pick [v0,(.bool true),v2] fun v3 =>
 .ret v3 []
theorem T_ident_Ids_zero_eq (vs : List Value) : sxFun PP Tryz.f103 (mkOpts okL [(43, [5, 6, 7, 8])] [] []) vs = T_ident_Ids_zero vs := by kernel_rfl
theorem run_ident_Ids_zero {args vs} (ha : entryArgs PP Tryz.f103 args = some vs) (ho : Ones vs) {H O Q} (h : (T_ident_Ids_zero vs).den PP Q H O) : Triple PP F_ident_Ids_zero args H O Q :=
 triple_run mixed (mkOpts_ok okL_ok _ _ _) Tryz.func103 T_ident_Ids_zero_eq ha ho h
abbrev F_math_bits_TrailingZeros64 : FuncId := 104
/- math/bits.TrailingZeros64 -/
def T_math_bits_TrailingZeros64 (v : List Value) : Tree :=
 .pure [] (.bin .eql .int) [g v 0,(.int .u64 0)] fun v0 =>
 .br v0 (
 .ret (.int .i64 64) []) (
 .pure [] .neg [g v 0] fun v1 =>
 .pure [] (.bin .and .int) [g v 0,v1] fun v2 =>
 .pure [] (.bin .mul .int) [v2,(.int .u64 285870213051353865)] fun v3 =>
 .pure [] (.bin .shr .int) [v3,(.int .u64 58)] fun v4 =>
 .pure [] (.pidx 64 1) [(.pointer (some ⟨0,0,none⟩)),v4] fun v5 =>
 .load [] v5 1 fun l6 =>
 .pure [] (.conv .i64) [g l6 0] fun v7 =>
 .ret v7 [])
theorem T_math_bits_TrailingZeros64_eq (vs : List Value) : sxFun PP Tryz.f104 (mkOpts okL [(43, [5, 6, 7, 8])] [] []) vs = T_math_bits_TrailingZeros64 vs := by kernel_rfl
theorem run_math_bits_TrailingZeros64 {args vs} (ha : entryArgs PP Tryz.f104 args = some vs) (ho : Ones vs) {H O Q} (h : (T_math_bits_TrailingZeros64 vs).den PP Q H O) : Triple PP F_math_bits_TrailingZeros64 args H O Q :=
 triple_run mixed (mkOpts_ok okL_ok _ _ _) Tryz.func104 T_math_bits_TrailingZeros64_eq ha ho h
abbrev F_object_plus : FuncId := 105
/- zeitnot/object.plus -/
def T_object_plus (v : List Value) : Tree :=
 .pure [] .max2 [(.int .i64 0),g v 0] fun v0 =>
 .pure [] .max2 [(.int .i64 0),g v 1] fun v1 =>
 .call false 125 [v0,v1,(.int .i64 99)] [] [] .one fun l2 _ =>
 .ret (g l2 0) []
theorem T_object_plus_eq (vs : List Value) : sxFun PP Tryz.f105 (mkOpts okL [(43, [5, 6, 7, 8])] [] []) vs = T_object_plus vs := by kernel_rfl
theorem run_object_plus {args vs} (ha : entryArgs PP Tryz.f105 args = some vs) (ho : Ones vs) {H O Q} (h : (T_object_plus vs).den PP Q H O) : Triple PP F_object_plus args H O Q :=
 triple_run mixed (mkOpts_ok okL_ok _ _ _) Tryz.func105 T_object_plus_eq ha ho h
abbrev F_slices_IndexFunc_api_Target_api_Target : FuncId := 123
/- slices.IndexFunc[[]zeitnot/api.Target,zeitnot/api.Target] -/
def T_slices_IndexFunc_api_Target_api_Target (v : List Value) : Tree :=
 .pure [] .len [g v 0] fun v0 =>
 .loop 4 2 [(.int .i64 0)] fun C4 l1 =>
 .pure [] (.bin .lss .int) [g l1 0,v0] fun v2 =>
 .br v2 (
 .pure [] (.idx 2) [g v 0,g l1 0] fun v3 =>
 .load [] v3 2 fun l4 =>
 .callv false (g v 1) [(.agg #[g l4 0,g l4 1])] [] [] .one fun l5 _ =>
 .br (g l5 0) (
 .ret (g l1 0) []) (
 .pure [] (.bin .add .int) [g l1 0,(.int .i64 1)] fun v6 =>
 .cont 4 C4 [v6] [E [g v 0],E [g v 1],E [v0]])) (
 .ret (.int .i64 (-1)) [])
theorem T_slices_IndexFunc_api_Target_api_Target_eq (vs : List Value) : sxFun PP Tryz.f123 (mkOpts okL [(43, [5, 6, 7, 8])] [(2, .inv [8] [0, 1, 7] [])] []) vs = T_slices_IndexFunc_api_Target_api_Target vs := by kernel_rfl
theorem run_slices_IndexFunc_api_Target_api_Target {args vs} (ha : entryArgs PP Tryz.f123 args = some vs) (ho : Ones vs) {H O Q} (h : (T_slices_IndexFunc_api_Target_api_Target vs).den PP Q H O) : Triple PP F_slices_IndexFunc_api_Target_api_Target args H O Q :=
 triple_run mixed (mkOpts_ok okL_ok _ _ _) Tryz.func123 T_slices_IndexFunc_api_Target_api_Target_eq ha ho h
abbrev F_ident_Ids_bit : FuncId := 124
/- (*zeitnot/ident.Ids).bit -/
def T_ident_Ids_bit (v : List Value) : Tree :=
 .chk (.ptr [] (g v 0)) <|
 .chk (.ptr [] (g v 0)) <|
 .load [] (ptrAdd (g v 0) 1) 1 fun l0 =>
 .pure [] (.bin .sub .int) [g v 1,(.int .i64 1)] fun v1 =>
 .pure [] (.bin .quo .int) [v1,(.int .i64 64)] fun v2 =>
 .pure [] (.idx 1) [g l0 0,v2] fun v3 =>
 .pure [] (.bin .sub .int) [g v 1,(.int .i64 1)] fun v4 =>
 .pure [] (.bin .rem .int) [v4,(.int .i64 64)] fun v5 =>
 .pure [] (.bin .shl .int) [(.int .u64 1),v5] fun v6 =>
 .ret (.tuple #[v3,v6]) []
theorem T_ident_Ids_bit_eq (vs : List Value) : sxFun PP Tryz.f124 (mkOpts okL [(43, [5, 6, 7, 8])] [] []) vs = T_ident_Ids_bit vs := by kernel_rfl
theorem run_ident_Ids_bit {args vs} (ha : entryArgs PP Tryz.f124 args = some vs) (ho : Ones vs) {H O Q} (h : (T_ident_Ids_bit vs).den PP Q H O) : Triple PP F_ident_Ids_bit args H O Q :=
 triple_run mixed (mkOpts_ok okL_ok _ _ _) Tryz.func124 T_ident_Ids_bit_eq ha ho h
abbrev F_sat_Add : FuncId := 125
/- zeitnot/sat.Add -/
def T_sat_Add (v : List Value) : Tree :=
 .call false 130 [g v 0,g v 1] [] [] .one fun l0 _ =>
 .call false 129 [g l0 0,g v 2] [] [] .one fun l1 _ =>
 .ret (g l1 0) []
theorem T_sat_Add_eq (vs : List Value) : sxFun PP Tryz.f125 (mkOpts okL [(43, [5, 6, 7, 8])] [] []) vs = T_sat_Add vs := by kernel_rfl
theorem run_sat_Add {args vs} (ha : entryArgs PP Tryz.f125 args = some vs) (ho : Ones vs) {H O Q} (h : (T_sat_Add vs).den PP Q H O) : Triple PP F_sat_Add args H O Q :=
 triple_run mixed (mkOpts_ok okL_ok _ _ _) Tryz.func125 T_sat_Add_eq ha ho h
abbrev F_sat_Clamp : FuncId := 129
/- zeitnot/sat.Clamp -/
def T_sat_Clamp (v : List Value) : Tree :=
 .pure [] .min2 [g v 0,g v 1] fun v0 =>
 .pure [] .max2 [(.int .i64 0),v0] fun v1 =>
 .ret v1 []
theorem T_sat_Clamp_eq (vs : List Value) : sxFun PP Tryz.f129 (mkOpts okL [(43, [5, 6, 7, 8])] [] []) vs = T_sat_Clamp vs := by kernel_rfl
theorem run_sat_Clamp {args vs} (ha : entryArgs PP Tryz.f129 args = some vs) (ho : Ones vs) {H O Q} (h : (T_sat_Clamp vs).den PP Q H O) : Triple PP F_sat_Clamp args H O Q :=
 triple_run mixed (mkOpts_ok okL_ok _ _ _) Tryz.func129 T_sat_Clamp_eq ha ho h
abbrev F_sat_plus : FuncId := 130
/- zeitnot/sat.plus -/
def T_sat_plus (v : List Value) : Tree :=
 .pure [] (.bin .add .int) [g v 0,g v 1] fun v0 =>
 .pure [] (.bin .gtr .int) [g v 0,(.int .i64 0)] fun v1 =>
 .chk (.eqV v1 v1) <|
 .pure [] (.bin .gtr .int) [g v 1,(.int .i64 0)] fun v2 =>
 .chk (.eqV v1 v1) <|
 .pure [] .pick [v1,v2,(.bool false)] fun v3 =>
 .chk (.eqV v3 v3) <|
 .pure [] (.bin .leq .int) [v0,(.int .i64 0)] fun v4 =>
 .chk (.eqV v3 v3) <|
 .pure [] .pick [v3,v4,(.bool false)] fun v5 =>
 .br v5 (
 .ret (.int .i64 9223372036854775807) []) (
 .pure [] (.bin .lss .int) [g v 0,(.int .i64 0)] fun v6 =>
 .chk (.eqV v6 v6) <|
 .pure [] (.bin .lss .int) [g v 1,(.int .i64 0)] fun v7 =>
 .chk (.eqV v6 v6) <|
 .pure [] .pick [v6,v7,(.bool false)] fun v8 =>
 .chk (.eqV v8 v8) <|
 .pure [] (.bin .geq .int) [v0,(.int .i64 0)] fun v9 =>
 .chk (.eqV v8 v8) <|
 .pure [] .pick [v8,v9,(.bool false)] fun v10 =>
 .br v10 (
 .ret (.int .i64 (-9223372036854775808)) []) (
 .ret v0 []))
theorem T_sat_plus_eq (vs : List Value) : sxFun PP Tryz.f130 (mkOpts okL [(43, [5, 6, 7, 8])] [] []) vs = T_sat_plus vs := by kernel_rfl
theorem run_sat_plus {args vs} (ha : entryArgs PP Tryz.f130 args = some vs) (ho : Ones vs) {H O Q} (h : (T_sat_plus vs).den PP Q H O) : Triple PP F_sat_plus args H O Q :=
 triple_run mixed (mkOpts_ok okL_ok _ _ _) Tryz.func130 T_sat_plus_eq ha ho h
end Go.Proofs.YtjaegdkkiefchaaGreatDoor
