/- The trees of the functions of this seat: printed by a tool of mine; each by the kernel's reckoning equal to the evaluator's. -/
import Derived.Test.YtbaegnnmedjkmaaGreatBT1
namespace Go.Proofs.YtbaegnnmedjkmaaGreat
open Go Go.Sx
set_option maxRecDepth 100000
abbrev F_mana_within : FuncId := 63
/- zeitnot/mana.within -/
def T_mana_within (v : List Value) : Tree :=
 .newbox fun r0 =>
 .chk (.eqN r0 r0) <|
 .loop 4 2 [(.int .i64 0)] fun C4 l0 =>
 .pure [] (.bin .lss .int) [g l0 0,(.int .i64 4)] fun v1 =>
 .br v1 (
 .pure [] .aidx [g l0 0,g v 0,g v 1,g v 2,g v 3] fun v2 =>
 .pure [] (.bin .lss .int) [v2,(.int .i64 0)] fun v3 =>
 .chk (.eqV v3 v3) <|
 .chk (.eqV v3 v3) <|
 .pure [] (.bin .gtr .int) [v2,g v 4] fun v4 =>
 .chk (.eqV v3 v3) <|
 .pure [] .pick [v3,(.bool true),v4] fun v5 =>
 .br v5 (
 .ret (.bool false) []) (
 .pure [] (.bin .add .int) [g l0 0,(.int .i64 1)] fun v6 =>
 .cont 4 C4 [v6] [E [g v 4],E [g v 0,g v 1,g v 2,g v 3]])) (
 .ret (.bool true) [])
theorem T_mana_within_eq (vs : List Value) : sxFun PP Tryz.f63 (mkOpts okL [(69, [5, 6, 7, 8])] [(2, .inv [8] [1, 7] [])] []) vs = T_mana_within vs := by kernel_rfl
theorem run_mana_within {args vs} (ha : entryArgs PP Tryz.f63 args = some vs) (ho : Ones vs) {H O Q} (h : (T_mana_within vs).den PP Q H O) : Triple PP F_mana_within args H O Q :=
 triple_run mixed (mkOpts_ok okL_ok _ _ _) Tryz.func63 T_mana_within_eq ha ho h
abbrev F_slices_IndexFunc_api_Item_api_Item : FuncId := 64
/- slices.IndexFunc[[]zeitnot/api.Item,zeitnot/api.Item] -/
def T_slices_IndexFunc_api_Item_api_Item (v : List Value) : Tree :=
 .pure [] .len [g v 0] fun v0 =>
 .loop 4 2 [(.int .i64 0)] fun C4 l1 =>
 .pure [] (.bin .lss .int) [g l1 0,v0] fun v2 =>
 .br v2 (
 .pure [] (.idx 5) [g v 0,g l1 0] fun v3 =>
 .load [] v3 5 fun l4 =>
 .callv false (g v 1) [(.agg #[g l4 0,g l4 1,g l4 2,g l4 3,g l4 4])] [] [] .one fun l5 _ =>
 .br (g l5 0) (
 .ret (g l1 0) []) (
 .pure [] (.bin .add .int) [g l1 0,(.int .i64 1)] fun v6 =>
 .cont 4 C4 [v6] [E [g v 0],E [g v 1],E [v0]])) (
 .ret (.int .i64 (-1)) [])
theorem T_slices_IndexFunc_api_Item_api_Item_eq (vs : List Value) : sxFun PP Tryz.f64 (mkOpts okL [(69, [5, 6, 7, 8])] [(2, .inv [8] [0, 1, 7] [])] []) vs = T_slices_IndexFunc_api_Item_api_Item vs := by kernel_rfl
theorem run_slices_IndexFunc_api_Item_api_Item {args vs} (ha : entryArgs PP Tryz.f64 args = some vs) (ho : Ones vs) {H O Q} (h : (T_slices_IndexFunc_api_Item_api_Item vs).den PP Q H O) : Triple PP F_slices_IndexFunc_api_Item_api_Item args H O Q :=
 triple_run mixed (mkOpts_ok okL_ok _ _ _) Tryz.func64 T_slices_IndexFunc_api_Item_api_Item_eq ha ho h
abbrev F_slices_ContainsFunc_api_Target_api_Target : FuncId := 65
/- slices.ContainsFunc[[]zeitnot/api.Target,zeitnot/api.Target] -/
def T_slices_ContainsFunc_api_Target_api_Target (v : List Value) : Tree :=
 .call false 83 [g v 0,g v 1] [] [] .one fun l0 _ =>
 .pure [] (.bin .geq .int) [g l0 0,(.int .i64 0)] fun v1 =>
 .ret v1 []
theorem T_slices_ContainsFunc_api_Target_api_Target_eq (vs : List Value) : sxFun PP Tryz.f65 (mkOpts okL [(69, [5, 6, 7, 8])] [] []) vs = T_slices_ContainsFunc_api_Target_api_Target vs := by kernel_rfl
theorem run_slices_ContainsFunc_api_Target_api_Target {args vs} (ha : entryArgs PP Tryz.f65 args = some vs) (ho : Ones vs) {H O Q} (h : (T_slices_ContainsFunc_api_Target_api_Target vs).den PP Q H O) : Triple PP F_slices_ContainsFunc_api_Target_api_Target args H O Q :=
 triple_run mixed (mkOpts_ok okL_ok _ _ _) Tryz.func65 T_slices_ContainsFunc_api_Target_api_Target_eq ha ho h
abbrev F_board_fine_1 : FuncId := 66
/- zeitnot/board.fine$1 -/
def T_board_fine_1 (v : List Value) : Tree :=
 .newbox fun r0 =>
 .chk (.eqN r0 r0) <|
 .call false 67 [(.agg #[g v 0,g v 1])] [] [] .one fun l0 _ =>
 .pure [] .not [g l0 0] fun v1 =>
 .ret v1 []
theorem T_board_fine_1_eq (vs : List Value) : sxFun PP Tryz.f66 (mkOpts okL [(69, [5, 6, 7, 8])] [] []) vs = T_board_fine_1 vs := by kernel_rfl
theorem run_board_fine_1 {args vs} (ha : entryArgs PP Tryz.f66 args = some vs) (ho : Ones vs) {H O Q} (h : (T_board_fine_1 vs).den PP Q H O) : Triple PP F_board_fine_1 args H O Q :=
 triple_run mixed (mkOpts_ok okL_ok _ _ _) Tryz.func66 T_board_fine_1_eq ha ho h
abbrev F_board_aimed : FuncId := 67
/- zeitnot/board.aimed -/
def T_board_aimed (v : List Value) : Tree :=
 .newbox fun r0 =>
 .chk (.eqN r0 r0) <|
 .call false 35 [g v 0,(.int .i64 0),(.int .i64 500)] [] [] .one fun l0 _ =>
 .br (g l0 0) (
 .chk (.eqN r0 r0) <|
 .call false 35 [g v 1,(.int .i64 0),(.int .i64 1)] [] [] .one fun l1 _ =>
 .chk (.eqN r0 r0) <|
 .chk (.eqV (g l1 0) (g l1 0)) <|
 .chk (.eqV (g l1 0) (g l1 0)) <|
 .pure [] (.bin .eql .int) [g v 0,(.int .i64 0)] fun v2 =>
 .chk (.eqV (g l1 0) (g l1 0)) <|
 .chk (.eqN r0 r0) <|
 .chk (.eqV v2 v2) <|
 .chk (.eqV (g l1 0) (g l1 0)) <|
 .chk (.eqV v2 v2) <|
 .chk (.eqV (g l1 0) (g l1 0)) <|
 .pure [] (.bin .eql .int) [g v 1,(.int .i64 0)] fun v3 =>
 .chk (.eqV (g l1 0) (g l1 0)) <|
 .chk (.eqV v2 v2) <|
 .chk (.eqV (g l1 0) (g l1 0)) <|
 .pure [] .pick [v2,(.bool true),v3] fun v4 =>
 .chk (.eqV (g l1 0) (g l1 0)) <|
 .pure [] .pick [g l1 0,v4,(.bool false)] fun v5 =>
 .ret v5 []) (
 .ret (.bool false) [])
theorem T_board_aimed_eq (vs : List Value) : sxFun PP Tryz.f67 (mkOpts okL [(69, [5, 6, 7, 8])] [] []) vs = T_board_aimed vs := by kernel_rfl
theorem run_board_aimed {args vs} (ha : entryArgs PP Tryz.f67 args = some vs) (ho : Ones vs) {H O Q} (h : (T_board_aimed vs).den PP Q H O) : Triple PP F_board_aimed args H O Q :=
 triple_run mixed (mkOpts_ok okL_ok _ _ _) Tryz.func67 T_board_aimed_eq ha ho h
abbrev F_board_placed_1 : FuncId := 68
/- zeitnot/board.placed$1 -/
def T_board_placed_1 (v : List Value) : Tree :=
 .load [] (g v 2) 1 fun l0 =>
 .prim (.lookup 117 true) [g l0 0,g v 0] [] [] (.tup [none,none]) fun l1 _ =>
 .load [] (g v 2) 1 fun l2 =>
 .prim (.mapUpdate 117) [g l2 0,g v 0,g v 1] [] [] .one fun l3 _ =>
 .pure [] .not [g l1 1] fun v4 =>
 .ret v4 []
theorem T_board_placed_1_eq (vs : List Value) : sxFun PP Tryz.f68 (mkOpts okL [(69, [5, 6, 7, 8])] [] []) vs = T_board_placed_1 vs := by kernel_rfl
theorem run_board_placed_1 {args vs} (ha : entryArgs PP Tryz.f68 args = some vs) (ho : Ones vs) {H O Q} (h : (T_board_placed_1 vs).den PP Q H O) : Triple PP F_board_placed_1 args H O Q :=
 triple_run mixed (mkOpts_ok okL_ok _ _ _) Tryz.func68 T_board_placed_1_eq ha ho h
abbrev F_board_lists : FuncId := 69
/- zeitnot/board.lists -/
def T_board_lists (v : List Value) : Tree :=
 .newbox fun r0 =>
 .chk (.ptr [] (g v 0)) <|
 .chk (.ptr [] (g v 0)) <|
 .chk (.ptr [] (g v 0)) <|
 .chk (.ptr [] (g v 0)) <|
 .chk (.ptr [] (g v 0)) <|
 .chk (.ptr [] (g v 0)) <|
 .chk (.ptr [] (g v 0)) <|
 .chk (.ptr [] (g v 0)) <|
 .chk (.eqN r0 r0) <|
 .chk (.eqN r0 r0) <|
 .ret (.agg #[(ptrAdd (g v 0) 5),(ptrAdd (g v 0) 6),(ptrAdd (g v 0) 7),(ptrAdd (g v 0) 8)]) []
theorem T_board_lists_eq (vs : List Value) : sxFun PP Tryz.f69 (mkOpts okL [(69, [5, 6, 7, 8])] [] []) vs = T_board_lists vs := by kernel_rfl
theorem run_board_lists {args vs} (ha : entryArgs PP Tryz.f69 args = some vs) (ho : Ones vs) {H O Q} (h : (T_board_lists vs).den PP Q H O) : Triple PP F_board_lists args H O Q :=
 triple_run mixed (mkOpts_ok okL_ok _ _ _) Tryz.func69 T_board_lists_eq ha ho h
abbrev F_object_Valid : FuncId := 70
/- zeitnot/object.Valid -/
def T_object_Valid (v : List Value) : Tree :=
 .newbox fun r0 =>
 .chk (.eqN r0 r0) <|
 .chk (.eqN r0 r0) <|
 .chk (.eqN r0 r0) <|
 .chk (.eqN r0 r0) <|
 .chk (.eqN r0 r0) <|
 .chk (.eqN r0 r0) <|
 .loop 16 2 [(.int .i64 0)] fun C16 l0 =>
 .pure [] (.bin .lss .int) [g l0 0,(.int .i64 6)] fun v1 =>
 .br v1 (
 .pure [] .aidx [g l0 0,g v 3,g v 4,g v 5,g v 6,g v 7,g v 8] fun v2 =>
 .pure [] (.bin .lss .int) [v2,(.int .i64 0)] fun v3 =>
 .chk (.eqV v3 v3) <|
 .pure [] (.bin .gtr .int) [v2,(.int .i64 99)] fun v4 =>
 .chk (.eqV v3 v3) <|
 .pure [] .pick [v3,(.bool true),v4] fun v5 =>
 .br v5 (
 .ret (.bool false) []) (
 .pure [] (.bin .add .int) [g l0 0,(.int .i64 1)] fun v6 =>
 .cont 16 C16 [v6] [E [(.pointer (some ⟨r0,0,none⟩))],E [g v 3,g v 4,g v 5,g v 6,g v 7,g v 8],E [(.pointer (some ⟨r0,0,none⟩)),g v 0,g v 1,g v 2,g v 3,g v 4,g v 5,g v 6,g v 7,g v 8,g v 9,g v 10,g v 11]])) (
 .chk (.eqN r0 r0) <|
 .pure [] (.bin .eql .int) [g v 1,(.int .i64 (-1))] fun v7 =>
 .chk (.eqN r0 r0) <|
 .chk (.eqV v7 v7) <|
 .chk (.eqV v7 v7) <|
 .pure [] (.bin .eql .int) [g v 3,(.int .i64 0)] fun v8 =>
 .chk (.eqV v7 v7) <|
 .chk (.eqN r0 r0) <|
 .chk (.eqV v8 v8) <|
 .chk (.eqV v7 v7) <|
 .chk (.eqV v8 v8) <|
 .chk (.eqV v7 v7) <|
 .pure [] (.bin .eql .int) [g v 4,(.int .i64 0)] fun v9 =>
 .chk (.eqV v7 v7) <|
 .chk (.eqV v8 v8) <|
 .chk (.eqV v7 v7) <|
 .pure [] .pick [v8,v9,(.bool false)] fun v10 =>
 .chk (.eqV v7 v7) <|
 .pure [] .pick [v7,(.bool true),v10] fun v11 =>
 .chk (.eqN r0 r0) <|
 .chk (.eqV v11 v11) <|
 .chk (.eqV v11 v11) <|
 .pure [] (.bin .geq .int) [g v 0,(.int .i64 1)] fun v12 =>
 .chk (.eqV v11 v11) <|
 .pure [] .pick [v11,v12,(.bool false)] fun v13 =>
 .chk (.eqN r0 r0) <|
 .chk (.eqV v13 v13) <|
 .chk (.eqV v13 v13) <|
 .pure [] (.bin .leq .int) [g v 0,(.int .i64 500)] fun v14 =>
 .chk (.eqV v13 v13) <|
 .pure [] .pick [v13,v14,(.bool false)] fun v15 =>
 .chk (.eqN r0 r0) <|
 .chk (.eqV v15 v15) <|
 .chk (.eqV v15 v15) <|
 .pure [] (.bin .geq .int) [g v 1,(.int .i64 (-1))] fun v16 =>
 .chk (.eqV v15 v15) <|
 .pure [] .pick [v15,v16,(.bool false)] fun v17 =>
 .chk (.eqN r0 r0) <|
 .chk (.eqV v17 v17) <|
 .chk (.eqV v17 v17) <|
 .pure [] (.bin .lss .int) [g v 1,(.int .i64 400)] fun v18 =>
 .chk (.eqV v17 v17) <|
 .pure [] .pick [v17,v18,(.bool false)] fun v19 =>
 .chk (.eqN r0 r0) <|
 .chk (.eqV v19 v19) <|
 .chk (.eqV v19 v19) <|
 .pure [] (.bin .eql .int) [g v 2,(.int .i64 0)] fun v20 =>
 .chk (.eqV v19 v19) <|
 .chk (.eqN r0 r0) <|
 .chk (.eqV v20 v20) <|
 .chk (.eqV v19 v19) <|
 .chk (.eqV v20 v20) <|
 .chk (.eqV v19 v19) <|
 .pure [] (.bin .eql .int) [g v 2,(.int .i64 1)] fun v21 =>
 .chk (.eqV v19 v19) <|
 .chk (.eqV v20 v20) <|
 .chk (.eqV v19 v19) <|
 .pure [] .pick [v20,(.bool true),v21] fun v22 =>
 .chk (.eqV v19 v19) <|
 .pure [] .pick [v19,v22,(.bool false)] fun v23 =>
 .ret v23 [])
theorem T_object_Valid_eq (vs : List Value) : sxFun PP Tryz.f70 (mkOpts okL [(69, [5, 6, 7, 8])] [(2, .inv [19] [1, 18] [(1, [])])] []) vs = T_object_Valid vs := by kernel_rfl
theorem run_object_Valid {args vs} (ha : entryArgs PP Tryz.f70 args = some vs) (ho : Ones vs) {H O Q} (h : (T_object_Valid vs).den PP Q H O) : Triple PP F_object_Valid args H O Q :=
 triple_run mixed (mkOpts_ok okL_ok _ _ _) Tryz.func70 T_object_Valid_eq ha ho h
abbrev F_slices_Contains_int_int : FuncId := 71
/- slices.Contains[[]int,int] -/
def T_slices_Contains_int_int (v : List Value) : Tree :=
 .call false 84 [g v 0,g v 1] [] [] .one fun l0 _ =>
 .pure [] (.bin .geq .int) [g l0 0,(.int .i64 0)] fun v1 =>
 .ret v1 []
theorem T_slices_Contains_int_int_eq (vs : List Value) : sxFun PP Tryz.f71 (mkOpts okL [(69, [5, 6, 7, 8])] [] []) vs = T_slices_Contains_int_int vs := by kernel_rfl
theorem run_slices_Contains_int_int {args vs} (ha : entryArgs PP Tryz.f71 args = some vs) (ho : Ones vs) {H O Q} (h : (T_slices_Contains_int_int vs).den PP Q H O) : Triple PP F_slices_Contains_int_int args H O Q :=
 triple_run mixed (mkOpts_ok okL_ok _ _ _) Tryz.func71 T_slices_Contains_int_int_eq ha ho h
abbrev F_object_Creature : FuncId := 75
/- zeitnot/object.Creature -/
def T_object_Creature (v : List Value) : Tree :=
 .newbox fun r0 =>
 .chk (.eqN r0 r0) <|
 .pure [] (.bin .eql .int) [g v 2,(.int .i64 (-1))] fun v0 =>
 .br v0 (
 .ret (.bool true) []) (
 .chk (.eqN r0 r0) <|
 .call false 95 [g v 0,(.agg #[g v 1,g v 2,g v 3,g v 4,g v 5,g v 6,g v 7,g v 8,g v 9,g v 10,g v 11,g v 12])] [] [] (.agg 14) fun l1 _ =>
 .pure [] (.bin .eql .int) [g l1 1,(.int .i64 2)] fun v2 =>
 .ret v2 [])
theorem T_object_Creature_eq (vs : List Value) : sxFun PP Tryz.f75 (mkOpts okL [(69, [5, 6, 7, 8])] [] []) vs = T_object_Creature vs := by kernel_rfl
theorem run_object_Creature {args vs} (ha : entryArgs PP Tryz.f75 args = some vs) (ho : Ones vs) {H O Q} (h : (T_object_Creature vs).den PP Q H O) : Triple PP F_object_Creature args H O Q :=
 triple_run mixed (mkOpts_ok okL_ok _ _ _) Tryz.func75 T_object_Creature_eq ha ho h
abbrev F_object_Card : FuncId := 76
/- zeitnot/object.Card -/
def T_object_Card (v : List Value) : Tree :=
 .newbox fun r0 =>
 .newbox fun r1 =>
 .chk (.eqN r0 r0) <|
 .call false 95 [g v 0,(.agg #[g v 1,g v 2,g v 3,g v 4,g v 5,g v 6,g v 7,g v 8,g v 9,g v 10,g v 11,g v 12])] [] [] (.agg 14) fun l0 _ =>
 .call false 96 [(.agg #[g l0 0,g l0 1,g l0 2,g l0 3,g l0 4,g l0 5,g l0 6,g l0 7,g l0 8,g l0 9,g l0 10,g l0 11,g l0 12,g l0 13])] [] [] (.agg 14) fun l1 _ =>
 .chk (.eqN r1 r1) <|
 .chk (.eqN r1 r1) <|
 .ret (.agg #[g l1 0,g l1 1,g l1 2,g l1 3,g l1 4,g l1 5,g l1 6,g l1 7,g l1 8,g l1 9,g l1 10,g l1 11,g l1 12,g l1 13]) []
theorem T_object_Card_eq (vs : List Value) : sxFun PP Tryz.f76 (mkOpts okL [(69, [5, 6, 7, 8])] [] []) vs = T_object_Card vs := by kernel_rfl
theorem run_object_Card {args vs} (ha : entryArgs PP Tryz.f76 args = some vs) (ho : Ones vs) {H O Q} (h : (T_object_Card vs).den PP Q H O) : Triple PP F_object_Card args H O Q :=
 triple_run mixed (mkOpts_ok okL_ok _ _ _) Tryz.func76 T_object_Card_eq ha ho h
abbrev F_effect_Targets : FuncId := 77
/- zeitnot/effect.Targets -/
def T_effect_Targets (v : List Value) : Tree :=
 .pure [] .len [g v 0] fun v0 =>
 .loop 5 3 [(.int .i64 0),(.int .i64 0)] fun C5 l1 =>
 .pure [] (.bin .lss .int) [g l1 1,v0] fun v2 =>
 .br v2 (
 .pure [] (.idx 5) [g v 0,g l1 1] fun v3 =>
 .load [] v3 5 fun l4 =>
 .newbox fun r0 =>
 .chk (.eqN r0 r0) <|
 .chk (.eqN r0 r0) <|
 .pure [] (.bin .neq .int) [g l4 1,(.int .i64 0)] fun v5 =>
 .br v5 (
 .pure [] (.bin .add .int) [g l1 0,(.int .i64 1)] fun v6 =>
 .pure [] (.bin .add .int) [g l1 1,(.int .i64 1)] fun v7 =>
 .cont 5 C5 [v6,v7] [E [g v 0],E [v0]]) (
 .pure [] (.bin .add .int) [g l1 1,(.int .i64 1)] fun v8 =>
 .cont 5 C5 [g l1 0,v8] [E [g v 0],E [v0]])) (
 .ret (g l1 0) [])
theorem T_effect_Targets_eq (vs : List Value) : sxFun PP Tryz.f77 (mkOpts okL [(69, [5, 6, 7, 8])] [(3, .inv [3, 8] [6, 7] [])] []) vs = T_effect_Targets vs := by kernel_rfl
theorem run_effect_Targets {args vs} (ha : entryArgs PP Tryz.f77 args = some vs) (ho : Ones vs) {H O Q} (h : (T_effect_Targets vs).den PP Q H O) : Triple PP F_effect_Targets args H O Q :=
 triple_run mixed (mkOpts_ok okL_ok _ _ _) Tryz.func77 T_effect_Targets_eq ha ho h
abbrev F_zeitnotref14_Valid : FuncId := 78
/- zeitnot/zeitnotref14.Valid -/
def T_zeitnotref14_Valid (v : List Value) : Tree :=
 .newbox fun r0 =>
 .chk (.eqN r0 r0) <|
 .pure [] (.bin .lss .int) [g v 0,(.int .i64 1)] fun v0 =>
 .chk (.eqN r0 r0) <|
 .chk (.eqV v0 v0) <|
 .chk (.eqV v0 v0) <|
 .pure [] (.bin .gtr .int) [g v 0,(.int .i64 500)] fun v1 =>
 .chk (.eqV v0 v0) <|
 .pure [] .pick [v0,(.bool true),v1] fun v2 =>
 .chk (.eqN r0 r0) <|
 .chk (.eqV v2 v2) <|
 .chk (.eqV v2 v2) <|
 .pure [] (.bin .lss .int) [g v 1,(.int .i64 (-1))] fun v3 =>
 .chk (.eqV v2 v2) <|
 .pure [] .pick [v2,(.bool true),v3] fun v4 =>
 .chk (.eqN r0 r0) <|
 .chk (.eqV v4 v4) <|
 .chk (.eqV v4 v4) <|
 .pure [] (.bin .gtr .int) [g v 1,(.int .i64 399)] fun v5 =>
 .chk (.eqV v4 v4) <|
 .pure [] .pick [v4,(.bool true),v5] fun v6 =>
 .chk (.eqN r0 r0) <|
 .chk (.eqV v6 v6) <|
 .chk (.eqV v6 v6) <|
 .pure [] (.bin .lss .int) [g v 2,(.int .i64 0)] fun v7 =>
 .chk (.eqV v6 v6) <|
 .pure [] .pick [v6,(.bool true),v7] fun v8 =>
 .chk (.eqN r0 r0) <|
 .chk (.eqV v8 v8) <|
 .chk (.eqV v8 v8) <|
 .pure [] (.bin .gtr .int) [g v 2,(.int .i64 1)] fun v9 =>
 .chk (.eqV v8 v8) <|
 .pure [] .pick [v8,(.bool true),v9] fun v10 =>
 .br v10 (
 .ret (.bool false) []) (
 .chk (.eqN r0 r0) <|
 .pure [] (.bin .geq .int) [g v 1,(.int .i64 0)] fun v11 =>
 .chk (.eqN r0 r0) <|
 .chk (.eqV v11 v11) <|
 .chk (.eqV v11 v11) <|
 .pure [] (.bin .neq .int) [g v 3,(.int .i64 0)] fun v12 =>
 .chk (.eqV v11 v11) <|
 .chk (.eqN r0 r0) <|
 .chk (.eqV v12 v12) <|
 .chk (.eqV v11 v11) <|
 .chk (.eqV v12 v12) <|
 .chk (.eqV v11 v11) <|
 .pure [] (.bin .neq .int) [g v 4,(.int .i64 0)] fun v13 =>
 .chk (.eqV v11 v11) <|
 .chk (.eqV v12 v12) <|
 .chk (.eqV v11 v11) <|
 .pure [] .pick [v12,(.bool true),v13] fun v14 =>
 .chk (.eqV v11 v11) <|
 .pure [] .pick [v11,v14,(.bool false)] fun v15 =>
 .br v15 (
 .ret (.bool false) []) (
 .chk (.eqN r0 r0) <|
 .call false 97 [g v 3] [] [] .one fun l16 _ =>
 .br (g l16 0) (
 .chk (.eqN r0 r0) <|
 .call false 97 [g v 4] [] [] .one fun l17 _ =>
 .br (g l17 0) (
 .chk (.eqN r0 r0) <|
 .call false 97 [g v 5] [] [] .one fun l18 _ =>
 .br (g l18 0) (
 .chk (.eqN r0 r0) <|
 .call false 97 [g v 6] [] [] .one fun l19 _ =>
 .br (g l19 0) (
 .chk (.eqN r0 r0) <|
 .call false 97 [g v 7] [] [] .one fun l20 _ =>
 .br (g l20 0) (
 .chk (.eqN r0 r0) <|
 .call false 97 [g v 8] [] [] .one fun l21 _ =>
 .ret (g l21 0) []) (
 .ret (.bool false) [])) (
 .ret (.bool false) [])) (
 .ret (.bool false) [])) (
 .ret (.bool false) [])) (
 .ret (.bool false) [])))
theorem T_zeitnotref14_Valid_eq (vs : List Value) : sxFun PP Tryz.f78 (mkOpts okL [(69, [5, 6, 7, 8])] [] []) vs = T_zeitnotref14_Valid vs := by kernel_rfl
theorem run_zeitnotref14_Valid {args vs} (ha : entryArgs PP Tryz.f78 args = some vs) (ho : Ones vs) {H O Q} (h : (T_zeitnotref14_Valid vs).den PP Q H O) : Triple PP F_zeitnotref14_Valid args H O Q :=
 triple_run mixed (mkOpts_ok okL_ok _ _ _) Tryz.func78 T_zeitnotref14_Valid_eq ha ho h
abbrev F_zeitnotref15_places : FuncId := 79
/- zeitnot/zeitnotref15.places -/
def T_zeitnotref15_places (v : List Value) : Tree :=
 .newbox fun r0 =>
 .sw (g v 38) 0 (
 .chk (.eqN r0 r0) <|
 .call false 14 [(.agg #[g v 1,g v 2,g v 3,g v 4,g v 5,g v 6,g v 7,g v 8,g v 9,g v 10,g v 11,g v 12,g v 13,g v 14])] [] [] (.agg 4) fun l0 _ =>
 .call false 80 [g l0 0,g v 39] [] [] .one fun l1 _ =>
 .pure [] (.bin .add .int) [(.int .i64 0),g l1 0] fun v2 =>
 .call false 80 [g l0 1,g v 39] [] [] .one fun l3 _ =>
 .pure [] (.bin .add .int) [v2,g l3 0] fun v4 =>
 .call false 80 [g l0 2,g v 39] [] [] .one fun l5 _ =>
 .pure [] (.bin .add .int) [v4,g l5 0] fun v6 =>
 .call false 80 [g l0 3,g v 39] [] [] .one fun l7 _ =>
 .pure [] (.bin .add .int) [v6,g l7 0] fun v8 =>
 .loop 55 8 [v8,(.int .i64 0)] fun C55 l9 =>
 .chk (.eqN r0 r0) <|
 .pure [] .len [g v 29] fun v10 =>
 .pure [] (.bin .lss .int) [g l9 1,v10] fun v11 =>
 .br v11 (
 .chk (.eqN r0 r0) <|
 .pure [] (.idx 5) [g v 29,g l9 1] fun v12 =>
 .load [] v12 5 fun l13 =>
 .newbox fun r1 =>
 .chk (.eqN r1 r1) <|
 .chk (.eqN r1 r1) <|
 .pure [] (.bin .eql .int) [g l13 3,(.int .i64 (-1))] fun v14 =>
 .chk (.eqN r1 r1) <|
 .chk (.eqV v14 v14) <|
 .chk (.eqV v14 v14) <|
 .chk (.eqV v14 v14) <|
 .pure [] (.bin .eql .int) [g l13 1,g v 39] fun v15 =>
 .chk (.eqV v14 v14) <|
 .pure [] .pick [v14,v15,(.bool false)] fun v16 =>
 .chk (.eqN r1 r1) <|
 .chk (.eqV v16 v16) <|
 .chk (.eqV v16 v16) <|
 .chk (.eqV v16 v16) <|
 .pure [] (.bin .eql .int) [g l13 0,g v 38] fun v17 =>
 .chk (.eqV v16 v16) <|
 .pure [] .pick [v16,v17,(.bool false)] fun v18 =>
 .br v18 (
 .pure [] (.bin .add .int) [g l9 0,(.int .i64 1)] fun v19 =>
 .pure [] (.bin .add .int) [g l9 1,(.int .i64 1)] fun v20 =>
 .cont 55 C55 [v19,v20] [E [g v 38],E [g v 39],E [(.pointer (some ⟨r0,0,none⟩))],E [(.pointer (some ⟨r0,0,none⟩)),g v 0,g v 1,g v 2,g v 3,g v 4,g v 5,g v 6,g v 7,g v 8,g v 9,g v 10,g v 11,g v 12,g v 13,g v 14,g v 15,g v 16,g v 17,g v 18,g v 19,g v 20,g v 21,g v 22,g v 23,g v 24,g v 25,g v 26,g v 27,g v 28,g v 29,g v 30,g v 31,g v 32,g v 33,g v 34,g v 35,g v 36,g v 37]]) (
 .pure [] (.bin .add .int) [g l9 1,(.int .i64 1)] fun v21 =>
 .cont 55 C55 [g l9 0,v21] [E [g v 38],E [g v 39],E [(.pointer (some ⟨r0,0,none⟩))],E [(.pointer (some ⟨r0,0,none⟩)),g v 0,g v 1,g v 2,g v 3,g v 4,g v 5,g v 6,g v 7,g v 8,g v 9,g v 10,g v 11,g v 12,g v 13,g v 14,g v 15,g v 16,g v 17,g v 18,g v 19,g v 20,g v 21,g v 22,g v 23,g v 24,g v 25,g v 26,g v 27,g v 28,g v 29,g v 30,g v 31,g v 32,g v 33,g v 34,g v 35,g v 36,g v 37]])) (
 .ret (g l9 0) [])) (
 .sw (g v 38) 1 (
 .chk (.eqN r0 r0) <|
 .call false 14 [(.agg #[g v 15,g v 16,g v 17,g v 18,g v 19,g v 20,g v 21,g v 22,g v 23,g v 24,g v 25,g v 26,g v 27,g v 28])] [] [] (.agg 4) fun l22 _ =>
 .call false 80 [g l22 0,g v 39] [] [] .one fun l23 _ =>
 .pure [] (.bin .add .int) [(.int .i64 0),g l23 0] fun v24 =>
 .call false 80 [g l22 1,g v 39] [] [] .one fun l25 _ =>
 .pure [] (.bin .add .int) [v24,g l25 0] fun v26 =>
 .call false 80 [g l22 2,g v 39] [] [] .one fun l27 _ =>
 .pure [] (.bin .add .int) [v26,g l27 0] fun v28 =>
 .call false 80 [g l22 3,g v 39] [] [] .one fun l29 _ =>
 .pure [] (.bin .add .int) [v28,g l29 0] fun v30 =>
 .loop 55 8 [v30,(.int .i64 0)] fun C55 l31 =>
 .chk (.eqN r0 r0) <|
 .pure [] .len [g v 29] fun v32 =>
 .pure [] (.bin .lss .int) [g l31 1,v32] fun v33 =>
 .br v33 (
 .chk (.eqN r0 r0) <|
 .pure [] (.idx 5) [g v 29,g l31 1] fun v34 =>
 .load [] v34 5 fun l35 =>
 .newbox fun r2 =>
 .chk (.eqN r2 r2) <|
 .chk (.eqN r2 r2) <|
 .pure [] (.bin .eql .int) [g l35 3,(.int .i64 (-1))] fun v36 =>
 .chk (.eqN r2 r2) <|
 .chk (.eqV v36 v36) <|
 .chk (.eqV v36 v36) <|
 .chk (.eqV v36 v36) <|
 .pure [] (.bin .eql .int) [g l35 1,g v 39] fun v37 =>
 .chk (.eqV v36 v36) <|
 .pure [] .pick [v36,v37,(.bool false)] fun v38 =>
 .chk (.eqN r2 r2) <|
 .chk (.eqV v38 v38) <|
 .chk (.eqV v38 v38) <|
 .chk (.eqV v38 v38) <|
 .pure [] (.bin .eql .int) [g l35 0,g v 38] fun v39 =>
 .chk (.eqV v38 v38) <|
 .pure [] .pick [v38,v39,(.bool false)] fun v40 =>
 .br v40 (
 .pure [] (.bin .add .int) [g l31 0,(.int .i64 1)] fun v41 =>
 .pure [] (.bin .add .int) [g l31 1,(.int .i64 1)] fun v42 =>
 .cont 55 C55 [v41,v42] [E [g v 38],E [g v 39],E [(.pointer (some ⟨r0,0,none⟩))],E [(.pointer (some ⟨r0,0,none⟩)),g v 0,g v 1,g v 2,g v 3,g v 4,g v 5,g v 6,g v 7,g v 8,g v 9,g v 10,g v 11,g v 12,g v 13,g v 14,g v 15,g v 16,g v 17,g v 18,g v 19,g v 20,g v 21,g v 22,g v 23,g v 24,g v 25,g v 26,g v 27,g v 28,g v 29,g v 30,g v 31,g v 32,g v 33,g v 34,g v 35,g v 36,g v 37]]) (
 .pure [] (.bin .add .int) [g l31 1,(.int .i64 1)] fun v43 =>
 .cont 55 C55 [g l31 0,v43] [E [g v 38],E [g v 39],E [(.pointer (some ⟨r0,0,none⟩))],E [(.pointer (some ⟨r0,0,none⟩)),g v 0,g v 1,g v 2,g v 3,g v 4,g v 5,g v 6,g v 7,g v 8,g v 9,g v 10,g v 11,g v 12,g v 13,g v 14,g v 15,g v 16,g v 17,g v 18,g v 19,g v 20,g v 21,g v 22,g v 23,g v 24,g v 25,g v 26,g v 27,g v 28,g v 29,g v 30,g v 31,g v 32,g v 33,g v 34,g v 35,g v 36,g v 37]])) (
 .ret (g l31 0) [])) (
 .stuck 901))
theorem T_zeitnotref15_places_eq (vs : List Value) : sxFun PP Tryz.f79 (mkOpts okL [(69, [5, 6, 7, 8])] [(3, .unroll 5), (8, .inv [7, 10] [1, 2, 3] [(3, [])])] []) vs = T_zeitnotref15_places vs := by kernel_rfl
theorem run_zeitnotref15_places {args vs} (ha : entryArgs PP Tryz.f79 args = some vs) (ho : Ones vs) {H O Q} (h : (T_zeitnotref15_places vs).den PP Q H O) : Triple PP F_zeitnotref15_places args H O Q :=
 triple_run mixed (mkOpts_ok okL_ok _ _ _) Tryz.func79 T_zeitnotref15_places_eq ha ho h
abbrev F_zeitnotref15_Count : FuncId := 80
/- zeitnot/zeitnotref15.Count -/
def T_zeitnotref15_Count (v : List Value) : Tree :=
 .loop 3 3 [(.int .i64 0),(.int .i64 0)] fun C3 l0 =>
 .pure [] .len [g v 0] fun v1 =>
 .pure [] (.bin .lss .int) [g l0 1,v1] fun v2 =>
 .br v2 (
 .pure [] (.idx 1) [g v 0,g l0 1] fun v3 =>
 .load [] v3 1 fun l4 =>
 .pure [] (.bin .eql .int) [g l4 0,g v 1] fun v5 =>
 .br v5 (
 .pure [] (.bin .add .int) [g l0 0,(.int .i64 1)] fun v6 =>
 .pure [] (.bin .add .int) [g l0 1,(.int .i64 1)] fun v7 =>
 .cont 3 C3 [v6,v7] [E [g v 0],E [g v 1]]) (
 .pure [] (.bin .add .int) [g l0 1,(.int .i64 1)] fun v8 =>
 .cont 3 C3 [g l0 0,v8] [E [g v 0],E [g v 1]])) (
 .ret (g l0 0) [])
theorem T_zeitnotref15_Count_eq (vs : List Value) : sxFun PP Tryz.f80 (mkOpts okL [(69, [5, 6, 7, 8])] [(3, .inv [5, 6] [0, 1] [])] []) vs = T_zeitnotref15_Count vs := by kernel_rfl
theorem run_zeitnotref15_Count {args vs} (ha : entryArgs PP Tryz.f80 args = some vs) (ho : Ones vs) {H O Q} (h : (T_zeitnotref15_Count vs).den PP Q H O) : Triple PP F_zeitnotref15_Count args H O Q :=
 triple_run mixed (mkOpts_ok okL_ok _ _ _) Tryz.func80 T_zeitnotref15_Count_eq ha ho h
abbrev F_slices_IndexFunc_api_Target_api_Target : FuncId := 83
/- slices.IndexFunc[[]zeitnot/api.Target,zeitnot/api.Target] -/
def T_slices_IndexFunc_api_Target_api_Target (v : List Value) : Tree :=
 .pure [] .len [g v 0] fun v0 =>
 .loop 4 2 [(.int .i64 0)] fun C4 l1 =>
 .pure [] (.bin .lss .int) [g l1 0,v0] fun v2 =>
 .br v2 (
 .pure [] (.idx 2) [g v 0,g l1 0] fun v3 =>
 .load [] v3 2 fun l4 =>
 .callv false (g v 1) [(.agg #[g l4 0,g l4 1])] [] [] .one fun l5 _ =>
 .br (g l5 0) (
 .ret (g l1 0) []) (
 .pure [] (.bin .add .int) [g l1 0,(.int .i64 1)] fun v6 =>
 .cont 4 C4 [v6] [E [g v 0],E [g v 1],E [v0]])) (
 .ret (.int .i64 (-1)) [])
theorem T_slices_IndexFunc_api_Target_api_Target_eq (vs : List Value) : sxFun PP Tryz.f83 (mkOpts okL [(69, [5, 6, 7, 8])] [(2, .inv [8] [0, 1, 7] [])] []) vs = T_slices_IndexFunc_api_Target_api_Target vs := by kernel_rfl
theorem run_slices_IndexFunc_api_Target_api_Target {args vs} (ha : entryArgs PP Tryz.f83 args = some vs) (ho : Ones vs) {H O Q} (h : (T_slices_IndexFunc_api_Target_api_Target vs).den PP Q H O) : Triple PP F_slices_IndexFunc_api_Target_api_Target args H O Q :=
 triple_run mixed (mkOpts_ok okL_ok _ _ _) Tryz.func83 T_slices_IndexFunc_api_Target_api_Target_eq ha ho h
abbrev F_slices_Index_int_int : FuncId := 84
/- slices.Index[[]int,int] -/
def T_slices_Index_int_int (v : List Value) : Tree :=
 .pure [] .len [g v 0] fun v0 =>
 .loop 4 2 [(.int .i64 0)] fun C4 l1 =>
 .pure [] (.bin .lss .int) [g l1 0,v0] fun v2 =>
 .br v2 (
 .pure [] (.idx 1) [g v 0,g l1 0] fun v3 =>
 .load [] v3 1 fun l4 =>
 .pure [] (.bin .eql .int) [g v 1,g l4 0] fun v5 =>
 .br v5 (
 .ret (g l1 0) []) (
 .pure [] (.bin .add .int) [g l1 0,(.int .i64 1)] fun v6 =>
 .cont 4 C4 [v6] [E [g v 0],E [g v 1],E [v0]])) (
 .ret (.int .i64 (-1)) [])
theorem T_slices_Index_int_int_eq (vs : List Value) : sxFun PP Tryz.f84 (mkOpts okL [(69, [5, 6, 7, 8])] [(2, .inv [8] [0, 1, 7] [])] []) vs = T_slices_Index_int_int vs := by kernel_rfl
theorem run_slices_Index_int_int {args vs} (ha : entryArgs PP Tryz.f84 args = some vs) (ho : Ones vs) {H O Q} (h : (T_slices_Index_int_int vs).den PP Q H O) : Triple PP F_slices_Index_int_int args H O Q :=
 triple_run mixed (mkOpts_ok okL_ok _ _ _) Tryz.func84 T_slices_Index_int_int_eq ha ho h
abbrev F_object_look : FuncId := 95
/- zeitnot/object.look -/
def T_object_look (v : List Value) : Tree :=
 .newbox fun r0 =>
 .newbox fun r1 =>
 .chk (.eqN r0 r0) <|
 .pure [] (.bin .lss .int) [g v 2,(.int .i64 0)] fun v0 =>
 .chk (.eqN r0 r0) <|
 .chk (.eqV v0 v0) <|
 .chk (.eqV v0 v0) <|
 .pure [] .len [g v 0] fun v1 =>
 .chk (.eqV v0 v0) <|
 .chk (.eqV v0 v0) <|
 .pure [] (.bin .geq .int) [g v 2,v1] fun v2 =>
 .chk (.eqV v0 v0) <|
 .pure [] .pick [v0,(.bool true),v2] fun v3 =>
 .br v3 (
 .chk (.eqN r1 r1) <|
 .chk (.eqN r1 r1) <|
 .ret (.agg #[(.string ⟨#[]⟩),(.int .i64 0),(.int .i64 0),(.int .i64 0),(.int .i64 0),(.int .i64 0),(.int .i64 0),(.int .i64 0),(.int .i64 0),(.int .i64 0),(.int .i64 0),(.slice none 0 0),(.slice none 0 0),(.int .i64 0)]) []) (
 .chk (.eqN r0 r0) <|
 .pure [] (.idx 14) [g v 0,g v 2] fun v4 =>
 .load [] v4 14 fun l5 =>
 .chk (.eqN r1 r1) <|
 .chk (.eqN r1 r1) <|
 .ret (.agg #[g l5 0,g l5 1,g l5 2,g l5 3,g l5 4,g l5 5,g l5 6,g l5 7,g l5 8,g l5 9,g l5 10,g l5 11,g l5 12,g l5 13]) [])
theorem T_object_look_eq (vs : List Value) : sxFun PP Tryz.f95 (mkOpts okL [(69, [5, 6, 7, 8])] [] []) vs = T_object_look vs := by kernel_rfl
theorem run_object_look {args vs} (ha : entryArgs PP Tryz.f95 args = some vs) (ho : Ones vs) {H O Q} (h : (T_object_look vs).den PP Q H O) : Triple PP F_object_look args H O Q :=
 triple_run mixed (mkOpts_ok okL_ok _ _ _) Tryz.func95 T_object_look_eq ha ho h
abbrev F_card_Copy : FuncId := 96
/- zeitnot/card.Copy -/
def T_card_Copy (v : List Value) : Tree :=
 .newbox fun r0 =>
 .newbox fun r1 =>
 .chk (.eqN r0 r0) <|
 .chk (.eqN r0 r0) <|
 .call false 103 [g v 11] [] [] .one fun l0 _ =>
 .call false 104 [g v 12] [] [] .one fun l1 _ =>
 .chk (.eqN r0 r0) <|
 .chk (.eqN r0 r0) <|
 .chk (.eqN r0 r0) <|
 .pure [] .len [g l1 0] fun v2 =>
 .loop 16 3 [(.int .i64 0)] fun C16 l3 =>
 .pure [] (.bin .lss .int) [g l3 0,v2] fun v4 =>
 .br v4 (
 .pure [] (.idx 2) [g l1 0,g l3 0] fun v5 =>
 .load [] v5 2 fun l6 =>
 .newbox fun r2 =>
 .chk (.eqN r2 r2) <|
 .chk (.eqN r0 r0) <|
 .chk (.eqN r2 r2) <|
 .call false 103 [g l6 1] [] [] .one fun l7 _ =>
 .pure [] (.idx 2) [g l1 0,g l3 0] fun v8 =>
 .chk (.ptr [] v8) <|
 .chk (.ptr [] (ptrAdd v8 1)) <|
 .store (ptrAdd v8 1) [g l7 0] <|
 .pure [] (.bin .add .int) [g l3 0,(.int .i64 1)] fun v9 =>
 .cont 16 C16 [v9] [E [(.pointer (some ⟨r0,0,none⟩))],E [(.pointer (some ⟨r1,0,none⟩))],E [g l1 0],E [v2],E [(.pointer (some ⟨r0,0,none⟩)),g v 0,g v 1,g v 2,g v 3,g v 4,g v 5,g v 6,g v 7,g v 8,g v 9,g v 10,g l0 0,g l1 0,g v 13],E [(.pointer (some ⟨r1,0,none⟩)),(.string ⟨#[]⟩),(.int .i64 0),(.int .i64 0),(.int .i64 0),(.int .i64 0),(.int .i64 0),(.int .i64 0),(.int .i64 0),(.int .i64 0),(.int .i64 0),(.int .i64 0),(.slice none 0 0),(.slice none 0 0),(.int .i64 0)]]) (
 .chk (.eqN r0 r0) <|
 .chk (.eqN r1 r1) <|
 .chk (.eqN r1 r1) <|
 .ret (.agg #[g v 0,g v 1,g v 2,g v 3,g v 4,g v 5,g v 6,g v 7,g v 8,g v 9,g v 10,g l0 0,g l1 0,g v 13]) [])
theorem T_card_Copy_eq (vs : List Value) : sxFun PP Tryz.f96 (mkOpts okL [(69, [5, 6, 7, 8])] [(3, .inv [16] [1, 2, 14, 15] [(1, []), (2, [])])] []) vs = T_card_Copy vs := by kernel_rfl
theorem run_card_Copy {args vs} (ha : entryArgs PP Tryz.f96 args = some vs) (ho : Ones vs) {H O Q} (h : (T_card_Copy vs).den PP Q H O) : Triple PP F_card_Copy args H O Q :=
 triple_run mixed (mkOpts_ok okL_ok _ _ _) Tryz.func96 T_card_Copy_eq ha ho h
abbrev F_zeitnotref14_Small : FuncId := 97
/- zeitnot/zeitnotref14.Small -/
def T_zeitnotref14_Small (v : List Value) : Tree :=
 .pure [] (.bin .geq .int) [g v 0,(.int .i64 0)] fun v0 =>
 .chk (.eqV v0 v0) <|
 .pure [] (.bin .leq .int) [g v 0,(.int .i64 99)] fun v1 =>
 .chk (.eqV v0 v0) <|
 .pure [] .pick [v0,v1,(.bool false)] fun v2 =>
 .ret v2 []
theorem T_zeitnotref14_Small_eq (vs : List Value) : sxFun PP Tryz.f97 (mkOpts okL [(69, [5, 6, 7, 8])] [] []) vs = T_zeitnotref14_Small vs := by kernel_rfl
theorem run_zeitnotref14_Small {args vs} (ha : entryArgs PP Tryz.f97 args = some vs) (ho : Ones vs) {H O Q} (h : (T_zeitnotref14_Small vs).den PP Q H O) : Triple PP F_zeitnotref14_Small args H O Q :=
 triple_run mixed (mkOpts_ok okL_ok _ _ _) Tryz.func97 T_zeitnotref14_Small_eq ha ho h
abbrev F_slices_Clone_api_Effect_api_Effect : FuncId := 103
/- slices.Clone[[]zeitnot/api.Effect,zeitnot/api.Effect] -/
def T_slices_Clone_api_Effect_api_Effect (v : List Value) : Tree :=
 .pure [] (.bin .eql .slice) [g v 0,(.slice none 0 0)] fun v0 =>
 .br v0 (
 .ret (.slice none 0 0) []) (
 .newbox fun r0 =>
 .prim (.bi .append #[52,52] 52) [(.slice (some ⟨r0,0,none⟩) 0 0),g v 0] [⟨r0,71,[]⟩] [] .one fun l1 _ =>
 .ret (g l1 0) [])
theorem T_slices_Clone_api_Effect_api_Effect_eq (vs : List Value) : sxFun PP Tryz.f103 (mkOpts okL [(69, [5, 6, 7, 8])] [] []) vs = T_slices_Clone_api_Effect_api_Effect vs := by kernel_rfl
theorem run_slices_Clone_api_Effect_api_Effect {args vs} (ha : entryArgs PP Tryz.f103 args = some vs) (ho : Ones vs) {H O Q} (h : (T_slices_Clone_api_Effect_api_Effect vs).den PP Q H O) : Triple PP F_slices_Clone_api_Effect_api_Effect args H O Q :=
 triple_run mixed (mkOpts_ok okL_ok _ _ _) Tryz.func103 T_slices_Clone_api_Effect_api_Effect_eq ha ho h
abbrev F_slices_Clone_api_Trigger_api_Trigger : FuncId := 104
/- slices.Clone[[]zeitnot/api.Trigger,zeitnot/api.Trigger] -/
def T_slices_Clone_api_Trigger_api_Trigger (v : List Value) : Tree :=
 .pure [] (.bin .eql .slice) [g v 0,(.slice none 0 0)] fun v0 =>
 .br v0 (
 .ret (.slice none 0 0) []) (
 .newbox fun r0 =>
 .prim (.bi .append #[53,53] 53) [(.slice (some ⟨r0,0,none⟩) 0 0),g v 0] [⟨r0,58,[]⟩] [] .one fun l1 _ =>
 .ret (g l1 0) [])
theorem T_slices_Clone_api_Trigger_api_Trigger_eq (vs : List Value) : sxFun PP Tryz.f104 (mkOpts okL [(69, [5, 6, 7, 8])] [] []) vs = T_slices_Clone_api_Trigger_api_Trigger vs := by kernel_rfl
theorem run_slices_Clone_api_Trigger_api_Trigger {args vs} (ha : entryArgs PP Tryz.f104 args = some vs) (ho : Ones vs) {H O Q} (h : (T_slices_Clone_api_Trigger_api_Trigger vs).den PP Q H O) : Triple PP F_slices_Clone_api_Trigger_api_Trigger args H O Q :=
 triple_run mixed (mkOpts_ok okL_ok _ _ _) Tryz.func104 T_slices_Clone_api_Trigger_api_Trigger_eq ha ho h
end Go.Proofs.YtbaegnnmedjkmaaGreat
