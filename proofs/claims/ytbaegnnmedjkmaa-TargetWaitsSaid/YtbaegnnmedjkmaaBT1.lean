/- The trees of the functions of this seat: printed by a tool of mine; each by the kernel's reckoning equal to the evaluator's. -/
import Derived.Test.YtbaegnnmedjkmaaFw2
import Derived.Test.YtbaegnnmedjkmaaProg
import Derived.KernelRfl
namespace Go.Proofs.Ytbaegnnmedjkmaa
open Go Go.Sx
set_option maxRecDepth 100000
noncomputable abbrev PP : Program := Try.prog
theorem mixed : PP.follows .mixedOrders = true := by kernel_rfl
def okL : List Nat := [2, 3, 4, 5, 6, 7, 8, 9, 10, 11, 12, 13, 14, 15, 16, 17, 18, 19, 20, 21, 22, 23, 24, 25, 26, 27, 28, 29, 30, 31, 32, 33, 34, 35, 36, 37, 38, 39, 40, 41, 42, 43, 44, 45, 46, 47, 48, 49, 50, 51, 52, 53, 54, 55, 56, 57, 58, 59, 60, 61, 62, 63, 64, 65, 66, 67, 68, 69, 70, 71, 72, 73, 74, 75, 76, 77, 78, 79, 80, 81, 82, 83, 84, 85, 86, 87, 88, 89, 90, 91, 92, 93, 94, 95, 96, 97, 98, 99, 100, 101, 102, 103, 104]
theorem okL_ok : okL.all (okFnB PP) = true := by kernel_rfl
abbrev Ty_int : TypeId := 3
abbrev Ty_bool : TypeId := 4
abbrev Ty_api_TargetKind : TypeId := 41
abbrev Ty_api_Effect : TypeId := 53
abbrev Ty_api_Item : TypeId := 60
abbrev Ty_api_Target : TypeId := 62
abbrev Ty_api_Object : TypeId := 68
abbrev Ty_api_Trigger : TypeId := 76
abbrev Ty_map_int_int : TypeId := 121
abbrev Ty_map_int_bool : TypeId := 127
abbrev F_zeitnotlaw16_TargetWaits : FuncId := 4
abbrev F_zeitnotlaw16_known : FuncId := 9
abbrev F_target_Needs : FuncId := 10
/- zeitnot/target.Needs -/
def T_target_Needs (v : List Value) : Tree :=
 .pure [] .len [g v 0] fun v0 =>
 .loop 5 3 [(.slice none 0 0),(.int .i64 0)] fun C5 l1 =>
 .pure [] (.bin .lss .int) [g l1 1,v0] fun v2 =>
 .br v2 (
 .pure [] (.idx 5) [g v 0,g l1 1] fun v3 =>
 .load [] v3 5 fun l4 =>
 .newbox fun r0 =>
 .chk (.eqN r0 r0) <|
 .chk (.eqN r0 r0) <|
 .pure [] (.bin .neq .int) [g l4 1,(.int .i64 0)] fun v5 =>
 .br v5 (
 .chk (.eqN r0 r0) <|
 .newbox fun r1 =>
 .prim (.bi .append #[39,39] 39) [g l1 0,(.slice (some ⟨r1,0,none⟩) 1 1)] [⟨r1,41,[g l4 1]⟩] [] .one fun l6 _ =>
 .pure [] (.bin .add .int) [g l1 1,(.int .i64 1)] fun v7 =>
 .cont 5 C5 [g l6 0,v7] [E [g v 0],E [v0]]) (
 .pure [] (.bin .add .int) [g l1 1,(.int .i64 1)] fun v8 =>
 .cont 5 C5 [g l1 0,v8] [E [g v 0],E [v0]])) (
 .ret (g l1 0) [])
theorem T_target_Needs_eq (vs : List Value) : sxFun PP Try.f10 (mkOpts okL [(73, [5, 6, 7, 8])] [(3, .inv [3, 8] [6, 7] [])] []) vs = T_target_Needs vs := by kernel_rfl
theorem run_target_Needs {args vs} (ha : entryArgs PP Try.f10 args = some vs) (ho : Ones vs) {H O Q} (h : (T_target_Needs vs).den PP Q H O) : Triple PP F_target_Needs args H O Q :=
 triple_run mixed (mkOpts_ok okL_ok _ _ _) Try.func10 T_target_Needs_eq ha ho h
abbrev F_target_Can : FuncId := 12
/- zeitnot/target.Can -/
def T_target_Can (v : List Value) : Tree :=
 .newbox fun r0 =>
 .newbox fun r1 =>
 .newbox fun r2 =>
 .chk (.eqN r2 r2) <|
 .pure [] (.bin .lss .int) [g v 39,(.int .i64 0)] fun v0 =>
 .chk (.eqN r2 r2) <|
 .chk (.eqV v0 v0) <|
 .pure [] (.bin .gtr .int) [g v 39,(.int .i64 1)] fun v1 =>
 .chk (.eqV v0 v0) <|
 .pure [] .pick [v0,(.bool true),v1] fun v2 =>
 .br v2 (
 .ret (.bool false) []) (
 .chk (.eqN r1 r1) <|
 .call false 26 [(.agg #[g v 1,g v 2,g v 3,g v 4,g v 5,g v 6,g v 7,g v 8,g v 9,g v 10,g v 11,g v 12,g v 13,g v 14,g v 15,g v 16,g v 17,g v 18,g v 19,g v 20,g v 21,g v 22,g v 23,g v 24,g v 25,g v 26,g v 27,g v 28,g v 29,g v 30,g v 31,g v 32,g v 33,g v 34,g v 35,g v 36,g v 37,g v 38])] [] [] .one fun l3 _ =>
 .pure [] .not [g l3 0] fun v4 =>
 .br v4 (
 .ret (.bool false) []) (
 .call false 10 [g v 40] [] [] .one fun l5 _ =>
 .call false 27 [g l5 0,(.func (.func 28) #[] #[(.pointer (some ⟨r0,0,none⟩)),(.pointer (some ⟨r1,0,none⟩)),(.pointer (some ⟨r2,0,none⟩))])] [] [⟨r0,22,[g v 0]⟩,⟨r1,34,[g v 1,g v 2,g v 3,g v 4,g v 5,g v 6,g v 7,g v 8,g v 9,g v 10,g v 11,g v 12,g v 13,g v 14,g v 15,g v 16,g v 17,g v 18,g v 19,g v 20,g v 21,g v 22,g v 23,g v 24,g v 25,g v 26,g v 27,g v 28,g v 29,g v 30,g v 31,g v 32,g v 33,g v 34,g v 35,g v 36,g v 37,g v 38]⟩,⟨r2,3,[g v 39]⟩] .one fun l6 c6 =>
 .pure [] .not [g l6 0] fun v7 =>
 .ret v7 []))
theorem T_target_Can_eq (vs : List Value) : sxFun PP Try.f12 (mkOpts okL [(73, [5, 6, 7, 8])] [] []) vs = T_target_Can vs := by kernel_rfl
theorem run_target_Can {args vs} (ha : entryArgs PP Try.f12 args = some vs) (ho : Ones vs) {H O Q} (h : (T_target_Can vs).den PP Q H O) : Triple PP F_target_Can args H O Q :=
 triple_run mixed (mkOpts_ok okL_ok _ _ _) Try.func12 T_target_Can_eq ha ho h
abbrev F_zeitnotref15_New : FuncId := 14
/- zeitnot/zeitnotref15.New -/
def T_zeitnotref15_New (v : List Value) : Tree :=
 .newbox fun r0 =>
 .newbox fun r1 =>
 .newbox fun r2 =>
 .chk (.eqN r2 r2) <|
 .pure [] (.bin .lss .int) [g v 0,(.int .i64 1)] fun v0 =>
 .chk (.eqV v0 v0) <|
 .pure [] (.bin .gtr .int) [g v 0,(.int .i64 9999)] fun v1 =>
 .chk (.eqV v0 v0) <|
 .pure [] .pick [v0,(.bool true),v1] fun v2 =>
 .chk (.eqN r0 r0) <|
 .chk (.eqV v2 v2) <|
 .chk (.eqV v2 v2) <|
 .pure [] .len [g v 1] fun v3 =>
 .chk (.eqN r0 r0) <|
 .chk (.eqV v2 v2) <|
 .chk (.eqV v2 v2) <|
 .pure [] .len [g v 2] fun v4 =>
 .chk (.eqV v2 v2) <|
 .chk (.eqV v2 v2) <|
 .pure [] (.bin .add .int) [v3,v4] fun v5 =>
 .chk (.eqV v2 v2) <|
 .pure [] (.bin .gtr .int) [v5,(.int .i64 500)] fun v6 =>
 .chk (.eqV v2 v2) <|
 .pure [] .pick [v2,(.bool true),v6] fun v7 =>
 .br v7 (
 .chk (.eqN r1 r1) <|
 .chk (.eqN r1 r1) <|
 .ret (.tuple #[(.agg #[(.slice none 0 0),(.int .i64 0),(.int .i64 0),(.int .i64 0),(.int .i64 0),(.int .i64 0),(.slice none 0 0),(.slice none 0 0),(.slice none 0 0),(.slice none 0 0),(.bool false),(.bool false),(.bool false),(.int .i64 0),(.int .i64 0),(.int .i64 0),(.int .i64 0),(.int .i64 0),(.int .i64 0),(.int .i64 0),(.slice none 0 0),(.slice none 0 0),(.slice none 0 0),(.slice none 0 0),(.bool false),(.bool false),(.bool false),(.int .i64 0),(.int .i64 0),(.slice none 0 0),(.slice none 0 0),(.slice none 0 0),(.slice none 0 0),(.int .i64 0),(.int .i64 0),(.int .i64 0),(.int .i64 0),(.int .i64 0)]),(.int .i64 2)]) []) (
 .chk (.eqN r2 r2) <|
 .loop 32 9 [(.int .i64 0),(.slice none 0 0),(.slice none 0 0),(.slice none 0 0)] fun C32 l8 =>
 .chk (.eqN r0 r0) <|
 .pure [] .len [g v 1] fun v9 =>
 .pure [] (.bin .lss .int) [g l8 0,v9] fun v10 =>
 .br v10 (
 .chk (.eqN r0 r0) <|
 .pure [] (.idx 1) [g v 1,g l8 0] fun v11 =>
 .load [] v11 1 fun l12 =>
 .pure [] (.bin .lss .int) [g l12 0,(.int .i64 0)] fun v13 =>
 .chk (.eqV v13 v13) <|
 .chk (.eqN r0 r0) <|
 .chk (.eqV v13 v13) <|
 .chk (.eqV v13 v13) <|
 .chk (.eqV v13 v13) <|
 .pure [(v13,false)] (.idx 1) [g v 1,g l8 0] fun v14 =>
 .chk (.eqV v13 v13) <|
 .load [(v13,false)] v14 1 fun l15 =>
 .chk (.eqV v13 v13) <|
 .pure [] (.bin .gtr .int) [g l15 0,(.int .i64 399)] fun v16 =>
 .chk (.eqV v13 v13) <|
 .pure [] .pick [v13,(.bool true),v16] fun v17 =>
 .br v17 (
 .chk (.eqN r1 r1) <|
 .chk (.eqN r1 r1) <|
 .ret (.tuple #[(.agg #[(.slice none 0 0),(.int .i64 0),(.int .i64 0),(.int .i64 0),(.int .i64 0),(.int .i64 0),(.slice none 0 0),(.slice none 0 0),(.slice none 0 0),(.slice none 0 0),(.bool false),(.bool false),(.bool false),(.int .i64 0),(.int .i64 0),(.int .i64 0),(.int .i64 0),(.int .i64 0),(.int .i64 0),(.int .i64 0),(.slice none 0 0),(.slice none 0 0),(.slice none 0 0),(.slice none 0 0),(.bool false),(.bool false),(.bool false),(.int .i64 0),(.int .i64 0),(.slice none 0 0),(.slice none 0 0),(.slice none 0 0),(.slice none 0 0),(.int .i64 0),(.int .i64 0),(.int .i64 0),(.int .i64 0),(.int .i64 0)]),(.int .i64 2)]) []) (
 .chk (.eqN r2 r2) <|
 .pure [] .len [g l8 1] fun v18 =>
 .pure [] (.bin .add .int) [v18,(.int .i64 1)] fun v19 =>
 .chk (.eqN r2 r2) <|
 .chk (.eqN r0 r0) <|
 .pure [] (.idx 1) [g v 1,g l8 0] fun v20 =>
 .load [] v20 1 fun l21 =>
 .newbox fun r3 =>
 .prim (.bi .append #[23,23] 23) [g l8 1,(.slice (some ⟨r3,0,none⟩) 1 1)] [⟨r3,68,[v19,g l21 0,(.int .i64 0),(.int .i64 0),(.int .i64 0),(.int .i64 0),(.int .i64 0),(.int .i64 0),(.int .i64 0),(.bool false),(.bool false),(.bool false)]⟩] [] .one fun l22 _ =>
 .chk (.eqN r2 r2) <|
 .chk (.eqN r2 r2) <|
 .newbox fun r4 =>
 .prim (.bi .append #[26,26] 26) [g l8 2,(.slice (some ⟨r4,0,none⟩) 1 1)] [⟨r4,3,[v19]⟩] [] .one fun l23 _ =>
 .chk (.eqN r2 r2) <|
 .pure [] (.bin .add .int) [g l8 0,(.int .i64 1)] fun v24 =>
 .cont 32 C32 [v24,g l22 0,g l23 0,g l8 3] [E [g v 0],E [(.pointer (some ⟨r0,0,none⟩))],E [(.pointer (some ⟨r1,0,none⟩))],E [(.pointer (some ⟨r2,0,none⟩))],E [(.int .i64 0)],E [(.pointer (some ⟨r0,0,none⟩)),g v 1,g v 2],E [(.pointer (some ⟨r1,0,none⟩)),(.slice none 0 0),(.int .i64 0),(.int .i64 0),(.int .i64 0),(.int .i64 0),(.int .i64 0),(.slice none 0 0),(.slice none 0 0),(.slice none 0 0),(.slice none 0 0),(.bool false),(.bool false),(.bool false),(.int .i64 0),(.int .i64 0),(.int .i64 0),(.int .i64 0),(.int .i64 0),(.int .i64 0),(.int .i64 0),(.slice none 0 0),(.slice none 0 0),(.slice none 0 0),(.slice none 0 0),(.bool false),(.bool false),(.bool false),(.int .i64 0),(.int .i64 0),(.slice none 0 0),(.slice none 0 0),(.slice none 0 0),(.slice none 0 0),(.int .i64 0),(.int .i64 0),(.int .i64 0),(.int .i64 0),(.int .i64 0)],E [(.pointer (some ⟨r2,0,none⟩)),(.tuple #[]),g v 0,(.int .i64 0),(.int .i64 0),(.int .i64 0),(.int .i64 0),(.tuple #[]),(.slice none 0 0),(.slice none 0 0),(.slice none 0 0),(.bool false),(.bool false),(.bool false),(.int .i64 0),(.int .i64 0),(.int .i64 0),(.int .i64 0),(.int .i64 0),(.int .i64 0),(.int .i64 0),(.tuple #[]),(.slice none 0 0),(.slice none 0 0),(.slice none 0 0),(.bool false),(.bool false),(.bool false),(.int .i64 0),(.int .i64 0),(.slice none 0 0),(.slice none 0 0),(.slice none 0 0),(.slice none 0 0),(.int .i64 0),(.int .i64 0),(.int .i64 0),(.int .i64 (-1)),(.int .i64 0)]])) (
 .chk (.eqN r2 r2) <|
 .loop 51 9 [(.int .i64 0),g l8 1,g l8 2,g l8 3] fun C51 l25 =>
 .chk (.eqN r0 r0) <|
 .pure [] .len [g v 2] fun v26 =>
 .pure [] (.bin .lss .int) [g l25 0,v26] fun v27 =>
 .br v27 (
 .chk (.eqN r0 r0) <|
 .pure [] (.idx 1) [g v 2,g l25 0] fun v28 =>
 .load [] v28 1 fun l29 =>
 .pure [] (.bin .lss .int) [g l29 0,(.int .i64 0)] fun v30 =>
 .chk (.eqV v30 v30) <|
 .chk (.eqN r0 r0) <|
 .chk (.eqV v30 v30) <|
 .chk (.eqV v30 v30) <|
 .chk (.eqV v30 v30) <|
 .pure [(v30,false)] (.idx 1) [g v 2,g l25 0] fun v31 =>
 .chk (.eqV v30 v30) <|
 .load [(v30,false)] v31 1 fun l32 =>
 .chk (.eqV v30 v30) <|
 .pure [] (.bin .gtr .int) [g l32 0,(.int .i64 399)] fun v33 =>
 .chk (.eqV v30 v30) <|
 .pure [] .pick [v30,(.bool true),v33] fun v34 =>
 .br v34 (
 .chk (.eqN r1 r1) <|
 .chk (.eqN r1 r1) <|
 .ret (.tuple #[(.agg #[(.slice none 0 0),(.int .i64 0),(.int .i64 0),(.int .i64 0),(.int .i64 0),(.int .i64 0),(.slice none 0 0),(.slice none 0 0),(.slice none 0 0),(.slice none 0 0),(.bool false),(.bool false),(.bool false),(.int .i64 0),(.int .i64 0),(.int .i64 0),(.int .i64 0),(.int .i64 0),(.int .i64 0),(.int .i64 0),(.slice none 0 0),(.slice none 0 0),(.slice none 0 0),(.slice none 0 0),(.bool false),(.bool false),(.bool false),(.int .i64 0),(.int .i64 0),(.slice none 0 0),(.slice none 0 0),(.slice none 0 0),(.slice none 0 0),(.int .i64 0),(.int .i64 0),(.int .i64 0),(.int .i64 0),(.int .i64 0)]),(.int .i64 2)]) []) (
 .chk (.eqN r2 r2) <|
 .pure [] .len [g l25 1] fun v35 =>
 .pure [] (.bin .add .int) [v35,(.int .i64 1)] fun v36 =>
 .chk (.eqN r2 r2) <|
 .chk (.eqN r0 r0) <|
 .pure [] (.idx 1) [g v 2,g l25 0] fun v37 =>
 .load [] v37 1 fun l38 =>
 .newbox fun r5 =>
 .prim (.bi .append #[23,23] 23) [g l25 1,(.slice (some ⟨r5,0,none⟩) 1 1)] [⟨r5,68,[v36,g l38 0,(.int .i64 1),(.int .i64 0),(.int .i64 0),(.int .i64 0),(.int .i64 0),(.int .i64 0),(.int .i64 0),(.bool false),(.bool false),(.bool false)]⟩] [] .one fun l39 _ =>
 .chk (.eqN r2 r2) <|
 .chk (.eqN r2 r2) <|
 .newbox fun r6 =>
 .prim (.bi .append #[26,26] 26) [g l25 3,(.slice (some ⟨r6,0,none⟩) 1 1)] [⟨r6,3,[v36]⟩] [] .one fun l40 _ =>
 .chk (.eqN r2 r2) <|
 .pure [] (.bin .add .int) [g l25 0,(.int .i64 1)] fun v41 =>
 .cont 51 C51 [v41,g l39 0,g l25 2,g l40 0] [E [g v 0],E [(.pointer (some ⟨r0,0,none⟩))],E [(.pointer (some ⟨r1,0,none⟩))],E [(.pointer (some ⟨r2,0,none⟩))],E [(.int .i64 1)],E [(.pointer (some ⟨r0,0,none⟩)),g v 1,g v 2],E [(.pointer (some ⟨r1,0,none⟩)),(.slice none 0 0),(.int .i64 0),(.int .i64 0),(.int .i64 0),(.int .i64 0),(.int .i64 0),(.slice none 0 0),(.slice none 0 0),(.slice none 0 0),(.slice none 0 0),(.bool false),(.bool false),(.bool false),(.int .i64 0),(.int .i64 0),(.int .i64 0),(.int .i64 0),(.int .i64 0),(.int .i64 0),(.int .i64 0),(.slice none 0 0),(.slice none 0 0),(.slice none 0 0),(.slice none 0 0),(.bool false),(.bool false),(.bool false),(.int .i64 0),(.int .i64 0),(.slice none 0 0),(.slice none 0 0),(.slice none 0 0),(.slice none 0 0),(.int .i64 0),(.int .i64 0),(.int .i64 0),(.int .i64 0),(.int .i64 0)],E [(.pointer (some ⟨r2,0,none⟩)),(.tuple #[]),g v 0,(.int .i64 0),(.int .i64 0),(.int .i64 0),(.int .i64 0),(.tuple #[]),(.slice none 0 0),(.slice none 0 0),(.slice none 0 0),(.bool false),(.bool false),(.bool false),(.int .i64 0),(.int .i64 0),g v 0,(.int .i64 0),(.int .i64 0),(.int .i64 0),(.int .i64 0),(.tuple #[]),(.slice none 0 0),(.slice none 0 0),(.slice none 0 0),(.bool false),(.bool false),(.bool false),(.int .i64 0),(.int .i64 0),(.slice none 0 0),(.slice none 0 0),(.slice none 0 0),(.slice none 0 0),(.int .i64 0),(.int .i64 0),(.int .i64 0),(.int .i64 (-1)),(.int .i64 0)]])) (
 .chk (.eqN r2 r2) <|
 .chk (.eqN r1 r1) <|
 .chk (.eqN r1 r1) <|
 .ret (.tuple #[(.agg #[g l25 1,g v 0,(.int .i64 0),(.int .i64 0),(.int .i64 0),(.int .i64 0),g l25 2,(.slice none 0 0),(.slice none 0 0),(.slice none 0 0),(.bool false),(.bool false),(.bool false),(.int .i64 0),(.int .i64 0),g v 0,(.int .i64 0),(.int .i64 0),(.int .i64 0),(.int .i64 0),g l25 3,(.slice none 0 0),(.slice none 0 0),(.slice none 0 0),(.bool false),(.bool false),(.bool false),(.int .i64 0),(.int .i64 0),(.slice none 0 0),(.slice none 0 0),(.slice none 0 0),(.slice none 0 0),(.int .i64 0),(.int .i64 0),(.int .i64 0),(.int .i64 (-1)),(.int .i64 0)]),(.int .i64 0)]) [])))
theorem T_zeitnotref15_New_eq (vs : List Value) : sxFun PP Try.f14 (mkOpts okL [(73, [5, 6, 7, 8])] [(5, .unroll 3), (9, .inv [8] [0, 3, 4, 6, 7] [(3, []), (4, []), (6, [0, 6, 20])])] []) vs = T_zeitnotref15_New vs := by kernel_rfl
theorem run_zeitnotref15_New {args vs} (ha : entryArgs PP Try.f14 args = some vs) (ho : Ones vs) {H O Q} (h : (T_zeitnotref15_New vs).den PP Q H O) : Triple PP F_zeitnotref15_New args H O Q :=
 triple_run mixed (mkOpts_ok okL_ok _ _ _) Try.func14 T_zeitnotref15_New_eq ha ho h
abbrev F_zeitnotref16_Same : FuncId := 15
/- zeitnot/zeitnotref16.Same -/
def T_zeitnotref16_Same (v : List Value) : Tree :=
 .pure [] .len [g v 0] fun v0 =>
 .pure [] .len [g v 1] fun v1 =>
 .pure [] (.bin .neq .int) [v0,v1] fun v2 =>
 .br v2 (
 .ret (.bool false) []) (
 .loop 7 4 [(.int .i64 0)] fun C7 l3 =>
 .pure [] .len [g v 0] fun v4 =>
 .pure [] (.bin .lss .int) [g l3 0,v4] fun v5 =>
 .br v5 (
 .pure [] (.idx 2) [g v 0,g l3 0] fun v6 =>
 .load [] v6 2 fun l7 =>
 .pure [] (.idx 2) [g v 1,g l3 0] fun v8 =>
 .load [] v8 2 fun l9 =>
 .raw [] (.eqv .neq 62 false) [(.agg #[g l7 0,g l7 1]),(.agg #[g l9 0,g l9 1])] fun v10 =>
 .br v10 (
 .ret (.bool false) []) (
 .pure [] (.bin .add .int) [g l3 0,(.int .i64 1)] fun v11 =>
 .cont 7 C7 [v11] [E [g v 0],E [g v 1]])) (
 .ret (.bool true) []))
theorem T_zeitnotref16_Same_eq (vs : List Value) : sxFun PP Try.f15 (mkOpts okL [(73, [5, 6, 7, 8])] [(4, .inv [5] [0, 1] [])] []) vs = T_zeitnotref16_Same vs := by kernel_rfl
theorem run_zeitnotref16_Same {args vs} (ha : entryArgs PP Try.f15 args = some vs) (ho : Ones vs) {H O Q} (h : (T_zeitnotref16_Same vs).den PP Q H O) : Triple PP F_zeitnotref16_Same args H O Q :=
 triple_run mixed (mkOpts_ok okL_ok _ _ _) Try.func15 T_zeitnotref16_Same_eq ha ho h
abbrev F_target_List : FuncId := 16
/- zeitnot/target.List -/
def T_target_List (v : List Value) : Tree :=
 .newbox fun r0 =>
 .pure [] (.bin .lss .int) [g v 39,(.int .i64 0)] fun v0 =>
 .chk (.eqV v0 v0) <|
 .pure [] (.bin .gtr .int) [g v 39,(.int .i64 1)] fun v1 =>
 .chk (.eqV v0 v0) <|
 .pure [] .pick [v0,(.bool true),v1] fun v2 =>
 .br v2 (
 .ret (.slice none 0 0) []) (
 .chk (.eqN r0 r0) <|
 .call false 26 [(.agg #[g v 1,g v 2,g v 3,g v 4,g v 5,g v 6,g v 7,g v 8,g v 9,g v 10,g v 11,g v 12,g v 13,g v 14,g v 15,g v 16,g v 17,g v 18,g v 19,g v 20,g v 21,g v 22,g v 23,g v 24,g v 25,g v 26,g v 27,g v 28,g v 29,g v 30,g v 31,g v 32,g v 33,g v 34,g v 35,g v 36,g v 37,g v 38])] [] [] .one fun l3 _ =>
 .pure [] .not [g l3 0] fun v4 =>
 .br v4 (
 .ret (.slice none 0 0) []) (
 .chk (.eqN r0 r0) <|
 .call false 29 [g v 0,(.agg #[g v 1,g v 2,g v 3,g v 4,g v 5,g v 6,g v 7,g v 8,g v 9,g v 10,g v 11,g v 12,g v 13,g v 14,g v 15,g v 16,g v 17,g v 18,g v 19,g v 20,g v 21,g v 22,g v 23,g v 24,g v 25,g v 26,g v 27,g v 28,g v 29,g v 30,g v 31,g v 32,g v 33,g v 34,g v 35,g v 36,g v 37,g v 38]),g v 39,g v 40] [] [] .one fun l5 _ =>
 .ret (g l5 0) []))
theorem T_target_List_eq (vs : List Value) : sxFun PP Try.f16 (mkOpts okL [(73, [5, 6, 7, 8])] [] []) vs = T_target_List vs := by kernel_rfl
theorem run_target_List {args vs} (ha : entryArgs PP Try.f16 args = some vs) (ho : Ones vs) {H O Q} (h : (T_target_List vs).den PP Q H O) : Triple PP F_target_List args H O Q :=
 triple_run mixed (mkOpts_ok okL_ok _ _ _) Try.func16 T_target_List_eq ha ho h
abbrev F_board_Valid : FuncId := 26
/- zeitnot/board.Valid -/
def T_board_Valid (v : List Value) : Tree :=
 .newbox fun r0 =>
 .chk (.eqN r0 r0) <|
 .call false 43 [g v 34,(.int .i64 0),(.int .i64 1)] [] [] .one fun l0 _ =>
 .pure [] .not [g l0 0] fun v1 =>
 .br v1 (
 .ret (.bool false) []) (
 .chk (.eqN r0 r0) <|
 .call false 43 [g v 33,(.int .i64 0),(.int .i64 1000)] [] [] .one fun l2 _ =>
 .pure [] .not [g l2 0] fun v3 =>
 .br v3 (
 .ret (.bool false) []) (
 .chk (.eqN r0 r0) <|
 .call false 43 [g v 35,(.int .i64 0),(.int .i64 10)] [] [] .one fun l4 _ =>
 .pure [] .not [g l4 0] fun v5 =>
 .br v5 (
 .ret (.bool false) []) (
 .chk (.eqN r0 r0) <|
 .call false 43 [g v 36,(.int .i64 (-1)),(.int .i64 1)] [] [] .one fun l6 _ =>
 .pure [] .not [g l6 0] fun v7 =>
 .br v7 (
 .ret (.bool false) []) (
 .chk (.eqN r0 r0) <|
 .call false 43 [g v 37,(.int .i64 0),(.int .i64 2)] [] [] .one fun l8 _ =>
 .pure [] .not [g l8 0] fun v9 =>
 .chk (.eqN r0 r0) <|
 .chk (.eqV v9 v9) <|
 .chk (.eqV v9 v9) <|
 .pure [] .len [g v 0] fun v10 =>
 .chk (.eqV v9 v9) <|
 .pure [] (.bin .gtr .int) [v10,(.int .i64 500)] fun v11 =>
 .chk (.eqV v9 v9) <|
 .pure [] .pick [v9,(.bool true),v11] fun v12 =>
 .chk (.eqN r0 r0) <|
 .chk (.eqV v12 v12) <|
 .chk (.eqV v12 v12) <|
 .pure [] .len [g v 29] fun v13 =>
 .chk (.eqV v12 v12) <|
 .pure [] (.bin .gtr .int) [v13,(.int .i64 200)] fun v14 =>
 .chk (.eqV v12 v12) <|
 .pure [] .pick [v12,(.bool true),v14] fun v15 =>
 .chk (.eqN r0 r0) <|
 .chk (.eqV v15 v15) <|
 .chk (.eqV v15 v15) <|
 .pure [] .len [g v 30] fun v16 =>
 .chk (.eqV v15 v15) <|
 .pure [] (.bin .gtr .int) [v16,(.int .i64 200)] fun v17 =>
 .chk (.eqV v15 v15) <|
 .pure [] .pick [v15,(.bool true),v17] fun v18 =>
 .br v18 (
 .ret (.bool false) []) (
 .chk (.eqN r0 r0) <|
 .newbox fun r1 =>
 .chk (.eqN r1 r1) <|
 .chk (.eqN r1 r1) <|
 .call false 43 [g v 1,(.int .i64 0),(.int .i64 9999)] [] [] .one fun l19 _ =>
 .pure [] .not [g l19 0] fun v20 =>
 .br v20 (
 .ret (.bool false) []) (
 .chk (.eqN r1 r1) <|
 .call false 44 [(.agg #[g v 2,g v 3,g v 4,g v 5])] [] [] .one fun l21 _ =>
 .pure [] .not [g l21 0] fun v22 =>
 .br v22 (
 .ret (.bool false) []) (
 .chk (.eqN r1 r1) <|
 .call false 43 [g v 13,(.int .i64 0),(.int .i64 7)] [] [] .one fun l23 _ =>
 .pure [] .not [g l23 0] fun v24 =>
 .br v24 (
 .ret (.bool false) []) (
 .chk (.eqN r1 r1) <|
 .call false 43 [g v 14,(.int .i64 0),(.int .i64 255)] [] [] .one fun l25 _ =>
 .pure [] .not [g l25 0] fun v26 =>
 .br v26 (
 .ret (.bool false) []) (
 .newbox fun r2 =>
 .chk (.eqN r2 r2) <|
 .chk (.eqN r2 r2) <|
 .call false 43 [g v 15,(.int .i64 0),(.int .i64 9999)] [] [] .one fun l27 _ =>
 .pure [] .not [g l27 0] fun v28 =>
 .br v28 (
 .ret (.bool false) []) (
 .chk (.eqN r2 r2) <|
 .call false 44 [(.agg #[g v 16,g v 17,g v 18,g v 19])] [] [] .one fun l29 _ =>
 .pure [] .not [g l29 0] fun v30 =>
 .br v30 (
 .ret (.bool false) []) (
 .chk (.eqN r2 r2) <|
 .call false 43 [g v 27,(.int .i64 0),(.int .i64 7)] [] [] .one fun l31 _ =>
 .pure [] .not [g l31 0] fun v32 =>
 .br v32 (
 .ret (.bool false) []) (
 .chk (.eqN r2 r2) <|
 .call false 43 [g v 28,(.int .i64 0),(.int .i64 255)] [] [] .one fun l33 _ =>
 .pure [] .not [g l33 0] fun v34 =>
 .br v34 (
 .ret (.bool false) []) (
 .chk (.eqN r0 r0) <|
 .call false 45 [g v 29,(.func (.func 46) #[] #[])] [] [] .one fun l35 _ =>
 .br (g l35 0) (
 .ret (.bool false) []) (
 .chk (.eqN r0 r0) <|
 .call false 45 [g v 30,(.func (.func 48) #[] #[])] [] [] .one fun l36 _ =>
 .pure [] .not [g l36 0] fun v37 =>
 .br v37 (
 .chk (.eqN r0 r0) <|
 .call false 49 [(.agg #[g v 0,g v 1,g v 2,g v 3,g v 4,g v 5,g v 6,g v 7,g v 8,g v 9,g v 10,g v 11,g v 12,g v 13,g v 14,g v 15,g v 16,g v 17,g v 18,g v 19,g v 20,g v 21,g v 22,g v 23,g v 24,g v 25,g v 26,g v 27,g v 28,g v 29,g v 30,g v 31,g v 32,g v 33,g v 34,g v 35,g v 36,g v 37])] [] [] .one fun l38 _ =>
 .br (g l38 0) (
 .chk (.eqN r0 r0) <|
 .call false 50 [(.agg #[g v 0,g v 1,g v 2,g v 3,g v 4,g v 5,g v 6,g v 7,g v 8,g v 9,g v 10,g v 11,g v 12,g v 13,g v 14,g v 15,g v 16,g v 17,g v 18,g v 19,g v 20,g v 21,g v 22,g v 23,g v 24,g v 25,g v 26,g v 27,g v 28,g v 29,g v 30,g v 31,g v 32,g v 33,g v 34,g v 35,g v 36,g v 37])] [] [] .one fun l39 _ =>
 .ret (g l39 0) []) (
 .ret (.bool false) [])) (
 .ret (.bool false) [])))))))))))))))
theorem T_board_Valid_eq (vs : List Value) : sxFun PP Try.f26 (mkOpts okL [(73, [5, 6, 7, 8])] [(4, .unroll 3)] []) vs = T_board_Valid vs := by kernel_rfl
theorem run_board_Valid {args vs} (ha : entryArgs PP Try.f26 args = some vs) (ho : Ones vs) {H O Q} (h : (T_board_Valid vs).den PP Q H O) : Triple PP F_board_Valid args H O Q :=
 triple_run mixed (mkOpts_ok okL_ok _ _ _) Try.func26 T_board_Valid_eq ha ho h
abbrev F_slices_ContainsFunc_api_TargetKind_api_TargetKind : FuncId := 27
/- slices.ContainsFunc[[]zeitnot/api.TargetKind,zeitnot/api.TargetKind] -/
def T_slices_ContainsFunc_api_TargetKind_api_TargetKind (v : List Value) : Tree :=
 .call false 51 [g v 0,g v 1] [] [] .one fun l0 _ =>
 .pure [] (.bin .geq .int) [g l0 0,(.int .i64 0)] fun v1 =>
 .ret v1 []
theorem T_slices_ContainsFunc_api_TargetKind_api_TargetKind_eq (vs : List Value) : sxFun PP Try.f27 (mkOpts okL [(73, [5, 6, 7, 8])] [] []) vs = T_slices_ContainsFunc_api_TargetKind_api_TargetKind vs := by kernel_rfl
theorem run_slices_ContainsFunc_api_TargetKind_api_TargetKind {args vs} (ha : entryArgs PP Try.f27 args = some vs) (ho : Ones vs) {H O Q} (h : (T_slices_ContainsFunc_api_TargetKind_api_TargetKind vs).den PP Q H O) : Triple PP F_slices_ContainsFunc_api_TargetKind_api_TargetKind args H O Q :=
 triple_run mixed (mkOpts_ok okL_ok _ _ _) Try.func27 T_slices_ContainsFunc_api_TargetKind_api_TargetKind_eq ha ho h
abbrev F_target_Can_1 : FuncId := 28
/- zeitnot/target.Can$1 -/
def T_target_Can_1 (v : List Value) : Tree :=
 .load [] (g v 1) 1 fun l0 =>
 .load [] (g v 2) 38 fun l1 =>
 .load [] (g v 3) 1 fun l2 =>
 .call false 29 [g l0 0,(.agg #[g l1 0,g l1 1,g l1 2,g l1 3,g l1 4,g l1 5,g l1 6,g l1 7,g l1 8,g l1 9,g l1 10,g l1 11,g l1 12,g l1 13,g l1 14,g l1 15,g l1 16,g l1 17,g l1 18,g l1 19,g l1 20,g l1 21,g l1 22,g l1 23,g l1 24,g l1 25,g l1 26,g l1 27,g l1 28,g l1 29,g l1 30,g l1 31,g l1 32,g l1 33,g l1 34,g l1 35,g l1 36,g l1 37]),g l2 0,g v 0] [] [] .one fun l3 _ =>
 .pure [] .len [g l3 0] fun v4 =>
 .pure [] (.bin .eql .int) [v4,(.int .i64 0)] fun v5 =>
 .ret v5 []
theorem T_target_Can_1_eq (vs : List Value) : sxFun PP Try.f28 (mkOpts okL [(73, [5, 6, 7, 8])] [] []) vs = T_target_Can_1 vs := by kernel_rfl
theorem run_target_Can_1 {args vs} (ha : entryArgs PP Try.f28 args = some vs) (ho : Ones vs) {H O Q} (h : (T_target_Can_1 vs).den PP Q H O) : Triple PP F_target_Can_1 args H O Q :=
 triple_run mixed (mkOpts_ok okL_ok _ _ _) Try.func28 T_target_Can_1_eq ha ho h
abbrev F_target_list : FuncId := 29
/- zeitnot/target.list -/
def T_target_list (v : List Value) : Tree :=
 .newbox fun r0 =>
 .pure [] (.bin .eql .int) [g v 40,(.int .i64 1)] fun v0 =>
 .br v0 (
 .chk (.eqN r0 r0) <|
 .chk (.eqN r0 r0) <|
 .call false 29 [g v 0,(.agg #[g v 1,g v 2,g v 3,g v 4,g v 5,g v 6,g v 7,g v 8,g v 9,g v 10,g v 11,g v 12,g v 13,g v 14,g v 15,g v 16,g v 17,g v 18,g v 19,g v 20,g v 21,g v 22,g v 23,g v 24,g v 25,g v 26,g v 27,g v 28,g v 29,g v 30,g v 31,g v 32,g v 33,g v 34,g v 35,g v 36,g v 37,g v 38]),g v 39,(.int .i64 2)] [] [] .one fun l1 _ =>
 .call false 29 [g v 0,(.agg #[g v 1,g v 2,g v 3,g v 4,g v 5,g v 6,g v 7,g v 8,g v 9,g v 10,g v 11,g v 12,g v 13,g v 14,g v 15,g v 16,g v 17,g v 18,g v 19,g v 20,g v 21,g v 22,g v 23,g v 24,g v 25,g v 26,g v 27,g v 28,g v 29,g v 30,g v 31,g v 32,g v 33,g v 34,g v 35,g v 36,g v 37,g v 38]),g v 39,(.int .i64 3)] [] [] .one fun l2 _ =>
 .prim (.bi .append #[58,58] 58) [g l1 0,g l2 0] [] [] .one fun l3 _ =>
 .call false 52 [g l3 0,(.func (.func 53) #[] #[])] [] [] (.tup []) fun l4 _ =>
 .ret (g l3 0) []) (
 .pure [] (.bin .eql .int) [g v 40,(.int .i64 3)] fun v5 =>
 .br v5 (
 .chk (.eqN r0 r0) <|
 .pure [] (.bin .sub .int) [(.int .i64 1),g v 39] fun v6 =>
 .call false 29 [g v 0,(.agg #[g v 1,g v 2,g v 3,g v 4,g v 5,g v 6,g v 7,g v 8,g v 9,g v 10,g v 11,g v 12,g v 13,g v 14,g v 15,g v 16,g v 17,g v 18,g v 19,g v 20,g v 21,g v 22,g v 23,g v 24,g v 25,g v 26,g v 27,g v 28,g v 29,g v 30,g v 31,g v 32,g v 33,g v 34,g v 35,g v 36,g v 37,g v 38]),v6,(.int .i64 2)] [] [] .one fun l7 _ =>
 .ret (g l7 0) []) (
 .pure [] (.bin .eql .int) [g v 40,(.int .i64 2)] fun v8 =>
 .br v8 (
 .chk (.eqN r0 r0) <|
 .call false 55 [g v 0,(.agg #[g v 1,g v 2,g v 3,g v 4,g v 5,g v 6,g v 7,g v 8,g v 9,g v 10,g v 11,g v 12,g v 13,g v 14,g v 15,g v 16,g v 17,g v 18,g v 19,g v 20,g v 21,g v 22,g v 23,g v 24,g v 25,g v 26,g v 27,g v 28,g v 29,g v 30,g v 31,g v 32,g v 33,g v 34,g v 35,g v 36,g v 37,g v 38]),g v 39] [] [] .one fun l9 _ =>
 .pure [] .len [g l9 0] fun v10 =>
 .loop 15 9 [(.slice none 0 0),(.int .i64 0)] fun C15 l11 =>
 .pure [] (.bin .lss .int) [g l11 1,v10] fun v12 =>
 .br v12 (
 .pure [] (.idx 1) [g l9 0,g l11 1] fun v13 =>
 .load [] v13 1 fun l14 =>
 .newbox fun r1 =>
 .prim (.bi .append #[58,58] 58) [g l11 0,(.slice (some ⟨r1,0,none⟩) 1 1)] [⟨r1,62,[g l14 0,(.int .i64 0)]⟩] [] .one fun l15 _ =>
 .pure [] (.bin .add .int) [g l11 1,(.int .i64 1)] fun v16 =>
 .cont 15 C15 [g l15 0,v16] [E [g l9 0],E [v10]]) (
 .ret (g l11 0) [])) (
 .pure [] (.bin .eql .int) [g v 40,(.int .i64 4)] fun v17 =>
 .br v17 (
 .pure [] (.bin .sub .int) [(.int .i64 1),g v 39] fun v18 =>
 .newbox fun r2 =>
 .ret (.slice (some ⟨r2,0,none⟩) 2 2) [⟨r2,62,[(.int .i64 0),v18,(.int .i64 0),g v 39]⟩]) (
 .pure [] (.bin .eql .int) [g v 40,(.int .i64 5)] fun v19 =>
 .br v19 (
 .chk (.eqN r0 r0) <|
 .chk (.eqN r0 r0) <|
 .call false 29 [g v 0,(.agg #[g v 1,g v 2,g v 3,g v 4,g v 5,g v 6,g v 7,g v 8,g v 9,g v 10,g v 11,g v 12,g v 13,g v 14,g v 15,g v 16,g v 17,g v 18,g v 19,g v 20,g v 21,g v 22,g v 23,g v 24,g v 25,g v 26,g v 27,g v 28,g v 29,g v 30,g v 31,g v 32,g v 33,g v 34,g v 35,g v 36,g v 37,g v 38]),g v 39,(.int .i64 4)] [] [] .one fun l20 _ =>
 .call false 29 [g v 0,(.agg #[g v 1,g v 2,g v 3,g v 4,g v 5,g v 6,g v 7,g v 8,g v 9,g v 10,g v 11,g v 12,g v 13,g v 14,g v 15,g v 16,g v 17,g v 18,g v 19,g v 20,g v 21,g v 22,g v 23,g v 24,g v 25,g v 26,g v 27,g v 28,g v 29,g v 30,g v 31,g v 32,g v 33,g v 34,g v 35,g v 36,g v 37,g v 38]),g v 39,(.int .i64 1)] [] [] .one fun l21 _ =>
 .prim (.bi .append #[58,58] 58) [g l20 0,g l21 0] [] [] .one fun l22 _ =>
 .ret (g l22 0) []) (
 .pure [] (.bin .eql .int) [g v 40,(.int .i64 6)] fun v23 =>
 .br v23 (
 .chk (.eqN r0 r0) <|
 .pure [] .len [g v 30] fun v24 =>
 .pure [] (.bin .sub .int) [v24,(.int .i64 1)] fun v25 =>
 .loop 20 19 [(.slice none 0 0),v25] fun C20 l26 =>
 .pure [] (.bin .geq .int) [g l26 1,(.int .i64 0)] fun v27 =>
 .br v27 (
 .chk (.eqN r0 r0) <|
 .pure [] (.idx 5) [g v 30,g l26 1] fun v28 =>
 .load [] v28 5 fun l29 =>
 .call false 56 [g v 0,(.agg #[g l29 0,g l29 1,g l29 2,g l29 3,g l29 4])] [] [] .one fun l30 _ =>
 .br (g l30 0) (
 .chk (.eqN r0 r0) <|
 .pure [] (.idx 5) [g v 30,g l26 1] fun v31 =>
 .chk (.ptr [] v31) <|
 .load [] (ptrAdd v31 1) 1 fun l32 =>
 .newbox fun r3 =>
 .prim (.bi .append #[58,58] 58) [g l26 0,(.slice (some ⟨r3,0,none⟩) 1 1)] [⟨r3,62,[g l32 0,(.int .i64 0)]⟩] [] .one fun l33 _ =>
 .pure [] (.bin .sub .int) [g l26 1,(.int .i64 1)] fun v34 =>
 .cont 20 C20 [g l33 0,v34] [E [g v 0],E [(.pointer (some ⟨r0,0,none⟩))],E [(.pointer (some ⟨r0,0,none⟩)),g v 1,g v 2,g v 3,g v 4,g v 5,g v 6,g v 7,g v 8,g v 9,g v 10,g v 11,g v 12,g v 13,g v 14,g v 15,g v 16,g v 17,g v 18,g v 19,g v 20,g v 21,g v 22,g v 23,g v 24,g v 25,g v 26,g v 27,g v 28,g v 29,g v 30,g v 31,g v 32,g v 33,g v 34,g v 35,g v 36,g v 37,g v 38]]) (
 .pure [] (.bin .sub .int) [g l26 1,(.int .i64 1)] fun v35 =>
 .cont 20 C20 [g l26 0,v35] [E [g v 0],E [(.pointer (some ⟨r0,0,none⟩))],E [(.pointer (some ⟨r0,0,none⟩)),g v 1,g v 2,g v 3,g v 4,g v 5,g v 6,g v 7,g v 8,g v 9,g v 10,g v 11,g v 12,g v 13,g v 14,g v 15,g v 16,g v 17,g v 18,g v 19,g v 20,g v 21,g v 22,g v 23,g v 24,g v 25,g v 26,g v 27,g v 28,g v 29,g v 30,g v 31,g v 32,g v 33,g v 34,g v 35,g v 36,g v 37,g v 38]])) (
 .ret (g l26 0) [])) (
 .ret (.slice none 0 0) []))))))
theorem T_target_list_eq (vs : List Value) : sxFun PP Try.f29 (mkOpts okL [(73, [5, 6, 7, 8])] [(19, .inv [8, 11] [0, 5] [(5, [])]), (9, .inv [8, 40] [38, 39] [])] []) vs = T_target_list vs := by kernel_rfl
theorem run_target_list {args vs} (ha : entryArgs PP Try.f29 args = some vs) (ho : Ones vs) {H O Q} (h : (T_target_list vs).den PP Q H O) : Triple PP F_target_list args H O Q :=
 triple_run mixed (mkOpts_ok okL_ok _ _ _) Try.func29 T_target_list_eq ha ho h
abbrev F_board_within : FuncId := 43
/- zeitnot/board.within -/
def T_board_within (v : List Value) : Tree :=
 .pure [] (.bin .geq .int) [g v 0,g v 1] fun v0 =>
 .chk (.eqV v0 v0) <|
 .chk (.eqV v0 v0) <|
 .pure [] (.bin .leq .int) [g v 0,g v 2] fun v1 =>
 .chk (.eqV v0 v0) <|
 .pure [] .pick [v0,v1,(.bool false)] fun v2 =>
 .ret v2 []
theorem T_board_within_eq (vs : List Value) : sxFun PP Try.f43 (mkOpts okL [(73, [5, 6, 7, 8])] [] []) vs = T_board_within vs := by kernel_rfl
theorem run_board_within {args vs} (ha : entryArgs PP Try.f43 args = some vs) (ho : Ones vs) {H O Q} (h : (T_board_within vs).den PP Q H O) : Triple PP F_board_within args H O Q :=
 triple_run mixed (mkOpts_ok okL_ok _ _ _) Try.func43 T_board_within_eq ha ho h
abbrev F_mana_Valid : FuncId := 44
/- zeitnot/mana.Valid -/
def T_mana_Valid (v : List Value) : Tree :=
 .newbox fun r0 =>
 .chk (.eqN r0 r0) <|
 .call false 67 [(.agg #[g v 0,g v 1,g v 2,g v 3]),(.int .i64 99)] [] [] .one fun l0 _ =>
 .ret (g l0 0) []
theorem T_mana_Valid_eq (vs : List Value) : sxFun PP Try.f44 (mkOpts okL [(73, [5, 6, 7, 8])] [] []) vs = T_mana_Valid vs := by kernel_rfl
theorem run_mana_Valid {args vs} (ha : entryArgs PP Try.f44 args = some vs) (ho : Ones vs) {H O Q} (h : (T_mana_Valid vs).den PP Q H O) : Triple PP F_mana_Valid args H O Q :=
 triple_run mixed (mkOpts_ok okL_ok _ _ _) Try.func44 T_mana_Valid_eq ha ho h
abbrev F_slices_ContainsFunc_api_Item_api_Item : FuncId := 45
/- slices.ContainsFunc[[]zeitnot/api.Item,zeitnot/api.Item] -/
def T_slices_ContainsFunc_api_Item_api_Item (v : List Value) : Tree :=
 .call false 68 [g v 0,g v 1] [] [] .one fun l0 _ =>
 .pure [] (.bin .geq .int) [g l0 0,(.int .i64 0)] fun v1 =>
 .ret v1 []
theorem T_slices_ContainsFunc_api_Item_api_Item_eq (vs : List Value) : sxFun PP Try.f45 (mkOpts okL [(73, [5, 6, 7, 8])] [] []) vs = T_slices_ContainsFunc_api_Item_api_Item vs := by kernel_rfl
theorem run_slices_ContainsFunc_api_Item_api_Item {args vs} (ha : entryArgs PP Try.f45 args = some vs) (ho : Ones vs) {H O Q} (h : (T_slices_ContainsFunc_api_Item_api_Item vs).den PP Q H O) : Triple PP F_slices_ContainsFunc_api_Item_api_Item args H O Q :=
 triple_run mixed (mkOpts_ok okL_ok _ _ _) Try.func45 T_slices_ContainsFunc_api_Item_api_Item_eq ha ho h
abbrev F_board_Valid_1 : FuncId := 46
/- zeitnot/board.Valid$1 -/
def T_board_Valid_1 (v : List Value) : Tree :=
 .newbox fun r0 =>
 .chk (.eqN r0 r0) <|
 .call false 47 [(.agg #[g v 0,g v 1,g v 2,g v 3,g v 4]),(.bool false)] [] [] .one fun l0 _ =>
 .pure [] .not [g l0 0] fun v1 =>
 .ret v1 []
theorem T_board_Valid_1_eq (vs : List Value) : sxFun PP Try.f46 (mkOpts okL [(73, [5, 6, 7, 8])] [] []) vs = T_board_Valid_1 vs := by kernel_rfl
theorem run_board_Valid_1 {args vs} (ha : entryArgs PP Try.f46 args = some vs) (ho : Ones vs) {H O Q} (h : (T_board_Valid_1 vs).den PP Q H O) : Triple PP F_board_Valid_1 args H O Q :=
 triple_run mixed (mkOpts_ok okL_ok _ _ _) Try.func46 T_board_Valid_1_eq ha ho h
abbrev F_board_fine : FuncId := 47
/- zeitnot/board.fine -/
def T_board_fine (v : List Value) : Tree :=
 .newbox fun r0 =>
 .chk (.eqN r0 r0) <|
 .call false 43 [g v 0,(.int .i64 0),(.int .i64 1)] [] [] .one fun l0 _ =>
 .br (g l0 0) (
 .chk (.eqN r0 r0) <|
 .call false 43 [g v 1,(.int .i64 1),(.int .i64 500)] [] [] .one fun l1 _ =>
 .br (g l1 0) (
 .chk (.eqN r0 r0) <|
 .call false 43 [g v 2,(.int .i64 0),(.int .i64 399)] [] [] .one fun l2 _ =>
 .br (g l2 0) (
 .chk (.eqN r0 r0) <|
 .call false 43 [g v 3,(.int .i64 (-1)),(.int .i64 1)] [] [] .one fun l3 _ =>
 .pure [] .not [g l3 0] fun v4 =>
 .chk (.eqN r0 r0) <|
 .chk (.eqV v4 v4) <|
 .chk (.eqV v4 v4) <|
 .pure [] .len [g v 4] fun v5 =>
 .chk (.eqV v4 v4) <|
 .pure [] (.bin .gtr .int) [v5,(.int .i64 4)] fun v6 =>
 .chk (.eqV v4 v4) <|
 .pure [] .pick [v4,(.bool true),v6] fun v7 =>
 .chk (.eqN r0 r0) <|
 .chk (.eqV v7 v7) <|
 .chk (.eqV v7 v7) <|
 .pure [] (.bin .geq .int) [g v 3,(.int .i64 0)] fun v8 =>
 .chk (.eqV v7 v7) <|
 .chk (.eqN r0 r0) <|
 .chk (.eqV v8 v8) <|
 .chk (.eqV v7 v7) <|
 .chk (.eqV v8 v8) <|
 .chk (.eqV v7 v7) <|
 .pure [] .len [g v 4] fun v9 =>
 .chk (.eqV v8 v8) <|
 .chk (.eqV v7 v7) <|
 .pure [] (.bin .gtr .int) [v9,(.int .i64 0)] fun v10 =>
 .chk (.eqV v7 v7) <|
 .chk (.eqV v8 v8) <|
 .chk (.eqV v7 v7) <|
 .pure [] .pick [v8,v10,(.bool false)] fun v11 =>
 .chk (.eqV v7 v7) <|
 .pure [] .pick [v7,(.bool true),v11] fun v12 =>
 .chk (.eqV v12 v12) <|
 .chk (.eqN r0 r0) <|
 .chk (.eqV (g v 5) (g v 5)) <|
 .chk (.eqV v12 v12) <|
 .chk (.eqV (g v 5) (g v 5)) <|
 .chk (.eqV v12 v12) <|
 .pure [] (.bin .lss .int) [g v 3,(.int .i64 0)] fun v13 =>
 .chk (.eqV v12 v12) <|
 .chk (.eqV (g v 5) (g v 5)) <|
 .chk (.eqV v12 v12) <|
 .pure [] .pick [g v 5,v13,(.bool false)] fun v14 =>
 .chk (.eqV v12 v12) <|
 .pure [] .pick [v12,(.bool true),v14] fun v15 =>
 .br v15 (
 .ret (.bool false) []) (
 .chk (.eqN r0 r0) <|
 .call false 69 [g v 4,(.func (.func 70) #[] #[])] [] [] .one fun l16 _ =>
 .pure [] .not [g l16 0] fun v17 =>
 .ret v17 [])) (
 .ret (.bool false) [])) (
 .ret (.bool false) [])) (
 .ret (.bool false) [])
theorem T_board_fine_eq (vs : List Value) : sxFun PP Try.f47 (mkOpts okL [(73, [5, 6, 7, 8])] [] []) vs = T_board_fine vs := by kernel_rfl
theorem run_board_fine {args vs} (ha : entryArgs PP Try.f47 args = some vs) (ho : Ones vs) {H O Q} (h : (T_board_fine vs).den PP Q H O) : Triple PP F_board_fine args H O Q :=
 triple_run mixed (mkOpts_ok okL_ok _ _ _) Try.func47 T_board_fine_eq ha ho h
abbrev F_board_Valid_2 : FuncId := 48
/- zeitnot/board.Valid$2 -/
def T_board_Valid_2 (v : List Value) : Tree :=
 .newbox fun r0 =>
 .chk (.eqN r0 r0) <|
 .call false 47 [(.agg #[g v 0,g v 1,g v 2,g v 3,g v 4]),(.bool true)] [] [] .one fun l0 _ =>
 .pure [] .not [g l0 0] fun v1 =>
 .ret v1 []
theorem T_board_Valid_2_eq (vs : List Value) : sxFun PP Try.f48 (mkOpts okL [(73, [5, 6, 7, 8])] [] []) vs = T_board_Valid_2 vs := by kernel_rfl
theorem run_board_Valid_2 {args vs} (ha : entryArgs PP Try.f48 args = some vs) (ho : Ones vs) {H O Q} (h : (T_board_Valid_2 vs).den PP Q H O) : Triple PP F_board_Valid_2 args H O Q :=
 triple_run mixed (mkOpts_ok okL_ok _ _ _) Try.func48 T_board_Valid_2_eq ha ho h
abbrev F_board_placed : FuncId := 49
/- zeitnot/board.placed -/
def T_board_placed (v : List Value) : Tree :=
 .newbox fun r0 =>
 .prim (.makeMap 121 false) [] [] [] .one fun l0 _ =>
 .newbox fun r1 =>
 .chk (.eqN r1 r1) <|
 .call false 73 [(.pointer (some ⟨r0,1,none⟩))] [] [] (.agg 4) fun l1 _ =>
 .chk (.eqV (g l1 0) (.pointer (some ⟨r0,6,none⟩))) <|
 .chk (.eqV (g l1 1) (.pointer (some ⟨r0,7,none⟩))) <|
 .chk (.eqV (g l1 2) (.pointer (some ⟨r0,8,none⟩))) <|
 .chk (.eqV (g l1 3) (.pointer (some ⟨r0,9,none⟩))) <|
 .chk (.eqN r0 r0) <|
 .pure [] .len [g v 6] fun v2 =>
 .loop 24 10 [(.int .i64 0),g l0 0] fun C24 l3 =>
 .pure [] (.bin .lss .int) [g l3 0,v2] fun v4 =>
 .br v4 (
 .pure [] (.idx 1) [g v 6,g l3 0] fun v5 =>
 .load [] v5 1 fun l6 =>
 .call false 72 [g l6 0,(.int .i64 0),(.pointer (some ⟨r1,0,none⟩))] [] [⟨r1,121,[g l3 1]⟩] .one fun l7 c7 =>
 .pure [] .not [g l7 0] fun v8 =>
 .br v8 (
 .ret (.bool false) []) (
 .pure [] (.bin .add .int) [g l3 0,(.int .i64 1)] fun v9 =>
 .cont 24 C24 [v9,(g (c7.getD 0 []) 0)] [E [(.pointer (some ⟨r0,0,none⟩))],E [(.pointer (some ⟨r1,0,none⟩))],E [(.func (.func 72) #[] #[(.pointer (some ⟨r1,0,none⟩))])],E [(.int .i64 0)],E [(.int .i64 0)],E [(.pointer (some ⟨r0,6,none⟩)),(.pointer (some ⟨r0,7,none⟩)),(.pointer (some ⟨r0,8,none⟩)),(.pointer (some ⟨r0,9,none⟩))],E [(.int .i64 0)],E [g v 6],E [v2],E [(.pointer (some ⟨r0,0,none⟩)),g v 0,g v 1,g v 2,g v 3,g v 4,g v 5,g v 6,g v 7,g v 8,g v 9,g v 10,g v 11,g v 12,g v 13,g v 14,g v 15,g v 16,g v 17,g v 18,g v 19,g v 20,g v 21,g v 22,g v 23,g v 24,g v 25,g v 26,g v 27,g v 28,g v 29,g v 30,g v 31,g v 32,g v 33,g v 34,g v 35,g v 36,g v 37],E [(.pointer (some ⟨r1,0,none⟩)),(.tuple #[])]])) (
 .chk (.eqN r0 r0) <|
 .pure [] .len [g v 7] fun v10 =>
 .loop 36 10 [(.int .i64 0),g l3 1] fun C36 l11 =>
 .pure [] (.bin .lss .int) [g l11 0,v10] fun v12 =>
 .br v12 (
 .pure [] (.idx 1) [g v 7,g l11 0] fun v13 =>
 .load [] v13 1 fun l14 =>
 .call false 72 [g l14 0,(.int .i64 0),(.pointer (some ⟨r1,0,none⟩))] [] [⟨r1,121,[g l11 1]⟩] .one fun l15 c15 =>
 .pure [] .not [g l15 0] fun v16 =>
 .br v16 (
 .ret (.bool false) []) (
 .pure [] (.bin .add .int) [g l11 0,(.int .i64 1)] fun v17 =>
 .cont 36 C36 [v17,(g (c15.getD 0 []) 0)] [E [(.pointer (some ⟨r0,0,none⟩))],E [(.pointer (some ⟨r1,0,none⟩))],E [(.func (.func 72) #[] #[(.pointer (some ⟨r1,0,none⟩))])],E [(.int .i64 0)],E [(.int .i64 0)],E [(.pointer (some ⟨r0,6,none⟩)),(.pointer (some ⟨r0,7,none⟩)),(.pointer (some ⟨r0,8,none⟩)),(.pointer (some ⟨r0,9,none⟩))],E [(.int .i64 1)],E [g v 7],E [v10],E [(.pointer (some ⟨r0,0,none⟩)),g v 0,g v 1,g v 2,g v 3,g v 4,g v 5,g v 6,g v 7,g v 8,g v 9,g v 10,g v 11,g v 12,g v 13,g v 14,g v 15,g v 16,g v 17,g v 18,g v 19,g v 20,g v 21,g v 22,g v 23,g v 24,g v 25,g v 26,g v 27,g v 28,g v 29,g v 30,g v 31,g v 32,g v 33,g v 34,g v 35,g v 36,g v 37],E [(.pointer (some ⟨r1,0,none⟩)),(.tuple #[])]])) (
 .chk (.eqN r0 r0) <|
 .pure [] .len [g v 8] fun v18 =>
 .loop 48 10 [(.int .i64 0),g l11 1] fun C48 l19 =>
 .pure [] (.bin .lss .int) [g l19 0,v18] fun v20 =>
 .br v20 (
 .pure [] (.idx 1) [g v 8,g l19 0] fun v21 =>
 .load [] v21 1 fun l22 =>
 .call false 72 [g l22 0,(.int .i64 0),(.pointer (some ⟨r1,0,none⟩))] [] [⟨r1,121,[g l19 1]⟩] .one fun l23 c23 =>
 .pure [] .not [g l23 0] fun v24 =>
 .br v24 (
 .ret (.bool false) []) (
 .pure [] (.bin .add .int) [g l19 0,(.int .i64 1)] fun v25 =>
 .cont 48 C48 [v25,(g (c23.getD 0 []) 0)] [E [(.pointer (some ⟨r0,0,none⟩))],E [(.pointer (some ⟨r1,0,none⟩))],E [(.func (.func 72) #[] #[(.pointer (some ⟨r1,0,none⟩))])],E [(.int .i64 0)],E [(.int .i64 0)],E [(.pointer (some ⟨r0,6,none⟩)),(.pointer (some ⟨r0,7,none⟩)),(.pointer (some ⟨r0,8,none⟩)),(.pointer (some ⟨r0,9,none⟩))],E [(.int .i64 2)],E [g v 8],E [v18],E [(.pointer (some ⟨r0,0,none⟩)),g v 0,g v 1,g v 2,g v 3,g v 4,g v 5,g v 6,g v 7,g v 8,g v 9,g v 10,g v 11,g v 12,g v 13,g v 14,g v 15,g v 16,g v 17,g v 18,g v 19,g v 20,g v 21,g v 22,g v 23,g v 24,g v 25,g v 26,g v 27,g v 28,g v 29,g v 30,g v 31,g v 32,g v 33,g v 34,g v 35,g v 36,g v 37],E [(.pointer (some ⟨r1,0,none⟩)),(.tuple #[])]])) (
 .chk (.eqN r0 r0) <|
 .pure [] .len [g v 9] fun v26 =>
 .loop 60 10 [(.int .i64 0),g l19 1] fun C60 l27 =>
 .pure [] (.bin .lss .int) [g l27 0,v26] fun v28 =>
 .br v28 (
 .pure [] (.idx 1) [g v 9,g l27 0] fun v29 =>
 .load [] v29 1 fun l30 =>
 .call false 72 [g l30 0,(.int .i64 0),(.pointer (some ⟨r1,0,none⟩))] [] [⟨r1,121,[g l27 1]⟩] .one fun l31 c31 =>
 .pure [] .not [g l31 0] fun v32 =>
 .br v32 (
 .ret (.bool false) []) (
 .pure [] (.bin .add .int) [g l27 0,(.int .i64 1)] fun v33 =>
 .cont 60 C60 [v33,(g (c31.getD 0 []) 0)] [E [(.pointer (some ⟨r0,0,none⟩))],E [(.pointer (some ⟨r1,0,none⟩))],E [(.func (.func 72) #[] #[(.pointer (some ⟨r1,0,none⟩))])],E [(.int .i64 0)],E [(.int .i64 0)],E [(.pointer (some ⟨r0,6,none⟩)),(.pointer (some ⟨r0,7,none⟩)),(.pointer (some ⟨r0,8,none⟩)),(.pointer (some ⟨r0,9,none⟩))],E [(.int .i64 3)],E [g v 9],E [v26],E [(.pointer (some ⟨r0,0,none⟩)),g v 0,g v 1,g v 2,g v 3,g v 4,g v 5,g v 6,g v 7,g v 8,g v 9,g v 10,g v 11,g v 12,g v 13,g v 14,g v 15,g v 16,g v 17,g v 18,g v 19,g v 20,g v 21,g v 22,g v 23,g v 24,g v 25,g v 26,g v 27,g v 28,g v 29,g v 30,g v 31,g v 32,g v 33,g v 34,g v 35,g v 36,g v 37],E [(.pointer (some ⟨r1,0,none⟩)),(.tuple #[])]])) (
 .call false 73 [(.pointer (some ⟨r0,15,none⟩))] [] [] (.agg 4) fun l34 _ =>
 .chk (.eqV (g l34 0) (.pointer (some ⟨r0,20,none⟩))) <|
 .chk (.eqV (g l34 1) (.pointer (some ⟨r0,21,none⟩))) <|
 .chk (.eqV (g l34 2) (.pointer (some ⟨r0,22,none⟩))) <|
 .chk (.eqV (g l34 3) (.pointer (some ⟨r0,23,none⟩))) <|
 .chk (.eqN r0 r0) <|
 .pure [] .len [g v 20] fun v35 =>
 .loop 83 10 [(.int .i64 0),g l27 1] fun C83 l36 =>
 .pure [] (.bin .lss .int) [g l36 0,v35] fun v37 =>
 .br v37 (
 .pure [] (.idx 1) [g v 20,g l36 0] fun v38 =>
 .load [] v38 1 fun l39 =>
 .call false 72 [g l39 0,(.int .i64 1),(.pointer (some ⟨r1,0,none⟩))] [] [⟨r1,121,[g l36 1]⟩] .one fun l40 c40 =>
 .pure [] .not [g l40 0] fun v41 =>
 .br v41 (
 .ret (.bool false) []) (
 .pure [] (.bin .add .int) [g l36 0,(.int .i64 1)] fun v42 =>
 .cont 83 C83 [v42,(g (c40.getD 0 []) 0)] [E [(.pointer (some ⟨r0,0,none⟩))],E [(.pointer (some ⟨r1,0,none⟩))],E [(.func (.func 72) #[] #[(.pointer (some ⟨r1,0,none⟩))])],E [(.int .i64 1)],E [(.int .i64 1)],E [(.pointer (some ⟨r0,20,none⟩)),(.pointer (some ⟨r0,21,none⟩)),(.pointer (some ⟨r0,22,none⟩)),(.pointer (some ⟨r0,23,none⟩))],E [(.int .i64 0)],E [g v 20],E [v35],E [(.pointer (some ⟨r0,0,none⟩)),g v 0,g v 1,g v 2,g v 3,g v 4,g v 5,g v 6,g v 7,g v 8,g v 9,g v 10,g v 11,g v 12,g v 13,g v 14,g v 15,g v 16,g v 17,g v 18,g v 19,g v 20,g v 21,g v 22,g v 23,g v 24,g v 25,g v 26,g v 27,g v 28,g v 29,g v 30,g v 31,g v 32,g v 33,g v 34,g v 35,g v 36,g v 37],E [(.pointer (some ⟨r1,0,none⟩)),(.tuple #[])]])) (
 .chk (.eqN r0 r0) <|
 .pure [] .len [g v 21] fun v43 =>
 .loop 95 10 [(.int .i64 0),g l36 1] fun C95 l44 =>
 .pure [] (.bin .lss .int) [g l44 0,v43] fun v45 =>
 .br v45 (
 .pure [] (.idx 1) [g v 21,g l44 0] fun v46 =>
 .load [] v46 1 fun l47 =>
 .call false 72 [g l47 0,(.int .i64 1),(.pointer (some ⟨r1,0,none⟩))] [] [⟨r1,121,[g l44 1]⟩] .one fun l48 c48 =>
 .pure [] .not [g l48 0] fun v49 =>
 .br v49 (
 .ret (.bool false) []) (
 .pure [] (.bin .add .int) [g l44 0,(.int .i64 1)] fun v50 =>
 .cont 95 C95 [v50,(g (c48.getD 0 []) 0)] [E [(.pointer (some ⟨r0,0,none⟩))],E [(.pointer (some ⟨r1,0,none⟩))],E [(.func (.func 72) #[] #[(.pointer (some ⟨r1,0,none⟩))])],E [(.int .i64 1)],E [(.int .i64 1)],E [(.pointer (some ⟨r0,20,none⟩)),(.pointer (some ⟨r0,21,none⟩)),(.pointer (some ⟨r0,22,none⟩)),(.pointer (some ⟨r0,23,none⟩))],E [(.int .i64 1)],E [g v 21],E [v43],E [(.pointer (some ⟨r0,0,none⟩)),g v 0,g v 1,g v 2,g v 3,g v 4,g v 5,g v 6,g v 7,g v 8,g v 9,g v 10,g v 11,g v 12,g v 13,g v 14,g v 15,g v 16,g v 17,g v 18,g v 19,g v 20,g v 21,g v 22,g v 23,g v 24,g v 25,g v 26,g v 27,g v 28,g v 29,g v 30,g v 31,g v 32,g v 33,g v 34,g v 35,g v 36,g v 37],E [(.pointer (some ⟨r1,0,none⟩)),(.tuple #[])]])) (
 .chk (.eqN r0 r0) <|
 .pure [] .len [g v 22] fun v51 =>
 .loop 107 10 [(.int .i64 0),g l44 1] fun C107 l52 =>
 .pure [] (.bin .lss .int) [g l52 0,v51] fun v53 =>
 .br v53 (
 .pure [] (.idx 1) [g v 22,g l52 0] fun v54 =>
 .load [] v54 1 fun l55 =>
 .call false 72 [g l55 0,(.int .i64 1),(.pointer (some ⟨r1,0,none⟩))] [] [⟨r1,121,[g l52 1]⟩] .one fun l56 c56 =>
 .pure [] .not [g l56 0] fun v57 =>
 .br v57 (
 .ret (.bool false) []) (
 .pure [] (.bin .add .int) [g l52 0,(.int .i64 1)] fun v58 =>
 .cont 107 C107 [v58,(g (c56.getD 0 []) 0)] [E [(.pointer (some ⟨r0,0,none⟩))],E [(.pointer (some ⟨r1,0,none⟩))],E [(.func (.func 72) #[] #[(.pointer (some ⟨r1,0,none⟩))])],E [(.int .i64 1)],E [(.int .i64 1)],E [(.pointer (some ⟨r0,20,none⟩)),(.pointer (some ⟨r0,21,none⟩)),(.pointer (some ⟨r0,22,none⟩)),(.pointer (some ⟨r0,23,none⟩))],E [(.int .i64 2)],E [g v 22],E [v51],E [(.pointer (some ⟨r0,0,none⟩)),g v 0,g v 1,g v 2,g v 3,g v 4,g v 5,g v 6,g v 7,g v 8,g v 9,g v 10,g v 11,g v 12,g v 13,g v 14,g v 15,g v 16,g v 17,g v 18,g v 19,g v 20,g v 21,g v 22,g v 23,g v 24,g v 25,g v 26,g v 27,g v 28,g v 29,g v 30,g v 31,g v 32,g v 33,g v 34,g v 35,g v 36,g v 37],E [(.pointer (some ⟨r1,0,none⟩)),(.tuple #[])]])) (
 .chk (.eqN r0 r0) <|
 .pure [] .len [g v 23] fun v59 =>
 .loop 119 10 [(.int .i64 0),g l52 1] fun C119 l60 =>
 .pure [] (.bin .lss .int) [g l60 0,v59] fun v61 =>
 .br v61 (
 .pure [] (.idx 1) [g v 23,g l60 0] fun v62 =>
 .load [] v62 1 fun l63 =>
 .call false 72 [g l63 0,(.int .i64 1),(.pointer (some ⟨r1,0,none⟩))] [] [⟨r1,121,[g l60 1]⟩] .one fun l64 c64 =>
 .pure [] .not [g l64 0] fun v65 =>
 .br v65 (
 .ret (.bool false) []) (
 .pure [] (.bin .add .int) [g l60 0,(.int .i64 1)] fun v66 =>
 .cont 119 C119 [v66,(g (c64.getD 0 []) 0)] [E [(.pointer (some ⟨r0,0,none⟩))],E [(.pointer (some ⟨r1,0,none⟩))],E [(.func (.func 72) #[] #[(.pointer (some ⟨r1,0,none⟩))])],E [(.int .i64 1)],E [(.int .i64 1)],E [(.pointer (some ⟨r0,20,none⟩)),(.pointer (some ⟨r0,21,none⟩)),(.pointer (some ⟨r0,22,none⟩)),(.pointer (some ⟨r0,23,none⟩))],E [(.int .i64 3)],E [g v 23],E [v59],E [(.pointer (some ⟨r0,0,none⟩)),g v 0,g v 1,g v 2,g v 3,g v 4,g v 5,g v 6,g v 7,g v 8,g v 9,g v 10,g v 11,g v 12,g v 13,g v 14,g v 15,g v 16,g v 17,g v 18,g v 19,g v 20,g v 21,g v 22,g v 23,g v 24,g v 25,g v 26,g v 27,g v 28,g v 29,g v 30,g v 31,g v 32,g v 33,g v 34,g v 35,g v 36,g v 37],E [(.pointer (some ⟨r1,0,none⟩)),(.tuple #[])]])) (
 .prim (.makeMap 121 false) [] [] [] .one fun l67 _ =>
 .chk (.eqN r0 r0) <|
 .pure [] .len [g v 29] fun v68 =>
 .loop 133 19 [(.int .i64 0),g l60 1] fun C133 l69 =>
 .pure [] (.bin .lss .int) [g l69 0,v68] fun v70 =>
 .br v70 (
 .pure [] (.idx 5) [g v 29,g l69 0] fun v71 =>
 .load [] v71 5 fun l72 =>
 .newbox fun r2 =>
 .chk (.eqN r2 r2) <|
 .chk (.eqN r2 r2) <|
 .pure [] (.bin .lss .int) [g l72 3,(.int .i64 0)] fun v73 =>
 .br v73 (
 .chk (.eqN r2 r2) <|
 .chk (.eqN r2 r2) <|
 .call false 72 [g l72 1,g l72 0,(.pointer (some ⟨r1,0,none⟩))] [] [⟨r1,121,[g l69 1]⟩] .one fun l74 c74 =>
 .pure [] .not [g l74 0] fun v75 =>
 .br v75 (
 .ret (.bool false) []) (
 .chk (.eqN r2 r2) <|
 .chk (.eqN r2 r2) <|
 .prim (.mapUpdate 121) [g l67 0,g l72 1,g l72 2] [] [] .one fun l76 _ =>
 .pure [] (.bin .add .int) [g l69 0,(.int .i64 1)] fun v77 =>
 .cont 133 C133 [v77,(g (c74.getD 0 []) 0)] [E [(.pointer (some ⟨r0,0,none⟩))],E [(.pointer (some ⟨r1,0,none⟩))],E [(.func (.func 72) #[] #[(.pointer (some ⟨r1,0,none⟩))])],E [g l67 0],E [g v 29],E [v68],E [(.pointer (some ⟨r0,0,none⟩)),g v 0,g v 1,g v 2,g v 3,g v 4,g v 5,g v 6,g v 7,g v 8,g v 9,g v 10,g v 11,g v 12,g v 13,g v 14,g v 15,g v 16,g v 17,g v 18,g v 19,g v 20,g v 21,g v 22,g v 23,g v 24,g v 25,g v 26,g v 27,g v 28,g v 29,g v 30,g v 31,g v 32,g v 33,g v 34,g v 35,g v 36,g v 37],E [(.pointer (some ⟨r1,0,none⟩)),(.tuple #[])]])) (
 .pure [] (.bin .add .int) [g l69 0,(.int .i64 1)] fun v78 =>
 .cont 133 C133 [v78,g l69 1] [E [(.pointer (some ⟨r0,0,none⟩))],E [(.pointer (some ⟨r1,0,none⟩))],E [(.func (.func 72) #[] #[(.pointer (some ⟨r1,0,none⟩))])],E [g l67 0],E [g v 29],E [v68],E [(.pointer (some ⟨r0,0,none⟩)),g v 0,g v 1,g v 2,g v 3,g v 4,g v 5,g v 6,g v 7,g v 8,g v 9,g v 10,g v 11,g v 12,g v 13,g v 14,g v 15,g v 16,g v 17,g v 18,g v 19,g v 20,g v 21,g v 22,g v 23,g v 24,g v 25,g v 26,g v 27,g v 28,g v 29,g v 30,g v 31,g v 32,g v 33,g v 34,g v 35,g v 36,g v 37],E [(.pointer (some ⟨r1,0,none⟩)),(.tuple #[])]])) (
 .chk (.eqN r0 r0) <|
 .pure [] .len [g v 0] fun v79 =>
 .loop 139 27 [(.int .i64 0)] fun C139 l80 =>
 .pure [] (.bin .lss .int) [g l80 0,v79] fun v81 =>
 .br v81 (
 .pure [] (.idx 12) [g v 0,g l80 0] fun v82 =>
 .load [] v82 12 fun l83 =>
 .newbox fun r3 =>
 .chk (.eqN r3 r3) <|
 .chk (.eqN r1 r1) <|
 .chk (.eqN r3 r3) <|
 .prim (.lookup 121 true) [g l69 1,g l83 0] [] [] (.tup [none,none]) fun l84 _ =>
 .chk (.eqN r3 r3) <|
 .prim (.lookup 121 true) [g l67 0,g l83 0] [] [] (.tup [none,none]) fun l85 _ =>
 .chk (.eqN r3 r3) <|
 .call false 74 [(.agg #[g l83 0,g l83 1,g l83 2,g l83 3,g l83 4,g l83 5,g l83 6,g l83 7,g l83 8,g l83 9,g l83 10,g l83 11])] [] [] .one fun l86 _ =>
 .pure [] .not [g l86 0] fun v87 =>
 .chk (.eqV v87 v87) <|
 .pure [] (.bin .gtr .int) [g l80 0,(.int .i64 0)] fun v88 =>
 .chk (.eqV v87 v87) <|
 .chk (.eqN r0 r0) <|
 .chk (.eqV v88 v88) <|
 .chk (.eqV v87 v87) <|
 .chk (.eqV v88 v88) <|
 .chk (.eqV v87 v87) <|
 .pure [] (.bin .sub .int) [g l80 0,(.int .i64 1)] fun v89 =>
 .chk (.eqV v88 v88) <|
 .chk (.eqV v87 v87) <|
 .chk (.eqV v88 v88) <|
 .chk (.eqV v87 v87) <|
 .pure [(v88,true),(v87,false)] (.idx 12) [g v 0,v89] fun v90 =>
 .chk (.ptr [(v88,true),(v87,false)] v90) <|
 .chk (.eqV v88 v88) <|
 .chk (.eqV v87 v87) <|
 .chk (.eqV v88 v88) <|
 .chk (.eqV v87 v87) <|
 .load [(v88,true),(v87,false)] v90 1 fun l91 =>
 .chk (.eqN r3 r3) <|
 .chk (.eqV v88 v88) <|
 .chk (.eqV v87 v87) <|
 .chk (.eqV v88 v88) <|
 .chk (.eqV v87 v87) <|
 .chk (.eqV v88 v88) <|
 .chk (.eqV v87 v87) <|
 .pure [] (.bin .geq .int) [g l91 0,g l83 0] fun v92 =>
 .chk (.eqV v87 v87) <|
 .chk (.eqV v88 v88) <|
 .chk (.eqV v87 v87) <|
 .pure [] .pick [v88,v92,(.bool false)] fun v93 =>
 .chk (.eqV v87 v87) <|
 .pure [] .pick [v87,(.bool true),v93] fun v94 =>
 .chk (.eqV v94 v94) <|
 .pure [] .not [g l84 1] fun v95 =>
 .chk (.eqV v94 v94) <|
 .pure [] .pick [v94,(.bool true),v95] fun v96 =>
 .chk (.eqN r3 r3) <|
 .chk (.eqV v96 v96) <|
 .chk (.eqV v96 v96) <|
 .chk (.eqV v96 v96) <|
 .pure [] (.bin .neq .int) [g l84 0,g l83 2] fun v97 =>
 .chk (.eqV v96 v96) <|
 .pure [] .pick [v96,(.bool true),v97] fun v98 =>
 .chk (.eqV v98 v98) <|
 .chk (.eqN r3 r3) <|
 .chk (.eqV (g l85 1) (g l85 1)) <|
 .chk (.eqV v98 v98) <|
 .chk (.eqV (g l85 1) (g l85 1)) <|
 .chk (.eqV v98 v98) <|
 .chk (.eqV (g l85 1) (g l85 1)) <|
 .chk (.eqV v98 v98) <|
 .pure [] (.bin .neq .int) [g l85 0,g l83 1] fun v99 =>
 .chk (.eqV v98 v98) <|
 .chk (.eqV (g l85 1) (g l85 1)) <|
 .chk (.eqV v98 v98) <|
 .pure [] .pick [g l85 1,v99,(.bool false)] fun v100 =>
 .chk (.eqV v98 v98) <|
 .pure [] .pick [v98,(.bool true),v100] fun v101 =>
 .br v101 (
 .ret (.bool false) []) (
 .pure [] (.bin .add .int) [g l80 0,(.int .i64 1)] fun v102 =>
 .cont 139 C139 [v102] [E [(.pointer (some ⟨r0,0,none⟩))],E [(.pointer (some ⟨r1,0,none⟩))],E [g l67 0],E [g v 0],E [v79],E [(.pointer (some ⟨r0,0,none⟩)),g v 0,g v 1,g v 2,g v 3,g v 4,g v 5,g v 6,g v 7,g v 8,g v 9,g v 10,g v 11,g v 12,g v 13,g v 14,g v 15,g v 16,g v 17,g v 18,g v 19,g v 20,g v 21,g v 22,g v 23,g v 24,g v 25,g v 26,g v 27,g v 28,g v 29,g v 30,g v 31,g v 32,g v 33,g v 34,g v 35,g v 36,g v 37],E [(.pointer (some ⟨r1,0,none⟩)),g l69 1]])) (
 .chk (.eqN r1 r1) <|
 .prim (.bi .len #[121] 3) [g l69 1] [] [] .one fun l103 _ =>
 .chk (.eqN r0 r0) <|
 .pure [] .len [g v 0] fun v104 =>
 .pure [] (.bin .eql .int) [g l103 0,v104] fun v105 =>
 .ret v105 []))))))))))
theorem T_board_placed_eq (vs : List Value) : sxFun PP Try.f49 (mkOpts okL [(73, [5, 6, 7, 8])] [(4, .unroll 3), (7, .unroll 5), (10, .inv [35] [1, 3, 4, 5, 21, 27, 28, 33, 34] [(1, []), (3, [0])]), (19, .inv [51] [1, 3, 4, 10, 49, 50] [(1, []), (3, [0])]), (27, .inv [74] [1, 3, 10, 72, 73] [(1, []), (3, [])])] []) vs = T_board_placed vs := by kernel_rfl
theorem run_board_placed {args vs} (ha : entryArgs PP Try.f49 args = some vs) (ho : Ones vs) {H O Q} (h : (T_board_placed vs).den PP Q H O) : Triple PP F_board_placed args H O Q :=
 triple_run mixed (mkOpts_ok okL_ok _ _ _) Try.func49 T_board_placed_eq ha ho h
end Go.Proofs.Ytbaegnnmedjkmaa
