/- The trees of the functions of this seat: printed by a tool of mine; each by the kernel's reckoning equal to the evaluator's. -/
import Derived.Test.YtieaihgbjikggaaGreatBT1
namespace Go.Proofs.YtieaihgbjikggaaGreat
open Go Go.Sx
set_option maxRecDepth 100000
abbrev F_stack_Open : FuncId := 13
/- zeitnot/stack.Open -/
def T_stack_Open (v : List Value) : Tree :=
 .newbox fun r0 =>
 .chk (.eqN r0 r0) <|
 .pure [] .len [g v 30] fun v0 =>
 .pure [] (.bin .eql .int) [v0,(.int .i64 0)] fun v1 =>
 .br v1 (
 .ret (.int .i64 0) []) (
 .chk (.eqN r0 r0) <|
 .call false 42 [(.agg #[g v 1,g v 2,g v 3,g v 4,g v 5,g v 6,g v 7,g v 8,g v 9,g v 10,g v 11,g v 12,g v 13,g v 14,g v 15,g v 16,g v 17,g v 18,g v 19,g v 20,g v 21,g v 22,g v 23,g v 24,g v 25,g v 26,g v 27,g v 28,g v 29,g v 30,g v 31,g v 32,g v 33,g v 34,g v 35,g v 36,g v 37,g v 38])] [] [] .one fun l2 _ =>
 .pure [] .not [g l2 0] fun v3 =>
 .chk (.eqN r0 r0) <|
 .chk (.eqV v3 v3) <|
 .chk (.eqV v3 v3) <|
 .pure [] (.bin .sub .int) [v0,(.int .i64 1)] fun v4 =>
 .chk (.eqV v3 v3) <|
 .chk (.eqV v3 v3) <|
 .pure [(v3,false)] (.idx 5) [g v 30,v4] fun v5 =>
 .chk (.ptr [(v3,false)] v5) <|
 .chk (.eqV v3 v3) <|
 .chk (.eqV v3 v3) <|
 .load [(v3,false)] (ptrAdd v5 3) 1 fun l6 =>
 .chk (.eqV v3 v3) <|
 .pure [] (.bin .neq .int) [g l6 0,(.int .i64 (-1))] fun v7 =>
 .chk (.eqV v3 v3) <|
 .pure [] .pick [v3,(.bool true),v7] fun v8 =>
 .br v8 (
 .ret (.int .i64 0) []) (
 .chk (.eqN r0 r0) <|
 .pure [] (.bin .sub .int) [v0,(.int .i64 1)] fun v9 =>
 .pure [] (.idx 5) [g v 30,v9] fun v10 =>
 .load [] v10 5 fun l11 =>
 .newbox fun r1 =>
 .chk (.eqN r1 r1) <|
 .chk (.eqN r1 r1) <|
 .call false 15 [g v 0,(.agg #[g l11 0,g l11 1,g l11 2,g l11 3,g l11 4])] [] [] .one fun l12 _ =>
 .call false 43 [g l12 0] [] [] .one fun l13 _ =>
 .chk (.eqN r1 r1) <|
 .pure [] .len [g l11 4] fun v14 =>
 .pure [] .len [g l13 0] fun v15 =>
 .pure [] (.bin .lss .int) [v14,v15] fun v16 =>
 .chk (.eqV v16 v16) <|
 .pure [] (.bin .lss .int) [v14,(.int .i64 4)] fun v17 =>
 .chk (.eqV v16 v16) <|
 .pure [] .pick [v16,v17,(.bool false)] fun v18 =>
 .br v18 (
 .pure [] (.idx 1) [g l13 0,v14] fun v19 =>
 .load [] v19 1 fun l20 =>
 .ret (g l20 0) []) (
 .ret (.int .i64 0) [])))
theorem T_stack_Open_eq (vs : List Value) : sxFun PP Tryz.f13 (mkOpts okL [(81, [5, 6, 7, 8])] [] []) vs = T_stack_Open vs := by kernel_rfl
theorem run_stack_Open {args vs} (ha : entryArgs PP Tryz.f13 args = some vs) (ho : Ones vs) {H O Q} (h : (T_stack_Open vs).den PP Q H O) : Triple PP F_stack_Open args H O Q :=
 triple_run mixed (mkOpts_ok okL_ok _ _ _) Tryz.func13 T_stack_Open_eq ha ho h
abbrev F_zeitnotref15_Copy : FuncId := 17
/- zeitnot/zeitnotref15.Copy -/
def T_zeitnotref15_Copy (v : List Value) : Tree :=
 .newbox fun r0 =>
 .newbox fun r1 =>
 .chk (.eqN r0 r0) <|
 .prim (.bi .append #[23,23] 23) [(.slice none 0 0),g v 0] [] [] .one fun l0 _ =>
 .chk (.eqN r0 r0) <|
 .chk (.eqN r0 r0) <|
 .prim (.bi .append #[26,26] 26) [(.slice none 0 0),g v 6] [] [] .one fun l1 _ =>
 .chk (.eqN r0 r0) <|
 .chk (.eqN r0 r0) <|
 .prim (.bi .append #[26,26] 26) [(.slice none 0 0),g v 7] [] [] .one fun l2 _ =>
 .chk (.eqN r0 r0) <|
 .chk (.eqN r0 r0) <|
 .prim (.bi .append #[26,26] 26) [(.slice none 0 0),g v 8] [] [] .one fun l3 _ =>
 .chk (.eqN r0 r0) <|
 .chk (.eqN r0 r0) <|
 .prim (.bi .append #[26,26] 26) [(.slice none 0 0),g v 9] [] [] .one fun l4 _ =>
 .chk (.eqN r0 r0) <|
 .chk (.eqN r0 r0) <|
 .prim (.bi .append #[26,26] 26) [(.slice none 0 0),g v 20] [] [] .one fun l5 _ =>
 .chk (.eqN r0 r0) <|
 .chk (.eqN r0 r0) <|
 .prim (.bi .append #[26,26] 26) [(.slice none 0 0),g v 21] [] [] .one fun l6 _ =>
 .chk (.eqN r0 r0) <|
 .chk (.eqN r0 r0) <|
 .prim (.bi .append #[26,26] 26) [(.slice none 0 0),g v 22] [] [] .one fun l7 _ =>
 .chk (.eqN r0 r0) <|
 .chk (.eqN r0 r0) <|
 .prim (.bi .append #[26,26] 26) [(.slice none 0 0),g v 23] [] [] .one fun l8 _ =>
 .chk (.eqN r0 r0) <|
 .chk (.eqN r0 r0) <|
 .chk (.eqN r0 r0) <|
 .call false 47 [g v 29] [] [] .one fun l9 _ =>
 .call false 47 [g v 30] [] [] .one fun l10 _ =>
 .chk (.eqN r0 r0) <|
 .chk (.eqN r0 r0) <|
 .chk (.eqN r0 r0) <|
 .prim (.bi .append #[26,26] 26) [(.slice none 0 0),g v 31] [] [] .one fun l11 _ =>
 .chk (.eqN r0 r0) <|
 .chk (.eqN r0 r0) <|
 .prim (.bi .append #[31,31] 31) [(.slice none 0 0),g v 32] [] [] .one fun l12 _ =>
 .chk (.eqN r0 r0) <|
 .chk (.eqN r0 r0) <|
 .chk (.eqN r1 r1) <|
 .chk (.eqN r1 r1) <|
 .ret (.agg #[g l0 0,g v 1,g v 2,g v 3,g v 4,g v 5,g l1 0,g l2 0,g l3 0,g l4 0,g v 10,g v 11,g v 12,g v 13,g v 14,g v 15,g v 16,g v 17,g v 18,g v 19,g l5 0,g l6 0,g l7 0,g l8 0,g v 24,g v 25,g v 26,g v 27,g v 28,g l9 0,g l10 0,g l11 0,g l12 0,g v 33,g v 34,g v 35,g v 36,g v 37]) []
theorem T_zeitnotref15_Copy_eq (vs : List Value) : sxFun PP Tryz.f17 (mkOpts okL [(81, [5, 6, 7, 8])] [(3, .unroll 3)] []) vs = T_zeitnotref15_Copy vs := by kernel_rfl
theorem run_zeitnotref15_Copy {args vs} (ha : entryArgs PP Tryz.f17 args = some vs) (ho : Ones vs) {H O Q} (h : (T_zeitnotref15_Copy vs).den PP Q H O) : Triple PP F_zeitnotref15_Copy args H O Q :=
 triple_run mixed (mkOpts_ok okL_ok _ _ _) Tryz.func17 T_zeitnotref15_Copy_eq ha ho h
abbrev F_stack_Cast : FuncId := 18
/- zeitnot/stack.Cast -/
def T_stack_Cast (v : List Value) : Tree :=
 .newbox fun r0 =>
 .newbox fun r1 =>
 .chk (.eqN r0 r0) <|
 .call false 48 [(.agg #[g v 0,g v 1,g v 2,g v 3,g v 4,g v 5,g v 6,g v 7,g v 8,g v 9,g v 10,g v 11,g v 12,g v 13,g v 14,g v 15,g v 16,g v 17,g v 18,g v 19,g v 20,g v 21,g v 22,g v 23,g v 24,g v 25,g v 26,g v 27,g v 28,g v 29,g v 30,g v 31,g v 32,g v 33,g v 34,g v 35,g v 36,g v 37]),g v 38] [] [] (.tup [some 3,none]) fun l0 _ =>
 .newbox fun r2 =>
 .chk (.eqN r2 r2) <|
 .pure [] (.bin .neq .int) [g l0 3,(.int .i64 0)] fun v1 =>
 .br v1 (
 .chk (.eqN r1 r1) <|
 .chk (.eqN r1 r1) <|
 .ret (.tuple #[(.agg #[(.slice none 0 0),(.int .i64 0),(.int .i64 0),(.int .i64 0),(.int .i64 0),(.int .i64 0),(.slice none 0 0),(.slice none 0 0),(.slice none 0 0),(.slice none 0 0),(.bool false),(.bool false),(.bool false),(.int .i64 0),(.int .i64 0),(.int .i64 0),(.int .i64 0),(.int .i64 0),(.int .i64 0),(.int .i64 0),(.slice none 0 0),(.slice none 0 0),(.slice none 0 0),(.slice none 0 0),(.bool false),(.bool false),(.bool false),(.int .i64 0),(.int .i64 0),(.slice none 0 0),(.slice none 0 0),(.slice none 0 0),(.slice none 0 0),(.int .i64 0),(.int .i64 0),(.int .i64 0),(.int .i64 0),(.int .i64 0)]),g l0 3]) []) (
 .chk (.eqN r0 r0) <|
 .call false 49 [(.agg #[g v 0,g v 1,g v 2,g v 3,g v 4,g v 5,g v 6,g v 7,g v 8,g v 9,g v 10,g v 11,g v 12,g v 13,g v 14,g v 15,g v 16,g v 17,g v 18,g v 19,g v 20,g v 21,g v 22,g v 23,g v 24,g v 25,g v 26,g v 27,g v 28,g v 29,g v 30,g v 31,g v 32,g v 33,g v 34,g v 35,g v 36,g v 37]),g v 38] [] [] (.tup [some 12,none]) fun l2 _ =>
 .newbox fun r3 =>
 .chk (.eqN r3 r3) <|
 .chk (.eqN r2 r2) <|
 .pure [] (.bin .neq .int) [g l0 1,(.int .i64 1)] fun v3 =>
 .chk (.eqN r3 r3) <|
 .chk (.eqV v3 v3) <|
 .chk (.eqV v3 v3) <|
 .pure [] (.bin .lss .int) [g l2 1,(.int .i64 0)] fun v4 =>
 .chk (.eqV v3 v3) <|
 .pure [] .pick [v3,(.bool true),v4] fun v5 =>
 .br v5 (
 .chk (.eqN r1 r1) <|
 .chk (.eqN r1 r1) <|
 .ret (.tuple #[(.agg #[(.slice none 0 0),(.int .i64 0),(.int .i64 0),(.int .i64 0),(.int .i64 0),(.int .i64 0),(.slice none 0 0),(.slice none 0 0),(.slice none 0 0),(.slice none 0 0),(.bool false),(.bool false),(.bool false),(.int .i64 0),(.int .i64 0),(.int .i64 0),(.int .i64 0),(.int .i64 0),(.int .i64 0),(.int .i64 0),(.slice none 0 0),(.slice none 0 0),(.slice none 0 0),(.slice none 0 0),(.bool false),(.bool false),(.bool false),(.int .i64 0),(.int .i64 0),(.slice none 0 0),(.slice none 0 0),(.slice none 0 0),(.slice none 0 0),(.int .i64 0),(.int .i64 0),(.int .i64 0),(.int .i64 0),(.int .i64 0)]),(.int .i64 8)]) []) (
 .chk (.eqN r0 r0) <|
 .pure [] .len [g v 29] fun v6 =>
 .pure [] (.bin .geq .int) [v6,(.int .i64 200)] fun v7 =>
 .br v7 (
 .chk (.eqN r1 r1) <|
 .chk (.eqN r1 r1) <|
 .ret (.tuple #[(.agg #[(.slice none 0 0),(.int .i64 0),(.int .i64 0),(.int .i64 0),(.int .i64 0),(.int .i64 0),(.slice none 0 0),(.slice none 0 0),(.slice none 0 0),(.slice none 0 0),(.bool false),(.bool false),(.bool false),(.int .i64 0),(.int .i64 0),(.int .i64 0),(.int .i64 0),(.int .i64 0),(.int .i64 0),(.int .i64 0),(.slice none 0 0),(.slice none 0 0),(.slice none 0 0),(.slice none 0 0),(.bool false),(.bool false),(.bool false),(.int .i64 0),(.int .i64 0),(.slice none 0 0),(.slice none 0 0),(.slice none 0 0),(.slice none 0 0),(.int .i64 0),(.int .i64 0),(.int .i64 0),(.int .i64 0),(.int .i64 0)]),(.int .i64 7)]) []) (
 .chk (.eqN r0 r0) <|
 .call false 50 [(.agg #[g v 0,g v 1,g v 2,g v 3,g v 4,g v 5,g v 6,g v 7,g v 8,g v 9,g v 10,g v 11,g v 12,g v 13,g v 14,g v 15,g v 16,g v 17,g v 18,g v 19,g v 20,g v 21,g v 22,g v 23,g v 24,g v 25,g v 26,g v 27,g v 28,g v 29,g v 30,g v 31,g v 32,g v 33,g v 34,g v 35,g v 36,g v 37])] [] [] (.agg 38) fun l8 _ =>
 .newbox fun r4 =>
 .chk (.eqN r4 r4) <|
 .chk (.eqN r3 r3) <|
 .sw (g l2 2) 0 (
 .chk (.eqN r4 r4) <|
 .chk (.eqN r2 r2) <|
 .chk (.eqN r2 r2) <|
 .pure [] (.bin .add .int) [g l0 2,(.int .i64 1)] fun v9 =>
 .call false 51 [g l8 7,g l0 2,v9] [] [] .one fun l10 _ =>
 .chk (.eqN r4 r4) <|
 .chk (.eqN r4 r4) <|
 .call false 52 [g l8 0,g v 38,(.func (.func 53) #[] #[])] [] [] (.tup [none,none]) fun l11 _ =>
 .chk (.eqN r4 r4) <|
 .chk (.eqN r3 r3) <|
 .call false 54 [(.agg #[g l2 0,g l2 1,g l2 2,g l2 3,g l2 4,g l2 5,g l2 6,g l2 7,g l2 8,g l2 9,g l2 10,g l2 11]),(.int .i64 4)] [] [] (.agg 12) fun l12 _ =>
 .pure [] (.idx 12) [g l8 0,g l11 0] fun v13 =>
 .chk (.ptr [] v13) <|
 .store v13 [g l12 0,g l12 1,g l12 2,g l12 3,g l12 4,g l12 5,g l12 6,g l12 7,g l12 8,g l12 9,g l12 10,g l12 11] <|
 .chk (.eqN r4 r4) <|
 .chk (.eqN r3 r3) <|
 .chk (.eqN r3 r3) <|
 .newbox fun r5 =>
 .prim (.bi .append #[30,30] 30) [g l8 29,(.slice (some ⟨r5,0,none⟩) 1 1)] [⟨r5,41,[g l2 2,g v 38,g l2 1,(.int .i64 (-1)),(.slice none 0 0)]⟩] [] .one fun l14 _ =>
 .chk (.eqN r4 r4) <|
 .chk (.eqN r4 r4) <|
 .chk (.eqN r1 r1) <|
 .chk (.eqN r1 r1) <|
 .ret (.tuple #[(.agg #[g l8 0,g l8 1,g l8 2,g l8 3,g l8 4,g l8 5,g l8 6,g l10 0,g l8 8,g l8 9,g l8 10,g l8 11,g l8 12,g l8 13,g l8 14,g l8 15,g l8 16,g l8 17,g l8 18,g l8 19,g l8 20,g l8 21,g l8 22,g l8 23,g l8 24,g l8 25,g l8 26,g l8 27,g l8 28,g l14 0,g l8 30,g l8 31,g l8 32,g l8 33,g l8 34,g l8 35,g l8 36,g l8 37]),(.int .i64 0)]) []) (
 .sw (g l2 2) 1 (
 .chk (.eqN r4 r4) <|
 .chk (.eqN r2 r2) <|
 .chk (.eqN r2 r2) <|
 .pure [] (.bin .add .int) [g l0 2,(.int .i64 1)] fun v15 =>
 .call false 51 [g l8 21,g l0 2,v15] [] [] .one fun l16 _ =>
 .chk (.eqN r4 r4) <|
 .chk (.eqN r4 r4) <|
 .call false 52 [g l8 0,g v 38,(.func (.func 53) #[] #[])] [] [] (.tup [none,none]) fun l17 _ =>
 .chk (.eqN r4 r4) <|
 .chk (.eqN r3 r3) <|
 .call false 54 [(.agg #[g l2 0,g l2 1,g l2 2,g l2 3,g l2 4,g l2 5,g l2 6,g l2 7,g l2 8,g l2 9,g l2 10,g l2 11]),(.int .i64 4)] [] [] (.agg 12) fun l18 _ =>
 .pure [] (.idx 12) [g l8 0,g l17 0] fun v19 =>
 .chk (.ptr [] v19) <|
 .store v19 [g l18 0,g l18 1,g l18 2,g l18 3,g l18 4,g l18 5,g l18 6,g l18 7,g l18 8,g l18 9,g l18 10,g l18 11] <|
 .chk (.eqN r4 r4) <|
 .chk (.eqN r3 r3) <|
 .chk (.eqN r3 r3) <|
 .newbox fun r6 =>
 .prim (.bi .append #[30,30] 30) [g l8 29,(.slice (some ⟨r6,0,none⟩) 1 1)] [⟨r6,41,[g l2 2,g v 38,g l2 1,(.int .i64 (-1)),(.slice none 0 0)]⟩] [] .one fun l20 _ =>
 .chk (.eqN r4 r4) <|
 .chk (.eqN r4 r4) <|
 .chk (.eqN r1 r1) <|
 .chk (.eqN r1 r1) <|
 .ret (.tuple #[(.agg #[g l8 0,g l8 1,g l8 2,g l8 3,g l8 4,g l8 5,g l8 6,g l8 7,g l8 8,g l8 9,g l8 10,g l8 11,g l8 12,g l8 13,g l8 14,g l8 15,g l8 16,g l8 17,g l8 18,g l8 19,g l8 20,g l16 0,g l8 22,g l8 23,g l8 24,g l8 25,g l8 26,g l8 27,g l8 28,g l20 0,g l8 30,g l8 31,g l8 32,g l8 33,g l8 34,g l8 35,g l8 36,g l8 37]),(.int .i64 0)]) []) (
 .stuck 901)))))
theorem T_stack_Cast_eq (vs : List Value) : sxFun PP Tryz.f18 (mkOpts okL [(81, [5, 6, 7, 8])] [] []) vs = T_stack_Cast vs := by kernel_rfl
theorem run_stack_Cast {args vs} (ha : entryArgs PP Tryz.f18 args = some vs) (ho : Ones vs) {H O Q} (h : (T_stack_Cast vs).den PP Q H O) : Triple PP F_stack_Cast args H O Q :=
 triple_run mixed (mkOpts_ok okL_ok _ _ _) Tryz.func18 T_stack_Cast_eq ha ho h
abbrev F_stack_Push : FuncId := 19
/- zeitnot/stack.Push -/
def T_stack_Push (v : List Value) : Tree :=
 .newbox fun r0 =>
 .newbox fun r1 =>
 .newbox fun r2 =>
 .chk (.eqN r1 r1) <|
 .call false 55 [g v 38,(.int .i64 0),(.int .i64 1)] [] [] .one fun l0 _ =>
 .br (g l0 0) (
 .chk (.eqN r1 r1) <|
 .call false 55 [g v 39,(.int .i64 1),(.int .i64 500)] [] [] .one fun l1 _ =>
 .br (g l1 0) (
 .chk (.eqN r1 r1) <|
 .call false 55 [g v 40,(.int .i64 0),(.int .i64 399)] [] [] .one fun l2 _ =>
 .br (g l2 0) (
 .chk (.eqN r1 r1) <|
 .call false 55 [g v 41,(.int .i64 0),(.int .i64 1)] [] [] .one fun l3 _ =>
 .chk (.eqN r0 r0) <|
 .call false 42 [(.agg #[g v 0,g v 1,g v 2,g v 3,g v 4,g v 5,g v 6,g v 7,g v 8,g v 9,g v 10,g v 11,g v 12,g v 13,g v 14,g v 15,g v 16,g v 17,g v 18,g v 19,g v 20,g v 21,g v 22,g v 23,g v 24,g v 25,g v 26,g v 27,g v 28,g v 29,g v 30,g v 31,g v 32,g v 33,g v 34,g v 35,g v 36,g v 37])] [] [] .one fun l4 _ =>
 .pure [] .not [g l4 0] fun v5 =>
 .chk (.eqV v5 v5) <|
 .pure [] .not [g l3 0] fun v6 =>
 .chk (.eqV v5 v5) <|
 .pure [] .pick [v5,(.bool true),v6] fun v7 =>
 .chk (.eqN r1 r1) <|
 .chk (.eqV v7 v7) <|
 .chk (.eqV v7 v7) <|
 .pure [] .len [g v 42] fun v8 =>
 .chk (.eqV v7 v7) <|
 .pure [] (.bin .gtr .int) [v8,(.int .i64 0)] fun v9 =>
 .chk (.eqV v7 v7) <|
 .pure [] .pick [v7,(.bool true),v9] fun v10 =>
 .br v10 (
 .chk (.eqN r2 r2) <|
 .chk (.eqN r2 r2) <|
 .ret (.tuple #[(.agg #[(.slice none 0 0),(.int .i64 0),(.int .i64 0),(.int .i64 0),(.int .i64 0),(.int .i64 0),(.slice none 0 0),(.slice none 0 0),(.slice none 0 0),(.slice none 0 0),(.bool false),(.bool false),(.bool false),(.int .i64 0),(.int .i64 0),(.int .i64 0),(.int .i64 0),(.int .i64 0),(.int .i64 0),(.int .i64 0),(.slice none 0 0),(.slice none 0 0),(.slice none 0 0),(.slice none 0 0),(.bool false),(.bool false),(.bool false),(.int .i64 0),(.int .i64 0),(.slice none 0 0),(.slice none 0 0),(.slice none 0 0),(.slice none 0 0),(.int .i64 0),(.int .i64 0),(.int .i64 0),(.int .i64 0),(.int .i64 0)]),(.int .i64 2)]) []) (
 .chk (.eqN r0 r0) <|
 .pure [] .len [g v 29] fun v11 =>
 .pure [] (.bin .geq .int) [v11,(.int .i64 200)] fun v12 =>
 .br v12 (
 .chk (.eqN r2 r2) <|
 .chk (.eqN r2 r2) <|
 .ret (.tuple #[(.agg #[(.slice none 0 0),(.int .i64 0),(.int .i64 0),(.int .i64 0),(.int .i64 0),(.int .i64 0),(.slice none 0 0),(.slice none 0 0),(.slice none 0 0),(.slice none 0 0),(.bool false),(.bool false),(.bool false),(.int .i64 0),(.int .i64 0),(.int .i64 0),(.int .i64 0),(.int .i64 0),(.int .i64 0),(.int .i64 0),(.slice none 0 0),(.slice none 0 0),(.slice none 0 0),(.slice none 0 0),(.bool false),(.bool false),(.bool false),(.int .i64 0),(.int .i64 0),(.slice none 0 0),(.slice none 0 0),(.slice none 0 0),(.slice none 0 0),(.int .i64 0),(.int .i64 0),(.int .i64 0),(.int .i64 0),(.int .i64 0)]),(.int .i64 7)]) []) (
 .chk (.eqN r0 r0) <|
 .call false 50 [(.agg #[g v 0,g v 1,g v 2,g v 3,g v 4,g v 5,g v 6,g v 7,g v 8,g v 9,g v 10,g v 11,g v 12,g v 13,g v 14,g v 15,g v 16,g v 17,g v 18,g v 19,g v 20,g v 21,g v 22,g v 23,g v 24,g v 25,g v 26,g v 27,g v 28,g v 29,g v 30,g v 31,g v 32,g v 33,g v 34,g v 35,g v 36,g v 37])] [] [] (.agg 38) fun l13 _ =>
 .newbox fun r3 =>
 .chk (.eqN r3 r3) <|
 .chk (.eqN r3 r3) <|
 .chk (.eqN r1 r1) <|
 .newbox fun r4 =>
 .prim (.bi .append #[30,30] 30) [g l13 29,(.slice (some ⟨r4,0,none⟩) 1 1)] [⟨r4,41,[g v 38,g v 39,g v 40,g v 41,g v 42]⟩] [] .one fun l14 _ =>
 .chk (.eqN r3 r3) <|
 .chk (.eqN r3 r3) <|
 .chk (.eqN r2 r2) <|
 .chk (.eqN r2 r2) <|
 .ret (.tuple #[(.agg #[g l13 0,g l13 1,g l13 2,g l13 3,g l13 4,g l13 5,g l13 6,g l13 7,g l13 8,g l13 9,g l13 10,g l13 11,g l13 12,g l13 13,g l13 14,g l13 15,g l13 16,g l13 17,g l13 18,g l13 19,g l13 20,g l13 21,g l13 22,g l13 23,g l13 24,g l13 25,g l13 26,g l13 27,g l13 28,g l14 0,g l13 30,g l13 31,g l13 32,g l13 33,g l13 34,g l13 35,g l13 36,g l13 37]),(.int .i64 0)]) []))) (
 .chk (.eqN r0 r0) <|
 .call false 42 [(.agg #[g v 0,g v 1,g v 2,g v 3,g v 4,g v 5,g v 6,g v 7,g v 8,g v 9,g v 10,g v 11,g v 12,g v 13,g v 14,g v 15,g v 16,g v 17,g v 18,g v 19,g v 20,g v 21,g v 22,g v 23,g v 24,g v 25,g v 26,g v 27,g v 28,g v 29,g v 30,g v 31,g v 32,g v 33,g v 34,g v 35,g v 36,g v 37])] [] [] .one fun l15 _ =>
 .pure [] .not [g l15 0] fun v16 =>
 .chk (.eqV v16 v16) <|
 .chk (.eqV v16 v16) <|
 .pure [] .pick [v16,(.bool true),(.bool true)] fun v17 =>
 .chk (.eqN r1 r1) <|
 .chk (.eqV v17 v17) <|
 .chk (.eqV v17 v17) <|
 .pure [] .len [g v 42] fun v18 =>
 .chk (.eqV v17 v17) <|
 .pure [] (.bin .gtr .int) [v18,(.int .i64 0)] fun v19 =>
 .chk (.eqV v17 v17) <|
 .pure [] .pick [v17,(.bool true),v19] fun v20 =>
 .br v20 (
 .chk (.eqN r2 r2) <|
 .chk (.eqN r2 r2) <|
 .ret (.tuple #[(.agg #[(.slice none 0 0),(.int .i64 0),(.int .i64 0),(.int .i64 0),(.int .i64 0),(.int .i64 0),(.slice none 0 0),(.slice none 0 0),(.slice none 0 0),(.slice none 0 0),(.bool false),(.bool false),(.bool false),(.int .i64 0),(.int .i64 0),(.int .i64 0),(.int .i64 0),(.int .i64 0),(.int .i64 0),(.int .i64 0),(.slice none 0 0),(.slice none 0 0),(.slice none 0 0),(.slice none 0 0),(.bool false),(.bool false),(.bool false),(.int .i64 0),(.int .i64 0),(.slice none 0 0),(.slice none 0 0),(.slice none 0 0),(.slice none 0 0),(.int .i64 0),(.int .i64 0),(.int .i64 0),(.int .i64 0),(.int .i64 0)]),(.int .i64 2)]) []) (
 .chk (.eqN r0 r0) <|
 .pure [] .len [g v 29] fun v21 =>
 .pure [] (.bin .geq .int) [v21,(.int .i64 200)] fun v22 =>
 .br v22 (
 .chk (.eqN r2 r2) <|
 .chk (.eqN r2 r2) <|
 .ret (.tuple #[(.agg #[(.slice none 0 0),(.int .i64 0),(.int .i64 0),(.int .i64 0),(.int .i64 0),(.int .i64 0),(.slice none 0 0),(.slice none 0 0),(.slice none 0 0),(.slice none 0 0),(.bool false),(.bool false),(.bool false),(.int .i64 0),(.int .i64 0),(.int .i64 0),(.int .i64 0),(.int .i64 0),(.int .i64 0),(.int .i64 0),(.slice none 0 0),(.slice none 0 0),(.slice none 0 0),(.slice none 0 0),(.bool false),(.bool false),(.bool false),(.int .i64 0),(.int .i64 0),(.slice none 0 0),(.slice none 0 0),(.slice none 0 0),(.slice none 0 0),(.int .i64 0),(.int .i64 0),(.int .i64 0),(.int .i64 0),(.int .i64 0)]),(.int .i64 7)]) []) (
 .chk (.eqN r0 r0) <|
 .call false 50 [(.agg #[g v 0,g v 1,g v 2,g v 3,g v 4,g v 5,g v 6,g v 7,g v 8,g v 9,g v 10,g v 11,g v 12,g v 13,g v 14,g v 15,g v 16,g v 17,g v 18,g v 19,g v 20,g v 21,g v 22,g v 23,g v 24,g v 25,g v 26,g v 27,g v 28,g v 29,g v 30,g v 31,g v 32,g v 33,g v 34,g v 35,g v 36,g v 37])] [] [] (.agg 38) fun l23 _ =>
 .newbox fun r5 =>
 .chk (.eqN r5 r5) <|
 .chk (.eqN r5 r5) <|
 .chk (.eqN r1 r1) <|
 .newbox fun r6 =>
 .prim (.bi .append #[30,30] 30) [g l23 29,(.slice (some ⟨r6,0,none⟩) 1 1)] [⟨r6,41,[g v 38,g v 39,g v 40,g v 41,g v 42]⟩] [] .one fun l24 _ =>
 .chk (.eqN r5 r5) <|
 .chk (.eqN r5 r5) <|
 .chk (.eqN r2 r2) <|
 .chk (.eqN r2 r2) <|
 .ret (.tuple #[(.agg #[g l23 0,g l23 1,g l23 2,g l23 3,g l23 4,g l23 5,g l23 6,g l23 7,g l23 8,g l23 9,g l23 10,g l23 11,g l23 12,g l23 13,g l23 14,g l23 15,g l23 16,g l23 17,g l23 18,g l23 19,g l23 20,g l23 21,g l23 22,g l23 23,g l23 24,g l23 25,g l23 26,g l23 27,g l23 28,g l24 0,g l23 30,g l23 31,g l23 32,g l23 33,g l23 34,g l23 35,g l23 36,g l23 37]),(.int .i64 0)]) [])))) (
 .chk (.eqN r0 r0) <|
 .call false 42 [(.agg #[g v 0,g v 1,g v 2,g v 3,g v 4,g v 5,g v 6,g v 7,g v 8,g v 9,g v 10,g v 11,g v 12,g v 13,g v 14,g v 15,g v 16,g v 17,g v 18,g v 19,g v 20,g v 21,g v 22,g v 23,g v 24,g v 25,g v 26,g v 27,g v 28,g v 29,g v 30,g v 31,g v 32,g v 33,g v 34,g v 35,g v 36,g v 37])] [] [] .one fun l25 _ =>
 .pure [] .not [g l25 0] fun v26 =>
 .chk (.eqV v26 v26) <|
 .chk (.eqV v26 v26) <|
 .pure [] .pick [v26,(.bool true),(.bool true)] fun v27 =>
 .chk (.eqN r1 r1) <|
 .chk (.eqV v27 v27) <|
 .chk (.eqV v27 v27) <|
 .pure [] .len [g v 42] fun v28 =>
 .chk (.eqV v27 v27) <|
 .pure [] (.bin .gtr .int) [v28,(.int .i64 0)] fun v29 =>
 .chk (.eqV v27 v27) <|
 .pure [] .pick [v27,(.bool true),v29] fun v30 =>
 .br v30 (
 .chk (.eqN r2 r2) <|
 .chk (.eqN r2 r2) <|
 .ret (.tuple #[(.agg #[(.slice none 0 0),(.int .i64 0),(.int .i64 0),(.int .i64 0),(.int .i64 0),(.int .i64 0),(.slice none 0 0),(.slice none 0 0),(.slice none 0 0),(.slice none 0 0),(.bool false),(.bool false),(.bool false),(.int .i64 0),(.int .i64 0),(.int .i64 0),(.int .i64 0),(.int .i64 0),(.int .i64 0),(.int .i64 0),(.slice none 0 0),(.slice none 0 0),(.slice none 0 0),(.slice none 0 0),(.bool false),(.bool false),(.bool false),(.int .i64 0),(.int .i64 0),(.slice none 0 0),(.slice none 0 0),(.slice none 0 0),(.slice none 0 0),(.int .i64 0),(.int .i64 0),(.int .i64 0),(.int .i64 0),(.int .i64 0)]),(.int .i64 2)]) []) (
 .chk (.eqN r0 r0) <|
 .pure [] .len [g v 29] fun v31 =>
 .pure [] (.bin .geq .int) [v31,(.int .i64 200)] fun v32 =>
 .br v32 (
 .chk (.eqN r2 r2) <|
 .chk (.eqN r2 r2) <|
 .ret (.tuple #[(.agg #[(.slice none 0 0),(.int .i64 0),(.int .i64 0),(.int .i64 0),(.int .i64 0),(.int .i64 0),(.slice none 0 0),(.slice none 0 0),(.slice none 0 0),(.slice none 0 0),(.bool false),(.bool false),(.bool false),(.int .i64 0),(.int .i64 0),(.int .i64 0),(.int .i64 0),(.int .i64 0),(.int .i64 0),(.int .i64 0),(.slice none 0 0),(.slice none 0 0),(.slice none 0 0),(.slice none 0 0),(.bool false),(.bool false),(.bool false),(.int .i64 0),(.int .i64 0),(.slice none 0 0),(.slice none 0 0),(.slice none 0 0),(.slice none 0 0),(.int .i64 0),(.int .i64 0),(.int .i64 0),(.int .i64 0),(.int .i64 0)]),(.int .i64 7)]) []) (
 .chk (.eqN r0 r0) <|
 .call false 50 [(.agg #[g v 0,g v 1,g v 2,g v 3,g v 4,g v 5,g v 6,g v 7,g v 8,g v 9,g v 10,g v 11,g v 12,g v 13,g v 14,g v 15,g v 16,g v 17,g v 18,g v 19,g v 20,g v 21,g v 22,g v 23,g v 24,g v 25,g v 26,g v 27,g v 28,g v 29,g v 30,g v 31,g v 32,g v 33,g v 34,g v 35,g v 36,g v 37])] [] [] (.agg 38) fun l33 _ =>
 .newbox fun r7 =>
 .chk (.eqN r7 r7) <|
 .chk (.eqN r7 r7) <|
 .chk (.eqN r1 r1) <|
 .newbox fun r8 =>
 .prim (.bi .append #[30,30] 30) [g l33 29,(.slice (some ⟨r8,0,none⟩) 1 1)] [⟨r8,41,[g v 38,g v 39,g v 40,g v 41,g v 42]⟩] [] .one fun l34 _ =>
 .chk (.eqN r7 r7) <|
 .chk (.eqN r7 r7) <|
 .chk (.eqN r2 r2) <|
 .chk (.eqN r2 r2) <|
 .ret (.tuple #[(.agg #[g l33 0,g l33 1,g l33 2,g l33 3,g l33 4,g l33 5,g l33 6,g l33 7,g l33 8,g l33 9,g l33 10,g l33 11,g l33 12,g l33 13,g l33 14,g l33 15,g l33 16,g l33 17,g l33 18,g l33 19,g l33 20,g l33 21,g l33 22,g l33 23,g l33 24,g l33 25,g l33 26,g l33 27,g l33 28,g l34 0,g l33 30,g l33 31,g l33 32,g l33 33,g l33 34,g l33 35,g l33 36,g l33 37]),(.int .i64 0)]) [])))) (
 .chk (.eqN r0 r0) <|
 .call false 42 [(.agg #[g v 0,g v 1,g v 2,g v 3,g v 4,g v 5,g v 6,g v 7,g v 8,g v 9,g v 10,g v 11,g v 12,g v 13,g v 14,g v 15,g v 16,g v 17,g v 18,g v 19,g v 20,g v 21,g v 22,g v 23,g v 24,g v 25,g v 26,g v 27,g v 28,g v 29,g v 30,g v 31,g v 32,g v 33,g v 34,g v 35,g v 36,g v 37])] [] [] .one fun l35 _ =>
 .pure [] .not [g l35 0] fun v36 =>
 .chk (.eqV v36 v36) <|
 .chk (.eqV v36 v36) <|
 .pure [] .pick [v36,(.bool true),(.bool true)] fun v37 =>
 .chk (.eqN r1 r1) <|
 .chk (.eqV v37 v37) <|
 .chk (.eqV v37 v37) <|
 .pure [] .len [g v 42] fun v38 =>
 .chk (.eqV v37 v37) <|
 .pure [] (.bin .gtr .int) [v38,(.int .i64 0)] fun v39 =>
 .chk (.eqV v37 v37) <|
 .pure [] .pick [v37,(.bool true),v39] fun v40 =>
 .br v40 (
 .chk (.eqN r2 r2) <|
 .chk (.eqN r2 r2) <|
 .ret (.tuple #[(.agg #[(.slice none 0 0),(.int .i64 0),(.int .i64 0),(.int .i64 0),(.int .i64 0),(.int .i64 0),(.slice none 0 0),(.slice none 0 0),(.slice none 0 0),(.slice none 0 0),(.bool false),(.bool false),(.bool false),(.int .i64 0),(.int .i64 0),(.int .i64 0),(.int .i64 0),(.int .i64 0),(.int .i64 0),(.int .i64 0),(.slice none 0 0),(.slice none 0 0),(.slice none 0 0),(.slice none 0 0),(.bool false),(.bool false),(.bool false),(.int .i64 0),(.int .i64 0),(.slice none 0 0),(.slice none 0 0),(.slice none 0 0),(.slice none 0 0),(.int .i64 0),(.int .i64 0),(.int .i64 0),(.int .i64 0),(.int .i64 0)]),(.int .i64 2)]) []) (
 .chk (.eqN r0 r0) <|
 .pure [] .len [g v 29] fun v41 =>
 .pure [] (.bin .geq .int) [v41,(.int .i64 200)] fun v42 =>
 .br v42 (
 .chk (.eqN r2 r2) <|
 .chk (.eqN r2 r2) <|
 .ret (.tuple #[(.agg #[(.slice none 0 0),(.int .i64 0),(.int .i64 0),(.int .i64 0),(.int .i64 0),(.int .i64 0),(.slice none 0 0),(.slice none 0 0),(.slice none 0 0),(.slice none 0 0),(.bool false),(.bool false),(.bool false),(.int .i64 0),(.int .i64 0),(.int .i64 0),(.int .i64 0),(.int .i64 0),(.int .i64 0),(.int .i64 0),(.slice none 0 0),(.slice none 0 0),(.slice none 0 0),(.slice none 0 0),(.bool false),(.bool false),(.bool false),(.int .i64 0),(.int .i64 0),(.slice none 0 0),(.slice none 0 0),(.slice none 0 0),(.slice none 0 0),(.int .i64 0),(.int .i64 0),(.int .i64 0),(.int .i64 0),(.int .i64 0)]),(.int .i64 7)]) []) (
 .chk (.eqN r0 r0) <|
 .call false 50 [(.agg #[g v 0,g v 1,g v 2,g v 3,g v 4,g v 5,g v 6,g v 7,g v 8,g v 9,g v 10,g v 11,g v 12,g v 13,g v 14,g v 15,g v 16,g v 17,g v 18,g v 19,g v 20,g v 21,g v 22,g v 23,g v 24,g v 25,g v 26,g v 27,g v 28,g v 29,g v 30,g v 31,g v 32,g v 33,g v 34,g v 35,g v 36,g v 37])] [] [] (.agg 38) fun l43 _ =>
 .newbox fun r9 =>
 .chk (.eqN r9 r9) <|
 .chk (.eqN r9 r9) <|
 .chk (.eqN r1 r1) <|
 .newbox fun r10 =>
 .prim (.bi .append #[30,30] 30) [g l43 29,(.slice (some ⟨r10,0,none⟩) 1 1)] [⟨r10,41,[g v 38,g v 39,g v 40,g v 41,g v 42]⟩] [] .one fun l44 _ =>
 .chk (.eqN r9 r9) <|
 .chk (.eqN r9 r9) <|
 .chk (.eqN r2 r2) <|
 .chk (.eqN r2 r2) <|
 .ret (.tuple #[(.agg #[g l43 0,g l43 1,g l43 2,g l43 3,g l43 4,g l43 5,g l43 6,g l43 7,g l43 8,g l43 9,g l43 10,g l43 11,g l43 12,g l43 13,g l43 14,g l43 15,g l43 16,g l43 17,g l43 18,g l43 19,g l43 20,g l43 21,g l43 22,g l43 23,g l43 24,g l43 25,g l43 26,g l43 27,g l43 28,g l44 0,g l43 30,g l43 31,g l43 32,g l43 33,g l43 34,g l43 35,g l43 36,g l43 37]),(.int .i64 0)]) [])))
theorem T_stack_Push_eq (vs : List Value) : sxFun PP Tryz.f19 (mkOpts okL [(81, [5, 6, 7, 8])] [] []) vs = T_stack_Push vs := by kernel_rfl
theorem run_stack_Push {args vs} (ha : entryArgs PP Tryz.f19 args = some vs) (ho : Ones vs) {H O Q} (h : (T_stack_Push vs).den PP Q H O) : Triple PP F_stack_Push args H O Q :=
 triple_run mixed (mkOpts_ok okL_ok _ _ _) Tryz.func19 T_stack_Push_eq ha ho h
abbrev F_stack_Aim : FuncId := 20
/- zeitnot/stack.Aim -/
def T_stack_Aim (v : List Value) : Tree :=
 .newbox fun r0 =>
 .newbox fun r1 =>
 .newbox fun r2 =>
 .chk (.eqN r0 r0) <|
 .call false 42 [(.agg #[g v 1,g v 2,g v 3,g v 4,g v 5,g v 6,g v 7,g v 8,g v 9,g v 10,g v 11,g v 12,g v 13,g v 14,g v 15,g v 16,g v 17,g v 18,g v 19,g v 20,g v 21,g v 22,g v 23,g v 24,g v 25,g v 26,g v 27,g v 28,g v 29,g v 30,g v 31,g v 32,g v 33,g v 34,g v 35,g v 36,g v 37,g v 38])] [] [] .one fun l0 _ =>
 .pure [] .not [g l0 0] fun v1 =>
 .br v1 (
 .chk (.eqN r2 r2) <|
 .chk (.eqN r2 r2) <|
 .ret (.tuple #[(.agg #[(.slice none 0 0),(.int .i64 0),(.int .i64 0),(.int .i64 0),(.int .i64 0),(.int .i64 0),(.slice none 0 0),(.slice none 0 0),(.slice none 0 0),(.slice none 0 0),(.bool false),(.bool false),(.bool false),(.int .i64 0),(.int .i64 0),(.int .i64 0),(.int .i64 0),(.int .i64 0),(.int .i64 0),(.int .i64 0),(.slice none 0 0),(.slice none 0 0),(.slice none 0 0),(.slice none 0 0),(.bool false),(.bool false),(.bool false),(.int .i64 0),(.int .i64 0),(.slice none 0 0),(.slice none 0 0),(.slice none 0 0),(.slice none 0 0),(.int .i64 0),(.int .i64 0),(.int .i64 0),(.int .i64 0),(.int .i64 0)]),(.int .i64 2)]) []) (
 .chk (.eqN r0 r0) <|
 .call false 13 [g v 0,(.agg #[g v 1,g v 2,g v 3,g v 4,g v 5,g v 6,g v 7,g v 8,g v 9,g v 10,g v 11,g v 12,g v 13,g v 14,g v 15,g v 16,g v 17,g v 18,g v 19,g v 20,g v 21,g v 22,g v 23,g v 24,g v 25,g v 26,g v 27,g v 28,g v 29,g v 30,g v 31,g v 32,g v 33,g v 34,g v 35,g v 36,g v 37,g v 38])] [] [] .one fun l2 _ =>
 .pure [] (.bin .eql .int) [g l2 0,(.int .i64 0)] fun v3 =>
 .br v3 (
 .chk (.eqN r2 r2) <|
 .chk (.eqN r2 r2) <|
 .ret (.tuple #[(.agg #[(.slice none 0 0),(.int .i64 0),(.int .i64 0),(.int .i64 0),(.int .i64 0),(.int .i64 0),(.slice none 0 0),(.slice none 0 0),(.slice none 0 0),(.slice none 0 0),(.bool false),(.bool false),(.bool false),(.int .i64 0),(.int .i64 0),(.int .i64 0),(.int .i64 0),(.int .i64 0),(.int .i64 0),(.int .i64 0),(.slice none 0 0),(.slice none 0 0),(.slice none 0 0),(.slice none 0 0),(.bool false),(.bool false),(.bool false),(.int .i64 0),(.int .i64 0),(.slice none 0 0),(.slice none 0 0),(.slice none 0 0),(.slice none 0 0),(.int .i64 0),(.int .i64 0),(.int .i64 0),(.int .i64 0),(.int .i64 0)]),(.int .i64 8)]) []) (
 .chk (.eqN r0 r0) <|
 .chk (.eqN r0 r0) <|
 .chk (.eqN r0 r0) <|
 .pure [] .len [g v 30] fun v4 =>
 .pure [] (.bin .sub .int) [v4,(.int .i64 1)] fun v5 =>
 .pure [] (.idx 5) [g v 30,v5] fun v6 =>
 .chk (.ptr [] v6) <|
 .load [] v6 1 fun l7 =>
 .chk (.eqN r1 r1) <|
 .call false 56 [g v 0,(.agg #[g v 1,g v 2,g v 3,g v 4,g v 5,g v 6,g v 7,g v 8,g v 9,g v 10,g v 11,g v 12,g v 13,g v 14,g v 15,g v 16,g v 17,g v 18,g v 19,g v 20,g v 21,g v 22,g v 23,g v 24,g v 25,g v 26,g v 27,g v 28,g v 29,g v 30,g v 31,g v 32,g v 33,g v 34,g v 35,g v 36,g v 37,g v 38]),g l7 0,g l2 0,(.agg #[g v 39,g v 40])] [] [] .one fun l8 _ =>
 .pure [] .not [g l8 0] fun v9 =>
 .br v9 (
 .chk (.eqN r2 r2) <|
 .chk (.eqN r2 r2) <|
 .ret (.tuple #[(.agg #[(.slice none 0 0),(.int .i64 0),(.int .i64 0),(.int .i64 0),(.int .i64 0),(.int .i64 0),(.slice none 0 0),(.slice none 0 0),(.slice none 0 0),(.slice none 0 0),(.bool false),(.bool false),(.bool false),(.int .i64 0),(.int .i64 0),(.int .i64 0),(.int .i64 0),(.int .i64 0),(.int .i64 0),(.int .i64 0),(.slice none 0 0),(.slice none 0 0),(.slice none 0 0),(.slice none 0 0),(.bool false),(.bool false),(.bool false),(.int .i64 0),(.int .i64 0),(.slice none 0 0),(.slice none 0 0),(.slice none 0 0),(.slice none 0 0),(.int .i64 0),(.int .i64 0),(.int .i64 0),(.int .i64 0),(.int .i64 0)]),(.int .i64 14)]) []) (
 .chk (.eqN r0 r0) <|
 .call false 50 [(.agg #[g v 1,g v 2,g v 3,g v 4,g v 5,g v 6,g v 7,g v 8,g v 9,g v 10,g v 11,g v 12,g v 13,g v 14,g v 15,g v 16,g v 17,g v 18,g v 19,g v 20,g v 21,g v 22,g v 23,g v 24,g v 25,g v 26,g v 27,g v 28,g v 29,g v 30,g v 31,g v 32,g v 33,g v 34,g v 35,g v 36,g v 37,g v 38])] [] [] (.agg 38) fun l10 _ =>
 .newbox fun r3 =>
 .chk (.eqN r3 r3) <|
 .chk (.eqN r3 r3) <|
 .chk (.eqN r3 r3) <|
 .pure [] .len [g l10 29] fun v11 =>
 .pure [] (.bin .sub .int) [v11,(.int .i64 1)] fun v12 =>
 .pure [] (.idx 5) [g l10 29,v12] fun v13 =>
 .chk (.ptr [] v13) <|
 .chk (.ptr [] v13) <|
 .load [] (ptrAdd v13 4) 1 fun l14 =>
 .chk (.eqN r1 r1) <|
 .newbox fun r4 =>
 .prim (.bi .append #[39,39] 39) [g l14 0,(.slice (some ⟨r4,0,none⟩) 1 1)] [⟨r4,43,[g v 39,g v 40]⟩] [] .one fun l15 _ =>
 .chk (.ptr [] v13) <|
 .chk (.ptr [] v13) <|
 .chk (.ptr [] (ptrAdd v13 4)) <|
 .store (ptrAdd v13 4) [g l15 0] <|
 .chk (.eqN r3 r3) <|
 .chk (.eqN r2 r2) <|
 .chk (.eqN r2 r2) <|
 .ret (.tuple #[(.agg #[g l10 0,g l10 1,g l10 2,g l10 3,g l10 4,g l10 5,g l10 6,g l10 7,g l10 8,g l10 9,g l10 10,g l10 11,g l10 12,g l10 13,g l10 14,g l10 15,g l10 16,g l10 17,g l10 18,g l10 19,g l10 20,g l10 21,g l10 22,g l10 23,g l10 24,g l10 25,g l10 26,g l10 27,g l10 28,g l10 29,g l10 30,g l10 31,g l10 32,g l10 33,g l10 34,g l10 35,g l10 36,g l10 37]),(.int .i64 0)]) [])))
theorem T_stack_Aim_eq (vs : List Value) : sxFun PP Tryz.f20 (mkOpts okL [(81, [5, 6, 7, 8])] [] []) vs = T_stack_Aim vs := by kernel_rfl
theorem run_stack_Aim {args vs} (ha : entryArgs PP Tryz.f20 args = some vs) (ho : Ones vs) {H O Q} (h : (T_stack_Aim vs).den PP Q H O) : Triple PP F_stack_Aim args H O Q :=
 triple_run mixed (mkOpts_ok okL_ok _ _ _) Tryz.func20 T_stack_Aim_eq ha ho h
abbrev F_stack_Pop : FuncId := 21
/- zeitnot/stack.Pop -/
def T_stack_Pop (v : List Value) : Tree :=
 .newbox fun r0 =>
 .newbox fun r1 =>
 .newbox fun r2 =>
 .chk (.eqN r0 r0) <|
 .call false 42 [(.agg #[g v 0,g v 1,g v 2,g v 3,g v 4,g v 5,g v 6,g v 7,g v 8,g v 9,g v 10,g v 11,g v 12,g v 13,g v 14,g v 15,g v 16,g v 17,g v 18,g v 19,g v 20,g v 21,g v 22,g v 23,g v 24,g v 25,g v 26,g v 27,g v 28,g v 29,g v 30,g v 31,g v 32,g v 33,g v 34,g v 35,g v 36,g v 37])] [] [] .one fun l0 _ =>
 .pure [] .not [g l0 0] fun v1 =>
 .br v1 (
 .chk (.eqN r1 r1) <|
 .chk (.eqN r2 r2) <|
 .chk (.eqN r1 r1) <|
 .chk (.eqN r2 r2) <|
 .ret (.tuple #[(.agg #[(.slice none 0 0),(.int .i64 0),(.int .i64 0),(.int .i64 0),(.int .i64 0),(.int .i64 0),(.slice none 0 0),(.slice none 0 0),(.slice none 0 0),(.slice none 0 0),(.bool false),(.bool false),(.bool false),(.int .i64 0),(.int .i64 0),(.int .i64 0),(.int .i64 0),(.int .i64 0),(.int .i64 0),(.int .i64 0),(.slice none 0 0),(.slice none 0 0),(.slice none 0 0),(.slice none 0 0),(.bool false),(.bool false),(.bool false),(.int .i64 0),(.int .i64 0),(.slice none 0 0),(.slice none 0 0),(.slice none 0 0),(.slice none 0 0),(.int .i64 0),(.int .i64 0),(.int .i64 0),(.int .i64 0),(.int .i64 0)]),(.agg #[(.int .i64 0),(.int .i64 0),(.int .i64 0),(.int .i64 0),(.slice none 0 0)]),(.int .i64 2)]) []) (
 .chk (.eqN r0 r0) <|
 .pure [] .len [g v 29] fun v2 =>
 .pure [] (.bin .eql .int) [v2,(.int .i64 0)] fun v3 =>
 .br v3 (
 .chk (.eqN r1 r1) <|
 .chk (.eqN r2 r2) <|
 .chk (.eqN r1 r1) <|
 .chk (.eqN r2 r2) <|
 .ret (.tuple #[(.agg #[(.slice none 0 0),(.int .i64 0),(.int .i64 0),(.int .i64 0),(.int .i64 0),(.int .i64 0),(.slice none 0 0),(.slice none 0 0),(.slice none 0 0),(.slice none 0 0),(.bool false),(.bool false),(.bool false),(.int .i64 0),(.int .i64 0),(.int .i64 0),(.int .i64 0),(.int .i64 0),(.int .i64 0),(.int .i64 0),(.slice none 0 0),(.slice none 0 0),(.slice none 0 0),(.slice none 0 0),(.bool false),(.bool false),(.bool false),(.int .i64 0),(.int .i64 0),(.slice none 0 0),(.slice none 0 0),(.slice none 0 0),(.slice none 0 0),(.int .i64 0),(.int .i64 0),(.int .i64 0),(.int .i64 0),(.int .i64 0)]),(.agg #[(.int .i64 0),(.int .i64 0),(.int .i64 0),(.int .i64 0),(.slice none 0 0)]),(.int .i64 9)]) []) (
 .chk (.eqN r0 r0) <|
 .call false 50 [(.agg #[g v 0,g v 1,g v 2,g v 3,g v 4,g v 5,g v 6,g v 7,g v 8,g v 9,g v 10,g v 11,g v 12,g v 13,g v 14,g v 15,g v 16,g v 17,g v 18,g v 19,g v 20,g v 21,g v 22,g v 23,g v 24,g v 25,g v 26,g v 27,g v 28,g v 29,g v 30,g v 31,g v 32,g v 33,g v 34,g v 35,g v 36,g v 37])] [] [] (.agg 38) fun l4 _ =>
 .newbox fun r3 =>
 .chk (.eqN r3 r3) <|
 .chk (.eqN r3 r3) <|
 .pure [] (.bin .sub .int) [v2,(.int .i64 1)] fun v5 =>
 .pure [] (.idx 5) [g l4 29,v5] fun v6 =>
 .load [] v6 5 fun l7 =>
 .newbox fun r4 =>
 .chk (.eqN r4 r4) <|
 .chk (.eqN r4 r4) <|
 .pure [] (.bin .eql .int) [g l7 3,(.int .i64 (-1))] fun v8 =>
 .br v8 (
 .chk (.eqN r0 r0) <|
 .chk (.eqN r4 r4) <|
 .call false 57 [(.agg #[g v 0,g v 1,g v 2,g v 3,g v 4,g v 5,g v 6,g v 7,g v 8,g v 9,g v 10,g v 11,g v 12,g v 13,g v 14,g v 15,g v 16,g v 17,g v 18,g v 19,g v 20,g v 21,g v 22,g v 23,g v 24,g v 25,g v 26,g v 27,g v 28,g v 29,g v 30,g v 31,g v 32,g v 33,g v 34,g v 35,g v 36,g v 37]),g l7 1,(.int .i64 3)] [] [] (.tup [some 38,none]) fun l9 _ =>
 .chk (.eqN r3 r3) <|
 .chk (.eqN r3 r3) <|
 .chk (.eqN r4 r4) <|
 .chk (.eqN r1 r1) <|
 .chk (.eqN r2 r2) <|
 .chk (.eqN r1 r1) <|
 .chk (.eqN r2 r2) <|
 .ret (.tuple #[(.agg #[g l9 0,g l9 1,g l9 2,g l9 3,g l9 4,g l9 5,g l9 6,g l9 7,g l9 8,g l9 9,g l9 10,g l9 11,g l9 12,g l9 13,g l9 14,g l9 15,g l9 16,g l9 17,g l9 18,g l9 19,g l9 20,g l9 21,g l9 22,g l9 23,g l9 24,g l9 25,g l9 26,g l9 27,g l9 28,g l9 29,g l9 30,g l9 31,g l9 32,g l9 33,g l9 34,g l9 35,g l9 36,g l9 37]),(.agg #[g l7 0,g l7 1,g l7 2,g l7 3,g l7 4]),(.int .i64 0)]) []) (
 .chk (.eqN r3 r3) <|
 .pure [] (.bin .sub .int) [v2,(.int .i64 1)] fun v10 =>
 .pure [] (.slc 5 false true false) [g l4 29,v10] fun v11 =>
 .chk (.eqN r3 r3) <|
 .chk (.eqN r3 r3) <|
 .chk (.eqN r4 r4) <|
 .chk (.eqN r1 r1) <|
 .chk (.eqN r2 r2) <|
 .chk (.eqN r1 r1) <|
 .chk (.eqN r2 r2) <|
 .ret (.tuple #[(.agg #[g l4 0,g l4 1,g l4 2,g l4 3,g l4 4,g l4 5,g l4 6,g l4 7,g l4 8,g l4 9,g l4 10,g l4 11,g l4 12,g l4 13,g l4 14,g l4 15,g l4 16,g l4 17,g l4 18,g l4 19,g l4 20,g l4 21,g l4 22,g l4 23,g l4 24,g l4 25,g l4 26,g l4 27,g l4 28,v11,g l4 30,g l4 31,g l4 32,g l4 33,g l4 34,g l4 35,g l4 36,g l4 37]),(.agg #[g l7 0,g l7 1,g l7 2,g l7 3,g l7 4]),(.int .i64 0)]) [])))
theorem T_stack_Pop_eq (vs : List Value) : sxFun PP Tryz.f21 (mkOpts okL [(81, [5, 6, 7, 8])] [] []) vs = T_stack_Pop vs := by kernel_rfl
theorem run_stack_Pop {args vs} (ha : entryArgs PP Tryz.f21 args = some vs) (ho : Ones vs) {H O Q} (h : (T_stack_Pop vs).den PP Q H O) : Triple PP F_stack_Pop args H O Q :=
 triple_run mixed (mkOpts_ok okL_ok _ _ _) Tryz.func21 T_stack_Pop_eq ha ho h
abbrev F_stack_Counter : FuncId := 22
/- zeitnot/stack.Counter -/
def T_stack_Counter (v : List Value) : Tree :=
 .newbox fun r0 =>
 .newbox fun r1 =>
 .chk (.eqN r0 r0) <|
 .call false 48 [(.agg #[g v 0,g v 1,g v 2,g v 3,g v 4,g v 5,g v 6,g v 7,g v 8,g v 9,g v 10,g v 11,g v 12,g v 13,g v 14,g v 15,g v 16,g v 17,g v 18,g v 19,g v 20,g v 21,g v 22,g v 23,g v 24,g v 25,g v 26,g v 27,g v 28,g v 29,g v 30,g v 31,g v 32,g v 33,g v 34,g v 35,g v 36,g v 37]),g v 38] [] [] (.tup [some 3,none]) fun l0 _ =>
 .newbox fun r2 =>
 .chk (.eqN r2 r2) <|
 .pure [] (.bin .eql .int) [g l0 3,(.int .i64 2)] fun v1 =>
 .br v1 (
 .chk (.eqN r1 r1) <|
 .chk (.eqN r1 r1) <|
 .ret (.tuple #[(.agg #[(.slice none 0 0),(.int .i64 0),(.int .i64 0),(.int .i64 0),(.int .i64 0),(.int .i64 0),(.slice none 0 0),(.slice none 0 0),(.slice none 0 0),(.slice none 0 0),(.bool false),(.bool false),(.bool false),(.int .i64 0),(.int .i64 0),(.int .i64 0),(.int .i64 0),(.int .i64 0),(.int .i64 0),(.int .i64 0),(.slice none 0 0),(.slice none 0 0),(.slice none 0 0),(.slice none 0 0),(.bool false),(.bool false),(.bool false),(.int .i64 0),(.int .i64 0),(.slice none 0 0),(.slice none 0 0),(.slice none 0 0),(.slice none 0 0),(.int .i64 0),(.int .i64 0),(.int .i64 0),(.int .i64 0),(.int .i64 0)]),g l0 3]) []) (
 .pure [] (.bin .neq .int) [g l0 3,(.int .i64 0)] fun v2 =>
 .chk (.eqN r2 r2) <|
 .chk (.eqV v2 v2) <|
 .chk (.eqV v2 v2) <|
 .pure [] (.bin .neq .int) [g l0 1,(.int .i64 4)] fun v3 =>
 .chk (.eqV v2 v2) <|
 .pure [] .pick [v2,(.bool true),v3] fun v4 =>
 .br v4 (
 .chk (.eqN r1 r1) <|
 .chk (.eqN r1 r1) <|
 .ret (.tuple #[(.agg #[(.slice none 0 0),(.int .i64 0),(.int .i64 0),(.int .i64 0),(.int .i64 0),(.int .i64 0),(.slice none 0 0),(.slice none 0 0),(.slice none 0 0),(.slice none 0 0),(.bool false),(.bool false),(.bool false),(.int .i64 0),(.int .i64 0),(.int .i64 0),(.int .i64 0),(.int .i64 0),(.int .i64 0),(.int .i64 0),(.slice none 0 0),(.slice none 0 0),(.slice none 0 0),(.slice none 0 0),(.bool false),(.bool false),(.bool false),(.int .i64 0),(.int .i64 0),(.slice none 0 0),(.slice none 0 0),(.slice none 0 0),(.slice none 0 0),(.int .i64 0),(.int .i64 0),(.int .i64 0),(.int .i64 0),(.int .i64 0)]),(.int .i64 9)]) []) (
 .chk (.eqN r0 r0) <|
 .call false 57 [(.agg #[g v 0,g v 1,g v 2,g v 3,g v 4,g v 5,g v 6,g v 7,g v 8,g v 9,g v 10,g v 11,g v 12,g v 13,g v 14,g v 15,g v 16,g v 17,g v 18,g v 19,g v 20,g v 21,g v 22,g v 23,g v 24,g v 25,g v 26,g v 27,g v 28,g v 29,g v 30,g v 31,g v 32,g v 33,g v 34,g v 35,g v 36,g v 37]),g v 38,(.int .i64 3)] [] [] (.tup [some 38,none]) fun l5 _ =>
 .chk (.eqN r1 r1) <|
 .chk (.eqN r1 r1) <|
 .ret (.tuple #[(.agg #[g l5 0,g l5 1,g l5 2,g l5 3,g l5 4,g l5 5,g l5 6,g l5 7,g l5 8,g l5 9,g l5 10,g l5 11,g l5 12,g l5 13,g l5 14,g l5 15,g l5 16,g l5 17,g l5 18,g l5 19,g l5 20,g l5 21,g l5 22,g l5 23,g l5 24,g l5 25,g l5 26,g l5 27,g l5 28,g l5 29,g l5 30,g l5 31,g l5 32,g l5 33,g l5 34,g l5 35,g l5 36,g l5 37]),g l5 38]) []))
theorem T_stack_Counter_eq (vs : List Value) : sxFun PP Tryz.f22 (mkOpts okL [(81, [5, 6, 7, 8])] [] []) vs = T_stack_Counter vs := by kernel_rfl
theorem run_stack_Counter {args vs} (ha : entryArgs PP Tryz.f22 args = some vs) (ho : Ones vs) {H O Q} (h : (T_stack_Counter vs).den PP Q H O) : Triple PP F_stack_Counter args H O Q :=
 triple_run mixed (mkOpts_ok okL_ok _ _ _) Tryz.func22 T_stack_Counter_eq ha ho h
abbrev F_zeitnotlaw18_gives : FuncId := 23
/- zeitnot/zeitnotlaw18.gives -/
def T_zeitnotlaw18_gives (v : List Value) : Tree :=
 .newbox fun r0 =>
 .newbox fun r1 =>
 .newbox fun r2 =>
 .newbox fun r3 =>
 .chk (.eqN r0 r0) <|
 .chk (.eqN r1 r1) <|
 .call false 27 [(.agg #[g v 0,g v 1,g v 2,g v 3,g v 4,g v 5,g v 6,g v 7,g v 8,g v 9,g v 10,g v 11,g v 12,g v 13,g v 14,g v 15,g v 16,g v 17,g v 18,g v 19,g v 20,g v 21,g v 22,g v 23,g v 24,g v 25,g v 26,g v 27,g v 28,g v 29,g v 30,g v 31,g v 32,g v 33,g v 34,g v 35,g v 36,g v 37]),(.agg #[g v 39,g v 40,g v 41,g v 42,g v 43,g v 44,g v 45,g v 46,g v 47,g v 48,g v 49,g v 50,g v 51,g v 52,g v 53,g v 54,g v 55,g v 56,g v 57,g v 58,g v 59,g v 60,g v 61,g v 62,g v 63,g v 64,g v 65,g v 66,g v 67,g v 68,g v 69,g v 70,g v 71,g v 72,g v 73,g v 74,g v 75,g v 76])] [] [] .one fun l0 _ =>
 .chk (.eqV (g l0 0) (g l0 0)) <|
 .chk (.eqV (g l0 0) (g l0 0)) <|
 .pure [] (.bin .eql .int) [g v 38,g v 77] fun v1 =>
 .chk (.eqV (g l0 0) (g l0 0)) <|
 .pure [] .pick [g l0 0,v1,(.bool false)] fun v2 =>
 .br v2 (
 .chk (.eqN r2 r2) <|
 .chk (.eqN r3 r3) <|
 .call false 27 [(.agg #[g v 78,g v 79,g v 80,g v 81,g v 82,g v 83,g v 84,g v 85,g v 86,g v 87,g v 88,g v 89,g v 90,g v 91,g v 92,g v 93,g v 94,g v 95,g v 96,g v 97,g v 98,g v 99,g v 100,g v 101,g v 102,g v 103,g v 104,g v 105,g v 106,g v 107,g v 108,g v 109,g v 110,g v 111,g v 112,g v 113,g v 114,g v 115]),(.agg #[g v 116,g v 117,g v 118,g v 119,g v 120,g v 121,g v 122,g v 123,g v 124,g v 125,g v 126,g v 127,g v 128,g v 129,g v 130,g v 131,g v 132,g v 133,g v 134,g v 135,g v 136,g v 137,g v 138,g v 139,g v 140,g v 141,g v 142,g v 143,g v 144,g v 145,g v 146,g v 147,g v 148,g v 149,g v 150,g v 151,g v 152,g v 153])] [] [] .one fun l3 _ =>
 .chk (.eqN r0 r0) <|
 .call false 58 [(.agg #[g v 0,g v 1,g v 2,g v 3,g v 4,g v 5,g v 6,g v 7,g v 8,g v 9,g v 10,g v 11,g v 12,g v 13,g v 14,g v 15,g v 16,g v 17,g v 18,g v 19,g v 20,g v 21,g v 22,g v 23,g v 24,g v 25,g v 26,g v 27,g v 28,g v 29,g v 30,g v 31,g v 32,g v 33,g v 34,g v 35,g v 36,g v 37])] [] [] (.tup []) fun l4 _ =>
 .br (g l3 0) (
 .chk (.eqN r2 r2) <|
 .chk (.eqN r3 r3) <|
 .call false 27 [(.agg #[g v 78,g v 79,g v 80,g v 81,g v 82,g v 83,g v 84,g v 85,g v 86,g v 87,g v 88,g v 89,g v 90,g v 91,g v 92,g v 93,g v 94,g v 95,g v 96,g v 97,g v 98,g v 99,g v 100,g v 101,g v 102,g v 103,g v 104,g v 105,g v 106,g v 107,g v 108,g v 109,g v 110,g v 111,g v 112,g v 113,g v 114,g v 115]),(.agg #[g v 116,g v 117,g v 118,g v 119,g v 120,g v 121,g v 122,g v 123,g v 124,g v 125,g v 126,g v 127,g v 128,g v 129,g v 130,g v 131,g v 132,g v 133,g v 134,g v 135,g v 136,g v 137,g v 138,g v 139,g v 140,g v 141,g v 142,g v 143,g v 144,g v 145,g v 146,g v 147,g v 148,g v 149,g v 150,g v 151,g v 152,g v 153])] [] [] .one fun l5 _ =>
 .ret (g l5 0) []) (
 .ret (.bool false) [])) (
 .chk (.eqN r0 r0) <|
 .call false 58 [(.agg #[g v 0,g v 1,g v 2,g v 3,g v 4,g v 5,g v 6,g v 7,g v 8,g v 9,g v 10,g v 11,g v 12,g v 13,g v 14,g v 15,g v 16,g v 17,g v 18,g v 19,g v 20,g v 21,g v 22,g v 23,g v 24,g v 25,g v 26,g v 27,g v 28,g v 29,g v 30,g v 31,g v 32,g v 33,g v 34,g v 35,g v 36,g v 37])] [] [] (.tup []) fun l6 _ =>
 .ret (.bool false) [])
theorem T_zeitnotlaw18_gives_eq (vs : List Value) : sxFun PP Tryz.f23 (mkOpts okL [(81, [5, 6, 7, 8])] [] []) vs = T_zeitnotlaw18_gives vs := by kernel_rfl
theorem run_zeitnotlaw18_gives {args vs} (ha : entryArgs PP Tryz.f23 args = some vs) (ho : Ones vs) {H O Q} (h : (T_zeitnotlaw18_gives vs).den PP Q H O) : Triple PP F_zeitnotlaw18_gives args H O Q :=
 triple_run mixed (mkOpts_ok okL_ok _ _ _) Tryz.func23 T_zeitnotlaw18_gives_eq ha ho h
abbrev F_zeitnotref15_SameItem : FuncId := 24
/- zeitnot/zeitnotref15.SameItem -/
def T_zeitnotref15_SameItem (v : List Value) : Tree :=
 .newbox fun r0 =>
 .newbox fun r1 =>
 .chk (.eqN r0 r0) <|
 .chk (.eqN r1 r1) <|
 .pure [] (.bin .neq .int) [g v 0,g v 5] fun v0 =>
 .chk (.eqN r0 r0) <|
 .chk (.eqV v0 v0) <|
 .chk (.eqN r1 r1) <|
 .chk (.eqV v0 v0) <|
 .chk (.eqV v0 v0) <|
 .chk (.eqV v0 v0) <|
 .pure [] (.bin .neq .int) [g v 1,g v 6] fun v1 =>
 .chk (.eqV v0 v0) <|
 .pure [] .pick [v0,(.bool true),v1] fun v2 =>
 .chk (.eqN r0 r0) <|
 .chk (.eqV v2 v2) <|
 .chk (.eqN r1 r1) <|
 .chk (.eqV v2 v2) <|
 .chk (.eqV v2 v2) <|
 .chk (.eqV v2 v2) <|
 .pure [] (.bin .neq .int) [g v 2,g v 7] fun v3 =>
 .chk (.eqV v2 v2) <|
 .pure [] .pick [v2,(.bool true),v3] fun v4 =>
 .chk (.eqN r0 r0) <|
 .chk (.eqV v4 v4) <|
 .chk (.eqN r1 r1) <|
 .chk (.eqV v4 v4) <|
 .chk (.eqV v4 v4) <|
 .chk (.eqV v4 v4) <|
 .pure [] (.bin .neq .int) [g v 3,g v 8] fun v5 =>
 .chk (.eqV v4 v4) <|
 .pure [] .pick [v4,(.bool true),v5] fun v6 =>
 .chk (.eqN r0 r0) <|
 .chk (.eqV v6 v6) <|
 .chk (.eqV v6 v6) <|
 .pure [] .len [g v 4] fun v7 =>
 .chk (.eqN r1 r1) <|
 .chk (.eqV v6 v6) <|
 .chk (.eqV v6 v6) <|
 .pure [] .len [g v 9] fun v8 =>
 .chk (.eqV v6 v6) <|
 .chk (.eqV v6 v6) <|
 .pure [] (.bin .neq .int) [v7,v8] fun v9 =>
 .chk (.eqV v6 v6) <|
 .pure [] .pick [v6,(.bool true),v9] fun v10 =>
 .br v10 (
 .ret (.bool false) []) (
 .loop 39 4 [(.int .i64 0)] fun C39 l11 =>
 .chk (.eqN r0 r0) <|
 .pure [] .len [g v 4] fun v12 =>
 .pure [] (.bin .lss .int) [g l11 0,v12] fun v13 =>
 .br v13 (
 .chk (.eqN r0 r0) <|
 .pure [] (.idx 2) [g v 4,g l11 0] fun v14 =>
 .load [] v14 2 fun l15 =>
 .chk (.eqN r1 r1) <|
 .pure [] (.idx 2) [g v 9,g l11 0] fun v16 =>
 .load [] v16 2 fun l17 =>
 .raw [] (.eqv .neq 43 false) [(.agg #[g l15 0,g l15 1]),(.agg #[g l17 0,g l17 1])] fun v18 =>
 .br v18 (
 .ret (.bool false) []) (
 .pure [] (.bin .add .int) [g l11 0,(.int .i64 1)] fun v19 =>
 .cont 39 C39 [v19] [E [(.pointer (some ⟨r0,0,none⟩))],E [(.pointer (some ⟨r1,0,none⟩))],E [(.pointer (some ⟨r0,0,none⟩)),g v 0,g v 1,g v 2,g v 3,g v 4],E [(.pointer (some ⟨r1,0,none⟩)),g v 5,g v 6,g v 7,g v 8,g v 9]])) (
 .ret (.bool true) []))
theorem T_zeitnotref15_SameItem_eq (vs : List Value) : sxFun PP Tryz.f24 (mkOpts okL [(81, [5, 6, 7, 8])] [(4, .inv [5] [2, 3] [(2, []), (3, [])])] []) vs = T_zeitnotref15_SameItem vs := by kernel_rfl
theorem run_zeitnotref15_SameItem {args vs} (ha : entryArgs PP Tryz.f24 args = some vs) (ho : Ones vs) {H O Q} (h : (T_zeitnotref15_SameItem vs).den PP Q H O) : Triple PP F_zeitnotref15_SameItem args H O Q :=
 triple_run mixed (mkOpts_ok okL_ok _ _ _) Tryz.func24 T_zeitnotref15_SameItem_eq ha ho h
abbrev F_zeitnotref15_Same : FuncId := 27
/- zeitnot/zeitnotref15.Same -/
def T_zeitnotref15_Same (v : List Value) : Tree :=
 .newbox fun r0 =>
 .newbox fun r1 =>
 .chk (.eqN r0 r0) <|
 .pure [] .len [g v 0] fun v0 =>
 .chk (.eqN r1 r1) <|
 .pure [] .len [g v 38] fun v1 =>
 .pure [] (.bin .neq .int) [v0,v1] fun v2 =>
 .br v2 (
 .ret (.bool false) []) (
 .chk (.eqN r0 r0) <|
 .chk (.eqN r1 r1) <|
 .call false 63 [g v 29,g v 67] [] [] .one fun l3 _ =>
 .pure [] .not [g l3 0] fun v4 =>
 .br v4 (
 .ret (.bool false) []) (
 .chk (.eqN r0 r0) <|
 .chk (.eqN r1 r1) <|
 .call false 63 [g v 30,g v 68] [] [] .one fun l5 _ =>
 .pure [] .not [g l5 0] fun v6 =>
 .br v6 (
 .ret (.bool false) []) (
 .chk (.eqN r0 r0) <|
 .chk (.eqN r1 r1) <|
 .call false 36 [g v 31,g v 69] [] [] .one fun l7 _ =>
 .pure [] .not [g l7 0] fun v8 =>
 .chk (.eqN r0 r0) <|
 .chk (.eqV v8 v8) <|
 .chk (.eqV v8 v8) <|
 .pure [] .len [g v 32] fun v9 =>
 .chk (.eqN r1 r1) <|
 .chk (.eqV v8 v8) <|
 .chk (.eqV v8 v8) <|
 .pure [] .len [g v 70] fun v10 =>
 .chk (.eqV v8 v8) <|
 .chk (.eqV v8 v8) <|
 .pure [] (.bin .neq .int) [v9,v10] fun v11 =>
 .chk (.eqV v8 v8) <|
 .pure [] .pick [v8,(.bool true),v11] fun v12 =>
 .chk (.eqN r0 r0) <|
 .chk (.eqV v12 v12) <|
 .chk (.eqN r1 r1) <|
 .chk (.eqV v12 v12) <|
 .chk (.eqV v12 v12) <|
 .chk (.eqV v12 v12) <|
 .pure [] (.bin .neq .int) [g v 33,g v 71] fun v13 =>
 .chk (.eqV v12 v12) <|
 .pure [] .pick [v12,(.bool true),v13] fun v14 =>
 .chk (.eqN r0 r0) <|
 .chk (.eqV v14 v14) <|
 .chk (.eqN r1 r1) <|
 .chk (.eqV v14 v14) <|
 .chk (.eqV v14 v14) <|
 .chk (.eqV v14 v14) <|
 .pure [] (.bin .neq .int) [g v 34,g v 72] fun v15 =>
 .chk (.eqV v14 v14) <|
 .pure [] .pick [v14,(.bool true),v15] fun v16 =>
 .chk (.eqN r0 r0) <|
 .chk (.eqV v16 v16) <|
 .chk (.eqN r1 r1) <|
 .chk (.eqV v16 v16) <|
 .chk (.eqV v16 v16) <|
 .chk (.eqV v16 v16) <|
 .pure [] (.bin .neq .int) [g v 35,g v 73] fun v17 =>
 .chk (.eqV v16 v16) <|
 .pure [] .pick [v16,(.bool true),v17] fun v18 =>
 .chk (.eqN r0 r0) <|
 .chk (.eqV v18 v18) <|
 .chk (.eqN r1 r1) <|
 .chk (.eqV v18 v18) <|
 .chk (.eqV v18 v18) <|
 .chk (.eqV v18 v18) <|
 .pure [] (.bin .neq .int) [g v 36,g v 74] fun v19 =>
 .chk (.eqV v18 v18) <|
 .pure [] .pick [v18,(.bool true),v19] fun v20 =>
 .chk (.eqN r0 r0) <|
 .chk (.eqV v20 v20) <|
 .chk (.eqN r1 r1) <|
 .chk (.eqV v20 v20) <|
 .chk (.eqV v20 v20) <|
 .chk (.eqV v20 v20) <|
 .pure [] (.bin .neq .int) [g v 37,g v 75] fun v21 =>
 .chk (.eqV v20 v20) <|
 .pure [] .pick [v20,(.bool true),v21] fun v22 =>
 .br v22 (
 .ret (.bool false) []) (
 .loop 79 4 [(.int .i64 0)] fun C79 l23 =>
 .chk (.eqN r0 r0) <|
 .pure [] .len [g v 0] fun v24 =>
 .pure [] (.bin .lss .int) [g l23 0,v24] fun v25 =>
 .br v25 (
 .chk (.eqN r0 r0) <|
 .pure [] (.idx 12) [g v 0,g l23 0] fun v26 =>
 .load [] v26 12 fun l27 =>
 .chk (.eqN r1 r1) <|
 .pure [] (.idx 12) [g v 38,g l23 0] fun v28 =>
 .load [] v28 12 fun l29 =>
 .raw [] (.eqv .neq 76 false) [(.agg #[g l27 0,g l27 1,g l27 2,g l27 3,g l27 4,g l27 5,g l27 6,g l27 7,g l27 8,g l27 9,g l27 10,g l27 11]),(.agg #[g l29 0,g l29 1,g l29 2,g l29 3,g l29 4,g l29 5,g l29 6,g l29 7,g l29 8,g l29 9,g l29 10,g l29 11])] fun v30 =>
 .br v30 (
 .ret (.bool false) []) (
 .pure [] (.bin .add .int) [g l23 0,(.int .i64 1)] fun v31 =>
 .cont 79 C79 [v31] [E [(.pointer (some ⟨r0,0,none⟩))],E [(.pointer (some ⟨r1,0,none⟩))],E [(.pointer (some ⟨r0,0,none⟩)),g v 0,g v 1,g v 2,g v 3,g v 4,g v 5,g v 6,g v 7,g v 8,g v 9,g v 10,g v 11,g v 12,g v 13,g v 14,g v 15,g v 16,g v 17,g v 18,g v 19,g v 20,g v 21,g v 22,g v 23,g v 24,g v 25,g v 26,g v 27,g v 28,g v 29,g v 30,g v 31,g v 32,g v 33,g v 34,g v 35,g v 36,g v 37],E [(.pointer (some ⟨r1,0,none⟩)),g v 38,g v 39,g v 40,g v 41,g v 42,g v 43,g v 44,g v 45,g v 46,g v 47,g v 48,g v 49,g v 50,g v 51,g v 52,g v 53,g v 54,g v 55,g v 56,g v 57,g v 58,g v 59,g v 60,g v 61,g v 62,g v 63,g v 64,g v 65,g v 66,g v 67,g v 68,g v 69,g v 70,g v 71,g v 72,g v 73,g v 74,g v 75]])) (
 .loop 86 9 [(.int .i64 0)] fun C86 l32 =>
 .chk (.eqN r0 r0) <|
 .pure [] .len [g v 32] fun v33 =>
 .pure [] (.bin .lss .int) [g l32 0,v33] fun v34 =>
 .br v34 (
 .chk (.eqN r0 r0) <|
 .pure [] (.idx 2) [g v 32,g l32 0] fun v35 =>
 .load [] v35 2 fun l36 =>
 .chk (.eqN r1 r1) <|
 .pure [] (.idx 2) [g v 70,g l32 0] fun v37 =>
 .load [] v37 2 fun l38 =>
 .raw [] (.eqv .neq 123 false) [(.agg #[g l36 0,g l36 1]),(.agg #[g l38 0,g l38 1])] fun v39 =>
 .br v39 (
 .ret (.bool false) []) (
 .pure [] (.bin .add .int) [g l32 0,(.int .i64 1)] fun v40 =>
 .cont 86 C86 [v40] [E [(.pointer (some ⟨r0,0,none⟩))],E [(.pointer (some ⟨r1,0,none⟩))],E [(.pointer (some ⟨r0,0,none⟩)),g v 0,g v 1,g v 2,g v 3,g v 4,g v 5,g v 6,g v 7,g v 8,g v 9,g v 10,g v 11,g v 12,g v 13,g v 14,g v 15,g v 16,g v 17,g v 18,g v 19,g v 20,g v 21,g v 22,g v 23,g v 24,g v 25,g v 26,g v 27,g v 28,g v 29,g v 30,g v 31,g v 32,g v 33,g v 34,g v 35,g v 36,g v 37],E [(.pointer (some ⟨r1,0,none⟩)),g v 38,g v 39,g v 40,g v 41,g v 42,g v 43,g v 44,g v 45,g v 46,g v 47,g v 48,g v 49,g v 50,g v 51,g v 52,g v 53,g v 54,g v 55,g v 56,g v 57,g v 58,g v 59,g v 60,g v 61,g v 62,g v 63,g v 64,g v 65,g v 66,g v 67,g v 68,g v 69,g v 70,g v 71,g v 72,g v 73,g v 74,g v 75]])) (
 .chk (.eqN r0 r0) <|
 .chk (.eqN r1 r1) <|
 .newbox fun r2 =>
 .newbox fun r3 =>
 .chk (.eqN r2 r2) <|
 .chk (.eqN r3 r3) <|
 .chk (.eqN r2 r2) <|
 .chk (.eqN r3 r3) <|
 .pure [] (.bin .neq .int) [g v 1,g v 39] fun v41 =>
 .chk (.eqN r2 r2) <|
 .chk (.eqV v41 v41) <|
 .chk (.eqN r3 r3) <|
 .chk (.eqV v41 v41) <|
 .chk (.eqV v41 v41) <|
 .chk (.eqV v41 v41) <|
 .raw [(v41,false)] (.eqv .neq 25 false) [(.agg #[g v 2,g v 3,g v 4,g v 5]),(.agg #[g v 40,g v 41,g v 42,g v 43])] fun v42 =>
 .chk (.eqV v41 v41) <|
 .pure [] .pick [v41,(.bool true),v42] fun v43 =>
 .chk (.eqN r2 r2) <|
 .chk (.eqV v43 v43) <|
 .chk (.eqN r3 r3) <|
 .chk (.eqV v43 v43) <|
 .chk (.eqV v43 v43) <|
 .chk (.eqV v43 v43) <|
 .pure [] (.bin .neq .bool) [g v 10,g v 48] fun v44 =>
 .chk (.eqV v43 v43) <|
 .pure [] .pick [v43,(.bool true),v44] fun v45 =>
 .chk (.eqN r2 r2) <|
 .chk (.eqV v45 v45) <|
 .chk (.eqN r3 r3) <|
 .chk (.eqV v45 v45) <|
 .chk (.eqV v45 v45) <|
 .chk (.eqV v45 v45) <|
 .pure [] (.bin .neq .bool) [g v 11,g v 49] fun v46 =>
 .chk (.eqV v45 v45) <|
 .pure [] .pick [v45,(.bool true),v46] fun v47 =>
 .chk (.eqN r2 r2) <|
 .chk (.eqV v47 v47) <|
 .chk (.eqN r3 r3) <|
 .chk (.eqV v47 v47) <|
 .chk (.eqV v47 v47) <|
 .chk (.eqV v47 v47) <|
 .pure [] (.bin .neq .bool) [g v 12,g v 50] fun v48 =>
 .chk (.eqV v47 v47) <|
 .pure [] .pick [v47,(.bool true),v48] fun v49 =>
 .chk (.eqN r2 r2) <|
 .chk (.eqV v49 v49) <|
 .chk (.eqN r3 r3) <|
 .chk (.eqV v49 v49) <|
 .chk (.eqV v49 v49) <|
 .chk (.eqV v49 v49) <|
 .pure [] (.bin .neq .int) [g v 13,g v 51] fun v50 =>
 .chk (.eqV v49 v49) <|
 .pure [] .pick [v49,(.bool true),v50] fun v51 =>
 .chk (.eqN r2 r2) <|
 .chk (.eqV v51 v51) <|
 .chk (.eqN r3 r3) <|
 .chk (.eqV v51 v51) <|
 .chk (.eqV v51 v51) <|
 .chk (.eqV v51 v51) <|
 .pure [] (.bin .neq .int) [g v 14,g v 52] fun v52 =>
 .chk (.eqV v51 v51) <|
 .pure [] .pick [v51,(.bool true),v52] fun v53 =>
 .br v53 (
 .ret (.bool false) []) (
 .chk (.eqN r2 r2) <|
 .chk (.eqN r3 r3) <|
 .call false 30 [(.agg #[g v 1,g v 2,g v 3,g v 4,g v 5,g v 6,g v 7,g v 8,g v 9,g v 10,g v 11,g v 12,g v 13,g v 14])] [] [] (.agg 4) fun l54 _ =>
 .call false 30 [(.agg #[g v 39,g v 40,g v 41,g v 42,g v 43,g v 44,g v 45,g v 46,g v 47,g v 48,g v 49,g v 50,g v 51,g v 52])] [] [] (.agg 4) fun l55 _ =>
 .newbox fun r4 =>
 .newbox fun r5 =>
 .chk (.eqN r4 r4) <|
 .chk (.eqN r5 r5) <|
 .chk (.eqN r4 r4) <|
 .chk (.eqN r5 r5) <|
 .call false 36 [g l54 0,g l55 0] [] [] .one fun l56 _ =>
 .pure [] .not [g l56 0] fun v57 =>
 .br v57 (
 .ret (.bool false) []) (
 .chk (.eqN r4 r4) <|
 .chk (.eqN r5 r5) <|
 .call false 36 [g l54 1,g l55 1] [] [] .one fun l58 _ =>
 .pure [] .not [g l58 0] fun v59 =>
 .br v59 (
 .ret (.bool false) []) (
 .chk (.eqN r4 r4) <|
 .chk (.eqN r5 r5) <|
 .call false 36 [g l54 2,g l55 2] [] [] .one fun l60 _ =>
 .pure [] .not [g l60 0] fun v61 =>
 .br v61 (
 .ret (.bool false) []) (
 .chk (.eqN r4 r4) <|
 .chk (.eqN r5 r5) <|
 .call false 36 [g l54 3,g l55 3] [] [] .one fun l62 _ =>
 .pure [] .not [g l62 0] fun v63 =>
 .br v63 (
 .ret (.bool false) []) (
 .chk (.eqN r0 r0) <|
 .chk (.eqN r1 r1) <|
 .newbox fun r6 =>
 .newbox fun r7 =>
 .chk (.eqN r6 r6) <|
 .chk (.eqN r7 r7) <|
 .chk (.eqN r6 r6) <|
 .chk (.eqN r7 r7) <|
 .pure [] (.bin .neq .int) [g v 15,g v 53] fun v64 =>
 .chk (.eqN r6 r6) <|
 .chk (.eqV v64 v64) <|
 .chk (.eqN r7 r7) <|
 .chk (.eqV v64 v64) <|
 .chk (.eqV v64 v64) <|
 .chk (.eqV v64 v64) <|
 .raw [(v64,false)] (.eqv .neq 25 false) [(.agg #[g v 16,g v 17,g v 18,g v 19]),(.agg #[g v 54,g v 55,g v 56,g v 57])] fun v65 =>
 .chk (.eqV v64 v64) <|
 .pure [] .pick [v64,(.bool true),v65] fun v66 =>
 .chk (.eqN r6 r6) <|
 .chk (.eqV v66 v66) <|
 .chk (.eqN r7 r7) <|
 .chk (.eqV v66 v66) <|
 .chk (.eqV v66 v66) <|
 .chk (.eqV v66 v66) <|
 .pure [] (.bin .neq .bool) [g v 24,g v 62] fun v67 =>
 .chk (.eqV v66 v66) <|
 .pure [] .pick [v66,(.bool true),v67] fun v68 =>
 .chk (.eqN r6 r6) <|
 .chk (.eqV v68 v68) <|
 .chk (.eqN r7 r7) <|
 .chk (.eqV v68 v68) <|
 .chk (.eqV v68 v68) <|
 .chk (.eqV v68 v68) <|
 .pure [] (.bin .neq .bool) [g v 25,g v 63] fun v69 =>
 .chk (.eqV v68 v68) <|
 .pure [] .pick [v68,(.bool true),v69] fun v70 =>
 .chk (.eqN r6 r6) <|
 .chk (.eqV v70 v70) <|
 .chk (.eqN r7 r7) <|
 .chk (.eqV v70 v70) <|
 .chk (.eqV v70 v70) <|
 .chk (.eqV v70 v70) <|
 .pure [] (.bin .neq .bool) [g v 26,g v 64] fun v71 =>
 .chk (.eqV v70 v70) <|
 .pure [] .pick [v70,(.bool true),v71] fun v72 =>
 .chk (.eqN r6 r6) <|
 .chk (.eqV v72 v72) <|
 .chk (.eqN r7 r7) <|
 .chk (.eqV v72 v72) <|
 .chk (.eqV v72 v72) <|
 .chk (.eqV v72 v72) <|
 .pure [] (.bin .neq .int) [g v 27,g v 65] fun v73 =>
 .chk (.eqV v72 v72) <|
 .pure [] .pick [v72,(.bool true),v73] fun v74 =>
 .chk (.eqN r6 r6) <|
 .chk (.eqV v74 v74) <|
 .chk (.eqN r7 r7) <|
 .chk (.eqV v74 v74) <|
 .chk (.eqV v74 v74) <|
 .chk (.eqV v74 v74) <|
 .pure [] (.bin .neq .int) [g v 28,g v 66] fun v75 =>
 .chk (.eqV v74 v74) <|
 .pure [] .pick [v74,(.bool true),v75] fun v76 =>
 .br v76 (
 .ret (.bool false) []) (
 .chk (.eqN r6 r6) <|
 .chk (.eqN r7 r7) <|
 .call false 30 [(.agg #[g v 15,g v 16,g v 17,g v 18,g v 19,g v 20,g v 21,g v 22,g v 23,g v 24,g v 25,g v 26,g v 27,g v 28])] [] [] (.agg 4) fun l77 _ =>
 .call false 30 [(.agg #[g v 53,g v 54,g v 55,g v 56,g v 57,g v 58,g v 59,g v 60,g v 61,g v 62,g v 63,g v 64,g v 65,g v 66])] [] [] (.agg 4) fun l78 _ =>
 .newbox fun r8 =>
 .newbox fun r9 =>
 .chk (.eqN r8 r8) <|
 .chk (.eqN r9 r9) <|
 .chk (.eqN r8 r8) <|
 .chk (.eqN r9 r9) <|
 .call false 36 [g l77 0,g l78 0] [] [] .one fun l79 _ =>
 .pure [] .not [g l79 0] fun v80 =>
 .br v80 (
 .ret (.bool false) []) (
 .chk (.eqN r8 r8) <|
 .chk (.eqN r9 r9) <|
 .call false 36 [g l77 1,g l78 1] [] [] .one fun l81 _ =>
 .pure [] .not [g l81 0] fun v82 =>
 .br v82 (
 .ret (.bool false) []) (
 .chk (.eqN r8 r8) <|
 .chk (.eqN r9 r9) <|
 .call false 36 [g l77 2,g l78 2] [] [] .one fun l83 _ =>
 .pure [] .not [g l83 0] fun v84 =>
 .br v84 (
 .ret (.bool false) []) (
 .chk (.eqN r8 r8) <|
 .chk (.eqN r9 r9) <|
 .call false 36 [g l77 3,g l78 3] [] [] .one fun l85 _ =>
 .pure [] .not [g l85 0] fun v86 =>
 .br v86 (
 .ret (.bool false) []) (
 .ret (.bool true) []))))))))))))))))
theorem T_zeitnotref15_Same_eq (vs : List Value) : sxFun PP Tryz.f27 (mkOpts okL [(81, [5, 6, 7, 8])] [(14, .unroll 3), (21, .unroll 5), (4, .inv [5] [2, 3] [(2, []), (3, [])]), (9, .inv [6] [2, 3] [(2, []), (3, [])])] []) vs = T_zeitnotref15_Same vs := by kernel_rfl
theorem run_zeitnotref15_Same {args vs} (ha : entryArgs PP Tryz.f27 args = some vs) (ho : Ones vs) {H O Q} (h : (T_zeitnotref15_Same vs).den PP Q H O) : Triple PP F_zeitnotref15_Same args H O Q :=
 triple_run mixed (mkOpts_ok okL_ok _ _ _) Tryz.func27 T_zeitnotref15_Same_eq ha ho h
abbrev F_zeitnotref15_Index : FuncId := 28
/- zeitnot/zeitnotref15.Index -/
def T_zeitnotref15_Index (v : List Value) : Tree :=
 .newbox fun r0 =>
 .loop 3 2 [(.int .i64 0)] fun C3 l0 =>
 .chk (.eqN r0 r0) <|
 .pure [] .len [g v 0] fun v1 =>
 .pure [] (.bin .lss .int) [g l0 0,v1] fun v2 =>
 .br v2 (
 .chk (.eqN r0 r0) <|
 .pure [] (.idx 12) [g v 0,g l0 0] fun v3 =>
 .chk (.ptr [] v3) <|
 .load [] v3 1 fun l4 =>
 .pure [] (.bin .eql .int) [g l4 0,g v 38] fun v5 =>
 .br v5 (
 .ret (g l0 0) []) (
 .pure [] (.bin .add .int) [g l0 0,(.int .i64 1)] fun v6 =>
 .cont 3 C3 [v6] [E [g v 38],E [(.pointer (some ⟨r0,0,none⟩))],E [(.pointer (some ⟨r0,0,none⟩)),g v 0,g v 1,g v 2,g v 3,g v 4,g v 5,g v 6,g v 7,g v 8,g v 9,g v 10,g v 11,g v 12,g v 13,g v 14,g v 15,g v 16,g v 17,g v 18,g v 19,g v 20,g v 21,g v 22,g v 23,g v 24,g v 25,g v 26,g v 27,g v 28,g v 29,g v 30,g v 31,g v 32,g v 33,g v 34,g v 35,g v 36,g v 37]])) (
 .ret (.int .i64 (-1)) [])
theorem T_zeitnotref15_Index_eq (vs : List Value) : sxFun PP Tryz.f28 (mkOpts okL [(81, [5, 6, 7, 8])] [(2, .inv [5] [1, 2] [(2, [])])] []) vs = T_zeitnotref15_Index vs := by kernel_rfl
theorem run_zeitnotref15_Index {args vs} (ha : entryArgs PP Tryz.f28 args = some vs) (ho : Ones vs) {H O Q} (h : (T_zeitnotref15_Index vs).den PP Q H O) : Triple PP F_zeitnotref15_Index args H O Q :=
 triple_run mixed (mkOpts_ok okL_ok _ _ _) Tryz.func28 T_zeitnotref15_Index_eq ha ho h
abbrev F_zeitnotref15_Zones : FuncId := 30
/- zeitnot/zeitnotref15.Zones -/
def T_zeitnotref15_Zones (v : List Value) : Tree :=
 .newbox fun r0 =>
 .newbox fun r1 =>
 .chk (.eqN r0 r0) <|
 .chk (.eqN r0 r0) <|
 .chk (.eqN r0 r0) <|
 .chk (.eqN r0 r0) <|
 .chk (.eqN r1 r1) <|
 .chk (.eqN r1 r1) <|
 .ret (.agg #[g v 5,g v 6,g v 7,g v 8]) []
theorem T_zeitnotref15_Zones_eq (vs : List Value) : sxFun PP Tryz.f30 (mkOpts okL [(81, [5, 6, 7, 8])] [] []) vs = T_zeitnotref15_Zones vs := by kernel_rfl
theorem run_zeitnotref15_Zones {args vs} (ha : entryArgs PP Tryz.f30 args = some vs) (ho : Ones vs) {H O Q} (h : (T_zeitnotref15_Zones vs).den PP Q H O) : Triple PP F_zeitnotref15_Zones args H O Q :=
 triple_run mixed (mkOpts_ok okL_ok _ _ _) Tryz.func30 T_zeitnotref15_Zones_eq ha ho h
abbrev F_zeitnotref15_Item : FuncId := 31
/- zeitnot/zeitnotref15.Item -/
def T_zeitnotref15_Item (v : List Value) : Tree :=
 .newbox fun r0 =>
 .chk (.eqN r0 r0) <|
 .pure [] (.bin .lss .int) [g v 0,(.int .i64 0)] fun v0 =>
 .chk (.eqN r0 r0) <|
 .chk (.eqV v0 v0) <|
 .chk (.eqV v0 v0) <|
 .pure [] (.bin .gtr .int) [g v 0,(.int .i64 1)] fun v1 =>
 .chk (.eqV v0 v0) <|
 .pure [] .pick [v0,(.bool true),v1] fun v2 =>
 .chk (.eqN r0 r0) <|
 .chk (.eqV v2 v2) <|
 .chk (.eqV v2 v2) <|
 .pure [] (.bin .lss .int) [g v 1,(.int .i64 1)] fun v3 =>
 .chk (.eqV v2 v2) <|
 .pure [] .pick [v2,(.bool true),v3] fun v4 =>
 .chk (.eqN r0 r0) <|
 .chk (.eqV v4 v4) <|
 .chk (.eqV v4 v4) <|
 .pure [] (.bin .gtr .int) [g v 1,(.int .i64 500)] fun v5 =>
 .chk (.eqV v4 v4) <|
 .pure [] .pick [v4,(.bool true),v5] fun v6 =>
 .chk (.eqN r0 r0) <|
 .chk (.eqV v6 v6) <|
 .chk (.eqV v6 v6) <|
 .pure [] (.bin .lss .int) [g v 2,(.int .i64 0)] fun v7 =>
 .chk (.eqV v6 v6) <|
 .pure [] .pick [v6,(.bool true),v7] fun v8 =>
 .chk (.eqN r0 r0) <|
 .chk (.eqV v8 v8) <|
 .chk (.eqV v8 v8) <|
 .pure [] (.bin .gtr .int) [g v 2,(.int .i64 399)] fun v9 =>
 .chk (.eqV v8 v8) <|
 .pure [] .pick [v8,(.bool true),v9] fun v10 =>
 .chk (.eqN r0 r0) <|
 .chk (.eqV v10 v10) <|
 .chk (.eqV v10 v10) <|
 .pure [] (.bin .lss .int) [g v 3,(.int .i64 (-1))] fun v11 =>
 .chk (.eqV v10 v10) <|
 .pure [] .pick [v10,(.bool true),v11] fun v12 =>
 .chk (.eqN r0 r0) <|
 .chk (.eqV v12 v12) <|
 .chk (.eqV v12 v12) <|
 .pure [] (.bin .gtr .int) [g v 3,(.int .i64 1)] fun v13 =>
 .chk (.eqV v12 v12) <|
 .pure [] .pick [v12,(.bool true),v13] fun v14 =>
 .chk (.eqN r0 r0) <|
 .chk (.eqV v14 v14) <|
 .chk (.eqV v14 v14) <|
 .pure [] .len [g v 4] fun v15 =>
 .chk (.eqV v14 v14) <|
 .pure [] (.bin .gtr .int) [v15,(.int .i64 4)] fun v16 =>
 .chk (.eqV v14 v14) <|
 .pure [] .pick [v14,(.bool true),v16] fun v17 =>
 .br v17 (
 .ret (.bool false) []) (
 .chk (.eqN r0 r0) <|
 .pure [] (.bin .geq .int) [g v 3,(.int .i64 0)] fun v18 =>
 .chk (.eqN r0 r0) <|
 .chk (.eqV v18 v18) <|
 .chk (.eqV v18 v18) <|
 .pure [] .len [g v 4] fun v19 =>
 .chk (.eqV v18 v18) <|
 .pure [] (.bin .gtr .int) [v19,(.int .i64 0)] fun v20 =>
 .chk (.eqV v18 v18) <|
 .pure [] .pick [v18,v20,(.bool false)] fun v21 =>
 .chk (.eqV v21 v21) <|
 .chk (.eqN r0 r0) <|
 .chk (.eqV (g v 5) (g v 5)) <|
 .chk (.eqV v21 v21) <|
 .chk (.eqV (g v 5) (g v 5)) <|
 .chk (.eqV v21 v21) <|
 .pure [] (.bin .lss .int) [g v 3,(.int .i64 0)] fun v22 =>
 .chk (.eqV v21 v21) <|
 .chk (.eqV (g v 5) (g v 5)) <|
 .chk (.eqV v21 v21) <|
 .pure [] .pick [g v 5,v22,(.bool false)] fun v23 =>
 .chk (.eqV v21 v21) <|
 .pure [] .pick [v21,(.bool true),v23] fun v24 =>
 .br v24 (
 .ret (.bool false) []) (
 .loop 64 6 [(.int .i64 0)] fun C64 l25 =>
 .chk (.eqN r0 r0) <|
 .pure [] .len [g v 4] fun v26 =>
 .pure [] (.bin .lss .int) [g l25 0,v26] fun v27 =>
 .br v27 (
 .chk (.eqN r0 r0) <|
 .pure [] (.idx 2) [g v 4,g l25 0] fun v28 =>
 .load [] v28 2 fun l29 =>
 .newbox fun r1 =>
 .chk (.eqN r1 r1) <|
 .chk (.eqN r1 r1) <|
 .pure [] (.bin .lss .int) [g l29 0,(.int .i64 0)] fun v30 =>
 .chk (.eqN r1 r1) <|
 .chk (.eqV v30 v30) <|
 .chk (.eqV v30 v30) <|
 .pure [] (.bin .gtr .int) [g l29 0,(.int .i64 500)] fun v31 =>
 .chk (.eqV v30 v30) <|
 .pure [] .pick [v30,(.bool true),v31] fun v32 =>
 .chk (.eqN r1 r1) <|
 .chk (.eqV v32 v32) <|
 .chk (.eqV v32 v32) <|
 .pure [] (.bin .lss .int) [g l29 1,(.int .i64 0)] fun v33 =>
 .chk (.eqV v32 v32) <|
 .pure [] .pick [v32,(.bool true),v33] fun v34 =>
 .chk (.eqN r1 r1) <|
 .chk (.eqV v34 v34) <|
 .chk (.eqV v34 v34) <|
 .pure [] (.bin .gtr .int) [g l29 1,(.int .i64 1)] fun v35 =>
 .chk (.eqV v34 v34) <|
 .pure [] .pick [v34,(.bool true),v35] fun v36 =>
 .chk (.eqN r1 r1) <|
 .chk (.eqV v36 v36) <|
 .chk (.eqV v36 v36) <|
 .pure [] (.bin .gtr .int) [g l29 0,(.int .i64 0)] fun v37 =>
 .chk (.eqV v36 v36) <|
 .chk (.eqN r1 r1) <|
 .chk (.eqV v37 v37) <|
 .chk (.eqV v36 v36) <|
 .chk (.eqV v37 v37) <|
 .chk (.eqV v36 v36) <|
 .pure [] (.bin .neq .int) [g l29 1,(.int .i64 0)] fun v38 =>
 .chk (.eqV v36 v36) <|
 .chk (.eqV v37 v37) <|
 .chk (.eqV v36 v36) <|
 .pure [] .pick [v37,v38,(.bool false)] fun v39 =>
 .chk (.eqV v36 v36) <|
 .pure [] .pick [v36,(.bool true),v39] fun v40 =>
 .br v40 (
 .ret (.bool false) []) (
 .pure [] (.bin .add .int) [g l25 0,(.int .i64 1)] fun v41 =>
 .cont 64 C64 [v41] [E [(.pointer (some ⟨r0,0,none⟩))],E [(.pointer (some ⟨r0,0,none⟩)),g v 0,g v 1,g v 2,g v 3,g v 4]])) (
 .ret (.bool true) [])))
theorem T_zeitnotref15_Item_eq (vs : List Value) : sxFun PP Tryz.f31 (mkOpts okL [(81, [5, 6, 7, 8])] [(6, .inv [5] [2] [(2, [])])] []) vs = T_zeitnotref15_Item vs := by kernel_rfl
theorem run_zeitnotref15_Item {args vs} (ha : entryArgs PP Tryz.f31 args = some vs) (ho : Ones vs) {H O Q} (h : (T_zeitnotref15_Item vs).den PP Q H O) : Triple PP F_zeitnotref15_Item args H O Q :=
 triple_run mixed (mkOpts_ok okL_ok _ _ _) Tryz.func31 T_zeitnotref15_Item_eq ha ho h
abbrev F_zeitnotref15_seat : FuncId := 32
/- zeitnot/zeitnotref15.seat -/
def T_zeitnotref15_seat (v : List Value) : Tree :=
 .newbox fun r0 =>
 .chk (.eqN r0 r0) <|
 .pure [] (.bin .lss .int) [g v 1,(.int .i64 0)] fun v0 =>
 .chk (.eqV v0 v0) <|
 .pure [] (.bin .gtr .int) [g v 1,(.int .i64 99)] fun v1 =>
 .chk (.eqV v0 v0) <|
 .pure [] .pick [v0,(.bool true),v1] fun v2 =>
 .br v2 (
 .ret (.bool false) []) (
 .pure [] (.bin .lss .int) [g v 2,(.int .i64 0)] fun v3 =>
 .chk (.eqV v3 v3) <|
 .pure [] (.bin .gtr .int) [g v 2,(.int .i64 99)] fun v4 =>
 .chk (.eqV v3 v3) <|
 .pure [] .pick [v3,(.bool true),v4] fun v5 =>
 .br v5 (
 .ret (.bool false) []) (
 .pure [] (.bin .lss .int) [g v 3,(.int .i64 0)] fun v6 =>
 .chk (.eqV v6 v6) <|
 .pure [] (.bin .gtr .int) [g v 3,(.int .i64 99)] fun v7 =>
 .chk (.eqV v6 v6) <|
 .pure [] .pick [v6,(.bool true),v7] fun v8 =>
 .br v8 (
 .ret (.bool false) []) (
 .pure [] (.bin .lss .int) [g v 4,(.int .i64 0)] fun v9 =>
 .chk (.eqV v9 v9) <|
 .pure [] (.bin .gtr .int) [g v 4,(.int .i64 99)] fun v10 =>
 .chk (.eqV v9 v9) <|
 .pure [] .pick [v9,(.bool true),v10] fun v11 =>
 .br v11 (
 .ret (.bool false) []) (
 .chk (.eqN r0 r0) <|
 .pure [] (.bin .geq .int) [g v 0,(.int .i64 0)] fun v12 =>
 .chk (.eqN r0 r0) <|
 .chk (.eqV v12 v12) <|
 .chk (.eqV v12 v12) <|
 .pure [] (.bin .leq .int) [g v 0,(.int .i64 9999)] fun v13 =>
 .chk (.eqV v12 v12) <|
 .pure [] .pick [v12,v13,(.bool false)] fun v14 =>
 .chk (.eqN r0 r0) <|
 .chk (.eqV v14 v14) <|
 .chk (.eqV v14 v14) <|
 .pure [] (.bin .geq .int) [g v 12,(.int .i64 0)] fun v15 =>
 .chk (.eqV v14 v14) <|
 .pure [] .pick [v14,v15,(.bool false)] fun v16 =>
 .chk (.eqN r0 r0) <|
 .chk (.eqV v16 v16) <|
 .chk (.eqV v16 v16) <|
 .pure [] (.bin .leq .int) [g v 12,(.int .i64 7)] fun v17 =>
 .chk (.eqV v16 v16) <|
 .pure [] .pick [v16,v17,(.bool false)] fun v18 =>
 .chk (.eqN r0 r0) <|
 .chk (.eqV v18 v18) <|
 .chk (.eqV v18 v18) <|
 .pure [] (.bin .geq .int) [g v 13,(.int .i64 0)] fun v19 =>
 .chk (.eqV v18 v18) <|
 .pure [] .pick [v18,v19,(.bool false)] fun v20 =>
 .chk (.eqN r0 r0) <|
 .chk (.eqV v20 v20) <|
 .chk (.eqV v20 v20) <|
 .pure [] (.bin .leq .int) [g v 13,(.int .i64 255)] fun v21 =>
 .chk (.eqV v20 v20) <|
 .pure [] .pick [v20,v21,(.bool false)] fun v22 =>
 .ret v22 []))))
theorem T_zeitnotref15_seat_eq (vs : List Value) : sxFun PP Tryz.f32 (mkOpts okL [(81, [5, 6, 7, 8])] [(2, .unroll 5)] []) vs = T_zeitnotref15_seat vs := by kernel_rfl
theorem run_zeitnotref15_seat {args vs} (ha : entryArgs PP Tryz.f32 args = some vs) (ho : Ones vs) {H O Q} (h : (T_zeitnotref15_seat vs).den PP Q H O) : Triple PP F_zeitnotref15_seat args H O Q :=
 triple_run mixed (mkOpts_ok okL_ok _ _ _) Tryz.func32 T_zeitnotref15_seat_eq ha ho h
abbrev F_zeitnotref15_found : FuncId := 33
/- zeitnot/zeitnotref15.found -/
def T_zeitnotref15_found (v : List Value) : Tree :=
 .newbox fun r0 =>
 .chk (.eqN r0 r0) <|
 .call false 30 [(.agg #[g v 1,g v 2,g v 3,g v 4,g v 5,g v 6,g v 7,g v 8,g v 9,g v 10,g v 11,g v 12,g v 13,g v 14])] [] [] (.agg 4) fun l0 _ =>
 .pure [] .len [g l0 0] fun v1 =>
 .pure [] (.bin .add .int) [(.int .i64 0),v1] fun v2 =>
 .pure [] .len [g l0 1] fun v3 =>
 .pure [] (.bin .add .int) [v2,v3] fun v4 =>
 .pure [] .len [g l0 2] fun v5 =>
 .pure [] (.bin .add .int) [v4,v5] fun v6 =>
 .pure [] .len [g l0 3] fun v7 =>
 .pure [] (.bin .add .int) [v6,v7] fun v8 =>
 .chk (.eqN r0 r0) <|
 .call false 30 [(.agg #[g v 15,g v 16,g v 17,g v 18,g v 19,g v 20,g v 21,g v 22,g v 23,g v 24,g v 25,g v 26,g v 27,g v 28])] [] [] (.agg 4) fun l9 _ =>
 .pure [] .len [g l9 0] fun v10 =>
 .pure [] (.bin .add .int) [v8,v10] fun v11 =>
 .pure [] .len [g l9 1] fun v12 =>
 .pure [] (.bin .add .int) [v11,v12] fun v13 =>
 .pure [] .len [g l9 2] fun v14 =>
 .pure [] (.bin .add .int) [v13,v14] fun v15 =>
 .pure [] .len [g l9 3] fun v16 =>
 .pure [] (.bin .add .int) [v15,v16] fun v17 =>
 .loop 111 11 [v17,(.int .i64 0)] fun C111 l18 =>
 .chk (.eqN r0 r0) <|
 .pure [] .len [g v 29] fun v19 =>
 .pure [] (.bin .lss .int) [g l18 1,v19] fun v20 =>
 .br v20 (
 .chk (.eqN r0 r0) <|
 .pure [] (.idx 5) [g v 29,g l18 1] fun v21 =>
 .load [] v21 5 fun l22 =>
 .newbox fun r1 =>
 .chk (.eqN r1 r1) <|
 .chk (.eqN r1 r1) <|
 .pure [] (.bin .geq .int) [g l22 3,(.int .i64 0)] fun v23 =>
 .br v23 (
 .pure [] (.bin .add .int) [g l18 1,(.int .i64 1)] fun v24 =>
 .cont 111 C111 [g l18 0,v24] [E [(.pointer (some ⟨r0,0,none⟩))],E [(.pointer (some ⟨r0,0,none⟩)),g v 0,g v 1,g v 2,g v 3,g v 4,g v 5,g v 6,g v 7,g v 8,g v 9,g v 10,g v 11,g v 12,g v 13,g v 14,g v 15,g v 16,g v 17,g v 18,g v 19,g v 20,g v 21,g v 22,g v 23,g v 24,g v 25,g v 26,g v 27,g v 28,g v 29,g v 30,g v 31,g v 32,g v 33,g v 34,g v 35,g v 36,g v 37]]) (
 .pure [] (.bin .add .int) [g l18 0,(.int .i64 1)] fun v25 =>
 .chk (.eqN r0 r0) <|
 .chk (.eqN r1 r1) <|
 .call false 28 [(.agg #[g v 0,g v 1,g v 2,g v 3,g v 4,g v 5,g v 6,g v 7,g v 8,g v 9,g v 10,g v 11,g v 12,g v 13,g v 14,g v 15,g v 16,g v 17,g v 18,g v 19,g v 20,g v 21,g v 22,g v 23,g v 24,g v 25,g v 26,g v 27,g v 28,g v 29,g v 30,g v 31,g v 32,g v 33,g v 34,g v 35,g v 36,g v 37]),g l22 1] [] [] .one fun l26 _ =>
 .pure [] (.bin .lss .int) [g l26 0,(.int .i64 0)] fun v27 =>
 .chk (.eqN r0 r0) <|
 .chk (.eqV v27 v27) <|
 .chk (.eqV v27 v27) <|
 .chk (.eqV v27 v27) <|
 .pure [(v27,false)] (.idx 12) [g v 0,g l26 0] fun v28 =>
 .chk (.ptr [(v27,false)] v28) <|
 .chk (.eqV v27 v27) <|
 .chk (.eqV v27 v27) <|
 .load [(v27,false)] (ptrAdd v28 1) 1 fun l29 =>
 .chk (.eqN r1 r1) <|
 .chk (.eqV v27 v27) <|
 .chk (.eqV v27 v27) <|
 .chk (.eqV v27 v27) <|
 .pure [] (.bin .neq .int) [g l29 0,g l22 2] fun v30 =>
 .chk (.eqV v27 v27) <|
 .pure [] .pick [v27,(.bool true),v30] fun v31 =>
 .br v31 (
 .ret (.bool false) []) (
 .pure [] (.bin .add .int) [g l18 1,(.int .i64 1)] fun v32 =>
 .cont 111 C111 [v25,v32] [E [(.pointer (some ⟨r0,0,none⟩))],E [(.pointer (some ⟨r0,0,none⟩)),g v 0,g v 1,g v 2,g v 3,g v 4,g v 5,g v 6,g v 7,g v 8,g v 9,g v 10,g v 11,g v 12,g v 13,g v 14,g v 15,g v 16,g v 17,g v 18,g v 19,g v 20,g v 21,g v 22,g v 23,g v 24,g v 25,g v 26,g v 27,g v 28,g v 29,g v 30,g v 31,g v 32,g v 33,g v 34,g v 35,g v 36,g v 37]]))) (
 .loop 118 20 [(.int .i64 0)] fun C118 l33 =>
 .chk (.eqN r0 r0) <|
 .pure [] .len [g v 0] fun v34 =>
 .pure [] (.bin .lss .int) [g l33 0,v34] fun v35 =>
 .br v35 (
 .chk (.eqN r0 r0) <|
 .pure [] (.idx 12) [g v 0,g l33 0] fun v36 =>
 .load [] v36 12 fun l37 =>
 .newbox fun r2 =>
 .chk (.eqN r2 r2) <|
 .chk (.eqN r2 r2) <|
 .call false 65 [(.agg #[g l37 0,g l37 1,g l37 2,g l37 3,g l37 4,g l37 5,g l37 6,g l37 7,g l37 8,g l37 9,g l37 10,g l37 11])] [] [] .one fun l38 _ =>
 .pure [] .not [g l38 0] fun v39 =>
 .chk (.eqV v39 v39) <|
 .pure [] (.bin .gtr .int) [g l33 0,(.int .i64 0)] fun v40 =>
 .chk (.eqV v39 v39) <|
 .chk (.eqN r0 r0) <|
 .chk (.eqV v40 v40) <|
 .chk (.eqV v39 v39) <|
 .chk (.eqV v40 v40) <|
 .chk (.eqV v39 v39) <|
 .pure [] (.bin .sub .int) [g l33 0,(.int .i64 1)] fun v41 =>
 .chk (.eqV v40 v40) <|
 .chk (.eqV v39 v39) <|
 .chk (.eqV v40 v40) <|
 .chk (.eqV v39 v39) <|
 .pure [(v40,true),(v39,false)] (.idx 12) [g v 0,v41] fun v42 =>
 .chk (.ptr [(v40,true),(v39,false)] v42) <|
 .chk (.eqV v40 v40) <|
 .chk (.eqV v39 v39) <|
 .chk (.eqV v40 v40) <|
 .chk (.eqV v39 v39) <|
 .load [(v40,true),(v39,false)] v42 1 fun l43 =>
 .chk (.eqN r2 r2) <|
 .chk (.eqV v40 v40) <|
 .chk (.eqV v39 v39) <|
 .chk (.eqV v40 v40) <|
 .chk (.eqV v39 v39) <|
 .chk (.eqV v40 v40) <|
 .chk (.eqV v39 v39) <|
 .pure [] (.bin .geq .int) [g l43 0,g l37 0] fun v44 =>
 .chk (.eqV v39 v39) <|
 .chk (.eqV v40 v40) <|
 .chk (.eqV v39 v39) <|
 .pure [] .pick [v40,v44,(.bool false)] fun v45 =>
 .chk (.eqV v39 v39) <|
 .pure [] .pick [v39,(.bool true),v45] fun v46 =>
 .br v46 (
 .ret (.bool false) []) (
 .chk (.eqN r0 r0) <|
 .chk (.eqN r2 r2) <|
 .chk (.eqN r2 r2) <|
 .call false 66 [(.agg #[g v 0,g v 1,g v 2,g v 3,g v 4,g v 5,g v 6,g v 7,g v 8,g v 9,g v 10,g v 11,g v 12,g v 13,g v 14,g v 15,g v 16,g v 17,g v 18,g v 19,g v 20,g v 21,g v 22,g v 23,g v 24,g v 25,g v 26,g v 27,g v 28,g v 29,g v 30,g v 31,g v 32,g v 33,g v 34,g v 35,g v 36,g v 37]),g l37 2,g l37 0] [] [] .one fun l47 _ =>
 .pure [] (.bin .neq .int) [g l47 0,(.int .i64 1)] fun v48 =>
 .br v48 (
 .ret (.bool false) []) (
 .pure [] (.bin .add .int) [g l33 0,(.int .i64 1)] fun v49 =>
 .cont 118 C118 [v49] [E [(.pointer (some ⟨r0,0,none⟩))],E [g l18 0],E [(.pointer (some ⟨r0,0,none⟩)),g v 0,g v 1,g v 2,g v 3,g v 4,g v 5,g v 6,g v 7,g v 8,g v 9,g v 10,g v 11,g v 12,g v 13,g v 14,g v 15,g v 16,g v 17,g v 18,g v 19,g v 20,g v 21,g v 22,g v 23,g v 24,g v 25,g v 26,g v 27,g v 28,g v 29,g v 30,g v 31,g v 32,g v 33,g v 34,g v 35,g v 36,g v 37]]))) (
 .chk (.eqN r0 r0) <|
 .pure [] .len [g v 0] fun v50 =>
 .pure [] (.bin .eql .int) [g l18 0,v50] fun v51 =>
 .ret v51 []))
theorem T_zeitnotref15_found_eq (vs : List Value) : sxFun PP Tryz.f33 (mkOpts okL [(81, [5, 6, 7, 8])] [(3, .unroll 3), (6, .unroll 5), (11, .inv [3, 7] [1] [(1, [])]), (20, .inv [10] [1, 3] [(1, [])])] []) vs = T_zeitnotref15_found vs := by kernel_rfl
theorem run_zeitnotref15_found {args vs} (ha : entryArgs PP Tryz.f33 args = some vs) (ho : Ones vs) {H O Q} (h : (T_zeitnotref15_found vs).den PP Q H O) : Triple PP F_zeitnotref15_found args H O Q :=
 triple_run mixed (mkOpts_ok okL_ok _ _ _) Tryz.func33 T_zeitnotref15_found_eq ha ho h
abbrev F_zeitnotref15_fights : FuncId := 34
/- zeitnot/zeitnotref15.fights -/
def T_zeitnotref15_fights (v : List Value) : Tree :=
 .newbox fun r0 =>
 .loop 3 2 [(.int .i64 0)] fun C3 l0 =>
 .chk (.eqN r0 r0) <|
 .pure [] .len [g v 31] fun v1 =>
 .pure [] (.bin .lss .int) [g l0 0,v1] fun v2 =>
 .br v2 (
 .chk (.eqN r0 r0) <|
 .chk (.eqN r0 r0) <|
 .pure [] (.idx 1) [g v 31,g l0 0] fun v3 =>
 .load [] v3 1 fun l4 =>
 .call false 67 [g v 31,g l4 0] [] [] .one fun l5 _ =>
 .pure [] (.bin .neq .int) [g l5 0,(.int .i64 1)] fun v6 =>
 .br v6 (
 .ret (.bool false) []) (
 .chk (.eqN r0 r0) <|
 .sw (g v 34) 0 (
 .chk (.eqN r0 r0) <|
 .chk (.eqN r0 r0) <|
 .pure [] (.idx 1) [g v 31,g l0 0] fun v7 =>
 .load [] v7 1 fun l8 =>
 .call false 67 [g v 8,g l8 0] [] [] .one fun l9 _ =>
 .pure [] (.bin .neq .int) [g l9 0,(.int .i64 1)] fun v10 =>
 .br v10 (
 .ret (.bool false) []) (
 .pure [] (.bin .add .int) [g l0 0,(.int .i64 1)] fun v11 =>
 .cont 3 C3 [v11] [E [(.pointer (some ⟨r0,0,none⟩))],E [(.pointer (some ⟨r0,0,none⟩)),g v 0,g v 1,g v 2,g v 3,g v 4,g v 5,g v 6,g v 7,g v 8,g v 9,g v 10,g v 11,g v 12,g v 13,g v 14,g v 15,g v 16,g v 17,g v 18,g v 19,g v 20,g v 21,g v 22,g v 23,g v 24,g v 25,g v 26,g v 27,g v 28,g v 29,g v 30,g v 31,g v 32,g v 33,g v 34,g v 35,g v 36,g v 37]])) (
 .sw (g v 34) 1 (
 .chk (.eqN r0 r0) <|
 .chk (.eqN r0 r0) <|
 .pure [] (.idx 1) [g v 31,g l0 0] fun v12 =>
 .load [] v12 1 fun l13 =>
 .call false 67 [g v 22,g l13 0] [] [] .one fun l14 _ =>
 .pure [] (.bin .neq .int) [g l14 0,(.int .i64 1)] fun v15 =>
 .br v15 (
 .ret (.bool false) []) (
 .pure [] (.bin .add .int) [g l0 0,(.int .i64 1)] fun v16 =>
 .cont 3 C3 [v16] [E [(.pointer (some ⟨r0,0,none⟩))],E [(.pointer (some ⟨r0,0,none⟩)),g v 0,g v 1,g v 2,g v 3,g v 4,g v 5,g v 6,g v 7,g v 8,g v 9,g v 10,g v 11,g v 12,g v 13,g v 14,g v 15,g v 16,g v 17,g v 18,g v 19,g v 20,g v 21,g v 22,g v 23,g v 24,g v 25,g v 26,g v 27,g v 28,g v 29,g v 30,g v 31,g v 32,g v 33,g v 34,g v 35,g v 36,g v 37]])) (
 .stuck 901)))) (
 .loop 10 7 [(.int .i64 0)] fun C10 l17 =>
 .chk (.eqN r0 r0) <|
 .pure [] .len [g v 32] fun v18 =>
 .pure [] (.bin .lss .int) [g l17 0,v18] fun v19 =>
 .br v19 (
 .chk (.eqN r0 r0) <|
 .pure [] (.idx 2) [g v 32,g l17 0] fun v20 =>
 .load [] v20 2 fun l21 =>
 .newbox fun r1 =>
 .chk (.eqN r1 r1) <|
 .chk (.eqN r0 r0) <|
 .chk (.eqN r1 r1) <|
 .call false 67 [g v 31,g l21 1] [] [] .one fun l22 _ =>
 .pure [] (.bin .neq .int) [g l22 0,(.int .i64 1)] fun v23 =>
 .br v23 (
 .ret (.bool false) []) (
 .chk (.eqN r0 r0) <|
 .pure [] (.bin .sub .int) [(.int .i64 1),g v 34] fun v24 =>
 .sw v24 0 (
 .chk (.eqN r0 r0) <|
 .chk (.eqN r1 r1) <|
 .call false 67 [g v 8,g l21 0] [] [] .one fun l25 _ =>
 .pure [] (.bin .neq .int) [g l25 0,(.int .i64 1)] fun v26 =>
 .br v26 (
 .ret (.bool false) []) (
 .loop 43 13 [(.int .i64 0)] fun C43 l27 =>
 .pure [] (.bin .lss .int) [g l27 0,g l17 0] fun v28 =>
 .br v28 (
 .chk (.eqN r0 r0) <|
 .pure [] (.idx 2) [g v 32,g l27 0] fun v29 =>
 .chk (.ptr [] v29) <|
 .load [] (ptrAdd v29 1) 1 fun l30 =>
 .chk (.eqN r1 r1) <|
 .pure [] (.bin .eql .int) [g l30 0,g l21 1] fun v31 =>
 .chk (.eqN r0 r0) <|
 .chk (.eqV v31 v31) <|
 .chk (.eqV v31 v31) <|
 .chk (.eqV v31 v31) <|
 .pure [(v31,false)] (.idx 2) [g v 32,g l27 0] fun v32 =>
 .chk (.ptr [(v31,false)] v32) <|
 .chk (.eqV v31 v31) <|
 .chk (.eqV v31 v31) <|
 .load [(v31,false)] v32 1 fun l33 =>
 .chk (.eqN r1 r1) <|
 .chk (.eqV v31 v31) <|
 .chk (.eqV v31 v31) <|
 .chk (.eqV v31 v31) <|
 .pure [] (.bin .eql .int) [g l33 0,g l21 0] fun v34 =>
 .chk (.eqV v31 v31) <|
 .pure [] .pick [v31,(.bool true),v34] fun v35 =>
 .br v35 (
 .ret (.bool false) []) (
 .pure [] (.bin .add .int) [g l27 0,(.int .i64 1)] fun v36 =>
 .cont 43 C43 [v36] [E [(.pointer (some ⟨r0,0,none⟩))],E [g l17 0],E [(.pointer (some ⟨r1,0,none⟩))],E [(.pointer (some ⟨r0,0,none⟩)),g v 0,g v 1,g v 2,g v 3,g v 4,g v 5,g v 6,g v 7,g v 8,g v 9,g v 10,g v 11,g v 12,g v 13,g v 14,g v 15,g v 16,g v 17,g v 18,g v 19,g v 20,g v 21,g v 22,g v 23,g v 24,g v 25,g v 26,g v 27,g v 28,g v 29,g v 30,g v 31,g v 32,g v 33,g v 34,g v 35,g v 36,g v 37],E [(.pointer (some ⟨r1,0,none⟩)),g l21 0,g l21 1]])) (
 .pure [] (.bin .add .int) [g l17 0,(.int .i64 1)] fun v37 =>
 .cont 10 C10 [v37] [E [(.pointer (some ⟨r0,0,none⟩))],E [(.pointer (some ⟨r0,0,none⟩)),g v 0,g v 1,g v 2,g v 3,g v 4,g v 5,g v 6,g v 7,g v 8,g v 9,g v 10,g v 11,g v 12,g v 13,g v 14,g v 15,g v 16,g v 17,g v 18,g v 19,g v 20,g v 21,g v 22,g v 23,g v 24,g v 25,g v 26,g v 27,g v 28,g v 29,g v 30,g v 31,g v 32,g v 33,g v 34,g v 35,g v 36,g v 37]]))) (
 .sw v24 1 (
 .chk (.eqN r0 r0) <|
 .chk (.eqN r1 r1) <|
 .call false 67 [g v 22,g l21 0] [] [] .one fun l38 _ =>
 .pure [] (.bin .neq .int) [g l38 0,(.int .i64 1)] fun v39 =>
 .br v39 (
 .ret (.bool false) []) (
 .loop 43 13 [(.int .i64 0)] fun C43 l40 =>
 .pure [] (.bin .lss .int) [g l40 0,g l17 0] fun v41 =>
 .br v41 (
 .chk (.eqN r0 r0) <|
 .pure [] (.idx 2) [g v 32,g l40 0] fun v42 =>
 .chk (.ptr [] v42) <|
 .load [] (ptrAdd v42 1) 1 fun l43 =>
 .chk (.eqN r1 r1) <|
 .pure [] (.bin .eql .int) [g l43 0,g l21 1] fun v44 =>
 .chk (.eqN r0 r0) <|
 .chk (.eqV v44 v44) <|
 .chk (.eqV v44 v44) <|
 .chk (.eqV v44 v44) <|
 .pure [(v44,false)] (.idx 2) [g v 32,g l40 0] fun v45 =>
 .chk (.ptr [(v44,false)] v45) <|
 .chk (.eqV v44 v44) <|
 .chk (.eqV v44 v44) <|
 .load [(v44,false)] v45 1 fun l46 =>
 .chk (.eqN r1 r1) <|
 .chk (.eqV v44 v44) <|
 .chk (.eqV v44 v44) <|
 .chk (.eqV v44 v44) <|
 .pure [] (.bin .eql .int) [g l46 0,g l21 0] fun v47 =>
 .chk (.eqV v44 v44) <|
 .pure [] .pick [v44,(.bool true),v47] fun v48 =>
 .br v48 (
 .ret (.bool false) []) (
 .pure [] (.bin .add .int) [g l40 0,(.int .i64 1)] fun v49 =>
 .cont 43 C43 [v49] [E [(.pointer (some ⟨r0,0,none⟩))],E [g l17 0],E [(.pointer (some ⟨r1,0,none⟩))],E [(.pointer (some ⟨r0,0,none⟩)),g v 0,g v 1,g v 2,g v 3,g v 4,g v 5,g v 6,g v 7,g v 8,g v 9,g v 10,g v 11,g v 12,g v 13,g v 14,g v 15,g v 16,g v 17,g v 18,g v 19,g v 20,g v 21,g v 22,g v 23,g v 24,g v 25,g v 26,g v 27,g v 28,g v 29,g v 30,g v 31,g v 32,g v 33,g v 34,g v 35,g v 36,g v 37],E [(.pointer (some ⟨r1,0,none⟩)),g l21 0,g l21 1]])) (
 .pure [] (.bin .add .int) [g l17 0,(.int .i64 1)] fun v50 =>
 .cont 10 C10 [v50] [E [(.pointer (some ⟨r0,0,none⟩))],E [(.pointer (some ⟨r0,0,none⟩)),g v 0,g v 1,g v 2,g v 3,g v 4,g v 5,g v 6,g v 7,g v 8,g v 9,g v 10,g v 11,g v 12,g v 13,g v 14,g v 15,g v 16,g v 17,g v 18,g v 19,g v 20,g v 21,g v 22,g v 23,g v 24,g v 25,g v 26,g v 27,g v 28,g v 29,g v 30,g v 31,g v 32,g v 33,g v 34,g v 35,g v 36,g v 37]]))) (
 .stuck 901)))) (
 .ret (.bool true) []))
theorem T_zeitnotref15_fights_eq (vs : List Value) : sxFun PP Tryz.f34 (mkOpts okL [(81, [5, 6, 7, 8])] [(2, .inv [3] [1] [(1, [])]), (7, .inv [4] [1] [(1, [])]), (13, .inv [6] [1, 4, 5] [(1, []), (5, [])])] []) vs = T_zeitnotref15_fights vs := by kernel_rfl
theorem run_zeitnotref15_fights {args vs} (ha : entryArgs PP Tryz.f34 args = some vs) (ho : Ones vs) {H O Q} (h : (T_zeitnotref15_fights vs).den PP Q H O) : Triple PP F_zeitnotref15_fights args H O Q :=
 triple_run mixed (mkOpts_ok okL_ok _ _ _) Tryz.func34 T_zeitnotref15_fights_eq ha ho h
abbrev F_zeitnotref15_Ints : FuncId := 36
/- zeitnot/zeitnotref15.Ints -/
def T_zeitnotref15_Ints (v : List Value) : Tree :=
 .pure [] .len [g v 0] fun v0 =>
 .pure [] .len [g v 1] fun v1 =>
 .pure [] (.bin .neq .int) [v0,v1] fun v2 =>
 .br v2 (
 .ret (.bool false) []) (
 .loop 7 4 [(.int .i64 0)] fun C7 l3 =>
 .pure [] .len [g v 0] fun v4 =>
 .pure [] (.bin .lss .int) [g l3 0,v4] fun v5 =>
 .br v5 (
 .pure [] (.idx 1) [g v 0,g l3 0] fun v6 =>
 .load [] v6 1 fun l7 =>
 .pure [] (.idx 1) [g v 1,g l3 0] fun v8 =>
 .load [] v8 1 fun l9 =>
 .pure [] (.bin .neq .int) [g l7 0,g l9 0] fun v10 =>
 .br v10 (
 .ret (.bool false) []) (
 .pure [] (.bin .add .int) [g l3 0,(.int .i64 1)] fun v11 =>
 .cont 7 C7 [v11] [E [g v 0],E [g v 1]])) (
 .ret (.bool true) []))
theorem T_zeitnotref15_Ints_eq (vs : List Value) : sxFun PP Tryz.f36 (mkOpts okL [(81, [5, 6, 7, 8])] [(4, .inv [5] [0, 1] [])] []) vs = T_zeitnotref15_Ints vs := by kernel_rfl
theorem run_zeitnotref15_Ints {args vs} (ha : entryArgs PP Tryz.f36 args = some vs) (ho : Ones vs) {H O Q} (h : (T_zeitnotref15_Ints vs).den PP Q H O) : Triple PP F_zeitnotref15_Ints args H O Q :=
 triple_run mixed (mkOpts_ok okL_ok _ _ _) Tryz.func36 T_zeitnotref15_Ints_eq ha ho h
abbrev F_board_Valid : FuncId := 42
/- zeitnot/board.Valid -/
def T_board_Valid (v : List Value) : Tree :=
 .newbox fun r0 =>
 .chk (.eqN r0 r0) <|
 .call false 70 [g v 34,(.int .i64 0),(.int .i64 1)] [] [] .one fun l0 _ =>
 .pure [] .not [g l0 0] fun v1 =>
 .br v1 (
 .ret (.bool false) []) (
 .chk (.eqN r0 r0) <|
 .call false 70 [g v 33,(.int .i64 0),(.int .i64 1000)] [] [] .one fun l2 _ =>
 .pure [] .not [g l2 0] fun v3 =>
 .br v3 (
 .ret (.bool false) []) (
 .chk (.eqN r0 r0) <|
 .call false 70 [g v 35,(.int .i64 0),(.int .i64 10)] [] [] .one fun l4 _ =>
 .pure [] .not [g l4 0] fun v5 =>
 .br v5 (
 .ret (.bool false) []) (
 .chk (.eqN r0 r0) <|
 .call false 70 [g v 36,(.int .i64 (-1)),(.int .i64 1)] [] [] .one fun l6 _ =>
 .pure [] .not [g l6 0] fun v7 =>
 .br v7 (
 .ret (.bool false) []) (
 .chk (.eqN r0 r0) <|
 .call false 70 [g v 37,(.int .i64 0),(.int .i64 2)] [] [] .one fun l8 _ =>
 .pure [] .not [g l8 0] fun v9 =>
 .chk (.eqN r0 r0) <|
 .chk (.eqV v9 v9) <|
 .chk (.eqV v9 v9) <|
 .pure [] .len [g v 0] fun v10 =>
 .chk (.eqV v9 v9) <|
 .pure [] (.bin .gtr .int) [v10,(.int .i64 500)] fun v11 =>
 .chk (.eqV v9 v9) <|
 .pure [] .pick [v9,(.bool true),v11] fun v12 =>
 .chk (.eqN r0 r0) <|
 .chk (.eqV v12 v12) <|
 .chk (.eqV v12 v12) <|
 .pure [] .len [g v 29] fun v13 =>
 .chk (.eqV v12 v12) <|
 .pure [] (.bin .gtr .int) [v13,(.int .i64 200)] fun v14 =>
 .chk (.eqV v12 v12) <|
 .pure [] .pick [v12,(.bool true),v14] fun v15 =>
 .chk (.eqN r0 r0) <|
 .chk (.eqV v15 v15) <|
 .chk (.eqV v15 v15) <|
 .pure [] .len [g v 30] fun v16 =>
 .chk (.eqV v15 v15) <|
 .pure [] (.bin .gtr .int) [v16,(.int .i64 200)] fun v17 =>
 .chk (.eqV v15 v15) <|
 .pure [] .pick [v15,(.bool true),v17] fun v18 =>
 .br v18 (
 .ret (.bool false) []) (
 .chk (.eqN r0 r0) <|
 .newbox fun r1 =>
 .chk (.eqN r1 r1) <|
 .chk (.eqN r1 r1) <|
 .call false 70 [g v 1,(.int .i64 0),(.int .i64 9999)] [] [] .one fun l19 _ =>
 .pure [] .not [g l19 0] fun v20 =>
 .br v20 (
 .ret (.bool false) []) (
 .chk (.eqN r1 r1) <|
 .call false 71 [(.agg #[g v 2,g v 3,g v 4,g v 5])] [] [] .one fun l21 _ =>
 .pure [] .not [g l21 0] fun v22 =>
 .br v22 (
 .ret (.bool false) []) (
 .chk (.eqN r1 r1) <|
 .call false 70 [g v 13,(.int .i64 0),(.int .i64 7)] [] [] .one fun l23 _ =>
 .pure [] .not [g l23 0] fun v24 =>
 .br v24 (
 .ret (.bool false) []) (
 .chk (.eqN r1 r1) <|
 .call false 70 [g v 14,(.int .i64 0),(.int .i64 255)] [] [] .one fun l25 _ =>
 .pure [] .not [g l25 0] fun v26 =>
 .br v26 (
 .ret (.bool false) []) (
 .newbox fun r2 =>
 .chk (.eqN r2 r2) <|
 .chk (.eqN r2 r2) <|
 .call false 70 [g v 15,(.int .i64 0),(.int .i64 9999)] [] [] .one fun l27 _ =>
 .pure [] .not [g l27 0] fun v28 =>
 .br v28 (
 .ret (.bool false) []) (
 .chk (.eqN r2 r2) <|
 .call false 71 [(.agg #[g v 16,g v 17,g v 18,g v 19])] [] [] .one fun l29 _ =>
 .pure [] .not [g l29 0] fun v30 =>
 .br v30 (
 .ret (.bool false) []) (
 .chk (.eqN r2 r2) <|
 .call false 70 [g v 27,(.int .i64 0),(.int .i64 7)] [] [] .one fun l31 _ =>
 .pure [] .not [g l31 0] fun v32 =>
 .br v32 (
 .ret (.bool false) []) (
 .chk (.eqN r2 r2) <|
 .call false 70 [g v 28,(.int .i64 0),(.int .i64 255)] [] [] .one fun l33 _ =>
 .pure [] .not [g l33 0] fun v34 =>
 .br v34 (
 .ret (.bool false) []) (
 .chk (.eqN r0 r0) <|
 .call false 72 [g v 29,(.func (.func 73) #[] #[])] [] [] .one fun l35 _ =>
 .br (g l35 0) (
 .ret (.bool false) []) (
 .chk (.eqN r0 r0) <|
 .call false 72 [g v 30,(.func (.func 75) #[] #[])] [] [] .one fun l36 _ =>
 .pure [] .not [g l36 0] fun v37 =>
 .br v37 (
 .chk (.eqN r0 r0) <|
 .call false 76 [(.agg #[g v 0,g v 1,g v 2,g v 3,g v 4,g v 5,g v 6,g v 7,g v 8,g v 9,g v 10,g v 11,g v 12,g v 13,g v 14,g v 15,g v 16,g v 17,g v 18,g v 19,g v 20,g v 21,g v 22,g v 23,g v 24,g v 25,g v 26,g v 27,g v 28,g v 29,g v 30,g v 31,g v 32,g v 33,g v 34,g v 35,g v 36,g v 37])] [] [] .one fun l38 _ =>
 .br (g l38 0) (
 .chk (.eqN r0 r0) <|
 .call false 77 [(.agg #[g v 0,g v 1,g v 2,g v 3,g v 4,g v 5,g v 6,g v 7,g v 8,g v 9,g v 10,g v 11,g v 12,g v 13,g v 14,g v 15,g v 16,g v 17,g v 18,g v 19,g v 20,g v 21,g v 22,g v 23,g v 24,g v 25,g v 26,g v 27,g v 28,g v 29,g v 30,g v 31,g v 32,g v 33,g v 34,g v 35,g v 36,g v 37])] [] [] .one fun l39 _ =>
 .ret (g l39 0) []) (
 .ret (.bool false) [])) (
 .ret (.bool false) [])))))))))))))))
theorem T_board_Valid_eq (vs : List Value) : sxFun PP Tryz.f42 (mkOpts okL [(81, [5, 6, 7, 8])] [(4, .unroll 3)] []) vs = T_board_Valid vs := by kernel_rfl
theorem run_board_Valid {args vs} (ha : entryArgs PP Tryz.f42 args = some vs) (ho : Ones vs) {H O Q} (h : (T_board_Valid vs).den PP Q H O) : Triple PP F_board_Valid args H O Q :=
 triple_run mixed (mkOpts_ok okL_ok _ _ _) Tryz.func42 T_board_Valid_eq ha ho h
abbrev F_zeitnotref15_copied : FuncId := 47
/- zeitnot/zeitnotref15.copied -/
def T_zeitnotref15_copied (v : List Value) : Tree :=
 .loop 3 3 [(.slice none 0 0),(.int .i64 0)] fun C3 l0 =>
 .pure [] .len [g v 0] fun v1 =>
 .pure [] (.bin .lss .int) [g l0 1,v1] fun v2 =>
 .br v2 (
 .pure [] (.idx 5) [g v 0,g l0 1] fun v3 =>
 .load [] v3 5 fun l4 =>
 .newbox fun r0 =>
 .chk (.eqN r0 r0) <|
 .chk (.eqN r0 r0) <|
 .prim (.bi .append #[39,39] 39) [(.slice none 0 0),g l4 4] [] [] .one fun l5 _ =>
 .chk (.eqN r0 r0) <|
 .chk (.eqN r0 r0) <|
 .newbox fun r1 =>
 .prim (.bi .append #[30,30] 30) [g l0 0,(.slice (some ⟨r1,0,none⟩) 1 1)] [⟨r1,41,[g l4 0,g l4 1,g l4 2,g l4 3,g l5 0]⟩] [] .one fun l6 _ =>
 .pure [] (.bin .add .int) [g l0 1,(.int .i64 1)] fun v7 =>
 .cont 3 C3 [g l6 0,v7] [E [g v 0]]) (
 .ret (g l0 0) [])
theorem T_zeitnotref15_copied_eq (vs : List Value) : sxFun PP Tryz.f47 (mkOpts okL [(81, [5, 6, 7, 8])] [(3, .inv [3, 4] [0] [])] []) vs = T_zeitnotref15_copied vs := by kernel_rfl
theorem run_zeitnotref15_copied {args vs} (ha : entryArgs PP Tryz.f47 args = some vs) (ho : Ones vs) {H O Q} (h : (T_zeitnotref15_copied vs).den PP Q H O) : Triple PP F_zeitnotref15_copied args H O Q :=
 triple_run mixed (mkOpts_ok okL_ok _ _ _) Tryz.func47 T_zeitnotref15_copied_eq ha ho h
end Go.Proofs.YtieaihgbjikggaaGreat
