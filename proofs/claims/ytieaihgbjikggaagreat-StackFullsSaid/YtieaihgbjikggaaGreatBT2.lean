/- The trees of the functions of this seat: printed by a tool of mine; each by the kernel's reckoning equal to the evaluator's. -/
import Derived.Test.YtieaihgbjikggaaGreatBT1
namespace Go.Proofs.YtieaihgbjikggaaGreat
open Go Go.Sx
set_option maxRecDepth 100000
abbrev F_zeitnotref15_Copy : FuncId := 17
/- zeitnot/zeitnotref15.Copy -/
def T_zeitnotref15_Copy (v : List Value) : Tree :=
 .newbox fun r0 =>
 .newbox fun r1 =>
 .chk (.eqN r0 r0) <|
 .prim (.bi .append #[23,23] 23) [(.slice none 0 0),g v 0] [] [] .one fun l0 _ =>
 .chk (.eqN r0 r0) <|
 .chk (.eqN r0 r0) <|
 .prim (.bi .append #[26,26] 26) [(.slice none 0 0),g v 6] [] [] .one fun l1 _ =>
 .chk (.eqN r0 r0) <|
 .chk (.eqN r0 r0) <|
 .prim (.bi .append #[26,26] 26) [(.slice none 0 0),g v 7] [] [] .one fun l2 _ =>
 .chk (.eqN r0 r0) <|
 .chk (.eqN r0 r0) <|
 .prim (.bi .append #[26,26] 26) [(.slice none 0 0),g v 8] [] [] .one fun l3 _ =>
 .chk (.eqN r0 r0) <|
 .chk (.eqN r0 r0) <|
 .prim (.bi .append #[26,26] 26) [(.slice none 0 0),g v 9] [] [] .one fun l4 _ =>
 .chk (.eqN r0 r0) <|
 .chk (.eqN r0 r0) <|
 .prim (.bi .append #[26,26] 26) [(.slice none 0 0),g v 20] [] [] .one fun l5 _ =>
 .chk (.eqN r0 r0) <|
 .chk (.eqN r0 r0) <|
 .prim (.bi .append #[26,26] 26) [(.slice none 0 0),g v 21] [] [] .one fun l6 _ =>
 .chk (.eqN r0 r0) <|
 .chk (.eqN r0 r0) <|
 .prim (.bi .append #[26,26] 26) [(.slice none 0 0),g v 22] [] [] .one fun l7 _ =>
 .chk (.eqN r0 r0) <|
 .chk (.eqN r0 r0) <|
 .prim (.bi .append #[26,26] 26) [(.slice none 0 0),g v 23] [] [] .one fun l8 _ =>
 .chk (.eqN r0 r0) <|
 .chk (.eqN r0 r0) <|
 .chk (.eqN r0 r0) <|
 .call false 47 [g v 29] [] [] .one fun l9 _ =>
 .call false 47 [g v 30] [] [] .one fun l10 _ =>
 .chk (.eqN r0 r0) <|
 .chk (.eqN r0 r0) <|
 .chk (.eqN r0 r0) <|
 .prim (.bi .append #[26,26] 26) [(.slice none 0 0),g v 31] [] [] .one fun l11 _ =>
 .chk (.eqN r0 r0) <|
 .chk (.eqN r0 r0) <|
 .prim (.bi .append #[31,31] 31) [(.slice none 0 0),g v 32] [] [] .one fun l12 _ =>
 .chk (.eqN r0 r0) <|
 .chk (.eqN r0 r0) <|
 .chk (.eqN r1 r1) <|
 .chk (.eqN r1 r1) <|
 .ret (.agg #[g l0 0,g v 1,g v 2,g v 3,g v 4,g v 5,g l1 0,g l2 0,g l3 0,g l4 0,g v 10,g v 11,g v 12,g v 13,g v 14,g v 15,g v 16,g v 17,g v 18,g v 19,g l5 0,g l6 0,g l7 0,g l8 0,g v 24,g v 25,g v 26,g v 27,g v 28,g l9 0,g l10 0,g l11 0,g l12 0,g v 33,g v 34,g v 35,g v 36,g v 37]) []
theorem T_zeitnotref15_Copy_eq (vs : List Value) : sxFun PP Tryz.f17 (mkOpts okL [(81, [5, 6, 7, 8])] [(3, .unroll 3)] []) vs = T_zeitnotref15_Copy vs := by kernel_rfl
theorem run_zeitnotref15_Copy {args vs} (ha : entryArgs PP Tryz.f17 args = some vs) (ho : Ones vs) {H O Q} (h : (T_zeitnotref15_Copy vs).den PP Q H O) : Triple PP F_zeitnotref15_Copy args H O Q :=
 triple_run mixed (mkOpts_ok okL_ok _ _ _) Tryz.func17 T_zeitnotref15_Copy_eq ha ho h
abbrev F_stack_Cast : FuncId := 18
/- zeitnot/stack.Cast -/
def T_stack_Cast (v : List Value) : Tree :=
 .newbox fun r0 =>
 .newbox fun r1 =>
 .chk (.eqN r0 r0) <|
 .call false 48 [(.agg #[g v 0,g v 1,g v 2,g v 3,g v 4,g v 5,g v 6,g v 7,g v 8,g v 9,g v 10,g v 11,g v 12,g v 13,g v 14,g v 15,g v 16,g v 17,g v 18,g v 19,g v 20,g v 21,g v 22,g v 23,g v 24,g v 25,g v 26,g v 27,g v 28,g v 29,g v 30,g v 31,g v 32,g v 33,g v 34,g v 35,g v 36,g v 37]),g v 38] [] [] (.tup [some 3,none]) fun l0 _ =>
 .newbox fun r2 =>
 .chk (.eqN r2 r2) <|
 .pure [] (.bin .neq .int) [g l0 3,(.int .i64 0)] fun v1 =>
 .br v1 (
 .chk (.eqN r1 r1) <|
 .chk (.eqN r1 r1) <|
 .ret (.tuple #[(.agg #[(.slice none 0 0),(.int .i64 0),(.int .i64 0),(.int .i64 0),(.int .i64 0),(.int .i64 0),(.slice none 0 0),(.slice none 0 0),(.slice none 0 0),(.slice none 0 0),(.bool false),(.bool false),(.bool false),(.int .i64 0),(.int .i64 0),(.int .i64 0),(.int .i64 0),(.int .i64 0),(.int .i64 0),(.int .i64 0),(.slice none 0 0),(.slice none 0 0),(.slice none 0 0),(.slice none 0 0),(.bool false),(.bool false),(.bool false),(.int .i64 0),(.int .i64 0),(.slice none 0 0),(.slice none 0 0),(.slice none 0 0),(.slice none 0 0),(.int .i64 0),(.int .i64 0),(.int .i64 0),(.int .i64 0),(.int .i64 0)]),g l0 3]) []) (
 .chk (.eqN r0 r0) <|
 .call false 49 [(.agg #[g v 0,g v 1,g v 2,g v 3,g v 4,g v 5,g v 6,g v 7,g v 8,g v 9,g v 10,g v 11,g v 12,g v 13,g v 14,g v 15,g v 16,g v 17,g v 18,g v 19,g v 20,g v 21,g v 22,g v 23,g v 24,g v 25,g v 26,g v 27,g v 28,g v 29,g v 30,g v 31,g v 32,g v 33,g v 34,g v 35,g v 36,g v 37]),g v 38] [] [] (.tup [some 12,none]) fun l2 _ =>
 .newbox fun r3 =>
 .chk (.eqN r3 r3) <|
 .chk (.eqN r2 r2) <|
 .pure [] (.bin .neq .int) [g l0 1,(.int .i64 1)] fun v3 =>
 .chk (.eqN r3 r3) <|
 .chk (.eqV v3 v3) <|
 .chk (.eqV v3 v3) <|
 .pure [] (.bin .lss .int) [g l2 1,(.int .i64 0)] fun v4 =>
 .chk (.eqV v3 v3) <|
 .pure [] .pick [v3,(.bool true),v4] fun v5 =>
 .br v5 (
 .chk (.eqN r1 r1) <|
 .chk (.eqN r1 r1) <|
 .ret (.tuple #[(.agg #[(.slice none 0 0),(.int .i64 0),(.int .i64 0),(.int .i64 0),(.int .i64 0),(.int .i64 0),(.slice none 0 0),(.slice none 0 0),(.slice none 0 0),(.slice none 0 0),(.bool false),(.bool false),(.bool false),(.int .i64 0),(.int .i64 0),(.int .i64 0),(.int .i64 0),(.int .i64 0),(.int .i64 0),(.int .i64 0),(.slice none 0 0),(.slice none 0 0),(.slice none 0 0),(.slice none 0 0),(.bool false),(.bool false),(.bool false),(.int .i64 0),(.int .i64 0),(.slice none 0 0),(.slice none 0 0),(.slice none 0 0),(.slice none 0 0),(.int .i64 0),(.int .i64 0),(.int .i64 0),(.int .i64 0),(.int .i64 0)]),(.int .i64 8)]) []) (
 .chk (.eqN r0 r0) <|
 .pure [] .len [g v 29] fun v6 =>
 .pure [] (.bin .geq .int) [v6,(.int .i64 200)] fun v7 =>
 .br v7 (
 .chk (.eqN r1 r1) <|
 .chk (.eqN r1 r1) <|
 .ret (.tuple #[(.agg #[(.slice none 0 0),(.int .i64 0),(.int .i64 0),(.int .i64 0),(.int .i64 0),(.int .i64 0),(.slice none 0 0),(.slice none 0 0),(.slice none 0 0),(.slice none 0 0),(.bool false),(.bool false),(.bool false),(.int .i64 0),(.int .i64 0),(.int .i64 0),(.int .i64 0),(.int .i64 0),(.int .i64 0),(.int .i64 0),(.slice none 0 0),(.slice none 0 0),(.slice none 0 0),(.slice none 0 0),(.bool false),(.bool false),(.bool false),(.int .i64 0),(.int .i64 0),(.slice none 0 0),(.slice none 0 0),(.slice none 0 0),(.slice none 0 0),(.int .i64 0),(.int .i64 0),(.int .i64 0),(.int .i64 0),(.int .i64 0)]),(.int .i64 7)]) []) (
 .chk (.eqN r0 r0) <|
 .call false 50 [(.agg #[g v 0,g v 1,g v 2,g v 3,g v 4,g v 5,g v 6,g v 7,g v 8,g v 9,g v 10,g v 11,g v 12,g v 13,g v 14,g v 15,g v 16,g v 17,g v 18,g v 19,g v 20,g v 21,g v 22,g v 23,g v 24,g v 25,g v 26,g v 27,g v 28,g v 29,g v 30,g v 31,g v 32,g v 33,g v 34,g v 35,g v 36,g v 37])] [] [] (.agg 38) fun l8 _ =>
 .newbox fun r4 =>
 .chk (.eqN r4 r4) <|
 .chk (.eqN r3 r3) <|
 .sw (g l2 2) 0 (
 .chk (.eqN r4 r4) <|
 .chk (.eqN r2 r2) <|
 .chk (.eqN r2 r2) <|
 .pure [] (.bin .add .int) [g l0 2,(.int .i64 1)] fun v9 =>
 .call false 51 [g l8 7,g l0 2,v9] [] [] .one fun l10 _ =>
 .chk (.eqN r4 r4) <|
 .chk (.eqN r4 r4) <|
 .call false 52 [g l8 0,g v 38,(.func (.func 53) #[] #[])] [] [] (.tup [none,none]) fun l11 _ =>
 .chk (.eqN r4 r4) <|
 .chk (.eqN r3 r3) <|
 .call false 54 [(.agg #[g l2 0,g l2 1,g l2 2,g l2 3,g l2 4,g l2 5,g l2 6,g l2 7,g l2 8,g l2 9,g l2 10,g l2 11]),(.int .i64 4)] [] [] (.agg 12) fun l12 _ =>
 .pure [] (.idx 12) [g l8 0,g l11 0] fun v13 =>
 .chk (.ptr [] v13) <|
 .store v13 [g l12 0,g l12 1,g l12 2,g l12 3,g l12 4,g l12 5,g l12 6,g l12 7,g l12 8,g l12 9,g l12 10,g l12 11] <|
 .chk (.eqN r4 r4) <|
 .chk (.eqN r3 r3) <|
 .chk (.eqN r3 r3) <|
 .newbox fun r5 =>
 .prim (.bi .append #[30,30] 30) [g l8 29,(.slice (some ⟨r5,0,none⟩) 1 1)] [⟨r5,41,[g l2 2,g v 38,g l2 1,(.int .i64 (-1)),(.slice none 0 0)]⟩] [] .one fun l14 _ =>
 .chk (.eqN r4 r4) <|
 .chk (.eqN r4 r4) <|
 .chk (.eqN r1 r1) <|
 .chk (.eqN r1 r1) <|
 .ret (.tuple #[(.agg #[g l8 0,g l8 1,g l8 2,g l8 3,g l8 4,g l8 5,g l8 6,g l10 0,g l8 8,g l8 9,g l8 10,g l8 11,g l8 12,g l8 13,g l8 14,g l8 15,g l8 16,g l8 17,g l8 18,g l8 19,g l8 20,g l8 21,g l8 22,g l8 23,g l8 24,g l8 25,g l8 26,g l8 27,g l8 28,g l14 0,g l8 30,g l8 31,g l8 32,g l8 33,g l8 34,g l8 35,g l8 36,g l8 37]),(.int .i64 0)]) []) (
 .sw (g l2 2) 1 (
 .chk (.eqN r4 r4) <|
 .chk (.eqN r2 r2) <|
 .chk (.eqN r2 r2) <|
 .pure [] (.bin .add .int) [g l0 2,(.int .i64 1)] fun v15 =>
 .call false 51 [g l8 21,g l0 2,v15] [] [] .one fun l16 _ =>
 .chk (.eqN r4 r4) <|
 .chk (.eqN r4 r4) <|
 .call false 52 [g l8 0,g v 38,(.func (.func 53) #[] #[])] [] [] (.tup [none,none]) fun l17 _ =>
 .chk (.eqN r4 r4) <|
 .chk (.eqN r3 r3) <|
 .call false 54 [(.agg #[g l2 0,g l2 1,g l2 2,g l2 3,g l2 4,g l2 5,g l2 6,g l2 7,g l2 8,g l2 9,g l2 10,g l2 11]),(.int .i64 4)] [] [] (.agg 12) fun l18 _ =>
 .pure [] (.idx 12) [g l8 0,g l17 0] fun v19 =>
 .chk (.ptr [] v19) <|
 .store v19 [g l18 0,g l18 1,g l18 2,g l18 3,g l18 4,g l18 5,g l18 6,g l18 7,g l18 8,g l18 9,g l18 10,g l18 11] <|
 .chk (.eqN r4 r4) <|
 .chk (.eqN r3 r3) <|
 .chk (.eqN r3 r3) <|
 .newbox fun r6 =>
 .prim (.bi .append #[30,30] 30) [g l8 29,(.slice (some ⟨r6,0,none⟩) 1 1)] [⟨r6,41,[g l2 2,g v 38,g l2 1,(.int .i64 (-1)),(.slice none 0 0)]⟩] [] .one fun l20 _ =>
 .chk (.eqN r4 r4) <|
 .chk (.eqN r4 r4) <|
 .chk (.eqN r1 r1) <|
 .chk (.eqN r1 r1) <|
 .ret (.tuple #[(.agg #[g l8 0,g l8 1,g l8 2,g l8 3,g l8 4,g l8 5,g l8 6,g l8 7,g l8 8,g l8 9,g l8 10,g l8 11,g l8 12,g l8 13,g l8 14,g l8 15,g l8 16,g l8 17,g l8 18,g l8 19,g l8 20,g l16 0,g l8 22,g l8 23,g l8 24,g l8 25,g l8 26,g l8 27,g l8 28,g l20 0,g l8 30,g l8 31,g l8 32,g l8 33,g l8 34,g l8 35,g l8 36,g l8 37]),(.int .i64 0)]) []) (
 .stuck 901)))))
theorem T_stack_Cast_eq (vs : List Value) : sxFun PP Tryz.f18 (mkOpts okL [(81, [5, 6, 7, 8])] [] []) vs = T_stack_Cast vs := by kernel_rfl
theorem run_stack_Cast {args vs} (ha : entryArgs PP Tryz.f18 args = some vs) (ho : Ones vs) {H O Q} (h : (T_stack_Cast vs).den PP Q H O) : Triple PP F_stack_Cast args H O Q :=
 triple_run mixed (mkOpts_ok okL_ok _ _ _) Tryz.func18 T_stack_Cast_eq ha ho h
abbrev F_stack_Push : FuncId := 19
/- zeitnot/stack.Push -/
def T_stack_Push (v : List Value) : Tree :=
 .newbox fun r0 =>
 .newbox fun r1 =>
 .newbox fun r2 =>
 .chk (.eqN r1 r1) <|
 .call false 55 [g v 38,(.int .i64 0),(.int .i64 1)] [] [] .one fun l0 _ =>
 .br (g l0 0) (
 .chk (.eqN r1 r1) <|
 .call false 55 [g v 39,(.int .i64 1),(.int .i64 500)] [] [] .one fun l1 _ =>
 .br (g l1 0) (
 .chk (.eqN r1 r1) <|
 .call false 55 [g v 40,(.int .i64 0),(.int .i64 399)] [] [] .one fun l2 _ =>
 .br (g l2 0) (
 .chk (.eqN r1 r1) <|
 .call false 55 [g v 41,(.int .i64 0),(.int .i64 1)] [] [] .one fun l3 _ =>
 .chk (.eqN r0 r0) <|
 .call false 42 [(.agg #[g v 0,g v 1,g v 2,g v 3,g v 4,g v 5,g v 6,g v 7,g v 8,g v 9,g v 10,g v 11,g v 12,g v 13,g v 14,g v 15,g v 16,g v 17,g v 18,g v 19,g v 20,g v 21,g v 22,g v 23,g v 24,g v 25,g v 26,g v 27,g v 28,g v 29,g v 30,g v 31,g v 32,g v 33,g v 34,g v 35,g v 36,g v 37])] [] [] .one fun l4 _ =>
 .pure [] .not [g l4 0] fun v5 =>
 .chk (.eqV v5 v5) <|
 .pure [] .not [g l3 0] fun v6 =>
 .chk (.eqV v5 v5) <|
 .pure [] .pick [v5,(.bool true),v6] fun v7 =>
 .chk (.eqN r1 r1) <|
 .chk (.eqV v7 v7) <|
 .chk (.eqV v7 v7) <|
 .pure [] .len [g v 42] fun v8 =>
 .chk (.eqV v7 v7) <|
 .pure [] (.bin .gtr .int) [v8,(.int .i64 0)] fun v9 =>
 .chk (.eqV v7 v7) <|
 .pure [] .pick [v7,(.bool true),v9] fun v10 =>
 .br v10 (
 .chk (.eqN r2 r2) <|
 .chk (.eqN r2 r2) <|
 .ret (.tuple #[(.agg #[(.slice none 0 0),(.int .i64 0),(.int .i64 0),(.int .i64 0),(.int .i64 0),(.int .i64 0),(.slice none 0 0),(.slice none 0 0),(.slice none 0 0),(.slice none 0 0),(.bool false),(.bool false),(.bool false),(.int .i64 0),(.int .i64 0),(.int .i64 0),(.int .i64 0),(.int .i64 0),(.int .i64 0),(.int .i64 0),(.slice none 0 0),(.slice none 0 0),(.slice none 0 0),(.slice none 0 0),(.bool false),(.bool false),(.bool false),(.int .i64 0),(.int .i64 0),(.slice none 0 0),(.slice none 0 0),(.slice none 0 0),(.slice none 0 0),(.int .i64 0),(.int .i64 0),(.int .i64 0),(.int .i64 0),(.int .i64 0)]),(.int .i64 2)]) []) (
 .chk (.eqN r0 r0) <|
 .pure [] .len [g v 29] fun v11 =>
 .pure [] (.bin .geq .int) [v11,(.int .i64 200)] fun v12 =>
 .br v12 (
 .chk (.eqN r2 r2) <|
 .chk (.eqN r2 r2) <|
 .ret (.tuple #[(.agg #[(.slice none 0 0),(.int .i64 0),(.int .i64 0),(.int .i64 0),(.int .i64 0),(.int .i64 0),(.slice none 0 0),(.slice none 0 0),(.slice none 0 0),(.slice none 0 0),(.bool false),(.bool false),(.bool false),(.int .i64 0),(.int .i64 0),(.int .i64 0),(.int .i64 0),(.int .i64 0),(.int .i64 0),(.int .i64 0),(.slice none 0 0),(.slice none 0 0),(.slice none 0 0),(.slice none 0 0),(.bool false),(.bool false),(.bool false),(.int .i64 0),(.int .i64 0),(.slice none 0 0),(.slice none 0 0),(.slice none 0 0),(.slice none 0 0),(.int .i64 0),(.int .i64 0),(.int .i64 0),(.int .i64 0),(.int .i64 0)]),(.int .i64 7)]) []) (
 .chk (.eqN r0 r0) <|
 .call false 50 [(.agg #[g v 0,g v 1,g v 2,g v 3,g v 4,g v 5,g v 6,g v 7,g v 8,g v 9,g v 10,g v 11,g v 12,g v 13,g v 14,g v 15,g v 16,g v 17,g v 18,g v 19,g v 20,g v 21,g v 22,g v 23,g v 24,g v 25,g v 26,g v 27,g v 28,g v 29,g v 30,g v 31,g v 32,g v 33,g v 34,g v 35,g v 36,g v 37])] [] [] (.agg 38) fun l13 _ =>
 .newbox fun r3 =>
 .chk (.eqN r3 r3) <|
 .chk (.eqN r3 r3) <|
 .chk (.eqN r1 r1) <|
 .newbox fun r4 =>
 .prim (.bi .append #[30,30] 30) [g l13 29,(.slice (some ⟨r4,0,none⟩) 1 1)] [⟨r4,41,[g v 38,g v 39,g v 40,g v 41,g v 42]⟩] [] .one fun l14 _ =>
 .chk (.eqN r3 r3) <|
 .chk (.eqN r3 r3) <|
 .chk (.eqN r2 r2) <|
 .chk (.eqN r2 r2) <|
 .ret (.tuple #[(.agg #[g l13 0,g l13 1,g l13 2,g l13 3,g l13 4,g l13 5,g l13 6,g l13 7,g l13 8,g l13 9,g l13 10,g l13 11,g l13 12,g l13 13,g l13 14,g l13 15,g l13 16,g l13 17,g l13 18,g l13 19,g l13 20,g l13 21,g l13 22,g l13 23,g l13 24,g l13 25,g l13 26,g l13 27,g l13 28,g l14 0,g l13 30,g l13 31,g l13 32,g l13 33,g l13 34,g l13 35,g l13 36,g l13 37]),(.int .i64 0)]) []))) (
 .chk (.eqN r0 r0) <|
 .call false 42 [(.agg #[g v 0,g v 1,g v 2,g v 3,g v 4,g v 5,g v 6,g v 7,g v 8,g v 9,g v 10,g v 11,g v 12,g v 13,g v 14,g v 15,g v 16,g v 17,g v 18,g v 19,g v 20,g v 21,g v 22,g v 23,g v 24,g v 25,g v 26,g v 27,g v 28,g v 29,g v 30,g v 31,g v 32,g v 33,g v 34,g v 35,g v 36,g v 37])] [] [] .one fun l15 _ =>
 .pure [] .not [g l15 0] fun v16 =>
 .chk (.eqV v16 v16) <|
 .chk (.eqV v16 v16) <|
 .pure [] .pick [v16,(.bool true),(.bool true)] fun v17 =>
 .chk (.eqN r1 r1) <|
 .chk (.eqV v17 v17) <|
 .chk (.eqV v17 v17) <|
 .pure [] .len [g v 42] fun v18 =>
 .chk (.eqV v17 v17) <|
 .pure [] (.bin .gtr .int) [v18,(.int .i64 0)] fun v19 =>
 .chk (.eqV v17 v17) <|
 .pure [] .pick [v17,(.bool true),v19] fun v20 =>
 .br v20 (
 .chk (.eqN r2 r2) <|
 .chk (.eqN r2 r2) <|
 .ret (.tuple #[(.agg #[(.slice none 0 0),(.int .i64 0),(.int .i64 0),(.int .i64 0),(.int .i64 0),(.int .i64 0),(.slice none 0 0),(.slice none 0 0),(.slice none 0 0),(.slice none 0 0),(.bool false),(.bool false),(.bool false),(.int .i64 0),(.int .i64 0),(.int .i64 0),(.int .i64 0),(.int .i64 0),(.int .i64 0),(.int .i64 0),(.slice none 0 0),(.slice none 0 0),(.slice none 0 0),(.slice none 0 0),(.bool false),(.bool false),(.bool false),(.int .i64 0),(.int .i64 0),(.slice none 0 0),(.slice none 0 0),(.slice none 0 0),(.slice none 0 0),(.int .i64 0),(.int .i64 0),(.int .i64 0),(.int .i64 0),(.int .i64 0)]),(.int .i64 2)]) []) (
 .chk (.eqN r0 r0) <|
 .pure [] .len [g v 29] fun v21 =>
 .pure [] (.bin .geq .int) [v21,(.int .i64 200)] fun v22 =>
 .br v22 (
 .chk (.eqN r2 r2) <|
 .chk (.eqN r2 r2) <|
 .ret (.tuple #[(.agg #[(.slice none 0 0),(.int .i64 0),(.int .i64 0),(.int .i64 0),(.int .i64 0),(.int .i64 0),(.slice none 0 0),(.slice none 0 0),(.slice none 0 0),(.slice none 0 0),(.bool false),(.bool false),(.bool false),(.int .i64 0),(.int .i64 0),(.int .i64 0),(.int .i64 0),(.int .i64 0),(.int .i64 0),(.int .i64 0),(.slice none 0 0),(.slice none 0 0),(.slice none 0 0),(.slice none 0 0),(.bool false),(.bool false),(.bool false),(.int .i64 0),(.int .i64 0),(.slice none 0 0),(.slice none 0 0),(.slice none 0 0),(.slice none 0 0),(.int .i64 0),(.int .i64 0),(.int .i64 0),(.int .i64 0),(.int .i64 0)]),(.int .i64 7)]) []) (
 .chk (.eqN r0 r0) <|
 .call false 50 [(.agg #[g v 0,g v 1,g v 2,g v 3,g v 4,g v 5,g v 6,g v 7,g v 8,g v 9,g v 10,g v 11,g v 12,g v 13,g v 14,g v 15,g v 16,g v 17,g v 18,g v 19,g v 20,g v 21,g v 22,g v 23,g v 24,g v 25,g v 26,g v 27,g v 28,g v 29,g v 30,g v 31,g v 32,g v 33,g v 34,g v 35,g v 36,g v 37])] [] [] (.agg 38) fun l23 _ =>
 .newbox fun r5 =>
 .chk (.eqN r5 r5) <|
 .chk (.eqN r5 r5) <|
 .chk (.eqN r1 r1) <|
 .newbox fun r6 =>
 .prim (.bi .append #[30,30] 30) [g l23 29,(.slice (some ⟨r6,0,none⟩) 1 1)] [⟨r6,41,[g v 38,g v 39,g v 40,g v 41,g v 42]⟩] [] .one fun l24 _ =>
 .chk (.eqN r5 r5) <|
 .chk (.eqN r5 r5) <|
 .chk (.eqN r2 r2) <|
 .chk (.eqN r2 r2) <|
 .ret (.tuple #[(.agg #[g l23 0,g l23 1,g l23 2,g l23 3,g l23 4,g l23 5,g l23 6,g l23 7,g l23 8,g l23 9,g l23 10,g l23 11,g l23 12,g l23 13,g l23 14,g l23 15,g l23 16,g l23 17,g l23 18,g l23 19,g l23 20,g l23 21,g l23 22,g l23 23,g l23 24,g l23 25,g l23 26,g l23 27,g l23 28,g l24 0,g l23 30,g l23 31,g l23 32,g l23 33,g l23 34,g l23 35,g l23 36,g l23 37]),(.int .i64 0)]) [])))) (
 .chk (.eqN r0 r0) <|
 .call false 42 [(.agg #[g v 0,g v 1,g v 2,g v 3,g v 4,g v 5,g v 6,g v 7,g v 8,g v 9,g v 10,g v 11,g v 12,g v 13,g v 14,g v 15,g v 16,g v 17,g v 18,g v 19,g v 20,g v 21,g v 22,g v 23,g v 24,g v 25,g v 26,g v 27,g v 28,g v 29,g v 30,g v 31,g v 32,g v 33,g v 34,g v 35,g v 36,g v 37])] [] [] .one fun l25 _ =>
 .pure [] .not [g l25 0] fun v26 =>
 .chk (.eqV v26 v26) <|
 .chk (.eqV v26 v26) <|
 .pure [] .pick [v26,(.bool true),(.bool true)] fun v27 =>
 .chk (.eqN r1 r1) <|
 .chk (.eqV v27 v27) <|
 .chk (.eqV v27 v27) <|
 .pure [] .len [g v 42] fun v28 =>
 .chk (.eqV v27 v27) <|
 .pure [] (.bin .gtr .int) [v28,(.int .i64 0)] fun v29 =>
 .chk (.eqV v27 v27) <|
 .pure [] .pick [v27,(.bool true),v29] fun v30 =>
 .br v30 (
 .chk (.eqN r2 r2) <|
 .chk (.eqN r2 r2) <|
 .ret (.tuple #[(.agg #[(.slice none 0 0),(.int .i64 0),(.int .i64 0),(.int .i64 0),(.int .i64 0),(.int .i64 0),(.slice none 0 0),(.slice none 0 0),(.slice none 0 0),(.slice none 0 0),(.bool false),(.bool false),(.bool false),(.int .i64 0),(.int .i64 0),(.int .i64 0),(.int .i64 0),(.int .i64 0),(.int .i64 0),(.int .i64 0),(.slice none 0 0),(.slice none 0 0),(.slice none 0 0),(.slice none 0 0),(.bool false),(.bool false),(.bool false),(.int .i64 0),(.int .i64 0),(.slice none 0 0),(.slice none 0 0),(.slice none 0 0),(.slice none 0 0),(.int .i64 0),(.int .i64 0),(.int .i64 0),(.int .i64 0),(.int .i64 0)]),(.int .i64 2)]) []) (
 .chk (.eqN r0 r0) <|
 .pure [] .len [g v 29] fun v31 =>
 .pure [] (.bin .geq .int) [v31,(.int .i64 200)] fun v32 =>
 .br v32 (
 .chk (.eqN r2 r2) <|
 .chk (.eqN r2 r2) <|
 .ret (.tuple #[(.agg #[(.slice none 0 0),(.int .i64 0),(.int .i64 0),(.int .i64 0),(.int .i64 0),(.int .i64 0),(.slice none 0 0),(.slice none 0 0),(.slice none 0 0),(.slice none 0 0),(.bool false),(.bool false),(.bool false),(.int .i64 0),(.int .i64 0),(.int .i64 0),(.int .i64 0),(.int .i64 0),(.int .i64 0),(.int .i64 0),(.slice none 0 0),(.slice none 0 0),(.slice none 0 0),(.slice none 0 0),(.bool false),(.bool false),(.bool false),(.int .i64 0),(.int .i64 0),(.slice none 0 0),(.slice none 0 0),(.slice none 0 0),(.slice none 0 0),(.int .i64 0),(.int .i64 0),(.int .i64 0),(.int .i64 0),(.int .i64 0)]),(.int .i64 7)]) []) (
 .chk (.eqN r0 r0) <|
 .call false 50 [(.agg #[g v 0,g v 1,g v 2,g v 3,g v 4,g v 5,g v 6,g v 7,g v 8,g v 9,g v 10,g v 11,g v 12,g v 13,g v 14,g v 15,g v 16,g v 17,g v 18,g v 19,g v 20,g v 21,g v 22,g v 23,g v 24,g v 25,g v 26,g v 27,g v 28,g v 29,g v 30,g v 31,g v 32,g v 33,g v 34,g v 35,g v 36,g v 37])] [] [] (.agg 38) fun l33 _ =>
 .newbox fun r7 =>
 .chk (.eqN r7 r7) <|
 .chk (.eqN r7 r7) <|
 .chk (.eqN r1 r1) <|
 .newbox fun r8 =>
 .prim (.bi .append #[30,30] 30) [g l33 29,(.slice (some ⟨r8,0,none⟩) 1 1)] [⟨r8,41,[g v 38,g v 39,g v 40,g v 41,g v 42]⟩] [] .one fun l34 _ =>
 .chk (.eqN r7 r7) <|
 .chk (.eqN r7 r7) <|
 .chk (.eqN r2 r2) <|
 .chk (.eqN r2 r2) <|
 .ret (.tuple #[(.agg #[g l33 0,g l33 1,g l33 2,g l33 3,g l33 4,g l33 5,g l33 6,g l33 7,g l33 8,g l33 9,g l33 10,g l33 11,g l33 12,g l33 13,g l33 14,g l33 15,g l33 16,g l33 17,g l33 18,g l33 19,g l33 20,g l33 21,g l33 22,g l33 23,g l33 24,g l33 25,g l33 26,g l33 27,g l33 28,g l34 0,g l33 30,g l33 31,g l33 32,g l33 33,g l33 34,g l33 35,g l33 36,g l33 37]),(.int .i64 0)]) [])))) (
 .chk (.eqN r0 r0) <|
 .call false 42 [(.agg #[g v 0,g v 1,g v 2,g v 3,g v 4,g v 5,g v 6,g v 7,g v 8,g v 9,g v 10,g v 11,g v 12,g v 13,g v 14,g v 15,g v 16,g v 17,g v 18,g v 19,g v 20,g v 21,g v 22,g v 23,g v 24,g v 25,g v 26,g v 27,g v 28,g v 29,g v 30,g v 31,g v 32,g v 33,g v 34,g v 35,g v 36,g v 37])] [] [] .one fun l35 _ =>
 .pure [] .not [g l35 0] fun v36 =>
 .chk (.eqV v36 v36) <|
 .chk (.eqV v36 v36) <|
 .pure [] .pick [v36,(.bool true),(.bool true)] fun v37 =>
 .chk (.eqN r1 r1) <|
 .chk (.eqV v37 v37) <|
 .chk (.eqV v37 v37) <|
 .pure [] .len [g v 42] fun v38 =>
 .chk (.eqV v37 v37) <|
 .pure [] (.bin .gtr .int) [v38,(.int .i64 0)] fun v39 =>
 .chk (.eqV v37 v37) <|
 .pure [] .pick [v37,(.bool true),v39] fun v40 =>
 .br v40 (
 .chk (.eqN r2 r2) <|
 .chk (.eqN r2 r2) <|
 .ret (.tuple #[(.agg #[(.slice none 0 0),(.int .i64 0),(.int .i64 0),(.int .i64 0),(.int .i64 0),(.int .i64 0),(.slice none 0 0),(.slice none 0 0),(.slice none 0 0),(.slice none 0 0),(.bool false),(.bool false),(.bool false),(.int .i64 0),(.int .i64 0),(.int .i64 0),(.int .i64 0),(.int .i64 0),(.int .i64 0),(.int .i64 0),(.slice none 0 0),(.slice none 0 0),(.slice none 0 0),(.slice none 0 0),(.bool false),(.bool false),(.bool false),(.int .i64 0),(.int .i64 0),(.slice none 0 0),(.slice none 0 0),(.slice none 0 0),(.slice none 0 0),(.int .i64 0),(.int .i64 0),(.int .i64 0),(.int .i64 0),(.int .i64 0)]),(.int .i64 2)]) []) (
 .chk (.eqN r0 r0) <|
 .pure [] .len [g v 29] fun v41 =>
 .pure [] (.bin .geq .int) [v41,(.int .i64 200)] fun v42 =>
 .br v42 (
 .chk (.eqN r2 r2) <|
 .chk (.eqN r2 r2) <|
 .ret (.tuple #[(.agg #[(.slice none 0 0),(.int .i64 0),(.int .i64 0),(.int .i64 0),(.int .i64 0),(.int .i64 0),(.slice none 0 0),(.slice none 0 0),(.slice none 0 0),(.slice none 0 0),(.bool false),(.bool false),(.bool false),(.int .i64 0),(.int .i64 0),(.int .i64 0),(.int .i64 0),(.int .i64 0),(.int .i64 0),(.int .i64 0),(.slice none 0 0),(.slice none 0 0),(.slice none 0 0),(.slice none 0 0),(.bool false),(.bool false),(.bool false),(.int .i64 0),(.int .i64 0),(.slice none 0 0),(.slice none 0 0),(.slice none 0 0),(.slice none 0 0),(.int .i64 0),(.int .i64 0),(.int .i64 0),(.int .i64 0),(.int .i64 0)]),(.int .i64 7)]) []) (
 .chk (.eqN r0 r0) <|
 .call false 50 [(.agg #[g v 0,g v 1,g v 2,g v 3,g v 4,g v 5,g v 6,g v 7,g v 8,g v 9,g v 10,g v 11,g v 12,g v 13,g v 14,g v 15,g v 16,g v 17,g v 18,g v 19,g v 20,g v 21,g v 22,g v 23,g v 24,g v 25,g v 26,g v 27,g v 28,g v 29,g v 30,g v 31,g v 32,g v 33,g v 34,g v 35,g v 36,g v 37])] [] [] (.agg 38) fun l43 _ =>
 .newbox fun r9 =>
 .chk (.eqN r9 r9) <|
 .chk (.eqN r9 r9) <|
 .chk (.eqN r1 r1) <|
 .newbox fun r10 =>
 .prim (.bi .append #[30,30] 30) [g l43 29,(.slice (some ⟨r10,0,none⟩) 1 1)] [⟨r10,41,[g v 38,g v 39,g v 40,g v 41,g v 42]⟩] [] .one fun l44 _ =>
 .chk (.eqN r9 r9) <|
 .chk (.eqN r9 r9) <|
 .chk (.eqN r2 r2) <|
 .chk (.eqN r2 r2) <|
 .ret (.tuple #[(.agg #[g l43 0,g l43 1,g l43 2,g l43 3,g l43 4,g l43 5,g l43 6,g l43 7,g l43 8,g l43 9,g l43 10,g l43 11,g l43 12,g l43 13,g l43 14,g l43 15,g l43 16,g l43 17,g l43 18,g l43 19,g l43 20,g l43 21,g l43 22,g l43 23,g l43 24,g l43 25,g l43 26,g l43 27,g l43 28,g l44 0,g l43 30,g l43 31,g l43 32,g l43 33,g l43 34,g l43 35,g l43 36,g l43 37]),(.int .i64 0)]) [])))
theorem T_stack_Push_eq (vs : List Value) : sxFun PP Tryz.f19 (mkOpts okL [(81, [5, 6, 7, 8])] [] []) vs = T_stack_Push vs := by kernel_rfl
theorem run_stack_Push {args vs} (ha : entryArgs PP Tryz.f19 args = some vs) (ho : Ones vs) {H O Q} (h : (T_stack_Push vs).den PP Q H O) : Triple PP F_stack_Push args H O Q :=
 triple_run mixed (mkOpts_ok okL_ok _ _ _) Tryz.func19 T_stack_Push_eq ha ho h
abbrev F_zeitnotref15_New : FuncId := 25
/- zeitnot/zeitnotref15.New -/
def T_zeitnotref15_New (v : List Value) : Tree :=
 .newbox fun r0 =>
 .newbox fun r1 =>
 .newbox fun r2 =>
 .chk (.eqN r2 r2) <|
 .pure [] (.bin .lss .int) [g v 0,(.int .i64 1)] fun v0 =>
 .chk (.eqV v0 v0) <|
 .pure [] (.bin .gtr .int) [g v 0,(.int .i64 9999)] fun v1 =>
 .chk (.eqV v0 v0) <|
 .pure [] .pick [v0,(.bool true),v1] fun v2 =>
 .chk (.eqN r0 r0) <|
 .chk (.eqV v2 v2) <|
 .chk (.eqV v2 v2) <|
 .pure [] .len [g v 1] fun v3 =>
 .chk (.eqN r0 r0) <|
 .chk (.eqV v2 v2) <|
 .chk (.eqV v2 v2) <|
 .pure [] .len [g v 2] fun v4 =>
 .chk (.eqV v2 v2) <|
 .chk (.eqV v2 v2) <|
 .pure [] (.bin .add .int) [v3,v4] fun v5 =>
 .chk (.eqV v2 v2) <|
 .pure [] (.bin .gtr .int) [v5,(.int .i64 500)] fun v6 =>
 .chk (.eqV v2 v2) <|
 .pure [] .pick [v2,(.bool true),v6] fun v7 =>
 .br v7 (
 .chk (.eqN r1 r1) <|
 .chk (.eqN r1 r1) <|
 .ret (.tuple #[(.agg #[(.slice none 0 0),(.int .i64 0),(.int .i64 0),(.int .i64 0),(.int .i64 0),(.int .i64 0),(.slice none 0 0),(.slice none 0 0),(.slice none 0 0),(.slice none 0 0),(.bool false),(.bool false),(.bool false),(.int .i64 0),(.int .i64 0),(.int .i64 0),(.int .i64 0),(.int .i64 0),(.int .i64 0),(.int .i64 0),(.slice none 0 0),(.slice none 0 0),(.slice none 0 0),(.slice none 0 0),(.bool false),(.bool false),(.bool false),(.int .i64 0),(.int .i64 0),(.slice none 0 0),(.slice none 0 0),(.slice none 0 0),(.slice none 0 0),(.int .i64 0),(.int .i64 0),(.int .i64 0),(.int .i64 0),(.int .i64 0)]),(.int .i64 2)]) []) (
 .chk (.eqN r2 r2) <|
 .loop 32 9 [(.int .i64 0),(.slice none 0 0),(.slice none 0 0),(.slice none 0 0)] fun C32 l8 =>
 .chk (.eqN r0 r0) <|
 .pure [] .len [g v 1] fun v9 =>
 .pure [] (.bin .lss .int) [g l8 0,v9] fun v10 =>
 .br v10 (
 .chk (.eqN r0 r0) <|
 .pure [] (.idx 1) [g v 1,g l8 0] fun v11 =>
 .load [] v11 1 fun l12 =>
 .pure [] (.bin .lss .int) [g l12 0,(.int .i64 0)] fun v13 =>
 .chk (.eqV v13 v13) <|
 .chk (.eqN r0 r0) <|
 .chk (.eqV v13 v13) <|
 .chk (.eqV v13 v13) <|
 .chk (.eqV v13 v13) <|
 .pure [(v13,false)] (.idx 1) [g v 1,g l8 0] fun v14 =>
 .chk (.eqV v13 v13) <|
 .load [(v13,false)] v14 1 fun l15 =>
 .chk (.eqV v13 v13) <|
 .pure [] (.bin .gtr .int) [g l15 0,(.int .i64 399)] fun v16 =>
 .chk (.eqV v13 v13) <|
 .pure [] .pick [v13,(.bool true),v16] fun v17 =>
 .br v17 (
 .chk (.eqN r1 r1) <|
 .chk (.eqN r1 r1) <|
 .ret (.tuple #[(.agg #[(.slice none 0 0),(.int .i64 0),(.int .i64 0),(.int .i64 0),(.int .i64 0),(.int .i64 0),(.slice none 0 0),(.slice none 0 0),(.slice none 0 0),(.slice none 0 0),(.bool false),(.bool false),(.bool false),(.int .i64 0),(.int .i64 0),(.int .i64 0),(.int .i64 0),(.int .i64 0),(.int .i64 0),(.int .i64 0),(.slice none 0 0),(.slice none 0 0),(.slice none 0 0),(.slice none 0 0),(.bool false),(.bool false),(.bool false),(.int .i64 0),(.int .i64 0),(.slice none 0 0),(.slice none 0 0),(.slice none 0 0),(.slice none 0 0),(.int .i64 0),(.int .i64 0),(.int .i64 0),(.int .i64 0),(.int .i64 0)]),(.int .i64 2)]) []) (
 .chk (.eqN r2 r2) <|
 .pure [] .len [g l8 1] fun v18 =>
 .pure [] (.bin .add .int) [v18,(.int .i64 1)] fun v19 =>
 .chk (.eqN r2 r2) <|
 .chk (.eqN r0 r0) <|
 .pure [] (.idx 1) [g v 1,g l8 0] fun v20 =>
 .load [] v20 1 fun l21 =>
 .newbox fun r3 =>
 .prim (.bi .append #[23,23] 23) [g l8 1,(.slice (some ⟨r3,0,none⟩) 1 1)] [⟨r3,76,[v19,g l21 0,(.int .i64 0),(.int .i64 0),(.int .i64 0),(.int .i64 0),(.int .i64 0),(.int .i64 0),(.int .i64 0),(.bool false),(.bool false),(.bool false)]⟩] [] .one fun l22 _ =>
 .chk (.eqN r2 r2) <|
 .chk (.eqN r2 r2) <|
 .newbox fun r4 =>
 .prim (.bi .append #[26,26] 26) [g l8 2,(.slice (some ⟨r4,0,none⟩) 1 1)] [⟨r4,3,[v19]⟩] [] .one fun l23 _ =>
 .chk (.eqN r2 r2) <|
 .pure [] (.bin .add .int) [g l8 0,(.int .i64 1)] fun v24 =>
 .cont 32 C32 [v24,g l22 0,g l23 0,g l8 3] [E [g v 0],E [(.pointer (some ⟨r0,0,none⟩))],E [(.pointer (some ⟨r1,0,none⟩))],E [(.pointer (some ⟨r2,0,none⟩))],E [(.int .i64 0)],E [(.pointer (some ⟨r0,0,none⟩)),g v 1,g v 2],E [(.pointer (some ⟨r1,0,none⟩)),(.slice none 0 0),(.int .i64 0),(.int .i64 0),(.int .i64 0),(.int .i64 0),(.int .i64 0),(.slice none 0 0),(.slice none 0 0),(.slice none 0 0),(.slice none 0 0),(.bool false),(.bool false),(.bool false),(.int .i64 0),(.int .i64 0),(.int .i64 0),(.int .i64 0),(.int .i64 0),(.int .i64 0),(.int .i64 0),(.slice none 0 0),(.slice none 0 0),(.slice none 0 0),(.slice none 0 0),(.bool false),(.bool false),(.bool false),(.int .i64 0),(.int .i64 0),(.slice none 0 0),(.slice none 0 0),(.slice none 0 0),(.slice none 0 0),(.int .i64 0),(.int .i64 0),(.int .i64 0),(.int .i64 0),(.int .i64 0)],E [(.pointer (some ⟨r2,0,none⟩)),(.tuple #[]),g v 0,(.int .i64 0),(.int .i64 0),(.int .i64 0),(.int .i64 0),(.tuple #[]),(.slice none 0 0),(.slice none 0 0),(.slice none 0 0),(.bool false),(.bool false),(.bool false),(.int .i64 0),(.int .i64 0),(.int .i64 0),(.int .i64 0),(.int .i64 0),(.int .i64 0),(.int .i64 0),(.tuple #[]),(.slice none 0 0),(.slice none 0 0),(.slice none 0 0),(.bool false),(.bool false),(.bool false),(.int .i64 0),(.int .i64 0),(.slice none 0 0),(.slice none 0 0),(.slice none 0 0),(.slice none 0 0),(.int .i64 0),(.int .i64 0),(.int .i64 0),(.int .i64 (-1)),(.int .i64 0)]])) (
 .chk (.eqN r2 r2) <|
 .loop 51 9 [(.int .i64 0),g l8 1,g l8 2,g l8 3] fun C51 l25 =>
 .chk (.eqN r0 r0) <|
 .pure [] .len [g v 2] fun v26 =>
 .pure [] (.bin .lss .int) [g l25 0,v26] fun v27 =>
 .br v27 (
 .chk (.eqN r0 r0) <|
 .pure [] (.idx 1) [g v 2,g l25 0] fun v28 =>
 .load [] v28 1 fun l29 =>
 .pure [] (.bin .lss .int) [g l29 0,(.int .i64 0)] fun v30 =>
 .chk (.eqV v30 v30) <|
 .chk (.eqN r0 r0) <|
 .chk (.eqV v30 v30) <|
 .chk (.eqV v30 v30) <|
 .chk (.eqV v30 v30) <|
 .pure [(v30,false)] (.idx 1) [g v 2,g l25 0] fun v31 =>
 .chk (.eqV v30 v30) <|
 .load [(v30,false)] v31 1 fun l32 =>
 .chk (.eqV v30 v30) <|
 .pure [] (.bin .gtr .int) [g l32 0,(.int .i64 399)] fun v33 =>
 .chk (.eqV v30 v30) <|
 .pure [] .pick [v30,(.bool true),v33] fun v34 =>
 .br v34 (
 .chk (.eqN r1 r1) <|
 .chk (.eqN r1 r1) <|
 .ret (.tuple #[(.agg #[(.slice none 0 0),(.int .i64 0),(.int .i64 0),(.int .i64 0),(.int .i64 0),(.int .i64 0),(.slice none 0 0),(.slice none 0 0),(.slice none 0 0),(.slice none 0 0),(.bool false),(.bool false),(.bool false),(.int .i64 0),(.int .i64 0),(.int .i64 0),(.int .i64 0),(.int .i64 0),(.int .i64 0),(.int .i64 0),(.slice none 0 0),(.slice none 0 0),(.slice none 0 0),(.slice none 0 0),(.bool false),(.bool false),(.bool false),(.int .i64 0),(.int .i64 0),(.slice none 0 0),(.slice none 0 0),(.slice none 0 0),(.slice none 0 0),(.int .i64 0),(.int .i64 0),(.int .i64 0),(.int .i64 0),(.int .i64 0)]),(.int .i64 2)]) []) (
 .chk (.eqN r2 r2) <|
 .pure [] .len [g l25 1] fun v35 =>
 .pure [] (.bin .add .int) [v35,(.int .i64 1)] fun v36 =>
 .chk (.eqN r2 r2) <|
 .chk (.eqN r0 r0) <|
 .pure [] (.idx 1) [g v 2,g l25 0] fun v37 =>
 .load [] v37 1 fun l38 =>
 .newbox fun r5 =>
 .prim (.bi .append #[23,23] 23) [g l25 1,(.slice (some ⟨r5,0,none⟩) 1 1)] [⟨r5,76,[v36,g l38 0,(.int .i64 1),(.int .i64 0),(.int .i64 0),(.int .i64 0),(.int .i64 0),(.int .i64 0),(.int .i64 0),(.bool false),(.bool false),(.bool false)]⟩] [] .one fun l39 _ =>
 .chk (.eqN r2 r2) <|
 .chk (.eqN r2 r2) <|
 .newbox fun r6 =>
 .prim (.bi .append #[26,26] 26) [g l25 3,(.slice (some ⟨r6,0,none⟩) 1 1)] [⟨r6,3,[v36]⟩] [] .one fun l40 _ =>
 .chk (.eqN r2 r2) <|
 .pure [] (.bin .add .int) [g l25 0,(.int .i64 1)] fun v41 =>
 .cont 51 C51 [v41,g l39 0,g l25 2,g l40 0] [E [g v 0],E [(.pointer (some ⟨r0,0,none⟩))],E [(.pointer (some ⟨r1,0,none⟩))],E [(.pointer (some ⟨r2,0,none⟩))],E [(.int .i64 1)],E [(.pointer (some ⟨r0,0,none⟩)),g v 1,g v 2],E [(.pointer (some ⟨r1,0,none⟩)),(.slice none 0 0),(.int .i64 0),(.int .i64 0),(.int .i64 0),(.int .i64 0),(.int .i64 0),(.slice none 0 0),(.slice none 0 0),(.slice none 0 0),(.slice none 0 0),(.bool false),(.bool false),(.bool false),(.int .i64 0),(.int .i64 0),(.int .i64 0),(.int .i64 0),(.int .i64 0),(.int .i64 0),(.int .i64 0),(.slice none 0 0),(.slice none 0 0),(.slice none 0 0),(.slice none 0 0),(.bool false),(.bool false),(.bool false),(.int .i64 0),(.int .i64 0),(.slice none 0 0),(.slice none 0 0),(.slice none 0 0),(.slice none 0 0),(.int .i64 0),(.int .i64 0),(.int .i64 0),(.int .i64 0),(.int .i64 0)],E [(.pointer (some ⟨r2,0,none⟩)),(.tuple #[]),g v 0,(.int .i64 0),(.int .i64 0),(.int .i64 0),(.int .i64 0),(.tuple #[]),(.slice none 0 0),(.slice none 0 0),(.slice none 0 0),(.bool false),(.bool false),(.bool false),(.int .i64 0),(.int .i64 0),g v 0,(.int .i64 0),(.int .i64 0),(.int .i64 0),(.int .i64 0),(.tuple #[]),(.slice none 0 0),(.slice none 0 0),(.slice none 0 0),(.bool false),(.bool false),(.bool false),(.int .i64 0),(.int .i64 0),(.slice none 0 0),(.slice none 0 0),(.slice none 0 0),(.slice none 0 0),(.int .i64 0),(.int .i64 0),(.int .i64 0),(.int .i64 (-1)),(.int .i64 0)]])) (
 .chk (.eqN r2 r2) <|
 .chk (.eqN r1 r1) <|
 .chk (.eqN r1 r1) <|
 .ret (.tuple #[(.agg #[g l25 1,g v 0,(.int .i64 0),(.int .i64 0),(.int .i64 0),(.int .i64 0),g l25 2,(.slice none 0 0),(.slice none 0 0),(.slice none 0 0),(.bool false),(.bool false),(.bool false),(.int .i64 0),(.int .i64 0),g v 0,(.int .i64 0),(.int .i64 0),(.int .i64 0),(.int .i64 0),g l25 3,(.slice none 0 0),(.slice none 0 0),(.slice none 0 0),(.bool false),(.bool false),(.bool false),(.int .i64 0),(.int .i64 0),(.slice none 0 0),(.slice none 0 0),(.slice none 0 0),(.slice none 0 0),(.int .i64 0),(.int .i64 0),(.int .i64 0),(.int .i64 (-1)),(.int .i64 0)]),(.int .i64 0)]) [])))
theorem T_zeitnotref15_New_eq (vs : List Value) : sxFun PP Tryz.f25 (mkOpts okL [(81, [5, 6, 7, 8])] [(5, .unroll 3), (9, .inv [8] [0, 3, 4, 6, 7] [(3, []), (4, []), (6, [0, 6, 20])])] []) vs = T_zeitnotref15_New vs := by kernel_rfl
theorem run_zeitnotref15_New {args vs} (ha : entryArgs PP Tryz.f25 args = some vs) (ho : Ones vs) {H O Q} (h : (T_zeitnotref15_New vs).den PP Q H O) : Triple PP F_zeitnotref15_New args H O Q :=
 triple_run mixed (mkOpts_ok okL_ok _ _ _) Tryz.func25 T_zeitnotref15_New_eq ha ho h
abbrev F_zeitnotref15_Move : FuncId := 26
/- zeitnot/zeitnotref15.Move -/
def T_zeitnotref15_Move (v : List Value) : Tree :=
 .newbox fun r0 =>
 .newbox fun r1 =>
 .chk (.eqN r0 r0) <|
 .chk (.eqN r0 r0) <|
 .call false 28 [(.agg #[g v 0,g v 1,g v 2,g v 3,g v 4,g v 5,g v 6,g v 7,g v 8,g v 9,g v 10,g v 11,g v 12,g v 13,g v 14,g v 15,g v 16,g v 17,g v 18,g v 19,g v 20,g v 21,g v 22,g v 23,g v 24,g v 25,g v 26,g v 27,g v 28,g v 29,g v 30,g v 31,g v 32,g v 33,g v 34,g v 35,g v 36,g v 37]),g v 38] [] [] .one fun l0 _ =>
 .pure [] (.idx 12) [g v 0,g l0 0] fun v1 =>
 .load [] v1 12 fun l2 =>
 .call false 59 [(.agg #[g l2 0,g l2 1,g l2 2,g l2 3,g l2 4,g l2 5,g l2 6,g l2 7,g l2 8,g l2 9,g l2 10,g l2 11]),g v 39] [] [] (.agg 12) fun l3 _ =>
 .newbox fun r2 =>
 .chk (.eqN r2 r2) <|
 .chk (.eqN r0 r0) <|
 .chk (.eqN r2 r2) <|
 .chk (.eqN r2 r2) <|
 .call false 62 [(.agg #[g v 0,g v 1,g v 2,g v 3,g v 4,g v 5,g v 6,g v 7,g v 8,g v 9,g v 10,g v 11,g v 12,g v 13,g v 14,g v 15,g v 16,g v 17,g v 18,g v 19,g v 20,g v 21,g v 22,g v 23,g v 24,g v 25,g v 26,g v 27,g v 28,g v 29,g v 30,g v 31,g v 32,g v 33,g v 34,g v 35,g v 36,g v 37]),g v 38] [] [] (.agg 38) fun l4 _ =>
 .call false 61 [(.agg #[g l4 0,g l4 1,g l4 2,g l4 3,g l4 4,g l4 5,g l4 6,g l4 7,g l4 8,g l4 9,g l4 10,g l4 11,g l4 12,g l4 13,g l4 14,g l4 15,g l4 16,g l4 17,g l4 18,g l4 19,g l4 20,g l4 21,g l4 22,g l4 23,g l4 24,g l4 25,g l4 26,g l4 27,g l4 28,g l4 29,g l4 30,g l4 31,g l4 32,g l4 33,g l4 34,g l4 35,g l4 36,g l4 37]),(.agg #[g l3 0,g l3 1,g l3 2,g l3 3,g l3 4,g l3 5,g l3 6,g l3 7,g l3 8,g l3 9,g l3 10,g l3 11])] [] [] (.agg 38) fun l5 _ =>
 .call false 60 [(.agg #[g l5 0,g l5 1,g l5 2,g l5 3,g l5 4,g l5 5,g l5 6,g l5 7,g l5 8,g l5 9,g l5 10,g l5 11,g l5 12,g l5 13,g l5 14,g l5 15,g l5 16,g l5 17,g l5 18,g l5 19,g l5 20,g l5 21,g l5 22,g l5 23,g l5 24,g l5 25,g l5 26,g l5 27,g l5 28,g l5 29,g l5 30,g l5 31,g l5 32,g l5 33,g l5 34,g l5 35,g l5 36,g l5 37]),(.agg #[g l3 0,g l3 1,g l3 2,g l3 3,g l3 4,g l3 5,g l3 6,g l3 7,g l3 8,g l3 9,g l3 10,g l3 11]),g v 39] [] [] (.agg 38) fun l6 _ =>
 .chk (.eqN r1 r1) <|
 .chk (.eqN r1 r1) <|
 .ret (.agg #[g l6 0,g l6 1,g l6 2,g l6 3,g l6 4,g l6 5,g l6 6,g l6 7,g l6 8,g l6 9,g l6 10,g l6 11,g l6 12,g l6 13,g l6 14,g l6 15,g l6 16,g l6 17,g l6 18,g l6 19,g l6 20,g l6 21,g l6 22,g l6 23,g l6 24,g l6 25,g l6 26,g l6 27,g l6 28,g l6 29,g l6 30,g l6 31,g l6 32,g l6 33,g l6 34,g l6 35,g l6 36,g l6 37]) []
theorem T_zeitnotref15_Move_eq (vs : List Value) : sxFun PP Tryz.f26 (mkOpts okL [(81, [5, 6, 7, 8])] [] []) vs = T_zeitnotref15_Move vs := by kernel_rfl
theorem run_zeitnotref15_Move {args vs} (ha : entryArgs PP Tryz.f26 args = some vs) (ho : Ones vs) {H O Q} (h : (T_zeitnotref15_Move vs).den PP Q H O) : Triple PP F_zeitnotref15_Move args H O Q :=
 triple_run mixed (mkOpts_ok okL_ok _ _ _) Tryz.func26 T_zeitnotref15_Move_eq ha ho h
abbrev F_zeitnotref15_Index : FuncId := 28
/- zeitnot/zeitnotref15.Index -/
def T_zeitnotref15_Index (v : List Value) : Tree :=
 .newbox fun r0 =>
 .loop 3 2 [(.int .i64 0)] fun C3 l0 =>
 .chk (.eqN r0 r0) <|
 .pure [] .len [g v 0] fun v1 =>
 .pure [] (.bin .lss .int) [g l0 0,v1] fun v2 =>
 .br v2 (
 .chk (.eqN r0 r0) <|
 .pure [] (.idx 12) [g v 0,g l0 0] fun v3 =>
 .chk (.ptr [] v3) <|
 .load [] v3 1 fun l4 =>
 .pure [] (.bin .eql .int) [g l4 0,g v 38] fun v5 =>
 .br v5 (
 .ret (g l0 0) []) (
 .pure [] (.bin .add .int) [g l0 0,(.int .i64 1)] fun v6 =>
 .cont 3 C3 [v6] [E [g v 38],E [(.pointer (some ⟨r0,0,none⟩))],E [(.pointer (some ⟨r0,0,none⟩)),g v 0,g v 1,g v 2,g v 3,g v 4,g v 5,g v 6,g v 7,g v 8,g v 9,g v 10,g v 11,g v 12,g v 13,g v 14,g v 15,g v 16,g v 17,g v 18,g v 19,g v 20,g v 21,g v 22,g v 23,g v 24,g v 25,g v 26,g v 27,g v 28,g v 29,g v 30,g v 31,g v 32,g v 33,g v 34,g v 35,g v 36,g v 37]])) (
 .ret (.int .i64 (-1)) [])
theorem T_zeitnotref15_Index_eq (vs : List Value) : sxFun PP Tryz.f28 (mkOpts okL [(81, [5, 6, 7, 8])] [(2, .inv [5] [1, 2] [(2, [])])] []) vs = T_zeitnotref15_Index vs := by kernel_rfl
theorem run_zeitnotref15_Index {args vs} (ha : entryArgs PP Tryz.f28 args = some vs) (ho : Ones vs) {H O Q} (h : (T_zeitnotref15_Index vs).den PP Q H O) : Triple PP F_zeitnotref15_Index args H O Q :=
 triple_run mixed (mkOpts_ok okL_ok _ _ _) Tryz.func28 T_zeitnotref15_Index_eq ha ho h
abbrev F_board_Valid : FuncId := 42
/- zeitnot/board.Valid -/
def T_board_Valid (v : List Value) : Tree :=
 .newbox fun r0 =>
 .chk (.eqN r0 r0) <|
 .call false 70 [g v 34,(.int .i64 0),(.int .i64 1)] [] [] .one fun l0 _ =>
 .pure [] .not [g l0 0] fun v1 =>
 .br v1 (
 .ret (.bool false) []) (
 .chk (.eqN r0 r0) <|
 .call false 70 [g v 33,(.int .i64 0),(.int .i64 1000)] [] [] .one fun l2 _ =>
 .pure [] .not [g l2 0] fun v3 =>
 .br v3 (
 .ret (.bool false) []) (
 .chk (.eqN r0 r0) <|
 .call false 70 [g v 35,(.int .i64 0),(.int .i64 10)] [] [] .one fun l4 _ =>
 .pure [] .not [g l4 0] fun v5 =>
 .br v5 (
 .ret (.bool false) []) (
 .chk (.eqN r0 r0) <|
 .call false 70 [g v 36,(.int .i64 (-1)),(.int .i64 1)] [] [] .one fun l6 _ =>
 .pure [] .not [g l6 0] fun v7 =>
 .br v7 (
 .ret (.bool false) []) (
 .chk (.eqN r0 r0) <|
 .call false 70 [g v 37,(.int .i64 0),(.int .i64 2)] [] [] .one fun l8 _ =>
 .pure [] .not [g l8 0] fun v9 =>
 .chk (.eqN r0 r0) <|
 .chk (.eqV v9 v9) <|
 .chk (.eqV v9 v9) <|
 .pure [] .len [g v 0] fun v10 =>
 .chk (.eqV v9 v9) <|
 .pure [] (.bin .gtr .int) [v10,(.int .i64 500)] fun v11 =>
 .chk (.eqV v9 v9) <|
 .pure [] .pick [v9,(.bool true),v11] fun v12 =>
 .chk (.eqN r0 r0) <|
 .chk (.eqV v12 v12) <|
 .chk (.eqV v12 v12) <|
 .pure [] .len [g v 29] fun v13 =>
 .chk (.eqV v12 v12) <|
 .pure [] (.bin .gtr .int) [v13,(.int .i64 200)] fun v14 =>
 .chk (.eqV v12 v12) <|
 .pure [] .pick [v12,(.bool true),v14] fun v15 =>
 .chk (.eqN r0 r0) <|
 .chk (.eqV v15 v15) <|
 .chk (.eqV v15 v15) <|
 .pure [] .len [g v 30] fun v16 =>
 .chk (.eqV v15 v15) <|
 .pure [] (.bin .gtr .int) [v16,(.int .i64 200)] fun v17 =>
 .chk (.eqV v15 v15) <|
 .pure [] .pick [v15,(.bool true),v17] fun v18 =>
 .br v18 (
 .ret (.bool false) []) (
 .chk (.eqN r0 r0) <|
 .newbox fun r1 =>
 .chk (.eqN r1 r1) <|
 .chk (.eqN r1 r1) <|
 .call false 70 [g v 1,(.int .i64 0),(.int .i64 9999)] [] [] .one fun l19 _ =>
 .pure [] .not [g l19 0] fun v20 =>
 .br v20 (
 .ret (.bool false) []) (
 .chk (.eqN r1 r1) <|
 .call false 71 [(.agg #[g v 2,g v 3,g v 4,g v 5])] [] [] .one fun l21 _ =>
 .pure [] .not [g l21 0] fun v22 =>
 .br v22 (
 .ret (.bool false) []) (
 .chk (.eqN r1 r1) <|
 .call false 70 [g v 13,(.int .i64 0),(.int .i64 7)] [] [] .one fun l23 _ =>
 .pure [] .not [g l23 0] fun v24 =>
 .br v24 (
 .ret (.bool false) []) (
 .chk (.eqN r1 r1) <|
 .call false 70 [g v 14,(.int .i64 0),(.int .i64 255)] [] [] .one fun l25 _ =>
 .pure [] .not [g l25 0] fun v26 =>
 .br v26 (
 .ret (.bool false) []) (
 .newbox fun r2 =>
 .chk (.eqN r2 r2) <|
 .chk (.eqN r2 r2) <|
 .call false 70 [g v 15,(.int .i64 0),(.int .i64 9999)] [] [] .one fun l27 _ =>
 .pure [] .not [g l27 0] fun v28 =>
 .br v28 (
 .ret (.bool false) []) (
 .chk (.eqN r2 r2) <|
 .call false 71 [(.agg #[g v 16,g v 17,g v 18,g v 19])] [] [] .one fun l29 _ =>
 .pure [] .not [g l29 0] fun v30 =>
 .br v30 (
 .ret (.bool false) []) (
 .chk (.eqN r2 r2) <|
 .call false 70 [g v 27,(.int .i64 0),(.int .i64 7)] [] [] .one fun l31 _ =>
 .pure [] .not [g l31 0] fun v32 =>
 .br v32 (
 .ret (.bool false) []) (
 .chk (.eqN r2 r2) <|
 .call false 70 [g v 28,(.int .i64 0),(.int .i64 255)] [] [] .one fun l33 _ =>
 .pure [] .not [g l33 0] fun v34 =>
 .br v34 (
 .ret (.bool false) []) (
 .chk (.eqN r0 r0) <|
 .call false 72 [g v 29,(.func (.func 73) #[] #[])] [] [] .one fun l35 _ =>
 .br (g l35 0) (
 .ret (.bool false) []) (
 .chk (.eqN r0 r0) <|
 .call false 72 [g v 30,(.func (.func 75) #[] #[])] [] [] .one fun l36 _ =>
 .pure [] .not [g l36 0] fun v37 =>
 .br v37 (
 .chk (.eqN r0 r0) <|
 .call false 76 [(.agg #[g v 0,g v 1,g v 2,g v 3,g v 4,g v 5,g v 6,g v 7,g v 8,g v 9,g v 10,g v 11,g v 12,g v 13,g v 14,g v 15,g v 16,g v 17,g v 18,g v 19,g v 20,g v 21,g v 22,g v 23,g v 24,g v 25,g v 26,g v 27,g v 28,g v 29,g v 30,g v 31,g v 32,g v 33,g v 34,g v 35,g v 36,g v 37])] [] [] .one fun l38 _ =>
 .br (g l38 0) (
 .chk (.eqN r0 r0) <|
 .call false 77 [(.agg #[g v 0,g v 1,g v 2,g v 3,g v 4,g v 5,g v 6,g v 7,g v 8,g v 9,g v 10,g v 11,g v 12,g v 13,g v 14,g v 15,g v 16,g v 17,g v 18,g v 19,g v 20,g v 21,g v 22,g v 23,g v 24,g v 25,g v 26,g v 27,g v 28,g v 29,g v 30,g v 31,g v 32,g v 33,g v 34,g v 35,g v 36,g v 37])] [] [] .one fun l39 _ =>
 .ret (g l39 0) []) (
 .ret (.bool false) [])) (
 .ret (.bool false) [])))))))))))))))
theorem T_board_Valid_eq (vs : List Value) : sxFun PP Tryz.f42 (mkOpts okL [(81, [5, 6, 7, 8])] [(4, .unroll 3)] []) vs = T_board_Valid vs := by kernel_rfl
theorem run_board_Valid {args vs} (ha : entryArgs PP Tryz.f42 args = some vs) (ho : Ones vs) {H O Q} (h : (T_board_Valid vs).den PP Q H O) : Triple PP F_board_Valid args H O Q :=
 triple_run mixed (mkOpts_ok okL_ok _ _ _) Tryz.func42 T_board_Valid_eq ha ho h
abbrev F_zeitnotref15_copied : FuncId := 47
/- zeitnot/zeitnotref15.copied -/
def T_zeitnotref15_copied (v : List Value) : Tree :=
 .loop 3 3 [(.slice none 0 0),(.int .i64 0)] fun C3 l0 =>
 .pure [] .len [g v 0] fun v1 =>
 .pure [] (.bin .lss .int) [g l0 1,v1] fun v2 =>
 .br v2 (
 .pure [] (.idx 5) [g v 0,g l0 1] fun v3 =>
 .load [] v3 5 fun l4 =>
 .newbox fun r0 =>
 .chk (.eqN r0 r0) <|
 .chk (.eqN r0 r0) <|
 .prim (.bi .append #[39,39] 39) [(.slice none 0 0),g l4 4] [] [] .one fun l5 _ =>
 .chk (.eqN r0 r0) <|
 .chk (.eqN r0 r0) <|
 .newbox fun r1 =>
 .prim (.bi .append #[30,30] 30) [g l0 0,(.slice (some ⟨r1,0,none⟩) 1 1)] [⟨r1,41,[g l4 0,g l4 1,g l4 2,g l4 3,g l5 0]⟩] [] .one fun l6 _ =>
 .pure [] (.bin .add .int) [g l0 1,(.int .i64 1)] fun v7 =>
 .cont 3 C3 [g l6 0,v7] [E [g v 0]]) (
 .ret (g l0 0) [])
theorem T_zeitnotref15_copied_eq (vs : List Value) : sxFun PP Tryz.f47 (mkOpts okL [(81, [5, 6, 7, 8])] [(3, .inv [3, 4] [0] [])] []) vs = T_zeitnotref15_copied vs := by kernel_rfl
theorem run_zeitnotref15_copied {args vs} (ha : entryArgs PP Tryz.f47 args = some vs) (ho : Ones vs) {H O Q} (h : (T_zeitnotref15_copied vs).den PP Q H O) : Triple PP F_zeitnotref15_copied args H O Q :=
 triple_run mixed (mkOpts_ok okL_ok _ _ _) Tryz.func47 T_zeitnotref15_copied_eq ha ho h
end Go.Proofs.YtieaihgbjikggaaGreat
