/- The trees of the functions of this seat: printed by a tool of mine; each by the kernel's reckoning equal to the evaluator's. -/
import Derived.Test.YtbaegnnmedjkmaaFw2
import Derived.Test.YtbaegnnmedjkmaaProg
import Derived.KernelRfl
namespace Go.Proofs.Ytbaegnnmedjkmaa
open Go Go.Sx
set_option maxRecDepth 100000
noncomputable abbrev PP : Program := Try.prog
theorem mixed : PP.follows .mixedOrders = true := by kernel_rfl
def okL : List Nat := [2, 3, 4, 5, 6, 7, 8, 9, 10, 11, 12, 13, 14, 15, 16, 17, 18, 19, 20, 21, 22, 23, 24, 25, 26, 27, 28, 29, 30, 31, 32, 33, 34, 35, 36, 37, 38, 39, 40, 41, 42, 43, 44, 45, 46, 47, 48, 49, 50, 51, 52, 53, 54, 55, 56, 57, 58, 59, 60, 61, 62, 63, 64, 65, 66, 67, 68, 69, 70, 71, 72, 73, 74, 75, 76, 77, 78, 79, 80, 81, 82, 83, 84, 85, 86, 87, 88, 89, 90, 91, 92, 93, 94, 95, 96, 97, 98, 99, 100, 101, 102, 103, 104]
theorem okL_ok : okL.all (okFnB PP) = true := by kernel_rfl
abbrev Ty_int : TypeId := 3
abbrev Ty_bool : TypeId := 4
abbrev Ty_api_Effect : TypeId := 53
abbrev Ty_api_Item : TypeId := 60
abbrev Ty_api_Target : TypeId := 62
abbrev Ty_api_Object : TypeId := 68
abbrev Ty_api_Trigger : TypeId := 76
abbrev Ty_api_Block : TypeId := 113
abbrev Ty_map_int_int : TypeId := 121
abbrev Ty_map_int_bool : TypeId := 127
/- zeitnot/zeitnotlaw16.TargetWaits: STUCK [902] -/

abbrev F_zeitnotlaw16_TargetMoves : FuncId := 5
/- zeitnot/zeitnotlaw16.TargetMoves -/
def T_zeitnotlaw16_TargetMoves (v : List Value) : Tree :=
 .newbox fun r0 =>
 .call false 7 [g v 0] [] [] .one fun l0 _ =>
 .pure [] .not [g l0 0] fun v1 =>
 .br v1 (
 .call false 9 [] [] [] .one fun l2 _ =>
 .ret (g l2 0) []) (
 .chk (.eqN r0 r0) <|
 .call false 8 [(.agg #[g v 1,g v 2,g v 3,g v 4,g v 5,g v 6,g v 7,g v 8,g v 9,g v 10,g v 11,g v 12,g v 13,g v 14,g v 15,g v 16,g v 17,g v 18,g v 19,g v 20,g v 21,g v 22,g v 23,g v 24,g v 25,g v 26,g v 27,g v 28,g v 29,g v 30,g v 31,g v 32,g v 33,g v 34,g v 35,g v 36,g v 37,g v 38])] [] [] .one fun l3 _ =>
 .pure [] .not [g l3 0] fun v4 =>
 .br v4 (
 .call false 9 [] [] [] .one fun l5 _ =>
 .ret (g l5 0) []) (
 .chk (.eqN r0 r0) <|
 .call false 17 [(.agg #[g v 1,g v 2,g v 3,g v 4,g v 5,g v 6,g v 7,g v 8,g v 9,g v 10,g v 11,g v 12,g v 13,g v 14,g v 15,g v 16,g v 17,g v 18,g v 19,g v 20,g v 21,g v 22,g v 23,g v 24,g v 25,g v 26,g v 27,g v 28,g v 29,g v 30,g v 31,g v 32,g v 33,g v 34,g v 35,g v 36,g v 37,g v 38])] [] [] .one fun l6 _ =>
 .pure [] .not [g l6 0] fun v7 =>
 .chk (.eqN r0 r0) <|
 .chk (.eqV v7 v7) <|
 .chk (.eqV v7 v7) <|
 .pure [] .len [g v 1] fun v8 =>
 .chk (.eqV v7 v7) <|
 .pure [] (.bin .eql .int) [v8,(.int .i64 0)] fun v9 =>
 .chk (.eqV v7 v7) <|
 .pure [] .pick [v7,(.bool true),v9] fun v10 =>
 .chk (.eqV v10 v10) <|
 .pure [] (.bin .lss .int) [g v 40,(.int .i64 0)] fun v11 =>
 .chk (.eqV v10 v10) <|
 .pure [] .pick [v10,(.bool true),v11] fun v12 =>
 .chk (.eqV v12 v12) <|
 .pure [] (.bin .gtr .int) [g v 40,(.int .i64 3)] fun v13 =>
 .chk (.eqV v12 v12) <|
 .pure [] .pick [v12,(.bool true),v13] fun v14 =>
 .br v14 (
 .call false 9 [] [] [] .one fun l15 _ =>
 .ret (g l15 0) []) (
 .chk (.eqN r0 r0) <|
 .pure [] (.conv .i64) [g v 39] fun v16 =>
 .chk (.eqN r0 r0) <|
 .pure [] .len [g v 1] fun v17 =>
 .pure [] (.bin .rem .int) [v16,v17] fun v18 =>
 .pure [] (.idx 12) [g v 1,v18] fun v19 =>
 .load [] v19 12 fun l20 =>
 .newbox fun r1 =>
 .chk (.eqN r1 r1) <|
 .chk (.eqN r0 r0) <|
 .chk (.eqN r1 r1) <|
 .call false 18 [(.agg #[g v 1,g v 2,g v 3,g v 4,g v 5,g v 6,g v 7,g v 8,g v 9,g v 10,g v 11,g v 12,g v 13,g v 14,g v 15,g v 16,g v 17,g v 18,g v 19,g v 20,g v 21,g v 22,g v 23,g v 24,g v 25,g v 26,g v 27,g v 28,g v 29,g v 30,g v 31,g v 32,g v 33,g v 34,g v 35,g v 36,g v 37,g v 38]),g l20 0,g v 40] [] [] (.agg 38) fun l21 _ =>
 .newbox fun r2 =>
 .chk (.eqN r2 r2) <|
 .chk (.eqN r1 r1) <|
 .newbox fun r3 =>
 .chk (.eqN r3 r3) <|
 .chk (.eqN r2 r2) <|
 .chk (.eqN r3 r3) <|
 .call false 19 [g v 0,(.agg #[g l21 0,g l21 1,g l21 2,g l21 3,g l21 4,g l21 5,g l21 6,g l21 7,g l21 8,g l21 9,g l21 10,g l21 11,g l21 12,g l21 13,g l21 14,g l21 15,g l21 16,g l21 17,g l21 18,g l21 19,g l21 20,g l21 21,g l21 22,g l21 23,g l21 24,g l21 25,g l21 26,g l21 27,g l21 28,g l21 29,g l21 30,g l21 31,g l21 32,g l21 33,g l21 34,g l21 35,g l21 36,g l21 37]),(.int .i64 0),(.int .i64 1),(.agg #[g l20 0,(.int .i64 0)])] [] [] .one fun l22 _ =>
 .pure [] (.bin .eql .int) [g v 40,(.int .i64 2)] fun v23 =>
 .br v23 (
 .chk (.eqN r1 r1) <|
 .call false 20 [g v 0,(.agg #[g l20 0,g l20 1,g l20 2,g l20 3,g l20 4,g l20 5,g l20 6,g l20 7,g l20 8,g l20 9,g l20 10,g l20 11])] [] [] .one fun l24 _ =>
 .pure [] (.bin .neq .bool) [g l22 0,g l24 0] fun v25 =>
 .br v25 (
 .ret (.bool false) []) (
 .chk (.eqN r2 r2) <|
 .chk (.eqN r3 r3) <|
 .call false 19 [g v 0,(.agg #[g l21 0,g l21 1,g l21 2,g l21 3,g l21 4,g l21 5,g l21 6,g l21 7,g l21 8,g l21 9,g l21 10,g l21 11,g l21 12,g l21 13,g l21 14,g l21 15,g l21 16,g l21 17,g l21 18,g l21 19,g l21 20,g l21 21,g l21 22,g l21 23,g l21 24,g l21 25,g l21 26,g l21 27,g l21 28,g l21 29,g l21 30,g l21 31,g l21 32,g l21 33,g l21 34,g l21 35,g l21 36,g l21 37]),(.int .i64 0),(.int .i64 6),(.agg #[g l20 0,(.int .i64 0)])] [] [] .one fun l26 _ =>
 .br (g l26 0) (
 .ret (.bool false) []) (
 .chk (.eqN r0 r0) <|
 .call false 16 [g v 0,(.agg #[g v 1,g v 2,g v 3,g v 4,g v 5,g v 6,g v 7,g v 8,g v 9,g v 10,g v 11,g v 12,g v 13,g v 14,g v 15,g v 16,g v 17,g v 18,g v 19,g v 20,g v 21,g v 22,g v 23,g v 24,g v 25,g v 26,g v 27,g v 28,g v 29,g v 30,g v 31,g v 32,g v 33,g v 34,g v 35,g v 36,g v 37,g v 38]),(.int .i64 0),(.int .i64 1)] [] [] .one fun l27 _ =>
 .loop 76 10 [(.int .i64 0)] fun C76 l28 =>
 .pure [] .len [g l27 0] fun v29 =>
 .pure [] (.bin .lss .int) [g l28 0,v29] fun v30 =>
 .br v30 (
 .pure [] (.idx 2) [g l27 0,g l28 0] fun v31 =>
 .load [] v31 2 fun l32 =>
 .chk (.eqN r3 r3) <|
 .raw [] (.eqv .neq 62 false) [(.agg #[g l32 0,g l32 1]),(.agg #[g l20 0,(.int .i64 0)])] fun v33 =>
 .br v33 (
 .chk (.eqN r2 r2) <|
 .pure [] (.idx 2) [g l27 0,g l28 0] fun v34 =>
 .load [] v34 2 fun l35 =>
 .call false 19 [g v 0,(.agg #[g l21 0,g l21 1,g l21 2,g l21 3,g l21 4,g l21 5,g l21 6,g l21 7,g l21 8,g l21 9,g l21 10,g l21 11,g l21 12,g l21 13,g l21 14,g l21 15,g l21 16,g l21 17,g l21 18,g l21 19,g l21 20,g l21 21,g l21 22,g l21 23,g l21 24,g l21 25,g l21 26,g l21 27,g l21 28,g l21 29,g l21 30,g l21 31,g l21 32,g l21 33,g l21 34,g l21 35,g l21 36,g l21 37]),(.int .i64 1),(.int .i64 1),(.agg #[g l35 0,g l35 1])] [] [] .one fun l36 _ =>
 .pure [] .not [g l36 0] fun v37 =>
 .br v37 (
 .ret (.bool false) []) (
 .pure [] (.bin .add .int) [g l28 0,(.int .i64 1)] fun v38 =>
 .cont 76 C76 [v38] [E [g v 0],E [(.pointer (some ⟨r2,0,none⟩))],E [(.pointer (some ⟨r3,0,none⟩))],E [g l27 0],E [(.pointer (some ⟨r2,0,none⟩)),g l21 0,g l21 1,g l21 2,g l21 3,g l21 4,g l21 5,g l21 6,g l21 7,g l21 8,g l21 9,g l21 10,g l21 11,g l21 12,g l21 13,g l21 14,g l21 15,g l21 16,g l21 17,g l21 18,g l21 19,g l21 20,g l21 21,g l21 22,g l21 23,g l21 24,g l21 25,g l21 26,g l21 27,g l21 28,g l21 29,g l21 30,g l21 31,g l21 32,g l21 33,g l21 34,g l21 35,g l21 36,g l21 37],E [(.pointer (some ⟨r3,0,none⟩)),g l20 0,(.int .i64 0)]])) (
 .pure [] (.bin .add .int) [g l28 0,(.int .i64 1)] fun v39 =>
 .cont 76 C76 [v39] [E [g v 0],E [(.pointer (some ⟨r2,0,none⟩))],E [(.pointer (some ⟨r3,0,none⟩))],E [g l27 0],E [(.pointer (some ⟨r2,0,none⟩)),g l21 0,g l21 1,g l21 2,g l21 3,g l21 4,g l21 5,g l21 6,g l21 7,g l21 8,g l21 9,g l21 10,g l21 11,g l21 12,g l21 13,g l21 14,g l21 15,g l21 16,g l21 17,g l21 18,g l21 19,g l21 20,g l21 21,g l21 22,g l21 23,g l21 24,g l21 25,g l21 26,g l21 27,g l21 28,g l21 29,g l21 30,g l21 31,g l21 32,g l21 33,g l21 34,g l21 35,g l21 36,g l21 37],E [(.pointer (some ⟨r3,0,none⟩)),g l20 0,(.int .i64 0)]])) (
 .chk (.eqN r2 r2) <|
 .call false 16 [g v 0,(.agg #[g l21 0,g l21 1,g l21 2,g l21 3,g l21 4,g l21 5,g l21 6,g l21 7,g l21 8,g l21 9,g l21 10,g l21 11,g l21 12,g l21 13,g l21 14,g l21 15,g l21 16,g l21 17,g l21 18,g l21 19,g l21 20,g l21 21,g l21 22,g l21 23,g l21 24,g l21 25,g l21 26,g l21 27,g l21 28,g l21 29,g l21 30,g l21 31,g l21 32,g l21 33,g l21 34,g l21 35,g l21 36,g l21 37]),(.int .i64 0),(.int .i64 1)] [] [] .one fun l40 _ =>
 .pure [] .len [g l40 0] fun v41 =>
 .pure [] .len [g l27 0] fun v42 =>
 .pure [] (.bin .add .int) [v42,(.int .i64 1)] fun v43 =>
 .pure [] (.bin .leq .int) [v41,v43] fun v44 =>
 .br v44 (
 .call false 9 [] [] [] .one fun l45 _ =>
 .ret (g l45 0) []) (
 .ret (.bool false) []))))) (
 .pure [] (.bin .neq .bool) [g l22 0,(.bool false)] fun v46 =>
 .br v46 (
 .ret (.bool false) []) (
 .chk (.eqN r2 r2) <|
 .chk (.eqN r3 r3) <|
 .call false 19 [g v 0,(.agg #[g l21 0,g l21 1,g l21 2,g l21 3,g l21 4,g l21 5,g l21 6,g l21 7,g l21 8,g l21 9,g l21 10,g l21 11,g l21 12,g l21 13,g l21 14,g l21 15,g l21 16,g l21 17,g l21 18,g l21 19,g l21 20,g l21 21,g l21 22,g l21 23,g l21 24,g l21 25,g l21 26,g l21 27,g l21 28,g l21 29,g l21 30,g l21 31,g l21 32,g l21 33,g l21 34,g l21 35,g l21 36,g l21 37]),(.int .i64 0),(.int .i64 6),(.agg #[g l20 0,(.int .i64 0)])] [] [] .one fun l47 _ =>
 .br (g l47 0) (
 .ret (.bool false) []) (
 .chk (.eqN r0 r0) <|
 .call false 16 [g v 0,(.agg #[g v 1,g v 2,g v 3,g v 4,g v 5,g v 6,g v 7,g v 8,g v 9,g v 10,g v 11,g v 12,g v 13,g v 14,g v 15,g v 16,g v 17,g v 18,g v 19,g v 20,g v 21,g v 22,g v 23,g v 24,g v 25,g v 26,g v 27,g v 28,g v 29,g v 30,g v 31,g v 32,g v 33,g v 34,g v 35,g v 36,g v 37,g v 38]),(.int .i64 0),(.int .i64 1)] [] [] .one fun l48 _ =>
 .loop 76 10 [(.int .i64 0)] fun C76 l49 =>
 .pure [] .len [g l48 0] fun v50 =>
 .pure [] (.bin .lss .int) [g l49 0,v50] fun v51 =>
 .br v51 (
 .pure [] (.idx 2) [g l48 0,g l49 0] fun v52 =>
 .load [] v52 2 fun l53 =>
 .chk (.eqN r3 r3) <|
 .raw [] (.eqv .neq 62 false) [(.agg #[g l53 0,g l53 1]),(.agg #[g l20 0,(.int .i64 0)])] fun v54 =>
 .br v54 (
 .chk (.eqN r2 r2) <|
 .pure [] (.idx 2) [g l48 0,g l49 0] fun v55 =>
 .load [] v55 2 fun l56 =>
 .call false 19 [g v 0,(.agg #[g l21 0,g l21 1,g l21 2,g l21 3,g l21 4,g l21 5,g l21 6,g l21 7,g l21 8,g l21 9,g l21 10,g l21 11,g l21 12,g l21 13,g l21 14,g l21 15,g l21 16,g l21 17,g l21 18,g l21 19,g l21 20,g l21 21,g l21 22,g l21 23,g l21 24,g l21 25,g l21 26,g l21 27,g l21 28,g l21 29,g l21 30,g l21 31,g l21 32,g l21 33,g l21 34,g l21 35,g l21 36,g l21 37]),(.int .i64 1),(.int .i64 1),(.agg #[g l56 0,g l56 1])] [] [] .one fun l57 _ =>
 .pure [] .not [g l57 0] fun v58 =>
 .br v58 (
 .ret (.bool false) []) (
 .pure [] (.bin .add .int) [g l49 0,(.int .i64 1)] fun v59 =>
 .cont 76 C76 [v59] [E [g v 0],E [(.pointer (some ⟨r2,0,none⟩))],E [(.pointer (some ⟨r3,0,none⟩))],E [g l48 0],E [(.pointer (some ⟨r2,0,none⟩)),g l21 0,g l21 1,g l21 2,g l21 3,g l21 4,g l21 5,g l21 6,g l21 7,g l21 8,g l21 9,g l21 10,g l21 11,g l21 12,g l21 13,g l21 14,g l21 15,g l21 16,g l21 17,g l21 18,g l21 19,g l21 20,g l21 21,g l21 22,g l21 23,g l21 24,g l21 25,g l21 26,g l21 27,g l21 28,g l21 29,g l21 30,g l21 31,g l21 32,g l21 33,g l21 34,g l21 35,g l21 36,g l21 37],E [(.pointer (some ⟨r3,0,none⟩)),g l20 0,(.int .i64 0)]])) (
 .pure [] (.bin .add .int) [g l49 0,(.int .i64 1)] fun v60 =>
 .cont 76 C76 [v60] [E [g v 0],E [(.pointer (some ⟨r2,0,none⟩))],E [(.pointer (some ⟨r3,0,none⟩))],E [g l48 0],E [(.pointer (some ⟨r2,0,none⟩)),g l21 0,g l21 1,g l21 2,g l21 3,g l21 4,g l21 5,g l21 6,g l21 7,g l21 8,g l21 9,g l21 10,g l21 11,g l21 12,g l21 13,g l21 14,g l21 15,g l21 16,g l21 17,g l21 18,g l21 19,g l21 20,g l21 21,g l21 22,g l21 23,g l21 24,g l21 25,g l21 26,g l21 27,g l21 28,g l21 29,g l21 30,g l21 31,g l21 32,g l21 33,g l21 34,g l21 35,g l21 36,g l21 37],E [(.pointer (some ⟨r3,0,none⟩)),g l20 0,(.int .i64 0)]])) (
 .chk (.eqN r2 r2) <|
 .call false 16 [g v 0,(.agg #[g l21 0,g l21 1,g l21 2,g l21 3,g l21 4,g l21 5,g l21 6,g l21 7,g l21 8,g l21 9,g l21 10,g l21 11,g l21 12,g l21 13,g l21 14,g l21 15,g l21 16,g l21 17,g l21 18,g l21 19,g l21 20,g l21 21,g l21 22,g l21 23,g l21 24,g l21 25,g l21 26,g l21 27,g l21 28,g l21 29,g l21 30,g l21 31,g l21 32,g l21 33,g l21 34,g l21 35,g l21 36,g l21 37]),(.int .i64 0),(.int .i64 1)] [] [] .one fun l61 _ =>
 .pure [] .len [g l61 0] fun v62 =>
 .pure [] .len [g l48 0] fun v63 =>
 .pure [] (.bin .add .int) [v63,(.int .i64 1)] fun v64 =>
 .pure [] (.bin .leq .int) [v62,v64] fun v65 =>
 .br v65 (
 .call false 9 [] [] [] .one fun l66 _ =>
 .ret (g l66 0) []) (
 .ret (.bool false) []))))))))
theorem T_zeitnotlaw16_TargetMoves_eq (vs : List Value) : sxFun PP Try.f5 (mkOpts okL [(73, [5, 6, 7, 8])] [(10, .inv [13] [0, 10, 11, 12] [(10, []), (11, [])])] []) vs = T_zeitnotlaw16_TargetMoves vs := by kernel_rfl
theorem run_zeitnotlaw16_TargetMoves {args vs} (ha : entryArgs PP Try.f5 args = some vs) (ho : Ones vs) {H O Q} (h : (T_zeitnotlaw16_TargetMoves vs).den PP Q H O) : Triple PP F_zeitnotlaw16_TargetMoves args H O Q :=
 triple_run mixed (mkOpts_ok okL_ok _ _ _) Try.func5 T_zeitnotlaw16_TargetMoves_eq ha ho h
abbrev F_zeitnotlaw16_light : FuncId := 7
/- zeitnot/zeitnotlaw16.light -/
def T_zeitnotlaw16_light (v : List Value) : Tree :=
 .loop 2 2 [(.int .i64 0)] fun C2 l0 =>
 .pure [] .len [g v 0] fun v1 =>
 .pure [] (.bin .lss .int) [g l0 0,v1] fun v2 =>
 .chk (.eqV v2 v2) <|
 .pure [] (.bin .lss .int) [g l0 0,(.int .i64 13)] fun v3 =>
 .chk (.eqV v2 v2) <|
 .pure [] .pick [v2,v3,(.bool false)] fun v4 =>
 .br v4 (
 .pure [] (.idx 14) [g v 0,g l0 0] fun v5 =>
 .chk (.ptr [] v5) <|
 .load [] (ptrAdd v5 11) 1 fun l6 =>
 .pure [] .len [g l6 0] fun v7 =>
 .pure [] (.bin .gtr .int) [v7,(.int .i64 5)] fun v8 =>
 .chk (.eqV v8 v8) <|
 .chk (.eqV v8 v8) <|
 .pure [(v8,false)] (.idx 14) [g v 0,g l0 0] fun v9 =>
 .chk (.ptr [(v8,false)] v9) <|
 .chk (.eqV v8 v8) <|
 .chk (.eqV v8 v8) <|
 .load [(v8,false)] (ptrAdd v9 12) 1 fun l10 =>
 .chk (.eqV v8 v8) <|
 .pure [] .len [g l10 0] fun v11 =>
 .chk (.eqV v8 v8) <|
 .pure [] (.bin .gtr .int) [v11,(.int .i64 3)] fun v12 =>
 .chk (.eqV v8 v8) <|
 .pure [] .pick [v8,(.bool true),v12] fun v13 =>
 .br v13 (
 .ret (.bool false) []) (
 .loop 28 7 [(.int .i64 0)] fun C28 l14 =>
 .pure [] (.idx 14) [g v 0,g l0 0] fun v15 =>
 .chk (.ptr [] v15) <|
 .load [] (ptrAdd v15 12) 1 fun l16 =>
 .pure [] .len [g l16 0] fun v17 =>
 .pure [] (.bin .lss .int) [g l14 0,v17] fun v18 =>
 .br v18 (
 .pure [] (.idx 14) [g v 0,g l0 0] fun v19 =>
 .chk (.ptr [] v19) <|
 .load [] (ptrAdd v19 12) 1 fun l20 =>
 .pure [] (.idx 2) [g l20 0,g l14 0] fun v21 =>
 .chk (.ptr [] v21) <|
 .load [] (ptrAdd v21 1) 1 fun l22 =>
 .pure [] .len [g l22 0] fun v23 =>
 .pure [] (.bin .gtr .int) [v23,(.int .i64 5)] fun v24 =>
 .br v24 (
 .ret (.bool false) []) (
 .pure [] (.bin .add .int) [g l14 0,(.int .i64 1)] fun v25 =>
 .cont 28 C28 [v25] [E [g v 0],E [g l0 0]])) (
 .pure [] (.bin .add .int) [g l0 0,(.int .i64 1)] fun v26 =>
 .cont 2 C2 [v26] [E [g v 0]]))) (
 .pure [] .len [g v 0] fun v27 =>
 .pure [] (.bin .leq .int) [v27,(.int .i64 12)] fun v28 =>
 .ret v28 [])
theorem T_zeitnotlaw16_light_eq (vs : List Value) : sxFun PP Try.f7 (mkOpts okL [(73, [5, 6, 7, 8])] [(2, .inv [3] [0] []), (7, .inv [4] [0, 3] [])] []) vs = T_zeitnotlaw16_light vs := by kernel_rfl
theorem run_zeitnotlaw16_light {args vs} (ha : entryArgs PP Try.f7 args = some vs) (ho : Ones vs) {H O Q} (h : (T_zeitnotlaw16_light vs).den PP Q H O) : Triple PP F_zeitnotlaw16_light args H O Q :=
 triple_run mixed (mkOpts_ok okL_ok _ _ _) Try.func7 T_zeitnotlaw16_light_eq ha ho h
abbrev F_zeitnotlaw16_small : FuncId := 8
/- zeitnot/zeitnotlaw16.small -/
def T_zeitnotlaw16_small (v : List Value) : Tree :=
 .newbox fun r0 =>
 .chk (.eqN r0 r0) <|
 .call false 21 [(.agg #[g v 1,g v 2,g v 3,g v 4,g v 5,g v 6,g v 7,g v 8,g v 9,g v 10,g v 11,g v 12,g v 13,g v 14])] [] [] (.agg 4) fun l0 _ =>
 .pure [] .len [g l0 0] fun v1 =>
 .pure [] (.bin .gtr .int) [v1,(.int .i64 40)] fun v2 =>
 .br v2 (
 .ret (.bool false) []) (
 .pure [] .len [g l0 1] fun v3 =>
 .pure [] (.bin .gtr .int) [v3,(.int .i64 40)] fun v4 =>
 .br v4 (
 .ret (.bool false) []) (
 .pure [] .len [g l0 2] fun v5 =>
 .pure [] (.bin .gtr .int) [v5,(.int .i64 40)] fun v6 =>
 .br v6 (
 .ret (.bool false) []) (
 .pure [] .len [g l0 3] fun v7 =>
 .pure [] (.bin .gtr .int) [v7,(.int .i64 40)] fun v8 =>
 .br v8 (
 .ret (.bool false) []) (
 .chk (.eqN r0 r0) <|
 .call false 21 [(.agg #[g v 15,g v 16,g v 17,g v 18,g v 19,g v 20,g v 21,g v 22,g v 23,g v 24,g v 25,g v 26,g v 27,g v 28])] [] [] (.agg 4) fun l9 _ =>
 .pure [] .len [g l9 0] fun v10 =>
 .pure [] (.bin .gtr .int) [v10,(.int .i64 40)] fun v11 =>
 .br v11 (
 .ret (.bool false) []) (
 .pure [] .len [g l9 1] fun v12 =>
 .pure [] (.bin .gtr .int) [v12,(.int .i64 40)] fun v13 =>
 .br v13 (
 .ret (.bool false) []) (
 .pure [] .len [g l9 2] fun v14 =>
 .pure [] (.bin .gtr .int) [v14,(.int .i64 40)] fun v15 =>
 .br v15 (
 .ret (.bool false) []) (
 .pure [] .len [g l9 3] fun v16 =>
 .pure [] (.bin .gtr .int) [v16,(.int .i64 40)] fun v17 =>
 .br v17 (
 .ret (.bool false) []) (
 .chk (.eqN r0 r0) <|
 .chk (.eqN r0 r0) <|
 .newbox fun r1 =>
 .chk (.eqN r1 r1) <|
 .pure [] .len [g v 29] fun v18 =>
 .pure [] (.bin .gtr .int) [v18,(.int .i64 20)] fun v19 =>
 .br v19 (
 .ret (.bool false) []) (
 .loop 108 16 [(.int .i64 0)] fun C108 l20 =>
 .pure [] .len [g v 29] fun v21 =>
 .pure [] (.bin .lss .int) [g l20 0,v21] fun v22 =>
 .br v22 (
 .pure [] (.idx 5) [g v 29,g l20 0] fun v23 =>
 .chk (.ptr [] v23) <|
 .load [] (ptrAdd v23 4) 1 fun l24 =>
 .pure [] .len [g l24 0] fun v25 =>
 .pure [] (.bin .gtr .int) [v25,(.int .i64 6)] fun v26 =>
 .br v26 (
 .ret (.bool false) []) (
 .pure [] (.bin .add .int) [g l20 0,(.int .i64 1)] fun v27 =>
 .cont 108 C108 [v27] [E [(.pointer (some ⟨r0,0,none⟩))],E [g v 29],E [(.slice (some ⟨r1,0,none⟩) 2 2)],E [(.int .i64 2)],E [(.int .i64 0)],E [(.pointer (some ⟨r0,0,none⟩)),g v 0,g v 1,g v 2,g v 3,g v 4,g v 5,g v 6,g v 7,g v 8,g v 9,g v 10,g v 11,g v 12,g v 13,g v 14,g v 15,g v 16,g v 17,g v 18,g v 19,g v 20,g v 21,g v 22,g v 23,g v 24,g v 25,g v 26,g v 27,g v 28,g v 29,g v 30,g v 31,g v 32,g v 33,g v 34,g v 35,g v 36,g v 37],E [(.pointer (some ⟨r1,0,none⟩)),g v 29,g v 30]])) (
 .chk (.eqN r1 r1) <|
 .pure [] .len [g v 30] fun v28 =>
 .pure [] (.bin .gtr .int) [v28,(.int .i64 20)] fun v29 =>
 .br v29 (
 .ret (.bool false) []) (
 .loop 123 16 [(.int .i64 0)] fun C123 l30 =>
 .pure [] .len [g v 30] fun v31 =>
 .pure [] (.bin .lss .int) [g l30 0,v31] fun v32 =>
 .br v32 (
 .pure [] (.idx 5) [g v 30,g l30 0] fun v33 =>
 .chk (.ptr [] v33) <|
 .load [] (ptrAdd v33 4) 1 fun l34 =>
 .pure [] .len [g l34 0] fun v35 =>
 .pure [] (.bin .gtr .int) [v35,(.int .i64 6)] fun v36 =>
 .br v36 (
 .ret (.bool false) []) (
 .pure [] (.bin .add .int) [g l30 0,(.int .i64 1)] fun v37 =>
 .cont 123 C123 [v37] [E [(.pointer (some ⟨r0,0,none⟩))],E [g v 30],E [(.slice (some ⟨r1,0,none⟩) 2 2)],E [(.int .i64 2)],E [(.int .i64 1)],E [(.pointer (some ⟨r0,0,none⟩)),g v 0,g v 1,g v 2,g v 3,g v 4,g v 5,g v 6,g v 7,g v 8,g v 9,g v 10,g v 11,g v 12,g v 13,g v 14,g v 15,g v 16,g v 17,g v 18,g v 19,g v 20,g v 21,g v 22,g v 23,g v 24,g v 25,g v 26,g v 27,g v 28,g v 29,g v 30,g v 31,g v 32,g v 33,g v 34,g v 35,g v 36,g v 37],E [(.pointer (some ⟨r1,0,none⟩)),g v 29,g v 30]])) (
 .chk (.eqN r0 r0) <|
 .pure [] .len [g v 0] fun v38 =>
 .pure [] (.bin .leq .int) [v38,(.int .i64 30)] fun v39 =>
 .chk (.eqN r0 r0) <|
 .chk (.eqV v39 v39) <|
 .chk (.eqV v39 v39) <|
 .pure [] .len [g v 31] fun v40 =>
 .chk (.eqV v39 v39) <|
 .pure [] (.bin .leq .int) [v40,(.int .i64 30)] fun v41 =>
 .chk (.eqV v39 v39) <|
 .pure [] .pick [v39,v41,(.bool false)] fun v42 =>
 .chk (.eqN r0 r0) <|
 .chk (.eqV v42 v42) <|
 .chk (.eqV v42 v42) <|
 .pure [] .len [g v 32] fun v43 =>
 .chk (.eqV v42 v42) <|
 .pure [] (.bin .leq .int) [v43,(.int .i64 30)] fun v44 =>
 .chk (.eqV v42 v42) <|
 .pure [] .pick [v42,v44,(.bool false)] fun v45 =>
 .ret v45 []))))))))))))
theorem T_zeitnotlaw16_small_eq (vs : List Value) : sxFun PP Try.f8 (mkOpts okL [(73, [5, 6, 7, 8])] [(2, .unroll 3), (5, .unroll 5), (11, .unroll 3), (16, .inv [8] [1, 7, 29, 30, 31] [(1, []), (29, [])])] []) vs = T_zeitnotlaw16_small vs := by kernel_rfl
theorem run_zeitnotlaw16_small {args vs} (ha : entryArgs PP Try.f8 args = some vs) (ho : Ones vs) {H O Q} (h : (T_zeitnotlaw16_small vs).den PP Q H O) : Triple PP F_zeitnotlaw16_small args H O Q :=
 triple_run mixed (mkOpts_ok okL_ok _ _ _) Try.func8 T_zeitnotlaw16_small_eq ha ho h
abbrev F_zeitnotlaw16_known : FuncId := 9
abbrev F_target_List : FuncId := 16
/- zeitnot/target.List -/
def T_target_List (v : List Value) : Tree :=
 .newbox fun r0 =>
 .pure [] (.bin .lss .int) [g v 39,(.int .i64 0)] fun v0 =>
 .chk (.eqV v0 v0) <|
 .pure [] (.bin .gtr .int) [g v 39,(.int .i64 1)] fun v1 =>
 .chk (.eqV v0 v0) <|
 .pure [] .pick [v0,(.bool true),v1] fun v2 =>
 .br v2 (
 .ret (.slice none 0 0) []) (
 .chk (.eqN r0 r0) <|
 .call false 26 [(.agg #[g v 1,g v 2,g v 3,g v 4,g v 5,g v 6,g v 7,g v 8,g v 9,g v 10,g v 11,g v 12,g v 13,g v 14,g v 15,g v 16,g v 17,g v 18,g v 19,g v 20,g v 21,g v 22,g v 23,g v 24,g v 25,g v 26,g v 27,g v 28,g v 29,g v 30,g v 31,g v 32,g v 33,g v 34,g v 35,g v 36,g v 37,g v 38])] [] [] .one fun l3 _ =>
 .pure [] .not [g l3 0] fun v4 =>
 .br v4 (
 .ret (.slice none 0 0) []) (
 .chk (.eqN r0 r0) <|
 .call false 29 [g v 0,(.agg #[g v 1,g v 2,g v 3,g v 4,g v 5,g v 6,g v 7,g v 8,g v 9,g v 10,g v 11,g v 12,g v 13,g v 14,g v 15,g v 16,g v 17,g v 18,g v 19,g v 20,g v 21,g v 22,g v 23,g v 24,g v 25,g v 26,g v 27,g v 28,g v 29,g v 30,g v 31,g v 32,g v 33,g v 34,g v 35,g v 36,g v 37,g v 38]),g v 39,g v 40] [] [] .one fun l5 _ =>
 .ret (g l5 0) []))
theorem T_target_List_eq (vs : List Value) : sxFun PP Try.f16 (mkOpts okL [(73, [5, 6, 7, 8])] [] []) vs = T_target_List vs := by kernel_rfl
theorem run_target_List {args vs} (ha : entryArgs PP Try.f16 args = some vs) (ho : Ones vs) {H O Q} (h : (T_target_List vs).den PP Q H O) : Triple PP F_target_List args H O Q :=
 triple_run mixed (mkOpts_ok okL_ok _ _ _) Try.func16 T_target_List_eq ha ho h
abbrev F_zeitnotref15_Valid : FuncId := 17
/- zeitnot/zeitnotref15.Valid -/
def T_zeitnotref15_Valid (v : List Value) : Tree :=
 .newbox fun r0 =>
 .chk (.eqN r0 r0) <|
 .pure [] (.bin .lss .int) [g v 34,(.int .i64 0)] fun v0 =>
 .chk (.eqN r0 r0) <|
 .chk (.eqV v0 v0) <|
 .chk (.eqV v0 v0) <|
 .pure [] (.bin .gtr .int) [g v 34,(.int .i64 1)] fun v1 =>
 .chk (.eqV v0 v0) <|
 .pure [] .pick [v0,(.bool true),v1] fun v2 =>
 .chk (.eqN r0 r0) <|
 .chk (.eqV v2 v2) <|
 .chk (.eqV v2 v2) <|
 .pure [] (.bin .lss .int) [g v 33,(.int .i64 0)] fun v3 =>
 .chk (.eqV v2 v2) <|
 .pure [] .pick [v2,(.bool true),v3] fun v4 =>
 .chk (.eqN r0 r0) <|
 .chk (.eqV v4 v4) <|
 .chk (.eqV v4 v4) <|
 .pure [] (.bin .gtr .int) [g v 33,(.int .i64 1000)] fun v5 =>
 .chk (.eqV v4 v4) <|
 .pure [] .pick [v4,(.bool true),v5] fun v6 =>
 .chk (.eqN r0 r0) <|
 .chk (.eqV v6 v6) <|
 .chk (.eqV v6 v6) <|
 .pure [] (.bin .lss .int) [g v 35,(.int .i64 0)] fun v7 =>
 .chk (.eqV v6 v6) <|
 .pure [] .pick [v6,(.bool true),v7] fun v8 =>
 .chk (.eqN r0 r0) <|
 .chk (.eqV v8 v8) <|
 .chk (.eqV v8 v8) <|
 .pure [] (.bin .gtr .int) [g v 35,(.int .i64 10)] fun v9 =>
 .chk (.eqV v8 v8) <|
 .pure [] .pick [v8,(.bool true),v9] fun v10 =>
 .chk (.eqN r0 r0) <|
 .chk (.eqV v10 v10) <|
 .chk (.eqV v10 v10) <|
 .pure [] (.bin .lss .int) [g v 36,(.int .i64 (-1))] fun v11 =>
 .chk (.eqV v10 v10) <|
 .pure [] .pick [v10,(.bool true),v11] fun v12 =>
 .chk (.eqN r0 r0) <|
 .chk (.eqV v12 v12) <|
 .chk (.eqV v12 v12) <|
 .pure [] (.bin .gtr .int) [g v 36,(.int .i64 1)] fun v13 =>
 .chk (.eqV v12 v12) <|
 .pure [] .pick [v12,(.bool true),v13] fun v14 =>
 .chk (.eqN r0 r0) <|
 .chk (.eqV v14 v14) <|
 .chk (.eqV v14 v14) <|
 .pure [] (.bin .lss .int) [g v 37,(.int .i64 0)] fun v15 =>
 .chk (.eqV v14 v14) <|
 .pure [] .pick [v14,(.bool true),v15] fun v16 =>
 .chk (.eqN r0 r0) <|
 .chk (.eqV v16 v16) <|
 .chk (.eqV v16 v16) <|
 .pure [] (.bin .gtr .int) [g v 37,(.int .i64 2)] fun v17 =>
 .chk (.eqV v16 v16) <|
 .pure [] .pick [v16,(.bool true),v17] fun v18 =>
 .chk (.eqN r0 r0) <|
 .chk (.eqV v18 v18) <|
 .chk (.eqV v18 v18) <|
 .pure [] .len [g v 0] fun v19 =>
 .chk (.eqV v18 v18) <|
 .pure [] (.bin .gtr .int) [v19,(.int .i64 500)] fun v20 =>
 .chk (.eqV v18 v18) <|
 .pure [] .pick [v18,(.bool true),v20] fun v21 =>
 .chk (.eqN r0 r0) <|
 .chk (.eqV v21 v21) <|
 .chk (.eqV v21 v21) <|
 .pure [] .len [g v 29] fun v22 =>
 .chk (.eqV v21 v21) <|
 .pure [] (.bin .gtr .int) [v22,(.int .i64 200)] fun v23 =>
 .chk (.eqV v21 v21) <|
 .pure [] .pick [v21,(.bool true),v23] fun v24 =>
 .chk (.eqN r0 r0) <|
 .chk (.eqV v24 v24) <|
 .chk (.eqV v24 v24) <|
 .pure [] .len [g v 30] fun v25 =>
 .chk (.eqV v24 v24) <|
 .pure [] (.bin .gtr .int) [v25,(.int .i64 200)] fun v26 =>
 .chk (.eqV v24 v24) <|
 .pure [] .pick [v24,(.bool true),v26] fun v27 =>
 .br v27 (
 .ret (.bool false) []) (
 .loop 69 4 [(.int .i64 0)] fun C69 l28 =>
 .chk (.eqN r0 r0) <|
 .pure [] .len [g v 29] fun v29 =>
 .pure [] (.bin .lss .int) [g l28 0,v29] fun v30 =>
 .br v30 (
 .chk (.eqN r0 r0) <|
 .pure [] (.idx 5) [g v 29,g l28 0] fun v31 =>
 .load [] v31 5 fun l32 =>
 .call false 31 [(.agg #[g l32 0,g l32 1,g l32 2,g l32 3,g l32 4]),(.bool false)] [] [] .one fun l33 _ =>
 .pure [] .not [g l33 0] fun v34 =>
 .br v34 (
 .ret (.bool false) []) (
 .pure [] (.bin .add .int) [g l28 0,(.int .i64 1)] fun v35 =>
 .cont 69 C69 [v35] [E [(.pointer (some ⟨r0,0,none⟩))],E [(.pointer (some ⟨r0,0,none⟩)),g v 0,g v 1,g v 2,g v 3,g v 4,g v 5,g v 6,g v 7,g v 8,g v 9,g v 10,g v 11,g v 12,g v 13,g v 14,g v 15,g v 16,g v 17,g v 18,g v 19,g v 20,g v 21,g v 22,g v 23,g v 24,g v 25,g v 26,g v 27,g v 28,g v 29,g v 30,g v 31,g v 32,g v 33,g v 34,g v 35,g v 36,g v 37]])) (
 .loop 76 9 [(.int .i64 0)] fun C76 l36 =>
 .chk (.eqN r0 r0) <|
 .pure [] .len [g v 30] fun v37 =>
 .pure [] (.bin .lss .int) [g l36 0,v37] fun v38 =>
 .br v38 (
 .chk (.eqN r0 r0) <|
 .pure [] (.idx 5) [g v 30,g l36 0] fun v39 =>
 .load [] v39 5 fun l40 =>
 .call false 31 [(.agg #[g l40 0,g l40 1,g l40 2,g l40 3,g l40 4]),(.bool true)] [] [] .one fun l41 _ =>
 .pure [] .not [g l41 0] fun v42 =>
 .br v42 (
 .ret (.bool false) []) (
 .pure [] (.bin .add .int) [g l36 0,(.int .i64 1)] fun v43 =>
 .cont 76 C76 [v43] [E [(.pointer (some ⟨r0,0,none⟩))],E [(.pointer (some ⟨r0,0,none⟩)),g v 0,g v 1,g v 2,g v 3,g v 4,g v 5,g v 6,g v 7,g v 8,g v 9,g v 10,g v 11,g v 12,g v 13,g v 14,g v 15,g v 16,g v 17,g v 18,g v 19,g v 20,g v 21,g v 22,g v 23,g v 24,g v 25,g v 26,g v 27,g v 28,g v 29,g v 30,g v 31,g v 32,g v 33,g v 34,g v 35,g v 36,g v 37]])) (
 .chk (.eqN r0 r0) <|
 .call false 32 [(.agg #[g v 1,g v 2,g v 3,g v 4,g v 5,g v 6,g v 7,g v 8,g v 9,g v 10,g v 11,g v 12,g v 13,g v 14])] [] [] .one fun l44 _ =>
 .br (g l44 0) (
 .chk (.eqN r0 r0) <|
 .call false 32 [(.agg #[g v 15,g v 16,g v 17,g v 18,g v 19,g v 20,g v 21,g v 22,g v 23,g v 24,g v 25,g v 26,g v 27,g v 28])] [] [] .one fun l45 _ =>
 .br (g l45 0) (
 .chk (.eqN r0 r0) <|
 .call false 33 [(.agg #[g v 0,g v 1,g v 2,g v 3,g v 4,g v 5,g v 6,g v 7,g v 8,g v 9,g v 10,g v 11,g v 12,g v 13,g v 14,g v 15,g v 16,g v 17,g v 18,g v 19,g v 20,g v 21,g v 22,g v 23,g v 24,g v 25,g v 26,g v 27,g v 28,g v 29,g v 30,g v 31,g v 32,g v 33,g v 34,g v 35,g v 36,g v 37])] [] [] .one fun l46 _ =>
 .br (g l46 0) (
 .chk (.eqN r0 r0) <|
 .call false 34 [(.agg #[g v 0,g v 1,g v 2,g v 3,g v 4,g v 5,g v 6,g v 7,g v 8,g v 9,g v 10,g v 11,g v 12,g v 13,g v 14,g v 15,g v 16,g v 17,g v 18,g v 19,g v 20,g v 21,g v 22,g v 23,g v 24,g v 25,g v 26,g v 27,g v 28,g v 29,g v 30,g v 31,g v 32,g v 33,g v 34,g v 35,g v 36,g v 37])] [] [] .one fun l47 _ =>
 .ret (g l47 0) []) (
 .ret (.bool false) [])) (
 .ret (.bool false) [])) (
 .ret (.bool false) []))))
theorem T_zeitnotref15_Valid_eq (vs : List Value) : sxFun PP Try.f17 (mkOpts okL [(73, [5, 6, 7, 8])] [(4, .inv [3] [1] [(1, [])]), (9, .inv [4] [1] [(1, [])])] []) vs = T_zeitnotref15_Valid vs := by kernel_rfl
theorem run_zeitnotref15_Valid {args vs} (ha : entryArgs PP Try.f17 args = some vs) (ho : Ones vs) {H O Q} (h : (T_zeitnotref15_Valid vs).den PP Q H O) : Triple PP F_zeitnotref15_Valid args H O Q :=
 triple_run mixed (mkOpts_ok okL_ok _ _ _) Try.func17 T_zeitnotref15_Valid_eq ha ho h
abbrev F_zeitnotref15_Move : FuncId := 18
/- zeitnot/zeitnotref15.Move -/
def T_zeitnotref15_Move (v : List Value) : Tree :=
 .newbox fun r0 =>
 .newbox fun r1 =>
 .chk (.eqN r0 r0) <|
 .chk (.eqN r0 r0) <|
 .call false 36 [(.agg #[g v 0,g v 1,g v 2,g v 3,g v 4,g v 5,g v 6,g v 7,g v 8,g v 9,g v 10,g v 11,g v 12,g v 13,g v 14,g v 15,g v 16,g v 17,g v 18,g v 19,g v 20,g v 21,g v 22,g v 23,g v 24,g v 25,g v 26,g v 27,g v 28,g v 29,g v 30,g v 31,g v 32,g v 33,g v 34,g v 35,g v 36,g v 37]),g v 38] [] [] .one fun l0 _ =>
 .pure [] (.idx 12) [g v 0,g l0 0] fun v1 =>
 .load [] v1 12 fun l2 =>
 .call false 35 [(.agg #[g l2 0,g l2 1,g l2 2,g l2 3,g l2 4,g l2 5,g l2 6,g l2 7,g l2 8,g l2 9,g l2 10,g l2 11]),g v 39] [] [] (.agg 12) fun l3 _ =>
 .newbox fun r2 =>
 .chk (.eqN r2 r2) <|
 .chk (.eqN r0 r0) <|
 .chk (.eqN r2 r2) <|
 .chk (.eqN r2 r2) <|
 .call false 39 [(.agg #[g v 0,g v 1,g v 2,g v 3,g v 4,g v 5,g v 6,g v 7,g v 8,g v 9,g v 10,g v 11,g v 12,g v 13,g v 14,g v 15,g v 16,g v 17,g v 18,g v 19,g v 20,g v 21,g v 22,g v 23,g v 24,g v 25,g v 26,g v 27,g v 28,g v 29,g v 30,g v 31,g v 32,g v 33,g v 34,g v 35,g v 36,g v 37]),g v 38] [] [] (.agg 38) fun l4 _ =>
 .call false 38 [(.agg #[g l4 0,g l4 1,g l4 2,g l4 3,g l4 4,g l4 5,g l4 6,g l4 7,g l4 8,g l4 9,g l4 10,g l4 11,g l4 12,g l4 13,g l4 14,g l4 15,g l4 16,g l4 17,g l4 18,g l4 19,g l4 20,g l4 21,g l4 22,g l4 23,g l4 24,g l4 25,g l4 26,g l4 27,g l4 28,g l4 29,g l4 30,g l4 31,g l4 32,g l4 33,g l4 34,g l4 35,g l4 36,g l4 37]),(.agg #[g l3 0,g l3 1,g l3 2,g l3 3,g l3 4,g l3 5,g l3 6,g l3 7,g l3 8,g l3 9,g l3 10,g l3 11])] [] [] (.agg 38) fun l5 _ =>
 .call false 37 [(.agg #[g l5 0,g l5 1,g l5 2,g l5 3,g l5 4,g l5 5,g l5 6,g l5 7,g l5 8,g l5 9,g l5 10,g l5 11,g l5 12,g l5 13,g l5 14,g l5 15,g l5 16,g l5 17,g l5 18,g l5 19,g l5 20,g l5 21,g l5 22,g l5 23,g l5 24,g l5 25,g l5 26,g l5 27,g l5 28,g l5 29,g l5 30,g l5 31,g l5 32,g l5 33,g l5 34,g l5 35,g l5 36,g l5 37]),(.agg #[g l3 0,g l3 1,g l3 2,g l3 3,g l3 4,g l3 5,g l3 6,g l3 7,g l3 8,g l3 9,g l3 10,g l3 11]),g v 39] [] [] (.agg 38) fun l6 _ =>
 .chk (.eqN r1 r1) <|
 .chk (.eqN r1 r1) <|
 .ret (.agg #[g l6 0,g l6 1,g l6 2,g l6 3,g l6 4,g l6 5,g l6 6,g l6 7,g l6 8,g l6 9,g l6 10,g l6 11,g l6 12,g l6 13,g l6 14,g l6 15,g l6 16,g l6 17,g l6 18,g l6 19,g l6 20,g l6 21,g l6 22,g l6 23,g l6 24,g l6 25,g l6 26,g l6 27,g l6 28,g l6 29,g l6 30,g l6 31,g l6 32,g l6 33,g l6 34,g l6 35,g l6 36,g l6 37]) []
theorem T_zeitnotref15_Move_eq (vs : List Value) : sxFun PP Try.f18 (mkOpts okL [(73, [5, 6, 7, 8])] [] []) vs = T_zeitnotref15_Move vs := by kernel_rfl
theorem run_zeitnotref15_Move {args vs} (ha : entryArgs PP Try.f18 args = some vs) (ho : Ones vs) {H O Q} (h : (T_zeitnotref15_Move vs).den PP Q H O) : Triple PP F_zeitnotref15_Move args H O Q :=
 triple_run mixed (mkOpts_ok okL_ok _ _ _) Try.func18 T_zeitnotref15_Move_eq ha ho h
abbrev F_target_Legal : FuncId := 19
/- zeitnot/target.Legal -/
def T_target_Legal (v : List Value) : Tree :=
 .newbox fun r0 =>
 .newbox fun r1 =>
 .chk (.eqN r0 r0) <|
 .chk (.eqN r1 r1) <|
 .call false 16 [g v 0,(.agg #[g v 1,g v 2,g v 3,g v 4,g v 5,g v 6,g v 7,g v 8,g v 9,g v 10,g v 11,g v 12,g v 13,g v 14,g v 15,g v 16,g v 17,g v 18,g v 19,g v 20,g v 21,g v 22,g v 23,g v 24,g v 25,g v 26,g v 27,g v 28,g v 29,g v 30,g v 31,g v 32,g v 33,g v 34,g v 35,g v 36,g v 37,g v 38]),g v 39,g v 40] [] [] .one fun l0 _ =>
 .call false 40 [g l0 0,(.agg #[g v 41,g v 42])] [] [] .one fun l1 _ =>
 .ret (g l1 0) []
theorem T_target_Legal_eq (vs : List Value) : sxFun PP Try.f19 (mkOpts okL [(73, [5, 6, 7, 8])] [] []) vs = T_target_Legal vs := by kernel_rfl
theorem run_target_Legal {args vs} (ha : entryArgs PP Try.f19 args = some vs) (ho : Ones vs) {H O Q} (h : (T_target_Legal vs).den PP Q H O) : Triple PP F_target_Legal args H O Q :=
 triple_run mixed (mkOpts_ok okL_ok _ _ _) Try.func19 T_target_Legal_eq ha ho h
abbrev F_zeitnotref14_Creature : FuncId := 20
/- zeitnot/zeitnotref14.Creature -/
def T_zeitnotref14_Creature (v : List Value) : Tree :=
 .newbox fun r0 =>
 .chk (.eqN r0 r0) <|
 .pure [] (.bin .eql .int) [g v 2,(.int .i64 (-1))] fun v0 =>
 .br v0 (
 .ret (.bool true) []) (
 .chk (.eqN r0 r0) <|
 .call false 41 [g v 0,(.agg #[g v 1,g v 2,g v 3,g v 4,g v 5,g v 6,g v 7,g v 8,g v 9,g v 10,g v 11,g v 12])] [] [] (.agg 14) fun l1 _ =>
 .pure [] (.bin .eql .int) [g l1 1,(.int .i64 2)] fun v2 =>
 .ret v2 [])
theorem T_zeitnotref14_Creature_eq (vs : List Value) : sxFun PP Try.f20 (mkOpts okL [(73, [5, 6, 7, 8])] [] []) vs = T_zeitnotref14_Creature vs := by kernel_rfl
theorem run_zeitnotref14_Creature {args vs} (ha : entryArgs PP Try.f20 args = some vs) (ho : Ones vs) {H O Q} (h : (T_zeitnotref14_Creature vs).den PP Q H O) : Triple PP F_zeitnotref14_Creature args H O Q :=
 triple_run mixed (mkOpts_ok okL_ok _ _ _) Try.func20 T_zeitnotref14_Creature_eq ha ho h
abbrev F_zeitnotref15_Zones : FuncId := 21
/- zeitnot/zeitnotref15.Zones -/
def T_zeitnotref15_Zones (v : List Value) : Tree :=
 .newbox fun r0 =>
 .newbox fun r1 =>
 .chk (.eqN r0 r0) <|
 .chk (.eqN r0 r0) <|
 .chk (.eqN r0 r0) <|
 .chk (.eqN r0 r0) <|
 .chk (.eqN r1 r1) <|
 .chk (.eqN r1 r1) <|
 .ret (.agg #[g v 5,g v 6,g v 7,g v 8]) []
theorem T_zeitnotref15_Zones_eq (vs : List Value) : sxFun PP Try.f21 (mkOpts okL [(73, [5, 6, 7, 8])] [] []) vs = T_zeitnotref15_Zones vs := by kernel_rfl
theorem run_zeitnotref15_Zones {args vs} (ha : entryArgs PP Try.f21 args = some vs) (ho : Ones vs) {H O Q} (h : (T_zeitnotref15_Zones vs).den PP Q H O) : Triple PP F_zeitnotref15_Zones args H O Q :=
 triple_run mixed (mkOpts_ok okL_ok _ _ _) Try.func21 T_zeitnotref15_Zones_eq ha ho h
abbrev F_zeitnotref15_Copy : FuncId := 25
/- zeitnot/zeitnotref15.Copy -/
def T_zeitnotref15_Copy (v : List Value) : Tree :=
 .newbox fun r0 =>
 .newbox fun r1 =>
 .chk (.eqN r0 r0) <|
 .prim (.bi .append #[23,23] 23) [(.slice none 0 0),g v 0] [] [] .one fun l0 _ =>
 .chk (.eqN r0 r0) <|
 .chk (.eqN r0 r0) <|
 .prim (.bi .append #[26,26] 26) [(.slice none 0 0),g v 6] [] [] .one fun l1 _ =>
 .chk (.eqN r0 r0) <|
 .chk (.eqN r0 r0) <|
 .prim (.bi .append #[26,26] 26) [(.slice none 0 0),g v 7] [] [] .one fun l2 _ =>
 .chk (.eqN r0 r0) <|
 .chk (.eqN r0 r0) <|
 .prim (.bi .append #[26,26] 26) [(.slice none 0 0),g v 8] [] [] .one fun l3 _ =>
 .chk (.eqN r0 r0) <|
 .chk (.eqN r0 r0) <|
 .prim (.bi .append #[26,26] 26) [(.slice none 0 0),g v 9] [] [] .one fun l4 _ =>
 .chk (.eqN r0 r0) <|
 .chk (.eqN r0 r0) <|
 .prim (.bi .append #[26,26] 26) [(.slice none 0 0),g v 20] [] [] .one fun l5 _ =>
 .chk (.eqN r0 r0) <|
 .chk (.eqN r0 r0) <|
 .prim (.bi .append #[26,26] 26) [(.slice none 0 0),g v 21] [] [] .one fun l6 _ =>
 .chk (.eqN r0 r0) <|
 .chk (.eqN r0 r0) <|
 .prim (.bi .append #[26,26] 26) [(.slice none 0 0),g v 22] [] [] .one fun l7 _ =>
 .chk (.eqN r0 r0) <|
 .chk (.eqN r0 r0) <|
 .prim (.bi .append #[26,26] 26) [(.slice none 0 0),g v 23] [] [] .one fun l8 _ =>
 .chk (.eqN r0 r0) <|
 .chk (.eqN r0 r0) <|
 .chk (.eqN r0 r0) <|
 .call false 42 [g v 29] [] [] .one fun l9 _ =>
 .call false 42 [g v 30] [] [] .one fun l10 _ =>
 .chk (.eqN r0 r0) <|
 .chk (.eqN r0 r0) <|
 .chk (.eqN r0 r0) <|
 .prim (.bi .append #[26,26] 26) [(.slice none 0 0),g v 31] [] [] .one fun l11 _ =>
 .chk (.eqN r0 r0) <|
 .chk (.eqN r0 r0) <|
 .prim (.bi .append #[31,31] 31) [(.slice none 0 0),g v 32] [] [] .one fun l12 _ =>
 .chk (.eqN r0 r0) <|
 .chk (.eqN r0 r0) <|
 .chk (.eqN r1 r1) <|
 .chk (.eqN r1 r1) <|
 .ret (.agg #[g l0 0,g v 1,g v 2,g v 3,g v 4,g v 5,g l1 0,g l2 0,g l3 0,g l4 0,g v 10,g v 11,g v 12,g v 13,g v 14,g v 15,g v 16,g v 17,g v 18,g v 19,g l5 0,g l6 0,g l7 0,g l8 0,g v 24,g v 25,g v 26,g v 27,g v 28,g l9 0,g l10 0,g l11 0,g l12 0,g v 33,g v 34,g v 35,g v 36,g v 37]) []
theorem T_zeitnotref15_Copy_eq (vs : List Value) : sxFun PP Try.f25 (mkOpts okL [(73, [5, 6, 7, 8])] [(3, .unroll 3)] []) vs = T_zeitnotref15_Copy vs := by kernel_rfl
theorem run_zeitnotref15_Copy {args vs} (ha : entryArgs PP Try.f25 args = some vs) (ho : Ones vs) {H O Q} (h : (T_zeitnotref15_Copy vs).den PP Q H O) : Triple PP F_zeitnotref15_Copy args H O Q :=
 triple_run mixed (mkOpts_ok okL_ok _ _ _) Try.func25 T_zeitnotref15_Copy_eq ha ho h
abbrev F_board_Valid : FuncId := 26
/- zeitnot/board.Valid -/
def T_board_Valid (v : List Value) : Tree :=
 .newbox fun r0 =>
 .chk (.eqN r0 r0) <|
 .call false 43 [g v 34,(.int .i64 0),(.int .i64 1)] [] [] .one fun l0 _ =>
 .pure [] .not [g l0 0] fun v1 =>
 .br v1 (
 .ret (.bool false) []) (
 .chk (.eqN r0 r0) <|
 .call false 43 [g v 33,(.int .i64 0),(.int .i64 1000)] [] [] .one fun l2 _ =>
 .pure [] .not [g l2 0] fun v3 =>
 .br v3 (
 .ret (.bool false) []) (
 .chk (.eqN r0 r0) <|
 .call false 43 [g v 35,(.int .i64 0),(.int .i64 10)] [] [] .one fun l4 _ =>
 .pure [] .not [g l4 0] fun v5 =>
 .br v5 (
 .ret (.bool false) []) (
 .chk (.eqN r0 r0) <|
 .call false 43 [g v 36,(.int .i64 (-1)),(.int .i64 1)] [] [] .one fun l6 _ =>
 .pure [] .not [g l6 0] fun v7 =>
 .br v7 (
 .ret (.bool false) []) (
 .chk (.eqN r0 r0) <|
 .call false 43 [g v 37,(.int .i64 0),(.int .i64 2)] [] [] .one fun l8 _ =>
 .pure [] .not [g l8 0] fun v9 =>
 .chk (.eqN r0 r0) <|
 .chk (.eqV v9 v9) <|
 .chk (.eqV v9 v9) <|
 .pure [] .len [g v 0] fun v10 =>
 .chk (.eqV v9 v9) <|
 .pure [] (.bin .gtr .int) [v10,(.int .i64 500)] fun v11 =>
 .chk (.eqV v9 v9) <|
 .pure [] .pick [v9,(.bool true),v11] fun v12 =>
 .chk (.eqN r0 r0) <|
 .chk (.eqV v12 v12) <|
 .chk (.eqV v12 v12) <|
 .pure [] .len [g v 29] fun v13 =>
 .chk (.eqV v12 v12) <|
 .pure [] (.bin .gtr .int) [v13,(.int .i64 200)] fun v14 =>
 .chk (.eqV v12 v12) <|
 .pure [] .pick [v12,(.bool true),v14] fun v15 =>
 .chk (.eqN r0 r0) <|
 .chk (.eqV v15 v15) <|
 .chk (.eqV v15 v15) <|
 .pure [] .len [g v 30] fun v16 =>
 .chk (.eqV v15 v15) <|
 .pure [] (.bin .gtr .int) [v16,(.int .i64 200)] fun v17 =>
 .chk (.eqV v15 v15) <|
 .pure [] .pick [v15,(.bool true),v17] fun v18 =>
 .br v18 (
 .ret (.bool false) []) (
 .chk (.eqN r0 r0) <|
 .newbox fun r1 =>
 .chk (.eqN r1 r1) <|
 .chk (.eqN r1 r1) <|
 .call false 43 [g v 1,(.int .i64 0),(.int .i64 9999)] [] [] .one fun l19 _ =>
 .pure [] .not [g l19 0] fun v20 =>
 .br v20 (
 .ret (.bool false) []) (
 .chk (.eqN r1 r1) <|
 .call false 44 [(.agg #[g v 2,g v 3,g v 4,g v 5])] [] [] .one fun l21 _ =>
 .pure [] .not [g l21 0] fun v22 =>
 .br v22 (
 .ret (.bool false) []) (
 .chk (.eqN r1 r1) <|
 .call false 43 [g v 13,(.int .i64 0),(.int .i64 7)] [] [] .one fun l23 _ =>
 .pure [] .not [g l23 0] fun v24 =>
 .br v24 (
 .ret (.bool false) []) (
 .chk (.eqN r1 r1) <|
 .call false 43 [g v 14,(.int .i64 0),(.int .i64 255)] [] [] .one fun l25 _ =>
 .pure [] .not [g l25 0] fun v26 =>
 .br v26 (
 .ret (.bool false) []) (
 .newbox fun r2 =>
 .chk (.eqN r2 r2) <|
 .chk (.eqN r2 r2) <|
 .call false 43 [g v 15,(.int .i64 0),(.int .i64 9999)] [] [] .one fun l27 _ =>
 .pure [] .not [g l27 0] fun v28 =>
 .br v28 (
 .ret (.bool false) []) (
 .chk (.eqN r2 r2) <|
 .call false 44 [(.agg #[g v 16,g v 17,g v 18,g v 19])] [] [] .one fun l29 _ =>
 .pure [] .not [g l29 0] fun v30 =>
 .br v30 (
 .ret (.bool false) []) (
 .chk (.eqN r2 r2) <|
 .call false 43 [g v 27,(.int .i64 0),(.int .i64 7)] [] [] .one fun l31 _ =>
 .pure [] .not [g l31 0] fun v32 =>
 .br v32 (
 .ret (.bool false) []) (
 .chk (.eqN r2 r2) <|
 .call false 43 [g v 28,(.int .i64 0),(.int .i64 255)] [] [] .one fun l33 _ =>
 .pure [] .not [g l33 0] fun v34 =>
 .br v34 (
 .ret (.bool false) []) (
 .chk (.eqN r0 r0) <|
 .call false 45 [g v 29,(.func (.func 46) #[] #[])] [] [] .one fun l35 _ =>
 .br (g l35 0) (
 .ret (.bool false) []) (
 .chk (.eqN r0 r0) <|
 .call false 45 [g v 30,(.func (.func 48) #[] #[])] [] [] .one fun l36 _ =>
 .pure [] .not [g l36 0] fun v37 =>
 .br v37 (
 .chk (.eqN r0 r0) <|
 .call false 49 [(.agg #[g v 0,g v 1,g v 2,g v 3,g v 4,g v 5,g v 6,g v 7,g v 8,g v 9,g v 10,g v 11,g v 12,g v 13,g v 14,g v 15,g v 16,g v 17,g v 18,g v 19,g v 20,g v 21,g v 22,g v 23,g v 24,g v 25,g v 26,g v 27,g v 28,g v 29,g v 30,g v 31,g v 32,g v 33,g v 34,g v 35,g v 36,g v 37])] [] [] .one fun l38 _ =>
 .br (g l38 0) (
 .chk (.eqN r0 r0) <|
 .call false 50 [(.agg #[g v 0,g v 1,g v 2,g v 3,g v 4,g v 5,g v 6,g v 7,g v 8,g v 9,g v 10,g v 11,g v 12,g v 13,g v 14,g v 15,g v 16,g v 17,g v 18,g v 19,g v 20,g v 21,g v 22,g v 23,g v 24,g v 25,g v 26,g v 27,g v 28,g v 29,g v 30,g v 31,g v 32,g v 33,g v 34,g v 35,g v 36,g v 37])] [] [] .one fun l39 _ =>
 .ret (g l39 0) []) (
 .ret (.bool false) [])) (
 .ret (.bool false) [])))))))))))))))
theorem T_board_Valid_eq (vs : List Value) : sxFun PP Try.f26 (mkOpts okL [(73, [5, 6, 7, 8])] [(4, .unroll 3)] []) vs = T_board_Valid vs := by kernel_rfl
theorem run_board_Valid {args vs} (ha : entryArgs PP Try.f26 args = some vs) (ho : Ones vs) {H O Q} (h : (T_board_Valid vs).den PP Q H O) : Triple PP F_board_Valid args H O Q :=
 triple_run mixed (mkOpts_ok okL_ok _ _ _) Try.func26 T_board_Valid_eq ha ho h
abbrev F_target_list : FuncId := 29
/- zeitnot/target.list -/
def T_target_list (v : List Value) : Tree :=
 .newbox fun r0 =>
 .pure [] (.bin .eql .int) [g v 40,(.int .i64 1)] fun v0 =>
 .br v0 (
 .chk (.eqN r0 r0) <|
 .chk (.eqN r0 r0) <|
 .call false 29 [g v 0,(.agg #[g v 1,g v 2,g v 3,g v 4,g v 5,g v 6,g v 7,g v 8,g v 9,g v 10,g v 11,g v 12,g v 13,g v 14,g v 15,g v 16,g v 17,g v 18,g v 19,g v 20,g v 21,g v 22,g v 23,g v 24,g v 25,g v 26,g v 27,g v 28,g v 29,g v 30,g v 31,g v 32,g v 33,g v 34,g v 35,g v 36,g v 37,g v 38]),g v 39,(.int .i64 2)] [] [] .one fun l1 _ =>
 .call false 29 [g v 0,(.agg #[g v 1,g v 2,g v 3,g v 4,g v 5,g v 6,g v 7,g v 8,g v 9,g v 10,g v 11,g v 12,g v 13,g v 14,g v 15,g v 16,g v 17,g v 18,g v 19,g v 20,g v 21,g v 22,g v 23,g v 24,g v 25,g v 26,g v 27,g v 28,g v 29,g v 30,g v 31,g v 32,g v 33,g v 34,g v 35,g v 36,g v 37,g v 38]),g v 39,(.int .i64 3)] [] [] .one fun l2 _ =>
 .prim (.bi .append #[58,58] 58) [g l1 0,g l2 0] [] [] .one fun l3 _ =>
 .call false 52 [g l3 0,(.func (.func 53) #[] #[])] [] [] (.tup []) fun l4 _ =>
 .ret (g l3 0) []) (
 .pure [] (.bin .eql .int) [g v 40,(.int .i64 3)] fun v5 =>
 .br v5 (
 .chk (.eqN r0 r0) <|
 .pure [] (.bin .sub .int) [(.int .i64 1),g v 39] fun v6 =>
 .call false 29 [g v 0,(.agg #[g v 1,g v 2,g v 3,g v 4,g v 5,g v 6,g v 7,g v 8,g v 9,g v 10,g v 11,g v 12,g v 13,g v 14,g v 15,g v 16,g v 17,g v 18,g v 19,g v 20,g v 21,g v 22,g v 23,g v 24,g v 25,g v 26,g v 27,g v 28,g v 29,g v 30,g v 31,g v 32,g v 33,g v 34,g v 35,g v 36,g v 37,g v 38]),v6,(.int .i64 2)] [] [] .one fun l7 _ =>
 .ret (g l7 0) []) (
 .pure [] (.bin .eql .int) [g v 40,(.int .i64 2)] fun v8 =>
 .br v8 (
 .chk (.eqN r0 r0) <|
 .call false 55 [g v 0,(.agg #[g v 1,g v 2,g v 3,g v 4,g v 5,g v 6,g v 7,g v 8,g v 9,g v 10,g v 11,g v 12,g v 13,g v 14,g v 15,g v 16,g v 17,g v 18,g v 19,g v 20,g v 21,g v 22,g v 23,g v 24,g v 25,g v 26,g v 27,g v 28,g v 29,g v 30,g v 31,g v 32,g v 33,g v 34,g v 35,g v 36,g v 37,g v 38]),g v 39] [] [] .one fun l9 _ =>
 .pure [] .len [g l9 0] fun v10 =>
 .loop 15 9 [(.slice none 0 0),(.int .i64 0)] fun C15 l11 =>
 .pure [] (.bin .lss .int) [g l11 1,v10] fun v12 =>
 .br v12 (
 .pure [] (.idx 1) [g l9 0,g l11 1] fun v13 =>
 .load [] v13 1 fun l14 =>
 .newbox fun r1 =>
 .prim (.bi .append #[58,58] 58) [g l11 0,(.slice (some ⟨r1,0,none⟩) 1 1)] [⟨r1,62,[g l14 0,(.int .i64 0)]⟩] [] .one fun l15 _ =>
 .pure [] (.bin .add .int) [g l11 1,(.int .i64 1)] fun v16 =>
 .cont 15 C15 [g l15 0,v16] [E [g l9 0],E [v10]]) (
 .ret (g l11 0) [])) (
 .pure [] (.bin .eql .int) [g v 40,(.int .i64 4)] fun v17 =>
 .br v17 (
 .pure [] (.bin .sub .int) [(.int .i64 1),g v 39] fun v18 =>
 .newbox fun r2 =>
 .ret (.slice (some ⟨r2,0,none⟩) 2 2) [⟨r2,62,[(.int .i64 0),v18,(.int .i64 0),g v 39]⟩]) (
 .pure [] (.bin .eql .int) [g v 40,(.int .i64 5)] fun v19 =>
 .br v19 (
 .chk (.eqN r0 r0) <|
 .chk (.eqN r0 r0) <|
 .call false 29 [g v 0,(.agg #[g v 1,g v 2,g v 3,g v 4,g v 5,g v 6,g v 7,g v 8,g v 9,g v 10,g v 11,g v 12,g v 13,g v 14,g v 15,g v 16,g v 17,g v 18,g v 19,g v 20,g v 21,g v 22,g v 23,g v 24,g v 25,g v 26,g v 27,g v 28,g v 29,g v 30,g v 31,g v 32,g v 33,g v 34,g v 35,g v 36,g v 37,g v 38]),g v 39,(.int .i64 4)] [] [] .one fun l20 _ =>
 .call false 29 [g v 0,(.agg #[g v 1,g v 2,g v 3,g v 4,g v 5,g v 6,g v 7,g v 8,g v 9,g v 10,g v 11,g v 12,g v 13,g v 14,g v 15,g v 16,g v 17,g v 18,g v 19,g v 20,g v 21,g v 22,g v 23,g v 24,g v 25,g v 26,g v 27,g v 28,g v 29,g v 30,g v 31,g v 32,g v 33,g v 34,g v 35,g v 36,g v 37,g v 38]),g v 39,(.int .i64 1)] [] [] .one fun l21 _ =>
 .prim (.bi .append #[58,58] 58) [g l20 0,g l21 0] [] [] .one fun l22 _ =>
 .ret (g l22 0) []) (
 .pure [] (.bin .eql .int) [g v 40,(.int .i64 6)] fun v23 =>
 .br v23 (
 .chk (.eqN r0 r0) <|
 .pure [] .len [g v 30] fun v24 =>
 .pure [] (.bin .sub .int) [v24,(.int .i64 1)] fun v25 =>
 .loop 20 19 [(.slice none 0 0),v25] fun C20 l26 =>
 .pure [] (.bin .geq .int) [g l26 1,(.int .i64 0)] fun v27 =>
 .br v27 (
 .chk (.eqN r0 r0) <|
 .pure [] (.idx 5) [g v 30,g l26 1] fun v28 =>
 .load [] v28 5 fun l29 =>
 .call false 56 [g v 0,(.agg #[g l29 0,g l29 1,g l29 2,g l29 3,g l29 4])] [] [] .one fun l30 _ =>
 .br (g l30 0) (
 .chk (.eqN r0 r0) <|
 .pure [] (.idx 5) [g v 30,g l26 1] fun v31 =>
 .chk (.ptr [] v31) <|
 .load [] (ptrAdd v31 1) 1 fun l32 =>
 .newbox fun r3 =>
 .prim (.bi .append #[58,58] 58) [g l26 0,(.slice (some ⟨r3,0,none⟩) 1 1)] [⟨r3,62,[g l32 0,(.int .i64 0)]⟩] [] .one fun l33 _ =>
 .pure [] (.bin .sub .int) [g l26 1,(.int .i64 1)] fun v34 =>
 .cont 20 C20 [g l33 0,v34] [E [g v 0],E [(.pointer (some ⟨r0,0,none⟩))],E [(.pointer (some ⟨r0,0,none⟩)),g v 1,g v 2,g v 3,g v 4,g v 5,g v 6,g v 7,g v 8,g v 9,g v 10,g v 11,g v 12,g v 13,g v 14,g v 15,g v 16,g v 17,g v 18,g v 19,g v 20,g v 21,g v 22,g v 23,g v 24,g v 25,g v 26,g v 27,g v 28,g v 29,g v 30,g v 31,g v 32,g v 33,g v 34,g v 35,g v 36,g v 37,g v 38]]) (
 .pure [] (.bin .sub .int) [g l26 1,(.int .i64 1)] fun v35 =>
 .cont 20 C20 [g l26 0,v35] [E [g v 0],E [(.pointer (some ⟨r0,0,none⟩))],E [(.pointer (some ⟨r0,0,none⟩)),g v 1,g v 2,g v 3,g v 4,g v 5,g v 6,g v 7,g v 8,g v 9,g v 10,g v 11,g v 12,g v 13,g v 14,g v 15,g v 16,g v 17,g v 18,g v 19,g v 20,g v 21,g v 22,g v 23,g v 24,g v 25,g v 26,g v 27,g v 28,g v 29,g v 30,g v 31,g v 32,g v 33,g v 34,g v 35,g v 36,g v 37,g v 38]])) (
 .ret (g l26 0) [])) (
 .ret (.slice none 0 0) []))))))
theorem T_target_list_eq (vs : List Value) : sxFun PP Try.f29 (mkOpts okL [(73, [5, 6, 7, 8])] [(19, .inv [8, 11] [0, 5] [(5, [])]), (9, .inv [8, 40] [38, 39] [])] []) vs = T_target_list vs := by kernel_rfl
theorem run_target_list {args vs} (ha : entryArgs PP Try.f29 args = some vs) (ho : Ones vs) {H O Q} (h : (T_target_list vs).den PP Q H O) : Triple PP F_target_list args H O Q :=
 triple_run mixed (mkOpts_ok okL_ok _ _ _) Try.func29 T_target_list_eq ha ho h
abbrev F_zeitnotref15_Item : FuncId := 31
/- zeitnot/zeitnotref15.Item -/
def T_zeitnotref15_Item (v : List Value) : Tree :=
 .newbox fun r0 =>
 .chk (.eqN r0 r0) <|
 .pure [] (.bin .lss .int) [g v 0,(.int .i64 0)] fun v0 =>
 .chk (.eqN r0 r0) <|
 .chk (.eqV v0 v0) <|
 .chk (.eqV v0 v0) <|
 .pure [] (.bin .gtr .int) [g v 0,(.int .i64 1)] fun v1 =>
 .chk (.eqV v0 v0) <|
 .pure [] .pick [v0,(.bool true),v1] fun v2 =>
 .chk (.eqN r0 r0) <|
 .chk (.eqV v2 v2) <|
 .chk (.eqV v2 v2) <|
 .pure [] (.bin .lss .int) [g v 1,(.int .i64 1)] fun v3 =>
 .chk (.eqV v2 v2) <|
 .pure [] .pick [v2,(.bool true),v3] fun v4 =>
 .chk (.eqN r0 r0) <|
 .chk (.eqV v4 v4) <|
 .chk (.eqV v4 v4) <|
 .pure [] (.bin .gtr .int) [g v 1,(.int .i64 500)] fun v5 =>
 .chk (.eqV v4 v4) <|
 .pure [] .pick [v4,(.bool true),v5] fun v6 =>
 .chk (.eqN r0 r0) <|
 .chk (.eqV v6 v6) <|
 .chk (.eqV v6 v6) <|
 .pure [] (.bin .lss .int) [g v 2,(.int .i64 0)] fun v7 =>
 .chk (.eqV v6 v6) <|
 .pure [] .pick [v6,(.bool true),v7] fun v8 =>
 .chk (.eqN r0 r0) <|
 .chk (.eqV v8 v8) <|
 .chk (.eqV v8 v8) <|
 .pure [] (.bin .gtr .int) [g v 2,(.int .i64 399)] fun v9 =>
 .chk (.eqV v8 v8) <|
 .pure [] .pick [v8,(.bool true),v9] fun v10 =>
 .chk (.eqN r0 r0) <|
 .chk (.eqV v10 v10) <|
 .chk (.eqV v10 v10) <|
 .pure [] (.bin .lss .int) [g v 3,(.int .i64 (-1))] fun v11 =>
 .chk (.eqV v10 v10) <|
 .pure [] .pick [v10,(.bool true),v11] fun v12 =>
 .chk (.eqN r0 r0) <|
 .chk (.eqV v12 v12) <|
 .chk (.eqV v12 v12) <|
 .pure [] (.bin .gtr .int) [g v 3,(.int .i64 1)] fun v13 =>
 .chk (.eqV v12 v12) <|
 .pure [] .pick [v12,(.bool true),v13] fun v14 =>
 .chk (.eqN r0 r0) <|
 .chk (.eqV v14 v14) <|
 .chk (.eqV v14 v14) <|
 .pure [] .len [g v 4] fun v15 =>
 .chk (.eqV v14 v14) <|
 .pure [] (.bin .gtr .int) [v15,(.int .i64 4)] fun v16 =>
 .chk (.eqV v14 v14) <|
 .pure [] .pick [v14,(.bool true),v16] fun v17 =>
 .br v17 (
 .ret (.bool false) []) (
 .chk (.eqN r0 r0) <|
 .pure [] (.bin .geq .int) [g v 3,(.int .i64 0)] fun v18 =>
 .chk (.eqN r0 r0) <|
 .chk (.eqV v18 v18) <|
 .chk (.eqV v18 v18) <|
 .pure [] .len [g v 4] fun v19 =>
 .chk (.eqV v18 v18) <|
 .pure [] (.bin .gtr .int) [v19,(.int .i64 0)] fun v20 =>
 .chk (.eqV v18 v18) <|
 .pure [] .pick [v18,v20,(.bool false)] fun v21 =>
 .chk (.eqV v21 v21) <|
 .chk (.eqN r0 r0) <|
 .chk (.eqV (g v 5) (g v 5)) <|
 .chk (.eqV v21 v21) <|
 .chk (.eqV (g v 5) (g v 5)) <|
 .chk (.eqV v21 v21) <|
 .pure [] (.bin .lss .int) [g v 3,(.int .i64 0)] fun v22 =>
 .chk (.eqV v21 v21) <|
 .chk (.eqV (g v 5) (g v 5)) <|
 .chk (.eqV v21 v21) <|
 .pure [] .pick [g v 5,v22,(.bool false)] fun v23 =>
 .chk (.eqV v21 v21) <|
 .pure [] .pick [v21,(.bool true),v23] fun v24 =>
 .br v24 (
 .ret (.bool false) []) (
 .loop 64 6 [(.int .i64 0)] fun C64 l25 =>
 .chk (.eqN r0 r0) <|
 .pure [] .len [g v 4] fun v26 =>
 .pure [] (.bin .lss .int) [g l25 0,v26] fun v27 =>
 .br v27 (
 .chk (.eqN r0 r0) <|
 .pure [] (.idx 2) [g v 4,g l25 0] fun v28 =>
 .load [] v28 2 fun l29 =>
 .newbox fun r1 =>
 .chk (.eqN r1 r1) <|
 .chk (.eqN r1 r1) <|
 .pure [] (.bin .lss .int) [g l29 0,(.int .i64 0)] fun v30 =>
 .chk (.eqN r1 r1) <|
 .chk (.eqV v30 v30) <|
 .chk (.eqV v30 v30) <|
 .pure [] (.bin .gtr .int) [g l29 0,(.int .i64 500)] fun v31 =>
 .chk (.eqV v30 v30) <|
 .pure [] .pick [v30,(.bool true),v31] fun v32 =>
 .chk (.eqN r1 r1) <|
 .chk (.eqV v32 v32) <|
 .chk (.eqV v32 v32) <|
 .pure [] (.bin .lss .int) [g l29 1,(.int .i64 0)] fun v33 =>
 .chk (.eqV v32 v32) <|
 .pure [] .pick [v32,(.bool true),v33] fun v34 =>
 .chk (.eqN r1 r1) <|
 .chk (.eqV v34 v34) <|
 .chk (.eqV v34 v34) <|
 .pure [] (.bin .gtr .int) [g l29 1,(.int .i64 1)] fun v35 =>
 .chk (.eqV v34 v34) <|
 .pure [] .pick [v34,(.bool true),v35] fun v36 =>
 .chk (.eqN r1 r1) <|
 .chk (.eqV v36 v36) <|
 .chk (.eqV v36 v36) <|
 .pure [] (.bin .gtr .int) [g l29 0,(.int .i64 0)] fun v37 =>
 .chk (.eqV v36 v36) <|
 .chk (.eqN r1 r1) <|
 .chk (.eqV v37 v37) <|
 .chk (.eqV v36 v36) <|
 .chk (.eqV v37 v37) <|
 .chk (.eqV v36 v36) <|
 .pure [] (.bin .neq .int) [g l29 1,(.int .i64 0)] fun v38 =>
 .chk (.eqV v36 v36) <|
 .chk (.eqV v37 v37) <|
 .chk (.eqV v36 v36) <|
 .pure [] .pick [v37,v38,(.bool false)] fun v39 =>
 .chk (.eqV v36 v36) <|
 .pure [] .pick [v36,(.bool true),v39] fun v40 =>
 .br v40 (
 .ret (.bool false) []) (
 .pure [] (.bin .add .int) [g l25 0,(.int .i64 1)] fun v41 =>
 .cont 64 C64 [v41] [E [(.pointer (some ⟨r0,0,none⟩))],E [(.pointer (some ⟨r0,0,none⟩)),g v 0,g v 1,g v 2,g v 3,g v 4]])) (
 .ret (.bool true) [])))
theorem T_zeitnotref15_Item_eq (vs : List Value) : sxFun PP Try.f31 (mkOpts okL [(73, [5, 6, 7, 8])] [(6, .inv [5] [2] [(2, [])])] []) vs = T_zeitnotref15_Item vs := by kernel_rfl
theorem run_zeitnotref15_Item {args vs} (ha : entryArgs PP Try.f31 args = some vs) (ho : Ones vs) {H O Q} (h : (T_zeitnotref15_Item vs).den PP Q H O) : Triple PP F_zeitnotref15_Item args H O Q :=
 triple_run mixed (mkOpts_ok okL_ok _ _ _) Try.func31 T_zeitnotref15_Item_eq ha ho h
abbrev F_zeitnotref15_seat : FuncId := 32
/- zeitnot/zeitnotref15.seat -/
def T_zeitnotref15_seat (v : List Value) : Tree :=
 .newbox fun r0 =>
 .chk (.eqN r0 r0) <|
 .pure [] (.bin .lss .int) [g v 1,(.int .i64 0)] fun v0 =>
 .chk (.eqV v0 v0) <|
 .pure [] (.bin .gtr .int) [g v 1,(.int .i64 99)] fun v1 =>
 .chk (.eqV v0 v0) <|
 .pure [] .pick [v0,(.bool true),v1] fun v2 =>
 .br v2 (
 .ret (.bool false) []) (
 .pure [] (.bin .lss .int) [g v 2,(.int .i64 0)] fun v3 =>
 .chk (.eqV v3 v3) <|
 .pure [] (.bin .gtr .int) [g v 2,(.int .i64 99)] fun v4 =>
 .chk (.eqV v3 v3) <|
 .pure [] .pick [v3,(.bool true),v4] fun v5 =>
 .br v5 (
 .ret (.bool false) []) (
 .pure [] (.bin .lss .int) [g v 3,(.int .i64 0)] fun v6 =>
 .chk (.eqV v6 v6) <|
 .pure [] (.bin .gtr .int) [g v 3,(.int .i64 99)] fun v7 =>
 .chk (.eqV v6 v6) <|
 .pure [] .pick [v6,(.bool true),v7] fun v8 =>
 .br v8 (
 .ret (.bool false) []) (
 .pure [] (.bin .lss .int) [g v 4,(.int .i64 0)] fun v9 =>
 .chk (.eqV v9 v9) <|
 .pure [] (.bin .gtr .int) [g v 4,(.int .i64 99)] fun v10 =>
 .chk (.eqV v9 v9) <|
 .pure [] .pick [v9,(.bool true),v10] fun v11 =>
 .br v11 (
 .ret (.bool false) []) (
 .chk (.eqN r0 r0) <|
 .pure [] (.bin .geq .int) [g v 0,(.int .i64 0)] fun v12 =>
 .chk (.eqN r0 r0) <|
 .chk (.eqV v12 v12) <|
 .chk (.eqV v12 v12) <|
 .pure [] (.bin .leq .int) [g v 0,(.int .i64 9999)] fun v13 =>
 .chk (.eqV v12 v12) <|
 .pure [] .pick [v12,v13,(.bool false)] fun v14 =>
 .chk (.eqN r0 r0) <|
 .chk (.eqV v14 v14) <|
 .chk (.eqV v14 v14) <|
 .pure [] (.bin .geq .int) [g v 12,(.int .i64 0)] fun v15 =>
 .chk (.eqV v14 v14) <|
 .pure [] .pick [v14,v15,(.bool false)] fun v16 =>
 .chk (.eqN r0 r0) <|
 .chk (.eqV v16 v16) <|
 .chk (.eqV v16 v16) <|
 .pure [] (.bin .leq .int) [g v 12,(.int .i64 7)] fun v17 =>
 .chk (.eqV v16 v16) <|
 .pure [] .pick [v16,v17,(.bool false)] fun v18 =>
 .chk (.eqN r0 r0) <|
 .chk (.eqV v18 v18) <|
 .chk (.eqV v18 v18) <|
 .pure [] (.bin .geq .int) [g v 13,(.int .i64 0)] fun v19 =>
 .chk (.eqV v18 v18) <|
 .pure [] .pick [v18,v19,(.bool false)] fun v20 =>
 .chk (.eqN r0 r0) <|
 .chk (.eqV v20 v20) <|
 .chk (.eqV v20 v20) <|
 .pure [] (.bin .leq .int) [g v 13,(.int .i64 255)] fun v21 =>
 .chk (.eqV v20 v20) <|
 .pure [] .pick [v20,v21,(.bool false)] fun v22 =>
 .ret v22 []))))
theorem T_zeitnotref15_seat_eq (vs : List Value) : sxFun PP Try.f32 (mkOpts okL [(73, [5, 6, 7, 8])] [(2, .unroll 5)] []) vs = T_zeitnotref15_seat vs := by kernel_rfl
theorem run_zeitnotref15_seat {args vs} (ha : entryArgs PP Try.f32 args = some vs) (ho : Ones vs) {H O Q} (h : (T_zeitnotref15_seat vs).den PP Q H O) : Triple PP F_zeitnotref15_seat args H O Q :=
 triple_run mixed (mkOpts_ok okL_ok _ _ _) Try.func32 T_zeitnotref15_seat_eq ha ho h
abbrev F_zeitnotref15_found : FuncId := 33
/- zeitnot/zeitnotref15.found -/
def T_zeitnotref15_found (v : List Value) : Tree :=
 .newbox fun r0 =>
 .chk (.eqN r0 r0) <|
 .call false 21 [(.agg #[g v 1,g v 2,g v 3,g v 4,g v 5,g v 6,g v 7,g v 8,g v 9,g v 10,g v 11,g v 12,g v 13,g v 14])] [] [] (.agg 4) fun l0 _ =>
 .pure [] .len [g l0 0] fun v1 =>
 .pure [] (.bin .add .int) [(.int .i64 0),v1] fun v2 =>
 .pure [] .len [g l0 1] fun v3 =>
 .pure [] (.bin .add .int) [v2,v3] fun v4 =>
 .pure [] .len [g l0 2] fun v5 =>
 .pure [] (.bin .add .int) [v4,v5] fun v6 =>
 .pure [] .len [g l0 3] fun v7 =>
 .pure [] (.bin .add .int) [v6,v7] fun v8 =>
 .chk (.eqN r0 r0) <|
 .call false 21 [(.agg #[g v 15,g v 16,g v 17,g v 18,g v 19,g v 20,g v 21,g v 22,g v 23,g v 24,g v 25,g v 26,g v 27,g v 28])] [] [] (.agg 4) fun l9 _ =>
 .pure [] .len [g l9 0] fun v10 =>
 .pure [] (.bin .add .int) [v8,v10] fun v11 =>
 .pure [] .len [g l9 1] fun v12 =>
 .pure [] (.bin .add .int) [v11,v12] fun v13 =>
 .pure [] .len [g l9 2] fun v14 =>
 .pure [] (.bin .add .int) [v13,v14] fun v15 =>
 .pure [] .len [g l9 3] fun v16 =>
 .pure [] (.bin .add .int) [v15,v16] fun v17 =>
 .loop 111 11 [v17,(.int .i64 0)] fun C111 l18 =>
 .chk (.eqN r0 r0) <|
 .pure [] .len [g v 29] fun v19 =>
 .pure [] (.bin .lss .int) [g l18 1,v19] fun v20 =>
 .br v20 (
 .chk (.eqN r0 r0) <|
 .pure [] (.idx 5) [g v 29,g l18 1] fun v21 =>
 .load [] v21 5 fun l22 =>
 .newbox fun r1 =>
 .chk (.eqN r1 r1) <|
 .chk (.eqN r1 r1) <|
 .pure [] (.bin .geq .int) [g l22 3,(.int .i64 0)] fun v23 =>
 .br v23 (
 .pure [] (.bin .add .int) [g l18 1,(.int .i64 1)] fun v24 =>
 .cont 111 C111 [g l18 0,v24] [E [(.pointer (some ⟨r0,0,none⟩))],E [(.pointer (some ⟨r0,0,none⟩)),g v 0,g v 1,g v 2,g v 3,g v 4,g v 5,g v 6,g v 7,g v 8,g v 9,g v 10,g v 11,g v 12,g v 13,g v 14,g v 15,g v 16,g v 17,g v 18,g v 19,g v 20,g v 21,g v 22,g v 23,g v 24,g v 25,g v 26,g v 27,g v 28,g v 29,g v 30,g v 31,g v 32,g v 33,g v 34,g v 35,g v 36,g v 37]]) (
 .pure [] (.bin .add .int) [g l18 0,(.int .i64 1)] fun v25 =>
 .chk (.eqN r0 r0) <|
 .chk (.eqN r1 r1) <|
 .call false 36 [(.agg #[g v 0,g v 1,g v 2,g v 3,g v 4,g v 5,g v 6,g v 7,g v 8,g v 9,g v 10,g v 11,g v 12,g v 13,g v 14,g v 15,g v 16,g v 17,g v 18,g v 19,g v 20,g v 21,g v 22,g v 23,g v 24,g v 25,g v 26,g v 27,g v 28,g v 29,g v 30,g v 31,g v 32,g v 33,g v 34,g v 35,g v 36,g v 37]),g l22 1] [] [] .one fun l26 _ =>
 .pure [] (.bin .lss .int) [g l26 0,(.int .i64 0)] fun v27 =>
 .chk (.eqN r0 r0) <|
 .chk (.eqV v27 v27) <|
 .chk (.eqV v27 v27) <|
 .chk (.eqV v27 v27) <|
 .pure [(v27,false)] (.idx 12) [g v 0,g l26 0] fun v28 =>
 .chk (.ptr [(v27,false)] v28) <|
 .chk (.eqV v27 v27) <|
 .chk (.eqV v27 v27) <|
 .load [(v27,false)] (ptrAdd v28 1) 1 fun l29 =>
 .chk (.eqN r1 r1) <|
 .chk (.eqV v27 v27) <|
 .chk (.eqV v27 v27) <|
 .chk (.eqV v27 v27) <|
 .pure [] (.bin .neq .int) [g l29 0,g l22 2] fun v30 =>
 .chk (.eqV v27 v27) <|
 .pure [] .pick [v27,(.bool true),v30] fun v31 =>
 .br v31 (
 .ret (.bool false) []) (
 .pure [] (.bin .add .int) [g l18 1,(.int .i64 1)] fun v32 =>
 .cont 111 C111 [v25,v32] [E [(.pointer (some ⟨r0,0,none⟩))],E [(.pointer (some ⟨r0,0,none⟩)),g v 0,g v 1,g v 2,g v 3,g v 4,g v 5,g v 6,g v 7,g v 8,g v 9,g v 10,g v 11,g v 12,g v 13,g v 14,g v 15,g v 16,g v 17,g v 18,g v 19,g v 20,g v 21,g v 22,g v 23,g v 24,g v 25,g v 26,g v 27,g v 28,g v 29,g v 30,g v 31,g v 32,g v 33,g v 34,g v 35,g v 36,g v 37]]))) (
 .loop 118 20 [(.int .i64 0)] fun C118 l33 =>
 .chk (.eqN r0 r0) <|
 .pure [] .len [g v 0] fun v34 =>
 .pure [] (.bin .lss .int) [g l33 0,v34] fun v35 =>
 .br v35 (
 .chk (.eqN r0 r0) <|
 .pure [] (.idx 12) [g v 0,g l33 0] fun v36 =>
 .load [] v36 12 fun l37 =>
 .newbox fun r2 =>
 .chk (.eqN r2 r2) <|
 .chk (.eqN r2 r2) <|
 .call false 61 [(.agg #[g l37 0,g l37 1,g l37 2,g l37 3,g l37 4,g l37 5,g l37 6,g l37 7,g l37 8,g l37 9,g l37 10,g l37 11])] [] [] .one fun l38 _ =>
 .pure [] .not [g l38 0] fun v39 =>
 .chk (.eqV v39 v39) <|
 .pure [] (.bin .gtr .int) [g l33 0,(.int .i64 0)] fun v40 =>
 .chk (.eqV v39 v39) <|
 .chk (.eqN r0 r0) <|
 .chk (.eqV v40 v40) <|
 .chk (.eqV v39 v39) <|
 .chk (.eqV v40 v40) <|
 .chk (.eqV v39 v39) <|
 .pure [] (.bin .sub .int) [g l33 0,(.int .i64 1)] fun v41 =>
 .chk (.eqV v40 v40) <|
 .chk (.eqV v39 v39) <|
 .chk (.eqV v40 v40) <|
 .chk (.eqV v39 v39) <|
 .pure [(v40,true),(v39,false)] (.idx 12) [g v 0,v41] fun v42 =>
 .chk (.ptr [(v40,true),(v39,false)] v42) <|
 .chk (.eqV v40 v40) <|
 .chk (.eqV v39 v39) <|
 .chk (.eqV v40 v40) <|
 .chk (.eqV v39 v39) <|
 .load [(v40,true),(v39,false)] v42 1 fun l43 =>
 .chk (.eqN r2 r2) <|
 .chk (.eqV v40 v40) <|
 .chk (.eqV v39 v39) <|
 .chk (.eqV v40 v40) <|
 .chk (.eqV v39 v39) <|
 .chk (.eqV v40 v40) <|
 .chk (.eqV v39 v39) <|
 .pure [] (.bin .geq .int) [g l43 0,g l37 0] fun v44 =>
 .chk (.eqV v39 v39) <|
 .chk (.eqV v40 v40) <|
 .chk (.eqV v39 v39) <|
 .pure [] .pick [v40,v44,(.bool false)] fun v45 =>
 .chk (.eqV v39 v39) <|
 .pure [] .pick [v39,(.bool true),v45] fun v46 =>
 .br v46 (
 .ret (.bool false) []) (
 .chk (.eqN r0 r0) <|
 .chk (.eqN r2 r2) <|
 .chk (.eqN r2 r2) <|
 .call false 62 [(.agg #[g v 0,g v 1,g v 2,g v 3,g v 4,g v 5,g v 6,g v 7,g v 8,g v 9,g v 10,g v 11,g v 12,g v 13,g v 14,g v 15,g v 16,g v 17,g v 18,g v 19,g v 20,g v 21,g v 22,g v 23,g v 24,g v 25,g v 26,g v 27,g v 28,g v 29,g v 30,g v 31,g v 32,g v 33,g v 34,g v 35,g v 36,g v 37]),g l37 2,g l37 0] [] [] .one fun l47 _ =>
 .pure [] (.bin .neq .int) [g l47 0,(.int .i64 1)] fun v48 =>
 .br v48 (
 .ret (.bool false) []) (
 .pure [] (.bin .add .int) [g l33 0,(.int .i64 1)] fun v49 =>
 .cont 118 C118 [v49] [E [(.pointer (some ⟨r0,0,none⟩))],E [g l18 0],E [(.pointer (some ⟨r0,0,none⟩)),g v 0,g v 1,g v 2,g v 3,g v 4,g v 5,g v 6,g v 7,g v 8,g v 9,g v 10,g v 11,g v 12,g v 13,g v 14,g v 15,g v 16,g v 17,g v 18,g v 19,g v 20,g v 21,g v 22,g v 23,g v 24,g v 25,g v 26,g v 27,g v 28,g v 29,g v 30,g v 31,g v 32,g v 33,g v 34,g v 35,g v 36,g v 37]]))) (
 .chk (.eqN r0 r0) <|
 .pure [] .len [g v 0] fun v50 =>
 .pure [] (.bin .eql .int) [g l18 0,v50] fun v51 =>
 .ret v51 []))
theorem T_zeitnotref15_found_eq (vs : List Value) : sxFun PP Try.f33 (mkOpts okL [(73, [5, 6, 7, 8])] [(3, .unroll 3), (6, .unroll 5), (11, .inv [3, 7] [1] [(1, [])]), (20, .inv [10] [1, 3] [(1, [])])] []) vs = T_zeitnotref15_found vs := by kernel_rfl
theorem run_zeitnotref15_found {args vs} (ha : entryArgs PP Try.f33 args = some vs) (ho : Ones vs) {H O Q} (h : (T_zeitnotref15_found vs).den PP Q H O) : Triple PP F_zeitnotref15_found args H O Q :=
 triple_run mixed (mkOpts_ok okL_ok _ _ _) Try.func33 T_zeitnotref15_found_eq ha ho h
abbrev F_zeitnotref15_fights : FuncId := 34
/- zeitnot/zeitnotref15.fights -/
def T_zeitnotref15_fights (v : List Value) : Tree :=
 .newbox fun r0 =>
 .loop 3 2 [(.int .i64 0)] fun C3 l0 =>
 .chk (.eqN r0 r0) <|
 .pure [] .len [g v 31] fun v1 =>
 .pure [] (.bin .lss .int) [g l0 0,v1] fun v2 =>
 .br v2 (
 .chk (.eqN r0 r0) <|
 .chk (.eqN r0 r0) <|
 .pure [] (.idx 1) [g v 31,g l0 0] fun v3 =>
 .load [] v3 1 fun l4 =>
 .call false 63 [g v 31,g l4 0] [] [] .one fun l5 _ =>
 .pure [] (.bin .neq .int) [g l5 0,(.int .i64 1)] fun v6 =>
 .br v6 (
 .ret (.bool false) []) (
 .chk (.eqN r0 r0) <|
 .sw (g v 34) 0 (
 .chk (.eqN r0 r0) <|
 .chk (.eqN r0 r0) <|
 .pure [] (.idx 1) [g v 31,g l0 0] fun v7 =>
 .load [] v7 1 fun l8 =>
 .call false 63 [g v 8,g l8 0] [] [] .one fun l9 _ =>
 .pure [] (.bin .neq .int) [g l9 0,(.int .i64 1)] fun v10 =>
 .br v10 (
 .ret (.bool false) []) (
 .pure [] (.bin .add .int) [g l0 0,(.int .i64 1)] fun v11 =>
 .cont 3 C3 [v11] [E [(.pointer (some ⟨r0,0,none⟩))],E [(.pointer (some ⟨r0,0,none⟩)),g v 0,g v 1,g v 2,g v 3,g v 4,g v 5,g v 6,g v 7,g v 8,g v 9,g v 10,g v 11,g v 12,g v 13,g v 14,g v 15,g v 16,g v 17,g v 18,g v 19,g v 20,g v 21,g v 22,g v 23,g v 24,g v 25,g v 26,g v 27,g v 28,g v 29,g v 30,g v 31,g v 32,g v 33,g v 34,g v 35,g v 36,g v 37]])) (
 .sw (g v 34) 1 (
 .chk (.eqN r0 r0) <|
 .chk (.eqN r0 r0) <|
 .pure [] (.idx 1) [g v 31,g l0 0] fun v12 =>
 .load [] v12 1 fun l13 =>
 .call false 63 [g v 22,g l13 0] [] [] .one fun l14 _ =>
 .pure [] (.bin .neq .int) [g l14 0,(.int .i64 1)] fun v15 =>
 .br v15 (
 .ret (.bool false) []) (
 .pure [] (.bin .add .int) [g l0 0,(.int .i64 1)] fun v16 =>
 .cont 3 C3 [v16] [E [(.pointer (some ⟨r0,0,none⟩))],E [(.pointer (some ⟨r0,0,none⟩)),g v 0,g v 1,g v 2,g v 3,g v 4,g v 5,g v 6,g v 7,g v 8,g v 9,g v 10,g v 11,g v 12,g v 13,g v 14,g v 15,g v 16,g v 17,g v 18,g v 19,g v 20,g v 21,g v 22,g v 23,g v 24,g v 25,g v 26,g v 27,g v 28,g v 29,g v 30,g v 31,g v 32,g v 33,g v 34,g v 35,g v 36,g v 37]])) (
 .stuck 901)))) (
 .loop 10 7 [(.int .i64 0)] fun C10 l17 =>
 .chk (.eqN r0 r0) <|
 .pure [] .len [g v 32] fun v18 =>
 .pure [] (.bin .lss .int) [g l17 0,v18] fun v19 =>
 .br v19 (
 .chk (.eqN r0 r0) <|
 .pure [] (.idx 2) [g v 32,g l17 0] fun v20 =>
 .load [] v20 2 fun l21 =>
 .newbox fun r1 =>
 .chk (.eqN r1 r1) <|
 .chk (.eqN r0 r0) <|
 .chk (.eqN r1 r1) <|
 .call false 63 [g v 31,g l21 1] [] [] .one fun l22 _ =>
 .pure [] (.bin .neq .int) [g l22 0,(.int .i64 1)] fun v23 =>
 .br v23 (
 .ret (.bool false) []) (
 .chk (.eqN r0 r0) <|
 .pure [] (.bin .sub .int) [(.int .i64 1),g v 34] fun v24 =>
 .sw v24 0 (
 .chk (.eqN r0 r0) <|
 .chk (.eqN r1 r1) <|
 .call false 63 [g v 8,g l21 0] [] [] .one fun l25 _ =>
 .pure [] (.bin .neq .int) [g l25 0,(.int .i64 1)] fun v26 =>
 .br v26 (
 .ret (.bool false) []) (
 .loop 43 13 [(.int .i64 0)] fun C43 l27 =>
 .pure [] (.bin .lss .int) [g l27 0,g l17 0] fun v28 =>
 .br v28 (
 .chk (.eqN r0 r0) <|
 .pure [] (.idx 2) [g v 32,g l27 0] fun v29 =>
 .chk (.ptr [] v29) <|
 .load [] (ptrAdd v29 1) 1 fun l30 =>
 .chk (.eqN r1 r1) <|
 .pure [] (.bin .eql .int) [g l30 0,g l21 1] fun v31 =>
 .chk (.eqN r0 r0) <|
 .chk (.eqV v31 v31) <|
 .chk (.eqV v31 v31) <|
 .chk (.eqV v31 v31) <|
 .pure [(v31,false)] (.idx 2) [g v 32,g l27 0] fun v32 =>
 .chk (.ptr [(v31,false)] v32) <|
 .chk (.eqV v31 v31) <|
 .chk (.eqV v31 v31) <|
 .load [(v31,false)] v32 1 fun l33 =>
 .chk (.eqN r1 r1) <|
 .chk (.eqV v31 v31) <|
 .chk (.eqV v31 v31) <|
 .chk (.eqV v31 v31) <|
 .pure [] (.bin .eql .int) [g l33 0,g l21 0] fun v34 =>
 .chk (.eqV v31 v31) <|
 .pure [] .pick [v31,(.bool true),v34] fun v35 =>
 .br v35 (
 .ret (.bool false) []) (
 .pure [] (.bin .add .int) [g l27 0,(.int .i64 1)] fun v36 =>
 .cont 43 C43 [v36] [E [(.pointer (some ⟨r0,0,none⟩))],E [g l17 0],E [(.pointer (some ⟨r1,0,none⟩))],E [(.pointer (some ⟨r0,0,none⟩)),g v 0,g v 1,g v 2,g v 3,g v 4,g v 5,g v 6,g v 7,g v 8,g v 9,g v 10,g v 11,g v 12,g v 13,g v 14,g v 15,g v 16,g v 17,g v 18,g v 19,g v 20,g v 21,g v 22,g v 23,g v 24,g v 25,g v 26,g v 27,g v 28,g v 29,g v 30,g v 31,g v 32,g v 33,g v 34,g v 35,g v 36,g v 37],E [(.pointer (some ⟨r1,0,none⟩)),g l21 0,g l21 1]])) (
 .pure [] (.bin .add .int) [g l17 0,(.int .i64 1)] fun v37 =>
 .cont 10 C10 [v37] [E [(.pointer (some ⟨r0,0,none⟩))],E [(.pointer (some ⟨r0,0,none⟩)),g v 0,g v 1,g v 2,g v 3,g v 4,g v 5,g v 6,g v 7,g v 8,g v 9,g v 10,g v 11,g v 12,g v 13,g v 14,g v 15,g v 16,g v 17,g v 18,g v 19,g v 20,g v 21,g v 22,g v 23,g v 24,g v 25,g v 26,g v 27,g v 28,g v 29,g v 30,g v 31,g v 32,g v 33,g v 34,g v 35,g v 36,g v 37]]))) (
 .sw v24 1 (
 .chk (.eqN r0 r0) <|
 .chk (.eqN r1 r1) <|
 .call false 63 [g v 22,g l21 0] [] [] .one fun l38 _ =>
 .pure [] (.bin .neq .int) [g l38 0,(.int .i64 1)] fun v39 =>
 .br v39 (
 .ret (.bool false) []) (
 .loop 43 13 [(.int .i64 0)] fun C43 l40 =>
 .pure [] (.bin .lss .int) [g l40 0,g l17 0] fun v41 =>
 .br v41 (
 .chk (.eqN r0 r0) <|
 .pure [] (.idx 2) [g v 32,g l40 0] fun v42 =>
 .chk (.ptr [] v42) <|
 .load [] (ptrAdd v42 1) 1 fun l43 =>
 .chk (.eqN r1 r1) <|
 .pure [] (.bin .eql .int) [g l43 0,g l21 1] fun v44 =>
 .chk (.eqN r0 r0) <|
 .chk (.eqV v44 v44) <|
 .chk (.eqV v44 v44) <|
 .chk (.eqV v44 v44) <|
 .pure [(v44,false)] (.idx 2) [g v 32,g l40 0] fun v45 =>
 .chk (.ptr [(v44,false)] v45) <|
 .chk (.eqV v44 v44) <|
 .chk (.eqV v44 v44) <|
 .load [(v44,false)] v45 1 fun l46 =>
 .chk (.eqN r1 r1) <|
 .chk (.eqV v44 v44) <|
 .chk (.eqV v44 v44) <|
 .chk (.eqV v44 v44) <|
 .pure [] (.bin .eql .int) [g l46 0,g l21 0] fun v47 =>
 .chk (.eqV v44 v44) <|
 .pure [] .pick [v44,(.bool true),v47] fun v48 =>
 .br v48 (
 .ret (.bool false) []) (
 .pure [] (.bin .add .int) [g l40 0,(.int .i64 1)] fun v49 =>
 .cont 43 C43 [v49] [E [(.pointer (some ⟨r0,0,none⟩))],E [g l17 0],E [(.pointer (some ⟨r1,0,none⟩))],E [(.pointer (some ⟨r0,0,none⟩)),g v 0,g v 1,g v 2,g v 3,g v 4,g v 5,g v 6,g v 7,g v 8,g v 9,g v 10,g v 11,g v 12,g v 13,g v 14,g v 15,g v 16,g v 17,g v 18,g v 19,g v 20,g v 21,g v 22,g v 23,g v 24,g v 25,g v 26,g v 27,g v 28,g v 29,g v 30,g v 31,g v 32,g v 33,g v 34,g v 35,g v 36,g v 37],E [(.pointer (some ⟨r1,0,none⟩)),g l21 0,g l21 1]])) (
 .pure [] (.bin .add .int) [g l17 0,(.int .i64 1)] fun v50 =>
 .cont 10 C10 [v50] [E [(.pointer (some ⟨r0,0,none⟩))],E [(.pointer (some ⟨r0,0,none⟩)),g v 0,g v 1,g v 2,g v 3,g v 4,g v 5,g v 6,g v 7,g v 8,g v 9,g v 10,g v 11,g v 12,g v 13,g v 14,g v 15,g v 16,g v 17,g v 18,g v 19,g v 20,g v 21,g v 22,g v 23,g v 24,g v 25,g v 26,g v 27,g v 28,g v 29,g v 30,g v 31,g v 32,g v 33,g v 34,g v 35,g v 36,g v 37]]))) (
 .stuck 901)))) (
 .ret (.bool true) []))
theorem T_zeitnotref15_fights_eq (vs : List Value) : sxFun PP Try.f34 (mkOpts okL [(73, [5, 6, 7, 8])] [(2, .inv [3] [1] [(1, [])]), (7, .inv [4] [1] [(1, [])]), (13, .inv [6] [1, 4, 5] [(1, []), (5, [])])] []) vs = T_zeitnotref15_fights vs := by kernel_rfl
theorem run_zeitnotref15_fights {args vs} (ha : entryArgs PP Try.f34 args = some vs) (ho : Ones vs) {H O Q} (h : (T_zeitnotref15_fights vs).den PP Q H O) : Triple PP F_zeitnotref15_fights args H O Q :=
 triple_run mixed (mkOpts_ok okL_ok _ _ _) Try.func34 T_zeitnotref15_fights_eq ha ho h
abbrev F_zeitnotref14_Reset : FuncId := 35
/- zeitnot/zeitnotref14.Reset -/
def T_zeitnotref14_Reset (v : List Value) : Tree :=
 .newbox fun r0 =>
 .newbox fun r1 =>
 .chk (.eqN r0 r0) <|
 .call false 64 [(.agg #[g v 0,g v 1,g v 2,g v 3,g v 4,g v 5,g v 6,g v 7,g v 8,g v 9,g v 10,g v 11])] [] [] (.agg 12) fun l0 _ =>
 .chk (.eqN r0 r0) <|
 .pure [] (.bin .eql .int) [g v 12,(.int .i64 2)] fun v1 =>
 .chk (.eqN r0 r0) <|
 .chk (.eqN r0 r0) <|
 .chk (.eqN r0 r0) <|
 .chk (.eqN r0 r0) <|
 .chk (.eqN r0 r0) <|
 .chk (.eqN r1 r1) <|
 .chk (.eqN r1 r1) <|
 .ret (.agg #[g l0 0,g l0 1,g l0 2,g l0 3,g l0 4,g l0 5,(.int .i64 0),g l0 7,g l0 8,(.bool false),v1,(.bool false)]) []
theorem T_zeitnotref14_Reset_eq (vs : List Value) : sxFun PP Try.f35 (mkOpts okL [(73, [5, 6, 7, 8])] [] []) vs = T_zeitnotref14_Reset vs := by kernel_rfl
theorem run_zeitnotref14_Reset {args vs} (ha : entryArgs PP Try.f35 args = some vs) (ho : Ones vs) {H O Q} (h : (T_zeitnotref14_Reset vs).den PP Q H O) : Triple PP F_zeitnotref14_Reset args H O Q :=
 triple_run mixed (mkOpts_ok okL_ok _ _ _) Try.func35 T_zeitnotref14_Reset_eq ha ho h
abbrev F_zeitnotref15_Index : FuncId := 36
/- zeitnot/zeitnotref15.Index -/
def T_zeitnotref15_Index (v : List Value) : Tree :=
 .newbox fun r0 =>
 .loop 3 2 [(.int .i64 0)] fun C3 l0 =>
 .chk (.eqN r0 r0) <|
 .pure [] .len [g v 0] fun v1 =>
 .pure [] (.bin .lss .int) [g l0 0,v1] fun v2 =>
 .br v2 (
 .chk (.eqN r0 r0) <|
 .pure [] (.idx 12) [g v 0,g l0 0] fun v3 =>
 .chk (.ptr [] v3) <|
 .load [] v3 1 fun l4 =>
 .pure [] (.bin .eql .int) [g l4 0,g v 38] fun v5 =>
 .br v5 (
 .ret (g l0 0) []) (
 .pure [] (.bin .add .int) [g l0 0,(.int .i64 1)] fun v6 =>
 .cont 3 C3 [v6] [E [g v 38],E [(.pointer (some ⟨r0,0,none⟩))],E [(.pointer (some ⟨r0,0,none⟩)),g v 0,g v 1,g v 2,g v 3,g v 4,g v 5,g v 6,g v 7,g v 8,g v 9,g v 10,g v 11,g v 12,g v 13,g v 14,g v 15,g v 16,g v 17,g v 18,g v 19,g v 20,g v 21,g v 22,g v 23,g v 24,g v 25,g v 26,g v 27,g v 28,g v 29,g v 30,g v 31,g v 32,g v 33,g v 34,g v 35,g v 36,g v 37]])) (
 .ret (.int .i64 (-1)) [])
theorem T_zeitnotref15_Index_eq (vs : List Value) : sxFun PP Try.f36 (mkOpts okL [(73, [5, 6, 7, 8])] [(2, .inv [5] [1, 2] [(2, [])])] []) vs = T_zeitnotref15_Index vs := by kernel_rfl
theorem run_zeitnotref15_Index {args vs} (ha : entryArgs PP Try.f36 args = some vs) (ho : Ones vs) {H O Q} (h : (T_zeitnotref15_Index vs).den PP Q H O) : Triple PP F_zeitnotref15_Index args H O Q :=
 triple_run mixed (mkOpts_ok okL_ok _ _ _) Try.func36 T_zeitnotref15_Index_eq ha ho h
abbrev F_zeitnotref15_Put : FuncId := 37
/- zeitnot/zeitnotref15.Put -/
def T_zeitnotref15_Put (v : List Value) : Tree :=
 .newbox fun r0 =>
 .newbox fun r1 =>
 .newbox fun r2 =>
 .chk (.eqN r1 r1) <|
 .sw (g v 40) 0 (
 .pure [] (.bin .eql .int) [g v 50,(.int .i64 0)] fun v0 =>
 .br v0 (
 .chk (.eqN r0 r0) <|
 .chk (.eqN r1 r1) <|
 .prim (.bi .append #[26,26] 26) [(.slice none 0 0),g v 6] [] [] .one fun l1 _ =>
 .newbox fun r3 =>
 .prim (.bi .append #[26,26] 26) [g l1 0,(.slice (some ⟨r3,0,none⟩) 1 1)] [⟨r3,3,[g v 38]⟩] [] .one fun l2 _ =>
 .chk (.eqN r0 r0) <|
 .chk (.eqN r0 r0) <|
 .chk (.eqN r2 r2) <|
 .chk (.eqN r2 r2) <|
 .ret (.agg #[g v 0,g v 1,g v 2,g v 3,g v 4,g v 5,g l2 0,g v 7,g v 8,g v 9,g v 10,g v 11,g v 12,g v 13,g v 14,g v 15,g v 16,g v 17,g v 18,g v 19,g v 20,g v 21,g v 22,g v 23,g v 24,g v 25,g v 26,g v 27,g v 28,g v 29,g v 30,g v 31,g v 32,g v 33,g v 34,g v 35,g v 36,g v 37]) []) (
 .pure [] (.bin .eql .int) [g v 50,(.int .i64 1)] fun v3 =>
 .br v3 (
 .chk (.eqN r0 r0) <|
 .chk (.eqN r1 r1) <|
 .prim (.bi .append #[26,26] 26) [(.slice none 0 0),g v 7] [] [] .one fun l4 _ =>
 .newbox fun r4 =>
 .prim (.bi .append #[26,26] 26) [g l4 0,(.slice (some ⟨r4,0,none⟩) 1 1)] [⟨r4,3,[g v 38]⟩] [] .one fun l5 _ =>
 .chk (.eqN r0 r0) <|
 .chk (.eqN r0 r0) <|
 .chk (.eqN r2 r2) <|
 .chk (.eqN r2 r2) <|
 .ret (.agg #[g v 0,g v 1,g v 2,g v 3,g v 4,g v 5,g v 6,g l5 0,g v 8,g v 9,g v 10,g v 11,g v 12,g v 13,g v 14,g v 15,g v 16,g v 17,g v 18,g v 19,g v 20,g v 21,g v 22,g v 23,g v 24,g v 25,g v 26,g v 27,g v 28,g v 29,g v 30,g v 31,g v 32,g v 33,g v 34,g v 35,g v 36,g v 37]) []) (
 .pure [] (.bin .eql .int) [g v 50,(.int .i64 2)] fun v6 =>
 .br v6 (
 .chk (.eqN r0 r0) <|
 .chk (.eqN r1 r1) <|
 .prim (.bi .append #[26,26] 26) [(.slice none 0 0),g v 8] [] [] .one fun l7 _ =>
 .newbox fun r5 =>
 .prim (.bi .append #[26,26] 26) [g l7 0,(.slice (some ⟨r5,0,none⟩) 1 1)] [⟨r5,3,[g v 38]⟩] [] .one fun l8 _ =>
 .chk (.eqN r0 r0) <|
 .chk (.eqN r0 r0) <|
 .chk (.eqN r2 r2) <|
 .chk (.eqN r2 r2) <|
 .ret (.agg #[g v 0,g v 1,g v 2,g v 3,g v 4,g v 5,g v 6,g v 7,g l8 0,g v 9,g v 10,g v 11,g v 12,g v 13,g v 14,g v 15,g v 16,g v 17,g v 18,g v 19,g v 20,g v 21,g v 22,g v 23,g v 24,g v 25,g v 26,g v 27,g v 28,g v 29,g v 30,g v 31,g v 32,g v 33,g v 34,g v 35,g v 36,g v 37]) []) (
 .pure [] (.bin .eql .int) [g v 50,(.int .i64 3)] fun v9 =>
 .br v9 (
 .chk (.eqN r0 r0) <|
 .chk (.eqN r1 r1) <|
 .prim (.bi .append #[26,26] 26) [(.slice none 0 0),g v 9] [] [] .one fun l10 _ =>
 .newbox fun r6 =>
 .prim (.bi .append #[26,26] 26) [g l10 0,(.slice (some ⟨r6,0,none⟩) 1 1)] [⟨r6,3,[g v 38]⟩] [] .one fun l11 _ =>
 .chk (.eqN r0 r0) <|
 .chk (.eqN r0 r0) <|
 .chk (.eqN r2 r2) <|
 .chk (.eqN r2 r2) <|
 .ret (.agg #[g v 0,g v 1,g v 2,g v 3,g v 4,g v 5,g v 6,g v 7,g v 8,g l11 0,g v 10,g v 11,g v 12,g v 13,g v 14,g v 15,g v 16,g v 17,g v 18,g v 19,g v 20,g v 21,g v 22,g v 23,g v 24,g v 25,g v 26,g v 27,g v 28,g v 29,g v 30,g v 31,g v 32,g v 33,g v 34,g v 35,g v 36,g v 37]) []) (
 .chk (.eqN r0 r0) <|
 .chk (.eqN r2 r2) <|
 .chk (.eqN r2 r2) <|
 .ret (.agg #[g v 0,g v 1,g v 2,g v 3,g v 4,g v 5,g v 6,g v 7,g v 8,g v 9,g v 10,g v 11,g v 12,g v 13,g v 14,g v 15,g v 16,g v 17,g v 18,g v 19,g v 20,g v 21,g v 22,g v 23,g v 24,g v 25,g v 26,g v 27,g v 28,g v 29,g v 30,g v 31,g v 32,g v 33,g v 34,g v 35,g v 36,g v 37]) []))))) (
 .sw (g v 40) 1 (
 .pure [] (.bin .eql .int) [g v 50,(.int .i64 0)] fun v12 =>
 .br v12 (
 .chk (.eqN r0 r0) <|
 .chk (.eqN r1 r1) <|
 .prim (.bi .append #[26,26] 26) [(.slice none 0 0),g v 20] [] [] .one fun l13 _ =>
 .newbox fun r7 =>
 .prim (.bi .append #[26,26] 26) [g l13 0,(.slice (some ⟨r7,0,none⟩) 1 1)] [⟨r7,3,[g v 38]⟩] [] .one fun l14 _ =>
 .chk (.eqN r0 r0) <|
 .chk (.eqN r0 r0) <|
 .chk (.eqN r2 r2) <|
 .chk (.eqN r2 r2) <|
 .ret (.agg #[g v 0,g v 1,g v 2,g v 3,g v 4,g v 5,g v 6,g v 7,g v 8,g v 9,g v 10,g v 11,g v 12,g v 13,g v 14,g v 15,g v 16,g v 17,g v 18,g v 19,g l14 0,g v 21,g v 22,g v 23,g v 24,g v 25,g v 26,g v 27,g v 28,g v 29,g v 30,g v 31,g v 32,g v 33,g v 34,g v 35,g v 36,g v 37]) []) (
 .pure [] (.bin .eql .int) [g v 50,(.int .i64 1)] fun v15 =>
 .br v15 (
 .chk (.eqN r0 r0) <|
 .chk (.eqN r1 r1) <|
 .prim (.bi .append #[26,26] 26) [(.slice none 0 0),g v 21] [] [] .one fun l16 _ =>
 .newbox fun r8 =>
 .prim (.bi .append #[26,26] 26) [g l16 0,(.slice (some ⟨r8,0,none⟩) 1 1)] [⟨r8,3,[g v 38]⟩] [] .one fun l17 _ =>
 .chk (.eqN r0 r0) <|
 .chk (.eqN r0 r0) <|
 .chk (.eqN r2 r2) <|
 .chk (.eqN r2 r2) <|
 .ret (.agg #[g v 0,g v 1,g v 2,g v 3,g v 4,g v 5,g v 6,g v 7,g v 8,g v 9,g v 10,g v 11,g v 12,g v 13,g v 14,g v 15,g v 16,g v 17,g v 18,g v 19,g v 20,g l17 0,g v 22,g v 23,g v 24,g v 25,g v 26,g v 27,g v 28,g v 29,g v 30,g v 31,g v 32,g v 33,g v 34,g v 35,g v 36,g v 37]) []) (
 .pure [] (.bin .eql .int) [g v 50,(.int .i64 2)] fun v18 =>
 .br v18 (
 .chk (.eqN r0 r0) <|
 .chk (.eqN r1 r1) <|
 .prim (.bi .append #[26,26] 26) [(.slice none 0 0),g v 22] [] [] .one fun l19 _ =>
 .newbox fun r9 =>
 .prim (.bi .append #[26,26] 26) [g l19 0,(.slice (some ⟨r9,0,none⟩) 1 1)] [⟨r9,3,[g v 38]⟩] [] .one fun l20 _ =>
 .chk (.eqN r0 r0) <|
 .chk (.eqN r0 r0) <|
 .chk (.eqN r2 r2) <|
 .chk (.eqN r2 r2) <|
 .ret (.agg #[g v 0,g v 1,g v 2,g v 3,g v 4,g v 5,g v 6,g v 7,g v 8,g v 9,g v 10,g v 11,g v 12,g v 13,g v 14,g v 15,g v 16,g v 17,g v 18,g v 19,g v 20,g v 21,g l20 0,g v 23,g v 24,g v 25,g v 26,g v 27,g v 28,g v 29,g v 30,g v 31,g v 32,g v 33,g v 34,g v 35,g v 36,g v 37]) []) (
 .pure [] (.bin .eql .int) [g v 50,(.int .i64 3)] fun v21 =>
 .br v21 (
 .chk (.eqN r0 r0) <|
 .chk (.eqN r1 r1) <|
 .prim (.bi .append #[26,26] 26) [(.slice none 0 0),g v 23] [] [] .one fun l22 _ =>
 .newbox fun r10 =>
 .prim (.bi .append #[26,26] 26) [g l22 0,(.slice (some ⟨r10,0,none⟩) 1 1)] [⟨r10,3,[g v 38]⟩] [] .one fun l23 _ =>
 .chk (.eqN r0 r0) <|
 .chk (.eqN r0 r0) <|
 .chk (.eqN r2 r2) <|
 .chk (.eqN r2 r2) <|
 .ret (.agg #[g v 0,g v 1,g v 2,g v 3,g v 4,g v 5,g v 6,g v 7,g v 8,g v 9,g v 10,g v 11,g v 12,g v 13,g v 14,g v 15,g v 16,g v 17,g v 18,g v 19,g v 20,g v 21,g v 22,g l23 0,g v 24,g v 25,g v 26,g v 27,g v 28,g v 29,g v 30,g v 31,g v 32,g v 33,g v 34,g v 35,g v 36,g v 37]) []) (
 .chk (.eqN r0 r0) <|
 .chk (.eqN r2 r2) <|
 .chk (.eqN r2 r2) <|
 .ret (.agg #[g v 0,g v 1,g v 2,g v 3,g v 4,g v 5,g v 6,g v 7,g v 8,g v 9,g v 10,g v 11,g v 12,g v 13,g v 14,g v 15,g v 16,g v 17,g v 18,g v 19,g v 20,g v 21,g v 22,g v 23,g v 24,g v 25,g v 26,g v 27,g v 28,g v 29,g v 30,g v 31,g v 32,g v 33,g v 34,g v 35,g v 36,g v 37]) []))))) (
 .stuck 901))
theorem T_zeitnotref15_Put_eq (vs : List Value) : sxFun PP Try.f37 (mkOpts okL [(73, [5, 6, 7, 8])] [] []) vs = T_zeitnotref15_Put vs := by kernel_rfl
theorem run_zeitnotref15_Put {args vs} (ha : entryArgs PP Try.f37 args = some vs) (ho : Ones vs) {H O Q} (h : (T_zeitnotref15_Put vs).den PP Q H O) : Triple PP F_zeitnotref15_Put args H O Q :=
 triple_run mixed (mkOpts_ok okL_ok _ _ _) Try.func37 T_zeitnotref15_Put_eq ha ho h
abbrev F_zeitnotref15_Set : FuncId := 38
/- zeitnot/zeitnotref15.Set -/
def T_zeitnotref15_Set (v : List Value) : Tree :=
 .newbox fun r0 =>
 .newbox fun r1 =>
 .newbox fun r2 =>
 .chk (.eqN r0 r0) <|
 .call false 25 [(.agg #[g v 0,g v 1,g v 2,g v 3,g v 4,g v 5,g v 6,g v 7,g v 8,g v 9,g v 10,g v 11,g v 12,g v 13,g v 14,g v 15,g v 16,g v 17,g v 18,g v 19,g v 20,g v 21,g v 22,g v 23,g v 24,g v 25,g v 26,g v 27,g v 28,g v 29,g v 30,g v 31,g v 32,g v 33,g v 34,g v 35,g v 36,g v 37])] [] [] (.agg 38) fun l0 _ =>
 .chk (.eqN r0 r0) <|
 .chk (.eqN r0 r0) <|
 .chk (.eqN r1 r1) <|
 .call false 36 [(.agg #[g l0 0,g l0 1,g l0 2,g l0 3,g l0 4,g l0 5,g l0 6,g l0 7,g l0 8,g l0 9,g l0 10,g l0 11,g l0 12,g l0 13,g l0 14,g l0 15,g l0 16,g l0 17,g l0 18,g l0 19,g l0 20,g l0 21,g l0 22,g l0 23,g l0 24,g l0 25,g l0 26,g l0 27,g l0 28,g l0 29,g l0 30,g l0 31,g l0 32,g l0 33,g l0 34,g l0 35,g l0 36,g l0 37]),g v 38] [] [] .one fun l1 _ =>
 .pure [] (.bin .geq .int) [g l1 0,(.int .i64 0)] fun v2 =>
 .br v2 (
 .chk (.eqN r0 r0) <|
 .chk (.eqN r1 r1) <|
 .pure [] (.idx 12) [g l0 0,g l1 0] fun v3 =>
 .chk (.ptr [] v3) <|
 .store v3 [g v 38,g v 39,g v 40,g v 41,g v 42,g v 43,g v 44,g v 45,g v 46,g v 47,g v 48,g v 49] <|
 .chk (.eqN r0 r0) <|
 .chk (.eqN r2 r2) <|
 .chk (.eqN r2 r2) <|
 .ret (.agg #[g l0 0,g l0 1,g l0 2,g l0 3,g l0 4,g l0 5,g l0 6,g l0 7,g l0 8,g l0 9,g l0 10,g l0 11,g l0 12,g l0 13,g l0 14,g l0 15,g l0 16,g l0 17,g l0 18,g l0 19,g l0 20,g l0 21,g l0 22,g l0 23,g l0 24,g l0 25,g l0 26,g l0 27,g l0 28,g l0 29,g l0 30,g l0 31,g l0 32,g l0 33,g l0 34,g l0 35,g l0 36,g l0 37]) []) (
 .chk (.eqN r0 r0) <|
 .chk (.eqN r2 r2) <|
 .chk (.eqN r2 r2) <|
 .ret (.agg #[g l0 0,g l0 1,g l0 2,g l0 3,g l0 4,g l0 5,g l0 6,g l0 7,g l0 8,g l0 9,g l0 10,g l0 11,g l0 12,g l0 13,g l0 14,g l0 15,g l0 16,g l0 17,g l0 18,g l0 19,g l0 20,g l0 21,g l0 22,g l0 23,g l0 24,g l0 25,g l0 26,g l0 27,g l0 28,g l0 29,g l0 30,g l0 31,g l0 32,g l0 33,g l0 34,g l0 35,g l0 36,g l0 37]) [])
theorem T_zeitnotref15_Set_eq (vs : List Value) : sxFun PP Try.f38 (mkOpts okL [(73, [5, 6, 7, 8])] [] []) vs = T_zeitnotref15_Set vs := by kernel_rfl
theorem run_zeitnotref15_Set {args vs} (ha : entryArgs PP Try.f38 args = some vs) (ho : Ones vs) {H O Q} (h : (T_zeitnotref15_Set vs).den PP Q H O) : Triple PP F_zeitnotref15_Set args H O Q :=
 triple_run mixed (mkOpts_ok okL_ok _ _ _) Try.func38 T_zeitnotref15_Set_eq ha ho h
abbrev F_zeitnotref15_Out : FuncId := 39
/- zeitnot/zeitnotref15.Out -/
def T_zeitnotref15_Out (v : List Value) : Tree :=
 .newbox fun r0 =>
 .newbox fun r1 =>
 .chk (.eqN r0 r0) <|
 .call false 25 [(.agg #[g v 0,g v 1,g v 2,g v 3,g v 4,g v 5,g v 6,g v 7,g v 8,g v 9,g v 10,g v 11,g v 12,g v 13,g v 14,g v 15,g v 16,g v 17,g v 18,g v 19,g v 20,g v 21,g v 22,g v 23,g v 24,g v 25,g v 26,g v 27,g v 28,g v 29,g v 30,g v 31,g v 32,g v 33,g v 34,g v 35,g v 36,g v 37])] [] [] (.agg 38) fun l0 _ =>
 .chk (.eqN r0 r0) <|
 .chk (.eqN r0 r0) <|
 .chk (.eqN r0 r0) <|
 .chk (.eqN r0 r0) <|
 .chk (.eqN r0 r0) <|
 .call false 65 [g l0 6,g v 38] [] [] .one fun l1 _ =>
 .call false 65 [g l0 7,g v 38] [] [] .one fun l2 _ =>
 .call false 65 [g l0 8,g v 38] [] [] .one fun l3 _ =>
 .call false 65 [g l0 9,g v 38] [] [] .one fun l4 _ =>
 .chk (.eqN r0 r0) <|
 .chk (.eqN r0 r0) <|
 .chk (.eqN r0 r0) <|
 .chk (.eqN r0 r0) <|
 .chk (.eqN r0 r0) <|
 .chk (.eqN r0 r0) <|
 .chk (.eqN r0 r0) <|
 .chk (.eqN r0 r0) <|
 .call false 65 [g l0 20,g v 38] [] [] .one fun l5 _ =>
 .call false 65 [g l0 21,g v 38] [] [] .one fun l6 _ =>
 .call false 65 [g l0 22,g v 38] [] [] .one fun l7 _ =>
 .call false 65 [g l0 23,g v 38] [] [] .one fun l8 _ =>
 .chk (.eqN r0 r0) <|
 .chk (.eqN r0 r0) <|
 .chk (.eqN r0 r0) <|
 .chk (.eqN r0 r0) <|
 .loop 108 9 [(.slice none 0 0),(.int .i64 0)] fun C108 l9 =>
 .chk (.eqN r0 r0) <|
 .pure [] .len [g l0 29] fun v10 =>
 .pure [] (.bin .lss .int) [g l9 1,v10] fun v11 =>
 .br v11 (
 .chk (.eqN r0 r0) <|
 .pure [] (.idx 5) [g l0 29,g l9 1] fun v12 =>
 .load [] v12 5 fun l13 =>
 .newbox fun r2 =>
 .chk (.eqN r2 r2) <|
 .chk (.eqN r2 r2) <|
 .pure [] (.bin .neq .int) [g l13 3,(.int .i64 (-1))] fun v14 =>
 .chk (.eqN r2 r2) <|
 .chk (.eqV v14 v14) <|
 .chk (.eqV v14 v14) <|
 .chk (.eqV v14 v14) <|
 .pure [] (.bin .neq .int) [g l13 1,g v 38] fun v15 =>
 .chk (.eqV v14 v14) <|
 .pure [] .pick [v14,(.bool true),v15] fun v16 =>
 .br v16 (
 .chk (.eqN r2 r2) <|
 .newbox fun r3 =>
 .prim (.bi .append #[30,30] 30) [g l9 0,(.slice (some ⟨r3,0,none⟩) 1 1)] [⟨r3,60,[g l13 0,g l13 1,g l13 2,g l13 3,g l13 4]⟩] [] .one fun l17 _ =>
 .pure [] (.bin .add .int) [g l9 1,(.int .i64 1)] fun v18 =>
 .cont 108 C108 [g l17 0,v18] [E [g v 38],E [(.pointer (some ⟨r0,0,none⟩))],E [(.pointer (some ⟨r1,0,none⟩))],E [(.pointer (some ⟨r0,0,none⟩)),g l0 0,g l0 1,g l0 2,g l0 3,g l0 4,g l0 5,g l1 0,g l2 0,g l3 0,g l4 0,g l0 10,g l0 11,g l0 12,g l0 13,g l0 14,g l0 15,g l0 16,g l0 17,g l0 18,g l0 19,g l5 0,g l6 0,g l7 0,g l8 0,g l0 24,g l0 25,g l0 26,g l0 27,g l0 28,g l0 29,g l0 30,g l0 31,g l0 32,g l0 33,g l0 34,g l0 35,g l0 36,g l0 37],E [(.pointer (some ⟨r1,0,none⟩)),(.slice none 0 0),(.int .i64 0),(.int .i64 0),(.int .i64 0),(.int .i64 0),(.int .i64 0),(.slice none 0 0),(.slice none 0 0),(.slice none 0 0),(.slice none 0 0),(.bool false),(.bool false),(.bool false),(.int .i64 0),(.int .i64 0),(.int .i64 0),(.int .i64 0),(.int .i64 0),(.int .i64 0),(.int .i64 0),(.slice none 0 0),(.slice none 0 0),(.slice none 0 0),(.slice none 0 0),(.bool false),(.bool false),(.bool false),(.int .i64 0),(.int .i64 0),(.slice none 0 0),(.slice none 0 0),(.slice none 0 0),(.slice none 0 0),(.int .i64 0),(.int .i64 0),(.int .i64 0),(.int .i64 0),(.int .i64 0)]]) (
 .pure [] (.bin .add .int) [g l9 1,(.int .i64 1)] fun v19 =>
 .cont 108 C108 [g l9 0,v19] [E [g v 38],E [(.pointer (some ⟨r0,0,none⟩))],E [(.pointer (some ⟨r1,0,none⟩))],E [(.pointer (some ⟨r0,0,none⟩)),g l0 0,g l0 1,g l0 2,g l0 3,g l0 4,g l0 5,g l1 0,g l2 0,g l3 0,g l4 0,g l0 10,g l0 11,g l0 12,g l0 13,g l0 14,g l0 15,g l0 16,g l0 17,g l0 18,g l0 19,g l5 0,g l6 0,g l7 0,g l8 0,g l0 24,g l0 25,g l0 26,g l0 27,g l0 28,g l0 29,g l0 30,g l0 31,g l0 32,g l0 33,g l0 34,g l0 35,g l0 36,g l0 37],E [(.pointer (some ⟨r1,0,none⟩)),(.slice none 0 0),(.int .i64 0),(.int .i64 0),(.int .i64 0),(.int .i64 0),(.int .i64 0),(.slice none 0 0),(.slice none 0 0),(.slice none 0 0),(.slice none 0 0),(.bool false),(.bool false),(.bool false),(.int .i64 0),(.int .i64 0),(.int .i64 0),(.int .i64 0),(.int .i64 0),(.int .i64 0),(.int .i64 0),(.slice none 0 0),(.slice none 0 0),(.slice none 0 0),(.slice none 0 0),(.bool false),(.bool false),(.bool false),(.int .i64 0),(.int .i64 0),(.slice none 0 0),(.slice none 0 0),(.slice none 0 0),(.slice none 0 0),(.int .i64 0),(.int .i64 0),(.int .i64 0),(.int .i64 0),(.int .i64 0)]])) (
 .loop 116 16 [(.slice none 0 0),(.int .i64 0)] fun C116 l20 =>
 .chk (.eqN r0 r0) <|
 .pure [] .len [g l0 32] fun v21 =>
 .pure [] (.bin .lss .int) [g l20 1,v21] fun v22 =>
 .br v22 (
 .chk (.eqN r0 r0) <|
 .pure [] (.idx 2) [g l0 32,g l20 1] fun v23 =>
 .load [] v23 2 fun l24 =>
 .newbox fun r4 =>
 .chk (.eqN r4 r4) <|
 .chk (.eqN r4 r4) <|
 .pure [] (.bin .neq .int) [g l24 0,g v 38] fun v25 =>
 .chk (.eqN r4 r4) <|
 .chk (.eqV v25 v25) <|
 .chk (.eqV v25 v25) <|
 .chk (.eqV v25 v25) <|
 .pure [] (.bin .neq .int) [g l24 1,g v 38] fun v26 =>
 .chk (.eqV v25 v25) <|
 .pure [] .pick [v25,v26,(.bool false)] fun v27 =>
 .br v27 (
 .chk (.eqN r4 r4) <|
 .newbox fun r5 =>
 .prim (.bi .append #[31,31] 31) [g l20 0,(.slice (some ⟨r5,0,none⟩) 1 1)] [⟨r5,113,[g l24 0,g l24 1]⟩] [] .one fun l28 _ =>
 .pure [] (.bin .add .int) [g l20 1,(.int .i64 1)] fun v29 =>
 .cont 116 C116 [g l28 0,v29] [E [g v 38],E [(.pointer (some ⟨r0,0,none⟩))],E [(.pointer (some ⟨r1,0,none⟩))],E [g l9 0],E [(.pointer (some ⟨r0,0,none⟩)),g l0 0,g l0 1,g l0 2,g l0 3,g l0 4,g l0 5,g l1 0,g l2 0,g l3 0,g l4 0,g l0 10,g l0 11,g l0 12,g l0 13,g l0 14,g l0 15,g l0 16,g l0 17,g l0 18,g l0 19,g l5 0,g l6 0,g l7 0,g l8 0,g l0 24,g l0 25,g l0 26,g l0 27,g l0 28,g l0 29,g l0 30,g l0 31,g l0 32,g l0 33,g l0 34,g l0 35,g l0 36,g l0 37],E [(.pointer (some ⟨r1,0,none⟩)),(.slice none 0 0),(.int .i64 0),(.int .i64 0),(.int .i64 0),(.int .i64 0),(.int .i64 0),(.slice none 0 0),(.slice none 0 0),(.slice none 0 0),(.slice none 0 0),(.bool false),(.bool false),(.bool false),(.int .i64 0),(.int .i64 0),(.int .i64 0),(.int .i64 0),(.int .i64 0),(.int .i64 0),(.int .i64 0),(.slice none 0 0),(.slice none 0 0),(.slice none 0 0),(.slice none 0 0),(.bool false),(.bool false),(.bool false),(.int .i64 0),(.int .i64 0),(.slice none 0 0),(.slice none 0 0),(.slice none 0 0),(.slice none 0 0),(.int .i64 0),(.int .i64 0),(.int .i64 0),(.int .i64 0),(.int .i64 0)]]) (
 .pure [] (.bin .add .int) [g l20 1,(.int .i64 1)] fun v30 =>
 .cont 116 C116 [g l20 0,v30] [E [g v 38],E [(.pointer (some ⟨r0,0,none⟩))],E [(.pointer (some ⟨r1,0,none⟩))],E [g l9 0],E [(.pointer (some ⟨r0,0,none⟩)),g l0 0,g l0 1,g l0 2,g l0 3,g l0 4,g l0 5,g l1 0,g l2 0,g l3 0,g l4 0,g l0 10,g l0 11,g l0 12,g l0 13,g l0 14,g l0 15,g l0 16,g l0 17,g l0 18,g l0 19,g l5 0,g l6 0,g l7 0,g l8 0,g l0 24,g l0 25,g l0 26,g l0 27,g l0 28,g l0 29,g l0 30,g l0 31,g l0 32,g l0 33,g l0 34,g l0 35,g l0 36,g l0 37],E [(.pointer (some ⟨r1,0,none⟩)),(.slice none 0 0),(.int .i64 0),(.int .i64 0),(.int .i64 0),(.int .i64 0),(.int .i64 0),(.slice none 0 0),(.slice none 0 0),(.slice none 0 0),(.slice none 0 0),(.bool false),(.bool false),(.bool false),(.int .i64 0),(.int .i64 0),(.int .i64 0),(.int .i64 0),(.int .i64 0),(.int .i64 0),(.int .i64 0),(.slice none 0 0),(.slice none 0 0),(.slice none 0 0),(.slice none 0 0),(.bool false),(.bool false),(.bool false),(.int .i64 0),(.int .i64 0),(.slice none 0 0),(.slice none 0 0),(.slice none 0 0),(.slice none 0 0),(.int .i64 0),(.int .i64 0),(.int .i64 0),(.int .i64 0),(.int .i64 0)]])) (
 .chk (.eqN r0 r0) <|
 .call false 65 [g l0 31,g v 38] [] [] .one fun l31 _ =>
 .chk (.eqN r0 r0) <|
 .chk (.eqN r0 r0) <|
 .chk (.eqN r0 r0) <|
 .chk (.eqN r0 r0) <|
 .chk (.eqN r1 r1) <|
 .chk (.eqN r1 r1) <|
 .ret (.agg #[g l0 0,g l0 1,g l0 2,g l0 3,g l0 4,g l0 5,g l1 0,g l2 0,g l3 0,g l4 0,g l0 10,g l0 11,g l0 12,g l0 13,g l0 14,g l0 15,g l0 16,g l0 17,g l0 18,g l0 19,g l5 0,g l6 0,g l7 0,g l8 0,g l0 24,g l0 25,g l0 26,g l0 27,g l0 28,g l9 0,g l0 30,g l31 0,g l20 0,g l0 33,g l0 34,g l0 35,g l0 36,g l0 37]) []))
theorem T_zeitnotref15_Out_eq (vs : List Value) : sxFun PP Try.f39 (mkOpts okL [(73, [5, 6, 7, 8])] [(3, .unroll 3), (9, .inv [7, 8] [1, 2, 4] [(2, []), (4, [])]), (16, .inv [10, 11] [1, 2, 4, 7] [(2, []), (4, [])])] []) vs = T_zeitnotref15_Out vs := by kernel_rfl
theorem run_zeitnotref15_Out {args vs} (ha : entryArgs PP Try.f39 args = some vs) (ho : Ones vs) {H O Q} (h : (T_zeitnotref15_Out vs).den PP Q H O) : Triple PP F_zeitnotref15_Out args H O Q :=
 triple_run mixed (mkOpts_ok okL_ok _ _ _) Try.func39 T_zeitnotref15_Out_eq ha ho h
abbrev F_slices_Contains_api_Target_api_Target : FuncId := 40
/- slices.Contains[[]zeitnot/api.Target,zeitnot/api.Target] -/
def T_slices_Contains_api_Target_api_Target (v : List Value) : Tree :=
 .newbox fun r0 =>
 .chk (.eqN r0 r0) <|
 .call false 66 [g v 0,(.agg #[g v 1,g v 2])] [] [] .one fun l0 _ =>
 .pure [] (.bin .geq .int) [g l0 0,(.int .i64 0)] fun v1 =>
 .ret v1 []
theorem T_slices_Contains_api_Target_api_Target_eq (vs : List Value) : sxFun PP Try.f40 (mkOpts okL [(73, [5, 6, 7, 8])] [] []) vs = T_slices_Contains_api_Target_api_Target vs := by kernel_rfl
theorem run_slices_Contains_api_Target_api_Target {args vs} (ha : entryArgs PP Try.f40 args = some vs) (ho : Ones vs) {H O Q} (h : (T_slices_Contains_api_Target_api_Target vs).den PP Q H O) : Triple PP F_slices_Contains_api_Target_api_Target args H O Q :=
 triple_run mixed (mkOpts_ok okL_ok _ _ _) Try.func40 T_slices_Contains_api_Target_api_Target_eq ha ho h
abbrev F_zeitnotref14_Card : FuncId := 41
/- zeitnot/zeitnotref14.Card -/
def T_zeitnotref14_Card (v : List Value) : Tree :=
 .newbox fun r0 =>
 .newbox fun r1 =>
 .chk (.eqN r0 r0) <|
 .pure [] (.bin .lss .int) [g v 2,(.int .i64 0)] fun v0 =>
 .chk (.eqN r0 r0) <|
 .chk (.eqV v0 v0) <|
 .chk (.eqV v0 v0) <|
 .pure [] .len [g v 0] fun v1 =>
 .chk (.eqV v0 v0) <|
 .chk (.eqV v0 v0) <|
 .pure [] (.bin .geq .int) [g v 2,v1] fun v2 =>
 .chk (.eqV v0 v0) <|
 .pure [] .pick [v0,(.bool true),v2] fun v3 =>
 .br v3 (
 .chk (.eqN r1 r1) <|
 .chk (.eqN r1 r1) <|
 .ret (.agg #[(.string ⟨#[]⟩),(.int .i64 0),(.int .i64 0),(.int .i64 0),(.int .i64 0),(.int .i64 0),(.int .i64 0),(.int .i64 0),(.int .i64 0),(.int .i64 0),(.int .i64 0),(.slice none 0 0),(.slice none 0 0),(.int .i64 0)]) []) (
 .chk (.eqN r0 r0) <|
 .pure [] (.idx 14) [g v 0,g v 2] fun v4 =>
 .load [] v4 14 fun l5 =>
 .chk (.eqN r1 r1) <|
 .chk (.eqN r1 r1) <|
 .ret (.agg #[g l5 0,g l5 1,g l5 2,g l5 3,g l5 4,g l5 5,g l5 6,g l5 7,g l5 8,g l5 9,g l5 10,g l5 11,g l5 12,g l5 13]) [])
theorem T_zeitnotref14_Card_eq (vs : List Value) : sxFun PP Try.f41 (mkOpts okL [(73, [5, 6, 7, 8])] [] []) vs = T_zeitnotref14_Card vs := by kernel_rfl
theorem run_zeitnotref14_Card {args vs} (ha : entryArgs PP Try.f41 args = some vs) (ho : Ones vs) {H O Q} (h : (T_zeitnotref14_Card vs).den PP Q H O) : Triple PP F_zeitnotref14_Card args H O Q :=
 triple_run mixed (mkOpts_ok okL_ok _ _ _) Try.func41 T_zeitnotref14_Card_eq ha ho h
abbrev F_zeitnotref15_copied : FuncId := 42
/- zeitnot/zeitnotref15.copied -/
def T_zeitnotref15_copied (v : List Value) : Tree :=
 .loop 3 3 [(.slice none 0 0),(.int .i64 0)] fun C3 l0 =>
 .pure [] .len [g v 0] fun v1 =>
 .pure [] (.bin .lss .int) [g l0 1,v1] fun v2 =>
 .br v2 (
 .pure [] (.idx 5) [g v 0,g l0 1] fun v3 =>
 .load [] v3 5 fun l4 =>
 .newbox fun r0 =>
 .chk (.eqN r0 r0) <|
 .chk (.eqN r0 r0) <|
 .prim (.bi .append #[58,58] 58) [(.slice none 0 0),g l4 4] [] [] .one fun l5 _ =>
 .chk (.eqN r0 r0) <|
 .chk (.eqN r0 r0) <|
 .newbox fun r1 =>
 .prim (.bi .append #[30,30] 30) [g l0 0,(.slice (some ⟨r1,0,none⟩) 1 1)] [⟨r1,60,[g l4 0,g l4 1,g l4 2,g l4 3,g l5 0]⟩] [] .one fun l6 _ =>
 .pure [] (.bin .add .int) [g l0 1,(.int .i64 1)] fun v7 =>
 .cont 3 C3 [g l6 0,v7] [E [g v 0]]) (
 .ret (g l0 0) [])
theorem T_zeitnotref15_copied_eq (vs : List Value) : sxFun PP Try.f42 (mkOpts okL [(73, [5, 6, 7, 8])] [(3, .inv [3, 4] [0] [])] []) vs = T_zeitnotref15_copied vs := by kernel_rfl
theorem run_zeitnotref15_copied {args vs} (ha : entryArgs PP Try.f42 args = some vs) (ho : Ones vs) {H O Q} (h : (T_zeitnotref15_copied vs).den PP Q H O) : Triple PP F_zeitnotref15_copied args H O Q :=
 triple_run mixed (mkOpts_ok okL_ok _ _ _) Try.func42 T_zeitnotref15_copied_eq ha ho h
abbrev F_board_within : FuncId := 43
/- zeitnot/board.within -/
def T_board_within (v : List Value) : Tree :=
 .pure [] (.bin .geq .int) [g v 0,g v 1] fun v0 =>
 .chk (.eqV v0 v0) <|
 .chk (.eqV v0 v0) <|
 .pure [] (.bin .leq .int) [g v 0,g v 2] fun v1 =>
 .chk (.eqV v0 v0) <|
 .pure [] .pick [v0,v1,(.bool false)] fun v2 =>
 .ret v2 []
theorem T_board_within_eq (vs : List Value) : sxFun PP Try.f43 (mkOpts okL [(73, [5, 6, 7, 8])] [] []) vs = T_board_within vs := by kernel_rfl
theorem run_board_within {args vs} (ha : entryArgs PP Try.f43 args = some vs) (ho : Ones vs) {H O Q} (h : (T_board_within vs).den PP Q H O) : Triple PP F_board_within args H O Q :=
 triple_run mixed (mkOpts_ok okL_ok _ _ _) Try.func43 T_board_within_eq ha ho h
abbrev F_mana_Valid : FuncId := 44
/- zeitnot/mana.Valid -/
def T_mana_Valid (v : List Value) : Tree :=
 .newbox fun r0 =>
 .chk (.eqN r0 r0) <|
 .call false 67 [(.agg #[g v 0,g v 1,g v 2,g v 3]),(.int .i64 99)] [] [] .one fun l0 _ =>
 .ret (g l0 0) []
theorem T_mana_Valid_eq (vs : List Value) : sxFun PP Try.f44 (mkOpts okL [(73, [5, 6, 7, 8])] [] []) vs = T_mana_Valid vs := by kernel_rfl
theorem run_mana_Valid {args vs} (ha : entryArgs PP Try.f44 args = some vs) (ho : Ones vs) {H O Q} (h : (T_mana_Valid vs).den PP Q H O) : Triple PP F_mana_Valid args H O Q :=
 triple_run mixed (mkOpts_ok okL_ok _ _ _) Try.func44 T_mana_Valid_eq ha ho h
abbrev F_slices_ContainsFunc_api_Item_api_Item : FuncId := 45
/- slices.ContainsFunc[[]zeitnot/api.Item,zeitnot/api.Item] -/
def T_slices_ContainsFunc_api_Item_api_Item (v : List Value) : Tree :=
 .call false 68 [g v 0,g v 1] [] [] .one fun l0 _ =>
 .pure [] (.bin .geq .int) [g l0 0,(.int .i64 0)] fun v1 =>
 .ret v1 []
theorem T_slices_ContainsFunc_api_Item_api_Item_eq (vs : List Value) : sxFun PP Try.f45 (mkOpts okL [(73, [5, 6, 7, 8])] [] []) vs = T_slices_ContainsFunc_api_Item_api_Item vs := by kernel_rfl
theorem run_slices_ContainsFunc_api_Item_api_Item {args vs} (ha : entryArgs PP Try.f45 args = some vs) (ho : Ones vs) {H O Q} (h : (T_slices_ContainsFunc_api_Item_api_Item vs).den PP Q H O) : Triple PP F_slices_ContainsFunc_api_Item_api_Item args H O Q :=
 triple_run mixed (mkOpts_ok okL_ok _ _ _) Try.func45 T_slices_ContainsFunc_api_Item_api_Item_eq ha ho h
abbrev F_board_Valid_1 : FuncId := 46
/- zeitnot/board.Valid$1 -/
def T_board_Valid_1 (v : List Value) : Tree :=
 .newbox fun r0 =>
 .chk (.eqN r0 r0) <|
 .call false 47 [(.agg #[g v 0,g v 1,g v 2,g v 3,g v 4]),(.bool false)] [] [] .one fun l0 _ =>
 .pure [] .not [g l0 0] fun v1 =>
 .ret v1 []
theorem T_board_Valid_1_eq (vs : List Value) : sxFun PP Try.f46 (mkOpts okL [(73, [5, 6, 7, 8])] [] []) vs = T_board_Valid_1 vs := by kernel_rfl
theorem run_board_Valid_1 {args vs} (ha : entryArgs PP Try.f46 args = some vs) (ho : Ones vs) {H O Q} (h : (T_board_Valid_1 vs).den PP Q H O) : Triple PP F_board_Valid_1 args H O Q :=
 triple_run mixed (mkOpts_ok okL_ok _ _ _) Try.func46 T_board_Valid_1_eq ha ho h
abbrev F_board_fine : FuncId := 47
/- zeitnot/board.fine -/
def T_board_fine (v : List Value) : Tree :=
 .newbox fun r0 =>
 .chk (.eqN r0 r0) <|
 .call false 43 [g v 0,(.int .i64 0),(.int .i64 1)] [] [] .one fun l0 _ =>
 .br (g l0 0) (
 .chk (.eqN r0 r0) <|
 .call false 43 [g v 1,(.int .i64 1),(.int .i64 500)] [] [] .one fun l1 _ =>
 .br (g l1 0) (
 .chk (.eqN r0 r0) <|
 .call false 43 [g v 2,(.int .i64 0),(.int .i64 399)] [] [] .one fun l2 _ =>
 .br (g l2 0) (
 .chk (.eqN r0 r0) <|
 .call false 43 [g v 3,(.int .i64 (-1)),(.int .i64 1)] [] [] .one fun l3 _ =>
 .pure [] .not [g l3 0] fun v4 =>
 .chk (.eqN r0 r0) <|
 .chk (.eqV v4 v4) <|
 .chk (.eqV v4 v4) <|
 .pure [] .len [g v 4] fun v5 =>
 .chk (.eqV v4 v4) <|
 .pure [] (.bin .gtr .int) [v5,(.int .i64 4)] fun v6 =>
 .chk (.eqV v4 v4) <|
 .pure [] .pick [v4,(.bool true),v6] fun v7 =>
 .chk (.eqN r0 r0) <|
 .chk (.eqV v7 v7) <|
 .chk (.eqV v7 v7) <|
 .pure [] (.bin .geq .int) [g v 3,(.int .i64 0)] fun v8 =>
 .chk (.eqV v7 v7) <|
 .chk (.eqN r0 r0) <|
 .chk (.eqV v8 v8) <|
 .chk (.eqV v7 v7) <|
 .chk (.eqV v8 v8) <|
 .chk (.eqV v7 v7) <|
 .pure [] .len [g v 4] fun v9 =>
 .chk (.eqV v8 v8) <|
 .chk (.eqV v7 v7) <|
 .pure [] (.bin .gtr .int) [v9,(.int .i64 0)] fun v10 =>
 .chk (.eqV v7 v7) <|
 .chk (.eqV v8 v8) <|
 .chk (.eqV v7 v7) <|
 .pure [] .pick [v8,v10,(.bool false)] fun v11 =>
 .chk (.eqV v7 v7) <|
 .pure [] .pick [v7,(.bool true),v11] fun v12 =>
 .chk (.eqV v12 v12) <|
 .chk (.eqN r0 r0) <|
 .chk (.eqV (g v 5) (g v 5)) <|
 .chk (.eqV v12 v12) <|
 .chk (.eqV (g v 5) (g v 5)) <|
 .chk (.eqV v12 v12) <|
 .pure [] (.bin .lss .int) [g v 3,(.int .i64 0)] fun v13 =>
 .chk (.eqV v12 v12) <|
 .chk (.eqV (g v 5) (g v 5)) <|
 .chk (.eqV v12 v12) <|
 .pure [] .pick [g v 5,v13,(.bool false)] fun v14 =>
 .chk (.eqV v12 v12) <|
 .pure [] .pick [v12,(.bool true),v14] fun v15 =>
 .br v15 (
 .ret (.bool false) []) (
 .chk (.eqN r0 r0) <|
 .call false 69 [g v 4,(.func (.func 70) #[] #[])] [] [] .one fun l16 _ =>
 .pure [] .not [g l16 0] fun v17 =>
 .ret v17 [])) (
 .ret (.bool false) [])) (
 .ret (.bool false) [])) (
 .ret (.bool false) [])
theorem T_board_fine_eq (vs : List Value) : sxFun PP Try.f47 (mkOpts okL [(73, [5, 6, 7, 8])] [] []) vs = T_board_fine vs := by kernel_rfl
theorem run_board_fine {args vs} (ha : entryArgs PP Try.f47 args = some vs) (ho : Ones vs) {H O Q} (h : (T_board_fine vs).den PP Q H O) : Triple PP F_board_fine args H O Q :=
 triple_run mixed (mkOpts_ok okL_ok _ _ _) Try.func47 T_board_fine_eq ha ho h
abbrev F_board_Valid_2 : FuncId := 48
/- zeitnot/board.Valid$2 -/
def T_board_Valid_2 (v : List Value) : Tree :=
 .newbox fun r0 =>
 .chk (.eqN r0 r0) <|
 .call false 47 [(.agg #[g v 0,g v 1,g v 2,g v 3,g v 4]),(.bool true)] [] [] .one fun l0 _ =>
 .pure [] .not [g l0 0] fun v1 =>
 .ret v1 []
theorem T_board_Valid_2_eq (vs : List Value) : sxFun PP Try.f48 (mkOpts okL [(73, [5, 6, 7, 8])] [] []) vs = T_board_Valid_2 vs := by kernel_rfl
theorem run_board_Valid_2 {args vs} (ha : entryArgs PP Try.f48 args = some vs) (ho : Ones vs) {H O Q} (h : (T_board_Valid_2 vs).den PP Q H O) : Triple PP F_board_Valid_2 args H O Q :=
 triple_run mixed (mkOpts_ok okL_ok _ _ _) Try.func48 T_board_Valid_2_eq ha ho h
abbrev F_board_placed : FuncId := 49
/- zeitnot/board.placed -/
def T_board_placed (v : List Value) : Tree :=
 .newbox fun r0 =>
 .prim (.makeMap 121 false) [] [] [] .one fun l0 _ =>
 .newbox fun r1 =>
 .chk (.eqN r1 r1) <|
 .call false 73 [(.pointer (some ⟨r0,1,none⟩))] [] [] (.agg 4) fun l1 _ =>
 .chk (.eqV (g l1 0) (.pointer (some ⟨r0,6,none⟩))) <|
 .chk (.eqV (g l1 1) (.pointer (some ⟨r0,7,none⟩))) <|
 .chk (.eqV (g l1 2) (.pointer (some ⟨r0,8,none⟩))) <|
 .chk (.eqV (g l1 3) (.pointer (some ⟨r0,9,none⟩))) <|
 .chk (.eqN r0 r0) <|
 .pure [] .len [g v 6] fun v2 =>
 .loop 24 10 [(.int .i64 0),g l0 0] fun C24 l3 =>
 .pure [] (.bin .lss .int) [g l3 0,v2] fun v4 =>
 .br v4 (
 .pure [] (.idx 1) [g v 6,g l3 0] fun v5 =>
 .load [] v5 1 fun l6 =>
 .call false 72 [g l6 0,(.int .i64 0),(.pointer (some ⟨r1,0,none⟩))] [] [⟨r1,121,[g l3 1]⟩] .one fun l7 c7 =>
 .pure [] .not [g l7 0] fun v8 =>
 .br v8 (
 .ret (.bool false) []) (
 .pure [] (.bin .add .int) [g l3 0,(.int .i64 1)] fun v9 =>
 .cont 24 C24 [v9,(g (c7.getD 0 []) 0)] [E [(.pointer (some ⟨r0,0,none⟩))],E [(.pointer (some ⟨r1,0,none⟩))],E [(.func (.func 72) #[] #[(.pointer (some ⟨r1,0,none⟩))])],E [(.int .i64 0)],E [(.int .i64 0)],E [(.pointer (some ⟨r0,6,none⟩)),(.pointer (some ⟨r0,7,none⟩)),(.pointer (some ⟨r0,8,none⟩)),(.pointer (some ⟨r0,9,none⟩))],E [(.int .i64 0)],E [g v 6],E [v2],E [(.pointer (some ⟨r0,0,none⟩)),g v 0,g v 1,g v 2,g v 3,g v 4,g v 5,g v 6,g v 7,g v 8,g v 9,g v 10,g v 11,g v 12,g v 13,g v 14,g v 15,g v 16,g v 17,g v 18,g v 19,g v 20,g v 21,g v 22,g v 23,g v 24,g v 25,g v 26,g v 27,g v 28,g v 29,g v 30,g v 31,g v 32,g v 33,g v 34,g v 35,g v 36,g v 37],E [(.pointer (some ⟨r1,0,none⟩)),(.tuple #[])]])) (
 .chk (.eqN r0 r0) <|
 .pure [] .len [g v 7] fun v10 =>
 .loop 36 10 [(.int .i64 0),g l3 1] fun C36 l11 =>
 .pure [] (.bin .lss .int) [g l11 0,v10] fun v12 =>
 .br v12 (
 .pure [] (.idx 1) [g v 7,g l11 0] fun v13 =>
 .load [] v13 1 fun l14 =>
 .call false 72 [g l14 0,(.int .i64 0),(.pointer (some ⟨r1,0,none⟩))] [] [⟨r1,121,[g l11 1]⟩] .one fun l15 c15 =>
 .pure [] .not [g l15 0] fun v16 =>
 .br v16 (
 .ret (.bool false) []) (
 .pure [] (.bin .add .int) [g l11 0,(.int .i64 1)] fun v17 =>
 .cont 36 C36 [v17,(g (c15.getD 0 []) 0)] [E [(.pointer (some ⟨r0,0,none⟩))],E [(.pointer (some ⟨r1,0,none⟩))],E [(.func (.func 72) #[] #[(.pointer (some ⟨r1,0,none⟩))])],E [(.int .i64 0)],E [(.int .i64 0)],E [(.pointer (some ⟨r0,6,none⟩)),(.pointer (some ⟨r0,7,none⟩)),(.pointer (some ⟨r0,8,none⟩)),(.pointer (some ⟨r0,9,none⟩))],E [(.int .i64 1)],E [g v 7],E [v10],E [(.pointer (some ⟨r0,0,none⟩)),g v 0,g v 1,g v 2,g v 3,g v 4,g v 5,g v 6,g v 7,g v 8,g v 9,g v 10,g v 11,g v 12,g v 13,g v 14,g v 15,g v 16,g v 17,g v 18,g v 19,g v 20,g v 21,g v 22,g v 23,g v 24,g v 25,g v 26,g v 27,g v 28,g v 29,g v 30,g v 31,g v 32,g v 33,g v 34,g v 35,g v 36,g v 37],E [(.pointer (some ⟨r1,0,none⟩)),(.tuple #[])]])) (
 .chk (.eqN r0 r0) <|
 .pure [] .len [g v 8] fun v18 =>
 .loop 48 10 [(.int .i64 0),g l11 1] fun C48 l19 =>
 .pure [] (.bin .lss .int) [g l19 0,v18] fun v20 =>
 .br v20 (
 .pure [] (.idx 1) [g v 8,g l19 0] fun v21 =>
 .load [] v21 1 fun l22 =>
 .call false 72 [g l22 0,(.int .i64 0),(.pointer (some ⟨r1,0,none⟩))] [] [⟨r1,121,[g l19 1]⟩] .one fun l23 c23 =>
 .pure [] .not [g l23 0] fun v24 =>
 .br v24 (
 .ret (.bool false) []) (
 .pure [] (.bin .add .int) [g l19 0,(.int .i64 1)] fun v25 =>
 .cont 48 C48 [v25,(g (c23.getD 0 []) 0)] [E [(.pointer (some ⟨r0,0,none⟩))],E [(.pointer (some ⟨r1,0,none⟩))],E [(.func (.func 72) #[] #[(.pointer (some ⟨r1,0,none⟩))])],E [(.int .i64 0)],E [(.int .i64 0)],E [(.pointer (some ⟨r0,6,none⟩)),(.pointer (some ⟨r0,7,none⟩)),(.pointer (some ⟨r0,8,none⟩)),(.pointer (some ⟨r0,9,none⟩))],E [(.int .i64 2)],E [g v 8],E [v18],E [(.pointer (some ⟨r0,0,none⟩)),g v 0,g v 1,g v 2,g v 3,g v 4,g v 5,g v 6,g v 7,g v 8,g v 9,g v 10,g v 11,g v 12,g v 13,g v 14,g v 15,g v 16,g v 17,g v 18,g v 19,g v 20,g v 21,g v 22,g v 23,g v 24,g v 25,g v 26,g v 27,g v 28,g v 29,g v 30,g v 31,g v 32,g v 33,g v 34,g v 35,g v 36,g v 37],E [(.pointer (some ⟨r1,0,none⟩)),(.tuple #[])]])) (
 .chk (.eqN r0 r0) <|
 .pure [] .len [g v 9] fun v26 =>
 .loop 60 10 [(.int .i64 0),g l19 1] fun C60 l27 =>
 .pure [] (.bin .lss .int) [g l27 0,v26] fun v28 =>
 .br v28 (
 .pure [] (.idx 1) [g v 9,g l27 0] fun v29 =>
 .load [] v29 1 fun l30 =>
 .call false 72 [g l30 0,(.int .i64 0),(.pointer (some ⟨r1,0,none⟩))] [] [⟨r1,121,[g l27 1]⟩] .one fun l31 c31 =>
 .pure [] .not [g l31 0] fun v32 =>
 .br v32 (
 .ret (.bool false) []) (
 .pure [] (.bin .add .int) [g l27 0,(.int .i64 1)] fun v33 =>
 .cont 60 C60 [v33,(g (c31.getD 0 []) 0)] [E [(.pointer (some ⟨r0,0,none⟩))],E [(.pointer (some ⟨r1,0,none⟩))],E [(.func (.func 72) #[] #[(.pointer (some ⟨r1,0,none⟩))])],E [(.int .i64 0)],E [(.int .i64 0)],E [(.pointer (some ⟨r0,6,none⟩)),(.pointer (some ⟨r0,7,none⟩)),(.pointer (some ⟨r0,8,none⟩)),(.pointer (some ⟨r0,9,none⟩))],E [(.int .i64 3)],E [g v 9],E [v26],E [(.pointer (some ⟨r0,0,none⟩)),g v 0,g v 1,g v 2,g v 3,g v 4,g v 5,g v 6,g v 7,g v 8,g v 9,g v 10,g v 11,g v 12,g v 13,g v 14,g v 15,g v 16,g v 17,g v 18,g v 19,g v 20,g v 21,g v 22,g v 23,g v 24,g v 25,g v 26,g v 27,g v 28,g v 29,g v 30,g v 31,g v 32,g v 33,g v 34,g v 35,g v 36,g v 37],E [(.pointer (some ⟨r1,0,none⟩)),(.tuple #[])]])) (
 .call false 73 [(.pointer (some ⟨r0,15,none⟩))] [] [] (.agg 4) fun l34 _ =>
 .chk (.eqV (g l34 0) (.pointer (some ⟨r0,20,none⟩))) <|
 .chk (.eqV (g l34 1) (.pointer (some ⟨r0,21,none⟩))) <|
 .chk (.eqV (g l34 2) (.pointer (some ⟨r0,22,none⟩))) <|
 .chk (.eqV (g l34 3) (.pointer (some ⟨r0,23,none⟩))) <|
 .chk (.eqN r0 r0) <|
 .pure [] .len [g v 20] fun v35 =>
 .loop 83 10 [(.int .i64 0),g l27 1] fun C83 l36 =>
 .pure [] (.bin .lss .int) [g l36 0,v35] fun v37 =>
 .br v37 (
 .pure [] (.idx 1) [g v 20,g l36 0] fun v38 =>
 .load [] v38 1 fun l39 =>
 .call false 72 [g l39 0,(.int .i64 1),(.pointer (some ⟨r1,0,none⟩))] [] [⟨r1,121,[g l36 1]⟩] .one fun l40 c40 =>
 .pure [] .not [g l40 0] fun v41 =>
 .br v41 (
 .ret (.bool false) []) (
 .pure [] (.bin .add .int) [g l36 0,(.int .i64 1)] fun v42 =>
 .cont 83 C83 [v42,(g (c40.getD 0 []) 0)] [E [(.pointer (some ⟨r0,0,none⟩))],E [(.pointer (some ⟨r1,0,none⟩))],E [(.func (.func 72) #[] #[(.pointer (some ⟨r1,0,none⟩))])],E [(.int .i64 1)],E [(.int .i64 1)],E [(.pointer (some ⟨r0,20,none⟩)),(.pointer (some ⟨r0,21,none⟩)),(.pointer (some ⟨r0,22,none⟩)),(.pointer (some ⟨r0,23,none⟩))],E [(.int .i64 0)],E [g v 20],E [v35],E [(.pointer (some ⟨r0,0,none⟩)),g v 0,g v 1,g v 2,g v 3,g v 4,g v 5,g v 6,g v 7,g v 8,g v 9,g v 10,g v 11,g v 12,g v 13,g v 14,g v 15,g v 16,g v 17,g v 18,g v 19,g v 20,g v 21,g v 22,g v 23,g v 24,g v 25,g v 26,g v 27,g v 28,g v 29,g v 30,g v 31,g v 32,g v 33,g v 34,g v 35,g v 36,g v 37],E [(.pointer (some ⟨r1,0,none⟩)),(.tuple #[])]])) (
 .chk (.eqN r0 r0) <|
 .pure [] .len [g v 21] fun v43 =>
 .loop 95 10 [(.int .i64 0),g l36 1] fun C95 l44 =>
 .pure [] (.bin .lss .int) [g l44 0,v43] fun v45 =>
 .br v45 (
 .pure [] (.idx 1) [g v 21,g l44 0] fun v46 =>
 .load [] v46 1 fun l47 =>
 .call false 72 [g l47 0,(.int .i64 1),(.pointer (some ⟨r1,0,none⟩))] [] [⟨r1,121,[g l44 1]⟩] .one fun l48 c48 =>
 .pure [] .not [g l48 0] fun v49 =>
 .br v49 (
 .ret (.bool false) []) (
 .pure [] (.bin .add .int) [g l44 0,(.int .i64 1)] fun v50 =>
 .cont 95 C95 [v50,(g (c48.getD 0 []) 0)] [E [(.pointer (some ⟨r0,0,none⟩))],E [(.pointer (some ⟨r1,0,none⟩))],E [(.func (.func 72) #[] #[(.pointer (some ⟨r1,0,none⟩))])],E [(.int .i64 1)],E [(.int .i64 1)],E [(.pointer (some ⟨r0,20,none⟩)),(.pointer (some ⟨r0,21,none⟩)),(.pointer (some ⟨r0,22,none⟩)),(.pointer (some ⟨r0,23,none⟩))],E [(.int .i64 1)],E [g v 21],E [v43],E [(.pointer (some ⟨r0,0,none⟩)),g v 0,g v 1,g v 2,g v 3,g v 4,g v 5,g v 6,g v 7,g v 8,g v 9,g v 10,g v 11,g v 12,g v 13,g v 14,g v 15,g v 16,g v 17,g v 18,g v 19,g v 20,g v 21,g v 22,g v 23,g v 24,g v 25,g v 26,g v 27,g v 28,g v 29,g v 30,g v 31,g v 32,g v 33,g v 34,g v 35,g v 36,g v 37],E [(.pointer (some ⟨r1,0,none⟩)),(.tuple #[])]])) (
 .chk (.eqN r0 r0) <|
 .pure [] .len [g v 22] fun v51 =>
 .loop 107 10 [(.int .i64 0),g l44 1] fun C107 l52 =>
 .pure [] (.bin .lss .int) [g l52 0,v51] fun v53 =>
 .br v53 (
 .pure [] (.idx 1) [g v 22,g l52 0] fun v54 =>
 .load [] v54 1 fun l55 =>
 .call false 72 [g l55 0,(.int .i64 1),(.pointer (some ⟨r1,0,none⟩))] [] [⟨r1,121,[g l52 1]⟩] .one fun l56 c56 =>
 .pure [] .not [g l56 0] fun v57 =>
 .br v57 (
 .ret (.bool false) []) (
 .pure [] (.bin .add .int) [g l52 0,(.int .i64 1)] fun v58 =>
 .cont 107 C107 [v58,(g (c56.getD 0 []) 0)] [E [(.pointer (some ⟨r0,0,none⟩))],E [(.pointer (some ⟨r1,0,none⟩))],E [(.func (.func 72) #[] #[(.pointer (some ⟨r1,0,none⟩))])],E [(.int .i64 1)],E [(.int .i64 1)],E [(.pointer (some ⟨r0,20,none⟩)),(.pointer (some ⟨r0,21,none⟩)),(.pointer (some ⟨r0,22,none⟩)),(.pointer (some ⟨r0,23,none⟩))],E [(.int .i64 2)],E [g v 22],E [v51],E [(.pointer (some ⟨r0,0,none⟩)),g v 0,g v 1,g v 2,g v 3,g v 4,g v 5,g v 6,g v 7,g v 8,g v 9,g v 10,g v 11,g v 12,g v 13,g v 14,g v 15,g v 16,g v 17,g v 18,g v 19,g v 20,g v 21,g v 22,g v 23,g v 24,g v 25,g v 26,g v 27,g v 28,g v 29,g v 30,g v 31,g v 32,g v 33,g v 34,g v 35,g v 36,g v 37],E [(.pointer (some ⟨r1,0,none⟩)),(.tuple #[])]])) (
 .chk (.eqN r0 r0) <|
 .pure [] .len [g v 23] fun v59 =>
 .loop 119 10 [(.int .i64 0),g l52 1] fun C119 l60 =>
 .pure [] (.bin .lss .int) [g l60 0,v59] fun v61 =>
 .br v61 (
 .pure [] (.idx 1) [g v 23,g l60 0] fun v62 =>
 .load [] v62 1 fun l63 =>
 .call false 72 [g l63 0,(.int .i64 1),(.pointer (some ⟨r1,0,none⟩))] [] [⟨r1,121,[g l60 1]⟩] .one fun l64 c64 =>
 .pure [] .not [g l64 0] fun v65 =>
 .br v65 (
 .ret (.bool false) []) (
 .pure [] (.bin .add .int) [g l60 0,(.int .i64 1)] fun v66 =>
 .cont 119 C119 [v66,(g (c64.getD 0 []) 0)] [E [(.pointer (some ⟨r0,0,none⟩))],E [(.pointer (some ⟨r1,0,none⟩))],E [(.func (.func 72) #[] #[(.pointer (some ⟨r1,0,none⟩))])],E [(.int .i64 1)],E [(.int .i64 1)],E [(.pointer (some ⟨r0,20,none⟩)),(.pointer (some ⟨r0,21,none⟩)),(.pointer (some ⟨r0,22,none⟩)),(.pointer (some ⟨r0,23,none⟩))],E [(.int .i64 3)],E [g v 23],E [v59],E [(.pointer (some ⟨r0,0,none⟩)),g v 0,g v 1,g v 2,g v 3,g v 4,g v 5,g v 6,g v 7,g v 8,g v 9,g v 10,g v 11,g v 12,g v 13,g v 14,g v 15,g v 16,g v 17,g v 18,g v 19,g v 20,g v 21,g v 22,g v 23,g v 24,g v 25,g v 26,g v 27,g v 28,g v 29,g v 30,g v 31,g v 32,g v 33,g v 34,g v 35,g v 36,g v 37],E [(.pointer (some ⟨r1,0,none⟩)),(.tuple #[])]])) (
 .prim (.makeMap 121 false) [] [] [] .one fun l67 _ =>
 .chk (.eqN r0 r0) <|
 .pure [] .len [g v 29] fun v68 =>
 .loop 133 19 [(.int .i64 0),g l60 1] fun C133 l69 =>
 .pure [] (.bin .lss .int) [g l69 0,v68] fun v70 =>
 .br v70 (
 .pure [] (.idx 5) [g v 29,g l69 0] fun v71 =>
 .load [] v71 5 fun l72 =>
 .newbox fun r2 =>
 .chk (.eqN r2 r2) <|
 .chk (.eqN r2 r2) <|
 .pure [] (.bin .lss .int) [g l72 3,(.int .i64 0)] fun v73 =>
 .br v73 (
 .chk (.eqN r2 r2) <|
 .chk (.eqN r2 r2) <|
 .call false 72 [g l72 1,g l72 0,(.pointer (some ⟨r1,0,none⟩))] [] [⟨r1,121,[g l69 1]⟩] .one fun l74 c74 =>
 .pure [] .not [g l74 0] fun v75 =>
 .br v75 (
 .ret (.bool false) []) (
 .chk (.eqN r2 r2) <|
 .chk (.eqN r2 r2) <|
 .prim (.mapUpdate 121) [g l67 0,g l72 1,g l72 2] [] [] .one fun l76 _ =>
 .pure [] (.bin .add .int) [g l69 0,(.int .i64 1)] fun v77 =>
 .cont 133 C133 [v77,(g (c74.getD 0 []) 0)] [E [(.pointer (some ⟨r0,0,none⟩))],E [(.pointer (some ⟨r1,0,none⟩))],E [(.func (.func 72) #[] #[(.pointer (some ⟨r1,0,none⟩))])],E [g l67 0],E [g v 29],E [v68],E [(.pointer (some ⟨r0,0,none⟩)),g v 0,g v 1,g v 2,g v 3,g v 4,g v 5,g v 6,g v 7,g v 8,g v 9,g v 10,g v 11,g v 12,g v 13,g v 14,g v 15,g v 16,g v 17,g v 18,g v 19,g v 20,g v 21,g v 22,g v 23,g v 24,g v 25,g v 26,g v 27,g v 28,g v 29,g v 30,g v 31,g v 32,g v 33,g v 34,g v 35,g v 36,g v 37],E [(.pointer (some ⟨r1,0,none⟩)),(.tuple #[])]])) (
 .pure [] (.bin .add .int) [g l69 0,(.int .i64 1)] fun v78 =>
 .cont 133 C133 [v78,g l69 1] [E [(.pointer (some ⟨r0,0,none⟩))],E [(.pointer (some ⟨r1,0,none⟩))],E [(.func (.func 72) #[] #[(.pointer (some ⟨r1,0,none⟩))])],E [g l67 0],E [g v 29],E [v68],E [(.pointer (some ⟨r0,0,none⟩)),g v 0,g v 1,g v 2,g v 3,g v 4,g v 5,g v 6,g v 7,g v 8,g v 9,g v 10,g v 11,g v 12,g v 13,g v 14,g v 15,g v 16,g v 17,g v 18,g v 19,g v 20,g v 21,g v 22,g v 23,g v 24,g v 25,g v 26,g v 27,g v 28,g v 29,g v 30,g v 31,g v 32,g v 33,g v 34,g v 35,g v 36,g v 37],E [(.pointer (some ⟨r1,0,none⟩)),(.tuple #[])]])) (
 .chk (.eqN r0 r0) <|
 .pure [] .len [g v 0] fun v79 =>
 .loop 139 27 [(.int .i64 0)] fun C139 l80 =>
 .pure [] (.bin .lss .int) [g l80 0,v79] fun v81 =>
 .br v81 (
 .pure [] (.idx 12) [g v 0,g l80 0] fun v82 =>
 .load [] v82 12 fun l83 =>
 .newbox fun r3 =>
 .chk (.eqN r3 r3) <|
 .chk (.eqN r1 r1) <|
 .chk (.eqN r3 r3) <|
 .prim (.lookup 121 true) [g l69 1,g l83 0] [] [] (.tup [none,none]) fun l84 _ =>
 .chk (.eqN r3 r3) <|
 .prim (.lookup 121 true) [g l67 0,g l83 0] [] [] (.tup [none,none]) fun l85 _ =>
 .chk (.eqN r3 r3) <|
 .call false 74 [(.agg #[g l83 0,g l83 1,g l83 2,g l83 3,g l83 4,g l83 5,g l83 6,g l83 7,g l83 8,g l83 9,g l83 10,g l83 11])] [] [] .one fun l86 _ =>
 .pure [] .not [g l86 0] fun v87 =>
 .chk (.eqV v87 v87) <|
 .pure [] (.bin .gtr .int) [g l80 0,(.int .i64 0)] fun v88 =>
 .chk (.eqV v87 v87) <|
 .chk (.eqN r0 r0) <|
 .chk (.eqV v88 v88) <|
 .chk (.eqV v87 v87) <|
 .chk (.eqV v88 v88) <|
 .chk (.eqV v87 v87) <|
 .pure [] (.bin .sub .int) [g l80 0,(.int .i64 1)] fun v89 =>
 .chk (.eqV v88 v88) <|
 .chk (.eqV v87 v87) <|
 .chk (.eqV v88 v88) <|
 .chk (.eqV v87 v87) <|
 .pure [(v88,true),(v87,false)] (.idx 12) [g v 0,v89] fun v90 =>
 .chk (.ptr [(v88,true),(v87,false)] v90) <|
 .chk (.eqV v88 v88) <|
 .chk (.eqV v87 v87) <|
 .chk (.eqV v88 v88) <|
 .chk (.eqV v87 v87) <|
 .load [(v88,true),(v87,false)] v90 1 fun l91 =>
 .chk (.eqN r3 r3) <|
 .chk (.eqV v88 v88) <|
 .chk (.eqV v87 v87) <|
 .chk (.eqV v88 v88) <|
 .chk (.eqV v87 v87) <|
 .chk (.eqV v88 v88) <|
 .chk (.eqV v87 v87) <|
 .pure [] (.bin .geq .int) [g l91 0,g l83 0] fun v92 =>
 .chk (.eqV v87 v87) <|
 .chk (.eqV v88 v88) <|
 .chk (.eqV v87 v87) <|
 .pure [] .pick [v88,v92,(.bool false)] fun v93 =>
 .chk (.eqV v87 v87) <|
 .pure [] .pick [v87,(.bool true),v93] fun v94 =>
 .chk (.eqV v94 v94) <|
 .pure [] .not [g l84 1] fun v95 =>
 .chk (.eqV v94 v94) <|
 .pure [] .pick [v94,(.bool true),v95] fun v96 =>
 .chk (.eqN r3 r3) <|
 .chk (.eqV v96 v96) <|
 .chk (.eqV v96 v96) <|
 .chk (.eqV v96 v96) <|
 .pure [] (.bin .neq .int) [g l84 0,g l83 2] fun v97 =>
 .chk (.eqV v96 v96) <|
 .pure [] .pick [v96,(.bool true),v97] fun v98 =>
 .chk (.eqV v98 v98) <|
 .chk (.eqN r3 r3) <|
 .chk (.eqV (g l85 1) (g l85 1)) <|
 .chk (.eqV v98 v98) <|
 .chk (.eqV (g l85 1) (g l85 1)) <|
 .chk (.eqV v98 v98) <|
 .chk (.eqV (g l85 1) (g l85 1)) <|
 .chk (.eqV v98 v98) <|
 .pure [] (.bin .neq .int) [g l85 0,g l83 1] fun v99 =>
 .chk (.eqV v98 v98) <|
 .chk (.eqV (g l85 1) (g l85 1)) <|
 .chk (.eqV v98 v98) <|
 .pure [] .pick [g l85 1,v99,(.bool false)] fun v100 =>
 .chk (.eqV v98 v98) <|
 .pure [] .pick [v98,(.bool true),v100] fun v101 =>
 .br v101 (
 .ret (.bool false) []) (
 .pure [] (.bin .add .int) [g l80 0,(.int .i64 1)] fun v102 =>
 .cont 139 C139 [v102] [E [(.pointer (some ⟨r0,0,none⟩))],E [(.pointer (some ⟨r1,0,none⟩))],E [g l67 0],E [g v 0],E [v79],E [(.pointer (some ⟨r0,0,none⟩)),g v 0,g v 1,g v 2,g v 3,g v 4,g v 5,g v 6,g v 7,g v 8,g v 9,g v 10,g v 11,g v 12,g v 13,g v 14,g v 15,g v 16,g v 17,g v 18,g v 19,g v 20,g v 21,g v 22,g v 23,g v 24,g v 25,g v 26,g v 27,g v 28,g v 29,g v 30,g v 31,g v 32,g v 33,g v 34,g v 35,g v 36,g v 37],E [(.pointer (some ⟨r1,0,none⟩)),g l69 1]])) (
 .chk (.eqN r1 r1) <|
 .prim (.bi .len #[121] 3) [g l69 1] [] [] .one fun l103 _ =>
 .chk (.eqN r0 r0) <|
 .pure [] .len [g v 0] fun v104 =>
 .pure [] (.bin .eql .int) [g l103 0,v104] fun v105 =>
 .ret v105 []))))))))))
theorem T_board_placed_eq (vs : List Value) : sxFun PP Try.f49 (mkOpts okL [(73, [5, 6, 7, 8])] [(4, .unroll 3), (7, .unroll 5), (10, .inv [35] [1, 3, 4, 5, 21, 27, 28, 33, 34] [(1, []), (3, [0])]), (19, .inv [51] [1, 3, 4, 10, 49, 50] [(1, []), (3, [0])]), (27, .inv [74] [1, 3, 10, 72, 73] [(1, []), (3, [])])] []) vs = T_board_placed vs := by kernel_rfl
theorem run_board_placed {args vs} (ha : entryArgs PP Try.f49 args = some vs) (ho : Ones vs) {H O Q} (h : (T_board_placed vs).den PP Q H O) : Triple PP F_board_placed args H O Q :=
 triple_run mixed (mkOpts_ok okL_ok _ _ _) Try.func49 T_board_placed_eq ha ho h
end Go.Proofs.Ytbaegnnmedjkmaa
