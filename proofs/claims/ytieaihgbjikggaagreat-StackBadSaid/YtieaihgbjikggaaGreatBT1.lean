/- The trees of the functions of this seat: printed by a tool of mine; each by the kernel's reckoning equal to the evaluator's. -/
import Derived.Test.YtieaihgbjikggaaGreatFw2
import Derived.Test.YtieaihgbjikggaaGreatProg
import Derived.KernelRfl
namespace Go.Proofs.YtieaihgbjikggaaGreat
open Go Go.Sx
set_option maxRecDepth 100000
noncomputable abbrev PP : Program := Tryz.prog
theorem mixed : PP.follows .mixedOrders = true := by kernel_rfl
def okL : List Nat := [2, 3, 4, 5, 6, 7, 8, 9, 10, 11, 12, 13, 14, 15, 16, 17, 18, 19, 20, 21, 22, 23, 24, 25, 26, 27, 28, 29, 30, 31, 32, 33, 34, 35, 36, 37, 38, 39, 40, 41, 42, 43, 44, 45, 46, 47, 48, 49, 50, 51, 52, 53, 54, 55, 56, 57, 58, 59, 60, 61, 62, 63, 64, 65, 66, 67, 68, 69, 70, 71, 72, 73, 74, 75, 76, 77, 78, 79, 80, 81, 82, 83, 84, 85, 86, 87, 88, 89, 90, 91, 92, 93, 94, 95, 96, 97, 98, 99, 100, 101, 102, 103, 104, 105, 106, 107, 108, 109, 110, 111, 112, 113, 114, 115, 116, 117, 118, 119, 120, 121, 122, 123, 124, 125, 126, 127, 128, 129, 130, 131, 132, 133, 134, 135, 136, 137, 138, 139, 140, 141, 142, 143, 144, 145, 146, 147, 148, 149]
theorem okL_ok : okL.all (okFnB PP) = true := by kernel_rfl
abbrev Ty_int : TypeId := 3
abbrev Ty_bool : TypeId := 4
abbrev Ty_api_Mana : TypeId := 25
abbrev Ty_api_Item : TypeId := 41
abbrev Ty_api_Target : TypeId := 43
abbrev Ty_api_Object : TypeId := 76
abbrev Ty_api_Block : TypeId := 123
abbrev Ty_map_int_int : TypeId := 150
abbrev Ty_map_int_bool : TypeId := 152
abbrev F_zeitnotlaw18_StackBad : FuncId := 5
/- zeitnot/zeitnotlaw18.StackBad -/
def T_zeitnotlaw18_StackBad (v : List Value) : Tree :=
 .newbox fun r0 =>
 .newbox fun r1 =>
 .newbox fun r2 =>
 .call false 8 [g v 0] [] [] .one fun l0 _ =>
 .pure [] .not [g l0 0] fun v1 =>
 .br v1 (
 .call false 11 [] [] [] .one fun l2 _ =>
 .ret (g l2 0) []) (
 .chk (.eqN r0 r0) <|
 .call false 9 [(.agg #[g v 1,g v 2,g v 3,g v 4,g v 5,g v 6,g v 7,g v 8,g v 9,g v 10,g v 11,g v 12,g v 13,g v 14,g v 15,g v 16,g v 17,g v 18,g v 19,g v 20,g v 21,g v 22,g v 23,g v 24,g v 25,g v 26,g v 27,g v 28,g v 29,g v 30,g v 31,g v 32,g v 33,g v 34,g v 35,g v 36,g v 37,g v 38])] [] [] .one fun l3 _ =>
 .pure [] .not [g l3 0] fun v4 =>
 .br v4 (
 .call false 11 [] [] [] .one fun l5 _ =>
 .ret (g l5 0) []) (
 .chk (.eqN r0 r0) <|
 .call false 10 [(.agg #[g v 1,g v 2,g v 3,g v 4,g v 5,g v 6,g v 7,g v 8,g v 9,g v 10,g v 11,g v 12,g v 13,g v 14,g v 15,g v 16,g v 17,g v 18,g v 19,g v 20,g v 21,g v 22,g v 23,g v 24,g v 25,g v 26,g v 27,g v 28,g v 29,g v 30,g v 31,g v 32,g v 33,g v 34,g v 35,g v 36,g v 37,g v 38])] [] [] .one fun l6 _ =>
 .chk (.eqN r2 r2) <|
 .chk (.eqV (g l6 0) (g l6 0)) <|
 .chk (.eqV (g l6 0) (g l6 0)) <|
 .pure [] .len [g v 46] fun v7 =>
 .chk (.eqV (g l6 0) (g l6 0)) <|
 .pure [] (.bin .gtr .int) [v7,(.int .i64 6)] fun v8 =>
 .chk (.eqV (g l6 0) (g l6 0)) <|
 .pure [] .pick [g l6 0,(.bool true),v8] fun v9 =>
 .br v9 (
 .call false 11 [] [] [] .one fun l10 _ =>
 .ret (g l10 0) []) (
 .chk (.eqN r0 r0) <|
 .call false 17 [(.agg #[g v 1,g v 2,g v 3,g v 4,g v 5,g v 6,g v 7,g v 8,g v 9,g v 10,g v 11,g v 12,g v 13,g v 14,g v 15,g v 16,g v 17,g v 18,g v 19,g v 20,g v 21,g v 22,g v 23,g v 24,g v 25,g v 26,g v 27,g v 28,g v 29,g v 30,g v 31,g v 32,g v 33,g v 34,g v 35,g v 36,g v 37,g v 38])] [] [] (.agg 38) fun l11 _ =>
 .newbox fun r3 =>
 .chk (.eqN r3 r3) <|
 .chk (.eqN r0 r0) <|
 .call false 18 [(.agg #[g v 1,g v 2,g v 3,g v 4,g v 5,g v 6,g v 7,g v 8,g v 9,g v 10,g v 11,g v 12,g v 13,g v 14,g v 15,g v 16,g v 17,g v 18,g v 19,g v 20,g v 21,g v 22,g v 23,g v 24,g v 25,g v 26,g v 27,g v 28,g v 29,g v 30,g v 31,g v 32,g v 33,g v 34,g v 35,g v 36,g v 37,g v 38]),g v 39] [] [] (.tup [some 38,none]) fun l12 _ =>
 .newbox fun r4 =>
 .chk (.eqN r4 r4) <|
 .chk (.eqN r0 r0) <|
 .chk (.eqN r2 r2) <|
 .call false 19 [(.agg #[g v 1,g v 2,g v 3,g v 4,g v 5,g v 6,g v 7,g v 8,g v 9,g v 10,g v 11,g v 12,g v 13,g v 14,g v 15,g v 16,g v 17,g v 18,g v 19,g v 20,g v 21,g v 22,g v 23,g v 24,g v 25,g v 26,g v 27,g v 28,g v 29,g v 30,g v 31,g v 32,g v 33,g v 34,g v 35,g v 36,g v 37,g v 38]),(.agg #[g v 42,g v 43,g v 44,g v 45,g v 46])] [] [] (.tup [some 38,none]) fun l13 _ =>
 .newbox fun r5 =>
 .chk (.eqN r5 r5) <|
 .chk (.eqN r0 r0) <|
 .chk (.eqN r1 r1) <|
 .call false 20 [g v 0,(.agg #[g v 1,g v 2,g v 3,g v 4,g v 5,g v 6,g v 7,g v 8,g v 9,g v 10,g v 11,g v 12,g v 13,g v 14,g v 15,g v 16,g v 17,g v 18,g v 19,g v 20,g v 21,g v 22,g v 23,g v 24,g v 25,g v 26,g v 27,g v 28,g v 29,g v 30,g v 31,g v 32,g v 33,g v 34,g v 35,g v 36,g v 37,g v 38]),(.agg #[g v 40,g v 41])] [] [] (.tup [some 38,none]) fun l14 _ =>
 .newbox fun r6 =>
 .chk (.eqN r6 r6) <|
 .chk (.eqN r0 r0) <|
 .call false 21 [(.agg #[g v 1,g v 2,g v 3,g v 4,g v 5,g v 6,g v 7,g v 8,g v 9,g v 10,g v 11,g v 12,g v 13,g v 14,g v 15,g v 16,g v 17,g v 18,g v 19,g v 20,g v 21,g v 22,g v 23,g v 24,g v 25,g v 26,g v 27,g v 28,g v 29,g v 30,g v 31,g v 32,g v 33,g v 34,g v 35,g v 36,g v 37,g v 38])] [] [] (.tup [some 38,some 5,none]) fun l15 _ =>
 .newbox fun r7 =>
 .newbox fun r8 =>
 .chk (.eqN r7 r7) <|
 .chk (.eqN r8 r8) <|
 .chk (.eqN r0 r0) <|
 .call false 22 [(.agg #[g v 1,g v 2,g v 3,g v 4,g v 5,g v 6,g v 7,g v 8,g v 9,g v 10,g v 11,g v 12,g v 13,g v 14,g v 15,g v 16,g v 17,g v 18,g v 19,g v 20,g v 21,g v 22,g v 23,g v 24,g v 25,g v 26,g v 27,g v 28,g v 29,g v 30,g v 31,g v 32,g v 33,g v 34,g v 35,g v 36,g v 37,g v 38]),g v 39] [] [] (.tup [some 38,none]) fun l16 _ =>
 .newbox fun r9 =>
 .chk (.eqN r9 r9) <|
 .chk (.eqN r4 r4) <|
 .chk (.eqN r0 r0) <|
 .chk (.eqN r3 r3) <|
 .call false 23 [(.agg #[g l12 0,g l12 1,g l12 2,g l12 3,g l12 4,g l12 5,g l12 6,g l12 7,g l12 8,g l12 9,g l12 10,g l12 11,g l12 12,g l12 13,g l12 14,g l12 15,g l12 16,g l12 17,g l12 18,g l12 19,g l12 20,g l12 21,g l12 22,g l12 23,g l12 24,g l12 25,g l12 26,g l12 27,g l12 28,g l12 29,g l12 30,g l12 31,g l12 32,g l12 33,g l12 34,g l12 35,g l12 36,g l12 37]),g l12 38,(.agg #[(.slice none 0 0),(.int .i64 0),(.int .i64 0),(.int .i64 0),(.int .i64 0),(.int .i64 0),(.slice none 0 0),(.slice none 0 0),(.slice none 0 0),(.slice none 0 0),(.bool false),(.bool false),(.bool false),(.int .i64 0),(.int .i64 0),(.int .i64 0),(.int .i64 0),(.int .i64 0),(.int .i64 0),(.int .i64 0),(.slice none 0 0),(.slice none 0 0),(.slice none 0 0),(.slice none 0 0),(.bool false),(.bool false),(.bool false),(.int .i64 0),(.int .i64 0),(.slice none 0 0),(.slice none 0 0),(.slice none 0 0),(.slice none 0 0),(.int .i64 0),(.int .i64 0),(.int .i64 0),(.int .i64 0),(.int .i64 0)]),(.int .i64 2),(.agg #[g v 1,g v 2,g v 3,g v 4,g v 5,g v 6,g v 7,g v 8,g v 9,g v 10,g v 11,g v 12,g v 13,g v 14,g v 15,g v 16,g v 17,g v 18,g v 19,g v 20,g v 21,g v 22,g v 23,g v 24,g v 25,g v 26,g v 27,g v 28,g v 29,g v 30,g v 31,g v 32,g v 33,g v 34,g v 35,g v 36,g v 37,g v 38]),(.agg #[g l11 0,g l11 1,g l11 2,g l11 3,g l11 4,g l11 5,g l11 6,g l11 7,g l11 8,g l11 9,g l11 10,g l11 11,g l11 12,g l11 13,g l11 14,g l11 15,g l11 16,g l11 17,g l11 18,g l11 19,g l11 20,g l11 21,g l11 22,g l11 23,g l11 24,g l11 25,g l11 26,g l11 27,g l11 28,g l11 29,g l11 30,g l11 31,g l11 32,g l11 33,g l11 34,g l11 35,g l11 36,g l11 37])] [] [] .one fun l17 _ =>
 .br (g l17 0) (
 .chk (.eqN r5 r5) <|
 .chk (.eqN r0 r0) <|
 .chk (.eqN r3 r3) <|
 .call false 23 [(.agg #[g l13 0,g l13 1,g l13 2,g l13 3,g l13 4,g l13 5,g l13 6,g l13 7,g l13 8,g l13 9,g l13 10,g l13 11,g l13 12,g l13 13,g l13 14,g l13 15,g l13 16,g l13 17,g l13 18,g l13 19,g l13 20,g l13 21,g l13 22,g l13 23,g l13 24,g l13 25,g l13 26,g l13 27,g l13 28,g l13 29,g l13 30,g l13 31,g l13 32,g l13 33,g l13 34,g l13 35,g l13 36,g l13 37]),g l13 38,(.agg #[(.slice none 0 0),(.int .i64 0),(.int .i64 0),(.int .i64 0),(.int .i64 0),(.int .i64 0),(.slice none 0 0),(.slice none 0 0),(.slice none 0 0),(.slice none 0 0),(.bool false),(.bool false),(.bool false),(.int .i64 0),(.int .i64 0),(.int .i64 0),(.int .i64 0),(.int .i64 0),(.int .i64 0),(.int .i64 0),(.slice none 0 0),(.slice none 0 0),(.slice none 0 0),(.slice none 0 0),(.bool false),(.bool false),(.bool false),(.int .i64 0),(.int .i64 0),(.slice none 0 0),(.slice none 0 0),(.slice none 0 0),(.slice none 0 0),(.int .i64 0),(.int .i64 0),(.int .i64 0),(.int .i64 0),(.int .i64 0)]),(.int .i64 2),(.agg #[g v 1,g v 2,g v 3,g v 4,g v 5,g v 6,g v 7,g v 8,g v 9,g v 10,g v 11,g v 12,g v 13,g v 14,g v 15,g v 16,g v 17,g v 18,g v 19,g v 20,g v 21,g v 22,g v 23,g v 24,g v 25,g v 26,g v 27,g v 28,g v 29,g v 30,g v 31,g v 32,g v 33,g v 34,g v 35,g v 36,g v 37,g v 38]),(.agg #[g l11 0,g l11 1,g l11 2,g l11 3,g l11 4,g l11 5,g l11 6,g l11 7,g l11 8,g l11 9,g l11 10,g l11 11,g l11 12,g l11 13,g l11 14,g l11 15,g l11 16,g l11 17,g l11 18,g l11 19,g l11 20,g l11 21,g l11 22,g l11 23,g l11 24,g l11 25,g l11 26,g l11 27,g l11 28,g l11 29,g l11 30,g l11 31,g l11 32,g l11 33,g l11 34,g l11 35,g l11 36,g l11 37])] [] [] .one fun l18 _ =>
 .br (g l18 0) (
 .chk (.eqN r6 r6) <|
 .chk (.eqN r0 r0) <|
 .chk (.eqN r3 r3) <|
 .call false 23 [(.agg #[g l14 0,g l14 1,g l14 2,g l14 3,g l14 4,g l14 5,g l14 6,g l14 7,g l14 8,g l14 9,g l14 10,g l14 11,g l14 12,g l14 13,g l14 14,g l14 15,g l14 16,g l14 17,g l14 18,g l14 19,g l14 20,g l14 21,g l14 22,g l14 23,g l14 24,g l14 25,g l14 26,g l14 27,g l14 28,g l14 29,g l14 30,g l14 31,g l14 32,g l14 33,g l14 34,g l14 35,g l14 36,g l14 37]),g l14 38,(.agg #[(.slice none 0 0),(.int .i64 0),(.int .i64 0),(.int .i64 0),(.int .i64 0),(.int .i64 0),(.slice none 0 0),(.slice none 0 0),(.slice none 0 0),(.slice none 0 0),(.bool false),(.bool false),(.bool false),(.int .i64 0),(.int .i64 0),(.int .i64 0),(.int .i64 0),(.int .i64 0),(.int .i64 0),(.int .i64 0),(.slice none 0 0),(.slice none 0 0),(.slice none 0 0),(.slice none 0 0),(.bool false),(.bool false),(.bool false),(.int .i64 0),(.int .i64 0),(.slice none 0 0),(.slice none 0 0),(.slice none 0 0),(.slice none 0 0),(.int .i64 0),(.int .i64 0),(.int .i64 0),(.int .i64 0),(.int .i64 0)]),(.int .i64 2),(.agg #[g v 1,g v 2,g v 3,g v 4,g v 5,g v 6,g v 7,g v 8,g v 9,g v 10,g v 11,g v 12,g v 13,g v 14,g v 15,g v 16,g v 17,g v 18,g v 19,g v 20,g v 21,g v 22,g v 23,g v 24,g v 25,g v 26,g v 27,g v 28,g v 29,g v 30,g v 31,g v 32,g v 33,g v 34,g v 35,g v 36,g v 37,g v 38]),(.agg #[g l11 0,g l11 1,g l11 2,g l11 3,g l11 4,g l11 5,g l11 6,g l11 7,g l11 8,g l11 9,g l11 10,g l11 11,g l11 12,g l11 13,g l11 14,g l11 15,g l11 16,g l11 17,g l11 18,g l11 19,g l11 20,g l11 21,g l11 22,g l11 23,g l11 24,g l11 25,g l11 26,g l11 27,g l11 28,g l11 29,g l11 30,g l11 31,g l11 32,g l11 33,g l11 34,g l11 35,g l11 36,g l11 37])] [] [] .one fun l19 _ =>
 .br (g l19 0) (
 .chk (.eqN r7 r7) <|
 .chk (.eqN r0 r0) <|
 .chk (.eqN r3 r3) <|
 .call false 23 [(.agg #[g l15 0,g l15 1,g l15 2,g l15 3,g l15 4,g l15 5,g l15 6,g l15 7,g l15 8,g l15 9,g l15 10,g l15 11,g l15 12,g l15 13,g l15 14,g l15 15,g l15 16,g l15 17,g l15 18,g l15 19,g l15 20,g l15 21,g l15 22,g l15 23,g l15 24,g l15 25,g l15 26,g l15 27,g l15 28,g l15 29,g l15 30,g l15 31,g l15 32,g l15 33,g l15 34,g l15 35,g l15 36,g l15 37]),g l15 43,(.agg #[(.slice none 0 0),(.int .i64 0),(.int .i64 0),(.int .i64 0),(.int .i64 0),(.int .i64 0),(.slice none 0 0),(.slice none 0 0),(.slice none 0 0),(.slice none 0 0),(.bool false),(.bool false),(.bool false),(.int .i64 0),(.int .i64 0),(.int .i64 0),(.int .i64 0),(.int .i64 0),(.int .i64 0),(.int .i64 0),(.slice none 0 0),(.slice none 0 0),(.slice none 0 0),(.slice none 0 0),(.bool false),(.bool false),(.bool false),(.int .i64 0),(.int .i64 0),(.slice none 0 0),(.slice none 0 0),(.slice none 0 0),(.slice none 0 0),(.int .i64 0),(.int .i64 0),(.int .i64 0),(.int .i64 0),(.int .i64 0)]),(.int .i64 2),(.agg #[g v 1,g v 2,g v 3,g v 4,g v 5,g v 6,g v 7,g v 8,g v 9,g v 10,g v 11,g v 12,g v 13,g v 14,g v 15,g v 16,g v 17,g v 18,g v 19,g v 20,g v 21,g v 22,g v 23,g v 24,g v 25,g v 26,g v 27,g v 28,g v 29,g v 30,g v 31,g v 32,g v 33,g v 34,g v 35,g v 36,g v 37,g v 38]),(.agg #[g l11 0,g l11 1,g l11 2,g l11 3,g l11 4,g l11 5,g l11 6,g l11 7,g l11 8,g l11 9,g l11 10,g l11 11,g l11 12,g l11 13,g l11 14,g l11 15,g l11 16,g l11 17,g l11 18,g l11 19,g l11 20,g l11 21,g l11 22,g l11 23,g l11 24,g l11 25,g l11 26,g l11 27,g l11 28,g l11 29,g l11 30,g l11 31,g l11 32,g l11 33,g l11 34,g l11 35,g l11 36,g l11 37])] [] [] .one fun l20 _ =>
 .br (g l20 0) (
 .chk (.eqN r8 r8) <|
 .call false 24 [(.agg #[g l15 38,g l15 39,g l15 40,g l15 41,g l15 42]),(.agg #[(.int .i64 0),(.int .i64 0),(.int .i64 0),(.int .i64 0),(.slice none 0 0)])] [] [] .one fun l21 _ =>
 .br (g l21 0) (
 .chk (.eqN r9 r9) <|
 .chk (.eqN r0 r0) <|
 .chk (.eqN r3 r3) <|
 .call false 23 [(.agg #[g l16 0,g l16 1,g l16 2,g l16 3,g l16 4,g l16 5,g l16 6,g l16 7,g l16 8,g l16 9,g l16 10,g l16 11,g l16 12,g l16 13,g l16 14,g l16 15,g l16 16,g l16 17,g l16 18,g l16 19,g l16 20,g l16 21,g l16 22,g l16 23,g l16 24,g l16 25,g l16 26,g l16 27,g l16 28,g l16 29,g l16 30,g l16 31,g l16 32,g l16 33,g l16 34,g l16 35,g l16 36,g l16 37]),g l16 38,(.agg #[(.slice none 0 0),(.int .i64 0),(.int .i64 0),(.int .i64 0),(.int .i64 0),(.int .i64 0),(.slice none 0 0),(.slice none 0 0),(.slice none 0 0),(.slice none 0 0),(.bool false),(.bool false),(.bool false),(.int .i64 0),(.int .i64 0),(.int .i64 0),(.int .i64 0),(.int .i64 0),(.int .i64 0),(.int .i64 0),(.slice none 0 0),(.slice none 0 0),(.slice none 0 0),(.slice none 0 0),(.bool false),(.bool false),(.bool false),(.int .i64 0),(.int .i64 0),(.slice none 0 0),(.slice none 0 0),(.slice none 0 0),(.slice none 0 0),(.int .i64 0),(.int .i64 0),(.int .i64 0),(.int .i64 0),(.int .i64 0)]),(.int .i64 2),(.agg #[g v 1,g v 2,g v 3,g v 4,g v 5,g v 6,g v 7,g v 8,g v 9,g v 10,g v 11,g v 12,g v 13,g v 14,g v 15,g v 16,g v 17,g v 18,g v 19,g v 20,g v 21,g v 22,g v 23,g v 24,g v 25,g v 26,g v 27,g v 28,g v 29,g v 30,g v 31,g v 32,g v 33,g v 34,g v 35,g v 36,g v 37,g v 38]),(.agg #[g l11 0,g l11 1,g l11 2,g l11 3,g l11 4,g l11 5,g l11 6,g l11 7,g l11 8,g l11 9,g l11 10,g l11 11,g l11 12,g l11 13,g l11 14,g l11 15,g l11 16,g l11 17,g l11 18,g l11 19,g l11 20,g l11 21,g l11 22,g l11 23,g l11 24,g l11 25,g l11 26,g l11 27,g l11 28,g l11 29,g l11 30,g l11 31,g l11 32,g l11 33,g l11 34,g l11 35,g l11 36,g l11 37])] [] [] .one fun l22 _ =>
 .br (g l22 0) (
 .chk (.eqN r0 r0) <|
 .call false 13 [g v 0,(.agg #[g v 1,g v 2,g v 3,g v 4,g v 5,g v 6,g v 7,g v 8,g v 9,g v 10,g v 11,g v 12,g v 13,g v 14,g v 15,g v 16,g v 17,g v 18,g v 19,g v 20,g v 21,g v 22,g v 23,g v 24,g v 25,g v 26,g v 27,g v 28,g v 29,g v 30,g v 31,g v 32,g v 33,g v 34,g v 35,g v 36,g v 37,g v 38])] [] [] .one fun l23 _ =>
 .pure [] (.bin .eql .int) [g l23 0,(.int .i64 0)] fun v24 =>
 .br v24 (
 .call false 11 [] [] [] .one fun l25 _ =>
 .ret (g l25 0) []) (
 .ret (.bool false) [])) (
 .ret (.bool false) [])) (
 .ret (.bool false) [])) (
 .ret (.bool false) [])) (
 .ret (.bool false) [])) (
 .ret (.bool false) [])) (
 .ret (.bool false) []))))
theorem T_zeitnotlaw18_StackBad_eq (vs : List Value) : sxFun PP Tryz.f5 (mkOpts okL [(81, [5, 6, 7, 8])] [] []) vs = T_zeitnotlaw18_StackBad vs := by kernel_rfl
theorem run_zeitnotlaw18_StackBad {args vs} (ha : entryArgs PP Tryz.f5 args = some vs) (ho : Ones vs) {H O Q} (h : (T_zeitnotlaw18_StackBad vs).den PP Q H O) : Triple PP F_zeitnotlaw18_StackBad args H O Q :=
 triple_run mixed (mkOpts_ok okL_ok _ _ _) Tryz.func5 T_zeitnotlaw18_StackBad_eq ha ho h
abbrev F_zeitnotlaw18_light : FuncId := 8
/- zeitnot/zeitnotlaw18.light -/
def T_zeitnotlaw18_light (v : List Value) : Tree :=
 .loop 2 2 [(.int .i64 0)] fun C2 l0 =>
 .pure [] .len [g v 0] fun v1 =>
 .pure [] (.bin .lss .int) [g l0 0,v1] fun v2 =>
 .chk (.eqV v2 v2) <|
 .pure [] (.bin .lss .int) [g l0 0,(.int .i64 13)] fun v3 =>
 .chk (.eqV v2 v2) <|
 .pure [] .pick [v2,v3,(.bool false)] fun v4 =>
 .br v4 (
 .pure [] (.idx 14) [g v 0,g l0 0] fun v5 =>
 .chk (.ptr [] v5) <|
 .load [] (ptrAdd v5 11) 1 fun l6 =>
 .pure [] .len [g l6 0] fun v7 =>
 .pure [] (.bin .gtr .int) [v7,(.int .i64 5)] fun v8 =>
 .chk (.eqV v8 v8) <|
 .chk (.eqV v8 v8) <|
 .pure [(v8,false)] (.idx 14) [g v 0,g l0 0] fun v9 =>
 .chk (.ptr [(v8,false)] v9) <|
 .chk (.eqV v8 v8) <|
 .chk (.eqV v8 v8) <|
 .load [(v8,false)] (ptrAdd v9 12) 1 fun l10 =>
 .chk (.eqV v8 v8) <|
 .pure [] .len [g l10 0] fun v11 =>
 .chk (.eqV v8 v8) <|
 .pure [] (.bin .gtr .int) [v11,(.int .i64 3)] fun v12 =>
 .chk (.eqV v8 v8) <|
 .pure [] .pick [v8,(.bool true),v12] fun v13 =>
 .br v13 (
 .ret (.bool false) []) (
 .loop 28 7 [(.int .i64 0)] fun C28 l14 =>
 .pure [] (.idx 14) [g v 0,g l0 0] fun v15 =>
 .chk (.ptr [] v15) <|
 .load [] (ptrAdd v15 12) 1 fun l16 =>
 .pure [] .len [g l16 0] fun v17 =>
 .pure [] (.bin .lss .int) [g l14 0,v17] fun v18 =>
 .br v18 (
 .pure [] (.idx 14) [g v 0,g l0 0] fun v19 =>
 .chk (.ptr [] v19) <|
 .load [] (ptrAdd v19 12) 1 fun l20 =>
 .pure [] (.idx 2) [g l20 0,g l14 0] fun v21 =>
 .chk (.ptr [] v21) <|
 .load [] (ptrAdd v21 1) 1 fun l22 =>
 .pure [] .len [g l22 0] fun v23 =>
 .pure [] (.bin .gtr .int) [v23,(.int .i64 5)] fun v24 =>
 .br v24 (
 .ret (.bool false) []) (
 .pure [] (.bin .add .int) [g l14 0,(.int .i64 1)] fun v25 =>
 .cont 28 C28 [v25] [E [g v 0],E [g l0 0]])) (
 .pure [] (.bin .add .int) [g l0 0,(.int .i64 1)] fun v26 =>
 .cont 2 C2 [v26] [E [g v 0]]))) (
 .pure [] .len [g v 0] fun v27 =>
 .pure [] (.bin .leq .int) [v27,(.int .i64 12)] fun v28 =>
 .ret v28 [])
theorem T_zeitnotlaw18_light_eq (vs : List Value) : sxFun PP Tryz.f8 (mkOpts okL [(81, [5, 6, 7, 8])] [(2, .inv [3] [0] []), (7, .inv [4] [0, 3] [])] []) vs = T_zeitnotlaw18_light vs := by kernel_rfl
theorem run_zeitnotlaw18_light {args vs} (ha : entryArgs PP Tryz.f8 args = some vs) (ho : Ones vs) {H O Q} (h : (T_zeitnotlaw18_light vs).den PP Q H O) : Triple PP F_zeitnotlaw18_light args H O Q :=
 triple_run mixed (mkOpts_ok okL_ok _ _ _) Tryz.func8 T_zeitnotlaw18_light_eq ha ho h
abbrev F_zeitnotlaw18_small : FuncId := 9
/- zeitnot/zeitnotlaw18.small -/
def T_zeitnotlaw18_small (v : List Value) : Tree :=
 .newbox fun r0 =>
 .chk (.eqN r0 r0) <|
 .call false 30 [(.agg #[g v 1,g v 2,g v 3,g v 4,g v 5,g v 6,g v 7,g v 8,g v 9,g v 10,g v 11,g v 12,g v 13,g v 14])] [] [] (.agg 4) fun l0 _ =>
 .pure [] .len [g l0 0] fun v1 =>
 .pure [] (.bin .gtr .int) [v1,(.int .i64 40)] fun v2 =>
 .br v2 (
 .ret (.bool false) []) (
 .pure [] .len [g l0 1] fun v3 =>
 .pure [] (.bin .gtr .int) [v3,(.int .i64 40)] fun v4 =>
 .br v4 (
 .ret (.bool false) []) (
 .pure [] .len [g l0 2] fun v5 =>
 .pure [] (.bin .gtr .int) [v5,(.int .i64 40)] fun v6 =>
 .br v6 (
 .ret (.bool false) []) (
 .pure [] .len [g l0 3] fun v7 =>
 .pure [] (.bin .gtr .int) [v7,(.int .i64 40)] fun v8 =>
 .br v8 (
 .ret (.bool false) []) (
 .chk (.eqN r0 r0) <|
 .call false 30 [(.agg #[g v 15,g v 16,g v 17,g v 18,g v 19,g v 20,g v 21,g v 22,g v 23,g v 24,g v 25,g v 26,g v 27,g v 28])] [] [] (.agg 4) fun l9 _ =>
 .pure [] .len [g l9 0] fun v10 =>
 .pure [] (.bin .gtr .int) [v10,(.int .i64 40)] fun v11 =>
 .br v11 (
 .ret (.bool false) []) (
 .pure [] .len [g l9 1] fun v12 =>
 .pure [] (.bin .gtr .int) [v12,(.int .i64 40)] fun v13 =>
 .br v13 (
 .ret (.bool false) []) (
 .pure [] .len [g l9 2] fun v14 =>
 .pure [] (.bin .gtr .int) [v14,(.int .i64 40)] fun v15 =>
 .br v15 (
 .ret (.bool false) []) (
 .pure [] .len [g l9 3] fun v16 =>
 .pure [] (.bin .gtr .int) [v16,(.int .i64 40)] fun v17 =>
 .br v17 (
 .ret (.bool false) []) (
 .chk (.eqN r0 r0) <|
 .chk (.eqN r0 r0) <|
 .newbox fun r1 =>
 .chk (.eqN r1 r1) <|
 .pure [] .len [g v 29] fun v18 =>
 .pure [] (.bin .gtr .int) [v18,(.int .i64 20)] fun v19 =>
 .br v19 (
 .ret (.bool false) []) (
 .loop 108 16 [(.int .i64 0)] fun C108 l20 =>
 .pure [] .len [g v 29] fun v21 =>
 .pure [] (.bin .lss .int) [g l20 0,v21] fun v22 =>
 .br v22 (
 .pure [] (.idx 5) [g v 29,g l20 0] fun v23 =>
 .chk (.ptr [] v23) <|
 .load [] (ptrAdd v23 4) 1 fun l24 =>
 .pure [] .len [g l24 0] fun v25 =>
 .pure [] (.bin .gtr .int) [v25,(.int .i64 6)] fun v26 =>
 .br v26 (
 .ret (.bool false) []) (
 .pure [] (.bin .add .int) [g l20 0,(.int .i64 1)] fun v27 =>
 .cont 108 C108 [v27] [E [(.pointer (some ⟨r0,0,none⟩))],E [g v 29],E [(.slice (some ⟨r1,0,none⟩) 2 2)],E [(.int .i64 2)],E [(.int .i64 0)],E [(.pointer (some ⟨r0,0,none⟩)),g v 0,g v 1,g v 2,g v 3,g v 4,g v 5,g v 6,g v 7,g v 8,g v 9,g v 10,g v 11,g v 12,g v 13,g v 14,g v 15,g v 16,g v 17,g v 18,g v 19,g v 20,g v 21,g v 22,g v 23,g v 24,g v 25,g v 26,g v 27,g v 28,g v 29,g v 30,g v 31,g v 32,g v 33,g v 34,g v 35,g v 36,g v 37],E [(.pointer (some ⟨r1,0,none⟩)),g v 29,g v 30]])) (
 .chk (.eqN r1 r1) <|
 .pure [] .len [g v 30] fun v28 =>
 .pure [] (.bin .gtr .int) [v28,(.int .i64 20)] fun v29 =>
 .br v29 (
 .ret (.bool false) []) (
 .loop 123 16 [(.int .i64 0)] fun C123 l30 =>
 .pure [] .len [g v 30] fun v31 =>
 .pure [] (.bin .lss .int) [g l30 0,v31] fun v32 =>
 .br v32 (
 .pure [] (.idx 5) [g v 30,g l30 0] fun v33 =>
 .chk (.ptr [] v33) <|
 .load [] (ptrAdd v33 4) 1 fun l34 =>
 .pure [] .len [g l34 0] fun v35 =>
 .pure [] (.bin .gtr .int) [v35,(.int .i64 6)] fun v36 =>
 .br v36 (
 .ret (.bool false) []) (
 .pure [] (.bin .add .int) [g l30 0,(.int .i64 1)] fun v37 =>
 .cont 123 C123 [v37] [E [(.pointer (some ⟨r0,0,none⟩))],E [g v 30],E [(.slice (some ⟨r1,0,none⟩) 2 2)],E [(.int .i64 2)],E [(.int .i64 1)],E [(.pointer (some ⟨r0,0,none⟩)),g v 0,g v 1,g v 2,g v 3,g v 4,g v 5,g v 6,g v 7,g v 8,g v 9,g v 10,g v 11,g v 12,g v 13,g v 14,g v 15,g v 16,g v 17,g v 18,g v 19,g v 20,g v 21,g v 22,g v 23,g v 24,g v 25,g v 26,g v 27,g v 28,g v 29,g v 30,g v 31,g v 32,g v 33,g v 34,g v 35,g v 36,g v 37],E [(.pointer (some ⟨r1,0,none⟩)),g v 29,g v 30]])) (
 .chk (.eqN r0 r0) <|
 .pure [] .len [g v 0] fun v38 =>
 .pure [] (.bin .leq .int) [v38,(.int .i64 30)] fun v39 =>
 .chk (.eqN r0 r0) <|
 .chk (.eqV v39 v39) <|
 .chk (.eqV v39 v39) <|
 .pure [] .len [g v 31] fun v40 =>
 .chk (.eqV v39 v39) <|
 .pure [] (.bin .leq .int) [v40,(.int .i64 30)] fun v41 =>
 .chk (.eqV v39 v39) <|
 .pure [] .pick [v39,v41,(.bool false)] fun v42 =>
 .chk (.eqN r0 r0) <|
 .chk (.eqV v42 v42) <|
 .chk (.eqV v42 v42) <|
 .pure [] .len [g v 32] fun v43 =>
 .chk (.eqV v42 v42) <|
 .pure [] (.bin .leq .int) [v43,(.int .i64 30)] fun v44 =>
 .chk (.eqV v42 v42) <|
 .pure [] .pick [v42,v44,(.bool false)] fun v45 =>
 .ret v45 []))))))))))))
theorem T_zeitnotlaw18_small_eq (vs : List Value) : sxFun PP Tryz.f9 (mkOpts okL [(81, [5, 6, 7, 8])] [(2, .unroll 3), (5, .unroll 5), (11, .unroll 3), (16, .inv [8] [1, 7, 29, 30, 31] [(1, []), (29, [])])] []) vs = T_zeitnotlaw18_small vs := by kernel_rfl
theorem run_zeitnotlaw18_small {args vs} (ha : entryArgs PP Tryz.f9 args = some vs) (ho : Ones vs) {H O Q} (h : (T_zeitnotlaw18_small vs).den PP Q H O) : Triple PP F_zeitnotlaw18_small args H O Q :=
 triple_run mixed (mkOpts_ok okL_ok _ _ _) Tryz.func9 T_zeitnotlaw18_small_eq ha ho h
abbrev F_zeitnotref15_Valid : FuncId := 10
/- zeitnot/zeitnotref15.Valid -/
def T_zeitnotref15_Valid (v : List Value) : Tree :=
 .newbox fun r0 =>
 .chk (.eqN r0 r0) <|
 .pure [] (.bin .lss .int) [g v 34,(.int .i64 0)] fun v0 =>
 .chk (.eqN r0 r0) <|
 .chk (.eqV v0 v0) <|
 .chk (.eqV v0 v0) <|
 .pure [] (.bin .gtr .int) [g v 34,(.int .i64 1)] fun v1 =>
 .chk (.eqV v0 v0) <|
 .pure [] .pick [v0,(.bool true),v1] fun v2 =>
 .chk (.eqN r0 r0) <|
 .chk (.eqV v2 v2) <|
 .chk (.eqV v2 v2) <|
 .pure [] (.bin .lss .int) [g v 33,(.int .i64 0)] fun v3 =>
 .chk (.eqV v2 v2) <|
 .pure [] .pick [v2,(.bool true),v3] fun v4 =>
 .chk (.eqN r0 r0) <|
 .chk (.eqV v4 v4) <|
 .chk (.eqV v4 v4) <|
 .pure [] (.bin .gtr .int) [g v 33,(.int .i64 1000)] fun v5 =>
 .chk (.eqV v4 v4) <|
 .pure [] .pick [v4,(.bool true),v5] fun v6 =>
 .chk (.eqN r0 r0) <|
 .chk (.eqV v6 v6) <|
 .chk (.eqV v6 v6) <|
 .pure [] (.bin .lss .int) [g v 35,(.int .i64 0)] fun v7 =>
 .chk (.eqV v6 v6) <|
 .pure [] .pick [v6,(.bool true),v7] fun v8 =>
 .chk (.eqN r0 r0) <|
 .chk (.eqV v8 v8) <|
 .chk (.eqV v8 v8) <|
 .pure [] (.bin .gtr .int) [g v 35,(.int .i64 10)] fun v9 =>
 .chk (.eqV v8 v8) <|
 .pure [] .pick [v8,(.bool true),v9] fun v10 =>
 .chk (.eqN r0 r0) <|
 .chk (.eqV v10 v10) <|
 .chk (.eqV v10 v10) <|
 .pure [] (.bin .lss .int) [g v 36,(.int .i64 (-1))] fun v11 =>
 .chk (.eqV v10 v10) <|
 .pure [] .pick [v10,(.bool true),v11] fun v12 =>
 .chk (.eqN r0 r0) <|
 .chk (.eqV v12 v12) <|
 .chk (.eqV v12 v12) <|
 .pure [] (.bin .gtr .int) [g v 36,(.int .i64 1)] fun v13 =>
 .chk (.eqV v12 v12) <|
 .pure [] .pick [v12,(.bool true),v13] fun v14 =>
 .chk (.eqN r0 r0) <|
 .chk (.eqV v14 v14) <|
 .chk (.eqV v14 v14) <|
 .pure [] (.bin .lss .int) [g v 37,(.int .i64 0)] fun v15 =>
 .chk (.eqV v14 v14) <|
 .pure [] .pick [v14,(.bool true),v15] fun v16 =>
 .chk (.eqN r0 r0) <|
 .chk (.eqV v16 v16) <|
 .chk (.eqV v16 v16) <|
 .pure [] (.bin .gtr .int) [g v 37,(.int .i64 2)] fun v17 =>
 .chk (.eqV v16 v16) <|
 .pure [] .pick [v16,(.bool true),v17] fun v18 =>
 .chk (.eqN r0 r0) <|
 .chk (.eqV v18 v18) <|
 .chk (.eqV v18 v18) <|
 .pure [] .len [g v 0] fun v19 =>
 .chk (.eqV v18 v18) <|
 .pure [] (.bin .gtr .int) [v19,(.int .i64 500)] fun v20 =>
 .chk (.eqV v18 v18) <|
 .pure [] .pick [v18,(.bool true),v20] fun v21 =>
 .chk (.eqN r0 r0) <|
 .chk (.eqV v21 v21) <|
 .chk (.eqV v21 v21) <|
 .pure [] .len [g v 29] fun v22 =>
 .chk (.eqV v21 v21) <|
 .pure [] (.bin .gtr .int) [v22,(.int .i64 200)] fun v23 =>
 .chk (.eqV v21 v21) <|
 .pure [] .pick [v21,(.bool true),v23] fun v24 =>
 .chk (.eqN r0 r0) <|
 .chk (.eqV v24 v24) <|
 .chk (.eqV v24 v24) <|
 .pure [] .len [g v 30] fun v25 =>
 .chk (.eqV v24 v24) <|
 .pure [] (.bin .gtr .int) [v25,(.int .i64 200)] fun v26 =>
 .chk (.eqV v24 v24) <|
 .pure [] .pick [v24,(.bool true),v26] fun v27 =>
 .br v27 (
 .ret (.bool false) []) (
 .loop 69 4 [(.int .i64 0)] fun C69 l28 =>
 .chk (.eqN r0 r0) <|
 .pure [] .len [g v 29] fun v29 =>
 .pure [] (.bin .lss .int) [g l28 0,v29] fun v30 =>
 .br v30 (
 .chk (.eqN r0 r0) <|
 .pure [] (.idx 5) [g v 29,g l28 0] fun v31 =>
 .load [] v31 5 fun l32 =>
 .call false 31 [(.agg #[g l32 0,g l32 1,g l32 2,g l32 3,g l32 4]),(.bool false)] [] [] .one fun l33 _ =>
 .pure [] .not [g l33 0] fun v34 =>
 .br v34 (
 .ret (.bool false) []) (
 .pure [] (.bin .add .int) [g l28 0,(.int .i64 1)] fun v35 =>
 .cont 69 C69 [v35] [E [(.pointer (some ⟨r0,0,none⟩))],E [(.pointer (some ⟨r0,0,none⟩)),g v 0,g v 1,g v 2,g v 3,g v 4,g v 5,g v 6,g v 7,g v 8,g v 9,g v 10,g v 11,g v 12,g v 13,g v 14,g v 15,g v 16,g v 17,g v 18,g v 19,g v 20,g v 21,g v 22,g v 23,g v 24,g v 25,g v 26,g v 27,g v 28,g v 29,g v 30,g v 31,g v 32,g v 33,g v 34,g v 35,g v 36,g v 37]])) (
 .loop 76 9 [(.int .i64 0)] fun C76 l36 =>
 .chk (.eqN r0 r0) <|
 .pure [] .len [g v 30] fun v37 =>
 .pure [] (.bin .lss .int) [g l36 0,v37] fun v38 =>
 .br v38 (
 .chk (.eqN r0 r0) <|
 .pure [] (.idx 5) [g v 30,g l36 0] fun v39 =>
 .load [] v39 5 fun l40 =>
 .call false 31 [(.agg #[g l40 0,g l40 1,g l40 2,g l40 3,g l40 4]),(.bool true)] [] [] .one fun l41 _ =>
 .pure [] .not [g l41 0] fun v42 =>
 .br v42 (
 .ret (.bool false) []) (
 .pure [] (.bin .add .int) [g l36 0,(.int .i64 1)] fun v43 =>
 .cont 76 C76 [v43] [E [(.pointer (some ⟨r0,0,none⟩))],E [(.pointer (some ⟨r0,0,none⟩)),g v 0,g v 1,g v 2,g v 3,g v 4,g v 5,g v 6,g v 7,g v 8,g v 9,g v 10,g v 11,g v 12,g v 13,g v 14,g v 15,g v 16,g v 17,g v 18,g v 19,g v 20,g v 21,g v 22,g v 23,g v 24,g v 25,g v 26,g v 27,g v 28,g v 29,g v 30,g v 31,g v 32,g v 33,g v 34,g v 35,g v 36,g v 37]])) (
 .chk (.eqN r0 r0) <|
 .call false 32 [(.agg #[g v 1,g v 2,g v 3,g v 4,g v 5,g v 6,g v 7,g v 8,g v 9,g v 10,g v 11,g v 12,g v 13,g v 14])] [] [] .one fun l44 _ =>
 .br (g l44 0) (
 .chk (.eqN r0 r0) <|
 .call false 32 [(.agg #[g v 15,g v 16,g v 17,g v 18,g v 19,g v 20,g v 21,g v 22,g v 23,g v 24,g v 25,g v 26,g v 27,g v 28])] [] [] .one fun l45 _ =>
 .br (g l45 0) (
 .chk (.eqN r0 r0) <|
 .call false 33 [(.agg #[g v 0,g v 1,g v 2,g v 3,g v 4,g v 5,g v 6,g v 7,g v 8,g v 9,g v 10,g v 11,g v 12,g v 13,g v 14,g v 15,g v 16,g v 17,g v 18,g v 19,g v 20,g v 21,g v 22,g v 23,g v 24,g v 25,g v 26,g v 27,g v 28,g v 29,g v 30,g v 31,g v 32,g v 33,g v 34,g v 35,g v 36,g v 37])] [] [] .one fun l46 _ =>
 .br (g l46 0) (
 .chk (.eqN r0 r0) <|
 .call false 34 [(.agg #[g v 0,g v 1,g v 2,g v 3,g v 4,g v 5,g v 6,g v 7,g v 8,g v 9,g v 10,g v 11,g v 12,g v 13,g v 14,g v 15,g v 16,g v 17,g v 18,g v 19,g v 20,g v 21,g v 22,g v 23,g v 24,g v 25,g v 26,g v 27,g v 28,g v 29,g v 30,g v 31,g v 32,g v 33,g v 34,g v 35,g v 36,g v 37])] [] [] .one fun l47 _ =>
 .ret (g l47 0) []) (
 .ret (.bool false) [])) (
 .ret (.bool false) [])) (
 .ret (.bool false) []))))
theorem T_zeitnotref15_Valid_eq (vs : List Value) : sxFun PP Tryz.f10 (mkOpts okL [(81, [5, 6, 7, 8])] [(4, .inv [3] [1] [(1, [])]), (9, .inv [4] [1] [(1, [])])] []) vs = T_zeitnotref15_Valid vs := by kernel_rfl
theorem run_zeitnotref15_Valid {args vs} (ha : entryArgs PP Tryz.f10 args = some vs) (ho : Ones vs) {H O Q} (h : (T_zeitnotref15_Valid vs).den PP Q H O) : Triple PP F_zeitnotref15_Valid args H O Q :=
 triple_run mixed (mkOpts_ok okL_ok _ _ _) Tryz.func10 T_zeitnotref15_Valid_eq ha ho h
abbrev F_zeitnotlaw18_known : FuncId := 11
end Go.Proofs.YtieaihgbjikggaaGreat
