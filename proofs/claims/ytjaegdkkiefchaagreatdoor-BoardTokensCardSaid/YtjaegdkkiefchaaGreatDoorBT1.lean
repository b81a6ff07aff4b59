/- The trees of the functions of this seat: printed by a tool of mine; each by the kernel's reckoning equal to the evaluator's. -/
import Derived.Test.YtjaegdkkiefchaaGreatDoorFw2
import Derived.Test.YtjaegdkkiefchaaGreatDoorProg
import Derived.KernelRfl
namespace Go.Proofs.YtjaegdkkiefchaaGreatDoor
open Go Go.Sx
set_option maxRecDepth 100000
noncomputable abbrev PP : Program := Tryz.prog
theorem mixed : PP.follows .mixedOrders = true := by kernel_rfl
def okL : List Nat := [2, 3, 4, 5, 6, 7, 8, 9, 10, 11, 12, 13, 14, 15, 16, 17, 18, 19, 20, 21, 22, 23, 24, 25, 26, 27, 28, 29, 30, 31, 32, 33, 34, 35, 36, 37, 38, 39, 40, 41, 42, 43, 44, 45, 46, 47, 48, 49, 50, 51, 52, 53, 54, 55, 56, 57, 58, 59, 60, 61, 62, 63, 64, 65, 66, 67, 68, 69, 70, 71, 72, 73, 74, 75, 76, 77, 78, 79, 80, 81, 82, 83, 84, 85, 86, 87, 88, 89, 90, 91, 92, 93, 94, 95, 96, 97, 98, 99, 100, 101, 102, 103, 104, 105, 107, 108, 109, 110, 111, 112, 113, 114, 115, 116, 117, 118, 119, 120, 121, 122, 123, 124, 125, 126, 127, 128, 129, 130, 131, 152]
theorem okL_ok : okL.all (okFnB PP) = true := by kernel_rfl
abbrev Ty_int : TypeId := 3
abbrev Ty_bool : TypeId := 4
abbrev Ty_api_Mana : TypeId := 24
abbrev Ty_api_Object : TypeId := 40
abbrev Ty_api_Item : TypeId := 77
abbrev Ty_api_Block : TypeId := 89
abbrev Ty_api_Target : TypeId := 105
abbrev Ty_map_int_int : TypeId := 129
abbrev Ty_map_int_bool : TypeId := 132
abbrev Ty_ident_Ids : TypeId := 151
abbrev Ty_uint64 : TypeId := 153
abbrev F_zeitnotlaw15_BoardTokens : FuncId := 5
/- zeitnot/zeitnotlaw15.BoardTokens -/
def T_zeitnotlaw15_BoardTokens (v : List Value) : Tree :=
 .newbox fun r0 =>
 .pure [] .len [g v 0] fun v0 =>
 .pure [] (.bin .gtr .int) [v0,(.int .i64 10)] fun v1 =>
 .br v1 (
 .call false 8 [] [] [] .one fun l2 _ =>
 .ret (g l2 0) []) (
 .chk (.eqN r0 r0) <|
 .call false 7 [(.agg #[g v 1,g v 2,g v 3,g v 4,g v 5,g v 6,g v 7,g v 8,g v 9,g v 10,g v 11,g v 12,g v 13,g v 14,g v 15,g v 16,g v 17,g v 18,g v 19,g v 20,g v 21,g v 22,g v 23,g v 24,g v 25,g v 26,g v 27,g v 28,g v 29,g v 30,g v 31,g v 32,g v 33,g v 34,g v 35,g v 36,g v 37,g v 38])] [] [] .one fun l3 _ =>
 .pure [] .not [g l3 0] fun v4 =>
 .chk (.eqV v4 v4) <|
 .pure [] .len [g v 40] fun v5 =>
 .chk (.eqV v4 v4) <|
 .pure [] (.bin .gtr .int) [v5,(.int .i64 8)] fun v6 =>
 .chk (.eqV v4 v4) <|
 .pure [] .pick [v4,(.bool true),v6] fun v7 =>
 .br v7 (
 .call false 8 [] [] [] .one fun l8 _ =>
 .ret (g l8 0) []) (
 .loop 16 4 [(.int .i64 0),g v 1,g v 2,g v 3,g v 4,g v 5,g v 6,g v 7,g v 8,g v 9,g v 10,g v 11,g v 12,g v 13,g v 14,g v 15,g v 16,g v 17,g v 18,g v 19,g v 20,g v 21,g v 22,g v 23,g v 24,g v 25,g v 26,g v 27,g v 28,g v 29,g v 30,g v 31,g v 32,g v 33,g v 34,g v 35,g v 36,g v 37,g v 38] fun C16 l9 =>
 .pure [] .len [g v 40] fun v10 =>
 .pure [] (.bin .leq .int) [g l9 0,v10] fun v11 =>
 .br v11 (
 .loop 22 7 [(.int .i64 (-1))] fun C22 l12 =>
 .pure [] (.bin .leq .int) [g l12 0,(.int .i64 2)] fun v13 =>
 .br v13 (
 .chk (.eqN r0 r0) <|
 .call false 12 [(.agg #[g l9 1,g l9 2,g l9 3,g l9 4,g l9 5,g l9 6,g l9 7,g l9 8,g l9 9,g l9 10,g l9 11,g l9 12,g l9 13,g l9 14,g l9 15,g l9 16,g l9 17,g l9 18,g l9 19,g l9 20,g l9 21,g l9 22,g l9 23,g l9 24,g l9 25,g l9 26,g l9 27,g l9 28,g l9 29,g l9 30,g l9 31,g l9 32,g l9 33,g l9 34,g l9 35,g l9 36,g l9 37,g l9 38])] [] [] .one fun l14 _ =>
 .chk (.eqV (g l14 0) (g l14 0)) <|
 .pure [] (.bin .eql .int) [g l12 0,(.int .i64 0)] fun v15 =>
 .chk (.eqV (g l14 0) (g l14 0)) <|
 .chk (.eqV v15 v15) <|
 .chk (.eqV (g l14 0) (g l14 0)) <|
 .pure [] (.bin .eql .int) [g l12 0,(.int .i64 1)] fun v16 =>
 .chk (.eqV (g l14 0) (g l14 0)) <|
 .chk (.eqV v15 v15) <|
 .chk (.eqV (g l14 0) (g l14 0)) <|
 .pure [] .pick [v15,(.bool true),v16] fun v17 =>
 .chk (.eqV (g l14 0) (g l14 0)) <|
 .pure [] .pick [g l14 0,v17,(.bool false)] fun v18 =>
 .br v18 (
 .chk (.eqN r0 r0) <|
 .call false 24 [g v 0,(.agg #[g l9 1,g l9 2,g l9 3,g l9 4,g l9 5,g l9 6,g l9 7,g l9 8,g l9 9,g l9 10,g l9 11,g l9 12,g l9 13,g l9 14,g l9 15,g l9 16,g l9 17,g l9 18,g l9 19,g l9 20,g l9 21,g l9 22,g l9 23,g l9 24,g l9 25,g l9 26,g l9 27,g l9 28,g l9 29,g l9 30,g l9 31,g l9 32,g l9 33,g l9 34,g l9 35,g l9 36,g l9 37,g l9 38]),g l12 0] [] [] .one fun l19 _ =>
 .chk (.eqN r0 r0) <|
 .call false 26 [g v 0,(.agg #[g l9 1,g l9 2,g l9 3,g l9 4,g l9 5,g l9 6,g l9 7,g l9 8,g l9 9,g l9 10,g l9 11,g l9 12,g l9 13,g l9 14,g l9 15,g l9 16,g l9 17,g l9 18,g l9 19,g l9 20,g l9 21,g l9 22,g l9 23,g l9 24,g l9 25,g l9 26,g l9 27,g l9 28,g l9 29,g l9 30,g l9 31,g l9 32,g l9 33,g l9 34,g l9 35,g l9 36,g l9 37,g l9 38]),g l12 0] [] [] .one fun l20 _ =>
 .call false 25 [g l20 0,g l19 0] [] [] .one fun l21 _ =>
 .pure [] .not [g l21 0] fun v22 =>
 .br v22 (
 .ret (.bool false) []) (
 .pure [] (.bin .add .int) [g l12 0,(.int .i64 1)] fun v23 =>
 .cont 22 C22 [v23] [E [g v 0],E [g v 39],E [g v 40],E [g v 41],E [(.pointer (some ⟨r0,0,none⟩))],E [g l9 0],E [(.pointer (some ⟨r0,0,none⟩)),g l9 1,g l9 2,g l9 3,g l9 4,g l9 5,g l9 6,g l9 7,g l9 8,g l9 9,g l9 10,g l9 11,g l9 12,g l9 13,g l9 14,g l9 15,g l9 16,g l9 17,g l9 18,g l9 19,g l9 20,g l9 21,g l9 22,g l9 23,g l9 24,g l9 25,g l9 26,g l9 27,g l9 28,g l9 29,g l9 30,g l9 31,g l9 32,g l9 33,g l9 34,g l9 35,g l9 36,g l9 37,g l9 38]])) (
 .chk (.eqN r0 r0) <|
 .call false 26 [g v 0,(.agg #[g l9 1,g l9 2,g l9 3,g l9 4,g l9 5,g l9 6,g l9 7,g l9 8,g l9 9,g l9 10,g l9 11,g l9 12,g l9 13,g l9 14,g l9 15,g l9 16,g l9 17,g l9 18,g l9 19,g l9 20,g l9 21,g l9 22,g l9 23,g l9 24,g l9 25,g l9 26,g l9 27,g l9 28,g l9 29,g l9 30,g l9 31,g l9 32,g l9 33,g l9 34,g l9 35,g l9 36,g l9 37,g l9 38]),g l12 0] [] [] .one fun l24 _ =>
 .call false 25 [g l24 0,(.slice none 0 0)] [] [] .one fun l25 _ =>
 .pure [] .not [g l25 0] fun v26 =>
 .br v26 (
 .ret (.bool false) []) (
 .pure [] (.bin .add .int) [g l12 0,(.int .i64 1)] fun v27 =>
 .cont 22 C22 [v27] [E [g v 0],E [g v 39],E [g v 40],E [g v 41],E [(.pointer (some ⟨r0,0,none⟩))],E [g l9 0],E [(.pointer (some ⟨r0,0,none⟩)),g l9 1,g l9 2,g l9 3,g l9 4,g l9 5,g l9 6,g l9 7,g l9 8,g l9 9,g l9 10,g l9 11,g l9 12,g l9 13,g l9 14,g l9 15,g l9 16,g l9 17,g l9 18,g l9 19,g l9 20,g l9 21,g l9 22,g l9 23,g l9 24,g l9 25,g l9 26,g l9 27,g l9 28,g l9 29,g l9 30,g l9 31,g l9 32,g l9 33,g l9 34,g l9 35,g l9 36,g l9 37,g l9 38]]))) (
 .pure [] .len [g v 40] fun v28 =>
 .pure [] (.bin .eql .int) [g l9 0,v28] fun v29 =>
 .br v29 (
 .call false 8 [] [] [] .one fun l30 _ =>
 .ret (g l30 0) []) (
 .chk (.eqN r0 r0) <|
 .call false 9 [(.agg #[g l9 1,g l9 2,g l9 3,g l9 4,g l9 5,g l9 6,g l9 7,g l9 8,g l9 9,g l9 10,g l9 11,g l9 12,g l9 13,g l9 14,g l9 15,g l9 16,g l9 17,g l9 18,g l9 19,g l9 20,g l9 21,g l9 22,g l9 23,g l9 24,g l9 25,g l9 26,g l9 27,g l9 28,g l9 29,g l9 30,g l9 31,g l9 32,g l9 33,g l9 34,g l9 35,g l9 36,g l9 37,g l9 38])] [] [] (.agg 38) fun l31 _ =>
 .newbox fun r1 =>
 .chk (.eqN r1 r1) <|
 .chk (.eqN r0 r0) <|
 .pure [] (.idx 1) [g v 40,g l9 0] fun v32 =>
 .load [] v32 1 fun l33 =>
 .pure [] .len [g v 40] fun v34 =>
 .pure [] (.bin .sub .int) [v34,(.int .i64 1)] fun v35 =>
 .pure [] (.bin .sub .int) [v35,g l9 0] fun v36 =>
 .pure [] (.idx 1) [g v 40,v36] fun v37 =>
 .load [] v37 1 fun l38 =>
 .call false 27 [(.agg #[g l9 1,g l9 2,g l9 3,g l9 4,g l9 5,g l9 6,g l9 7,g l9 8,g l9 9,g l9 10,g l9 11,g l9 12,g l9 13,g l9 14,g l9 15,g l9 16,g l9 17,g l9 18,g l9 19,g l9 20,g l9 21,g l9 22,g l9 23,g l9 24,g l9 25,g l9 26,g l9 27,g l9 28,g l9 29,g l9 30,g l9 31,g l9 32,g l9 33,g l9 34,g l9 35,g l9 36,g l9 37,g l9 38]),g v 39,g l33 0,g l38 0,g v 41] [] [] (.tup [some 38,none,none]) fun l39 _ =>
 .newbox fun r2 =>
 .chk (.eqN r2 r2) <|
 .chk (.eqN r0 r0) <|
 .call false 12 [(.agg #[g l9 1,g l9 2,g l9 3,g l9 4,g l9 5,g l9 6,g l9 7,g l9 8,g l9 9,g l9 10,g l9 11,g l9 12,g l9 13,g l9 14,g l9 15,g l9 16,g l9 17,g l9 18,g l9 19,g l9 20,g l9 21,g l9 22,g l9 23,g l9 24,g l9 25,g l9 26,g l9 27,g l9 28,g l9 29,g l9 30,g l9 31,g l9 32,g l9 33,g l9 34,g l9 35,g l9 36,g l9 37,g l9 38])] [] [] .one fun l40 _ =>
 .pure [] .not [g l40 0] fun v41 =>
 .chk (.eqV v41 v41) <|
 .pure [] (.bin .lss .int) [g v 39,(.int .i64 0)] fun v42 =>
 .chk (.eqV v41 v41) <|
 .pure [] .pick [v41,(.bool true),v42] fun v43 =>
 .chk (.eqV v43 v43) <|
 .pure [] (.bin .gtr .int) [g v 39,(.int .i64 1)] fun v44 =>
 .chk (.eqV v43 v43) <|
 .pure [] .pick [v43,(.bool true),v44] fun v45 =>
 .br v45 (
 .chk (.eqN r2 r2) <|
 .chk (.eqN r0 r0) <|
 .chk (.eqN r1 r1) <|
 .call false 19 [(.agg #[g l39 0,g l39 1,g l39 2,g l39 3,g l39 4,g l39 5,g l39 6,g l39 7,g l39 8,g l39 9,g l39 10,g l39 11,g l39 12,g l39 13,g l39 14,g l39 15,g l39 16,g l39 17,g l39 18,g l39 19,g l39 20,g l39 21,g l39 22,g l39 23,g l39 24,g l39 25,g l39 26,g l39 27,g l39 28,g l39 29,g l39 30,g l39 31,g l39 32,g l39 33,g l39 34,g l39 35,g l39 36,g l39 37]),g l39 39,(.agg #[(.slice none 0 0),(.int .i64 0),(.int .i64 0),(.int .i64 0),(.int .i64 0),(.int .i64 0),(.slice none 0 0),(.slice none 0 0),(.slice none 0 0),(.slice none 0 0),(.bool false),(.bool false),(.bool false),(.int .i64 0),(.int .i64 0),(.int .i64 0),(.int .i64 0),(.int .i64 0),(.int .i64 0),(.int .i64 0),(.slice none 0 0),(.slice none 0 0),(.slice none 0 0),(.slice none 0 0),(.bool false),(.bool false),(.bool false),(.int .i64 0),(.int .i64 0),(.slice none 0 0),(.slice none 0 0),(.slice none 0 0),(.slice none 0 0),(.int .i64 0),(.int .i64 0),(.int .i64 0),(.int .i64 0),(.int .i64 0)]),(.int .i64 2),(.agg #[g l9 1,g l9 2,g l9 3,g l9 4,g l9 5,g l9 6,g l9 7,g l9 8,g l9 9,g l9 10,g l9 11,g l9 12,g l9 13,g l9 14,g l9 15,g l9 16,g l9 17,g l9 18,g l9 19,g l9 20,g l9 21,g l9 22,g l9 23,g l9 24,g l9 25,g l9 26,g l9 27,g l9 28,g l9 29,g l9 30,g l9 31,g l9 32,g l9 33,g l9 34,g l9 35,g l9 36,g l9 37,g l9 38]),(.agg #[g l31 0,g l31 1,g l31 2,g l31 3,g l31 4,g l31 5,g l31 6,g l31 7,g l31 8,g l31 9,g l31 10,g l31 11,g l31 12,g l31 13,g l31 14,g l31 15,g l31 16,g l31 17,g l31 18,g l31 19,g l31 20,g l31 21,g l31 22,g l31 23,g l31 24,g l31 25,g l31 26,g l31 27,g l31 28,g l31 29,g l31 30,g l31 31,g l31 32,g l31 33,g l31 34,g l31 35,g l31 36,g l31 37])] [] [] .one fun l46 _ =>
 .chk (.eqV (g l46 0) (g l46 0)) <|
 .pure [] (.bin .eql .int) [g l39 38,(.int .i64 0)] fun v47 =>
 .chk (.eqV (g l46 0) (g l46 0)) <|
 .pure [] .pick [g l46 0,v47,(.bool false)] fun v48 =>
 .br v48 (
 .call false 8 [] [] [] .one fun l49 _ =>
 .ret (g l49 0) []) (
 .ret (.bool false) [])) (
 .chk (.eqN r0 r0) <|
 .pure [] (.idx 1) [g v 40,g l9 0] fun v50 =>
 .load [] v50 1 fun l51 =>
 .pure [] .len [g v 40] fun v52 =>
 .pure [] (.bin .sub .int) [v52,(.int .i64 1)] fun v53 =>
 .pure [] (.bin .sub .int) [v53,g l9 0] fun v54 =>
 .pure [] (.idx 1) [g v 40,v54] fun v55 =>
 .load [] v55 1 fun l56 =>
 .call false 28 [(.agg #[g l9 1,g l9 2,g l9 3,g l9 4,g l9 5,g l9 6,g l9 7,g l9 8,g l9 9,g l9 10,g l9 11,g l9 12,g l9 13,g l9 14,g l9 15,g l9 16,g l9 17,g l9 18,g l9 19,g l9 20,g l9 21,g l9 22,g l9 23,g l9 24,g l9 25,g l9 26,g l9 27,g l9 28,g l9 29,g l9 30,g l9 31,g l9 32,g l9 33,g l9 34,g l9 35,g l9 36,g l9 37,g l9 38]),g v 39,g l51 0,g l56 0,g v 41] [] [] (.tup [some 38,none]) fun l57 _ =>
 .newbox fun r3 =>
 .chk (.eqN r3 r3) <|
 .pure [] (.bin .neq .int) [g l39 38,g l57 38] fun v58 =>
 .br v58 (
 .ret (.bool false) []) (
 .chk (.eqN r2 r2) <|
 .chk (.eqN r3 r3) <|
 .chk (.eqN r0 r0) <|
 .chk (.eqN r1 r1) <|
 .call false 19 [(.agg #[g l39 0,g l39 1,g l39 2,g l39 3,g l39 4,g l39 5,g l39 6,g l39 7,g l39 8,g l39 9,g l39 10,g l39 11,g l39 12,g l39 13,g l39 14,g l39 15,g l39 16,g l39 17,g l39 18,g l39 19,g l39 20,g l39 21,g l39 22,g l39 23,g l39 24,g l39 25,g l39 26,g l39 27,g l39 28,g l39 29,g l39 30,g l39 31,g l39 32,g l39 33,g l39 34,g l39 35,g l39 36,g l39 37]),g l39 39,(.agg #[g l57 0,g l57 1,g l57 2,g l57 3,g l57 4,g l57 5,g l57 6,g l57 7,g l57 8,g l57 9,g l57 10,g l57 11,g l57 12,g l57 13,g l57 14,g l57 15,g l57 16,g l57 17,g l57 18,g l57 19,g l57 20,g l57 21,g l57 22,g l57 23,g l57 24,g l57 25,g l57 26,g l57 27,g l57 28,g l57 29,g l57 30,g l57 31,g l57 32,g l57 33,g l57 34,g l57 35,g l57 36,g l57 37]),(.int .i64 0),(.agg #[g l9 1,g l9 2,g l9 3,g l9 4,g l9 5,g l9 6,g l9 7,g l9 8,g l9 9,g l9 10,g l9 11,g l9 12,g l9 13,g l9 14,g l9 15,g l9 16,g l9 17,g l9 18,g l9 19,g l9 20,g l9 21,g l9 22,g l9 23,g l9 24,g l9 25,g l9 26,g l9 27,g l9 28,g l9 29,g l9 30,g l9 31,g l9 32,g l9 33,g l9 34,g l9 35,g l9 36,g l9 37,g l9 38]),(.agg #[g l31 0,g l31 1,g l31 2,g l31 3,g l31 4,g l31 5,g l31 6,g l31 7,g l31 8,g l31 9,g l31 10,g l31 11,g l31 12,g l31 13,g l31 14,g l31 15,g l31 16,g l31 17,g l31 18,g l31 19,g l31 20,g l31 21,g l31 22,g l31 23,g l31 24,g l31 25,g l31 26,g l31 27,g l31 28,g l31 29,g l31 30,g l31 31,g l31 32,g l31 33,g l31 34,g l31 35,g l31 36,g l31 37])] [] [] .one fun l59 _ =>
 .pure [] .not [g l59 0] fun v60 =>
 .br v60 (
 .ret (.bool false) []) (
 .chk (.eqN r3 r3) <|
 .chk (.eqN r0 r0) <|
 .pure [] (.bin .add .int) [g l9 0,(.int .i64 1)] fun v61 =>
 .cont 16 C16 [v61,g l57 0,g l57 1,g l57 2,g l57 3,g l57 4,g l57 5,g l57 6,g l57 7,g l57 8,g l57 9,g l57 10,g l57 11,g l57 12,g l57 13,g l57 14,g l57 15,g l57 16,g l57 17,g l57 18,g l57 19,g l57 20,g l57 21,g l57 22,g l57 23,g l57 24,g l57 25,g l57 26,g l57 27,g l57 28,g l57 29,g l57 30,g l57 31,g l57 32,g l57 33,g l57 34,g l57 35,g l57 36,g l57 37] [E [g v 0],E [g v 39],E [g v 40],E [g v 41],E [(.pointer (some ⟨r0,0,none⟩))],E [(.pointer (some ⟨r0,0,none⟩)),(.tuple #[]),(.tuple #[]),(.tuple #[]),(.tuple #[]),(.tuple #[]),(.tuple #[]),(.tuple #[]),(.tuple #[]),(.tuple #[]),(.tuple #[]),(.tuple #[]),(.tuple #[]),(.tuple #[]),(.tuple #[]),(.tuple #[]),(.tuple #[]),(.tuple #[]),(.tuple #[]),(.tuple #[]),(.tuple #[]),(.tuple #[]),(.tuple #[]),(.tuple #[]),(.tuple #[]),(.tuple #[]),(.tuple #[]),(.tuple #[]),(.tuple #[]),(.tuple #[]),(.tuple #[]),(.tuple #[]),(.tuple #[]),(.tuple #[]),(.tuple #[]),(.tuple #[]),(.tuple #[]),(.tuple #[]),(.tuple #[])]])))))) (
 .call false 8 [] [] [] .one fun l62 _ =>
 .ret (g l62 0) [])))
theorem T_zeitnotlaw15_BoardTokens_eq (vs : List Value) : sxFun PP Tryz.f5 (mkOpts okL [(43, [5, 6, 7, 8])] [(4, .inv [11] [0, 2, 3, 4, 6] [(6, [0, 1, 2, 3, 4, 5, 6, 7, 8, 9, 10, 11, 12, 13, 14, 15, 16, 17, 18, 19, 20, 21, 22, 23, 24, 25, 26, 27, 28, 29, 30, 31, 32, 33, 34, 35, 36, 37])]), (7, .inv [12] [0, 2, 3, 4, 6, 11] [(6, [])])] []) vs = T_zeitnotlaw15_BoardTokens vs := by kernel_rfl
theorem run_zeitnotlaw15_BoardTokens {args vs} (ha : entryArgs PP Tryz.f5 args = some vs) (ho : Ones vs) {H O Q} (h : (T_zeitnotlaw15_BoardTokens vs).den PP Q H O) : Triple PP F_zeitnotlaw15_BoardTokens args H O Q :=
 triple_run mixed (mkOpts_ok okL_ok _ _ _) Tryz.func5 T_zeitnotlaw15_BoardTokens_eq ha ho h
abbrev F_zeitnotlaw15_small : FuncId := 7
/- zeitnot/zeitnotlaw15.small -/
def T_zeitnotlaw15_small (v : List Value) : Tree :=
 .newbox fun r0 =>
 .chk (.eqN r0 r0) <|
 .call false 35 [(.agg #[g v 1,g v 2,g v 3,g v 4,g v 5,g v 6,g v 7,g v 8,g v 9,g v 10,g v 11,g v 12,g v 13,g v 14])] [] [] (.agg 4) fun l0 _ =>
 .pure [] .len [g l0 0] fun v1 =>
 .pure [] (.bin .gtr .int) [v1,(.int .i64 40)] fun v2 =>
 .br v2 (
 .ret (.bool false) []) (
 .pure [] .len [g l0 1] fun v3 =>
 .pure [] (.bin .gtr .int) [v3,(.int .i64 40)] fun v4 =>
 .br v4 (
 .ret (.bool false) []) (
 .pure [] .len [g l0 2] fun v5 =>
 .pure [] (.bin .gtr .int) [v5,(.int .i64 40)] fun v6 =>
 .br v6 (
 .ret (.bool false) []) (
 .pure [] .len [g l0 3] fun v7 =>
 .pure [] (.bin .gtr .int) [v7,(.int .i64 40)] fun v8 =>
 .br v8 (
 .ret (.bool false) []) (
 .chk (.eqN r0 r0) <|
 .call false 35 [(.agg #[g v 15,g v 16,g v 17,g v 18,g v 19,g v 20,g v 21,g v 22,g v 23,g v 24,g v 25,g v 26,g v 27,g v 28])] [] [] (.agg 4) fun l9 _ =>
 .pure [] .len [g l9 0] fun v10 =>
 .pure [] (.bin .gtr .int) [v10,(.int .i64 40)] fun v11 =>
 .br v11 (
 .ret (.bool false) []) (
 .pure [] .len [g l9 1] fun v12 =>
 .pure [] (.bin .gtr .int) [v12,(.int .i64 40)] fun v13 =>
 .br v13 (
 .ret (.bool false) []) (
 .pure [] .len [g l9 2] fun v14 =>
 .pure [] (.bin .gtr .int) [v14,(.int .i64 40)] fun v15 =>
 .br v15 (
 .ret (.bool false) []) (
 .pure [] .len [g l9 3] fun v16 =>
 .pure [] (.bin .gtr .int) [v16,(.int .i64 40)] fun v17 =>
 .br v17 (
 .ret (.bool false) []) (
 .chk (.eqN r0 r0) <|
 .chk (.eqN r0 r0) <|
 .newbox fun r1 =>
 .chk (.eqN r1 r1) <|
 .pure [] .len [g v 29] fun v18 =>
 .pure [] (.bin .gtr .int) [v18,(.int .i64 20)] fun v19 =>
 .br v19 (
 .ret (.bool false) []) (
 .loop 108 16 [(.int .i64 0)] fun C108 l20 =>
 .pure [] .len [g v 29] fun v21 =>
 .pure [] (.bin .lss .int) [g l20 0,v21] fun v22 =>
 .br v22 (
 .pure [] (.idx 5) [g v 29,g l20 0] fun v23 =>
 .chk (.ptr [] v23) <|
 .load [] (ptrAdd v23 4) 1 fun l24 =>
 .pure [] .len [g l24 0] fun v25 =>
 .pure [] (.bin .gtr .int) [v25,(.int .i64 6)] fun v26 =>
 .br v26 (
 .ret (.bool false) []) (
 .pure [] (.bin .add .int) [g l20 0,(.int .i64 1)] fun v27 =>
 .cont 108 C108 [v27] [E [(.pointer (some ⟨r0,0,none⟩))],E [g v 29],E [(.slice (some ⟨r1,0,none⟩) 2 2)],E [(.int .i64 2)],E [(.int .i64 0)],E [(.pointer (some ⟨r0,0,none⟩)),g v 0,g v 1,g v 2,g v 3,g v 4,g v 5,g v 6,g v 7,g v 8,g v 9,g v 10,g v 11,g v 12,g v 13,g v 14,g v 15,g v 16,g v 17,g v 18,g v 19,g v 20,g v 21,g v 22,g v 23,g v 24,g v 25,g v 26,g v 27,g v 28,g v 29,g v 30,g v 31,g v 32,g v 33,g v 34,g v 35,g v 36,g v 37],E [(.pointer (some ⟨r1,0,none⟩)),g v 29,g v 30]])) (
 .chk (.eqN r1 r1) <|
 .pure [] .len [g v 30] fun v28 =>
 .pure [] (.bin .gtr .int) [v28,(.int .i64 20)] fun v29 =>
 .br v29 (
 .ret (.bool false) []) (
 .loop 123 16 [(.int .i64 0)] fun C123 l30 =>
 .pure [] .len [g v 30] fun v31 =>
 .pure [] (.bin .lss .int) [g l30 0,v31] fun v32 =>
 .br v32 (
 .pure [] (.idx 5) [g v 30,g l30 0] fun v33 =>
 .chk (.ptr [] v33) <|
 .load [] (ptrAdd v33 4) 1 fun l34 =>
 .pure [] .len [g l34 0] fun v35 =>
 .pure [] (.bin .gtr .int) [v35,(.int .i64 6)] fun v36 =>
 .br v36 (
 .ret (.bool false) []) (
 .pure [] (.bin .add .int) [g l30 0,(.int .i64 1)] fun v37 =>
 .cont 123 C123 [v37] [E [(.pointer (some ⟨r0,0,none⟩))],E [g v 30],E [(.slice (some ⟨r1,0,none⟩) 2 2)],E [(.int .i64 2)],E [(.int .i64 1)],E [(.pointer (some ⟨r0,0,none⟩)),g v 0,g v 1,g v 2,g v 3,g v 4,g v 5,g v 6,g v 7,g v 8,g v 9,g v 10,g v 11,g v 12,g v 13,g v 14,g v 15,g v 16,g v 17,g v 18,g v 19,g v 20,g v 21,g v 22,g v 23,g v 24,g v 25,g v 26,g v 27,g v 28,g v 29,g v 30,g v 31,g v 32,g v 33,g v 34,g v 35,g v 36,g v 37],E [(.pointer (some ⟨r1,0,none⟩)),g v 29,g v 30]])) (
 .chk (.eqN r0 r0) <|
 .pure [] .len [g v 0] fun v38 =>
 .pure [] (.bin .leq .int) [v38,(.int .i64 30)] fun v39 =>
 .chk (.eqN r0 r0) <|
 .chk (.eqV v39 v39) <|
 .chk (.eqV v39 v39) <|
 .pure [] .len [g v 31] fun v40 =>
 .chk (.eqV v39 v39) <|
 .pure [] (.bin .leq .int) [v40,(.int .i64 30)] fun v41 =>
 .chk (.eqV v39 v39) <|
 .pure [] .pick [v39,v41,(.bool false)] fun v42 =>
 .chk (.eqN r0 r0) <|
 .chk (.eqV v42 v42) <|
 .chk (.eqV v42 v42) <|
 .pure [] .len [g v 32] fun v43 =>
 .chk (.eqV v42 v42) <|
 .pure [] (.bin .leq .int) [v43,(.int .i64 30)] fun v44 =>
 .chk (.eqV v42 v42) <|
 .pure [] .pick [v42,v44,(.bool false)] fun v45 =>
 .ret v45 []))))))))))))
theorem T_zeitnotlaw15_small_eq (vs : List Value) : sxFun PP Tryz.f7 (mkOpts okL [(43, [5, 6, 7, 8])] [(2, .unroll 3), (5, .unroll 5), (11, .unroll 3), (16, .inv [8] [1, 7, 29, 30, 31] [(1, []), (29, [])])] []) vs = T_zeitnotlaw15_small vs := by kernel_rfl
theorem run_zeitnotlaw15_small {args vs} (ha : entryArgs PP Tryz.f7 args = some vs) (ho : Ones vs) {H O Q} (h : (T_zeitnotlaw15_small vs).den PP Q H O) : Triple PP F_zeitnotlaw15_small args H O Q :=
 triple_run mixed (mkOpts_ok okL_ok _ _ _) Tryz.func7 T_zeitnotlaw15_small_eq ha ho h
abbrev F_zeitnotlaw15_known : FuncId := 8
/- zeitnot/zeitnotlaw15.known: STUCK [2014] -/

abbrev F_zeitnotref15_Copy : FuncId := 9
/- zeitnot/zeitnotref15.Copy -/
def T_zeitnotref15_Copy (v : List Value) : Tree :=
 .newbox fun r0 =>
 .newbox fun r1 =>
 .chk (.eqN r0 r0) <|
 .prim (.bi .append #[22,22] 22) [(.slice none 0 0),g v 0] [] [] .one fun l0 _ =>
 .chk (.eqN r0 r0) <|
 .chk (.eqN r0 r0) <|
 .prim (.bi .append #[25,25] 25) [(.slice none 0 0),g v 6] [] [] .one fun l1 _ =>
 .chk (.eqN r0 r0) <|
 .chk (.eqN r0 r0) <|
 .prim (.bi .append #[25,25] 25) [(.slice none 0 0),g v 7] [] [] .one fun l2 _ =>
 .chk (.eqN r0 r0) <|
 .chk (.eqN r0 r0) <|
 .prim (.bi .append #[25,25] 25) [(.slice none 0 0),g v 8] [] [] .one fun l3 _ =>
 .chk (.eqN r0 r0) <|
 .chk (.eqN r0 r0) <|
 .prim (.bi .append #[25,25] 25) [(.slice none 0 0),g v 9] [] [] .one fun l4 _ =>
 .chk (.eqN r0 r0) <|
 .chk (.eqN r0 r0) <|
 .prim (.bi .append #[25,25] 25) [(.slice none 0 0),g v 20] [] [] .one fun l5 _ =>
 .chk (.eqN r0 r0) <|
 .chk (.eqN r0 r0) <|
 .prim (.bi .append #[25,25] 25) [(.slice none 0 0),g v 21] [] [] .one fun l6 _ =>
 .chk (.eqN r0 r0) <|
 .chk (.eqN r0 r0) <|
 .prim (.bi .append #[25,25] 25) [(.slice none 0 0),g v 22] [] [] .one fun l7 _ =>
 .chk (.eqN r0 r0) <|
 .chk (.eqN r0 r0) <|
 .prim (.bi .append #[25,25] 25) [(.slice none 0 0),g v 23] [] [] .one fun l8 _ =>
 .chk (.eqN r0 r0) <|
 .chk (.eqN r0 r0) <|
 .chk (.eqN r0 r0) <|
 .call false 38 [g v 29] [] [] .one fun l9 _ =>
 .call false 38 [g v 30] [] [] .one fun l10 _ =>
 .chk (.eqN r0 r0) <|
 .chk (.eqN r0 r0) <|
 .chk (.eqN r0 r0) <|
 .prim (.bi .append #[25,25] 25) [(.slice none 0 0),g v 31] [] [] .one fun l11 _ =>
 .chk (.eqN r0 r0) <|
 .chk (.eqN r0 r0) <|
 .prim (.bi .append #[30,30] 30) [(.slice none 0 0),g v 32] [] [] .one fun l12 _ =>
 .chk (.eqN r0 r0) <|
 .chk (.eqN r0 r0) <|
 .chk (.eqN r1 r1) <|
 .chk (.eqN r1 r1) <|
 .ret (.agg #[g l0 0,g v 1,g v 2,g v 3,g v 4,g v 5,g l1 0,g l2 0,g l3 0,g l4 0,g v 10,g v 11,g v 12,g v 13,g v 14,g v 15,g v 16,g v 17,g v 18,g v 19,g l5 0,g l6 0,g l7 0,g l8 0,g v 24,g v 25,g v 26,g v 27,g v 28,g l9 0,g l10 0,g l11 0,g l12 0,g v 33,g v 34,g v 35,g v 36,g v 37]) []
theorem T_zeitnotref15_Copy_eq (vs : List Value) : sxFun PP Tryz.f9 (mkOpts okL [(43, [5, 6, 7, 8])] [(3, .unroll 3)] []) vs = T_zeitnotref15_Copy vs := by kernel_rfl
theorem run_zeitnotref15_Copy {args vs} (ha : entryArgs PP Tryz.f9 args = some vs) (ho : Ones vs) {H O Q} (h : (T_zeitnotref15_Copy vs).den PP Q H O) : Triple PP F_zeitnotref15_Copy args H O Q :=
 triple_run mixed (mkOpts_ok okL_ok _ _ _) Tryz.func9 T_zeitnotref15_Copy_eq ha ho h
abbrev F_board_Copy : FuncId := 10
/- zeitnot/board.Copy -/
def T_board_Copy (v : List Value) : Tree :=
 .newbox fun r0 =>
 .newbox fun r1 =>
 .chk (.eqN r0 r0) <|
 .chk (.eqN r0 r0) <|
 .chk (.eqN r0 r0) <|
 .call false 39 [g v 0] [] [] .one fun l0 _ =>
 .call false 40 [g v 31] [] [] .one fun l1 _ =>
 .call false 41 [g v 32] [] [] .one fun l2 _ =>
 .chk (.eqN r0 r0) <|
 .chk (.eqN r0 r0) <|
 .chk (.eqN r0 r0) <|
 .chk (.eqN r0 r0) <|
 .chk (.eqN r0 r0) <|
 .call false 42 [g v 29] [] [] .one fun l3 _ =>
 .call false 42 [g v 30] [] [] .one fun l4 _ =>
 .chk (.eqN r0 r0) <|
 .chk (.eqN r0 r0) <|
 .call false 43 [(.pointer (some ⟨r0,1,none⟩))] [] [] (.agg 4) fun l5 _ =>
 .chk (.eqV (g l5 0) (.pointer (some ⟨r0,6,none⟩))) <|
 .chk (.eqV (g l5 1) (.pointer (some ⟨r0,7,none⟩))) <|
 .chk (.eqV (g l5 2) (.pointer (some ⟨r0,8,none⟩))) <|
 .chk (.eqV (g l5 3) (.pointer (some ⟨r0,9,none⟩))) <|
 .chk (.eqN r0 r0) <|
 .call false 40 [g v 6] [] [] .one fun l6 _ =>
 .chk (.eqN r0 r0) <|
 .chk (.eqN r0 r0) <|
 .call false 40 [g v 7] [] [] .one fun l7 _ =>
 .chk (.eqN r0 r0) <|
 .chk (.eqN r0 r0) <|
 .call false 40 [g v 8] [] [] .one fun l8 _ =>
 .chk (.eqN r0 r0) <|
 .chk (.eqN r0 r0) <|
 .call false 40 [g v 9] [] [] .one fun l9 _ =>
 .chk (.eqN r0 r0) <|
 .call false 43 [(.pointer (some ⟨r0,15,none⟩))] [] [] (.agg 4) fun l10 _ =>
 .chk (.eqV (g l10 0) (.pointer (some ⟨r0,20,none⟩))) <|
 .chk (.eqV (g l10 1) (.pointer (some ⟨r0,21,none⟩))) <|
 .chk (.eqV (g l10 2) (.pointer (some ⟨r0,22,none⟩))) <|
 .chk (.eqV (g l10 3) (.pointer (some ⟨r0,23,none⟩))) <|
 .chk (.eqN r0 r0) <|
 .call false 40 [g v 20] [] [] .one fun l11 _ =>
 .chk (.eqN r0 r0) <|
 .chk (.eqN r0 r0) <|
 .call false 40 [g v 21] [] [] .one fun l12 _ =>
 .chk (.eqN r0 r0) <|
 .chk (.eqN r0 r0) <|
 .call false 40 [g v 22] [] [] .one fun l13 _ =>
 .chk (.eqN r0 r0) <|
 .chk (.eqN r0 r0) <|
 .call false 40 [g v 23] [] [] .one fun l14 _ =>
 .chk (.eqN r0 r0) <|
 .chk (.eqN r0 r0) <|
 .chk (.eqN r1 r1) <|
 .chk (.eqN r1 r1) <|
 .ret (.agg #[g l0 0,g v 1,g v 2,g v 3,g v 4,g v 5,g l6 0,g l7 0,g l8 0,g l9 0,g v 10,g v 11,g v 12,g v 13,g v 14,g v 15,g v 16,g v 17,g v 18,g v 19,g l11 0,g l12 0,g l13 0,g l14 0,g v 24,g v 25,g v 26,g v 27,g v 28,g l3 0,g l4 0,g l1 0,g l2 0,g v 33,g v 34,g v 35,g v 36,g v 37]) []
theorem T_board_Copy_eq (vs : List Value) : sxFun PP Tryz.f10 (mkOpts okL [(43, [5, 6, 7, 8])] [(4, .unroll 3), (7, .unroll 5)] []) vs = T_board_Copy vs := by kernel_rfl
theorem run_board_Copy {args vs} (ha : entryArgs PP Tryz.f10 args = some vs) (ho : Ones vs) {H O Q} (h : (T_board_Copy vs).den PP Q H O) : Triple PP F_board_Copy args H O Q :=
 triple_run mixed (mkOpts_ok okL_ok _ _ _) Tryz.func10 T_board_Copy_eq ha ho h
abbrev F_board_Valid : FuncId := 11
/- zeitnot/board.Valid -/
def T_board_Valid (v : List Value) : Tree :=
 .newbox fun r0 =>
 .chk (.eqN r0 r0) <|
 .call false 44 [g v 34,(.int .i64 0),(.int .i64 1)] [] [] .one fun l0 _ =>
 .pure [] .not [g l0 0] fun v1 =>
 .br v1 (
 .ret (.bool false) []) (
 .chk (.eqN r0 r0) <|
 .call false 44 [g v 33,(.int .i64 0),(.int .i64 1000)] [] [] .one fun l2 _ =>
 .pure [] .not [g l2 0] fun v3 =>
 .br v3 (
 .ret (.bool false) []) (
 .chk (.eqN r0 r0) <|
 .call false 44 [g v 35,(.int .i64 0),(.int .i64 10)] [] [] .one fun l4 _ =>
 .pure [] .not [g l4 0] fun v5 =>
 .br v5 (
 .ret (.bool false) []) (
 .chk (.eqN r0 r0) <|
 .call false 44 [g v 36,(.int .i64 (-1)),(.int .i64 1)] [] [] .one fun l6 _ =>
 .pure [] .not [g l6 0] fun v7 =>
 .br v7 (
 .ret (.bool false) []) (
 .chk (.eqN r0 r0) <|
 .call false 44 [g v 37,(.int .i64 0),(.int .i64 2)] [] [] .one fun l8 _ =>
 .pure [] .not [g l8 0] fun v9 =>
 .chk (.eqN r0 r0) <|
 .chk (.eqV v9 v9) <|
 .chk (.eqV v9 v9) <|
 .pure [] .len [g v 0] fun v10 =>
 .chk (.eqV v9 v9) <|
 .pure [] (.bin .gtr .int) [v10,(.int .i64 500)] fun v11 =>
 .chk (.eqV v9 v9) <|
 .pure [] .pick [v9,(.bool true),v11] fun v12 =>
 .chk (.eqN r0 r0) <|
 .chk (.eqV v12 v12) <|
 .chk (.eqV v12 v12) <|
 .pure [] .len [g v 29] fun v13 =>
 .chk (.eqV v12 v12) <|
 .pure [] (.bin .gtr .int) [v13,(.int .i64 200)] fun v14 =>
 .chk (.eqV v12 v12) <|
 .pure [] .pick [v12,(.bool true),v14] fun v15 =>
 .chk (.eqN r0 r0) <|
 .chk (.eqV v15 v15) <|
 .chk (.eqV v15 v15) <|
 .pure [] .len [g v 30] fun v16 =>
 .chk (.eqV v15 v15) <|
 .pure [] (.bin .gtr .int) [v16,(.int .i64 200)] fun v17 =>
 .chk (.eqV v15 v15) <|
 .pure [] .pick [v15,(.bool true),v17] fun v18 =>
 .br v18 (
 .ret (.bool false) []) (
 .chk (.eqN r0 r0) <|
 .newbox fun r1 =>
 .chk (.eqN r1 r1) <|
 .chk (.eqN r1 r1) <|
 .call false 44 [g v 1,(.int .i64 0),(.int .i64 9999)] [] [] .one fun l19 _ =>
 .pure [] .not [g l19 0] fun v20 =>
 .br v20 (
 .ret (.bool false) []) (
 .chk (.eqN r1 r1) <|
 .call false 45 [(.agg #[g v 2,g v 3,g v 4,g v 5])] [] [] .one fun l21 _ =>
 .pure [] .not [g l21 0] fun v22 =>
 .br v22 (
 .ret (.bool false) []) (
 .chk (.eqN r1 r1) <|
 .call false 44 [g v 13,(.int .i64 0),(.int .i64 7)] [] [] .one fun l23 _ =>
 .pure [] .not [g l23 0] fun v24 =>
 .br v24 (
 .ret (.bool false) []) (
 .chk (.eqN r1 r1) <|
 .call false 44 [g v 14,(.int .i64 0),(.int .i64 255)] [] [] .one fun l25 _ =>
 .pure [] .not [g l25 0] fun v26 =>
 .br v26 (
 .ret (.bool false) []) (
 .newbox fun r2 =>
 .chk (.eqN r2 r2) <|
 .chk (.eqN r2 r2) <|
 .call false 44 [g v 15,(.int .i64 0),(.int .i64 9999)] [] [] .one fun l27 _ =>
 .pure [] .not [g l27 0] fun v28 =>
 .br v28 (
 .ret (.bool false) []) (
 .chk (.eqN r2 r2) <|
 .call false 45 [(.agg #[g v 16,g v 17,g v 18,g v 19])] [] [] .one fun l29 _ =>
 .pure [] .not [g l29 0] fun v30 =>
 .br v30 (
 .ret (.bool false) []) (
 .chk (.eqN r2 r2) <|
 .call false 44 [g v 27,(.int .i64 0),(.int .i64 7)] [] [] .one fun l31 _ =>
 .pure [] .not [g l31 0] fun v32 =>
 .br v32 (
 .ret (.bool false) []) (
 .chk (.eqN r2 r2) <|
 .call false 44 [g v 28,(.int .i64 0),(.int .i64 255)] [] [] .one fun l33 _ =>
 .pure [] .not [g l33 0] fun v34 =>
 .br v34 (
 .ret (.bool false) []) (
 .chk (.eqN r0 r0) <|
 .call false 46 [g v 29,(.func (.func 47) #[] #[])] [] [] .one fun l35 _ =>
 .br (g l35 0) (
 .ret (.bool false) []) (
 .chk (.eqN r0 r0) <|
 .call false 46 [g v 30,(.func (.func 49) #[] #[])] [] [] .one fun l36 _ =>
 .pure [] .not [g l36 0] fun v37 =>
 .br v37 (
 .chk (.eqN r0 r0) <|
 .call false 50 [(.agg #[g v 0,g v 1,g v 2,g v 3,g v 4,g v 5,g v 6,g v 7,g v 8,g v 9,g v 10,g v 11,g v 12,g v 13,g v 14,g v 15,g v 16,g v 17,g v 18,g v 19,g v 20,g v 21,g v 22,g v 23,g v 24,g v 25,g v 26,g v 27,g v 28,g v 29,g v 30,g v 31,g v 32,g v 33,g v 34,g v 35,g v 36,g v 37])] [] [] .one fun l38 _ =>
 .br (g l38 0) (
 .chk (.eqN r0 r0) <|
 .call false 51 [(.agg #[g v 0,g v 1,g v 2,g v 3,g v 4,g v 5,g v 6,g v 7,g v 8,g v 9,g v 10,g v 11,g v 12,g v 13,g v 14,g v 15,g v 16,g v 17,g v 18,g v 19,g v 20,g v 21,g v 22,g v 23,g v 24,g v 25,g v 26,g v 27,g v 28,g v 29,g v 30,g v 31,g v 32,g v 33,g v 34,g v 35,g v 36,g v 37])] [] [] .one fun l39 _ =>
 .ret (g l39 0) []) (
 .ret (.bool false) [])) (
 .ret (.bool false) [])))))))))))))))
theorem T_board_Valid_eq (vs : List Value) : sxFun PP Tryz.f11 (mkOpts okL [(43, [5, 6, 7, 8])] [(4, .unroll 3)] []) vs = T_board_Valid vs := by kernel_rfl
theorem run_board_Valid {args vs} (ha : entryArgs PP Tryz.f11 args = some vs) (ho : Ones vs) {H O Q} (h : (T_board_Valid vs).den PP Q H O) : Triple PP F_board_Valid args H O Q :=
 triple_run mixed (mkOpts_ok okL_ok _ _ _) Tryz.func11 T_board_Valid_eq ha ho h
abbrev F_zeitnotref15_Valid : FuncId := 12
/- zeitnot/zeitnotref15.Valid -/
def T_zeitnotref15_Valid (v : List Value) : Tree :=
 .newbox fun r0 =>
 .chk (.eqN r0 r0) <|
 .pure [] (.bin .lss .int) [g v 34,(.int .i64 0)] fun v0 =>
 .chk (.eqN r0 r0) <|
 .chk (.eqV v0 v0) <|
 .chk (.eqV v0 v0) <|
 .pure [] (.bin .gtr .int) [g v 34,(.int .i64 1)] fun v1 =>
 .chk (.eqV v0 v0) <|
 .pure [] .pick [v0,(.bool true),v1] fun v2 =>
 .chk (.eqN r0 r0) <|
 .chk (.eqV v2 v2) <|
 .chk (.eqV v2 v2) <|
 .pure [] (.bin .lss .int) [g v 33,(.int .i64 0)] fun v3 =>
 .chk (.eqV v2 v2) <|
 .pure [] .pick [v2,(.bool true),v3] fun v4 =>
 .chk (.eqN r0 r0) <|
 .chk (.eqV v4 v4) <|
 .chk (.eqV v4 v4) <|
 .pure [] (.bin .gtr .int) [g v 33,(.int .i64 1000)] fun v5 =>
 .chk (.eqV v4 v4) <|
 .pure [] .pick [v4,(.bool true),v5] fun v6 =>
 .chk (.eqN r0 r0) <|
 .chk (.eqV v6 v6) <|
 .chk (.eqV v6 v6) <|
 .pure [] (.bin .lss .int) [g v 35,(.int .i64 0)] fun v7 =>
 .chk (.eqV v6 v6) <|
 .pure [] .pick [v6,(.bool true),v7] fun v8 =>
 .chk (.eqN r0 r0) <|
 .chk (.eqV v8 v8) <|
 .chk (.eqV v8 v8) <|
 .pure [] (.bin .gtr .int) [g v 35,(.int .i64 10)] fun v9 =>
 .chk (.eqV v8 v8) <|
 .pure [] .pick [v8,(.bool true),v9] fun v10 =>
 .chk (.eqN r0 r0) <|
 .chk (.eqV v10 v10) <|
 .chk (.eqV v10 v10) <|
 .pure [] (.bin .lss .int) [g v 36,(.int .i64 (-1))] fun v11 =>
 .chk (.eqV v10 v10) <|
 .pure [] .pick [v10,(.bool true),v11] fun v12 =>
 .chk (.eqN r0 r0) <|
 .chk (.eqV v12 v12) <|
 .chk (.eqV v12 v12) <|
 .pure [] (.bin .gtr .int) [g v 36,(.int .i64 1)] fun v13 =>
 .chk (.eqV v12 v12) <|
 .pure [] .pick [v12,(.bool true),v13] fun v14 =>
 .chk (.eqN r0 r0) <|
 .chk (.eqV v14 v14) <|
 .chk (.eqV v14 v14) <|
 .pure [] (.bin .lss .int) [g v 37,(.int .i64 0)] fun v15 =>
 .chk (.eqV v14 v14) <|
 .pure [] .pick [v14,(.bool true),v15] fun v16 =>
 .chk (.eqN r0 r0) <|
 .chk (.eqV v16 v16) <|
 .chk (.eqV v16 v16) <|
 .pure [] (.bin .gtr .int) [g v 37,(.int .i64 2)] fun v17 =>
 .chk (.eqV v16 v16) <|
 .pure [] .pick [v16,(.bool true),v17] fun v18 =>
 .chk (.eqN r0 r0) <|
 .chk (.eqV v18 v18) <|
 .chk (.eqV v18 v18) <|
 .pure [] .len [g v 0] fun v19 =>
 .chk (.eqV v18 v18) <|
 .pure [] (.bin .gtr .int) [v19,(.int .i64 500)] fun v20 =>
 .chk (.eqV v18 v18) <|
 .pure [] .pick [v18,(.bool true),v20] fun v21 =>
 .chk (.eqN r0 r0) <|
 .chk (.eqV v21 v21) <|
 .chk (.eqV v21 v21) <|
 .pure [] .len [g v 29] fun v22 =>
 .chk (.eqV v21 v21) <|
 .pure [] (.bin .gtr .int) [v22,(.int .i64 200)] fun v23 =>
 .chk (.eqV v21 v21) <|
 .pure [] .pick [v21,(.bool true),v23] fun v24 =>
 .chk (.eqN r0 r0) <|
 .chk (.eqV v24 v24) <|
 .chk (.eqV v24 v24) <|
 .pure [] .len [g v 30] fun v25 =>
 .chk (.eqV v24 v24) <|
 .pure [] (.bin .gtr .int) [v25,(.int .i64 200)] fun v26 =>
 .chk (.eqV v24 v24) <|
 .pure [] .pick [v24,(.bool true),v26] fun v27 =>
 .br v27 (
 .ret (.bool false) []) (
 .loop 69 4 [(.int .i64 0)] fun C69 l28 =>
 .chk (.eqN r0 r0) <|
 .pure [] .len [g v 29] fun v29 =>
 .pure [] (.bin .lss .int) [g l28 0,v29] fun v30 =>
 .br v30 (
 .chk (.eqN r0 r0) <|
 .pure [] (.idx 5) [g v 29,g l28 0] fun v31 =>
 .load [] v31 5 fun l32 =>
 .call false 52 [(.agg #[g l32 0,g l32 1,g l32 2,g l32 3,g l32 4]),(.bool false)] [] [] .one fun l33 _ =>
 .pure [] .not [g l33 0] fun v34 =>
 .br v34 (
 .ret (.bool false) []) (
 .pure [] (.bin .add .int) [g l28 0,(.int .i64 1)] fun v35 =>
 .cont 69 C69 [v35] [E [(.pointer (some ⟨r0,0,none⟩))],E [(.pointer (some ⟨r0,0,none⟩)),g v 0,g v 1,g v 2,g v 3,g v 4,g v 5,g v 6,g v 7,g v 8,g v 9,g v 10,g v 11,g v 12,g v 13,g v 14,g v 15,g v 16,g v 17,g v 18,g v 19,g v 20,g v 21,g v 22,g v 23,g v 24,g v 25,g v 26,g v 27,g v 28,g v 29,g v 30,g v 31,g v 32,g v 33,g v 34,g v 35,g v 36,g v 37]])) (
 .loop 76 9 [(.int .i64 0)] fun C76 l36 =>
 .chk (.eqN r0 r0) <|
 .pure [] .len [g v 30] fun v37 =>
 .pure [] (.bin .lss .int) [g l36 0,v37] fun v38 =>
 .br v38 (
 .chk (.eqN r0 r0) <|
 .pure [] (.idx 5) [g v 30,g l36 0] fun v39 =>
 .load [] v39 5 fun l40 =>
 .call false 52 [(.agg #[g l40 0,g l40 1,g l40 2,g l40 3,g l40 4]),(.bool true)] [] [] .one fun l41 _ =>
 .pure [] .not [g l41 0] fun v42 =>
 .br v42 (
 .ret (.bool false) []) (
 .pure [] (.bin .add .int) [g l36 0,(.int .i64 1)] fun v43 =>
 .cont 76 C76 [v43] [E [(.pointer (some ⟨r0,0,none⟩))],E [(.pointer (some ⟨r0,0,none⟩)),g v 0,g v 1,g v 2,g v 3,g v 4,g v 5,g v 6,g v 7,g v 8,g v 9,g v 10,g v 11,g v 12,g v 13,g v 14,g v 15,g v 16,g v 17,g v 18,g v 19,g v 20,g v 21,g v 22,g v 23,g v 24,g v 25,g v 26,g v 27,g v 28,g v 29,g v 30,g v 31,g v 32,g v 33,g v 34,g v 35,g v 36,g v 37]])) (
 .chk (.eqN r0 r0) <|
 .call false 53 [(.agg #[g v 1,g v 2,g v 3,g v 4,g v 5,g v 6,g v 7,g v 8,g v 9,g v 10,g v 11,g v 12,g v 13,g v 14])] [] [] .one fun l44 _ =>
 .br (g l44 0) (
 .chk (.eqN r0 r0) <|
 .call false 53 [(.agg #[g v 15,g v 16,g v 17,g v 18,g v 19,g v 20,g v 21,g v 22,g v 23,g v 24,g v 25,g v 26,g v 27,g v 28])] [] [] .one fun l45 _ =>
 .br (g l45 0) (
 .chk (.eqN r0 r0) <|
 .call false 54 [(.agg #[g v 0,g v 1,g v 2,g v 3,g v 4,g v 5,g v 6,g v 7,g v 8,g v 9,g v 10,g v 11,g v 12,g v 13,g v 14,g v 15,g v 16,g v 17,g v 18,g v 19,g v 20,g v 21,g v 22,g v 23,g v 24,g v 25,g v 26,g v 27,g v 28,g v 29,g v 30,g v 31,g v 32,g v 33,g v 34,g v 35,g v 36,g v 37])] [] [] .one fun l46 _ =>
 .br (g l46 0) (
 .chk (.eqN r0 r0) <|
 .call false 55 [(.agg #[g v 0,g v 1,g v 2,g v 3,g v 4,g v 5,g v 6,g v 7,g v 8,g v 9,g v 10,g v 11,g v 12,g v 13,g v 14,g v 15,g v 16,g v 17,g v 18,g v 19,g v 20,g v 21,g v 22,g v 23,g v 24,g v 25,g v 26,g v 27,g v 28,g v 29,g v 30,g v 31,g v 32,g v 33,g v 34,g v 35,g v 36,g v 37])] [] [] .one fun l47 _ =>
 .ret (g l47 0) []) (
 .ret (.bool false) [])) (
 .ret (.bool false) [])) (
 .ret (.bool false) []))))
theorem T_zeitnotref15_Valid_eq (vs : List Value) : sxFun PP Tryz.f12 (mkOpts okL [(43, [5, 6, 7, 8])] [(4, .inv [3] [1] [(1, [])]), (9, .inv [4] [1] [(1, [])])] []) vs = T_zeitnotref15_Valid vs := by kernel_rfl
theorem run_zeitnotref15_Valid {args vs} (ha : entryArgs PP Tryz.f12 args = some vs) (ho : Ones vs) {H O Q} (h : (T_zeitnotref15_Valid vs).den PP Q H O) : Triple PP F_zeitnotref15_Valid args H O Q :=
 triple_run mixed (mkOpts_ok okL_ok _ _ _) Tryz.func12 T_zeitnotref15_Valid_eq ha ho h
abbrev F_zeitnotref15_Same : FuncId := 14
/- zeitnot/zeitnotref15.Same -/
def T_zeitnotref15_Same (v : List Value) : Tree :=
 .newbox fun r0 =>
 .newbox fun r1 =>
 .chk (.eqN r0 r0) <|
 .pure [] .len [g v 0] fun v0 =>
 .chk (.eqN r1 r1) <|
 .pure [] .len [g v 38] fun v1 =>
 .pure [] (.bin .neq .int) [v0,v1] fun v2 =>
 .br v2 (
 .ret (.bool false) []) (
 .chk (.eqN r0 r0) <|
 .chk (.eqN r1 r1) <|
 .call false 61 [g v 29,g v 67] [] [] .one fun l3 _ =>
 .pure [] .not [g l3 0] fun v4 =>
 .br v4 (
 .ret (.bool false) []) (
 .chk (.eqN r0 r0) <|
 .chk (.eqN r1 r1) <|
 .call false 61 [g v 30,g v 68] [] [] .one fun l5 _ =>
 .pure [] .not [g l5 0] fun v6 =>
 .br v6 (
 .ret (.bool false) []) (
 .chk (.eqN r0 r0) <|
 .chk (.eqN r1 r1) <|
 .call false 25 [g v 31,g v 69] [] [] .one fun l7 _ =>
 .pure [] .not [g l7 0] fun v8 =>
 .chk (.eqN r0 r0) <|
 .chk (.eqV v8 v8) <|
 .chk (.eqV v8 v8) <|
 .pure [] .len [g v 32] fun v9 =>
 .chk (.eqN r1 r1) <|
 .chk (.eqV v8 v8) <|
 .chk (.eqV v8 v8) <|
 .pure [] .len [g v 70] fun v10 =>
 .chk (.eqV v8 v8) <|
 .chk (.eqV v8 v8) <|
 .pure [] (.bin .neq .int) [v9,v10] fun v11 =>
 .chk (.eqV v8 v8) <|
 .pure [] .pick [v8,(.bool true),v11] fun v12 =>
 .chk (.eqN r0 r0) <|
 .chk (.eqV v12 v12) <|
 .chk (.eqN r1 r1) <|
 .chk (.eqV v12 v12) <|
 .chk (.eqV v12 v12) <|
 .chk (.eqV v12 v12) <|
 .pure [] (.bin .neq .int) [g v 33,g v 71] fun v13 =>
 .chk (.eqV v12 v12) <|
 .pure [] .pick [v12,(.bool true),v13] fun v14 =>
 .chk (.eqN r0 r0) <|
 .chk (.eqV v14 v14) <|
 .chk (.eqN r1 r1) <|
 .chk (.eqV v14 v14) <|
 .chk (.eqV v14 v14) <|
 .chk (.eqV v14 v14) <|
 .pure [] (.bin .neq .int) [g v 34,g v 72] fun v15 =>
 .chk (.eqV v14 v14) <|
 .pure [] .pick [v14,(.bool true),v15] fun v16 =>
 .chk (.eqN r0 r0) <|
 .chk (.eqV v16 v16) <|
 .chk (.eqN r1 r1) <|
 .chk (.eqV v16 v16) <|
 .chk (.eqV v16 v16) <|
 .chk (.eqV v16 v16) <|
 .pure [] (.bin .neq .int) [g v 35,g v 73] fun v17 =>
 .chk (.eqV v16 v16) <|
 .pure [] .pick [v16,(.bool true),v17] fun v18 =>
 .chk (.eqN r0 r0) <|
 .chk (.eqV v18 v18) <|
 .chk (.eqN r1 r1) <|
 .chk (.eqV v18 v18) <|
 .chk (.eqV v18 v18) <|
 .chk (.eqV v18 v18) <|
 .pure [] (.bin .neq .int) [g v 36,g v 74] fun v19 =>
 .chk (.eqV v18 v18) <|
 .pure [] .pick [v18,(.bool true),v19] fun v20 =>
 .chk (.eqN r0 r0) <|
 .chk (.eqV v20 v20) <|
 .chk (.eqN r1 r1) <|
 .chk (.eqV v20 v20) <|
 .chk (.eqV v20 v20) <|
 .chk (.eqV v20 v20) <|
 .pure [] (.bin .neq .int) [g v 37,g v 75] fun v21 =>
 .chk (.eqV v20 v20) <|
 .pure [] .pick [v20,(.bool true),v21] fun v22 =>
 .br v22 (
 .ret (.bool false) []) (
 .loop 79 4 [(.int .i64 0)] fun C79 l23 =>
 .chk (.eqN r0 r0) <|
 .pure [] .len [g v 0] fun v24 =>
 .pure [] (.bin .lss .int) [g l23 0,v24] fun v25 =>
 .br v25 (
 .chk (.eqN r0 r0) <|
 .pure [] (.idx 12) [g v 0,g l23 0] fun v26 =>
 .load [] v26 12 fun l27 =>
 .chk (.eqN r1 r1) <|
 .pure [] (.idx 12) [g v 38,g l23 0] fun v28 =>
 .load [] v28 12 fun l29 =>
 .raw [] (.eqv .neq 40 false) [(.agg #[g l27 0,g l27 1,g l27 2,g l27 3,g l27 4,g l27 5,g l27 6,g l27 7,g l27 8,g l27 9,g l27 10,g l27 11]),(.agg #[g l29 0,g l29 1,g l29 2,g l29 3,g l29 4,g l29 5,g l29 6,g l29 7,g l29 8,g l29 9,g l29 10,g l29 11])] fun v30 =>
 .br v30 (
 .ret (.bool false) []) (
 .pure [] (.bin .add .int) [g l23 0,(.int .i64 1)] fun v31 =>
 .cont 79 C79 [v31] [E [(.pointer (some ⟨r0,0,none⟩))],E [(.pointer (some ⟨r1,0,none⟩))],E [(.pointer (some ⟨r0,0,none⟩)),g v 0,g v 1,g v 2,g v 3,g v 4,g v 5,g v 6,g v 7,g v 8,g v 9,g v 10,g v 11,g v 12,g v 13,g v 14,g v 15,g v 16,g v 17,g v 18,g v 19,g v 20,g v 21,g v 22,g v 23,g v 24,g v 25,g v 26,g v 27,g v 28,g v 29,g v 30,g v 31,g v 32,g v 33,g v 34,g v 35,g v 36,g v 37],E [(.pointer (some ⟨r1,0,none⟩)),g v 38,g v 39,g v 40,g v 41,g v 42,g v 43,g v 44,g v 45,g v 46,g v 47,g v 48,g v 49,g v 50,g v 51,g v 52,g v 53,g v 54,g v 55,g v 56,g v 57,g v 58,g v 59,g v 60,g v 61,g v 62,g v 63,g v 64,g v 65,g v 66,g v 67,g v 68,g v 69,g v 70,g v 71,g v 72,g v 73,g v 74,g v 75]])) (
 .loop 86 9 [(.int .i64 0)] fun C86 l32 =>
 .chk (.eqN r0 r0) <|
 .pure [] .len [g v 32] fun v33 =>
 .pure [] (.bin .lss .int) [g l32 0,v33] fun v34 =>
 .br v34 (
 .chk (.eqN r0 r0) <|
 .pure [] (.idx 2) [g v 32,g l32 0] fun v35 =>
 .load [] v35 2 fun l36 =>
 .chk (.eqN r1 r1) <|
 .pure [] (.idx 2) [g v 70,g l32 0] fun v37 =>
 .load [] v37 2 fun l38 =>
 .raw [] (.eqv .neq 89 false) [(.agg #[g l36 0,g l36 1]),(.agg #[g l38 0,g l38 1])] fun v39 =>
 .br v39 (
 .ret (.bool false) []) (
 .pure [] (.bin .add .int) [g l32 0,(.int .i64 1)] fun v40 =>
 .cont 86 C86 [v40] [E [(.pointer (some ⟨r0,0,none⟩))],E [(.pointer (some ⟨r1,0,none⟩))],E [(.pointer (some ⟨r0,0,none⟩)),g v 0,g v 1,g v 2,g v 3,g v 4,g v 5,g v 6,g v 7,g v 8,g v 9,g v 10,g v 11,g v 12,g v 13,g v 14,g v 15,g v 16,g v 17,g v 18,g v 19,g v 20,g v 21,g v 22,g v 23,g v 24,g v 25,g v 26,g v 27,g v 28,g v 29,g v 30,g v 31,g v 32,g v 33,g v 34,g v 35,g v 36,g v 37],E [(.pointer (some ⟨r1,0,none⟩)),g v 38,g v 39,g v 40,g v 41,g v 42,g v 43,g v 44,g v 45,g v 46,g v 47,g v 48,g v 49,g v 50,g v 51,g v 52,g v 53,g v 54,g v 55,g v 56,g v 57,g v 58,g v 59,g v 60,g v 61,g v 62,g v 63,g v 64,g v 65,g v 66,g v 67,g v 68,g v 69,g v 70,g v 71,g v 72,g v 73,g v 74,g v 75]])) (
 .chk (.eqN r0 r0) <|
 .chk (.eqN r1 r1) <|
 .newbox fun r2 =>
 .newbox fun r3 =>
 .chk (.eqN r2 r2) <|
 .chk (.eqN r3 r3) <|
 .chk (.eqN r2 r2) <|
 .chk (.eqN r3 r3) <|
 .pure [] (.bin .neq .int) [g v 1,g v 39] fun v41 =>
 .chk (.eqN r2 r2) <|
 .chk (.eqV v41 v41) <|
 .chk (.eqN r3 r3) <|
 .chk (.eqV v41 v41) <|
 .chk (.eqV v41 v41) <|
 .chk (.eqV v41 v41) <|
 .raw [(v41,false)] (.eqv .neq 24 false) [(.agg #[g v 2,g v 3,g v 4,g v 5]),(.agg #[g v 40,g v 41,g v 42,g v 43])] fun v42 =>
 .chk (.eqV v41 v41) <|
 .pure [] .pick [v41,(.bool true),v42] fun v43 =>
 .chk (.eqN r2 r2) <|
 .chk (.eqV v43 v43) <|
 .chk (.eqN r3 r3) <|
 .chk (.eqV v43 v43) <|
 .chk (.eqV v43 v43) <|
 .chk (.eqV v43 v43) <|
 .pure [] (.bin .neq .bool) [g v 10,g v 48] fun v44 =>
 .chk (.eqV v43 v43) <|
 .pure [] .pick [v43,(.bool true),v44] fun v45 =>
 .chk (.eqN r2 r2) <|
 .chk (.eqV v45 v45) <|
 .chk (.eqN r3 r3) <|
 .chk (.eqV v45 v45) <|
 .chk (.eqV v45 v45) <|
 .chk (.eqV v45 v45) <|
 .pure [] (.bin .neq .bool) [g v 11,g v 49] fun v46 =>
 .chk (.eqV v45 v45) <|
 .pure [] .pick [v45,(.bool true),v46] fun v47 =>
 .chk (.eqN r2 r2) <|
 .chk (.eqV v47 v47) <|
 .chk (.eqN r3 r3) <|
 .chk (.eqV v47 v47) <|
 .chk (.eqV v47 v47) <|
 .chk (.eqV v47 v47) <|
 .pure [] (.bin .neq .bool) [g v 12,g v 50] fun v48 =>
 .chk (.eqV v47 v47) <|
 .pure [] .pick [v47,(.bool true),v48] fun v49 =>
 .chk (.eqN r2 r2) <|
 .chk (.eqV v49 v49) <|
 .chk (.eqN r3 r3) <|
 .chk (.eqV v49 v49) <|
 .chk (.eqV v49 v49) <|
 .chk (.eqV v49 v49) <|
 .pure [] (.bin .neq .int) [g v 13,g v 51] fun v50 =>
 .chk (.eqV v49 v49) <|
 .pure [] .pick [v49,(.bool true),v50] fun v51 =>
 .chk (.eqN r2 r2) <|
 .chk (.eqV v51 v51) <|
 .chk (.eqN r3 r3) <|
 .chk (.eqV v51 v51) <|
 .chk (.eqV v51 v51) <|
 .chk (.eqV v51 v51) <|
 .pure [] (.bin .neq .int) [g v 14,g v 52] fun v52 =>
 .chk (.eqV v51 v51) <|
 .pure [] .pick [v51,(.bool true),v52] fun v53 =>
 .br v53 (
 .ret (.bool false) []) (
 .chk (.eqN r2 r2) <|
 .chk (.eqN r3 r3) <|
 .call false 35 [(.agg #[g v 1,g v 2,g v 3,g v 4,g v 5,g v 6,g v 7,g v 8,g v 9,g v 10,g v 11,g v 12,g v 13,g v 14])] [] [] (.agg 4) fun l54 _ =>
 .call false 35 [(.agg #[g v 39,g v 40,g v 41,g v 42,g v 43,g v 44,g v 45,g v 46,g v 47,g v 48,g v 49,g v 50,g v 51,g v 52])] [] [] (.agg 4) fun l55 _ =>
 .newbox fun r4 =>
 .newbox fun r5 =>
 .chk (.eqN r4 r4) <|
 .chk (.eqN r5 r5) <|
 .chk (.eqN r4 r4) <|
 .chk (.eqN r5 r5) <|
 .call false 25 [g l54 0,g l55 0] [] [] .one fun l56 _ =>
 .pure [] .not [g l56 0] fun v57 =>
 .br v57 (
 .ret (.bool false) []) (
 .chk (.eqN r4 r4) <|
 .chk (.eqN r5 r5) <|
 .call false 25 [g l54 1,g l55 1] [] [] .one fun l58 _ =>
 .pure [] .not [g l58 0] fun v59 =>
 .br v59 (
 .ret (.bool false) []) (
 .chk (.eqN r4 r4) <|
 .chk (.eqN r5 r5) <|
 .call false 25 [g l54 2,g l55 2] [] [] .one fun l60 _ =>
 .pure [] .not [g l60 0] fun v61 =>
 .br v61 (
 .ret (.bool false) []) (
 .chk (.eqN r4 r4) <|
 .chk (.eqN r5 r5) <|
 .call false 25 [g l54 3,g l55 3] [] [] .one fun l62 _ =>
 .pure [] .not [g l62 0] fun v63 =>
 .br v63 (
 .ret (.bool false) []) (
 .chk (.eqN r0 r0) <|
 .chk (.eqN r1 r1) <|
 .newbox fun r6 =>
 .newbox fun r7 =>
 .chk (.eqN r6 r6) <|
 .chk (.eqN r7 r7) <|
 .chk (.eqN r6 r6) <|
 .chk (.eqN r7 r7) <|
 .pure [] (.bin .neq .int) [g v 15,g v 53] fun v64 =>
 .chk (.eqN r6 r6) <|
 .chk (.eqV v64 v64) <|
 .chk (.eqN r7 r7) <|
 .chk (.eqV v64 v64) <|
 .chk (.eqV v64 v64) <|
 .chk (.eqV v64 v64) <|
 .raw [(v64,false)] (.eqv .neq 24 false) [(.agg #[g v 16,g v 17,g v 18,g v 19]),(.agg #[g v 54,g v 55,g v 56,g v 57])] fun v65 =>
 .chk (.eqV v64 v64) <|
 .pure [] .pick [v64,(.bool true),v65] fun v66 =>
 .chk (.eqN r6 r6) <|
 .chk (.eqV v66 v66) <|
 .chk (.eqN r7 r7) <|
 .chk (.eqV v66 v66) <|
 .chk (.eqV v66 v66) <|
 .chk (.eqV v66 v66) <|
 .pure [] (.bin .neq .bool) [g v 24,g v 62] fun v67 =>
 .chk (.eqV v66 v66) <|
 .pure [] .pick [v66,(.bool true),v67] fun v68 =>
 .chk (.eqN r6 r6) <|
 .chk (.eqV v68 v68) <|
 .chk (.eqN r7 r7) <|
 .chk (.eqV v68 v68) <|
 .chk (.eqV v68 v68) <|
 .chk (.eqV v68 v68) <|
 .pure [] (.bin .neq .bool) [g v 25,g v 63] fun v69 =>
 .chk (.eqV v68 v68) <|
 .pure [] .pick [v68,(.bool true),v69] fun v70 =>
 .chk (.eqN r6 r6) <|
 .chk (.eqV v70 v70) <|
 .chk (.eqN r7 r7) <|
 .chk (.eqV v70 v70) <|
 .chk (.eqV v70 v70) <|
 .chk (.eqV v70 v70) <|
 .pure [] (.bin .neq .bool) [g v 26,g v 64] fun v71 =>
 .chk (.eqV v70 v70) <|
 .pure [] .pick [v70,(.bool true),v71] fun v72 =>
 .chk (.eqN r6 r6) <|
 .chk (.eqV v72 v72) <|
 .chk (.eqN r7 r7) <|
 .chk (.eqV v72 v72) <|
 .chk (.eqV v72 v72) <|
 .chk (.eqV v72 v72) <|
 .pure [] (.bin .neq .int) [g v 27,g v 65] fun v73 =>
 .chk (.eqV v72 v72) <|
 .pure [] .pick [v72,(.bool true),v73] fun v74 =>
 .chk (.eqN r6 r6) <|
 .chk (.eqV v74 v74) <|
 .chk (.eqN r7 r7) <|
 .chk (.eqV v74 v74) <|
 .chk (.eqV v74 v74) <|
 .chk (.eqV v74 v74) <|
 .pure [] (.bin .neq .int) [g v 28,g v 66] fun v75 =>
 .chk (.eqV v74 v74) <|
 .pure [] .pick [v74,(.bool true),v75] fun v76 =>
 .br v76 (
 .ret (.bool false) []) (
 .chk (.eqN r6 r6) <|
 .chk (.eqN r7 r7) <|
 .call false 35 [(.agg #[g v 15,g v 16,g v 17,g v 18,g v 19,g v 20,g v 21,g v 22,g v 23,g v 24,g v 25,g v 26,g v 27,g v 28])] [] [] (.agg 4) fun l77 _ =>
 .call false 35 [(.agg #[g v 53,g v 54,g v 55,g v 56,g v 57,g v 58,g v 59,g v 60,g v 61,g v 62,g v 63,g v 64,g v 65,g v 66])] [] [] (.agg 4) fun l78 _ =>
 .newbox fun r8 =>
 .newbox fun r9 =>
 .chk (.eqN r8 r8) <|
 .chk (.eqN r9 r9) <|
 .chk (.eqN r8 r8) <|
 .chk (.eqN r9 r9) <|
 .call false 25 [g l77 0,g l78 0] [] [] .one fun l79 _ =>
 .pure [] .not [g l79 0] fun v80 =>
 .br v80 (
 .ret (.bool false) []) (
 .chk (.eqN r8 r8) <|
 .chk (.eqN r9 r9) <|
 .call false 25 [g l77 1,g l78 1] [] [] .one fun l81 _ =>
 .pure [] .not [g l81 0] fun v82 =>
 .br v82 (
 .ret (.bool false) []) (
 .chk (.eqN r8 r8) <|
 .chk (.eqN r9 r9) <|
 .call false 25 [g l77 2,g l78 2] [] [] .one fun l83 _ =>
 .pure [] .not [g l83 0] fun v84 =>
 .br v84 (
 .ret (.bool false) []) (
 .chk (.eqN r8 r8) <|
 .chk (.eqN r9 r9) <|
 .call false 25 [g l77 3,g l78 3] [] [] .one fun l85 _ =>
 .pure [] .not [g l85 0] fun v86 =>
 .br v86 (
 .ret (.bool false) []) (
 .ret (.bool true) []))))))))))))))))
theorem T_zeitnotref15_Same_eq (vs : List Value) : sxFun PP Tryz.f14 (mkOpts okL [(43, [5, 6, 7, 8])] [(14, .unroll 3), (21, .unroll 5), (4, .inv [5] [2, 3] [(2, []), (3, [])]), (9, .inv [6] [2, 3] [(2, []), (3, [])])] []) vs = T_zeitnotref15_Same vs := by kernel_rfl
theorem run_zeitnotref15_Same {args vs} (ha : entryArgs PP Tryz.f14 args = some vs) (ho : Ones vs) {H O Q} (h : (T_zeitnotref15_Same vs).den PP Q H O) : Triple PP F_zeitnotref15_Same args H O Q :=
 triple_run mixed (mkOpts_ok okL_ok _ _ _) Tryz.func14 T_zeitnotref15_Same_eq ha ho h
end Go.Proofs.YtjaegdkkiefchaaGreatDoor
