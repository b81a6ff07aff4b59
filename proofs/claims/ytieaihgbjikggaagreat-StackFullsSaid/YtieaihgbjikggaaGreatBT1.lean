/- The trees of the functions of this seat: printed by a tool of mine; each by the kernel's reckoning equal to the evaluator's. -/
import Derived.Test.YtieaihgbjikggaaGreatFw2
import Derived.Test.YtieaihgbjikggaaGreatProg
import Derived.KernelRfl
namespace Go.Proofs.YtieaihgbjikggaaGreat
open Go Go.Sx
set_option maxRecDepth 100000
noncomputable abbrev PP : Program := Tryz.prog
theorem mixed : PP.follows .mixedOrders = true := by kernel_rfl
def okL : List Nat := [2, 3, 4, 5, 6, 7, 8, 9, 10, 11, 12, 13, 14, 15, 16, 17, 18, 19, 20, 21, 22, 23, 24, 25, 26, 27, 28, 29, 30, 31, 32, 33, 34, 35, 36, 37, 38, 39, 40, 41, 42, 43, 44, 45, 46, 47, 48, 49, 50, 51, 52, 53, 54, 55, 56, 57, 58, 59, 60, 61, 62, 63, 64, 65, 66, 67, 68, 69, 70, 71, 72, 73, 74, 75, 76, 77, 78, 79, 80, 81, 82, 83, 84, 85, 86, 87, 88, 89, 90, 91, 92, 93, 94, 95, 96, 97, 98, 99, 100, 101, 102, 103, 104, 105, 106, 107, 108, 109, 110, 111, 112, 113, 114, 115, 116, 117, 118, 119, 120, 121, 122, 123, 124, 125, 126, 127, 128, 129, 130, 131, 132, 133, 134, 135, 136, 137, 138, 139, 140, 141, 142, 143, 144, 145, 146, 147, 148, 149]
theorem okL_ok : okL.all (okFnB PP) = true := by kernel_rfl
abbrev Ty_int : TypeId := 3
abbrev Ty_bool : TypeId := 4
abbrev Ty_api_Item : TypeId := 41
abbrev Ty_api_Target : TypeId := 43
abbrev Ty_api_Object : TypeId := 76
abbrev Ty_api_Block : TypeId := 123
abbrev Ty_map_int_int : TypeId := 150
abbrev Ty_map_int_bool : TypeId := 152
abbrev F_zeitnotlaw18_StackFulls : FuncId := 6
/- zeitnot/zeitnotlaw18.StackFulls -/
def T_zeitnotlaw18_StackFulls (v : List Value) : Tree :=
 .pure [] (.bin .lss .int) [g v 0,(.int .i64 198)] fun v0 =>
 .chk (.eqV v0 v0) <|
 .pure [] (.bin .gtr .int) [g v 0,(.int .i64 202)] fun v1 =>
 .chk (.eqV v0 v0) <|
 .pure [] .pick [v0,(.bool true),v1] fun v2 =>
 .br v2 (
 .call false 11 [] [] [] .one fun l3 _ =>
 .ret (g l3 0) []) (
 .newbox fun r0 =>
 .newbox fun r1 =>
 .call false 25 [(.int .i64 20),(.agg #[(.slice (some ⟨r0,0,none⟩) 1 1),(.slice (some ⟨r1,0,none⟩) 0 0)])] [⟨r0,3,[(.int .i64 0)]⟩,⟨r1,3,[]⟩] [] (.tup [some 38,none]) fun l4 _ =>
 .newbox fun r2 =>
 .chk (.eqN r2 r2) <|
 .chk (.eqN r2 r2) <|
 .call false 26 [(.agg #[g l4 0,g l4 1,g l4 2,g l4 3,g l4 4,g l4 5,g l4 6,g l4 7,g l4 8,g l4 9,g l4 10,g l4 11,g l4 12,g l4 13,g l4 14,g l4 15,g l4 16,g l4 17,g l4 18,g l4 19,g l4 20,g l4 21,g l4 22,g l4 23,g l4 24,g l4 25,g l4 26,g l4 27,g l4 28,g l4 29,g l4 30,g l4 31,g l4 32,g l4 33,g l4 34,g l4 35,g l4 36,g l4 37]),(.int .i64 1),(.int .i64 1)] [] [] (.agg 38) fun l5 _ =>
 .chk (.eqN r2 r2) <|
 .loop 21 6 [(.int .i64 0),g l5 0,g l5 1,g l5 2,g l5 3,g l5 4,g l5 5,g l5 6,g l5 7,g l5 8,g l5 9,g l5 10,g l5 11,g l5 12,g l5 13,g l5 14,g l5 15,g l5 16,g l5 17,g l5 18,g l5 19,g l5 20,g l5 21,g l5 22,g l5 23,g l5 24,g l5 25,g l5 26,g l5 27,g l5 28,g l5 29,g l5 30,g l5 31,g l5 32,g l5 33,g l5 34,g l5 35,g l5 36,g l5 37] fun C21 l6 =>
 .pure [] (.bin .lss .int) [g l6 0,g v 0] fun v7 =>
 .br v7 (
 .chk (.eqN r2 r2) <|
 .pure [] (.bin .rem .int) [g l6 0,(.int .i64 9)] fun v8 =>
 .pure [] (.bin .add .int) [(.int .i64 1),v8] fun v9 =>
 .pure [] (.bin .rem .int) [g l6 0,(.int .i64 7)] fun v10 =>
 .pure [] (.bin .rem .int) [g l6 0,(.int .i64 2)] fun v11 =>
 .call false 19 [(.agg #[g l6 1,g l6 2,g l6 3,g l6 4,g l6 5,g l6 6,g l6 7,g l6 8,g l6 9,g l6 10,g l6 11,g l6 12,g l6 13,g l6 14,g l6 15,g l6 16,g l6 17,g l6 18,g l6 19,g l6 20,g l6 21,g l6 22,g l6 23,g l6 24,g l6 25,g l6 26,g l6 27,g l6 28,g l6 29,g l6 30,g l6 31,g l6 32,g l6 33,g l6 34,g l6 35,g l6 36,g l6 37,g l6 38]),(.agg #[(.int .i64 0),v9,v10,v11,(.slice none 0 0)])] [] [] (.tup [some 38,none]) fun l12 _ =>
 .newbox fun r3 =>
 .chk (.eqN r3 r3) <|
 .pure [] (.bin .eql .int) [g l12 38,(.int .i64 0)] fun v13 =>
 .pure [] (.bin .lss .int) [g l6 0,(.int .i64 200)] fun v14 =>
 .pure [] (.bin .neq .bool) [v13,v14] fun v15 =>
 .chk (.eqV v15 v15) <|
 .pure [] (.bin .neq .int) [g l12 38,(.int .i64 0)] fun v16 =>
 .chk (.eqV v15 v15) <|
 .chk (.eqV v16 v16) <|
 .chk (.eqV v15 v15) <|
 .pure [] (.bin .neq .int) [g l12 38,(.int .i64 7)] fun v17 =>
 .chk (.eqV v15 v15) <|
 .chk (.eqV v16 v16) <|
 .chk (.eqV v15 v15) <|
 .pure [] .pick [v16,v17,(.bool false)] fun v18 =>
 .chk (.eqV v15 v15) <|
 .pure [] .pick [v15,(.bool true),v18] fun v19 =>
 .br v19 (
 .ret (.bool false) []) (
 .pure [] (.bin .eql .int) [g l12 38,(.int .i64 0)] fun v20 =>
 .br v20 (
 .chk (.eqN r3 r3) <|
 .chk (.eqN r2 r2) <|
 .pure [] (.bin .add .int) [g l6 0,(.int .i64 1)] fun v21 =>
 .cont 21 C21 [v21,g l12 0,g l12 1,g l12 2,g l12 3,g l12 4,g l12 5,g l12 6,g l12 7,g l12 8,g l12 9,g l12 10,g l12 11,g l12 12,g l12 13,g l12 14,g l12 15,g l12 16,g l12 17,g l12 18,g l12 19,g l12 20,g l12 21,g l12 22,g l12 23,g l12 24,g l12 25,g l12 26,g l12 27,g l12 28,g l12 29,g l12 30,g l12 31,g l12 32,g l12 33,g l12 34,g l12 35,g l12 36,g l12 37] [E [g v 0],E [(.pointer (some ⟨r2,0,none⟩))],E [g l4 38],E [(.pointer (some ⟨r2,0,none⟩)),(.tuple #[]),(.tuple #[]),(.tuple #[]),(.tuple #[]),(.tuple #[]),(.tuple #[]),(.tuple #[]),(.tuple #[]),(.tuple #[]),(.tuple #[]),(.tuple #[]),(.tuple #[]),(.tuple #[]),(.tuple #[]),(.tuple #[]),(.tuple #[]),(.tuple #[]),(.tuple #[]),(.tuple #[]),(.tuple #[]),(.tuple #[]),(.tuple #[]),(.tuple #[]),(.tuple #[]),(.tuple #[]),(.tuple #[]),(.tuple #[]),(.tuple #[]),(.tuple #[]),(.tuple #[]),(.tuple #[]),(.tuple #[]),(.tuple #[]),(.tuple #[]),(.tuple #[]),(.tuple #[]),(.tuple #[]),(.tuple #[])]]) (
 .pure [] (.bin .add .int) [g l6 0,(.int .i64 1)] fun v22 =>
 .cont 21 C21 [v22,g l6 1,g l6 2,g l6 3,g l6 4,g l6 5,g l6 6,g l6 7,g l6 8,g l6 9,g l6 10,g l6 11,g l6 12,g l6 13,g l6 14,g l6 15,g l6 16,g l6 17,g l6 18,g l6 19,g l6 20,g l6 21,g l6 22,g l6 23,g l6 24,g l6 25,g l6 26,g l6 27,g l6 28,g l6 29,g l6 30,g l6 31,g l6 32,g l6 33,g l6 34,g l6 35,g l6 36,g l6 37,g l6 38] [E [g v 0],E [(.pointer (some ⟨r2,0,none⟩))],E [g l4 38],E [(.pointer (some ⟨r2,0,none⟩)),(.tuple #[]),(.tuple #[]),(.tuple #[]),(.tuple #[]),(.tuple #[]),(.tuple #[]),(.tuple #[]),(.tuple #[]),(.tuple #[]),(.tuple #[]),(.tuple #[]),(.tuple #[]),(.tuple #[]),(.tuple #[]),(.tuple #[]),(.tuple #[]),(.tuple #[]),(.tuple #[]),(.tuple #[]),(.tuple #[]),(.tuple #[]),(.tuple #[]),(.tuple #[]),(.tuple #[]),(.tuple #[]),(.tuple #[]),(.tuple #[]),(.tuple #[]),(.tuple #[]),(.tuple #[]),(.tuple #[]),(.tuple #[]),(.tuple #[]),(.tuple #[]),(.tuple #[]),(.tuple #[]),(.tuple #[]),(.tuple #[])]]))) (
 .chk (.eqN r2 r2) <|
 .call false 18 [(.agg #[g l6 1,g l6 2,g l6 3,g l6 4,g l6 5,g l6 6,g l6 7,g l6 8,g l6 9,g l6 10,g l6 11,g l6 12,g l6 13,g l6 14,g l6 15,g l6 16,g l6 17,g l6 18,g l6 19,g l6 20,g l6 21,g l6 22,g l6 23,g l6 24,g l6 25,g l6 26,g l6 27,g l6 28,g l6 29,g l6 30,g l6 31,g l6 32,g l6 33,g l6 34,g l6 35,g l6 36,g l6 37,g l6 38]),(.int .i64 1)] [] [] (.tup [some 38,none]) fun l23 _ =>
 .newbox fun r4 =>
 .chk (.eqN r4 r4) <|
 .pure [] (.bin .geq .int) [g v 0,(.int .i64 200)] fun v24 =>
 .br v24 (
 .pure [] (.bin .eql .int) [g l23 38,(.int .i64 7)] fun v25 =>
 .chk (.eqN r4 r4) <|
 .chk (.eqV v25 v25) <|
 .chk (.eqV v25 v25) <|
 .pure [] .len [g l23 29] fun v26 =>
 .chk (.eqV v25 v25) <|
 .pure [] (.bin .eql .int) [v26,(.int .i64 0)] fun v27 =>
 .chk (.eqV v25 v25) <|
 .pure [] .pick [v25,v27,(.bool false)] fun v28 =>
 .chk (.eqN r2 r2) <|
 .chk (.eqV v28 v28) <|
 .chk (.eqV v28 v28) <|
 .pure [] .len [g l6 30] fun v29 =>
 .chk (.eqV v28 v28) <|
 .pure [] (.bin .eql .int) [v29,(.int .i64 200)] fun v30 =>
 .chk (.eqV v28 v28) <|
 .pure [] .pick [v28,v30,(.bool false)] fun v31 =>
 .br v31 (
 .call false 11 [] [] [] .one fun l32 _ =>
 .ret (g l32 0) []) (
 .ret (.bool false) [])) (
 .pure [] (.bin .eql .int) [g l4 38,(.int .i64 0)] fun v33 =>
 .chk (.eqV v33 v33) <|
 .pure [] (.bin .eql .int) [g l23 38,(.int .i64 0)] fun v34 =>
 .chk (.eqV v33 v33) <|
 .pure [] .pick [v33,v34,(.bool false)] fun v35 =>
 .chk (.eqN r4 r4) <|
 .chk (.eqV v35 v35) <|
 .chk (.eqV v35 v35) <|
 .pure [] .len [g l23 29] fun v36 =>
 .chk (.eqV v35 v35) <|
 .pure [] (.bin .add .int) [g v 0,(.int .i64 1)] fun v37 =>
 .chk (.eqV v35 v35) <|
 .chk (.eqV v35 v35) <|
 .pure [] (.bin .eql .int) [v36,v37] fun v38 =>
 .chk (.eqV v35 v35) <|
 .pure [] .pick [v35,v38,(.bool false)] fun v39 =>
 .br v39 (
 .call false 11 [] [] [] .one fun l40 _ =>
 .ret (g l40 0) []) (
 .ret (.bool false) []))))
theorem T_zeitnotlaw18_StackFulls_eq (vs : List Value) : sxFun PP Tryz.f6 (mkOpts okL [(81, [5, 6, 7, 8])] [(6, .inv [5] [0, 3, 4] [(3, [0, 1, 2, 3, 4, 5, 6, 7, 8, 9, 10, 11, 12, 13, 14, 15, 16, 17, 18, 19, 20, 21, 22, 23, 24, 25, 26, 27, 28, 29, 30, 31, 32, 33, 34, 35, 36, 37])])] []) vs = T_zeitnotlaw18_StackFulls vs := by kernel_rfl
theorem run_zeitnotlaw18_StackFulls {args vs} (ha : entryArgs PP Tryz.f6 args = some vs) (ho : Ones vs) {H O Q} (h : (T_zeitnotlaw18_StackFulls vs).den PP Q H O) : Triple PP F_zeitnotlaw18_StackFulls args H O Q :=
 triple_run mixed (mkOpts_ok okL_ok _ _ _) Tryz.func6 T_zeitnotlaw18_StackFulls_eq ha ho h
abbrev F_zeitnotlaw18_known : FuncId := 11
end Go.Proofs.YtieaihgbjikggaaGreat
