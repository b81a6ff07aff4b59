/- The trees of TargetWaits where one argument is known: printed by a tool of mine; each by the kernel's reckoning equal to the evaluator's. -/
import Derived.Test.YtbaegnnmedjkmaaBT2
import Derived.Test.YtbaegnnmedjkmaaFw2
namespace Go.Proofs.Ytbaegnnmedjkmaa
open Go Go.Sx
set_option maxRecDepth 100000
def T_waits_0 (v : List Value) : Tree :=
 .pure [] (.bin .gtr .int) [g v 0,(.int .u8 4)] fun v0 =>
 .chk (.eqV v0 v0) <|
 .pure [] (.bin .gtr .int) [g v 1,(.int .u8 4)] fun v1 =>
 .chk (.eqV v0 v0) <|
 .pure [] .pick [v0,(.bool true),v1] fun v2 =>
 .chk (.eqV v2 v2) <|
 .chk (.eqV v2 v2) <|
 .pure [] .pick [v2,(.bool true),(.bool false)] fun v3 =>
 .br v3 (
 .call false 9 [] [] [] .one fun l4 _ =>
 .ret (g l4 0) []) (
 .newbox fun r0 =>
 .loop 17 5 [(.int .i64 0),(.slice none 0 0)] fun C17 l5 =>
 .pure [] (.conv .i64) [g v 0] fun v6 =>
 .pure [] (.bin .lss .int) [g l5 0,v6] fun v7 =>
 .br v7 (
 .chk (.eqN r0 r0) <|
 .newbox fun r1 =>
 .prim (.bi .append #[35,35] 35) [g l5 1,(.slice (some ⟨r1,0,none⟩) 1 1)] [⟨r1,53,[(.int .i64 11),(.int .i64 1),(.int .i64 0),(.int .i64 0),(.int .i64 0)]⟩] [] .one fun l8 _ =>
 .chk (.eqN r0 r0) <|
 .pure [] (.bin .add .int) [g l5 0,(.int .i64 1)] fun v9 =>
 .cont 17 C17 [v9,g l8 0] [E [g v 0],E [g v 1],E [g v 2],E [(.int .u8 0)],E [(.slice (some ⟨r0,0,none⟩) 2 2)],E [(.pointer (some ⟨r0,0,none⟩)),(.string ⟨#[]⟩),g v 2,(.int .i64 0),(.int .i64 0),(.int .i64 0),(.int .i64 0),(.int .i64 0),(.int .i64 0),(.int .i64 0),(.int .i64 0),(.int .i64 0),(.tuple #[]),(.slice none 0 0),(.int .i64 0),(.string ⟨#[]⟩),(.int .i64 3),(.int .i64 0),(.int .i64 0),(.int .i64 0),(.int .i64 0),(.int .i64 0),(.int .i64 0),(.int .i64 0),(.int .i64 0),(.int .i64 0),(.slice none 0 0),(.slice none 0 0),(.int .i64 0)]]) (
 .newbox fun r2 =>
 .newbox fun r3 =>
 .call false 14 [(.int .i64 5),(.agg #[(.slice (some ⟨r2,0,none⟩) 5 5),(.slice (some ⟨r3,0,none⟩) 0 0)])] [⟨r2,3,[(.int .i64 0),(.int .i64 1),(.int .i64 1),(.int .i64 1),(.int .i64 1)]⟩,⟨r3,3,[]⟩] [] (.tup [some 38,none]) fun l10 _ =>
 .newbox fun r4 =>
 .chk (.eqN r4 r4) <|
 .pure [] (.bin .neq .int) [g l10 38,(.int .i64 0)] fun v11 =>
 .br v11 (
 .ret (.bool false) []) (
 .newbox fun r5 =>
 .chk (.eqN r4 r4) <|
 .prim (.makeSlice 58) [g v 1,g v 1] [] [] .one fun l12 _ =>
 .newbox fun r6 =>
 .chk (.eqN r4 r4) <|
 .pure [] (.bin .geq .int) [g v 1,g v 0] fun v13 =>
 .chk (.eqV v13 v13) <|
 .pure [] (.bin .eql .int) [g v 2,(.int .i64 3)] fun v14 =>
 .chk (.eqV v13 v13) <|
 .chk (.eqV v14 v14) <|
 .chk (.eqV v13 v13) <|
 .pure [] (.bin .eql .int) [g v 2,(.int .i64 4)] fun v15 =>
 .chk (.eqV v13 v13) <|
 .chk (.eqV v14 v14) <|
 .chk (.eqV v13 v13) <|
 .pure [] .pick [v14,(.bool true),v15] fun v16 =>
 .chk (.eqV v13 v13) <|
 .pure [] .pick [v13,v16,(.bool false)] fun v17 =>
 .br v17 (
 .newbox fun r7 =>
 .prim (.bi .append #[58,58] 58) [(.slice none 0 0),(.slice (some ⟨r7,0,none⟩) 1 1)] [⟨r7,62,[(.int .i64 1),(.int .i64 0)]⟩] [] .one fun l18 _ =>
 .chk (.eqN r4 r4) <|
 .call false 16 [(.slice (some ⟨r0,0,none⟩) 2 2),(.agg #[g l10 0,g l10 1,g l10 2,g l10 3,g l10 4,g l10 5,(.slice (some ⟨r5,0,none⟩) 4 4),g l10 7,g l10 8,g l10 9,g l10 10,g l10 11,g l10 12,g l10 13,g l10 14,g l10 15,g l10 16,g l10 17,g l10 18,g l10 19,g l10 20,g l10 21,g l10 22,g l10 23,g l10 24,g l10 25,g l10 26,g l10 27,g l10 28,(.slice (some ⟨r6,0,none⟩) 1 1),g l10 30,g l10 31,g l10 32,g l10 33,g l10 34,g l10 35,g l10 36,g l10 37]),(.int .i64 0),(.int .i64 6)] [⟨r0,50,[(.string ⟨#[]⟩),g v 2,(.int .i64 0),(.int .i64 0),(.int .i64 0),(.int .i64 0),(.int .i64 0),(.int .i64 0),(.int .i64 0),(.int .i64 0),(.int .i64 0),g l5 1,(.slice none 0 0),(.int .i64 0),(.string ⟨#[]⟩),(.int .i64 3),(.int .i64 0),(.int .i64 0),(.int .i64 0),(.int .i64 0),(.int .i64 0),(.int .i64 0),(.int .i64 0),(.int .i64 0),(.int .i64 0),(.slice none 0 0),(.slice none 0 0),(.int .i64 0)]⟩,⟨r5,3,[(.int .i64 5),(.int .i64 4),(.int .i64 3),(.int .i64 2)]⟩,⟨r6,60,[(.int .i64 0),(.int .i64 1),(.int .i64 0),(.int .i64 (-1)),g l12 0]⟩] [] .one fun l19 _ =>
 .call false 15 [g l19 0,g l18 0] [] [] .one fun l20 _ =>
 .pure [] .not [g l20 0] fun v21 =>
 .br v21 (
 .ret (.bool false) []) (
 .chk (.eqN r4 r4) <|
 .newbox fun r8 =>
 .call false 12 [(.slice (some ⟨r0,0,none⟩) 2 2),(.agg #[g l10 0,g l10 1,g l10 2,g l10 3,g l10 4,g l10 5,(.slice (some ⟨r5,0,none⟩) 4 4),g l10 7,g l10 8,g l10 9,g l10 10,g l10 11,g l10 12,g l10 13,g l10 14,g l10 15,g l10 16,g l10 17,g l10 18,g l10 19,g l10 20,g l10 21,g l10 22,g l10 23,g l10 24,g l10 25,g l10 26,g l10 27,g l10 28,(.slice (some ⟨r6,0,none⟩) 1 1),g l10 30,g l10 31,g l10 32,g l10 33,g l10 34,g l10 35,g l10 36,g l10 37]),(.int .i64 0),(.slice (some ⟨r8,0,none⟩) 1 1)] [⟨r8,53,[(.int .i64 0),(.int .i64 6),(.int .i64 0),(.int .i64 0),(.int .i64 0)]⟩] [] .one fun l22 _ =>
 .pure [] .len [g l18 0] fun v23 =>
 .pure [] (.bin .gtr .int) [v23,(.int .i64 0)] fun v24 =>
 .pure [] (.bin .neq .bool) [g l22 0,v24] fun v25 =>
 .br v25 (
 .ret (.bool false) []) (
 .chk (.eqN r4 r4) <|
 .call false 16 [(.slice (some ⟨r0,0,none⟩) 2 2),(.agg #[g l10 0,g l10 1,g l10 2,g l10 3,g l10 4,g l10 5,(.slice (some ⟨r5,0,none⟩) 4 4),g l10 7,g l10 8,g l10 9,g l10 10,g l10 11,g l10 12,g l10 13,g l10 14,g l10 15,g l10 16,g l10 17,g l10 18,g l10 19,g l10 20,g l10 21,g l10 22,g l10 23,g l10 24,g l10 25,g l10 26,g l10 27,g l10 28,(.slice (some ⟨r6,0,none⟩) 1 1),g l10 30,g l10 31,g l10 32,g l10 33,g l10 34,g l10 35,g l10 36,g l10 37]),(.int .i64 1),(.int .i64 6)] [] [] .one fun l26 _ =>
 .call false 15 [g l26 0,g l18 0] [] [] .one fun l27 _ =>
 .pure [] .not [g l27 0] fun v28 =>
 .br v28 (
 .ret (.bool false) []) (
 .chk (.eqN r4 r4) <|
 .newbox fun r9 =>
 .call false 12 [(.slice (some ⟨r0,0,none⟩) 2 2),(.agg #[g l10 0,g l10 1,g l10 2,g l10 3,g l10 4,g l10 5,(.slice (some ⟨r5,0,none⟩) 4 4),g l10 7,g l10 8,g l10 9,g l10 10,g l10 11,g l10 12,g l10 13,g l10 14,g l10 15,g l10 16,g l10 17,g l10 18,g l10 19,g l10 20,g l10 21,g l10 22,g l10 23,g l10 24,g l10 25,g l10 26,g l10 27,g l10 28,(.slice (some ⟨r6,0,none⟩) 1 1),g l10 30,g l10 31,g l10 32,g l10 33,g l10 34,g l10 35,g l10 36,g l10 37]),(.int .i64 1),(.slice (some ⟨r9,0,none⟩) 1 1)] [⟨r9,53,[(.int .i64 0),(.int .i64 6),(.int .i64 0),(.int .i64 0),(.int .i64 0)]⟩] [] .one fun l29 _ =>
 .pure [] .len [g l18 0] fun v30 =>
 .pure [] (.bin .gtr .int) [v30,(.int .i64 0)] fun v31 =>
 .pure [] (.bin .neq .bool) [g l29 0,v31] fun v32 =>
 .br v32 (
 .ret (.bool false) []) (
 .call false 9 [] [] [] .one fun l33 _ =>
 .ret (g l33 0) []))))) (
 .chk (.eqN r4 r4) <|
 .call false 16 [(.slice (some ⟨r0,0,none⟩) 2 2),(.agg #[g l10 0,g l10 1,g l10 2,g l10 3,g l10 4,g l10 5,(.slice (some ⟨r5,0,none⟩) 4 4),g l10 7,g l10 8,g l10 9,g l10 10,g l10 11,g l10 12,g l10 13,g l10 14,g l10 15,g l10 16,g l10 17,g l10 18,g l10 19,g l10 20,g l10 21,g l10 22,g l10 23,g l10 24,g l10 25,g l10 26,g l10 27,g l10 28,(.slice (some ⟨r6,0,none⟩) 1 1),g l10 30,g l10 31,g l10 32,g l10 33,g l10 34,g l10 35,g l10 36,g l10 37]),(.int .i64 0),(.int .i64 6)] [⟨r0,50,[(.string ⟨#[]⟩),g v 2,(.int .i64 0),(.int .i64 0),(.int .i64 0),(.int .i64 0),(.int .i64 0),(.int .i64 0),(.int .i64 0),(.int .i64 0),(.int .i64 0),g l5 1,(.slice none 0 0),(.int .i64 0),(.string ⟨#[]⟩),(.int .i64 3),(.int .i64 0),(.int .i64 0),(.int .i64 0),(.int .i64 0),(.int .i64 0),(.int .i64 0),(.int .i64 0),(.int .i64 0),(.int .i64 0),(.slice none 0 0),(.slice none 0 0),(.int .i64 0)]⟩,⟨r5,3,[(.int .i64 5),(.int .i64 4),(.int .i64 3),(.int .i64 2)]⟩,⟨r6,60,[(.int .i64 0),(.int .i64 1),(.int .i64 0),(.int .i64 (-1)),g l12 0]⟩] [] .one fun l34 _ =>
 .call false 15 [g l34 0,(.slice none 0 0)] [] [] .one fun l35 _ =>
 .pure [] .not [g l35 0] fun v36 =>
 .br v36 (
 .ret (.bool false) []) (
 .chk (.eqN r4 r4) <|
 .newbox fun r10 =>
 .call false 12 [(.slice (some ⟨r0,0,none⟩) 2 2),(.agg #[g l10 0,g l10 1,g l10 2,g l10 3,g l10 4,g l10 5,(.slice (some ⟨r5,0,none⟩) 4 4),g l10 7,g l10 8,g l10 9,g l10 10,g l10 11,g l10 12,g l10 13,g l10 14,g l10 15,g l10 16,g l10 17,g l10 18,g l10 19,g l10 20,g l10 21,g l10 22,g l10 23,g l10 24,g l10 25,g l10 26,g l10 27,g l10 28,(.slice (some ⟨r6,0,none⟩) 1 1),g l10 30,g l10 31,g l10 32,g l10 33,g l10 34,g l10 35,g l10 36,g l10 37]),(.int .i64 0),(.slice (some ⟨r10,0,none⟩) 1 1)] [⟨r10,53,[(.int .i64 0),(.int .i64 6),(.int .i64 0),(.int .i64 0),(.int .i64 0)]⟩] [] .one fun l37 _ =>
 .pure [] .len [(.slice none 0 0)] fun v38 =>
 .pure [] (.bin .gtr .int) [v38,(.int .i64 0)] fun v39 =>
 .pure [] (.bin .neq .bool) [g l37 0,v39] fun v40 =>
 .br v40 (
 .ret (.bool false) []) (
 .chk (.eqN r4 r4) <|
 .call false 16 [(.slice (some ⟨r0,0,none⟩) 2 2),(.agg #[g l10 0,g l10 1,g l10 2,g l10 3,g l10 4,g l10 5,(.slice (some ⟨r5,0,none⟩) 4 4),g l10 7,g l10 8,g l10 9,g l10 10,g l10 11,g l10 12,g l10 13,g l10 14,g l10 15,g l10 16,g l10 17,g l10 18,g l10 19,g l10 20,g l10 21,g l10 22,g l10 23,g l10 24,g l10 25,g l10 26,g l10 27,g l10 28,(.slice (some ⟨r6,0,none⟩) 1 1),g l10 30,g l10 31,g l10 32,g l10 33,g l10 34,g l10 35,g l10 36,g l10 37]),(.int .i64 1),(.int .i64 6)] [] [] .one fun l41 _ =>
 .call false 15 [g l41 0,(.slice none 0 0)] [] [] .one fun l42 _ =>
 .pure [] .not [g l42 0] fun v43 =>
 .br v43 (
 .ret (.bool false) []) (
 .chk (.eqN r4 r4) <|
 .newbox fun r11 =>
 .call false 12 [(.slice (some ⟨r0,0,none⟩) 2 2),(.agg #[g l10 0,g l10 1,g l10 2,g l10 3,g l10 4,g l10 5,(.slice (some ⟨r5,0,none⟩) 4 4),g l10 7,g l10 8,g l10 9,g l10 10,g l10 11,g l10 12,g l10 13,g l10 14,g l10 15,g l10 16,g l10 17,g l10 18,g l10 19,g l10 20,g l10 21,g l10 22,g l10 23,g l10 24,g l10 25,g l10 26,g l10 27,g l10 28,(.slice (some ⟨r6,0,none⟩) 1 1),g l10 30,g l10 31,g l10 32,g l10 33,g l10 34,g l10 35,g l10 36,g l10 37]),(.int .i64 1),(.slice (some ⟨r11,0,none⟩) 1 1)] [⟨r11,53,[(.int .i64 0),(.int .i64 6),(.int .i64 0),(.int .i64 0),(.int .i64 0)]⟩] [] .one fun l44 _ =>
 .pure [] .len [(.slice none 0 0)] fun v45 =>
 .pure [] (.bin .gtr .int) [v45,(.int .i64 0)] fun v46 =>
 .pure [] (.bin .neq .bool) [g l44 0,v46] fun v47 =>
 .br v47 (
 .ret (.bool false) []) (
 .call false 9 [] [] [] .one fun l48 _ =>
 .ret (g l48 0) []))))))))
theorem T_waits_0_eq (vs : List Value) : sxFunK PP Try.f4 (mkOpts okL [] [(5, .inv [10] [0, 1, 2, 3, 9] [(9, [11])]), (15, .unroll 6), (22, .unroll 3)] []) 3 (.int .u8 0) vs = T_waits_0 vs := by kernel_rfl
theorem run_waits_0 {args vs} (ha : entryArgs PP Try.f4 args = some vs) (ho : Ones vs) (hs : (entrySS PP Try.f4 vs).tmps 3 = .s (.at (.v (.int .u8 0)))) {H O Q} (h : (T_waits_0 vs).den PP Q H O) : Triple PP F_zeitnotlaw16_TargetWaits args H O Q :=
 triple_of_sxK mixed (mkOpts_ok okL_ok _ _ _) Try.func4 ha ho hs (by rw [T_waits_0_eq]; exact h)
def T_waits_1 (v : List Value) : Tree :=
 .pure [] (.bin .gtr .int) [g v 0,(.int .u8 4)] fun v0 =>
 .chk (.eqV v0 v0) <|
 .pure [] (.bin .gtr .int) [g v 1,(.int .u8 4)] fun v1 =>
 .chk (.eqV v0 v0) <|
 .pure [] .pick [v0,(.bool true),v1] fun v2 =>
 .chk (.eqV v2 v2) <|
 .chk (.eqV v2 v2) <|
 .pure [] .pick [v2,(.bool true),(.bool false)] fun v3 =>
 .br v3 (
 .call false 9 [] [] [] .one fun l4 _ =>
 .ret (g l4 0) []) (
 .newbox fun r0 =>
 .loop 17 5 [(.int .i64 0),(.slice none 0 0)] fun C17 l5 =>
 .pure [] (.conv .i64) [g v 0] fun v6 =>
 .pure [] (.bin .lss .int) [g l5 0,v6] fun v7 =>
 .br v7 (
 .chk (.eqN r0 r0) <|
 .newbox fun r1 =>
 .prim (.bi .append #[35,35] 35) [g l5 1,(.slice (some ⟨r1,0,none⟩) 1 1)] [⟨r1,53,[(.int .i64 11),(.int .i64 1),(.int .i64 0),(.int .i64 0),(.int .i64 0)]⟩] [] .one fun l8 _ =>
 .chk (.eqN r0 r0) <|
 .pure [] (.bin .add .int) [g l5 0,(.int .i64 1)] fun v9 =>
 .cont 17 C17 [v9,g l8 0] [E [g v 0],E [g v 1],E [g v 2],E [(.int .u8 1)],E [(.slice (some ⟨r0,0,none⟩) 2 2)],E [(.pointer (some ⟨r0,0,none⟩)),(.string ⟨#[]⟩),g v 2,(.int .i64 0),(.int .i64 0),(.int .i64 0),(.int .i64 0),(.int .i64 0),(.int .i64 0),(.int .i64 0),(.int .i64 0),(.int .i64 0),(.tuple #[]),(.slice none 0 0),(.int .i64 0),(.string ⟨#[]⟩),(.int .i64 3),(.int .i64 0),(.int .i64 0),(.int .i64 0),(.int .i64 0),(.int .i64 0),(.int .i64 0),(.int .i64 0),(.int .i64 0),(.int .i64 0),(.slice none 0 0),(.slice none 0 0),(.int .i64 0)]]) (
 .newbox fun r2 =>
 .newbox fun r3 =>
 .call false 14 [(.int .i64 5),(.agg #[(.slice (some ⟨r2,0,none⟩) 5 5),(.slice (some ⟨r3,0,none⟩) 0 0)])] [⟨r2,3,[(.int .i64 0),(.int .i64 1),(.int .i64 1),(.int .i64 1),(.int .i64 1)]⟩,⟨r3,3,[]⟩] [] (.tup [some 38,none]) fun l10 _ =>
 .newbox fun r4 =>
 .chk (.eqN r4 r4) <|
 .pure [] (.bin .neq .int) [g l10 38,(.int .i64 0)] fun v11 =>
 .br v11 (
 .ret (.bool false) []) (
 .newbox fun r5 =>
 .chk (.eqN r4 r4) <|
 .prim (.makeSlice 58) [g v 1,g v 1] [] [] .one fun l12 _ =>
 .newbox fun r6 =>
 .chk (.eqN r4 r4) <|
 .chk (.eqN r4 r4) <|
 .newbox fun r7 =>
 .prim (.bi .append #[30,30] 30) [(.slice (some ⟨r6,0,none⟩) 1 1),(.slice (some ⟨r7,0,none⟩) 1 1)] [⟨r6,60,[(.int .i64 0),(.int .i64 1),(.int .i64 0),(.int .i64 (-1)),g l12 0]⟩,⟨r7,60,[(.int .i64 0),(.int .i64 2),(.int .i64 1),(.int .i64 (-1)),(.slice none 0 0)]⟩] [] .one fun l13 _ =>
 .chk (.eqN r4 r4) <|
 .newbox fun r8 =>
 .prim (.bi .append #[58,58] 58) [(.slice (some ⟨r8,0,none⟩) 1 1),(.slice none 0 0)] [⟨r8,62,[(.int .i64 2),(.int .i64 0)]⟩] [] .one fun l14 _ =>
 .pure [] (.bin .geq .int) [g v 1,g v 0] fun v15 =>
 .chk (.eqV v15 v15) <|
 .pure [] (.bin .eql .int) [g v 2,(.int .i64 3)] fun v16 =>
 .chk (.eqV v15 v15) <|
 .chk (.eqV v16 v16) <|
 .chk (.eqV v15 v15) <|
 .pure [] (.bin .eql .int) [g v 2,(.int .i64 4)] fun v17 =>
 .chk (.eqV v15 v15) <|
 .chk (.eqV v16 v16) <|
 .chk (.eqV v15 v15) <|
 .pure [] .pick [v16,(.bool true),v17] fun v18 =>
 .chk (.eqV v15 v15) <|
 .pure [] .pick [v15,v18,(.bool false)] fun v19 =>
 .br v19 (
 .newbox fun r9 =>
 .prim (.bi .append #[58,58] 58) [g l14 0,(.slice (some ⟨r9,0,none⟩) 1 1)] [⟨r9,62,[(.int .i64 1),(.int .i64 0)]⟩] [] .one fun l20 _ =>
 .chk (.eqN r4 r4) <|
 .call false 16 [(.slice (some ⟨r0,0,none⟩) 2 2),(.agg #[g l10 0,g l10 1,g l10 2,g l10 3,g l10 4,g l10 5,(.slice (some ⟨r5,0,none⟩) 3 4),g l10 7,g l10 8,g l10 9,g l10 10,g l10 11,g l10 12,g l10 13,g l10 14,g l10 15,g l10 16,g l10 17,g l10 18,g l10 19,g l10 20,g l10 21,g l10 22,g l10 23,g l10 24,g l10 25,g l10 26,g l10 27,g l10 28,g l13 0,g l10 30,g l10 31,g l10 32,g l10 33,g l10 34,g l10 35,g l10 36,g l10 37]),(.int .i64 0),(.int .i64 6)] [⟨r0,50,[(.string ⟨#[]⟩),g v 2,(.int .i64 0),(.int .i64 0),(.int .i64 0),(.int .i64 0),(.int .i64 0),(.int .i64 0),(.int .i64 0),(.int .i64 0),(.int .i64 0),g l5 1,(.slice none 0 0),(.int .i64 0),(.string ⟨#[]⟩),(.int .i64 3),(.int .i64 0),(.int .i64 0),(.int .i64 0),(.int .i64 0),(.int .i64 0),(.int .i64 0),(.int .i64 0),(.int .i64 0),(.int .i64 0),(.slice none 0 0),(.slice none 0 0),(.int .i64 0)]⟩,⟨r5,3,[(.int .i64 5),(.int .i64 4),(.int .i64 3),(.int .i64 2)]⟩] [] .one fun l21 _ =>
 .call false 15 [g l21 0,g l20 0] [] [] .one fun l22 _ =>
 .pure [] .not [g l22 0] fun v23 =>
 .br v23 (
 .ret (.bool false) []) (
 .chk (.eqN r4 r4) <|
 .newbox fun r10 =>
 .call false 12 [(.slice (some ⟨r0,0,none⟩) 2 2),(.agg #[g l10 0,g l10 1,g l10 2,g l10 3,g l10 4,g l10 5,(.slice (some ⟨r5,0,none⟩) 3 4),g l10 7,g l10 8,g l10 9,g l10 10,g l10 11,g l10 12,g l10 13,g l10 14,g l10 15,g l10 16,g l10 17,g l10 18,g l10 19,g l10 20,g l10 21,g l10 22,g l10 23,g l10 24,g l10 25,g l10 26,g l10 27,g l10 28,g l13 0,g l10 30,g l10 31,g l10 32,g l10 33,g l10 34,g l10 35,g l10 36,g l10 37]),(.int .i64 0),(.slice (some ⟨r10,0,none⟩) 1 1)] [⟨r10,53,[(.int .i64 0),(.int .i64 6),(.int .i64 0),(.int .i64 0),(.int .i64 0)]⟩] [] .one fun l24 _ =>
 .pure [] .len [g l20 0] fun v25 =>
 .pure [] (.bin .gtr .int) [v25,(.int .i64 0)] fun v26 =>
 .pure [] (.bin .neq .bool) [g l24 0,v26] fun v27 =>
 .br v27 (
 .ret (.bool false) []) (
 .chk (.eqN r4 r4) <|
 .call false 16 [(.slice (some ⟨r0,0,none⟩) 2 2),(.agg #[g l10 0,g l10 1,g l10 2,g l10 3,g l10 4,g l10 5,(.slice (some ⟨r5,0,none⟩) 3 4),g l10 7,g l10 8,g l10 9,g l10 10,g l10 11,g l10 12,g l10 13,g l10 14,g l10 15,g l10 16,g l10 17,g l10 18,g l10 19,g l10 20,g l10 21,g l10 22,g l10 23,g l10 24,g l10 25,g l10 26,g l10 27,g l10 28,g l13 0,g l10 30,g l10 31,g l10 32,g l10 33,g l10 34,g l10 35,g l10 36,g l10 37]),(.int .i64 1),(.int .i64 6)] [] [] .one fun l28 _ =>
 .call false 15 [g l28 0,g l20 0] [] [] .one fun l29 _ =>
 .pure [] .not [g l29 0] fun v30 =>
 .br v30 (
 .ret (.bool false) []) (
 .chk (.eqN r4 r4) <|
 .newbox fun r11 =>
 .call false 12 [(.slice (some ⟨r0,0,none⟩) 2 2),(.agg #[g l10 0,g l10 1,g l10 2,g l10 3,g l10 4,g l10 5,(.slice (some ⟨r5,0,none⟩) 3 4),g l10 7,g l10 8,g l10 9,g l10 10,g l10 11,g l10 12,g l10 13,g l10 14,g l10 15,g l10 16,g l10 17,g l10 18,g l10 19,g l10 20,g l10 21,g l10 22,g l10 23,g l10 24,g l10 25,g l10 26,g l10 27,g l10 28,g l13 0,g l10 30,g l10 31,g l10 32,g l10 33,g l10 34,g l10 35,g l10 36,g l10 37]),(.int .i64 1),(.slice (some ⟨r11,0,none⟩) 1 1)] [⟨r11,53,[(.int .i64 0),(.int .i64 6),(.int .i64 0),(.int .i64 0),(.int .i64 0)]⟩] [] .one fun l31 _ =>
 .pure [] .len [g l20 0] fun v32 =>
 .pure [] (.bin .gtr .int) [v32,(.int .i64 0)] fun v33 =>
 .pure [] (.bin .neq .bool) [g l31 0,v33] fun v34 =>
 .br v34 (
 .ret (.bool false) []) (
 .call false 9 [] [] [] .one fun l35 _ =>
 .ret (g l35 0) []))))) (
 .chk (.eqN r4 r4) <|
 .call false 16 [(.slice (some ⟨r0,0,none⟩) 2 2),(.agg #[g l10 0,g l10 1,g l10 2,g l10 3,g l10 4,g l10 5,(.slice (some ⟨r5,0,none⟩) 3 4),g l10 7,g l10 8,g l10 9,g l10 10,g l10 11,g l10 12,g l10 13,g l10 14,g l10 15,g l10 16,g l10 17,g l10 18,g l10 19,g l10 20,g l10 21,g l10 22,g l10 23,g l10 24,g l10 25,g l10 26,g l10 27,g l10 28,g l13 0,g l10 30,g l10 31,g l10 32,g l10 33,g l10 34,g l10 35,g l10 36,g l10 37]),(.int .i64 0),(.int .i64 6)] [⟨r0,50,[(.string ⟨#[]⟩),g v 2,(.int .i64 0),(.int .i64 0),(.int .i64 0),(.int .i64 0),(.int .i64 0),(.int .i64 0),(.int .i64 0),(.int .i64 0),(.int .i64 0),g l5 1,(.slice none 0 0),(.int .i64 0),(.string ⟨#[]⟩),(.int .i64 3),(.int .i64 0),(.int .i64 0),(.int .i64 0),(.int .i64 0),(.int .i64 0),(.int .i64 0),(.int .i64 0),(.int .i64 0),(.int .i64 0),(.slice none 0 0),(.slice none 0 0),(.int .i64 0)]⟩,⟨r5,3,[(.int .i64 5),(.int .i64 4),(.int .i64 3),(.int .i64 2)]⟩] [] .one fun l36 _ =>
 .call false 15 [g l36 0,g l14 0] [] [] .one fun l37 _ =>
 .pure [] .not [g l37 0] fun v38 =>
 .br v38 (
 .ret (.bool false) []) (
 .chk (.eqN r4 r4) <|
 .newbox fun r12 =>
 .call false 12 [(.slice (some ⟨r0,0,none⟩) 2 2),(.agg #[g l10 0,g l10 1,g l10 2,g l10 3,g l10 4,g l10 5,(.slice (some ⟨r5,0,none⟩) 3 4),g l10 7,g l10 8,g l10 9,g l10 10,g l10 11,g l10 12,g l10 13,g l10 14,g l10 15,g l10 16,g l10 17,g l10 18,g l10 19,g l10 20,g l10 21,g l10 22,g l10 23,g l10 24,g l10 25,g l10 26,g l10 27,g l10 28,g l13 0,g l10 30,g l10 31,g l10 32,g l10 33,g l10 34,g l10 35,g l10 36,g l10 37]),(.int .i64 0),(.slice (some ⟨r12,0,none⟩) 1 1)] [⟨r12,53,[(.int .i64 0),(.int .i64 6),(.int .i64 0),(.int .i64 0),(.int .i64 0)]⟩] [] .one fun l39 _ =>
 .pure [] .len [g l14 0] fun v40 =>
 .pure [] (.bin .gtr .int) [v40,(.int .i64 0)] fun v41 =>
 .pure [] (.bin .neq .bool) [g l39 0,v41] fun v42 =>
 .br v42 (
 .ret (.bool false) []) (
 .chk (.eqN r4 r4) <|
 .call false 16 [(.slice (some ⟨r0,0,none⟩) 2 2),(.agg #[g l10 0,g l10 1,g l10 2,g l10 3,g l10 4,g l10 5,(.slice (some ⟨r5,0,none⟩) 3 4),g l10 7,g l10 8,g l10 9,g l10 10,g l10 11,g l10 12,g l10 13,g l10 14,g l10 15,g l10 16,g l10 17,g l10 18,g l10 19,g l10 20,g l10 21,g l10 22,g l10 23,g l10 24,g l10 25,g l10 26,g l10 27,g l10 28,g l13 0,g l10 30,g l10 31,g l10 32,g l10 33,g l10 34,g l10 35,g l10 36,g l10 37]),(.int .i64 1),(.int .i64 6)] [] [] .one fun l43 _ =>
 .call false 15 [g l43 0,g l14 0] [] [] .one fun l44 _ =>
 .pure [] .not [g l44 0] fun v45 =>
 .br v45 (
 .ret (.bool false) []) (
 .chk (.eqN r4 r4) <|
 .newbox fun r13 =>
 .call false 12 [(.slice (some ⟨r0,0,none⟩) 2 2),(.agg #[g l10 0,g l10 1,g l10 2,g l10 3,g l10 4,g l10 5,(.slice (some ⟨r5,0,none⟩) 3 4),g l10 7,g l10 8,g l10 9,g l10 10,g l10 11,g l10 12,g l10 13,g l10 14,g l10 15,g l10 16,g l10 17,g l10 18,g l10 19,g l10 20,g l10 21,g l10 22,g l10 23,g l10 24,g l10 25,g l10 26,g l10 27,g l10 28,g l13 0,g l10 30,g l10 31,g l10 32,g l10 33,g l10 34,g l10 35,g l10 36,g l10 37]),(.int .i64 1),(.slice (some ⟨r13,0,none⟩) 1 1)] [⟨r13,53,[(.int .i64 0),(.int .i64 6),(.int .i64 0),(.int .i64 0),(.int .i64 0)]⟩] [] .one fun l46 _ =>
 .pure [] .len [g l14 0] fun v47 =>
 .pure [] (.bin .gtr .int) [v47,(.int .i64 0)] fun v48 =>
 .pure [] (.bin .neq .bool) [g l46 0,v48] fun v49 =>
 .br v49 (
 .ret (.bool false) []) (
 .call false 9 [] [] [] .one fun l50 _ =>
 .ret (g l50 0) []))))))))
theorem T_waits_1_eq (vs : List Value) : sxFunK PP Try.f4 (mkOpts okL [] [(5, .inv [10] [0, 1, 2, 3, 9] [(9, [11])]), (15, .unroll 6), (22, .unroll 3)] []) 3 (.int .u8 1) vs = T_waits_1 vs := by kernel_rfl
theorem run_waits_1 {args vs} (ha : entryArgs PP Try.f4 args = some vs) (ho : Ones vs) (hs : (entrySS PP Try.f4 vs).tmps 3 = .s (.at (.v (.int .u8 1)))) {H O Q} (h : (T_waits_1 vs).den PP Q H O) : Triple PP F_zeitnotlaw16_TargetWaits args H O Q :=
 triple_of_sxK mixed (mkOpts_ok okL_ok _ _ _) Try.func4 ha ho hs (by rw [T_waits_1_eq]; exact h)
def T_waits_2 (v : List Value) : Tree :=
 .pure [] (.bin .gtr .int) [g v 0,(.int .u8 4)] fun v0 =>
 .chk (.eqV v0 v0) <|
 .pure [] (.bin .gtr .int) [g v 1,(.int .u8 4)] fun v1 =>
 .chk (.eqV v0 v0) <|
 .pure [] .pick [v0,(.bool true),v1] fun v2 =>
 .chk (.eqV v2 v2) <|
 .chk (.eqV v2 v2) <|
 .pure [] .pick [v2,(.bool true),(.bool false)] fun v3 =>
 .br v3 (
 .call false 9 [] [] [] .one fun l4 _ =>
 .ret (g l4 0) []) (
 .newbox fun r0 =>
 .loop 17 5 [(.int .i64 0),(.slice none 0 0)] fun C17 l5 =>
 .pure [] (.conv .i64) [g v 0] fun v6 =>
 .pure [] (.bin .lss .int) [g l5 0,v6] fun v7 =>
 .br v7 (
 .chk (.eqN r0 r0) <|
 .newbox fun r1 =>
 .prim (.bi .append #[35,35] 35) [g l5 1,(.slice (some ⟨r1,0,none⟩) 1 1)] [⟨r1,53,[(.int .i64 11),(.int .i64 1),(.int .i64 0),(.int .i64 0),(.int .i64 0)]⟩] [] .one fun l8 _ =>
 .chk (.eqN r0 r0) <|
 .pure [] (.bin .add .int) [g l5 0,(.int .i64 1)] fun v9 =>
 .cont 17 C17 [v9,g l8 0] [E [g v 0],E [g v 1],E [g v 2],E [(.int .u8 2)],E [(.slice (some ⟨r0,0,none⟩) 2 2)],E [(.pointer (some ⟨r0,0,none⟩)),(.string ⟨#[]⟩),g v 2,(.int .i64 0),(.int .i64 0),(.int .i64 0),(.int .i64 0),(.int .i64 0),(.int .i64 0),(.int .i64 0),(.int .i64 0),(.int .i64 0),(.tuple #[]),(.slice none 0 0),(.int .i64 0),(.string ⟨#[]⟩),(.int .i64 3),(.int .i64 0),(.int .i64 0),(.int .i64 0),(.int .i64 0),(.int .i64 0),(.int .i64 0),(.int .i64 0),(.int .i64 0),(.int .i64 0),(.slice none 0 0),(.slice none 0 0),(.int .i64 0)]]) (
 .newbox fun r2 =>
 .newbox fun r3 =>
 .call false 14 [(.int .i64 5),(.agg #[(.slice (some ⟨r2,0,none⟩) 5 5),(.slice (some ⟨r3,0,none⟩) 0 0)])] [⟨r2,3,[(.int .i64 0),(.int .i64 1),(.int .i64 1),(.int .i64 1),(.int .i64 1)]⟩,⟨r3,3,[]⟩] [] (.tup [some 38,none]) fun l10 _ =>
 .newbox fun r4 =>
 .chk (.eqN r4 r4) <|
 .pure [] (.bin .neq .int) [g l10 38,(.int .i64 0)] fun v11 =>
 .br v11 (
 .ret (.bool false) []) (
 .newbox fun r5 =>
 .chk (.eqN r4 r4) <|
 .prim (.makeSlice 58) [g v 1,g v 1] [] [] .one fun l12 _ =>
 .newbox fun r6 =>
 .chk (.eqN r4 r4) <|
 .chk (.eqN r4 r4) <|
 .newbox fun r7 =>
 .prim (.bi .append #[30,30] 30) [(.slice (some ⟨r6,0,none⟩) 1 1),(.slice (some ⟨r7,0,none⟩) 1 1)] [⟨r6,60,[(.int .i64 0),(.int .i64 1),(.int .i64 0),(.int .i64 (-1)),g l12 0]⟩,⟨r7,60,[(.int .i64 0),(.int .i64 2),(.int .i64 1),(.int .i64 (-1)),(.slice none 0 0)]⟩] [] .one fun l13 _ =>
 .chk (.eqN r4 r4) <|
 .newbox fun r8 =>
 .prim (.bi .append #[58,58] 58) [(.slice (some ⟨r8,0,none⟩) 1 1),(.slice none 0 0)] [⟨r8,62,[(.int .i64 2),(.int .i64 0)]⟩] [] .one fun l14 _ =>
 .chk (.eqN r4 r4) <|
 .newbox fun r9 =>
 .prim (.bi .append #[30,30] 30) [g l13 0,(.slice (some ⟨r9,0,none⟩) 1 1)] [⟨r9,60,[(.int .i64 0),(.int .i64 3),(.int .i64 1),(.int .i64 (-1)),(.slice none 0 0)]⟩] [] .one fun l15 _ =>
 .chk (.eqN r4 r4) <|
 .newbox fun r10 =>
 .prim (.bi .append #[58,58] 58) [(.slice (some ⟨r10,0,none⟩) 1 1),g l14 0] [⟨r10,62,[(.int .i64 3),(.int .i64 0)]⟩] [] .one fun l16 _ =>
 .pure [] (.bin .geq .int) [g v 1,g v 0] fun v17 =>
 .chk (.eqV v17 v17) <|
 .pure [] (.bin .eql .int) [g v 2,(.int .i64 3)] fun v18 =>
 .chk (.eqV v17 v17) <|
 .chk (.eqV v18 v18) <|
 .chk (.eqV v17 v17) <|
 .pure [] (.bin .eql .int) [g v 2,(.int .i64 4)] fun v19 =>
 .chk (.eqV v17 v17) <|
 .chk (.eqV v18 v18) <|
 .chk (.eqV v17 v17) <|
 .pure [] .pick [v18,(.bool true),v19] fun v20 =>
 .chk (.eqV v17 v17) <|
 .pure [] .pick [v17,v20,(.bool false)] fun v21 =>
 .br v21 (
 .newbox fun r11 =>
 .prim (.bi .append #[58,58] 58) [g l16 0,(.slice (some ⟨r11,0,none⟩) 1 1)] [⟨r11,62,[(.int .i64 1),(.int .i64 0)]⟩] [] .one fun l22 _ =>
 .chk (.eqN r4 r4) <|
 .call false 16 [(.slice (some ⟨r0,0,none⟩) 2 2),(.agg #[g l10 0,g l10 1,g l10 2,g l10 3,g l10 4,g l10 5,(.slice (some ⟨r5,0,none⟩) 2 4),g l10 7,g l10 8,g l10 9,g l10 10,g l10 11,g l10 12,g l10 13,g l10 14,g l10 15,g l10 16,g l10 17,g l10 18,g l10 19,g l10 20,g l10 21,g l10 22,g l10 23,g l10 24,g l10 25,g l10 26,g l10 27,g l10 28,g l15 0,g l10 30,g l10 31,g l10 32,g l10 33,g l10 34,g l10 35,g l10 36,g l10 37]),(.int .i64 0),(.int .i64 6)] [⟨r0,50,[(.string ⟨#[]⟩),g v 2,(.int .i64 0),(.int .i64 0),(.int .i64 0),(.int .i64 0),(.int .i64 0),(.int .i64 0),(.int .i64 0),(.int .i64 0),(.int .i64 0),g l5 1,(.slice none 0 0),(.int .i64 0),(.string ⟨#[]⟩),(.int .i64 3),(.int .i64 0),(.int .i64 0),(.int .i64 0),(.int .i64 0),(.int .i64 0),(.int .i64 0),(.int .i64 0),(.int .i64 0),(.int .i64 0),(.slice none 0 0),(.slice none 0 0),(.int .i64 0)]⟩,⟨r5,3,[(.int .i64 5),(.int .i64 4),(.int .i64 3),(.int .i64 2)]⟩] [] .one fun l23 _ =>
 .call false 15 [g l23 0,g l22 0] [] [] .one fun l24 _ =>
 .pure [] .not [g l24 0] fun v25 =>
 .br v25 (
 .ret (.bool false) []) (
 .chk (.eqN r4 r4) <|
 .newbox fun r12 =>
 .call false 12 [(.slice (some ⟨r0,0,none⟩) 2 2),(.agg #[g l10 0,g l10 1,g l10 2,g l10 3,g l10 4,g l10 5,(.slice (some ⟨r5,0,none⟩) 2 4),g l10 7,g l10 8,g l10 9,g l10 10,g l10 11,g l10 12,g l10 13,g l10 14,g l10 15,g l10 16,g l10 17,g l10 18,g l10 19,g l10 20,g l10 21,g l10 22,g l10 23,g l10 24,g l10 25,g l10 26,g l10 27,g l10 28,g l15 0,g l10 30,g l10 31,g l10 32,g l10 33,g l10 34,g l10 35,g l10 36,g l10 37]),(.int .i64 0),(.slice (some ⟨r12,0,none⟩) 1 1)] [⟨r12,53,[(.int .i64 0),(.int .i64 6),(.int .i64 0),(.int .i64 0),(.int .i64 0)]⟩] [] .one fun l26 _ =>
 .pure [] .len [g l22 0] fun v27 =>
 .pure [] (.bin .gtr .int) [v27,(.int .i64 0)] fun v28 =>
 .pure [] (.bin .neq .bool) [g l26 0,v28] fun v29 =>
 .br v29 (
 .ret (.bool false) []) (
 .chk (.eqN r4 r4) <|
 .call false 16 [(.slice (some ⟨r0,0,none⟩) 2 2),(.agg #[g l10 0,g l10 1,g l10 2,g l10 3,g l10 4,g l10 5,(.slice (some ⟨r5,0,none⟩) 2 4),g l10 7,g l10 8,g l10 9,g l10 10,g l10 11,g l10 12,g l10 13,g l10 14,g l10 15,g l10 16,g l10 17,g l10 18,g l10 19,g l10 20,g l10 21,g l10 22,g l10 23,g l10 24,g l10 25,g l10 26,g l10 27,g l10 28,g l15 0,g l10 30,g l10 31,g l10 32,g l10 33,g l10 34,g l10 35,g l10 36,g l10 37]),(.int .i64 1),(.int .i64 6)] [] [] .one fun l30 _ =>
 .call false 15 [g l30 0,g l22 0] [] [] .one fun l31 _ =>
 .pure [] .not [g l31 0] fun v32 =>
 .br v32 (
 .ret (.bool false) []) (
 .chk (.eqN r4 r4) <|
 .newbox fun r13 =>
 .call false 12 [(.slice (some ⟨r0,0,none⟩) 2 2),(.agg #[g l10 0,g l10 1,g l10 2,g l10 3,g l10 4,g l10 5,(.slice (some ⟨r5,0,none⟩) 2 4),g l10 7,g l10 8,g l10 9,g l10 10,g l10 11,g l10 12,g l10 13,g l10 14,g l10 15,g l10 16,g l10 17,g l10 18,g l10 19,g l10 20,g l10 21,g l10 22,g l10 23,g l10 24,g l10 25,g l10 26,g l10 27,g l10 28,g l15 0,g l10 30,g l10 31,g l10 32,g l10 33,g l10 34,g l10 35,g l10 36,g l10 37]),(.int .i64 1),(.slice (some ⟨r13,0,none⟩) 1 1)] [⟨r13,53,[(.int .i64 0),(.int .i64 6),(.int .i64 0),(.int .i64 0),(.int .i64 0)]⟩] [] .one fun l33 _ =>
 .pure [] .len [g l22 0] fun v34 =>
 .pure [] (.bin .gtr .int) [v34,(.int .i64 0)] fun v35 =>
 .pure [] (.bin .neq .bool) [g l33 0,v35] fun v36 =>
 .br v36 (
 .ret (.bool false) []) (
 .call false 9 [] [] [] .one fun l37 _ =>
 .ret (g l37 0) []))))) (
 .chk (.eqN r4 r4) <|
 .call false 16 [(.slice (some ⟨r0,0,none⟩) 2 2),(.agg #[g l10 0,g l10 1,g l10 2,g l10 3,g l10 4,g l10 5,(.slice (some ⟨r5,0,none⟩) 2 4),g l10 7,g l10 8,g l10 9,g l10 10,g l10 11,g l10 12,g l10 13,g l10 14,g l10 15,g l10 16,g l10 17,g l10 18,g l10 19,g l10 20,g l10 21,g l10 22,g l10 23,g l10 24,g l10 25,g l10 26,g l10 27,g l10 28,g l15 0,g l10 30,g l10 31,g l10 32,g l10 33,g l10 34,g l10 35,g l10 36,g l10 37]),(.int .i64 0),(.int .i64 6)] [⟨r0,50,[(.string ⟨#[]⟩),g v 2,(.int .i64 0),(.int .i64 0),(.int .i64 0),(.int .i64 0),(.int .i64 0),(.int .i64 0),(.int .i64 0),(.int .i64 0),(.int .i64 0),g l5 1,(.slice none 0 0),(.int .i64 0),(.string ⟨#[]⟩),(.int .i64 3),(.int .i64 0),(.int .i64 0),(.int .i64 0),(.int .i64 0),(.int .i64 0),(.int .i64 0),(.int .i64 0),(.int .i64 0),(.int .i64 0),(.slice none 0 0),(.slice none 0 0),(.int .i64 0)]⟩,⟨r5,3,[(.int .i64 5),(.int .i64 4),(.int .i64 3),(.int .i64 2)]⟩] [] .one fun l38 _ =>
 .call false 15 [g l38 0,g l16 0] [] [] .one fun l39 _ =>
 .pure [] .not [g l39 0] fun v40 =>
 .br v40 (
 .ret (.bool false) []) (
 .chk (.eqN r4 r4) <|
 .newbox fun r14 =>
 .call false 12 [(.slice (some ⟨r0,0,none⟩) 2 2),(.agg #[g l10 0,g l10 1,g l10 2,g l10 3,g l10 4,g l10 5,(.slice (some ⟨r5,0,none⟩) 2 4),g l10 7,g l10 8,g l10 9,g l10 10,g l10 11,g l10 12,g l10 13,g l10 14,g l10 15,g l10 16,g l10 17,g l10 18,g l10 19,g l10 20,g l10 21,g l10 22,g l10 23,g l10 24,g l10 25,g l10 26,g l10 27,g l10 28,g l15 0,g l10 30,g l10 31,g l10 32,g l10 33,g l10 34,g l10 35,g l10 36,g l10 37]),(.int .i64 0),(.slice (some ⟨r14,0,none⟩) 1 1)] [⟨r14,53,[(.int .i64 0),(.int .i64 6),(.int .i64 0),(.int .i64 0),(.int .i64 0)]⟩] [] .one fun l41 _ =>
 .pure [] .len [g l16 0] fun v42 =>
 .pure [] (.bin .gtr .int) [v42,(.int .i64 0)] fun v43 =>
 .pure [] (.bin .neq .bool) [g l41 0,v43] fun v44 =>
 .br v44 (
 .ret (.bool false) []) (
 .chk (.eqN r4 r4) <|
 .call false 16 [(.slice (some ⟨r0,0,none⟩) 2 2),(.agg #[g l10 0,g l10 1,g l10 2,g l10 3,g l10 4,g l10 5,(.slice (some ⟨r5,0,none⟩) 2 4),g l10 7,g l10 8,g l10 9,g l10 10,g l10 11,g l10 12,g l10 13,g l10 14,g l10 15,g l10 16,g l10 17,g l10 18,g l10 19,g l10 20,g l10 21,g l10 22,g l10 23,g l10 24,g l10 25,g l10 26,g l10 27,g l10 28,g l15 0,g l10 30,g l10 31,g l10 32,g l10 33,g l10 34,g l10 35,g l10 36,g l10 37]),(.int .i64 1),(.int .i64 6)] [] [] .one fun l45 _ =>
 .call false 15 [g l45 0,g l16 0] [] [] .one fun l46 _ =>
 .pure [] .not [g l46 0] fun v47 =>
 .br v47 (
 .ret (.bool false) []) (
 .chk (.eqN r4 r4) <|
 .newbox fun r15 =>
 .call false 12 [(.slice (some ⟨r0,0,none⟩) 2 2),(.agg #[g l10 0,g l10 1,g l10 2,g l10 3,g l10 4,g l10 5,(.slice (some ⟨r5,0,none⟩) 2 4),g l10 7,g l10 8,g l10 9,g l10 10,g l10 11,g l10 12,g l10 13,g l10 14,g l10 15,g l10 16,g l10 17,g l10 18,g l10 19,g l10 20,g l10 21,g l10 22,g l10 23,g l10 24,g l10 25,g l10 26,g l10 27,g l10 28,g l15 0,g l10 30,g l10 31,g l10 32,g l10 33,g l10 34,g l10 35,g l10 36,g l10 37]),(.int .i64 1),(.slice (some ⟨r15,0,none⟩) 1 1)] [⟨r15,53,[(.int .i64 0),(.int .i64 6),(.int .i64 0),(.int .i64 0),(.int .i64 0)]⟩] [] .one fun l48 _ =>
 .pure [] .len [g l16 0] fun v49 =>
 .pure [] (.bin .gtr .int) [v49,(.int .i64 0)] fun v50 =>
 .pure [] (.bin .neq .bool) [g l48 0,v50] fun v51 =>
 .br v51 (
 .ret (.bool false) []) (
 .call false 9 [] [] [] .one fun l52 _ =>
 .ret (g l52 0) []))))))))
theorem T_waits_2_eq (vs : List Value) : sxFunK PP Try.f4 (mkOpts okL [] [(5, .inv [10] [0, 1, 2, 3, 9] [(9, [11])]), (15, .unroll 6), (22, .unroll 3)] []) 3 (.int .u8 2) vs = T_waits_2 vs := by kernel_rfl
theorem run_waits_2 {args vs} (ha : entryArgs PP Try.f4 args = some vs) (ho : Ones vs) (hs : (entrySS PP Try.f4 vs).tmps 3 = .s (.at (.v (.int .u8 2)))) {H O Q} (h : (T_waits_2 vs).den PP Q H O) : Triple PP F_zeitnotlaw16_TargetWaits args H O Q :=
 triple_of_sxK mixed (mkOpts_ok okL_ok _ _ _) Try.func4 ha ho hs (by rw [T_waits_2_eq]; exact h)
def T_waits_3 (v : List Value) : Tree :=
 .pure [] (.bin .gtr .int) [g v 0,(.int .u8 4)] fun v0 =>
 .chk (.eqV v0 v0) <|
 .pure [] (.bin .gtr .int) [g v 1,(.int .u8 4)] fun v1 =>
 .chk (.eqV v0 v0) <|
 .pure [] .pick [v0,(.bool true),v1] fun v2 =>
 .chk (.eqV v2 v2) <|
 .chk (.eqV v2 v2) <|
 .pure [] .pick [v2,(.bool true),(.bool false)] fun v3 =>
 .br v3 (
 .call false 9 [] [] [] .one fun l4 _ =>
 .ret (g l4 0) []) (
 .newbox fun r0 =>
 .loop 17 5 [(.int .i64 0),(.slice none 0 0)] fun C17 l5 =>
 .pure [] (.conv .i64) [g v 0] fun v6 =>
 .pure [] (.bin .lss .int) [g l5 0,v6] fun v7 =>
 .br v7 (
 .chk (.eqN r0 r0) <|
 .newbox fun r1 =>
 .prim (.bi .append #[35,35] 35) [g l5 1,(.slice (some ⟨r1,0,none⟩) 1 1)] [⟨r1,53,[(.int .i64 11),(.int .i64 1),(.int .i64 0),(.int .i64 0),(.int .i64 0)]⟩] [] .one fun l8 _ =>
 .chk (.eqN r0 r0) <|
 .pure [] (.bin .add .int) [g l5 0,(.int .i64 1)] fun v9 =>
 .cont 17 C17 [v9,g l8 0] [E [g v 0],E [g v 1],E [g v 2],E [(.int .u8 3)],E [(.slice (some ⟨r0,0,none⟩) 2 2)],E [(.pointer (some ⟨r0,0,none⟩)),(.string ⟨#[]⟩),g v 2,(.int .i64 0),(.int .i64 0),(.int .i64 0),(.int .i64 0),(.int .i64 0),(.int .i64 0),(.int .i64 0),(.int .i64 0),(.int .i64 0),(.tuple #[]),(.slice none 0 0),(.int .i64 0),(.string ⟨#[]⟩),(.int .i64 3),(.int .i64 0),(.int .i64 0),(.int .i64 0),(.int .i64 0),(.int .i64 0),(.int .i64 0),(.int .i64 0),(.int .i64 0),(.int .i64 0),(.slice none 0 0),(.slice none 0 0),(.int .i64 0)]]) (
 .newbox fun r2 =>
 .newbox fun r3 =>
 .call false 14 [(.int .i64 5),(.agg #[(.slice (some ⟨r2,0,none⟩) 5 5),(.slice (some ⟨r3,0,none⟩) 0 0)])] [⟨r2,3,[(.int .i64 0),(.int .i64 1),(.int .i64 1),(.int .i64 1),(.int .i64 1)]⟩,⟨r3,3,[]⟩] [] (.tup [some 38,none]) fun l10 _ =>
 .newbox fun r4 =>
 .chk (.eqN r4 r4) <|
 .pure [] (.bin .neq .int) [g l10 38,(.int .i64 0)] fun v11 =>
 .br v11 (
 .ret (.bool false) []) (
 .newbox fun r5 =>
 .chk (.eqN r4 r4) <|
 .prim (.makeSlice 58) [g v 1,g v 1] [] [] .one fun l12 _ =>
 .newbox fun r6 =>
 .chk (.eqN r4 r4) <|
 .chk (.eqN r4 r4) <|
 .newbox fun r7 =>
 .prim (.bi .append #[30,30] 30) [(.slice (some ⟨r6,0,none⟩) 1 1),(.slice (some ⟨r7,0,none⟩) 1 1)] [⟨r6,60,[(.int .i64 0),(.int .i64 1),(.int .i64 0),(.int .i64 (-1)),g l12 0]⟩,⟨r7,60,[(.int .i64 0),(.int .i64 2),(.int .i64 1),(.int .i64 (-1)),(.slice none 0 0)]⟩] [] .one fun l13 _ =>
 .chk (.eqN r4 r4) <|
 .newbox fun r8 =>
 .prim (.bi .append #[58,58] 58) [(.slice (some ⟨r8,0,none⟩) 1 1),(.slice none 0 0)] [⟨r8,62,[(.int .i64 2),(.int .i64 0)]⟩] [] .one fun l14 _ =>
 .chk (.eqN r4 r4) <|
 .newbox fun r9 =>
 .prim (.bi .append #[30,30] 30) [g l13 0,(.slice (some ⟨r9,0,none⟩) 1 1)] [⟨r9,60,[(.int .i64 0),(.int .i64 3),(.int .i64 1),(.int .i64 (-1)),(.slice none 0 0)]⟩] [] .one fun l15 _ =>
 .chk (.eqN r4 r4) <|
 .newbox fun r10 =>
 .prim (.bi .append #[58,58] 58) [(.slice (some ⟨r10,0,none⟩) 1 1),g l14 0] [⟨r10,62,[(.int .i64 3),(.int .i64 0)]⟩] [] .one fun l16 _ =>
 .chk (.eqN r4 r4) <|
 .newbox fun r11 =>
 .prim (.bi .append #[30,30] 30) [g l15 0,(.slice (some ⟨r11,0,none⟩) 1 1)] [⟨r11,60,[(.int .i64 0),(.int .i64 4),(.int .i64 1),(.int .i64 (-1)),(.slice none 0 0)]⟩] [] .one fun l17 _ =>
 .chk (.eqN r4 r4) <|
 .newbox fun r12 =>
 .prim (.bi .append #[58,58] 58) [(.slice (some ⟨r12,0,none⟩) 1 1),g l16 0] [⟨r12,62,[(.int .i64 4),(.int .i64 0)]⟩] [] .one fun l18 _ =>
 .pure [] (.bin .geq .int) [g v 1,g v 0] fun v19 =>
 .chk (.eqV v19 v19) <|
 .pure [] (.bin .eql .int) [g v 2,(.int .i64 3)] fun v20 =>
 .chk (.eqV v19 v19) <|
 .chk (.eqV v20 v20) <|
 .chk (.eqV v19 v19) <|
 .pure [] (.bin .eql .int) [g v 2,(.int .i64 4)] fun v21 =>
 .chk (.eqV v19 v19) <|
 .chk (.eqV v20 v20) <|
 .chk (.eqV v19 v19) <|
 .pure [] .pick [v20,(.bool true),v21] fun v22 =>
 .chk (.eqV v19 v19) <|
 .pure [] .pick [v19,v22,(.bool false)] fun v23 =>
 .br v23 (
 .newbox fun r13 =>
 .prim (.bi .append #[58,58] 58) [g l18 0,(.slice (some ⟨r13,0,none⟩) 1 1)] [⟨r13,62,[(.int .i64 1),(.int .i64 0)]⟩] [] .one fun l24 _ =>
 .chk (.eqN r4 r4) <|
 .call false 16 [(.slice (some ⟨r0,0,none⟩) 2 2),(.agg #[g l10 0,g l10 1,g l10 2,g l10 3,g l10 4,g l10 5,(.slice (some ⟨r5,0,none⟩) 1 4),g l10 7,g l10 8,g l10 9,g l10 10,g l10 11,g l10 12,g l10 13,g l10 14,g l10 15,g l10 16,g l10 17,g l10 18,g l10 19,g l10 20,g l10 21,g l10 22,g l10 23,g l10 24,g l10 25,g l10 26,g l10 27,g l10 28,g l17 0,g l10 30,g l10 31,g l10 32,g l10 33,g l10 34,g l10 35,g l10 36,g l10 37]),(.int .i64 0),(.int .i64 6)] [⟨r0,50,[(.string ⟨#[]⟩),g v 2,(.int .i64 0),(.int .i64 0),(.int .i64 0),(.int .i64 0),(.int .i64 0),(.int .i64 0),(.int .i64 0),(.int .i64 0),(.int .i64 0),g l5 1,(.slice none 0 0),(.int .i64 0),(.string ⟨#[]⟩),(.int .i64 3),(.int .i64 0),(.int .i64 0),(.int .i64 0),(.int .i64 0),(.int .i64 0),(.int .i64 0),(.int .i64 0),(.int .i64 0),(.int .i64 0),(.slice none 0 0),(.slice none 0 0),(.int .i64 0)]⟩,⟨r5,3,[(.int .i64 5),(.int .i64 4),(.int .i64 3),(.int .i64 2)]⟩] [] .one fun l25 _ =>
 .call false 15 [g l25 0,g l24 0] [] [] .one fun l26 _ =>
 .pure [] .not [g l26 0] fun v27 =>
 .br v27 (
 .ret (.bool false) []) (
 .chk (.eqN r4 r4) <|
 .newbox fun r14 =>
 .call false 12 [(.slice (some ⟨r0,0,none⟩) 2 2),(.agg #[g l10 0,g l10 1,g l10 2,g l10 3,g l10 4,g l10 5,(.slice (some ⟨r5,0,none⟩) 1 4),g l10 7,g l10 8,g l10 9,g l10 10,g l10 11,g l10 12,g l10 13,g l10 14,g l10 15,g l10 16,g l10 17,g l10 18,g l10 19,g l10 20,g l10 21,g l10 22,g l10 23,g l10 24,g l10 25,g l10 26,g l10 27,g l10 28,g l17 0,g l10 30,g l10 31,g l10 32,g l10 33,g l10 34,g l10 35,g l10 36,g l10 37]),(.int .i64 0),(.slice (some ⟨r14,0,none⟩) 1 1)] [⟨r14,53,[(.int .i64 0),(.int .i64 6),(.int .i64 0),(.int .i64 0),(.int .i64 0)]⟩] [] .one fun l28 _ =>
 .pure [] .len [g l24 0] fun v29 =>
 .pure [] (.bin .gtr .int) [v29,(.int .i64 0)] fun v30 =>
 .pure [] (.bin .neq .bool) [g l28 0,v30] fun v31 =>
 .br v31 (
 .ret (.bool false) []) (
 .chk (.eqN r4 r4) <|
 .call false 16 [(.slice (some ⟨r0,0,none⟩) 2 2),(.agg #[g l10 0,g l10 1,g l10 2,g l10 3,g l10 4,g l10 5,(.slice (some ⟨r5,0,none⟩) 1 4),g l10 7,g l10 8,g l10 9,g l10 10,g l10 11,g l10 12,g l10 13,g l10 14,g l10 15,g l10 16,g l10 17,g l10 18,g l10 19,g l10 20,g l10 21,g l10 22,g l10 23,g l10 24,g l10 25,g l10 26,g l10 27,g l10 28,g l17 0,g l10 30,g l10 31,g l10 32,g l10 33,g l10 34,g l10 35,g l10 36,g l10 37]),(.int .i64 1),(.int .i64 6)] [] [] .one fun l32 _ =>
 .call false 15 [g l32 0,g l24 0] [] [] .one fun l33 _ =>
 .pure [] .not [g l33 0] fun v34 =>
 .br v34 (
 .ret (.bool false) []) (
 .chk (.eqN r4 r4) <|
 .newbox fun r15 =>
 .call false 12 [(.slice (some ⟨r0,0,none⟩) 2 2),(.agg #[g l10 0,g l10 1,g l10 2,g l10 3,g l10 4,g l10 5,(.slice (some ⟨r5,0,none⟩) 1 4),g l10 7,g l10 8,g l10 9,g l10 10,g l10 11,g l10 12,g l10 13,g l10 14,g l10 15,g l10 16,g l10 17,g l10 18,g l10 19,g l10 20,g l10 21,g l10 22,g l10 23,g l10 24,g l10 25,g l10 26,g l10 27,g l10 28,g l17 0,g l10 30,g l10 31,g l10 32,g l10 33,g l10 34,g l10 35,g l10 36,g l10 37]),(.int .i64 1),(.slice (some ⟨r15,0,none⟩) 1 1)] [⟨r15,53,[(.int .i64 0),(.int .i64 6),(.int .i64 0),(.int .i64 0),(.int .i64 0)]⟩] [] .one fun l35 _ =>
 .pure [] .len [g l24 0] fun v36 =>
 .pure [] (.bin .gtr .int) [v36,(.int .i64 0)] fun v37 =>
 .pure [] (.bin .neq .bool) [g l35 0,v37] fun v38 =>
 .br v38 (
 .ret (.bool false) []) (
 .call false 9 [] [] [] .one fun l39 _ =>
 .ret (g l39 0) []))))) (
 .chk (.eqN r4 r4) <|
 .call false 16 [(.slice (some ⟨r0,0,none⟩) 2 2),(.agg #[g l10 0,g l10 1,g l10 2,g l10 3,g l10 4,g l10 5,(.slice (some ⟨r5,0,none⟩) 1 4),g l10 7,g l10 8,g l10 9,g l10 10,g l10 11,g l10 12,g l10 13,g l10 14,g l10 15,g l10 16,g l10 17,g l10 18,g l10 19,g l10 20,g l10 21,g l10 22,g l10 23,g l10 24,g l10 25,g l10 26,g l10 27,g l10 28,g l17 0,g l10 30,g l10 31,g l10 32,g l10 33,g l10 34,g l10 35,g l10 36,g l10 37]),(.int .i64 0),(.int .i64 6)] [⟨r0,50,[(.string ⟨#[]⟩),g v 2,(.int .i64 0),(.int .i64 0),(.int .i64 0),(.int .i64 0),(.int .i64 0),(.int .i64 0),(.int .i64 0),(.int .i64 0),(.int .i64 0),g l5 1,(.slice none 0 0),(.int .i64 0),(.string ⟨#[]⟩),(.int .i64 3),(.int .i64 0),(.int .i64 0),(.int .i64 0),(.int .i64 0),(.int .i64 0),(.int .i64 0),(.int .i64 0),(.int .i64 0),(.int .i64 0),(.slice none 0 0),(.slice none 0 0),(.int .i64 0)]⟩,⟨r5,3,[(.int .i64 5),(.int .i64 4),(.int .i64 3),(.int .i64 2)]⟩] [] .one fun l40 _ =>
 .call false 15 [g l40 0,g l18 0] [] [] .one fun l41 _ =>
 .pure [] .not [g l41 0] fun v42 =>
 .br v42 (
 .ret (.bool false) []) (
 .chk (.eqN r4 r4) <|
 .newbox fun r16 =>
 .call false 12 [(.slice (some ⟨r0,0,none⟩) 2 2),(.agg #[g l10 0,g l10 1,g l10 2,g l10 3,g l10 4,g l10 5,(.slice (some ⟨r5,0,none⟩) 1 4),g l10 7,g l10 8,g l10 9,g l10 10,g l10 11,g l10 12,g l10 13,g l10 14,g l10 15,g l10 16,g l10 17,g l10 18,g l10 19,g l10 20,g l10 21,g l10 22,g l10 23,g l10 24,g l10 25,g l10 26,g l10 27,g l10 28,g l17 0,g l10 30,g l10 31,g l10 32,g l10 33,g l10 34,g l10 35,g l10 36,g l10 37]),(.int .i64 0),(.slice (some ⟨r16,0,none⟩) 1 1)] [⟨r16,53,[(.int .i64 0),(.int .i64 6),(.int .i64 0),(.int .i64 0),(.int .i64 0)]⟩] [] .one fun l43 _ =>
 .pure [] .len [g l18 0] fun v44 =>
 .pure [] (.bin .gtr .int) [v44,(.int .i64 0)] fun v45 =>
 .pure [] (.bin .neq .bool) [g l43 0,v45] fun v46 =>
 .br v46 (
 .ret (.bool false) []) (
 .chk (.eqN r4 r4) <|
 .call false 16 [(.slice (some ⟨r0,0,none⟩) 2 2),(.agg #[g l10 0,g l10 1,g l10 2,g l10 3,g l10 4,g l10 5,(.slice (some ⟨r5,0,none⟩) 1 4),g l10 7,g l10 8,g l10 9,g l10 10,g l10 11,g l10 12,g l10 13,g l10 14,g l10 15,g l10 16,g l10 17,g l10 18,g l10 19,g l10 20,g l10 21,g l10 22,g l10 23,g l10 24,g l10 25,g l10 26,g l10 27,g l10 28,g l17 0,g l10 30,g l10 31,g l10 32,g l10 33,g l10 34,g l10 35,g l10 36,g l10 37]),(.int .i64 1),(.int .i64 6)] [] [] .one fun l47 _ =>
 .call false 15 [g l47 0,g l18 0] [] [] .one fun l48 _ =>
 .pure [] .not [g l48 0] fun v49 =>
 .br v49 (
 .ret (.bool false) []) (
 .chk (.eqN r4 r4) <|
 .newbox fun r17 =>
 .call false 12 [(.slice (some ⟨r0,0,none⟩) 2 2),(.agg #[g l10 0,g l10 1,g l10 2,g l10 3,g l10 4,g l10 5,(.slice (some ⟨r5,0,none⟩) 1 4),g l10 7,g l10 8,g l10 9,g l10 10,g l10 11,g l10 12,g l10 13,g l10 14,g l10 15,g l10 16,g l10 17,g l10 18,g l10 19,g l10 20,g l10 21,g l10 22,g l10 23,g l10 24,g l10 25,g l10 26,g l10 27,g l10 28,g l17 0,g l10 30,g l10 31,g l10 32,g l10 33,g l10 34,g l10 35,g l10 36,g l10 37]),(.int .i64 1),(.slice (some ⟨r17,0,none⟩) 1 1)] [⟨r17,53,[(.int .i64 0),(.int .i64 6),(.int .i64 0),(.int .i64 0),(.int .i64 0)]⟩] [] .one fun l50 _ =>
 .pure [] .len [g l18 0] fun v51 =>
 .pure [] (.bin .gtr .int) [v51,(.int .i64 0)] fun v52 =>
 .pure [] (.bin .neq .bool) [g l50 0,v52] fun v53 =>
 .br v53 (
 .ret (.bool false) []) (
 .call false 9 [] [] [] .one fun l54 _ =>
 .ret (g l54 0) []))))))))
theorem T_waits_3_eq (vs : List Value) : sxFunK PP Try.f4 (mkOpts okL [] [(5, .inv [10] [0, 1, 2, 3, 9] [(9, [11])]), (15, .unroll 6), (22, .unroll 3)] []) 3 (.int .u8 3) vs = T_waits_3 vs := by kernel_rfl
theorem run_waits_3 {args vs} (ha : entryArgs PP Try.f4 args = some vs) (ho : Ones vs) (hs : (entrySS PP Try.f4 vs).tmps 3 = .s (.at (.v (.int .u8 3)))) {H O Q} (h : (T_waits_3 vs).den PP Q H O) : Triple PP F_zeitnotlaw16_TargetWaits args H O Q :=
 triple_of_sxK mixed (mkOpts_ok okL_ok _ _ _) Try.func4 ha ho hs (by rw [T_waits_3_eq]; exact h)
def T_waits_4 (v : List Value) : Tree :=
 .pure [] (.bin .gtr .int) [g v 0,(.int .u8 4)] fun v0 =>
 .chk (.eqV v0 v0) <|
 .pure [] (.bin .gtr .int) [g v 1,(.int .u8 4)] fun v1 =>
 .chk (.eqV v0 v0) <|
 .pure [] .pick [v0,(.bool true),v1] fun v2 =>
 .chk (.eqV v2 v2) <|
 .chk (.eqV v2 v2) <|
 .pure [] .pick [v2,(.bool true),(.bool false)] fun v3 =>
 .br v3 (
 .call false 9 [] [] [] .one fun l4 _ =>
 .ret (g l4 0) []) (
 .newbox fun r0 =>
 .loop 17 5 [(.int .i64 0),(.slice none 0 0)] fun C17 l5 =>
 .pure [] (.conv .i64) [g v 0] fun v6 =>
 .pure [] (.bin .lss .int) [g l5 0,v6] fun v7 =>
 .br v7 (
 .chk (.eqN r0 r0) <|
 .newbox fun r1 =>
 .prim (.bi .append #[35,35] 35) [g l5 1,(.slice (some ⟨r1,0,none⟩) 1 1)] [⟨r1,53,[(.int .i64 11),(.int .i64 1),(.int .i64 0),(.int .i64 0),(.int .i64 0)]⟩] [] .one fun l8 _ =>
 .chk (.eqN r0 r0) <|
 .pure [] (.bin .add .int) [g l5 0,(.int .i64 1)] fun v9 =>
 .cont 17 C17 [v9,g l8 0] [E [g v 0],E [g v 1],E [g v 2],E [(.int .u8 4)],E [(.slice (some ⟨r0,0,none⟩) 2 2)],E [(.pointer (some ⟨r0,0,none⟩)),(.string ⟨#[]⟩),g v 2,(.int .i64 0),(.int .i64 0),(.int .i64 0),(.int .i64 0),(.int .i64 0),(.int .i64 0),(.int .i64 0),(.int .i64 0),(.int .i64 0),(.tuple #[]),(.slice none 0 0),(.int .i64 0),(.string ⟨#[]⟩),(.int .i64 3),(.int .i64 0),(.int .i64 0),(.int .i64 0),(.int .i64 0),(.int .i64 0),(.int .i64 0),(.int .i64 0),(.int .i64 0),(.int .i64 0),(.slice none 0 0),(.slice none 0 0),(.int .i64 0)]]) (
 .newbox fun r2 =>
 .newbox fun r3 =>
 .call false 14 [(.int .i64 5),(.agg #[(.slice (some ⟨r2,0,none⟩) 5 5),(.slice (some ⟨r3,0,none⟩) 0 0)])] [⟨r2,3,[(.int .i64 0),(.int .i64 1),(.int .i64 1),(.int .i64 1),(.int .i64 1)]⟩,⟨r3,3,[]⟩] [] (.tup [some 38,none]) fun l10 _ =>
 .newbox fun r4 =>
 .chk (.eqN r4 r4) <|
 .pure [] (.bin .neq .int) [g l10 38,(.int .i64 0)] fun v11 =>
 .br v11 (
 .ret (.bool false) []) (
 .newbox fun r5 =>
 .chk (.eqN r4 r4) <|
 .prim (.makeSlice 58) [g v 1,g v 1] [] [] .one fun l12 _ =>
 .newbox fun r6 =>
 .chk (.eqN r4 r4) <|
 .chk (.eqN r4 r4) <|
 .newbox fun r7 =>
 .prim (.bi .append #[30,30] 30) [(.slice (some ⟨r6,0,none⟩) 1 1),(.slice (some ⟨r7,0,none⟩) 1 1)] [⟨r6,60,[(.int .i64 0),(.int .i64 1),(.int .i64 0),(.int .i64 (-1)),g l12 0]⟩,⟨r7,60,[(.int .i64 0),(.int .i64 2),(.int .i64 1),(.int .i64 (-1)),(.slice none 0 0)]⟩] [] .one fun l13 _ =>
 .chk (.eqN r4 r4) <|
 .newbox fun r8 =>
 .prim (.bi .append #[58,58] 58) [(.slice (some ⟨r8,0,none⟩) 1 1),(.slice none 0 0)] [⟨r8,62,[(.int .i64 2),(.int .i64 0)]⟩] [] .one fun l14 _ =>
 .chk (.eqN r4 r4) <|
 .newbox fun r9 =>
 .prim (.bi .append #[30,30] 30) [g l13 0,(.slice (some ⟨r9,0,none⟩) 1 1)] [⟨r9,60,[(.int .i64 0),(.int .i64 3),(.int .i64 1),(.int .i64 (-1)),(.slice none 0 0)]⟩] [] .one fun l15 _ =>
 .chk (.eqN r4 r4) <|
 .newbox fun r10 =>
 .prim (.bi .append #[58,58] 58) [(.slice (some ⟨r10,0,none⟩) 1 1),g l14 0] [⟨r10,62,[(.int .i64 3),(.int .i64 0)]⟩] [] .one fun l16 _ =>
 .chk (.eqN r4 r4) <|
 .newbox fun r11 =>
 .prim (.bi .append #[30,30] 30) [g l15 0,(.slice (some ⟨r11,0,none⟩) 1 1)] [⟨r11,60,[(.int .i64 0),(.int .i64 4),(.int .i64 1),(.int .i64 (-1)),(.slice none 0 0)]⟩] [] .one fun l17 _ =>
 .chk (.eqN r4 r4) <|
 .newbox fun r12 =>
 .prim (.bi .append #[58,58] 58) [(.slice (some ⟨r12,0,none⟩) 1 1),g l16 0] [⟨r12,62,[(.int .i64 4),(.int .i64 0)]⟩] [] .one fun l18 _ =>
 .chk (.eqN r4 r4) <|
 .newbox fun r13 =>
 .prim (.bi .append #[30,30] 30) [g l17 0,(.slice (some ⟨r13,0,none⟩) 1 1)] [⟨r13,60,[(.int .i64 0),(.int .i64 5),(.int .i64 1),(.int .i64 (-1)),(.slice none 0 0)]⟩] [] .one fun l19 _ =>
 .chk (.eqN r4 r4) <|
 .newbox fun r14 =>
 .prim (.bi .append #[58,58] 58) [(.slice (some ⟨r14,0,none⟩) 1 1),g l18 0] [⟨r14,62,[(.int .i64 5),(.int .i64 0)]⟩] [] .one fun l20 _ =>
 .pure [] (.bin .geq .int) [g v 1,g v 0] fun v21 =>
 .chk (.eqV v21 v21) <|
 .pure [] (.bin .eql .int) [g v 2,(.int .i64 3)] fun v22 =>
 .chk (.eqV v21 v21) <|
 .chk (.eqV v22 v22) <|
 .chk (.eqV v21 v21) <|
 .pure [] (.bin .eql .int) [g v 2,(.int .i64 4)] fun v23 =>
 .chk (.eqV v21 v21) <|
 .chk (.eqV v22 v22) <|
 .chk (.eqV v21 v21) <|
 .pure [] .pick [v22,(.bool true),v23] fun v24 =>
 .chk (.eqV v21 v21) <|
 .pure [] .pick [v21,v24,(.bool false)] fun v25 =>
 .br v25 (
 .newbox fun r15 =>
 .prim (.bi .append #[58,58] 58) [g l20 0,(.slice (some ⟨r15,0,none⟩) 1 1)] [⟨r15,62,[(.int .i64 1),(.int .i64 0)]⟩] [] .one fun l26 _ =>
 .chk (.eqN r4 r4) <|
 .call false 16 [(.slice (some ⟨r0,0,none⟩) 2 2),(.agg #[g l10 0,g l10 1,g l10 2,g l10 3,g l10 4,g l10 5,(.slice (some ⟨r5,0,none⟩) 0 4),g l10 7,g l10 8,g l10 9,g l10 10,g l10 11,g l10 12,g l10 13,g l10 14,g l10 15,g l10 16,g l10 17,g l10 18,g l10 19,g l10 20,g l10 21,g l10 22,g l10 23,g l10 24,g l10 25,g l10 26,g l10 27,g l10 28,g l19 0,g l10 30,g l10 31,g l10 32,g l10 33,g l10 34,g l10 35,g l10 36,g l10 37]),(.int .i64 0),(.int .i64 6)] [⟨r0,50,[(.string ⟨#[]⟩),g v 2,(.int .i64 0),(.int .i64 0),(.int .i64 0),(.int .i64 0),(.int .i64 0),(.int .i64 0),(.int .i64 0),(.int .i64 0),(.int .i64 0),g l5 1,(.slice none 0 0),(.int .i64 0),(.string ⟨#[]⟩),(.int .i64 3),(.int .i64 0),(.int .i64 0),(.int .i64 0),(.int .i64 0),(.int .i64 0),(.int .i64 0),(.int .i64 0),(.int .i64 0),(.int .i64 0),(.slice none 0 0),(.slice none 0 0),(.int .i64 0)]⟩,⟨r5,3,[(.int .i64 5),(.int .i64 4),(.int .i64 3),(.int .i64 2)]⟩] [] .one fun l27 _ =>
 .call false 15 [g l27 0,g l26 0] [] [] .one fun l28 _ =>
 .pure [] .not [g l28 0] fun v29 =>
 .br v29 (
 .ret (.bool false) []) (
 .chk (.eqN r4 r4) <|
 .newbox fun r16 =>
 .call false 12 [(.slice (some ⟨r0,0,none⟩) 2 2),(.agg #[g l10 0,g l10 1,g l10 2,g l10 3,g l10 4,g l10 5,(.slice (some ⟨r5,0,none⟩) 0 4),g l10 7,g l10 8,g l10 9,g l10 10,g l10 11,g l10 12,g l10 13,g l10 14,g l10 15,g l10 16,g l10 17,g l10 18,g l10 19,g l10 20,g l10 21,g l10 22,g l10 23,g l10 24,g l10 25,g l10 26,g l10 27,g l10 28,g l19 0,g l10 30,g l10 31,g l10 32,g l10 33,g l10 34,g l10 35,g l10 36,g l10 37]),(.int .i64 0),(.slice (some ⟨r16,0,none⟩) 1 1)] [⟨r16,53,[(.int .i64 0),(.int .i64 6),(.int .i64 0),(.int .i64 0),(.int .i64 0)]⟩] [] .one fun l30 _ =>
 .pure [] .len [g l26 0] fun v31 =>
 .pure [] (.bin .gtr .int) [v31,(.int .i64 0)] fun v32 =>
 .pure [] (.bin .neq .bool) [g l30 0,v32] fun v33 =>
 .br v33 (
 .ret (.bool false) []) (
 .chk (.eqN r4 r4) <|
 .call false 16 [(.slice (some ⟨r0,0,none⟩) 2 2),(.agg #[g l10 0,g l10 1,g l10 2,g l10 3,g l10 4,g l10 5,(.slice (some ⟨r5,0,none⟩) 0 4),g l10 7,g l10 8,g l10 9,g l10 10,g l10 11,g l10 12,g l10 13,g l10 14,g l10 15,g l10 16,g l10 17,g l10 18,g l10 19,g l10 20,g l10 21,g l10 22,g l10 23,g l10 24,g l10 25,g l10 26,g l10 27,g l10 28,g l19 0,g l10 30,g l10 31,g l10 32,g l10 33,g l10 34,g l10 35,g l10 36,g l10 37]),(.int .i64 1),(.int .i64 6)] [] [] .one fun l34 _ =>
 .call false 15 [g l34 0,g l26 0] [] [] .one fun l35 _ =>
 .pure [] .not [g l35 0] fun v36 =>
 .br v36 (
 .ret (.bool false) []) (
 .chk (.eqN r4 r4) <|
 .newbox fun r17 =>
 .call false 12 [(.slice (some ⟨r0,0,none⟩) 2 2),(.agg #[g l10 0,g l10 1,g l10 2,g l10 3,g l10 4,g l10 5,(.slice (some ⟨r5,0,none⟩) 0 4),g l10 7,g l10 8,g l10 9,g l10 10,g l10 11,g l10 12,g l10 13,g l10 14,g l10 15,g l10 16,g l10 17,g l10 18,g l10 19,g l10 20,g l10 21,g l10 22,g l10 23,g l10 24,g l10 25,g l10 26,g l10 27,g l10 28,g l19 0,g l10 30,g l10 31,g l10 32,g l10 33,g l10 34,g l10 35,g l10 36,g l10 37]),(.int .i64 1),(.slice (some ⟨r17,0,none⟩) 1 1)] [⟨r17,53,[(.int .i64 0),(.int .i64 6),(.int .i64 0),(.int .i64 0),(.int .i64 0)]⟩] [] .one fun l37 _ =>
 .pure [] .len [g l26 0] fun v38 =>
 .pure [] (.bin .gtr .int) [v38,(.int .i64 0)] fun v39 =>
 .pure [] (.bin .neq .bool) [g l37 0,v39] fun v40 =>
 .br v40 (
 .ret (.bool false) []) (
 .call false 9 [] [] [] .one fun l41 _ =>
 .ret (g l41 0) []))))) (
 .chk (.eqN r4 r4) <|
 .call false 16 [(.slice (some ⟨r0,0,none⟩) 2 2),(.agg #[g l10 0,g l10 1,g l10 2,g l10 3,g l10 4,g l10 5,(.slice (some ⟨r5,0,none⟩) 0 4),g l10 7,g l10 8,g l10 9,g l10 10,g l10 11,g l10 12,g l10 13,g l10 14,g l10 15,g l10 16,g l10 17,g l10 18,g l10 19,g l10 20,g l10 21,g l10 22,g l10 23,g l10 24,g l10 25,g l10 26,g l10 27,g l10 28,g l19 0,g l10 30,g l10 31,g l10 32,g l10 33,g l10 34,g l10 35,g l10 36,g l10 37]),(.int .i64 0),(.int .i64 6)] [⟨r0,50,[(.string ⟨#[]⟩),g v 2,(.int .i64 0),(.int .i64 0),(.int .i64 0),(.int .i64 0),(.int .i64 0),(.int .i64 0),(.int .i64 0),(.int .i64 0),(.int .i64 0),g l5 1,(.slice none 0 0),(.int .i64 0),(.string ⟨#[]⟩),(.int .i64 3),(.int .i64 0),(.int .i64 0),(.int .i64 0),(.int .i64 0),(.int .i64 0),(.int .i64 0),(.int .i64 0),(.int .i64 0),(.int .i64 0),(.slice none 0 0),(.slice none 0 0),(.int .i64 0)]⟩,⟨r5,3,[(.int .i64 5),(.int .i64 4),(.int .i64 3),(.int .i64 2)]⟩] [] .one fun l42 _ =>
 .call false 15 [g l42 0,g l20 0] [] [] .one fun l43 _ =>
 .pure [] .not [g l43 0] fun v44 =>
 .br v44 (
 .ret (.bool false) []) (
 .chk (.eqN r4 r4) <|
 .newbox fun r18 =>
 .call false 12 [(.slice (some ⟨r0,0,none⟩) 2 2),(.agg #[g l10 0,g l10 1,g l10 2,g l10 3,g l10 4,g l10 5,(.slice (some ⟨r5,0,none⟩) 0 4),g l10 7,g l10 8,g l10 9,g l10 10,g l10 11,g l10 12,g l10 13,g l10 14,g l10 15,g l10 16,g l10 17,g l10 18,g l10 19,g l10 20,g l10 21,g l10 22,g l10 23,g l10 24,g l10 25,g l10 26,g l10 27,g l10 28,g l19 0,g l10 30,g l10 31,g l10 32,g l10 33,g l10 34,g l10 35,g l10 36,g l10 37]),(.int .i64 0),(.slice (some ⟨r18,0,none⟩) 1 1)] [⟨r18,53,[(.int .i64 0),(.int .i64 6),(.int .i64 0),(.int .i64 0),(.int .i64 0)]⟩] [] .one fun l45 _ =>
 .pure [] .len [g l20 0] fun v46 =>
 .pure [] (.bin .gtr .int) [v46,(.int .i64 0)] fun v47 =>
 .pure [] (.bin .neq .bool) [g l45 0,v47] fun v48 =>
 .br v48 (
 .ret (.bool false) []) (
 .chk (.eqN r4 r4) <|
 .call false 16 [(.slice (some ⟨r0,0,none⟩) 2 2),(.agg #[g l10 0,g l10 1,g l10 2,g l10 3,g l10 4,g l10 5,(.slice (some ⟨r5,0,none⟩) 0 4),g l10 7,g l10 8,g l10 9,g l10 10,g l10 11,g l10 12,g l10 13,g l10 14,g l10 15,g l10 16,g l10 17,g l10 18,g l10 19,g l10 20,g l10 21,g l10 22,g l10 23,g l10 24,g l10 25,g l10 26,g l10 27,g l10 28,g l19 0,g l10 30,g l10 31,g l10 32,g l10 33,g l10 34,g l10 35,g l10 36,g l10 37]),(.int .i64 1),(.int .i64 6)] [] [] .one fun l49 _ =>
 .call false 15 [g l49 0,g l20 0] [] [] .one fun l50 _ =>
 .pure [] .not [g l50 0] fun v51 =>
 .br v51 (
 .ret (.bool false) []) (
 .chk (.eqN r4 r4) <|
 .newbox fun r19 =>
 .call false 12 [(.slice (some ⟨r0,0,none⟩) 2 2),(.agg #[g l10 0,g l10 1,g l10 2,g l10 3,g l10 4,g l10 5,(.slice (some ⟨r5,0,none⟩) 0 4),g l10 7,g l10 8,g l10 9,g l10 10,g l10 11,g l10 12,g l10 13,g l10 14,g l10 15,g l10 16,g l10 17,g l10 18,g l10 19,g l10 20,g l10 21,g l10 22,g l10 23,g l10 24,g l10 25,g l10 26,g l10 27,g l10 28,g l19 0,g l10 30,g l10 31,g l10 32,g l10 33,g l10 34,g l10 35,g l10 36,g l10 37]),(.int .i64 1),(.slice (some ⟨r19,0,none⟩) 1 1)] [⟨r19,53,[(.int .i64 0),(.int .i64 6),(.int .i64 0),(.int .i64 0),(.int .i64 0)]⟩] [] .one fun l52 _ =>
 .pure [] .len [g l20 0] fun v53 =>
 .pure [] (.bin .gtr .int) [v53,(.int .i64 0)] fun v54 =>
 .pure [] (.bin .neq .bool) [g l52 0,v54] fun v55 =>
 .br v55 (
 .ret (.bool false) []) (
 .call false 9 [] [] [] .one fun l56 _ =>
 .ret (g l56 0) []))))))))
theorem T_waits_4_eq (vs : List Value) : sxFunK PP Try.f4 (mkOpts okL [] [(5, .inv [10] [0, 1, 2, 3, 9] [(9, [11])]), (15, .unroll 6), (22, .unroll 3)] []) 3 (.int .u8 4) vs = T_waits_4 vs := by kernel_rfl
theorem run_waits_4 {args vs} (ha : entryArgs PP Try.f4 args = some vs) (ho : Ones vs) (hs : (entrySS PP Try.f4 vs).tmps 3 = .s (.at (.v (.int .u8 4)))) {H O Q} (h : (T_waits_4 vs).den PP Q H O) : Triple PP F_zeitnotlaw16_TargetWaits args H O Q :=
 triple_of_sxK mixed (mkOpts_ok okL_ok _ _ _) Try.func4 ha ho hs (by rw [T_waits_4_eq]; exact h)
def T_waits_g (v : List Value) : Tree :=
 .pure [] (.bin .gtr .int) [g v 0,(.int .u8 4)] fun v0 =>
 .chk (.eqV v0 v0) <|
 .pure [] (.bin .gtr .int) [g v 1,(.int .u8 4)] fun v1 =>
 .chk (.eqV v0 v0) <|
 .pure [] .pick [v0,(.bool true),v1] fun v2 =>
 .chk (.eqV v2 v2) <|
 .pure [] (.bin .gtr .int) [g v 3,(.int .u8 4)] fun v3 =>
 .chk (.eqV v2 v2) <|
 .pure [] .pick [v2,(.bool true),v3] fun v4 =>
 .br v4 (
 .call false 9 [] [] [] .one fun l5 _ =>
 .ret (g l5 0) []) (
 .newbox fun r0 =>
 .loop 17 5 [(.int .i64 0),(.slice none 0 0)] fun C17 l6 =>
 .pure [] (.conv .i64) [g v 0] fun v7 =>
 .pure [] (.bin .lss .int) [g l6 0,v7] fun v8 =>
 .br v8 (
 .chk (.eqN r0 r0) <|
 .newbox fun r1 =>
 .prim (.bi .append #[35,35] 35) [g l6 1,(.slice (some ⟨r1,0,none⟩) 1 1)] [⟨r1,53,[(.int .i64 11),(.int .i64 1),(.int .i64 0),(.int .i64 0),(.int .i64 0)]⟩] [] .one fun l9 _ =>
 .chk (.eqN r0 r0) <|
 .pure [] (.bin .add .int) [g l6 0,(.int .i64 1)] fun v10 =>
 .cont 17 C17 [v10,g l9 0] [E [g v 0],E [g v 1],E [g v 2],E [g v 3],E [(.slice (some ⟨r0,0,none⟩) 2 2)],E [(.pointer (some ⟨r0,0,none⟩)),(.string ⟨#[]⟩),g v 2,(.int .i64 0),(.int .i64 0),(.int .i64 0),(.int .i64 0),(.int .i64 0),(.int .i64 0),(.int .i64 0),(.int .i64 0),(.int .i64 0),(.tuple #[]),(.slice none 0 0),(.int .i64 0),(.string ⟨#[]⟩),(.int .i64 3),(.int .i64 0),(.int .i64 0),(.int .i64 0),(.int .i64 0),(.int .i64 0),(.int .i64 0),(.int .i64 0),(.int .i64 0),(.int .i64 0),(.slice none 0 0),(.slice none 0 0),(.int .i64 0)]]) (
 .newbox fun r2 =>
 .newbox fun r3 =>
 .call false 14 [(.int .i64 5),(.agg #[(.slice (some ⟨r2,0,none⟩) 5 5),(.slice (some ⟨r3,0,none⟩) 0 0)])] [⟨r2,3,[(.int .i64 0),(.int .i64 1),(.int .i64 1),(.int .i64 1),(.int .i64 1)]⟩,⟨r3,3,[]⟩] [] (.tup [some 38,none]) fun l11 _ =>
 .newbox fun r4 =>
 .chk (.eqN r4 r4) <|
 .pure [] (.bin .neq .int) [g l11 38,(.int .i64 0)] fun v12 =>
 .br v12 (
 .ret (.bool false) []) (
 .newbox fun r5 =>
 .pure [] (.bin .sub .int) [(.int .u8 4),g v 3] fun v13 =>
 .pure [] (.slc 1 false true false) [(.slice (some ⟨r5,0,none⟩) 4 4),v13] fun v14 =>
 .chk (.eqN r4 r4) <|
 .prim (.makeSlice 58) [g v 1,g v 1] [] [] .one fun l15 _ =>
 .newbox fun r6 =>
 .chk (.eqN r4 r4) <|
 .pure [] (.conv .i64) [g v 3] fun v16 =>
 .pure [] (.bin .lss .int) [(.int .i64 0),v16] fun v17 =>
 .br v17 (
 .chk (.eqN r4 r4) <|
 .newbox fun r7 =>
 .prim (.bi .append #[30,30] 30) [(.slice (some ⟨r6,0,none⟩) 1 1),(.slice (some ⟨r7,0,none⟩) 1 1)] [⟨r6,60,[(.int .i64 0),(.int .i64 1),(.int .i64 0),(.int .i64 (-1)),g l15 0]⟩,⟨r7,60,[(.int .i64 0),(.int .i64 2),(.int .i64 1),(.int .i64 (-1)),(.slice none 0 0)]⟩] [] .one fun l18 _ =>
 .chk (.eqN r4 r4) <|
 .newbox fun r8 =>
 .prim (.bi .append #[58,58] 58) [(.slice (some ⟨r8,0,none⟩) 1 1),(.slice none 0 0)] [⟨r8,62,[(.int .i64 2),(.int .i64 0)]⟩] [] .one fun l19 _ =>
 .pure [] (.conv .i64) [g v 3] fun v20 =>
 .pure [] (.bin .lss .int) [(.int .i64 1),v20] fun v21 =>
 .br v21 (
 .chk (.eqN r4 r4) <|
 .newbox fun r9 =>
 .prim (.bi .append #[30,30] 30) [g l18 0,(.slice (some ⟨r9,0,none⟩) 1 1)] [⟨r9,60,[(.int .i64 0),(.int .i64 3),(.int .i64 1),(.int .i64 (-1)),(.slice none 0 0)]⟩] [] .one fun l22 _ =>
 .chk (.eqN r4 r4) <|
 .newbox fun r10 =>
 .prim (.bi .append #[58,58] 58) [(.slice (some ⟨r10,0,none⟩) 1 1),g l19 0] [⟨r10,62,[(.int .i64 3),(.int .i64 0)]⟩] [] .one fun l23 _ =>
 .pure [] (.conv .i64) [g v 3] fun v24 =>
 .pure [] (.bin .lss .int) [(.int .i64 2),v24] fun v25 =>
 .br v25 (
 .chk (.eqN r4 r4) <|
 .newbox fun r11 =>
 .prim (.bi .append #[30,30] 30) [g l22 0,(.slice (some ⟨r11,0,none⟩) 1 1)] [⟨r11,60,[(.int .i64 0),(.int .i64 4),(.int .i64 1),(.int .i64 (-1)),(.slice none 0 0)]⟩] [] .one fun l26 _ =>
 .chk (.eqN r4 r4) <|
 .newbox fun r12 =>
 .prim (.bi .append #[58,58] 58) [(.slice (some ⟨r12,0,none⟩) 1 1),g l23 0] [⟨r12,62,[(.int .i64 4),(.int .i64 0)]⟩] [] .one fun l27 _ =>
 .pure [] (.conv .i64) [g v 3] fun v28 =>
 .pure [] (.bin .lss .int) [(.int .i64 3),v28] fun v29 =>
 .br v29 (
 .chk (.eqN r4 r4) <|
 .newbox fun r13 =>
 .prim (.bi .append #[30,30] 30) [g l26 0,(.slice (some ⟨r13,0,none⟩) 1 1)] [⟨r13,60,[(.int .i64 0),(.int .i64 5),(.int .i64 1),(.int .i64 (-1)),(.slice none 0 0)]⟩] [] .one fun l30 _ =>
 .chk (.eqN r4 r4) <|
 .newbox fun r14 =>
 .prim (.bi .append #[58,58] 58) [(.slice (some ⟨r14,0,none⟩) 1 1),g l27 0] [⟨r14,62,[(.int .i64 5),(.int .i64 0)]⟩] [] .one fun l31 _ =>
 .pure [] (.conv .i64) [g v 3] fun v32 =>
 .pure [] (.bin .lss .int) [(.int .i64 4),v32] fun v33 =>
 .br v33 (
 .chk (.eqN r4 r4) <|
 .newbox fun r15 =>
 .prim (.bi .append #[30,30] 30) [g l30 0,(.slice (some ⟨r15,0,none⟩) 1 1)] [⟨r15,60,[(.int .i64 0),(.int .i64 6),(.int .i64 1),(.int .i64 (-1)),(.slice none 0 0)]⟩] [] .one fun l34 _ =>
 .chk (.eqN r4 r4) <|
 .newbox fun r16 =>
 .prim (.bi .append #[58,58] 58) [(.slice (some ⟨r16,0,none⟩) 1 1),g l31 0] [⟨r16,62,[(.int .i64 6),(.int .i64 0)]⟩] [] .one fun l35 _ =>
 .pure [] (.conv .i64) [g v 3] fun v36 =>
 .pure [] (.bin .lss .int) [(.int .i64 5),v36] fun v37 =>
 .br v37 (
 .chk (.eqN r4 r4) <|
 .newbox fun r17 =>
 .prim (.bi .append #[30,30] 30) [g l34 0,(.slice (some ⟨r17,0,none⟩) 1 1)] [⟨r17,60,[(.int .i64 0),(.int .i64 7),(.int .i64 1),(.int .i64 (-1)),(.slice none 0 0)]⟩] [] .one fun l38 _ =>
 .chk (.eqN r4 r4) <|
 .newbox fun r18 =>
 .prim (.bi .append #[58,58] 58) [(.slice (some ⟨r18,0,none⟩) 1 1),g l35 0] [⟨r18,62,[(.int .i64 7),(.int .i64 0)]⟩] [] .one fun l39 _ =>
 .stuck 903) (
 .pure [] (.bin .geq .int) [g v 1,g v 0] fun v40 =>
 .chk (.eqV v40 v40) <|
 .pure [] (.bin .eql .int) [g v 2,(.int .i64 3)] fun v41 =>
 .chk (.eqV v40 v40) <|
 .chk (.eqV v41 v41) <|
 .chk (.eqV v40 v40) <|
 .pure [] (.bin .eql .int) [g v 2,(.int .i64 4)] fun v42 =>
 .chk (.eqV v40 v40) <|
 .chk (.eqV v41 v41) <|
 .chk (.eqV v40 v40) <|
 .pure [] .pick [v41,(.bool true),v42] fun v43 =>
 .chk (.eqV v40 v40) <|
 .pure [] .pick [v40,v43,(.bool false)] fun v44 =>
 .br v44 (
 .newbox fun r19 =>
 .prim (.bi .append #[58,58] 58) [g l35 0,(.slice (some ⟨r19,0,none⟩) 1 1)] [⟨r19,62,[(.int .i64 1),(.int .i64 0)]⟩] [] .one fun l45 _ =>
 .chk (.eqN r4 r4) <|
 .call false 16 [(.slice (some ⟨r0,0,none⟩) 2 2),(.agg #[g l11 0,g l11 1,g l11 2,g l11 3,g l11 4,g l11 5,v14,g l11 7,g l11 8,g l11 9,g l11 10,g l11 11,g l11 12,g l11 13,g l11 14,g l11 15,g l11 16,g l11 17,g l11 18,g l11 19,g l11 20,g l11 21,g l11 22,g l11 23,g l11 24,g l11 25,g l11 26,g l11 27,g l11 28,g l34 0,g l11 30,g l11 31,g l11 32,g l11 33,g l11 34,g l11 35,g l11 36,g l11 37]),(.int .i64 0),(.int .i64 6)] [⟨r0,50,[(.string ⟨#[]⟩),g v 2,(.int .i64 0),(.int .i64 0),(.int .i64 0),(.int .i64 0),(.int .i64 0),(.int .i64 0),(.int .i64 0),(.int .i64 0),(.int .i64 0),g l6 1,(.slice none 0 0),(.int .i64 0),(.string ⟨#[]⟩),(.int .i64 3),(.int .i64 0),(.int .i64 0),(.int .i64 0),(.int .i64 0),(.int .i64 0),(.int .i64 0),(.int .i64 0),(.int .i64 0),(.int .i64 0),(.slice none 0 0),(.slice none 0 0),(.int .i64 0)]⟩] [] .one fun l46 _ =>
 .call false 15 [g l46 0,g l45 0] [] [] .one fun l47 _ =>
 .pure [] .not [g l47 0] fun v48 =>
 .br v48 (
 .ret (.bool false) []) (
 .chk (.eqN r4 r4) <|
 .newbox fun r20 =>
 .call false 12 [(.slice (some ⟨r0,0,none⟩) 2 2),(.agg #[g l11 0,g l11 1,g l11 2,g l11 3,g l11 4,g l11 5,v14,g l11 7,g l11 8,g l11 9,g l11 10,g l11 11,g l11 12,g l11 13,g l11 14,g l11 15,g l11 16,g l11 17,g l11 18,g l11 19,g l11 20,g l11 21,g l11 22,g l11 23,g l11 24,g l11 25,g l11 26,g l11 27,g l11 28,g l34 0,g l11 30,g l11 31,g l11 32,g l11 33,g l11 34,g l11 35,g l11 36,g l11 37]),(.int .i64 0),(.slice (some ⟨r20,0,none⟩) 1 1)] [⟨r20,53,[(.int .i64 0),(.int .i64 6),(.int .i64 0),(.int .i64 0),(.int .i64 0)]⟩] [] .one fun l49 _ =>
 .pure [] .len [g l45 0] fun v50 =>
 .pure [] (.bin .gtr .int) [v50,(.int .i64 0)] fun v51 =>
 .pure [] (.bin .neq .bool) [g l49 0,v51] fun v52 =>
 .br v52 (
 .ret (.bool false) []) (
 .chk (.eqN r4 r4) <|
 .call false 16 [(.slice (some ⟨r0,0,none⟩) 2 2),(.agg #[g l11 0,g l11 1,g l11 2,g l11 3,g l11 4,g l11 5,v14,g l11 7,g l11 8,g l11 9,g l11 10,g l11 11,g l11 12,g l11 13,g l11 14,g l11 15,g l11 16,g l11 17,g l11 18,g l11 19,g l11 20,g l11 21,g l11 22,g l11 23,g l11 24,g l11 25,g l11 26,g l11 27,g l11 28,g l34 0,g l11 30,g l11 31,g l11 32,g l11 33,g l11 34,g l11 35,g l11 36,g l11 37]),(.int .i64 1),(.int .i64 6)] [] [] .one fun l53 _ =>
 .call false 15 [g l53 0,g l45 0] [] [] .one fun l54 _ =>
 .pure [] .not [g l54 0] fun v55 =>
 .br v55 (
 .ret (.bool false) []) (
 .chk (.eqN r4 r4) <|
 .newbox fun r21 =>
 .call false 12 [(.slice (some ⟨r0,0,none⟩) 2 2),(.agg #[g l11 0,g l11 1,g l11 2,g l11 3,g l11 4,g l11 5,v14,g l11 7,g l11 8,g l11 9,g l11 10,g l11 11,g l11 12,g l11 13,g l11 14,g l11 15,g l11 16,g l11 17,g l11 18,g l11 19,g l11 20,g l11 21,g l11 22,g l11 23,g l11 24,g l11 25,g l11 26,g l11 27,g l11 28,g l34 0,g l11 30,g l11 31,g l11 32,g l11 33,g l11 34,g l11 35,g l11 36,g l11 37]),(.int .i64 1),(.slice (some ⟨r21,0,none⟩) 1 1)] [⟨r21,53,[(.int .i64 0),(.int .i64 6),(.int .i64 0),(.int .i64 0),(.int .i64 0)]⟩] [] .one fun l56 _ =>
 .pure [] .len [g l45 0] fun v57 =>
 .pure [] (.bin .gtr .int) [v57,(.int .i64 0)] fun v58 =>
 .pure [] (.bin .neq .bool) [g l56 0,v58] fun v59 =>
 .br v59 (
 .ret (.bool false) []) (
 .call false 9 [] [] [] .one fun l60 _ =>
 .ret (g l60 0) []))))) (
 .chk (.eqN r4 r4) <|
 .call false 16 [(.slice (some ⟨r0,0,none⟩) 2 2),(.agg #[g l11 0,g l11 1,g l11 2,g l11 3,g l11 4,g l11 5,v14,g l11 7,g l11 8,g l11 9,g l11 10,g l11 11,g l11 12,g l11 13,g l11 14,g l11 15,g l11 16,g l11 17,g l11 18,g l11 19,g l11 20,g l11 21,g l11 22,g l11 23,g l11 24,g l11 25,g l11 26,g l11 27,g l11 28,g l34 0,g l11 30,g l11 31,g l11 32,g l11 33,g l11 34,g l11 35,g l11 36,g l11 37]),(.int .i64 0),(.int .i64 6)] [⟨r0,50,[(.string ⟨#[]⟩),g v 2,(.int .i64 0),(.int .i64 0),(.int .i64 0),(.int .i64 0),(.int .i64 0),(.int .i64 0),(.int .i64 0),(.int .i64 0),(.int .i64 0),g l6 1,(.slice none 0 0),(.int .i64 0),(.string ⟨#[]⟩),(.int .i64 3),(.int .i64 0),(.int .i64 0),(.int .i64 0),(.int .i64 0),(.int .i64 0),(.int .i64 0),(.int .i64 0),(.int .i64 0),(.int .i64 0),(.slice none 0 0),(.slice none 0 0),(.int .i64 0)]⟩] [] .one fun l61 _ =>
 .call false 15 [g l61 0,g l35 0] [] [] .one fun l62 _ =>
 .pure [] .not [g l62 0] fun v63 =>
 .br v63 (
 .ret (.bool false) []) (
 .chk (.eqN r4 r4) <|
 .newbox fun r22 =>
 .call false 12 [(.slice (some ⟨r0,0,none⟩) 2 2),(.agg #[g l11 0,g l11 1,g l11 2,g l11 3,g l11 4,g l11 5,v14,g l11 7,g l11 8,g l11 9,g l11 10,g l11 11,g l11 12,g l11 13,g l11 14,g l11 15,g l11 16,g l11 17,g l11 18,g l11 19,g l11 20,g l11 21,g l11 22,g l11 23,g l11 24,g l11 25,g l11 26,g l11 27,g l11 28,g l34 0,g l11 30,g l11 31,g l11 32,g l11 33,g l11 34,g l11 35,g l11 36,g l11 37]),(.int .i64 0),(.slice (some ⟨r22,0,none⟩) 1 1)] [⟨r22,53,[(.int .i64 0),(.int .i64 6),(.int .i64 0),(.int .i64 0),(.int .i64 0)]⟩] [] .one fun l64 _ =>
 .pure [] .len [g l35 0] fun v65 =>
 .pure [] (.bin .gtr .int) [v65,(.int .i64 0)] fun v66 =>
 .pure [] (.bin .neq .bool) [g l64 0,v66] fun v67 =>
 .br v67 (
 .ret (.bool false) []) (
 .chk (.eqN r4 r4) <|
 .call false 16 [(.slice (some ⟨r0,0,none⟩) 2 2),(.agg #[g l11 0,g l11 1,g l11 2,g l11 3,g l11 4,g l11 5,v14,g l11 7,g l11 8,g l11 9,g l11 10,g l11 11,g l11 12,g l11 13,g l11 14,g l11 15,g l11 16,g l11 17,g l11 18,g l11 19,g l11 20,g l11 21,g l11 22,g l11 23,g l11 24,g l11 25,g l11 26,g l11 27,g l11 28,g l34 0,g l11 30,g l11 31,g l11 32,g l11 33,g l11 34,g l11 35,g l11 36,g l11 37]),(.int .i64 1),(.int .i64 6)] [] [] .one fun l68 _ =>
 .call false 15 [g l68 0,g l35 0] [] [] .one fun l69 _ =>
 .pure [] .not [g l69 0] fun v70 =>
 .br v70 (
 .ret (.bool false) []) (
 .chk (.eqN r4 r4) <|
 .newbox fun r23 =>
 .call false 12 [(.slice (some ⟨r0,0,none⟩) 2 2),(.agg #[g l11 0,g l11 1,g l11 2,g l11 3,g l11 4,g l11 5,v14,g l11 7,g l11 8,g l11 9,g l11 10,g l11 11,g l11 12,g l11 13,g l11 14,g l11 15,g l11 16,g l11 17,g l11 18,g l11 19,g l11 20,g l11 21,g l11 22,g l11 23,g l11 24,g l11 25,g l11 26,g l11 27,g l11 28,g l34 0,g l11 30,g l11 31,g l11 32,g l11 33,g l11 34,g l11 35,g l11 36,g l11 37]),(.int .i64 1),(.slice (some ⟨r23,0,none⟩) 1 1)] [⟨r23,53,[(.int .i64 0),(.int .i64 6),(.int .i64 0),(.int .i64 0),(.int .i64 0)]⟩] [] .one fun l71 _ =>
 .pure [] .len [g l35 0] fun v72 =>
 .pure [] (.bin .gtr .int) [v72,(.int .i64 0)] fun v73 =>
 .pure [] (.bin .neq .bool) [g l71 0,v73] fun v74 =>
 .br v74 (
 .ret (.bool false) []) (
 .call false 9 [] [] [] .one fun l75 _ =>
 .ret (g l75 0) []))))))) (
 .pure [] (.bin .geq .int) [g v 1,g v 0] fun v76 =>
 .chk (.eqV v76 v76) <|
 .pure [] (.bin .eql .int) [g v 2,(.int .i64 3)] fun v77 =>
 .chk (.eqV v76 v76) <|
 .chk (.eqV v77 v77) <|
 .chk (.eqV v76 v76) <|
 .pure [] (.bin .eql .int) [g v 2,(.int .i64 4)] fun v78 =>
 .chk (.eqV v76 v76) <|
 .chk (.eqV v77 v77) <|
 .chk (.eqV v76 v76) <|
 .pure [] .pick [v77,(.bool true),v78] fun v79 =>
 .chk (.eqV v76 v76) <|
 .pure [] .pick [v76,v79,(.bool false)] fun v80 =>
 .br v80 (
 .newbox fun r24 =>
 .prim (.bi .append #[58,58] 58) [g l31 0,(.slice (some ⟨r24,0,none⟩) 1 1)] [⟨r24,62,[(.int .i64 1),(.int .i64 0)]⟩] [] .one fun l81 _ =>
 .chk (.eqN r4 r4) <|
 .call false 16 [(.slice (some ⟨r0,0,none⟩) 2 2),(.agg #[g l11 0,g l11 1,g l11 2,g l11 3,g l11 4,g l11 5,v14,g l11 7,g l11 8,g l11 9,g l11 10,g l11 11,g l11 12,g l11 13,g l11 14,g l11 15,g l11 16,g l11 17,g l11 18,g l11 19,g l11 20,g l11 21,g l11 22,g l11 23,g l11 24,g l11 25,g l11 26,g l11 27,g l11 28,g l30 0,g l11 30,g l11 31,g l11 32,g l11 33,g l11 34,g l11 35,g l11 36,g l11 37]),(.int .i64 0),(.int .i64 6)] [⟨r0,50,[(.string ⟨#[]⟩),g v 2,(.int .i64 0),(.int .i64 0),(.int .i64 0),(.int .i64 0),(.int .i64 0),(.int .i64 0),(.int .i64 0),(.int .i64 0),(.int .i64 0),g l6 1,(.slice none 0 0),(.int .i64 0),(.string ⟨#[]⟩),(.int .i64 3),(.int .i64 0),(.int .i64 0),(.int .i64 0),(.int .i64 0),(.int .i64 0),(.int .i64 0),(.int .i64 0),(.int .i64 0),(.int .i64 0),(.slice none 0 0),(.slice none 0 0),(.int .i64 0)]⟩] [] .one fun l82 _ =>
 .call false 15 [g l82 0,g l81 0] [] [] .one fun l83 _ =>
 .pure [] .not [g l83 0] fun v84 =>
 .br v84 (
 .ret (.bool false) []) (
 .chk (.eqN r4 r4) <|
 .newbox fun r25 =>
 .call false 12 [(.slice (some ⟨r0,0,none⟩) 2 2),(.agg #[g l11 0,g l11 1,g l11 2,g l11 3,g l11 4,g l11 5,v14,g l11 7,g l11 8,g l11 9,g l11 10,g l11 11,g l11 12,g l11 13,g l11 14,g l11 15,g l11 16,g l11 17,g l11 18,g l11 19,g l11 20,g l11 21,g l11 22,g l11 23,g l11 24,g l11 25,g l11 26,g l11 27,g l11 28,g l30 0,g l11 30,g l11 31,g l11 32,g l11 33,g l11 34,g l11 35,g l11 36,g l11 37]),(.int .i64 0),(.slice (some ⟨r25,0,none⟩) 1 1)] [⟨r25,53,[(.int .i64 0),(.int .i64 6),(.int .i64 0),(.int .i64 0),(.int .i64 0)]⟩] [] .one fun l85 _ =>
 .pure [] .len [g l81 0] fun v86 =>
 .pure [] (.bin .gtr .int) [v86,(.int .i64 0)] fun v87 =>
 .pure [] (.bin .neq .bool) [g l85 0,v87] fun v88 =>
 .br v88 (
 .ret (.bool false) []) (
 .chk (.eqN r4 r4) <|
 .call false 16 [(.slice (some ⟨r0,0,none⟩) 2 2),(.agg #[g l11 0,g l11 1,g l11 2,g l11 3,g l11 4,g l11 5,v14,g l11 7,g l11 8,g l11 9,g l11 10,g l11 11,g l11 12,g l11 13,g l11 14,g l11 15,g l11 16,g l11 17,g l11 18,g l11 19,g l11 20,g l11 21,g l11 22,g l11 23,g l11 24,g l11 25,g l11 26,g l11 27,g l11 28,g l30 0,g l11 30,g l11 31,g l11 32,g l11 33,g l11 34,g l11 35,g l11 36,g l11 37]),(.int .i64 1),(.int .i64 6)] [] [] .one fun l89 _ =>
 .call false 15 [g l89 0,g l81 0] [] [] .one fun l90 _ =>
 .pure [] .not [g l90 0] fun v91 =>
 .br v91 (
 .ret (.bool false) []) (
 .chk (.eqN r4 r4) <|
 .newbox fun r26 =>
 .call false 12 [(.slice (some ⟨r0,0,none⟩) 2 2),(.agg #[g l11 0,g l11 1,g l11 2,g l11 3,g l11 4,g l11 5,v14,g l11 7,g l11 8,g l11 9,g l11 10,g l11 11,g l11 12,g l11 13,g l11 14,g l11 15,g l11 16,g l11 17,g l11 18,g l11 19,g l11 20,g l11 21,g l11 22,g l11 23,g l11 24,g l11 25,g l11 26,g l11 27,g l11 28,g l30 0,g l11 30,g l11 31,g l11 32,g l11 33,g l11 34,g l11 35,g l11 36,g l11 37]),(.int .i64 1),(.slice (some ⟨r26,0,none⟩) 1 1)] [⟨r26,53,[(.int .i64 0),(.int .i64 6),(.int .i64 0),(.int .i64 0),(.int .i64 0)]⟩] [] .one fun l92 _ =>
 .pure [] .len [g l81 0] fun v93 =>
 .pure [] (.bin .gtr .int) [v93,(.int .i64 0)] fun v94 =>
 .pure [] (.bin .neq .bool) [g l92 0,v94] fun v95 =>
 .br v95 (
 .ret (.bool false) []) (
 .call false 9 [] [] [] .one fun l96 _ =>
 .ret (g l96 0) []))))) (
 .chk (.eqN r4 r4) <|
 .call false 16 [(.slice (some ⟨r0,0,none⟩) 2 2),(.agg #[g l11 0,g l11 1,g l11 2,g l11 3,g l11 4,g l11 5,v14,g l11 7,g l11 8,g l11 9,g l11 10,g l11 11,g l11 12,g l11 13,g l11 14,g l11 15,g l11 16,g l11 17,g l11 18,g l11 19,g l11 20,g l11 21,g l11 22,g l11 23,g l11 24,g l11 25,g l11 26,g l11 27,g l11 28,g l30 0,g l11 30,g l11 31,g l11 32,g l11 33,g l11 34,g l11 35,g l11 36,g l11 37]),(.int .i64 0),(.int .i64 6)] [⟨r0,50,[(.string ⟨#[]⟩),g v 2,(.int .i64 0),(.int .i64 0),(.int .i64 0),(.int .i64 0),(.int .i64 0),(.int .i64 0),(.int .i64 0),(.int .i64 0),(.int .i64 0),g l6 1,(.slice none 0 0),(.int .i64 0),(.string ⟨#[]⟩),(.int .i64 3),(.int .i64 0),(.int .i64 0),(.int .i64 0),(.int .i64 0),(.int .i64 0),(.int .i64 0),(.int .i64 0),(.int .i64 0),(.int .i64 0),(.slice none 0 0),(.slice none 0 0),(.int .i64 0)]⟩] [] .one fun l97 _ =>
 .call false 15 [g l97 0,g l31 0] [] [] .one fun l98 _ =>
 .pure [] .not [g l98 0] fun v99 =>
 .br v99 (
 .ret (.bool false) []) (
 .chk (.eqN r4 r4) <|
 .newbox fun r27 =>
 .call false 12 [(.slice (some ⟨r0,0,none⟩) 2 2),(.agg #[g l11 0,g l11 1,g l11 2,g l11 3,g l11 4,g l11 5,v14,g l11 7,g l11 8,g l11 9,g l11 10,g l11 11,g l11 12,g l11 13,g l11 14,g l11 15,g l11 16,g l11 17,g l11 18,g l11 19,g l11 20,g l11 21,g l11 22,g l11 23,g l11 24,g l11 25,g l11 26,g l11 27,g l11 28,g l30 0,g l11 30,g l11 31,g l11 32,g l11 33,g l11 34,g l11 35,g l11 36,g l11 37]),(.int .i64 0),(.slice (some ⟨r27,0,none⟩) 1 1)] [⟨r27,53,[(.int .i64 0),(.int .i64 6),(.int .i64 0),(.int .i64 0),(.int .i64 0)]⟩] [] .one fun l100 _ =>
 .pure [] .len [g l31 0] fun v101 =>
 .pure [] (.bin .gtr .int) [v101,(.int .i64 0)] fun v102 =>
 .pure [] (.bin .neq .bool) [g l100 0,v102] fun v103 =>
 .br v103 (
 .ret (.bool false) []) (
 .chk (.eqN r4 r4) <|
 .call false 16 [(.slice (some ⟨r0,0,none⟩) 2 2),(.agg #[g l11 0,g l11 1,g l11 2,g l11 3,g l11 4,g l11 5,v14,g l11 7,g l11 8,g l11 9,g l11 10,g l11 11,g l11 12,g l11 13,g l11 14,g l11 15,g l11 16,g l11 17,g l11 18,g l11 19,g l11 20,g l11 21,g l11 22,g l11 23,g l11 24,g l11 25,g l11 26,g l11 27,g l11 28,g l30 0,g l11 30,g l11 31,g l11 32,g l11 33,g l11 34,g l11 35,g l11 36,g l11 37]),(.int .i64 1),(.int .i64 6)] [] [] .one fun l104 _ =>
 .call false 15 [g l104 0,g l31 0] [] [] .one fun l105 _ =>
 .pure [] .not [g l105 0] fun v106 =>
 .br v106 (
 .ret (.bool false) []) (
 .chk (.eqN r4 r4) <|
 .newbox fun r28 =>
 .call false 12 [(.slice (some ⟨r0,0,none⟩) 2 2),(.agg #[g l11 0,g l11 1,g l11 2,g l11 3,g l11 4,g l11 5,v14,g l11 7,g l11 8,g l11 9,g l11 10,g l11 11,g l11 12,g l11 13,g l11 14,g l11 15,g l11 16,g l11 17,g l11 18,g l11 19,g l11 20,g l11 21,g l11 22,g l11 23,g l11 24,g l11 25,g l11 26,g l11 27,g l11 28,g l30 0,g l11 30,g l11 31,g l11 32,g l11 33,g l11 34,g l11 35,g l11 36,g l11 37]),(.int .i64 1),(.slice (some ⟨r28,0,none⟩) 1 1)] [⟨r28,53,[(.int .i64 0),(.int .i64 6),(.int .i64 0),(.int .i64 0),(.int .i64 0)]⟩] [] .one fun l107 _ =>
 .pure [] .len [g l31 0] fun v108 =>
 .pure [] (.bin .gtr .int) [v108,(.int .i64 0)] fun v109 =>
 .pure [] (.bin .neq .bool) [g l107 0,v109] fun v110 =>
 .br v110 (
 .ret (.bool false) []) (
 .call false 9 [] [] [] .one fun l111 _ =>
 .ret (g l111 0) []))))))) (
 .pure [] (.bin .geq .int) [g v 1,g v 0] fun v112 =>
 .chk (.eqV v112 v112) <|
 .pure [] (.bin .eql .int) [g v 2,(.int .i64 3)] fun v113 =>
 .chk (.eqV v112 v112) <|
 .chk (.eqV v113 v113) <|
 .chk (.eqV v112 v112) <|
 .pure [] (.bin .eql .int) [g v 2,(.int .i64 4)] fun v114 =>
 .chk (.eqV v112 v112) <|
 .chk (.eqV v113 v113) <|
 .chk (.eqV v112 v112) <|
 .pure [] .pick [v113,(.bool true),v114] fun v115 =>
 .chk (.eqV v112 v112) <|
 .pure [] .pick [v112,v115,(.bool false)] fun v116 =>
 .br v116 (
 .newbox fun r29 =>
 .prim (.bi .append #[58,58] 58) [g l27 0,(.slice (some ⟨r29,0,none⟩) 1 1)] [⟨r29,62,[(.int .i64 1),(.int .i64 0)]⟩] [] .one fun l117 _ =>
 .chk (.eqN r4 r4) <|
 .call false 16 [(.slice (some ⟨r0,0,none⟩) 2 2),(.agg #[g l11 0,g l11 1,g l11 2,g l11 3,g l11 4,g l11 5,v14,g l11 7,g l11 8,g l11 9,g l11 10,g l11 11,g l11 12,g l11 13,g l11 14,g l11 15,g l11 16,g l11 17,g l11 18,g l11 19,g l11 20,g l11 21,g l11 22,g l11 23,g l11 24,g l11 25,g l11 26,g l11 27,g l11 28,g l26 0,g l11 30,g l11 31,g l11 32,g l11 33,g l11 34,g l11 35,g l11 36,g l11 37]),(.int .i64 0),(.int .i64 6)] [⟨r0,50,[(.string ⟨#[]⟩),g v 2,(.int .i64 0),(.int .i64 0),(.int .i64 0),(.int .i64 0),(.int .i64 0),(.int .i64 0),(.int .i64 0),(.int .i64 0),(.int .i64 0),g l6 1,(.slice none 0 0),(.int .i64 0),(.string ⟨#[]⟩),(.int .i64 3),(.int .i64 0),(.int .i64 0),(.int .i64 0),(.int .i64 0),(.int .i64 0),(.int .i64 0),(.int .i64 0),(.int .i64 0),(.int .i64 0),(.slice none 0 0),(.slice none 0 0),(.int .i64 0)]⟩] [] .one fun l118 _ =>
 .call false 15 [g l118 0,g l117 0] [] [] .one fun l119 _ =>
 .pure [] .not [g l119 0] fun v120 =>
 .br v120 (
 .ret (.bool false) []) (
 .chk (.eqN r4 r4) <|
 .newbox fun r30 =>
 .call false 12 [(.slice (some ⟨r0,0,none⟩) 2 2),(.agg #[g l11 0,g l11 1,g l11 2,g l11 3,g l11 4,g l11 5,v14,g l11 7,g l11 8,g l11 9,g l11 10,g l11 11,g l11 12,g l11 13,g l11 14,g l11 15,g l11 16,g l11 17,g l11 18,g l11 19,g l11 20,g l11 21,g l11 22,g l11 23,g l11 24,g l11 25,g l11 26,g l11 27,g l11 28,g l26 0,g l11 30,g l11 31,g l11 32,g l11 33,g l11 34,g l11 35,g l11 36,g l11 37]),(.int .i64 0),(.slice (some ⟨r30,0,none⟩) 1 1)] [⟨r30,53,[(.int .i64 0),(.int .i64 6),(.int .i64 0),(.int .i64 0),(.int .i64 0)]⟩] [] .one fun l121 _ =>
 .pure [] .len [g l117 0] fun v122 =>
 .pure [] (.bin .gtr .int) [v122,(.int .i64 0)] fun v123 =>
 .pure [] (.bin .neq .bool) [g l121 0,v123] fun v124 =>
 .br v124 (
 .ret (.bool false) []) (
 .chk (.eqN r4 r4) <|
 .call false 16 [(.slice (some ⟨r0,0,none⟩) 2 2),(.agg #[g l11 0,g l11 1,g l11 2,g l11 3,g l11 4,g l11 5,v14,g l11 7,g l11 8,g l11 9,g l11 10,g l11 11,g l11 12,g l11 13,g l11 14,g l11 15,g l11 16,g l11 17,g l11 18,g l11 19,g l11 20,g l11 21,g l11 22,g l11 23,g l11 24,g l11 25,g l11 26,g l11 27,g l11 28,g l26 0,g l11 30,g l11 31,g l11 32,g l11 33,g l11 34,g l11 35,g l11 36,g l11 37]),(.int .i64 1),(.int .i64 6)] [] [] .one fun l125 _ =>
 .call false 15 [g l125 0,g l117 0] [] [] .one fun l126 _ =>
 .pure [] .not [g l126 0] fun v127 =>
 .br v127 (
 .ret (.bool false) []) (
 .chk (.eqN r4 r4) <|
 .newbox fun r31 =>
 .call false 12 [(.slice (some ⟨r0,0,none⟩) 2 2),(.agg #[g l11 0,g l11 1,g l11 2,g l11 3,g l11 4,g l11 5,v14,g l11 7,g l11 8,g l11 9,g l11 10,g l11 11,g l11 12,g l11 13,g l11 14,g l11 15,g l11 16,g l11 17,g l11 18,g l11 19,g l11 20,g l11 21,g l11 22,g l11 23,g l11 24,g l11 25,g l11 26,g l11 27,g l11 28,g l26 0,g l11 30,g l11 31,g l11 32,g l11 33,g l11 34,g l11 35,g l11 36,g l11 37]),(.int .i64 1),(.slice (some ⟨r31,0,none⟩) 1 1)] [⟨r31,53,[(.int .i64 0),(.int .i64 6),(.int .i64 0),(.int .i64 0),(.int .i64 0)]⟩] [] .one fun l128 _ =>
 .pure [] .len [g l117 0] fun v129 =>
 .pure [] (.bin .gtr .int) [v129,(.int .i64 0)] fun v130 =>
 .pure [] (.bin .neq .bool) [g l128 0,v130] fun v131 =>
 .br v131 (
 .ret (.bool false) []) (
 .call false 9 [] [] [] .one fun l132 _ =>
 .ret (g l132 0) []))))) (
 .chk (.eqN r4 r4) <|
 .call false 16 [(.slice (some ⟨r0,0,none⟩) 2 2),(.agg #[g l11 0,g l11 1,g l11 2,g l11 3,g l11 4,g l11 5,v14,g l11 7,g l11 8,g l11 9,g l11 10,g l11 11,g l11 12,g l11 13,g l11 14,g l11 15,g l11 16,g l11 17,g l11 18,g l11 19,g l11 20,g l11 21,g l11 22,g l11 23,g l11 24,g l11 25,g l11 26,g l11 27,g l11 28,g l26 0,g l11 30,g l11 31,g l11 32,g l11 33,g l11 34,g l11 35,g l11 36,g l11 37]),(.int .i64 0),(.int .i64 6)] [⟨r0,50,[(.string ⟨#[]⟩),g v 2,(.int .i64 0),(.int .i64 0),(.int .i64 0),(.int .i64 0),(.int .i64 0),(.int .i64 0),(.int .i64 0),(.int .i64 0),(.int .i64 0),g l6 1,(.slice none 0 0),(.int .i64 0),(.string ⟨#[]⟩),(.int .i64 3),(.int .i64 0),(.int .i64 0),(.int .i64 0),(.int .i64 0),(.int .i64 0),(.int .i64 0),(.int .i64 0),(.int .i64 0),(.int .i64 0),(.slice none 0 0),(.slice none 0 0),(.int .i64 0)]⟩] [] .one fun l133 _ =>
 .call false 15 [g l133 0,g l27 0] [] [] .one fun l134 _ =>
 .pure [] .not [g l134 0] fun v135 =>
 .br v135 (
 .ret (.bool false) []) (
 .chk (.eqN r4 r4) <|
 .newbox fun r32 =>
 .call false 12 [(.slice (some ⟨r0,0,none⟩) 2 2),(.agg #[g l11 0,g l11 1,g l11 2,g l11 3,g l11 4,g l11 5,v14,g l11 7,g l11 8,g l11 9,g l11 10,g l11 11,g l11 12,g l11 13,g l11 14,g l11 15,g l11 16,g l11 17,g l11 18,g l11 19,g l11 20,g l11 21,g l11 22,g l11 23,g l11 24,g l11 25,g l11 26,g l11 27,g l11 28,g l26 0,g l11 30,g l11 31,g l11 32,g l11 33,g l11 34,g l11 35,g l11 36,g l11 37]),(.int .i64 0),(.slice (some ⟨r32,0,none⟩) 1 1)] [⟨r32,53,[(.int .i64 0),(.int .i64 6),(.int .i64 0),(.int .i64 0),(.int .i64 0)]⟩] [] .one fun l136 _ =>
 .pure [] .len [g l27 0] fun v137 =>
 .pure [] (.bin .gtr .int) [v137,(.int .i64 0)] fun v138 =>
 .pure [] (.bin .neq .bool) [g l136 0,v138] fun v139 =>
 .br v139 (
 .ret (.bool false) []) (
 .chk (.eqN r4 r4) <|
 .call false 16 [(.slice (some ⟨r0,0,none⟩) 2 2),(.agg #[g l11 0,g l11 1,g l11 2,g l11 3,g l11 4,g l11 5,v14,g l11 7,g l11 8,g l11 9,g l11 10,g l11 11,g l11 12,g l11 13,g l11 14,g l11 15,g l11 16,g l11 17,g l11 18,g l11 19,g l11 20,g l11 21,g l11 22,g l11 23,g l11 24,g l11 25,g l11 26,g l11 27,g l11 28,g l26 0,g l11 30,g l11 31,g l11 32,g l11 33,g l11 34,g l11 35,g l11 36,g l11 37]),(.int .i64 1),(.int .i64 6)] [] [] .one fun l140 _ =>
 .call false 15 [g l140 0,g l27 0] [] [] .one fun l141 _ =>
 .pure [] .not [g l141 0] fun v142 =>
 .br v142 (
 .ret (.bool false) []) (
 .chk (.eqN r4 r4) <|
 .newbox fun r33 =>
 .call false 12 [(.slice (some ⟨r0,0,none⟩) 2 2),(.agg #[g l11 0,g l11 1,g l11 2,g l11 3,g l11 4,g l11 5,v14,g l11 7,g l11 8,g l11 9,g l11 10,g l11 11,g l11 12,g l11 13,g l11 14,g l11 15,g l11 16,g l11 17,g l11 18,g l11 19,g l11 20,g l11 21,g l11 22,g l11 23,g l11 24,g l11 25,g l11 26,g l11 27,g l11 28,g l26 0,g l11 30,g l11 31,g l11 32,g l11 33,g l11 34,g l11 35,g l11 36,g l11 37]),(.int .i64 1),(.slice (some ⟨r33,0,none⟩) 1 1)] [⟨r33,53,[(.int .i64 0),(.int .i64 6),(.int .i64 0),(.int .i64 0),(.int .i64 0)]⟩] [] .one fun l143 _ =>
 .pure [] .len [g l27 0] fun v144 =>
 .pure [] (.bin .gtr .int) [v144,(.int .i64 0)] fun v145 =>
 .pure [] (.bin .neq .bool) [g l143 0,v145] fun v146 =>
 .br v146 (
 .ret (.bool false) []) (
 .call false 9 [] [] [] .one fun l147 _ =>
 .ret (g l147 0) []))))))) (
 .pure [] (.bin .geq .int) [g v 1,g v 0] fun v148 =>
 .chk (.eqV v148 v148) <|
 .pure [] (.bin .eql .int) [g v 2,(.int .i64 3)] fun v149 =>
 .chk (.eqV v148 v148) <|
 .chk (.eqV v149 v149) <|
 .chk (.eqV v148 v148) <|
 .pure [] (.bin .eql .int) [g v 2,(.int .i64 4)] fun v150 =>
 .chk (.eqV v148 v148) <|
 .chk (.eqV v149 v149) <|
 .chk (.eqV v148 v148) <|
 .pure [] .pick [v149,(.bool true),v150] fun v151 =>
 .chk (.eqV v148 v148) <|
 .pure [] .pick [v148,v151,(.bool false)] fun v152 =>
 .br v152 (
 .newbox fun r34 =>
 .prim (.bi .append #[58,58] 58) [g l23 0,(.slice (some ⟨r34,0,none⟩) 1 1)] [⟨r34,62,[(.int .i64 1),(.int .i64 0)]⟩] [] .one fun l153 _ =>
 .chk (.eqN r4 r4) <|
 .call false 16 [(.slice (some ⟨r0,0,none⟩) 2 2),(.agg #[g l11 0,g l11 1,g l11 2,g l11 3,g l11 4,g l11 5,v14,g l11 7,g l11 8,g l11 9,g l11 10,g l11 11,g l11 12,g l11 13,g l11 14,g l11 15,g l11 16,g l11 17,g l11 18,g l11 19,g l11 20,g l11 21,g l11 22,g l11 23,g l11 24,g l11 25,g l11 26,g l11 27,g l11 28,g l22 0,g l11 30,g l11 31,g l11 32,g l11 33,g l11 34,g l11 35,g l11 36,g l11 37]),(.int .i64 0),(.int .i64 6)] [⟨r0,50,[(.string ⟨#[]⟩),g v 2,(.int .i64 0),(.int .i64 0),(.int .i64 0),(.int .i64 0),(.int .i64 0),(.int .i64 0),(.int .i64 0),(.int .i64 0),(.int .i64 0),g l6 1,(.slice none 0 0),(.int .i64 0),(.string ⟨#[]⟩),(.int .i64 3),(.int .i64 0),(.int .i64 0),(.int .i64 0),(.int .i64 0),(.int .i64 0),(.int .i64 0),(.int .i64 0),(.int .i64 0),(.int .i64 0),(.slice none 0 0),(.slice none 0 0),(.int .i64 0)]⟩] [] .one fun l154 _ =>
 .call false 15 [g l154 0,g l153 0] [] [] .one fun l155 _ =>
 .pure [] .not [g l155 0] fun v156 =>
 .br v156 (
 .ret (.bool false) []) (
 .chk (.eqN r4 r4) <|
 .newbox fun r35 =>
 .call false 12 [(.slice (some ⟨r0,0,none⟩) 2 2),(.agg #[g l11 0,g l11 1,g l11 2,g l11 3,g l11 4,g l11 5,v14,g l11 7,g l11 8,g l11 9,g l11 10,g l11 11,g l11 12,g l11 13,g l11 14,g l11 15,g l11 16,g l11 17,g l11 18,g l11 19,g l11 20,g l11 21,g l11 22,g l11 23,g l11 24,g l11 25,g l11 26,g l11 27,g l11 28,g l22 0,g l11 30,g l11 31,g l11 32,g l11 33,g l11 34,g l11 35,g l11 36,g l11 37]),(.int .i64 0),(.slice (some ⟨r35,0,none⟩) 1 1)] [⟨r35,53,[(.int .i64 0),(.int .i64 6),(.int .i64 0),(.int .i64 0),(.int .i64 0)]⟩] [] .one fun l157 _ =>
 .pure [] .len [g l153 0] fun v158 =>
 .pure [] (.bin .gtr .int) [v158,(.int .i64 0)] fun v159 =>
 .pure [] (.bin .neq .bool) [g l157 0,v159] fun v160 =>
 .br v160 (
 .ret (.bool false) []) (
 .chk (.eqN r4 r4) <|
 .call false 16 [(.slice (some ⟨r0,0,none⟩) 2 2),(.agg #[g l11 0,g l11 1,g l11 2,g l11 3,g l11 4,g l11 5,v14,g l11 7,g l11 8,g l11 9,g l11 10,g l11 11,g l11 12,g l11 13,g l11 14,g l11 15,g l11 16,g l11 17,g l11 18,g l11 19,g l11 20,g l11 21,g l11 22,g l11 23,g l11 24,g l11 25,g l11 26,g l11 27,g l11 28,g l22 0,g l11 30,g l11 31,g l11 32,g l11 33,g l11 34,g l11 35,g l11 36,g l11 37]),(.int .i64 1),(.int .i64 6)] [] [] .one fun l161 _ =>
 .call false 15 [g l161 0,g l153 0] [] [] .one fun l162 _ =>
 .pure [] .not [g l162 0] fun v163 =>
 .br v163 (
 .ret (.bool false) []) (
 .chk (.eqN r4 r4) <|
 .newbox fun r36 =>
 .call false 12 [(.slice (some ⟨r0,0,none⟩) 2 2),(.agg #[g l11 0,g l11 1,g l11 2,g l11 3,g l11 4,g l11 5,v14,g l11 7,g l11 8,g l11 9,g l11 10,g l11 11,g l11 12,g l11 13,g l11 14,g l11 15,g l11 16,g l11 17,g l11 18,g l11 19,g l11 20,g l11 21,g l11 22,g l11 23,g l11 24,g l11 25,g l11 26,g l11 27,g l11 28,g l22 0,g l11 30,g l11 31,g l11 32,g l11 33,g l11 34,g l11 35,g l11 36,g l11 37]),(.int .i64 1),(.slice (some ⟨r36,0,none⟩) 1 1)] [⟨r36,53,[(.int .i64 0),(.int .i64 6),(.int .i64 0),(.int .i64 0),(.int .i64 0)]⟩] [] .one fun l164 _ =>
 .pure [] .len [g l153 0] fun v165 =>
 .pure [] (.bin .gtr .int) [v165,(.int .i64 0)] fun v166 =>
 .pure [] (.bin .neq .bool) [g l164 0,v166] fun v167 =>
 .br v167 (
 .ret (.bool false) []) (
 .call false 9 [] [] [] .one fun l168 _ =>
 .ret (g l168 0) []))))) (
 .chk (.eqN r4 r4) <|
 .call false 16 [(.slice (some ⟨r0,0,none⟩) 2 2),(.agg #[g l11 0,g l11 1,g l11 2,g l11 3,g l11 4,g l11 5,v14,g l11 7,g l11 8,g l11 9,g l11 10,g l11 11,g l11 12,g l11 13,g l11 14,g l11 15,g l11 16,g l11 17,g l11 18,g l11 19,g l11 20,g l11 21,g l11 22,g l11 23,g l11 24,g l11 25,g l11 26,g l11 27,g l11 28,g l22 0,g l11 30,g l11 31,g l11 32,g l11 33,g l11 34,g l11 35,g l11 36,g l11 37]),(.int .i64 0),(.int .i64 6)] [⟨r0,50,[(.string ⟨#[]⟩),g v 2,(.int .i64 0),(.int .i64 0),(.int .i64 0),(.int .i64 0),(.int .i64 0),(.int .i64 0),(.int .i64 0),(.int .i64 0),(.int .i64 0),g l6 1,(.slice none 0 0),(.int .i64 0),(.string ⟨#[]⟩),(.int .i64 3),(.int .i64 0),(.int .i64 0),(.int .i64 0),(.int .i64 0),(.int .i64 0),(.int .i64 0),(.int .i64 0),(.int .i64 0),(.int .i64 0),(.slice none 0 0),(.slice none 0 0),(.int .i64 0)]⟩] [] .one fun l169 _ =>
 .call false 15 [g l169 0,g l23 0] [] [] .one fun l170 _ =>
 .pure [] .not [g l170 0] fun v171 =>
 .br v171 (
 .ret (.bool false) []) (
 .chk (.eqN r4 r4) <|
 .newbox fun r37 =>
 .call false 12 [(.slice (some ⟨r0,0,none⟩) 2 2),(.agg #[g l11 0,g l11 1,g l11 2,g l11 3,g l11 4,g l11 5,v14,g l11 7,g l11 8,g l11 9,g l11 10,g l11 11,g l11 12,g l11 13,g l11 14,g l11 15,g l11 16,g l11 17,g l11 18,g l11 19,g l11 20,g l11 21,g l11 22,g l11 23,g l11 24,g l11 25,g l11 26,g l11 27,g l11 28,g l22 0,g l11 30,g l11 31,g l11 32,g l11 33,g l11 34,g l11 35,g l11 36,g l11 37]),(.int .i64 0),(.slice (some ⟨r37,0,none⟩) 1 1)] [⟨r37,53,[(.int .i64 0),(.int .i64 6),(.int .i64 0),(.int .i64 0),(.int .i64 0)]⟩] [] .one fun l172 _ =>
 .pure [] .len [g l23 0] fun v173 =>
 .pure [] (.bin .gtr .int) [v173,(.int .i64 0)] fun v174 =>
 .pure [] (.bin .neq .bool) [g l172 0,v174] fun v175 =>
 .br v175 (
 .ret (.bool false) []) (
 .chk (.eqN r4 r4) <|
 .call false 16 [(.slice (some ⟨r0,0,none⟩) 2 2),(.agg #[g l11 0,g l11 1,g l11 2,g l11 3,g l11 4,g l11 5,v14,g l11 7,g l11 8,g l11 9,g l11 10,g l11 11,g l11 12,g l11 13,g l11 14,g l11 15,g l11 16,g l11 17,g l11 18,g l11 19,g l11 20,g l11 21,g l11 22,g l11 23,g l11 24,g l11 25,g l11 26,g l11 27,g l11 28,g l22 0,g l11 30,g l11 31,g l11 32,g l11 33,g l11 34,g l11 35,g l11 36,g l11 37]),(.int .i64 1),(.int .i64 6)] [] [] .one fun l176 _ =>
 .call false 15 [g l176 0,g l23 0] [] [] .one fun l177 _ =>
 .pure [] .not [g l177 0] fun v178 =>
 .br v178 (
 .ret (.bool false) []) (
 .chk (.eqN r4 r4) <|
 .newbox fun r38 =>
 .call false 12 [(.slice (some ⟨r0,0,none⟩) 2 2),(.agg #[g l11 0,g l11 1,g l11 2,g l11 3,g l11 4,g l11 5,v14,g l11 7,g l11 8,g l11 9,g l11 10,g l11 11,g l11 12,g l11 13,g l11 14,g l11 15,g l11 16,g l11 17,g l11 18,g l11 19,g l11 20,g l11 21,g l11 22,g l11 23,g l11 24,g l11 25,g l11 26,g l11 27,g l11 28,g l22 0,g l11 30,g l11 31,g l11 32,g l11 33,g l11 34,g l11 35,g l11 36,g l11 37]),(.int .i64 1),(.slice (some ⟨r38,0,none⟩) 1 1)] [⟨r38,53,[(.int .i64 0),(.int .i64 6),(.int .i64 0),(.int .i64 0),(.int .i64 0)]⟩] [] .one fun l179 _ =>
 .pure [] .len [g l23 0] fun v180 =>
 .pure [] (.bin .gtr .int) [v180,(.int .i64 0)] fun v181 =>
 .pure [] (.bin .neq .bool) [g l179 0,v181] fun v182 =>
 .br v182 (
 .ret (.bool false) []) (
 .call false 9 [] [] [] .one fun l183 _ =>
 .ret (g l183 0) []))))))) (
 .pure [] (.bin .geq .int) [g v 1,g v 0] fun v184 =>
 .chk (.eqV v184 v184) <|
 .pure [] (.bin .eql .int) [g v 2,(.int .i64 3)] fun v185 =>
 .chk (.eqV v184 v184) <|
 .chk (.eqV v185 v185) <|
 .chk (.eqV v184 v184) <|
 .pure [] (.bin .eql .int) [g v 2,(.int .i64 4)] fun v186 =>
 .chk (.eqV v184 v184) <|
 .chk (.eqV v185 v185) <|
 .chk (.eqV v184 v184) <|
 .pure [] .pick [v185,(.bool true),v186] fun v187 =>
 .chk (.eqV v184 v184) <|
 .pure [] .pick [v184,v187,(.bool false)] fun v188 =>
 .br v188 (
 .newbox fun r39 =>
 .prim (.bi .append #[58,58] 58) [g l19 0,(.slice (some ⟨r39,0,none⟩) 1 1)] [⟨r39,62,[(.int .i64 1),(.int .i64 0)]⟩] [] .one fun l189 _ =>
 .chk (.eqN r4 r4) <|
 .call false 16 [(.slice (some ⟨r0,0,none⟩) 2 2),(.agg #[g l11 0,g l11 1,g l11 2,g l11 3,g l11 4,g l11 5,v14,g l11 7,g l11 8,g l11 9,g l11 10,g l11 11,g l11 12,g l11 13,g l11 14,g l11 15,g l11 16,g l11 17,g l11 18,g l11 19,g l11 20,g l11 21,g l11 22,g l11 23,g l11 24,g l11 25,g l11 26,g l11 27,g l11 28,g l18 0,g l11 30,g l11 31,g l11 32,g l11 33,g l11 34,g l11 35,g l11 36,g l11 37]),(.int .i64 0),(.int .i64 6)] [⟨r0,50,[(.string ⟨#[]⟩),g v 2,(.int .i64 0),(.int .i64 0),(.int .i64 0),(.int .i64 0),(.int .i64 0),(.int .i64 0),(.int .i64 0),(.int .i64 0),(.int .i64 0),g l6 1,(.slice none 0 0),(.int .i64 0),(.string ⟨#[]⟩),(.int .i64 3),(.int .i64 0),(.int .i64 0),(.int .i64 0),(.int .i64 0),(.int .i64 0),(.int .i64 0),(.int .i64 0),(.int .i64 0),(.int .i64 0),(.slice none 0 0),(.slice none 0 0),(.int .i64 0)]⟩] [] .one fun l190 _ =>
 .call false 15 [g l190 0,g l189 0] [] [] .one fun l191 _ =>
 .pure [] .not [g l191 0] fun v192 =>
 .br v192 (
 .ret (.bool false) []) (
 .chk (.eqN r4 r4) <|
 .newbox fun r40 =>
 .call false 12 [(.slice (some ⟨r0,0,none⟩) 2 2),(.agg #[g l11 0,g l11 1,g l11 2,g l11 3,g l11 4,g l11 5,v14,g l11 7,g l11 8,g l11 9,g l11 10,g l11 11,g l11 12,g l11 13,g l11 14,g l11 15,g l11 16,g l11 17,g l11 18,g l11 19,g l11 20,g l11 21,g l11 22,g l11 23,g l11 24,g l11 25,g l11 26,g l11 27,g l11 28,g l18 0,g l11 30,g l11 31,g l11 32,g l11 33,g l11 34,g l11 35,g l11 36,g l11 37]),(.int .i64 0),(.slice (some ⟨r40,0,none⟩) 1 1)] [⟨r40,53,[(.int .i64 0),(.int .i64 6),(.int .i64 0),(.int .i64 0),(.int .i64 0)]⟩] [] .one fun l193 _ =>
 .pure [] .len [g l189 0] fun v194 =>
 .pure [] (.bin .gtr .int) [v194,(.int .i64 0)] fun v195 =>
 .pure [] (.bin .neq .bool) [g l193 0,v195] fun v196 =>
 .br v196 (
 .ret (.bool false) []) (
 .chk (.eqN r4 r4) <|
 .call false 16 [(.slice (some ⟨r0,0,none⟩) 2 2),(.agg #[g l11 0,g l11 1,g l11 2,g l11 3,g l11 4,g l11 5,v14,g l11 7,g l11 8,g l11 9,g l11 10,g l11 11,g l11 12,g l11 13,g l11 14,g l11 15,g l11 16,g l11 17,g l11 18,g l11 19,g l11 20,g l11 21,g l11 22,g l11 23,g l11 24,g l11 25,g l11 26,g l11 27,g l11 28,g l18 0,g l11 30,g l11 31,g l11 32,g l11 33,g l11 34,g l11 35,g l11 36,g l11 37]),(.int .i64 1),(.int .i64 6)] [] [] .one fun l197 _ =>
 .call false 15 [g l197 0,g l189 0] [] [] .one fun l198 _ =>
 .pure [] .not [g l198 0] fun v199 =>
 .br v199 (
 .ret (.bool false) []) (
 .chk (.eqN r4 r4) <|
 .newbox fun r41 =>
 .call false 12 [(.slice (some ⟨r0,0,none⟩) 2 2),(.agg #[g l11 0,g l11 1,g l11 2,g l11 3,g l11 4,g l11 5,v14,g l11 7,g l11 8,g l11 9,g l11 10,g l11 11,g l11 12,g l11 13,g l11 14,g l11 15,g l11 16,g l11 17,g l11 18,g l11 19,g l11 20,g l11 21,g l11 22,g l11 23,g l11 24,g l11 25,g l11 26,g l11 27,g l11 28,g l18 0,g l11 30,g l11 31,g l11 32,g l11 33,g l11 34,g l11 35,g l11 36,g l11 37]),(.int .i64 1),(.slice (some ⟨r41,0,none⟩) 1 1)] [⟨r41,53,[(.int .i64 0),(.int .i64 6),(.int .i64 0),(.int .i64 0),(.int .i64 0)]⟩] [] .one fun l200 _ =>
 .pure [] .len [g l189 0] fun v201 =>
 .pure [] (.bin .gtr .int) [v201,(.int .i64 0)] fun v202 =>
 .pure [] (.bin .neq .bool) [g l200 0,v202] fun v203 =>
 .br v203 (
 .ret (.bool false) []) (
 .call false 9 [] [] [] .one fun l204 _ =>
 .ret (g l204 0) []))))) (
 .chk (.eqN r4 r4) <|
 .call false 16 [(.slice (some ⟨r0,0,none⟩) 2 2),(.agg #[g l11 0,g l11 1,g l11 2,g l11 3,g l11 4,g l11 5,v14,g l11 7,g l11 8,g l11 9,g l11 10,g l11 11,g l11 12,g l11 13,g l11 14,g l11 15,g l11 16,g l11 17,g l11 18,g l11 19,g l11 20,g l11 21,g l11 22,g l11 23,g l11 24,g l11 25,g l11 26,g l11 27,g l11 28,g l18 0,g l11 30,g l11 31,g l11 32,g l11 33,g l11 34,g l11 35,g l11 36,g l11 37]),(.int .i64 0),(.int .i64 6)] [⟨r0,50,[(.string ⟨#[]⟩),g v 2,(.int .i64 0),(.int .i64 0),(.int .i64 0),(.int .i64 0),(.int .i64 0),(.int .i64 0),(.int .i64 0),(.int .i64 0),(.int .i64 0),g l6 1,(.slice none 0 0),(.int .i64 0),(.string ⟨#[]⟩),(.int .i64 3),(.int .i64 0),(.int .i64 0),(.int .i64 0),(.int .i64 0),(.int .i64 0),(.int .i64 0),(.int .i64 0),(.int .i64 0),(.int .i64 0),(.slice none 0 0),(.slice none 0 0),(.int .i64 0)]⟩] [] .one fun l205 _ =>
 .call false 15 [g l205 0,g l19 0] [] [] .one fun l206 _ =>
 .pure [] .not [g l206 0] fun v207 =>
 .br v207 (
 .ret (.bool false) []) (
 .chk (.eqN r4 r4) <|
 .newbox fun r42 =>
 .call false 12 [(.slice (some ⟨r0,0,none⟩) 2 2),(.agg #[g l11 0,g l11 1,g l11 2,g l11 3,g l11 4,g l11 5,v14,g l11 7,g l11 8,g l11 9,g l11 10,g l11 11,g l11 12,g l11 13,g l11 14,g l11 15,g l11 16,g l11 17,g l11 18,g l11 19,g l11 20,g l11 21,g l11 22,g l11 23,g l11 24,g l11 25,g l11 26,g l11 27,g l11 28,g l18 0,g l11 30,g l11 31,g l11 32,g l11 33,g l11 34,g l11 35,g l11 36,g l11 37]),(.int .i64 0),(.slice (some ⟨r42,0,none⟩) 1 1)] [⟨r42,53,[(.int .i64 0),(.int .i64 6),(.int .i64 0),(.int .i64 0),(.int .i64 0)]⟩] [] .one fun l208 _ =>
 .pure [] .len [g l19 0] fun v209 =>
 .pure [] (.bin .gtr .int) [v209,(.int .i64 0)] fun v210 =>
 .pure [] (.bin .neq .bool) [g l208 0,v210] fun v211 =>
 .br v211 (
 .ret (.bool false) []) (
 .chk (.eqN r4 r4) <|
 .call false 16 [(.slice (some ⟨r0,0,none⟩) 2 2),(.agg #[g l11 0,g l11 1,g l11 2,g l11 3,g l11 4,g l11 5,v14,g l11 7,g l11 8,g l11 9,g l11 10,g l11 11,g l11 12,g l11 13,g l11 14,g l11 15,g l11 16,g l11 17,g l11 18,g l11 19,g l11 20,g l11 21,g l11 22,g l11 23,g l11 24,g l11 25,g l11 26,g l11 27,g l11 28,g l18 0,g l11 30,g l11 31,g l11 32,g l11 33,g l11 34,g l11 35,g l11 36,g l11 37]),(.int .i64 1),(.int .i64 6)] [] [] .one fun l212 _ =>
 .call false 15 [g l212 0,g l19 0] [] [] .one fun l213 _ =>
 .pure [] .not [g l213 0] fun v214 =>
 .br v214 (
 .ret (.bool false) []) (
 .chk (.eqN r4 r4) <|
 .newbox fun r43 =>
 .call false 12 [(.slice (some ⟨r0,0,none⟩) 2 2),(.agg #[g l11 0,g l11 1,g l11 2,g l11 3,g l11 4,g l11 5,v14,g l11 7,g l11 8,g l11 9,g l11 10,g l11 11,g l11 12,g l11 13,g l11 14,g l11 15,g l11 16,g l11 17,g l11 18,g l11 19,g l11 20,g l11 21,g l11 22,g l11 23,g l11 24,g l11 25,g l11 26,g l11 27,g l11 28,g l18 0,g l11 30,g l11 31,g l11 32,g l11 33,g l11 34,g l11 35,g l11 36,g l11 37]),(.int .i64 1),(.slice (some ⟨r43,0,none⟩) 1 1)] [⟨r43,53,[(.int .i64 0),(.int .i64 6),(.int .i64 0),(.int .i64 0),(.int .i64 0)]⟩] [] .one fun l215 _ =>
 .pure [] .len [g l19 0] fun v216 =>
 .pure [] (.bin .gtr .int) [v216,(.int .i64 0)] fun v217 =>
 .pure [] (.bin .neq .bool) [g l215 0,v217] fun v218 =>
 .br v218 (
 .ret (.bool false) []) (
 .call false 9 [] [] [] .one fun l219 _ =>
 .ret (g l219 0) []))))))) (
 .pure [] (.bin .geq .int) [g v 1,g v 0] fun v220 =>
 .chk (.eqV v220 v220) <|
 .pure [] (.bin .eql .int) [g v 2,(.int .i64 3)] fun v221 =>
 .chk (.eqV v220 v220) <|
 .chk (.eqV v221 v221) <|
 .chk (.eqV v220 v220) <|
 .pure [] (.bin .eql .int) [g v 2,(.int .i64 4)] fun v222 =>
 .chk (.eqV v220 v220) <|
 .chk (.eqV v221 v221) <|
 .chk (.eqV v220 v220) <|
 .pure [] .pick [v221,(.bool true),v222] fun v223 =>
 .chk (.eqV v220 v220) <|
 .pure [] .pick [v220,v223,(.bool false)] fun v224 =>
 .br v224 (
 .newbox fun r44 =>
 .prim (.bi .append #[58,58] 58) [(.slice none 0 0),(.slice (some ⟨r44,0,none⟩) 1 1)] [⟨r44,62,[(.int .i64 1),(.int .i64 0)]⟩] [] .one fun l225 _ =>
 .chk (.eqN r4 r4) <|
 .call false 16 [(.slice (some ⟨r0,0,none⟩) 2 2),(.agg #[g l11 0,g l11 1,g l11 2,g l11 3,g l11 4,g l11 5,v14,g l11 7,g l11 8,g l11 9,g l11 10,g l11 11,g l11 12,g l11 13,g l11 14,g l11 15,g l11 16,g l11 17,g l11 18,g l11 19,g l11 20,g l11 21,g l11 22,g l11 23,g l11 24,g l11 25,g l11 26,g l11 27,g l11 28,(.slice (some ⟨r6,0,none⟩) 1 1),g l11 30,g l11 31,g l11 32,g l11 33,g l11 34,g l11 35,g l11 36,g l11 37]),(.int .i64 0),(.int .i64 6)] [⟨r0,50,[(.string ⟨#[]⟩),g v 2,(.int .i64 0),(.int .i64 0),(.int .i64 0),(.int .i64 0),(.int .i64 0),(.int .i64 0),(.int .i64 0),(.int .i64 0),(.int .i64 0),g l6 1,(.slice none 0 0),(.int .i64 0),(.string ⟨#[]⟩),(.int .i64 3),(.int .i64 0),(.int .i64 0),(.int .i64 0),(.int .i64 0),(.int .i64 0),(.int .i64 0),(.int .i64 0),(.int .i64 0),(.int .i64 0),(.slice none 0 0),(.slice none 0 0),(.int .i64 0)]⟩,⟨r6,60,[(.int .i64 0),(.int .i64 1),(.int .i64 0),(.int .i64 (-1)),g l15 0]⟩] [] .one fun l226 _ =>
 .call false 15 [g l226 0,g l225 0] [] [] .one fun l227 _ =>
 .pure [] .not [g l227 0] fun v228 =>
 .br v228 (
 .ret (.bool false) []) (
 .chk (.eqN r4 r4) <|
 .newbox fun r45 =>
 .call false 12 [(.slice (some ⟨r0,0,none⟩) 2 2),(.agg #[g l11 0,g l11 1,g l11 2,g l11 3,g l11 4,g l11 5,v14,g l11 7,g l11 8,g l11 9,g l11 10,g l11 11,g l11 12,g l11 13,g l11 14,g l11 15,g l11 16,g l11 17,g l11 18,g l11 19,g l11 20,g l11 21,g l11 22,g l11 23,g l11 24,g l11 25,g l11 26,g l11 27,g l11 28,(.slice (some ⟨r6,0,none⟩) 1 1),g l11 30,g l11 31,g l11 32,g l11 33,g l11 34,g l11 35,g l11 36,g l11 37]),(.int .i64 0),(.slice (some ⟨r45,0,none⟩) 1 1)] [⟨r45,53,[(.int .i64 0),(.int .i64 6),(.int .i64 0),(.int .i64 0),(.int .i64 0)]⟩] [] .one fun l229 _ =>
 .pure [] .len [g l225 0] fun v230 =>
 .pure [] (.bin .gtr .int) [v230,(.int .i64 0)] fun v231 =>
 .pure [] (.bin .neq .bool) [g l229 0,v231] fun v232 =>
 .br v232 (
 .ret (.bool false) []) (
 .chk (.eqN r4 r4) <|
 .call false 16 [(.slice (some ⟨r0,0,none⟩) 2 2),(.agg #[g l11 0,g l11 1,g l11 2,g l11 3,g l11 4,g l11 5,v14,g l11 7,g l11 8,g l11 9,g l11 10,g l11 11,g l11 12,g l11 13,g l11 14,g l11 15,g l11 16,g l11 17,g l11 18,g l11 19,g l11 20,g l11 21,g l11 22,g l11 23,g l11 24,g l11 25,g l11 26,g l11 27,g l11 28,(.slice (some ⟨r6,0,none⟩) 1 1),g l11 30,g l11 31,g l11 32,g l11 33,g l11 34,g l11 35,g l11 36,g l11 37]),(.int .i64 1),(.int .i64 6)] [] [] .one fun l233 _ =>
 .call false 15 [g l233 0,g l225 0] [] [] .one fun l234 _ =>
 .pure [] .not [g l234 0] fun v235 =>
 .br v235 (
 .ret (.bool false) []) (
 .chk (.eqN r4 r4) <|
 .newbox fun r46 =>
 .call false 12 [(.slice (some ⟨r0,0,none⟩) 2 2),(.agg #[g l11 0,g l11 1,g l11 2,g l11 3,g l11 4,g l11 5,v14,g l11 7,g l11 8,g l11 9,g l11 10,g l11 11,g l11 12,g l11 13,g l11 14,g l11 15,g l11 16,g l11 17,g l11 18,g l11 19,g l11 20,g l11 21,g l11 22,g l11 23,g l11 24,g l11 25,g l11 26,g l11 27,g l11 28,(.slice (some ⟨r6,0,none⟩) 1 1),g l11 30,g l11 31,g l11 32,g l11 33,g l11 34,g l11 35,g l11 36,g l11 37]),(.int .i64 1),(.slice (some ⟨r46,0,none⟩) 1 1)] [⟨r46,53,[(.int .i64 0),(.int .i64 6),(.int .i64 0),(.int .i64 0),(.int .i64 0)]⟩] [] .one fun l236 _ =>
 .pure [] .len [g l225 0] fun v237 =>
 .pure [] (.bin .gtr .int) [v237,(.int .i64 0)] fun v238 =>
 .pure [] (.bin .neq .bool) [g l236 0,v238] fun v239 =>
 .br v239 (
 .ret (.bool false) []) (
 .call false 9 [] [] [] .one fun l240 _ =>
 .ret (g l240 0) []))))) (
 .chk (.eqN r4 r4) <|
 .call false 16 [(.slice (some ⟨r0,0,none⟩) 2 2),(.agg #[g l11 0,g l11 1,g l11 2,g l11 3,g l11 4,g l11 5,v14,g l11 7,g l11 8,g l11 9,g l11 10,g l11 11,g l11 12,g l11 13,g l11 14,g l11 15,g l11 16,g l11 17,g l11 18,g l11 19,g l11 20,g l11 21,g l11 22,g l11 23,g l11 24,g l11 25,g l11 26,g l11 27,g l11 28,(.slice (some ⟨r6,0,none⟩) 1 1),g l11 30,g l11 31,g l11 32,g l11 33,g l11 34,g l11 35,g l11 36,g l11 37]),(.int .i64 0),(.int .i64 6)] [⟨r0,50,[(.string ⟨#[]⟩),g v 2,(.int .i64 0),(.int .i64 0),(.int .i64 0),(.int .i64 0),(.int .i64 0),(.int .i64 0),(.int .i64 0),(.int .i64 0),(.int .i64 0),g l6 1,(.slice none 0 0),(.int .i64 0),(.string ⟨#[]⟩),(.int .i64 3),(.int .i64 0),(.int .i64 0),(.int .i64 0),(.int .i64 0),(.int .i64 0),(.int .i64 0),(.int .i64 0),(.int .i64 0),(.int .i64 0),(.slice none 0 0),(.slice none 0 0),(.int .i64 0)]⟩,⟨r6,60,[(.int .i64 0),(.int .i64 1),(.int .i64 0),(.int .i64 (-1)),g l15 0]⟩] [] .one fun l241 _ =>
 .call false 15 [g l241 0,(.slice none 0 0)] [] [] .one fun l242 _ =>
 .pure [] .not [g l242 0] fun v243 =>
 .br v243 (
 .ret (.bool false) []) (
 .chk (.eqN r4 r4) <|
 .newbox fun r47 =>
 .call false 12 [(.slice (some ⟨r0,0,none⟩) 2 2),(.agg #[g l11 0,g l11 1,g l11 2,g l11 3,g l11 4,g l11 5,v14,g l11 7,g l11 8,g l11 9,g l11 10,g l11 11,g l11 12,g l11 13,g l11 14,g l11 15,g l11 16,g l11 17,g l11 18,g l11 19,g l11 20,g l11 21,g l11 22,g l11 23,g l11 24,g l11 25,g l11 26,g l11 27,g l11 28,(.slice (some ⟨r6,0,none⟩) 1 1),g l11 30,g l11 31,g l11 32,g l11 33,g l11 34,g l11 35,g l11 36,g l11 37]),(.int .i64 0),(.slice (some ⟨r47,0,none⟩) 1 1)] [⟨r47,53,[(.int .i64 0),(.int .i64 6),(.int .i64 0),(.int .i64 0),(.int .i64 0)]⟩] [] .one fun l244 _ =>
 .pure [] .len [(.slice none 0 0)] fun v245 =>
 .pure [] (.bin .gtr .int) [v245,(.int .i64 0)] fun v246 =>
 .pure [] (.bin .neq .bool) [g l244 0,v246] fun v247 =>
 .br v247 (
 .ret (.bool false) []) (
 .chk (.eqN r4 r4) <|
 .call false 16 [(.slice (some ⟨r0,0,none⟩) 2 2),(.agg #[g l11 0,g l11 1,g l11 2,g l11 3,g l11 4,g l11 5,v14,g l11 7,g l11 8,g l11 9,g l11 10,g l11 11,g l11 12,g l11 13,g l11 14,g l11 15,g l11 16,g l11 17,g l11 18,g l11 19,g l11 20,g l11 21,g l11 22,g l11 23,g l11 24,g l11 25,g l11 26,g l11 27,g l11 28,(.slice (some ⟨r6,0,none⟩) 1 1),g l11 30,g l11 31,g l11 32,g l11 33,g l11 34,g l11 35,g l11 36,g l11 37]),(.int .i64 1),(.int .i64 6)] [] [] .one fun l248 _ =>
 .call false 15 [g l248 0,(.slice none 0 0)] [] [] .one fun l249 _ =>
 .pure [] .not [g l249 0] fun v250 =>
 .br v250 (
 .ret (.bool false) []) (
 .chk (.eqN r4 r4) <|
 .newbox fun r48 =>
 .call false 12 [(.slice (some ⟨r0,0,none⟩) 2 2),(.agg #[g l11 0,g l11 1,g l11 2,g l11 3,g l11 4,g l11 5,v14,g l11 7,g l11 8,g l11 9,g l11 10,g l11 11,g l11 12,g l11 13,g l11 14,g l11 15,g l11 16,g l11 17,g l11 18,g l11 19,g l11 20,g l11 21,g l11 22,g l11 23,g l11 24,g l11 25,g l11 26,g l11 27,g l11 28,(.slice (some ⟨r6,0,none⟩) 1 1),g l11 30,g l11 31,g l11 32,g l11 33,g l11 34,g l11 35,g l11 36,g l11 37]),(.int .i64 1),(.slice (some ⟨r48,0,none⟩) 1 1)] [⟨r48,53,[(.int .i64 0),(.int .i64 6),(.int .i64 0),(.int .i64 0),(.int .i64 0)]⟩] [] .one fun l251 _ =>
 .pure [] .len [(.slice none 0 0)] fun v252 =>
 .pure [] (.bin .gtr .int) [v252,(.int .i64 0)] fun v253 =>
 .pure [] (.bin .neq .bool) [g l251 0,v253] fun v254 =>
 .br v254 (
 .ret (.bool false) []) (
 .call false 9 [] [] [] .one fun l255 _ =>
 .ret (g l255 0) [])))))))))
theorem T_waits_g_eq (vs : List Value) : sxFun PP Try.f4 (mkOpts okL [] [(5, .inv [10] [0, 1, 2, 3, 9] [(9, [11])]), (15, .unroll 6), (22, .unroll 3)] []) vs = T_waits_g vs := by kernel_rfl
theorem run_waits_g {args vs} (ha : entryArgs PP Try.f4 args = some vs) (ho : Ones vs) {H O Q} (h : (T_waits_g vs).den PP Q H O) : Triple PP F_zeitnotlaw16_TargetWaits args H O Q :=
 triple_run mixed (mkOpts_ok okL_ok _ _ _) Try.func4 T_waits_g_eq ha ho h
end Go.Proofs.Ytbaegnnmedjkmaa
