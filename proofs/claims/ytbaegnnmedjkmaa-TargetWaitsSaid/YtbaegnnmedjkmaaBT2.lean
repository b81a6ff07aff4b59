/- The trees of the functions of this seat: printed by a tool of mine; each by the kernel's reckoning equal to the evaluator's. -/
import Derived.Test.YtbaegnnmedjkmaaBT1
namespace Go.Proofs.Ytbaegnnmedjkmaa
open Go Go.Sx
set_option maxRecDepth 100000
abbrev F_board_fights : FuncId := 50
/- zeitnot/board.fights -/
def T_board_fights (v : List Value) : Tree :=
 .newbox fun r0 =>
 .chk (.eqN r0 r0) <|
 .sw (g v 34) 0 (
 .chk (.eqN r0 r0) <|
 .chk (.eqN r0 r0) <|
 .pure [] (.bin .sub .int) [(.int .i64 1),g v 34] fun v0 =>
 .sw v0 0 (
 .chk (.eqN r0 r0) <|
 .prim (.makeMap 127 false) [] [] [] .one fun l1 _ =>
 .chk (.eqN r0 r0) <|
 .pure [] .len [g v 31] fun v2 =>
 .loop 23 4 [(.int .i64 0)] fun C23 l3 =>
 .pure [] (.bin .lss .int) [g l3 0,v2] fun v4 =>
 .br v4 (
 .pure [] (.idx 1) [g v 31,g l3 0] fun v5 =>
 .load [] v5 1 fun l6 =>
 .prim (.lookup 127 false) [g l1 0,g l6 0] [] [] .one fun l7 _ =>
 .br (g l7 0) (
 .ret (.bool false) []) (
 .call false 75 [g v 8,g l6 0] [] [] .one fun l8 _ =>
 .pure [] .not [g l8 0] fun v9 =>
 .br v9 (
 .ret (.bool false) []) (
 .prim (.mapUpdate 127) [g l1 0,g l6 0,(.bool true)] [] [] .one fun l10 _ =>
 .pure [] (.bin .add .int) [g l3 0,(.int .i64 1)] fun v11 =>
 .cont 23 C23 [v11] [E [(.pointer (some ⟨r0,0,none⟩))],E [g v 8],E [g v 8],E [g l1 0],E [g v 31],E [v2],E [(.pointer (some ⟨r0,0,none⟩)),g v 0,g v 1,g v 2,g v 3,g v 4,g v 5,g v 6,g v 7,g v 8,g v 9,g v 10,g v 11,g v 12,g v 13,g v 14,g v 15,g v 16,g v 17,g v 18,g v 19,g v 20,g v 21,g v 22,g v 23,g v 24,g v 25,g v 26,g v 27,g v 28,g v 29,g v 30,g v 31,g v 32,g v 33,g v 34,g v 35,g v 36,g v 37]]))) (
 .chk (.eqN r0 r0) <|
 .pure [] .len [g v 32] fun v12 =>
 .loop 29 11 [(.int .i64 0)] fun C29 l13 =>
 .pure [] (.bin .lss .int) [g l13 0,v12] fun v14 =>
 .br v14 (
 .pure [] (.idx 2) [g v 32,g l13 0] fun v15 =>
 .load [] v15 2 fun l16 =>
 .newbox fun r1 =>
 .chk (.eqN r1 r1) <|
 .chk (.eqN r1 r1) <|
 .prim (.lookup 127 false) [g l1 0,g l16 1] [] [] .one fun l17 _ =>
 .pure [] .not [g l17 0] fun v18 =>
 .br v18 (
 .ret (.bool false) []) (
 .chk (.eqN r1 r1) <|
 .pure [] .neg [g l16 0] fun v19 =>
 .prim (.lookup 127 false) [g l1 0,v19] [] [] .one fun l20 _ =>
 .br (g l20 0) (
 .ret (.bool false) []) (
 .chk (.eqN r0 r0) <|
 .chk (.eqN r1 r1) <|
 .call false 75 [g v 31,g l16 1] [] [] .one fun l21 _ =>
 .pure [] .not [g l21 0] fun v22 =>
 .br v22 (
 .ret (.bool false) []) (
 .chk (.eqN r1 r1) <|
 .call false 75 [g v 8,g l16 0] [] [] .one fun l23 _ =>
 .pure [] .not [g l23 0] fun v24 =>
 .br v24 (
 .ret (.bool false) []) (
 .chk (.eqN r1 r1) <|
 .chk (.eqN r1 r1) <|
 .pure [] .neg [g l16 0] fun v25 =>
 .prim (.mapUpdate 127) [g l1 0,g l16 1,(.bool false)] [] [] .one fun l26 _ =>
 .prim (.mapUpdate 127) [g l1 0,v25,(.bool true)] [] [] .one fun l27 _ =>
 .pure [] (.bin .add .int) [g l13 0,(.int .i64 1)] fun v28 =>
 .cont 29 C29 [v28] [E [(.pointer (some ⟨r0,0,none⟩))],E [g v 8],E [g l1 0],E [g v 32],E [v12],E [(.pointer (some ⟨r0,0,none⟩)),g v 0,g v 1,g v 2,g v 3,g v 4,g v 5,g v 6,g v 7,g v 8,g v 9,g v 10,g v 11,g v 12,g v 13,g v 14,g v 15,g v 16,g v 17,g v 18,g v 19,g v 20,g v 21,g v 22,g v 23,g v 24,g v 25,g v 26,g v 27,g v 28,g v 29,g v 30,g v 31,g v 32,g v 33,g v 34,g v 35,g v 36,g v 37]]))))) (
 .ret (.bool true) []))) (
 .sw v0 1 (
 .chk (.eqN r0 r0) <|
 .prim (.makeMap 127 false) [] [] [] .one fun l29 _ =>
 .chk (.eqN r0 r0) <|
 .pure [] .len [g v 31] fun v30 =>
 .loop 23 4 [(.int .i64 0)] fun C23 l31 =>
 .pure [] (.bin .lss .int) [g l31 0,v30] fun v32 =>
 .br v32 (
 .pure [] (.idx 1) [g v 31,g l31 0] fun v33 =>
 .load [] v33 1 fun l34 =>
 .prim (.lookup 127 false) [g l29 0,g l34 0] [] [] .one fun l35 _ =>
 .br (g l35 0) (
 .ret (.bool false) []) (
 .call false 75 [g v 8,g l34 0] [] [] .one fun l36 _ =>
 .pure [] .not [g l36 0] fun v37 =>
 .br v37 (
 .ret (.bool false) []) (
 .prim (.mapUpdate 127) [g l29 0,g l34 0,(.bool true)] [] [] .one fun l38 _ =>
 .pure [] (.bin .add .int) [g l31 0,(.int .i64 1)] fun v39 =>
 .cont 23 C23 [v39] [E [(.pointer (some ⟨r0,0,none⟩))],E [g v 8],E [g v 22],E [g l29 0],E [g v 31],E [v30],E [(.pointer (some ⟨r0,0,none⟩)),g v 0,g v 1,g v 2,g v 3,g v 4,g v 5,g v 6,g v 7,g v 8,g v 9,g v 10,g v 11,g v 12,g v 13,g v 14,g v 15,g v 16,g v 17,g v 18,g v 19,g v 20,g v 21,g v 22,g v 23,g v 24,g v 25,g v 26,g v 27,g v 28,g v 29,g v 30,g v 31,g v 32,g v 33,g v 34,g v 35,g v 36,g v 37]]))) (
 .chk (.eqN r0 r0) <|
 .pure [] .len [g v 32] fun v40 =>
 .loop 29 11 [(.int .i64 0)] fun C29 l41 =>
 .pure [] (.bin .lss .int) [g l41 0,v40] fun v42 =>
 .br v42 (
 .pure [] (.idx 2) [g v 32,g l41 0] fun v43 =>
 .load [] v43 2 fun l44 =>
 .newbox fun r2 =>
 .chk (.eqN r2 r2) <|
 .chk (.eqN r2 r2) <|
 .prim (.lookup 127 false) [g l29 0,g l44 1] [] [] .one fun l45 _ =>
 .pure [] .not [g l45 0] fun v46 =>
 .br v46 (
 .ret (.bool false) []) (
 .chk (.eqN r2 r2) <|
 .pure [] .neg [g l44 0] fun v47 =>
 .prim (.lookup 127 false) [g l29 0,v47] [] [] .one fun l48 _ =>
 .br (g l48 0) (
 .ret (.bool false) []) (
 .chk (.eqN r0 r0) <|
 .chk (.eqN r2 r2) <|
 .call false 75 [g v 31,g l44 1] [] [] .one fun l49 _ =>
 .pure [] .not [g l49 0] fun v50 =>
 .br v50 (
 .ret (.bool false) []) (
 .chk (.eqN r2 r2) <|
 .call false 75 [g v 22,g l44 0] [] [] .one fun l51 _ =>
 .pure [] .not [g l51 0] fun v52 =>
 .br v52 (
 .ret (.bool false) []) (
 .chk (.eqN r2 r2) <|
 .chk (.eqN r2 r2) <|
 .pure [] .neg [g l44 0] fun v53 =>
 .prim (.mapUpdate 127) [g l29 0,g l44 1,(.bool false)] [] [] .one fun l54 _ =>
 .prim (.mapUpdate 127) [g l29 0,v53,(.bool true)] [] [] .one fun l55 _ =>
 .pure [] (.bin .add .int) [g l41 0,(.int .i64 1)] fun v56 =>
 .cont 29 C29 [v56] [E [(.pointer (some ⟨r0,0,none⟩))],E [g v 22],E [g l29 0],E [g v 32],E [v40],E [(.pointer (some ⟨r0,0,none⟩)),g v 0,g v 1,g v 2,g v 3,g v 4,g v 5,g v 6,g v 7,g v 8,g v 9,g v 10,g v 11,g v 12,g v 13,g v 14,g v 15,g v 16,g v 17,g v 18,g v 19,g v 20,g v 21,g v 22,g v 23,g v 24,g v 25,g v 26,g v 27,g v 28,g v 29,g v 30,g v 31,g v 32,g v 33,g v 34,g v 35,g v 36,g v 37]]))))) (
 .ret (.bool true) []))) (
 .stuck 901))) (
 .sw (g v 34) 1 (
 .chk (.eqN r0 r0) <|
 .chk (.eqN r0 r0) <|
 .pure [] (.bin .sub .int) [(.int .i64 1),g v 34] fun v57 =>
 .sw v57 0 (
 .chk (.eqN r0 r0) <|
 .prim (.makeMap 127 false) [] [] [] .one fun l58 _ =>
 .chk (.eqN r0 r0) <|
 .pure [] .len [g v 31] fun v59 =>
 .loop 23 4 [(.int .i64 0)] fun C23 l60 =>
 .pure [] (.bin .lss .int) [g l60 0,v59] fun v61 =>
 .br v61 (
 .pure [] (.idx 1) [g v 31,g l60 0] fun v62 =>
 .load [] v62 1 fun l63 =>
 .prim (.lookup 127 false) [g l58 0,g l63 0] [] [] .one fun l64 _ =>
 .br (g l64 0) (
 .ret (.bool false) []) (
 .call false 75 [g v 22,g l63 0] [] [] .one fun l65 _ =>
 .pure [] .not [g l65 0] fun v66 =>
 .br v66 (
 .ret (.bool false) []) (
 .prim (.mapUpdate 127) [g l58 0,g l63 0,(.bool true)] [] [] .one fun l67 _ =>
 .pure [] (.bin .add .int) [g l60 0,(.int .i64 1)] fun v68 =>
 .cont 23 C23 [v68] [E [(.pointer (some ⟨r0,0,none⟩))],E [g v 22],E [g v 8],E [g l58 0],E [g v 31],E [v59],E [(.pointer (some ⟨r0,0,none⟩)),g v 0,g v 1,g v 2,g v 3,g v 4,g v 5,g v 6,g v 7,g v 8,g v 9,g v 10,g v 11,g v 12,g v 13,g v 14,g v 15,g v 16,g v 17,g v 18,g v 19,g v 20,g v 21,g v 22,g v 23,g v 24,g v 25,g v 26,g v 27,g v 28,g v 29,g v 30,g v 31,g v 32,g v 33,g v 34,g v 35,g v 36,g v 37]]))) (
 .chk (.eqN r0 r0) <|
 .pure [] .len [g v 32] fun v69 =>
 .loop 29 11 [(.int .i64 0)] fun C29 l70 =>
 .pure [] (.bin .lss .int) [g l70 0,v69] fun v71 =>
 .br v71 (
 .pure [] (.idx 2) [g v 32,g l70 0] fun v72 =>
 .load [] v72 2 fun l73 =>
 .newbox fun r3 =>
 .chk (.eqN r3 r3) <|
 .chk (.eqN r3 r3) <|
 .prim (.lookup 127 false) [g l58 0,g l73 1] [] [] .one fun l74 _ =>
 .pure [] .not [g l74 0] fun v75 =>
 .br v75 (
 .ret (.bool false) []) (
 .chk (.eqN r3 r3) <|
 .pure [] .neg [g l73 0] fun v76 =>
 .prim (.lookup 127 false) [g l58 0,v76] [] [] .one fun l77 _ =>
 .br (g l77 0) (
 .ret (.bool false) []) (
 .chk (.eqN r0 r0) <|
 .chk (.eqN r3 r3) <|
 .call false 75 [g v 31,g l73 1] [] [] .one fun l78 _ =>
 .pure [] .not [g l78 0] fun v79 =>
 .br v79 (
 .ret (.bool false) []) (
 .chk (.eqN r3 r3) <|
 .call false 75 [g v 8,g l73 0] [] [] .one fun l80 _ =>
 .pure [] .not [g l80 0] fun v81 =>
 .br v81 (
 .ret (.bool false) []) (
 .chk (.eqN r3 r3) <|
 .chk (.eqN r3 r3) <|
 .pure [] .neg [g l73 0] fun v82 =>
 .prim (.mapUpdate 127) [g l58 0,g l73 1,(.bool false)] [] [] .one fun l83 _ =>
 .prim (.mapUpdate 127) [g l58 0,v82,(.bool true)] [] [] .one fun l84 _ =>
 .pure [] (.bin .add .int) [g l70 0,(.int .i64 1)] fun v85 =>
 .cont 29 C29 [v85] [E [(.pointer (some ⟨r0,0,none⟩))],E [g v 8],E [g l58 0],E [g v 32],E [v69],E [(.pointer (some ⟨r0,0,none⟩)),g v 0,g v 1,g v 2,g v 3,g v 4,g v 5,g v 6,g v 7,g v 8,g v 9,g v 10,g v 11,g v 12,g v 13,g v 14,g v 15,g v 16,g v 17,g v 18,g v 19,g v 20,g v 21,g v 22,g v 23,g v 24,g v 25,g v 26,g v 27,g v 28,g v 29,g v 30,g v 31,g v 32,g v 33,g v 34,g v 35,g v 36,g v 37]]))))) (
 .ret (.bool true) []))) (
 .sw v57 1 (
 .chk (.eqN r0 r0) <|
 .prim (.makeMap 127 false) [] [] [] .one fun l86 _ =>
 .chk (.eqN r0 r0) <|
 .pure [] .len [g v 31] fun v87 =>
 .loop 23 4 [(.int .i64 0)] fun C23 l88 =>
 .pure [] (.bin .lss .int) [g l88 0,v87] fun v89 =>
 .br v89 (
 .pure [] (.idx 1) [g v 31,g l88 0] fun v90 =>
 .load [] v90 1 fun l91 =>
 .prim (.lookup 127 false) [g l86 0,g l91 0] [] [] .one fun l92 _ =>
 .br (g l92 0) (
 .ret (.bool false) []) (
 .call false 75 [g v 22,g l91 0] [] [] .one fun l93 _ =>
 .pure [] .not [g l93 0] fun v94 =>
 .br v94 (
 .ret (.bool false) []) (
 .prim (.mapUpdate 127) [g l86 0,g l91 0,(.bool true)] [] [] .one fun l95 _ =>
 .pure [] (.bin .add .int) [g l88 0,(.int .i64 1)] fun v96 =>
 .cont 23 C23 [v96] [E [(.pointer (some ⟨r0,0,none⟩))],E [g v 22],E [g v 22],E [g l86 0],E [g v 31],E [v87],E [(.pointer (some ⟨r0,0,none⟩)),g v 0,g v 1,g v 2,g v 3,g v 4,g v 5,g v 6,g v 7,g v 8,g v 9,g v 10,g v 11,g v 12,g v 13,g v 14,g v 15,g v 16,g v 17,g v 18,g v 19,g v 20,g v 21,g v 22,g v 23,g v 24,g v 25,g v 26,g v 27,g v 28,g v 29,g v 30,g v 31,g v 32,g v 33,g v 34,g v 35,g v 36,g v 37]]))) (
 .chk (.eqN r0 r0) <|
 .pure [] .len [g v 32] fun v97 =>
 .loop 29 11 [(.int .i64 0)] fun C29 l98 =>
 .pure [] (.bin .lss .int) [g l98 0,v97] fun v99 =>
 .br v99 (
 .pure [] (.idx 2) [g v 32,g l98 0] fun v100 =>
 .load [] v100 2 fun l101 =>
 .newbox fun r4 =>
 .chk (.eqN r4 r4) <|
 .chk (.eqN r4 r4) <|
 .prim (.lookup 127 false) [g l86 0,g l101 1] [] [] .one fun l102 _ =>
 .pure [] .not [g l102 0] fun v103 =>
 .br v103 (
 .ret (.bool false) []) (
 .chk (.eqN r4 r4) <|
 .pure [] .neg [g l101 0] fun v104 =>
 .prim (.lookup 127 false) [g l86 0,v104] [] [] .one fun l105 _ =>
 .br (g l105 0) (
 .ret (.bool false) []) (
 .chk (.eqN r0 r0) <|
 .chk (.eqN r4 r4) <|
 .call false 75 [g v 31,g l101 1] [] [] .one fun l106 _ =>
 .pure [] .not [g l106 0] fun v107 =>
 .br v107 (
 .ret (.bool false) []) (
 .chk (.eqN r4 r4) <|
 .call false 75 [g v 22,g l101 0] [] [] .one fun l108 _ =>
 .pure [] .not [g l108 0] fun v109 =>
 .br v109 (
 .ret (.bool false) []) (
 .chk (.eqN r4 r4) <|
 .chk (.eqN r4 r4) <|
 .pure [] .neg [g l101 0] fun v110 =>
 .prim (.mapUpdate 127) [g l86 0,g l101 1,(.bool false)] [] [] .one fun l111 _ =>
 .prim (.mapUpdate 127) [g l86 0,v110,(.bool true)] [] [] .one fun l112 _ =>
 .pure [] (.bin .add .int) [g l98 0,(.int .i64 1)] fun v113 =>
 .cont 29 C29 [v113] [E [(.pointer (some ⟨r0,0,none⟩))],E [g v 22],E [g l86 0],E [g v 32],E [v97],E [(.pointer (some ⟨r0,0,none⟩)),g v 0,g v 1,g v 2,g v 3,g v 4,g v 5,g v 6,g v 7,g v 8,g v 9,g v 10,g v 11,g v 12,g v 13,g v 14,g v 15,g v 16,g v 17,g v 18,g v 19,g v 20,g v 21,g v 22,g v 23,g v 24,g v 25,g v 26,g v 27,g v 28,g v 29,g v 30,g v 31,g v 32,g v 33,g v 34,g v 35,g v 36,g v 37]]))))) (
 .ret (.bool true) []))) (
 .stuck 901))) (
 .stuck 901))
theorem T_board_fights_eq (vs : List Value) : sxFun PP Try.f50 (mkOpts okL [(73, [5, 6, 7, 8])] [(4, .inv [27] [1, 3, 4, 5, 25, 26] [(1, [])]), (11, .inv [46] [1, 4, 5, 44, 45] [(1, [])])] []) vs = T_board_fights vs := by kernel_rfl
theorem run_board_fights {args vs} (ha : entryArgs PP Try.f50 args = some vs) (ho : Ones vs) {H O Q} (h : (T_board_fights vs).den PP Q H O) : Triple PP F_board_fights args H O Q :=
 triple_run mixed (mkOpts_ok okL_ok _ _ _) Try.func50 T_board_fights_eq ha ho h
abbrev F_slices_IndexFunc_api_TargetKind_api_TargetKind : FuncId := 51
/- slices.IndexFunc[[]zeitnot/api.TargetKind,zeitnot/api.TargetKind] -/
def T_slices_IndexFunc_api_TargetKind_api_TargetKind (v : List Value) : Tree :=
 .pure [] .len [g v 0] fun v0 =>
 .loop 4 2 [(.int .i64 0)] fun C4 l1 =>
 .pure [] (.bin .lss .int) [g l1 0,v0] fun v2 =>
 .br v2 (
 .pure [] (.idx 1) [g v 0,g l1 0] fun v3 =>
 .load [] v3 1 fun l4 =>
 .callv false (g v 1) [g l4 0] [] [] .one fun l5 _ =>
 .br (g l5 0) (
 .ret (g l1 0) []) (
 .pure [] (.bin .add .int) [g l1 0,(.int .i64 1)] fun v6 =>
 .cont 4 C4 [v6] [E [g v 0],E [g v 1],E [v0]])) (
 .ret (.int .i64 (-1)) [])
theorem T_slices_IndexFunc_api_TargetKind_api_TargetKind_eq (vs : List Value) : sxFun PP Try.f51 (mkOpts okL [(73, [5, 6, 7, 8])] [(2, .inv [8] [0, 1, 7] [])] []) vs = T_slices_IndexFunc_api_TargetKind_api_TargetKind vs := by kernel_rfl
theorem run_slices_IndexFunc_api_TargetKind_api_TargetKind {args vs} (ha : entryArgs PP Try.f51 args = some vs) (ho : Ones vs) {H O Q} (h : (T_slices_IndexFunc_api_TargetKind_api_TargetKind vs).den PP Q H O) : Triple PP F_slices_IndexFunc_api_TargetKind_api_TargetKind args H O Q :=
 triple_run mixed (mkOpts_ok okL_ok _ _ _) Try.func51 T_slices_IndexFunc_api_TargetKind_api_TargetKind_eq ha ho h
abbrev F_board_Creatures : FuncId := 55
/- zeitnot/board.Creatures -/
def T_board_Creatures (v : List Value) : Tree :=
 .newbox fun r0 =>
 .call false 43 [g v 39,(.int .i64 0),(.int .i64 1)] [] [] .one fun l0 _ =>
 .pure [] .not [g l0 0] fun v1 =>
 .br v1 (
 .ret (.slice none 0 0) []) (
 .chk (.eqN r0 r0) <|
 .call false 26 [(.agg #[g v 1,g v 2,g v 3,g v 4,g v 5,g v 6,g v 7,g v 8,g v 9,g v 10,g v 11,g v 12,g v 13,g v 14,g v 15,g v 16,g v 17,g v 18,g v 19,g v 20,g v 21,g v 22,g v 23,g v 24,g v 25,g v 26,g v 27,g v 28,g v 29,g v 30,g v 31,g v 32,g v 33,g v 34,g v 35,g v 36,g v 37,g v 38])] [] [] .one fun l2 _ =>
 .pure [] .not [g l2 0] fun v3 =>
 .br v3 (
 .ret (.slice none 0 0) []) (
 .chk (.eqN r0 r0) <|
 .pure [] .len [g v 1] fun v4 =>
 .loop 15 5 [(.slice none 0 0),(.int .i64 0)] fun C15 l5 =>
 .pure [] (.bin .lss .int) [g l5 1,v4] fun v6 =>
 .br v6 (
 .pure [] (.idx 12) [g v 1,g l5 1] fun v7 =>
 .load [] v7 12 fun l8 =>
 .newbox fun r1 =>
 .chk (.eqN r1 r1) <|
 .chk (.eqN r1 r1) <|
 .pure [] (.bin .eql .int) [g l8 2,g v 39] fun v9 =>
 .br v9 (
 .chk (.eqN r1 r1) <|
 .call false 79 [g v 0,(.agg #[g l8 0,g l8 1,g l8 2,g l8 3,g l8 4,g l8 5,g l8 6,g l8 7,g l8 8,g l8 9,g l8 10,g l8 11])] [] [] .one fun l10 _ =>
 .br (g l10 0) (
 .sw (g v 39) 0 (
 .chk (.eqN r0 r0) <|
 .chk (.eqN r1 r1) <|
 .call false 75 [g v 9,g l8 0] [] [] .one fun l11 _ =>
 .br (g l11 0) (
 .chk (.eqN r1 r1) <|
 .newbox fun r2 =>
 .prim (.bi .append #[26,26] 26) [g l5 0,(.slice (some ⟨r2,0,none⟩) 1 1)] [⟨r2,3,[g l8 0]⟩] [] .one fun l12 _ =>
 .pure [] (.bin .add .int) [g l5 1,(.int .i64 1)] fun v13 =>
 .cont 15 C15 [g l12 0,v13] [E [g v 0],E [g v 39],E [(.pointer (some ⟨r0,0,none⟩))],E [g v 1],E [v4],E [(.pointer (some ⟨r0,0,none⟩)),g v 1,g v 2,g v 3,g v 4,g v 5,g v 6,g v 7,g v 8,g v 9,g v 10,g v 11,g v 12,g v 13,g v 14,g v 15,g v 16,g v 17,g v 18,g v 19,g v 20,g v 21,g v 22,g v 23,g v 24,g v 25,g v 26,g v 27,g v 28,g v 29,g v 30,g v 31,g v 32,g v 33,g v 34,g v 35,g v 36,g v 37,g v 38]]) (
 .pure [] (.bin .add .int) [g l5 1,(.int .i64 1)] fun v14 =>
 .cont 15 C15 [g l5 0,v14] [E [g v 0],E [g v 39],E [(.pointer (some ⟨r0,0,none⟩))],E [g v 1],E [v4],E [(.pointer (some ⟨r0,0,none⟩)),g v 1,g v 2,g v 3,g v 4,g v 5,g v 6,g v 7,g v 8,g v 9,g v 10,g v 11,g v 12,g v 13,g v 14,g v 15,g v 16,g v 17,g v 18,g v 19,g v 20,g v 21,g v 22,g v 23,g v 24,g v 25,g v 26,g v 27,g v 28,g v 29,g v 30,g v 31,g v 32,g v 33,g v 34,g v 35,g v 36,g v 37,g v 38]])) (
 .sw (g v 39) 1 (
 .chk (.eqN r0 r0) <|
 .chk (.eqN r1 r1) <|
 .call false 75 [g v 23,g l8 0] [] [] .one fun l15 _ =>
 .br (g l15 0) (
 .chk (.eqN r1 r1) <|
 .newbox fun r3 =>
 .prim (.bi .append #[26,26] 26) [g l5 0,(.slice (some ⟨r3,0,none⟩) 1 1)] [⟨r3,3,[g l8 0]⟩] [] .one fun l16 _ =>
 .pure [] (.bin .add .int) [g l5 1,(.int .i64 1)] fun v17 =>
 .cont 15 C15 [g l16 0,v17] [E [g v 0],E [g v 39],E [(.pointer (some ⟨r0,0,none⟩))],E [g v 1],E [v4],E [(.pointer (some ⟨r0,0,none⟩)),g v 1,g v 2,g v 3,g v 4,g v 5,g v 6,g v 7,g v 8,g v 9,g v 10,g v 11,g v 12,g v 13,g v 14,g v 15,g v 16,g v 17,g v 18,g v 19,g v 20,g v 21,g v 22,g v 23,g v 24,g v 25,g v 26,g v 27,g v 28,g v 29,g v 30,g v 31,g v 32,g v 33,g v 34,g v 35,g v 36,g v 37,g v 38]]) (
 .pure [] (.bin .add .int) [g l5 1,(.int .i64 1)] fun v18 =>
 .cont 15 C15 [g l5 0,v18] [E [g v 0],E [g v 39],E [(.pointer (some ⟨r0,0,none⟩))],E [g v 1],E [v4],E [(.pointer (some ⟨r0,0,none⟩)),g v 1,g v 2,g v 3,g v 4,g v 5,g v 6,g v 7,g v 8,g v 9,g v 10,g v 11,g v 12,g v 13,g v 14,g v 15,g v 16,g v 17,g v 18,g v 19,g v 20,g v 21,g v 22,g v 23,g v 24,g v 25,g v 26,g v 27,g v 28,g v 29,g v 30,g v 31,g v 32,g v 33,g v 34,g v 35,g v 36,g v 37,g v 38]])) (
 .stuck 901))) (
 .pure [] (.bin .add .int) [g l5 1,(.int .i64 1)] fun v19 =>
 .cont 15 C15 [g l5 0,v19] [E [g v 0],E [g v 39],E [(.pointer (some ⟨r0,0,none⟩))],E [g v 1],E [v4],E [(.pointer (some ⟨r0,0,none⟩)),g v 1,g v 2,g v 3,g v 4,g v 5,g v 6,g v 7,g v 8,g v 9,g v 10,g v 11,g v 12,g v 13,g v 14,g v 15,g v 16,g v 17,g v 18,g v 19,g v 20,g v 21,g v 22,g v 23,g v 24,g v 25,g v 26,g v 27,g v 28,g v 29,g v 30,g v 31,g v 32,g v 33,g v 34,g v 35,g v 36,g v 37,g v 38]])) (
 .pure [] (.bin .add .int) [g l5 1,(.int .i64 1)] fun v20 =>
 .cont 15 C15 [g l5 0,v20] [E [g v 0],E [g v 39],E [(.pointer (some ⟨r0,0,none⟩))],E [g v 1],E [v4],E [(.pointer (some ⟨r0,0,none⟩)),g v 1,g v 2,g v 3,g v 4,g v 5,g v 6,g v 7,g v 8,g v 9,g v 10,g v 11,g v 12,g v 13,g v 14,g v 15,g v 16,g v 17,g v 18,g v 19,g v 20,g v 21,g v 22,g v 23,g v 24,g v 25,g v 26,g v 27,g v 28,g v 29,g v 30,g v 31,g v 32,g v 33,g v 34,g v 35,g v 36,g v 37,g v 38]])) (
 .ret (g l5 0) [])))
theorem T_board_Creatures_eq (vs : List Value) : sxFun PP Try.f55 (mkOpts okL [(73, [5, 6, 7, 8])] [(5, .inv [7, 21] [0, 2, 4, 19, 20] [(4, [])])] []) vs = T_board_Creatures vs := by kernel_rfl
theorem run_board_Creatures {args vs} (ha : entryArgs PP Try.f55 args = some vs) (ho : Ones vs) {H O Q} (h : (T_board_Creatures vs).den PP Q H O) : Triple PP F_board_Creatures args H O Q :=
 triple_run mixed (mkOpts_ok okL_ok _ _ _) Try.func55 T_board_Creatures_eq ha ho h
abbrev F_target_spell : FuncId := 56
/- zeitnot/target.spell -/
def T_target_spell (v : List Value) : Tree :=
 .newbox fun r0 =>
 .chk (.eqN r0 r0) <|
 .call false 80 [g v 0,(.agg #[(.int .i64 0),g v 3,(.int .i64 0),(.int .i64 0),(.int .i64 0),(.int .i64 0),(.int .i64 0),(.int .i64 0),(.int .i64 0),(.bool false),(.bool false),(.bool false)])] [] [] (.agg 14) fun l0 _ =>
 .newbox fun r1 =>
 .chk (.eqN r1 r1) <|
 .chk (.eqN r1 r1) <|
 .pure [] (.bin .eql .int) [g l0 1,(.int .i64 3)] fun v1 =>
 .chk (.eqN r1 r1) <|
 .chk (.eqV v1 v1) <|
 .chk (.eqV v1 v1) <|
 .pure [] (.bin .eql .int) [g l0 1,(.int .i64 4)] fun v2 =>
 .chk (.eqV v1 v1) <|
 .pure [] .pick [v1,(.bool true),v2] fun v3 =>
 .chk (.eqN r0 r0) <|
 .chk (.eqV v3 v3) <|
 .chk (.eqV v3 v3) <|
 .pure [] (.bin .lss .int) [g v 4,(.int .i64 0)] fun v4 =>
 .chk (.eqV v3 v3) <|
 .pure [] .pick [v3,v4,(.bool false)] fun v5 =>
 .br v5 (
 .chk (.eqN r0 r0) <|
 .pure [] .len [g v 5] fun v6 =>
 .chk (.eqN r1 r1) <|
 .call false 81 [g l0 11] [] [] .one fun l7 _ =>
 .pure [] (.bin .geq .int) [v6,g l7 0] fun v8 =>
 .ret v8 []) (
 .ret (.bool false) [])
theorem T_target_spell_eq (vs : List Value) : sxFun PP Try.f56 (mkOpts okL [(73, [5, 6, 7, 8])] [] []) vs = T_target_spell vs := by kernel_rfl
theorem run_target_spell {args vs} (ha : entryArgs PP Try.f56 args = some vs) (ho : Ones vs) {H O Q} (h : (T_target_spell vs).den PP Q H O) : Triple PP F_target_spell args H O Q :=
 triple_run mixed (mkOpts_ok okL_ok _ _ _) Try.func56 T_target_spell_eq ha ho h
abbrev F_mana_within : FuncId := 67
/- zeitnot/mana.within -/
def T_mana_within (v : List Value) : Tree :=
 .newbox fun r0 =>
 .chk (.eqN r0 r0) <|
 .loop 4 2 [(.int .i64 0)] fun C4 l0 =>
 .pure [] (.bin .lss .int) [g l0 0,(.int .i64 4)] fun v1 =>
 .br v1 (
 .pure [] .aidx [g l0 0,g v 0,g v 1,g v 2,g v 3] fun v2 =>
 .pure [] (.bin .lss .int) [v2,(.int .i64 0)] fun v3 =>
 .chk (.eqV v3 v3) <|
 .chk (.eqV v3 v3) <|
 .pure [] (.bin .gtr .int) [v2,g v 4] fun v4 =>
 .chk (.eqV v3 v3) <|
 .pure [] .pick [v3,(.bool true),v4] fun v5 =>
 .br v5 (
 .ret (.bool false) []) (
 .pure [] (.bin .add .int) [g l0 0,(.int .i64 1)] fun v6 =>
 .cont 4 C4 [v6] [E [g v 4],E [g v 0,g v 1,g v 2,g v 3]])) (
 .ret (.bool true) [])
theorem T_mana_within_eq (vs : List Value) : sxFun PP Try.f67 (mkOpts okL [(73, [5, 6, 7, 8])] [(2, .inv [8] [1, 7] [])] []) vs = T_mana_within vs := by kernel_rfl
theorem run_mana_within {args vs} (ha : entryArgs PP Try.f67 args = some vs) (ho : Ones vs) {H O Q} (h : (T_mana_within vs).den PP Q H O) : Triple PP F_mana_within args H O Q :=
 triple_run mixed (mkOpts_ok okL_ok _ _ _) Try.func67 T_mana_within_eq ha ho h
abbrev F_slices_IndexFunc_api_Item_api_Item : FuncId := 68
/- slices.IndexFunc[[]zeitnot/api.Item,zeitnot/api.Item] -/
def T_slices_IndexFunc_api_Item_api_Item (v : List Value) : Tree :=
 .pure [] .len [g v 0] fun v0 =>
 .loop 4 2 [(.int .i64 0)] fun C4 l1 =>
 .pure [] (.bin .lss .int) [g l1 0,v0] fun v2 =>
 .br v2 (
 .pure [] (.idx 5) [g v 0,g l1 0] fun v3 =>
 .load [] v3 5 fun l4 =>
 .callv false (g v 1) [(.agg #[g l4 0,g l4 1,g l4 2,g l4 3,g l4 4])] [] [] .one fun l5 _ =>
 .br (g l5 0) (
 .ret (g l1 0) []) (
 .pure [] (.bin .add .int) [g l1 0,(.int .i64 1)] fun v6 =>
 .cont 4 C4 [v6] [E [g v 0],E [g v 1],E [v0]])) (
 .ret (.int .i64 (-1)) [])
theorem T_slices_IndexFunc_api_Item_api_Item_eq (vs : List Value) : sxFun PP Try.f68 (mkOpts okL [(73, [5, 6, 7, 8])] [(2, .inv [8] [0, 1, 7] [])] []) vs = T_slices_IndexFunc_api_Item_api_Item vs := by kernel_rfl
theorem run_slices_IndexFunc_api_Item_api_Item {args vs} (ha : entryArgs PP Try.f68 args = some vs) (ho : Ones vs) {H O Q} (h : (T_slices_IndexFunc_api_Item_api_Item vs).den PP Q H O) : Triple PP F_slices_IndexFunc_api_Item_api_Item args H O Q :=
 triple_run mixed (mkOpts_ok okL_ok _ _ _) Try.func68 T_slices_IndexFunc_api_Item_api_Item_eq ha ho h
abbrev F_slices_ContainsFunc_api_Target_api_Target : FuncId := 69
/- slices.ContainsFunc[[]zeitnot/api.Target,zeitnot/api.Target] -/
def T_slices_ContainsFunc_api_Target_api_Target (v : List Value) : Tree :=
 .call false 83 [g v 0,g v 1] [] [] .one fun l0 _ =>
 .pure [] (.bin .geq .int) [g l0 0,(.int .i64 0)] fun v1 =>
 .ret v1 []
theorem T_slices_ContainsFunc_api_Target_api_Target_eq (vs : List Value) : sxFun PP Try.f69 (mkOpts okL [(73, [5, 6, 7, 8])] [] []) vs = T_slices_ContainsFunc_api_Target_api_Target vs := by kernel_rfl
theorem run_slices_ContainsFunc_api_Target_api_Target {args vs} (ha : entryArgs PP Try.f69 args = some vs) (ho : Ones vs) {H O Q} (h : (T_slices_ContainsFunc_api_Target_api_Target vs).den PP Q H O) : Triple PP F_slices_ContainsFunc_api_Target_api_Target args H O Q :=
 triple_run mixed (mkOpts_ok okL_ok _ _ _) Try.func69 T_slices_ContainsFunc_api_Target_api_Target_eq ha ho h
abbrev F_board_fine_1 : FuncId := 70
/- zeitnot/board.fine$1 -/
def T_board_fine_1 (v : List Value) : Tree :=
 .newbox fun r0 =>
 .chk (.eqN r0 r0) <|
 .call false 71 [(.agg #[g v 0,g v 1])] [] [] .one fun l0 _ =>
 .pure [] .not [g l0 0] fun v1 =>
 .ret v1 []
theorem T_board_fine_1_eq (vs : List Value) : sxFun PP Try.f70 (mkOpts okL [(73, [5, 6, 7, 8])] [] []) vs = T_board_fine_1 vs := by kernel_rfl
theorem run_board_fine_1 {args vs} (ha : entryArgs PP Try.f70 args = some vs) (ho : Ones vs) {H O Q} (h : (T_board_fine_1 vs).den PP Q H O) : Triple PP F_board_fine_1 args H O Q :=
 triple_run mixed (mkOpts_ok okL_ok _ _ _) Try.func70 T_board_fine_1_eq ha ho h
abbrev F_board_aimed : FuncId := 71
/- zeitnot/board.aimed -/
def T_board_aimed (v : List Value) : Tree :=
 .newbox fun r0 =>
 .chk (.eqN r0 r0) <|
 .call false 43 [g v 0,(.int .i64 0),(.int .i64 500)] [] [] .one fun l0 _ =>
 .br (g l0 0) (
 .chk (.eqN r0 r0) <|
 .call false 43 [g v 1,(.int .i64 0),(.int .i64 1)] [] [] .one fun l1 _ =>
 .chk (.eqN r0 r0) <|
 .chk (.eqV (g l1 0) (g l1 0)) <|
 .chk (.eqV (g l1 0) (g l1 0)) <|
 .pure [] (.bin .eql .int) [g v 0,(.int .i64 0)] fun v2 =>
 .chk (.eqV (g l1 0) (g l1 0)) <|
 .chk (.eqN r0 r0) <|
 .chk (.eqV v2 v2) <|
 .chk (.eqV (g l1 0) (g l1 0)) <|
 .chk (.eqV v2 v2) <|
 .chk (.eqV (g l1 0) (g l1 0)) <|
 .pure [] (.bin .eql .int) [g v 1,(.int .i64 0)] fun v3 =>
 .chk (.eqV (g l1 0) (g l1 0)) <|
 .chk (.eqV v2 v2) <|
 .chk (.eqV (g l1 0) (g l1 0)) <|
 .pure [] .pick [v2,(.bool true),v3] fun v4 =>
 .chk (.eqV (g l1 0) (g l1 0)) <|
 .pure [] .pick [g l1 0,v4,(.bool false)] fun v5 =>
 .ret v5 []) (
 .ret (.bool false) [])
theorem T_board_aimed_eq (vs : List Value) : sxFun PP Try.f71 (mkOpts okL [(73, [5, 6, 7, 8])] [] []) vs = T_board_aimed vs := by kernel_rfl
theorem run_board_aimed {args vs} (ha : entryArgs PP Try.f71 args = some vs) (ho : Ones vs) {H O Q} (h : (T_board_aimed vs).den PP Q H O) : Triple PP F_board_aimed args H O Q :=
 triple_run mixed (mkOpts_ok okL_ok _ _ _) Try.func71 T_board_aimed_eq ha ho h
abbrev F_board_placed_1 : FuncId := 72
/- zeitnot/board.placed$1 -/
def T_board_placed_1 (v : List Value) : Tree :=
 .load [] (g v 2) 1 fun l0 =>
 .prim (.lookup 121 true) [g l0 0,g v 0] [] [] (.tup [none,none]) fun l1 _ =>
 .load [] (g v 2) 1 fun l2 =>
 .prim (.mapUpdate 121) [g l2 0,g v 0,g v 1] [] [] .one fun l3 _ =>
 .pure [] .not [g l1 1] fun v4 =>
 .ret v4 []
theorem T_board_placed_1_eq (vs : List Value) : sxFun PP Try.f72 (mkOpts okL [(73, [5, 6, 7, 8])] [] []) vs = T_board_placed_1 vs := by kernel_rfl
theorem run_board_placed_1 {args vs} (ha : entryArgs PP Try.f72 args = some vs) (ho : Ones vs) {H O Q} (h : (T_board_placed_1 vs).den PP Q H O) : Triple PP F_board_placed_1 args H O Q :=
 triple_run mixed (mkOpts_ok okL_ok _ _ _) Try.func72 T_board_placed_1_eq ha ho h
abbrev F_board_lists : FuncId := 73
/- zeitnot/board.lists -/
def T_board_lists (v : List Value) : Tree :=
 .newbox fun r0 =>
 .chk (.ptr [] (g v 0)) <|
 .chk (.ptr [] (g v 0)) <|
 .chk (.ptr [] (g v 0)) <|
 .chk (.ptr [] (g v 0)) <|
 .chk (.ptr [] (g v 0)) <|
 .chk (.ptr [] (g v 0)) <|
 .chk (.ptr [] (g v 0)) <|
 .chk (.ptr [] (g v 0)) <|
 .chk (.eqN r0 r0) <|
 .chk (.eqN r0 r0) <|
 .ret (.agg #[(ptrAdd (g v 0) 5),(ptrAdd (g v 0) 6),(ptrAdd (g v 0) 7),(ptrAdd (g v 0) 8)]) []
theorem T_board_lists_eq (vs : List Value) : sxFun PP Try.f73 (mkOpts okL [(73, [5, 6, 7, 8])] [] []) vs = T_board_lists vs := by kernel_rfl
theorem run_board_lists {args vs} (ha : entryArgs PP Try.f73 args = some vs) (ho : Ones vs) {H O Q} (h : (T_board_lists vs).den PP Q H O) : Triple PP F_board_lists args H O Q :=
 triple_run mixed (mkOpts_ok okL_ok _ _ _) Try.func73 T_board_lists_eq ha ho h
abbrev F_object_Valid : FuncId := 74
/- zeitnot/object.Valid -/
def T_object_Valid (v : List Value) : Tree :=
 .newbox fun r0 =>
 .chk (.eqN r0 r0) <|
 .chk (.eqN r0 r0) <|
 .chk (.eqN r0 r0) <|
 .chk (.eqN r0 r0) <|
 .chk (.eqN r0 r0) <|
 .chk (.eqN r0 r0) <|
 .loop 16 2 [(.int .i64 0)] fun C16 l0 =>
 .pure [] (.bin .lss .int) [g l0 0,(.int .i64 6)] fun v1 =>
 .br v1 (
 .pure [] .aidx [g l0 0,g v 3,g v 4,g v 5,g v 6,g v 7,g v 8] fun v2 =>
 .pure [] (.bin .lss .int) [v2,(.int .i64 0)] fun v3 =>
 .chk (.eqV v3 v3) <|
 .pure [] (.bin .gtr .int) [v2,(.int .i64 99)] fun v4 =>
 .chk (.eqV v3 v3) <|
 .pure [] .pick [v3,(.bool true),v4] fun v5 =>
 .br v5 (
 .ret (.bool false) []) (
 .pure [] (.bin .add .int) [g l0 0,(.int .i64 1)] fun v6 =>
 .cont 16 C16 [v6] [E [(.pointer (some ⟨r0,0,none⟩))],E [g v 3,g v 4,g v 5,g v 6,g v 7,g v 8],E [(.pointer (some ⟨r0,0,none⟩)),g v 0,g v 1,g v 2,g v 3,g v 4,g v 5,g v 6,g v 7,g v 8,g v 9,g v 10,g v 11]])) (
 .chk (.eqN r0 r0) <|
 .pure [] (.bin .eql .int) [g v 1,(.int .i64 (-1))] fun v7 =>
 .chk (.eqN r0 r0) <|
 .chk (.eqV v7 v7) <|
 .chk (.eqV v7 v7) <|
 .pure [] (.bin .eql .int) [g v 3,(.int .i64 0)] fun v8 =>
 .chk (.eqV v7 v7) <|
 .chk (.eqN r0 r0) <|
 .chk (.eqV v8 v8) <|
 .chk (.eqV v7 v7) <|
 .chk (.eqV v8 v8) <|
 .chk (.eqV v7 v7) <|
 .pure [] (.bin .eql .int) [g v 4,(.int .i64 0)] fun v9 =>
 .chk (.eqV v7 v7) <|
 .chk (.eqV v8 v8) <|
 .chk (.eqV v7 v7) <|
 .pure [] .pick [v8,v9,(.bool false)] fun v10 =>
 .chk (.eqV v7 v7) <|
 .pure [] .pick [v7,(.bool true),v10] fun v11 =>
 .chk (.eqN r0 r0) <|
 .chk (.eqV v11 v11) <|
 .chk (.eqV v11 v11) <|
 .pure [] (.bin .geq .int) [g v 0,(.int .i64 1)] fun v12 =>
 .chk (.eqV v11 v11) <|
 .pure [] .pick [v11,v12,(.bool false)] fun v13 =>
 .chk (.eqN r0 r0) <|
 .chk (.eqV v13 v13) <|
 .chk (.eqV v13 v13) <|
 .pure [] (.bin .leq .int) [g v 0,(.int .i64 500)] fun v14 =>
 .chk (.eqV v13 v13) <|
 .pure [] .pick [v13,v14,(.bool false)] fun v15 =>
 .chk (.eqN r0 r0) <|
 .chk (.eqV v15 v15) <|
 .chk (.eqV v15 v15) <|
 .pure [] (.bin .geq .int) [g v 1,(.int .i64 (-1))] fun v16 =>
 .chk (.eqV v15 v15) <|
 .pure [] .pick [v15,v16,(.bool false)] fun v17 =>
 .chk (.eqN r0 r0) <|
 .chk (.eqV v17 v17) <|
 .chk (.eqV v17 v17) <|
 .pure [] (.bin .lss .int) [g v 1,(.int .i64 400)] fun v18 =>
 .chk (.eqV v17 v17) <|
 .pure [] .pick [v17,v18,(.bool false)] fun v19 =>
 .chk (.eqN r0 r0) <|
 .chk (.eqV v19 v19) <|
 .chk (.eqV v19 v19) <|
 .pure [] (.bin .eql .int) [g v 2,(.int .i64 0)] fun v20 =>
 .chk (.eqV v19 v19) <|
 .chk (.eqN r0 r0) <|
 .chk (.eqV v20 v20) <|
 .chk (.eqV v19 v19) <|
 .chk (.eqV v20 v20) <|
 .chk (.eqV v19 v19) <|
 .pure [] (.bin .eql .int) [g v 2,(.int .i64 1)] fun v21 =>
 .chk (.eqV v19 v19) <|
 .chk (.eqV v20 v20) <|
 .chk (.eqV v19 v19) <|
 .pure [] .pick [v20,(.bool true),v21] fun v22 =>
 .chk (.eqV v19 v19) <|
 .pure [] .pick [v19,v22,(.bool false)] fun v23 =>
 .ret v23 [])
theorem T_object_Valid_eq (vs : List Value) : sxFun PP Try.f74 (mkOpts okL [(73, [5, 6, 7, 8])] [(2, .inv [19] [1, 18] [(1, [])])] []) vs = T_object_Valid vs := by kernel_rfl
theorem run_object_Valid {args vs} (ha : entryArgs PP Try.f74 args = some vs) (ho : Ones vs) {H O Q} (h : (T_object_Valid vs).den PP Q H O) : Triple PP F_object_Valid args H O Q :=
 triple_run mixed (mkOpts_ok okL_ok _ _ _) Try.func74 T_object_Valid_eq ha ho h
abbrev F_slices_Contains_int_int : FuncId := 75
/- slices.Contains[[]int,int] -/
def T_slices_Contains_int_int (v : List Value) : Tree :=
 .call false 84 [g v 0,g v 1] [] [] .one fun l0 _ =>
 .pure [] (.bin .geq .int) [g l0 0,(.int .i64 0)] fun v1 =>
 .ret v1 []
theorem T_slices_Contains_int_int_eq (vs : List Value) : sxFun PP Try.f75 (mkOpts okL [(73, [5, 6, 7, 8])] [] []) vs = T_slices_Contains_int_int vs := by kernel_rfl
theorem run_slices_Contains_int_int {args vs} (ha : entryArgs PP Try.f75 args = some vs) (ho : Ones vs) {H O Q} (h : (T_slices_Contains_int_int vs).den PP Q H O) : Triple PP F_slices_Contains_int_int args H O Q :=
 triple_run mixed (mkOpts_ok okL_ok _ _ _) Try.func75 T_slices_Contains_int_int_eq ha ho h
abbrev F_object_Creature : FuncId := 79
/- zeitnot/object.Creature -/
def T_object_Creature (v : List Value) : Tree :=
 .newbox fun r0 =>
 .chk (.eqN r0 r0) <|
 .pure [] (.bin .eql .int) [g v 2,(.int .i64 (-1))] fun v0 =>
 .br v0 (
 .ret (.bool true) []) (
 .chk (.eqN r0 r0) <|
 .call false 95 [g v 0,(.agg #[g v 1,g v 2,g v 3,g v 4,g v 5,g v 6,g v 7,g v 8,g v 9,g v 10,g v 11,g v 12])] [] [] (.agg 14) fun l1 _ =>
 .pure [] (.bin .eql .int) [g l1 1,(.int .i64 2)] fun v2 =>
 .ret v2 [])
theorem T_object_Creature_eq (vs : List Value) : sxFun PP Try.f79 (mkOpts okL [(73, [5, 6, 7, 8])] [] []) vs = T_object_Creature vs := by kernel_rfl
theorem run_object_Creature {args vs} (ha : entryArgs PP Try.f79 args = some vs) (ho : Ones vs) {H O Q} (h : (T_object_Creature vs).den PP Q H O) : Triple PP F_object_Creature args H O Q :=
 triple_run mixed (mkOpts_ok okL_ok _ _ _) Try.func79 T_object_Creature_eq ha ho h
abbrev F_object_Card : FuncId := 80
/- zeitnot/object.Card -/
def T_object_Card (v : List Value) : Tree :=
 .newbox fun r0 =>
 .newbox fun r1 =>
 .chk (.eqN r0 r0) <|
 .call false 95 [g v 0,(.agg #[g v 1,g v 2,g v 3,g v 4,g v 5,g v 6,g v 7,g v 8,g v 9,g v 10,g v 11,g v 12])] [] [] (.agg 14) fun l0 _ =>
 .call false 96 [(.agg #[g l0 0,g l0 1,g l0 2,g l0 3,g l0 4,g l0 5,g l0 6,g l0 7,g l0 8,g l0 9,g l0 10,g l0 11,g l0 12,g l0 13])] [] [] (.agg 14) fun l1 _ =>
 .chk (.eqN r1 r1) <|
 .chk (.eqN r1 r1) <|
 .ret (.agg #[g l1 0,g l1 1,g l1 2,g l1 3,g l1 4,g l1 5,g l1 6,g l1 7,g l1 8,g l1 9,g l1 10,g l1 11,g l1 12,g l1 13]) []
theorem T_object_Card_eq (vs : List Value) : sxFun PP Try.f80 (mkOpts okL [(73, [5, 6, 7, 8])] [] []) vs = T_object_Card vs := by kernel_rfl
theorem run_object_Card {args vs} (ha : entryArgs PP Try.f80 args = some vs) (ho : Ones vs) {H O Q} (h : (T_object_Card vs).den PP Q H O) : Triple PP F_object_Card args H O Q :=
 triple_run mixed (mkOpts_ok okL_ok _ _ _) Try.func80 T_object_Card_eq ha ho h
abbrev F_effect_Targets : FuncId := 81
/- zeitnot/effect.Targets -/
def T_effect_Targets (v : List Value) : Tree :=
 .pure [] .len [g v 0] fun v0 =>
 .loop 5 3 [(.int .i64 0),(.int .i64 0)] fun C5 l1 =>
 .pure [] (.bin .lss .int) [g l1 1,v0] fun v2 =>
 .br v2 (
 .pure [] (.idx 5) [g v 0,g l1 1] fun v3 =>
 .load [] v3 5 fun l4 =>
 .newbox fun r0 =>
 .chk (.eqN r0 r0) <|
 .chk (.eqN r0 r0) <|
 .pure [] (.bin .neq .int) [g l4 1,(.int .i64 0)] fun v5 =>
 .br v5 (
 .pure [] (.bin .add .int) [g l1 0,(.int .i64 1)] fun v6 =>
 .pure [] (.bin .add .int) [g l1 1,(.int .i64 1)] fun v7 =>
 .cont 5 C5 [v6,v7] [E [g v 0],E [v0]]) (
 .pure [] (.bin .add .int) [g l1 1,(.int .i64 1)] fun v8 =>
 .cont 5 C5 [g l1 0,v8] [E [g v 0],E [v0]])) (
 .ret (g l1 0) [])
theorem T_effect_Targets_eq (vs : List Value) : sxFun PP Try.f81 (mkOpts okL [(73, [5, 6, 7, 8])] [(3, .inv [3, 8] [6, 7] [])] []) vs = T_effect_Targets vs := by kernel_rfl
theorem run_effect_Targets {args vs} (ha : entryArgs PP Try.f81 args = some vs) (ho : Ones vs) {H O Q} (h : (T_effect_Targets vs).den PP Q H O) : Triple PP F_effect_Targets args H O Q :=
 triple_run mixed (mkOpts_ok okL_ok _ _ _) Try.func81 T_effect_Targets_eq ha ho h
abbrev F_slices_IndexFunc_api_Target_api_Target : FuncId := 83
/- slices.IndexFunc[[]zeitnot/api.Target,zeitnot/api.Target] -/
def T_slices_IndexFunc_api_Target_api_Target (v : List Value) : Tree :=
 .pure [] .len [g v 0] fun v0 =>
 .loop 4 2 [(.int .i64 0)] fun C4 l1 =>
 .pure [] (.bin .lss .int) [g l1 0,v0] fun v2 =>
 .br v2 (
 .pure [] (.idx 2) [g v 0,g l1 0] fun v3 =>
 .load [] v3 2 fun l4 =>
 .callv false (g v 1) [(.agg #[g l4 0,g l4 1])] [] [] .one fun l5 _ =>
 .br (g l5 0) (
 .ret (g l1 0) []) (
 .pure [] (.bin .add .int) [g l1 0,(.int .i64 1)] fun v6 =>
 .cont 4 C4 [v6] [E [g v 0],E [g v 1],E [v0]])) (
 .ret (.int .i64 (-1)) [])
theorem T_slices_IndexFunc_api_Target_api_Target_eq (vs : List Value) : sxFun PP Try.f83 (mkOpts okL [(73, [5, 6, 7, 8])] [(2, .inv [8] [0, 1, 7] [])] []) vs = T_slices_IndexFunc_api_Target_api_Target vs := by kernel_rfl
theorem run_slices_IndexFunc_api_Target_api_Target {args vs} (ha : entryArgs PP Try.f83 args = some vs) (ho : Ones vs) {H O Q} (h : (T_slices_IndexFunc_api_Target_api_Target vs).den PP Q H O) : Triple PP F_slices_IndexFunc_api_Target_api_Target args H O Q :=
 triple_run mixed (mkOpts_ok okL_ok _ _ _) Try.func83 T_slices_IndexFunc_api_Target_api_Target_eq ha ho h
abbrev F_slices_Index_int_int : FuncId := 84
/- slices.Index[[]int,int] -/
def T_slices_Index_int_int (v : List Value) : Tree :=
 .pure [] .len [g v 0] fun v0 =>
 .loop 4 2 [(.int .i64 0)] fun C4 l1 =>
 .pure [] (.bin .lss .int) [g l1 0,v0] fun v2 =>
 .br v2 (
 .pure [] (.idx 1) [g v 0,g l1 0] fun v3 =>
 .load [] v3 1 fun l4 =>
 .pure [] (.bin .eql .int) [g v 1,g l4 0] fun v5 =>
 .br v5 (
 .ret (g l1 0) []) (
 .pure [] (.bin .add .int) [g l1 0,(.int .i64 1)] fun v6 =>
 .cont 4 C4 [v6] [E [g v 0],E [g v 1],E [v0]])) (
 .ret (.int .i64 (-1)) [])
theorem T_slices_Index_int_int_eq (vs : List Value) : sxFun PP Try.f84 (mkOpts okL [(73, [5, 6, 7, 8])] [(2, .inv [8] [0, 1, 7] [])] []) vs = T_slices_Index_int_int vs := by kernel_rfl
theorem run_slices_Index_int_int {args vs} (ha : entryArgs PP Try.f84 args = some vs) (ho : Ones vs) {H O Q} (h : (T_slices_Index_int_int vs).den PP Q H O) : Triple PP F_slices_Index_int_int args H O Q :=
 triple_run mixed (mkOpts_ok okL_ok _ _ _) Try.func84 T_slices_Index_int_int_eq ha ho h
abbrev F_object_look : FuncId := 95
/- zeitnot/object.look -/
def T_object_look (v : List Value) : Tree :=
 .newbox fun r0 =>
 .newbox fun r1 =>
 .chk (.eqN r0 r0) <|
 .pure [] (.bin .lss .int) [g v 2,(.int .i64 0)] fun v0 =>
 .chk (.eqN r0 r0) <|
 .chk (.eqV v0 v0) <|
 .chk (.eqV v0 v0) <|
 .pure [] .len [g v 0] fun v1 =>
 .chk (.eqV v0 v0) <|
 .chk (.eqV v0 v0) <|
 .pure [] (.bin .geq .int) [g v 2,v1] fun v2 =>
 .chk (.eqV v0 v0) <|
 .pure [] .pick [v0,(.bool true),v2] fun v3 =>
 .br v3 (
 .chk (.eqN r1 r1) <|
 .chk (.eqN r1 r1) <|
 .ret (.agg #[(.string ⟨#[]⟩),(.int .i64 0),(.int .i64 0),(.int .i64 0),(.int .i64 0),(.int .i64 0),(.int .i64 0),(.int .i64 0),(.int .i64 0),(.int .i64 0),(.int .i64 0),(.slice none 0 0),(.slice none 0 0),(.int .i64 0)]) []) (
 .chk (.eqN r0 r0) <|
 .pure [] (.idx 14) [g v 0,g v 2] fun v4 =>
 .load [] v4 14 fun l5 =>
 .chk (.eqN r1 r1) <|
 .chk (.eqN r1 r1) <|
 .ret (.agg #[g l5 0,g l5 1,g l5 2,g l5 3,g l5 4,g l5 5,g l5 6,g l5 7,g l5 8,g l5 9,g l5 10,g l5 11,g l5 12,g l5 13]) [])
theorem T_object_look_eq (vs : List Value) : sxFun PP Try.f95 (mkOpts okL [(73, [5, 6, 7, 8])] [] []) vs = T_object_look vs := by kernel_rfl
theorem run_object_look {args vs} (ha : entryArgs PP Try.f95 args = some vs) (ho : Ones vs) {H O Q} (h : (T_object_look vs).den PP Q H O) : Triple PP F_object_look args H O Q :=
 triple_run mixed (mkOpts_ok okL_ok _ _ _) Try.func95 T_object_look_eq ha ho h
abbrev F_card_Copy : FuncId := 96
/- zeitnot/card.Copy -/
def T_card_Copy (v : List Value) : Tree :=
 .newbox fun r0 =>
 .newbox fun r1 =>
 .chk (.eqN r0 r0) <|
 .chk (.eqN r0 r0) <|
 .call false 102 [g v 11] [] [] .one fun l0 _ =>
 .call false 103 [g v 12] [] [] .one fun l1 _ =>
 .chk (.eqN r0 r0) <|
 .chk (.eqN r0 r0) <|
 .chk (.eqN r0 r0) <|
 .pure [] .len [g l1 0] fun v2 =>
 .loop 16 3 [(.int .i64 0)] fun C16 l3 =>
 .pure [] (.bin .lss .int) [g l3 0,v2] fun v4 =>
 .br v4 (
 .pure [] (.idx 2) [g l1 0,g l3 0] fun v5 =>
 .load [] v5 2 fun l6 =>
 .newbox fun r2 =>
 .chk (.eqN r2 r2) <|
 .chk (.eqN r0 r0) <|
 .chk (.eqN r2 r2) <|
 .call false 102 [g l6 1] [] [] .one fun l7 _ =>
 .pure [] (.idx 2) [g l1 0,g l3 0] fun v8 =>
 .chk (.ptr [] v8) <|
 .chk (.ptr [] (ptrAdd v8 1)) <|
 .store (ptrAdd v8 1) [g l7 0] <|
 .pure [] (.bin .add .int) [g l3 0,(.int .i64 1)] fun v9 =>
 .cont 16 C16 [v9] [E [(.pointer (some ⟨r0,0,none⟩))],E [(.pointer (some ⟨r1,0,none⟩))],E [g l1 0],E [v2],E [(.pointer (some ⟨r0,0,none⟩)),g v 0,g v 1,g v 2,g v 3,g v 4,g v 5,g v 6,g v 7,g v 8,g v 9,g v 10,g l0 0,g l1 0,g v 13],E [(.pointer (some ⟨r1,0,none⟩)),(.string ⟨#[]⟩),(.int .i64 0),(.int .i64 0),(.int .i64 0),(.int .i64 0),(.int .i64 0),(.int .i64 0),(.int .i64 0),(.int .i64 0),(.int .i64 0),(.int .i64 0),(.slice none 0 0),(.slice none 0 0),(.int .i64 0)]]) (
 .chk (.eqN r0 r0) <|
 .chk (.eqN r1 r1) <|
 .chk (.eqN r1 r1) <|
 .ret (.agg #[g v 0,g v 1,g v 2,g v 3,g v 4,g v 5,g v 6,g v 7,g v 8,g v 9,g v 10,g l0 0,g l1 0,g v 13]) [])
theorem T_card_Copy_eq (vs : List Value) : sxFun PP Try.f96 (mkOpts okL [(73, [5, 6, 7, 8])] [(3, .inv [16] [1, 2, 14, 15] [(1, []), (2, [])])] []) vs = T_card_Copy vs := by kernel_rfl
theorem run_card_Copy {args vs} (ha : entryArgs PP Try.f96 args = some vs) (ho : Ones vs) {H O Q} (h : (T_card_Copy vs).den PP Q H O) : Triple PP F_card_Copy args H O Q :=
 triple_run mixed (mkOpts_ok okL_ok _ _ _) Try.func96 T_card_Copy_eq ha ho h
abbrev F_slices_Clone_api_Effect_api_Effect : FuncId := 102
/- slices.Clone[[]zeitnot/api.Effect,zeitnot/api.Effect] -/
def T_slices_Clone_api_Effect_api_Effect (v : List Value) : Tree :=
 .pure [] (.bin .eql .slice) [g v 0,(.slice none 0 0)] fun v0 =>
 .br v0 (
 .ret (.slice none 0 0) []) (
 .newbox fun r0 =>
 .prim (.bi .append #[35,35] 35) [(.slice (some ⟨r0,0,none⟩) 0 0),g v 0] [⟨r0,53,[]⟩] [] .one fun l1 _ =>
 .ret (g l1 0) [])
theorem T_slices_Clone_api_Effect_api_Effect_eq (vs : List Value) : sxFun PP Try.f102 (mkOpts okL [(73, [5, 6, 7, 8])] [] []) vs = T_slices_Clone_api_Effect_api_Effect vs := by kernel_rfl
theorem run_slices_Clone_api_Effect_api_Effect {args vs} (ha : entryArgs PP Try.f102 args = some vs) (ho : Ones vs) {H O Q} (h : (T_slices_Clone_api_Effect_api_Effect vs).den PP Q H O) : Triple PP F_slices_Clone_api_Effect_api_Effect args H O Q :=
 triple_run mixed (mkOpts_ok okL_ok _ _ _) Try.func102 T_slices_Clone_api_Effect_api_Effect_eq ha ho h
abbrev F_slices_Clone_api_Trigger_api_Trigger : FuncId := 103
/- slices.Clone[[]zeitnot/api.Trigger,zeitnot/api.Trigger] -/
def T_slices_Clone_api_Trigger_api_Trigger (v : List Value) : Tree :=
 .pure [] (.bin .eql .slice) [g v 0,(.slice none 0 0)] fun v0 =>
 .br v0 (
 .ret (.slice none 0 0) []) (
 .newbox fun r0 =>
 .prim (.bi .append #[48,48] 48) [(.slice (some ⟨r0,0,none⟩) 0 0),g v 0] [⟨r0,76,[]⟩] [] .one fun l1 _ =>
 .ret (g l1 0) [])
theorem T_slices_Clone_api_Trigger_api_Trigger_eq (vs : List Value) : sxFun PP Try.f103 (mkOpts okL [(73, [5, 6, 7, 8])] [] []) vs = T_slices_Clone_api_Trigger_api_Trigger vs := by kernel_rfl
theorem run_slices_Clone_api_Trigger_api_Trigger {args vs} (ha : entryArgs PP Try.f103 args = some vs) (ho : Ones vs) {H O Q} (h : (T_slices_Clone_api_Trigger_api_Trigger vs).den PP Q H O) : Triple PP F_slices_Clone_api_Trigger_api_Trigger args H O Q :=
 triple_run mixed (mkOpts_ok okL_ok _ _ _) Try.func103 T_slices_Clone_api_Trigger_api_Trigger_eq ha ho h
end Go.Proofs.Ytbaegnnmedjkmaa
